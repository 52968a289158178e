/- Contracts of the functions over the abstract machine, part 1. No condition. -/
import Derived.Test.YtdbglcndfmdlfaaGreatL
import Derived.Test.YtdbglcndfmdlfaaGreatTy
namespace Go.Proofs.YtdbglcndfmdlfaaGreat
open Go.Vm Go.Mo
set_option maxHeartbeats 1000000
set_option maxRecDepth 100000
set_option linter.unusedSimpArgs false
set_option linter.unusedVariables false
theorem mixed : Tryz.prog.follows .mixedOrders = true := by kernel_rfl
theorem l_szKeyS_ok (a0 : List TKey) (a1 : Int) : SoundAt Tryz.prog 65 false [[.sl 5 (a0.map TKey.row)], [.int .i64 a1]] [[.int .i64 (l_szKeyS a0 a1)]] := by
 refine sound_of Tryz.func65 rfl (by kernel_rfl) ?_
 simp [Tryz.ntmps65]
 refine cC (decide ((W (a1 - (↑a0.length : Int))) < 0)) (fun k1 h1 => ?_) (fun k1 h1 => ?_)
 ·have q1 := h1; try simp at q1
  simp
  refine retRd (rv := [.tmp 4]) rfl ?_
  have f1 := l_szKeyS.eq_1 a0 a1; simp only [h1, cond_t, cond_f] at f1; simp [f1]
 ·have q1 := h1; try simp at q1
  simp
  refine retRd (rv := [.tmp 4]) rfl ?_
  have f2 := l_szKeyS.eq_1 a0 a1; simp only [h1, cond_t, cond_f] at f2; simp [f2]
theorem l_szAuthorityS_ok (a0 : List TAuthority) (a1 : Int) : SoundAt Tryz.prog 66 false [[.sl 3 (a0.map TAuthority.row)], [.int .i64 a1]] [[.int .i64 (l_szAuthorityS a0 a1)]] := by
 refine sound_of Tryz.func66 rfl (by kernel_rfl) ?_
 simp [Tryz.ntmps66]
 refine cC (decide ((W (a1 - (↑a0.length : Int))) < 0)) (fun k1 h1 => ?_) (fun k1 h1 => ?_)
 ·have q1 := h1; try simp at q1
  simp
  refine retRd (rv := [.tmp 4]) rfl ?_
  have f1 := l_szAuthorityS.eq_1 a0 a1; simp only [h1, cond_t, cond_f] at f1; simp [f1]
 ·have q1 := h1; try simp at q1
  simp
  refine retRd (rv := [.tmp 4]) rfl ?_
  have f2 := l_szAuthorityS.eq_1 a0 a1; simp only [h1, cond_t, cond_f] at f2; simp [f2]
theorem l_szMethodS_ok (a0 : List TMethod) (a1 : Int) : SoundAt Tryz.prog 67 false [[.sl 4 (a0.map TMethod.row)], [.int .i64 a1]] [[.int .i64 (l_szMethodS a0 a1)]] := by
 refine sound_of Tryz.func67 rfl (by kernel_rfl) ?_
 simp [Tryz.ntmps67]
 refine cC (decide ((W (a1 - (↑a0.length : Int))) < 0)) (fun k1 h1 => ?_) (fun k1 h1 => ?_)
 ·have q1 := h1; try simp at q1
  simp
  refine retRd (rv := [.tmp 4]) rfl ?_
  have f1 := l_szMethodS.eq_1 a0 a1; simp only [h1, cond_t, cond_f] at f1; simp [f1]
 ·have q1 := h1; try simp at q1
  simp
  refine retRd (rv := [.tmp 4]) rfl ?_
  have f2 := l_szMethodS.eq_1 a0 a1; simp only [h1, cond_t, cond_f] at f2; simp [f2]
theorem l_szFrame_ok (a0 : TFrame) (a1 : Int) : SoundAt Tryz.prog 20 false [a0.row, [.int .i64 a1]] [[.int .i64 (l_szFrame a0 a1)]] := by
 refine sound_of Tryz.func20 rfl (by kernel_rfl) ?_
 simp [Tryz.ntmps20]
 refine cR (l_szKeyS_ok a0.Keys a1) ?_
 simp
 refine cC (decide ((l_szKeyS a0.Keys a1) < 0)) (fun k1 h1 => ?_) (fun k1 h1 => ?_)
 ·have q1 := h1; try simp at q1
  simp
  refine retRd (rv := [.tmp 4]) rfl ?_
  have f1 := l_szFrame.eq_1 a0 a1; simp only [h1, cond_t, cond_f] at f1; simp [f1]
 ·have q1 := h1; try simp at q1
  simp
  refine cR (l_szAuthorityS_ok a0.Authorities (l_szKeyS a0.Keys a1)) ?_
  simp
  refine cC (decide ((l_szAuthorityS a0.Authorities (l_szKeyS a0.Keys a1)) < 0)) (fun k2 h2 => ?_) (fun k2 h2 => ?_)
  ·have q2 := h2; try simp at q2
   simp
   refine retRd (rv := [.tmp 4]) rfl ?_
   have f2 := l_szFrame.eq_1 a0 a1; simp only [h1, h2, cond_t, cond_f] at f2; simp [f2]
  ·have q2 := h2; try simp at q2
   simp
   refine cR (l_szMethodS_ok a0.Methods (l_szAuthorityS a0.Authorities (l_szKeyS a0.Keys a1))) ?_
   simp
   refine cC (decide ((l_szMethodS a0.Methods (l_szAuthorityS a0.Authorities (l_szKeyS a0.Keys a1))) < 0)) (fun k3 h3 => ?_) (fun k3 h3 => ?_)
   ·have q3 := h3; try simp at q3
    simp
    refine retRd (rv := [.tmp 4]) rfl ?_
    have f3 := l_szFrame.eq_1 a0 a1; simp only [h1, h2, h3, cond_t, cond_f] at f3; simp [f3]
   ·have q3 := h3; try simp at q3
    simp
    refine retRd (rv := [.tmp 4]) rfl ?_
    have f4 := l_szFrame.eq_1 a0 a1; simp only [h1, h2, h3, cond_t, cond_f] at f4; simp [f4]
theorem l_szCertS_ok (a0 : List TCert) (a1 : Int) : SoundAt Tryz.prog 21 false [[.sl 7 (a0.map TCert.row)], [.int .i64 a1]] [[.int .i64 (l_szCertS a0 a1)]] := by
 refine sound_of Tryz.func21 rfl (by kernel_rfl) ?_
 simp [Tryz.ntmps21]
 refine cC (decide ((W (a1 - (↑a0.length : Int))) < 0)) (fun k1 h1 => ?_) (fun k1 h1 => ?_)
 ·have q1 := h1; try simp at q1
  simp
  refine retRd (rv := [.tmp 4]) rfl ?_
  have f1 := l_szCertS.eq_1 a0 a1; simp only [h1, cond_t, cond_f] at f1; simp [f1]
 ·have q1 := h1; try simp at q1
  simp
  refine retRd (rv := [.tmp 4]) rfl ?_
  have f2 := l_szCertS.eq_1 a0 a1; simp only [h1, cond_t, cond_f] at f2; simp [f2]
theorem l_szIntS_ok (a0 : List Int) (a1 : Int) : SoundAt Tryz.prog 22 false [[.sl 1 (a0.map iR)], [.int .i64 a1]] [[.int .i64 (l_szIntS a0 a1)]] := by
 refine sound_of Tryz.func22 rfl (by kernel_rfl) ?_
 simp [Tryz.ntmps22]
 refine cC (decide ((W (a1 - (↑a0.length : Int))) < 0)) (fun k1 h1 => ?_) (fun k1 h1 => ?_)
 ·have q1 := h1; try simp at q1
  simp
  refine retRd (rv := [.tmp 4]) rfl ?_
  have f1 := l_szIntS.eq_1 a0 a1; simp only [h1, cond_t, cond_f] at f1; simp [f1]
 ·have q1 := h1; try simp at q1
  simp
  refine retRd (rv := [.tmp 4]) rfl ?_
  have f2 := l_szIntS.eq_1 a0 a1; simp only [h1, cond_t, cond_f] at f2; simp [f2]
theorem l_szStringS_ok (a0 : List ByteArray) (a1 : Int) : SoundAt Tryz.prog 211 false [[.sl 1 (a0.map sR)], [.int .i64 a1]] [[.int .i64 (l_szStringS a0 a1)]] := by
 refine sound_of Tryz.func211 rfl (by kernel_rfl) ?_
 simp [Tryz.ntmps211]
 refine cC (decide ((W (a1 - (↑a0.length : Int))) < 0)) (fun k1 h1 => ?_) (fun k1 h1 => ?_)
 ·have q1 := h1; try simp at q1
  simp
  refine retRd (rv := [.tmp 4]) rfl ?_
  have f1 := l_szStringS.eq_1 a0 a1; simp only [h1, cond_t, cond_f] at f1; simp [f1]
 ·have q1 := h1; try simp at q1
  simp
  refine okL fun k2 => ?_
  refine loopI (ι := { s : Nat × Int × Nat // l_szStringS_1 a0 s.1 s.2.1 s.2.2 = l_szStringS_1 a0 (a0.length + 1) (W (a1 - (↑a0.length : Int))) 0 ∧ (1 ≤ s.1 ∧ a0.length < s.1 + s.2.2 ∧ s.2.2 ≤ a0.length) }) (fun s => stOf 28 [eL 0 1 a0 sR, eI 1 s.1.2.1, eI 5 (↑s.1.2.2 : Int)]) (fun s => s.1.1) ⟨((a0.length + 1), (W (a1 - (↑a0.length : Int))), 0), rfl, by first | omega | (dsimp only; omega) | simp⟩ (wk_keep (by simp)) ?_
  rintro ⟨⟨n1, v1_0, v1_1⟩, e1, j1⟩
  try dsimp only at e1 j1
  obtain ⟨p1, rfl⟩ : ∃ p, n1 = p + 1 := ⟨n1 - 1, by omega⟩
  simp
  refine cC (decide ((↑v1_1 : Int) < (↑a0.length : Int))) (fun k3 h2 => ?_) (fun k3 h2 => ?_)
  ·have q2 := h2; try simp at q2
   have i1 : v1_1 < a0.length := by simpa using h2
   have m2 : a0.length ≤ 9223372036854775807 := by simpa using k3 0 _ rfl
   have w1 : IntKind.i64.wrap ((v1_1 : Int) + 1) = (v1_1 : Int) + 1 := wrap_of (by omega) (by omega)
   simp [i1, rowAt_map]
   repeat with_reducible refine sd ?_
   refine cC (decide ((W (v1_0 - (↑(nth a0 v1_1).size : Int))) < 0)) (fun k4 h3 => ?_) (fun k4 h3 => ?_)
   ·have q3 := h3; try simp at q3
    have x1 : l_szStringS_1 a0 (a0.length + 1) (W (a1 - (↑a0.length : Int))) 0 = .inl (-1) := by rw [← e1]; simp only [l_szStringS_1, h2, h3, cond_t, cond_f]
    simp
    refine retRd (rv := [.tmp 4]) rfl ?_
    have f2 := l_szStringS.eq_1 a0 a1; simp only [h1, x1, cond_t, cond_f] at f2; simp [f2]
   ·have q3 := h3; try simp at q3
    simp
    refine nxtI ⟨(p1, (W (v1_0 - (↑(nth a0 v1_1).size : Int))), (v1_1 + 1)), ?_, ?_⟩ (by simp) (wk_keep (by simp [w1]))
    · rw [← e1]; simp only [l_szStringS_1, h2, h3, cond_t, cond_f]
    · first | omega | (simp at *; omega)
  ·have q2 := h2; try simp at q2
   have x2 : l_szStringS_1 a0 (a0.length + 1) (W (a1 - (↑a0.length : Int))) 0 = .inr v1_0 := by rw [← e1]; simp only [l_szStringS_1, h2, cond_t, cond_f]
   simp
   refine retRd (rv := [.tmp 4]) rfl ?_
   have f3 := l_szStringS.eq_1 a0 a1; simp only [h1, x2, cond_t, cond_f] at f3; simp [f3]
theorem l_szDocument_ok (a0 : TDocument) (a1 : Int) : SoundAt Tryz.prog 190 false [a0.row, [.int .i64 a1]] [[.int .i64 (l_szDocument a0 a1)]] := by
 refine sound_of Tryz.func190 rfl (by kernel_rfl) ?_
 simp [Tryz.ntmps190]
 refine cR (l_szStringS_ok a0.Parts a1) ?_
 simp
 refine cC (decide ((l_szStringS a0.Parts a1) < 0)) (fun k1 h1 => ?_) (fun k1 h1 => ?_)
 ·have q1 := h1; try simp at q1
  simp
  refine retRd (rv := [.tmp 4]) rfl ?_
  have f1 := l_szDocument.eq_1 a0 a1; simp only [h1, cond_t, cond_f] at f1; simp [f1]
 ·have q1 := h1; try simp at q1
  simp
  refine cR (l_szIntS_ok a0.Salts (l_szStringS a0.Parts a1)) ?_
  simp
  refine cC (decide ((l_szIntS a0.Salts (l_szStringS a0.Parts a1)) < 0)) (fun k2 h2 => ?_) (fun k2 h2 => ?_)
  ·have q2 := h2; try simp at q2
   simp
   refine retRd (rv := [.tmp 4]) rfl ?_
   have f2 := l_szDocument.eq_1 a0 a1; simp only [h1, h2, cond_t, cond_f] at f2; simp [f2]
  ·have q2 := h2; try simp at q2
   simp
   refine retRd (rv := [.tmp 4]) rfl ?_
   have f3 := l_szDocument.eq_1 a0 a1; simp only [h1, h2, cond_t, cond_f] at f3; simp [f3]
theorem l_szPiece_ok (a0 : TPiece) (a1 : Int) : SoundAt Tryz.prog 229 false [a0.row, [.int .i64 a1]] [[.int .i64 (l_szPiece a0 a1)]] := by
 refine sound_of Tryz.func229 rfl (by kernel_rfl) ?_
 simp [Tryz.ntmps229]
 refine cR (l_szIntS_ok a0.Ints a1) ?_
 simp
 refine cC (decide ((l_szIntS a0.Ints a1) < 0)) (fun k1 h1 => ?_) (fun k1 h1 => ?_)
 ·have q1 := h1; try simp at q1
  simp
  refine retRd (rv := [.tmp 4]) rfl ?_
  have f1 := l_szPiece.eq_1 a0 a1; simp only [h1, cond_t, cond_f] at f1; simp [f1]
 ·have q1 := h1; try simp at q1
  simp
  refine retRd (rv := [.tmp 4]) rfl ?_
  have f2 := l_szPiece.eq_1 a0 a1; simp only [h1, cond_t, cond_f] at f2; simp [f2]
theorem l_szPieceS_ok (a0 : List TPiece) (a1 : Int) : SoundAt Tryz.prog 212 false [[.sl 3 (a0.map TPiece.row)], [.int .i64 a1]] [[.int .i64 (l_szPieceS a0 a1)]] := by
 refine sound_of Tryz.func212 rfl (by kernel_rfl) ?_
 simp [Tryz.ntmps212]
 refine cC (decide ((W (a1 - (↑a0.length : Int))) < 0)) (fun k1 h1 => ?_) (fun k1 h1 => ?_)
 ·have q1 := h1; try simp at q1
  simp
  refine retRd (rv := [.tmp 4]) rfl ?_
  have f1 := l_szPieceS.eq_1 a0 a1; simp only [h1, cond_t, cond_f] at f1; simp [f1]
 ·have q1 := h1; try simp at q1
  simp
  refine okL fun k2 => ?_
  refine loopI (ι := { s : Nat × Int × Nat // l_szPieceS_1 a0 s.1 s.2.1 s.2.2 = l_szPieceS_1 a0 (a0.length + 1) (W (a1 - (↑a0.length : Int))) 0 ∧ (1 ≤ s.1 ∧ a0.length < s.1 + s.2.2 ∧ s.2.2 ≤ a0.length) }) (fun s => stOf 27 [eL 0 3 a0 TPiece.row, eI 1 s.1.2.1, eI 5 (↑s.1.2.2 : Int)]) (fun s => s.1.1) ⟨((a0.length + 1), (W (a1 - (↑a0.length : Int))), 0), rfl, by first | omega | (dsimp only; omega) | simp⟩ (wk_keep (by simp)) ?_
  rintro ⟨⟨n1, v1_0, v1_1⟩, e1, j1⟩
  try dsimp only at e1 j1
  obtain ⟨p1, rfl⟩ : ∃ p, n1 = p + 1 := ⟨n1 - 1, by omega⟩
  simp
  refine cC (decide ((↑v1_1 : Int) < (↑a0.length : Int))) (fun k3 h2 => ?_) (fun k3 h2 => ?_)
  ·have q2 := h2; try simp at q2
   have i1 : v1_1 < a0.length := by simpa using h2
   have m2 : a0.length ≤ 9223372036854775807 := by simpa using k3 0 _ rfl
   have w1 : IntKind.i64.wrap ((v1_1 : Int) + 1) = (v1_1 : Int) + 1 := wrap_of (by omega) (by omega)
   simp [i1, rowAt_map]
   repeat with_reducible refine sd ?_
   refine cR (l_szPiece_ok (nth a0 v1_1) v1_0) ?_
   simp
   refine cC (decide ((l_szPiece (nth a0 v1_1) v1_0) < 0)) (fun k4 h3 => ?_) (fun k4 h3 => ?_)
   ·have q3 := h3; try simp at q3
    have x1 : l_szPieceS_1 a0 (a0.length + 1) (W (a1 - (↑a0.length : Int))) 0 = .inl (-1) := by rw [← e1]; simp only [l_szPieceS_1, h2, h3, cond_t, cond_f]
    simp
    refine retRd (rv := [.tmp 4]) rfl ?_
    have f2 := l_szPieceS.eq_1 a0 a1; simp only [h1, x1, cond_t, cond_f] at f2; simp [f2]
   ·have q3 := h3; try simp at q3
    simp
    refine nxtI ⟨(p1, (l_szPiece (nth a0 v1_1) v1_0), (v1_1 + 1)), ?_, ?_⟩ (by simp) (wk_keep (by simp [w1]))
    · rw [← e1]; simp only [l_szPieceS_1, h2, h3, cond_t, cond_f]
    · first | omega | (simp at *; omega)
  ·have q2 := h2; try simp at q2
   have x2 : l_szPieceS_1 a0 (a0.length + 1) (W (a1 - (↑a0.length : Int))) 0 = .inr v1_0 := by rw [← e1]; simp only [l_szPieceS_1, h2, cond_t, cond_f]
   simp
   refine retRd (rv := [.tmp 4]) rfl ?_
   have f3 := l_szPieceS.eq_1 a0 a1; simp only [h1, x2, cond_t, cond_f] at f3; simp [f3]
theorem l_szStepS_ok (a0 : List TStep) (a1 : Int) : SoundAt Tryz.prog 238 false [[.sl 2 (a0.map TStep.row)], [.int .i64 a1]] [[.int .i64 (l_szStepS a0 a1)]] := by
 refine sound_of Tryz.func238 rfl (by kernel_rfl) ?_
 simp [Tryz.ntmps238]
 refine cC (decide ((W (a1 - (↑a0.length : Int))) < 0)) (fun k1 h1 => ?_) (fun k1 h1 => ?_)
 ·have q1 := h1; try simp at q1
  simp
  refine retRd (rv := [.tmp 4]) rfl ?_
  have f1 := l_szStepS.eq_1 a0 a1; simp only [h1, cond_t, cond_f] at f1; simp [f1]
 ·have q1 := h1; try simp at q1
  simp
  refine retRd (rv := [.tmp 4]) rfl ?_
  have f2 := l_szStepS.eq_1 a0 a1; simp only [h1, cond_t, cond_f] at f2; simp [f2]
theorem l_szStampS_ok (a0 : List TStamp) (a1 : Int) : SoundAt Tryz.prog 239 false [[.sl 5 (a0.map TStamp.row)], [.int .i64 a1]] [[.int .i64 (l_szStampS a0 a1)]] := by
 refine sound_of Tryz.func239 rfl (by kernel_rfl) ?_
 simp [Tryz.ntmps239]
 refine cC (decide ((W (a1 - (↑a0.length : Int))) < 0)) (fun k1 h1 => ?_) (fun k1 h1 => ?_)
 ·have q1 := h1; try simp at q1
  simp
  refine retRd (rv := [.tmp 4]) rfl ?_
  have f1 := l_szStampS.eq_1 a0 a1; simp only [h1, cond_t, cond_f] at f1; simp [f1]
 ·have q1 := h1; try simp at q1
  simp
  refine retRd (rv := [.tmp 4]) rfl ?_
  have f2 := l_szStampS.eq_1 a0 a1; simp only [h1, cond_t, cond_f] at f2; simp [f2]
theorem l_szRenewal_ok (a0 : TRenewal) (a1 : Int) : SoundAt Tryz.prog 230 false [a0.row, [.int .i64 a1]] [[.int .i64 (l_szRenewal a0 a1)]] := by
 refine sound_of Tryz.func230 rfl (by kernel_rfl) ?_
 simp [Tryz.ntmps230]
 refine cR (l_szStepS_ok a0.Path a1) ?_
 simp
 refine cC (decide ((l_szStepS a0.Path a1) < 0)) (fun k1 h1 => ?_) (fun k1 h1 => ?_)
 ·have q1 := h1; try simp at q1
  simp
  refine retRd (rv := [.tmp 4]) rfl ?_
  have f1 := l_szRenewal.eq_1 a0 a1; simp only [h1, cond_t, cond_f] at f1; simp [f1]
 ·have q1 := h1; try simp at q1
  simp
  refine cR (l_szStampS_ok a0.Stamps (l_szStepS a0.Path a1)) ?_
  simp
  refine cC (decide ((l_szStampS a0.Stamps (l_szStepS a0.Path a1)) < 0)) (fun k2 h2 => ?_) (fun k2 h2 => ?_)
  ·have q2 := h2; try simp at q2
   simp
   refine retRd (rv := [.tmp 4]) rfl ?_
   have f2 := l_szRenewal.eq_1 a0 a1; simp only [h1, h2, cond_t, cond_f] at f2; simp [f2]
  ·have q2 := h2; try simp at q2
   simp
   refine retRd (rv := [.tmp 4]) rfl ?_
   have f3 := l_szRenewal.eq_1 a0 a1; simp only [h1, h2, cond_t, cond_f] at f3; simp [f3]
theorem l_szRenewalS_ok (a0 : List TRenewal) (a1 : Int) : SoundAt Tryz.prog 213 false [[.sl 5 (a0.map TRenewal.row)], [.int .i64 a1]] [[.int .i64 (l_szRenewalS a0 a1)]] := by
 refine sound_of Tryz.func213 rfl (by kernel_rfl) ?_
 simp [Tryz.ntmps213]
 refine cC (decide ((W (a1 - (↑a0.length : Int))) < 0)) (fun k1 h1 => ?_) (fun k1 h1 => ?_)
 ·have q1 := h1; try simp at q1
  simp
  refine retRd (rv := [.tmp 4]) rfl ?_
  have f1 := l_szRenewalS.eq_1 a0 a1; simp only [h1, cond_t, cond_f] at f1; simp [f1]
 ·have q1 := h1; try simp at q1
  simp
  refine okL fun k2 => ?_
  refine loopI (ι := { s : Nat × Int × Nat // l_szRenewalS_1 a0 s.1 s.2.1 s.2.2 = l_szRenewalS_1 a0 (a0.length + 1) (W (a1 - (↑a0.length : Int))) 0 ∧ (1 ≤ s.1 ∧ a0.length < s.1 + s.2.2 ∧ s.2.2 ≤ a0.length) }) (fun s => stOf 27 [eL 0 5 a0 TRenewal.row, eI 1 s.1.2.1, eI 5 (↑s.1.2.2 : Int)]) (fun s => s.1.1) ⟨((a0.length + 1), (W (a1 - (↑a0.length : Int))), 0), rfl, by first | omega | (dsimp only; omega) | simp⟩ (wk_keep (by simp)) ?_
  rintro ⟨⟨n1, v1_0, v1_1⟩, e1, j1⟩
  try dsimp only at e1 j1
  obtain ⟨p1, rfl⟩ : ∃ p, n1 = p + 1 := ⟨n1 - 1, by omega⟩
  simp
  refine cC (decide ((↑v1_1 : Int) < (↑a0.length : Int))) (fun k3 h2 => ?_) (fun k3 h2 => ?_)
  ·have q2 := h2; try simp at q2
   have i1 : v1_1 < a0.length := by simpa using h2
   have m2 : a0.length ≤ 9223372036854775807 := by simpa using k3 0 _ rfl
   have w1 : IntKind.i64.wrap ((v1_1 : Int) + 1) = (v1_1 : Int) + 1 := wrap_of (by omega) (by omega)
   simp [i1, rowAt_map]
   repeat with_reducible refine sd ?_
   refine cR (l_szRenewal_ok (nth a0 v1_1) v1_0) ?_
   simp
   refine cC (decide ((l_szRenewal (nth a0 v1_1) v1_0) < 0)) (fun k4 h3 => ?_) (fun k4 h3 => ?_)
   ·have q3 := h3; try simp at q3
    have x1 : l_szRenewalS_1 a0 (a0.length + 1) (W (a1 - (↑a0.length : Int))) 0 = .inl (-1) := by rw [← e1]; simp only [l_szRenewalS_1, h2, h3, cond_t, cond_f]
    simp
    refine retRd (rv := [.tmp 4]) rfl ?_
    have f2 := l_szRenewalS.eq_1 a0 a1; simp only [h1, x1, cond_t, cond_f] at f2; simp [f2]
   ·have q3 := h3; try simp at q3
    simp
    refine nxtI ⟨(p1, (l_szRenewal (nth a0 v1_1) v1_0), (v1_1 + 1)), ?_, ?_⟩ (by simp) (wk_keep (by simp [w1]))
    · rw [← e1]; simp only [l_szRenewalS_1, h2, h3, cond_t, cond_f]
    · first | omega | (simp at *; omega)
  ·have q2 := h2; try simp at q2
   have x2 : l_szRenewalS_1 a0 (a0.length + 1) (W (a1 - (↑a0.length : Int))) 0 = .inr v1_0 := by rw [← e1]; simp only [l_szRenewalS_1, h2, cond_t, cond_f]
   simp
   refine retRd (rv := [.tmp 4]) rfl ?_
   have f3 := l_szRenewalS.eq_1 a0 a1; simp only [h1, x2, cond_t, cond_f] at f3; simp [f3]
theorem l_szStrand_ok (a0 : TStrand) (a1 : Int) : SoundAt Tryz.prog 191 false [a0.row, [.int .i64 a1]] [[.int .i64 (l_szStrand a0 a1)]] := by
 refine sound_of Tryz.func191 rfl (by kernel_rfl) ?_
 simp [Tryz.ntmps191]
 refine cR (l_szPieceS_ok a0.Pieces a1) ?_
 simp
 refine cC (decide ((l_szPieceS a0.Pieces a1) < 0)) (fun k1 h1 => ?_) (fun k1 h1 => ?_)
 ·have q1 := h1; try simp at q1
  simp
  refine retRd (rv := [.tmp 4]) rfl ?_
  have f1 := l_szStrand.eq_1 a0 a1; simp only [h1, cond_t, cond_f] at f1; simp [f1]
 ·have q1 := h1; try simp at q1
  simp
  refine cR (l_szRenewalS_ok a0.Chain (l_szPieceS a0.Pieces a1)) ?_
  simp
  refine cC (decide ((l_szRenewalS a0.Chain (l_szPieceS a0.Pieces a1)) < 0)) (fun k2 h2 => ?_) (fun k2 h2 => ?_)
  ·have q2 := h2; try simp at q2
   simp
   refine retRd (rv := [.tmp 4]) rfl ?_
   have f2 := l_szStrand.eq_1 a0 a1; simp only [h1, h2, cond_t, cond_f] at f2; simp [f2]
  ·have q2 := h2; try simp at q2
   simp
   refine retRd (rv := [.tmp 4]) rfl ?_
   have f3 := l_szStrand.eq_1 a0 a1; simp only [h1, h2, cond_t, cond_f] at f3; simp [f3]
theorem l_szItem_ok (a0 : TItem) (a1 : Int) : SoundAt Tryz.prog 164 false [a0.row, [.int .i64 a1]] [[.int .i64 (l_szItem a0 a1)]] := by
 refine sound_of Tryz.func164 rfl (by kernel_rfl) ?_
 simp [Tryz.ntmps164]
 refine cR (l_szDocument_ok a0.Doc a1) ?_
 simp
 refine cC (decide ((l_szDocument a0.Doc a1) < 0)) (fun k1 h1 => ?_) (fun k1 h1 => ?_)
 ·have q1 := h1; try simp at q1
  simp
  refine retRd (rv := [.tmp 4]) rfl ?_
  have f1 := l_szItem.eq_1 a0 a1; simp only [h1, cond_t, cond_f] at f1; simp [f1]
 ·have q1 := h1; try simp at q1
  simp
  refine cR (l_szStrand_ok a0.Strand (l_szDocument a0.Doc a1)) ?_
  simp
  refine cC (decide ((l_szStrand a0.Strand (l_szDocument a0.Doc a1)) < 0)) (fun k2 h2 => ?_) (fun k2 h2 => ?_)
  ·have q2 := h2; try simp at q2
   simp
   refine retRd (rv := [.tmp 4]) rfl ?_
   have f2 := l_szItem.eq_1 a0 a1; simp only [h1, h2, cond_t, cond_f] at f2; simp [f2]
  ·have q2 := h2; try simp at q2
   simp
   refine retRd (rv := [.tmp 4]) rfl ?_
   have f3 := l_szItem.eq_1 a0 a1; simp only [h1, h2, cond_t, cond_f] at f3; simp [f3]
theorem l_szItemS_ok (a0 : List TItem) (a1 : Int) : SoundAt Tryz.prog 121 false [[.sl 16 (a0.map TItem.row)], [.int .i64 a1]] [[.int .i64 (l_szItemS a0 a1)]] := by
 refine sound_of Tryz.func121 rfl (by kernel_rfl) ?_
 simp [Tryz.ntmps121]
 refine cC (decide ((W (a1 - (↑a0.length : Int))) < 0)) (fun k1 h1 => ?_) (fun k1 h1 => ?_)
 ·have q1 := h1; try simp at q1
  simp
  refine retRd (rv := [.tmp 4]) rfl ?_
  have f1 := l_szItemS.eq_1 a0 a1; simp only [h1, cond_t, cond_f] at f1; simp [f1]
 ·have q1 := h1; try simp at q1
  simp
  refine okL fun k2 => ?_
  refine loopI (ι := { s : Nat × Int × Nat // l_szItemS_1 a0 s.1 s.2.1 s.2.2 = l_szItemS_1 a0 (a0.length + 1) (W (a1 - (↑a0.length : Int))) 0 ∧ (1 ≤ s.1 ∧ a0.length < s.1 + s.2.2 ∧ s.2.2 ≤ a0.length) }) (fun s => stOf 27 [eL 0 16 a0 TItem.row, eI 1 s.1.2.1, eI 5 (↑s.1.2.2 : Int)]) (fun s => s.1.1) ⟨((a0.length + 1), (W (a1 - (↑a0.length : Int))), 0), rfl, by first | omega | (dsimp only; omega) | simp⟩ (wk_keep (by simp)) ?_
  rintro ⟨⟨n1, v1_0, v1_1⟩, e1, j1⟩
  try dsimp only at e1 j1
  obtain ⟨p1, rfl⟩ : ∃ p, n1 = p + 1 := ⟨n1 - 1, by omega⟩
  simp
  refine cC (decide ((↑v1_1 : Int) < (↑a0.length : Int))) (fun k3 h2 => ?_) (fun k3 h2 => ?_)
  ·have q2 := h2; try simp at q2
   have i1 : v1_1 < a0.length := by simpa using h2
   have m2 : a0.length ≤ 9223372036854775807 := by simpa using k3 0 _ rfl
   have w1 : IntKind.i64.wrap ((v1_1 : Int) + 1) = (v1_1 : Int) + 1 := wrap_of (by omega) (by omega)
   simp [i1, rowAt_map]
   repeat with_reducible refine sd ?_
   refine cR (l_szItem_ok (nth a0 v1_1) v1_0) ?_
   simp
   refine cC (decide ((l_szItem (nth a0 v1_1) v1_0) < 0)) (fun k4 h3 => ?_) (fun k4 h3 => ?_)
   ·have q3 := h3; try simp at q3
    have x1 : l_szItemS_1 a0 (a0.length + 1) (W (a1 - (↑a0.length : Int))) 0 = .inl (-1) := by rw [← e1]; simp only [l_szItemS_1, h2, h3, cond_t, cond_f]
    simp
    refine retRd (rv := [.tmp 4]) rfl ?_
    have f2 := l_szItemS.eq_1 a0 a1; simp only [h1, x1, cond_t, cond_f] at f2; simp [f2]
   ·have q3 := h3; try simp at q3
    simp
    refine nxtI ⟨(p1, (l_szItem (nth a0 v1_1) v1_0), (v1_1 + 1)), ?_, ?_⟩ (by simp) (wk_keep (by simp [w1]))
    · rw [← e1]; simp only [l_szItemS_1, h2, h3, cond_t, cond_f]
    · first | omega | (simp at *; omega)
  ·have q2 := h2; try simp at q2
   have x2 : l_szItemS_1 a0 (a0.length + 1) (W (a1 - (↑a0.length : Int))) 0 = .inr v1_0 := by rw [← e1]; simp only [l_szItemS_1, h2, cond_t, cond_f]
   simp
   refine retRd (rv := [.tmp 4]) rfl ?_
   have f3 := l_szItemS.eq_1 a0 a1; simp only [h1, x2, cond_t, cond_f] at f3; simp [f3]
theorem l_szArchive_ok (a0 : TArchive) (a1 : Int) : SoundAt Tryz.prog 68 false [a0.row, [.int .i64 a1]] [[.int .i64 (l_szArchive a0 a1)]] := by
 refine sound_of Tryz.func68 rfl (by kernel_rfl) ?_
 simp [Tryz.ntmps68]
 refine cR (l_szItemS_ok a0.Items a1) ?_
 simp
 refine cC (decide ((l_szItemS a0.Items a1) < 0)) (fun k1 h1 => ?_) (fun k1 h1 => ?_)
 ·have q1 := h1; try simp at q1
  simp
  refine retRd (rv := [.tmp 4]) rfl ?_
  have f1 := l_szArchive.eq_1 a0 a1; simp only [h1, cond_t, cond_f] at f1; simp [f1]
 ·have q1 := h1; try simp at q1
  simp
  refine retRd (rv := [.tmp 4]) rfl ?_
  have f2 := l_szArchive.eq_1 a0 a1; simp only [h1, cond_t, cond_f] at f2; simp [f2]
theorem l_szArchiveS_ok (a0 : List TArchive) (a1 : Int) : SoundAt Tryz.prog 23 false [[.sl 2 (a0.map TArchive.row)], [.int .i64 a1]] [[.int .i64 (l_szArchiveS a0 a1)]] := by
 refine sound_of Tryz.func23 rfl (by kernel_rfl) ?_
 simp [Tryz.ntmps23]
 refine cC (decide ((W (a1 - (↑a0.length : Int))) < 0)) (fun k1 h1 => ?_) (fun k1 h1 => ?_)
 ·have q1 := h1; try simp at q1
  simp
  refine retRd (rv := [.tmp 4]) rfl ?_
  have f1 := l_szArchiveS.eq_1 a0 a1; simp only [h1, cond_t, cond_f] at f1; simp [f1]
 ·have q1 := h1; try simp at q1
  simp
  refine okL fun k2 => ?_
  refine loopI (ι := { s : Nat × Int × Nat // l_szArchiveS_1 a0 s.1 s.2.1 s.2.2 = l_szArchiveS_1 a0 (a0.length + 1) (W (a1 - (↑a0.length : Int))) 0 ∧ (1 ≤ s.1 ∧ a0.length < s.1 + s.2.2 ∧ s.2.2 ≤ a0.length) }) (fun s => stOf 27 [eL 0 2 a0 TArchive.row, eI 1 s.1.2.1, eI 5 (↑s.1.2.2 : Int)]) (fun s => s.1.1) ⟨((a0.length + 1), (W (a1 - (↑a0.length : Int))), 0), rfl, by first | omega | (dsimp only; omega) | simp⟩ (wk_keep (by simp)) ?_
  rintro ⟨⟨n1, v1_0, v1_1⟩, e1, j1⟩
  try dsimp only at e1 j1
  obtain ⟨p1, rfl⟩ : ∃ p, n1 = p + 1 := ⟨n1 - 1, by omega⟩
  simp
  refine cC (decide ((↑v1_1 : Int) < (↑a0.length : Int))) (fun k3 h2 => ?_) (fun k3 h2 => ?_)
  ·have q2 := h2; try simp at q2
   have i1 : v1_1 < a0.length := by simpa using h2
   have m2 : a0.length ≤ 9223372036854775807 := by simpa using k3 0 _ rfl
   have w1 : IntKind.i64.wrap ((v1_1 : Int) + 1) = (v1_1 : Int) + 1 := wrap_of (by omega) (by omega)
   simp [i1, rowAt_map]
   repeat with_reducible refine sd ?_
   refine cR (l_szArchive_ok (nth a0 v1_1) v1_0) ?_
   simp
   refine cC (decide ((l_szArchive (nth a0 v1_1) v1_0) < 0)) (fun k4 h3 => ?_) (fun k4 h3 => ?_)
   ·have q3 := h3; try simp at q3
    have x1 : l_szArchiveS_1 a0 (a0.length + 1) (W (a1 - (↑a0.length : Int))) 0 = .inl (-1) := by rw [← e1]; simp only [l_szArchiveS_1, h2, h3, cond_t, cond_f]
    simp
    refine retRd (rv := [.tmp 4]) rfl ?_
    have f2 := l_szArchiveS.eq_1 a0 a1; simp only [h1, x1, cond_t, cond_f] at f2; simp [f2]
   ·have q3 := h3; try simp at q3
    simp
    refine nxtI ⟨(p1, (l_szArchive (nth a0 v1_1) v1_0), (v1_1 + 1)), ?_, ?_⟩ (by simp) (wk_keep (by simp [w1]))
    · rw [← e1]; simp only [l_szArchiveS_1, h2, h3, cond_t, cond_f]
    · first | omega | (simp at *; omega)
  ·have q2 := h2; try simp at q2
   have x2 : l_szArchiveS_1 a0 (a0.length + 1) (W (a1 - (↑a0.length : Int))) 0 = .inr v1_0 := by rw [← e1]; simp only [l_szArchiveS_1, h2, cond_t, cond_f]
   simp
   refine retRd (rv := [.tmp 4]) rfl ?_
   have f3 := l_szArchiveS.eq_1 a0 a1; simp only [h1, x2, cond_t, cond_f] at f3; simp [f3]
theorem l_szWorld_ok (a0 : TWorld) (a1 : Int) : SoundAt Tryz.prog 6 false [a0.row, [.int .i64 a1]] [[.int .i64 (l_szWorld a0 a1)]] := by
 refine sound_of Tryz.func6 rfl (by kernel_rfl) ?_
 simp [Tryz.ntmps6]
 refine cR (l_szFrame_ok a0.Frame a1) ?_
 simp
 refine cC (decide ((l_szFrame a0.Frame a1) < 0)) (fun k1 h1 => ?_) (fun k1 h1 => ?_)
 ·have q1 := h1; try simp at q1
  simp
  refine retRd (rv := [.tmp 4]) rfl ?_
  have f1 := l_szWorld.eq_1 a0 a1; simp only [h1, cond_t, cond_f] at f1; simp [f1]
 ·have q1 := h1; try simp at q1
  simp
  refine cR (l_szCertS_ok a0.Certs (l_szFrame a0.Frame a1)) ?_
  simp
  refine cC (decide ((l_szCertS a0.Certs (l_szFrame a0.Frame a1)) < 0)) (fun k2 h2 => ?_) (fun k2 h2 => ?_)
  ·have q2 := h2; try simp at q2
   simp
   refine retRd (rv := [.tmp 4]) rfl ?_
   have f2 := l_szWorld.eq_1 a0 a1; simp only [h1, h2, cond_t, cond_f] at f2; simp [f2]
  ·have q2 := h2; try simp at q2
   simp
   refine cR (l_szIntS_ok a0.Ended (l_szCertS a0.Certs (l_szFrame a0.Frame a1))) ?_
   simp
   refine cC (decide ((l_szIntS a0.Ended (l_szCertS a0.Certs (l_szFrame a0.Frame a1))) < 0)) (fun k3 h3 => ?_) (fun k3 h3 => ?_)
   ·have q3 := h3; try simp at q3
    simp
    refine retRd (rv := [.tmp 4]) rfl ?_
    have f3 := l_szWorld.eq_1 a0 a1; simp only [h1, h2, h3, cond_t, cond_f] at f3; simp [f3]
   ·have q3 := h3; try simp at q3
    simp
    refine cR (l_szArchiveS_ok a0.Archives (l_szIntS a0.Ended (l_szCertS a0.Certs (l_szFrame a0.Frame a1)))) ?_
    simp
    refine cC (decide ((l_szArchiveS a0.Archives (l_szIntS a0.Ended (l_szCertS a0.Certs (l_szFrame a0.Frame a1)))) < 0)) (fun k4 h4 => ?_) (fun k4 h4 => ?_)
    ·have q4 := h4; try simp at q4
     simp
     refine retRd (rv := [.tmp 4]) rfl ?_
     have f4 := l_szWorld.eq_1 a0 a1; simp only [h1, h2, h3, h4, cond_t, cond_f] at f4; simp [f4]
    ·have q4 := h4; try simp at q4
     simp
     refine cR (l_szIntS_ok a0.Seqs (l_szArchiveS a0.Archives (l_szIntS a0.Ended (l_szCertS a0.Certs (l_szFrame a0.Frame a1))))) ?_
     simp
     refine cC (decide ((l_szIntS a0.Seqs (l_szArchiveS a0.Archives (l_szIntS a0.Ended (l_szCertS a0.Certs (l_szFrame a0.Frame a1))))) < 0)) (fun k5 h5 => ?_) (fun k5 h5 => ?_)
     ·have q5 := h5; try simp at q5
      simp
      refine retRd (rv := [.tmp 4]) rfl ?_
      have f5 := l_szWorld.eq_1 a0 a1; simp only [h1, h2, h3, h4, h5, cond_t, cond_f] at f5; simp [f5]
     ·have q5 := h5; try simp at q5
      simp
      refine cR (l_szIntS_ok a0.Lying (l_szIntS a0.Seqs (l_szArchiveS a0.Archives (l_szIntS a0.Ended (l_szCertS a0.Certs (l_szFrame a0.Frame a1)))))) ?_
      simp
      refine cC (decide ((l_szIntS a0.Lying (l_szIntS a0.Seqs (l_szArchiveS a0.Archives (l_szIntS a0.Ended (l_szCertS a0.Certs (l_szFrame a0.Frame a1)))))) < 0)) (fun k6 h6 => ?_) (fun k6 h6 => ?_)
      ·have q6 := h6; try simp at q6
       simp
       refine retRd (rv := [.tmp 4]) rfl ?_
       have f6 := l_szWorld.eq_1 a0 a1; simp only [h1, h2, h3, h4, h5, h6, cond_t, cond_f] at f6; simp [f6]
      ·have q6 := h6; try simp at q6
       simp
       refine cR (l_szIntS_ok a0.Forged (l_szIntS a0.Lying (l_szIntS a0.Seqs (l_szArchiveS a0.Archives (l_szIntS a0.Ended (l_szCertS a0.Certs (l_szFrame a0.Frame a1))))))) ?_
       simp
       refine cC (decide ((l_szIntS a0.Forged (l_szIntS a0.Lying (l_szIntS a0.Seqs (l_szArchiveS a0.Archives (l_szIntS a0.Ended (l_szCertS a0.Certs (l_szFrame a0.Frame a1))))))) < 0)) (fun k7 h7 => ?_) (fun k7 h7 => ?_)
       ·have q7 := h7; try simp at q7
        simp
        refine retRd (rv := [.tmp 4]) rfl ?_
        have f7 := l_szWorld.eq_1 a0 a1; simp only [h1, h2, h3, h4, h5, h6, h7, cond_t, cond_f] at f7; simp [f7]
       ·have q7 := h7; try simp at q7
        simp
        refine retRd (rv := [.tmp 4]) rfl ?_
        have f8 := l_szWorld.eq_1 a0 a1; simp only [h1, h2, h3, h4, h5, h6, h7, cond_t, cond_f] at f8; simp [f8]
theorem l_toKey_ok (a0 : TKey) : SoundAt Tryz.prog 123 false [a0.row] [(l_toKey a0).row] := by
 refine sound_of Tryz.func123 rfl (by kernel_rfl) ?_
 simp [Tryz.ntmps123]
 refine retRd (rv := [.cell 2 152]) rfl ?_
 have f1 := l_toKey.eq_1 a0; simp [f1]
theorem l_toKey_okI (a0 : TKey) : SoundAt Tryz.prog 123 false [a0.row] [a0.row] := by
  have h := l_toKey_ok a0
  rwa [l_toKey_id] at h
theorem l_toKeyS_ok (a0 : List TKey) (u0 : Sm 2338816 a0) : SoundD Tryz.prog 72 [[.sl 5 (a0.map TKey.row)]] [[.sl 5 ((l_toKeyS a0).map TKey.row)]] := by
 refine sound_ofD Tryz.func72 rfl (by kernel_rfl) ?_
 have c1 : a0.length ≤ 2338816 := sm_len (by simp (maxDischargeDepth := 12) [u0])
 simp [Tryz.ntmps72]
 repeat with_reducible refine sd ?_
 refine okL fun k1 => ?_
 refine loopI (ι := { s : Nat × Nat × (List TKey) // l_toKeyS_1 a0 s.1 s.2.1 s.2.2 = l_toKeyS_1 a0 (a0.length + 1) 0 (List.replicate a0.length (TKey.mk 0 0 0 0 0)) ∧ (1 ≤ s.1 ∧ a0.length < s.1 + s.2.1 ∧ s.2.1 ≤ a0.length ∧ s.2.2.length = a0.length) }) (fun s => stOf 23 [eL 0 5 a0 TKey.row, (3, .one (.sref 7 0 0 s.1.2.2.length), []), eI 4 (↑s.1.2.1 : Int), (7, .any, [.arr false 5 (s.1.2.2.map TKey.row)])]) (fun s => s.1.1) ⟨((a0.length + 1), 0, (List.replicate a0.length (TKey.mk 0 0 0 0 0))), rfl, by first | omega | (dsimp only; omega) | simp⟩ (wk_keep (by simp)) ?_
 rintro ⟨⟨n1, v1_0, v1_1⟩, e1, j1⟩
 try dsimp only at e1 j1
 obtain ⟨p1, rfl⟩ : ∃ p, n1 = p + 1 := ⟨n1 - 1, by omega⟩
 simp
 refine cC (decide ((↑v1_0 : Int) < (↑a0.length : Int))) (fun k2 h1 => ?_) (fun k2 h1 => ?_)
 ·have q1 := h1; try simp at q1
  have i1 : v1_0 < a0.length := by simpa using h1
  have m2 : a0.length ≤ 9223372036854775807 := by simpa using k2 0 _ rfl
  have w1 : IntKind.i64.wrap ((v1_0 : Int) + 1) = (v1_0 : Int) + 1 := wrap_of (by omega) (by omega)
  simp [i1, rowAt_map]
  repeat with_reducible refine sd ?_
  refine cR (l_toKey_okI (nth a0 v1_0)) ?_
  have i2 : v1_0 < v1_1.length := il
  simp [i2, rowAt_map, set_map (x := (nth a0 v1_0)) rfl]
  repeat with_reducible refine sd ?_
  refine nxtI ⟨(p1, (v1_0 + 1), (v1_1.set v1_0 (nth a0 v1_0))), ?_, ?_⟩ (by simp) (wk_keep (by simp [w1]))
  · rw [← e1]; simp only [l_toKeyS_1, h1, cond_t, cond_f]
  · first | omega | (simp at *; omega)
 ·have q1 := h1; try simp at q1
  have x1 : l_toKeyS_1 a0 (a0.length + 1) 0 (List.replicate a0.length (TKey.mk 0 0 0 0 0)) = v1_1 := by rw [← e1]; simp only [l_toKeyS_1, h1, cond_t, cond_f]
  simp
  refine retD (rv := [.tmp 2]) rfl ?_
  have f1 := l_toKeyS.eq_1 a0; simp only [x1, cond_t, cond_f] at f1; simp [f1]
theorem l_toKeyS_okI (a0 : List TKey) (u0 : Sm 2338816 a0) : SoundD Tryz.prog 72 [[.sl 5 (a0.map TKey.row)]] [[.sl 5 (a0.map TKey.row)]] := by
  have h := l_toKeyS_ok a0 u0
  rwa [l_toKeyS_id] at h
theorem l_toAuthority_ok (a0 : TAuthority) : SoundAt Tryz.prog 124 false [a0.row] [(l_toAuthority a0).row] := by
 refine sound_of Tryz.func124 rfl (by kernel_rfl) ?_
 simp [Tryz.ntmps124]
 refine retRd (rv := [.cell 2 146]) rfl ?_
 have f1 := l_toAuthority.eq_1 a0; simp [f1]
theorem l_toAuthority_okI (a0 : TAuthority) : SoundAt Tryz.prog 124 false [a0.row] [a0.row] := by
  have h := l_toAuthority_ok a0
  rwa [l_toAuthority_id] at h
theorem l_toAuthorityS_ok (a0 : List TAuthority) (u0 : Sm 2338816 a0) : SoundD Tryz.prog 73 [[.sl 3 (a0.map TAuthority.row)]] [[.sl 3 ((l_toAuthorityS a0).map TAuthority.row)]] := by
 refine sound_ofD Tryz.func73 rfl (by kernel_rfl) ?_
 have c1 : a0.length ≤ 2338816 := sm_len (by simp (maxDischargeDepth := 12) [u0])
 simp [Tryz.ntmps73]
 repeat with_reducible refine sd ?_
 refine okL fun k1 => ?_
 refine loopI (ι := { s : Nat × Nat × (List TAuthority) // l_toAuthorityS_1 a0 s.1 s.2.1 s.2.2 = l_toAuthorityS_1 a0 (a0.length + 1) 0 (List.replicate a0.length (TAuthority.mk 0 0 0)) ∧ (1 ≤ s.1 ∧ a0.length < s.1 + s.2.1 ∧ s.2.1 ≤ a0.length ∧ s.2.2.length = a0.length) }) (fun s => stOf 23 [eL 0 3 a0 TAuthority.row, (3, .one (.sref 7 0 0 s.1.2.2.length), []), eI 4 (↑s.1.2.1 : Int), (7, .any, [.arr false 3 (s.1.2.2.map TAuthority.row)])]) (fun s => s.1.1) ⟨((a0.length + 1), 0, (List.replicate a0.length (TAuthority.mk 0 0 0))), rfl, by first | omega | (dsimp only; omega) | simp⟩ (wk_keep (by simp)) ?_
 rintro ⟨⟨n1, v1_0, v1_1⟩, e1, j1⟩
 try dsimp only at e1 j1
 obtain ⟨p1, rfl⟩ : ∃ p, n1 = p + 1 := ⟨n1 - 1, by omega⟩
 simp
 refine cC (decide ((↑v1_0 : Int) < (↑a0.length : Int))) (fun k2 h1 => ?_) (fun k2 h1 => ?_)
 ·have q1 := h1; try simp at q1
  have i1 : v1_0 < a0.length := by simpa using h1
  have m2 : a0.length ≤ 9223372036854775807 := by simpa using k2 0 _ rfl
  have w1 : IntKind.i64.wrap ((v1_0 : Int) + 1) = (v1_0 : Int) + 1 := wrap_of (by omega) (by omega)
  simp [i1, rowAt_map]
  repeat with_reducible refine sd ?_
  refine cR (l_toAuthority_okI (nth a0 v1_0)) ?_
  have i2 : v1_0 < v1_1.length := il
  simp [i2, rowAt_map, set_map (x := (nth a0 v1_0)) rfl]
  repeat with_reducible refine sd ?_
  refine nxtI ⟨(p1, (v1_0 + 1), (v1_1.set v1_0 (nth a0 v1_0))), ?_, ?_⟩ (by simp) (wk_keep (by simp [w1]))
  · rw [← e1]; simp only [l_toAuthorityS_1, h1, cond_t, cond_f]
  · first | omega | (simp at *; omega)
 ·have q1 := h1; try simp at q1
  have x1 : l_toAuthorityS_1 a0 (a0.length + 1) 0 (List.replicate a0.length (TAuthority.mk 0 0 0)) = v1_1 := by rw [← e1]; simp only [l_toAuthorityS_1, h1, cond_t, cond_f]
  simp
  refine retD (rv := [.tmp 2]) rfl ?_
  have f1 := l_toAuthorityS.eq_1 a0; simp only [x1, cond_t, cond_f] at f1; simp [f1]
theorem l_toAuthorityS_okI (a0 : List TAuthority) (u0 : Sm 2338816 a0) : SoundD Tryz.prog 73 [[.sl 3 (a0.map TAuthority.row)]] [[.sl 3 (a0.map TAuthority.row)]] := by
  have h := l_toAuthorityS_ok a0 u0
  rwa [l_toAuthorityS_id] at h
theorem l_toMethod_ok (a0 : TMethod) : SoundAt Tryz.prog 125 false [a0.row] [(l_toMethod a0).row] := by
 refine sound_of Tryz.func125 rfl (by kernel_rfl) ?_
 simp [Tryz.ntmps125]
 refine retRd (rv := [.cell 2 144]) rfl ?_
 have f1 := l_toMethod.eq_1 a0; simp [f1]
theorem l_toMethod_okI (a0 : TMethod) : SoundAt Tryz.prog 125 false [a0.row] [a0.row] := by
  have h := l_toMethod_ok a0
  rwa [l_toMethod_id] at h
theorem l_toMethodS_ok (a0 : List TMethod) (u0 : Sm 2338816 a0) : SoundD Tryz.prog 74 [[.sl 4 (a0.map TMethod.row)]] [[.sl 4 ((l_toMethodS a0).map TMethod.row)]] := by
 refine sound_ofD Tryz.func74 rfl (by kernel_rfl) ?_
 have c1 : a0.length ≤ 2338816 := sm_len (by simp (maxDischargeDepth := 12) [u0])
 simp [Tryz.ntmps74]
 repeat with_reducible refine sd ?_
 refine okL fun k1 => ?_
 refine loopI (ι := { s : Nat × Nat × (List TMethod) // l_toMethodS_1 a0 s.1 s.2.1 s.2.2 = l_toMethodS_1 a0 (a0.length + 1) 0 (List.replicate a0.length (TMethod.mk 0 0 0 0)) ∧ (1 ≤ s.1 ∧ a0.length < s.1 + s.2.1 ∧ s.2.1 ≤ a0.length ∧ s.2.2.length = a0.length) }) (fun s => stOf 23 [eL 0 4 a0 TMethod.row, (3, .one (.sref 7 0 0 s.1.2.2.length), []), eI 4 (↑s.1.2.1 : Int), (7, .any, [.arr false 4 (s.1.2.2.map TMethod.row)])]) (fun s => s.1.1) ⟨((a0.length + 1), 0, (List.replicate a0.length (TMethod.mk 0 0 0 0))), rfl, by first | omega | (dsimp only; omega) | simp⟩ (wk_keep (by simp)) ?_
 rintro ⟨⟨n1, v1_0, v1_1⟩, e1, j1⟩
 try dsimp only at e1 j1
 obtain ⟨p1, rfl⟩ : ∃ p, n1 = p + 1 := ⟨n1 - 1, by omega⟩
 simp
 refine cC (decide ((↑v1_0 : Int) < (↑a0.length : Int))) (fun k2 h1 => ?_) (fun k2 h1 => ?_)
 ·have q1 := h1; try simp at q1
  have i1 : v1_0 < a0.length := by simpa using h1
  have m2 : a0.length ≤ 9223372036854775807 := by simpa using k2 0 _ rfl
  have w1 : IntKind.i64.wrap ((v1_0 : Int) + 1) = (v1_0 : Int) + 1 := wrap_of (by omega) (by omega)
  simp [i1, rowAt_map]
  repeat with_reducible refine sd ?_
  refine cR (l_toMethod_okI (nth a0 v1_0)) ?_
  have i2 : v1_0 < v1_1.length := il
  simp [i2, rowAt_map, set_map (x := (nth a0 v1_0)) rfl]
  repeat with_reducible refine sd ?_
  refine nxtI ⟨(p1, (v1_0 + 1), (v1_1.set v1_0 (nth a0 v1_0))), ?_, ?_⟩ (by simp) (wk_keep (by simp [w1]))
  · rw [← e1]; simp only [l_toMethodS_1, h1, cond_t, cond_f]
  · first | omega | (simp at *; omega)
 ·have q1 := h1; try simp at q1
  have x1 : l_toMethodS_1 a0 (a0.length + 1) 0 (List.replicate a0.length (TMethod.mk 0 0 0 0)) = v1_1 := by rw [← e1]; simp only [l_toMethodS_1, h1, cond_t, cond_f]
  simp
  refine retD (rv := [.tmp 2]) rfl ?_
  have f1 := l_toMethodS.eq_1 a0; simp only [x1, cond_t, cond_f] at f1; simp [f1]
theorem l_toMethodS_okI (a0 : List TMethod) (u0 : Sm 2338816 a0) : SoundD Tryz.prog 74 [[.sl 4 (a0.map TMethod.row)]] [[.sl 4 (a0.map TMethod.row)]] := by
  have h := l_toMethodS_ok a0 u0
  rwa [l_toMethodS_id] at h
theorem l_toFrame_ok (a0 : TFrame) (u0 : Sm 2334720 a0) : SoundD Tryz.prog 26 [a0.row] [(l_toFrame a0).row] := by
 refine sound_ofD Tryz.func26 rfl (by kernel_rfl) ?_
 simp [Tryz.ntmps26]
 refine cD [false] (l_toKeyS_okI a0.Keys (sg (TFrame.sm_Keys u0))) ?_
 simp
 refine cD [false] (l_toAuthorityS_okI a0.Authorities (sg (TFrame.sm_Authorities u0))) ?_
 simp
 refine cD [false] (l_toMethodS_okI a0.Methods (sg (TFrame.sm_Methods u0))) ?_
 simp
 refine retD (rv := [.cell 2 39]) rfl ?_
 have f1 := l_toFrame.eq_1 a0; simp [f1]
theorem l_toFrame_okI (a0 : TFrame) (u0 : Sm 2334720 a0) : SoundD Tryz.prog 26 [a0.row] [a0.row] := by
  have h := l_toFrame_ok a0 u0
  rwa [l_toFrame_id] at h
theorem l_toCert_ok (a0 : TCert) : SoundAt Tryz.prog 75 false [a0.row] [(l_toCert a0).row] := by
 refine sound_of Tryz.func75 rfl (by kernel_rfl) ?_
 simp [Tryz.ntmps75]
 refine retRd (rv := [.cell 2 125]) rfl ?_
 have f1 := l_toCert.eq_1 a0; simp [f1]
theorem l_toCert_okI (a0 : TCert) : SoundAt Tryz.prog 75 false [a0.row] [a0.row] := by
  have h := l_toCert_ok a0
  rwa [l_toCert_id] at h
theorem l_toCertS_ok (a0 : List TCert) (u0 : Sm 2338816 a0) : SoundD Tryz.prog 27 [[.sl 7 (a0.map TCert.row)]] [[.sl 7 ((l_toCertS a0).map TCert.row)]] := by
 refine sound_ofD Tryz.func27 rfl (by kernel_rfl) ?_
 have c1 : a0.length ≤ 2338816 := sm_len (by simp (maxDischargeDepth := 12) [u0])
 simp [Tryz.ntmps27]
 repeat with_reducible refine sd ?_
 refine okL fun k1 => ?_
 refine loopI (ι := { s : Nat × Nat × (List TCert) // l_toCertS_1 a0 s.1 s.2.1 s.2.2 = l_toCertS_1 a0 (a0.length + 1) 0 (List.replicate a0.length (TCert.mk 0 0 0 0 0 0 0)) ∧ (1 ≤ s.1 ∧ a0.length < s.1 + s.2.1 ∧ s.2.1 ≤ a0.length ∧ s.2.2.length = a0.length) }) (fun s => stOf 23 [eL 0 7 a0 TCert.row, (3, .one (.sref 7 0 0 s.1.2.2.length), []), eI 4 (↑s.1.2.1 : Int), (7, .any, [.arr false 7 (s.1.2.2.map TCert.row)])]) (fun s => s.1.1) ⟨((a0.length + 1), 0, (List.replicate a0.length (TCert.mk 0 0 0 0 0 0 0))), rfl, by first | omega | (dsimp only; omega) | simp⟩ (wk_keep (by simp)) ?_
 rintro ⟨⟨n1, v1_0, v1_1⟩, e1, j1⟩
 try dsimp only at e1 j1
 obtain ⟨p1, rfl⟩ : ∃ p, n1 = p + 1 := ⟨n1 - 1, by omega⟩
 simp
 refine cC (decide ((↑v1_0 : Int) < (↑a0.length : Int))) (fun k2 h1 => ?_) (fun k2 h1 => ?_)
 ·have q1 := h1; try simp at q1
  have i1 : v1_0 < a0.length := by simpa using h1
  have m2 : a0.length ≤ 9223372036854775807 := by simpa using k2 0 _ rfl
  have w1 : IntKind.i64.wrap ((v1_0 : Int) + 1) = (v1_0 : Int) + 1 := wrap_of (by omega) (by omega)
  simp [i1, rowAt_map]
  repeat with_reducible refine sd ?_
  refine cR (l_toCert_okI (nth a0 v1_0)) ?_
  have i2 : v1_0 < v1_1.length := il
  simp [i2, rowAt_map, set_map (x := (nth a0 v1_0)) rfl]
  repeat with_reducible refine sd ?_
  refine nxtI ⟨(p1, (v1_0 + 1), (v1_1.set v1_0 (nth a0 v1_0))), ?_, ?_⟩ (by simp) (wk_keep (by simp [w1]))
  · rw [← e1]; simp only [l_toCertS_1, h1, cond_t, cond_f]
  · first | omega | (simp at *; omega)
 ·have q1 := h1; try simp at q1
  have x1 : l_toCertS_1 a0 (a0.length + 1) 0 (List.replicate a0.length (TCert.mk 0 0 0 0 0 0 0)) = v1_1 := by rw [← e1]; simp only [l_toCertS_1, h1, cond_t, cond_f]
  simp
  refine retD (rv := [.tmp 2]) rfl ?_
  have f1 := l_toCertS.eq_1 a0; simp only [x1, cond_t, cond_f] at f1; simp [f1]
theorem l_toCertS_okI (a0 : List TCert) (u0 : Sm 2338816 a0) : SoundD Tryz.prog 27 [[.sl 7 (a0.map TCert.row)]] [[.sl 7 (a0.map TCert.row)]] := by
  have h := l_toCertS_ok a0 u0
  rwa [l_toCertS_id] at h
theorem l_toIntS_ok (a0 : List Int) (u0 : Sm 2342912 a0) : SoundD Tryz.prog 28 [[.sl 1 (a0.map iR)]] [[.sl 1 ((l_toIntS a0).map iR)]] := by
 refine sound_ofD Tryz.func28 rfl (by kernel_rfl) ?_
 have c1 : a0.length ≤ 2342912 := sm_len (by simp (maxDischargeDepth := 12) [u0])
 simp [Tryz.ntmps28]
 repeat with_reducible refine sd ?_
 refine okL fun k1 => ?_
 refine loopI (ι := { s : Nat × Nat × (List Int) // l_toIntS_1 a0 s.1 s.2.1 s.2.2 = l_toIntS_1 a0 (a0.length + 1) 0 (List.replicate a0.length 0) ∧ (1 ≤ s.1 ∧ a0.length < s.1 + s.2.1 ∧ s.2.1 ≤ a0.length ∧ s.2.2.length = a0.length) }) (fun s => stOf 22 [eL 0 1 a0 iR, (3, .one (.sref 7 0 0 s.1.2.2.length), []), eI 4 (↑s.1.2.1 : Int), (7, .any, [.arr false 1 (s.1.2.2.map iR)])]) (fun s => s.1.1) ⟨((a0.length + 1), 0, (List.replicate a0.length 0)), rfl, by first | omega | (dsimp only; omega) | simp⟩ (wk_keep (by simp)) ?_
 rintro ⟨⟨n1, v1_0, v1_1⟩, e1, j1⟩
 try dsimp only at e1 j1
 obtain ⟨p1, rfl⟩ : ∃ p, n1 = p + 1 := ⟨n1 - 1, by omega⟩
 simp
 refine cC (decide ((↑v1_0 : Int) < (↑a0.length : Int))) (fun k2 h1 => ?_) (fun k2 h1 => ?_)
 ·have q1 := h1; try simp at q1
  have i1 : v1_0 < a0.length := by simpa using h1
  have m2 : a0.length ≤ 9223372036854775807 := by simpa using k2 0 _ rfl
  have w1 : IntKind.i64.wrap ((v1_0 : Int) + 1) = (v1_0 : Int) + 1 := wrap_of (by omega) (by omega)
  have i2 : v1_0 < v1_1.length := il
  simp [i1, rowAt_map, i2, set_map (x := (nth a0 v1_0)) rfl]
  repeat with_reducible refine sd ?_
  refine nxtI ⟨(p1, (v1_0 + 1), (v1_1.set v1_0 (nth a0 v1_0))), ?_, ?_⟩ (by simp) (wk_keep (by simp [w1]))
  · rw [← e1]; simp only [l_toIntS_1, h1, cond_t, cond_f]
  · first | omega | (simp at *; omega)
 ·have q1 := h1; try simp at q1
  have x1 : l_toIntS_1 a0 (a0.length + 1) 0 (List.replicate a0.length 0) = v1_1 := by rw [← e1]; simp only [l_toIntS_1, h1, cond_t, cond_f]
  simp
  refine retD (rv := [.tmp 2]) rfl ?_
  have f1 := l_toIntS.eq_1 a0; simp only [x1, cond_t, cond_f] at f1; simp [f1]
theorem l_toIntS_okI (a0 : List Int) (u0 : Sm 2342912 a0) : SoundD Tryz.prog 28 [[.sl 1 (a0.map iR)]] [[.sl 1 (a0.map iR)]] := by
  have h := l_toIntS_ok a0 u0
  rwa [l_toIntS_id] at h
theorem l_toStringS_ok (a0 : List ByteArray) (u0 : Sm 2342912 a0) : SoundD Tryz.prog 214 [[.sl 1 (a0.map sR)]] [[.sl 1 ((l_toStringS a0).map sR)]] := by
 refine sound_ofD Tryz.func214 rfl (by kernel_rfl) ?_
 have c1 : a0.length ≤ 2342912 := sm_len (by simp (maxDischargeDepth := 12) [u0])
 simp [Tryz.ntmps214]
 repeat with_reducible refine sd ?_
 refine okL fun k1 => ?_
 refine loopI (ι := { s : Nat × Nat × (List ByteArray) // l_toStringS_1 a0 s.1 s.2.1 s.2.2 = l_toStringS_1 a0 (a0.length + 1) 0 (List.replicate a0.length (⟨#[]⟩ : ByteArray)) ∧ (1 ≤ s.1 ∧ a0.length < s.1 + s.2.1 ∧ s.2.1 ≤ a0.length ∧ s.2.2.length = a0.length) }) (fun s => stOf 22 [eL 0 1 a0 sR, (3, .one (.sref 7 0 0 s.1.2.2.length), []), eI 4 (↑s.1.2.1 : Int), (7, .any, [.arr false 1 (s.1.2.2.map sR)])]) (fun s => s.1.1) ⟨((a0.length + 1), 0, (List.replicate a0.length (⟨#[]⟩ : ByteArray))), rfl, by first | omega | (dsimp only; omega) | simp⟩ (wk_keep (by simp)) ?_
 rintro ⟨⟨n1, v1_0, v1_1⟩, e1, j1⟩
 try dsimp only at e1 j1
 obtain ⟨p1, rfl⟩ : ∃ p, n1 = p + 1 := ⟨n1 - 1, by omega⟩
 simp
 refine cC (decide ((↑v1_0 : Int) < (↑a0.length : Int))) (fun k2 h1 => ?_) (fun k2 h1 => ?_)
 ·have q1 := h1; try simp at q1
  have i1 : v1_0 < a0.length := by simpa using h1
  have m2 : a0.length ≤ 9223372036854775807 := by simpa using k2 0 _ rfl
  have w1 : IntKind.i64.wrap ((v1_0 : Int) + 1) = (v1_0 : Int) + 1 := wrap_of (by omega) (by omega)
  have i2 : v1_0 < v1_1.length := il
  simp [i1, rowAt_map, i2, set_map (x := (nth a0 v1_0)) rfl]
  repeat with_reducible refine sd ?_
  refine nxtI ⟨(p1, (v1_0 + 1), (v1_1.set v1_0 (nth a0 v1_0))), ?_, ?_⟩ (by simp) (wk_keep (by simp [w1]))
  · rw [← e1]; simp only [l_toStringS_1, h1, cond_t, cond_f]
  · first | omega | (simp at *; omega)
 ·have q1 := h1; try simp at q1
  have x1 : l_toStringS_1 a0 (a0.length + 1) 0 (List.replicate a0.length (⟨#[]⟩ : ByteArray)) = v1_1 := by rw [← e1]; simp only [l_toStringS_1, h1, cond_t, cond_f]
  simp
  refine retD (rv := [.tmp 2]) rfl ?_
  have f1 := l_toStringS.eq_1 a0; simp only [x1, cond_t, cond_f] at f1; simp [f1]
theorem l_toStringS_okI (a0 : List ByteArray) (u0 : Sm 2342912 a0) : SoundD Tryz.prog 214 [[.sl 1 (a0.map sR)]] [[.sl 1 (a0.map sR)]] := by
  have h := l_toStringS_ok a0 u0
  rwa [l_toStringS_id] at h
theorem l_toDocument_ok (a0 : TDocument) (u0 : Sm 2338816 a0) : SoundD Tryz.prog 192 [a0.row] [(l_toDocument a0).row] := by
 refine sound_ofD Tryz.func192 rfl (by kernel_rfl) ?_
 simp [Tryz.ntmps192]
 refine cD [false] (l_toStringS_okI a0.Parts (sg (TDocument.sm_Parts u0))) ?_
 simp
 refine cD [false] (l_toIntS_okI a0.Salts (sg (TDocument.sm_Salts u0))) ?_
 simp
 refine retD (rv := [.cell 2 73]) rfl ?_
 have f1 := l_toDocument.eq_1 a0; simp [f1]
theorem l_toDocument_okI (a0 : TDocument) (u0 : Sm 2338816 a0) : SoundD Tryz.prog 192 [a0.row] [a0.row] := by
  have h := l_toDocument_ok a0 u0
  rwa [l_toDocument_id] at h
theorem l_toSignature_ok (a0 : TSignature) : SoundAt Tryz.prog 193 false [a0.row] [(l_toSignature a0).row] := by
 refine sound_of Tryz.func193 rfl (by kernel_rfl) ?_
 simp [Tryz.ntmps193]
 refine retRd (rv := [.cell 2 75]) rfl ?_
 have f1 := l_toSignature.eq_1 a0; simp [f1]
theorem l_toSignature_okI (a0 : TSignature) : SoundAt Tryz.prog 193 false [a0.row] [a0.row] := by
  have h := l_toSignature_ok a0
  rwa [l_toSignature_id] at h
theorem l_toPiece_ok (a0 : TPiece) (u0 : Sm 2338816 a0) : SoundD Tryz.prog 231 [a0.row] [(l_toPiece a0).row] := by
 refine sound_ofD Tryz.func231 rfl (by kernel_rfl) ?_
 simp [Tryz.ntmps231]
 refine cD [false] (l_toIntS_okI a0.Ints (sg (TPiece.sm_Ints u0))) ?_
 simp
 refine retD (rv := [.cell 2 161]) rfl ?_
 have f1 := l_toPiece.eq_1 a0; simp [f1]
theorem l_toPiece_okI (a0 : TPiece) (u0 : Sm 2338816 a0) : SoundD Tryz.prog 231 [a0.row] [a0.row] := by
  have h := l_toPiece_ok a0 u0
  rwa [l_toPiece_id] at h
theorem l_toPieceS_ok (a0 : List TPiece) (u0 : Sm 2334720 a0) : SoundD Tryz.prog 215 [[.sl 3 (a0.map TPiece.row)]] [[.sl 3 ((l_toPieceS a0).map TPiece.row)]] := by
 refine sound_ofD Tryz.func215 rfl (by kernel_rfl) ?_
 have c1 : a0.length ≤ 2334720 := sm_len (by simp (maxDischargeDepth := 12) [u0])
 simp [Tryz.ntmps215]
 refine mkDI (n := a0.length) rfl rfl rfl rfl rfl rfl (by simp) (by simp) (by simp; omega) (by omega) ?_
 simp
 refine okL fun k1 => ?_
 refine loopI (ι := { s : Nat × Nat × (List TPiece) // l_toPieceS_1 a0 s.1 s.2.1 s.2.2 = l_toPieceS_1 a0 (a0.length + 1) 0 (List.replicate a0.length (TPiece.mk 0 ([] : List Int) 0)) ∧ (1 ≤ s.1 ∧ a0.length < s.1 + s.2.1 ∧ s.2.1 ≤ a0.length ∧ s.2.2.length = a0.length) }) (fun s => stOf 23 [eL 0 3 a0 TPiece.row, (3, .one (.sref 7 0 0 s.1.2.2.length), []), eI 4 (↑s.1.2.1 : Int), (7, .any, [.arr true 3 (s.1.2.2.map TPiece.row)])]) (fun s => s.1.1) ⟨((a0.length + 1), 0, (List.replicate a0.length (TPiece.mk 0 ([] : List Int) 0))), rfl, by first | omega | (dsimp only; omega) | simp⟩ (wk_keep (by simp)) ?_
 rintro ⟨⟨n1, v1_0, v1_1⟩, e1, j1⟩
 try dsimp only at e1 j1
 obtain ⟨p1, rfl⟩ : ∃ p, n1 = p + 1 := ⟨n1 - 1, by omega⟩
 simp
 refine cC (decide ((↑v1_0 : Int) < (↑a0.length : Int))) (fun k2 h1 => ?_) (fun k2 h1 => ?_)
 ·have q1 := h1; try simp at q1
  have i1 : v1_0 < a0.length := by simpa using h1
  have m2 : a0.length ≤ 9223372036854775807 := by simpa using k2 0 _ rfl
  have w1 : IntKind.i64.wrap ((v1_0 : Int) + 1) = (v1_0 : Int) + 1 := wrap_of (by omega) (by omega)
  simp [i1, rowAt_map]
  repeat with_reducible refine sd ?_
  refine cD [true, false] (l_toPiece_okI (nth a0 v1_0) (sg (sm_nth u0))) ?_
  have i2 : v1_0 < v1_1.length := il
  simp [i2, rowAt_map]
  repeat with_reducible refine sd ?_
  refine stMI (t := 7) (j := 0) (i := v1_0) (c := 0) (size := 3) (rows := (v1_1.map TPiece.row)) (ds := (nth a0 v1_0).row) (L := [(20, 1)]) rfl rfl rfl rfl (by simp) (by simp) (by simp; try omega) (by simp) (by simp) (by simp) (by simp) (by simp) (by simp) ?_
  simp [set_map (x := (nth a0 v1_0)) rfl, i2, rowAt_map, rowAt_set_self]
  repeat with_reducible refine sd ?_
  refine nxtI ⟨(p1, (v1_0 + 1), (v1_1.set v1_0 (nth a0 v1_0))), ?_, ?_⟩ (by simp) (wk_keep (by simp [w1]))
  · rw [← e1]; simp only [l_toPieceS_1, h1, cond_t, cond_f]
  · first | omega | (simp at *; omega)
 ·have q1 := h1; try simp at q1
  have x1 : l_toPieceS_1 a0 (a0.length + 1) 0 (List.replicate a0.length (TPiece.mk 0 ([] : List Int) 0)) = v1_1 := by rw [← e1]; simp only [l_toPieceS_1, h1, cond_t, cond_f]
  simp
  refine retD (rv := [.tmp 2]) rfl ?_
  have f1 := l_toPieceS.eq_1 a0; simp only [x1, cond_t, cond_f] at f1; simp [f1]
theorem l_toPieceS_okI (a0 : List TPiece) (u0 : Sm 2334720 a0) : SoundD Tryz.prog 215 [[.sl 3 (a0.map TPiece.row)]] [[.sl 3 (a0.map TPiece.row)]] := by
  have h := l_toPieceS_ok a0 u0
  rwa [l_toPieceS_id] at h
theorem l_toStep_ok (a0 : TStep) : SoundAt Tryz.prog 245 false [a0.row] [(l_toStep a0).row] := by
 refine sound_of Tryz.func245 rfl (by kernel_rfl) ?_
 simp [Tryz.ntmps245]
 refine retRd (rv := [.cell 2 191]) rfl ?_
 have f1 := l_toStep.eq_1 a0; simp [f1]
theorem l_toStep_okI (a0 : TStep) : SoundAt Tryz.prog 245 false [a0.row] [a0.row] := by
  have h := l_toStep_ok a0
  rwa [l_toStep_id] at h
theorem l_toStepS_ok (a0 : List TStep) (u0 : Sm 2338816 a0) : SoundD Tryz.prog 240 [[.sl 2 (a0.map TStep.row)]] [[.sl 2 ((l_toStepS a0).map TStep.row)]] := by
 refine sound_ofD Tryz.func240 rfl (by kernel_rfl) ?_
 have c1 : a0.length ≤ 2338816 := sm_len (by simp (maxDischargeDepth := 12) [u0])
 simp [Tryz.ntmps240]
 repeat with_reducible refine sd ?_
 refine okL fun k1 => ?_
 refine loopI (ι := { s : Nat × Nat × (List TStep) // l_toStepS_1 a0 s.1 s.2.1 s.2.2 = l_toStepS_1 a0 (a0.length + 1) 0 (List.replicate a0.length (TStep.mk 0 false)) ∧ (1 ≤ s.1 ∧ a0.length < s.1 + s.2.1 ∧ s.2.1 ≤ a0.length ∧ s.2.2.length = a0.length) }) (fun s => stOf 23 [eL 0 2 a0 TStep.row, (3, .one (.sref 7 0 0 s.1.2.2.length), []), eI 4 (↑s.1.2.1 : Int), (7, .any, [.arr false 2 (s.1.2.2.map TStep.row)])]) (fun s => s.1.1) ⟨((a0.length + 1), 0, (List.replicate a0.length (TStep.mk 0 false))), rfl, by first | omega | (dsimp only; omega) | simp⟩ (wk_keep (by simp)) ?_
 rintro ⟨⟨n1, v1_0, v1_1⟩, e1, j1⟩
 try dsimp only at e1 j1
 obtain ⟨p1, rfl⟩ : ∃ p, n1 = p + 1 := ⟨n1 - 1, by omega⟩
 simp
 refine cC (decide ((↑v1_0 : Int) < (↑a0.length : Int))) (fun k2 h1 => ?_) (fun k2 h1 => ?_)
 ·have q1 := h1; try simp at q1
  have i1 : v1_0 < a0.length := by simpa using h1
  have m2 : a0.length ≤ 9223372036854775807 := by simpa using k2 0 _ rfl
  have w1 : IntKind.i64.wrap ((v1_0 : Int) + 1) = (v1_0 : Int) + 1 := wrap_of (by omega) (by omega)
  simp [i1, rowAt_map]
  repeat with_reducible refine sd ?_
  refine cR (l_toStep_okI (nth a0 v1_0)) ?_
  have i2 : v1_0 < v1_1.length := il
  simp [i2, rowAt_map, set_map (x := (nth a0 v1_0)) rfl]
  repeat with_reducible refine sd ?_
  refine nxtI ⟨(p1, (v1_0 + 1), (v1_1.set v1_0 (nth a0 v1_0))), ?_, ?_⟩ (by simp) (wk_keep (by simp [w1]))
  · rw [← e1]; simp only [l_toStepS_1, h1, cond_t, cond_f]
  · first | omega | (simp at *; omega)
 ·have q1 := h1; try simp at q1
  have x1 : l_toStepS_1 a0 (a0.length + 1) 0 (List.replicate a0.length (TStep.mk 0 false)) = v1_1 := by rw [← e1]; simp only [l_toStepS_1, h1, cond_t, cond_f]
  simp
  refine retD (rv := [.tmp 2]) rfl ?_
  have f1 := l_toStepS.eq_1 a0; simp only [x1, cond_t, cond_f] at f1; simp [f1]
theorem l_toStepS_okI (a0 : List TStep) (u0 : Sm 2338816 a0) : SoundD Tryz.prog 240 [[.sl 2 (a0.map TStep.row)]] [[.sl 2 (a0.map TStep.row)]] := by
  have h := l_toStepS_ok a0 u0
  rwa [l_toStepS_id] at h
theorem l_toStamp_ok (a0 : TStamp) : SoundAt Tryz.prog 246 false [a0.row] [(l_toStamp a0).row] := by
 refine sound_of Tryz.func246 rfl (by kernel_rfl) ?_
 simp [Tryz.ntmps246]
 refine retRd (rv := [.cell 2 86]) rfl ?_
 have f1 := l_toStamp.eq_1 a0; simp [f1]
theorem l_toStamp_okI (a0 : TStamp) : SoundAt Tryz.prog 246 false [a0.row] [a0.row] := by
  have h := l_toStamp_ok a0
  rwa [l_toStamp_id] at h
theorem l_toStampS_ok (a0 : List TStamp) (u0 : Sm 2338816 a0) : SoundD Tryz.prog 241 [[.sl 5 (a0.map TStamp.row)]] [[.sl 5 ((l_toStampS a0).map TStamp.row)]] := by
 refine sound_ofD Tryz.func241 rfl (by kernel_rfl) ?_
 have c1 : a0.length ≤ 2338816 := sm_len (by simp (maxDischargeDepth := 12) [u0])
 simp [Tryz.ntmps241]
 repeat with_reducible refine sd ?_
 refine okL fun k1 => ?_
 refine loopI (ι := { s : Nat × Nat × (List TStamp) // l_toStampS_1 a0 s.1 s.2.1 s.2.2 = l_toStampS_1 a0 (a0.length + 1) 0 (List.replicate a0.length (TStamp.mk 0 0 0 0 0)) ∧ (1 ≤ s.1 ∧ a0.length < s.1 + s.2.1 ∧ s.2.1 ≤ a0.length ∧ s.2.2.length = a0.length) }) (fun s => stOf 23 [eL 0 5 a0 TStamp.row, (3, .one (.sref 7 0 0 s.1.2.2.length), []), eI 4 (↑s.1.2.1 : Int), (7, .any, [.arr false 5 (s.1.2.2.map TStamp.row)])]) (fun s => s.1.1) ⟨((a0.length + 1), 0, (List.replicate a0.length (TStamp.mk 0 0 0 0 0))), rfl, by first | omega | (dsimp only; omega) | simp⟩ (wk_keep (by simp)) ?_
 rintro ⟨⟨n1, v1_0, v1_1⟩, e1, j1⟩
 try dsimp only at e1 j1
 obtain ⟨p1, rfl⟩ : ∃ p, n1 = p + 1 := ⟨n1 - 1, by omega⟩
 simp
 refine cC (decide ((↑v1_0 : Int) < (↑a0.length : Int))) (fun k2 h1 => ?_) (fun k2 h1 => ?_)
 ·have q1 := h1; try simp at q1
  have i1 : v1_0 < a0.length := by simpa using h1
  have m2 : a0.length ≤ 9223372036854775807 := by simpa using k2 0 _ rfl
  have w1 : IntKind.i64.wrap ((v1_0 : Int) + 1) = (v1_0 : Int) + 1 := wrap_of (by omega) (by omega)
  simp [i1, rowAt_map]
  repeat with_reducible refine sd ?_
  refine cR (l_toStamp_okI (nth a0 v1_0)) ?_
  have i2 : v1_0 < v1_1.length := il
  simp [i2, rowAt_map, set_map (x := (nth a0 v1_0)) rfl]
  repeat with_reducible refine sd ?_
  refine nxtI ⟨(p1, (v1_0 + 1), (v1_1.set v1_0 (nth a0 v1_0))), ?_, ?_⟩ (by simp) (wk_keep (by simp [w1]))
  · rw [← e1]; simp only [l_toStampS_1, h1, cond_t, cond_f]
  · first | omega | (simp at *; omega)
 ·have q1 := h1; try simp at q1
  have x1 : l_toStampS_1 a0 (a0.length + 1) 0 (List.replicate a0.length (TStamp.mk 0 0 0 0 0)) = v1_1 := by rw [← e1]; simp only [l_toStampS_1, h1, cond_t, cond_f]
  simp
  refine retD (rv := [.tmp 2]) rfl ?_
  have f1 := l_toStampS.eq_1 a0; simp only [x1, cond_t, cond_f] at f1; simp [f1]
theorem l_toStampS_okI (a0 : List TStamp) (u0 : Sm 2338816 a0) : SoundD Tryz.prog 241 [[.sl 5 (a0.map TStamp.row)]] [[.sl 5 (a0.map TStamp.row)]] := by
  have h := l_toStampS_ok a0 u0
  rwa [l_toStampS_id] at h
theorem l_toRenewal_ok (a0 : TRenewal) (u0 : Sm 2334720 a0) : SoundD Tryz.prog 232 [a0.row] [(l_toRenewal a0).row] := by
 refine sound_ofD Tryz.func232 rfl (by kernel_rfl) ?_
 simp [Tryz.ntmps232]
 refine cD [false] (l_toStepS_okI a0.Path (sg (TRenewal.sm_Path u0))) ?_
 simp
 refine cD [false] (l_toStampS_okI a0.Stamps (sg (TRenewal.sm_Stamps u0))) ?_
 simp
 refine retD (rv := [.cell 2 105]) rfl ?_
 have f1 := l_toRenewal.eq_1 a0; simp [f1]
theorem l_toRenewal_okI (a0 : TRenewal) (u0 : Sm 2334720 a0) : SoundD Tryz.prog 232 [a0.row] [a0.row] := by
  have h := l_toRenewal_ok a0 u0
  rwa [l_toRenewal_id] at h
theorem l_toRenewalS_ok (a0 : List TRenewal) (u0 : Sm 2330624 a0) : SoundD Tryz.prog 216 [[.sl 5 (a0.map TRenewal.row)]] [[.sl 5 ((l_toRenewalS a0).map TRenewal.row)]] := by
 refine sound_ofD Tryz.func216 rfl (by kernel_rfl) ?_
 have c1 : a0.length ≤ 2330624 := sm_len (by simp (maxDischargeDepth := 12) [u0])
 simp [Tryz.ntmps216]
 refine mkDI (n := a0.length) rfl rfl rfl rfl rfl rfl (by simp) (by simp) (by simp; omega) (by omega) ?_
 simp
 refine okL fun k1 => ?_
 refine loopI (ι := { s : Nat × Nat × (List TRenewal) // l_toRenewalS_1 a0 s.1 s.2.1 s.2.2 = l_toRenewalS_1 a0 (a0.length + 1) 0 (List.replicate a0.length (TRenewal.mk 0 0 0 ([] : List TStep) ([] : List TStamp))) ∧ (1 ≤ s.1 ∧ a0.length < s.1 + s.2.1 ∧ s.2.1 ≤ a0.length ∧ s.2.2.length = a0.length) }) (fun s => stOf 23 [eL 0 5 a0 TRenewal.row, (3, .one (.sref 7 0 0 s.1.2.2.length), []), eI 4 (↑s.1.2.1 : Int), (7, .any, [.arr true 5 (s.1.2.2.map TRenewal.row)])]) (fun s => s.1.1) ⟨((a0.length + 1), 0, (List.replicate a0.length (TRenewal.mk 0 0 0 ([] : List TStep) ([] : List TStamp)))), rfl, by first | omega | (dsimp only; omega) | simp⟩ (wk_keep (by simp)) ?_
 rintro ⟨⟨n1, v1_0, v1_1⟩, e1, j1⟩
 try dsimp only at e1 j1
 obtain ⟨p1, rfl⟩ : ∃ p, n1 = p + 1 := ⟨n1 - 1, by omega⟩
 simp
 refine cC (decide ((↑v1_0 : Int) < (↑a0.length : Int))) (fun k2 h1 => ?_) (fun k2 h1 => ?_)
 ·have q1 := h1; try simp at q1
  have i1 : v1_0 < a0.length := by simpa using h1
  have m2 : a0.length ≤ 9223372036854775807 := by simpa using k2 0 _ rfl
  have w1 : IntKind.i64.wrap ((v1_0 : Int) + 1) = (v1_0 : Int) + 1 := wrap_of (by omega) (by omega)
  simp [i1, rowAt_map]
  repeat with_reducible refine sd ?_
  refine cD [true, true, true, false, false] (l_toRenewal_okI (nth a0 v1_0) (sg (sm_nth u0))) ?_
  have i2 : v1_0 < v1_1.length := il
  simp [i2, rowAt_map]
  repeat with_reducible refine sd ?_
  refine stMI (t := 7) (j := 0) (i := v1_0) (c := 0) (size := 5) (rows := (v1_1.map TRenewal.row)) (ds := (nth a0 v1_0).row) (L := [(20, 3), (20, 4)]) rfl rfl rfl rfl (by simp) (by simp) (by simp; try omega) (by simp) (by simp) (by simp) (by simp) (by simp) (by simp) ?_
  simp [set_map (x := (nth a0 v1_0)) rfl, i2, rowAt_map, rowAt_set_self]
  repeat with_reducible refine sd ?_
  refine nxtI ⟨(p1, (v1_0 + 1), (v1_1.set v1_0 (nth a0 v1_0))), ?_, ?_⟩ (by simp) (wk_keep (by simp [w1]))
  · rw [← e1]; simp only [l_toRenewalS_1, h1, cond_t, cond_f]
  · first | omega | (simp at *; omega)
 ·have q1 := h1; try simp at q1
  have x1 : l_toRenewalS_1 a0 (a0.length + 1) 0 (List.replicate a0.length (TRenewal.mk 0 0 0 ([] : List TStep) ([] : List TStamp))) = v1_1 := by rw [← e1]; simp only [l_toRenewalS_1, h1, cond_t, cond_f]
  simp
  refine retD (rv := [.tmp 2]) rfl ?_
  have f1 := l_toRenewalS.eq_1 a0; simp only [x1, cond_t, cond_f] at f1; simp [f1]
theorem l_toRenewalS_okI (a0 : List TRenewal) (u0 : Sm 2330624 a0) : SoundD Tryz.prog 216 [[.sl 5 (a0.map TRenewal.row)]] [[.sl 5 (a0.map TRenewal.row)]] := by
  have h := l_toRenewalS_ok a0 u0
  rwa [l_toRenewalS_id] at h
theorem l_toStrand_ok (a0 : TStrand) (u0 : Sm 2326528 a0) : SoundD Tryz.prog 194 [a0.row] [(l_toStrand a0).row] := by
 refine sound_ofD Tryz.func194 rfl (by kernel_rfl) ?_
 simp [Tryz.ntmps194]
 refine cD [] (l_toPieceS_okI a0.Pieces (sg (TStrand.sm_Pieces u0))) ?_
 simp
 refine cD [] (l_toRenewalS_okI a0.Chain (sg (TStrand.sm_Chain u0))) ?_
 simp
 refine retD (rv := [.cell 2 69]) rfl ?_
 have f1 := l_toStrand.eq_1 a0; simp [f1]
theorem l_toStrand_okI (a0 : TStrand) (u0 : Sm 2326528 a0) : SoundD Tryz.prog 194 [a0.row] [a0.row] := by
  have h := l_toStrand_ok a0 u0
  rwa [l_toStrand_id] at h
theorem l_toItem_ok (a0 : TItem) (u0 : Sm 2322432 a0) : SoundD Tryz.prog 165 [a0.row] [(l_toItem a0).row] := by
 refine sound_ofD Tryz.func165 rfl (by kernel_rfl) ?_
 simp [Tryz.ntmps165]
 refine cD [true, false, false] (l_toDocument_okI a0.Doc (sg (TItem.sm_Doc u0))) ?_
 simp
 refine cR (l_toSignature_okI a0.Sig) ?_
 simp
 refine cD [] (l_toStrand_okI a0.Strand (sg (TItem.sm_Strand u0))) ?_
 simp
 refine retD (rv := [.cell 2 77]) rfl ?_
 have f1 := l_toItem.eq_1 a0; simp [f1]
theorem l_toItem_okI (a0 : TItem) (u0 : Sm 2322432 a0) : SoundD Tryz.prog 165 [a0.row] [a0.row] := by
  have h := l_toItem_ok a0 u0
  rwa [l_toItem_id] at h
theorem l_toItemS_ok (a0 : List TItem) (u0 : Sm 2318336 a0) : SoundD Tryz.prog 126 [[.sl 16 (a0.map TItem.row)]] [[.sl 16 ((l_toItemS a0).map TItem.row)]] := by
 refine sound_ofD Tryz.func126 rfl (by kernel_rfl) ?_
 have c1 : a0.length ≤ 2318336 := sm_len (by simp (maxDischargeDepth := 12) [u0])
 simp [Tryz.ntmps126]
 refine mkDI (n := a0.length) rfl rfl rfl rfl rfl rfl (by simp) (by simp) (by simp; omega) (by omega) ?_
 simp
 refine okL fun k1 => ?_
 refine loopI (ι := { s : Nat × Nat × (List TItem) // l_toItemS_1 a0 s.1 s.2.1 s.2.2 = l_toItemS_1 a0 (a0.length + 1) 0 (List.replicate a0.length (TItem.mk 0 0 (TDocument.mk 0 ([] : List ByteArray) ([] : List Int)) (TSignature.mk 0 0 0 0 0 0 0 0 0) (TStrand.mk ([] : List TPiece) ([] : List TRenewal)))) ∧ (1 ≤ s.1 ∧ a0.length < s.1 + s.2.1 ∧ s.2.1 ≤ a0.length ∧ s.2.2.length = a0.length) }) (fun s => stOf 23 [eL 0 16 a0 TItem.row, (3, .one (.sref 7 0 0 s.1.2.2.length), []), eI 4 (↑s.1.2.1 : Int), (7, .any, [.arr true 16 (s.1.2.2.map TItem.row)])]) (fun s => s.1.1) ⟨((a0.length + 1), 0, (List.replicate a0.length (TItem.mk 0 0 (TDocument.mk 0 ([] : List ByteArray) ([] : List Int)) (TSignature.mk 0 0 0 0 0 0 0 0 0) (TStrand.mk ([] : List TPiece) ([] : List TRenewal))))), rfl, by first | omega | (dsimp only; omega) | simp⟩ (wk_keep (by simp)) ?_
 rintro ⟨⟨n1, v1_0, v1_1⟩, e1, j1⟩
 try dsimp only at e1 j1
 obtain ⟨p1, rfl⟩ : ∃ p, n1 = p + 1 := ⟨n1 - 1, by omega⟩
 simp
 refine cC (decide ((↑v1_0 : Int) < (↑a0.length : Int))) (fun k2 h1 => ?_) (fun k2 h1 => ?_)
 ·have q1 := h1; try simp at q1
  have i1 : v1_0 < a0.length := by simpa using h1
  have m2 : a0.length ≤ 9223372036854775807 := by simpa using k2 0 _ rfl
  have w1 : IntKind.i64.wrap ((v1_0 : Int) + 1) = (v1_0 : Int) + 1 := wrap_of (by omega) (by omega)
  simp [i1, rowAt_map]
  repeat with_reducible refine sd ?_
  refine cD [true, true, true, false, false] (l_toItem_okI (nth a0 v1_0) (sg (sm_nth u0))) ?_
  have i2 : v1_0 < v1_1.length := il
  simp [i2, rowAt_map]
  repeat with_reducible refine sd ?_
  refine stMI (t := 7) (j := 0) (i := v1_0) (c := 0) (size := 16) (rows := (v1_1.map TItem.row)) (ds := (nth a0 v1_0).row) (L := [(20, 3), (20, 4), (20, 14), (20, 15)]) rfl rfl rfl rfl (by simp) (by simp) (by simp; try omega) (by simp) (by simp) (by simp) (by simp) (by simp) (by simp) ?_
  simp [set_map (x := (nth a0 v1_0)) rfl, i2, rowAt_map, rowAt_set_self]
  repeat with_reducible refine sd ?_
  refine nxtI ⟨(p1, (v1_0 + 1), (v1_1.set v1_0 (nth a0 v1_0))), ?_, ?_⟩ (by simp) (wk_keep (by simp [w1]))
  · rw [← e1]; simp only [l_toItemS_1, h1, cond_t, cond_f]
  · first | omega | (simp at *; omega)
 ·have q1 := h1; try simp at q1
  have x1 : l_toItemS_1 a0 (a0.length + 1) 0 (List.replicate a0.length (TItem.mk 0 0 (TDocument.mk 0 ([] : List ByteArray) ([] : List Int)) (TSignature.mk 0 0 0 0 0 0 0 0 0) (TStrand.mk ([] : List TPiece) ([] : List TRenewal)))) = v1_1 := by rw [← e1]; simp only [l_toItemS_1, h1, cond_t, cond_f]
  simp
  refine retD (rv := [.tmp 2]) rfl ?_
  have f1 := l_toItemS.eq_1 a0; simp only [x1, cond_t, cond_f] at f1; simp [f1]
theorem l_toItemS_okI (a0 : List TItem) (u0 : Sm 2318336 a0) : SoundD Tryz.prog 126 [[.sl 16 (a0.map TItem.row)]] [[.sl 16 (a0.map TItem.row)]] := by
  have h := l_toItemS_ok a0 u0
  rwa [l_toItemS_id] at h
theorem l_toArchive_ok (a0 : TArchive) (u0 : Sm 2314240 a0) : SoundD Tryz.prog 76 [a0.row] [(l_toArchive a0).row] := by
 refine sound_ofD Tryz.func76 rfl (by kernel_rfl) ?_
 simp [Tryz.ntmps76]
 refine cD [] (l_toItemS_okI a0.Items (sg (TArchive.sm_Items u0))) ?_
 simp
 refine retD (rv := [.cell 2 65]) rfl ?_
 have f1 := l_toArchive.eq_1 a0; simp [f1]
theorem l_toArchive_okI (a0 : TArchive) (u0 : Sm 2314240 a0) : SoundD Tryz.prog 76 [a0.row] [a0.row] := by
  have h := l_toArchive_ok a0 u0
  rwa [l_toArchive_id] at h
theorem l_toArchiveS_ok (a0 : List TArchive) (u0 : Sm 2310144 a0) : SoundD Tryz.prog 29 [[.sl 2 (a0.map TArchive.row)]] [[.sl 2 ((l_toArchiveS a0).map TArchive.row)]] := by
 refine sound_ofD Tryz.func29 rfl (by kernel_rfl) ?_
 have c1 : a0.length ≤ 2310144 := sm_len (by simp (maxDischargeDepth := 12) [u0])
 simp [Tryz.ntmps29]
 refine mkDI (n := a0.length) rfl rfl rfl rfl rfl rfl (by simp) (by simp) (by simp; omega) (by omega) ?_
 simp
 refine okL fun k1 => ?_
 refine loopI (ι := { s : Nat × Nat × (List TArchive) // l_toArchiveS_1 a0 s.1 s.2.1 s.2.2 = l_toArchiveS_1 a0 (a0.length + 1) 0 (List.replicate a0.length (TArchive.mk 0 ([] : List TItem))) ∧ (1 ≤ s.1 ∧ a0.length < s.1 + s.2.1 ∧ s.2.1 ≤ a0.length ∧ s.2.2.length = a0.length) }) (fun s => stOf 23 [eL 0 2 a0 TArchive.row, (3, .one (.sref 7 0 0 s.1.2.2.length), []), eI 4 (↑s.1.2.1 : Int), (7, .any, [.arr true 2 (s.1.2.2.map TArchive.row)])]) (fun s => s.1.1) ⟨((a0.length + 1), 0, (List.replicate a0.length (TArchive.mk 0 ([] : List TItem)))), rfl, by first | omega | (dsimp only; omega) | simp⟩ (wk_keep (by simp)) ?_
 rintro ⟨⟨n1, v1_0, v1_1⟩, e1, j1⟩
 try dsimp only at e1 j1
 obtain ⟨p1, rfl⟩ : ∃ p, n1 = p + 1 := ⟨n1 - 1, by omega⟩
 simp
 refine cC (decide ((↑v1_0 : Int) < (↑a0.length : Int))) (fun k2 h1 => ?_) (fun k2 h1 => ?_)
 ·have q1 := h1; try simp at q1
  have i1 : v1_0 < a0.length := by simpa using h1
  have m2 : a0.length ≤ 9223372036854775807 := by simpa using k2 0 _ rfl
  have w1 : IntKind.i64.wrap ((v1_0 : Int) + 1) = (v1_0 : Int) + 1 := wrap_of (by omega) (by omega)
  simp [i1, rowAt_map]
  repeat with_reducible refine sd ?_
  refine cD [] (l_toArchive_okI (nth a0 v1_0) (sg (sm_nth u0))) ?_
  have i2 : v1_0 < v1_1.length := il
  simp [i2, rowAt_map]
  repeat with_reducible refine sd ?_
  refine stMI (t := 7) (j := 0) (i := v1_0) (c := 0) (size := 2) (rows := (v1_1.map TArchive.row)) (ds := (nth a0 v1_0).row) (L := [(20, 1)]) rfl rfl rfl rfl (by simp) (by simp) (by simp; try omega) (by simp) (by simp) (by simp) (by simp) (by simp) (by simp) ?_
  simp [set_map (x := (nth a0 v1_0)) rfl, i2, rowAt_map, rowAt_set_self]
  repeat with_reducible refine sd ?_
  refine nxtI ⟨(p1, (v1_0 + 1), (v1_1.set v1_0 (nth a0 v1_0))), ?_, ?_⟩ (by simp) (wk_keep (by simp [w1]))
  · rw [← e1]; simp only [l_toArchiveS_1, h1, cond_t, cond_f]
  · first | omega | (simp at *; omega)
 ·have q1 := h1; try simp at q1
  have x1 : l_toArchiveS_1 a0 (a0.length + 1) 0 (List.replicate a0.length (TArchive.mk 0 ([] : List TItem))) = v1_1 := by rw [← e1]; simp only [l_toArchiveS_1, h1, cond_t, cond_f]
  simp
  refine retD (rv := [.tmp 2]) rfl ?_
  have f1 := l_toArchiveS.eq_1 a0; simp only [x1, cond_t, cond_f] at f1; simp [f1]
theorem l_toArchiveS_okI (a0 : List TArchive) (u0 : Sm 2310144 a0) : SoundD Tryz.prog 29 [[.sl 2 (a0.map TArchive.row)]] [[.sl 2 (a0.map TArchive.row)]] := by
  have h := l_toArchiveS_ok a0 u0
  rwa [l_toArchiveS_id] at h
theorem l_toWorld_ok (a0 : TWorld) (u0 : Sm 2306048 a0) : SoundD Tryz.prog 8 [a0.row] [(l_toWorld a0).row] := by
 refine sound_ofD Tryz.func8 rfl (by kernel_rfl) ?_
 simp [Tryz.ntmps8]
 refine cD [false, false, false] (l_toFrame_okI a0.Frame (sg (TWorld.sm_Frame u0))) ?_
 simp
 refine cD [false] (l_toCertS_okI a0.Certs (sg (TWorld.sm_Certs u0))) ?_
 simp
 refine cD [false] (l_toIntS_okI a0.Ended (sg (TWorld.sm_Ended u0))) ?_
 simp
 refine cD [] (l_toArchiveS_okI a0.Archives (sg (TWorld.sm_Archives u0))) ?_
 simp
 refine cD [false] (l_toIntS_okI a0.Seqs (sg (TWorld.sm_Seqs u0))) ?_
 simp
 refine cD [false] (l_toIntS_okI a0.Lying (sg (TWorld.sm_Lying u0))) ?_
 simp
 refine cD [false] (l_toIntS_okI a0.Forged (sg (TWorld.sm_Forged u0))) ?_
 simp
 refine retD (rv := [.cell 2 43]) rfl ?_
 have f1 := l_toWorld.eq_1 a0; simp [f1]
theorem l_toWorld_okI (a0 : TWorld) (u0 : Sm 2306048 a0) : SoundD Tryz.prog 8 [a0.row] [a0.row] := by
  have h := l_toWorld_ok a0 u0
  rwa [l_toWorld_id] at h
theorem s_l18Copy_ok (a0 : TPiece) (u0 : Sm 2342912 a0) : SoundD Tryz.prog 122 [a0.row] [(s_l18Copy a0).row] := by
 refine sound_ofD Tryz.func122 rfl (by kernel_rfl) ?_
 simp [Tryz.ntmps122]
 refine okD fun k1 => ?_
 refine drawP [2, 3, 4, 5, 0, 1, 6, 7, 8, 9] mixed (by kernel_rfl) (by kernel_rfl) (by kernel_rfl) ?_
 have c1 : a0.Ints.length ≤ 2342912 := sm_len (by simp (maxDischargeDepth := 12) [u0])
 simp
 repeat with_reducible refine sd ?_
 refine retD (rv := [.cell 2 161]) rfl ?_
 have f1 := s_l18Copy.eq_1 a0; simp [f1]
theorem s_l18Copy_okI (a0 : TPiece) (u0 : Sm 2342912 a0) : SoundD Tryz.prog 122 [a0.row] [a0.row] := by
  have h := s_l18Copy_ok a0 u0
  rwa [s_l18Copy_id] at h
theorem s_l18All_ok (a0 : List TPiece) (u0 : Sm 2338816 a0) : SoundAt Tryz.prog 69 true [[.sl 3 (a0.map TPiece.row)]] [[.sl 3 ((s_l18All a0).map TPiece.row)]] := by
 refine sound_of Tryz.func69 rfl (by kernel_rfl) ?_
 simp [Tryz.ntmps69]
 refine evI rfl rfl rfl ?_
 simp
 refine okL fun k1 => ?_
 refine loopI (ι := { s : Nat × (List TPiece) × Nat // s_l18All_1 a0 s.1 s.2.1 s.2.2 = s_l18All_1 a0 (a0.length + 1) ([] : List TPiece) 0 ∧ (1 ≤ s.1 ∧ a0.length < s.1 + s.2.2 ∧ s.2.2 ≤ a0.length ∧ s.2.1.length ≤ 0 + 1 * s.2.2) }) (fun s => stOf 21 [eL 0 3 a0 TPiece.row, (3, .one (.sref 3 0 0 s.1.2.1.length), [.arr false 3 (s.1.2.1.map TPiece.row)]), eI 4 (↑s.1.2.2 : Int)]) (fun s => s.1.1) ⟨((a0.length + 1), ([] : List TPiece), 0), rfl, by first | omega | (dsimp only; omega) | simp⟩ (wk_of [((3, 0), some (5, 0))] [] rfl (by simp)) ?_
 rintro ⟨⟨n1, v1_0, v1_1⟩, e1, j1⟩
 try dsimp only at e1 j1
 obtain ⟨p1, rfl⟩ : ∃ p, n1 = p + 1 := ⟨n1 - 1, by omega⟩
 simp
 refine cC (decide ((↑v1_1 : Int) < (↑a0.length : Int))) (fun k2 h1 => ?_) (fun k2 h1 => ?_)
 ·have q1 := h1; try simp at q1
  have i1 : v1_1 < a0.length := by simpa using h1
  have m2 : a0.length ≤ 9223372036854775807 := by simpa using k2 0 _ rfl
  have c1 : a0.length ≤ 2338816 := sm_len (by simp (maxDischargeDepth := 12) [u0])
  have w1 : IntKind.i64.wrap ((v1_1 : Int) + 1) = (v1_1 : Int) + 1 := wrap_of (by omega) (by omega)
  simp [i1, rowAt_map]
  repeat with_reducible refine sd ?_
  refine cR (SoundD.rd (s_l18Copy_okI (nth a0 v1_1) (sg (sm_nth u0)))) ?_
  simp
  refine evI rfl rfl rfl ?_
  simp
  refine evI rfl rfl rfl ?_
  simp
  repeat with_reducible refine sd ?_
  refine nxtI ⟨(p1, (v1_0 ++ ([(nth a0 v1_1)] : List TPiece)), (v1_1 + 1)), ?_, ?_⟩ (by simp) (wk_of [((3, 0), some (19, 0))] [] rfl (by simp [w1]))
  · rw [← e1]; simp only [s_l18All_1, h1, cond_t, cond_f]
  · first | omega | (simp at *; omega)
 ·have q1 := h1; try simp at q1
  have c2 : a0.length ≤ 2338816 := sm_len (by simp (maxDischargeDepth := 12) [u0])
  have x1 : s_l18All_1 a0 (a0.length + 1) ([] : List TPiece) 0 = v1_0 := by rw [← e1]; simp only [s_l18All_1, h1, cond_t, cond_f]
  simp
  refine retOwn (rv := [.tmp 2]) rfl ?_
  have f1 := s_l18All.eq_1 a0; simp only [x1, cond_t, cond_f] at f1; simp [f1]
theorem s_l18All_okI (a0 : List TPiece) (u0 : Sm 2338816 a0) : SoundAt Tryz.prog 69 true [[.sl 3 (a0.map TPiece.row)]] [[.sl 3 (a0.map TPiece.row)]] := by
  have h := s_l18All_ok a0 u0
  rwa [s_l18All_id] at h
theorem s_l19Copy_ok (a0 : TRenewal) (u0 : Sm 2342912 a0) : SoundD Tryz.prog 70 [a0.row] [(s_l19Copy a0).row] := by
 refine sound_ofD Tryz.func70 rfl (by kernel_rfl) ?_
 have c1 : a0.Path.length ≤ 2342912 := sm_len (by simp (maxDischargeDepth := 12) [u0])
 have c2 : a0.Stamps.length ≤ 2342912 := sm_len (by simp (maxDischargeDepth := 12) [u0])
 simp [Tryz.ntmps70]
 repeat with_reducible refine sd ?_
 refine retD (rv := [.cell 2 105]) rfl ?_
 have f1 := s_l19Copy.eq_1 a0; simp [f1]
theorem s_l19Copy_okI (a0 : TRenewal) (u0 : Sm 2342912 a0) : SoundD Tryz.prog 70 [a0.row] [a0.row] := by
  have h := s_l19Copy_ok a0 u0
  rwa [s_l19Copy_id] at h
theorem s_l20Copy_ok (a0 : TStrand) (u0 : Sm 2334720 a0) : SoundAt Tryz.prog 24 true [a0.row] [(s_l20Copy a0).row] := by
 refine sound_of Tryz.func24 rfl (by kernel_rfl) ?_
 simp [Tryz.ntmps24]
 refine cO (s_l18All_okI a0.Pieces (sg (TStrand.sm_Pieces u0))) ?_
 simp
 refine okL fun k1 => ?_
 refine loopI (ι := { s : Nat × Nat × (List TRenewal) // s_l20Copy_1 a0 s.1 s.2.1 s.2.2 = s_l20Copy_1 a0 (a0.Chain.length + 1) 0 ([] : List TRenewal) ∧ (1 ≤ s.1 ∧ a0.Chain.length < s.1 + s.2.1 ∧ s.2.1 ≤ a0.Chain.length ∧ s.2.2.length ≤ 0 + 1 * s.2.1) }) (fun s => stOf 28 [eX 1 (a0.row.map .d), (2, .one (.bptr 2 0), [.box [.nil 3, .nil 5]]), (3, .one (.bptr 3 0), [.box [.sref 7 0 0 a0.Pieces.length, .sref 3 2 0 s.1.2.2.length], .none, .arr false 5 (s.1.2.2.map TRenewal.row)]), eI 4 (↑s.1.2.1 : Int), (7, .any, [.arr false 3 (a0.Pieces.map TPiece.row)])]) (fun s => s.1.1) ⟨((a0.Chain.length + 1), 0, ([] : List TRenewal)), rfl, by first | omega | (dsimp only; omega) | simp⟩ (wk_of [((3, 2), none)] [] rfl (by simp)) ?_
 rintro ⟨⟨n1, v1_0, v1_1⟩, e1, j1⟩
 try dsimp only at e1 j1
 obtain ⟨p1, rfl⟩ : ∃ p, n1 = p + 1 := ⟨n1 - 1, by omega⟩
 simp
 refine cC (decide ((↑v1_0 : Int) < (↑a0.Chain.length : Int))) (fun k2 h1 => ?_) (fun k2 h1 => ?_)
 ·have q1 := h1; try simp at q1
  have i1 : v1_0 < a0.Chain.length := by simpa using h1
  have m2 : a0.Chain.length ≤ 9223372036854775807 := by simpa using k2 11 _ rfl
  have c1 : a0.Chain.length ≤ 2334720 := sm_len (by simp (maxDischargeDepth := 12) [u0])
  have w1 : IntKind.i64.wrap ((v1_0 : Int) + 1) = (v1_0 : Int) + 1 := wrap_of (by omega) (by omega)
  simp
  refine okD fun k3 => ?_
  refine drawI mixed (by kernel_rfl) (by kernel_rfl) ?_
  simp [i1, rowAt_map]
  repeat with_reducible refine sd ?_
  refine cR (SoundD.rd (s_l19Copy_okI (nth a0.Chain v1_0) (sg (sm_nth (TStrand.sm_Chain u0))))) ?_
  simp
  refine evI rfl rfl rfl ?_
  simp
  refine evI rfl rfl rfl ?_
  simp
  repeat with_reducible refine sd ?_
  refine nxtI ⟨(p1, (v1_0 + 1), (v1_1 ++ ([(nth a0.Chain v1_0)] : List TRenewal))), ?_, ?_⟩ (by simp) (wk_of [((3, 2), some (25, 0))] [] rfl (by simp [w1]))
  · rw [← e1]; simp only [s_l20Copy_1, h1, cond_t, cond_f]
  · first | omega | (simp at *; omega)
 ·have q1 := h1; try simp at q1
  have c2 : a0.Chain.length ≤ 2334720 := sm_len (by simp (maxDischargeDepth := 12) [u0])
  have x1 : s_l20Copy_1 a0 (a0.Chain.length + 1) 0 ([] : List TRenewal) = v1_1 := by rw [← e1]; simp only [s_l20Copy_1, h1, cond_t, cond_f]
  simp
  refine retOwn (rv := [.cell 2 69]) rfl ?_
  have f1 := s_l20Copy.eq_1 a0; simp only [x1, cond_t, cond_f] at f1; simp [f1]
theorem s_l20Copy_okI (a0 : TStrand) (u0 : Sm 2334720 a0) : SoundAt Tryz.prog 24 true [a0.row] [a0.row] := by
  have h := s_l20Copy_ok a0 u0
  rwa [s_l20Copy_id] at h
theorem s_l27Add_ok (a0 : List TStamp) (a1 : List TStamp) (u0 : Sm 2342912 a1) (u1 : a0.length + a1.length ≤ 33554500) : SoundQ Tryz.prog 71 5 (a0.map TStamp.row) [[.sl 5 (a1.map TStamp.row)]] ((s_l27Add a0 a1).map TStamp.row) := by
 refine sound_ofQ Tryz.func71 rfl (by kernel_rfl) (by simp [flatRows]) ?_
 simp [Tryz.ntmps71]
 refine okL fun k1 => ?_
 refine loopI (ι := { s : Nat × (List TStamp) × Nat // s_l27Add_1 a1 s.1 s.2.1 s.2.2 = s_l27Add_1 a1 (a1.length + 1) a0 0 ∧ (1 ≤ s.1 ∧ a1.length < s.1 + s.2.2 ∧ s.2.2 ≤ a1.length ∧ s.2.1.length ≤ a0.length + s.2.2) }) (fun s => stOf 42 [(0, .one (.sref 0 0 0 s.1.2.1.length), [.arr false 5 (s.1.2.1.map TStamp.row)]), eL 1 5 a1 TStamp.row, eI 5 (↑s.1.2.2 : Int)]) (fun s => s.1.1) ⟨((a1.length + 1), a0, 0), rfl, by first | omega | (dsimp only; omega) | simp⟩ (wk_keep (by simp)) ?_
 rintro ⟨⟨n1, v1_0, v1_1⟩, e1, j1⟩
 try dsimp only at e1 j1
 obtain ⟨p1, rfl⟩ : ∃ p, n1 = p + 1 := ⟨n1 - 1, by omega⟩
 simp
 refine cC (decide ((↑v1_1 : Int) < (↑a1.length : Int))) (fun k2 h1 => ?_) (fun k2 h1 => ?_)
 ·have q1 := h1; try simp at q1
  have i1 : v1_1 < a1.length := by simpa using h1
  have m2 : a1.length ≤ 9223372036854775807 := by simpa using k2 1 _ rfl
  have c1 : a1.length ≤ 2342912 := sm_len (by simp (maxDischargeDepth := 12) [u0, u1])
  have w1 : IntKind.i64.wrap ((v1_1 : Int) + 1) = (v1_1 : Int) + 1 := wrap_of (by omega) (by omega)
  simp
  refine okL fun k3 => ?_
  refine loopI (ι := { s : Nat × Bool × Nat // s_l27Add_2 a1 v1_0 v1_1 s.1 s.2.1 s.2.2 = s_l27Add_2 a1 v1_0 v1_1 (v1_0.length + 1) false 0 ∧ (1 ≤ s.1 ∧ v1_0.length < s.1 + s.2.2 ∧ s.2.2 ≤ v1_0.length) }) (fun s => stOf 42 [(0, .one (.sref 0 0 0 v1_0.length), [.arr false 5 (v1_0.map TStamp.row)]), eL 1 5 a1 TStamp.row, eI 5 (↑v1_1 : Int), eB 6 s.1.2.1, eI 7 (↑s.1.2.2 : Int)]) (fun s => s.1.1) ⟨((v1_0.length + 1), false, 0), rfl, by first | omega | (dsimp only; omega) | simp⟩ (wk_keep (by simp)) ?_
  rintro ⟨⟨n2, v2_0, v2_1⟩, e2, j2⟩
  try dsimp only at e2 j2
  obtain ⟨p2, rfl⟩ : ∃ p, n2 = p + 1 := ⟨n2 - 1, by omega⟩
  simp
  refine cC (decide ((↑v2_1 : Int) < (↑v1_0.length : Int))) (fun k4 h2 => ?_) (fun k4 h2 => ?_)
  ·have q2 := h2; try simp at q2
   have i2 : v2_1 < v1_0.length := by simpa using h2
   have m4 : v1_0.length ≤ 9223372036854775807 := by simpa using k4 0 _ rfl
   have w2 : IntKind.i64.wrap ((v2_1 : Int) + 1) = (v2_1 : Int) + 1 := wrap_of (by omega) (by omega)
   simp
   refine okD fun k5 => ?_
   refine drawI mixed (by kernel_rfl) (by kernel_rfl) ?_
   simp
   refine guardI rfl rfl rfl rfl rfl (by simp) (fun g1 => ?_) (fun g1 => ?_)
   ·have g1x := g1; try simp only [beq_true, beq_false, Bool.not_eq_true', Bool.not_eq_false', Bool.true_and, Bool.and_true] at g1x
    try simp at g1
    simp [i2, rowAt_map, g1x]
    repeat with_reducible refine sdg ?_
    refine guardI rfl rfl rfl rfl rfl (by simp) (fun _ => ?_) (fun g0 => by simp [g1x] at g0)
    simp [i1, rowAt_map, g1x]
    repeat with_reducible refine sdg ?_
    refine nxtI ⟨(p2, (v2_0 || (((nth v1_0 v2_1).Authority == (nth a1 v1_1).Authority) && (((nth v1_0 v2_1).Seq == (nth a1 v1_1).Seq) && (((nth v1_0 v2_1).Time == (nth a1 v1_1).Time) && (((nth v1_0 v2_1).Digest == (nth a1 v1_1).Digest) && ((nth v1_0 v2_1).Mark == (nth a1 v1_1).Mark)))))), (v2_1 + 1)), ?_, ?_⟩ (by simp) (wk_keep (by simp [w1, w2, g1x]))
    · rw [← e2]; simp only [s_l27Add_2, h2, cond_t, cond_f]
    · first | omega | (simp at *; omega)
   ·have g1x := g1; try simp only [beq_true, beq_false, Bool.not_eq_true', Bool.not_eq_false', Bool.true_and, Bool.and_true] at g1x
    simp [g1x]
    repeat with_reducible refine sdg ?_
    refine skipG rfl rfl rfl rfl (by simp) (by simp [g1x]) ?_
    simp [g1x]
    repeat with_reducible refine sdg ?_
    refine nxtI ⟨(p2, (v2_0 || (((nth v1_0 v2_1).Authority == (nth a1 v1_1).Authority) && (((nth v1_0 v2_1).Seq == (nth a1 v1_1).Seq) && (((nth v1_0 v2_1).Time == (nth a1 v1_1).Time) && (((nth v1_0 v2_1).Digest == (nth a1 v1_1).Digest) && ((nth v1_0 v2_1).Mark == (nth a1 v1_1).Mark)))))), (v2_1 + 1)), ?_, ?_⟩ (by simp) (wk_keep (by simp [w1, w2, g1x]))
    · rw [← e2]; simp only [s_l27Add_2, h2, cond_t, cond_f]
    · first | omega | (simp at *; omega)
  ·have q2 := h2; try simp at q2
   have x1 : s_l27Add_2 a1 v1_0 v1_1 (v1_0.length + 1) false 0 = v2_0 := by rw [← e2]; simp only [s_l27Add_2, h2, cond_t, cond_f]
   simp
   refine cC (!v2_0) (fun k6 h3 => ?_) (fun k6 h3 => ?_)
   ·have q3 := h3; try simp at q3
    simp [i1, rowAt_map]
    repeat with_reducible refine sd ?_
    refine nxtI ⟨(p1, (v1_0 ++ ([(nth a1 v1_1)] : List TStamp)), (v1_1 + 1)), ?_, ?_⟩ (by simp) (wk_of [((0, 0), some (40, 0))] [] rfl (by simp [w1]))
    · rw [← e1]; simp only [s_l27Add_1, h1, x1, h3, cond_t, cond_f]
    · first | omega | (simp at *; omega)
   ·have q3 := h3; try simp at q3
    simp
    refine nxtI ⟨(p1, v1_0, (v1_1 + 1)), ?_, ?_⟩ (by simp) (wk_keep (by simp [w1]))
    · rw [← e1]; simp only [s_l27Add_1, h1, x1, h3, cond_t, cond_f]
    · first | omega | (simp at *; omega)
 ·have q1 := h1; try simp at q1
  have c2 : a1.length ≤ 2342912 := sm_len (by simp (maxDischargeDepth := 12) [u0, u1])
  have x2 : s_l27Add_1 a1 (a1.length + 1) a0 0 = v1_0 := by rw [← e1]; simp only [s_l27Add_1, h1, cond_t, cond_f]
  simp
  refine retQ (rv := [.tmp 4]) ((.sref 0 0 0 v1_0.length)) rfl ?_
  have f1 := s_l27Add.eq_1 a0 a1; simp only [x2, cond_t, cond_f] at f1; simp [f1]
theorem s_StampsOf_ok (a0 : TEvidence) (u0 : Sm 2338816 a0) (u1 : stot a0 ≤ 33554500) : SoundD Tryz.prog 25 [a0.row] [[.sl 5 ((s_StampsOf a0).map TStamp.row)]] := by
 refine sound_ofD Tryz.func25 rfl (by kernel_rfl) ?_
 simp [Tryz.ntmps25]
 refine okL fun k1 => ?_
 refine loopI (ι := { s : Nat × (List TStamp) × Nat // s_StampsOf_1 a0 s.1 s.2.1 s.2.2 = s_StampsOf_1 a0 (a0.Strands.length + 1) ([] : List TStamp) 0 ∧ (1 ≤ s.1 ∧ a0.Strands.length < s.1 + s.2.2 ∧ s.2.2 ≤ a0.Strands.length ∧ s.2.1.length + cnL stc (a0.Strands.drop s.2.2) + cnL List.length a0.Fresh ≤ 33554500) }) (fun s => stOf 53 [eX 1 (a0.row.map .d), (3, .one (.sref 3 0 0 s.1.2.1.length), [.arr false 5 (s.1.2.1.map TStamp.row)]), eI 4 (↑s.1.2.2 : Int)]) (fun s => s.1.1) ⟨((a0.Strands.length + 1), ([] : List TStamp), 0), rfl, by (dsimp only; have u := u1; simp only [stot] at u; simp only [List.length_nil, List.drop_zero]; omega)⟩ (wk_of [((3, 0), some (7, 0))] [] rfl (by simp)) ?_
 rintro ⟨⟨n1, v1_0, v1_1⟩, e1, j1⟩
 try dsimp only at e1 j1
 obtain ⟨p1, rfl⟩ : ∃ p, n1 = p + 1 := ⟨n1 - 1, by omega⟩
 simp
 refine cC (decide ((↑v1_1 : Int) < (↑a0.Strands.length : Int))) (fun k2 h1 => ?_) (fun k2 h1 => ?_)
 ·have q1 := h1; try simp at q1
  have i1 : v1_1 < a0.Strands.length := by simpa using h1
  have m2 : a0.Strands.length ≤ 9223372036854775807 := by simpa using k2 10 _ rfl
  have c1 : a0.Strands.length ≤ 2338816 := sm_len (by simp (maxDischargeDepth := 12) [u0, u1])
  have w1 : IntKind.i64.wrap ((v1_1 : Int) + 1) = (v1_1 : Int) + 1 := wrap_of (by omega) (by omega)
  simp
  refine okL fun k3 => ?_
  refine loopI (ι := { s : Nat × (List TStamp) × Nat // s_StampsOf_2 a0 v1_1 s.1 s.2.1 s.2.2 = s_StampsOf_2 a0 v1_1 ((nth a0.Strands v1_1).Chain.length + 1) v1_0 0 ∧ (1 ≤ s.1 ∧ (nth a0.Strands v1_1).Chain.length < s.1 + s.2.2 ∧ s.2.2 ≤ (nth a0.Strands v1_1).Chain.length ∧ s.2.1.length + cnL (fun r => r.Stamps.length) ((nth a0.Strands v1_1).Chain.drop s.2.2) + cnL stc (a0.Strands.drop (v1_1 + 1)) + cnL List.length a0.Fresh ≤ 33554500) }) (fun s => stOf 53 [eX 1 (a0.row.map .d), (3, .one (.sref 3 0 0 s.1.2.1.length), [.arr false 5 (s.1.2.1.map TStamp.row)]), eI 4 (↑v1_1 : Int), eI 5 (↑s.1.2.2 : Int)]) (fun s => s.1.1) ⟨(((nth a0.Strands v1_1).Chain.length + 1), v1_0, 0), rfl, by (have d := stc_drop (l := a0.Strands) (i := v1_1) (by first | omega | (simp at *; omega)); dsimp only; simp only [stc, List.drop_zero] at d ⊢; omega)⟩ (wk_keep (by simp)) ?_
  rintro ⟨⟨n2, v2_0, v2_1⟩, e2, j2⟩
  try dsimp only at e2 j2
  obtain ⟨p2, rfl⟩ : ∃ p, n2 = p + 1 := ⟨n2 - 1, by omega⟩
  simp [i1, rowAt_map]
  repeat with_reducible refine sd ?_
  refine cC (decide ((↑v2_1 : Int) < (↑(nth a0.Strands v1_1).Chain.length : Int))) (fun k4 h2 => ?_) (fun k4 h2 => ?_)
  ·have q2 := h2; try simp at q2
   have i2 : v2_1 < (nth a0.Strands v1_1).Chain.length := by simpa using h2
   have m4 : (nth a0.Strands v1_1).Chain.length ≤ 9223372036854775807 := by simpa using k4 21 _ rfl
   have c2 : (nth a0.Strands v1_1).Chain.length ≤ 2338816 := sm_len (by simp (maxDischargeDepth := 12) [u0, u1])
   have w2 : IntKind.i64.wrap ((v2_1 : Int) + 1) = (v2_1 : Int) + 1 := wrap_of (by omega) (by omega)
   simp [i1, rowAt_map, i2]
   repeat with_reducible refine sd ?_
   refine callQ (c := (.sref 3 0 0 v2_0.length)) (L := [(3, 0)]) rfl rfl rfl rfl rfl rfl rfl (s_l27Add_ok v2_0 (nth (nth a0.Strands v1_1).Chain v2_1).Stamps (sg (TRenewal.sm_Stamps (sm_nth (TStrand.sm_Chain (sm_nth (TEvidence.sm_Strands u0)))))) (by (first | (have d := rst_drop (l := (nth a0.Strands v1_1).Chain) (i := v2_1) (by first | omega | (simp at *; omega)); omega) | (have d := fsh_drop (l := a0.Fresh) (i := v3_1) (by first | omega | (simp at *; omega)); omega)))) (by simp) (by simp) (by simp) (by simp) (by simp) (by simp) (by simp) (by simp [flatRows]) (by simp) ?_
   simp
   refine nxtI ⟨(p2, (s_l27Add v2_0 (nth (nth a0.Strands v1_1).Chain v2_1).Stamps), (v2_1 + 1)), ?_, ?_⟩ (by simp) (wk_of [((3, 0), some (37, 0))] [] rfl (by simp [w1, w2]))
   · rw [← e2]; simp only [s_StampsOf_2, h2, cond_t, cond_f]
   · (have d := rst_drop (l := (nth a0.Strands v1_1).Chain) (i := v2_1) (by first | omega | (simp at *; omega)); have z := s_l27Add_len v2_0 (nth (nth a0.Strands v1_1).Chain v2_1).Stamps; dsimp only; omega)
  ·have q2 := h2; try simp at q2
   have c3 : (nth a0.Strands v1_1).Chain.length ≤ 2338816 := sm_len (by simp (maxDischargeDepth := 12) [u0, u1])
   have x1 : s_StampsOf_2 a0 v1_1 ((nth a0.Strands v1_1).Chain.length + 1) v1_0 0 = v2_0 := by rw [← e2]; simp only [s_StampsOf_2, h2, cond_t, cond_f]
   simp
   refine nxtI ⟨(p1, v2_0, (v1_1 + 1)), ?_, ?_⟩ (by simp) (wk_keep (by simp [w1]))
   · rw [← e1]; simp only [s_StampsOf_1, h1, x1, cond_t, cond_f]
   · (first | omega | (dsimp only; omega) | (simp at *; omega))
 ·have q1 := h1; try simp at q1
  have c4 : a0.Strands.length ≤ 2338816 := sm_len (by simp (maxDischargeDepth := 12) [u0, u1])
  have x2 : s_StampsOf_1 a0 (a0.Strands.length + 1) ([] : List TStamp) 0 = v1_0 := by rw [← e1]; simp only [s_StampsOf_1, h1, cond_t, cond_f]
  simp
  refine okL fun k5 => ?_
  refine loopI (ι := { s : Nat × (List TStamp) × Nat // s_StampsOf_3 a0 s.1 s.2.1 s.2.2 = s_StampsOf_3 a0 (a0.Fresh.length + 1) v1_0 0 ∧ (1 ≤ s.1 ∧ a0.Fresh.length < s.1 + s.2.2 ∧ s.2.2 ≤ a0.Fresh.length ∧ s.2.1.length + cnL List.length (a0.Fresh.drop s.2.2) ≤ 33554500) }) (fun s => stOf 53 [eX 1 (a0.row.map .d), (3, .one (.sref 3 0 0 s.1.2.1.length), [.arr false 5 (s.1.2.1.map TStamp.row)]), eI 6 (↑s.1.2.2 : Int)]) (fun s => s.1.1) ⟨((a0.Fresh.length + 1), v1_0, 0), rfl, by (dsimp only; simp only [List.drop_zero]; omega)⟩ (wk_keep (by simp)) ?_
  rintro ⟨⟨n3, v3_0, v3_1⟩, e3, j3⟩
  try dsimp only at e3 j3
  obtain ⟨p3, rfl⟩ : ∃ p, n3 = p + 1 := ⟨n3 - 1, by omega⟩
  simp
  refine cC (decide ((↑v3_1 : Int) < (↑a0.Fresh.length : Int))) (fun k6 h3 => ?_) (fun k6 h3 => ?_)
  ·have q3 := h3; try simp at q3
   have i3 : v3_1 < a0.Fresh.length := by simpa using h3
   have m6 : a0.Fresh.length ≤ 9223372036854775807 := by simpa using k6 40 _ rfl
   have c5 : a0.Fresh.length ≤ 2338816 := sm_len (by simp (maxDischargeDepth := 12) [u0, u1])
   have w3 : IntKind.i64.wrap ((v3_1 : Int) + 1) = (v3_1 : Int) + 1 := wrap_of (by omega) (by omega)
   simp [i3, rowAt_map]
   repeat with_reducible refine sd ?_
   refine callQ (c := (.sref 3 0 0 v3_0.length)) (L := [(3, 0)]) rfl rfl rfl rfl rfl rfl rfl (s_l27Add_ok v3_0 (nth a0.Fresh v3_1) (sg (sm_nth (TEvidence.sm_Fresh u0))) (by (first | (have d := rst_drop (l := (nth a0.Strands v1_1).Chain) (i := v2_1) (by first | omega | (simp at *; omega)); omega) | (have d := fsh_drop (l := a0.Fresh) (i := v3_1) (by first | omega | (simp at *; omega)); omega)))) (by simp) (by simp) (by simp) (by simp) (by simp) (by simp) (by simp) (by simp [flatRows]) (by simp) ?_
   simp
   refine nxtI ⟨(p3, (s_l27Add v3_0 (nth a0.Fresh v3_1)), (v3_1 + 1)), ?_, ?_⟩ (by simp) (wk_of [((3, 0), some (51, 0))] [] rfl (by simp [w3]))
   · rw [← e3]; simp only [s_StampsOf_3, h3, cond_t, cond_f]
   · (have d := fsh_drop (l := a0.Fresh) (i := v3_1) (by first | omega | (simp at *; omega)); have z := s_l27Add_len v3_0 (nth a0.Fresh v3_1); dsimp only; omega)
  ·have q3 := h3; try simp at q3
   have c6 : a0.Fresh.length ≤ 2338816 := sm_len (by simp (maxDischargeDepth := 12) [u0, u1])
   have x3 : s_StampsOf_3 a0 (a0.Fresh.length + 1) v1_0 0 = v3_0 := by rw [← e3]; simp only [s_StampsOf_3, h3, cond_t, cond_f]
   simp
   refine retD (rv := [.tmp 2]) rfl ?_
   have f1 := s_StampsOf.eq_1 a0; simp only [x2, x3, cond_t, cond_f] at f1; simp [f1]
theorem s_AllStamps_ok (a0 : TWorld) (u0 : Sm 2330624 a0) (u1 : itn a0.Archives ≤ 1048576) (u2 : cn a0 ≤ 33554500) : SoundD Tryz.prog 7 [a0.row] [[.sl 5 ((s_AllStamps a0).map TStamp.row)]] := by
 refine sound_ofD Tryz.func7 rfl (by kernel_rfl) ?_
 simp [Tryz.ntmps7]
 refine okL fun k1 => ?_
 refine loopI (ι := { s : Nat × Nat × (List TStrand) // s_AllStamps_1 a0 s.1 s.2.1 s.2.2 = s_AllStamps_1 a0 (a0.Archives.length + 1) 0 ([] : List TStrand) ∧ (1 ≤ s.1 ∧ a0.Archives.length < s.1 + s.2.1 ∧ s.2.1 ≤ a0.Archives.length ∧ s.2.2.length + itn (a0.Archives.drop s.2.1) ≤ 1048576) }) (fun s => stOf 43 [eX 1 (a0.row.map .d), (3, .one (.bptr 3 0), [.box [.sref 3 1 0 s.1.2.2.length, .nil 1], .arr false 2 (s.1.2.2.map TStrand.row)]), eI 4 (↑s.1.2.1 : Int)]) (fun s => s.1.1) ⟨((a0.Archives.length + 1), 0, ([] : List TStrand)), rfl, by (dsimp only; simp only [List.length_nil, List.drop_zero]; omega)⟩ (wk_of [((3, 1), none)] [] rfl (by simp)) ?_
 rintro ⟨⟨n1, v1_0, v1_1⟩, e1, j1⟩
 try dsimp only at e1 j1
 obtain ⟨p1, rfl⟩ : ∃ p, n1 = p + 1 := ⟨n1 - 1, by omega⟩
 simp
 refine cC (decide ((↑v1_0 : Int) < (↑a0.Archives.length : Int))) (fun k2 h1 => ?_) (fun k2 h1 => ?_)
 ·have q1 := h1; try simp at q1
  have i1 : v1_0 < a0.Archives.length := by simpa using h1
  have m2 : a0.Archives.length ≤ 9223372036854775807 := by simpa using k2 9 _ rfl
  have c1 : a0.Archives.length ≤ 2330624 := sm_len (by simp (maxDischargeDepth := 12) [u0, u1, u2])
  have w1 : IntKind.i64.wrap ((v1_0 : Int) + 1) = (v1_0 : Int) + 1 := wrap_of (by omega) (by omega)
  simp
  refine okL fun k3 => ?_
  refine loopI (ι := { s : Nat × Nat × (List TStrand) // s_AllStamps_2 a0 v1_0 s.1 s.2.1 s.2.2 = s_AllStamps_2 a0 v1_0 ((nth a0.Archives v1_0).Items.length + 1) 0 v1_1 ∧ (1 ≤ s.1 ∧ (nth a0.Archives v1_0).Items.length < s.1 + s.2.1 ∧ s.2.1 ≤ (nth a0.Archives v1_0).Items.length ∧ s.2.2.length + ((nth a0.Archives v1_0).Items.length - s.2.1) + itn (a0.Archives.drop (v1_0 + 1)) ≤ 1048576) }) (fun s => stOf 43 [eX 1 (a0.row.map .d), (3, .one (.bptr 3 0), [.box [.sref 3 1 0 s.1.2.2.length, .nil 1], .arr false 2 (s.1.2.2.map TStrand.row)]), eI 4 (↑v1_0 : Int), eI 5 (↑s.1.2.1 : Int)]) (fun s => s.1.1) ⟨(((nth a0.Archives v1_0).Items.length + 1), 0, v1_1), rfl, by (have d := itn_drop (l := a0.Archives) (i := v1_0) (by first | omega | (simp at *; omega)); dsimp only; omega)⟩ (wk_keep (by simp)) ?_
  rintro ⟨⟨n2, v2_0, v2_1⟩, e2, j2⟩
  try dsimp only at e2 j2
  obtain ⟨p2, rfl⟩ : ∃ p, n2 = p + 1 := ⟨n2 - 1, by omega⟩
  simp [i1, rowAt_map]
  repeat ((with_reducible refine And.intro ?_ ?_); focus (intros; first | (first | omega | (have d := itn_drop (l := a0.Archives) (i := v1_0) (by first | omega | (simp at *; omega)); omega)) | ((try simp only [W_def, show ∀ x, IntKind.i64.wrap x = W x from fun _ => rfl] at *); omega)))
  refine cC (decide ((↑v2_0 : Int) < (↑(nth a0.Archives v1_0).Items.length : Int))) (fun k4 h2 => ?_) (fun k4 h2 => ?_)
  ·have q2 := h2; try simp at q2
   have i2 : v2_0 < (nth a0.Archives v1_0).Items.length := by simpa using h2
   have m4 : (nth a0.Archives v1_0).Items.length ≤ 9223372036854775807 := by simpa using k4 20 _ rfl
   have c2 : (nth a0.Archives v1_0).Items.length ≤ 2330624 := sm_len (by simp (maxDischargeDepth := 12) [u0, u1, u2])
   have w2 : IntKind.i64.wrap ((v2_0 : Int) + 1) = (v2_0 : Int) + 1 := wrap_of (by omega) (by omega)
   simp
   refine okD fun k5 => ?_
   refine drawI mixed (by kernel_rfl) (by kernel_rfl) ?_
   simp [i1, rowAt_map, i2]
   repeat ((with_reducible refine And.intro ?_ ?_); focus (intros; first | (first | omega | (have d := itn_drop (l := a0.Archives) (i := v1_0) (by first | omega | (simp at *; omega)); omega)) | ((try simp only [W_def, show ∀ x, IntKind.i64.wrap x = W x from fun _ => rfl] at *); omega)))
   refine cR (s_l20Copy_okI (nth (nth a0.Archives v1_0).Items v2_0).Strand (sg (TItem.sm_Strand (sm_nth (TArchive.sm_Items (sm_nth (TWorld.sm_Archives u0))))))) ?_
   simp
   refine evI rfl rfl rfl ?_
   simp
   refine evI rfl rfl rfl ?_
   simp
   repeat ((with_reducible refine And.intro ?_ ?_); focus (intros; first | (first | omega | (have d := itn_drop (l := a0.Archives) (i := v1_0) (by first | omega | (simp at *; omega)); omega)) | ((try simp only [W_def, show ∀ x, IntKind.i64.wrap x = W x from fun _ => rfl] at *); omega)))
   refine nxtI ⟨(p2, (v2_0 + 1), (v2_1 ++ ([(nth (nth a0.Archives v1_0).Items v2_0).Strand] : List TStrand))), ?_, ?_⟩ (by simp) (wk_of [((3, 1), some (39, 0))] [] rfl (by simp [w1, w2]))
   · rw [← e2]; simp only [s_AllStamps_2, h2, cond_t, cond_f]
   · (dsimp only; simp only [List.length_append, List.length_singleton]; omega)
  ·have q2 := h2; try simp at q2
   have c3 : (nth a0.Archives v1_0).Items.length ≤ 2330624 := sm_len (by simp (maxDischargeDepth := 12) [u0, u1, u2])
   have x1 : s_AllStamps_2 a0 v1_0 ((nth a0.Archives v1_0).Items.length + 1) 0 v1_1 = v2_1 := by rw [← e2]; simp only [s_AllStamps_2, h2, cond_t, cond_f]
   simp
   refine nxtI ⟨(p1, (v1_0 + 1), v2_1), ?_, ?_⟩ (by simp) (wk_keep (by simp [w1]))
   · rw [← e1]; simp only [s_AllStamps_1, h1, x1, cond_t, cond_f]
   · (first | omega | (dsimp only; omega) | (simp at *; omega))
 ·have q1 := h1; try simp at q1
  have c4 : a0.Archives.length ≤ 2330624 := sm_len (by simp (maxDischargeDepth := 12) [u0, u1, u2])
  have x2 : s_AllStamps_1 a0 (a0.Archives.length + 1) 0 ([] : List TStrand) = v1_1 := by rw [← e1]; simp only [s_AllStamps_1, h1, cond_t, cond_f]
  simp
  refine cD [false] (s_StampsOf_ok (TEvidence.mk v1_1 ([] : List (List TStamp))) (by (first | (rw [← x2, s_AllStamps_strands]; exact sg (strandsOf_ok u0 u1 (by decide))) | (rw [← x2, s_AllStamps_strands]; exact Nat.le_trans (strandsOf_stot a0) u2))) (by (first | (rw [← x2, s_AllStamps_strands]; exact sg (strandsOf_ok u0 u1 (by decide))) | (rw [← x2, s_AllStamps_strands]; exact Nat.le_trans (strandsOf_stot a0) u2)))) ?_
  simp
  refine retD (rv := [.tmp 2]) rfl ?_
  have f1 := s_AllStamps.eq_1 a0; simp only [x2, cond_t, cond_f] at f1; simp [f1]
theorem i_itemsOf_ok (a0 : TWorld) (u0 : Sm 2342912 a0) (u1 : itn a0.Archives ≤ 1048576) : SoundAt Tryz.prog 30 true [a0.row] [[.sl 16 ((i_itemsOf a0).map TItem.row)]] := by
 refine sound_of Tryz.func30 rfl (by kernel_rfl) ?_
 simp [Tryz.ntmps30]
 refine okL fun k1 => ?_
 refine loopI (ι := { s : Nat × (List TItem) × Nat // i_itemsOf_1 a0 s.1 s.2.1 s.2.2 = i_itemsOf_1 a0 (a0.Archives.length + 1) ([] : List TItem) 0 ∧ (1 ≤ s.1 ∧ a0.Archives.length < s.1 + s.2.2 ∧ s.2.2 ≤ a0.Archives.length ∧ s.2.1.length + itn (a0.Archives.drop s.2.2) ≤ 1048576) }) (fun s => stOf 19 [(3, .one (.sref 3 0 0 s.1.2.1.length), [.arr false 16 (s.1.2.1.map TItem.row)]), eL 7 2 a0.Archives TArchive.row, eI 8 (↑a0.Archives.length : Int), eI 9 (↑s.1.2.2 : Int)]) (fun s => s.1.1) ⟨((a0.Archives.length + 1), ([] : List TItem), 0), rfl, by (dsimp only; simp only [List.length_nil, List.drop_zero]; omega)⟩ (wk_of [((3, 0), none)] [] rfl (by simp)) ?_
 rintro ⟨⟨n1, v1_0, v1_1⟩, e1, j1⟩
 try dsimp only at e1 j1
 obtain ⟨p1, rfl⟩ : ∃ p, n1 = p + 1 := ⟨n1 - 1, by omega⟩
 simp
 refine cC (decide ((↑v1_1 : Int) < (↑a0.Archives.length : Int))) (fun k2 h1 => ?_) (fun k2 h1 => ?_)
 ·have q1 := h1; try simp at q1
  have i1 : v1_1 < a0.Archives.length := by simpa using h1
  have m2 : a0.Archives.length ≤ 9223372036854775807 := by simpa using k2 7 _ rfl
  have c1 : a0.Archives.length ≤ 2342912 := sm_len (by simp (maxDischargeDepth := 12) [u0, u1])
  have w1 : IntKind.i64.wrap ((v1_1 : Int) + 1) = (v1_1 : Int) + 1 := wrap_of (by omega) (by omega)
  simp [i1, rowAt_map]
  repeat ((with_reducible refine And.intro ?_ ?_); focus (intros; first | (have d := itn_drop (l := a0.Archives) (i := v1_1) (by first | omega | (simp at *; omega)); omega) | ((try simp only [W_def, show ∀ x, IntKind.i64.wrap x = W x from fun _ => rfl] at *); omega)))
  refine evI rfl rfl rfl ?_
  have c2 : (nth a0.Archives v1_1).Items.length ≤ 2342912 := sm_len (by simp (maxDischargeDepth := 12) [u0, u1])
  simp
  repeat ((with_reducible refine And.intro ?_ ?_); focus (intros; first | (have d := itn_drop (l := a0.Archives) (i := v1_1) (by first | omega | (simp at *; omega)); omega) | ((try simp only [W_def, show ∀ x, IntKind.i64.wrap x = W x from fun _ => rfl] at *); omega)))
  refine nxtI ⟨(p1, (v1_0 ++ (nth a0.Archives v1_1).Items), (v1_1 + 1)), ?_, ?_⟩ (by simp) (wk_of [((3, 0), some (16, 0))] [] rfl (by simp [w1]))
  · rw [← e1]; simp only [i_itemsOf_1, h1, cond_t, cond_f]
  · (have d := itn_drop (l := a0.Archives) (i := v1_1) (by first | omega | (simp at *; omega)); dsimp only; simp only [List.length_append]; omega)
 ·have q1 := h1; try simp at q1
  have c3 : a0.Archives.length ≤ 2342912 := sm_len (by simp (maxDischargeDepth := 12) [u0, u1])
  have x1 : i_itemsOf_1 a0 (a0.Archives.length + 1) ([] : List TItem) 0 = v1_0 := by rw [← e1]; simp only [i_itemsOf_1, h1, cond_t, cond_f]
  simp
  refine retOwn (rv := [.tmp 2]) rfl ?_
  have f1 := i_itemsOf.eq_1 a0; simp only [x1, cond_t, cond_f] at f1; simp [f1]
theorem i_StampsOf_c1_ok (a0 : List TStamp) (a1 : List TStamp) (u0 : Sm 2342912 a0) (u1 : a0.length + a1.length ≤ 33554500) : SoundC Tryz.prog 77 [[.sl 5 (a0.map TStamp.row)]] [.sl 5 (a1.map TStamp.row)] [.sl 5 ((i_StampsOf_c1 a0 a1).map TStamp.row)] := by
 refine sound_ofC Tryz.func77 rfl (by kernel_rfl) [false] (by simp) (fun v => ?_)
 simp [Tryz.ntmps77]
 refine okL fun k1 => ?_
 refine loopI (ι := { s : Nat × Nat × (List TStamp) // i_StampsOf_c1_1 a0 s.1 s.2.1 s.2.2 = i_StampsOf_c1_1 a0 (a0.length + 1) 0 a1 ∧ (1 ≤ s.1 ∧ a0.length < s.1 + s.2.1 ∧ s.2.1 ≤ a0.length ∧ s.2.2.length ≤ a1.length + s.2.1) }) (fun s => stOf 34 [(1, .fix v (.one (.bptr 1 0)), [.box [.sref 1 1 0 s.1.2.2.length], .arr false 5 (s.1.2.2.map TStamp.row)]), eL 8 5 a0 TStamp.row, eI 9 (↑a0.length : Int), eI 10 (↑s.1.2.1 : Int)]) (fun s => s.1.1) ⟨((a0.length + 1), 0, a1), rfl, by first | omega | (dsimp only; omega) | simp⟩ (wk_keep (by simp)) ?_
 rintro ⟨⟨n1, v1_0, v1_1⟩, e1, j1⟩
 try dsimp only at e1 j1
 obtain ⟨p1, rfl⟩ : ∃ p, n1 = p + 1 := ⟨n1 - 1, by omega⟩
 simp
 refine cC (decide ((↑v1_0 : Int) < (↑a0.length : Int))) (fun k2 h1 => ?_) (fun k2 h1 => ?_)
 ·have q1 := h1; try simp at q1
  have i1 : v1_0 < a0.length := by simpa using h1
  have m2 : a0.length ≤ 9223372036854775807 := by simpa using k2 8 _ rfl
  have c1 : a0.length ≤ 2342912 := sm_len (by simp (maxDischargeDepth := 12) [u0, u1])
  have w1 : IntKind.i64.wrap ((v1_0 : Int) + 1) = (v1_0 : Int) + 1 := wrap_of (by omega) (by omega)
  simp [i1, rowAt_map]
  repeat with_reducible refine sd ?_
  refine okL fun k3 => ?_
  refine loopI (ι := { s : Nat × Bool × Nat // i_StampsOf_c1_2 a0 v1_0 v1_1 s.1 s.2.1 s.2.2 = i_StampsOf_c1_2 a0 v1_0 v1_1 (v1_1.length + 1) false 0 ∧ (1 ≤ s.1 ∧ v1_1.length < s.1 + s.2.2 ∧ s.2.2 ≤ v1_1.length) }) (fun s => stOf 34 [(1, .fix v (.one (.bptr 1 0)), [.box [.sref 1 1 0 v1_1.length], .arr false 5 (v1_1.map TStamp.row)]), eX 4 ((nth a0 v1_0).row.map .d), eB 5 s.1.2.1, eL 8 5 a0 TStamp.row, eI 9 (↑a0.length : Int), eI 10 (↑v1_0 : Int), (14, .one (.sref 1 1 0 v1_1.length), []), eI 15 (↑v1_1.length : Int), eI 16 (↑s.1.2.2 : Int)]) (fun s => s.1.1) ⟨((v1_1.length + 1), false, 0), rfl, by first | omega | (dsimp only; omega) | simp⟩ (wk_keep (by simp)) ?_
  rintro ⟨⟨n2, v2_0, v2_1⟩, e2, j2⟩
  try dsimp only at e2 j2
  obtain ⟨p2, rfl⟩ : ∃ p, n2 = p + 1 := ⟨n2 - 1, by omega⟩
  simp
  refine cC (decide ((↑v2_1 : Int) < (↑v1_1.length : Int))) (fun k4 h2 => ?_) (fun k4 h2 => ?_)
  ·have q2 := h2; try simp at q2
   have i2 : v2_1 < v1_1.length := by simpa using h2
   have m4 : v1_1.length ≤ 9223372036854775807 := by simpa using k4 14 _ rfl
   have w2 : IntKind.i64.wrap ((v2_1 : Int) + 1) = (v2_1 : Int) + 1 := wrap_of (by omega) (by omega)
   simp [i2, rowAt_map]
   repeat with_reducible refine sd ?_
   refine nxtI ⟨(p2, (v2_0 || (((nth v1_1 v2_1).Authority == (nth a0 v1_0).Authority) && (((nth v1_1 v2_1).Seq == (nth a0 v1_0).Seq) && (((nth v1_1 v2_1).Time == (nth a0 v1_0).Time) && (((nth v1_1 v2_1).Digest == (nth a0 v1_0).Digest) && ((nth v1_1 v2_1).Mark == (nth a0 v1_0).Mark)))))), (v2_1 + 1)), ?_, ?_⟩ (by simp) (wk_keep (by simp [w1, w2]))
   · rw [← e2]; simp only [i_StampsOf_c1_2, h2, cond_t, cond_f]
   · first | omega | (simp at *; omega)
  ·have q2 := h2; try simp at q2
   have x1 : i_StampsOf_c1_2 a0 v1_0 v1_1 (v1_1.length + 1) false 0 = v2_0 := by rw [← e2]; simp only [i_StampsOf_c1_2, h2, cond_t, cond_f]
   simp
   refine cC (!v2_0) (fun k5 h3 => ?_) (fun k5 h3 => ?_)
   ·have q3 := h3; try simp at q3
    simp
    repeat with_reducible refine sd ?_
    refine nxtI ⟨(p1, (v1_0 + 1), (v1_1 ++ ([(nth a0 v1_0)] : List TStamp))), ?_, ?_⟩ (by simp) (wk_of [((1, 1), some (32, 0))] [] rfl (by simp [w1]))
    · rw [← e1]; simp only [i_StampsOf_c1_1, h1, x1, h3, cond_t, cond_f]
    · first | omega | (simp at *; omega)
   ·have q3 := h3; try simp at q3
    simp
    refine nxtI ⟨(p1, (v1_0 + 1), v1_1), ?_, ?_⟩ (by simp) (wk_keep (by simp [w1]))
    · rw [← e1]; simp only [i_StampsOf_c1_1, h1, x1, h3, cond_t, cond_f]
    · first | omega | (simp at *; omega)
 ·have q1 := h1; try simp at q1
  have c2 : a0.length ≤ 2342912 := sm_len (by simp (maxDischargeDepth := 12) [u0, u1])
  have x2 : i_StampsOf_c1_1 a0 (a0.length + 1) 0 a1 = v1_1 := by rw [← e1]; simp only [i_StampsOf_c1_1, h1, cond_t, cond_f]
  simp
  refine retC (ats := [(.sref 1 1 0 v1_1.length)]) rfl ?_ (.inr rfl)
  have f1 := i_StampsOf_c1.eq_1 a0 a1
  simp only [x2, cond_t, cond_f] at f1
  simp [f1]
theorem i_StampsOf_ok (a0 : TEvidence) (u0 : Sm 2338816 a0) (u1 : stot a0 ≤ 33554500) : SoundD Tryz.prog 31 [a0.row] [[.sl 5 ((i_StampsOf a0).map TStamp.row)]] := by
 refine sound_ofD Tryz.func31 rfl (by kernel_rfl) ?_
 simp [Tryz.ntmps31]
 refine mkFnI (t := 3) (cells := [.nil 5]) rfl rfl rfl rfl (by simp) (by simp) ?_
 simp
 refine okL fun k1 => ?_
 refine loopI (ι := { s : Nat × Nat × (List TStamp) // i_StampsOf_1 a0 s.1 s.2.1 s.2.2 = i_StampsOf_1 a0 (a0.Strands.length + 1) 0 ([] : List TStamp) ∧ (1 ≤ s.1 ∧ a0.Strands.length < s.1 + s.2.1 ∧ s.2.1 ≤ a0.Strands.length ∧ s.2.2.length + cnL stc (a0.Strands.drop s.2.1) + cnL List.length a0.Fresh ≤ 33554500) }) (fun s => stOf 44 [eX 1 (a0.row.map .d), (3, .one (.bptr 3 0), [.box [.sref 3 1 0 s.1.2.2.length], .arr false 5 (s.1.2.2.map TStamp.row)]), (4, .one (.fn 77 3), []), eL 13 2 a0.Strands TStrand.row, eI 14 (↑a0.Strands.length : Int), eI 15 (↑s.1.2.1 : Int)]) (fun s => s.1.1) ⟨((a0.Strands.length + 1), 0, ([] : List TStamp)), rfl, by (dsimp only; have u := u1; simp only [stot] at u; simp only [List.length_nil, List.drop_zero]; omega)⟩ (wk_of [((3, 1), none)] [] rfl (by simp)) ?_
 rintro ⟨⟨n1, v1_0, v1_1⟩, e1, j1⟩
 try dsimp only at e1 j1
 obtain ⟨p1, rfl⟩ : ∃ p, n1 = p + 1 := ⟨n1 - 1, by omega⟩
 simp
 refine cC (decide ((↑v1_0 : Int) < (↑a0.Strands.length : Int))) (fun k2 h1 => ?_) (fun k2 h1 => ?_)
 ·have q1 := h1; try simp at q1
  have i1 : v1_0 < a0.Strands.length := by simpa using h1
  have m2 : a0.Strands.length ≤ 9223372036854775807 := by simpa using k2 13 _ rfl
  have c1 : a0.Strands.length ≤ 2338816 := sm_len (by simp (maxDischargeDepth := 12) [u0, u1])
  have w1 : IntKind.i64.wrap ((v1_0 : Int) + 1) = (v1_0 : Int) + 1 := wrap_of (by omega) (by omega)
  simp [i1, rowAt_map]
  repeat with_reducible refine sd ?_
  refine okL fun k3 => ?_
  refine loopI (ι := { s : Nat × Nat × (List TStamp) // i_StampsOf_2 a0 v1_0 s.1 s.2.1 s.2.2 = i_StampsOf_2 a0 v1_0 ((nth a0.Strands v1_0).Chain.length + 1) 0 v1_1 ∧ (1 ≤ s.1 ∧ (nth a0.Strands v1_0).Chain.length < s.1 + s.2.1 ∧ s.2.1 ≤ (nth a0.Strands v1_0).Chain.length ∧ s.2.2.length + cnL (fun r => r.Stamps.length) ((nth a0.Strands v1_0).Chain.drop s.2.1) + cnL stc (a0.Strands.drop (v1_0 + 1)) + cnL List.length a0.Fresh ≤ 33554500) }) (fun s => stOf 44 [eX 1 (a0.row.map .d), (3, .one (.bptr 3 0), [.box [.sref 3 1 0 s.1.2.2.length], .arr false 5 (s.1.2.2.map TStamp.row)]), (4, .one (.fn 77 3), []), eL 13 2 a0.Strands TStrand.row, eI 14 (↑a0.Strands.length : Int), eI 15 (↑v1_0 : Int), eL 20 5 (nth a0.Strands v1_0).Chain TRenewal.row, eI 21 (↑(nth a0.Strands v1_0).Chain.length : Int), eI 22 (↑s.1.2.1 : Int)]) (fun s => s.1.1) ⟨(((nth a0.Strands v1_0).Chain.length + 1), 0, v1_1), rfl, by (have d := stc_drop (l := a0.Strands) (i := v1_0) (by first | omega | (simp at *; omega)); dsimp only; simp only [stc, List.drop_zero] at d ⊢; omega)⟩ (wk_keep (by simp)) ?_
  rintro ⟨⟨n2, v2_0, v2_1⟩, e2, j2⟩
  try dsimp only at e2 j2
  obtain ⟨p2, rfl⟩ : ∃ p, n2 = p + 1 := ⟨n2 - 1, by omega⟩
  simp
  refine cC (decide ((↑v2_0 : Int) < (↑(nth a0.Strands v1_0).Chain.length : Int))) (fun k4 h2 => ?_) (fun k4 h2 => ?_)
  ·have q2 := h2; try simp at q2
   have i2 : v2_0 < (nth a0.Strands v1_0).Chain.length := by simpa using h2
   have m4 : (nth a0.Strands v1_0).Chain.length ≤ 9223372036854775807 := by simpa using k4 20 _ rfl
   have c2 : (nth a0.Strands v1_0).Chain.length ≤ 2338816 := sm_len (by simp (maxDischargeDepth := 12) [u0, u1])
   have w2 : IntKind.i64.wrap ((v2_0 : Int) + 1) = (v2_0 : Int) + 1 := wrap_of (by omega) (by omega)
   simp [i2, rowAt_map]
   repeat with_reducible refine sd ?_
   refine callC (tf := 26) (u := 3) (row := [.sl 5 (v2_1.map TStamp.row)]) (row' := [.sl 5 ((i_StampsOf_c1 (nth (nth a0.Strands v1_0).Chain v2_0).Stamps v2_1).map TStamp.row)]) (cells := [.sref 3 1 0 v2_1.length]) [false] rfl rfl rfl rfl (i_StampsOf_c1_ok (nth (nth a0.Strands v1_0).Chain v2_0).Stamps v2_1 (sg (TRenewal.sm_Stamps (sm_nth (TStrand.sm_Chain (sm_nth (TEvidence.sm_Strands u0)))))) (by (first | (have d := rst_drop (l := (nth a0.Strands v1_0).Chain) (i := v2_0) (by first | omega | (simp at *; omega)); omega) | (have d := fsh_drop (l := a0.Fresh) (i := v3_0) (by first | omega | (simp at *; omega)); omega)))) (by simp) (by simp) (by simp) (by simp) (by simp) (by simp) (by simp) (by simp) (by simp) (by simp) (by simp [cleanB]) (by simp) (by simp) ?_
   simp
   refine nxtI ⟨(p2, (v2_0 + 1), (i_StampsOf_c1 (nth (nth a0.Strands v1_0).Chain v2_0).Stamps v2_1)), ?_, ?_⟩ (by simp) (wk_keep (by simp [w1, w2]))
   · rw [← e2]; simp only [i_StampsOf_2, h2, cond_t, cond_f]
   · (have d := rst_drop (l := (nth a0.Strands v1_0).Chain) (i := v2_0) (by first | omega | (simp at *; omega)); have z := i_StampsOf_c1_len (nth (nth a0.Strands v1_0).Chain v2_0).Stamps v2_1; dsimp only; omega)
  ·have q2 := h2; try simp at q2
   have c3 : (nth a0.Strands v1_0).Chain.length ≤ 2338816 := sm_len (by simp (maxDischargeDepth := 12) [u0, u1])
   have x1 : i_StampsOf_2 a0 v1_0 ((nth a0.Strands v1_0).Chain.length + 1) 0 v1_1 = v2_1 := by rw [← e2]; simp only [i_StampsOf_2, h2, cond_t, cond_f]
   simp
   refine nxtI ⟨(p1, (v1_0 + 1), v2_1), ?_, ?_⟩ (by simp) (wk_keep (by simp [w1]))
   · rw [← e1]; simp only [i_StampsOf_1, h1, x1, cond_t, cond_f]
   · (first | omega | (dsimp only; omega) | (simp at *; omega))
 ·have q1 := h1; try simp at q1
  have c4 : a0.Strands.length ≤ 2338816 := sm_len (by simp (maxDischargeDepth := 12) [u0, u1])
  have x2 : i_StampsOf_1 a0 (a0.Strands.length + 1) 0 ([] : List TStamp) = v1_1 := by rw [← e1]; simp only [i_StampsOf_1, h1, cond_t, cond_f]
  simp
  refine okL fun k5 => ?_
  refine loopI (ι := { s : Nat × Nat × (List TStamp) // i_StampsOf_3 a0 s.1 s.2.1 s.2.2 = i_StampsOf_3 a0 (a0.Fresh.length + 1) 0 v1_1 ∧ (1 ≤ s.1 ∧ a0.Fresh.length < s.1 + s.2.1 ∧ s.2.1 ≤ a0.Fresh.length ∧ s.2.2.length + cnL List.length (a0.Fresh.drop s.2.1) ≤ 33554500) }) (fun s => stOf 44 [(3, .one (.bptr 3 0), [.box [.sref 3 1 0 s.1.2.2.length], .arr false 5 (s.1.2.2.map TStamp.row)]), (4, .one (.fn 77 3), []), eL 33 1 a0.Fresh (slR 5 TStamp.row), eI 34 (↑a0.Fresh.length : Int), eI 35 (↑s.1.2.1 : Int)]) (fun s => s.1.1) ⟨((a0.Fresh.length + 1), 0, v1_1), rfl, by (dsimp only; simp only [List.drop_zero]; omega)⟩ (wk_keep (by simp)) ?_
  rintro ⟨⟨n3, v3_0, v3_1⟩, e3, j3⟩
  try dsimp only at e3 j3
  obtain ⟨p3, rfl⟩ : ∃ p, n3 = p + 1 := ⟨n3 - 1, by omega⟩
  simp
  refine cC (decide ((↑v3_0 : Int) < (↑a0.Fresh.length : Int))) (fun k6 h3 => ?_) (fun k6 h3 => ?_)
  ·have q3 := h3; try simp at q3
   have i3 : v3_0 < a0.Fresh.length := by simpa using h3
   have m6 : a0.Fresh.length ≤ 9223372036854775807 := by simpa using k6 33 _ rfl
   have c5 : a0.Fresh.length ≤ 2338816 := sm_len (by simp (maxDischargeDepth := 12) [u0, u1])
   have w3 : IntKind.i64.wrap ((v3_0 : Int) + 1) = (v3_0 : Int) + 1 := wrap_of (by omega) (by omega)
   simp [i3, rowAt_map]
   repeat with_reducible refine sd ?_
   refine callC (tf := 39) (u := 3) (row := [.sl 5 (v3_1.map TStamp.row)]) (row' := [.sl 5 ((i_StampsOf_c1 (nth a0.Fresh v3_0) v3_1).map TStamp.row)]) (cells := [.sref 3 1 0 v3_1.length]) [false] rfl rfl rfl rfl (i_StampsOf_c1_ok (nth a0.Fresh v3_0) v3_1 (sg (sm_nth (TEvidence.sm_Fresh u0))) (by (first | (have d := rst_drop (l := (nth a0.Strands v1_0).Chain) (i := v2_0) (by first | omega | (simp at *; omega)); omega) | (have d := fsh_drop (l := a0.Fresh) (i := v3_0) (by first | omega | (simp at *; omega)); omega)))) (by simp) (by simp) (by simp) (by simp) (by simp) (by simp) (by simp) (by simp) (by simp) (by simp) (by simp [cleanB]) (by simp) (by simp) ?_
   simp
   refine nxtI ⟨(p3, (v3_0 + 1), (i_StampsOf_c1 (nth a0.Fresh v3_0) v3_1)), ?_, ?_⟩ (by simp) (wk_keep (by simp [w3]))
   · rw [← e3]; simp only [i_StampsOf_3, h3, cond_t, cond_f]
   · (have d := fsh_drop (l := a0.Fresh) (i := v3_0) (by first | omega | (simp at *; omega)); have z := i_StampsOf_c1_len (nth a0.Fresh v3_0) v3_1; dsimp only; omega)
  ·have q3 := h3; try simp at q3
   have c6 : a0.Fresh.length ≤ 2338816 := sm_len (by simp (maxDischargeDepth := 12) [u0, u1])
   have x3 : i_StampsOf_3 a0 (a0.Fresh.length + 1) 0 v1_1 = v3_1 := by rw [← e3]; simp only [i_StampsOf_3, h3, cond_t, cond_f]
   simp
   refine retD (rv := [.tmp 2]) rfl ?_
   have f1 := i_StampsOf.eq_1 a0; simp only [x2, x3, cond_t, cond_f] at f1; simp [f1]
theorem i_AllStamps_ok (a0 : TWorld) (u0 : Sm 2334720 a0) (u1 : itn a0.Archives ≤ 1048576) (u2 : cn a0 ≤ 33554500) : SoundD Tryz.prog 9 [a0.row] [[.sl 5 ((i_AllStamps a0).map TStamp.row)]] := by
 refine sound_ofD Tryz.func9 rfl (by kernel_rfl) ?_
 simp [Tryz.ntmps9]
 refine cR (i_itemsOf_ok a0 (by (first | exact sg u0 | exact u1)) (by (first | exact sg u0 | exact u1))) ?_
 simp
 refine okL fun k1 => ?_
 refine loopI (ι := { s : Nat × Nat × (List TStrand) // i_AllStamps_1 a0 s.1 s.2.1 s.2.2 = i_AllStamps_1 a0 ((i_itemsOf a0).length + 1) 0 ([] : List TStrand) ∧ (1 ≤ s.1 ∧ (i_itemsOf a0).length < s.1 + s.2.1 ∧ s.2.1 ≤ (i_itemsOf a0).length ∧ s.2.2.length ≤ s.2.1) }) (fun s => stOf 23 [(3, .one (.bptr 3 0), [.box [.sref 3 1 0 s.1.2.2.length, .nil 1], .arr false 2 (s.1.2.2.map TStrand.row)]), eL 7 16 (i_itemsOf a0) TItem.row, eI 8 (↑(i_itemsOf a0).length : Int), eI 9 (↑s.1.2.1 : Int)]) (fun s => s.1.1) ⟨(((i_itemsOf a0).length + 1), 0, ([] : List TStrand)), rfl, by first | omega | (dsimp only; omega) | simp⟩ (wk_of [((3, 1), none)] [] rfl (by simp)) ?_
 rintro ⟨⟨n1, v1_0, v1_1⟩, e1, j1⟩
 try dsimp only at e1 j1
 obtain ⟨p1, rfl⟩ : ∃ p, n1 = p + 1 := ⟨n1 - 1, by omega⟩
 simp
 refine cC (decide ((↑v1_0 : Int) < (↑(i_itemsOf a0).length : Int))) (fun k2 h1 => ?_) (fun k2 h1 => ?_)
 ·have q1 := h1; try simp at q1
  have i1 : v1_0 < (i_itemsOf a0).length := by simpa using h1
  have m2 : (i_itemsOf a0).length ≤ 9223372036854775807 := by simpa using k2 7 _ rfl
  have w1 : IntKind.i64.wrap ((v1_0 : Int) + 1) = (v1_0 : Int) + 1 := wrap_of (by omega) (by omega)
  simp [i1, rowAt_map]
  repeat ((with_reducible refine And.intro ?_ ?_); focus (intros; first | (have z := i_itemsOf_len a0; omega) | ((try simp only [W_def, show ∀ x, IntKind.i64.wrap x = W x from fun _ => rfl] at *); omega)))
  refine evI rfl rfl rfl ?_
  simp
  refine evI rfl rfl rfl ?_
  simp
  repeat ((with_reducible refine And.intro ?_ ?_); focus (intros; first | (have z := i_itemsOf_len a0; omega) | ((try simp only [W_def, show ∀ x, IntKind.i64.wrap x = W x from fun _ => rfl] at *); omega)))
  refine nxtI ⟨(p1, (v1_0 + 1), (v1_1 ++ ([(nth (i_itemsOf a0) v1_0).Strand] : List TStrand))), ?_, ?_⟩ (by simp) (wk_of [((3, 1), some (18, 0))] [] rfl (by simp [w1]))
  · rw [← e1]; simp only [i_AllStamps_1, h1, cond_t, cond_f]
  · first | omega | (simp at *; omega)
 ·have q1 := h1; try simp at q1
  have x1 : i_AllStamps_1 a0 ((i_itemsOf a0).length + 1) 0 ([] : List TStrand) = v1_1 := by rw [← e1]; simp only [i_AllStamps_1, h1, cond_t, cond_f]
  simp
  refine cD [false] (i_StampsOf_ok (TEvidence.mk v1_1 ([] : List (List TStamp))) (by (first | (rw [← x1, i_AllStamps_strands]; exact sg (strandsOf_ok u0 u1 (by decide))) | (rw [← x1, i_AllStamps_strands]; exact Nat.le_trans (strandsOf_stot a0) u2))) (by (first | (rw [← x1, i_AllStamps_strands]; exact sg (strandsOf_ok u0 u1 (by decide))) | (rw [← x1, i_AllStamps_strands]; exact Nat.le_trans (strandsOf_stot a0) u2)))) ?_
  simp
  refine retD (rv := [.tmp 2]) rfl ?_
  have f1 := i_AllStamps.eq_1 a0; simp only [x1, cond_t, cond_f] at f1; simp [f1]
theorem l_eqStamp_ok (a0 : TStamp) (a1 : TStamp) : SoundAt Tryz.prog 32 false [a0.row, a1.row] [[.bool (l_eqStamp a0 a1)]] := by
 refine sound_of Tryz.func32 rfl (by kernel_rfl) ?_
 simp [Tryz.ntmps32]
 refine cC (a0.Authority != a1.Authority) (fun k1 h1 => ?_) (fun k1 h1 => ?_)
 ·have q1 := h1; try simp at q1
  simp
  refine retRd (rv := [.tmp 4]) rfl ?_
  have f1 := l_eqStamp.eq_1 a0 a1; simp only [h1, cond_t, cond_f] at f1; simp [f1]
 ·have q1 := h1; try simp at q1
  simp
  refine cC (a0.Seq != a1.Seq) (fun k2 h2 => ?_) (fun k2 h2 => ?_)
  ·have q2 := h2; try simp at q2
   simp
   refine retRd (rv := [.tmp 4]) rfl ?_
   have f2 := l_eqStamp.eq_1 a0 a1; simp only [h1, h2, cond_t, cond_f] at f2; simp [f2]
  ·have q2 := h2; try simp at q2
   simp
   refine cC (a0.Time != a1.Time) (fun k3 h3 => ?_) (fun k3 h3 => ?_)
   ·have q3 := h3; try simp at q3
    simp
    refine retRd (rv := [.tmp 4]) rfl ?_
    have f3 := l_eqStamp.eq_1 a0 a1; simp only [h1, h2, h3, cond_t, cond_f] at f3; simp [f3]
   ·have q3 := h3; try simp at q3
    simp
    refine cC (a0.Digest != a1.Digest) (fun k4 h4 => ?_) (fun k4 h4 => ?_)
    ·have q4 := h4; try simp at q4
     simp
     refine retRd (rv := [.tmp 4]) rfl ?_
     have f4 := l_eqStamp.eq_1 a0 a1; simp only [h1, h2, h3, h4, cond_t, cond_f] at f4; simp [f4]
    ·have q4 := h4; try simp at q4
     simp
     refine cC (a0.Mark != a1.Mark) (fun k5 h5 => ?_) (fun k5 h5 => ?_)
     ·have q5 := h5; try simp at q5
      simp
      refine retRd (rv := [.tmp 4]) rfl ?_
      have f5 := l_eqStamp.eq_1 a0 a1; simp only [h1, h2, h3, h4, h5, cond_t, cond_f] at f5; simp [f5]
     ·have q5 := h5; try simp at q5
      simp
      refine retRd (rv := [.tmp 4]) rfl ?_
      have f6 := l_eqStamp.eq_1 a0 a1; simp only [h1, h2, h3, h4, h5, cond_t, cond_f] at f6; simp [f6]
theorem l_eqStampS_ok (a0 : List TStamp) (a1 : List TStamp) : SoundAt Tryz.prog 10 false [[.sl 5 (a0.map TStamp.row)], [.sl 5 (a1.map TStamp.row)]] [[.bool (l_eqStampS a0 a1)]] := by
 refine sound_of Tryz.func10 rfl (by kernel_rfl) ?_
 simp [Tryz.ntmps10]
 refine cC ((↑a0.length : Int) != (↑a1.length : Int)) (fun k1 h1 => ?_) (fun k1 h1 => ?_)
 ·have q1 := h1; try simp at q1
  simp
  refine retRd (rv := [.tmp 4]) rfl ?_
  have f1 := l_eqStampS.eq_1 a0 a1; simp only [h1, cond_t, cond_f] at f1; simp [f1]
 ·have q1 := h1; try simp at q1
  simp
  refine okL fun k2 => ?_
  refine loopI (ι := { s : Nat × Nat // l_eqStampS_1 a0 a1 s.1 s.2 = l_eqStampS_1 a0 a1 (a0.length + 1) 0 ∧ (1 ≤ s.1 ∧ a0.length < s.1 + s.2 ∧ s.2 ≤ a0.length) }) (fun s => stOf 27 [eL 0 5 a0 TStamp.row, eL 1 5 a1 TStamp.row, eI 5 (↑s.1.2 : Int)]) (fun s => s.1.1) ⟨((a0.length + 1), 0), rfl, by first | omega | (dsimp only; omega) | simp⟩ (wk_keep (by simp)) ?_
  rintro ⟨⟨n1, v1_0⟩, e1, j1⟩
  try dsimp only at e1 j1
  obtain ⟨p1, rfl⟩ : ∃ p, n1 = p + 1 := ⟨n1 - 1, by omega⟩
  simp
  refine cC (decide ((↑v1_0 : Int) < (↑a0.length : Int))) (fun k3 h2 => ?_) (fun k3 h2 => ?_)
  ·have q2 := h2; try simp at q2
   have i1 : v1_0 < a0.length := by simpa using h2
   have m2 : a0.length ≤ 9223372036854775807 := by simpa using k3 0 _ rfl
   have w1 : IntKind.i64.wrap ((v1_0 : Int) + 1) = (v1_0 : Int) + 1 := wrap_of (by omega) (by omega)
   simp
   refine okD fun k4 => ?_
   refine drawI mixed (by kernel_rfl) (by kernel_rfl) ?_
   have i2 : v1_0 < a1.length := il
   simp [i1, rowAt_map, i2]
   repeat with_reducible refine sd ?_
   refine cR (l_eqStamp_ok (nth a0 v1_0) (nth a1 v1_0)) ?_
   simp
   refine cC (!(l_eqStamp (nth a0 v1_0) (nth a1 v1_0))) (fun k5 h3 => ?_) (fun k5 h3 => ?_)
   ·have q3 := h3; try simp at q3
    have x1 : l_eqStampS_1 a0 a1 (a0.length + 1) 0 = .inl false := by rw [← e1]; simp only [l_eqStampS_1, h2, h3, cond_t, cond_f]
    simp
    refine retRd (rv := [.tmp 4]) rfl ?_
    have f2 := l_eqStampS.eq_1 a0 a1; simp only [h1, x1, cond_t, cond_f] at f2; simp [f2]
   ·have q3 := h3; try simp at q3
    simp
    refine nxtI ⟨(p1, (v1_0 + 1)), ?_, ?_⟩ (by simp) (wk_keep (by simp [w1]))
    · rw [← e1]; simp only [l_eqStampS_1, h2, h3, cond_t, cond_f]
    · first | omega | (simp at *; omega)
  ·have q2 := h2; try simp at q2
   have x2 : l_eqStampS_1 a0 a1 (a0.length + 1) 0 = .inr () := by rw [← e1]; simp only [l_eqStampS_1, h2, cond_t, cond_f]
   simp
   refine retRd (rv := [.tmp 4]) rfl ?_
   have f3 := l_eqStampS.eq_1 a0 a1; simp only [h1, x2, cond_t, cond_f] at f3; simp [f3]
theorem l_eqKey_ok (a0 : TKey) (a1 : TKey) : SoundAt Tryz.prog 127 false [a0.row, a1.row] [[.bool (l_eqKey a0 a1)]] := by
 refine sound_of Tryz.func127 rfl (by kernel_rfl) ?_
 simp [Tryz.ntmps127]
 refine cC (a0.Number != a1.Number) (fun k1 h1 => ?_) (fun k1 h1 => ?_)
 ·have q1 := h1; try simp at q1
  simp
  refine retRd (rv := [.tmp 4]) rfl ?_
  have f1 := l_eqKey.eq_1 a0 a1; simp only [h1, cond_t, cond_f] at f1; simp [f1]
 ·have q1 := h1; try simp at q1
  simp
  refine cC (a0.Owner != a1.Owner) (fun k2 h2 => ?_) (fun k2 h2 => ?_)
  ·have q2 := h2; try simp at q2
   simp
   refine retRd (rv := [.tmp 4]) rfl ?_
   have f2 := l_eqKey.eq_1 a0 a1; simp only [h1, h2, cond_t, cond_f] at f2; simp [f2]
  ·have q2 := h2; try simp at q2
   simp
   refine cC (a0.Method != a1.Method) (fun k3 h3 => ?_) (fun k3 h3 => ?_)
   ·have q3 := h3; try simp at q3
    simp
    refine retRd (rv := [.tmp 4]) rfl ?_
    have f3 := l_eqKey.eq_1 a0 a1; simp only [h1, h2, h3, cond_t, cond_f] at f3; simp [f3]
   ·have q3 := h3; try simp at q3
    simp
    refine cC (a0.Born != a1.Born) (fun k4 h4 => ?_) (fun k4 h4 => ?_)
    ·have q4 := h4; try simp at q4
     simp
     refine retRd (rv := [.tmp 4]) rfl ?_
     have f4 := l_eqKey.eq_1 a0 a1; simp only [h1, h2, h3, h4, cond_t, cond_f] at f4; simp [f4]
    ·have q4 := h4; try simp at q4
     simp
     refine cC (a0.Secret != a1.Secret) (fun k5 h5 => ?_) (fun k5 h5 => ?_)
     ·have q5 := h5; try simp at q5
      simp
      refine retRd (rv := [.tmp 4]) rfl ?_
      have f5 := l_eqKey.eq_1 a0 a1; simp only [h1, h2, h3, h4, h5, cond_t, cond_f] at f5; simp [f5]
     ·have q5 := h5; try simp at q5
      simp
      refine retRd (rv := [.tmp 4]) rfl ?_
      have f6 := l_eqKey.eq_1 a0 a1; simp only [h1, h2, h3, h4, h5, cond_t, cond_f] at f6; simp [f6]
theorem l_eqKeyS_ok (a0 : List TKey) (a1 : List TKey) : SoundAt Tryz.prog 78 false [[.sl 5 (a0.map TKey.row)], [.sl 5 (a1.map TKey.row)]] [[.bool (l_eqKeyS a0 a1)]] := by
 refine sound_of Tryz.func78 rfl (by kernel_rfl) ?_
 simp [Tryz.ntmps78]
 refine cC ((↑a0.length : Int) != (↑a1.length : Int)) (fun k1 h1 => ?_) (fun k1 h1 => ?_)
 ·have q1 := h1; try simp at q1
  simp
  refine retRd (rv := [.tmp 4]) rfl ?_
  have f1 := l_eqKeyS.eq_1 a0 a1; simp only [h1, cond_t, cond_f] at f1; simp [f1]
 ·have q1 := h1; try simp at q1
  simp
  refine okL fun k2 => ?_
  refine loopI (ι := { s : Nat × Nat // l_eqKeyS_1 a0 a1 s.1 s.2 = l_eqKeyS_1 a0 a1 (a0.length + 1) 0 ∧ (1 ≤ s.1 ∧ a0.length < s.1 + s.2 ∧ s.2 ≤ a0.length) }) (fun s => stOf 27 [eL 0 5 a0 TKey.row, eL 1 5 a1 TKey.row, eI 5 (↑s.1.2 : Int)]) (fun s => s.1.1) ⟨((a0.length + 1), 0), rfl, by first | omega | (dsimp only; omega) | simp⟩ (wk_keep (by simp)) ?_
  rintro ⟨⟨n1, v1_0⟩, e1, j1⟩
  try dsimp only at e1 j1
  obtain ⟨p1, rfl⟩ : ∃ p, n1 = p + 1 := ⟨n1 - 1, by omega⟩
  simp
  refine cC (decide ((↑v1_0 : Int) < (↑a0.length : Int))) (fun k3 h2 => ?_) (fun k3 h2 => ?_)
  ·have q2 := h2; try simp at q2
   have i1 : v1_0 < a0.length := by simpa using h2
   have m2 : a0.length ≤ 9223372036854775807 := by simpa using k3 0 _ rfl
   have w1 : IntKind.i64.wrap ((v1_0 : Int) + 1) = (v1_0 : Int) + 1 := wrap_of (by omega) (by omega)
   simp
   refine okD fun k4 => ?_
   refine drawI mixed (by kernel_rfl) (by kernel_rfl) ?_
   have i2 : v1_0 < a1.length := il
   simp [i1, rowAt_map, i2]
   repeat with_reducible refine sd ?_
   refine cR (l_eqKey_ok (nth a0 v1_0) (nth a1 v1_0)) ?_
   simp
   refine cC (!(l_eqKey (nth a0 v1_0) (nth a1 v1_0))) (fun k5 h3 => ?_) (fun k5 h3 => ?_)
   ·have q3 := h3; try simp at q3
    have x1 : l_eqKeyS_1 a0 a1 (a0.length + 1) 0 = .inl false := by rw [← e1]; simp only [l_eqKeyS_1, h2, h3, cond_t, cond_f]
    simp
    refine retRd (rv := [.tmp 4]) rfl ?_
    have f2 := l_eqKeyS.eq_1 a0 a1; simp only [h1, x1, cond_t, cond_f] at f2; simp [f2]
   ·have q3 := h3; try simp at q3
    simp
    refine nxtI ⟨(p1, (v1_0 + 1)), ?_, ?_⟩ (by simp) (wk_keep (by simp [w1]))
    · rw [← e1]; simp only [l_eqKeyS_1, h2, h3, cond_t, cond_f]
    · first | omega | (simp at *; omega)
  ·have q2 := h2; try simp at q2
   have x2 : l_eqKeyS_1 a0 a1 (a0.length + 1) 0 = .inr () := by rw [← e1]; simp only [l_eqKeyS_1, h2, cond_t, cond_f]
   simp
   refine retRd (rv := [.tmp 4]) rfl ?_
   have f3 := l_eqKeyS.eq_1 a0 a1; simp only [h1, x2, cond_t, cond_f] at f3; simp [f3]
theorem l_eqAuthority_ok (a0 : TAuthority) (a1 : TAuthority) : SoundAt Tryz.prog 128 false [a0.row, a1.row] [[.bool (l_eqAuthority a0 a1)]] := by
 refine sound_of Tryz.func128 rfl (by kernel_rfl) ?_
 simp [Tryz.ntmps128]
 refine cC (a0.Id != a1.Id) (fun k1 h1 => ?_) (fun k1 h1 => ?_)
 ·have q1 := h1; try simp at q1
  simp
  refine retRd (rv := [.tmp 4]) rfl ?_
  have f1 := l_eqAuthority.eq_1 a0 a1; simp only [h1, cond_t, cond_f] at f1; simp [f1]
 ·have q1 := h1; try simp at q1
  simp
  refine cC (a0.Key != a1.Key) (fun k2 h2 => ?_) (fun k2 h2 => ?_)
  ·have q2 := h2; try simp at q2
   simp
   refine retRd (rv := [.tmp 4]) rfl ?_
   have f2 := l_eqAuthority.eq_1 a0 a1; simp only [h1, h2, cond_t, cond_f] at f2; simp [f2]
  ·have q2 := h2; try simp at q2
   simp
   refine cC (a0.Error != a1.Error) (fun k3 h3 => ?_) (fun k3 h3 => ?_)
   ·have q3 := h3; try simp at q3
    simp
    refine retRd (rv := [.tmp 4]) rfl ?_
    have f3 := l_eqAuthority.eq_1 a0 a1; simp only [h1, h2, h3, cond_t, cond_f] at f3; simp [f3]
   ·have q3 := h3; try simp at q3
    simp
    refine retRd (rv := [.tmp 4]) rfl ?_
    have f4 := l_eqAuthority.eq_1 a0 a1; simp only [h1, h2, h3, cond_t, cond_f] at f4; simp [f4]
theorem l_eqAuthorityS_ok (a0 : List TAuthority) (a1 : List TAuthority) : SoundAt Tryz.prog 79 false [[.sl 3 (a0.map TAuthority.row)], [.sl 3 (a1.map TAuthority.row)]] [[.bool (l_eqAuthorityS a0 a1)]] := by
 refine sound_of Tryz.func79 rfl (by kernel_rfl) ?_
 simp [Tryz.ntmps79]
 refine cC ((↑a0.length : Int) != (↑a1.length : Int)) (fun k1 h1 => ?_) (fun k1 h1 => ?_)
 ·have q1 := h1; try simp at q1
  simp
  refine retRd (rv := [.tmp 4]) rfl ?_
  have f1 := l_eqAuthorityS.eq_1 a0 a1; simp only [h1, cond_t, cond_f] at f1; simp [f1]
 ·have q1 := h1; try simp at q1
  simp
  refine okL fun k2 => ?_
  refine loopI (ι := { s : Nat × Nat // l_eqAuthorityS_1 a0 a1 s.1 s.2 = l_eqAuthorityS_1 a0 a1 (a0.length + 1) 0 ∧ (1 ≤ s.1 ∧ a0.length < s.1 + s.2 ∧ s.2 ≤ a0.length) }) (fun s => stOf 27 [eL 0 3 a0 TAuthority.row, eL 1 3 a1 TAuthority.row, eI 5 (↑s.1.2 : Int)]) (fun s => s.1.1) ⟨((a0.length + 1), 0), rfl, by first | omega | (dsimp only; omega) | simp⟩ (wk_keep (by simp)) ?_
  rintro ⟨⟨n1, v1_0⟩, e1, j1⟩
  try dsimp only at e1 j1
  obtain ⟨p1, rfl⟩ : ∃ p, n1 = p + 1 := ⟨n1 - 1, by omega⟩
  simp
  refine cC (decide ((↑v1_0 : Int) < (↑a0.length : Int))) (fun k3 h2 => ?_) (fun k3 h2 => ?_)
  ·have q2 := h2; try simp at q2
   have i1 : v1_0 < a0.length := by simpa using h2
   have m2 : a0.length ≤ 9223372036854775807 := by simpa using k3 0 _ rfl
   have w1 : IntKind.i64.wrap ((v1_0 : Int) + 1) = (v1_0 : Int) + 1 := wrap_of (by omega) (by omega)
   simp
   refine okD fun k4 => ?_
   refine drawI mixed (by kernel_rfl) (by kernel_rfl) ?_
   have i2 : v1_0 < a1.length := il
   simp [i1, rowAt_map, i2]
   repeat with_reducible refine sd ?_
   refine cR (l_eqAuthority_ok (nth a0 v1_0) (nth a1 v1_0)) ?_
   simp
   refine cC (!(l_eqAuthority (nth a0 v1_0) (nth a1 v1_0))) (fun k5 h3 => ?_) (fun k5 h3 => ?_)
   ·have q3 := h3; try simp at q3
    have x1 : l_eqAuthorityS_1 a0 a1 (a0.length + 1) 0 = .inl false := by rw [← e1]; simp only [l_eqAuthorityS_1, h2, h3, cond_t, cond_f]
    simp
    refine retRd (rv := [.tmp 4]) rfl ?_
    have f2 := l_eqAuthorityS.eq_1 a0 a1; simp only [h1, x1, cond_t, cond_f] at f2; simp [f2]
   ·have q3 := h3; try simp at q3
    simp
    refine nxtI ⟨(p1, (v1_0 + 1)), ?_, ?_⟩ (by simp) (wk_keep (by simp [w1]))
    · rw [← e1]; simp only [l_eqAuthorityS_1, h2, h3, cond_t, cond_f]
    · first | omega | (simp at *; omega)
  ·have q2 := h2; try simp at q2
   have x2 : l_eqAuthorityS_1 a0 a1 (a0.length + 1) 0 = .inr () := by rw [← e1]; simp only [l_eqAuthorityS_1, h2, cond_t, cond_f]
   simp
   refine retRd (rv := [.tmp 4]) rfl ?_
   have f3 := l_eqAuthorityS.eq_1 a0 a1; simp only [h1, x2, cond_t, cond_f] at f3; simp [f3]
theorem l_eqMethod_ok (a0 : TMethod) (a1 : TMethod) : SoundAt Tryz.prog 129 false [a0.row, a1.row] [[.bool (l_eqMethod a0 a1)]] := by
 refine sound_of Tryz.func129 rfl (by kernel_rfl) ?_
 simp [Tryz.ntmps129]
 refine cC (a0.Id != a1.Id) (fun k1 h1 => ?_) (fun k1 h1 => ?_)
 ·have q1 := h1; try simp at q1
  simp
  refine retRd (rv := [.tmp 4]) rfl ?_
  have f1 := l_eqMethod.eq_1 a0 a1; simp only [h1, cond_t, cond_f] at f1; simp [f1]
 ·have q1 := h1; try simp at q1
  simp
  refine cC (a0.Known != a1.Known) (fun k2 h2 => ?_) (fun k2 h2 => ?_)
  ·have q2 := h2; try simp at q2
   simp
   refine retRd (rv := [.tmp 4]) rfl ?_
   have f2 := l_eqMethod.eq_1 a0 a1; simp only [h1, h2, cond_t, cond_f] at f2; simp [f2]
  ·have q2 := h2; try simp at q2
   simp
   refine cC (a0.Ends != a1.Ends) (fun k3 h3 => ?_) (fun k3 h3 => ?_)
   ·have q3 := h3; try simp at q3
    simp
    refine retRd (rv := [.tmp 4]) rfl ?_
    have f3 := l_eqMethod.eq_1 a0 a1; simp only [h1, h2, h3, cond_t, cond_f] at f3; simp [f3]
   ·have q3 := h3; try simp at q3
    simp
    refine cC (a0.Broken != a1.Broken) (fun k4 h4 => ?_) (fun k4 h4 => ?_)
    ·have q4 := h4; try simp at q4
     simp
     refine retRd (rv := [.tmp 4]) rfl ?_
     have f4 := l_eqMethod.eq_1 a0 a1; simp only [h1, h2, h3, h4, cond_t, cond_f] at f4; simp [f4]
    ·have q4 := h4; try simp at q4
     simp
     refine retRd (rv := [.tmp 4]) rfl ?_
     have f5 := l_eqMethod.eq_1 a0 a1; simp only [h1, h2, h3, h4, cond_t, cond_f] at f5; simp [f5]
theorem l_eqMethodS_ok (a0 : List TMethod) (a1 : List TMethod) : SoundAt Tryz.prog 80 false [[.sl 4 (a0.map TMethod.row)], [.sl 4 (a1.map TMethod.row)]] [[.bool (l_eqMethodS a0 a1)]] := by
 refine sound_of Tryz.func80 rfl (by kernel_rfl) ?_
 simp [Tryz.ntmps80]
 refine cC ((↑a0.length : Int) != (↑a1.length : Int)) (fun k1 h1 => ?_) (fun k1 h1 => ?_)
 ·have q1 := h1; try simp at q1
  simp
  refine retRd (rv := [.tmp 4]) rfl ?_
  have f1 := l_eqMethodS.eq_1 a0 a1; simp only [h1, cond_t, cond_f] at f1; simp [f1]
 ·have q1 := h1; try simp at q1
  simp
  refine okL fun k2 => ?_
  refine loopI (ι := { s : Nat × Nat // l_eqMethodS_1 a0 a1 s.1 s.2 = l_eqMethodS_1 a0 a1 (a0.length + 1) 0 ∧ (1 ≤ s.1 ∧ a0.length < s.1 + s.2 ∧ s.2 ≤ a0.length) }) (fun s => stOf 27 [eL 0 4 a0 TMethod.row, eL 1 4 a1 TMethod.row, eI 5 (↑s.1.2 : Int)]) (fun s => s.1.1) ⟨((a0.length + 1), 0), rfl, by first | omega | (dsimp only; omega) | simp⟩ (wk_keep (by simp)) ?_
  rintro ⟨⟨n1, v1_0⟩, e1, j1⟩
  try dsimp only at e1 j1
  obtain ⟨p1, rfl⟩ : ∃ p, n1 = p + 1 := ⟨n1 - 1, by omega⟩
  simp
  refine cC (decide ((↑v1_0 : Int) < (↑a0.length : Int))) (fun k3 h2 => ?_) (fun k3 h2 => ?_)
  ·have q2 := h2; try simp at q2
   have i1 : v1_0 < a0.length := by simpa using h2
   have m2 : a0.length ≤ 9223372036854775807 := by simpa using k3 0 _ rfl
   have w1 : IntKind.i64.wrap ((v1_0 : Int) + 1) = (v1_0 : Int) + 1 := wrap_of (by omega) (by omega)
   simp
   refine okD fun k4 => ?_
   refine drawI mixed (by kernel_rfl) (by kernel_rfl) ?_
   have i2 : v1_0 < a1.length := il
   simp [i1, rowAt_map, i2]
   repeat with_reducible refine sd ?_
   refine cR (l_eqMethod_ok (nth a0 v1_0) (nth a1 v1_0)) ?_
   simp
   refine cC (!(l_eqMethod (nth a0 v1_0) (nth a1 v1_0))) (fun k5 h3 => ?_) (fun k5 h3 => ?_)
   ·have q3 := h3; try simp at q3
    have x1 : l_eqMethodS_1 a0 a1 (a0.length + 1) 0 = .inl false := by rw [← e1]; simp only [l_eqMethodS_1, h2, h3, cond_t, cond_f]
    simp
    refine retRd (rv := [.tmp 4]) rfl ?_
    have f2 := l_eqMethodS.eq_1 a0 a1; simp only [h1, x1, cond_t, cond_f] at f2; simp [f2]
   ·have q3 := h3; try simp at q3
    simp
    refine nxtI ⟨(p1, (v1_0 + 1)), ?_, ?_⟩ (by simp) (wk_keep (by simp [w1]))
    · rw [← e1]; simp only [l_eqMethodS_1, h2, h3, cond_t, cond_f]
    · first | omega | (simp at *; omega)
  ·have q2 := h2; try simp at q2
   have x2 : l_eqMethodS_1 a0 a1 (a0.length + 1) 0 = .inr () := by rw [← e1]; simp only [l_eqMethodS_1, h2, cond_t, cond_f]
   simp
   refine retRd (rv := [.tmp 4]) rfl ?_
   have f3 := l_eqMethodS.eq_1 a0 a1; simp only [h1, x2, cond_t, cond_f] at f3; simp [f3]
theorem l_eqFrame_ok (a0 : TFrame) (a1 : TFrame) : SoundAt Tryz.prog 33 false [a0.row, a1.row] [[.bool (l_eqFrame a0 a1)]] := by
 refine sound_of Tryz.func33 rfl (by kernel_rfl) ?_
 simp [Tryz.ntmps33]
 refine cR (l_eqKeyS_ok a0.Keys a1.Keys) ?_
 simp
 refine cC (!(l_eqKeyS a0.Keys a1.Keys)) (fun k1 h1 => ?_) (fun k1 h1 => ?_)
 ·have q1 := h1; try simp at q1
  simp
  refine retRd (rv := [.tmp 4]) rfl ?_
  have f1 := l_eqFrame.eq_1 a0 a1; simp only [h1, cond_t, cond_f] at f1; simp [f1]
 ·have q1 := h1; try simp at q1
  simp
  refine cR (l_eqAuthorityS_ok a0.Authorities a1.Authorities) ?_
  simp
  refine cC (!(l_eqAuthorityS a0.Authorities a1.Authorities)) (fun k2 h2 => ?_) (fun k2 h2 => ?_)
  ·have q2 := h2; try simp at q2
   simp
   refine retRd (rv := [.tmp 4]) rfl ?_
   have f2 := l_eqFrame.eq_1 a0 a1; simp only [h1, h2, cond_t, cond_f] at f2; simp [f2]
  ·have q2 := h2; try simp at q2
   simp
   refine cR (l_eqMethodS_ok a0.Methods a1.Methods) ?_
   simp
   refine cC (!(l_eqMethodS a0.Methods a1.Methods)) (fun k3 h3 => ?_) (fun k3 h3 => ?_)
   ·have q3 := h3; try simp at q3
    simp
    refine retRd (rv := [.tmp 4]) rfl ?_
    have f3 := l_eqFrame.eq_1 a0 a1; simp only [h1, h2, h3, cond_t, cond_f] at f3; simp [f3]
   ·have q3 := h3; try simp at q3
    simp
    refine cC (a0.Liars != a1.Liars) (fun k4 h4 => ?_) (fun k4 h4 => ?_)
    ·have q4 := h4; try simp at q4
     simp
     refine retRd (rv := [.tmp 4]) rfl ?_
     have f4 := l_eqFrame.eq_1 a0 a1; simp only [h1, h2, h3, h4, cond_t, cond_f] at f4; simp [f4]
    ·have q4 := h4; try simp at q4
     simp
     refine cC (a0.Now != a1.Now) (fun k5 h5 => ?_) (fun k5 h5 => ?_)
     ·have q5 := h5; try simp at q5
      simp
      refine retRd (rv := [.tmp 4]) rfl ?_
      have f5 := l_eqFrame.eq_1 a0 a1; simp only [h1, h2, h3, h4, h5, cond_t, cond_f] at f5; simp [f5]
     ·have q5 := h5; try simp at q5
      simp
      refine retRd (rv := [.tmp 4]) rfl ?_
      have f6 := l_eqFrame.eq_1 a0 a1; simp only [h1, h2, h3, h4, h5, cond_t, cond_f] at f6; simp [f6]
theorem l_eqCert_ok (a0 : TCert) (a1 : TCert) : SoundAt Tryz.prog 81 false [a0.row, a1.row] [[.bool (l_eqCert a0 a1)]] := by
 refine sound_of Tryz.func81 rfl (by kernel_rfl) ?_
 simp [Tryz.ntmps81]
 refine cC (a0.Serial != a1.Serial) (fun k1 h1 => ?_) (fun k1 h1 => ?_)
 ·have q1 := h1; try simp at q1
  simp
  refine retRd (rv := [.tmp 4]) rfl ?_
  have f1 := l_eqCert.eq_1 a0 a1; simp only [h1, cond_t, cond_f] at f1; simp [f1]
 ·have q1 := h1; try simp at q1
  simp
  refine cC (a0.Key != a1.Key) (fun k2 h2 => ?_) (fun k2 h2 => ?_)
  ·have q2 := h2; try simp at q2
   simp
   refine retRd (rv := [.tmp 4]) rfl ?_
   have f2 := l_eqCert.eq_1 a0 a1; simp only [h1, h2, cond_t, cond_f] at f2; simp [f2]
  ·have q2 := h2; try simp at q2
   simp
   refine cC (a0.Owner != a1.Owner) (fun k3 h3 => ?_) (fun k3 h3 => ?_)
   ·have q3 := h3; try simp at q3
    simp
    refine retRd (rv := [.tmp 4]) rfl ?_
    have f3 := l_eqCert.eq_1 a0 a1; simp only [h1, h2, h3, cond_t, cond_f] at f3; simp [f3]
   ·have q3 := h3; try simp at q3
    simp
    refine cC (a0.From != a1.From) (fun k4 h4 => ?_) (fun k4 h4 => ?_)
    ·have q4 := h4; try simp at q4
     simp
     refine retRd (rv := [.tmp 4]) rfl ?_
     have f4 := l_eqCert.eq_1 a0 a1; simp only [h1, h2, h3, h4, cond_t, cond_f] at f4; simp [f4]
    ·have q4 := h4; try simp at q4
     simp
     refine cC (a0.To != a1.To) (fun k5 h5 => ?_) (fun k5 h5 => ?_)
     ·have q5 := h5; try simp at q5
      simp
      refine retRd (rv := [.tmp 4]) rfl ?_
      have f5 := l_eqCert.eq_1 a0 a1; simp only [h1, h2, h3, h4, h5, cond_t, cond_f] at f5; simp [f5]
     ·have q5 := h5; try simp at q5
      simp
      refine cC (a0.Issuer != a1.Issuer) (fun k6 h6 => ?_) (fun k6 h6 => ?_)
      ·have q6 := h6; try simp at q6
       simp
       refine retRd (rv := [.tmp 4]) rfl ?_
       have f6 := l_eqCert.eq_1 a0 a1; simp only [h1, h2, h3, h4, h5, h6, cond_t, cond_f] at f6; simp [f6]
      ·have q6 := h6; try simp at q6
       simp
       refine cC (a0.Mark != a1.Mark) (fun k7 h7 => ?_) (fun k7 h7 => ?_)
       ·have q7 := h7; try simp at q7
        simp
        refine retRd (rv := [.tmp 4]) rfl ?_
        have f7 := l_eqCert.eq_1 a0 a1; simp only [h1, h2, h3, h4, h5, h6, h7, cond_t, cond_f] at f7; simp [f7]
       ·have q7 := h7; try simp at q7
        simp
        refine retRd (rv := [.tmp 4]) rfl ?_
        have f8 := l_eqCert.eq_1 a0 a1; simp only [h1, h2, h3, h4, h5, h6, h7, cond_t, cond_f] at f8; simp [f8]
theorem l_eqCertS_ok (a0 : List TCert) (a1 : List TCert) : SoundAt Tryz.prog 34 false [[.sl 7 (a0.map TCert.row)], [.sl 7 (a1.map TCert.row)]] [[.bool (l_eqCertS a0 a1)]] := by
 refine sound_of Tryz.func34 rfl (by kernel_rfl) ?_
 simp [Tryz.ntmps34]
 refine cC ((↑a0.length : Int) != (↑a1.length : Int)) (fun k1 h1 => ?_) (fun k1 h1 => ?_)
 ·have q1 := h1; try simp at q1
  simp
  refine retRd (rv := [.tmp 4]) rfl ?_
  have f1 := l_eqCertS.eq_1 a0 a1; simp only [h1, cond_t, cond_f] at f1; simp [f1]
 ·have q1 := h1; try simp at q1
  simp
  refine okL fun k2 => ?_
  refine loopI (ι := { s : Nat × Nat // l_eqCertS_1 a0 a1 s.1 s.2 = l_eqCertS_1 a0 a1 (a0.length + 1) 0 ∧ (1 ≤ s.1 ∧ a0.length < s.1 + s.2 ∧ s.2 ≤ a0.length) }) (fun s => stOf 27 [eL 0 7 a0 TCert.row, eL 1 7 a1 TCert.row, eI 5 (↑s.1.2 : Int)]) (fun s => s.1.1) ⟨((a0.length + 1), 0), rfl, by first | omega | (dsimp only; omega) | simp⟩ (wk_keep (by simp)) ?_
  rintro ⟨⟨n1, v1_0⟩, e1, j1⟩
  try dsimp only at e1 j1
  obtain ⟨p1, rfl⟩ : ∃ p, n1 = p + 1 := ⟨n1 - 1, by omega⟩
  simp
  refine cC (decide ((↑v1_0 : Int) < (↑a0.length : Int))) (fun k3 h2 => ?_) (fun k3 h2 => ?_)
  ·have q2 := h2; try simp at q2
   have i1 : v1_0 < a0.length := by simpa using h2
   have m2 : a0.length ≤ 9223372036854775807 := by simpa using k3 0 _ rfl
   have w1 : IntKind.i64.wrap ((v1_0 : Int) + 1) = (v1_0 : Int) + 1 := wrap_of (by omega) (by omega)
   simp
   refine okD fun k4 => ?_
   refine drawI mixed (by kernel_rfl) (by kernel_rfl) ?_
   have i2 : v1_0 < a1.length := il
   simp [i1, rowAt_map, i2]
   repeat with_reducible refine sd ?_
   refine cR (l_eqCert_ok (nth a0 v1_0) (nth a1 v1_0)) ?_
   simp
   refine cC (!(l_eqCert (nth a0 v1_0) (nth a1 v1_0))) (fun k5 h3 => ?_) (fun k5 h3 => ?_)
   ·have q3 := h3; try simp at q3
    have x1 : l_eqCertS_1 a0 a1 (a0.length + 1) 0 = .inl false := by rw [← e1]; simp only [l_eqCertS_1, h2, h3, cond_t, cond_f]
    simp
    refine retRd (rv := [.tmp 4]) rfl ?_
    have f2 := l_eqCertS.eq_1 a0 a1; simp only [h1, x1, cond_t, cond_f] at f2; simp [f2]
   ·have q3 := h3; try simp at q3
    simp
    refine nxtI ⟨(p1, (v1_0 + 1)), ?_, ?_⟩ (by simp) (wk_keep (by simp [w1]))
    · rw [← e1]; simp only [l_eqCertS_1, h2, h3, cond_t, cond_f]
    · first | omega | (simp at *; omega)
  ·have q2 := h2; try simp at q2
   have x2 : l_eqCertS_1 a0 a1 (a0.length + 1) 0 = .inr () := by rw [← e1]; simp only [l_eqCertS_1, h2, cond_t, cond_f]
   simp
   refine retRd (rv := [.tmp 4]) rfl ?_
   have f3 := l_eqCertS.eq_1 a0 a1; simp only [h1, x2, cond_t, cond_f] at f3; simp [f3]
theorem l_eqIntS_ok (a0 : List Int) (a1 : List Int) : SoundAt Tryz.prog 35 false [[.sl 1 (a0.map iR)], [.sl 1 (a1.map iR)]] [[.bool (l_eqIntS a0 a1)]] := by
 refine sound_of Tryz.func35 rfl (by kernel_rfl) ?_
 simp [Tryz.ntmps35]
 refine cC ((↑a0.length : Int) != (↑a1.length : Int)) (fun k1 h1 => ?_) (fun k1 h1 => ?_)
 ·have q1 := h1; try simp at q1
  simp
  refine retRd (rv := [.tmp 4]) rfl ?_
  have f1 := l_eqIntS.eq_1 a0 a1; simp only [h1, cond_t, cond_f] at f1; simp [f1]
 ·have q1 := h1; try simp at q1
  simp
  refine okL fun k2 => ?_
  refine loopI (ι := { s : Nat × Nat // l_eqIntS_1 a0 a1 s.1 s.2 = l_eqIntS_1 a0 a1 (a0.length + 1) 0 ∧ (1 ≤ s.1 ∧ a0.length < s.1 + s.2 ∧ s.2 ≤ a0.length) }) (fun s => stOf 26 [eL 0 1 a0 iR, eL 1 1 a1 iR, eI 5 (↑s.1.2 : Int)]) (fun s => s.1.1) ⟨((a0.length + 1), 0), rfl, by first | omega | (dsimp only; omega) | simp⟩ (wk_keep (by simp)) ?_
  rintro ⟨⟨n1, v1_0⟩, e1, j1⟩
  try dsimp only at e1 j1
  obtain ⟨p1, rfl⟩ : ∃ p, n1 = p + 1 := ⟨n1 - 1, by omega⟩
  simp
  refine cC (decide ((↑v1_0 : Int) < (↑a0.length : Int))) (fun k3 h2 => ?_) (fun k3 h2 => ?_)
  ·have q2 := h2; try simp at q2
   have i1 : v1_0 < a0.length := by simpa using h2
   have m2 : a0.length ≤ 9223372036854775807 := by simpa using k3 0 _ rfl
   have w1 : IntKind.i64.wrap ((v1_0 : Int) + 1) = (v1_0 : Int) + 1 := wrap_of (by omega) (by omega)
   simp
   refine okD fun k4 => ?_
   refine drawI mixed (by kernel_rfl) (by kernel_rfl) ?_
   have i2 : v1_0 < a1.length := il
   simp [i1, rowAt_map, i2]
   repeat with_reducible refine sd ?_
   refine cC ((nth a0 v1_0) != (nth a1 v1_0)) (fun k5 h3 => ?_) (fun k5 h3 => ?_)
   ·have q3 := h3; try simp at q3
    have x1 : l_eqIntS_1 a0 a1 (a0.length + 1) 0 = .inl false := by rw [← e1]; simp only [l_eqIntS_1, h2, h3, cond_t, cond_f]
    simp
    refine retRd (rv := [.tmp 4]) rfl ?_
    have f2 := l_eqIntS.eq_1 a0 a1; simp only [h1, x1, cond_t, cond_f] at f2; simp [f2]
   ·have q3 := h3; try simp at q3
    simp
    refine nxtI ⟨(p1, (v1_0 + 1)), ?_, ?_⟩ (by simp) (wk_keep (by simp [w1]))
    · rw [← e1]; simp only [l_eqIntS_1, h2, h3, cond_t, cond_f]
    · first | omega | (simp at *; omega)
  ·have q2 := h2; try simp at q2
   have x2 : l_eqIntS_1 a0 a1 (a0.length + 1) 0 = .inr () := by rw [← e1]; simp only [l_eqIntS_1, h2, cond_t, cond_f]
   simp
   refine retRd (rv := [.tmp 4]) rfl ?_
   have f3 := l_eqIntS.eq_1 a0 a1; simp only [h1, x2, cond_t, cond_f] at f3; simp [f3]
theorem l_eqStringS_ok (a0 : List ByteArray) (a1 : List ByteArray) : SoundAt Tryz.prog 217 false [[.sl 1 (a0.map sR)], [.sl 1 (a1.map sR)]] [[.bool (l_eqStringS a0 a1)]] := by
 refine sound_of Tryz.func217 rfl (by kernel_rfl) ?_
 simp [Tryz.ntmps217]
 refine cC ((↑a0.length : Int) != (↑a1.length : Int)) (fun k1 h1 => ?_) (fun k1 h1 => ?_)
 ·have q1 := h1; try simp at q1
  simp
  refine retRd (rv := [.tmp 4]) rfl ?_
  have f1 := l_eqStringS.eq_1 a0 a1; simp only [h1, cond_t, cond_f] at f1; simp [f1]
 ·have q1 := h1; try simp at q1
  simp
  refine okL fun k2 => ?_
  refine loopI (ι := { s : Nat × Nat // l_eqStringS_1 a0 a1 s.1 s.2 = l_eqStringS_1 a0 a1 (a0.length + 1) 0 ∧ (1 ≤ s.1 ∧ a0.length < s.1 + s.2 ∧ s.2 ≤ a0.length) }) (fun s => stOf 26 [eL 0 1 a0 sR, eL 1 1 a1 sR, eI 5 (↑s.1.2 : Int)]) (fun s => s.1.1) ⟨((a0.length + 1), 0), rfl, by first | omega | (dsimp only; omega) | simp⟩ (wk_keep (by simp)) ?_
  rintro ⟨⟨n1, v1_0⟩, e1, j1⟩
  try dsimp only at e1 j1
  obtain ⟨p1, rfl⟩ : ∃ p, n1 = p + 1 := ⟨n1 - 1, by omega⟩
  simp
  refine cC (decide ((↑v1_0 : Int) < (↑a0.length : Int))) (fun k3 h2 => ?_) (fun k3 h2 => ?_)
  ·have q2 := h2; try simp at q2
   have i1 : v1_0 < a0.length := by simpa using h2
   have m2 : a0.length ≤ 9223372036854775807 := by simpa using k3 0 _ rfl
   have w1 : IntKind.i64.wrap ((v1_0 : Int) + 1) = (v1_0 : Int) + 1 := wrap_of (by omega) (by omega)
   simp
   refine okD fun k4 => ?_
   refine drawI mixed (by kernel_rfl) (by kernel_rfl) ?_
   have i2 : v1_0 < a1.length := il
   simp [i1, rowAt_map, i2]
   repeat with_reducible refine sd ?_
   refine cC (!decide ((nth a0 v1_0) = (nth a1 v1_0))) (fun k5 h3 => ?_) (fun k5 h3 => ?_)
   ·have q3 := h3; try simp at q3
    have x1 : l_eqStringS_1 a0 a1 (a0.length + 1) 0 = .inl false := by rw [← e1]; simp only [l_eqStringS_1, h2, h3, cond_t, cond_f]
    simp
    refine retRd (rv := [.tmp 4]) rfl ?_
    have f2 := l_eqStringS.eq_1 a0 a1; simp only [h1, x1, cond_t, cond_f] at f2; simp [f2]
   ·have q3 := h3; try simp at q3
    simp
    refine nxtI ⟨(p1, (v1_0 + 1)), ?_, ?_⟩ (by simp) (wk_keep (by simp [w1]))
    · rw [← e1]; simp only [l_eqStringS_1, h2, h3, cond_t, cond_f]
    · first | omega | (simp at *; omega)
  ·have q2 := h2; try simp at q2
   have x2 : l_eqStringS_1 a0 a1 (a0.length + 1) 0 = .inr () := by rw [← e1]; simp only [l_eqStringS_1, h2, cond_t, cond_f]
   simp
   refine retRd (rv := [.tmp 4]) rfl ?_
   have f3 := l_eqStringS.eq_1 a0 a1; simp only [h1, x2, cond_t, cond_f] at f3; simp [f3]
theorem l_eqDocument_ok (a0 : TDocument) (a1 : TDocument) : SoundAt Tryz.prog 195 false [a0.row, a1.row] [[.bool (l_eqDocument a0 a1)]] := by
 refine sound_of Tryz.func195 rfl (by kernel_rfl) ?_
 simp [Tryz.ntmps195]
 refine cC (a0.Title != a1.Title) (fun k1 h1 => ?_) (fun k1 h1 => ?_)
 ·have q1 := h1; try simp at q1
  simp
  refine retRd (rv := [.tmp 4]) rfl ?_
  have f1 := l_eqDocument.eq_1 a0 a1; simp only [h1, cond_t, cond_f] at f1; simp [f1]
 ·have q1 := h1; try simp at q1
  simp
  refine cR (l_eqStringS_ok a0.Parts a1.Parts) ?_
  simp
  refine cC (!(l_eqStringS a0.Parts a1.Parts)) (fun k2 h2 => ?_) (fun k2 h2 => ?_)
  ·have q2 := h2; try simp at q2
   simp
   refine retRd (rv := [.tmp 4]) rfl ?_
   have f2 := l_eqDocument.eq_1 a0 a1; simp only [h1, h2, cond_t, cond_f] at f2; simp [f2]
  ·have q2 := h2; try simp at q2
   simp
   refine cR (l_eqIntS_ok a0.Salts a1.Salts) ?_
   simp
   refine cC (!(l_eqIntS a0.Salts a1.Salts)) (fun k3 h3 => ?_) (fun k3 h3 => ?_)
   ·have q3 := h3; try simp at q3
    simp
    refine retRd (rv := [.tmp 4]) rfl ?_
    have f3 := l_eqDocument.eq_1 a0 a1; simp only [h1, h2, h3, cond_t, cond_f] at f3; simp [f3]
   ·have q3 := h3; try simp at q3
    simp
    refine retRd (rv := [.tmp 4]) rfl ?_
    have f4 := l_eqDocument.eq_1 a0 a1; simp only [h1, h2, h3, cond_t, cond_f] at f4; simp [f4]
theorem l_eqSignature_ok (a0 : TSignature) (a1 : TSignature) : SoundAt Tryz.prog 196 false [a0.row, a1.row] [[.bool (l_eqSignature a0 a1)]] := by
 refine sound_of Tryz.func196 rfl (by kernel_rfl) ?_
 simp [Tryz.ntmps196]
 refine cC (a0.Key != a1.Key) (fun k1 h1 => ?_) (fun k1 h1 => ?_)
 ·have q1 := h1; try simp at q1
  simp
  refine retRd (rv := [.tmp 4]) rfl ?_
  have f1 := l_eqSignature.eq_1 a0 a1; simp only [h1, cond_t, cond_f] at f1; simp [f1]
 ·have q1 := h1; try simp at q1
  simp
  refine cC (a0.Serial != a1.Serial) (fun k2 h2 => ?_) (fun k2 h2 => ?_)
  ·have q2 := h2; try simp at q2
   simp
   refine retRd (rv := [.tmp 4]) rfl ?_
   have f2 := l_eqSignature.eq_1 a0 a1; simp only [h1, h2, cond_t, cond_f] at f2; simp [f2]
  ·have q2 := h2; try simp at q2
   simp
   refine cC (a0.Method != a1.Method) (fun k3 h3 => ?_) (fun k3 h3 => ?_)
   ·have q3 := h3; try simp at q3
    simp
    refine retRd (rv := [.tmp 4]) rfl ?_
    have f3 := l_eqSignature.eq_1 a0 a1; simp only [h1, h2, h3, cond_t, cond_f] at f3; simp [f3]
   ·have q3 := h3; try simp at q3
    simp
    refine cC (a0.Digest != a1.Digest) (fun k4 h4 => ?_) (fun k4 h4 => ?_)
    ·have q4 := h4; try simp at q4
     simp
     refine retRd (rv := [.tmp 4]) rfl ?_
     have f4 := l_eqSignature.eq_1 a0 a1; simp only [h1, h2, h3, h4, cond_t, cond_f] at f4; simp [f4]
    ·have q4 := h4; try simp at q4
     simp
     refine cC (a0.Commit != a1.Commit) (fun k5 h5 => ?_) (fun k5 h5 => ?_)
     ·have q5 := h5; try simp at q5
      simp
      refine retRd (rv := [.tmp 4]) rfl ?_
      have f5 := l_eqSignature.eq_1 a0 a1; simp only [h1, h2, h3, h4, h5, cond_t, cond_f] at f5; simp [f5]
     ·have q5 := h5; try simp at q5
      simp
      refine cC (a0.Org != a1.Org) (fun k6 h6 => ?_) (fun k6 h6 => ?_)
      ·have q6 := h6; try simp at q6
       simp
       refine retRd (rv := [.tmp 4]) rfl ?_
       have f6 := l_eqSignature.eq_1 a0 a1; simp only [h1, h2, h3, h4, h5, h6, cond_t, cond_f] at f6; simp [f6]
      ·have q6 := h6; try simp at q6
       simp
       refine cC (a0.Before != a1.Before) (fun k7 h7 => ?_) (fun k7 h7 => ?_)
       ·have q7 := h7; try simp at q7
        simp
        refine retRd (rv := [.tmp 4]) rfl ?_
        have f7 := l_eqSignature.eq_1 a0 a1; simp only [h1, h2, h3, h4, h5, h6, h7, cond_t, cond_f] at f7; simp [f7]
       ·have q7 := h7; try simp at q7
        simp
        refine cC (a0.After != a1.After) (fun k8 h8 => ?_) (fun k8 h8 => ?_)
        ·have q8 := h8; try simp at q8
         simp
         refine retRd (rv := [.tmp 4]) rfl ?_
         have f8 := l_eqSignature.eq_1 a0 a1; simp only [h1, h2, h3, h4, h5, h6, h7, h8, cond_t, cond_f] at f8; simp [f8]
        ·have q8 := h8; try simp at q8
         simp
         refine cC (a0.Mark != a1.Mark) (fun k9 h9 => ?_) (fun k9 h9 => ?_)
         ·have q9 := h9; try simp at q9
          simp
          refine retRd (rv := [.tmp 4]) rfl ?_
          have f9 := l_eqSignature.eq_1 a0 a1; simp only [h1, h2, h3, h4, h5, h6, h7, h8, h9, cond_t, cond_f] at f9; simp [f9]
         ·have q9 := h9; try simp at q9
          simp
          refine retRd (rv := [.tmp 4]) rfl ?_
          have f10 := l_eqSignature.eq_1 a0 a1; simp only [h1, h2, h3, h4, h5, h6, h7, h8, h9, cond_t, cond_f] at f10; simp [f10]
theorem l_eqPiece_ok (a0 : TPiece) (a1 : TPiece) : SoundAt Tryz.prog 233 false [a0.row, a1.row] [[.bool (l_eqPiece a0 a1)]] := by
 refine sound_of Tryz.func233 rfl (by kernel_rfl) ?_
 simp [Tryz.ntmps233]
 refine cC (a0.Key != a1.Key) (fun k1 h1 => ?_) (fun k1 h1 => ?_)
 ·have q1 := h1; try simp at q1
  simp
  refine retRd (rv := [.tmp 4]) rfl ?_
  have f1 := l_eqPiece.eq_1 a0 a1; simp only [h1, cond_t, cond_f] at f1; simp [f1]
 ·have q1 := h1; try simp at q1
  simp
  refine cR (l_eqIntS_ok a0.Ints a1.Ints) ?_
  simp
  refine cC (!(l_eqIntS a0.Ints a1.Ints)) (fun k2 h2 => ?_) (fun k2 h2 => ?_)
  ·have q2 := h2; try simp at q2
   simp
   refine retRd (rv := [.tmp 4]) rfl ?_
   have f2 := l_eqPiece.eq_1 a0 a1; simp only [h1, h2, cond_t, cond_f] at f2; simp [f2]
  ·have q2 := h2; try simp at q2
   simp
   refine cC (a0.Mark != a1.Mark) (fun k3 h3 => ?_) (fun k3 h3 => ?_)
   ·have q3 := h3; try simp at q3
    simp
    refine retRd (rv := [.tmp 4]) rfl ?_
    have f3 := l_eqPiece.eq_1 a0 a1; simp only [h1, h2, h3, cond_t, cond_f] at f3; simp [f3]
   ·have q3 := h3; try simp at q3
    simp
    refine retRd (rv := [.tmp 4]) rfl ?_
    have f4 := l_eqPiece.eq_1 a0 a1; simp only [h1, h2, h3, cond_t, cond_f] at f4; simp [f4]
theorem l_eqPieceS_ok (a0 : List TPiece) (a1 : List TPiece) : SoundAt Tryz.prog 218 false [[.sl 3 (a0.map TPiece.row)], [.sl 3 (a1.map TPiece.row)]] [[.bool (l_eqPieceS a0 a1)]] := by
 refine sound_of Tryz.func218 rfl (by kernel_rfl) ?_
 simp [Tryz.ntmps218]
 refine cC ((↑a0.length : Int) != (↑a1.length : Int)) (fun k1 h1 => ?_) (fun k1 h1 => ?_)
 ·have q1 := h1; try simp at q1
  simp
  refine retRd (rv := [.tmp 4]) rfl ?_
  have f1 := l_eqPieceS.eq_1 a0 a1; simp only [h1, cond_t, cond_f] at f1; simp [f1]
 ·have q1 := h1; try simp at q1
  simp
  refine okL fun k2 => ?_
  refine loopI (ι := { s : Nat × Nat // l_eqPieceS_1 a0 a1 s.1 s.2 = l_eqPieceS_1 a0 a1 (a0.length + 1) 0 ∧ (1 ≤ s.1 ∧ a0.length < s.1 + s.2 ∧ s.2 ≤ a0.length) }) (fun s => stOf 27 [eL 0 3 a0 TPiece.row, eL 1 3 a1 TPiece.row, eI 5 (↑s.1.2 : Int)]) (fun s => s.1.1) ⟨((a0.length + 1), 0), rfl, by first | omega | (dsimp only; omega) | simp⟩ (wk_keep (by simp)) ?_
  rintro ⟨⟨n1, v1_0⟩, e1, j1⟩
  try dsimp only at e1 j1
  obtain ⟨p1, rfl⟩ : ∃ p, n1 = p + 1 := ⟨n1 - 1, by omega⟩
  simp
  refine cC (decide ((↑v1_0 : Int) < (↑a0.length : Int))) (fun k3 h2 => ?_) (fun k3 h2 => ?_)
  ·have q2 := h2; try simp at q2
   have i1 : v1_0 < a0.length := by simpa using h2
   have m2 : a0.length ≤ 9223372036854775807 := by simpa using k3 0 _ rfl
   have w1 : IntKind.i64.wrap ((v1_0 : Int) + 1) = (v1_0 : Int) + 1 := wrap_of (by omega) (by omega)
   simp
   refine okD fun k4 => ?_
   refine drawI mixed (by kernel_rfl) (by kernel_rfl) ?_
   have i2 : v1_0 < a1.length := il
   simp [i1, rowAt_map, i2]
   repeat with_reducible refine sd ?_
   refine cR (l_eqPiece_ok (nth a0 v1_0) (nth a1 v1_0)) ?_
   simp
   refine cC (!(l_eqPiece (nth a0 v1_0) (nth a1 v1_0))) (fun k5 h3 => ?_) (fun k5 h3 => ?_)
   ·have q3 := h3; try simp at q3
    have x1 : l_eqPieceS_1 a0 a1 (a0.length + 1) 0 = .inl false := by rw [← e1]; simp only [l_eqPieceS_1, h2, h3, cond_t, cond_f]
    simp
    refine retRd (rv := [.tmp 4]) rfl ?_
    have f2 := l_eqPieceS.eq_1 a0 a1; simp only [h1, x1, cond_t, cond_f] at f2; simp [f2]
   ·have q3 := h3; try simp at q3
    simp
    refine nxtI ⟨(p1, (v1_0 + 1)), ?_, ?_⟩ (by simp) (wk_keep (by simp [w1]))
    · rw [← e1]; simp only [l_eqPieceS_1, h2, h3, cond_t, cond_f]
    · first | omega | (simp at *; omega)
  ·have q2 := h2; try simp at q2
   have x2 : l_eqPieceS_1 a0 a1 (a0.length + 1) 0 = .inr () := by rw [← e1]; simp only [l_eqPieceS_1, h2, cond_t, cond_f]
   simp
   refine retRd (rv := [.tmp 4]) rfl ?_
   have f3 := l_eqPieceS.eq_1 a0 a1; simp only [h1, x2, cond_t, cond_f] at f3; simp [f3]
theorem l_eqStep_ok (a0 : TStep) (a1 : TStep) : SoundAt Tryz.prog 247 false [a0.row, a1.row] [[.bool (l_eqStep a0 a1)]] := by
 refine sound_of Tryz.func247 rfl (by kernel_rfl) ?_
 simp [Tryz.ntmps247]
 refine cC (a0.Digest != a1.Digest) (fun k1 h1 => ?_) (fun k1 h1 => ?_)
 ·have q1 := h1; try simp at q1
  simp
  refine retRd (rv := [.tmp 4]) rfl ?_
  have f1 := l_eqStep.eq_1 a0 a1; simp only [h1, cond_t, cond_f] at f1; simp [f1]
 ·have q1 := h1; try simp at q1
  simp
  refine cC (!(a0.Left == a1.Left)) (fun k2 h2 => ?_) (fun k2 h2 => ?_)
  ·have q2 := h2; try simp at q2
   simp
   refine retRd (rv := [.tmp 4]) rfl ?_
   have f2 := l_eqStep.eq_1 a0 a1; simp only [h1, h2, cond_t, cond_f] at f2; simp [f2]
  ·have q2 := h2; try simp at q2
   simp
   refine retRd (rv := [.tmp 4]) rfl ?_
   have f3 := l_eqStep.eq_1 a0 a1; simp only [h1, h2, cond_t, cond_f] at f3; simp [f3]
theorem l_eqStepS_ok (a0 : List TStep) (a1 : List TStep) : SoundAt Tryz.prog 242 false [[.sl 2 (a0.map TStep.row)], [.sl 2 (a1.map TStep.row)]] [[.bool (l_eqStepS a0 a1)]] := by
 refine sound_of Tryz.func242 rfl (by kernel_rfl) ?_
 simp [Tryz.ntmps242]
 refine cC ((↑a0.length : Int) != (↑a1.length : Int)) (fun k1 h1 => ?_) (fun k1 h1 => ?_)
 ·have q1 := h1; try simp at q1
  simp
  refine retRd (rv := [.tmp 4]) rfl ?_
  have f1 := l_eqStepS.eq_1 a0 a1; simp only [h1, cond_t, cond_f] at f1; simp [f1]
 ·have q1 := h1; try simp at q1
  simp
  refine okL fun k2 => ?_
  refine loopI (ι := { s : Nat × Nat // l_eqStepS_1 a0 a1 s.1 s.2 = l_eqStepS_1 a0 a1 (a0.length + 1) 0 ∧ (1 ≤ s.1 ∧ a0.length < s.1 + s.2 ∧ s.2 ≤ a0.length) }) (fun s => stOf 27 [eL 0 2 a0 TStep.row, eL 1 2 a1 TStep.row, eI 5 (↑s.1.2 : Int)]) (fun s => s.1.1) ⟨((a0.length + 1), 0), rfl, by first | omega | (dsimp only; omega) | simp⟩ (wk_keep (by simp)) ?_
  rintro ⟨⟨n1, v1_0⟩, e1, j1⟩
  try dsimp only at e1 j1
  obtain ⟨p1, rfl⟩ : ∃ p, n1 = p + 1 := ⟨n1 - 1, by omega⟩
  simp
  refine cC (decide ((↑v1_0 : Int) < (↑a0.length : Int))) (fun k3 h2 => ?_) (fun k3 h2 => ?_)
  ·have q2 := h2; try simp at q2
   have i1 : v1_0 < a0.length := by simpa using h2
   have m2 : a0.length ≤ 9223372036854775807 := by simpa using k3 0 _ rfl
   have w1 : IntKind.i64.wrap ((v1_0 : Int) + 1) = (v1_0 : Int) + 1 := wrap_of (by omega) (by omega)
   simp
   refine okD fun k4 => ?_
   refine drawI mixed (by kernel_rfl) (by kernel_rfl) ?_
   have i2 : v1_0 < a1.length := il
   simp [i1, rowAt_map, i2]
   repeat with_reducible refine sd ?_
   refine cR (l_eqStep_ok (nth a0 v1_0) (nth a1 v1_0)) ?_
   simp
   refine cC (!(l_eqStep (nth a0 v1_0) (nth a1 v1_0))) (fun k5 h3 => ?_) (fun k5 h3 => ?_)
   ·have q3 := h3; try simp at q3
    have x1 : l_eqStepS_1 a0 a1 (a0.length + 1) 0 = .inl false := by rw [← e1]; simp only [l_eqStepS_1, h2, h3, cond_t, cond_f]
    simp
    refine retRd (rv := [.tmp 4]) rfl ?_
    have f2 := l_eqStepS.eq_1 a0 a1; simp only [h1, x1, cond_t, cond_f] at f2; simp [f2]
   ·have q3 := h3; try simp at q3
    simp
    refine nxtI ⟨(p1, (v1_0 + 1)), ?_, ?_⟩ (by simp) (wk_keep (by simp [w1]))
    · rw [← e1]; simp only [l_eqStepS_1, h2, h3, cond_t, cond_f]
    · first | omega | (simp at *; omega)
  ·have q2 := h2; try simp at q2
   have x2 : l_eqStepS_1 a0 a1 (a0.length + 1) 0 = .inr () := by rw [← e1]; simp only [l_eqStepS_1, h2, cond_t, cond_f]
   simp
   refine retRd (rv := [.tmp 4]) rfl ?_
   have f3 := l_eqStepS.eq_1 a0 a1; simp only [h1, x2, cond_t, cond_f] at f3; simp [f3]
theorem l_eqRenewal_ok (a0 : TRenewal) (a1 : TRenewal) : SoundAt Tryz.prog 234 false [a0.row, a1.row] [[.bool (l_eqRenewal a0 a1)]] := by
 refine sound_of Tryz.func234 rfl (by kernel_rfl) ?_
 simp [Tryz.ntmps234]
 refine cC (a0.Count != a1.Count) (fun k1 h1 => ?_) (fun k1 h1 => ?_)
 ·have q1 := h1; try simp at q1
  simp
  refine retRd (rv := [.tmp 4]) rfl ?_
  have f1 := l_eqRenewal.eq_1 a0 a1; simp only [h1, cond_t, cond_f] at f1; simp [f1]
 ·have q1 := h1; try simp at q1
  simp
  refine cC (a0.Method != a1.Method) (fun k2 h2 => ?_) (fun k2 h2 => ?_)
  ·have q2 := h2; try simp at q2
   simp
   refine retRd (rv := [.tmp 4]) rfl ?_
   have f2 := l_eqRenewal.eq_1 a0 a1; simp only [h1, h2, cond_t, cond_f] at f2; simp [f2]
  ·have q2 := h2; try simp at q2
   simp
   refine cC (a0.Root != a1.Root) (fun k3 h3 => ?_) (fun k3 h3 => ?_)
   ·have q3 := h3; try simp at q3
    simp
    refine retRd (rv := [.tmp 4]) rfl ?_
    have f3 := l_eqRenewal.eq_1 a0 a1; simp only [h1, h2, h3, cond_t, cond_f] at f3; simp [f3]
   ·have q3 := h3; try simp at q3
    simp
    refine cR (l_eqStepS_ok a0.Path a1.Path) ?_
    simp
    refine cC (!(l_eqStepS a0.Path a1.Path)) (fun k4 h4 => ?_) (fun k4 h4 => ?_)
    ·have q4 := h4; try simp at q4
     simp
     refine retRd (rv := [.tmp 4]) rfl ?_
     have f4 := l_eqRenewal.eq_1 a0 a1; simp only [h1, h2, h3, h4, cond_t, cond_f] at f4; simp [f4]
    ·have q4 := h4; try simp at q4
     simp
     refine cR (l_eqStampS_ok a0.Stamps a1.Stamps) ?_
     simp
     refine cC (!(l_eqStampS a0.Stamps a1.Stamps)) (fun k5 h5 => ?_) (fun k5 h5 => ?_)
     ·have q5 := h5; try simp at q5
      simp
      refine retRd (rv := [.tmp 4]) rfl ?_
      have f5 := l_eqRenewal.eq_1 a0 a1; simp only [h1, h2, h3, h4, h5, cond_t, cond_f] at f5; simp [f5]
     ·have q5 := h5; try simp at q5
      simp
      refine retRd (rv := [.tmp 4]) rfl ?_
      have f6 := l_eqRenewal.eq_1 a0 a1; simp only [h1, h2, h3, h4, h5, cond_t, cond_f] at f6; simp [f6]
theorem l_eqRenewalS_ok (a0 : List TRenewal) (a1 : List TRenewal) : SoundAt Tryz.prog 219 false [[.sl 5 (a0.map TRenewal.row)], [.sl 5 (a1.map TRenewal.row)]] [[.bool (l_eqRenewalS a0 a1)]] := by
 refine sound_of Tryz.func219 rfl (by kernel_rfl) ?_
 simp [Tryz.ntmps219]
 refine cC ((↑a0.length : Int) != (↑a1.length : Int)) (fun k1 h1 => ?_) (fun k1 h1 => ?_)
 ·have q1 := h1; try simp at q1
  simp
  refine retRd (rv := [.tmp 4]) rfl ?_
  have f1 := l_eqRenewalS.eq_1 a0 a1; simp only [h1, cond_t, cond_f] at f1; simp [f1]
 ·have q1 := h1; try simp at q1
  simp
  refine okL fun k2 => ?_
  refine loopI (ι := { s : Nat × Nat // l_eqRenewalS_1 a0 a1 s.1 s.2 = l_eqRenewalS_1 a0 a1 (a0.length + 1) 0 ∧ (1 ≤ s.1 ∧ a0.length < s.1 + s.2 ∧ s.2 ≤ a0.length) }) (fun s => stOf 27 [eL 0 5 a0 TRenewal.row, eL 1 5 a1 TRenewal.row, eI 5 (↑s.1.2 : Int)]) (fun s => s.1.1) ⟨((a0.length + 1), 0), rfl, by first | omega | (dsimp only; omega) | simp⟩ (wk_keep (by simp)) ?_
  rintro ⟨⟨n1, v1_0⟩, e1, j1⟩
  try dsimp only at e1 j1
  obtain ⟨p1, rfl⟩ : ∃ p, n1 = p + 1 := ⟨n1 - 1, by omega⟩
  simp
  refine cC (decide ((↑v1_0 : Int) < (↑a0.length : Int))) (fun k3 h2 => ?_) (fun k3 h2 => ?_)
  ·have q2 := h2; try simp at q2
   have i1 : v1_0 < a0.length := by simpa using h2
   have m2 : a0.length ≤ 9223372036854775807 := by simpa using k3 0 _ rfl
   have w1 : IntKind.i64.wrap ((v1_0 : Int) + 1) = (v1_0 : Int) + 1 := wrap_of (by omega) (by omega)
   simp
   refine okD fun k4 => ?_
   refine drawI mixed (by kernel_rfl) (by kernel_rfl) ?_
   have i2 : v1_0 < a1.length := il
   simp [i1, rowAt_map, i2]
   repeat with_reducible refine sd ?_
   refine cR (l_eqRenewal_ok (nth a0 v1_0) (nth a1 v1_0)) ?_
   simp
   refine cC (!(l_eqRenewal (nth a0 v1_0) (nth a1 v1_0))) (fun k5 h3 => ?_) (fun k5 h3 => ?_)
   ·have q3 := h3; try simp at q3
    have x1 : l_eqRenewalS_1 a0 a1 (a0.length + 1) 0 = .inl false := by rw [← e1]; simp only [l_eqRenewalS_1, h2, h3, cond_t, cond_f]
    simp
    refine retRd (rv := [.tmp 4]) rfl ?_
    have f2 := l_eqRenewalS.eq_1 a0 a1; simp only [h1, x1, cond_t, cond_f] at f2; simp [f2]
   ·have q3 := h3; try simp at q3
    simp
    refine nxtI ⟨(p1, (v1_0 + 1)), ?_, ?_⟩ (by simp) (wk_keep (by simp [w1]))
    · rw [← e1]; simp only [l_eqRenewalS_1, h2, h3, cond_t, cond_f]
    · first | omega | (simp at *; omega)
  ·have q2 := h2; try simp at q2
   have x2 : l_eqRenewalS_1 a0 a1 (a0.length + 1) 0 = .inr () := by rw [← e1]; simp only [l_eqRenewalS_1, h2, cond_t, cond_f]
   simp
   refine retRd (rv := [.tmp 4]) rfl ?_
   have f3 := l_eqRenewalS.eq_1 a0 a1; simp only [h1, x2, cond_t, cond_f] at f3; simp [f3]
theorem l_eqStrand_ok (a0 : TStrand) (a1 : TStrand) : SoundAt Tryz.prog 197 false [a0.row, a1.row] [[.bool (l_eqStrand a0 a1)]] := by
 refine sound_of Tryz.func197 rfl (by kernel_rfl) ?_
 simp [Tryz.ntmps197]
 refine cR (l_eqPieceS_ok a0.Pieces a1.Pieces) ?_
 simp
 refine cC (!(l_eqPieceS a0.Pieces a1.Pieces)) (fun k1 h1 => ?_) (fun k1 h1 => ?_)
 ·have q1 := h1; try simp at q1
  simp
  refine retRd (rv := [.tmp 4]) rfl ?_
  have f1 := l_eqStrand.eq_1 a0 a1; simp only [h1, cond_t, cond_f] at f1; simp [f1]
 ·have q1 := h1; try simp at q1
  simp
  refine cR (l_eqRenewalS_ok a0.Chain a1.Chain) ?_
  simp
  refine cC (!(l_eqRenewalS a0.Chain a1.Chain)) (fun k2 h2 => ?_) (fun k2 h2 => ?_)
  ·have q2 := h2; try simp at q2
   simp
   refine retRd (rv := [.tmp 4]) rfl ?_
   have f2 := l_eqStrand.eq_1 a0 a1; simp only [h1, h2, cond_t, cond_f] at f2; simp [f2]
  ·have q2 := h2; try simp at q2
   simp
   refine retRd (rv := [.tmp 4]) rfl ?_
   have f3 := l_eqStrand.eq_1 a0 a1; simp only [h1, h2, cond_t, cond_f] at f3; simp [f3]
theorem l_eqItem_ok (a0 : TItem) (a1 : TItem) : SoundAt Tryz.prog 166 false [a0.row, a1.row] [[.bool (l_eqItem a0 a1)]] := by
 refine sound_of Tryz.func166 rfl (by kernel_rfl) ?_
 simp [Tryz.ntmps166]
 refine cC (a0.Id != a1.Id) (fun k1 h1 => ?_) (fun k1 h1 => ?_)
 ·have q1 := h1; try simp at q1
  simp
  refine retRd (rv := [.tmp 4]) rfl ?_
  have f1 := l_eqItem.eq_1 a0 a1; simp only [h1, cond_t, cond_f] at f1; simp [f1]
 ·have q1 := h1; try simp at q1
  simp
  refine cC (a0.Keep != a1.Keep) (fun k2 h2 => ?_) (fun k2 h2 => ?_)
  ·have q2 := h2; try simp at q2
   simp
   refine retRd (rv := [.tmp 4]) rfl ?_
   have f2 := l_eqItem.eq_1 a0 a1; simp only [h1, h2, cond_t, cond_f] at f2; simp [f2]
  ·have q2 := h2; try simp at q2
   simp
   refine cR (l_eqDocument_ok a0.Doc a1.Doc) ?_
   simp
   refine cC (!(l_eqDocument a0.Doc a1.Doc)) (fun k3 h3 => ?_) (fun k3 h3 => ?_)
   ·have q3 := h3; try simp at q3
    simp
    refine retRd (rv := [.tmp 4]) rfl ?_
    have f3 := l_eqItem.eq_1 a0 a1; simp only [h1, h2, h3, cond_t, cond_f] at f3; simp [f3]
   ·have q3 := h3; try simp at q3
    simp
    refine cR (l_eqSignature_ok a0.Sig a1.Sig) ?_
    simp
    refine cC (!(l_eqSignature a0.Sig a1.Sig)) (fun k4 h4 => ?_) (fun k4 h4 => ?_)
    ·have q4 := h4; try simp at q4
     simp
     refine retRd (rv := [.tmp 4]) rfl ?_
     have f4 := l_eqItem.eq_1 a0 a1; simp only [h1, h2, h3, h4, cond_t, cond_f] at f4; simp [f4]
    ·have q4 := h4; try simp at q4
     simp
     refine cR (l_eqStrand_ok a0.Strand a1.Strand) ?_
     simp
     refine cC (!(l_eqStrand a0.Strand a1.Strand)) (fun k5 h5 => ?_) (fun k5 h5 => ?_)
     ·have q5 := h5; try simp at q5
      simp
      refine retRd (rv := [.tmp 4]) rfl ?_
      have f5 := l_eqItem.eq_1 a0 a1; simp only [h1, h2, h3, h4, h5, cond_t, cond_f] at f5; simp [f5]
     ·have q5 := h5; try simp at q5
      simp
      refine retRd (rv := [.tmp 4]) rfl ?_
      have f6 := l_eqItem.eq_1 a0 a1; simp only [h1, h2, h3, h4, h5, cond_t, cond_f] at f6; simp [f6]
theorem l_eqItemS_ok (a0 : List TItem) (a1 : List TItem) : SoundAt Tryz.prog 130 false [[.sl 16 (a0.map TItem.row)], [.sl 16 (a1.map TItem.row)]] [[.bool (l_eqItemS a0 a1)]] := by
 refine sound_of Tryz.func130 rfl (by kernel_rfl) ?_
 simp [Tryz.ntmps130]
 refine cC ((↑a0.length : Int) != (↑a1.length : Int)) (fun k1 h1 => ?_) (fun k1 h1 => ?_)
 ·have q1 := h1; try simp at q1
  simp
  refine retRd (rv := [.tmp 4]) rfl ?_
  have f1 := l_eqItemS.eq_1 a0 a1; simp only [h1, cond_t, cond_f] at f1; simp [f1]
 ·have q1 := h1; try simp at q1
  simp
  refine okL fun k2 => ?_
  refine loopI (ι := { s : Nat × Nat // l_eqItemS_1 a0 a1 s.1 s.2 = l_eqItemS_1 a0 a1 (a0.length + 1) 0 ∧ (1 ≤ s.1 ∧ a0.length < s.1 + s.2 ∧ s.2 ≤ a0.length) }) (fun s => stOf 27 [eL 0 16 a0 TItem.row, eL 1 16 a1 TItem.row, eI 5 (↑s.1.2 : Int)]) (fun s => s.1.1) ⟨((a0.length + 1), 0), rfl, by first | omega | (dsimp only; omega) | simp⟩ (wk_keep (by simp)) ?_
  rintro ⟨⟨n1, v1_0⟩, e1, j1⟩
  try dsimp only at e1 j1
  obtain ⟨p1, rfl⟩ : ∃ p, n1 = p + 1 := ⟨n1 - 1, by omega⟩
  simp
  refine cC (decide ((↑v1_0 : Int) < (↑a0.length : Int))) (fun k3 h2 => ?_) (fun k3 h2 => ?_)
  ·have q2 := h2; try simp at q2
   have i1 : v1_0 < a0.length := by simpa using h2
   have m2 : a0.length ≤ 9223372036854775807 := by simpa using k3 0 _ rfl
   have w1 : IntKind.i64.wrap ((v1_0 : Int) + 1) = (v1_0 : Int) + 1 := wrap_of (by omega) (by omega)
   simp
   refine okD fun k4 => ?_
   refine drawI mixed (by kernel_rfl) (by kernel_rfl) ?_
   have i2 : v1_0 < a1.length := il
   simp [i1, rowAt_map, i2]
   repeat with_reducible refine sd ?_
   refine cR (l_eqItem_ok (nth a0 v1_0) (nth a1 v1_0)) ?_
   simp
   refine cC (!(l_eqItem (nth a0 v1_0) (nth a1 v1_0))) (fun k5 h3 => ?_) (fun k5 h3 => ?_)
   ·have q3 := h3; try simp at q3
    have x1 : l_eqItemS_1 a0 a1 (a0.length + 1) 0 = .inl false := by rw [← e1]; simp only [l_eqItemS_1, h2, h3, cond_t, cond_f]
    simp
    refine retRd (rv := [.tmp 4]) rfl ?_
    have f2 := l_eqItemS.eq_1 a0 a1; simp only [h1, x1, cond_t, cond_f] at f2; simp [f2]
   ·have q3 := h3; try simp at q3
    simp
    refine nxtI ⟨(p1, (v1_0 + 1)), ?_, ?_⟩ (by simp) (wk_keep (by simp [w1]))
    · rw [← e1]; simp only [l_eqItemS_1, h2, h3, cond_t, cond_f]
    · first | omega | (simp at *; omega)
  ·have q2 := h2; try simp at q2
   have x2 : l_eqItemS_1 a0 a1 (a0.length + 1) 0 = .inr () := by rw [← e1]; simp only [l_eqItemS_1, h2, cond_t, cond_f]
   simp
   refine retRd (rv := [.tmp 4]) rfl ?_
   have f3 := l_eqItemS.eq_1 a0 a1; simp only [h1, x2, cond_t, cond_f] at f3; simp [f3]
theorem l_eqArchive_ok (a0 : TArchive) (a1 : TArchive) : SoundAt Tryz.prog 82 false [a0.row, a1.row] [[.bool (l_eqArchive a0 a1)]] := by
 refine sound_of Tryz.func82 rfl (by kernel_rfl) ?_
 simp [Tryz.ntmps82]
 refine cC (a0.Id != a1.Id) (fun k1 h1 => ?_) (fun k1 h1 => ?_)
 ·have q1 := h1; try simp at q1
  simp
  refine retRd (rv := [.tmp 4]) rfl ?_
  have f1 := l_eqArchive.eq_1 a0 a1; simp only [h1, cond_t, cond_f] at f1; simp [f1]
 ·have q1 := h1; try simp at q1
  simp
  refine cR (l_eqItemS_ok a0.Items a1.Items) ?_
  simp
  refine cC (!(l_eqItemS a0.Items a1.Items)) (fun k2 h2 => ?_) (fun k2 h2 => ?_)
  ·have q2 := h2; try simp at q2
   simp
   refine retRd (rv := [.tmp 4]) rfl ?_
   have f2 := l_eqArchive.eq_1 a0 a1; simp only [h1, h2, cond_t, cond_f] at f2; simp [f2]
  ·have q2 := h2; try simp at q2
   simp
   refine retRd (rv := [.tmp 4]) rfl ?_
   have f3 := l_eqArchive.eq_1 a0 a1; simp only [h1, h2, cond_t, cond_f] at f3; simp [f3]
theorem l_eqArchiveS_ok (a0 : List TArchive) (a1 : List TArchive) : SoundAt Tryz.prog 36 false [[.sl 2 (a0.map TArchive.row)], [.sl 2 (a1.map TArchive.row)]] [[.bool (l_eqArchiveS a0 a1)]] := by
 refine sound_of Tryz.func36 rfl (by kernel_rfl) ?_
 simp [Tryz.ntmps36]
 refine cC ((↑a0.length : Int) != (↑a1.length : Int)) (fun k1 h1 => ?_) (fun k1 h1 => ?_)
 ·have q1 := h1; try simp at q1
  simp
  refine retRd (rv := [.tmp 4]) rfl ?_
  have f1 := l_eqArchiveS.eq_1 a0 a1; simp only [h1, cond_t, cond_f] at f1; simp [f1]
 ·have q1 := h1; try simp at q1
  simp
  refine okL fun k2 => ?_
  refine loopI (ι := { s : Nat × Nat // l_eqArchiveS_1 a0 a1 s.1 s.2 = l_eqArchiveS_1 a0 a1 (a0.length + 1) 0 ∧ (1 ≤ s.1 ∧ a0.length < s.1 + s.2 ∧ s.2 ≤ a0.length) }) (fun s => stOf 27 [eL 0 2 a0 TArchive.row, eL 1 2 a1 TArchive.row, eI 5 (↑s.1.2 : Int)]) (fun s => s.1.1) ⟨((a0.length + 1), 0), rfl, by first | omega | (dsimp only; omega) | simp⟩ (wk_keep (by simp)) ?_
  rintro ⟨⟨n1, v1_0⟩, e1, j1⟩
  try dsimp only at e1 j1
  obtain ⟨p1, rfl⟩ : ∃ p, n1 = p + 1 := ⟨n1 - 1, by omega⟩
  simp
  refine cC (decide ((↑v1_0 : Int) < (↑a0.length : Int))) (fun k3 h2 => ?_) (fun k3 h2 => ?_)
  ·have q2 := h2; try simp at q2
   have i1 : v1_0 < a0.length := by simpa using h2
   have m2 : a0.length ≤ 9223372036854775807 := by simpa using k3 0 _ rfl
   have w1 : IntKind.i64.wrap ((v1_0 : Int) + 1) = (v1_0 : Int) + 1 := wrap_of (by omega) (by omega)
   simp
   refine okD fun k4 => ?_
   refine drawI mixed (by kernel_rfl) (by kernel_rfl) ?_
   have i2 : v1_0 < a1.length := il
   simp [i1, rowAt_map, i2]
   repeat with_reducible refine sd ?_
   refine cR (l_eqArchive_ok (nth a0 v1_0) (nth a1 v1_0)) ?_
   simp
   refine cC (!(l_eqArchive (nth a0 v1_0) (nth a1 v1_0))) (fun k5 h3 => ?_) (fun k5 h3 => ?_)
   ·have q3 := h3; try simp at q3
    have x1 : l_eqArchiveS_1 a0 a1 (a0.length + 1) 0 = .inl false := by rw [← e1]; simp only [l_eqArchiveS_1, h2, h3, cond_t, cond_f]
    simp
    refine retRd (rv := [.tmp 4]) rfl ?_
    have f2 := l_eqArchiveS.eq_1 a0 a1; simp only [h1, x1, cond_t, cond_f] at f2; simp [f2]
   ·have q3 := h3; try simp at q3
    simp
    refine nxtI ⟨(p1, (v1_0 + 1)), ?_, ?_⟩ (by simp) (wk_keep (by simp [w1]))
    · rw [← e1]; simp only [l_eqArchiveS_1, h2, h3, cond_t, cond_f]
    · first | omega | (simp at *; omega)
  ·have q2 := h2; try simp at q2
   have x2 : l_eqArchiveS_1 a0 a1 (a0.length + 1) 0 = .inr () := by rw [← e1]; simp only [l_eqArchiveS_1, h2, cond_t, cond_f]
   simp
   refine retRd (rv := [.tmp 4]) rfl ?_
   have f3 := l_eqArchiveS.eq_1 a0 a1; simp only [h1, x2, cond_t, cond_f] at f3; simp [f3]
theorem l_eqWorld_ok (a0 : TWorld) (a1 : TWorld) : SoundAt Tryz.prog 11 false [a0.row, a1.row] [[.bool (l_eqWorld a0 a1)]] := by
 refine sound_of Tryz.func11 rfl (by kernel_rfl) ?_
 simp [Tryz.ntmps11]
 refine cR (l_eqFrame_ok a0.Frame a1.Frame) ?_
 simp
 refine cC (!(l_eqFrame a0.Frame a1.Frame)) (fun k1 h1 => ?_) (fun k1 h1 => ?_)
 ·have q1 := h1; try simp at q1
  simp
  refine retRd (rv := [.tmp 4]) rfl ?_
  have f1 := l_eqWorld.eq_1 a0 a1; simp only [h1, cond_t, cond_f] at f1; simp [f1]
 ·have q1 := h1; try simp at q1
  simp
  refine cR (l_eqCertS_ok a0.Certs a1.Certs) ?_
  simp
  refine cC (!(l_eqCertS a0.Certs a1.Certs)) (fun k2 h2 => ?_) (fun k2 h2 => ?_)
  ·have q2 := h2; try simp at q2
   simp
   refine retRd (rv := [.tmp 4]) rfl ?_
   have f2 := l_eqWorld.eq_1 a0 a1; simp only [h1, h2, cond_t, cond_f] at f2; simp [f2]
  ·have q2 := h2; try simp at q2
   simp
   refine cR (l_eqIntS_ok a0.Ended a1.Ended) ?_
   simp
   refine cC (!(l_eqIntS a0.Ended a1.Ended)) (fun k3 h3 => ?_) (fun k3 h3 => ?_)
   ·have q3 := h3; try simp at q3
    simp
    refine retRd (rv := [.tmp 4]) rfl ?_
    have f3 := l_eqWorld.eq_1 a0 a1; simp only [h1, h2, h3, cond_t, cond_f] at f3; simp [f3]
   ·have q3 := h3; try simp at q3
    simp
    refine cR (l_eqArchiveS_ok a0.Archives a1.Archives) ?_
    simp
    refine cC (!(l_eqArchiveS a0.Archives a1.Archives)) (fun k4 h4 => ?_) (fun k4 h4 => ?_)
    ·have q4 := h4; try simp at q4
     simp
     refine retRd (rv := [.tmp 4]) rfl ?_
     have f4 := l_eqWorld.eq_1 a0 a1; simp only [h1, h2, h3, h4, cond_t, cond_f] at f4; simp [f4]
    ·have q4 := h4; try simp at q4
     simp
     refine cR (l_eqIntS_ok a0.Seqs a1.Seqs) ?_
     simp
     refine cC (!(l_eqIntS a0.Seqs a1.Seqs)) (fun k5 h5 => ?_) (fun k5 h5 => ?_)
     ·have q5 := h5; try simp at q5
      simp
      refine retRd (rv := [.tmp 4]) rfl ?_
      have f5 := l_eqWorld.eq_1 a0 a1; simp only [h1, h2, h3, h4, h5, cond_t, cond_f] at f5; simp [f5]
     ·have q5 := h5; try simp at q5
      simp
      refine cR (l_eqIntS_ok a0.Lying a1.Lying) ?_
      simp
      refine cC (!(l_eqIntS a0.Lying a1.Lying)) (fun k6 h6 => ?_) (fun k6 h6 => ?_)
      ·have q6 := h6; try simp at q6
       simp
       refine retRd (rv := [.tmp 4]) rfl ?_
       have f6 := l_eqWorld.eq_1 a0 a1; simp only [h1, h2, h3, h4, h5, h6, cond_t, cond_f] at f6; simp [f6]
      ·have q6 := h6; try simp at q6
       simp
       refine cC (a0.Next != a1.Next) (fun k7 h7 => ?_) (fun k7 h7 => ?_)
       ·have q7 := h7; try simp at q7
        simp
        refine retRd (rv := [.tmp 4]) rfl ?_
        have f7 := l_eqWorld.eq_1 a0 a1; simp only [h1, h2, h3, h4, h5, h6, h7, cond_t, cond_f] at f7; simp [f7]
       ·have q7 := h7; try simp at q7
        simp
        refine cR (l_eqIntS_ok a0.Forged a1.Forged) ?_
        simp
        refine cC (!(l_eqIntS a0.Forged a1.Forged)) (fun k8 h8 => ?_) (fun k8 h8 => ?_)
        ·have q8 := h8; try simp at q8
         simp
         refine retRd (rv := [.tmp 4]) rfl ?_
         have f8 := l_eqWorld.eq_1 a0 a1; simp only [h1, h2, h3, h4, h5, h6, h7, h8, cond_t, cond_f] at f8; simp [f8]
        ·have q8 := h8; try simp at q8
         simp
         refine retRd (rv := [.tmp 4]) rfl ?_
         have f9 := l_eqWorld.eq_1 a0 a1; simp only [h1, h2, h3, h4, h5, h6, h7, h8, cond_t, cond_f] at f9; simp [f9]
theorem l_markKeyS_ok (a0 : List TKey) (a1 : Int) : SoundM Tryz.prog 83 [.sl 5 (a0.map TKey.row)] [[.int .i64 a1]] [.sl 5 ((l_markKeyS a0 a1).1.map TKey.row)] (.int .i64 (l_markKeyS a0 a1).2) := by
 refine sound_ofM Tryz.func83 rfl (by kernel_rfl) (fun v => ?_)
 simp [Tryz.ntmps83]
 refine okL fun k1 => ?_
 refine loopI (ι := { s : Nat × Int × Nat × (List TKey) // l_markKeyS_1 s.1 s.2.1 s.2.2.1 s.2.2.2 = l_markKeyS_1 (a0.length + 1) a1 0 a0 ∧ (1 ≤ s.1 ∧ s.2.2.2.length < s.1 + s.2.2.1) }) (fun s => stOf 48 [(0, .fix v (.one (.sref 0 0 0 s.1.2.2.2.length)), [.arr true 5 (s.1.2.2.2.map TKey.row)]), eI 1 s.1.2.1, eI 5 (↑s.1.2.2.1 : Int)]) (fun s => s.1.1) ⟨((a0.length + 1), a1, 0, a0), rfl, by first | omega | (dsimp only; omega) | simp⟩ (wk_keep (by simp)) ?_
 rintro ⟨⟨n1, v1_0, v1_1, v1_2⟩, e1, j1⟩
 try dsimp only at e1 j1
 obtain ⟨p1, rfl⟩ : ∃ p, n1 = p + 1 := ⟨n1 - 1, by omega⟩
 simp
 refine cC (decide ((↑v1_1 : Int) < (↑v1_2.length : Int))) (fun k2 h1 => ?_) (fun k2 h1 => ?_)
 ·have q1 := h1; try simp at q1
  have i1 : v1_1 < v1_2.length := by simpa using h1
  have m2 : v1_2.length ≤ 9223372036854775807 := by simpa using k2 0 _ rfl
  have w1 : IntKind.i64.wrap ((v1_1 : Int) + 1) = (v1_1 : Int) + 1 := wrap_of (by omega) (by omega)
  simp [i1, rowAt_map, set_map (x := (TKey.mk v1_0 (nth v1_2 v1_1).Owner (nth v1_2 v1_1).Method (nth v1_2 v1_1).Born (nth v1_2 v1_1).Secret)) rfl, rowAt_set_self, List.set_set, set_map (x := (TKey.mk v1_0 (W (v1_0 + 1)) (nth v1_2 v1_1).Method (nth v1_2 v1_1).Born (nth v1_2 v1_1).Secret)) rfl, set_map (x := (TKey.mk v1_0 (W (v1_0 + 1)) (W ((W (v1_0 + 1)) + 1)) (nth v1_2 v1_1).Born (nth v1_2 v1_1).Secret)) rfl, set_map (x := (TKey.mk v1_0 (W (v1_0 + 1)) (W ((W (v1_0 + 1)) + 1)) (W ((W ((W (v1_0 + 1)) + 1)) + 1)) (nth v1_2 v1_1).Secret)) rfl, set_map (x := (TKey.mk v1_0 (W (v1_0 + 1)) (W ((W (v1_0 + 1)) + 1)) (W ((W ((W (v1_0 + 1)) + 1)) + 1)) (W ((W ((W ((W (v1_0 + 1)) + 1)) + 1)) + 1)))) rfl]
  repeat with_reducible refine sd ?_
  refine nxtI ⟨(p1, (W ((W ((W ((W ((W (v1_0 + 1)) + 1)) + 1)) + 1)) + 1)), (v1_1 + 1), (v1_2.set v1_1 (TKey.mk v1_0 (W (v1_0 + 1)) (W ((W (v1_0 + 1)) + 1)) (W ((W ((W (v1_0 + 1)) + 1)) + 1)) (W ((W ((W ((W (v1_0 + 1)) + 1)) + 1)) + 1))))), ?_, ?_⟩ (by simp) (wk_keep (by simp [w1]))
  · rw [← e1]; simp only [l_markKeyS_1, h1, cond_t, cond_f]
  · (simp; omega)
 ·have q1 := h1; try simp at q1
  have x1 : l_markKeyS_1 (a0.length + 1) a1 0 a0 = (v1_0, v1_2) := by rw [← e1]; simp only [l_markKeyS_1, h1, cond_t, cond_f]
  simp
  refine retM (rv := [.tmp 4]) rfl ?_
  have f1 := l_markKeyS.eq_1 a0 a1; simp only [x1, cond_t, cond_f] at f1; simp [f1]
theorem l_markAuthorityS_ok (a0 : List TAuthority) (a1 : Int) : SoundM Tryz.prog 84 [.sl 3 (a0.map TAuthority.row)] [[.int .i64 a1]] [.sl 3 ((l_markAuthorityS a0 a1).1.map TAuthority.row)] (.int .i64 (l_markAuthorityS a0 a1).2) := by
 refine sound_ofM Tryz.func84 rfl (by kernel_rfl) (fun v => ?_)
 simp [Tryz.ntmps84]
 refine okL fun k1 => ?_
 refine loopI (ι := { s : Nat × Int × Nat × (List TAuthority) // l_markAuthorityS_1 s.1 s.2.1 s.2.2.1 s.2.2.2 = l_markAuthorityS_1 (a0.length + 1) a1 0 a0 ∧ (1 ≤ s.1 ∧ s.2.2.2.length < s.1 + s.2.2.1) }) (fun s => stOf 34 [(0, .fix v (.one (.sref 0 0 0 s.1.2.2.2.length)), [.arr true 3 (s.1.2.2.2.map TAuthority.row)]), eI 1 s.1.2.1, eI 5 (↑s.1.2.2.1 : Int)]) (fun s => s.1.1) ⟨((a0.length + 1), a1, 0, a0), rfl, by first | omega | (dsimp only; omega) | simp⟩ (wk_keep (by simp)) ?_
 rintro ⟨⟨n1, v1_0, v1_1, v1_2⟩, e1, j1⟩
 try dsimp only at e1 j1
 obtain ⟨p1, rfl⟩ : ∃ p, n1 = p + 1 := ⟨n1 - 1, by omega⟩
 simp
 refine cC (decide ((↑v1_1 : Int) < (↑v1_2.length : Int))) (fun k2 h1 => ?_) (fun k2 h1 => ?_)
 ·have q1 := h1; try simp at q1
  have i1 : v1_1 < v1_2.length := by simpa using h1
  have m2 : v1_2.length ≤ 9223372036854775807 := by simpa using k2 0 _ rfl
  have w1 : IntKind.i64.wrap ((v1_1 : Int) + 1) = (v1_1 : Int) + 1 := wrap_of (by omega) (by omega)
  simp [i1, rowAt_map, set_map (x := (TAuthority.mk v1_0 (nth v1_2 v1_1).Key (nth v1_2 v1_1).Error)) rfl, rowAt_set_self, List.set_set, set_map (x := (TAuthority.mk v1_0 (W (v1_0 + 1)) (nth v1_2 v1_1).Error)) rfl, set_map (x := (TAuthority.mk v1_0 (W (v1_0 + 1)) (W ((W (v1_0 + 1)) + 1)))) rfl]
  repeat with_reducible refine sd ?_
  refine nxtI ⟨(p1, (W ((W ((W (v1_0 + 1)) + 1)) + 1)), (v1_1 + 1), (v1_2.set v1_1 (TAuthority.mk v1_0 (W (v1_0 + 1)) (W ((W (v1_0 + 1)) + 1))))), ?_, ?_⟩ (by simp) (wk_keep (by simp [w1]))
  · rw [← e1]; simp only [l_markAuthorityS_1, h1, cond_t, cond_f]
  · (simp; omega)
 ·have q1 := h1; try simp at q1
  have x1 : l_markAuthorityS_1 (a0.length + 1) a1 0 a0 = (v1_0, v1_2) := by rw [← e1]; simp only [l_markAuthorityS_1, h1, cond_t, cond_f]
  simp
  refine retM (rv := [.tmp 4]) rfl ?_
  have f1 := l_markAuthorityS.eq_1 a0 a1; simp only [x1, cond_t, cond_f] at f1; simp [f1]
theorem l_markMethodS_ok (a0 : List TMethod) (a1 : Int) : SoundM Tryz.prog 85 [.sl 4 (a0.map TMethod.row)] [[.int .i64 a1]] [.sl 4 ((l_markMethodS a0 a1).1.map TMethod.row)] (.int .i64 (l_markMethodS a0 a1).2) := by
 refine sound_ofM Tryz.func85 rfl (by kernel_rfl) (fun v => ?_)
 simp [Tryz.ntmps85]
 refine okL fun k1 => ?_
 refine loopI (ι := { s : Nat × Int × Nat × (List TMethod) // l_markMethodS_1 s.1 s.2.1 s.2.2.1 s.2.2.2 = l_markMethodS_1 (a0.length + 1) a1 0 a0 ∧ (1 ≤ s.1 ∧ s.2.2.2.length < s.1 + s.2.2.1) }) (fun s => stOf 41 [(0, .fix v (.one (.sref 0 0 0 s.1.2.2.2.length)), [.arr true 4 (s.1.2.2.2.map TMethod.row)]), eI 1 s.1.2.1, eI 5 (↑s.1.2.2.1 : Int)]) (fun s => s.1.1) ⟨((a0.length + 1), a1, 0, a0), rfl, by first | omega | (dsimp only; omega) | simp⟩ (wk_keep (by simp)) ?_
 rintro ⟨⟨n1, v1_0, v1_1, v1_2⟩, e1, j1⟩
 try dsimp only at e1 j1
 obtain ⟨p1, rfl⟩ : ∃ p, n1 = p + 1 := ⟨n1 - 1, by omega⟩
 simp
 refine cC (decide ((↑v1_1 : Int) < (↑v1_2.length : Int))) (fun k2 h1 => ?_) (fun k2 h1 => ?_)
 ·have q1 := h1; try simp at q1
  have i1 : v1_1 < v1_2.length := by simpa using h1
  have m2 : v1_2.length ≤ 9223372036854775807 := by simpa using k2 0 _ rfl
  have w1 : IntKind.i64.wrap ((v1_1 : Int) + 1) = (v1_1 : Int) + 1 := wrap_of (by omega) (by omega)
  simp [i1, rowAt_map, set_map (x := (TMethod.mk v1_0 (nth v1_2 v1_1).Known (nth v1_2 v1_1).Ends (nth v1_2 v1_1).Broken)) rfl, rowAt_set_self, List.set_set, set_map (x := (TMethod.mk v1_0 (W (v1_0 + 1)) (nth v1_2 v1_1).Ends (nth v1_2 v1_1).Broken)) rfl, set_map (x := (TMethod.mk v1_0 (W (v1_0 + 1)) (W ((W (v1_0 + 1)) + 1)) (nth v1_2 v1_1).Broken)) rfl, set_map (x := (TMethod.mk v1_0 (W (v1_0 + 1)) (W ((W (v1_0 + 1)) + 1)) (W ((W ((W (v1_0 + 1)) + 1)) + 1)))) rfl]
  repeat with_reducible refine sd ?_
  refine nxtI ⟨(p1, (W ((W ((W ((W (v1_0 + 1)) + 1)) + 1)) + 1)), (v1_1 + 1), (v1_2.set v1_1 (TMethod.mk v1_0 (W (v1_0 + 1)) (W ((W (v1_0 + 1)) + 1)) (W ((W ((W (v1_0 + 1)) + 1)) + 1))))), ?_, ?_⟩ (by simp) (wk_keep (by simp [w1]))
  · rw [← e1]; simp only [l_markMethodS_1, h1, cond_t, cond_f]
  · (simp; omega)
 ·have q1 := h1; try simp at q1
  have x1 : l_markMethodS_1 (a0.length + 1) a1 0 a0 = (v1_0, v1_2) := by rw [← e1]; simp only [l_markMethodS_1, h1, cond_t, cond_f]
  simp
  refine retM (rv := [.tmp 4]) rfl ?_
  have f1 := l_markMethodS.eq_1 a0 a1; simp only [x1, cond_t, cond_f] at f1; simp [f1]
theorem l_markFrame_ok (a0 : TFrame) (a1 : Int) : SoundM Tryz.prog 37 a0.row [[.int .i64 a1]] (l_markFrame a0 a1).1.row (.int .i64 (l_markFrame a0 a1).2) := by
 refine sound_ofM Tryz.func37 rfl (by kernel_rfl) (fun v => ?_)
 simp [Tryz.ntmps37]
 refine callMO (ats := [.sref 0 0 0 a0.Keys.length]) rfl rfl rfl rfl rfl rfl rfl (l_markKeyS_ok a0.Keys a1) (by simp) (by simp) (by simp) (by simp) (by simp) (by simp) (by simp) (by simp) (by simp) ?_
 simp
 refine callMO (ats := [.sref 0 1 0 a0.Authorities.length]) rfl rfl rfl rfl rfl rfl rfl (l_markAuthorityS_ok a0.Authorities (l_markKeyS a0.Keys a1).2) (by simp) (by simp) (by simp) (by simp) (by simp) (by simp) (by simp) (by simp) (by simp) ?_
 simp
 refine callMO (ats := [.sref 0 2 0 a0.Methods.length]) rfl rfl rfl rfl rfl rfl rfl (l_markMethodS_ok a0.Methods (l_markAuthorityS a0.Authorities (l_markKeyS a0.Keys a1).2).2) (by simp) (by simp) (by simp) (by simp) (by simp) (by simp) (by simp) (by simp) (by simp) ?_
 simp
 refine retM (rv := [.tmp 4]) rfl ?_
 have f1 := l_markFrame.eq_1 a0 a1; simp [f1]
theorem l_markCertS_ok (a0 : List TCert) (a1 : Int) : SoundM Tryz.prog 38 [.sl 7 (a0.map TCert.row)] [[.int .i64 a1]] [.sl 7 ((l_markCertS a0 a1).1.map TCert.row)] (.int .i64 (l_markCertS a0 a1).2) := by
 refine sound_ofM Tryz.func38 rfl (by kernel_rfl) (fun v => ?_)
 simp [Tryz.ntmps38]
 refine okL fun k1 => ?_
 refine loopI (ι := { s : Nat × Int × Nat × (List TCert) // l_markCertS_1 s.1 s.2.1 s.2.2.1 s.2.2.2 = l_markCertS_1 (a0.length + 1) a1 0 a0 ∧ (1 ≤ s.1 ∧ s.2.2.2.length < s.1 + s.2.2.1) }) (fun s => stOf 62 [(0, .fix v (.one (.sref 0 0 0 s.1.2.2.2.length)), [.arr true 7 (s.1.2.2.2.map TCert.row)]), eI 1 s.1.2.1, eI 5 (↑s.1.2.2.1 : Int)]) (fun s => s.1.1) ⟨((a0.length + 1), a1, 0, a0), rfl, by first | omega | (dsimp only; omega) | simp⟩ (wk_keep (by simp)) ?_
 rintro ⟨⟨n1, v1_0, v1_1, v1_2⟩, e1, j1⟩
 try dsimp only at e1 j1
 obtain ⟨p1, rfl⟩ : ∃ p, n1 = p + 1 := ⟨n1 - 1, by omega⟩
 simp
 refine cC (decide ((↑v1_1 : Int) < (↑v1_2.length : Int))) (fun k2 h1 => ?_) (fun k2 h1 => ?_)
 ·have q1 := h1; try simp at q1
  have i1 : v1_1 < v1_2.length := by simpa using h1
  have m2 : v1_2.length ≤ 9223372036854775807 := by simpa using k2 0 _ rfl
  have w1 : IntKind.i64.wrap ((v1_1 : Int) + 1) = (v1_1 : Int) + 1 := wrap_of (by omega) (by omega)
  simp [i1, rowAt_map, set_map (x := (TCert.mk v1_0 (nth v1_2 v1_1).Key (nth v1_2 v1_1).Owner (nth v1_2 v1_1).From (nth v1_2 v1_1).To (nth v1_2 v1_1).Issuer (nth v1_2 v1_1).Mark)) rfl, rowAt_set_self, List.set_set, set_map (x := (TCert.mk v1_0 (W (v1_0 + 1)) (nth v1_2 v1_1).Owner (nth v1_2 v1_1).From (nth v1_2 v1_1).To (nth v1_2 v1_1).Issuer (nth v1_2 v1_1).Mark)) rfl, set_map (x := (TCert.mk v1_0 (W (v1_0 + 1)) (W ((W (v1_0 + 1)) + 1)) (nth v1_2 v1_1).From (nth v1_2 v1_1).To (nth v1_2 v1_1).Issuer (nth v1_2 v1_1).Mark)) rfl, set_map (x := (TCert.mk v1_0 (W (v1_0 + 1)) (W ((W (v1_0 + 1)) + 1)) (W ((W ((W (v1_0 + 1)) + 1)) + 1)) (nth v1_2 v1_1).To (nth v1_2 v1_1).Issuer (nth v1_2 v1_1).Mark)) rfl, set_map (x := (TCert.mk v1_0 (W (v1_0 + 1)) (W ((W (v1_0 + 1)) + 1)) (W ((W ((W (v1_0 + 1)) + 1)) + 1)) (W ((W ((W ((W (v1_0 + 1)) + 1)) + 1)) + 1)) (nth v1_2 v1_1).Issuer (nth v1_2 v1_1).Mark)) rfl, set_map (x := (TCert.mk v1_0 (W (v1_0 + 1)) (W ((W (v1_0 + 1)) + 1)) (W ((W ((W (v1_0 + 1)) + 1)) + 1)) (W ((W ((W ((W (v1_0 + 1)) + 1)) + 1)) + 1)) (W ((W ((W ((W ((W (v1_0 + 1)) + 1)) + 1)) + 1)) + 1)) (nth v1_2 v1_1).Mark)) rfl, set_map (x := (TCert.mk v1_0 (W (v1_0 + 1)) (W ((W (v1_0 + 1)) + 1)) (W ((W ((W (v1_0 + 1)) + 1)) + 1)) (W ((W ((W ((W (v1_0 + 1)) + 1)) + 1)) + 1)) (W ((W ((W ((W ((W (v1_0 + 1)) + 1)) + 1)) + 1)) + 1)) (W ((W ((W ((W ((W ((W (v1_0 + 1)) + 1)) + 1)) + 1)) + 1)) + 1)))) rfl]
  repeat with_reducible refine sd ?_
  refine nxtI ⟨(p1, (W ((W ((W ((W ((W ((W ((W (v1_0 + 1)) + 1)) + 1)) + 1)) + 1)) + 1)) + 1)), (v1_1 + 1), (v1_2.set v1_1 (TCert.mk v1_0 (W (v1_0 + 1)) (W ((W (v1_0 + 1)) + 1)) (W ((W ((W (v1_0 + 1)) + 1)) + 1)) (W ((W ((W ((W (v1_0 + 1)) + 1)) + 1)) + 1)) (W ((W ((W ((W ((W (v1_0 + 1)) + 1)) + 1)) + 1)) + 1)) (W ((W ((W ((W ((W ((W (v1_0 + 1)) + 1)) + 1)) + 1)) + 1)) + 1))))), ?_, ?_⟩ (by simp) (wk_keep (by simp [w1]))
  · rw [← e1]; simp only [l_markCertS_1, h1, cond_t, cond_f]
  · (simp; omega)
 ·have q1 := h1; try simp at q1
  have x1 : l_markCertS_1 (a0.length + 1) a1 0 a0 = (v1_0, v1_2) := by rw [← e1]; simp only [l_markCertS_1, h1, cond_t, cond_f]
  simp
  refine retM (rv := [.tmp 4]) rfl ?_
  have f1 := l_markCertS.eq_1 a0 a1; simp only [x1, cond_t, cond_f] at f1; simp [f1]
theorem l_markIntS_ok (a0 : List Int) (a1 : Int) : SoundM Tryz.prog 39 [.sl 1 (a0.map iR)] [[.int .i64 a1]] [.sl 1 ((l_markIntS a0 a1).1.map iR)] (.int .i64 (l_markIntS a0 a1).2) := by
 refine sound_ofM Tryz.func39 rfl (by kernel_rfl) (fun v => ?_)
 simp [Tryz.ntmps39]
 refine okL fun k1 => ?_
 refine loopI (ι := { s : Nat × Int × Nat × (List Int) // l_markIntS_1 s.1 s.2.1 s.2.2.1 s.2.2.2 = l_markIntS_1 (a0.length + 1) a1 0 a0 ∧ (1 ≤ s.1 ∧ s.2.2.2.length < s.1 + s.2.2.1) }) (fun s => stOf 19 [(0, .fix v (.one (.sref 0 0 0 s.1.2.2.2.length)), [.arr true 1 (s.1.2.2.2.map iR)]), eI 1 s.1.2.1, eI 5 (↑s.1.2.2.1 : Int)]) (fun s => s.1.1) ⟨((a0.length + 1), a1, 0, a0), rfl, by first | omega | (dsimp only; omega) | simp⟩ (wk_keep (by simp)) ?_
 rintro ⟨⟨n1, v1_0, v1_1, v1_2⟩, e1, j1⟩
 try dsimp only at e1 j1
 obtain ⟨p1, rfl⟩ : ∃ p, n1 = p + 1 := ⟨n1 - 1, by omega⟩
 simp
 refine cC (decide ((↑v1_1 : Int) < (↑v1_2.length : Int))) (fun k2 h1 => ?_) (fun k2 h1 => ?_)
 ·have q1 := h1; try simp at q1
  have i1 : v1_1 < v1_2.length := by simpa using h1
  have m2 : v1_2.length ≤ 9223372036854775807 := by simpa using k2 0 _ rfl
  have w1 : IntKind.i64.wrap ((v1_1 : Int) + 1) = (v1_1 : Int) + 1 := wrap_of (by omega) (by omega)
  simp [i1, rowAt_map, set_map (x := v1_0) rfl, rowAt_set_self]
  repeat with_reducible refine sd ?_
  refine nxtI ⟨(p1, (W (v1_0 + 1)), (v1_1 + 1), (v1_2.set v1_1 v1_0)), ?_, ?_⟩ (by simp) (wk_keep (by simp [w1]))
  · rw [← e1]; simp only [l_markIntS_1, h1, cond_t, cond_f]
  · (simp; omega)
 ·have q1 := h1; try simp at q1
  have x1 : l_markIntS_1 (a0.length + 1) a1 0 a0 = (v1_0, v1_2) := by rw [← e1]; simp only [l_markIntS_1, h1, cond_t, cond_f]
  simp
  refine retM (rv := [.tmp 4]) rfl ?_
  have f1 := l_markIntS.eq_1 a0 a1; simp only [x1, cond_t, cond_f] at f1; simp [f1]
theorem l_markText_ok (a0 : Int) : SoundAt Tryz.prog 167 false [[.int .i64 a0]] [[.str (l_markText a0)]] := by
 refine sound_of Tryz.func167 rfl (by kernel_rfl) ?_
 simp [Tryz.ntmps167]
 refine cC (decide (a0 ≤ 0)) (fun k1 h1 => ?_) (fun k1 h1 => ?_)
 ·have q1 := h1; try simp at q1
  simp
  refine retRd (rv := [.tmp 2]) rfl ?_
  have f1 := l_markText.eq_1 a0; simp only [h1, cond_t, cond_f] at f1; simp [f1]
 ·have q1 := h1; try simp at q1
  simp
  refine okL fun k2 => ?_
  refine loopI (ι := { s : Nat × Int × ByteArray // l_markText_1 s.1 s.2.1 s.2.2 = l_markText_1 22 a0 (⟨#[]⟩ : ByteArray) ∧ (1 ≤ s.1 ∧ (s.1 = 22 ∨ s.2.1.natAbs < 10 ^ (s.1 - 1)) ∧ s.2.2.size + s.1 = 22) }) (fun s => stOf 20 [eI 0 s.1.2.1, (3, .one (.d (.str s.1.2.2)), [])]) (fun s => s.1.1) ⟨(22, a0, (⟨#[]⟩ : ByteArray)), rfl, by exact ⟨by omega, .inl rfl, rfl⟩⟩ (wk_keep (by simp)) ?_
  rintro ⟨⟨n1, v1_0, v1_1⟩, e1, j1⟩
  try dsimp only at e1 j1
  obtain ⟨p1, rfl⟩ : ∃ p, n1 = p + 1 := ⟨n1 - 1, by omega⟩
  simp
  refine cC (decide (v1_0 > 0)) (fun k3 h2 => ?_) (fun k3 h2 => ?_)
  ·have q2 := h2; try simp at q2
   simp
   refine toStr (l := ([(UInt8.ofInt (W (48 + (Int.tmod v1_0 10))))] : List UInt8)) rfl rfl rfl (by simp) (by simp) (by simp) (by simp [SrcRows, bRows]) ?_
   simp
   repeat with_reducible refine sd ?_
   refine nxtI ⟨(p1, (W (Int.tdiv v1_0 10)), ((⟨([(UInt8.ofInt (W (48 + (Int.tmod v1_0 10))))] : List UInt8).toArray⟩ : ByteArray) ++ v1_1)), ?_, ?_⟩ (by simp) (wk_keep (by simp []))
   · rw [← e1]; simp only [l_markText_1, h2, cond_t, cond_f]
   · dsimp only; obtain ⟨s1, s2⟩ := fmt_s j1.2.1 (show (v1_0 != 0) = true by simp at h2 ⊢; omega); refine ⟨s1, s2, ?_⟩; have := j1.2.2; simp; omega
  ·have q2 := h2; try simp at q2
   have x1 : l_markText_1 22 a0 (⟨#[]⟩ : ByteArray) = v1_1 := by rw [← e1]; simp only [l_markText_1, h2, cond_t, cond_f]
   simp
   repeat with_reducible refine sd ?_
   refine retRd (rv := [.tmp 2]) rfl ?_
   have f2 := l_markText.eq_1 a0; simp only [h1, x1, cond_t, cond_f] at f2; simp [f2]
theorem l_markStringS_ok (a0 : List ByteArray) (a1 : Int) : SoundM Tryz.prog 131 [.sl 1 (a0.map sR)] [[.int .i64 a1]] [.sl 1 ((l_markStringS a0 a1).1.map sR)] (.int .i64 (l_markStringS a0 a1).2) := by
 refine sound_ofM Tryz.func131 rfl (by kernel_rfl) (fun v => ?_)
 simp [Tryz.ntmps131]
 refine okL fun k1 => ?_
 refine loopI (ι := { s : Nat × Int × Nat × (List ByteArray) // l_markStringS_1 s.1 s.2.1 s.2.2.1 s.2.2.2 = l_markStringS_1 (a0.length + 1) a1 0 a0 ∧ (1 ≤ s.1 ∧ s.2.2.2.length < s.1 + s.2.2.1) }) (fun s => stOf 20 [(0, .fix v (.one (.sref 0 0 0 s.1.2.2.2.length)), [.arr true 1 (s.1.2.2.2.map sR)]), eI 1 s.1.2.1, eI 5 (↑s.1.2.2.1 : Int)]) (fun s => s.1.1) ⟨((a0.length + 1), a1, 0, a0), rfl, by first | omega | (dsimp only; omega) | simp⟩ (wk_keep (by simp)) ?_
 rintro ⟨⟨n1, v1_0, v1_1, v1_2⟩, e1, j1⟩
 try dsimp only at e1 j1
 obtain ⟨p1, rfl⟩ : ∃ p, n1 = p + 1 := ⟨n1 - 1, by omega⟩
 simp
 refine cC (decide ((↑v1_1 : Int) < (↑v1_2.length : Int))) (fun k2 h1 => ?_) (fun k2 h1 => ?_)
 ·have q1 := h1; try simp at q1
  have i1 : v1_1 < v1_2.length := by simpa using h1
  have m2 : v1_2.length ≤ 9223372036854775807 := by simpa using k2 0 _ rfl
  have w1 : IntKind.i64.wrap ((v1_1 : Int) + 1) = (v1_1 : Int) + 1 := wrap_of (by omega) (by omega)
  simp
  refine cR (l_markText_ok v1_0) ?_
  simp [i1, rowAt_map, set_map (x := (l_markText v1_0)) rfl, rowAt_set_self]
  repeat with_reducible refine sd ?_
  refine nxtI ⟨(p1, (W (v1_0 + 1)), (v1_1 + 1), (v1_2.set v1_1 (l_markText v1_0))), ?_, ?_⟩ (by simp) (wk_keep (by simp [w1]))
  · rw [← e1]; simp only [l_markStringS_1, h1, cond_t, cond_f]
  · (simp; omega)
 ·have q1 := h1; try simp at q1
  have x1 : l_markStringS_1 (a0.length + 1) a1 0 a0 = (v1_0, v1_2) := by rw [← e1]; simp only [l_markStringS_1, h1, cond_t, cond_f]
  simp
  refine retM (rv := [.tmp 4]) rfl ?_
  have f1 := l_markStringS.eq_1 a0 a1; simp only [x1, cond_t, cond_f] at f1; simp [f1]
theorem l_markPieceS_ok (a0 : List TPiece) (a1 : Int) : SoundM Tryz.prog 132 [.sl 3 (a0.map TPiece.row)] [[.int .i64 a1]] [.sl 3 ((l_markPieceS a0 a1).1.map TPiece.row)] (.int .i64 (l_markPieceS a0 a1).2) := by
 refine sound_ofM Tryz.func132 rfl (by kernel_rfl) (fun v => ?_)
 simp [Tryz.ntmps132]
 refine okL fun k1 => ?_
 refine loopI (ι := { s : Nat × Int × Nat × (List TPiece) // l_markPieceS_1 s.1 s.2.1 s.2.2.1 s.2.2.2 = l_markPieceS_1 (a0.length + 1) a1 0 a0 ∧ (1 ≤ s.1 ∧ s.2.2.2.length < s.1 + s.2.2.1) }) (fun s => stOf 34 [(0, .fix v (.one (.sref 0 0 0 s.1.2.2.2.length)), [.arr true 3 (s.1.2.2.2.map TPiece.row)]), eI 1 s.1.2.1, eI 5 (↑s.1.2.2.1 : Int)]) (fun s => s.1.1) ⟨((a0.length + 1), a1, 0, a0), rfl, by first | omega | (dsimp only; omega) | simp⟩ (wk_keep (by simp)) ?_
 rintro ⟨⟨n1, v1_0, v1_1, v1_2⟩, e1, j1⟩
 try dsimp only at e1 j1
 obtain ⟨p1, rfl⟩ : ∃ p, n1 = p + 1 := ⟨n1 - 1, by omega⟩
 simp
 refine cC (decide ((↑v1_1 : Int) < (↑v1_2.length : Int))) (fun k2 h1 => ?_) (fun k2 h1 => ?_)
 ·have q1 := h1; try simp at q1
  have i1 : v1_1 < v1_2.length := by simpa using h1
  have m2 : v1_2.length ≤ 9223372036854775807 := by simpa using k2 0 _ rfl
  have w1 : IntKind.i64.wrap ((v1_1 : Int) + 1) = (v1_1 : Int) + 1 := wrap_of (by omega) (by omega)
  simp [i1, rowAt_map, set_map (x := (TPiece.mk v1_0 (nth v1_2 v1_1).Ints (nth v1_2 v1_1).Mark)) rfl, rowAt_set_self]
  repeat with_reducible refine sd ?_
  refine callMT (t := 0) (j := 0) (i := v1_1) (c := 1) (size := 3) (rows := ((v1_2.set v1_1 (TPiece.mk v1_0 (nth v1_2 v1_1).Ints (nth v1_2 v1_1).Mark)).map TPiece.row)) rfl rfl rfl rfl rfl rfl rfl (l_markIntS_ok (nth v1_2 v1_1).Ints (W (v1_0 + 1))) (by simp) (by simp) (by simp [m2, i1]) (by simp [rowAt_map, rowAt_set_self, m2, i1]) (by simp) (by simp) (by simp) ?_
  simp [List.set_set, set_map (x := (TPiece.mk v1_0 (l_markIntS (nth v1_2 v1_1).Ints (W (v1_0 + 1))).1 (nth v1_2 v1_1).Mark)) rfl, rowAt_map, rowAt_set_self, m2, i1, set_map (x := (TPiece.mk v1_0 (l_markIntS (nth v1_2 v1_1).Ints (W (v1_0 + 1))).1 (l_markIntS (nth v1_2 v1_1).Ints (W (v1_0 + 1))).2)) rfl]
  repeat with_reducible refine sd ?_
  refine nxtI ⟨(p1, (W ((l_markIntS (nth v1_2 v1_1).Ints (W (v1_0 + 1))).2 + 1)), (v1_1 + 1), (v1_2.set v1_1 (TPiece.mk v1_0 (l_markIntS (nth v1_2 v1_1).Ints (W (v1_0 + 1))).1 (l_markIntS (nth v1_2 v1_1).Ints (W (v1_0 + 1))).2))), ?_, ?_⟩ (by simp) (wk_keep (by simp [w1]))
  · rw [← e1]; simp only [l_markPieceS_1, h1, cond_t, cond_f]
  · (simp; omega)
 ·have q1 := h1; try simp at q1
  have x1 : l_markPieceS_1 (a0.length + 1) a1 0 a0 = (v1_0, v1_2) := by rw [← e1]; simp only [l_markPieceS_1, h1, cond_t, cond_f]
  simp
  refine retM (rv := [.tmp 4]) rfl ?_
  have f1 := l_markPieceS.eq_1 a0 a1; simp only [x1, cond_t, cond_f] at f1; simp [f1]
theorem l_markStepS_ok (a0 : List TStep) (a1 : Int) : SoundM Tryz.prog 168 [.sl 2 (a0.map TStep.row)] [[.int .i64 a1]] [.sl 2 ((l_markStepS a0 a1).1.map TStep.row)] (.int .i64 (l_markStepS a0 a1).2) := by
 refine sound_ofM Tryz.func168 rfl (by kernel_rfl) (fun v => ?_)
 simp [Tryz.ntmps168]
 refine okL fun k1 => ?_
 refine loopI (ι := { s : Nat × Int × Nat × (List TStep) // l_markStepS_1 s.1 s.2.1 s.2.2.1 s.2.2.2 = l_markStepS_1 (a0.length + 1) a1 0 a0 ∧ (1 ≤ s.1 ∧ s.2.2.2.length < s.1 + s.2.2.1) }) (fun s => stOf 29 [(0, .fix v (.one (.sref 0 0 0 s.1.2.2.2.length)), [.arr true 2 (s.1.2.2.2.map TStep.row)]), eI 1 s.1.2.1, eI 5 (↑s.1.2.2.1 : Int)]) (fun s => s.1.1) ⟨((a0.length + 1), a1, 0, a0), rfl, by first | omega | (dsimp only; omega) | simp⟩ (wk_keep (by simp)) ?_
 rintro ⟨⟨n1, v1_0, v1_1, v1_2⟩, e1, j1⟩
 try dsimp only at e1 j1
 obtain ⟨p1, rfl⟩ : ∃ p, n1 = p + 1 := ⟨n1 - 1, by omega⟩
 simp
 refine cC (decide ((↑v1_1 : Int) < (↑v1_2.length : Int))) (fun k2 h1 => ?_) (fun k2 h1 => ?_)
 ·have q1 := h1; try simp at q1
  have i1 : v1_1 < v1_2.length := by simpa using h1
  have m2 : v1_2.length ≤ 9223372036854775807 := by simpa using k2 0 _ rfl
  have w1 : IntKind.i64.wrap ((v1_1 : Int) + 1) = (v1_1 : Int) + 1 := wrap_of (by omega) (by omega)
  simp [i1, rowAt_map, set_map (x := (TStep.mk v1_0 (nth v1_2 v1_1).Left)) rfl, rowAt_set_self, List.set_set, set_map (x := (TStep.mk v1_0 ((Int.tmod (W (v1_0 + 1)) 3) == 0))) rfl]
  repeat with_reducible refine sd ?_
  refine nxtI ⟨(p1, (W ((W (v1_0 + 1)) + 1)), (v1_1 + 1), (v1_2.set v1_1 (TStep.mk v1_0 ((Int.tmod (W (v1_0 + 1)) 3) == 0)))), ?_, ?_⟩ (by simp) (wk_keep (by simp [w1]))
  · rw [← e1]; simp only [l_markStepS_1, h1, cond_t, cond_f]
  · (simp; omega)
 ·have q1 := h1; try simp at q1
  have x1 : l_markStepS_1 (a0.length + 1) a1 0 a0 = (v1_0, v1_2) := by rw [← e1]; simp only [l_markStepS_1, h1, cond_t, cond_f]
  simp
  refine retM (rv := [.tmp 4]) rfl ?_
  have f1 := l_markStepS.eq_1 a0 a1; simp only [x1, cond_t, cond_f] at f1; simp [f1]
theorem l_markStampS_ok (a0 : List TStamp) (a1 : Int) : SoundM Tryz.prog 13 [.sl 5 (a0.map TStamp.row)] [[.int .i64 a1]] [.sl 5 ((l_markStampS a0 a1).1.map TStamp.row)] (.int .i64 (l_markStampS a0 a1).2) := by
 refine sound_ofM Tryz.func13 rfl (by kernel_rfl) (fun v => ?_)
 simp [Tryz.ntmps13]
 refine okL fun k1 => ?_
 refine loopI (ι := { s : Nat × Int × Nat × (List TStamp) // l_markStampS_1 s.1 s.2.1 s.2.2.1 s.2.2.2 = l_markStampS_1 (a0.length + 1) a1 0 a0 ∧ (1 ≤ s.1 ∧ s.2.2.2.length < s.1 + s.2.2.1) }) (fun s => stOf 48 [(0, .fix v (.one (.sref 0 0 0 s.1.2.2.2.length)), [.arr true 5 (s.1.2.2.2.map TStamp.row)]), eI 1 s.1.2.1, eI 5 (↑s.1.2.2.1 : Int)]) (fun s => s.1.1) ⟨((a0.length + 1), a1, 0, a0), rfl, by first | omega | (dsimp only; omega) | simp⟩ (wk_keep (by simp)) ?_
 rintro ⟨⟨n1, v1_0, v1_1, v1_2⟩, e1, j1⟩
 try dsimp only at e1 j1
 obtain ⟨p1, rfl⟩ : ∃ p, n1 = p + 1 := ⟨n1 - 1, by omega⟩
 simp
 refine cC (decide ((↑v1_1 : Int) < (↑v1_2.length : Int))) (fun k2 h1 => ?_) (fun k2 h1 => ?_)
 ·have q1 := h1; try simp at q1
  have i1 : v1_1 < v1_2.length := by simpa using h1
  have m2 : v1_2.length ≤ 9223372036854775807 := by simpa using k2 0 _ rfl
  have w1 : IntKind.i64.wrap ((v1_1 : Int) + 1) = (v1_1 : Int) + 1 := wrap_of (by omega) (by omega)
  simp [i1, rowAt_map, set_map (x := (TStamp.mk v1_0 (nth v1_2 v1_1).Seq (nth v1_2 v1_1).Time (nth v1_2 v1_1).Digest (nth v1_2 v1_1).Mark)) rfl, rowAt_set_self, List.set_set, set_map (x := (TStamp.mk v1_0 (W (v1_0 + 1)) (nth v1_2 v1_1).Time (nth v1_2 v1_1).Digest (nth v1_2 v1_1).Mark)) rfl, set_map (x := (TStamp.mk v1_0 (W (v1_0 + 1)) (W ((W (v1_0 + 1)) + 1)) (nth v1_2 v1_1).Digest (nth v1_2 v1_1).Mark)) rfl, set_map (x := (TStamp.mk v1_0 (W (v1_0 + 1)) (W ((W (v1_0 + 1)) + 1)) (W ((W ((W (v1_0 + 1)) + 1)) + 1)) (nth v1_2 v1_1).Mark)) rfl, set_map (x := (TStamp.mk v1_0 (W (v1_0 + 1)) (W ((W (v1_0 + 1)) + 1)) (W ((W ((W (v1_0 + 1)) + 1)) + 1)) (W ((W ((W ((W (v1_0 + 1)) + 1)) + 1)) + 1)))) rfl]
  repeat with_reducible refine sd ?_
  refine nxtI ⟨(p1, (W ((W ((W ((W ((W (v1_0 + 1)) + 1)) + 1)) + 1)) + 1)), (v1_1 + 1), (v1_2.set v1_1 (TStamp.mk v1_0 (W (v1_0 + 1)) (W ((W (v1_0 + 1)) + 1)) (W ((W ((W (v1_0 + 1)) + 1)) + 1)) (W ((W ((W ((W (v1_0 + 1)) + 1)) + 1)) + 1))))), ?_, ?_⟩ (by simp) (wk_keep (by simp [w1]))
  · rw [← e1]; simp only [l_markStampS_1, h1, cond_t, cond_f]
  · (simp; omega)
 ·have q1 := h1; try simp at q1
  have x1 : l_markStampS_1 (a0.length + 1) a1 0 a0 = (v1_0, v1_2) := by rw [← e1]; simp only [l_markStampS_1, h1, cond_t, cond_f]
  simp
  refine retM (rv := [.tmp 4]) rfl ?_
  have f1 := l_markStampS.eq_1 a0 a1; simp only [x1, cond_t, cond_f] at f1; simp [f1]
theorem l_markRenewalS_ok (a0 : List TRenewal) (a1 : Int) : SoundM Tryz.prog 133 [.sl 5 (a0.map TRenewal.row)] [[.int .i64 a1]] [.sl 5 ((l_markRenewalS a0 a1).1.map TRenewal.row)] (.int .i64 (l_markRenewalS a0 a1).2) := by
 refine sound_ofM Tryz.func133 rfl (by kernel_rfl) (fun v => ?_)
 simp [Tryz.ntmps133]
 refine okL fun k1 => ?_
 refine loopI (ι := { s : Nat × Int × Nat × (List TRenewal) // l_markRenewalS_1 s.1 s.2.1 s.2.2.1 s.2.2.2 = l_markRenewalS_1 (a0.length + 1) a1 0 a0 ∧ (1 ≤ s.1 ∧ s.2.2.2.length < s.1 + s.2.2.1) }) (fun s => stOf 48 [(0, .fix v (.one (.sref 0 0 0 s.1.2.2.2.length)), [.arr true 5 (s.1.2.2.2.map TRenewal.row)]), eI 1 s.1.2.1, eI 5 (↑s.1.2.2.1 : Int)]) (fun s => s.1.1) ⟨((a0.length + 1), a1, 0, a0), rfl, by first | omega | (dsimp only; omega) | simp⟩ (wk_keep (by simp)) ?_
 rintro ⟨⟨n1, v1_0, v1_1, v1_2⟩, e1, j1⟩
 try dsimp only at e1 j1
 obtain ⟨p1, rfl⟩ : ∃ p, n1 = p + 1 := ⟨n1 - 1, by omega⟩
 simp
 refine cC (decide ((↑v1_1 : Int) < (↑v1_2.length : Int))) (fun k2 h1 => ?_) (fun k2 h1 => ?_)
 ·have q1 := h1; try simp at q1
  have i1 : v1_1 < v1_2.length := by simpa using h1
  have m2 : v1_2.length ≤ 9223372036854775807 := by simpa using k2 0 _ rfl
  have w1 : IntKind.i64.wrap ((v1_1 : Int) + 1) = (v1_1 : Int) + 1 := wrap_of (by omega) (by omega)
  simp [i1, rowAt_map, set_map (x := (TRenewal.mk v1_0 (nth v1_2 v1_1).Method (nth v1_2 v1_1).Root (nth v1_2 v1_1).Path (nth v1_2 v1_1).Stamps)) rfl, rowAt_set_self, List.set_set, set_map (x := (TRenewal.mk v1_0 (W (v1_0 + 1)) (nth v1_2 v1_1).Root (nth v1_2 v1_1).Path (nth v1_2 v1_1).Stamps)) rfl, set_map (x := (TRenewal.mk v1_0 (W (v1_0 + 1)) (W ((W (v1_0 + 1)) + 1)) (nth v1_2 v1_1).Path (nth v1_2 v1_1).Stamps)) rfl]
  repeat with_reducible refine sd ?_
  refine callMT (t := 0) (j := 0) (i := v1_1) (c := 3) (size := 5) (rows := ((v1_2.set v1_1 (TRenewal.mk v1_0 (W (v1_0 + 1)) (W ((W (v1_0 + 1)) + 1)) (nth v1_2 v1_1).Path (nth v1_2 v1_1).Stamps)).map TRenewal.row)) rfl rfl rfl rfl rfl rfl rfl (l_markStepS_ok (nth v1_2 v1_1).Path (W ((W ((W (v1_0 + 1)) + 1)) + 1))) (by simp) (by simp) (by simp [m2, i1]) (by simp [rowAt_map, rowAt_set_self, m2, i1]) (by simp) (by simp) (by simp) ?_
  simp [List.set_set, set_map (x := (TRenewal.mk v1_0 (W (v1_0 + 1)) (W ((W (v1_0 + 1)) + 1)) (l_markStepS (nth v1_2 v1_1).Path (W ((W ((W (v1_0 + 1)) + 1)) + 1))).1 (nth v1_2 v1_1).Stamps)) rfl, rowAt_map, rowAt_set_self, m2, i1]
  repeat with_reducible refine sd ?_
  refine callMT (t := 0) (j := 0) (i := v1_1) (c := 4) (size := 5) (rows := ((v1_2.set v1_1 (TRenewal.mk v1_0 (W (v1_0 + 1)) (W ((W (v1_0 + 1)) + 1)) (l_markStepS (nth v1_2 v1_1).Path (W ((W ((W (v1_0 + 1)) + 1)) + 1))).1 (nth v1_2 v1_1).Stamps)).map TRenewal.row)) rfl rfl rfl rfl rfl rfl rfl (l_markStampS_ok (nth v1_2 v1_1).Stamps (l_markStepS (nth v1_2 v1_1).Path (W ((W ((W (v1_0 + 1)) + 1)) + 1))).2) (by simp) (by simp) (by simp [m2, i1]) (by simp [rowAt_map, rowAt_set_self, m2, i1]) (by simp) (by simp) (by simp) ?_
  simp [List.set_set, set_map (x := (TRenewal.mk v1_0 (W (v1_0 + 1)) (W ((W (v1_0 + 1)) + 1)) (l_markStepS (nth v1_2 v1_1).Path (W ((W ((W (v1_0 + 1)) + 1)) + 1))).1 (l_markStampS (nth v1_2 v1_1).Stamps (l_markStepS (nth v1_2 v1_1).Path (W ((W ((W (v1_0 + 1)) + 1)) + 1))).2).1)) rfl, rowAt_map, rowAt_set_self, m2, i1]
  repeat with_reducible refine sd ?_
  refine nxtI ⟨(p1, (l_markStampS (nth v1_2 v1_1).Stamps (l_markStepS (nth v1_2 v1_1).Path (W ((W ((W (v1_0 + 1)) + 1)) + 1))).2).2, (v1_1 + 1), (v1_2.set v1_1 (TRenewal.mk v1_0 (W (v1_0 + 1)) (W ((W (v1_0 + 1)) + 1)) (l_markStepS (nth v1_2 v1_1).Path (W ((W ((W (v1_0 + 1)) + 1)) + 1))).1 (l_markStampS (nth v1_2 v1_1).Stamps (l_markStepS (nth v1_2 v1_1).Path (W ((W ((W (v1_0 + 1)) + 1)) + 1))).2).1))), ?_, ?_⟩ (by simp) (wk_keep (by simp [w1]))
  · rw [← e1]; simp only [l_markRenewalS_1, h1, cond_t, cond_f]
  · (simp; omega)
 ·have q1 := h1; try simp at q1
  have x1 : l_markRenewalS_1 (a0.length + 1) a1 0 a0 = (v1_0, v1_2) := by rw [← e1]; simp only [l_markRenewalS_1, h1, cond_t, cond_f]
  simp
  refine retM (rv := [.tmp 4]) rfl ?_
  have f1 := l_markRenewalS.eq_1 a0 a1; simp only [x1, cond_t, cond_f] at f1; simp [f1]
theorem l_markItemS_ok (a0 : List TItem) (a1 : Int) : SoundM Tryz.prog 86 [.sl 16 (a0.map TItem.row)] [[.int .i64 a1]] [.sl 16 ((l_markItemS a0 a1).1.map TItem.row)] (.int .i64 (l_markItemS a0 a1).2) := by
 refine sound_ofM Tryz.func86 rfl (by kernel_rfl) (fun v => ?_)
 simp [Tryz.ntmps86]
 refine okL fun k1 => ?_
 refine loopI (ι := { s : Nat × Int × Nat × (List TItem) // l_markItemS_1 s.1 s.2.1 s.2.2.1 s.2.2.2 = l_markItemS_1 (a0.length + 1) a1 0 a0 ∧ (1 ≤ s.1 ∧ s.2.2.2.length < s.1 + s.2.2.1) }) (fun s => stOf 139 [(0, .fix v (.one (.sref 0 0 0 s.1.2.2.2.length)), [.arr true 16 (s.1.2.2.2.map TItem.row)]), eI 1 s.1.2.1, eI 5 (↑s.1.2.2.1 : Int)]) (fun s => s.1.1) ⟨((a0.length + 1), a1, 0, a0), rfl, by first | omega | (dsimp only; omega) | simp⟩ (wk_keep (by simp)) ?_
 rintro ⟨⟨n1, v1_0, v1_1, v1_2⟩, e1, j1⟩
 try dsimp only at e1 j1
 obtain ⟨p1, rfl⟩ : ∃ p, n1 = p + 1 := ⟨n1 - 1, by omega⟩
 simp
 refine cC (decide ((↑v1_1 : Int) < (↑v1_2.length : Int))) (fun k2 h1 => ?_) (fun k2 h1 => ?_)
 ·have q1 := h1; try simp at q1
  have i1 : v1_1 < v1_2.length := by simpa using h1
  have m2 : v1_2.length ≤ 9223372036854775807 := by simpa using k2 0 _ rfl
  have w1 : IntKind.i64.wrap ((v1_1 : Int) + 1) = (v1_1 : Int) + 1 := wrap_of (by omega) (by omega)
  simp [i1, rowAt_map, set_map (x := (TItem.mk v1_0 (nth v1_2 v1_1).Keep (nth v1_2 v1_1).Doc (nth v1_2 v1_1).Sig (nth v1_2 v1_1).Strand)) rfl, rowAt_set_self, List.set_set, set_map (x := (TItem.mk v1_0 (W (v1_0 + 1)) (nth v1_2 v1_1).Doc (nth v1_2 v1_1).Sig (nth v1_2 v1_1).Strand)) rfl, set_map (x := (TItem.mk v1_0 (W (v1_0 + 1)) (TDocument.mk (W ((W (v1_0 + 1)) + 1)) (nth v1_2 v1_1).Doc.Parts (nth v1_2 v1_1).Doc.Salts) (nth v1_2 v1_1).Sig (nth v1_2 v1_1).Strand)) rfl]
  repeat with_reducible refine sd ?_
  refine callMT (t := 0) (j := 0) (i := v1_1) (c := 3) (size := 16) (rows := ((v1_2.set v1_1 (TItem.mk v1_0 (W (v1_0 + 1)) (TDocument.mk (W ((W (v1_0 + 1)) + 1)) (nth v1_2 v1_1).Doc.Parts (nth v1_2 v1_1).Doc.Salts) (nth v1_2 v1_1).Sig (nth v1_2 v1_1).Strand)).map TItem.row)) rfl rfl rfl rfl rfl rfl rfl (l_markStringS_ok (nth v1_2 v1_1).Doc.Parts (W ((W ((W (v1_0 + 1)) + 1)) + 1))) (by simp) (by simp) (by simp [m2, i1]) (by simp [rowAt_map, rowAt_set_self, m2, i1]) (by simp) (by simp) (by simp) ?_
  simp [List.set_set, set_map (x := (TItem.mk v1_0 (W (v1_0 + 1)) (TDocument.mk (W ((W (v1_0 + 1)) + 1)) (l_markStringS (nth v1_2 v1_1).Doc.Parts (W ((W ((W (v1_0 + 1)) + 1)) + 1))).1 (nth v1_2 v1_1).Doc.Salts) (nth v1_2 v1_1).Sig (nth v1_2 v1_1).Strand)) rfl, rowAt_map, rowAt_set_self, m2, i1]
  repeat with_reducible refine sd ?_
  refine callMT (t := 0) (j := 0) (i := v1_1) (c := 4) (size := 16) (rows := ((v1_2.set v1_1 (TItem.mk v1_0 (W (v1_0 + 1)) (TDocument.mk (W ((W (v1_0 + 1)) + 1)) (l_markStringS (nth v1_2 v1_1).Doc.Parts (W ((W ((W (v1_0 + 1)) + 1)) + 1))).1 (nth v1_2 v1_1).Doc.Salts) (nth v1_2 v1_1).Sig (nth v1_2 v1_1).Strand)).map TItem.row)) rfl rfl rfl rfl rfl rfl rfl (l_markIntS_ok (nth v1_2 v1_1).Doc.Salts (l_markStringS (nth v1_2 v1_1).Doc.Parts (W ((W ((W (v1_0 + 1)) + 1)) + 1))).2) (by simp) (by simp) (by simp [m2, i1]) (by simp [rowAt_map, rowAt_set_self, m2, i1]) (by simp) (by simp) (by simp) ?_
  simp [List.set_set, set_map (x := (TItem.mk v1_0 (W (v1_0 + 1)) (TDocument.mk (W ((W (v1_0 + 1)) + 1)) (l_markStringS (nth v1_2 v1_1).Doc.Parts (W ((W ((W (v1_0 + 1)) + 1)) + 1))).1 (l_markIntS (nth v1_2 v1_1).Doc.Salts (l_markStringS (nth v1_2 v1_1).Doc.Parts (W ((W ((W (v1_0 + 1)) + 1)) + 1))).2).1) (nth v1_2 v1_1).Sig (nth v1_2 v1_1).Strand)) rfl, rowAt_map, rowAt_set_self, m2, i1, set_map (x := (TItem.mk v1_0 (W (v1_0 + 1)) (TDocument.mk (W ((W (v1_0 + 1)) + 1)) (l_markStringS (nth v1_2 v1_1).Doc.Parts (W ((W ((W (v1_0 + 1)) + 1)) + 1))).1 (l_markIntS (nth v1_2 v1_1).Doc.Salts (l_markStringS (nth v1_2 v1_1).Doc.Parts (W ((W ((W (v1_0 + 1)) + 1)) + 1))).2).1) (TSignature.mk (l_markIntS (nth v1_2 v1_1).Doc.Salts (l_markStringS (nth v1_2 v1_1).Doc.Parts (W ((W ((W (v1_0 + 1)) + 1)) + 1))).2).2 (nth v1_2 v1_1).Sig.Serial (nth v1_2 v1_1).Sig.Method (nth v1_2 v1_1).Sig.Digest (nth v1_2 v1_1).Sig.Commit (nth v1_2 v1_1).Sig.Org (nth v1_2 v1_1).Sig.Before (nth v1_2 v1_1).Sig.After (nth v1_2 v1_1).Sig.Mark) (nth v1_2 v1_1).Strand)) rfl, set_map (x := (TItem.mk v1_0 (W (v1_0 + 1)) (TDocument.mk (W ((W (v1_0 + 1)) + 1)) (l_markStringS (nth v1_2 v1_1).Doc.Parts (W ((W ((W (v1_0 + 1)) + 1)) + 1))).1 (l_markIntS (nth v1_2 v1_1).Doc.Salts (l_markStringS (nth v1_2 v1_1).Doc.Parts (W ((W ((W (v1_0 + 1)) + 1)) + 1))).2).1) (TSignature.mk (l_markIntS (nth v1_2 v1_1).Doc.Salts (l_markStringS (nth v1_2 v1_1).Doc.Parts (W ((W ((W (v1_0 + 1)) + 1)) + 1))).2).2 (W ((l_markIntS (nth v1_2 v1_1).Doc.Salts (l_markStringS (nth v1_2 v1_1).Doc.Parts (W ((W ((W (v1_0 + 1)) + 1)) + 1))).2).2 + 1)) (nth v1_2 v1_1).Sig.Method (nth v1_2 v1_1).Sig.Digest (nth v1_2 v1_1).Sig.Commit (nth v1_2 v1_1).Sig.Org (nth v1_2 v1_1).Sig.Before (nth v1_2 v1_1).Sig.After (nth v1_2 v1_1).Sig.Mark) (nth v1_2 v1_1).Strand)) rfl, set_map (x := (TItem.mk v1_0 (W (v1_0 + 1)) (TDocument.mk (W ((W (v1_0 + 1)) + 1)) (l_markStringS (nth v1_2 v1_1).Doc.Parts (W ((W ((W (v1_0 + 1)) + 1)) + 1))).1 (l_markIntS (nth v1_2 v1_1).Doc.Salts (l_markStringS (nth v1_2 v1_1).Doc.Parts (W ((W ((W (v1_0 + 1)) + 1)) + 1))).2).1) (TSignature.mk (l_markIntS (nth v1_2 v1_1).Doc.Salts (l_markStringS (nth v1_2 v1_1).Doc.Parts (W ((W ((W (v1_0 + 1)) + 1)) + 1))).2).2 (W ((l_markIntS (nth v1_2 v1_1).Doc.Salts (l_markStringS (nth v1_2 v1_1).Doc.Parts (W ((W ((W (v1_0 + 1)) + 1)) + 1))).2).2 + 1)) (W ((W ((l_markIntS (nth v1_2 v1_1).Doc.Salts (l_markStringS (nth v1_2 v1_1).Doc.Parts (W ((W ((W (v1_0 + 1)) + 1)) + 1))).2).2 + 1)) + 1)) (nth v1_2 v1_1).Sig.Digest (nth v1_2 v1_1).Sig.Commit (nth v1_2 v1_1).Sig.Org (nth v1_2 v1_1).Sig.Before (nth v1_2 v1_1).Sig.After (nth v1_2 v1_1).Sig.Mark) (nth v1_2 v1_1).Strand)) rfl, set_map (x := (TItem.mk v1_0 (W (v1_0 + 1)) (TDocument.mk (W ((W (v1_0 + 1)) + 1)) (l_markStringS (nth v1_2 v1_1).Doc.Parts (W ((W ((W (v1_0 + 1)) + 1)) + 1))).1 (l_markIntS (nth v1_2 v1_1).Doc.Salts (l_markStringS (nth v1_2 v1_1).Doc.Parts (W ((W ((W (v1_0 + 1)) + 1)) + 1))).2).1) (TSignature.mk (l_markIntS (nth v1_2 v1_1).Doc.Salts (l_markStringS (nth v1_2 v1_1).Doc.Parts (W ((W ((W (v1_0 + 1)) + 1)) + 1))).2).2 (W ((l_markIntS (nth v1_2 v1_1).Doc.Salts (l_markStringS (nth v1_2 v1_1).Doc.Parts (W ((W ((W (v1_0 + 1)) + 1)) + 1))).2).2 + 1)) (W ((W ((l_markIntS (nth v1_2 v1_1).Doc.Salts (l_markStringS (nth v1_2 v1_1).Doc.Parts (W ((W ((W (v1_0 + 1)) + 1)) + 1))).2).2 + 1)) + 1)) (W ((W ((W ((l_markIntS (nth v1_2 v1_1).Doc.Salts (l_markStringS (nth v1_2 v1_1).Doc.Parts (W ((W ((W (v1_0 + 1)) + 1)) + 1))).2).2 + 1)) + 1)) + 1)) (nth v1_2 v1_1).Sig.Commit (nth v1_2 v1_1).Sig.Org (nth v1_2 v1_1).Sig.Before (nth v1_2 v1_1).Sig.After (nth v1_2 v1_1).Sig.Mark) (nth v1_2 v1_1).Strand)) rfl, set_map (x := (TItem.mk v1_0 (W (v1_0 + 1)) (TDocument.mk (W ((W (v1_0 + 1)) + 1)) (l_markStringS (nth v1_2 v1_1).Doc.Parts (W ((W ((W (v1_0 + 1)) + 1)) + 1))).1 (l_markIntS (nth v1_2 v1_1).Doc.Salts (l_markStringS (nth v1_2 v1_1).Doc.Parts (W ((W ((W (v1_0 + 1)) + 1)) + 1))).2).1) (TSignature.mk (l_markIntS (nth v1_2 v1_1).Doc.Salts (l_markStringS (nth v1_2 v1_1).Doc.Parts (W ((W ((W (v1_0 + 1)) + 1)) + 1))).2).2 (W ((l_markIntS (nth v1_2 v1_1).Doc.Salts (l_markStringS (nth v1_2 v1_1).Doc.Parts (W ((W ((W (v1_0 + 1)) + 1)) + 1))).2).2 + 1)) (W ((W ((l_markIntS (nth v1_2 v1_1).Doc.Salts (l_markStringS (nth v1_2 v1_1).Doc.Parts (W ((W ((W (v1_0 + 1)) + 1)) + 1))).2).2 + 1)) + 1)) (W ((W ((W ((l_markIntS (nth v1_2 v1_1).Doc.Salts (l_markStringS (nth v1_2 v1_1).Doc.Parts (W ((W ((W (v1_0 + 1)) + 1)) + 1))).2).2 + 1)) + 1)) + 1)) (W ((W ((W ((W ((l_markIntS (nth v1_2 v1_1).Doc.Salts (l_markStringS (nth v1_2 v1_1).Doc.Parts (W ((W ((W (v1_0 + 1)) + 1)) + 1))).2).2 + 1)) + 1)) + 1)) + 1)) (nth v1_2 v1_1).Sig.Org (nth v1_2 v1_1).Sig.Before (nth v1_2 v1_1).Sig.After (nth v1_2 v1_1).Sig.Mark) (nth v1_2 v1_1).Strand)) rfl, set_map (x := (TItem.mk v1_0 (W (v1_0 + 1)) (TDocument.mk (W ((W (v1_0 + 1)) + 1)) (l_markStringS (nth v1_2 v1_1).Doc.Parts (W ((W ((W (v1_0 + 1)) + 1)) + 1))).1 (l_markIntS (nth v1_2 v1_1).Doc.Salts (l_markStringS (nth v1_2 v1_1).Doc.Parts (W ((W ((W (v1_0 + 1)) + 1)) + 1))).2).1) (TSignature.mk (l_markIntS (nth v1_2 v1_1).Doc.Salts (l_markStringS (nth v1_2 v1_1).Doc.Parts (W ((W ((W (v1_0 + 1)) + 1)) + 1))).2).2 (W ((l_markIntS (nth v1_2 v1_1).Doc.Salts (l_markStringS (nth v1_2 v1_1).Doc.Parts (W ((W ((W (v1_0 + 1)) + 1)) + 1))).2).2 + 1)) (W ((W ((l_markIntS (nth v1_2 v1_1).Doc.Salts (l_markStringS (nth v1_2 v1_1).Doc.Parts (W ((W ((W (v1_0 + 1)) + 1)) + 1))).2).2 + 1)) + 1)) (W ((W ((W ((l_markIntS (nth v1_2 v1_1).Doc.Salts (l_markStringS (nth v1_2 v1_1).Doc.Parts (W ((W ((W (v1_0 + 1)) + 1)) + 1))).2).2 + 1)) + 1)) + 1)) (W ((W ((W ((W ((l_markIntS (nth v1_2 v1_1).Doc.Salts (l_markStringS (nth v1_2 v1_1).Doc.Parts (W ((W ((W (v1_0 + 1)) + 1)) + 1))).2).2 + 1)) + 1)) + 1)) + 1)) (W ((W ((W ((W ((W ((l_markIntS (nth v1_2 v1_1).Doc.Salts (l_markStringS (nth v1_2 v1_1).Doc.Parts (W ((W ((W (v1_0 + 1)) + 1)) + 1))).2).2 + 1)) + 1)) + 1)) + 1)) + 1)) (nth v1_2 v1_1).Sig.Before (nth v1_2 v1_1).Sig.After (nth v1_2 v1_1).Sig.Mark) (nth v1_2 v1_1).Strand)) rfl, set_map (x := (TItem.mk v1_0 (W (v1_0 + 1)) (TDocument.mk (W ((W (v1_0 + 1)) + 1)) (l_markStringS (nth v1_2 v1_1).Doc.Parts (W ((W ((W (v1_0 + 1)) + 1)) + 1))).1 (l_markIntS (nth v1_2 v1_1).Doc.Salts (l_markStringS (nth v1_2 v1_1).Doc.Parts (W ((W ((W (v1_0 + 1)) + 1)) + 1))).2).1) (TSignature.mk (l_markIntS (nth v1_2 v1_1).Doc.Salts (l_markStringS (nth v1_2 v1_1).Doc.Parts (W ((W ((W (v1_0 + 1)) + 1)) + 1))).2).2 (W ((l_markIntS (nth v1_2 v1_1).Doc.Salts (l_markStringS (nth v1_2 v1_1).Doc.Parts (W ((W ((W (v1_0 + 1)) + 1)) + 1))).2).2 + 1)) (W ((W ((l_markIntS (nth v1_2 v1_1).Doc.Salts (l_markStringS (nth v1_2 v1_1).Doc.Parts (W ((W ((W (v1_0 + 1)) + 1)) + 1))).2).2 + 1)) + 1)) (W ((W ((W ((l_markIntS (nth v1_2 v1_1).Doc.Salts (l_markStringS (nth v1_2 v1_1).Doc.Parts (W ((W ((W (v1_0 + 1)) + 1)) + 1))).2).2 + 1)) + 1)) + 1)) (W ((W ((W ((W ((l_markIntS (nth v1_2 v1_1).Doc.Salts (l_markStringS (nth v1_2 v1_1).Doc.Parts (W ((W ((W (v1_0 + 1)) + 1)) + 1))).2).2 + 1)) + 1)) + 1)) + 1)) (W ((W ((W ((W ((W ((l_markIntS (nth v1_2 v1_1).Doc.Salts (l_markStringS (nth v1_2 v1_1).Doc.Parts (W ((W ((W (v1_0 + 1)) + 1)) + 1))).2).2 + 1)) + 1)) + 1)) + 1)) + 1)) (W ((W ((W ((W ((W ((W ((l_markIntS (nth v1_2 v1_1).Doc.Salts (l_markStringS (nth v1_2 v1_1).Doc.Parts (W ((W ((W (v1_0 + 1)) + 1)) + 1))).2).2 + 1)) + 1)) + 1)) + 1)) + 1)) + 1)) (nth v1_2 v1_1).Sig.After (nth v1_2 v1_1).Sig.Mark) (nth v1_2 v1_1).Strand)) rfl, set_map (x := (TItem.mk v1_0 (W (v1_0 + 1)) (TDocument.mk (W ((W (v1_0 + 1)) + 1)) (l_markStringS (nth v1_2 v1_1).Doc.Parts (W ((W ((W (v1_0 + 1)) + 1)) + 1))).1 (l_markIntS (nth v1_2 v1_1).Doc.Salts (l_markStringS (nth v1_2 v1_1).Doc.Parts (W ((W ((W (v1_0 + 1)) + 1)) + 1))).2).1) (TSignature.mk (l_markIntS (nth v1_2 v1_1).Doc.Salts (l_markStringS (nth v1_2 v1_1).Doc.Parts (W ((W ((W (v1_0 + 1)) + 1)) + 1))).2).2 (W ((l_markIntS (nth v1_2 v1_1).Doc.Salts (l_markStringS (nth v1_2 v1_1).Doc.Parts (W ((W ((W (v1_0 + 1)) + 1)) + 1))).2).2 + 1)) (W ((W ((l_markIntS (nth v1_2 v1_1).Doc.Salts (l_markStringS (nth v1_2 v1_1).Doc.Parts (W ((W ((W (v1_0 + 1)) + 1)) + 1))).2).2 + 1)) + 1)) (W ((W ((W ((l_markIntS (nth v1_2 v1_1).Doc.Salts (l_markStringS (nth v1_2 v1_1).Doc.Parts (W ((W ((W (v1_0 + 1)) + 1)) + 1))).2).2 + 1)) + 1)) + 1)) (W ((W ((W ((W ((l_markIntS (nth v1_2 v1_1).Doc.Salts (l_markStringS (nth v1_2 v1_1).Doc.Parts (W ((W ((W (v1_0 + 1)) + 1)) + 1))).2).2 + 1)) + 1)) + 1)) + 1)) (W ((W ((W ((W ((W ((l_markIntS (nth v1_2 v1_1).Doc.Salts (l_markStringS (nth v1_2 v1_1).Doc.Parts (W ((W ((W (v1_0 + 1)) + 1)) + 1))).2).2 + 1)) + 1)) + 1)) + 1)) + 1)) (W ((W ((W ((W ((W ((W ((l_markIntS (nth v1_2 v1_1).Doc.Salts (l_markStringS (nth v1_2 v1_1).Doc.Parts (W ((W ((W (v1_0 + 1)) + 1)) + 1))).2).2 + 1)) + 1)) + 1)) + 1)) + 1)) + 1)) (W ((W ((W ((W ((W ((W ((W ((l_markIntS (nth v1_2 v1_1).Doc.Salts (l_markStringS (nth v1_2 v1_1).Doc.Parts (W ((W ((W (v1_0 + 1)) + 1)) + 1))).2).2 + 1)) + 1)) + 1)) + 1)) + 1)) + 1)) + 1)) (nth v1_2 v1_1).Sig.Mark) (nth v1_2 v1_1).Strand)) rfl, set_map (x := (TItem.mk v1_0 (W (v1_0 + 1)) (TDocument.mk (W ((W (v1_0 + 1)) + 1)) (l_markStringS (nth v1_2 v1_1).Doc.Parts (W ((W ((W (v1_0 + 1)) + 1)) + 1))).1 (l_markIntS (nth v1_2 v1_1).Doc.Salts (l_markStringS (nth v1_2 v1_1).Doc.Parts (W ((W ((W (v1_0 + 1)) + 1)) + 1))).2).1) (TSignature.mk (l_markIntS (nth v1_2 v1_1).Doc.Salts (l_markStringS (nth v1_2 v1_1).Doc.Parts (W ((W ((W (v1_0 + 1)) + 1)) + 1))).2).2 (W ((l_markIntS (nth v1_2 v1_1).Doc.Salts (l_markStringS (nth v1_2 v1_1).Doc.Parts (W ((W ((W (v1_0 + 1)) + 1)) + 1))).2).2 + 1)) (W ((W ((l_markIntS (nth v1_2 v1_1).Doc.Salts (l_markStringS (nth v1_2 v1_1).Doc.Parts (W ((W ((W (v1_0 + 1)) + 1)) + 1))).2).2 + 1)) + 1)) (W ((W ((W ((l_markIntS (nth v1_2 v1_1).Doc.Salts (l_markStringS (nth v1_2 v1_1).Doc.Parts (W ((W ((W (v1_0 + 1)) + 1)) + 1))).2).2 + 1)) + 1)) + 1)) (W ((W ((W ((W ((l_markIntS (nth v1_2 v1_1).Doc.Salts (l_markStringS (nth v1_2 v1_1).Doc.Parts (W ((W ((W (v1_0 + 1)) + 1)) + 1))).2).2 + 1)) + 1)) + 1)) + 1)) (W ((W ((W ((W ((W ((l_markIntS (nth v1_2 v1_1).Doc.Salts (l_markStringS (nth v1_2 v1_1).Doc.Parts (W ((W ((W (v1_0 + 1)) + 1)) + 1))).2).2 + 1)) + 1)) + 1)) + 1)) + 1)) (W ((W ((W ((W ((W ((W ((l_markIntS (nth v1_2 v1_1).Doc.Salts (l_markStringS (nth v1_2 v1_1).Doc.Parts (W ((W ((W (v1_0 + 1)) + 1)) + 1))).2).2 + 1)) + 1)) + 1)) + 1)) + 1)) + 1)) (W ((W ((W ((W ((W ((W ((W ((l_markIntS (nth v1_2 v1_1).Doc.Salts (l_markStringS (nth v1_2 v1_1).Doc.Parts (W ((W ((W (v1_0 + 1)) + 1)) + 1))).2).2 + 1)) + 1)) + 1)) + 1)) + 1)) + 1)) + 1)) (W ((W ((W ((W ((W ((W ((W ((W ((l_markIntS (nth v1_2 v1_1).Doc.Salts (l_markStringS (nth v1_2 v1_1).Doc.Parts (W ((W ((W (v1_0 + 1)) + 1)) + 1))).2).2 + 1)) + 1)) + 1)) + 1)) + 1)) + 1)) + 1)) + 1))) (nth v1_2 v1_1).Strand)) rfl]
  repeat with_reducible refine sd ?_
  refine callMT (t := 0) (j := 0) (i := v1_1) (c := 14) (size := 16) (rows := ((v1_2.set v1_1 (TItem.mk v1_0 (W (v1_0 + 1)) (TDocument.mk (W ((W (v1_0 + 1)) + 1)) (l_markStringS (nth v1_2 v1_1).Doc.Parts (W ((W ((W (v1_0 + 1)) + 1)) + 1))).1 (l_markIntS (nth v1_2 v1_1).Doc.Salts (l_markStringS (nth v1_2 v1_1).Doc.Parts (W ((W ((W (v1_0 + 1)) + 1)) + 1))).2).1) (TSignature.mk (l_markIntS (nth v1_2 v1_1).Doc.Salts (l_markStringS (nth v1_2 v1_1).Doc.Parts (W ((W ((W (v1_0 + 1)) + 1)) + 1))).2).2 (W ((l_markIntS (nth v1_2 v1_1).Doc.Salts (l_markStringS (nth v1_2 v1_1).Doc.Parts (W ((W ((W (v1_0 + 1)) + 1)) + 1))).2).2 + 1)) (W ((W ((l_markIntS (nth v1_2 v1_1).Doc.Salts (l_markStringS (nth v1_2 v1_1).Doc.Parts (W ((W ((W (v1_0 + 1)) + 1)) + 1))).2).2 + 1)) + 1)) (W ((W ((W ((l_markIntS (nth v1_2 v1_1).Doc.Salts (l_markStringS (nth v1_2 v1_1).Doc.Parts (W ((W ((W (v1_0 + 1)) + 1)) + 1))).2).2 + 1)) + 1)) + 1)) (W ((W ((W ((W ((l_markIntS (nth v1_2 v1_1).Doc.Salts (l_markStringS (nth v1_2 v1_1).Doc.Parts (W ((W ((W (v1_0 + 1)) + 1)) + 1))).2).2 + 1)) + 1)) + 1)) + 1)) (W ((W ((W ((W ((W ((l_markIntS (nth v1_2 v1_1).Doc.Salts (l_markStringS (nth v1_2 v1_1).Doc.Parts (W ((W ((W (v1_0 + 1)) + 1)) + 1))).2).2 + 1)) + 1)) + 1)) + 1)) + 1)) (W ((W ((W ((W ((W ((W ((l_markIntS (nth v1_2 v1_1).Doc.Salts (l_markStringS (nth v1_2 v1_1).Doc.Parts (W ((W ((W (v1_0 + 1)) + 1)) + 1))).2).2 + 1)) + 1)) + 1)) + 1)) + 1)) + 1)) (W ((W ((W ((W ((W ((W ((W ((l_markIntS (nth v1_2 v1_1).Doc.Salts (l_markStringS (nth v1_2 v1_1).Doc.Parts (W ((W ((W (v1_0 + 1)) + 1)) + 1))).2).2 + 1)) + 1)) + 1)) + 1)) + 1)) + 1)) + 1)) (W ((W ((W ((W ((W ((W ((W ((W ((l_markIntS (nth v1_2 v1_1).Doc.Salts (l_markStringS (nth v1_2 v1_1).Doc.Parts (W ((W ((W (v1_0 + 1)) + 1)) + 1))).2).2 + 1)) + 1)) + 1)) + 1)) + 1)) + 1)) + 1)) + 1))) (nth v1_2 v1_1).Strand)).map TItem.row)) rfl rfl rfl rfl rfl rfl rfl (l_markPieceS_ok (nth v1_2 v1_1).Strand.Pieces (W ((W ((W ((W ((W ((W ((W ((W ((W ((l_markIntS (nth v1_2 v1_1).Doc.Salts (l_markStringS (nth v1_2 v1_1).Doc.Parts (W ((W ((W (v1_0 + 1)) + 1)) + 1))).2).2 + 1)) + 1)) + 1)) + 1)) + 1)) + 1)) + 1)) + 1)) + 1))) (by simp) (by simp) (by simp [m2, i1]) (by simp [rowAt_map, rowAt_set_self, m2, i1]) (by simp) (by simp) (by simp) ?_
  simp [List.set_set, set_map (x := (TItem.mk v1_0 (W (v1_0 + 1)) (TDocument.mk (W ((W (v1_0 + 1)) + 1)) (l_markStringS (nth v1_2 v1_1).Doc.Parts (W ((W ((W (v1_0 + 1)) + 1)) + 1))).1 (l_markIntS (nth v1_2 v1_1).Doc.Salts (l_markStringS (nth v1_2 v1_1).Doc.Parts (W ((W ((W (v1_0 + 1)) + 1)) + 1))).2).1) (TSignature.mk (l_markIntS (nth v1_2 v1_1).Doc.Salts (l_markStringS (nth v1_2 v1_1).Doc.Parts (W ((W ((W (v1_0 + 1)) + 1)) + 1))).2).2 (W ((l_markIntS (nth v1_2 v1_1).Doc.Salts (l_markStringS (nth v1_2 v1_1).Doc.Parts (W ((W ((W (v1_0 + 1)) + 1)) + 1))).2).2 + 1)) (W ((W ((l_markIntS (nth v1_2 v1_1).Doc.Salts (l_markStringS (nth v1_2 v1_1).Doc.Parts (W ((W ((W (v1_0 + 1)) + 1)) + 1))).2).2 + 1)) + 1)) (W ((W ((W ((l_markIntS (nth v1_2 v1_1).Doc.Salts (l_markStringS (nth v1_2 v1_1).Doc.Parts (W ((W ((W (v1_0 + 1)) + 1)) + 1))).2).2 + 1)) + 1)) + 1)) (W ((W ((W ((W ((l_markIntS (nth v1_2 v1_1).Doc.Salts (l_markStringS (nth v1_2 v1_1).Doc.Parts (W ((W ((W (v1_0 + 1)) + 1)) + 1))).2).2 + 1)) + 1)) + 1)) + 1)) (W ((W ((W ((W ((W ((l_markIntS (nth v1_2 v1_1).Doc.Salts (l_markStringS (nth v1_2 v1_1).Doc.Parts (W ((W ((W (v1_0 + 1)) + 1)) + 1))).2).2 + 1)) + 1)) + 1)) + 1)) + 1)) (W ((W ((W ((W ((W ((W ((l_markIntS (nth v1_2 v1_1).Doc.Salts (l_markStringS (nth v1_2 v1_1).Doc.Parts (W ((W ((W (v1_0 + 1)) + 1)) + 1))).2).2 + 1)) + 1)) + 1)) + 1)) + 1)) + 1)) (W ((W ((W ((W ((W ((W ((W ((l_markIntS (nth v1_2 v1_1).Doc.Salts (l_markStringS (nth v1_2 v1_1).Doc.Parts (W ((W ((W (v1_0 + 1)) + 1)) + 1))).2).2 + 1)) + 1)) + 1)) + 1)) + 1)) + 1)) + 1)) (W ((W ((W ((W ((W ((W ((W ((W ((l_markIntS (nth v1_2 v1_1).Doc.Salts (l_markStringS (nth v1_2 v1_1).Doc.Parts (W ((W ((W (v1_0 + 1)) + 1)) + 1))).2).2 + 1)) + 1)) + 1)) + 1)) + 1)) + 1)) + 1)) + 1))) (TStrand.mk (l_markPieceS (nth v1_2 v1_1).Strand.Pieces (W ((W ((W ((W ((W ((W ((W ((W ((W ((l_markIntS (nth v1_2 v1_1).Doc.Salts (l_markStringS (nth v1_2 v1_1).Doc.Parts (W ((W ((W (v1_0 + 1)) + 1)) + 1))).2).2 + 1)) + 1)) + 1)) + 1)) + 1)) + 1)) + 1)) + 1)) + 1))).1 (nth v1_2 v1_1).Strand.Chain))) rfl, rowAt_map, rowAt_set_self, m2, i1]
  repeat with_reducible refine sd ?_
  refine callMT (t := 0) (j := 0) (i := v1_1) (c := 15) (size := 16) (rows := ((v1_2.set v1_1 (TItem.mk v1_0 (W (v1_0 + 1)) (TDocument.mk (W ((W (v1_0 + 1)) + 1)) (l_markStringS (nth v1_2 v1_1).Doc.Parts (W ((W ((W (v1_0 + 1)) + 1)) + 1))).1 (l_markIntS (nth v1_2 v1_1).Doc.Salts (l_markStringS (nth v1_2 v1_1).Doc.Parts (W ((W ((W (v1_0 + 1)) + 1)) + 1))).2).1) (TSignature.mk (l_markIntS (nth v1_2 v1_1).Doc.Salts (l_markStringS (nth v1_2 v1_1).Doc.Parts (W ((W ((W (v1_0 + 1)) + 1)) + 1))).2).2 (W ((l_markIntS (nth v1_2 v1_1).Doc.Salts (l_markStringS (nth v1_2 v1_1).Doc.Parts (W ((W ((W (v1_0 + 1)) + 1)) + 1))).2).2 + 1)) (W ((W ((l_markIntS (nth v1_2 v1_1).Doc.Salts (l_markStringS (nth v1_2 v1_1).Doc.Parts (W ((W ((W (v1_0 + 1)) + 1)) + 1))).2).2 + 1)) + 1)) (W ((W ((W ((l_markIntS (nth v1_2 v1_1).Doc.Salts (l_markStringS (nth v1_2 v1_1).Doc.Parts (W ((W ((W (v1_0 + 1)) + 1)) + 1))).2).2 + 1)) + 1)) + 1)) (W ((W ((W ((W ((l_markIntS (nth v1_2 v1_1).Doc.Salts (l_markStringS (nth v1_2 v1_1).Doc.Parts (W ((W ((W (v1_0 + 1)) + 1)) + 1))).2).2 + 1)) + 1)) + 1)) + 1)) (W ((W ((W ((W ((W ((l_markIntS (nth v1_2 v1_1).Doc.Salts (l_markStringS (nth v1_2 v1_1).Doc.Parts (W ((W ((W (v1_0 + 1)) + 1)) + 1))).2).2 + 1)) + 1)) + 1)) + 1)) + 1)) (W ((W ((W ((W ((W ((W ((l_markIntS (nth v1_2 v1_1).Doc.Salts (l_markStringS (nth v1_2 v1_1).Doc.Parts (W ((W ((W (v1_0 + 1)) + 1)) + 1))).2).2 + 1)) + 1)) + 1)) + 1)) + 1)) + 1)) (W ((W ((W ((W ((W ((W ((W ((l_markIntS (nth v1_2 v1_1).Doc.Salts (l_markStringS (nth v1_2 v1_1).Doc.Parts (W ((W ((W (v1_0 + 1)) + 1)) + 1))).2).2 + 1)) + 1)) + 1)) + 1)) + 1)) + 1)) + 1)) (W ((W ((W ((W ((W ((W ((W ((W ((l_markIntS (nth v1_2 v1_1).Doc.Salts (l_markStringS (nth v1_2 v1_1).Doc.Parts (W ((W ((W (v1_0 + 1)) + 1)) + 1))).2).2 + 1)) + 1)) + 1)) + 1)) + 1)) + 1)) + 1)) + 1))) (TStrand.mk (l_markPieceS (nth v1_2 v1_1).Strand.Pieces (W ((W ((W ((W ((W ((W ((W ((W ((W ((l_markIntS (nth v1_2 v1_1).Doc.Salts (l_markStringS (nth v1_2 v1_1).Doc.Parts (W ((W ((W (v1_0 + 1)) + 1)) + 1))).2).2 + 1)) + 1)) + 1)) + 1)) + 1)) + 1)) + 1)) + 1)) + 1))).1 (nth v1_2 v1_1).Strand.Chain))).map TItem.row)) rfl rfl rfl rfl rfl rfl rfl (l_markRenewalS_ok (nth v1_2 v1_1).Strand.Chain (l_markPieceS (nth v1_2 v1_1).Strand.Pieces (W ((W ((W ((W ((W ((W ((W ((W ((W ((l_markIntS (nth v1_2 v1_1).Doc.Salts (l_markStringS (nth v1_2 v1_1).Doc.Parts (W ((W ((W (v1_0 + 1)) + 1)) + 1))).2).2 + 1)) + 1)) + 1)) + 1)) + 1)) + 1)) + 1)) + 1)) + 1))).2) (by simp) (by simp) (by simp [m2, i1]) (by simp [rowAt_map, rowAt_set_self, m2, i1]) (by simp) (by simp) (by simp) ?_
  simp [List.set_set, set_map (x := (TItem.mk v1_0 (W (v1_0 + 1)) (TDocument.mk (W ((W (v1_0 + 1)) + 1)) (l_markStringS (nth v1_2 v1_1).Doc.Parts (W ((W ((W (v1_0 + 1)) + 1)) + 1))).1 (l_markIntS (nth v1_2 v1_1).Doc.Salts (l_markStringS (nth v1_2 v1_1).Doc.Parts (W ((W ((W (v1_0 + 1)) + 1)) + 1))).2).1) (TSignature.mk (l_markIntS (nth v1_2 v1_1).Doc.Salts (l_markStringS (nth v1_2 v1_1).Doc.Parts (W ((W ((W (v1_0 + 1)) + 1)) + 1))).2).2 (W ((l_markIntS (nth v1_2 v1_1).Doc.Salts (l_markStringS (nth v1_2 v1_1).Doc.Parts (W ((W ((W (v1_0 + 1)) + 1)) + 1))).2).2 + 1)) (W ((W ((l_markIntS (nth v1_2 v1_1).Doc.Salts (l_markStringS (nth v1_2 v1_1).Doc.Parts (W ((W ((W (v1_0 + 1)) + 1)) + 1))).2).2 + 1)) + 1)) (W ((W ((W ((l_markIntS (nth v1_2 v1_1).Doc.Salts (l_markStringS (nth v1_2 v1_1).Doc.Parts (W ((W ((W (v1_0 + 1)) + 1)) + 1))).2).2 + 1)) + 1)) + 1)) (W ((W ((W ((W ((l_markIntS (nth v1_2 v1_1).Doc.Salts (l_markStringS (nth v1_2 v1_1).Doc.Parts (W ((W ((W (v1_0 + 1)) + 1)) + 1))).2).2 + 1)) + 1)) + 1)) + 1)) (W ((W ((W ((W ((W ((l_markIntS (nth v1_2 v1_1).Doc.Salts (l_markStringS (nth v1_2 v1_1).Doc.Parts (W ((W ((W (v1_0 + 1)) + 1)) + 1))).2).2 + 1)) + 1)) + 1)) + 1)) + 1)) (W ((W ((W ((W ((W ((W ((l_markIntS (nth v1_2 v1_1).Doc.Salts (l_markStringS (nth v1_2 v1_1).Doc.Parts (W ((W ((W (v1_0 + 1)) + 1)) + 1))).2).2 + 1)) + 1)) + 1)) + 1)) + 1)) + 1)) (W ((W ((W ((W ((W ((W ((W ((l_markIntS (nth v1_2 v1_1).Doc.Salts (l_markStringS (nth v1_2 v1_1).Doc.Parts (W ((W ((W (v1_0 + 1)) + 1)) + 1))).2).2 + 1)) + 1)) + 1)) + 1)) + 1)) + 1)) + 1)) (W ((W ((W ((W ((W ((W ((W ((W ((l_markIntS (nth v1_2 v1_1).Doc.Salts (l_markStringS (nth v1_2 v1_1).Doc.Parts (W ((W ((W (v1_0 + 1)) + 1)) + 1))).2).2 + 1)) + 1)) + 1)) + 1)) + 1)) + 1)) + 1)) + 1))) (TStrand.mk (l_markPieceS (nth v1_2 v1_1).Strand.Pieces (W ((W ((W ((W ((W ((W ((W ((W ((W ((l_markIntS (nth v1_2 v1_1).Doc.Salts (l_markStringS (nth v1_2 v1_1).Doc.Parts (W ((W ((W (v1_0 + 1)) + 1)) + 1))).2).2 + 1)) + 1)) + 1)) + 1)) + 1)) + 1)) + 1)) + 1)) + 1))).1 (l_markRenewalS (nth v1_2 v1_1).Strand.Chain (l_markPieceS (nth v1_2 v1_1).Strand.Pieces (W ((W ((W ((W ((W ((W ((W ((W ((W ((l_markIntS (nth v1_2 v1_1).Doc.Salts (l_markStringS (nth v1_2 v1_1).Doc.Parts (W ((W ((W (v1_0 + 1)) + 1)) + 1))).2).2 + 1)) + 1)) + 1)) + 1)) + 1)) + 1)) + 1)) + 1)) + 1))).2).1))) rfl, rowAt_map, rowAt_set_self, m2, i1]
  repeat with_reducible refine sd ?_
  refine nxtI ⟨(p1, (l_markRenewalS (nth v1_2 v1_1).Strand.Chain (l_markPieceS (nth v1_2 v1_1).Strand.Pieces (W ((W ((W ((W ((W ((W ((W ((W ((W ((l_markIntS (nth v1_2 v1_1).Doc.Salts (l_markStringS (nth v1_2 v1_1).Doc.Parts (W ((W ((W (v1_0 + 1)) + 1)) + 1))).2).2 + 1)) + 1)) + 1)) + 1)) + 1)) + 1)) + 1)) + 1)) + 1))).2).2, (v1_1 + 1), (v1_2.set v1_1 (TItem.mk v1_0 (W (v1_0 + 1)) (TDocument.mk (W ((W (v1_0 + 1)) + 1)) (l_markStringS (nth v1_2 v1_1).Doc.Parts (W ((W ((W (v1_0 + 1)) + 1)) + 1))).1 (l_markIntS (nth v1_2 v1_1).Doc.Salts (l_markStringS (nth v1_2 v1_1).Doc.Parts (W ((W ((W (v1_0 + 1)) + 1)) + 1))).2).1) (TSignature.mk (l_markIntS (nth v1_2 v1_1).Doc.Salts (l_markStringS (nth v1_2 v1_1).Doc.Parts (W ((W ((W (v1_0 + 1)) + 1)) + 1))).2).2 (W ((l_markIntS (nth v1_2 v1_1).Doc.Salts (l_markStringS (nth v1_2 v1_1).Doc.Parts (W ((W ((W (v1_0 + 1)) + 1)) + 1))).2).2 + 1)) (W ((W ((l_markIntS (nth v1_2 v1_1).Doc.Salts (l_markStringS (nth v1_2 v1_1).Doc.Parts (W ((W ((W (v1_0 + 1)) + 1)) + 1))).2).2 + 1)) + 1)) (W ((W ((W ((l_markIntS (nth v1_2 v1_1).Doc.Salts (l_markStringS (nth v1_2 v1_1).Doc.Parts (W ((W ((W (v1_0 + 1)) + 1)) + 1))).2).2 + 1)) + 1)) + 1)) (W ((W ((W ((W ((l_markIntS (nth v1_2 v1_1).Doc.Salts (l_markStringS (nth v1_2 v1_1).Doc.Parts (W ((W ((W (v1_0 + 1)) + 1)) + 1))).2).2 + 1)) + 1)) + 1)) + 1)) (W ((W ((W ((W ((W ((l_markIntS (nth v1_2 v1_1).Doc.Salts (l_markStringS (nth v1_2 v1_1).Doc.Parts (W ((W ((W (v1_0 + 1)) + 1)) + 1))).2).2 + 1)) + 1)) + 1)) + 1)) + 1)) (W ((W ((W ((W ((W ((W ((l_markIntS (nth v1_2 v1_1).Doc.Salts (l_markStringS (nth v1_2 v1_1).Doc.Parts (W ((W ((W (v1_0 + 1)) + 1)) + 1))).2).2 + 1)) + 1)) + 1)) + 1)) + 1)) + 1)) (W ((W ((W ((W ((W ((W ((W ((l_markIntS (nth v1_2 v1_1).Doc.Salts (l_markStringS (nth v1_2 v1_1).Doc.Parts (W ((W ((W (v1_0 + 1)) + 1)) + 1))).2).2 + 1)) + 1)) + 1)) + 1)) + 1)) + 1)) + 1)) (W ((W ((W ((W ((W ((W ((W ((W ((l_markIntS (nth v1_2 v1_1).Doc.Salts (l_markStringS (nth v1_2 v1_1).Doc.Parts (W ((W ((W (v1_0 + 1)) + 1)) + 1))).2).2 + 1)) + 1)) + 1)) + 1)) + 1)) + 1)) + 1)) + 1))) (TStrand.mk (l_markPieceS (nth v1_2 v1_1).Strand.Pieces (W ((W ((W ((W ((W ((W ((W ((W ((W ((l_markIntS (nth v1_2 v1_1).Doc.Salts (l_markStringS (nth v1_2 v1_1).Doc.Parts (W ((W ((W (v1_0 + 1)) + 1)) + 1))).2).2 + 1)) + 1)) + 1)) + 1)) + 1)) + 1)) + 1)) + 1)) + 1))).1 (l_markRenewalS (nth v1_2 v1_1).Strand.Chain (l_markPieceS (nth v1_2 v1_1).Strand.Pieces (W ((W ((W ((W ((W ((W ((W ((W ((W ((l_markIntS (nth v1_2 v1_1).Doc.Salts (l_markStringS (nth v1_2 v1_1).Doc.Parts (W ((W ((W (v1_0 + 1)) + 1)) + 1))).2).2 + 1)) + 1)) + 1)) + 1)) + 1)) + 1)) + 1)) + 1)) + 1))).2).1)))), ?_, ?_⟩ (by simp) (wk_keep (by simp [w1]))
  · rw [← e1]; simp only [l_markItemS_1, h1, cond_t, cond_f]
  · (simp; omega)
 ·have q1 := h1; try simp at q1
  have x1 : l_markItemS_1 (a0.length + 1) a1 0 a0 = (v1_0, v1_2) := by rw [← e1]; simp only [l_markItemS_1, h1, cond_t, cond_f]
  simp
  refine retM (rv := [.tmp 4]) rfl ?_
  have f1 := l_markItemS.eq_1 a0 a1; simp only [x1, cond_t, cond_f] at f1; simp [f1]
theorem l_markArchiveS_ok (a0 : List TArchive) (a1 : Int) : SoundM Tryz.prog 40 [.sl 2 (a0.map TArchive.row)] [[.int .i64 a1]] [.sl 2 ((l_markArchiveS a0 a1).1.map TArchive.row)] (.int .i64 (l_markArchiveS a0 a1).2) := by
 refine sound_ofM Tryz.func40 rfl (by kernel_rfl) (fun v => ?_)
 simp [Tryz.ntmps40]
 refine okL fun k1 => ?_
 refine loopI (ι := { s : Nat × Int × Nat × (List TArchive) // l_markArchiveS_1 s.1 s.2.1 s.2.2.1 s.2.2.2 = l_markArchiveS_1 (a0.length + 1) a1 0 a0 ∧ (1 ≤ s.1 ∧ s.2.2.2.length < s.1 + s.2.2.1) }) (fun s => stOf 27 [(0, .fix v (.one (.sref 0 0 0 s.1.2.2.2.length)), [.arr true 2 (s.1.2.2.2.map TArchive.row)]), eI 1 s.1.2.1, eI 5 (↑s.1.2.2.1 : Int)]) (fun s => s.1.1) ⟨((a0.length + 1), a1, 0, a0), rfl, by first | omega | (dsimp only; omega) | simp⟩ (wk_keep (by simp)) ?_
 rintro ⟨⟨n1, v1_0, v1_1, v1_2⟩, e1, j1⟩
 try dsimp only at e1 j1
 obtain ⟨p1, rfl⟩ : ∃ p, n1 = p + 1 := ⟨n1 - 1, by omega⟩
 simp
 refine cC (decide ((↑v1_1 : Int) < (↑v1_2.length : Int))) (fun k2 h1 => ?_) (fun k2 h1 => ?_)
 ·have q1 := h1; try simp at q1
  have i1 : v1_1 < v1_2.length := by simpa using h1
  have m2 : v1_2.length ≤ 9223372036854775807 := by simpa using k2 0 _ rfl
  have w1 : IntKind.i64.wrap ((v1_1 : Int) + 1) = (v1_1 : Int) + 1 := wrap_of (by omega) (by omega)
  simp [i1, rowAt_map, set_map (x := (TArchive.mk v1_0 (nth v1_2 v1_1).Items)) rfl, rowAt_set_self]
  repeat with_reducible refine sd ?_
  refine callMT (t := 0) (j := 0) (i := v1_1) (c := 1) (size := 2) (rows := ((v1_2.set v1_1 (TArchive.mk v1_0 (nth v1_2 v1_1).Items)).map TArchive.row)) rfl rfl rfl rfl rfl rfl rfl (l_markItemS_ok (nth v1_2 v1_1).Items (W (v1_0 + 1))) (by simp) (by simp) (by simp [m2, i1]) (by simp [rowAt_map, rowAt_set_self, m2, i1]) (by simp) (by simp) (by simp) ?_
  simp [List.set_set, set_map (x := (TArchive.mk v1_0 (l_markItemS (nth v1_2 v1_1).Items (W (v1_0 + 1))).1)) rfl, rowAt_map, rowAt_set_self, m2, i1]
  repeat with_reducible refine sd ?_
  refine nxtI ⟨(p1, (l_markItemS (nth v1_2 v1_1).Items (W (v1_0 + 1))).2, (v1_1 + 1), (v1_2.set v1_1 (TArchive.mk v1_0 (l_markItemS (nth v1_2 v1_1).Items (W (v1_0 + 1))).1))), ?_, ?_⟩ (by simp) (wk_keep (by simp [w1]))
  · rw [← e1]; simp only [l_markArchiveS_1, h1, cond_t, cond_f]
  · (simp; omega)
 ·have q1 := h1; try simp at q1
  have x1 : l_markArchiveS_1 (a0.length + 1) a1 0 a0 = (v1_0, v1_2) := by rw [← e1]; simp only [l_markArchiveS_1, h1, cond_t, cond_f]
  simp
  refine retM (rv := [.tmp 4]) rfl ?_
  have f1 := l_markArchiveS.eq_1 a0 a1; simp only [x1, cond_t, cond_f] at f1; simp [f1]
theorem l_markWorld_ok (a0 : TWorld) (a1 : Int) : SoundM Tryz.prog 12 a0.row [[.int .i64 a1]] (l_markWorld a0 a1).1.row (.int .i64 (l_markWorld a0 a1).2) := by
 refine sound_ofM Tryz.func12 rfl (by kernel_rfl) (fun v => ?_)
 simp [Tryz.ntmps12]
 refine callMO (ats := [.sref 0 0 0 a0.Frame.Keys.length, .sref 0 1 0 a0.Frame.Authorities.length, .sref 0 2 0 a0.Frame.Methods.length, .d (.int .i64 a0.Frame.Liars), .d (.int .i64 a0.Frame.Now)]) rfl rfl rfl rfl rfl rfl rfl (l_markFrame_ok a0.Frame a1) (by simp) (by simp) (by simp) (by simp) (by simp) (by simp) (by simp) (by simp) (by simp) ?_
 simp
 refine callMO (ats := [.sref 0 5 0 a0.Certs.length]) rfl rfl rfl rfl rfl rfl rfl (l_markCertS_ok a0.Certs (l_markFrame a0.Frame a1).2) (by simp) (by simp) (by simp) (by simp) (by simp) (by simp) (by simp) (by simp) (by simp) ?_
 simp
 refine callMO (ats := [.sref 0 6 0 a0.Ended.length]) rfl rfl rfl rfl rfl rfl rfl (l_markIntS_ok a0.Ended (l_markCertS a0.Certs (l_markFrame a0.Frame a1).2).2) (by simp) (by simp) (by simp) (by simp) (by simp) (by simp) (by simp) (by simp) (by simp) ?_
 simp
 refine callMO (ats := [.sref 0 7 0 a0.Archives.length]) rfl rfl rfl rfl rfl rfl rfl (l_markArchiveS_ok a0.Archives (l_markIntS a0.Ended (l_markCertS a0.Certs (l_markFrame a0.Frame a1).2).2).2) (by simp) (by simp) (by simp) (by simp) (by simp) (by simp) (by simp) (by simp) (by simp) ?_
 simp
 refine callMO (ats := [.sref 0 8 0 a0.Seqs.length]) rfl rfl rfl rfl rfl rfl rfl (l_markIntS_ok a0.Seqs (l_markArchiveS a0.Archives (l_markIntS a0.Ended (l_markCertS a0.Certs (l_markFrame a0.Frame a1).2).2).2).2) (by simp) (by simp) (by simp) (by simp) (by simp) (by simp) (by simp) (by simp) (by simp) ?_
 simp
 refine callMO (ats := [.sref 0 9 0 a0.Lying.length]) rfl rfl rfl rfl rfl rfl rfl (l_markIntS_ok a0.Lying (l_markIntS a0.Seqs (l_markArchiveS a0.Archives (l_markIntS a0.Ended (l_markCertS a0.Certs (l_markFrame a0.Frame a1).2).2).2).2).2) (by simp) (by simp) (by simp) (by simp) (by simp) (by simp) (by simp) (by simp) (by simp) ?_
 simp
 refine callMO (ats := [.sref 0 11 0 a0.Forged.length]) rfl rfl rfl rfl rfl rfl rfl (l_markIntS_ok a0.Forged (l_markIntS a0.Lying (l_markIntS a0.Seqs (l_markArchiveS a0.Archives (l_markIntS a0.Ended (l_markCertS a0.Certs (l_markFrame a0.Frame a1).2).2).2).2).2).2) (by simp) (by simp) (by simp) (by simp) (by simp) (by simp) (by simp) (by simp) (by simp) ?_
 simp
 refine retM (rv := [.tmp 4]) rfl ?_
 have f1 := l_markWorld.eq_1 a0 a1; simp [f1]
theorem l_heldStampS_ok (a0 : List TStamp) (a1 : Int) : SoundAt Tryz.prog 14 false [[.sl 5 (a0.map TStamp.row)], [.int .i64 a1]] [[.int .i64 (l_heldStampS a0 a1)]] := by
 refine sound_of Tryz.func14 rfl (by kernel_rfl) ?_
 simp [Tryz.ntmps14]
 refine okL fun k1 => ?_
 refine loopI (ι := { s : Nat × Int × Nat // l_heldStampS_1 a0 s.1 s.2.1 s.2.2 = l_heldStampS_1 a0 (a0.length + 1) a1 0 ∧ (1 ≤ s.1 ∧ a0.length < s.1 + s.2.2 ∧ s.2.2 ≤ a0.length) }) (fun s => stOf 58 [eL 0 5 a0 TStamp.row, eI 1 s.1.2.1, eI 5 (↑s.1.2.2 : Int)]) (fun s => s.1.1) ⟨((a0.length + 1), a1, 0), rfl, by first | omega | (dsimp only; omega) | simp⟩ (wk_keep (by simp)) ?_
 rintro ⟨⟨n1, v1_0, v1_1⟩, e1, j1⟩
 try dsimp only at e1 j1
 obtain ⟨p1, rfl⟩ : ∃ p, n1 = p + 1 := ⟨n1 - 1, by omega⟩
 simp
 refine cC (decide ((↑v1_1 : Int) < (↑a0.length : Int))) (fun k2 h1 => ?_) (fun k2 h1 => ?_)
 ·have q1 := h1; try simp at q1
  have i1 : v1_1 < a0.length := by simpa using h1
  have m2 : a0.length ≤ 9223372036854775807 := by simpa using k2 0 _ rfl
  have w1 : IntKind.i64.wrap ((v1_1 : Int) + 1) = (v1_1 : Int) + 1 := wrap_of (by omega) (by omega)
  simp [i1, rowAt_map]
  repeat with_reducible refine sd ?_
  refine cC ((nth a0 v1_1).Authority != v1_0) (fun k3 h2 => ?_) (fun k3 h2 => ?_)
  ·have q2 := h2; try simp at q2
   have x1 : l_heldStampS_1 a0 (a0.length + 1) a1 0 = .inl (-1) := by rw [← e1]; simp only [l_heldStampS_1, h1, h2, cond_t, cond_f]
   simp
   refine retRd (rv := [.tmp 4]) rfl ?_
   have f1 := l_heldStampS.eq_1 a0 a1; simp only [x1, cond_t, cond_f] at f1; simp [f1]
  ·have q2 := h2; try simp at q2
   simp [i1, rowAt_map]
   repeat with_reducible refine sd ?_
   refine cC ((nth a0 v1_1).Seq != (W (v1_0 + 1))) (fun k4 h3 => ?_) (fun k4 h3 => ?_)
   ·have q3 := h3; try simp at q3
    have x2 : l_heldStampS_1 a0 (a0.length + 1) a1 0 = .inl (-1) := by rw [← e1]; simp only [l_heldStampS_1, h1, h2, h3, cond_t, cond_f]
    simp
    refine retRd (rv := [.tmp 4]) rfl ?_
    have f2 := l_heldStampS.eq_1 a0 a1; simp only [x2, cond_t, cond_f] at f2; simp [f2]
   ·have q3 := h3; try simp at q3
    simp [i1, rowAt_map]
    repeat with_reducible refine sd ?_
    refine cC ((nth a0 v1_1).Time != (W ((W (v1_0 + 1)) + 1))) (fun k5 h4 => ?_) (fun k5 h4 => ?_)
    ·have q4 := h4; try simp at q4
     have x3 : l_heldStampS_1 a0 (a0.length + 1) a1 0 = .inl (-1) := by rw [← e1]; simp only [l_heldStampS_1, h1, h2, h3, h4, cond_t, cond_f]
     simp
     refine retRd (rv := [.tmp 4]) rfl ?_
     have f3 := l_heldStampS.eq_1 a0 a1; simp only [x3, cond_t, cond_f] at f3; simp [f3]
    ·have q4 := h4; try simp at q4
     simp [i1, rowAt_map]
     repeat with_reducible refine sd ?_
     refine cC ((nth a0 v1_1).Digest != (W ((W ((W (v1_0 + 1)) + 1)) + 1))) (fun k6 h5 => ?_) (fun k6 h5 => ?_)
     ·have q5 := h5; try simp at q5
      have x4 : l_heldStampS_1 a0 (a0.length + 1) a1 0 = .inl (-1) := by rw [← e1]; simp only [l_heldStampS_1, h1, h2, h3, h4, h5, cond_t, cond_f]
      simp
      refine retRd (rv := [.tmp 4]) rfl ?_
      have f4 := l_heldStampS.eq_1 a0 a1; simp only [x4, cond_t, cond_f] at f4; simp [f4]
     ·have q5 := h5; try simp at q5
      simp [i1, rowAt_map]
      repeat with_reducible refine sd ?_
      refine cC ((nth a0 v1_1).Mark != (W ((W ((W ((W (v1_0 + 1)) + 1)) + 1)) + 1))) (fun k7 h6 => ?_) (fun k7 h6 => ?_)
      ·have q6 := h6; try simp at q6
       have x5 : l_heldStampS_1 a0 (a0.length + 1) a1 0 = .inl (-1) := by rw [← e1]; simp only [l_heldStampS_1, h1, h2, h3, h4, h5, h6, cond_t, cond_f]
       simp
       refine retRd (rv := [.tmp 4]) rfl ?_
       have f5 := l_heldStampS.eq_1 a0 a1; simp only [x5, cond_t, cond_f] at f5; simp [f5]
      ·have q6 := h6; try simp at q6
       simp
       refine nxtI ⟨(p1, (W ((W ((W ((W ((W (v1_0 + 1)) + 1)) + 1)) + 1)) + 1)), (v1_1 + 1)), ?_, ?_⟩ (by simp) (wk_keep (by simp [w1]))
       · rw [← e1]; simp only [l_heldStampS_1, h1, h2, h3, h4, h5, h6, cond_t, cond_f]
       · first | omega | (simp at *; omega)
 ·have q1 := h1; try simp at q1
  have x6 : l_heldStampS_1 a0 (a0.length + 1) a1 0 = .inr v1_0 := by rw [← e1]; simp only [l_heldStampS_1, h1, cond_t, cond_f]
  simp
  refine retRd (rv := [.tmp 4]) rfl ?_
  have f6 := l_heldStampS.eq_1 a0 a1; simp only [x6, cond_t, cond_f] at f6; simp [f6]
end Go.Proofs.YtdbglcndfmdlfaaGreat
