/- Contracts of the functions over the abstract machine, part 1. No condition. -/
import Derived.Test.YtdbglcndfmdlfaaGreatL
import Derived.Test.YtdbglcndfmdlfaaGreatTy
namespace Go.Proofs.YtdbglcndfmdlfaaGreat
open Go.Vm Go.Mo
set_option maxHeartbeats 1000000
set_option maxRecDepth 100000
set_option linter.unusedSimpArgs false
set_option linter.unusedVariables false
theorem mixed : Tryz.prog.follows .mixedOrders = true := by kernel_rfl
theorem l_szKeyS_ok (a0 : List TKey) (a1 : Int) : SoundAt Tryz.prog 65 false [[.sl 5 (a0.map TKey.row)], [.int .i64 a1]] [[.int .i64 (l_szKeyS a0 a1)]] := by
 refine sound_of Tryz.func65 rfl (by kernel_rfl) ?_
 simp [Tryz.ntmps65]
 refine cC (decide ((W (a1 - (↑a0.length : Int))) < 0)) (fun k1 h1 => ?_) (fun k1 h1 => ?_)
 ·have q1 := h1; try simp at q1
  simp
  refine retRd (rv := [.tmp 4]) rfl ?_
  have f1 := l_szKeyS.eq_1 a0 a1; simp only [h1, cond_t, cond_f] at f1; simp [f1]
 ·have q1 := h1; try simp at q1
  simp
  refine retRd (rv := [.tmp 4]) rfl ?_
  have f2 := l_szKeyS.eq_1 a0 a1; simp only [h1, cond_t, cond_f] at f2; simp [f2]
theorem l_szAuthorityS_ok (a0 : List TAuthority) (a1 : Int) : SoundAt Tryz.prog 66 false [[.sl 3 (a0.map TAuthority.row)], [.int .i64 a1]] [[.int .i64 (l_szAuthorityS a0 a1)]] := by
 refine sound_of Tryz.func66 rfl (by kernel_rfl) ?_
 simp [Tryz.ntmps66]
 refine cC (decide ((W (a1 - (↑a0.length : Int))) < 0)) (fun k1 h1 => ?_) (fun k1 h1 => ?_)
 ·have q1 := h1; try simp at q1
  simp
  refine retRd (rv := [.tmp 4]) rfl ?_
  have f1 := l_szAuthorityS.eq_1 a0 a1; simp only [h1, cond_t, cond_f] at f1; simp [f1]
 ·have q1 := h1; try simp at q1
  simp
  refine retRd (rv := [.tmp 4]) rfl ?_
  have f2 := l_szAuthorityS.eq_1 a0 a1; simp only [h1, cond_t, cond_f] at f2; simp [f2]
theorem l_szMethodS_ok (a0 : List TMethod) (a1 : Int) : SoundAt Tryz.prog 67 false [[.sl 4 (a0.map TMethod.row)], [.int .i64 a1]] [[.int .i64 (l_szMethodS a0 a1)]] := by
 refine sound_of Tryz.func67 rfl (by kernel_rfl) ?_
 simp [Tryz.ntmps67]
 refine cC (decide ((W (a1 - (↑a0.length : Int))) < 0)) (fun k1 h1 => ?_) (fun k1 h1 => ?_)
 ·have q1 := h1; try simp at q1
  simp
  refine retRd (rv := [.tmp 4]) rfl ?_
  have f1 := l_szMethodS.eq_1 a0 a1; simp only [h1, cond_t, cond_f] at f1; simp [f1]
 ·have q1 := h1; try simp at q1
  simp
  refine retRd (rv := [.tmp 4]) rfl ?_
  have f2 := l_szMethodS.eq_1 a0 a1; simp only [h1, cond_t, cond_f] at f2; simp [f2]
theorem l_szFrame_ok (a0 : TFrame) (a1 : Int) : SoundAt Tryz.prog 20 false [a0.row, [.int .i64 a1]] [[.int .i64 (l_szFrame a0 a1)]] := by
 refine sound_of Tryz.func20 rfl (by kernel_rfl) ?_
 simp [Tryz.ntmps20]
 refine cR (l_szKeyS_ok a0.Keys a1) ?_
 simp
 refine cC (decide ((l_szKeyS a0.Keys a1) < 0)) (fun k1 h1 => ?_) (fun k1 h1 => ?_)
 ·have q1 := h1; try simp at q1
  simp
  refine retRd (rv := [.tmp 4]) rfl ?_
  have f1 := l_szFrame.eq_1 a0 a1; simp only [h1, cond_t, cond_f] at f1; simp [f1]
 ·have q1 := h1; try simp at q1
  simp
  refine cR (l_szAuthorityS_ok a0.Authorities (l_szKeyS a0.Keys a1)) ?_
  simp
  refine cC (decide ((l_szAuthorityS a0.Authorities (l_szKeyS a0.Keys a1)) < 0)) (fun k2 h2 => ?_) (fun k2 h2 => ?_)
  ·have q2 := h2; try simp at q2
   simp
   refine retRd (rv := [.tmp 4]) rfl ?_
   have f2 := l_szFrame.eq_1 a0 a1; simp only [h1, h2, cond_t, cond_f] at f2; simp [f2]
  ·have q2 := h2; try simp at q2
   simp
   refine cR (l_szMethodS_ok a0.Methods (l_szAuthorityS a0.Authorities (l_szKeyS a0.Keys a1))) ?_
   simp
   refine cC (decide ((l_szMethodS a0.Methods (l_szAuthorityS a0.Authorities (l_szKeyS a0.Keys a1))) < 0)) (fun k3 h3 => ?_) (fun k3 h3 => ?_)
   ·have q3 := h3; try simp at q3
    simp
    refine retRd (rv := [.tmp 4]) rfl ?_
    have f3 := l_szFrame.eq_1 a0 a1; simp only [h1, h2, h3, cond_t, cond_f] at f3; simp [f3]
   ·have q3 := h3; try simp at q3
    simp
    refine retRd (rv := [.tmp 4]) rfl ?_
    have f4 := l_szFrame.eq_1 a0 a1; simp only [h1, h2, h3, cond_t, cond_f] at f4; simp [f4]
theorem l_szCertS_ok (a0 : List TCert) (a1 : Int) : SoundAt Tryz.prog 21 false [[.sl 7 (a0.map TCert.row)], [.int .i64 a1]] [[.int .i64 (l_szCertS a0 a1)]] := by
 refine sound_of Tryz.func21 rfl (by kernel_rfl) ?_
 simp [Tryz.ntmps21]
 refine cC (decide ((W (a1 - (↑a0.length : Int))) < 0)) (fun k1 h1 => ?_) (fun k1 h1 => ?_)
 ·have q1 := h1; try simp at q1
  simp
  refine retRd (rv := [.tmp 4]) rfl ?_
  have f1 := l_szCertS.eq_1 a0 a1; simp only [h1, cond_t, cond_f] at f1; simp [f1]
 ·have q1 := h1; try simp at q1
  simp
  refine retRd (rv := [.tmp 4]) rfl ?_
  have f2 := l_szCertS.eq_1 a0 a1; simp only [h1, cond_t, cond_f] at f2; simp [f2]
theorem l_szIntS_ok (a0 : List Int) (a1 : Int) : SoundAt Tryz.prog 22 false [[.sl 1 (a0.map iR)], [.int .i64 a1]] [[.int .i64 (l_szIntS a0 a1)]] := by
 refine sound_of Tryz.func22 rfl (by kernel_rfl) ?_
 simp [Tryz.ntmps22]
 refine cC (decide ((W (a1 - (↑a0.length : Int))) < 0)) (fun k1 h1 => ?_) (fun k1 h1 => ?_)
 ·have q1 := h1; try simp at q1
  simp
  refine retRd (rv := [.tmp 4]) rfl ?_
  have f1 := l_szIntS.eq_1 a0 a1; simp only [h1, cond_t, cond_f] at f1; simp [f1]
 ·have q1 := h1; try simp at q1
  simp
  refine retRd (rv := [.tmp 4]) rfl ?_
  have f2 := l_szIntS.eq_1 a0 a1; simp only [h1, cond_t, cond_f] at f2; simp [f2]
theorem l_szStringS_ok (a0 : List ByteArray) (a1 : Int) : SoundAt Tryz.prog 211 false [[.sl 1 (a0.map sR)], [.int .i64 a1]] [[.int .i64 (l_szStringS a0 a1)]] := by
 refine sound_of Tryz.func211 rfl (by kernel_rfl) ?_
 simp [Tryz.ntmps211]
 refine cC (decide ((W (a1 - (↑a0.length : Int))) < 0)) (fun k1 h1 => ?_) (fun k1 h1 => ?_)
 ·have q1 := h1; try simp at q1
  simp
  refine retRd (rv := [.tmp 4]) rfl ?_
  have f1 := l_szStringS.eq_1 a0 a1; simp only [h1, cond_t, cond_f] at f1; simp [f1]
 ·have q1 := h1; try simp at q1
  simp
  refine okL fun k2 => ?_
  refine loopI (ι := { s : Nat × Int × Nat // l_szStringS_1 a0 s.1 s.2.1 s.2.2 = l_szStringS_1 a0 (a0.length + 1) (W (a1 - (↑a0.length : Int))) 0 ∧ (1 ≤ s.1 ∧ a0.length < s.1 + s.2.2 ∧ s.2.2 ≤ a0.length) }) (fun s => stOf 28 [eL 0 1 a0 sR, eI 1 s.1.2.1, eI 5 (↑s.1.2.2 : Int)]) (fun s => s.1.1) ⟨((a0.length + 1), (W (a1 - (↑a0.length : Int))), 0), rfl, by first | omega | (dsimp only; omega) | simp⟩ (wk_keep (by simp)) ?_
  rintro ⟨⟨n1, v1_0, v1_1⟩, e1, j1⟩
  try dsimp only at e1 j1
  obtain ⟨p1, rfl⟩ : ∃ p, n1 = p + 1 := ⟨n1 - 1, by omega⟩
  simp
  refine cC (decide ((↑v1_1 : Int) < (↑a0.length : Int))) (fun k3 h2 => ?_) (fun k3 h2 => ?_)
  ·have q2 := h2; try simp at q2
   have i1 : v1_1 < a0.length := by simpa using h2
   have m2 : a0.length ≤ 9223372036854775807 := by simpa using k3 0 _ rfl
   have w1 : IntKind.i64.wrap ((v1_1 : Int) + 1) = (v1_1 : Int) + 1 := wrap_of (by omega) (by omega)
   simp [i1, rowAt_map]
   repeat with_reducible refine sd ?_
   refine cC (decide ((W (v1_0 - (↑(nth a0 v1_1).size : Int))) < 0)) (fun k4 h3 => ?_) (fun k4 h3 => ?_)
   ·have q3 := h3; try simp at q3
    have x1 : l_szStringS_1 a0 (a0.length + 1) (W (a1 - (↑a0.length : Int))) 0 = .inl (-1) := by rw [← e1]; simp only [l_szStringS_1, h2, h3, cond_t, cond_f]
    simp
    refine retRd (rv := [.tmp 4]) rfl ?_
    have f2 := l_szStringS.eq_1 a0 a1; simp only [h1, x1, cond_t, cond_f] at f2; simp [f2]
   ·have q3 := h3; try simp at q3
    simp
    refine nxtI ⟨(p1, (W (v1_0 - (↑(nth a0 v1_1).size : Int))), (v1_1 + 1)), ?_, ?_⟩ (by simp) (wk_keep (by simp [w1]))
    · rw [← e1]; simp only [l_szStringS_1, h2, h3, cond_t, cond_f]
    · first | omega | (simp at *; omega)
  ·have q2 := h2; try simp at q2
   have x2 : l_szStringS_1 a0 (a0.length + 1) (W (a1 - (↑a0.length : Int))) 0 = .inr v1_0 := by rw [← e1]; simp only [l_szStringS_1, h2, cond_t, cond_f]
   simp
   refine retRd (rv := [.tmp 4]) rfl ?_
   have f3 := l_szStringS.eq_1 a0 a1; simp only [h1, x2, cond_t, cond_f] at f3; simp [f3]
theorem l_szDocument_ok (a0 : TDocument) (a1 : Int) : SoundAt Tryz.prog 190 false [a0.row, [.int .i64 a1]] [[.int .i64 (l_szDocument a0 a1)]] := by
 refine sound_of Tryz.func190 rfl (by kernel_rfl) ?_
 simp [Tryz.ntmps190]
 refine cR (l_szStringS_ok a0.Parts a1) ?_
 simp
 refine cC (decide ((l_szStringS a0.Parts a1) < 0)) (fun k1 h1 => ?_) (fun k1 h1 => ?_)
 ·have q1 := h1; try simp at q1
  simp
  refine retRd (rv := [.tmp 4]) rfl ?_
  have f1 := l_szDocument.eq_1 a0 a1; simp only [h1, cond_t, cond_f] at f1; simp [f1]
 ·have q1 := h1; try simp at q1
  simp
  refine cR (l_szIntS_ok a0.Salts (l_szStringS a0.Parts a1)) ?_
  simp
  refine cC (decide ((l_szIntS a0.Salts (l_szStringS a0.Parts a1)) < 0)) (fun k2 h2 => ?_) (fun k2 h2 => ?_)
  ·have q2 := h2; try simp at q2
   simp
   refine retRd (rv := [.tmp 4]) rfl ?_
   have f2 := l_szDocument.eq_1 a0 a1; simp only [h1, h2, cond_t, cond_f] at f2; simp [f2]
  ·have q2 := h2; try simp at q2
   simp
   refine retRd (rv := [.tmp 4]) rfl ?_
   have f3 := l_szDocument.eq_1 a0 a1; simp only [h1, h2, cond_t, cond_f] at f3; simp [f3]
theorem l_szPiece_ok (a0 : TPiece) (a1 : Int) : SoundAt Tryz.prog 229 false [a0.row, [.int .i64 a1]] [[.int .i64 (l_szPiece a0 a1)]] := by
 refine sound_of Tryz.func229 rfl (by kernel_rfl) ?_
 simp [Tryz.ntmps229]
 refine cR (l_szIntS_ok a0.Ints a1) ?_
 simp
 refine cC (decide ((l_szIntS a0.Ints a1) < 0)) (fun k1 h1 => ?_) (fun k1 h1 => ?_)
 ·have q1 := h1; try simp at q1
  simp
  refine retRd (rv := [.tmp 4]) rfl ?_
  have f1 := l_szPiece.eq_1 a0 a1; simp only [h1, cond_t, cond_f] at f1; simp [f1]
 ·have q1 := h1; try simp at q1
  simp
  refine retRd (rv := [.tmp 4]) rfl ?_
  have f2 := l_szPiece.eq_1 a0 a1; simp only [h1, cond_t, cond_f] at f2; simp [f2]
theorem l_szPieceS_ok (a0 : List TPiece) (a1 : Int) : SoundAt Tryz.prog 212 false [[.sl 3 (a0.map TPiece.row)], [.int .i64 a1]] [[.int .i64 (l_szPieceS a0 a1)]] := by
 refine sound_of Tryz.func212 rfl (by kernel_rfl) ?_
 simp [Tryz.ntmps212]
 refine cC (decide ((W (a1 - (↑a0.length : Int))) < 0)) (fun k1 h1 => ?_) (fun k1 h1 => ?_)
 ·have q1 := h1; try simp at q1
  simp
  refine retRd (rv := [.tmp 4]) rfl ?_
  have f1 := l_szPieceS.eq_1 a0 a1; simp only [h1, cond_t, cond_f] at f1; simp [f1]
 ·have q1 := h1; try simp at q1
  simp
  refine okL fun k2 => ?_
  refine loopI (ι := { s : Nat × Int × Nat // l_szPieceS_1 a0 s.1 s.2.1 s.2.2 = l_szPieceS_1 a0 (a0.length + 1) (W (a1 - (↑a0.length : Int))) 0 ∧ (1 ≤ s.1 ∧ a0.length < s.1 + s.2.2 ∧ s.2.2 ≤ a0.length) }) (fun s => stOf 27 [eL 0 3 a0 TPiece.row, eI 1 s.1.2.1, eI 5 (↑s.1.2.2 : Int)]) (fun s => s.1.1) ⟨((a0.length + 1), (W (a1 - (↑a0.length : Int))), 0), rfl, by first | omega | (dsimp only; omega) | simp⟩ (wk_keep (by simp)) ?_
  rintro ⟨⟨n1, v1_0, v1_1⟩, e1, j1⟩
  try dsimp only at e1 j1
  obtain ⟨p1, rfl⟩ : ∃ p, n1 = p + 1 := ⟨n1 - 1, by omega⟩
  simp
  refine cC (decide ((↑v1_1 : Int) < (↑a0.length : Int))) (fun k3 h2 => ?_) (fun k3 h2 => ?_)
  ·have q2 := h2; try simp at q2
   have i1 : v1_1 < a0.length := by simpa using h2
   have m2 : a0.length ≤ 9223372036854775807 := by simpa using k3 0 _ rfl
   have w1 : IntKind.i64.wrap ((v1_1 : Int) + 1) = (v1_1 : Int) + 1 := wrap_of (by omega) (by omega)
   simp [i1, rowAt_map]
   repeat with_reducible refine sd ?_
   refine cR (l_szPiece_ok (nth a0 v1_1) v1_0) ?_
   simp
   refine cC (decide ((l_szPiece (nth a0 v1_1) v1_0) < 0)) (fun k4 h3 => ?_) (fun k4 h3 => ?_)
   ·have q3 := h3; try simp at q3
    have x1 : l_szPieceS_1 a0 (a0.length + 1) (W (a1 - (↑a0.length : Int))) 0 = .inl (-1) := by rw [← e1]; simp only [l_szPieceS_1, h2, h3, cond_t, cond_f]
    simp
    refine retRd (rv := [.tmp 4]) rfl ?_
    have f2 := l_szPieceS.eq_1 a0 a1; simp only [h1, x1, cond_t, cond_f] at f2; simp [f2]
   ·have q3 := h3; try simp at q3
    simp
    refine nxtI ⟨(p1, (l_szPiece (nth a0 v1_1) v1_0), (v1_1 + 1)), ?_, ?_⟩ (by simp) (wk_keep (by simp [w1]))
    · rw [← e1]; simp only [l_szPieceS_1, h2, h3, cond_t, cond_f]
    · first | omega | (simp at *; omega)
  ·have q2 := h2; try simp at q2
   have x2 : l_szPieceS_1 a0 (a0.length + 1) (W (a1 - (↑a0.length : Int))) 0 = .inr v1_0 := by rw [← e1]; simp only [l_szPieceS_1, h2, cond_t, cond_f]
   simp
   refine retRd (rv := [.tmp 4]) rfl ?_
   have f3 := l_szPieceS.eq_1 a0 a1; simp only [h1, x2, cond_t, cond_f] at f3; simp [f3]
theorem l_szStepS_ok (a0 : List TStep) (a1 : Int) : SoundAt Tryz.prog 238 false [[.sl 2 (a0.map TStep.row)], [.int .i64 a1]] [[.int .i64 (l_szStepS a0 a1)]] := by
 refine sound_of Tryz.func238 rfl (by kernel_rfl) ?_
 simp [Tryz.ntmps238]
 refine cC (decide ((W (a1 - (↑a0.length : Int))) < 0)) (fun k1 h1 => ?_) (fun k1 h1 => ?_)
 ·have q1 := h1; try simp at q1
  simp
  refine retRd (rv := [.tmp 4]) rfl ?_
  have f1 := l_szStepS.eq_1 a0 a1; simp only [h1, cond_t, cond_f] at f1; simp [f1]
 ·have q1 := h1; try simp at q1
  simp
  refine retRd (rv := [.tmp 4]) rfl ?_
  have f2 := l_szStepS.eq_1 a0 a1; simp only [h1, cond_t, cond_f] at f2; simp [f2]
theorem l_szStampS_ok (a0 : List TStamp) (a1 : Int) : SoundAt Tryz.prog 239 false [[.sl 5 (a0.map TStamp.row)], [.int .i64 a1]] [[.int .i64 (l_szStampS a0 a1)]] := by
 refine sound_of Tryz.func239 rfl (by kernel_rfl) ?_
 simp [Tryz.ntmps239]
 refine cC (decide ((W (a1 - (↑a0.length : Int))) < 0)) (fun k1 h1 => ?_) (fun k1 h1 => ?_)
 ·have q1 := h1; try simp at q1
  simp
  refine retRd (rv := [.tmp 4]) rfl ?_
  have f1 := l_szStampS.eq_1 a0 a1; simp only [h1, cond_t, cond_f] at f1; simp [f1]
 ·have q1 := h1; try simp at q1
  simp
  refine retRd (rv := [.tmp 4]) rfl ?_
  have f2 := l_szStampS.eq_1 a0 a1; simp only [h1, cond_t, cond_f] at f2; simp [f2]
theorem l_szRenewal_ok (a0 : TRenewal) (a1 : Int) : SoundAt Tryz.prog 230 false [a0.row, [.int .i64 a1]] [[.int .i64 (l_szRenewal a0 a1)]] := by
 refine sound_of Tryz.func230 rfl (by kernel_rfl) ?_
 simp [Tryz.ntmps230]
 refine cR (l_szStepS_ok a0.Path a1) ?_
 simp
 refine cC (decide ((l_szStepS a0.Path a1) < 0)) (fun k1 h1 => ?_) (fun k1 h1 => ?_)
 ·have q1 := h1; try simp at q1
  simp
  refine retRd (rv := [.tmp 4]) rfl ?_
  have f1 := l_szRenewal.eq_1 a0 a1; simp only [h1, cond_t, cond_f] at f1; simp [f1]
 ·have q1 := h1; try simp at q1
  simp
  refine cR (l_szStampS_ok a0.Stamps (l_szStepS a0.Path a1)) ?_
  simp
  refine cC (decide ((l_szStampS a0.Stamps (l_szStepS a0.Path a1)) < 0)) (fun k2 h2 => ?_) (fun k2 h2 => ?_)
  ·have q2 := h2; try simp at q2
   simp
   refine retRd (rv := [.tmp 4]) rfl ?_
   have f2 := l_szRenewal.eq_1 a0 a1; simp only [h1, h2, cond_t, cond_f] at f2; simp [f2]
  ·have q2 := h2; try simp at q2
   simp
   refine retRd (rv := [.tmp 4]) rfl ?_
   have f3 := l_szRenewal.eq_1 a0 a1; simp only [h1, h2, cond_t, cond_f] at f3; simp [f3]
theorem l_szRenewalS_ok (a0 : List TRenewal) (a1 : Int) : SoundAt Tryz.prog 213 false [[.sl 5 (a0.map TRenewal.row)], [.int .i64 a1]] [[.int .i64 (l_szRenewalS a0 a1)]] := by
 refine sound_of Tryz.func213 rfl (by kernel_rfl) ?_
 simp [Tryz.ntmps213]
 refine cC (decide ((W (a1 - (↑a0.length : Int))) < 0)) (fun k1 h1 => ?_) (fun k1 h1 => ?_)
 ·have q1 := h1; try simp at q1
  simp
  refine retRd (rv := [.tmp 4]) rfl ?_
  have f1 := l_szRenewalS.eq_1 a0 a1; simp only [h1, cond_t, cond_f] at f1; simp [f1]
 ·have q1 := h1; try simp at q1
  simp
  refine okL fun k2 => ?_
  refine loopI (ι := { s : Nat × Int × Nat // l_szRenewalS_1 a0 s.1 s.2.1 s.2.2 = l_szRenewalS_1 a0 (a0.length + 1) (W (a1 - (↑a0.length : Int))) 0 ∧ (1 ≤ s.1 ∧ a0.length < s.1 + s.2.2 ∧ s.2.2 ≤ a0.length) }) (fun s => stOf 27 [eL 0 5 a0 TRenewal.row, eI 1 s.1.2.1, eI 5 (↑s.1.2.2 : Int)]) (fun s => s.1.1) ⟨((a0.length + 1), (W (a1 - (↑a0.length : Int))), 0), rfl, by first | omega | (dsimp only; omega) | simp⟩ (wk_keep (by simp)) ?_
  rintro ⟨⟨n1, v1_0, v1_1⟩, e1, j1⟩
  try dsimp only at e1 j1
  obtain ⟨p1, rfl⟩ : ∃ p, n1 = p + 1 := ⟨n1 - 1, by omega⟩
  simp
  refine cC (decide ((↑v1_1 : Int) < (↑a0.length : Int))) (fun k3 h2 => ?_) (fun k3 h2 => ?_)
  ·have q2 := h2; try simp at q2
   have i1 : v1_1 < a0.length := by simpa using h2
   have m2 : a0.length ≤ 9223372036854775807 := by simpa using k3 0 _ rfl
   have w1 : IntKind.i64.wrap ((v1_1 : Int) + 1) = (v1_1 : Int) + 1 := wrap_of (by omega) (by omega)
   simp [i1, rowAt_map]
   repeat with_reducible refine sd ?_
   refine cR (l_szRenewal_ok (nth a0 v1_1) v1_0) ?_
   simp
   refine cC (decide ((l_szRenewal (nth a0 v1_1) v1_0) < 0)) (fun k4 h3 => ?_) (fun k4 h3 => ?_)
   ·have q3 := h3; try simp at q3
    have x1 : l_szRenewalS_1 a0 (a0.length + 1) (W (a1 - (↑a0.length : Int))) 0 = .inl (-1) := by rw [← e1]; simp only [l_szRenewalS_1, h2, h3, cond_t, cond_f]
    simp
    refine retRd (rv := [.tmp 4]) rfl ?_
    have f2 := l_szRenewalS.eq_1 a0 a1; simp only [h1, x1, cond_t, cond_f] at f2; simp [f2]
   ·have q3 := h3; try simp at q3
    simp
    refine nxtI ⟨(p1, (l_szRenewal (nth a0 v1_1) v1_0), (v1_1 + 1)), ?_, ?_⟩ (by simp) (wk_keep (by simp [w1]))
    · rw [← e1]; simp only [l_szRenewalS_1, h2, h3, cond_t, cond_f]
    · first | omega | (simp at *; omega)
  ·have q2 := h2; try simp at q2
   have x2 : l_szRenewalS_1 a0 (a0.length + 1) (W (a1 - (↑a0.length : Int))) 0 = .inr v1_0 := by rw [← e1]; simp only [l_szRenewalS_1, h2, cond_t, cond_f]
   simp
   refine retRd (rv := [.tmp 4]) rfl ?_
   have f3 := l_szRenewalS.eq_1 a0 a1; simp only [h1, x2, cond_t, cond_f] at f3; simp [f3]
theorem l_szStrand_ok (a0 : TStrand) (a1 : Int) : SoundAt Tryz.prog 191 false [a0.row, [.int .i64 a1]] [[.int .i64 (l_szStrand a0 a1)]] := by
 refine sound_of Tryz.func191 rfl (by kernel_rfl) ?_
 simp [Tryz.ntmps191]
 refine cR (l_szPieceS_ok a0.Pieces a1) ?_
 simp
 refine cC (decide ((l_szPieceS a0.Pieces a1) < 0)) (fun k1 h1 => ?_) (fun k1 h1 => ?_)
 ·have q1 := h1; try simp at q1
  simp
  refine retRd (rv := [.tmp 4]) rfl ?_
  have f1 := l_szStrand.eq_1 a0 a1; simp only [h1, cond_t, cond_f] at f1; simp [f1]
 ·have q1 := h1; try simp at q1
  simp
  refine cR (l_szRenewalS_ok a0.Chain (l_szPieceS a0.Pieces a1)) ?_
  simp
  refine cC (decide ((l_szRenewalS a0.Chain (l_szPieceS a0.Pieces a1)) < 0)) (fun k2 h2 => ?_) (fun k2 h2 => ?_)
  ·have q2 := h2; try simp at q2
   simp
   refine retRd (rv := [.tmp 4]) rfl ?_
   have f2 := l_szStrand.eq_1 a0 a1; simp only [h1, h2, cond_t, cond_f] at f2; simp [f2]
  ·have q2 := h2; try simp at q2
   simp
   refine retRd (rv := [.tmp 4]) rfl ?_
   have f3 := l_szStrand.eq_1 a0 a1; simp only [h1, h2, cond_t, cond_f] at f3; simp [f3]
theorem l_szItem_ok (a0 : TItem) (a1 : Int) : SoundAt Tryz.prog 164 false [a0.row, [.int .i64 a1]] [[.int .i64 (l_szItem a0 a1)]] := by
 refine sound_of Tryz.func164 rfl (by kernel_rfl) ?_
 simp [Tryz.ntmps164]
 refine cR (l_szDocument_ok a0.Doc a1) ?_
 simp
 refine cC (decide ((l_szDocument a0.Doc a1) < 0)) (fun k1 h1 => ?_) (fun k1 h1 => ?_)
 ·have q1 := h1; try simp at q1
  simp
  refine retRd (rv := [.tmp 4]) rfl ?_
  have f1 := l_szItem.eq_1 a0 a1; simp only [h1, cond_t, cond_f] at f1; simp [f1]
 ·have q1 := h1; try simp at q1
  simp
  refine cR (l_szStrand_ok a0.Strand (l_szDocument a0.Doc a1)) ?_
  simp
  refine cC (decide ((l_szStrand a0.Strand (l_szDocument a0.Doc a1)) < 0)) (fun k2 h2 => ?_) (fun k2 h2 => ?_)
  ·have q2 := h2; try simp at q2
   simp
   refine retRd (rv := [.tmp 4]) rfl ?_
   have f2 := l_szItem.eq_1 a0 a1; simp only [h1, h2, cond_t, cond_f] at f2; simp [f2]
  ·have q2 := h2; try simp at q2
   simp
   refine retRd (rv := [.tmp 4]) rfl ?_
   have f3 := l_szItem.eq_1 a0 a1; simp only [h1, h2, cond_t, cond_f] at f3; simp [f3]
theorem l_szItemS_ok (a0 : List TItem) (a1 : Int) : SoundAt Tryz.prog 121 false [[.sl 16 (a0.map TItem.row)], [.int .i64 a1]] [[.int .i64 (l_szItemS a0 a1)]] := by
 refine sound_of Tryz.func121 rfl (by kernel_rfl) ?_
 simp [Tryz.ntmps121]
 refine cC (decide ((W (a1 - (↑a0.length : Int))) < 0)) (fun k1 h1 => ?_) (fun k1 h1 => ?_)
 ·have q1 := h1; try simp at q1
  simp
  refine retRd (rv := [.tmp 4]) rfl ?_
  have f1 := l_szItemS.eq_1 a0 a1; simp only [h1, cond_t, cond_f] at f1; simp [f1]
 ·have q1 := h1; try simp at q1
  simp
  refine okL fun k2 => ?_
  refine loopI (ι := { s : Nat × Int × Nat // l_szItemS_1 a0 s.1 s.2.1 s.2.2 = l_szItemS_1 a0 (a0.length + 1) (W (a1 - (↑a0.length : Int))) 0 ∧ (1 ≤ s.1 ∧ a0.length < s.1 + s.2.2 ∧ s.2.2 ≤ a0.length) }) (fun s => stOf 27 [eL 0 16 a0 TItem.row, eI 1 s.1.2.1, eI 5 (↑s.1.2.2 : Int)]) (fun s => s.1.1) ⟨((a0.length + 1), (W (a1 - (↑a0.length : Int))), 0), rfl, by first | omega | (dsimp only; omega) | simp⟩ (wk_keep (by simp)) ?_
  rintro ⟨⟨n1, v1_0, v1_1⟩, e1, j1⟩
  try dsimp only at e1 j1
  obtain ⟨p1, rfl⟩ : ∃ p, n1 = p + 1 := ⟨n1 - 1, by omega⟩
  simp
  refine cC (decide ((↑v1_1 : Int) < (↑a0.length : Int))) (fun k3 h2 => ?_) (fun k3 h2 => ?_)
  ·have q2 := h2; try simp at q2
   have i1 : v1_1 < a0.length := by simpa using h2
   have m2 : a0.length ≤ 9223372036854775807 := by simpa using k3 0 _ rfl
   have w1 : IntKind.i64.wrap ((v1_1 : Int) + 1) = (v1_1 : Int) + 1 := wrap_of (by omega) (by omega)
   simp [i1, rowAt_map]
   repeat with_reducible refine sd ?_
   refine cR (l_szItem_ok (nth a0 v1_1) v1_0) ?_
   simp
   refine cC (decide ((l_szItem (nth a0 v1_1) v1_0) < 0)) (fun k4 h3 => ?_) (fun k4 h3 => ?_)
   ·have q3 := h3; try simp at q3
    have x1 : l_szItemS_1 a0 (a0.length + 1) (W (a1 - (↑a0.length : Int))) 0 = .inl (-1) := by rw [← e1]; simp only [l_szItemS_1, h2, h3, cond_t, cond_f]
    simp
    refine retRd (rv := [.tmp 4]) rfl ?_
    have f2 := l_szItemS.eq_1 a0 a1; simp only [h1, x1, cond_t, cond_f] at f2; simp [f2]
   ·have q3 := h3; try simp at q3
    simp
    refine nxtI ⟨(p1, (l_szItem (nth a0 v1_1) v1_0), (v1_1 + 1)), ?_, ?_⟩ (by simp) (wk_keep (by simp [w1]))
    · rw [← e1]; simp only [l_szItemS_1, h2, h3, cond_t, cond_f]
    · first | omega | (simp at *; omega)
  ·have q2 := h2; try simp at q2
   have x2 : l_szItemS_1 a0 (a0.length + 1) (W (a1 - (↑a0.length : Int))) 0 = .inr v1_0 := by rw [← e1]; simp only [l_szItemS_1, h2, cond_t, cond_f]
   simp
   refine retRd (rv := [.tmp 4]) rfl ?_
   have f3 := l_szItemS.eq_1 a0 a1; simp only [h1, x2, cond_t, cond_f] at f3; simp [f3]
theorem l_szArchive_ok (a0 : TArchive) (a1 : Int) : SoundAt Tryz.prog 68 false [a0.row, [.int .i64 a1]] [[.int .i64 (l_szArchive a0 a1)]] := by
 refine sound_of Tryz.func68 rfl (by kernel_rfl) ?_
 simp [Tryz.ntmps68]
 refine cR (l_szItemS_ok a0.Items a1) ?_
 simp
 refine cC (decide ((l_szItemS a0.Items a1) < 0)) (fun k1 h1 => ?_) (fun k1 h1 => ?_)
 ·have q1 := h1; try simp at q1
  simp
  refine retRd (rv := [.tmp 4]) rfl ?_
  have f1 := l_szArchive.eq_1 a0 a1; simp only [h1, cond_t, cond_f] at f1; simp [f1]
 ·have q1 := h1; try simp at q1
  simp
  refine retRd (rv := [.tmp 4]) rfl ?_
  have f2 := l_szArchive.eq_1 a0 a1; simp only [h1, cond_t, cond_f] at f2; simp [f2]
theorem l_szArchiveS_ok (a0 : List TArchive) (a1 : Int) : SoundAt Tryz.prog 23 false [[.sl 2 (a0.map TArchive.row)], [.int .i64 a1]] [[.int .i64 (l_szArchiveS a0 a1)]] := by
 refine sound_of Tryz.func23 rfl (by kernel_rfl) ?_
 simp [Tryz.ntmps23]
 refine cC (decide ((W (a1 - (↑a0.length : Int))) < 0)) (fun k1 h1 => ?_) (fun k1 h1 => ?_)
 ·have q1 := h1; try simp at q1
  simp
  refine retRd (rv := [.tmp 4]) rfl ?_
  have f1 := l_szArchiveS.eq_1 a0 a1; simp only [h1, cond_t, cond_f] at f1; simp [f1]
 ·have q1 := h1; try simp at q1
  simp
  refine okL fun k2 => ?_
  refine loopI (ι := { s : Nat × Int × Nat // l_szArchiveS_1 a0 s.1 s.2.1 s.2.2 = l_szArchiveS_1 a0 (a0.length + 1) (W (a1 - (↑a0.length : Int))) 0 ∧ (1 ≤ s.1 ∧ a0.length < s.1 + s.2.2 ∧ s.2.2 ≤ a0.length) }) (fun s => stOf 27 [eL 0 2 a0 TArchive.row, eI 1 s.1.2.1, eI 5 (↑s.1.2.2 : Int)]) (fun s => s.1.1) ⟨((a0.length + 1), (W (a1 - (↑a0.length : Int))), 0), rfl, by first | omega | (dsimp only; omega) | simp⟩ (wk_keep (by simp)) ?_
  rintro ⟨⟨n1, v1_0, v1_1⟩, e1, j1⟩
  try dsimp only at e1 j1
  obtain ⟨p1, rfl⟩ : ∃ p, n1 = p + 1 := ⟨n1 - 1, by omega⟩
  simp
  refine cC (decide ((↑v1_1 : Int) < (↑a0.length : Int))) (fun k3 h2 => ?_) (fun k3 h2 => ?_)
  ·have q2 := h2; try simp at q2
   have i1 : v1_1 < a0.length := by simpa using h2
   have m2 : a0.length ≤ 9223372036854775807 := by simpa using k3 0 _ rfl
   have w1 : IntKind.i64.wrap ((v1_1 : Int) + 1) = (v1_1 : Int) + 1 := wrap_of (by omega) (by omega)
   simp [i1, rowAt_map]
   repeat with_reducible refine sd ?_
   refine cR (l_szArchive_ok (nth a0 v1_1) v1_0) ?_
   simp
   refine cC (decide ((l_szArchive (nth a0 v1_1) v1_0) < 0)) (fun k4 h3 => ?_) (fun k4 h3 => ?_)
   ·have q3 := h3; try simp at q3
    have x1 : l_szArchiveS_1 a0 (a0.length + 1) (W (a1 - (↑a0.length : Int))) 0 = .inl (-1) := by rw [← e1]; simp only [l_szArchiveS_1, h2, h3, cond_t, cond_f]
    simp
    refine retRd (rv := [.tmp 4]) rfl ?_
    have f2 := l_szArchiveS.eq_1 a0 a1; simp only [h1, x1, cond_t, cond_f] at f2; simp [f2]
   ·have q3 := h3; try simp at q3
    simp
    refine nxtI ⟨(p1, (l_szArchive (nth a0 v1_1) v1_0), (v1_1 + 1)), ?_, ?_⟩ (by simp) (wk_keep (by simp [w1]))
    · rw [← e1]; simp only [l_szArchiveS_1, h2, h3, cond_t, cond_f]
    · first | omega | (simp at *; omega)
  ·have q2 := h2; try simp at q2
   have x2 : l_szArchiveS_1 a0 (a0.length + 1) (W (a1 - (↑a0.length : Int))) 0 = .inr v1_0 := by rw [← e1]; simp only [l_szArchiveS_1, h2, cond_t, cond_f]
   simp
   refine retRd (rv := [.tmp 4]) rfl ?_
   have f3 := l_szArchiveS.eq_1 a0 a1; simp only [h1, x2, cond_t, cond_f] at f3; simp [f3]
theorem l_szWorld_ok (a0 : TWorld) (a1 : Int) : SoundAt Tryz.prog 6 false [a0.row, [.int .i64 a1]] [[.int .i64 (l_szWorld a0 a1)]] := by
 refine sound_of Tryz.func6 rfl (by kernel_rfl) ?_
 simp [Tryz.ntmps6]
 refine cR (l_szFrame_ok a0.Frame a1) ?_
 simp
 refine cC (decide ((l_szFrame a0.Frame a1) < 0)) (fun k1 h1 => ?_) (fun k1 h1 => ?_)
 ·have q1 := h1; try simp at q1
  simp
  refine retRd (rv := [.tmp 4]) rfl ?_
  have f1 := l_szWorld.eq_1 a0 a1; simp only [h1, cond_t, cond_f] at f1; simp [f1]
 ·have q1 := h1; try simp at q1
  simp
  refine cR (l_szCertS_ok a0.Certs (l_szFrame a0.Frame a1)) ?_
  simp
  refine cC (decide ((l_szCertS a0.Certs (l_szFrame a0.Frame a1)) < 0)) (fun k2 h2 => ?_) (fun k2 h2 => ?_)
  ·have q2 := h2; try simp at q2
   simp
   refine retRd (rv := [.tmp 4]) rfl ?_
   have f2 := l_szWorld.eq_1 a0 a1; simp only [h1, h2, cond_t, cond_f] at f2; simp [f2]
  ·have q2 := h2; try simp at q2
   simp
   refine cR (l_szIntS_ok a0.Ended (l_szCertS a0.Certs (l_szFrame a0.Frame a1))) ?_
   simp
   refine cC (decide ((l_szIntS a0.Ended (l_szCertS a0.Certs (l_szFrame a0.Frame a1))) < 0)) (fun k3 h3 => ?_) (fun k3 h3 => ?_)
   ·have q3 := h3; try simp at q3
    simp
    refine retRd (rv := [.tmp 4]) rfl ?_
    have f3 := l_szWorld.eq_1 a0 a1; simp only [h1, h2, h3, cond_t, cond_f] at f3; simp [f3]
   ·have q3 := h3; try simp at q3
    simp
    refine cR (l_szArchiveS_ok a0.Archives (l_szIntS a0.Ended (l_szCertS a0.Certs (l_szFrame a0.Frame a1)))) ?_
    simp
    refine cC (decide ((l_szArchiveS a0.Archives (l_szIntS a0.Ended (l_szCertS a0.Certs (l_szFrame a0.Frame a1)))) < 0)) (fun k4 h4 => ?_) (fun k4 h4 => ?_)
    ·have q4 := h4; try simp at q4
     simp
     refine retRd (rv := [.tmp 4]) rfl ?_
     have f4 := l_szWorld.eq_1 a0 a1; simp only [h1, h2, h3, h4, cond_t, cond_f] at f4; simp [f4]
    ·have q4 := h4; try simp at q4
     simp
     refine cR (l_szIntS_ok a0.Seqs (l_szArchiveS a0.Archives (l_szIntS a0.Ended (l_szCertS a0.Certs (l_szFrame a0.Frame a1))))) ?_
     simp
     refine cC (decide ((l_szIntS a0.Seqs (l_szArchiveS a0.Archives (l_szIntS a0.Ended (l_szCertS a0.Certs (l_szFrame a0.Frame a1))))) < 0)) (fun k5 h5 => ?_) (fun k5 h5 => ?_)
     ·have q5 := h5; try simp at q5
      simp
      refine retRd (rv := [.tmp 4]) rfl ?_
      have f5 := l_szWorld.eq_1 a0 a1; simp only [h1, h2, h3, h4, h5, cond_t, cond_f] at f5; simp [f5]
     ·have q5 := h5; try simp at q5
      simp
      refine cR (l_szIntS_ok a0.Lying (l_szIntS a0.Seqs (l_szArchiveS a0.Archives (l_szIntS a0.Ended (l_szCertS a0.Certs (l_szFrame a0.Frame a1)))))) ?_
      simp
      refine cC (decide ((l_szIntS a0.Lying (l_szIntS a0.Seqs (l_szArchiveS a0.Archives (l_szIntS a0.Ended (l_szCertS a0.Certs (l_szFrame a0.Frame a1)))))) < 0)) (fun k6 h6 => ?_) (fun k6 h6 => ?_)
      ·have q6 := h6; try simp at q6
       simp
       refine retRd (rv := [.tmp 4]) rfl ?_
       have f6 := l_szWorld.eq_1 a0 a1; simp only [h1, h2, h3, h4, h5, h6, cond_t, cond_f] at f6; simp [f6]
      ·have q6 := h6; try simp at q6
       simp
       refine cR (l_szIntS_ok a0.Forged (l_szIntS a0.Lying (l_szIntS a0.Seqs (l_szArchiveS a0.Archives (l_szIntS a0.Ended (l_szCertS a0.Certs (l_szFrame a0.Frame a1))))))) ?_
       simp
       refine cC (decide ((l_szIntS a0.Forged (l_szIntS a0.Lying (l_szIntS a0.Seqs (l_szArchiveS a0.Archives (l_szIntS a0.Ended (l_szCertS a0.Certs (l_szFrame a0.Frame a1))))))) < 0)) (fun k7 h7 => ?_) (fun k7 h7 => ?_)
       ·have q7 := h7; try simp at q7
        simp
        refine retRd (rv := [.tmp 4]) rfl ?_
        have f7 := l_szWorld.eq_1 a0 a1; simp only [h1, h2, h3, h4, h5, h6, h7, cond_t, cond_f] at f7; simp [f7]
       ·have q7 := h7; try simp at q7
        simp
        refine retRd (rv := [.tmp 4]) rfl ?_
        have f8 := l_szWorld.eq_1 a0 a1; simp only [h1, h2, h3, h4, h5, h6, h7, cond_t, cond_f] at f8; simp [f8]
theorem l_toKey_ok (a0 : TKey) : SoundAt Tryz.prog 123 false [a0.row] [(l_toKey a0).row] := by
 refine sound_of Tryz.func123 rfl (by kernel_rfl) ?_
 simp [Tryz.ntmps123]
 refine retRd (rv := [.cell 2 152]) rfl ?_
 have f1 := l_toKey.eq_1 a0; simp [f1]
theorem l_toKey_okI (a0 : TKey) : SoundAt Tryz.prog 123 false [a0.row] [a0.row] := by
  have h := l_toKey_ok a0
  rwa [l_toKey_id] at h
theorem l_toKeyS_ok (a0 : List TKey) (u0 : Sm 2338816 a0) : SoundD Tryz.prog 72 [[.sl 5 (a0.map TKey.row)]] [[.sl 5 ((l_toKeyS a0).map TKey.row)]] := by
 refine sound_ofD Tryz.func72 rfl (by kernel_rfl) ?_
 have c1 : a0.length ≤ 2338816 := sm_len (by simp (maxDischargeDepth := 12) [u0])
 simp [Tryz.ntmps72]
 repeat with_reducible refine sd ?_
 refine okL fun k1 => ?_
 refine loopI (ι := { s : Nat × Nat × (List TKey) // l_toKeyS_1 a0 s.1 s.2.1 s.2.2 = l_toKeyS_1 a0 (a0.length + 1) 0 (List.replicate a0.length (TKey.mk 0 0 0 0 0)) ∧ (1 ≤ s.1 ∧ a0.length < s.1 + s.2.1 ∧ s.2.1 ≤ a0.length ∧ s.2.2.length = a0.length) }) (fun s => stOf 23 [eL 0 5 a0 TKey.row, (3, .one (.sref 7 0 0 s.1.2.2.length), []), eI 4 (↑s.1.2.1 : Int), (7, .any, [.arr false 5 (s.1.2.2.map TKey.row)])]) (fun s => s.1.1) ⟨((a0.length + 1), 0, (List.replicate a0.length (TKey.mk 0 0 0 0 0))), rfl, by first | omega | (dsimp only; omega) | simp⟩ (wk_keep (by simp)) ?_
 rintro ⟨⟨n1, v1_0, v1_1⟩, e1, j1⟩
 try dsimp only at e1 j1
 obtain ⟨p1, rfl⟩ : ∃ p, n1 = p + 1 := ⟨n1 - 1, by omega⟩
 simp
 refine cC (decide ((↑v1_0 : Int) < (↑a0.length : Int))) (fun k2 h1 => ?_) (fun k2 h1 => ?_)
 ·have q1 := h1; try simp at q1
  have i1 : v1_0 < a0.length := by simpa using h1
  have m2 : a0.length ≤ 9223372036854775807 := by simpa using k2 0 _ rfl
  have w1 : IntKind.i64.wrap ((v1_0 : Int) + 1) = (v1_0 : Int) + 1 := wrap_of (by omega) (by omega)
  simp [i1, rowAt_map]
  repeat with_reducible refine sd ?_
  refine cR (l_toKey_okI (nth a0 v1_0)) ?_
  have i2 : v1_0 < v1_1.length := il
  simp [i2, rowAt_map, set_map (x := (nth a0 v1_0)) rfl]
  repeat with_reducible refine sd ?_
  refine nxtI ⟨(p1, (v1_0 + 1), (v1_1.set v1_0 (nth a0 v1_0))), ?_, ?_⟩ (by simp) (wk_keep (by simp [w1]))
  · rw [← e1]; simp only [l_toKeyS_1, h1, cond_t, cond_f]
  · first | omega | (simp at *; omega)
 ·have q1 := h1; try simp at q1
  have x1 : l_toKeyS_1 a0 (a0.length + 1) 0 (List.replicate a0.length (TKey.mk 0 0 0 0 0)) = v1_1 := by rw [← e1]; simp only [l_toKeyS_1, h1, cond_t, cond_f]
  simp
  refine retD (rv := [.tmp 2]) rfl ?_
  have f1 := l_toKeyS.eq_1 a0; simp only [x1, cond_t, cond_f] at f1; simp [f1]
theorem l_toKeyS_okI (a0 : List TKey) (u0 : Sm 2338816 a0) : SoundD Tryz.prog 72 [[.sl 5 (a0.map TKey.row)]] [[.sl 5 (a0.map TKey.row)]] := by
  have h := l_toKeyS_ok a0 u0
  rwa [l_toKeyS_id] at h
theorem l_toAuthority_ok (a0 : TAuthority) : SoundAt Tryz.prog 124 false [a0.row] [(l_toAuthority a0).row] := by
 refine sound_of Tryz.func124 rfl (by kernel_rfl) ?_
 simp [Tryz.ntmps124]
 refine retRd (rv := [.cell 2 146]) rfl ?_
 have f1 := l_toAuthority.eq_1 a0; simp [f1]
theorem l_toAuthority_okI (a0 : TAuthority) : SoundAt Tryz.prog 124 false [a0.row] [a0.row] := by
  have h := l_toAuthority_ok a0
  rwa [l_toAuthority_id] at h
theorem l_toAuthorityS_ok (a0 : List TAuthority) (u0 : Sm 2338816 a0) : SoundD Tryz.prog 73 [[.sl 3 (a0.map TAuthority.row)]] [[.sl 3 ((l_toAuthorityS a0).map TAuthority.row)]] := by
 refine sound_ofD Tryz.func73 rfl (by kernel_rfl) ?_
 have c1 : a0.length ≤ 2338816 := sm_len (by simp (maxDischargeDepth := 12) [u0])
 simp [Tryz.ntmps73]
 repeat with_reducible refine sd ?_
 refine okL fun k1 => ?_
 refine loopI (ι := { s : Nat × Nat × (List TAuthority) // l_toAuthorityS_1 a0 s.1 s.2.1 s.2.2 = l_toAuthorityS_1 a0 (a0.length + 1) 0 (List.replicate a0.length (TAuthority.mk 0 0 0)) ∧ (1 ≤ s.1 ∧ a0.length < s.1 + s.2.1 ∧ s.2.1 ≤ a0.length ∧ s.2.2.length = a0.length) }) (fun s => stOf 23 [eL 0 3 a0 TAuthority.row, (3, .one (.sref 7 0 0 s.1.2.2.length), []), eI 4 (↑s.1.2.1 : Int), (7, .any, [.arr false 3 (s.1.2.2.map TAuthority.row)])]) (fun s => s.1.1) ⟨((a0.length + 1), 0, (List.replicate a0.length (TAuthority.mk 0 0 0))), rfl, by first | omega | (dsimp only; omega) | simp⟩ (wk_keep (by simp)) ?_
 rintro ⟨⟨n1, v1_0, v1_1⟩, e1, j1⟩
 try dsimp only at e1 j1
 obtain ⟨p1, rfl⟩ : ∃ p, n1 = p + 1 := ⟨n1 - 1, by omega⟩
 simp
 refine cC (decide ((↑v1_0 : Int) < (↑a0.length : Int))) (fun k2 h1 => ?_) (fun k2 h1 => ?_)
 ·have q1 := h1; try simp at q1
  have i1 : v1_0 < a0.length := by simpa using h1
  have m2 : a0.length ≤ 9223372036854775807 := by simpa using k2 0 _ rfl
  have w1 : IntKind.i64.wrap ((v1_0 : Int) + 1) = (v1_0 : Int) + 1 := wrap_of (by omega) (by omega)
  simp [i1, rowAt_map]
  repeat with_reducible refine sd ?_
  refine cR (l_toAuthority_okI (nth a0 v1_0)) ?_
  have i2 : v1_0 < v1_1.length := il
  simp [i2, rowAt_map, set_map (x := (nth a0 v1_0)) rfl]
  repeat with_reducible refine sd ?_
  refine nxtI ⟨(p1, (v1_0 + 1), (v1_1.set v1_0 (nth a0 v1_0))), ?_, ?_⟩ (by simp) (wk_keep (by simp [w1]))
  · rw [← e1]; simp only [l_toAuthorityS_1, h1, cond_t, cond_f]
  · first | omega | (simp at *; omega)
 ·have q1 := h1; try simp at q1
  have x1 : l_toAuthorityS_1 a0 (a0.length + 1) 0 (List.replicate a0.length (TAuthority.mk 0 0 0)) = v1_1 := by rw [← e1]; simp only [l_toAuthorityS_1, h1, cond_t, cond_f]
  simp
  refine retD (rv := [.tmp 2]) rfl ?_
  have f1 := l_toAuthorityS.eq_1 a0; simp only [x1, cond_t, cond_f] at f1; simp [f1]
theorem l_toAuthorityS_okI (a0 : List TAuthority) (u0 : Sm 2338816 a0) : SoundD Tryz.prog 73 [[.sl 3 (a0.map TAuthority.row)]] [[.sl 3 (a0.map TAuthority.row)]] := by
  have h := l_toAuthorityS_ok a0 u0
  rwa [l_toAuthorityS_id] at h
theorem l_toMethod_ok (a0 : TMethod) : SoundAt Tryz.prog 125 false [a0.row] [(l_toMethod a0).row] := by
 refine sound_of Tryz.func125 rfl (by kernel_rfl) ?_
 simp [Tryz.ntmps125]
 refine retRd (rv := [.cell 2 144]) rfl ?_
 have f1 := l_toMethod.eq_1 a0; simp [f1]
theorem l_toMethod_okI (a0 : TMethod) : SoundAt Tryz.prog 125 false [a0.row] [a0.row] := by
  have h := l_toMethod_ok a0
  rwa [l_toMethod_id] at h
theorem l_toMethodS_ok (a0 : List TMethod) (u0 : Sm 2338816 a0) : SoundD Tryz.prog 74 [[.sl 4 (a0.map TMethod.row)]] [[.sl 4 ((l_toMethodS a0).map TMethod.row)]] := by
 refine sound_ofD Tryz.func74 rfl (by kernel_rfl) ?_
 have c1 : a0.length ≤ 2338816 := sm_len (by simp (maxDischargeDepth := 12) [u0])
 simp [Tryz.ntmps74]
 repeat with_reducible refine sd ?_
 refine okL fun k1 => ?_
 refine loopI (ι := { s : Nat × Nat × (List TMethod) // l_toMethodS_1 a0 s.1 s.2.1 s.2.2 = l_toMethodS_1 a0 (a0.length + 1) 0 (List.replicate a0.length (TMethod.mk 0 0 0 0)) ∧ (1 ≤ s.1 ∧ a0.length < s.1 + s.2.1 ∧ s.2.1 ≤ a0.length ∧ s.2.2.length = a0.length) }) (fun s => stOf 23 [eL 0 4 a0 TMethod.row, (3, .one (.sref 7 0 0 s.1.2.2.length), []), eI 4 (↑s.1.2.1 : Int), (7, .any, [.arr false 4 (s.1.2.2.map TMethod.row)])]) (fun s => s.1.1) ⟨((a0.length + 1), 0, (List.replicate a0.length (TMethod.mk 0 0 0 0))), rfl, by first | omega | (dsimp only; omega) | simp⟩ (wk_keep (by simp)) ?_
 rintro ⟨⟨n1, v1_0, v1_1⟩, e1, j1⟩
 try dsimp only at e1 j1
 obtain ⟨p1, rfl⟩ : ∃ p, n1 = p + 1 := ⟨n1 - 1, by omega⟩
 simp
 refine cC (decide ((↑v1_0 : Int) < (↑a0.length : Int))) (fun k2 h1 => ?_) (fun k2 h1 => ?_)
 ·have q1 := h1; try simp at q1
  have i1 : v1_0 < a0.length := by simpa using h1
  have m2 : a0.length ≤ 9223372036854775807 := by simpa using k2 0 _ rfl
  have w1 : IntKind.i64.wrap ((v1_0 : Int) + 1) = (v1_0 : Int) + 1 := wrap_of (by omega) (by omega)
  simp [i1, rowAt_map]
  repeat with_reducible refine sd ?_
  refine cR (l_toMethod_okI (nth a0 v1_0)) ?_
  have i2 : v1_0 < v1_1.length := il
  simp [i2, rowAt_map, set_map (x := (nth a0 v1_0)) rfl]
  repeat with_reducible refine sd ?_
  refine nxtI ⟨(p1, (v1_0 + 1), (v1_1.set v1_0 (nth a0 v1_0))), ?_, ?_⟩ (by simp) (wk_keep (by simp [w1]))
  · rw [← e1]; simp only [l_toMethodS_1, h1, cond_t, cond_f]
  · first | omega | (simp at *; omega)
 ·have q1 := h1; try simp at q1
  have x1 : l_toMethodS_1 a0 (a0.length + 1) 0 (List.replicate a0.length (TMethod.mk 0 0 0 0)) = v1_1 := by rw [← e1]; simp only [l_toMethodS_1, h1, cond_t, cond_f]
  simp
  refine retD (rv := [.tmp 2]) rfl ?_
  have f1 := l_toMethodS.eq_1 a0; simp only [x1, cond_t, cond_f] at f1; simp [f1]
theorem l_toMethodS_okI (a0 : List TMethod) (u0 : Sm 2338816 a0) : SoundD Tryz.prog 74 [[.sl 4 (a0.map TMethod.row)]] [[.sl 4 (a0.map TMethod.row)]] := by
  have h := l_toMethodS_ok a0 u0
  rwa [l_toMethodS_id] at h
theorem l_toFrame_ok (a0 : TFrame) (u0 : Sm 2334720 a0) : SoundD Tryz.prog 26 [a0.row] [(l_toFrame a0).row] := by
 refine sound_ofD Tryz.func26 rfl (by kernel_rfl) ?_
 simp [Tryz.ntmps26]
 refine cD [false] (l_toKeyS_okI a0.Keys (sg (TFrame.sm_Keys u0))) ?_
 simp
 refine cD [false] (l_toAuthorityS_okI a0.Authorities (sg (TFrame.sm_Authorities u0))) ?_
 simp
 refine cD [false] (l_toMethodS_okI a0.Methods (sg (TFrame.sm_Methods u0))) ?_
 simp
 refine retD (rv := [.cell 2 39]) rfl ?_
 have f1 := l_toFrame.eq_1 a0; simp [f1]
theorem l_toFrame_okI (a0 : TFrame) (u0 : Sm 2334720 a0) : SoundD Tryz.prog 26 [a0.row] [a0.row] := by
  have h := l_toFrame_ok a0 u0
  rwa [l_toFrame_id] at h
theorem l_toCert_ok (a0 : TCert) : SoundAt Tryz.prog 75 false [a0.row] [(l_toCert a0).row] := by
 refine sound_of Tryz.func75 rfl (by kernel_rfl) ?_
 simp [Tryz.ntmps75]
 refine retRd (rv := [.cell 2 125]) rfl ?_
 have f1 := l_toCert.eq_1 a0; simp [f1]
theorem l_toCert_okI (a0 : TCert) : SoundAt Tryz.prog 75 false [a0.row] [a0.row] := by
  have h := l_toCert_ok a0
  rwa [l_toCert_id] at h
theorem l_toCertS_ok (a0 : List TCert) (u0 : Sm 2338816 a0) : SoundD Tryz.prog 27 [[.sl 7 (a0.map TCert.row)]] [[.sl 7 ((l_toCertS a0).map TCert.row)]] := by
 refine sound_ofD Tryz.func27 rfl (by kernel_rfl) ?_
 have c1 : a0.length ≤ 2338816 := sm_len (by simp (maxDischargeDepth := 12) [u0])
 simp [Tryz.ntmps27]
 repeat with_reducible refine sd ?_
 refine okL fun k1 => ?_
 refine loopI (ι := { s : Nat × Nat × (List TCert) // l_toCertS_1 a0 s.1 s.2.1 s.2.2 = l_toCertS_1 a0 (a0.length + 1) 0 (List.replicate a0.length (TCert.mk 0 0 0 0 0 0 0)) ∧ (1 ≤ s.1 ∧ a0.length < s.1 + s.2.1 ∧ s.2.1 ≤ a0.length ∧ s.2.2.length = a0.length) }) (fun s => stOf 23 [eL 0 7 a0 TCert.row, (3, .one (.sref 7 0 0 s.1.2.2.length), []), eI 4 (↑s.1.2.1 : Int), (7, .any, [.arr false 7 (s.1.2.2.map TCert.row)])]) (fun s => s.1.1) ⟨((a0.length + 1), 0, (List.replicate a0.length (TCert.mk 0 0 0 0 0 0 0))), rfl, by first | omega | (dsimp only; omega) | simp⟩ (wk_keep (by simp)) ?_
 rintro ⟨⟨n1, v1_0, v1_1⟩, e1, j1⟩
 try dsimp only at e1 j1
 obtain ⟨p1, rfl⟩ : ∃ p, n1 = p + 1 := ⟨n1 - 1, by omega⟩
 simp
 refine cC (decide ((↑v1_0 : Int) < (↑a0.length : Int))) (fun k2 h1 => ?_) (fun k2 h1 => ?_)
 ·have q1 := h1; try simp at q1
  have i1 : v1_0 < a0.length := by simpa using h1
  have m2 : a0.length ≤ 9223372036854775807 := by simpa using k2 0 _ rfl
  have w1 : IntKind.i64.wrap ((v1_0 : Int) + 1) = (v1_0 : Int) + 1 := wrap_of (by omega) (by omega)
  simp [i1, rowAt_map]
  repeat with_reducible refine sd ?_
  refine cR (l_toCert_okI (nth a0 v1_0)) ?_
  have i2 : v1_0 < v1_1.length := il
  simp [i2, rowAt_map, set_map (x := (nth a0 v1_0)) rfl]
  repeat with_reducible refine sd ?_
  refine nxtI ⟨(p1, (v1_0 + 1), (v1_1.set v1_0 (nth a0 v1_0))), ?_, ?_⟩ (by simp) (wk_keep (by simp [w1]))
  · rw [← e1]; simp only [l_toCertS_1, h1, cond_t, cond_f]
  · first | omega | (simp at *; omega)
 ·have q1 := h1; try simp at q1
  have x1 : l_toCertS_1 a0 (a0.length + 1) 0 (List.replicate a0.length (TCert.mk 0 0 0 0 0 0 0)) = v1_1 := by rw [← e1]; simp only [l_toCertS_1, h1, cond_t, cond_f]
  simp
  refine retD (rv := [.tmp 2]) rfl ?_
  have f1 := l_toCertS.eq_1 a0; simp only [x1, cond_t, cond_f] at f1; simp [f1]
theorem l_toCertS_okI (a0 : List TCert) (u0 : Sm 2338816 a0) : SoundD Tryz.prog 27 [[.sl 7 (a0.map TCert.row)]] [[.sl 7 (a0.map TCert.row)]] := by
  have h := l_toCertS_ok a0 u0
  rwa [l_toCertS_id] at h
theorem l_toIntS_ok (a0 : List Int) (u0 : Sm 2342912 a0) : SoundD Tryz.prog 28 [[.sl 1 (a0.map iR)]] [[.sl 1 ((l_toIntS a0).map iR)]] := by
 refine sound_ofD Tryz.func28 rfl (by kernel_rfl) ?_
 have c1 : a0.length ≤ 2342912 := sm_len (by simp (maxDischargeDepth := 12) [u0])
 simp [Tryz.ntmps28]
 repeat with_reducible refine sd ?_
 refine okL fun k1 => ?_
 refine loopI (ι := { s : Nat × Nat × (List Int) // l_toIntS_1 a0 s.1 s.2.1 s.2.2 = l_toIntS_1 a0 (a0.length + 1) 0 (List.replicate a0.length 0) ∧ (1 ≤ s.1 ∧ a0.length < s.1 + s.2.1 ∧ s.2.1 ≤ a0.length ∧ s.2.2.length = a0.length) }) (fun s => stOf 22 [eL 0 1 a0 iR, (3, .one (.sref 7 0 0 s.1.2.2.length), []), eI 4 (↑s.1.2.1 : Int), (7, .any, [.arr false 1 (s.1.2.2.map iR)])]) (fun s => s.1.1) ⟨((a0.length + 1), 0, (List.replicate a0.length 0)), rfl, by first | omega | (dsimp only; omega) | simp⟩ (wk_keep (by simp)) ?_
 rintro ⟨⟨n1, v1_0, v1_1⟩, e1, j1⟩
 try dsimp only at e1 j1
 obtain ⟨p1, rfl⟩ : ∃ p, n1 = p + 1 := ⟨n1 - 1, by omega⟩
 simp
 refine cC (decide ((↑v1_0 : Int) < (↑a0.length : Int))) (fun k2 h1 => ?_) (fun k2 h1 => ?_)
 ·have q1 := h1; try simp at q1
  have i1 : v1_0 < a0.length := by simpa using h1
  have m2 : a0.length ≤ 9223372036854775807 := by simpa using k2 0 _ rfl
  have w1 : IntKind.i64.wrap ((v1_0 : Int) + 1) = (v1_0 : Int) + 1 := wrap_of (by omega) (by omega)
  have i2 : v1_0 < v1_1.length := il
  simp [i1, rowAt_map, i2, set_map (x := (nth a0 v1_0)) rfl]
  repeat with_reducible refine sd ?_
  refine nxtI ⟨(p1, (v1_0 + 1), (v1_1.set v1_0 (nth a0 v1_0))), ?_, ?_⟩ (by simp) (wk_keep (by simp [w1]))
  · rw [← e1]; simp only [l_toIntS_1, h1, cond_t, cond_f]
  · first | omega | (simp at *; omega)
 ·have q1 := h1; try simp at q1
  have x1 : l_toIntS_1 a0 (a0.length + 1) 0 (List.replicate a0.length 0) = v1_1 := by rw [← e1]; simp only [l_toIntS_1, h1, cond_t, cond_f]
  simp
  refine retD (rv := [.tmp 2]) rfl ?_
  have f1 := l_toIntS.eq_1 a0; simp only [x1, cond_t, cond_f] at f1; simp [f1]
theorem l_toIntS_okI (a0 : List Int) (u0 : Sm 2342912 a0) : SoundD Tryz.prog 28 [[.sl 1 (a0.map iR)]] [[.sl 1 (a0.map iR)]] := by
  have h := l_toIntS_ok a0 u0
  rwa [l_toIntS_id] at h
theorem l_toStringS_ok (a0 : List ByteArray) (u0 : Sm 2342912 a0) : SoundD Tryz.prog 214 [[.sl 1 (a0.map sR)]] [[.sl 1 ((l_toStringS a0).map sR)]] := by
 refine sound_ofD Tryz.func214 rfl (by kernel_rfl) ?_
 have c1 : a0.length ≤ 2342912 := sm_len (by simp (maxDischargeDepth := 12) [u0])
 simp [Tryz.ntmps214]
 repeat with_reducible refine sd ?_
 refine okL fun k1 => ?_
 refine loopI (ι := { s : Nat × Nat × (List ByteArray) // l_toStringS_1 a0 s.1 s.2.1 s.2.2 = l_toStringS_1 a0 (a0.length + 1) 0 (List.replicate a0.length (⟨#[]⟩ : ByteArray)) ∧ (1 ≤ s.1 ∧ a0.length < s.1 + s.2.1 ∧ s.2.1 ≤ a0.length ∧ s.2.2.length = a0.length) }) (fun s => stOf 22 [eL 0 1 a0 sR, (3, .one (.sref 7 0 0 s.1.2.2.length), []), eI 4 (↑s.1.2.1 : Int), (7, .any, [.arr false 1 (s.1.2.2.map sR)])]) (fun s => s.1.1) ⟨((a0.length + 1), 0, (List.replicate a0.length (⟨#[]⟩ : ByteArray))), rfl, by first | omega | (dsimp only; omega) | simp⟩ (wk_keep (by simp)) ?_
 rintro ⟨⟨n1, v1_0, v1_1⟩, e1, j1⟩
 try dsimp only at e1 j1
 obtain ⟨p1, rfl⟩ : ∃ p, n1 = p + 1 := ⟨n1 - 1, by omega⟩
 simp
 refine cC (decide ((↑v1_0 : Int) < (↑a0.length : Int))) (fun k2 h1 => ?_) (fun k2 h1 => ?_)
 ·have q1 := h1; try simp at q1
  have i1 : v1_0 < a0.length := by simpa using h1
  have m2 : a0.length ≤ 9223372036854775807 := by simpa using k2 0 _ rfl
  have w1 : IntKind.i64.wrap ((v1_0 : Int) + 1) = (v1_0 : Int) + 1 := wrap_of (by omega) (by omega)
  have i2 : v1_0 < v1_1.length := il
  simp [i1, rowAt_map, i2, set_map (x := (nth a0 v1_0)) rfl]
  repeat with_reducible refine sd ?_
  refine nxtI ⟨(p1, (v1_0 + 1), (v1_1.set v1_0 (nth a0 v1_0))), ?_, ?_⟩ (by simp) (wk_keep (by simp [w1]))
  · rw [← e1]; simp only [l_toStringS_1, h1, cond_t, cond_f]
  · first | omega | (simp at *; omega)
 ·have q1 := h1; try simp at q1
  have x1 : l_toStringS_1 a0 (a0.length + 1) 0 (List.replicate a0.length (⟨#[]⟩ : ByteArray)) = v1_1 := by rw [← e1]; simp only [l_toStringS_1, h1, cond_t, cond_f]
  simp
  refine retD (rv := [.tmp 2]) rfl ?_
  have f1 := l_toStringS.eq_1 a0; simp only [x1, cond_t, cond_f] at f1; simp [f1]
theorem l_toStringS_okI (a0 : List ByteArray) (u0 : Sm 2342912 a0) : SoundD Tryz.prog 214 [[.sl 1 (a0.map sR)]] [[.sl 1 (a0.map sR)]] := by
  have h := l_toStringS_ok a0 u0
  rwa [l_toStringS_id] at h
theorem l_toDocument_ok (a0 : TDocument) (u0 : Sm 2338816 a0) : SoundD Tryz.prog 192 [a0.row] [(l_toDocument a0).row] := by
 refine sound_ofD Tryz.func192 rfl (by kernel_rfl) ?_
 simp [Tryz.ntmps192]
 refine cD [false] (l_toStringS_okI a0.Parts (sg (TDocument.sm_Parts u0))) ?_
 simp
 refine cD [false] (l_toIntS_okI a0.Salts (sg (TDocument.sm_Salts u0))) ?_
 simp
 refine retD (rv := [.cell 2 73]) rfl ?_
 have f1 := l_toDocument.eq_1 a0; simp [f1]
theorem l_toDocument_okI (a0 : TDocument) (u0 : Sm 2338816 a0) : SoundD Tryz.prog 192 [a0.row] [a0.row] := by
  have h := l_toDocument_ok a0 u0
  rwa [l_toDocument_id] at h
theorem l_toSignature_ok (a0 : TSignature) : SoundAt Tryz.prog 193 false [a0.row] [(l_toSignature a0).row] := by
 refine sound_of Tryz.func193 rfl (by kernel_rfl) ?_
 simp [Tryz.ntmps193]
 refine retRd (rv := [.cell 2 75]) rfl ?_
 have f1 := l_toSignature.eq_1 a0; simp [f1]
theorem l_toSignature_okI (a0 : TSignature) : SoundAt Tryz.prog 193 false [a0.row] [a0.row] := by
  have h := l_toSignature_ok a0
  rwa [l_toSignature_id] at h
theorem l_toPiece_ok (a0 : TPiece) (u0 : Sm 2338816 a0) : SoundD Tryz.prog 231 [a0.row] [(l_toPiece a0).row] := by
 refine sound_ofD Tryz.func231 rfl (by kernel_rfl) ?_
 simp [Tryz.ntmps231]
 refine cD [false] (l_toIntS_okI a0.Ints (sg (TPiece.sm_Ints u0))) ?_
 simp
 refine retD (rv := [.cell 2 161]) rfl ?_
 have f1 := l_toPiece.eq_1 a0; simp [f1]
theorem l_toPiece_okI (a0 : TPiece) (u0 : Sm 2338816 a0) : SoundD Tryz.prog 231 [a0.row] [a0.row] := by
  have h := l_toPiece_ok a0 u0
  rwa [l_toPiece_id] at h
theorem l_toPieceS_ok (a0 : List TPiece) (u0 : Sm 2334720 a0) : SoundD Tryz.prog 215 [[.sl 3 (a0.map TPiece.row)]] [[.sl 3 ((l_toPieceS a0).map TPiece.row)]] := by
 refine sound_ofD Tryz.func215 rfl (by kernel_rfl) ?_
 have c1 : a0.length ≤ 2334720 := sm_len (by simp (maxDischargeDepth := 12) [u0])
 simp [Tryz.ntmps215]
 refine mkDI (n := a0.length) rfl rfl rfl rfl rfl rfl (by simp) (by simp) (by simp; omega) (by omega) ?_
 simp
 refine okL fun k1 => ?_
 refine loopI (ι := { s : Nat × Nat × (List TPiece) // l_toPieceS_1 a0 s.1 s.2.1 s.2.2 = l_toPieceS_1 a0 (a0.length + 1) 0 (List.replicate a0.length (TPiece.mk 0 ([] : List Int) 0)) ∧ (1 ≤ s.1 ∧ a0.length < s.1 + s.2.1 ∧ s.2.1 ≤ a0.length ∧ s.2.2.length = a0.length) }) (fun s => stOf 23 [eL 0 3 a0 TPiece.row, (3, .one (.sref 7 0 0 s.1.2.2.length), []), eI 4 (↑s.1.2.1 : Int), (7, .any, [.arr true 3 (s.1.2.2.map TPiece.row)])]) (fun s => s.1.1) ⟨((a0.length + 1), 0, (List.replicate a0.length (TPiece.mk 0 ([] : List Int) 0))), rfl, by first | omega | (dsimp only; omega) | simp⟩ (wk_keep (by simp)) ?_
 rintro ⟨⟨n1, v1_0, v1_1⟩, e1, j1⟩
 try dsimp only at e1 j1
 obtain ⟨p1, rfl⟩ : ∃ p, n1 = p + 1 := ⟨n1 - 1, by omega⟩
 simp
 refine cC (decide ((↑v1_0 : Int) < (↑a0.length : Int))) (fun k2 h1 => ?_) (fun k2 h1 => ?_)
 ·have q1 := h1; try simp at q1
  have i1 : v1_0 < a0.length := by simpa using h1
  have m2 : a0.length ≤ 9223372036854775807 := by simpa using k2 0 _ rfl
  have w1 : IntKind.i64.wrap ((v1_0 : Int) + 1) = (v1_0 : Int) + 1 := wrap_of (by omega) (by omega)
  simp [i1, rowAt_map]
  repeat with_reducible refine sd ?_
  refine cD [true, false] (l_toPiece_okI (nth a0 v1_0) (sg (sm_nth u0))) ?_
  have i2 : v1_0 < v1_1.length := il
  simp [i2, rowAt_map]
  repeat with_reducible refine sd ?_
  refine stMI (t := 7) (j := 0) (i := v1_0) (c := 0) (size := 3) (rows := (v1_1.map TPiece.row)) (ds := (nth a0 v1_0).row) (L := [(20, 1)]) rfl rfl rfl rfl (by simp) (by simp) (by simp; try omega) (by simp) (by simp) (by simp) (by simp) (by simp) (by simp) ?_
  simp [set_map (x := (nth a0 v1_0)) rfl, i2, rowAt_map, rowAt_set_self]
  repeat with_reducible refine sd ?_
  refine nxtI ⟨(p1, (v1_0 + 1), (v1_1.set v1_0 (nth a0 v1_0))), ?_, ?_⟩ (by simp) (wk_keep (by simp [w1]))
  · rw [← e1]; simp only [l_toPieceS_1, h1, cond_t, cond_f]
  · first | omega | (simp at *; omega)
 ·have q1 := h1; try simp at q1
  have x1 : l_toPieceS_1 a0 (a0.length + 1) 0 (List.replicate a0.length (TPiece.mk 0 ([] : List Int) 0)) = v1_1 := by rw [← e1]; simp only [l_toPieceS_1, h1, cond_t, cond_f]
  simp
  refine retD (rv := [.tmp 2]) rfl ?_
  have f1 := l_toPieceS.eq_1 a0; simp only [x1, cond_t, cond_f] at f1; simp [f1]
theorem l_toPieceS_okI (a0 : List TPiece) (u0 : Sm 2334720 a0) : SoundD Tryz.prog 215 [[.sl 3 (a0.map TPiece.row)]] [[.sl 3 (a0.map TPiece.row)]] := by
  have h := l_toPieceS_ok a0 u0
  rwa [l_toPieceS_id] at h
theorem l_toStep_ok (a0 : TStep) : SoundAt Tryz.prog 245 false [a0.row] [(l_toStep a0).row] := by
 refine sound_of Tryz.func245 rfl (by kernel_rfl) ?_
 simp [Tryz.ntmps245]
 refine retRd (rv := [.cell 2 191]) rfl ?_
 have f1 := l_toStep.eq_1 a0; simp [f1]
theorem l_toStep_okI (a0 : TStep) : SoundAt Tryz.prog 245 false [a0.row] [a0.row] := by
  have h := l_toStep_ok a0
  rwa [l_toStep_id] at h
theorem l_toStepS_ok (a0 : List TStep) (u0 : Sm 2338816 a0) : SoundD Tryz.prog 240 [[.sl 2 (a0.map TStep.row)]] [[.sl 2 ((l_toStepS a0).map TStep.row)]] := by
 refine sound_ofD Tryz.func240 rfl (by kernel_rfl) ?_
 have c1 : a0.length ≤ 2338816 := sm_len (by simp (maxDischargeDepth := 12) [u0])
 simp [Tryz.ntmps240]
 repeat with_reducible refine sd ?_
 refine okL fun k1 => ?_
 refine loopI (ι := { s : Nat × Nat × (List TStep) // l_toStepS_1 a0 s.1 s.2.1 s.2.2 = l_toStepS_1 a0 (a0.length + 1) 0 (List.replicate a0.length (TStep.mk 0 false)) ∧ (1 ≤ s.1 ∧ a0.length < s.1 + s.2.1 ∧ s.2.1 ≤ a0.length ∧ s.2.2.length = a0.length) }) (fun s => stOf 23 [eL 0 2 a0 TStep.row, (3, .one (.sref 7 0 0 s.1.2.2.length), []), eI 4 (↑s.1.2.1 : Int), (7, .any, [.arr false 2 (s.1.2.2.map TStep.row)])]) (fun s => s.1.1) ⟨((a0.length + 1), 0, (List.replicate a0.length (TStep.mk 0 false))), rfl, by first | omega | (dsimp only; omega) | simp⟩ (wk_keep (by simp)) ?_
 rintro ⟨⟨n1, v1_0, v1_1⟩, e1, j1⟩
 try dsimp only at e1 j1
 obtain ⟨p1, rfl⟩ : ∃ p, n1 = p + 1 := ⟨n1 - 1, by omega⟩
 simp
 refine cC (decide ((↑v1_0 : Int) < (↑a0.length : Int))) (fun k2 h1 => ?_) (fun k2 h1 => ?_)
 ·have q1 := h1; try simp at q1
  have i1 : v1_0 < a0.length := by simpa using h1
  have m2 : a0.length ≤ 9223372036854775807 := by simpa using k2 0 _ rfl
  have w1 : IntKind.i64.wrap ((v1_0 : Int) + 1) = (v1_0 : Int) + 1 := wrap_of (by omega) (by omega)
  simp [i1, rowAt_map]
  repeat with_reducible refine sd ?_
  refine cR (l_toStep_okI (nth a0 v1_0)) ?_
  have i2 : v1_0 < v1_1.length := il
  simp [i2, rowAt_map, set_map (x := (nth a0 v1_0)) rfl]
  repeat with_reducible refine sd ?_
  refine nxtI ⟨(p1, (v1_0 + 1), (v1_1.set v1_0 (nth a0 v1_0))), ?_, ?_⟩ (by simp) (wk_keep (by simp [w1]))
  · rw [← e1]; simp only [l_toStepS_1, h1, cond_t, cond_f]
  · first | omega | (simp at *; omega)
 ·have q1 := h1; try simp at q1
  have x1 : l_toStepS_1 a0 (a0.length + 1) 0 (List.replicate a0.length (TStep.mk 0 false)) = v1_1 := by rw [← e1]; simp only [l_toStepS_1, h1, cond_t, cond_f]
  simp
  refine retD (rv := [.tmp 2]) rfl ?_
  have f1 := l_toStepS.eq_1 a0; simp only [x1, cond_t, cond_f] at f1; simp [f1]
theorem l_toStepS_okI (a0 : List TStep) (u0 : Sm 2338816 a0) : SoundD Tryz.prog 240 [[.sl 2 (a0.map TStep.row)]] [[.sl 2 (a0.map TStep.row)]] := by
  have h := l_toStepS_ok a0 u0
  rwa [l_toStepS_id] at h
theorem l_toStamp_ok (a0 : TStamp) : SoundAt Tryz.prog 246 false [a0.row] [(l_toStamp a0).row] := by
 refine sound_of Tryz.func246 rfl (by kernel_rfl) ?_
 simp [Tryz.ntmps246]
 refine retRd (rv := [.cell 2 86]) rfl ?_
 have f1 := l_toStamp.eq_1 a0; simp [f1]
theorem l_toStamp_okI (a0 : TStamp) : SoundAt Tryz.prog 246 false [a0.row] [a0.row] := by
  have h := l_toStamp_ok a0
  rwa [l_toStamp_id] at h
theorem l_toStampS_ok (a0 : List TStamp) (u0 : Sm 2338816 a0) : SoundD Tryz.prog 241 [[.sl 5 (a0.map TStamp.row)]] [[.sl 5 ((l_toStampS a0).map TStamp.row)]] := by
 refine sound_ofD Tryz.func241 rfl (by kernel_rfl) ?_
 have c1 : a0.length ≤ 2338816 := sm_len (by simp (maxDischargeDepth := 12) [u0])
 simp [Tryz.ntmps241]
 repeat with_reducible refine sd ?_
 refine okL fun k1 => ?_
 refine loopI (ι := { s : Nat × Nat × (List TStamp) // l_toStampS_1 a0 s.1 s.2.1 s.2.2 = l_toStampS_1 a0 (a0.length + 1) 0 (List.replicate a0.length (TStamp.mk 0 0 0 0 0)) ∧ (1 ≤ s.1 ∧ a0.length < s.1 + s.2.1 ∧ s.2.1 ≤ a0.length ∧ s.2.2.length = a0.length) }) (fun s => stOf 23 [eL 0 5 a0 TStamp.row, (3, .one (.sref 7 0 0 s.1.2.2.length), []), eI 4 (↑s.1.2.1 : Int), (7, .any, [.arr false 5 (s.1.2.2.map TStamp.row)])]) (fun s => s.1.1) ⟨((a0.length + 1), 0, (List.replicate a0.length (TStamp.mk 0 0 0 0 0))), rfl, by first | omega | (dsimp only; omega) | simp⟩ (wk_keep (by simp)) ?_
 rintro ⟨⟨n1, v1_0, v1_1⟩, e1, j1⟩
 try dsimp only at e1 j1
 obtain ⟨p1, rfl⟩ : ∃ p, n1 = p + 1 := ⟨n1 - 1, by omega⟩
 simp
 refine cC (decide ((↑v1_0 : Int) < (↑a0.length : Int))) (fun k2 h1 => ?_) (fun k2 h1 => ?_)
 ·have q1 := h1; try simp at q1
  have i1 : v1_0 < a0.length := by simpa using h1
  have m2 : a0.length ≤ 9223372036854775807 := by simpa using k2 0 _ rfl
  have w1 : IntKind.i64.wrap ((v1_0 : Int) + 1) = (v1_0 : Int) + 1 := wrap_of (by omega) (by omega)
  simp [i1, rowAt_map]
  repeat with_reducible refine sd ?_
  refine cR (l_toStamp_okI (nth a0 v1_0)) ?_
  have i2 : v1_0 < v1_1.length := il
  simp [i2, rowAt_map, set_map (x := (nth a0 v1_0)) rfl]
  repeat with_reducible refine sd ?_
  refine nxtI ⟨(p1, (v1_0 + 1), (v1_1.set v1_0 (nth a0 v1_0))), ?_, ?_⟩ (by simp) (wk_keep (by simp [w1]))
  · rw [← e1]; simp only [l_toStampS_1, h1, cond_t, cond_f]
  · first | omega | (simp at *; omega)
 ·have q1 := h1; try simp at q1
  have x1 : l_toStampS_1 a0 (a0.length + 1) 0 (List.replicate a0.length (TStamp.mk 0 0 0 0 0)) = v1_1 := by rw [← e1]; simp only [l_toStampS_1, h1, cond_t, cond_f]
  simp
  refine retD (rv := [.tmp 2]) rfl ?_
  have f1 := l_toStampS.eq_1 a0; simp only [x1, cond_t, cond_f] at f1; simp [f1]
theorem l_toStampS_okI (a0 : List TStamp) (u0 : Sm 2338816 a0) : SoundD Tryz.prog 241 [[.sl 5 (a0.map TStamp.row)]] [[.sl 5 (a0.map TStamp.row)]] := by
  have h := l_toStampS_ok a0 u0
  rwa [l_toStampS_id] at h
theorem l_toRenewal_ok (a0 : TRenewal) (u0 : Sm 2334720 a0) : SoundD Tryz.prog 232 [a0.row] [(l_toRenewal a0).row] := by
 refine sound_ofD Tryz.func232 rfl (by kernel_rfl) ?_
 simp [Tryz.ntmps232]
 refine cD [false] (l_toStepS_okI a0.Path (sg (TRenewal.sm_Path u0))) ?_
 simp
 refine cD [false] (l_toStampS_okI a0.Stamps (sg (TRenewal.sm_Stamps u0))) ?_
 simp
 refine retD (rv := [.cell 2 105]) rfl ?_
 have f1 := l_toRenewal.eq_1 a0; simp [f1]
theorem l_toRenewal_okI (a0 : TRenewal) (u0 : Sm 2334720 a0) : SoundD Tryz.prog 232 [a0.row] [a0.row] := by
  have h := l_toRenewal_ok a0 u0
  rwa [l_toRenewal_id] at h
theorem l_toRenewalS_ok (a0 : List TRenewal) (u0 : Sm 2330624 a0) : SoundD Tryz.prog 216 [[.sl 5 (a0.map TRenewal.row)]] [[.sl 5 ((l_toRenewalS a0).map TRenewal.row)]] := by
 refine sound_ofD Tryz.func216 rfl (by kernel_rfl) ?_
 have c1 : a0.length ≤ 2330624 := sm_len (by simp (maxDischargeDepth := 12) [u0])
 simp [Tryz.ntmps216]
 refine mkDI (n := a0.length) rfl rfl rfl rfl rfl rfl (by simp) (by simp) (by simp; omega) (by omega) ?_
 simp
 refine okL fun k1 => ?_
 refine loopI (ι := { s : Nat × Nat × (List TRenewal) // l_toRenewalS_1 a0 s.1 s.2.1 s.2.2 = l_toRenewalS_1 a0 (a0.length + 1) 0 (List.replicate a0.length (TRenewal.mk 0 0 0 ([] : List TStep) ([] : List TStamp))) ∧ (1 ≤ s.1 ∧ a0.length < s.1 + s.2.1 ∧ s.2.1 ≤ a0.length ∧ s.2.2.length = a0.length) }) (fun s => stOf 23 [eL 0 5 a0 TRenewal.row, (3, .one (.sref 7 0 0 s.1.2.2.length), []), eI 4 (↑s.1.2.1 : Int), (7, .any, [.arr true 5 (s.1.2.2.map TRenewal.row)])]) (fun s => s.1.1) ⟨((a0.length + 1), 0, (List.replicate a0.length (TRenewal.mk 0 0 0 ([] : List TStep) ([] : List TStamp)))), rfl, by first | omega | (dsimp only; omega) | simp⟩ (wk_keep (by simp)) ?_
 rintro ⟨⟨n1, v1_0, v1_1⟩, e1, j1⟩
 try dsimp only at e1 j1
 obtain ⟨p1, rfl⟩ : ∃ p, n1 = p + 1 := ⟨n1 - 1, by omega⟩
 simp
 refine cC (decide ((↑v1_0 : Int) < (↑a0.length : Int))) (fun k2 h1 => ?_) (fun k2 h1 => ?_)
 ·have q1 := h1; try simp at q1
  have i1 : v1_0 < a0.length := by simpa using h1
  have m2 : a0.length ≤ 9223372036854775807 := by simpa using k2 0 _ rfl
  have w1 : IntKind.i64.wrap ((v1_0 : Int) + 1) = (v1_0 : Int) + 1 := wrap_of (by omega) (by omega)
  simp [i1, rowAt_map]
  repeat with_reducible refine sd ?_
  refine cD [true, true, true, false, false] (l_toRenewal_okI (nth a0 v1_0) (sg (sm_nth u0))) ?_
  have i2 : v1_0 < v1_1.length := il
  simp [i2, rowAt_map]
  repeat with_reducible refine sd ?_
  refine stMI (t := 7) (j := 0) (i := v1_0) (c := 0) (size := 5) (rows := (v1_1.map TRenewal.row)) (ds := (nth a0 v1_0).row) (L := [(20, 3), (20, 4)]) rfl rfl rfl rfl (by simp) (by simp) (by simp; try omega) (by simp) (by simp) (by simp) (by simp) (by simp) (by simp) ?_
  simp [set_map (x := (nth a0 v1_0)) rfl, i2, rowAt_map, rowAt_set_self]
  repeat with_reducible refine sd ?_
  refine nxtI ⟨(p1, (v1_0 + 1), (v1_1.set v1_0 (nth a0 v1_0))), ?_, ?_⟩ (by simp) (wk_keep (by simp [w1]))
  · rw [← e1]; simp only [l_toRenewalS_1, h1, cond_t, cond_f]
  · first | omega | (simp at *; omega)
 ·have q1 := h1; try simp at q1
  have x1 : l_toRenewalS_1 a0 (a0.length + 1) 0 (List.replicate a0.length (TRenewal.mk 0 0 0 ([] : List TStep) ([] : List TStamp))) = v1_1 := by rw [← e1]; simp only [l_toRenewalS_1, h1, cond_t, cond_f]
  simp
  refine retD (rv := [.tmp 2]) rfl ?_
  have f1 := l_toRenewalS.eq_1 a0; simp only [x1, cond_t, cond_f] at f1; simp [f1]
theorem l_toRenewalS_okI (a0 : List TRenewal) (u0 : Sm 2330624 a0) : SoundD Tryz.prog 216 [[.sl 5 (a0.map TRenewal.row)]] [[.sl 5 (a0.map TRenewal.row)]] := by
  have h := l_toRenewalS_ok a0 u0
  rwa [l_toRenewalS_id] at h
theorem l_toStrand_ok (a0 : TStrand) (u0 : Sm 2326528 a0) : SoundD Tryz.prog 194 [a0.row] [(l_toStrand a0).row] := by
 refine sound_ofD Tryz.func194 rfl (by kernel_rfl) ?_
 simp [Tryz.ntmps194]
 refine cD [] (l_toPieceS_okI a0.Pieces (sg (TStrand.sm_Pieces u0))) ?_
 simp
 refine cD [] (l_toRenewalS_okI a0.Chain (sg (TStrand.sm_Chain u0))) ?_
 simp
 refine retD (rv := [.cell 2 69]) rfl ?_
 have f1 := l_toStrand.eq_1 a0; simp [f1]
theorem l_toStrand_okI (a0 : TStrand) (u0 : Sm 2326528 a0) : SoundD Tryz.prog 194 [a0.row] [a0.row] := by
  have h := l_toStrand_ok a0 u0
  rwa [l_toStrand_id] at h
theorem l_toItem_ok (a0 : TItem) (u0 : Sm 2322432 a0) : SoundD Tryz.prog 165 [a0.row] [(l_toItem a0).row] := by
 refine sound_ofD Tryz.func165 rfl (by kernel_rfl) ?_
 simp [Tryz.ntmps165]
 refine cD [true, false, false] (l_toDocument_okI a0.Doc (sg (TItem.sm_Doc u0))) ?_
 simp
 refine cR (l_toSignature_okI a0.Sig) ?_
 simp
 refine cD [] (l_toStrand_okI a0.Strand (sg (TItem.sm_Strand u0))) ?_
 simp
 refine retD (rv := [.cell 2 77]) rfl ?_
 have f1 := l_toItem.eq_1 a0; simp [f1]
theorem l_toItem_okI (a0 : TItem) (u0 : Sm 2322432 a0) : SoundD Tryz.prog 165 [a0.row] [a0.row] := by
  have h := l_toItem_ok a0 u0
  rwa [l_toItem_id] at h
theorem l_toItemS_ok (a0 : List TItem) (u0 : Sm 2318336 a0) : SoundD Tryz.prog 126 [[.sl 16 (a0.map TItem.row)]] [[.sl 16 ((l_toItemS a0).map TItem.row)]] := by
 refine sound_ofD Tryz.func126 rfl (by kernel_rfl) ?_
 have c1 : a0.length ≤ 2318336 := sm_len (by simp (maxDischargeDepth := 12) [u0])
 simp [Tryz.ntmps126]
 refine mkDI (n := a0.length) rfl rfl rfl rfl rfl rfl (by simp) (by simp) (by simp; omega) (by omega) ?_
 simp
 refine okL fun k1 => ?_
 refine loopI (ι := { s : Nat × Nat × (List TItem) // l_toItemS_1 a0 s.1 s.2.1 s.2.2 = l_toItemS_1 a0 (a0.length + 1) 0 (List.replicate a0.length (TItem.mk 0 0 (TDocument.mk 0 ([] : List ByteArray) ([] : List Int)) (TSignature.mk 0 0 0 0 0 0 0 0 0) (TStrand.mk ([] : List TPiece) ([] : List TRenewal)))) ∧ (1 ≤ s.1 ∧ a0.length < s.1 + s.2.1 ∧ s.2.1 ≤ a0.length ∧ s.2.2.length = a0.length) }) (fun s => stOf 23 [eL 0 16 a0 TItem.row, (3, .one (.sref 7 0 0 s.1.2.2.length), []), eI 4 (↑s.1.2.1 : Int), (7, .any, [.arr true 16 (s.1.2.2.map TItem.row)])]) (fun s => s.1.1) ⟨((a0.length + 1), 0, (List.replicate a0.length (TItem.mk 0 0 (TDocument.mk 0 ([] : List ByteArray) ([] : List Int)) (TSignature.mk 0 0 0 0 0 0 0 0 0) (TStrand.mk ([] : List TPiece) ([] : List TRenewal))))), rfl, by first | omega | (dsimp only; omega) | simp⟩ (wk_keep (by simp)) ?_
 rintro ⟨⟨n1, v1_0, v1_1⟩, e1, j1⟩
 try dsimp only at e1 j1
 obtain ⟨p1, rfl⟩ : ∃ p, n1 = p + 1 := ⟨n1 - 1, by omega⟩
 simp
 refine cC (decide ((↑v1_0 : Int) < (↑a0.length : Int))) (fun k2 h1 => ?_) (fun k2 h1 => ?_)
 ·have q1 := h1; try simp at q1
  have i1 : v1_0 < a0.length := by simpa using h1
  have m2 : a0.length ≤ 9223372036854775807 := by simpa using k2 0 _ rfl
  have w1 : IntKind.i64.wrap ((v1_0 : Int) + 1) = (v1_0 : Int) + 1 := wrap_of (by omega) (by omega)
  simp [i1, rowAt_map]
  repeat with_reducible refine sd ?_
  refine cD [true, true, true, false, false] (l_toItem_okI (nth a0 v1_0) (sg (sm_nth u0))) ?_
  have i2 : v1_0 < v1_1.length := il
  simp [i2, rowAt_map]
  repeat with_reducible refine sd ?_
  refine stMI (t := 7) (j := 0) (i := v1_0) (c := 0) (size := 16) (rows := (v1_1.map TItem.row)) (ds := (nth a0 v1_0).row) (L := [(20, 3), (20, 4), (20, 14), (20, 15)]) rfl rfl rfl rfl (by simp) (by simp) (by simp; try omega) (by simp) (by simp) (by simp) (by simp) (by simp) (by simp) ?_
  simp [set_map (x := (nth a0 v1_0)) rfl, i2, rowAt_map, rowAt_set_self]
  repeat with_reducible refine sd ?_
  refine nxtI ⟨(p1, (v1_0 + 1), (v1_1.set v1_0 (nth a0 v1_0))), ?_, ?_⟩ (by simp) (wk_keep (by simp [w1]))
  · rw [← e1]; simp only [l_toItemS_1, h1, cond_t, cond_f]
  · first | omega | (simp at *; omega)
 ·have q1 := h1; try simp at q1
  have x1 : l_toItemS_1 a0 (a0.length + 1) 0 (List.replicate a0.length (TItem.mk 0 0 (TDocument.mk 0 ([] : List ByteArray) ([] : List Int)) (TSignature.mk 0 0 0 0 0 0 0 0 0) (TStrand.mk ([] : List TPiece) ([] : List TRenewal)))) = v1_1 := by rw [← e1]; simp only [l_toItemS_1, h1, cond_t, cond_f]
  simp
  refine retD (rv := [.tmp 2]) rfl ?_
  have f1 := l_toItemS.eq_1 a0; simp only [x1, cond_t, cond_f] at f1; simp [f1]
theorem l_toItemS_okI (a0 : List TItem) (u0 : Sm 2318336 a0) : SoundD Tryz.prog 126 [[.sl 16 (a0.map TItem.row)]] [[.sl 16 (a0.map TItem.row)]] := by
  have h := l_toItemS_ok a0 u0
  rwa [l_toItemS_id] at h
theorem l_toArchive_ok (a0 : TArchive) (u0 : Sm 2314240 a0) : SoundD Tryz.prog 76 [a0.row] [(l_toArchive a0).row] := by
 refine sound_ofD Tryz.func76 rfl (by kernel_rfl) ?_
 simp [Tryz.ntmps76]
 refine cD [] (l_toItemS_okI a0.Items (sg (TArchive.sm_Items u0))) ?_
 simp
 refine retD (rv := [.cell 2 65]) rfl ?_
 have f1 := l_toArchive.eq_1 a0; simp [f1]
theorem l_toArchive_okI (a0 : TArchive) (u0 : Sm 2314240 a0) : SoundD Tryz.prog 76 [a0.row] [a0.row] := by
  have h := l_toArchive_ok a0 u0
  rwa [l_toArchive_id] at h
theorem l_toArchiveS_ok (a0 : List TArchive) (u0 : Sm 2310144 a0) : SoundD Tryz.prog 29 [[.sl 2 (a0.map TArchive.row)]] [[.sl 2 ((l_toArchiveS a0).map TArchive.row)]] := by
 refine sound_ofD Tryz.func29 rfl (by kernel_rfl) ?_
 have c1 : a0.length ≤ 2310144 := sm_len (by simp (maxDischargeDepth := 12) [u0])
 simp [Tryz.ntmps29]
 refine mkDI (n := a0.length) rfl rfl rfl rfl rfl rfl (by simp) (by simp) (by simp; omega) (by omega) ?_
 simp
 refine okL fun k1 => ?_
 refine loopI (ι := { s : Nat × Nat × (List TArchive) // l_toArchiveS_1 a0 s.1 s.2.1 s.2.2 = l_toArchiveS_1 a0 (a0.length + 1) 0 (List.replicate a0.length (TArchive.mk 0 ([] : List TItem))) ∧ (1 ≤ s.1 ∧ a0.length < s.1 + s.2.1 ∧ s.2.1 ≤ a0.length ∧ s.2.2.length = a0.length) }) (fun s => stOf 23 [eL 0 2 a0 TArchive.row, (3, .one (.sref 7 0 0 s.1.2.2.length), []), eI 4 (↑s.1.2.1 : Int), (7, .any, [.arr true 2 (s.1.2.2.map TArchive.row)])]) (fun s => s.1.1) ⟨((a0.length + 1), 0, (List.replicate a0.length (TArchive.mk 0 ([] : List TItem)))), rfl, by first | omega | (dsimp only; omega) | simp⟩ (wk_keep (by simp)) ?_
 rintro ⟨⟨n1, v1_0, v1_1⟩, e1, j1⟩
 try dsimp only at e1 j1
 obtain ⟨p1, rfl⟩ : ∃ p, n1 = p + 1 := ⟨n1 - 1, by omega⟩
 simp
 refine cC (decide ((↑v1_0 : Int) < (↑a0.length : Int))) (fun k2 h1 => ?_) (fun k2 h1 => ?_)
 ·have q1 := h1; try simp at q1
  have i1 : v1_0 < a0.length := by simpa using h1
  have m2 : a0.length ≤ 9223372036854775807 := by simpa using k2 0 _ rfl
  have w1 : IntKind.i64.wrap ((v1_0 : Int) + 1) = (v1_0 : Int) + 1 := wrap_of (by omega) (by omega)
  simp [i1, rowAt_map]
  repeat with_reducible refine sd ?_
  refine cD [] (l_toArchive_okI (nth a0 v1_0) (sg (sm_nth u0))) ?_
  have i2 : v1_0 < v1_1.length := il
  simp [i2, rowAt_map]
  repeat with_reducible refine sd ?_
  refine stMI (t := 7) (j := 0) (i := v1_0) (c := 0) (size := 2) (rows := (v1_1.map TArchive.row)) (ds := (nth a0 v1_0).row) (L := [(20, 1)]) rfl rfl rfl rfl (by simp) (by simp) (by simp; try omega) (by simp) (by simp) (by simp) (by simp) (by simp) (by simp) ?_
  simp [set_map (x := (nth a0 v1_0)) rfl, i2, rowAt_map, rowAt_set_self]
  repeat with_reducible refine sd ?_
  refine nxtI ⟨(p1, (v1_0 + 1), (v1_1.set v1_0 (nth a0 v1_0))), ?_, ?_⟩ (by simp) (wk_keep (by simp [w1]))
  · rw [← e1]; simp only [l_toArchiveS_1, h1, cond_t, cond_f]
  · first | omega | (simp at *; omega)
 ·have q1 := h1; try simp at q1
  have x1 : l_toArchiveS_1 a0 (a0.length + 1) 0 (List.replicate a0.length (TArchive.mk 0 ([] : List TItem))) = v1_1 := by rw [← e1]; simp only [l_toArchiveS_1, h1, cond_t, cond_f]
  simp
  refine retD (rv := [.tmp 2]) rfl ?_
  have f1 := l_toArchiveS.eq_1 a0; simp only [x1, cond_t, cond_f] at f1; simp [f1]
theorem l_toArchiveS_okI (a0 : List TArchive) (u0 : Sm 2310144 a0) : SoundD Tryz.prog 29 [[.sl 2 (a0.map TArchive.row)]] [[.sl 2 (a0.map TArchive.row)]] := by
  have h := l_toArchiveS_ok a0 u0
  rwa [l_toArchiveS_id] at h
theorem l_toWorld_ok (a0 : TWorld) (u0 : Sm 2306048 a0) : SoundD Tryz.prog 8 [a0.row] [(l_toWorld a0).row] := by
 refine sound_ofD Tryz.func8 rfl (by kernel_rfl) ?_
 simp [Tryz.ntmps8]
 refine cD [false, false, false] (l_toFrame_okI a0.Frame (sg (TWorld.sm_Frame u0))) ?_
 simp
 refine cD [false] (l_toCertS_okI a0.Certs (sg (TWorld.sm_Certs u0))) ?_
 simp
 refine cD [false] (l_toIntS_okI a0.Ended (sg (TWorld.sm_Ended u0))) ?_
 simp
 refine cD [] (l_toArchiveS_okI a0.Archives (sg (TWorld.sm_Archives u0))) ?_
 simp
 refine cD [false] (l_toIntS_okI a0.Seqs (sg (TWorld.sm_Seqs u0))) ?_
 simp
 refine cD [false] (l_toIntS_okI a0.Lying (sg (TWorld.sm_Lying u0))) ?_
 simp
 refine cD [false] (l_toIntS_okI a0.Forged (sg (TWorld.sm_Forged u0))) ?_
 simp
 refine retD (rv := [.cell 2 43]) rfl ?_
 have f1 := l_toWorld.eq_1 a0; simp [f1]
theorem l_toWorld_okI (a0 : TWorld) (u0 : Sm 2306048 a0) : SoundD Tryz.prog 8 [a0.row] [a0.row] := by
  have h := l_toWorld_ok a0 u0
  rwa [l_toWorld_id] at h
theorem s_FindItem_ok (a0 : TArchive) (a1 : Int) : SoundAt Tryz.prog 87 false [a0.row, [.int .i64 a1]] [[.int .i64 (s_FindItem a0 a1)]] := by
 refine sound_of Tryz.func87 rfl (by kernel_rfl) ?_
 simp [Tryz.ntmps87]
 refine okL fun k1 => ?_
 refine loopI (ι := { s : Nat × Nat // s_FindItem_1 a0 a1 s.1 s.2 = s_FindItem_1 a0 a1 (a0.Items.length + 1) 0 ∧ (1 ≤ s.1 ∧ a0.Items.length < s.1 + s.2 ∧ s.2 ≤ a0.Items.length) }) (fun s => stOf 22 [eI 1 a1, eX 2 (a0.row.map .d), eI 5 (↑s.1.2 : Int)]) (fun s => s.1.1) ⟨((a0.Items.length + 1), 0), rfl, by first | omega | (dsimp only; omega) | simp⟩ (wk_keep (by simp)) ?_
 rintro ⟨⟨n1, v1_0⟩, e1, j1⟩
 try dsimp only at e1 j1
 obtain ⟨p1, rfl⟩ : ∃ p, n1 = p + 1 := ⟨n1 - 1, by omega⟩
 simp
 refine cC (decide ((↑v1_0 : Int) < (↑a0.Items.length : Int))) (fun k2 h1 => ?_) (fun k2 h1 => ?_)
 ·have q1 := h1; try simp at q1
  have i1 : v1_0 < a0.Items.length := by simpa using h1
  have m2 : a0.Items.length ≤ 9223372036854775807 := by simpa using k2 8 _ rfl
  have w1 : IntKind.i64.wrap ((v1_0 : Int) + 1) = (v1_0 : Int) + 1 := wrap_of (by omega) (by omega)
  simp [i1, rowAt_map]
  repeat with_reducible refine sd ?_
  refine cC ((nth a0.Items v1_0).Id == a1) (fun k3 h2 => ?_) (fun k3 h2 => ?_)
  ·have q2 := h2; try simp at q2
   have x1 : s_FindItem_1 a0 a1 (a0.Items.length + 1) 0 = .inl (↑v1_0 : Int) := by rw [← e1]; simp only [s_FindItem_1, h1, h2, cond_t, cond_f]
   simp
   refine retRd (rv := [.tmp 4]) rfl ?_
   have f1 := s_FindItem.eq_1 a0 a1; simp only [x1, cond_t, cond_f] at f1; simp [f1]
  ·have q2 := h2; try simp at q2
   simp
   refine nxtI ⟨(p1, (v1_0 + 1)), ?_, ?_⟩ (by simp) (wk_keep (by simp [w1]))
   · rw [← e1]; simp only [s_FindItem_1, h1, h2, cond_t, cond_f]
   · first | omega | (simp at *; omega)
 ·have q1 := h1; try simp at q1
  have x2 : s_FindItem_1 a0 a1 (a0.Items.length + 1) 0 = .inr () := by rw [← e1]; simp only [s_FindItem_1, h1, cond_t, cond_f]
  simp
  refine retRd (rv := [.tmp 4]) rfl ?_
  have f2 := s_FindItem.eq_1 a0 a1; simp only [x2, cond_t, cond_f] at f2; simp [f2]
theorem s_FindIn_ok (a0 : TWorld) (a1 : Int) : SoundAt Tryz.prog 41 false [a0.row, [.int .i64 a1]] [[.int .i64 (s_FindIn a0 a1).1], [.int .i64 (s_FindIn a0 a1).2]] := by
 refine sound_of Tryz.func41 rfl (by kernel_rfl) ?_
 simp [Tryz.ntmps41]
 refine okL fun k1 => ?_
 refine loopI (ι := { s : Nat × Nat // s_FindIn_1 a0 a1 s.1 s.2 = s_FindIn_1 a0 a1 (a0.Archives.length + 1) 0 ∧ (1 ≤ s.1 ∧ a0.Archives.length < s.1 + s.2 ∧ s.2 ≤ a0.Archives.length) }) (fun s => stOf 26 [eI 1 a1, eX 2 (a0.row.map .d), eI 6 (↑s.1.2 : Int)]) (fun s => s.1.1) ⟨((a0.Archives.length + 1), 0), rfl, by first | omega | (dsimp only; omega) | simp⟩ (wk_keep (by simp)) ?_
 rintro ⟨⟨n1, v1_0⟩, e1, j1⟩
 try dsimp only at e1 j1
 obtain ⟨p1, rfl⟩ : ∃ p, n1 = p + 1 := ⟨n1 - 1, by omega⟩
 simp
 refine cC (decide ((↑v1_0 : Int) < (↑a0.Archives.length : Int))) (fun k2 h1 => ?_) (fun k2 h1 => ?_)
 ·have q1 := h1; try simp at q1
  have i1 : v1_0 < a0.Archives.length := by simpa using h1
  have m2 : a0.Archives.length ≤ 9223372036854775807 := by simpa using k2 10 _ rfl
  have w1 : IntKind.i64.wrap ((v1_0 : Int) + 1) = (v1_0 : Int) + 1 := wrap_of (by omega) (by omega)
  simp [i1, rowAt_map]
  repeat with_reducible refine sd ?_
  refine cR (s_FindItem_ok (nth a0.Archives v1_0) a1) ?_
  simp
  refine cC (decide ((s_FindItem (nth a0.Archives v1_0) a1) ≥ 0)) (fun k3 h2 => ?_) (fun k3 h2 => ?_)
  ·have q2 := h2; try simp at q2
   have x1 : s_FindIn_1 a0 a1 (a0.Archives.length + 1) 0 = .inl ((↑v1_0 : Int), (s_FindItem (nth a0.Archives v1_0) a1)) := by rw [← e1]; simp only [s_FindIn_1, h1, h2, cond_t, cond_f]
   simp
   refine retRd (rv := [.tmp 4, .tmp 5]) rfl ?_
   have f1 := s_FindIn.eq_1 a0 a1; simp only [x1, cond_t, cond_f] at f1; simp [f1]
  ·have q2 := h2; try simp at q2
   simp
   refine nxtI ⟨(p1, (v1_0 + 1)), ?_, ?_⟩ (by simp) (wk_keep (by simp [w1]))
   · rw [← e1]; simp only [s_FindIn_1, h1, h2, cond_t, cond_f]
   · first | omega | (simp at *; omega)
 ·have q1 := h1; try simp at q1
  have x2 : s_FindIn_1 a0 a1 (a0.Archives.length + 1) 0 = .inr () := by rw [← e1]; simp only [s_FindIn_1, h1, cond_t, cond_f]
  simp
  refine retRd (rv := [.tmp 4, .tmp 5]) rfl ?_
  have f2 := s_FindIn.eq_1 a0 a1; simp only [x2, cond_t, cond_f] at f2; simp [f2]
theorem s_l1In_ok (a0 : Int) (a1 : Int) (a2 : Int) : SoundAt Tryz.prog 147 false [[.int .i64 a0], [.int .i64 a1], [.int .i64 a2]] [[.bool (s_l1In a0 a1 a2)]] := by
 refine sound_of Tryz.func147 rfl (by kernel_rfl) ?_
 simp [Tryz.ntmps147]
 refine retRd (rv := [.tmp 6]) rfl ?_
 have f1 := s_l1In.eq_1 a0 a1 a2; simp [f1]
theorem s_IsDocument_ok (a0 : TDocument) : SoundAt Tryz.prog 135 false [a0.row] [[.bool (s_IsDocument a0)]] := by
 refine sound_of Tryz.func135 rfl (by kernel_rfl) ?_
 simp [Tryz.ntmps135]
 refine okL fun k1 => ?_
 refine loopI (ι := { s : Nat × Nat // s_IsDocument_1 a0 s.1 s.2 = s_IsDocument_1 a0 (a0.Parts.length + 1) 0 ∧ (1 ≤ s.1 ∧ a0.Parts.length < s.1 + s.2 ∧ s.2 ≤ a0.Parts.length) }) (fun s => stOf 51 [eX 1 (a0.row.map .d), eI 3 (↑s.1.2 : Int)]) (fun s => s.1.1) ⟨((a0.Parts.length + 1), 0), rfl, by first | omega | (dsimp only; omega) | simp⟩ (wk_keep (by simp)) ?_
 rintro ⟨⟨n1, v1_0⟩, e1, j1⟩
 try dsimp only at e1 j1
 obtain ⟨p1, rfl⟩ : ∃ p, n1 = p + 1 := ⟨n1 - 1, by omega⟩
 simp
 refine cC (decide ((↑v1_0 : Int) < (↑a0.Parts.length : Int))) (fun k2 h1 => ?_) (fun k2 h1 => ?_)
 ·have q1 := h1; try simp at q1
  have i1 : v1_0 < a0.Parts.length := by simpa using h1
  have m2 : a0.Parts.length ≤ 9223372036854775807 := by simpa using k2 7 _ rfl
  have w1 : IntKind.i64.wrap ((v1_0 : Int) + 1) = (v1_0 : Int) + 1 := wrap_of (by omega) (by omega)
  simp [i1, rowAt_map]
  repeat with_reducible refine sd ?_
  refine cC (decide ((↑(nth a0.Parts v1_0).size : Int) > 40)) (fun k3 h2 => ?_) (fun k3 h2 => ?_)
  ·have q2 := h2; try simp at q2
   have x1 : s_IsDocument_1 a0 (a0.Parts.length + 1) 0 = .inl false := by rw [← e1]; simp only [s_IsDocument_1, h1, h2, cond_t, cond_f]
   simp
   refine retRd (rv := [.tmp 2]) rfl ?_
   have f1 := s_IsDocument.eq_1 a0; simp only [x1, cond_t, cond_f] at f1; simp [f1]
  ·have q2 := h2; try simp at q2
   simp
   refine nxtI ⟨(p1, (v1_0 + 1)), ?_, ?_⟩ (by simp) (wk_keep (by simp [w1]))
   · rw [← e1]; simp only [s_IsDocument_1, h1, h2, cond_t, cond_f]
   · first | omega | (simp at *; omega)
 ·have q1 := h1; try simp at q1
  have x2 : s_IsDocument_1 a0 (a0.Parts.length + 1) 0 = .inr () := by rw [← e1]; simp only [s_IsDocument_1, h1, cond_t, cond_f]
  simp
  refine okL fun k4 => ?_
  refine loopI (ι := { s : Nat × Nat // s_IsDocument_2 a0 s.1 s.2 = s_IsDocument_2 a0 (a0.Salts.length + 1) 0 ∧ (1 ≤ s.1 ∧ a0.Salts.length < s.1 + s.2 ∧ s.2 ≤ a0.Salts.length) }) (fun s => stOf 51 [eX 1 (a0.row.map .d), eI 4 (↑s.1.2 : Int)]) (fun s => s.1.1) ⟨((a0.Salts.length + 1), 0), rfl, by first | omega | (dsimp only; omega) | simp⟩ (wk_keep (by simp)) ?_
  rintro ⟨⟨n2, v2_0⟩, e2, j2⟩
  try dsimp only at e2 j2
  obtain ⟨p2, rfl⟩ : ∃ p, n2 = p + 1 := ⟨n2 - 1, by omega⟩
  simp
  refine cC (decide ((↑v2_0 : Int) < (↑a0.Salts.length : Int))) (fun k5 h3 => ?_) (fun k5 h3 => ?_)
  ·have q3 := h3; try simp at q3
   have i2 : v2_0 < a0.Salts.length := by simpa using h3
   have m4 : a0.Salts.length ≤ 9223372036854775807 := by simpa using k5 21 _ rfl
   have w2 : IntKind.i64.wrap ((v2_0 : Int) + 1) = (v2_0 : Int) + 1 := wrap_of (by omega) (by omega)
   simp [i2, rowAt_map]
   repeat with_reducible refine sd ?_
   refine cR (s_l1In_ok (nth a0.Salts v2_0) 1 1000000000000) ?_
   simp
   refine cC (!(s_l1In (nth a0.Salts v2_0) 1 1000000000000)) (fun k6 h4 => ?_) (fun k6 h4 => ?_)
   ·have q4 := h4; try simp [s_l1In] at q4
    have x3 : s_IsDocument_2 a0 (a0.Salts.length + 1) 0 = .inl false := by rw [← e2]; simp only [s_IsDocument_2, h3, h4, cond_t, cond_f]
    simp
    refine retRd (rv := [.tmp 2]) rfl ?_
    have f2 := s_IsDocument.eq_1 a0; simp only [x2, x3, cond_t, cond_f] at f2; simp [f2]
   ·have q4 := h4; try simp [s_l1In] at q4
    simp
    refine nxtI ⟨(p2, (v2_0 + 1)), ?_, ?_⟩ (by simp) (wk_keep (by simp [w2]))
    · rw [← e2]; simp only [s_IsDocument_2, h3, h4, cond_t, cond_f]
    · first | omega | (simp at *; omega)
  ·have q3 := h3; try simp at q3
   have x4 : s_IsDocument_2 a0 (a0.Salts.length + 1) 0 = .inr () := by rw [← e2]; simp only [s_IsDocument_2, h3, cond_t, cond_f]
   simp
   refine cR (s_l1In_ok a0.Title 0 999) ?_
   simp
   refine cG (fun gg => (s_l1In_ok (↑a0.Parts.length : Int) 1 6)) ?_
   simp
   refine retRd (rv := [.tmp 2]) rfl ?_
   have f3 := s_IsDocument.eq_1 a0; simp only [x2, x4, cond_t, cond_f] at f3; simp [f3]
theorem s_Mod_ok (a0 : Int) (a1 : Int) : SoundAt Tryz.prog 203 false [[.int .i64 a0], [.int .i64 a1]] [[.int .i64 (s_Mod a0 a1)]] := by
 refine sound_of Tryz.func203 rfl (by kernel_rfl) ?_
 simp [Tryz.ntmps203]
 refine cR (s_l1In_ok a1 1 1000000000000) ?_
 simp
 refine cC (!(s_l1In a1 1 1000000000000)) (fun k1 h1 => ?_) (fun k1 h1 => ?_)
 ·have q1 := h1; try simp [s_l1In] at q1
  simp
  refine retRd (rv := [.tmp 4]) rfl ?_
  have f1 := s_Mod.eq_1 a0 a1; simp only [h1, cond_t, cond_f] at f1; simp [f1]
 ·have q1 := h1; try simp [s_l1In] at q1
  simp
  repeat with_reducible refine sd ?_
  refine retRd (rv := [.tmp 4]) rfl ?_
  have f2 := s_Mod.eq_1 a0 a1; simp only [h1, cond_t, cond_f] at f2; simp [f2]
theorem s_Hash_ok (a0 : List Int) : SoundAt Tryz.prog 172 false [[.sl 1 (a0.map iR)]] [[.int .i64 (s_Hash a0)]] := by
 refine sound_of Tryz.func172 rfl (by kernel_rfl) ?_
 simp [Tryz.ntmps172]
 refine okL fun k1 => ?_
 refine loopI (ι := { s : Nat × Int × Nat // s_Hash_1 a0 s.1 s.2.1 s.2.2 = s_Hash_1 a0 (a0.length + 1) 11 0 ∧ (1 ≤ s.1 ∧ a0.length < s.1 + s.2.2 ∧ s.2.2 ≤ a0.length) }) (fun s => stOf 22 [eL 0 1 a0 iR, eI 3 s.1.2.1, eI 4 (↑s.1.2.2 : Int)]) (fun s => s.1.1) ⟨((a0.length + 1), 11, 0), rfl, by first | omega | (dsimp only; omega) | simp⟩ (wk_keep (by simp)) ?_
 rintro ⟨⟨n1, v1_0, v1_1⟩, e1, j1⟩
 try dsimp only at e1 j1
 obtain ⟨p1, rfl⟩ : ∃ p, n1 = p + 1 := ⟨n1 - 1, by omega⟩
 simp
 refine cC (decide ((↑v1_1 : Int) < (↑a0.length : Int))) (fun k2 h1 => ?_) (fun k2 h1 => ?_)
 ·have q1 := h1; try simp at q1
  have i1 : v1_1 < a0.length := by simpa using h1
  have m2 : a0.length ≤ 9223372036854775807 := by simpa using k2 0 _ rfl
  have w1 : IntKind.i64.wrap ((v1_1 : Int) + 1) = (v1_1 : Int) + 1 := wrap_of (by omega) (by omega)
  simp [i1, rowAt_map]
  repeat with_reducible refine sd ?_
  refine cR (s_Mod_ok (nth a0 v1_1) 2147483647) ?_
  simp
  refine nxtI ⟨(p1, (Int.tmod (W ((W ((W (v1_0 * 1000003)) + (s_Mod (nth a0 v1_1) 2147483647))) + 13)) 2147483647), (v1_1 + 1)), ?_, ?_⟩ (by simp) (wk_keep (by simp [w1]))
  · rw [← e1]; simp only [s_Hash_1, h1, cond_t, cond_f]
  · first | omega | (simp at *; omega)
 ·have q1 := h1; try simp at q1
  have x1 : s_Hash_1 a0 (a0.length + 1) 11 0 = v1_0 := by rw [← e1]; simp only [s_Hash_1, h1, cond_t, cond_f]
  simp
  refine retRd (rv := [.tmp 2]) rfl ?_
  have f1 := s_Hash.eq_1 a0; simp only [x1, cond_t, cond_f] at f1; simp [f1]
theorem s_DigestOf_ok (a0 : Int) (a1 : List Int) (u0 : Sm 68719476736 a1) : SoundAt Tryz.prog 137 false [[.int .i64 a0], [.sl 1 (a1.map iR)]] [[.int .i64 (s_DigestOf a0 a1)]] := by
 refine sound_of Tryz.func137 rfl (by kernel_rfl) ?_
 have c1 : a1.length ≤ 68719476736 := sm_len (by simp (maxDischargeDepth := 12) [u0])
 simp [Tryz.ntmps137]
 repeat with_reducible refine sd ?_
 refine cR (s_Hash_ok (([7, a0] : List Int) ++ a1)) ?_
 simp
 refine retRd (rv := [.tmp 4]) rfl ?_
 have f1 := s_DigestOf.eq_1 a0 a1; simp [f1]
theorem s_PartDigest_ok (a0 : Int) (a1 : ByteArray) (a2 : Int) (u0 : Sm 2326528 a1) : SoundAt Tryz.prog 136 false [[.int .i64 a0], [.str a1], [.int .i64 a2]] [[.int .i64 (s_PartDigest a0 a1 a2)]] := by
 refine sound_of Tryz.func136 rfl (by kernel_rfl) ?_
 simp [Tryz.ntmps136]
 refine okL fun k1 => ?_
 refine loopI (ι := { s : Nat × (List Int) × Nat // s_PartDigest_1 a1 s.1 s.2.1 s.2.2 = s_PartDigest_1 a1 (a1.size + 1) ([a2] : List Int) 0 ∧ (1 ≤ s.1 ∧ a1.size < s.1 + s.2.2 ∧ s.2.2 ≤ a1.size ∧ s.2.1.length ≤ 1 + 1 * s.2.2) }) (fun s => stOf 27 [eI 0 a0, (1, .one (.d (.str a1)), []), (7, .one (.sref 7 0 0 s.1.2.1.length), [.arr false 1 (s.1.2.1.map iR)]), eI 8 (↑s.1.2.2 : Int)]) (fun s => s.1.1) ⟨((a1.size + 1), ([a2] : List Int), 0), rfl, by first | omega | (dsimp only; omega) | simp⟩ (wk_of [((7, 0), some (10, 0))] [] rfl (by simp)) ?_
 rintro ⟨⟨n1, v1_0, v1_1⟩, e1, j1⟩
 try dsimp only at e1 j1
 obtain ⟨p1, rfl⟩ : ∃ p, n1 = p + 1 := ⟨n1 - 1, by omega⟩
 simp
 refine cC (decide ((↑v1_1 : Int) < (↑a1.size : Int))) (fun k2 h1 => ?_) (fun k2 h1 => ?_)
 ·have q1 := h1; try simp at q1
  have c1 : a1.size ≤ 2326528 := sm_size (by simp (maxDischargeDepth := 12) [u0])
  have w1 : IntKind.i64.wrap ((v1_1 : Int) + 1) = (v1_1 : Int) + 1 := wrap_of (by omega) (by omega)
  simp
  repeat with_reducible refine sd ?_
  refine nxtI ⟨(p1, (v1_0 ++ ([(W (↑(bAt a1 v1_1) : Int))] : List Int)), (v1_1 + 1)), ?_, ?_⟩ (by simp) (wk_of [((7, 0), some (23, 0))] [] rfl (by simp [w1]))
  · rw [← e1]; simp only [s_PartDigest_1, h1, cond_t, cond_f]
  · first | omega | (simp at *; omega)
 ·have q1 := h1; try simp at q1
  have c2 : a1.size ≤ 2326528 := sm_size (by simp (maxDischargeDepth := 12) [u0])
  have x1 : s_PartDigest_1 a1 (a1.size + 1) ([a2] : List Int) 0 = v1_0 := by rw [← e1]; simp only [s_PartDigest_1, h1, cond_t, cond_f]
  simp
  refine cR (s_DigestOf_ok a0 v1_0 (by first | (simp (maxDischargeDepth := 12) [sm_list]; omega) | (simp (maxDischargeDepth := 12) [sm_mono (m := 68719476736) (by decide) u0]; done))) ?_
  simp
  refine retRd (rv := [.tmp 6]) rfl ?_
  have f1 := s_PartDigest.eq_1 a0 a1 a2; simp only [x1, cond_t, cond_f] at f1; simp [f1]
theorem s_DocDigest_ok (a0 : Int) (a1 : TDocument) (u0 : Sm 2322432 a1) : SoundAt Tryz.prog 89 false [[.int .i64 a0], a1.row] [[.int .i64 (s_DocDigest a0 a1)]] := by
 refine sound_of Tryz.func89 rfl (by kernel_rfl) ?_
 simp [Tryz.ntmps89]
 refine cR (s_IsDocument_ok a1) ?_
 simp
 refine cC (!(s_IsDocument a1)) (fun k1 h1 => ?_) (fun k1 h1 => ?_)
 ·have q1 := h1; try simp at q1
  simp
  refine retRd (rv := [.tmp 4]) rfl ?_
  have f1 := s_DocDigest.eq_1 a0 a1; simp only [h1, cond_t, cond_f] at f1; simp [f1]
 ·have q1 := h1; try simp at q1
  simp
  refine okL fun k2 => ?_
  refine loopI (ι := { s : Nat × (List Int) × Nat // s_DocDigest_1 a0 a1 s.1 s.2.1 s.2.2 = s_DocDigest_1 a0 a1 (a1.Parts.length + 1) ([a1.Title] : List Int) 0 ∧ (1 ≤ s.1 ∧ a1.Parts.length < s.1 + s.2.2 ∧ s.2.2 ≤ a1.Parts.length ∧ s.2.1.length ≤ 1 + 1 * s.2.2) }) (fun s => stOf 38 [eI 0 a0, eX 3 (a1.row.map .d), (5, .one (.sref 5 0 0 s.1.2.1.length), [.arr false 1 (s.1.2.1.map iR)]), eI 6 (↑s.1.2.2 : Int)]) (fun s => s.1.1) ⟨((a1.Parts.length + 1), ([a1.Title] : List Int), 0), rfl, by first | omega | (dsimp only; omega) | simp⟩ (wk_of [((5, 0), some (12, 0))] [] rfl (by simp)) ?_
  rintro ⟨⟨n1, v1_0, v1_1⟩, e1, j1⟩
  try dsimp only at e1 j1
  obtain ⟨p1, rfl⟩ : ∃ p, n1 = p + 1 := ⟨n1 - 1, by omega⟩
  simp
  refine cC (decide ((↑v1_1 : Int) < (↑a1.Parts.length : Int))) (fun k3 h2 => ?_) (fun k3 h2 => ?_)
  ·have q2 := h2; try simp at q2
   have i1 : v1_1 < a1.Parts.length := by simpa using h2
   have m2 : a1.Parts.length ≤ 9223372036854775807 := by simpa using k3 15 _ rfl
   have c1 : a1.Parts.length ≤ 2322432 := sm_len (by simp (maxDischargeDepth := 12) [u0])
   have w1 : IntKind.i64.wrap ((v1_1 : Int) + 1) = (v1_1 : Int) + 1 := wrap_of (by omega) (by omega)
   simp
   refine okD fun k4 => ?_
   refine drawI mixed (by kernel_rfl) (by kernel_rfl) ?_
   have i2 : v1_1 < a1.Salts.length := by (have := s_IsDocument_len (a := a1); first | (simp_all; done) | (simp_all; omega))
   simp [i1, rowAt_map, i2]
   repeat with_reducible refine sd ?_
   refine cR (s_PartDigest_ok a0 (nth a1.Parts v1_1) (nth a1.Salts v1_1) (sg (sm_nth (TDocument.sm_Parts u0)))) ?_
   simp
   repeat with_reducible refine sd ?_
   refine nxtI ⟨(p1, (v1_0 ++ ([(s_PartDigest a0 (nth a1.Parts v1_1) (nth a1.Salts v1_1))] : List Int)), (v1_1 + 1)), ?_, ?_⟩ (by simp) (wk_of [((5, 0), some (34, 0))] [] rfl (by simp [w1]))
   · rw [← e1]; simp only [s_DocDigest_1, h2, cond_t, cond_f]
   · first | omega | (simp at *; omega)
  ·have q2 := h2; try simp at q2
   have c2 : a1.Parts.length ≤ 2322432 := sm_len (by simp (maxDischargeDepth := 12) [u0])
   have x1 : s_DocDigest_1 a0 a1 (a1.Parts.length + 1) ([a1.Title] : List Int) 0 = v1_0 := by rw [← e1]; simp only [s_DocDigest_1, h2, cond_t, cond_f]
   simp
   refine cR (s_DigestOf_ok a0 v1_0 (by first | (simp (maxDischargeDepth := 12) [sm_list]; omega) | (simp (maxDischargeDepth := 12) [sm_mono (m := 68719476736) (by decide) u0]; done))) ?_
   simp
   refine retRd (rv := [.tmp 4]) rfl ?_
   have f2 := s_DocDigest.eq_1 a0 a1; simp only [h1, x1, cond_t, cond_f] at f2; simp [f2]
theorem s_DocDigests_ok (a0 : TStrand) (a1 : TDocument) (u0 : Sm 2318336 a0) (u1 : Sm 2318336 a1) : SoundD Tryz.prog 43 [a0.row, a1.row] [[.sl 1 ((s_DocDigests a0 a1).map iR)]] := by
 refine sound_ofD Tryz.func43 rfl (by kernel_rfl) ?_
 simp [Tryz.ntmps43]
 refine okL fun k1 => ?_
 refine loopI (ι := { s : Nat × (List Int) × Nat // s_DocDigests_1 a0 a1 s.1 s.2.1 s.2.2 = s_DocDigests_1 a0 a1 (a0.Chain.length + 1) ([] : List Int) 0 ∧ (1 ≤ s.1 ∧ a0.Chain.length < s.1 + s.2.2 ∧ s.2.2 ≤ a0.Chain.length ∧ s.2.1.length ≤ 0 + 1 * s.2.2) }) (fun s => stOf 27 [eX 2 (a0.row.map .d), eX 3 (a1.row.map .d), (5, .one (.sref 5 0 0 s.1.2.1.length), [.arr false 1 (s.1.2.1.map iR)]), eI 6 (↑s.1.2.2 : Int)]) (fun s => s.1.1) ⟨((a0.Chain.length + 1), ([] : List Int), 0), rfl, by first | omega | (dsimp only; omega) | simp⟩ (wk_of [((5, 0), some (7, 0))] [] rfl (by simp)) ?_
 rintro ⟨⟨n1, v1_0, v1_1⟩, e1, j1⟩
 try dsimp only at e1 j1
 obtain ⟨p1, rfl⟩ : ∃ p, n1 = p + 1 := ⟨n1 - 1, by omega⟩
 simp
 refine cC (decide ((↑v1_1 : Int) < (↑a0.Chain.length : Int))) (fun k2 h1 => ?_) (fun k2 h1 => ?_)
 ·have q1 := h1; try simp at q1
  have i1 : v1_1 < a0.Chain.length := by simpa using h1
  have m2 : a0.Chain.length ≤ 9223372036854775807 := by simpa using k2 10 _ rfl
  have c1 : a0.Chain.length ≤ 2318336 := sm_len (by simp (maxDischargeDepth := 12) [u0, u1])
  have w1 : IntKind.i64.wrap ((v1_1 : Int) + 1) = (v1_1 : Int) + 1 := wrap_of (by omega) (by omega)
  simp
  refine okD fun k3 => ?_
  refine drawI mixed (by kernel_rfl) (by kernel_rfl) ?_
  simp [i1, rowAt_map]
  repeat with_reducible refine sd ?_
  refine cR (s_DocDigest_ok (nth a0.Chain v1_1).Method a1 (sg u1)) ?_
  simp
  repeat with_reducible refine sd ?_
  refine nxtI ⟨(p1, (v1_0 ++ ([(s_DocDigest (nth a0.Chain v1_1).Method a1)] : List Int)), (v1_1 + 1)), ?_, ?_⟩ (by simp) (wk_of [((5, 0), some (25, 0))] [] rfl (by simp [w1]))
  · rw [← e1]; simp only [s_DocDigests_1, h1, cond_t, cond_f]
  · first | omega | (simp at *; omega)
 ·have q1 := h1; try simp at q1
  have c2 : a0.Chain.length ≤ 2318336 := sm_len (by simp (maxDischargeDepth := 12) [u0, u1])
  have x1 : s_DocDigests_1 a0 a1 (a0.Chain.length + 1) ([] : List Int) 0 = v1_0 := by rw [← e1]; simp only [s_DocDigests_1, h1, cond_t, cond_f]
  simp
  refine retD (rv := [.tmp 4]) rfl ?_
  have f1 := s_DocDigests.eq_1 a0 a1; simp only [x1, cond_t, cond_f] at f1; simp [f1]
theorem s_FindAuthority_ok (a0 : List TAuthority) (a1 : Int) : SoundAt Tryz.prog 97 false [[.sl 3 (a0.map TAuthority.row)], [.int .i64 a1]] [[.int .i64 (s_FindAuthority a0 a1)]] := by
 refine sound_of Tryz.func97 rfl (by kernel_rfl) ?_
 simp [Tryz.ntmps97]
 refine okL fun k1 => ?_
 refine loopI (ι := { s : Nat × Nat // s_FindAuthority_1 a0 a1 s.1 s.2 = s_FindAuthority_1 a0 a1 (a0.length + 1) 0 ∧ (1 ≤ s.1 ∧ a0.length < s.1 + s.2 ∧ s.2 ≤ a0.length) }) (fun s => stOf 20 [eL 0 3 a0 TAuthority.row, eI 1 a1, eI 5 (↑s.1.2 : Int)]) (fun s => s.1.1) ⟨((a0.length + 1), 0), rfl, by first | omega | (dsimp only; omega) | simp⟩ (wk_keep (by simp)) ?_
 rintro ⟨⟨n1, v1_0⟩, e1, j1⟩
 try dsimp only at e1 j1
 obtain ⟨p1, rfl⟩ : ∃ p, n1 = p + 1 := ⟨n1 - 1, by omega⟩
 simp
 refine cC (decide ((↑v1_0 : Int) < (↑a0.length : Int))) (fun k2 h1 => ?_) (fun k2 h1 => ?_)
 ·have q1 := h1; try simp at q1
  have i1 : v1_0 < a0.length := by simpa using h1
  have m2 : a0.length ≤ 9223372036854775807 := by simpa using k2 0 _ rfl
  have w1 : IntKind.i64.wrap ((v1_0 : Int) + 1) = (v1_0 : Int) + 1 := wrap_of (by omega) (by omega)
  simp [i1, rowAt_map]
  repeat with_reducible refine sd ?_
  refine cC ((nth a0 v1_0).Id == a1) (fun k3 h2 => ?_) (fun k3 h2 => ?_)
  ·have q2 := h2; try simp at q2
   have x1 : s_FindAuthority_1 a0 a1 (a0.length + 1) 0 = .inl (↑v1_0 : Int) := by rw [← e1]; simp only [s_FindAuthority_1, h1, h2, cond_t, cond_f]
   simp
   refine retRd (rv := [.tmp 4]) rfl ?_
   have f1 := s_FindAuthority.eq_1 a0 a1; simp only [x1, cond_t, cond_f] at f1; simp [f1]
  ·have q2 := h2; try simp at q2
   simp
   refine nxtI ⟨(p1, (v1_0 + 1)), ?_, ?_⟩ (by simp) (wk_keep (by simp [w1]))
   · rw [← e1]; simp only [s_FindAuthority_1, h1, h2, cond_t, cond_f]
   · first | omega | (simp at *; omega)
 ·have q1 := h1; try simp at q1
  have x2 : s_FindAuthority_1 a0 a1 (a0.length + 1) 0 = .inr () := by rw [← e1]; simp only [s_FindAuthority_1, h1, cond_t, cond_f]
  simp
  refine retRd (rv := [.tmp 4]) rfl ?_
  have f2 := s_FindAuthority.eq_1 a0 a1; simp only [x2, cond_t, cond_f] at f2; simp [f2]
theorem s_l4Time_ok (a0 : Int) : SoundAt Tryz.prog 98 false [[.int .i64 a0]] [[.bool (s_l4Time a0)]] := by
 refine sound_of Tryz.func98 rfl (by kernel_rfl) ?_
 simp [Tryz.ntmps98]
 refine cR (s_l1In_ok a0 0 10000) ?_
 simp
 refine retRd (rv := [.tmp 2]) rfl ?_
 have f1 := s_l4Time.eq_1 a0; simp [f1]
theorem s_Max_ok (a0 : Int) (a1 : Int) : SoundAt Tryz.prog 223 false [[.int .i64 a0], [.int .i64 a1]] [[.int .i64 (s_Max a0 a1)]] := by
 refine sound_of Tryz.func223 rfl (by kernel_rfl) ?_
 simp [Tryz.ntmps223]
 refine cC (decide (a1 > a0)) (fun k1 h1 => ?_) (fun k1 h1 => ?_)
 ·have q1 := h1; try simp at q1
  simp
  refine retRd (rv := [.tmp 4]) rfl ?_
  have f1 := s_Max.eq_1 a0 a1; simp only [h1, cond_t, cond_f] at f1; simp [f1]
 ·have q1 := h1; try simp at q1
  simp
  refine retRd (rv := [.tmp 4]) rfl ?_
  have f2 := s_Max.eq_1 a0 a1; simp only [h1, cond_t, cond_f] at f2; simp [f2]
theorem s_Min_ok (a0 : Int) (a1 : Int) : SoundAt Tryz.prog 225 false [[.int .i64 a0], [.int .i64 a1]] [[.int .i64 (s_Min a0 a1)]] := by
 refine sound_of Tryz.func225 rfl (by kernel_rfl) ?_
 simp [Tryz.ntmps225]
 refine cC (decide (a1 < a0)) (fun k1 h1 => ?_) (fun k1 h1 => ?_)
 ·have q1 := h1; try simp at q1
  simp
  refine retRd (rv := [.tmp 4]) rfl ?_
  have f1 := s_Min.eq_1 a0 a1; simp only [h1, cond_t, cond_f] at f1; simp [f1]
 ·have q1 := h1; try simp at q1
  simp
  refine retRd (rv := [.tmp 4]) rfl ?_
  have f2 := s_Min.eq_1 a0 a1; simp only [h1, cond_t, cond_f] at f2; simp [f2]
theorem s_MakeSpan_ok (a0 : Int) (a1 : Int) : SoundAt Tryz.prog 220 false [[.int .i64 a0], [.int .i64 a1]] [(s_MakeSpan a0 a1).1.row, [.bool (s_MakeSpan a0 a1).2]] := by
 refine sound_of Tryz.func220 rfl (by kernel_rfl) ?_
 simp [Tryz.ntmps220]
 refine cR (s_Max_ok 0 a0) ?_
 simp
 refine cR (s_Min_ok 10000 a1) ?_
 simp
 refine cC (decide ((s_Max 0 a0) > (s_Min 10000 a1))) (fun k1 h1 => ?_) (fun k1 h1 => ?_)
 ·have q1 := h1; try simp at q1
  simp
  refine retRd (rv := [.cell 4 182, .tmp 5]) rfl ?_
  have f1 := s_MakeSpan.eq_1 a0 a1; simp only [h1, cond_t, cond_f] at f1; simp [f1]
 ·have q1 := h1; try simp at q1
  simp
  refine retRd (rv := [.cell 4 182, .tmp 5]) rfl ?_
  have f2 := s_MakeSpan.eq_1 a0 a1; simp only [h1, cond_t, cond_f] at f2; simp [f2]
theorem s_StampSpan_ok (a0 : List TAuthority) (a1 : TStamp) : SoundAt Tryz.prog 198 false [[.sl 3 (a0.map TAuthority.row)], a1.row] [(s_StampSpan a0 a1).1.row, [.bool (s_StampSpan a0 a1).2]] := by
 refine sound_of Tryz.func198 rfl (by kernel_rfl) ?_
 simp [Tryz.ntmps198]
 refine cR (s_FindAuthority_ok a0 a1.Authority) ?_
 simp
 refine guardI rfl rfl rfl rfl rfl (by simp) (fun g1 => ?_) (fun g1 => ?_)
 ·have g1x := g1; try simp only [beq_true, beq_false, Bool.not_eq_true', Bool.not_eq_false', Bool.true_and, Bool.and_true] at g1x
  try simp at g1
  have i1 : (s_FindAuthority a0 a1.Authority).toNat < a0.length := by have := s_FindAuthority_lt a0 a1.Authority; exact il
  simp [i1, rowAt_map, g1x]
  repeat with_reducible refine sdg ?_
  refine callG rfl rfl rfl rfl rfl rfl (fun gg => (s_l4Time_ok a1.Time)) (by first | (simp; done) | (simp [g1x]; done) | (simp [g1x]; omega) | (simp_all; done)) (by first | (simp; done) | (simp [g1x]; done) | (simp [g1x]; omega) | (simp_all; done)) (by first | (simp; done) | (simp [g1x]; done) | (simp [g1x]; omega) | (simp_all; done)) (by first | (simp; done) | (simp [g1x]; done) | (simp [g1x]; omega) | (simp_all; done)) ?_
  simp [g1x]
  repeat with_reducible refine sdg ?_
  refine condR (c := (((decide ((s_FindAuthority a0 a1.Authority) < 0)) || (decide ((nth a0 (s_FindAuthority a0 a1.Authority).toNat).Error < 0))) || (!(s_l4Time a1.Time)))) (by first | (simp [g1x]; done) | grind) (fun k1 h1 => ?_) (fun k1 h1 => ?_)
  ·try (have z := h1; simp [g1x] at z; done)
   all_goals
    have q1 := h1; try simp at q1
    simp [g1x]
    repeat with_reducible refine sdg ?_
    refine retRd (rv := [.cell 4 182, .tmp 5]) rfl ?_
    have f1 := s_StampSpan.eq_1 a0 a1; simp only [h1, cond_t, cond_f] at f1; simp [f1, g1x]
  ·try (have z := h1; simp [g1x] at z; done)
   all_goals
    have q1 := h1; try simp at q1
    simp [g1x]
    repeat with_reducible refine sdg ?_
    refine okD fun k2 => ?_
    refine drawI mixed (by kernel_rfl) (by kernel_rfl) ?_
    simp [i1, rowAt_map, g1x]
    repeat with_reducible refine sdg ?_
    refine cR (s_MakeSpan_ok (W (a1.Time - (nth a0 (s_FindAuthority a0 a1.Authority).toNat).Error)) (W (a1.Time + (nth a0 (s_FindAuthority a0 a1.Authority).toNat).Error))) ?_
    simp [g1x]
    repeat with_reducible refine sdg ?_
    refine retRd (rv := [.cell 4 182, .tmp 5]) rfl ?_
    have f2 := s_StampSpan.eq_1 a0 a1; simp only [h1, cond_t, cond_f] at f2; simp [f2, g1x]
 ·have g1x := g1; try simp only [beq_true, beq_false, Bool.not_eq_true', Bool.not_eq_false', Bool.true_and, Bool.and_true] at g1x
  simp [g1x]
  repeat with_reducible refine sdg ?_
  refine callG rfl rfl rfl rfl rfl rfl (fun gg => (s_l4Time_ok a1.Time)) (by first | (simp; done) | (simp [g1x]; done) | (simp [g1x]; omega) | (simp_all; done)) (by first | (simp; done) | (simp [g1x]; done) | (simp [g1x]; omega) | (simp_all; done)) (by first | (simp; done) | (simp [g1x]; done) | (simp [g1x]; omega) | (simp_all; done)) (by first | (simp; done) | (simp [g1x]; done) | (simp [g1x]; omega) | (simp_all; done)) ?_
  simp [g1x]
  repeat with_reducible refine sdg ?_
  refine condR (c := (((decide ((s_FindAuthority a0 a1.Authority) < 0)) || (decide ((nth a0 (s_FindAuthority a0 a1.Authority).toNat).Error < 0))) || (!(s_l4Time a1.Time)))) (by first | (simp [g1x]; done) | grind) (fun k3 h2 => ?_) (fun k3 h2 => ?_)
  ·try (have z := h2; simp [g1x] at z; done)
   all_goals
    have q2 := h2; try simp at q2
    simp [g1x]
    repeat with_reducible refine sdg ?_
    refine retRd (rv := [.cell 4 182, .tmp 5]) rfl ?_
    have f3 := s_StampSpan.eq_1 a0 a1; simp only [h2, cond_t, cond_f] at f3; simp [f3, g1x]
  ·try (have z := h2; simp [g1x] at z; done)
   all_goals
    have q2 := h2; try simp at q2
    simp [g1x]
    repeat with_reducible refine sdg ?_
    refine okD fun k4 => ?_
    refine drawI mixed (by kernel_rfl) (by kernel_rfl) ?_
    have i3 : (s_FindAuthority a0 a1.Authority).toNat < a0.length := by have := s_FindAuthority_lt a0 a1.Authority; exact il
    simp [i3, rowAt_map, g1x]
    repeat with_reducible refine sdg ?_
    refine cR (s_MakeSpan_ok (W (a1.Time - (nth a0 (s_FindAuthority a0 a1.Authority).toNat).Error)) (W (a1.Time + (nth a0 (s_FindAuthority a0 a1.Authority).toNat).Error))) ?_
    simp [g1x]
    repeat with_reducible refine sdg ?_
    refine retRd (rv := [.cell 4 182, .tmp 5]) rfl ?_
    have f4 := s_StampSpan.eq_1 a0 a1; simp only [h2, cond_t, cond_f] at f4; simp [f4, g1x]
theorem s_IsSpan_ok (a0 : TSpan) : SoundAt Tryz.prog 221 false [a0.row] [[.bool (s_IsSpan a0)]] := by
 refine sound_of Tryz.func221 rfl (by kernel_rfl) ?_
 simp [Tryz.ntmps221]
 refine cR (s_l4Time_ok a0.From) ?_
 simp
 refine cG (fun gg => (s_l4Time_ok a0.To)) ?_
 simp
 refine retRd (rv := [.tmp 2]) rfl ?_
 have f1 := s_IsSpan.eq_1 a0; simp [f1]
theorem s_CountAt_ok (a0 : List TSpan) (a1 : Int) : SoundAt Tryz.prog 235 false [[.sl 2 (a0.map TSpan.row)], [.int .i64 a1]] [[.int .i64 (s_CountAt a0 a1)]] := by
 refine sound_of Tryz.func235 rfl (by kernel_rfl) ?_
 simp [Tryz.ntmps235]
 refine okL fun k1 => ?_
 refine loopI (ι := { s : Nat × Int × Nat // s_CountAt_1 a0 a1 s.1 s.2.1 s.2.2 = s_CountAt_1 a0 a1 (a0.length + 1) 0 0 ∧ (1 ≤ s.1 ∧ a0.length < s.1 + s.2.2 ∧ s.2.2 ≤ a0.length) }) (fun s => stOf 39 [eL 0 2 a0 TSpan.row, eI 1 a1, eI 5 s.1.2.1, eI 6 (↑s.1.2.2 : Int)]) (fun s => s.1.1) ⟨((a0.length + 1), 0, 0), rfl, by first | omega | (dsimp only; omega) | simp⟩ (wk_keep (by simp)) ?_
 rintro ⟨⟨n1, v1_0, v1_1⟩, e1, j1⟩
 try dsimp only at e1 j1
 obtain ⟨p1, rfl⟩ : ∃ p, n1 = p + 1 := ⟨n1 - 1, by omega⟩
 simp
 refine cC (decide ((↑v1_1 : Int) < (↑a0.length : Int))) (fun k2 h1 => ?_) (fun k2 h1 => ?_)
 ·have q1 := h1; try simp at q1
  have i1 : v1_1 < a0.length := by simpa using h1
  have m2 : a0.length ≤ 9223372036854775807 := by simpa using k2 0 _ rfl
  have w1 : IntKind.i64.wrap ((v1_1 : Int) + 1) = (v1_1 : Int) + 1 := wrap_of (by omega) (by omega)
  simp [i1, rowAt_map]
  repeat with_reducible refine sd ?_
  refine cR (s_IsSpan_ok (nth a0 v1_1)) ?_
  simp
  refine guardI rfl rfl rfl rfl rfl (by simp) (fun g1 => ?_) (fun g1 => ?_)
  ·have g1x := g1; try simp only [beq_true, beq_false, Bool.not_eq_true', Bool.not_eq_false', Bool.true_and, Bool.and_true] at g1x
   try simp at g1
   simp [i1, rowAt_map, g1x]
   repeat with_reducible refine sdg ?_
   refine guardI rfl rfl rfl rfl rfl (by simp) (fun g2 => ?_) (fun g2 => ?_)
   ·have g2x := g2; try simp only [beq_true, beq_false, Bool.not_eq_true', Bool.not_eq_false', Bool.true_and, Bool.and_true] at g2x
    try (have z := g2; simp [g1x] at z; done)
    all_goals
     try simp at g2
     all_goals
      simp [i1, rowAt_map, g1x, g2x]
      repeat with_reducible refine sdg ?_
      refine condR (c := (((s_IsSpan (nth a0 v1_1)) && (decide ((nth a0 v1_1).From ≤ a1))) && (decide (a1 ≤ (nth a0 v1_1).To)))) (by first | (simp [g1x, g2x]; done) | grind) (fun k3 h2 => ?_) (fun k3 h2 => ?_)
      ·try (have z := h2; simp [g1x, g2x] at z; done)
       all_goals
        have q2 := h2; try simp at q2
        simp [g1x, g2x]
        repeat with_reducible refine sdg ?_
        refine nxtI ⟨(p1, (W (v1_0 + 1)), (v1_1 + 1)), ?_, ?_⟩ (by simp) (wk_keep (by simp [w1, g1x, g2x]))
        · rw [← e1]; simp only [s_CountAt_1, h1, h2, cond_t, cond_f]
        · first | omega | (simp at *; omega)
      ·try (have z := h2; simp [g1x, g2x] at z; done)
       all_goals
        have q2 := h2; try simp at q2
        simp [g1x, g2x]
        repeat with_reducible refine sdg ?_
        refine nxtI ⟨(p1, v1_0, (v1_1 + 1)), ?_, ?_⟩ (by simp) (wk_keep (by simp [w1, g1x, g2x]))
        · rw [← e1]; simp only [s_CountAt_1, h1, h2, cond_t, cond_f]
        · first | omega | (simp at *; omega)
   ·have g2x := g2; try simp only [beq_true, beq_false, Bool.not_eq_true', Bool.not_eq_false', Bool.true_and, Bool.and_true] at g2x
    try (have z := g2; simp [g1x] at z; done)
    all_goals
     simp [g1x, g2x]
     repeat with_reducible refine sdg ?_
     refine condR (c := (((s_IsSpan (nth a0 v1_1)) && (decide ((nth a0 v1_1).From ≤ a1))) && (decide (a1 ≤ (nth a0 v1_1).To)))) (by first | (simp [g1x, g2x]; done) | grind) (fun k4 h3 => ?_) (fun k4 h3 => ?_)
     ·try (have z := h3; simp [g1x, g2x] at z; done)
      all_goals
       have q3 := h3; try simp at q3
       simp [g1x, g2x]
       repeat with_reducible refine sdg ?_
       refine nxtI ⟨(p1, (W (v1_0 + 1)), (v1_1 + 1)), ?_, ?_⟩ (by simp) (wk_keep (by simp [w1, g1x, g2x]))
       · rw [← e1]; simp only [s_CountAt_1, h1, h3, cond_t, cond_f]
       · first | omega | (simp at *; omega)
     ·try (have z := h3; simp [g1x, g2x] at z; done)
      all_goals
       have q3 := h3; try simp at q3
       simp [g1x, g2x]
       repeat with_reducible refine sdg ?_
       refine nxtI ⟨(p1, v1_0, (v1_1 + 1)), ?_, ?_⟩ (by simp) (wk_keep (by simp [w1, g1x, g2x]))
       · rw [← e1]; simp only [s_CountAt_1, h1, h3, cond_t, cond_f]
       · first | omega | (simp at *; omega)
  ·have g1x := g1; try simp only [beq_true, beq_false, Bool.not_eq_true', Bool.not_eq_false', Bool.true_and, Bool.and_true] at g1x
   simp [g1x]
   repeat with_reducible refine sdg ?_
   refine guardI rfl rfl rfl rfl rfl (by simp) (fun g3 => ?_) (fun g3 => ?_)
   ·have g3x := g3; try simp only [beq_true, beq_false, Bool.not_eq_true', Bool.not_eq_false', Bool.true_and, Bool.and_true] at g3x
    try (have z := g3; simp [g1x] at z; done)
    all_goals
     try simp at g3
     all_goals
      simp [i1, rowAt_map, g1x, g3x]
      repeat with_reducible refine sdg ?_
      refine condR (c := (((s_IsSpan (nth a0 v1_1)) && (decide ((nth a0 v1_1).From ≤ a1))) && (decide (a1 ≤ (nth a0 v1_1).To)))) (by first | (simp [g1x, g3x]; done) | grind) (fun k5 h4 => ?_) (fun k5 h4 => ?_)
      ·try (have z := h4; simp [g1x, g3x] at z; done)
       all_goals
        have q4 := h4; try simp at q4
        simp [g1x, g3x]
        repeat with_reducible refine sdg ?_
        refine nxtI ⟨(p1, (W (v1_0 + 1)), (v1_1 + 1)), ?_, ?_⟩ (by simp) (wk_keep (by simp [w1, g1x, g3x]))
        · rw [← e1]; simp only [s_CountAt_1, h1, h4, cond_t, cond_f]
        · first | omega | (simp at *; omega)
      ·try (have z := h4; simp [g1x, g3x] at z; done)
       all_goals
        have q4 := h4; try simp at q4
        simp [g1x, g3x]
        repeat with_reducible refine sdg ?_
        refine nxtI ⟨(p1, v1_0, (v1_1 + 1)), ?_, ?_⟩ (by simp) (wk_keep (by simp [w1, g1x, g3x]))
        · rw [← e1]; simp only [s_CountAt_1, h1, h4, cond_t, cond_f]
        · first | omega | (simp at *; omega)
   ·have g3x := g3; try simp only [beq_true, beq_false, Bool.not_eq_true', Bool.not_eq_false', Bool.true_and, Bool.and_true] at g3x
    try (have z := g3; simp [g1x] at z; done)
    all_goals
     simp [g1x, g3x]
     repeat with_reducible refine sdg ?_
     refine condR (c := (((s_IsSpan (nth a0 v1_1)) && (decide ((nth a0 v1_1).From ≤ a1))) && (decide (a1 ≤ (nth a0 v1_1).To)))) (by first | (simp [g1x, g3x]; done) | grind) (fun k6 h5 => ?_) (fun k6 h5 => ?_)
     ·try (have z := h5; simp [g1x, g3x] at z; done)
      all_goals
       have q5 := h5; try simp at q5
       simp [g1x, g3x]
       repeat with_reducible refine sdg ?_
       refine nxtI ⟨(p1, (W (v1_0 + 1)), (v1_1 + 1)), ?_, ?_⟩ (by simp) (wk_keep (by simp [w1, g1x, g3x]))
       · rw [← e1]; simp only [s_CountAt_1, h1, h5, cond_t, cond_f]
       · first | omega | (simp at *; omega)
     ·try (have z := h5; simp [g1x, g3x] at z; done)
      all_goals
       have q5 := h5; try simp at q5
       simp [g1x, g3x]
       repeat with_reducible refine sdg ?_
       refine nxtI ⟨(p1, v1_0, (v1_1 + 1)), ?_, ?_⟩ (by simp) (wk_keep (by simp [w1, g1x, g3x]))
       · rw [← e1]; simp only [s_CountAt_1, h1, h5, cond_t, cond_f]
       · first | omega | (simp at *; omega)
 ·have q1 := h1; try simp at q1
  have x1 : s_CountAt_1 a0 a1 (a0.length + 1) 0 0 = v1_0 := by rw [← e1]; simp only [s_CountAt_1, h1, cond_t, cond_f]
  simp
  refine retRd (rv := [.tmp 4]) rfl ?_
  have f1 := s_CountAt.eq_1 a0 a1; simp only [x1, cond_t, cond_f] at f1; simp [f1]
theorem s_IsSupported_ok (a0 : List TSpan) (a1 : Int) (a2 : Int) : SoundAt Tryz.prog 222 false [[.sl 2 (a0.map TSpan.row)], [.int .i64 a1], [.int .i64 a2]] [[.bool (s_IsSupported a0 a1 a2)]] := by
 refine sound_of Tryz.func222 rfl (by kernel_rfl) ?_
 simp [Tryz.ntmps222]
 refine cR (s_l1In_ok a2 0 (W ((↑a0.length : Int) - 1))) ?_
 simp
 refine cG (fun gg => (s_CountAt_ok a0 a1)) ?_
 simp
 refine retRd (rv := [.tmp 6]) rfl ?_
 have f1 := s_IsSupported.eq_1 a0 a1 a2; simp [f1]
theorem s_AgreedSpan_ok (a0 : List TSpan) (a1 : Int) (u0 : Sm 2322432 a0) : SoundAt Tryz.prog 199 false [[.sl 2 (a0.map TSpan.row)], [.int .i64 a1]] [(s_AgreedSpan a0 a1).1.row, [.bool (s_AgreedSpan a0 a1).2]] := by
 refine sound_of Tryz.func199 rfl (by kernel_rfl) ?_
 simp [Tryz.ntmps199]
 refine cR (s_l1In_ok a1 0 (W ((↑a0.length : Int) - 1))) ?_
 simp
 have c1 : a0.length ≤ 2322432 := sm_len (by simp (maxDischargeDepth := 12) [u0])
 have w1 : IntKind.i64.wrap ((a0.length : Int) - 1) = (a0.length : Int) - 1 := wrap_of (by omega) (by omega)
 refine cC (!(s_l1In a1 0 (W ((↑a0.length : Int) - 1)))) (fun k1 h1 => ?_) (fun k1 h1 => ?_)
 ·have q1 := h1; try simp [s_l1In, w1] at q1
  simp
  refine retRd (rv := [.cell 4 182, .tmp 5]) rfl ?_
  have f1 := s_AgreedSpan.eq_1 a0 a1; simp only [h1, cond_t, cond_f] at f1; simp [f1]
 ·have q1 := h1; try simp [s_l1In, w1] at q1
  simp
  refine okL fun k2 => ?_
  refine loopI (ι := { s : Nat × Int × Int × Nat // s_AgreedSpan_1 a0 a1 s.1 s.2.1 s.2.2.1 s.2.2.2 = s_AgreedSpan_1 a0 a1 (a0.length + 1) (-1) (-1) 0 ∧ (1 ≤ s.1 ∧ a0.length < s.1 + s.2.2.2 ∧ s.2.2.2 ≤ a0.length) }) (fun s => stOf 83 [eL 0 2 a0 TSpan.row, eI 1 a1, (4, .one (.bptr 4 0), [.box [.d (.int .i64 0), .d (.int .i64 0)]]), eI 6 s.1.2.1, eI 7 s.1.2.2.1, eI 8 (↑s.1.2.2.2 : Int)]) (fun s => s.1.1) ⟨((a0.length + 1), (-1), (-1), 0), rfl, by first | omega | (dsimp only; omega) | simp⟩ (wk_keep (by simp)) ?_
  rintro ⟨⟨n1, v1_0, v1_1, v1_2⟩, e1, j1⟩
  try dsimp only at e1 j1
  obtain ⟨p1, rfl⟩ : ∃ p, n1 = p + 1 := ⟨n1 - 1, by omega⟩
  simp
  refine cC (decide ((↑v1_2 : Int) < (↑a0.length : Int))) (fun k3 h2 => ?_) (fun k3 h2 => ?_)
  ·have q2 := h2; try simp at q2
   have i1 : v1_2 < a0.length := by simpa using h2
   have m2 : a0.length ≤ 9223372036854775807 := by simpa using k3 0 _ rfl
   have w2 : IntKind.i64.wrap ((v1_2 : Int) + 1) = (v1_2 : Int) + 1 := wrap_of (by omega) (by omega)
   simp [i1, rowAt_map]
   repeat with_reducible refine sd ?_
   refine cR (s_IsSpan_ok (nth a0 v1_2)) ?_
   simp
   refine guardI rfl rfl rfl rfl rfl (by simp) (fun g1 => ?_) (fun g1 => ?_)
   ·have g1x := g1; try simp only [beq_true, beq_false, Bool.not_eq_true', Bool.not_eq_false', Bool.true_and, Bool.and_true] at g1x
    try simp at g1
    simp [i1, rowAt_map, g1x]
    repeat with_reducible refine sdg ?_
    refine callG rfl rfl rfl rfl rfl rfl (fun gg => (s_IsSupported_ok a0 (nth a0 v1_2).From a1)) (by first | (simp; done) | (simp [g1x]; done) | (simp [g1x]; omega) | (simp_all; done)) (by first | (simp; done) | (simp [g1x]; done) | (simp [g1x]; omega) | (simp_all; done)) (by first | (simp; done) | (simp [g1x]; done) | (simp [g1x]; omega) | (simp_all; done)) (by first | (simp; done) | (simp [g1x]; done) | (simp [g1x]; omega) | (simp_all; done)) ?_
    simp [g1x]
    repeat with_reducible refine sdg ?_
    refine guardI rfl rfl rfl rfl rfl (by simp) (fun g2 => ?_) (fun g2 => ?_)
    ·have g2x := g2; try simp only [beq_true, beq_false, Bool.not_eq_true', Bool.not_eq_false', Bool.true_and, Bool.and_true] at g2x
     try (have z := g2; simp [g1x] at z; done)
     all_goals
      try simp at g2
      all_goals
       simp [i1, rowAt_map, g1x, g2x]
       repeat with_reducible refine sdg ?_
       refine condR (c := (((s_IsSpan (nth a0 v1_2)) && (s_IsSupported a0 (nth a0 v1_2).From a1)) && ((decide (v1_0 < 0)) || (decide ((nth a0 v1_2).From < v1_0))))) (by first | (simp [g1x, g2x]; done) | grind) (fun k4 h3 => ?_) (fun k4 h3 => ?_)
       ·try (have z := h3; simp [g1x, g2x] at z; done)
        all_goals
         have q3 := h3; try simp at q3
         simp [i1, rowAt_map, g1x, g2x]
         repeat with_reducible refine sdg ?_
         refine cR (s_IsSpan_ok (nth a0 v1_2)) ?_
         simp [g1x, g2x]
         repeat with_reducible refine sdg ?_
         refine guardI rfl rfl rfl rfl rfl (by simp) (fun g3 => ?_) (fun g3 => ?_)
         ·have g3x := g3; try simp only [beq_true, beq_false, Bool.not_eq_true', Bool.not_eq_false', Bool.true_and, Bool.and_true] at g3x
          try (have z := g3; simp [g1x, g2x] at z; done)
          all_goals
           try simp at g3
           all_goals
            simp [i1, rowAt_map, g1x, g2x, g3x]
            repeat with_reducible refine sdg ?_
            refine callG rfl rfl rfl rfl rfl rfl (fun gg => (s_IsSupported_ok a0 (nth a0 v1_2).To a1)) (by first | (simp; done) | (simp [g1x, g2x, g3x]; done) | (simp [g1x, g2x, g3x]; omega) | (simp_all; done)) (by first | (simp; done) | (simp [g1x, g2x, g3x]; done) | (simp [g1x, g2x, g3x]; omega) | (simp_all; done)) (by first | (simp; done) | (simp [g1x, g2x, g3x]; done) | (simp [g1x, g2x, g3x]; omega) | (simp_all; done)) (by first | (simp; done) | (simp [g1x, g2x, g3x]; done) | (simp [g1x, g2x, g3x]; omega) | (simp_all; done)) ?_
            simp [g1x, g2x, g3x]
            repeat with_reducible refine sdg ?_
            refine condR (c := ((s_IsSpan (nth a0 v1_2)) && (s_IsSupported a0 (nth a0 v1_2).To a1))) (by first | (simp [g1x, g2x, g3x]; done) | grind) (fun k5 h4 => ?_) (fun k5 h4 => ?_)
            ·try (have z := h4; simp [g1x, g2x, g3x] at z; done)
             all_goals
              have q4 := h4; try simp at q4
              simp [i1, rowAt_map, g1x, g2x, g3x]
              repeat with_reducible refine sdg ?_
              refine cR (s_Max_ok v1_1 (nth a0 v1_2).To) ?_
              simp [g1x, g2x, g3x]
              repeat with_reducible refine sdg ?_
              refine nxtI ⟨(p1, (nth a0 v1_2).From, (s_Max v1_1 (nth a0 v1_2).To), (v1_2 + 1)), ?_, ?_⟩ (by simp) (wk_keep (by simp [w1, w2, g1x, g2x, g3x]))
              · rw [← e1]; simp only [s_AgreedSpan_1, h2, h3, h4, cond_t, cond_f]
              · first | omega | (simp at *; omega)
            ·try (have z := h4; simp [g1x, g2x, g3x] at z; done)
             all_goals
              have q4 := h4; try simp at q4
              simp [g1x, g2x, g3x]
              repeat with_reducible refine sdg ?_
              refine nxtI ⟨(p1, (nth a0 v1_2).From, v1_1, (v1_2 + 1)), ?_, ?_⟩ (by simp) (wk_keep (by simp [w1, w2, g1x, g2x, g3x]))
              · rw [← e1]; simp only [s_AgreedSpan_1, h2, h3, h4, cond_t, cond_f]
              · first | omega | (simp at *; omega)
         ·have g3x := g3; try simp only [beq_true, beq_false, Bool.not_eq_true', Bool.not_eq_false', Bool.true_and, Bool.and_true] at g3x
          try (have z := g3; simp [g1x, g2x] at z; done)
          all_goals
           simp [g1x, g2x, g3x]
           repeat with_reducible refine sdg ?_
           refine skipG rfl rfl rfl rfl (by simp) (by simp [g1x, g2x, g3x]) ?_
           simp [g1x, g2x, g3x]
           repeat with_reducible refine sdg ?_
           refine condR (c := ((s_IsSpan (nth a0 v1_2)) && (s_IsSupported a0 (nth a0 v1_2).To a1))) (by first | (simp [g1x, g2x, g3x]; done) | grind) (fun k6 h5 => ?_) (fun k6 h5 => ?_)
           ·try (have z := h5; simp [g1x, g2x, g3x] at z; done)
            all_goals
             have q5 := h5; try simp at q5
             simp [i1, rowAt_map, g1x, g2x, g3x]
             repeat with_reducible refine sdg ?_
             refine cR (s_Max_ok v1_1 (nth a0 v1_2).To) ?_
             simp [g1x, g2x, g3x]
             repeat with_reducible refine sdg ?_
             refine nxtI ⟨(p1, (nth a0 v1_2).From, (s_Max v1_1 (nth a0 v1_2).To), (v1_2 + 1)), ?_, ?_⟩ (by simp) (wk_keep (by simp [w1, w2, g1x, g2x, g3x]))
             · rw [← e1]; simp only [s_AgreedSpan_1, h2, h3, h5, cond_t, cond_f]
             · first | omega | (simp at *; omega)
           ·try (have z := h5; simp [g1x, g2x, g3x] at z; done)
            all_goals
             have q5 := h5; try simp at q5
             simp [g1x, g2x, g3x]
             repeat with_reducible refine sdg ?_
             refine nxtI ⟨(p1, (nth a0 v1_2).From, v1_1, (v1_2 + 1)), ?_, ?_⟩ (by simp) (wk_keep (by simp [w1, w2, g1x, g2x, g3x]))
             · rw [← e1]; simp only [s_AgreedSpan_1, h2, h3, h5, cond_t, cond_f]
             · first | omega | (simp at *; omega)
       ·try (have z := h3; simp [g1x, g2x] at z; done)
        all_goals
         have q3 := h3; try simp at q3
         simp [i1, rowAt_map, g1x, g2x]
         repeat with_reducible refine sdg ?_
         refine cR (s_IsSpan_ok (nth a0 v1_2)) ?_
         simp [g1x, g2x]
         repeat with_reducible refine sdg ?_
         refine guardI rfl rfl rfl rfl rfl (by simp) (fun g4 => ?_) (fun g4 => ?_)
         ·have g4x := g4; try simp only [beq_true, beq_false, Bool.not_eq_true', Bool.not_eq_false', Bool.true_and, Bool.and_true] at g4x
          try (have z := g4; simp [g1x, g2x] at z; done)
          all_goals
           try simp at g4
           all_goals
            simp [i1, rowAt_map, g1x, g2x, g4x]
            repeat with_reducible refine sdg ?_
            refine callG rfl rfl rfl rfl rfl rfl (fun gg => (s_IsSupported_ok a0 (nth a0 v1_2).To a1)) (by first | (simp; done) | (simp [g1x, g2x, g4x]; done) | (simp [g1x, g2x, g4x]; omega) | (simp_all; done)) (by first | (simp; done) | (simp [g1x, g2x, g4x]; done) | (simp [g1x, g2x, g4x]; omega) | (simp_all; done)) (by first | (simp; done) | (simp [g1x, g2x, g4x]; done) | (simp [g1x, g2x, g4x]; omega) | (simp_all; done)) (by first | (simp; done) | (simp [g1x, g2x, g4x]; done) | (simp [g1x, g2x, g4x]; omega) | (simp_all; done)) ?_
            simp [g1x, g2x, g4x]
            repeat with_reducible refine sdg ?_
            refine condR (c := ((s_IsSpan (nth a0 v1_2)) && (s_IsSupported a0 (nth a0 v1_2).To a1))) (by first | (simp [g1x, g2x, g4x]; done) | grind) (fun k7 h6 => ?_) (fun k7 h6 => ?_)
            ·try (have z := h6; simp [g1x, g2x, g4x] at z; done)
             all_goals
              have q6 := h6; try simp at q6
              simp [i1, rowAt_map, g1x, g2x, g4x]
              repeat with_reducible refine sdg ?_
              refine cR (s_Max_ok v1_1 (nth a0 v1_2).To) ?_
              simp [g1x, g2x, g4x]
              repeat with_reducible refine sdg ?_
              refine nxtI ⟨(p1, v1_0, (s_Max v1_1 (nth a0 v1_2).To), (v1_2 + 1)), ?_, ?_⟩ (by simp) (wk_keep (by simp [w1, w2, g1x, g2x, g4x]))
              · rw [← e1]; simp only [s_AgreedSpan_1, h2, h3, h6, cond_t, cond_f]
              · first | omega | (simp at *; omega)
            ·try (have z := h6; simp [g1x, g2x, g4x] at z; done)
             all_goals
              have q6 := h6; try simp at q6
              simp [g1x, g2x, g4x]
              repeat with_reducible refine sdg ?_
              refine nxtI ⟨(p1, v1_0, v1_1, (v1_2 + 1)), ?_, ?_⟩ (by simp) (wk_keep (by simp [w1, w2, g1x, g2x, g4x]))
              · rw [← e1]; simp only [s_AgreedSpan_1, h2, h3, h6, cond_t, cond_f]
              · first | omega | (simp at *; omega)
         ·have g4x := g4; try simp only [beq_true, beq_false, Bool.not_eq_true', Bool.not_eq_false', Bool.true_and, Bool.and_true] at g4x
          try (have z := g4; simp [g1x, g2x] at z; done)
          all_goals
           simp [g1x, g2x, g4x]
           repeat with_reducible refine sdg ?_
           refine skipG rfl rfl rfl rfl (by simp) (by simp [g1x, g2x, g4x]) ?_
           simp [g1x, g2x, g4x]
           repeat with_reducible refine sdg ?_
           refine condR (c := ((s_IsSpan (nth a0 v1_2)) && (s_IsSupported a0 (nth a0 v1_2).To a1))) (by first | (simp [g1x, g2x, g4x]; done) | grind) (fun k8 h7 => ?_) (fun k8 h7 => ?_)
           ·try (have z := h7; simp [g1x, g2x, g4x] at z; done)
            all_goals
             have q7 := h7; try simp at q7
             simp [i1, rowAt_map, g1x, g2x, g4x]
             repeat with_reducible refine sdg ?_
             refine cR (s_Max_ok v1_1 (nth a0 v1_2).To) ?_
             simp [g1x, g2x, g4x]
             repeat with_reducible refine sdg ?_
             refine nxtI ⟨(p1, v1_0, (s_Max v1_1 (nth a0 v1_2).To), (v1_2 + 1)), ?_, ?_⟩ (by simp) (wk_keep (by simp [w1, w2, g1x, g2x, g4x]))
             · rw [← e1]; simp only [s_AgreedSpan_1, h2, h3, h7, cond_t, cond_f]
             · first | omega | (simp at *; omega)
           ·try (have z := h7; simp [g1x, g2x, g4x] at z; done)
            all_goals
             have q7 := h7; try simp at q7
             simp [g1x, g2x, g4x]
             repeat with_reducible refine sdg ?_
             refine nxtI ⟨(p1, v1_0, v1_1, (v1_2 + 1)), ?_, ?_⟩ (by simp) (wk_keep (by simp [w1, w2, g1x, g2x, g4x]))
             · rw [← e1]; simp only [s_AgreedSpan_1, h2, h3, h7, cond_t, cond_f]
             · first | omega | (simp at *; omega)
    ·have g2x := g2; try simp only [beq_true, beq_false, Bool.not_eq_true', Bool.not_eq_false', Bool.true_and, Bool.and_true] at g2x
     try (have z := g2; simp [g1x] at z; done)
     all_goals
      simp [g1x, g2x]
      repeat with_reducible refine sdg ?_
      refine condR (c := (((s_IsSpan (nth a0 v1_2)) && (s_IsSupported a0 (nth a0 v1_2).From a1)) && ((decide (v1_0 < 0)) || (decide ((nth a0 v1_2).From < v1_0))))) (by first | (simp [g1x, g2x]; done) | grind) (fun k9 h8 => ?_) (fun k9 h8 => ?_)
      ·try (have z := h8; simp [g1x, g2x] at z; done)
       all_goals
        have q8 := h8; try simp at q8
        simp [i1, rowAt_map, g1x, g2x]
        repeat with_reducible refine sdg ?_
        refine cR (s_IsSpan_ok (nth a0 v1_2)) ?_
        simp [g1x, g2x]
        repeat with_reducible refine sdg ?_
        refine guardI rfl rfl rfl rfl rfl (by simp) (fun g5 => ?_) (fun g5 => ?_)
        ·have g5x := g5; try simp only [beq_true, beq_false, Bool.not_eq_true', Bool.not_eq_false', Bool.true_and, Bool.and_true] at g5x
         try (have z := g5; simp [g1x, g2x] at z; done)
         all_goals
          try simp at g5
          all_goals
           simp [i1, rowAt_map, g1x, g2x, g5x]
           repeat with_reducible refine sdg ?_
           refine callG rfl rfl rfl rfl rfl rfl (fun gg => (s_IsSupported_ok a0 (nth a0 v1_2).To a1)) (by first | (simp; done) | (simp [g1x, g2x, g5x]; done) | (simp [g1x, g2x, g5x]; omega) | (simp_all; done)) (by first | (simp; done) | (simp [g1x, g2x, g5x]; done) | (simp [g1x, g2x, g5x]; omega) | (simp_all; done)) (by first | (simp; done) | (simp [g1x, g2x, g5x]; done) | (simp [g1x, g2x, g5x]; omega) | (simp_all; done)) (by first | (simp; done) | (simp [g1x, g2x, g5x]; done) | (simp [g1x, g2x, g5x]; omega) | (simp_all; done)) ?_
           simp [g1x, g2x, g5x]
           repeat with_reducible refine sdg ?_
           refine condR (c := ((s_IsSpan (nth a0 v1_2)) && (s_IsSupported a0 (nth a0 v1_2).To a1))) (by first | (simp [g1x, g2x, g5x]; done) | grind) (fun k10 h9 => ?_) (fun k10 h9 => ?_)
           ·try (have z := h9; simp [g1x, g2x, g5x] at z; done)
            all_goals
             have q9 := h9; try simp at q9
             simp [i1, rowAt_map, g1x, g2x, g5x]
             repeat with_reducible refine sdg ?_
             refine cR (s_Max_ok v1_1 (nth a0 v1_2).To) ?_
             simp [g1x, g2x, g5x]
             repeat with_reducible refine sdg ?_
             refine nxtI ⟨(p1, (nth a0 v1_2).From, (s_Max v1_1 (nth a0 v1_2).To), (v1_2 + 1)), ?_, ?_⟩ (by simp) (wk_keep (by simp [w1, w2, g1x, g2x, g5x]))
             · rw [← e1]; simp only [s_AgreedSpan_1, h2, h8, h9, cond_t, cond_f]
             · first | omega | (simp at *; omega)
           ·try (have z := h9; simp [g1x, g2x, g5x] at z; done)
            all_goals
             have q9 := h9; try simp at q9
             simp [g1x, g2x, g5x]
             repeat with_reducible refine sdg ?_
             refine nxtI ⟨(p1, (nth a0 v1_2).From, v1_1, (v1_2 + 1)), ?_, ?_⟩ (by simp) (wk_keep (by simp [w1, w2, g1x, g2x, g5x]))
             · rw [← e1]; simp only [s_AgreedSpan_1, h2, h8, h9, cond_t, cond_f]
             · first | omega | (simp at *; omega)
        ·have g5x := g5; try simp only [beq_true, beq_false, Bool.not_eq_true', Bool.not_eq_false', Bool.true_and, Bool.and_true] at g5x
         try (have z := g5; simp [g1x, g2x] at z; done)
         all_goals
          simp [g1x, g2x, g5x]
          repeat with_reducible refine sdg ?_
          refine skipG rfl rfl rfl rfl (by simp) (by simp [g1x, g2x, g5x]) ?_
          simp [g1x, g2x, g5x]
          repeat with_reducible refine sdg ?_
          refine condR (c := ((s_IsSpan (nth a0 v1_2)) && (s_IsSupported a0 (nth a0 v1_2).To a1))) (by first | (simp [g1x, g2x, g5x]; done) | grind) (fun k11 h10 => ?_) (fun k11 h10 => ?_)
          ·try (have z := h10; simp [g1x, g2x, g5x] at z; done)
           all_goals
            have q10 := h10; try simp at q10
            simp [i1, rowAt_map, g1x, g2x, g5x]
            repeat with_reducible refine sdg ?_
            refine cR (s_Max_ok v1_1 (nth a0 v1_2).To) ?_
            simp [g1x, g2x, g5x]
            repeat with_reducible refine sdg ?_
            refine nxtI ⟨(p1, (nth a0 v1_2).From, (s_Max v1_1 (nth a0 v1_2).To), (v1_2 + 1)), ?_, ?_⟩ (by simp) (wk_keep (by simp [w1, w2, g1x, g2x, g5x]))
            · rw [← e1]; simp only [s_AgreedSpan_1, h2, h8, h10, cond_t, cond_f]
            · first | omega | (simp at *; omega)
          ·try (have z := h10; simp [g1x, g2x, g5x] at z; done)
           all_goals
            have q10 := h10; try simp at q10
            simp [g1x, g2x, g5x]
            repeat with_reducible refine sdg ?_
            refine nxtI ⟨(p1, (nth a0 v1_2).From, v1_1, (v1_2 + 1)), ?_, ?_⟩ (by simp) (wk_keep (by simp [w1, w2, g1x, g2x, g5x]))
            · rw [← e1]; simp only [s_AgreedSpan_1, h2, h8, h10, cond_t, cond_f]
            · first | omega | (simp at *; omega)
      ·try (have z := h8; simp [g1x, g2x] at z; done)
       all_goals
        have q8 := h8; try simp at q8
        simp [i1, rowAt_map, g1x, g2x]
        repeat with_reducible refine sdg ?_
        refine cR (s_IsSpan_ok (nth a0 v1_2)) ?_
        simp [g1x, g2x]
        repeat with_reducible refine sdg ?_
        refine guardI rfl rfl rfl rfl rfl (by simp) (fun g6 => ?_) (fun g6 => ?_)
        ·have g6x := g6; try simp only [beq_true, beq_false, Bool.not_eq_true', Bool.not_eq_false', Bool.true_and, Bool.and_true] at g6x
         try (have z := g6; simp [g1x, g2x] at z; done)
         all_goals
          try simp at g6
          all_goals
           simp [i1, rowAt_map, g1x, g2x, g6x]
           repeat with_reducible refine sdg ?_
           refine callG rfl rfl rfl rfl rfl rfl (fun gg => (s_IsSupported_ok a0 (nth a0 v1_2).To a1)) (by first | (simp; done) | (simp [g1x, g2x, g6x]; done) | (simp [g1x, g2x, g6x]; omega) | (simp_all; done)) (by first | (simp; done) | (simp [g1x, g2x, g6x]; done) | (simp [g1x, g2x, g6x]; omega) | (simp_all; done)) (by first | (simp; done) | (simp [g1x, g2x, g6x]; done) | (simp [g1x, g2x, g6x]; omega) | (simp_all; done)) (by first | (simp; done) | (simp [g1x, g2x, g6x]; done) | (simp [g1x, g2x, g6x]; omega) | (simp_all; done)) ?_
           simp [g1x, g2x, g6x]
           repeat with_reducible refine sdg ?_
           refine condR (c := ((s_IsSpan (nth a0 v1_2)) && (s_IsSupported a0 (nth a0 v1_2).To a1))) (by first | (simp [g1x, g2x, g6x]; done) | grind) (fun k12 h11 => ?_) (fun k12 h11 => ?_)
           ·try (have z := h11; simp [g1x, g2x, g6x] at z; done)
            all_goals
             have q11 := h11; try simp at q11
             simp [i1, rowAt_map, g1x, g2x, g6x]
             repeat with_reducible refine sdg ?_
             refine cR (s_Max_ok v1_1 (nth a0 v1_2).To) ?_
             simp [g1x, g2x, g6x]
             repeat with_reducible refine sdg ?_
             refine nxtI ⟨(p1, v1_0, (s_Max v1_1 (nth a0 v1_2).To), (v1_2 + 1)), ?_, ?_⟩ (by simp) (wk_keep (by simp [w1, w2, g1x, g2x, g6x]))
             · rw [← e1]; simp only [s_AgreedSpan_1, h2, h8, h11, cond_t, cond_f]
             · first | omega | (simp at *; omega)
           ·try (have z := h11; simp [g1x, g2x, g6x] at z; done)
            all_goals
             have q11 := h11; try simp at q11
             simp [g1x, g2x, g6x]
             repeat with_reducible refine sdg ?_
             refine nxtI ⟨(p1, v1_0, v1_1, (v1_2 + 1)), ?_, ?_⟩ (by simp) (wk_keep (by simp [w1, w2, g1x, g2x, g6x]))
             · rw [← e1]; simp only [s_AgreedSpan_1, h2, h8, h11, cond_t, cond_f]
             · first | omega | (simp at *; omega)
        ·have g6x := g6; try simp only [beq_true, beq_false, Bool.not_eq_true', Bool.not_eq_false', Bool.true_and, Bool.and_true] at g6x
         try (have z := g6; simp [g1x, g2x] at z; done)
         all_goals
          simp [g1x, g2x, g6x]
          repeat with_reducible refine sdg ?_
          refine skipG rfl rfl rfl rfl (by simp) (by simp [g1x, g2x, g6x]) ?_
          simp [g1x, g2x, g6x]
          repeat with_reducible refine sdg ?_
          refine condR (c := ((s_IsSpan (nth a0 v1_2)) && (s_IsSupported a0 (nth a0 v1_2).To a1))) (by first | (simp [g1x, g2x, g6x]; done) | grind) (fun k13 h12 => ?_) (fun k13 h12 => ?_)
          ·try (have z := h12; simp [g1x, g2x, g6x] at z; done)
           all_goals
            have q12 := h12; try simp at q12
            simp [i1, rowAt_map, g1x, g2x, g6x]
            repeat with_reducible refine sdg ?_
            refine cR (s_Max_ok v1_1 (nth a0 v1_2).To) ?_
            simp [g1x, g2x, g6x]
            repeat with_reducible refine sdg ?_
            refine nxtI ⟨(p1, v1_0, (s_Max v1_1 (nth a0 v1_2).To), (v1_2 + 1)), ?_, ?_⟩ (by simp) (wk_keep (by simp [w1, w2, g1x, g2x, g6x]))
            · rw [← e1]; simp only [s_AgreedSpan_1, h2, h8, h12, cond_t, cond_f]
            · first | omega | (simp at *; omega)
          ·try (have z := h12; simp [g1x, g2x, g6x] at z; done)
           all_goals
            have q12 := h12; try simp at q12
            simp [g1x, g2x, g6x]
            repeat with_reducible refine sdg ?_
            refine nxtI ⟨(p1, v1_0, v1_1, (v1_2 + 1)), ?_, ?_⟩ (by simp) (wk_keep (by simp [w1, w2, g1x, g2x, g6x]))
            · rw [← e1]; simp only [s_AgreedSpan_1, h2, h8, h12, cond_t, cond_f]
            · first | omega | (simp at *; omega)
   ·have g1x := g1; try simp only [beq_true, beq_false, Bool.not_eq_true', Bool.not_eq_false', Bool.true_and, Bool.and_true] at g1x
    simp [g1x]
    repeat with_reducible refine sdg ?_
    refine skipG rfl rfl rfl rfl (by simp) (by simp [g1x]) ?_
    simp [g1x]
    repeat with_reducible refine sdg ?_
    refine guardI rfl rfl rfl rfl rfl (by simp) (fun g7 => ?_) (fun g7 => ?_)
    ·have g7x := g7; try simp only [beq_true, beq_false, Bool.not_eq_true', Bool.not_eq_false', Bool.true_and, Bool.and_true] at g7x
     try (have z := g7; simp [g1x] at z; done)
     all_goals
      try simp at g7
      all_goals
       simp [i1, rowAt_map, g1x, g7x]
       repeat with_reducible refine sdg ?_
       refine condR (c := (((s_IsSpan (nth a0 v1_2)) && (s_IsSupported a0 (nth a0 v1_2).From a1)) && ((decide (v1_0 < 0)) || (decide ((nth a0 v1_2).From < v1_0))))) (by first | (simp [g1x, g7x]; done) | grind) (fun k14 h13 => ?_) (fun k14 h13 => ?_)
       ·try (have z := h13; simp [g1x, g7x] at z; done)
        all_goals
         have q13 := h13; try simp at q13
         simp [i1, rowAt_map, g1x, g7x]
         repeat with_reducible refine sdg ?_
         refine cR (s_IsSpan_ok (nth a0 v1_2)) ?_
         simp [g1x, g7x]
         repeat with_reducible refine sdg ?_
         refine guardI rfl rfl rfl rfl rfl (by simp) (fun g8 => ?_) (fun g8 => ?_)
         ·have g8x := g8; try simp only [beq_true, beq_false, Bool.not_eq_true', Bool.not_eq_false', Bool.true_and, Bool.and_true] at g8x
          try (have z := g8; simp [g1x, g7x] at z; done)
          all_goals
           try simp at g8
           all_goals
            simp [i1, rowAt_map, g1x, g7x, g8x]
            repeat with_reducible refine sdg ?_
            refine callG rfl rfl rfl rfl rfl rfl (fun gg => (s_IsSupported_ok a0 (nth a0 v1_2).To a1)) (by first | (simp; done) | (simp [g1x, g7x, g8x]; done) | (simp [g1x, g7x, g8x]; omega) | (simp_all; done)) (by first | (simp; done) | (simp [g1x, g7x, g8x]; done) | (simp [g1x, g7x, g8x]; omega) | (simp_all; done)) (by first | (simp; done) | (simp [g1x, g7x, g8x]; done) | (simp [g1x, g7x, g8x]; omega) | (simp_all; done)) (by first | (simp; done) | (simp [g1x, g7x, g8x]; done) | (simp [g1x, g7x, g8x]; omega) | (simp_all; done)) ?_
            simp [g1x, g7x, g8x]
            repeat with_reducible refine sdg ?_
            refine condR (c := ((s_IsSpan (nth a0 v1_2)) && (s_IsSupported a0 (nth a0 v1_2).To a1))) (by first | (simp [g1x, g7x, g8x]; done) | grind) (fun k15 h14 => ?_) (fun k15 h14 => ?_)
            ·try (have z := h14; simp [g1x, g7x, g8x] at z; done)
             all_goals
              have q14 := h14; try simp at q14
              simp [i1, rowAt_map, g1x, g7x, g8x]
              repeat with_reducible refine sdg ?_
              refine cR (s_Max_ok v1_1 (nth a0 v1_2).To) ?_
              simp [g1x, g7x, g8x]
              repeat with_reducible refine sdg ?_
              refine nxtI ⟨(p1, (nth a0 v1_2).From, (s_Max v1_1 (nth a0 v1_2).To), (v1_2 + 1)), ?_, ?_⟩ (by simp) (wk_keep (by simp [w1, w2, g1x, g7x, g8x]))
              · rw [← e1]; simp only [s_AgreedSpan_1, h2, h13, h14, cond_t, cond_f]
              · first | omega | (simp at *; omega)
            ·try (have z := h14; simp [g1x, g7x, g8x] at z; done)
             all_goals
              have q14 := h14; try simp at q14
              simp [g1x, g7x, g8x]
              repeat with_reducible refine sdg ?_
              refine nxtI ⟨(p1, (nth a0 v1_2).From, v1_1, (v1_2 + 1)), ?_, ?_⟩ (by simp) (wk_keep (by simp [w1, w2, g1x, g7x, g8x]))
              · rw [← e1]; simp only [s_AgreedSpan_1, h2, h13, h14, cond_t, cond_f]
              · first | omega | (simp at *; omega)
         ·have g8x := g8; try simp only [beq_true, beq_false, Bool.not_eq_true', Bool.not_eq_false', Bool.true_and, Bool.and_true] at g8x
          try (have z := g8; simp [g1x, g7x] at z; done)
          all_goals
           simp [g1x, g7x, g8x]
           repeat with_reducible refine sdg ?_
           refine skipG rfl rfl rfl rfl (by simp) (by simp [g1x, g7x, g8x]) ?_
           simp [g1x, g7x, g8x]
           repeat with_reducible refine sdg ?_
           refine condR (c := ((s_IsSpan (nth a0 v1_2)) && (s_IsSupported a0 (nth a0 v1_2).To a1))) (by first | (simp [g1x, g7x, g8x]; done) | grind) (fun k16 h15 => ?_) (fun k16 h15 => ?_)
           ·try (have z := h15; simp [g1x, g7x, g8x] at z; done)
            all_goals
             have q15 := h15; try simp at q15
             simp [i1, rowAt_map, g1x, g7x, g8x]
             repeat with_reducible refine sdg ?_
             refine cR (s_Max_ok v1_1 (nth a0 v1_2).To) ?_
             simp [g1x, g7x, g8x]
             repeat with_reducible refine sdg ?_
             refine nxtI ⟨(p1, (nth a0 v1_2).From, (s_Max v1_1 (nth a0 v1_2).To), (v1_2 + 1)), ?_, ?_⟩ (by simp) (wk_keep (by simp [w1, w2, g1x, g7x, g8x]))
             · rw [← e1]; simp only [s_AgreedSpan_1, h2, h13, h15, cond_t, cond_f]
             · first | omega | (simp at *; omega)
           ·try (have z := h15; simp [g1x, g7x, g8x] at z; done)
            all_goals
             have q15 := h15; try simp at q15
             simp [g1x, g7x, g8x]
             repeat with_reducible refine sdg ?_
             refine nxtI ⟨(p1, (nth a0 v1_2).From, v1_1, (v1_2 + 1)), ?_, ?_⟩ (by simp) (wk_keep (by simp [w1, w2, g1x, g7x, g8x]))
             · rw [← e1]; simp only [s_AgreedSpan_1, h2, h13, h15, cond_t, cond_f]
             · first | omega | (simp at *; omega)
       ·try (have z := h13; simp [g1x, g7x] at z; done)
        all_goals
         have q13 := h13; try simp at q13
         simp [i1, rowAt_map, g1x, g7x]
         repeat with_reducible refine sdg ?_
         refine cR (s_IsSpan_ok (nth a0 v1_2)) ?_
         simp [g1x, g7x]
         repeat with_reducible refine sdg ?_
         refine guardI rfl rfl rfl rfl rfl (by simp) (fun g9 => ?_) (fun g9 => ?_)
         ·have g9x := g9; try simp only [beq_true, beq_false, Bool.not_eq_true', Bool.not_eq_false', Bool.true_and, Bool.and_true] at g9x
          try (have z := g9; simp [g1x, g7x] at z; done)
          all_goals
           try simp at g9
           all_goals
            simp [i1, rowAt_map, g1x, g7x, g9x]
            repeat with_reducible refine sdg ?_
            refine callG rfl rfl rfl rfl rfl rfl (fun gg => (s_IsSupported_ok a0 (nth a0 v1_2).To a1)) (by first | (simp; done) | (simp [g1x, g7x, g9x]; done) | (simp [g1x, g7x, g9x]; omega) | (simp_all; done)) (by first | (simp; done) | (simp [g1x, g7x, g9x]; done) | (simp [g1x, g7x, g9x]; omega) | (simp_all; done)) (by first | (simp; done) | (simp [g1x, g7x, g9x]; done) | (simp [g1x, g7x, g9x]; omega) | (simp_all; done)) (by first | (simp; done) | (simp [g1x, g7x, g9x]; done) | (simp [g1x, g7x, g9x]; omega) | (simp_all; done)) ?_
            simp [g1x, g7x, g9x]
            repeat with_reducible refine sdg ?_
            refine condR (c := ((s_IsSpan (nth a0 v1_2)) && (s_IsSupported a0 (nth a0 v1_2).To a1))) (by first | (simp [g1x, g7x, g9x]; done) | grind) (fun k17 h16 => ?_) (fun k17 h16 => ?_)
            ·try (have z := h16; simp [g1x, g7x, g9x] at z; done)
             all_goals
              have q16 := h16; try simp at q16
              simp [i1, rowAt_map, g1x, g7x, g9x]
              repeat with_reducible refine sdg ?_
              refine cR (s_Max_ok v1_1 (nth a0 v1_2).To) ?_
              simp [g1x, g7x, g9x]
              repeat with_reducible refine sdg ?_
              refine nxtI ⟨(p1, v1_0, (s_Max v1_1 (nth a0 v1_2).To), (v1_2 + 1)), ?_, ?_⟩ (by simp) (wk_keep (by simp [w1, w2, g1x, g7x, g9x]))
              · rw [← e1]; simp only [s_AgreedSpan_1, h2, h13, h16, cond_t, cond_f]
              · first | omega | (simp at *; omega)
            ·try (have z := h16; simp [g1x, g7x, g9x] at z; done)
             all_goals
              have q16 := h16; try simp at q16
              simp [g1x, g7x, g9x]
              repeat with_reducible refine sdg ?_
              refine nxtI ⟨(p1, v1_0, v1_1, (v1_2 + 1)), ?_, ?_⟩ (by simp) (wk_keep (by simp [w1, w2, g1x, g7x, g9x]))
              · rw [← e1]; simp only [s_AgreedSpan_1, h2, h13, h16, cond_t, cond_f]
              · first | omega | (simp at *; omega)
         ·have g9x := g9; try simp only [beq_true, beq_false, Bool.not_eq_true', Bool.not_eq_false', Bool.true_and, Bool.and_true] at g9x
          try (have z := g9; simp [g1x, g7x] at z; done)
          all_goals
           simp [g1x, g7x, g9x]
           repeat with_reducible refine sdg ?_
           refine skipG rfl rfl rfl rfl (by simp) (by simp [g1x, g7x, g9x]) ?_
           simp [g1x, g7x, g9x]
           repeat with_reducible refine sdg ?_
           refine condR (c := ((s_IsSpan (nth a0 v1_2)) && (s_IsSupported a0 (nth a0 v1_2).To a1))) (by first | (simp [g1x, g7x, g9x]; done) | grind) (fun k18 h17 => ?_) (fun k18 h17 => ?_)
           ·try (have z := h17; simp [g1x, g7x, g9x] at z; done)
            all_goals
             have q17 := h17; try simp at q17
             simp [i1, rowAt_map, g1x, g7x, g9x]
             repeat with_reducible refine sdg ?_
             refine cR (s_Max_ok v1_1 (nth a0 v1_2).To) ?_
             simp [g1x, g7x, g9x]
             repeat with_reducible refine sdg ?_
             refine nxtI ⟨(p1, v1_0, (s_Max v1_1 (nth a0 v1_2).To), (v1_2 + 1)), ?_, ?_⟩ (by simp) (wk_keep (by simp [w1, w2, g1x, g7x, g9x]))
             · rw [← e1]; simp only [s_AgreedSpan_1, h2, h13, h17, cond_t, cond_f]
             · first | omega | (simp at *; omega)
           ·try (have z := h17; simp [g1x, g7x, g9x] at z; done)
            all_goals
             have q17 := h17; try simp at q17
             simp [g1x, g7x, g9x]
             repeat with_reducible refine sdg ?_
             refine nxtI ⟨(p1, v1_0, v1_1, (v1_2 + 1)), ?_, ?_⟩ (by simp) (wk_keep (by simp [w1, w2, g1x, g7x, g9x]))
             · rw [← e1]; simp only [s_AgreedSpan_1, h2, h13, h17, cond_t, cond_f]
             · first | omega | (simp at *; omega)
    ·have g7x := g7; try simp only [beq_true, beq_false, Bool.not_eq_true', Bool.not_eq_false', Bool.true_and, Bool.and_true] at g7x
     try (have z := g7; simp [g1x] at z; done)
     all_goals
      simp [g1x, g7x]
      repeat with_reducible refine sdg ?_
      refine condR (c := (((s_IsSpan (nth a0 v1_2)) && (s_IsSupported a0 (nth a0 v1_2).From a1)) && ((decide (v1_0 < 0)) || (decide ((nth a0 v1_2).From < v1_0))))) (by first | (simp [g1x, g7x]; done) | grind) (fun k19 h18 => ?_) (fun k19 h18 => ?_)
      ·try (have z := h18; simp [g1x, g7x] at z; done)
       all_goals
        have q18 := h18; try simp at q18
        simp [i1, rowAt_map, g1x, g7x]
        repeat with_reducible refine sdg ?_
        refine cR (s_IsSpan_ok (nth a0 v1_2)) ?_
        simp [g1x, g7x]
        repeat with_reducible refine sdg ?_
        refine guardI rfl rfl rfl rfl rfl (by simp) (fun g10 => ?_) (fun g10 => ?_)
        ·have g10x := g10; try simp only [beq_true, beq_false, Bool.not_eq_true', Bool.not_eq_false', Bool.true_and, Bool.and_true] at g10x
         try (have z := g10; simp [g1x, g7x] at z; done)
         all_goals
          try simp at g10
          all_goals
           simp [i1, rowAt_map, g1x, g7x, g10x]
           repeat with_reducible refine sdg ?_
           refine callG rfl rfl rfl rfl rfl rfl (fun gg => (s_IsSupported_ok a0 (nth a0 v1_2).To a1)) (by first | (simp; done) | (simp [g1x, g7x, g10x]; done) | (simp [g1x, g7x, g10x]; omega) | (simp_all; done)) (by first | (simp; done) | (simp [g1x, g7x, g10x]; done) | (simp [g1x, g7x, g10x]; omega) | (simp_all; done)) (by first | (simp; done) | (simp [g1x, g7x, g10x]; done) | (simp [g1x, g7x, g10x]; omega) | (simp_all; done)) (by first | (simp; done) | (simp [g1x, g7x, g10x]; done) | (simp [g1x, g7x, g10x]; omega) | (simp_all; done)) ?_
           simp [g1x, g7x, g10x]
           repeat with_reducible refine sdg ?_
           refine condR (c := ((s_IsSpan (nth a0 v1_2)) && (s_IsSupported a0 (nth a0 v1_2).To a1))) (by first | (simp [g1x, g7x, g10x]; done) | grind) (fun k20 h19 => ?_) (fun k20 h19 => ?_)
           ·try (have z := h19; simp [g1x, g7x, g10x] at z; done)
            all_goals
             have q19 := h19; try simp at q19
             simp [i1, rowAt_map, g1x, g7x, g10x]
             repeat with_reducible refine sdg ?_
             refine cR (s_Max_ok v1_1 (nth a0 v1_2).To) ?_
             simp [g1x, g7x, g10x]
             repeat with_reducible refine sdg ?_
             refine nxtI ⟨(p1, (nth a0 v1_2).From, (s_Max v1_1 (nth a0 v1_2).To), (v1_2 + 1)), ?_, ?_⟩ (by simp) (wk_keep (by simp [w1, w2, g1x, g7x, g10x]))
             · rw [← e1]; simp only [s_AgreedSpan_1, h2, h18, h19, cond_t, cond_f]
             · first | omega | (simp at *; omega)
           ·try (have z := h19; simp [g1x, g7x, g10x] at z; done)
            all_goals
             have q19 := h19; try simp at q19
             simp [g1x, g7x, g10x]
             repeat with_reducible refine sdg ?_
             refine nxtI ⟨(p1, (nth a0 v1_2).From, v1_1, (v1_2 + 1)), ?_, ?_⟩ (by simp) (wk_keep (by simp [w1, w2, g1x, g7x, g10x]))
             · rw [← e1]; simp only [s_AgreedSpan_1, h2, h18, h19, cond_t, cond_f]
             · first | omega | (simp at *; omega)
        ·have g10x := g10; try simp only [beq_true, beq_false, Bool.not_eq_true', Bool.not_eq_false', Bool.true_and, Bool.and_true] at g10x
         try (have z := g10; simp [g1x, g7x] at z; done)
         all_goals
          simp [g1x, g7x, g10x]
          repeat with_reducible refine sdg ?_
          refine skipG rfl rfl rfl rfl (by simp) (by simp [g1x, g7x, g10x]) ?_
          simp [g1x, g7x, g10x]
          repeat with_reducible refine sdg ?_
          refine condR (c := ((s_IsSpan (nth a0 v1_2)) && (s_IsSupported a0 (nth a0 v1_2).To a1))) (by first | (simp [g1x, g7x, g10x]; done) | grind) (fun k21 h20 => ?_) (fun k21 h20 => ?_)
          ·try (have z := h20; simp [g1x, g7x, g10x] at z; done)
           all_goals
            have q20 := h20; try simp at q20
            simp [i1, rowAt_map, g1x, g7x, g10x]
            repeat with_reducible refine sdg ?_
            refine cR (s_Max_ok v1_1 (nth a0 v1_2).To) ?_
            simp [g1x, g7x, g10x]
            repeat with_reducible refine sdg ?_
            refine nxtI ⟨(p1, (nth a0 v1_2).From, (s_Max v1_1 (nth a0 v1_2).To), (v1_2 + 1)), ?_, ?_⟩ (by simp) (wk_keep (by simp [w1, w2, g1x, g7x, g10x]))
            · rw [← e1]; simp only [s_AgreedSpan_1, h2, h18, h20, cond_t, cond_f]
            · first | omega | (simp at *; omega)
          ·try (have z := h20; simp [g1x, g7x, g10x] at z; done)
           all_goals
            have q20 := h20; try simp at q20
            simp [g1x, g7x, g10x]
            repeat with_reducible refine sdg ?_
            refine nxtI ⟨(p1, (nth a0 v1_2).From, v1_1, (v1_2 + 1)), ?_, ?_⟩ (by simp) (wk_keep (by simp [w1, w2, g1x, g7x, g10x]))
            · rw [← e1]; simp only [s_AgreedSpan_1, h2, h18, h20, cond_t, cond_f]
            · first | omega | (simp at *; omega)
      ·try (have z := h18; simp [g1x, g7x] at z; done)
       all_goals
        have q18 := h18; try simp at q18
        simp [i1, rowAt_map, g1x, g7x]
        repeat with_reducible refine sdg ?_
        refine cR (s_IsSpan_ok (nth a0 v1_2)) ?_
        simp [g1x, g7x]
        repeat with_reducible refine sdg ?_
        refine guardI rfl rfl rfl rfl rfl (by simp) (fun g11 => ?_) (fun g11 => ?_)
        ·have g11x := g11; try simp only [beq_true, beq_false, Bool.not_eq_true', Bool.not_eq_false', Bool.true_and, Bool.and_true] at g11x
         try (have z := g11; simp [g1x, g7x] at z; done)
         all_goals
          try simp at g11
          all_goals
           simp [i1, rowAt_map, g1x, g7x, g11x]
           repeat with_reducible refine sdg ?_
           refine callG rfl rfl rfl rfl rfl rfl (fun gg => (s_IsSupported_ok a0 (nth a0 v1_2).To a1)) (by first | (simp; done) | (simp [g1x, g7x, g11x]; done) | (simp [g1x, g7x, g11x]; omega) | (simp_all; done)) (by first | (simp; done) | (simp [g1x, g7x, g11x]; done) | (simp [g1x, g7x, g11x]; omega) | (simp_all; done)) (by first | (simp; done) | (simp [g1x, g7x, g11x]; done) | (simp [g1x, g7x, g11x]; omega) | (simp_all; done)) (by first | (simp; done) | (simp [g1x, g7x, g11x]; done) | (simp [g1x, g7x, g11x]; omega) | (simp_all; done)) ?_
           simp [g1x, g7x, g11x]
           repeat with_reducible refine sdg ?_
           refine condR (c := ((s_IsSpan (nth a0 v1_2)) && (s_IsSupported a0 (nth a0 v1_2).To a1))) (by first | (simp [g1x, g7x, g11x]; done) | grind) (fun k22 h21 => ?_) (fun k22 h21 => ?_)
           ·try (have z := h21; simp [g1x, g7x, g11x] at z; done)
            all_goals
             have q21 := h21; try simp at q21
             simp [i1, rowAt_map, g1x, g7x, g11x]
             repeat with_reducible refine sdg ?_
             refine cR (s_Max_ok v1_1 (nth a0 v1_2).To) ?_
             simp [g1x, g7x, g11x]
             repeat with_reducible refine sdg ?_
             refine nxtI ⟨(p1, v1_0, (s_Max v1_1 (nth a0 v1_2).To), (v1_2 + 1)), ?_, ?_⟩ (by simp) (wk_keep (by simp [w1, w2, g1x, g7x, g11x]))
             · rw [← e1]; simp only [s_AgreedSpan_1, h2, h18, h21, cond_t, cond_f]
             · first | omega | (simp at *; omega)
           ·try (have z := h21; simp [g1x, g7x, g11x] at z; done)
            all_goals
             have q21 := h21; try simp at q21
             simp [g1x, g7x, g11x]
             repeat with_reducible refine sdg ?_
             refine nxtI ⟨(p1, v1_0, v1_1, (v1_2 + 1)), ?_, ?_⟩ (by simp) (wk_keep (by simp [w1, w2, g1x, g7x, g11x]))
             · rw [← e1]; simp only [s_AgreedSpan_1, h2, h18, h21, cond_t, cond_f]
             · first | omega | (simp at *; omega)
        ·have g11x := g11; try simp only [beq_true, beq_false, Bool.not_eq_true', Bool.not_eq_false', Bool.true_and, Bool.and_true] at g11x
         try (have z := g11; simp [g1x, g7x] at z; done)
         all_goals
          simp [g1x, g7x, g11x]
          repeat with_reducible refine sdg ?_
          refine skipG rfl rfl rfl rfl (by simp) (by simp [g1x, g7x, g11x]) ?_
          simp [g1x, g7x, g11x]
          repeat with_reducible refine sdg ?_
          refine condR (c := ((s_IsSpan (nth a0 v1_2)) && (s_IsSupported a0 (nth a0 v1_2).To a1))) (by first | (simp [g1x, g7x, g11x]; done) | grind) (fun k23 h22 => ?_) (fun k23 h22 => ?_)
          ·try (have z := h22; simp [g1x, g7x, g11x] at z; done)
           all_goals
            have q22 := h22; try simp at q22
            simp [i1, rowAt_map, g1x, g7x, g11x]
            repeat with_reducible refine sdg ?_
            refine cR (s_Max_ok v1_1 (nth a0 v1_2).To) ?_
            simp [g1x, g7x, g11x]
            repeat with_reducible refine sdg ?_
            refine nxtI ⟨(p1, v1_0, (s_Max v1_1 (nth a0 v1_2).To), (v1_2 + 1)), ?_, ?_⟩ (by simp) (wk_keep (by simp [w1, w2, g1x, g7x, g11x]))
            · rw [← e1]; simp only [s_AgreedSpan_1, h2, h18, h22, cond_t, cond_f]
            · first | omega | (simp at *; omega)
          ·try (have z := h22; simp [g1x, g7x, g11x] at z; done)
           all_goals
            have q22 := h22; try simp at q22
            simp [g1x, g7x, g11x]
            repeat with_reducible refine sdg ?_
            refine nxtI ⟨(p1, v1_0, v1_1, (v1_2 + 1)), ?_, ?_⟩ (by simp) (wk_keep (by simp [w1, w2, g1x, g7x, g11x]))
            · rw [← e1]; simp only [s_AgreedSpan_1, h2, h18, h22, cond_t, cond_f]
            · first | omega | (simp at *; omega)
  ·have q2 := h2; try simp at q2
   have x1 : s_AgreedSpan_1 a0 a1 (a0.length + 1) (-1) (-1) 0 = (v1_0, v1_1) := by rw [← e1]; simp only [s_AgreedSpan_1, h2, cond_t, cond_f]
   simp
   refine cC (decide (v1_0 < 0)) (fun k24 h23 => ?_) (fun k24 h23 => ?_)
   ·have q23 := h23; try simp at q23
    simp
    refine retRd (rv := [.cell 4 182, .tmp 5]) rfl ?_
    have f2 := s_AgreedSpan.eq_1 a0 a1; simp only [h1, x1, h23, cond_t, cond_f] at f2; simp [f2]
   ·have q23 := h23; try simp at q23
    simp
    refine retRd (rv := [.cell 4 182, .tmp 5]) rfl ?_
    have f3 := s_AgreedSpan.eq_1 a0 a1; simp only [h1, x1, h23, cond_t, cond_f] at f3; simp [f3]
theorem s_RenewalSpan_ok (a0 : List TAuthority) (a1 : TRenewal) (a2 : Int) (u0 : Sm 2318336 a0) (u1 : Sm 2318336 a1) : SoundAt Tryz.prog 169 false [[.sl 3 (a0.map TAuthority.row)], a1.row, [.int .i64 a2]] [(s_RenewalSpan a0 a1 a2).1.row, [.bool (s_RenewalSpan a0 a1 a2).2]] := by
 refine sound_of Tryz.func169 rfl (by kernel_rfl) ?_
 simp [Tryz.ntmps169]
 refine okL fun k1 => ?_
 refine loopI (ι := { s : Nat × (List TSpan) × Nat // s_RenewalSpan_1 a0 a1 s.1 s.2.1 s.2.2 = s_RenewalSpan_1 a0 a1 (a1.Stamps.length + 1) ([] : List TSpan) 0 ∧ (1 ≤ s.1 ∧ a1.Stamps.length < s.1 + s.2.2 ∧ s.2.2 ≤ a1.Stamps.length ∧ s.2.1.length ≤ 0 + 1 * s.2.2) }) (fun s => stOf 42 [eL 0 3 a0 TAuthority.row, eI 2 a2, eX 4 (a1.row.map .d), (6, .one (.bptr 6 0), [.box [.d (.int .i64 0), .d (.int .i64 0)]]), (8, .one (.sref 8 0 0 s.1.2.1.length), [.arr false 2 (s.1.2.1.map TSpan.row)]), eI 9 (↑s.1.2.2 : Int)]) (fun s => s.1.1) ⟨((a1.Stamps.length + 1), ([] : List TSpan), 0), rfl, by first | omega | (dsimp only; omega) | simp⟩ (wk_of [((8, 0), some (12, 0))] [] rfl (by simp)) ?_
 rintro ⟨⟨n1, v1_0, v1_1⟩, e1, j1⟩
 try dsimp only at e1 j1
 obtain ⟨p1, rfl⟩ : ∃ p, n1 = p + 1 := ⟨n1 - 1, by omega⟩
 simp
 refine cC (decide ((↑v1_1 : Int) < (↑a1.Stamps.length : Int))) (fun k2 h1 => ?_) (fun k2 h1 => ?_)
 ·have q1 := h1; try simp at q1
  have i1 : v1_1 < a1.Stamps.length := by simpa using h1
  have m2 : a1.Stamps.length ≤ 9223372036854775807 := by simpa using k2 15 _ rfl
  have c1 : a1.Stamps.length ≤ 2318336 := sm_len (by simp (maxDischargeDepth := 12) [u0, u1])
  have w1 : IntKind.i64.wrap ((v1_1 : Int) + 1) = (v1_1 : Int) + 1 := wrap_of (by omega) (by omega)
  simp [i1, rowAt_map]
  repeat with_reducible refine sd ?_
  refine cR (s_StampSpan_ok a0 (nth a1.Stamps v1_1)) ?_
  simp
  refine cC (!(s_StampSpan a0 (nth a1.Stamps v1_1)).2) (fun k3 h2 => ?_) (fun k3 h2 => ?_)
  ·have q2 := h2; try simp at q2
   have x1 : s_RenewalSpan_1 a0 a1 (a1.Stamps.length + 1) ([] : List TSpan) 0 = .inl ((TSpan.mk 0 0), false) := by rw [← e1]; simp only [s_RenewalSpan_1, h1, h2, cond_t, cond_f]
   simp
   refine retRd (rv := [.cell 6 182, .tmp 7]) rfl ?_
   have f1 := s_RenewalSpan.eq_1 a0 a1 a2; simp only [x1, cond_t, cond_f] at f1; simp [f1]
  ·have q2 := h2; try simp at q2
   simp
   repeat with_reducible refine sd ?_
   refine nxtI ⟨(p1, (v1_0 ++ ([(s_StampSpan a0 (nth a1.Stamps v1_1)).1] : List TSpan)), (v1_1 + 1)), ?_, ?_⟩ (by simp) (wk_of [((8, 0), some (36, 0))] [] rfl (by simp [w1]))
   · rw [← e1]; simp only [s_RenewalSpan_1, h1, h2, cond_t, cond_f]
   · first | omega | (simp at *; omega)
 ·have q1 := h1; try simp at q1
  have c2 : a1.Stamps.length ≤ 2318336 := sm_len (by simp (maxDischargeDepth := 12) [u0, u1])
  have x2 : s_RenewalSpan_1 a0 a1 (a1.Stamps.length + 1) ([] : List TSpan) 0 = .inr v1_0 := by rw [← e1]; simp only [s_RenewalSpan_1, h1, cond_t, cond_f]
  simp
  refine cR (s_AgreedSpan_ok v1_0 a2 (by first | (simp (maxDischargeDepth := 12) [sm_list]; omega) | (simp (maxDischargeDepth := 12) [sm_mono (m := 2322432) (by decide) u0, sm_mono (m := 2322432) (by decide) u1]; done))) ?_
  simp
  refine retRd (rv := [.cell 6 182, .tmp 7]) rfl ?_
  have f2 := s_RenewalSpan.eq_1 a0 a1 a2; simp only [x2, cond_t, cond_f] at f2; simp [f2]
theorem s_FindMethod_ok (a0 : List TMethod) (a1 : Int) : SoundAt Tryz.prog 181 false [[.sl 4 (a0.map TMethod.row)], [.int .i64 a1]] [[.int .i64 (s_FindMethod a0 a1)]] := by
 refine sound_of Tryz.func181 rfl (by kernel_rfl) ?_
 simp [Tryz.ntmps181]
 refine okL fun k1 => ?_
 refine loopI (ι := { s : Nat × Nat // s_FindMethod_1 a0 a1 s.1 s.2 = s_FindMethod_1 a0 a1 (a0.length + 1) 0 ∧ (1 ≤ s.1 ∧ a0.length < s.1 + s.2 ∧ s.2 ≤ a0.length) }) (fun s => stOf 20 [eL 0 4 a0 TMethod.row, eI 1 a1, eI 5 (↑s.1.2 : Int)]) (fun s => s.1.1) ⟨((a0.length + 1), 0), rfl, by first | omega | (dsimp only; omega) | simp⟩ (wk_keep (by simp)) ?_
 rintro ⟨⟨n1, v1_0⟩, e1, j1⟩
 try dsimp only at e1 j1
 obtain ⟨p1, rfl⟩ : ∃ p, n1 = p + 1 := ⟨n1 - 1, by omega⟩
 simp
 refine cC (decide ((↑v1_0 : Int) < (↑a0.length : Int))) (fun k2 h1 => ?_) (fun k2 h1 => ?_)
 ·have q1 := h1; try simp at q1
  have i1 : v1_0 < a0.length := by simpa using h1
  have m2 : a0.length ≤ 9223372036854775807 := by simpa using k2 0 _ rfl
  have w1 : IntKind.i64.wrap ((v1_0 : Int) + 1) = (v1_0 : Int) + 1 := wrap_of (by omega) (by omega)
  simp [i1, rowAt_map]
  repeat with_reducible refine sd ?_
  refine cC ((nth a0 v1_0).Id == a1) (fun k3 h2 => ?_) (fun k3 h2 => ?_)
  ·have q2 := h2; try simp at q2
   have x1 : s_FindMethod_1 a0 a1 (a0.length + 1) 0 = .inl (↑v1_0 : Int) := by rw [← e1]; simp only [s_FindMethod_1, h1, h2, cond_t, cond_f]
   simp
   refine retRd (rv := [.tmp 4]) rfl ?_
   have f1 := s_FindMethod.eq_1 a0 a1; simp only [x1, cond_t, cond_f] at f1; simp [f1]
  ·have q2 := h2; try simp at q2
   simp
   refine nxtI ⟨(p1, (v1_0 + 1)), ?_, ?_⟩ (by simp) (wk_keep (by simp [w1]))
   · rw [← e1]; simp only [s_FindMethod_1, h1, h2, cond_t, cond_f]
   · first | omega | (simp at *; omega)
 ·have q1 := h1; try simp at q1
  have x2 : s_FindMethod_1 a0 a1 (a0.length + 1) 0 = .inr () := by rw [← e1]; simp only [s_FindMethod_1, h1, cond_t, cond_f]
  simp
  refine retRd (rv := [.tmp 4]) rfl ?_
  have f2 := s_FindMethod.eq_1 a0 a1; simp only [x2, cond_t, cond_f] at f2; simp [f2]
theorem s_BreakOf_ok (a0 : List TMethod) (a1 : Int) : SoundAt Tryz.prog 146 false [[.sl 4 (a0.map TMethod.row)], [.int .i64 a1]] [[.int .i64 (s_BreakOf a0 a1)]] := by
 refine sound_of Tryz.func146 rfl (by kernel_rfl) ?_
 simp [Tryz.ntmps146]
 refine cR (s_FindMethod_ok a0 a1) ?_
 simp
 refine cC (decide ((s_FindMethod a0 a1) < 0)) (fun k1 h1 => ?_) (fun k1 h1 => ?_)
 ·have q1 := h1; try simp at q1
  simp
  refine retRd (rv := [.tmp 4]) rfl ?_
  have f1 := s_BreakOf.eq_1 a0 a1; simp only [h1, cond_t, cond_f] at f1; simp [f1]
 ·have q1 := h1; try simp at q1
  have i1 : (s_FindMethod a0 a1).toNat < a0.length := by have := s_FindMethod_lt a0 a1; exact il
  simp [i1, rowAt_map]
  repeat with_reducible refine sd ?_
  refine retRd (rv := [.tmp 4]) rfl ?_
  have f2 := s_BreakOf.eq_1 a0 a1; simp only [h1, cond_t, cond_f] at f2; simp [f2]
theorem s_StampKey_ok (a0 : List TAuthority) (a1 : TStamp) : SoundAt Tryz.prog 224 false [[.sl 3 (a0.map TAuthority.row)], a1.row] [[.int .i64 (s_StampKey a0 a1)]] := by
 refine sound_of Tryz.func224 rfl (by kernel_rfl) ?_
 simp [Tryz.ntmps224]
 refine cR (s_FindAuthority_ok a0 a1.Authority) ?_
 simp
 refine cC (decide ((s_FindAuthority a0 a1.Authority) < 0)) (fun k1 h1 => ?_) (fun k1 h1 => ?_)
 ·have q1 := h1; try simp at q1
  simp
  refine retRd (rv := [.tmp 4]) rfl ?_
  have f1 := s_StampKey.eq_1 a0 a1; simp only [h1, cond_t, cond_f] at f1; simp [f1]
 ·have q1 := h1; try simp at q1
  have i1 : (s_FindAuthority a0 a1.Authority).toNat < a0.length := by have := s_FindAuthority_lt a0 a1.Authority; exact il
  simp [i1, rowAt_map]
  repeat with_reducible refine sd ?_
  refine retRd (rv := [.tmp 4]) rfl ?_
  have f2 := s_StampKey.eq_1 a0 a1; simp only [h1, cond_t, cond_f] at f2; simp [f2]
theorem s_FindKey_ok (a0 : List TKey) (a1 : Int) : SoundAt Tryz.prog 99 false [[.sl 5 (a0.map TKey.row)], [.int .i64 a1]] [[.int .i64 (s_FindKey a0 a1)]] := by
 refine sound_of Tryz.func99 rfl (by kernel_rfl) ?_
 simp [Tryz.ntmps99]
 refine okL fun k1 => ?_
 refine loopI (ι := { s : Nat × Nat // s_FindKey_1 a0 a1 s.1 s.2 = s_FindKey_1 a0 a1 (a0.length + 1) 0 ∧ (1 ≤ s.1 ∧ a0.length < s.1 + s.2 ∧ s.2 ≤ a0.length) }) (fun s => stOf 20 [eL 0 5 a0 TKey.row, eI 1 a1, eI 5 (↑s.1.2 : Int)]) (fun s => s.1.1) ⟨((a0.length + 1), 0), rfl, by first | omega | (dsimp only; omega) | simp⟩ (wk_keep (by simp)) ?_
 rintro ⟨⟨n1, v1_0⟩, e1, j1⟩
 try dsimp only at e1 j1
 obtain ⟨p1, rfl⟩ : ∃ p, n1 = p + 1 := ⟨n1 - 1, by omega⟩
 simp
 refine cC (decide ((↑v1_0 : Int) < (↑a0.length : Int))) (fun k2 h1 => ?_) (fun k2 h1 => ?_)
 ·have q1 := h1; try simp at q1
  have i1 : v1_0 < a0.length := by simpa using h1
  have m2 : a0.length ≤ 9223372036854775807 := by simpa using k2 0 _ rfl
  have w1 : IntKind.i64.wrap ((v1_0 : Int) + 1) = (v1_0 : Int) + 1 := wrap_of (by omega) (by omega)
  simp [i1, rowAt_map]
  repeat with_reducible refine sd ?_
  refine cC ((nth a0 v1_0).Number == a1) (fun k3 h2 => ?_) (fun k3 h2 => ?_)
  ·have q2 := h2; try simp at q2
   have x1 : s_FindKey_1 a0 a1 (a0.length + 1) 0 = .inl (↑v1_0 : Int) := by rw [← e1]; simp only [s_FindKey_1, h1, h2, cond_t, cond_f]
   simp
   refine retRd (rv := [.tmp 4]) rfl ?_
   have f1 := s_FindKey.eq_1 a0 a1; simp only [x1, cond_t, cond_f] at f1; simp [f1]
  ·have q2 := h2; try simp at q2
   simp
   refine nxtI ⟨(p1, (v1_0 + 1)), ?_, ?_⟩ (by simp) (wk_keep (by simp [w1]))
   · rw [← e1]; simp only [s_FindKey_1, h1, h2, cond_t, cond_f]
   · first | omega | (simp at *; omega)
 ·have q1 := h1; try simp at q1
  have x2 : s_FindKey_1 a0 a1 (a0.length + 1) 0 = .inr () := by rw [← e1]; simp only [s_FindKey_1, h1, cond_t, cond_f]
  simp
  refine retRd (rv := [.tmp 4]) rfl ?_
  have f2 := s_FindKey.eq_1 a0 a1; simp only [x2, cond_t, cond_f] at f2; simp [f2]
theorem s_RenewalBreak_ok (a0 : List TKey) (a1 : List TAuthority) (a2 : List TMethod) (a3 : TRenewal) : SoundAt Tryz.prog 200 false [[.sl 5 (a0.map TKey.row)], [.sl 3 (a1.map TAuthority.row)], [.sl 4 (a2.map TMethod.row)], a3.row] [[.int .i64 (s_RenewalBreak a0 a1 a2 a3)]] := by
 refine sound_of Tryz.func200 rfl (by kernel_rfl) ?_
 simp [Tryz.ntmps200]
 refine cR (s_BreakOf_ok a2 a3.Method) ?_
 simp
 refine okL fun k1 => ?_
 refine loopI (ι := { s : Nat × Int × Nat // s_RenewalBreak_1 a0 a1 a2 a3 s.1 s.2.1 s.2.2 = s_RenewalBreak_1 a0 a1 a2 a3 (a3.Stamps.length + 1) (s_BreakOf a2 a3.Method) 0 ∧ (1 ≤ s.1 ∧ a3.Stamps.length < s.1 + s.2.2 ∧ s.2.2 ≤ a3.Stamps.length) }) (fun s => stOf 44 [eL 0 5 a0 TKey.row, eL 1 3 a1 TAuthority.row, eL 2 4 a2 TMethod.row, eX 7 (a3.row.map .d), eI 9 s.1.2.1, eI 10 (↑s.1.2.2 : Int)]) (fun s => s.1.1) ⟨((a3.Stamps.length + 1), (s_BreakOf a2 a3.Method), 0), rfl, by first | omega | (dsimp only; omega) | simp⟩ (wk_keep (by simp)) ?_
 rintro ⟨⟨n1, v1_0, v1_1⟩, e1, j1⟩
 try dsimp only at e1 j1
 obtain ⟨p1, rfl⟩ : ∃ p, n1 = p + 1 := ⟨n1 - 1, by omega⟩
 simp
 refine cC (decide ((↑v1_1 : Int) < (↑a3.Stamps.length : Int))) (fun k2 h1 => ?_) (fun k2 h1 => ?_)
 ·have q1 := h1; try simp at q1
  have i1 : v1_1 < a3.Stamps.length := by simpa using h1
  have m2 : a3.Stamps.length ≤ 9223372036854775807 := by simpa using k2 18 _ rfl
  have w1 : IntKind.i64.wrap ((v1_1 : Int) + 1) = (v1_1 : Int) + 1 := wrap_of (by omega) (by omega)
  simp [i1, rowAt_map]
  repeat with_reducible refine sd ?_
  refine cR (s_StampKey_ok a1 (nth a3.Stamps v1_1)) ?_
  simp
  refine cR (s_FindKey_ok a0 (s_StampKey a1 (nth a3.Stamps v1_1))) ?_
  simp
  refine cC (decide ((s_FindKey a0 (s_StampKey a1 (nth a3.Stamps v1_1))) < 0)) (fun k3 h2 => ?_) (fun k3 h2 => ?_)
  ·have q2 := h2; try simp at q2
   have x1 : s_RenewalBreak_1 a0 a1 a2 a3 (a3.Stamps.length + 1) (s_BreakOf a2 a3.Method) 0 = .inl 0 := by rw [← e1]; simp only [s_RenewalBreak_1, h1, h2, cond_t, cond_f]
   simp
   refine retRd (rv := [.tmp 8]) rfl ?_
   have f1 := s_RenewalBreak.eq_1 a0 a1 a2 a3; simp only [x1, cond_t, cond_f] at f1; simp [f1]
  ·have q2 := h2; try simp at q2
   have i2 : (s_FindKey a0 (s_StampKey a1 (nth a3.Stamps v1_1))).toNat < a0.length := by have := s_FindKey_lt a0 (s_StampKey a1 (nth a3.Stamps v1_1)); exact il
   simp [i2, rowAt_map]
   repeat with_reducible refine sd ?_
   refine cR (s_BreakOf_ok a2 (nth a0 (s_FindKey a0 (s_StampKey a1 (nth a3.Stamps v1_1))).toNat).Method) ?_
   simp
   refine cR (s_Min_ok v1_0 (s_BreakOf a2 (nth a0 (s_FindKey a0 (s_StampKey a1 (nth a3.Stamps v1_1))).toNat).Method)) ?_
   simp
   refine nxtI ⟨(p1, (s_Min v1_0 (s_BreakOf a2 (nth a0 (s_FindKey a0 (s_StampKey a1 (nth a3.Stamps v1_1))).toNat).Method)), (v1_1 + 1)), ?_, ?_⟩ (by simp) (wk_keep (by simp [w1]))
   · rw [← e1]; simp only [s_RenewalBreak_1, h1, h2, cond_t, cond_f]
   · first | omega | (simp at *; omega)
 ·have q1 := h1; try simp at q1
  have x2 : s_RenewalBreak_1 a0 a1 a2 a3 (a3.Stamps.length + 1) (s_BreakOf a2 a3.Method) 0 = .inr v1_0 := by rw [← e1]; simp only [s_RenewalBreak_1, h1, cond_t, cond_f]
  simp
  refine retRd (rv := [.tmp 8]) rfl ?_
  have f2 := s_RenewalBreak.eq_1 a0 a1 a2 a3; simp only [x2, cond_t, cond_f] at f2; simp [f2]
theorem s_LinkHolds_ok (a0 : TFrame) (a1 : TStrand) (a2 : Int) (u0 : Sm 2314240 a0) (u1 : Sm 2314240 a1) : SoundAt Tryz.prog 170 false [a0.row, a1.row, [.int .i64 a2]] [[.bool (s_LinkHolds a0 a1 a2)]] := by
 refine sound_of Tryz.func170 rfl (by kernel_rfl) ?_
 simp [Tryz.ntmps170]
 refine cR (s_l1In_ok a2 0 (W ((↑a1.Chain.length : Int) - 1))) ?_
 simp
 have c1 : a1.Chain.length ≤ 2314240 := sm_len (by simp (maxDischargeDepth := 12) [u0, u1])
 have w1 : IntKind.i64.wrap ((a1.Chain.length : Int) - 1) = (a1.Chain.length : Int) - 1 := wrap_of (by omega) (by omega)
 refine cC (!(s_l1In a2 0 (W ((↑a1.Chain.length : Int) - 1)))) (fun k1 h1 => ?_) (fun k1 h1 => ?_)
 ·have q1 := h1; try simp [s_l1In, w1] at q1
  simp
  refine retRd (rv := [.tmp 6]) rfl ?_
  have f1 := s_LinkHolds.eq_1 a0 a1 a2; simp only [h1, cond_t, cond_f] at f1; simp [f1]
 ·have q1 := h1; try simp [s_l1In, w1] at q1
  simp
  refine okD fun k2 => ?_
  refine drawI mixed (by kernel_rfl) (by kernel_rfl) ?_
  have i1 : a2.toNat < a1.Chain.length := by (have mm : a1.Chain.length ≤ 2314240 := sm_len (by simp (maxDischargeDepth := 12) [u1]); (try simp [s_l1In] at q1); have ww := W_sub1 a1.Chain.length (by omega); first | omega | ((try rw [ww] at q1); (try rw [ww] at q2); have w3 : W (a2 + 1) = a2 + 1 := wrap_of (by omega) (by omega); omega))
  simp [i1, rowAt_map]
  repeat ((with_reducible refine And.intro ?_ ?_); focus (intros; first | (first | omega | (have mm : a1.Chain.length ≤ 2314240 := sm_len (by simp (maxDischargeDepth := 12) [u1]); have ww := W_sub1 a1.Chain.length (by omega); (try rw [ww] at q1); (try rw [ww] at q2); have w3 : W (a2 + 1) = a2 + 1 := wrap_of (by omega) (by omega); have w4 : IntKind.i64.wrap (a2 + 1) = a2 + 1 := w3; omega)) | ((try simp only [W_def, show ∀ x, IntKind.i64.wrap x = W x from fun _ => rfl] at *); omega)))
  refine cR (s_RenewalBreak_ok a0.Keys a0.Authorities a0.Methods (nth a1.Chain a2.toNat)) ?_
  simp
  refine cC (a2 == (W ((↑a1.Chain.length : Int) - 1))) (fun k3 h2 => ?_) (fun k3 h2 => ?_)
  ·have q2 := h2; try simp [w1] at q2
   simp
   refine retRd (rv := [.tmp 6]) rfl ?_
   have f2 := s_LinkHolds.eq_1 a0 a1 a2; simp only [h1, h2, cond_t, cond_f] at f2; simp [f2]
  ·have q2 := h2; try simp [w1] at q2
   simp
   refine okD fun k4 => ?_
   refine drawI mixed (by kernel_rfl) (by kernel_rfl) ?_
   have i2 : (W (a2 + 1)).toNat < a1.Chain.length := by (have mm : a1.Chain.length ≤ 2314240 := sm_len (by simp (maxDischargeDepth := 12) [u1]); (try simp [s_l1In] at q1); have ww := W_sub1 a1.Chain.length (by omega); first | omega | ((try rw [ww] at q1); (try rw [ww] at q2); have w3 : W (a2 + 1) = a2 + 1 := wrap_of (by omega) (by omega); omega))
   simp [i2, rowAt_map]
   repeat ((with_reducible refine And.intro ?_ ?_); focus (intros; first | (first | omega | (have mm : a1.Chain.length ≤ 2314240 := sm_len (by simp (maxDischargeDepth := 12) [u1]); have ww := W_sub1 a1.Chain.length (by omega); (try rw [ww] at q1); (try rw [ww] at q2); have w3 : W (a2 + 1) = a2 + 1 := wrap_of (by omega) (by omega); have w4 : IntKind.i64.wrap (a2 + 1) = a2 + 1 := w3; omega)) | ((try simp only [W_def, show ∀ x, IntKind.i64.wrap x = W x from fun _ => rfl] at *); omega)))
   refine cR (s_RenewalSpan_ok a0.Authorities (nth a1.Chain (W (a2 + 1)).toNat) a0.Liars (sg (TFrame.sm_Authorities u0)) (sg (sm_nth (TStrand.sm_Chain u1)))) ?_ (hrows := by first | (simp; done) | (simp [W, w1]; done))
   simp
   refine retRd (rv := [.tmp 6]) rfl ?_
   have f3 := s_LinkHolds.eq_1 a0 a1 a2; simp only [h1, h2, cond_t, cond_f] at f3; simp [f3]
theorem s_StampInts_ok (a0 : TStamp) : SoundD Tryz.prog 101 [a0.row] [[.sl 1 ((s_StampInts a0).map iR)]] := by
 refine sound_ofD Tryz.func101 rfl (by kernel_rfl) ?_
 simp [Tryz.ntmps101]
 refine retD (rv := [.tmp 2]) rfl ?_
 have f1 := s_StampInts.eq_1 a0; simp [f1]
theorem s_RenewalDigest_ok (a0 : Int) (a1 : TRenewal) (u0 : Sm 2326528 a1) : SoundAt Tryz.prog 148 false [[.int .i64 a0], a1.row] [[.int .i64 (s_RenewalDigest a0 a1)]] := by
 refine sound_of Tryz.func148 rfl (by kernel_rfl) ?_
 simp [Tryz.ntmps148]
 refine okL fun k1 => ?_
 refine loopI (ι := { s : Nat × (List Int) × Nat // s_RenewalDigest_1 a1 s.1 s.2.1 s.2.2 = s_RenewalDigest_1 a1 (a1.Path.length + 1) ([4, a1.Count, a1.Method, a1.Root] : List Int) 0 ∧ (1 ≤ s.1 ∧ a1.Path.length < s.1 + s.2.2 ∧ s.2.2 ≤ a1.Path.length ∧ s.2.1.length ≤ 4 + 2 * s.2.2) }) (fun s => stOf 75 [eI 0 a0, eX 3 (a1.row.map .d), (5, .one (.sref 5 0 0 s.1.2.1.length), [.arr false 1 (s.1.2.1.map iR)]), eI 6 (↑s.1.2.2 : Int)]) (fun s => s.1.1) ⟨((a1.Path.length + 1), ([4, a1.Count, a1.Method, a1.Root] : List Int), 0), rfl, by first | omega | (dsimp only; omega) | simp⟩ (wk_of [((5, 0), some (14, 0))] [] rfl (by simp)) ?_
 rintro ⟨⟨n1, v1_0, v1_1⟩, e1, j1⟩
 try dsimp only at e1 j1
 obtain ⟨p1, rfl⟩ : ∃ p, n1 = p + 1 := ⟨n1 - 1, by omega⟩
 simp
 refine cC (decide ((↑v1_1 : Int) < (↑a1.Path.length : Int))) (fun k2 h1 => ?_) (fun k2 h1 => ?_)
 ·have q1 := h1; try simp at q1
  have i1 : v1_1 < a1.Path.length := by simpa using h1
  have m2 : a1.Path.length ≤ 9223372036854775807 := by simpa using k2 17 _ rfl
  have c1 : a1.Path.length ≤ 2326528 := sm_len (by simp (maxDischargeDepth := 12) [u0])
  have w1 : IntKind.i64.wrap ((v1_1 : Int) + 1) = (v1_1 : Int) + 1 := wrap_of (by omega) (by omega)
  simp [i1, rowAt_map]
  repeat with_reducible refine sd ?_
  refine cC (nth a1.Path v1_1).Left (fun k3 h2 => ?_) (fun k3 h2 => ?_)
  ·have q2 := h2; try simp at q2
   simp
   repeat with_reducible refine sd ?_
   refine nxtI ⟨(p1, ((v1_0 ++ ([(nth a1.Path v1_1).Digest] : List Int)) ++ ([1] : List Int)), (v1_1 + 1)), ?_, ?_⟩ (by simp) (wk_of [((5, 0), some (39, 0))] [] rfl (by simp [w1]))
   · rw [← e1]; simp only [s_RenewalDigest_1, h1, h2, cond_t, cond_f]
   · first | omega | (simp at *; omega)
  ·have q2 := h2; try simp at q2
   simp
   repeat with_reducible refine sd ?_
   refine nxtI ⟨(p1, ((v1_0 ++ ([(nth a1.Path v1_1).Digest] : List Int)) ++ ([0] : List Int)), (v1_1 + 1)), ?_, ?_⟩ (by simp) (wk_of [((5, 0), some (42, 0))] [] rfl (by simp [w1]))
   · rw [← e1]; simp only [s_RenewalDigest_1, h1, h2, cond_t, cond_f]
   · first | omega | (simp at *; omega)
 ·have q1 := h1; try simp at q1
  have c2 : a1.Path.length ≤ 2326528 := sm_len (by simp (maxDischargeDepth := 12) [u0])
  have x1 : s_RenewalDigest_1 a1 (a1.Path.length + 1) ([4, a1.Count, a1.Method, a1.Root] : List Int) 0 = v1_0 := by rw [← e1]; simp only [s_RenewalDigest_1, h1, cond_t, cond_f]
  simp
  repeat with_reducible refine sd ?_
  refine okL fun k4 => ?_
  refine loopI (ι := { s : Nat × (List Int) × Nat // s_RenewalDigest_2 a1 s.1 s.2.1 s.2.2 = s_RenewalDigest_2 a1 (a1.Stamps.length + 1) (v1_0 ++ ([(↑a1.Stamps.length : Int)] : List Int)) 0 ∧ (1 ≤ s.1 ∧ a1.Stamps.length < s.1 + s.2.2 ∧ s.2.2 ≤ a1.Stamps.length ∧ s.2.1.length ≤ 5 + 2 * 2326528 + 6 * s.2.2) }) (fun s => stOf 75 [eI 0 a0, eX 3 (a1.row.map .d), (5, .one (.sref 5 0 0 s.1.2.1.length), [.arr false 1 (s.1.2.1.map iR)]), eI 7 (↑s.1.2.2 : Int)]) (fun s => s.1.1) ⟨((a1.Stamps.length + 1), (v1_0 ++ ([(↑a1.Stamps.length : Int)] : List Int)), 0), rfl, by (have o : a1.Path.length ≤ 2326528 := sm_len (by simp (maxDischargeDepth := 12) [u0]); simp at *; omega)⟩ (wk_of [((5, 0), some (48, 0))] [] rfl (by simp)) ?_
  rintro ⟨⟨n2, v2_0, v2_1⟩, e2, j2⟩
  try dsimp only at e2 j2
  obtain ⟨p2, rfl⟩ : ∃ p, n2 = p + 1 := ⟨n2 - 1, by omega⟩
  simp
  refine cC (decide ((↑v2_1 : Int) < (↑a1.Stamps.length : Int))) (fun k5 h3 => ?_) (fun k5 h3 => ?_)
  ·have q3 := h3; try simp at q3
   have i2 : v2_1 < a1.Stamps.length := by simpa using h3
   have m4 : a1.Stamps.length ≤ 9223372036854775807 := by simpa using k5 51 _ rfl
   have c3 : a1.Stamps.length ≤ 2326528 := sm_len (by simp (maxDischargeDepth := 12) [u0])
   have w2 : IntKind.i64.wrap ((v2_1 : Int) + 1) = (v2_1 : Int) + 1 := wrap_of (by omega) (by omega)
   simp
   refine okD fun k6 => ?_
   refine drawI mixed (by kernel_rfl) (by kernel_rfl) ?_
   simp [i2, rowAt_map]
   repeat with_reducible refine sd ?_
   refine cR (SoundD.rd (s_StampInts_ok (nth a1.Stamps v2_1))) ?_
   simp [i2, rowAt_map]
   repeat with_reducible refine sd ?_
   refine nxtI ⟨(p2, ((v2_0 ++ (s_StampInts (nth a1.Stamps v2_1))) ++ ([(nth a1.Stamps v2_1).Mark] : List Int)), (v2_1 + 1)), ?_, ?_⟩ (by simp) (wk_of [((5, 0), some (71, 0))] [] rfl (by simp [w2]))
   · rw [← e2]; simp only [s_RenewalDigest_2, h3, cond_t, cond_f]
   · (simp; omega)
  ·have q3 := h3; try simp at q3
   have c4 : a1.Stamps.length ≤ 2326528 := sm_len (by simp (maxDischargeDepth := 12) [u0])
   have x2 : s_RenewalDigest_2 a1 (a1.Stamps.length + 1) (v1_0 ++ ([(↑a1.Stamps.length : Int)] : List Int)) 0 = v2_0 := by rw [← e2]; simp only [s_RenewalDigest_2, h3, cond_t, cond_f]
   simp
   refine cR (s_DigestOf_ok a0 v2_0 (by first | (simp (maxDischargeDepth := 12) [sm_list]; omega) | (simp (maxDischargeDepth := 12) [sm_mono (m := 68719476736) (by decide) u0]; done))) ?_
   simp
   refine retRd (rv := [.tmp 4]) rfl ?_
   have f1 := s_RenewalDigest.eq_1 a0 a1; simp only [x1, x2, cond_t, cond_f] at f1; simp [f1]
theorem s_PiecesDigest_ok (a0 : Int) (a1 : List TPiece) (u0 : Sm 2326528 a1) : SoundAt Tryz.prog 182 false [[.int .i64 a0], [.sl 3 (a1.map TPiece.row)]] [[.int .i64 (s_PiecesDigest a0 a1)]] := by
 refine sound_of Tryz.func182 rfl (by kernel_rfl) ?_
 simp [Tryz.ntmps182]
 refine okL fun k1 => ?_
 refine loopI (ι := { s : Nat × (List Int) × Nat // s_PiecesDigest_1 a0 a1 s.1 s.2.1 s.2.2 = s_PiecesDigest_1 a0 a1 (a1.length + 1) ([2] : List Int) 0 ∧ (1 ≤ s.1 ∧ a1.length < s.1 + s.2.2 ∧ s.2.2 ≤ a1.length ∧ s.2.1.length ≤ 1 + 1 * s.2.2) }) (fun s => stOf 39 [eI 0 a0, eL 1 3 a1 TPiece.row, (5, .one (.sref 5 0 0 s.1.2.1.length), [.arr false 1 (s.1.2.1.map iR)]), eI 6 (↑s.1.2.2 : Int)]) (fun s => s.1.1) ⟨((a1.length + 1), ([2] : List Int), 0), rfl, by first | omega | (dsimp only; omega) | simp⟩ (wk_of [((5, 0), some (7, 0))] [] rfl (by simp)) ?_
 rintro ⟨⟨n1, v1_0, v1_1⟩, e1, j1⟩
 try dsimp only at e1 j1
 obtain ⟨p1, rfl⟩ : ∃ p, n1 = p + 1 := ⟨n1 - 1, by omega⟩
 simp
 refine cC (decide ((↑v1_1 : Int) < (↑a1.length : Int))) (fun k2 h1 => ?_) (fun k2 h1 => ?_)
 ·have q1 := h1; try simp at q1
  have i1 : v1_1 < a1.length := by simpa using h1
  have m2 : a1.length ≤ 9223372036854775807 := by simpa using k2 1 _ rfl
  have c1 : a1.length ≤ 2326528 := sm_len (by simp (maxDischargeDepth := 12) [u0])
  have w1 : IntKind.i64.wrap ((v1_1 : Int) + 1) = (v1_1 : Int) + 1 := wrap_of (by omega) (by omega)
  simp
  refine okD fun k3 => ?_
  refine drawP [2, 3, 4, 5, 6, 7, 8, 9, 10, 11, 12, 13, 14, 15, 16, 17, 18, 0, 1, 19, 20, 21, 22] mixed (by kernel_rfl) (by kernel_rfl) (by kernel_rfl) ?_
  have c2 : (nth a1 v1_1).Ints.length ≤ 2326528 := sm_len (by simp (maxDischargeDepth := 12) [u0])
  simp [i1, rowAt_map]
  repeat with_reducible refine sd ?_
  refine cR (s_DigestOf_ok a0 (([(nth a1 v1_1).Key, (nth a1 v1_1).Mark] : List Int) ++ (nth a1 v1_1).Ints) (by simp (maxDischargeDepth := 12) [sm_append, sm_list, sm_mono (m := 68719476736) (by decide) u0]; try omega)) ?_
  simp
  repeat with_reducible refine sd ?_
  refine nxtI ⟨(p1, (v1_0 ++ ([(s_DigestOf a0 (([(nth a1 v1_1).Key, (nth a1 v1_1).Mark] : List Int) ++ (nth a1 v1_1).Ints))] : List Int)), (v1_1 + 1)), ?_, ?_⟩ (by simp) (wk_of [((5, 0), some (35, 0))] [] rfl (by simp [w1]))
  · rw [← e1]; simp only [s_PiecesDigest_1, h1, cond_t, cond_f]
  · first | omega | (simp at *; omega)
 ·have q1 := h1; try simp at q1
  have c3 : a1.length ≤ 2326528 := sm_len (by simp (maxDischargeDepth := 12) [u0])
  have x1 : s_PiecesDigest_1 a0 a1 (a1.length + 1) ([2] : List Int) 0 = v1_0 := by rw [← e1]; simp only [s_PiecesDigest_1, h1, cond_t, cond_f]
  simp
  refine cR (s_DigestOf_ok a0 v1_0 (by first | (simp (maxDischargeDepth := 12) [sm_list]; omega) | (simp (maxDischargeDepth := 12) [sm_mono (m := 68719476736) (by decide) u0]; done))) ?_
  simp
  refine retRd (rv := [.tmp 4]) rfl ?_
  have f1 := s_PiecesDigest.eq_1 a0 a1; simp only [x1, cond_t, cond_f] at f1; simp [f1]
theorem s_LeafOf_ok (a0 : Int) (a1 : Int) (a2 : List TPiece) (a3 : Int) (u0 : Sm 2322432 a2) : SoundAt Tryz.prog 149 false [[.int .i64 a0], [.int .i64 a1], [.sl 3 (a2.map TPiece.row)], [.int .i64 a3]] [[.int .i64 (s_LeafOf a0 a1 a2 a3)]] := by
 refine sound_of Tryz.func149 rfl (by kernel_rfl) ?_
 simp [Tryz.ntmps149]
 refine cR (s_PiecesDigest_ok a0 a2 (sg u0)) ?_
 simp
 refine cR (s_DigestOf_ok a0 ([3, a1, (s_PiecesDigest a0 a2), a3] : List Int) (by simp (maxDischargeDepth := 12) [sm_append, sm_list, sm_mono (m := 68719476736) (by decide) u0]; try omega)) ?_
 simp
 refine retRd (rv := [.tmp 8]) rfl ?_
 have f1 := s_LeafOf.eq_1 a0 a1 a2 a3; simp [f1]
theorem s_LeafAt_ok (a0 : TStrand) (a1 : List Int) (a2 : Int) (u0 : Sm 2318336 a0) (u1 : Sm 2318336 a1) : SoundAt Tryz.prog 96 false [a0.row, [.sl 1 (a1.map iR)], [.int .i64 a2]] [[.int .i64 (s_LeafAt a0 a1 a2)]] := by
 refine sound_of Tryz.func96 rfl (by kernel_rfl) ?_
 simp [Tryz.ntmps96]
 refine okD fun k1 => ?_
 refine drawI mixed (by kernel_rfl) (by kernel_rfl) ?_
 simp
 refine cR (s_l1In_ok a2 0 (W ((↑a0.Chain.length : Int) - 1))) ?_
 simp
 refine guardI rfl rfl rfl rfl rfl (by simp) (fun g1 => ?_) (fun g1 => ?_)
 ·have g1x := g1; try simp only [beq_true, beq_false, Bool.not_eq_true', Bool.not_eq_false', Bool.true_and, Bool.and_true] at g1x
  have c1 : a0.Chain.length ≤ 2318336 := sm_len (by simp (maxDischargeDepth := 12) [u0, u1])
  have w1 : IntKind.i64.wrap ((a0.Chain.length : Int) - 1) = (a0.Chain.length : Int) - 1 := wrap_of (by omega) (by omega)
  try simp [s_l1In, w1] at g1
  have i1 : a2.toNat < a0.Chain.length := by (have cc : a0.Chain.length ≤ 2318336 := sm_len (by simp (maxDischargeDepth := 12) [u0]); have z0 := g1x; simp at z0; have z := s_l1In_idx (by omega) z0.1; have z2 := z0.2; (try have w3 : IntKind.i64.wrap (a2 - 1) = a2 - 1 := wrap_of (by omega) (by omega)); (try have w4 : W (a2 - 1) = a2 - 1 := w3); omega)
  simp [i1, rowAt_map, g1x]
  repeat ((with_reducible refine And.intro ?_ ?_); focus (intros; first | first | omega | (have cc : a0.Chain.length ≤ 2318336 := sm_len (by simp (maxDischargeDepth := 12) [u0]); have z0 := g1x; simp at z0; have z := s_l1In_idx (by omega) z0.1; have z2 := z0.2; (try have w3 : IntKind.i64.wrap (a2 - 1) = a2 - 1 := wrap_of (by omega) (by omega)); (try have w4 : W (a2 - 1) = a2 - 1 := w3); first | omega | (refine ⟨⟨z0.1, by omega⟩, by omega, by omega⟩) | (simp_all; omega)) | (simp_all; done) | (simp_all; omega) | grind | ((try simp only [W_def, show ∀ x, IntKind.i64.wrap x = W x from fun _ => rfl] at *); omega)))
  refine callG rfl rfl rfl rfl rfl rfl (fun gg => (s_l1In_ok (nth a0.Chain a2.toNat).Count 0 (↑a0.Pieces.length : Int))) (by first | (simp; done) | (simp [g1x]; done) | (simp [g1x]; omega) | (simp_all; done)) (by first | (simp; done) | (simp [g1x]; done) | (simp [g1x]; omega) | (simp_all; done)) (by first | (simp; done) | (simp [g1x]; done) | (simp [g1x]; omega) | (simp_all; done)) (by first | (simp; done) | (simp [g1x]; done) | (simp [g1x]; omega) | (simp_all; done)) ?_
  simp [g1x]
  repeat ((with_reducible refine And.intro ?_ ?_); focus (intros; first | first | omega | (have cc : a0.Chain.length ≤ 2318336 := sm_len (by simp (maxDischargeDepth := 12) [u0]); have z0 := g1x; simp at z0; have z := s_l1In_idx (by omega) z0.1; have z2 := z0.2; (try have w3 : IntKind.i64.wrap (a2 - 1) = a2 - 1 := wrap_of (by omega) (by omega)); (try have w4 : W (a2 - 1) = a2 - 1 := w3); first | omega | (refine ⟨⟨z0.1, by omega⟩, by omega, by omega⟩) | (simp_all; omega)) | (simp_all; done) | (simp_all; omega) | grind | ((try simp only [W_def, show ∀ x, IntKind.i64.wrap x = W x from fun _ => rfl] at *); omega)))
  refine condR (c := (((!(s_l1In a2 0 (W ((↑a0.Chain.length : Int) - 1)))) || ((↑a1.length : Int) != (↑a0.Chain.length : Int))) || (!(s_l1In (nth a0.Chain a2.toNat).Count 0 (↑a0.Pieces.length : Int))))) (by first | (simp [g1x]; done) | grind) (fun k2 h1 => ?_) (fun k2 h1 => ?_)
  ·try (have z := h1; simp [g1x] at z; done)
   all_goals
    have q1 := h1; try simp [s_l1In, w1] at q1
    simp [g1x]
    repeat ((with_reducible refine And.intro ?_ ?_); focus (intros; first | first | omega | (have cc : a0.Chain.length ≤ 2318336 := sm_len (by simp (maxDischargeDepth := 12) [u0]); have z0 := g1x; simp at z0; have z := s_l1In_idx (by omega) z0.1; have z2 := z0.2; (try have w3 : IntKind.i64.wrap (a2 - 1) = a2 - 1 := wrap_of (by omega) (by omega)); (try have w4 : W (a2 - 1) = a2 - 1 := w3); first | omega | (refine ⟨⟨z0.1, by omega⟩, by omega, by omega⟩) | (simp_all; omega)) | (simp_all; done) | (simp_all; omega) | grind | ((try simp only [W_def, show ∀ x, IntKind.i64.wrap x = W x from fun _ => rfl] at *); omega)))
    refine retRd (rv := [.tmp 6]) rfl ?_
    have f1 := s_LeafAt.eq_1 a0 a1 a2; simp only [h1, cond_t, cond_f] at f1; simp [f1, g1x]
  ·try (have z := h1; simp [g1x] at z; done)
   all_goals
    have q1 := h1; try simp [s_l1In, w1] at q1
    simp [i1, rowAt_map, g1x]
    repeat ((with_reducible refine And.intro ?_ ?_); focus (intros; first | first | omega | (have cc : a0.Chain.length ≤ 2318336 := sm_len (by simp (maxDischargeDepth := 12) [u0]); have z0 := g1x; simp at z0; have z := s_l1In_idx (by omega) z0.1; have z2 := z0.2; (try have w3 : IntKind.i64.wrap (a2 - 1) = a2 - 1 := wrap_of (by omega) (by omega)); (try have w4 : W (a2 - 1) = a2 - 1 := w3); first | omega | (refine ⟨⟨z0.1, by omega⟩, by omega, by omega⟩) | (simp_all; omega)) | (simp_all; done) | (simp_all; omega) | grind | ((try simp only [W_def, show ∀ x, IntKind.i64.wrap x = W x from fun _ => rfl] at *); omega)))
    refine condR (c := (decide (a2 > 0))) (by first | (simp [g1x]; done) | grind) (fun k3 h2 => ?_) (fun k3 h2 => ?_)
    ·try (have z := h2; simp [g1x] at z; done)
     all_goals
      have q2 := h2; try simp at q2
      have i2 : (W (a2 - 1)).toNat < a0.Chain.length := by (have cc : a0.Chain.length ≤ 2318336 := sm_len (by simp (maxDischargeDepth := 12) [u0]); have z0 := g1x; simp at z0; have z := s_l1In_idx (by omega) z0.1; have z2 := z0.2; (try have w3 : IntKind.i64.wrap (a2 - 1) = a2 - 1 := wrap_of (by omega) (by omega)); (try have w4 : W (a2 - 1) = a2 - 1 := w3); omega)
      simp [i2, rowAt_map, g1x]
      repeat ((with_reducible refine And.intro ?_ ?_); focus (intros; first | first | omega | (have cc : a0.Chain.length ≤ 2318336 := sm_len (by simp (maxDischargeDepth := 12) [u0]); have z0 := g1x; simp at z0; have z := s_l1In_idx (by omega) z0.1; have z2 := z0.2; (try have w3 : IntKind.i64.wrap (a2 - 1) = a2 - 1 := wrap_of (by omega) (by omega)); (try have w4 : W (a2 - 1) = a2 - 1 := w3); first | omega | (refine ⟨⟨z0.1, by omega⟩, by omega, by omega⟩) | (simp_all; omega)) | (simp_all; done) | (simp_all; omega) | grind | ((try simp only [W_def, show ∀ x, IntKind.i64.wrap x = W x from fun _ => rfl] at *); omega)))
      refine cR (s_RenewalDigest_ok (nth a0.Chain a2.toNat).Method (nth a0.Chain (W (a2 - 1)).toNat) (sg (sm_nth (TStrand.sm_Chain u0)))) ?_ (hrows := by first | (simp; done) | (simp [W, w1]; done))
      simp [g1x]
      repeat ((with_reducible refine And.intro ?_ ?_); focus (intros; first | first | omega | (have cc : a0.Chain.length ≤ 2318336 := sm_len (by simp (maxDischargeDepth := 12) [u0]); have z0 := g1x; simp at z0; have z := s_l1In_idx (by omega) z0.1; have z2 := z0.2; (try have w3 : IntKind.i64.wrap (a2 - 1) = a2 - 1 := wrap_of (by omega) (by omega)); (try have w4 : W (a2 - 1) = a2 - 1 := w3); first | omega | (refine ⟨⟨z0.1, by omega⟩, by omega, by omega⟩) | (simp_all; omega)) | (simp_all; done) | (simp_all; omega) | grind | ((try simp only [W_def, show ∀ x, IntKind.i64.wrap x = W x from fun _ => rfl] at *); omega)))
      refine okD fun k4 => ?_
      refine drawI mixed (by kernel_rfl) (by kernel_rfl) ?_
      have i3 : a2.toNat < a1.length := by (have cc : a0.Chain.length ≤ 2318336 := sm_len (by simp (maxDischargeDepth := 12) [u0]); have z0 := g1x; simp at z0; have z := s_l1In_idx (by omega) z0.1; have z2 := z0.2; (try have w3 : IntKind.i64.wrap (a2 - 1) = a2 - 1 := wrap_of (by omega) (by omega)); (try have w4 : W (a2 - 1) = a2 - 1 := w3); omega)
      simp [i3, rowAt_map, i1, g1x]
      repeat ((with_reducible refine And.intro ?_ ?_); focus (intros; first | first | omega | (have cc : a0.Chain.length ≤ 2318336 := sm_len (by simp (maxDischargeDepth := 12) [u0]); have z0 := g1x; simp at z0; have z := s_l1In_idx (by omega) z0.1; have z2 := z0.2; (try have w3 : IntKind.i64.wrap (a2 - 1) = a2 - 1 := wrap_of (by omega) (by omega)); (try have w4 : W (a2 - 1) = a2 - 1 := w3); first | omega | (refine ⟨⟨z0.1, by omega⟩, by omega, by omega⟩) | (simp_all; omega)) | (simp_all; done) | (simp_all; omega) | grind | ((try simp only [W_def, show ∀ x, IntKind.i64.wrap x = W x from fun _ => rfl] at *); omega)))
      refine cR (s_LeafOf_ok (nth a0.Chain a2.toNat).Method (nth a1 a2.toNat) (a0.Pieces.take (nth a0.Chain a2.toNat).Count.toNat) (s_RenewalDigest (nth a0.Chain a2.toNat).Method (nth a0.Chain (W (a2 - 1)).toNat)) (sm_mono (n := 2318336) (by decide) (by simp (maxDischargeDepth := 12) [u0, u1]))) ?_ (hrows := by first | (simp; done) | (simp [W, w1]; done))
      simp [g1x]
      repeat ((with_reducible refine And.intro ?_ ?_); focus (intros; first | first | omega | (have cc : a0.Chain.length ≤ 2318336 := sm_len (by simp (maxDischargeDepth := 12) [u0]); have z0 := g1x; simp at z0; have z := s_l1In_idx (by omega) z0.1; have z2 := z0.2; (try have w3 : IntKind.i64.wrap (a2 - 1) = a2 - 1 := wrap_of (by omega) (by omega)); (try have w4 : W (a2 - 1) = a2 - 1 := w3); first | omega | (refine ⟨⟨z0.1, by omega⟩, by omega, by omega⟩) | (simp_all; omega)) | (simp_all; done) | (simp_all; omega) | grind | ((try simp only [W_def, show ∀ x, IntKind.i64.wrap x = W x from fun _ => rfl] at *); omega)))
      refine retRd (rv := [.tmp 6]) rfl ?_
      have f2 := s_LeafAt.eq_1 a0 a1 a2; simp only [h1, h2, cond_t, cond_f] at f2; simp [f2, g1x]
    ·try (have z := h2; simp [g1x] at z; done)
     all_goals
      have q2 := h2; try simp at q2
      simp [g1x]
      repeat ((with_reducible refine And.intro ?_ ?_); focus (intros; first | first | omega | (have cc : a0.Chain.length ≤ 2318336 := sm_len (by simp (maxDischargeDepth := 12) [u0]); have z0 := g1x; simp at z0; have z := s_l1In_idx (by omega) z0.1; have z2 := z0.2; (try have w3 : IntKind.i64.wrap (a2 - 1) = a2 - 1 := wrap_of (by omega) (by omega)); (try have w4 : W (a2 - 1) = a2 - 1 := w3); first | omega | (refine ⟨⟨z0.1, by omega⟩, by omega, by omega⟩) | (simp_all; omega)) | (simp_all; done) | (simp_all; omega) | grind | ((try simp only [W_def, show ∀ x, IntKind.i64.wrap x = W x from fun _ => rfl] at *); omega)))
      refine okD fun k5 => ?_
      refine drawI mixed (by kernel_rfl) (by kernel_rfl) ?_
      have i4 : a2.toNat < a1.length := by (have cc : a0.Chain.length ≤ 2318336 := sm_len (by simp (maxDischargeDepth := 12) [u0]); have z0 := g1x; simp at z0; have z := s_l1In_idx (by omega) z0.1; have z2 := z0.2; (try have w3 : IntKind.i64.wrap (a2 - 1) = a2 - 1 := wrap_of (by omega) (by omega)); (try have w4 : W (a2 - 1) = a2 - 1 := w3); omega)
      simp [i4, rowAt_map, i1, g1x]
      repeat ((with_reducible refine And.intro ?_ ?_); focus (intros; first | first | omega | (have cc : a0.Chain.length ≤ 2318336 := sm_len (by simp (maxDischargeDepth := 12) [u0]); have z0 := g1x; simp at z0; have z := s_l1In_idx (by omega) z0.1; have z2 := z0.2; (try have w3 : IntKind.i64.wrap (a2 - 1) = a2 - 1 := wrap_of (by omega) (by omega)); (try have w4 : W (a2 - 1) = a2 - 1 := w3); first | omega | (refine ⟨⟨z0.1, by omega⟩, by omega, by omega⟩) | (simp_all; omega)) | (simp_all; done) | (simp_all; omega) | grind | ((try simp only [W_def, show ∀ x, IntKind.i64.wrap x = W x from fun _ => rfl] at *); omega)))
      refine cR (s_LeafOf_ok (nth a0.Chain a2.toNat).Method (nth a1 a2.toNat) (a0.Pieces.take (nth a0.Chain a2.toNat).Count.toNat) 0 (sm_mono (n := 2318336) (by decide) (by simp (maxDischargeDepth := 12) [u0, u1]))) ?_
      simp [g1x]
      repeat ((with_reducible refine And.intro ?_ ?_); focus (intros; first | first | omega | (have cc : a0.Chain.length ≤ 2318336 := sm_len (by simp (maxDischargeDepth := 12) [u0]); have z0 := g1x; simp at z0; have z := s_l1In_idx (by omega) z0.1; have z2 := z0.2; (try have w3 : IntKind.i64.wrap (a2 - 1) = a2 - 1 := wrap_of (by omega) (by omega)); (try have w4 : W (a2 - 1) = a2 - 1 := w3); first | omega | (refine ⟨⟨z0.1, by omega⟩, by omega, by omega⟩) | (simp_all; omega)) | (simp_all; done) | (simp_all; omega) | grind | ((try simp only [W_def, show ∀ x, IntKind.i64.wrap x = W x from fun _ => rfl] at *); omega)))
      refine retRd (rv := [.tmp 6]) rfl ?_
      have f3 := s_LeafAt.eq_1 a0 a1 a2; simp only [h1, h2, cond_t, cond_f] at f3; simp [f3, g1x]
 ·have g1x := g1; try simp only [beq_true, beq_false, Bool.not_eq_true', Bool.not_eq_false', Bool.true_and, Bool.and_true] at g1x
  simp [g1x]
  repeat ((with_reducible refine And.intro ?_ ?_); focus (intros; first | first | omega | (have cc : a0.Chain.length ≤ 2318336 := sm_len (by simp (maxDischargeDepth := 12) [u0]); have z0 := g1x; simp at z0; have z := s_l1In_idx (by omega) z0.1; have z2 := z0.2; (try have w3 : IntKind.i64.wrap (a2 - 1) = a2 - 1 := wrap_of (by omega) (by omega)); (try have w4 : W (a2 - 1) = a2 - 1 := w3); first | omega | (refine ⟨⟨z0.1, by omega⟩, by omega, by omega⟩) | (simp_all; omega)) | (simp_all; done) | (simp_all; omega) | grind | ((try simp only [W_def, show ∀ x, IntKind.i64.wrap x = W x from fun _ => rfl] at *); omega)))
  refine skipG rfl rfl rfl rfl (by simp) (by simp [g1x]) ?_
  simp [g1x]
  repeat ((with_reducible refine And.intro ?_ ?_); focus (intros; first | first | omega | (have cc : a0.Chain.length ≤ 2318336 := sm_len (by simp (maxDischargeDepth := 12) [u0]); have z0 := g1x; simp at z0; have z := s_l1In_idx (by omega) z0.1; have z2 := z0.2; (try have w3 : IntKind.i64.wrap (a2 - 1) = a2 - 1 := wrap_of (by omega) (by omega)); (try have w4 : W (a2 - 1) = a2 - 1 := w3); first | omega | (refine ⟨⟨z0.1, by omega⟩, by omega, by omega⟩) | (simp_all; omega)) | (simp_all; done) | (simp_all; omega) | grind | ((try simp only [W_def, show ∀ x, IntKind.i64.wrap x = W x from fun _ => rfl] at *); omega)))
  have c2 : a0.Chain.length ≤ 2318336 := sm_len (by simp (maxDischargeDepth := 12) [u0, u1])
  have w2 : IntKind.i64.wrap ((a0.Chain.length : Int) - 1) = (a0.Chain.length : Int) - 1 := wrap_of (by omega) (by omega)
  refine condR (c := (((!(s_l1In a2 0 (W ((↑a0.Chain.length : Int) - 1)))) || ((↑a1.length : Int) != (↑a0.Chain.length : Int))) || (!(s_l1In (nth a0.Chain a2.toNat).Count 0 (↑a0.Pieces.length : Int))))) (by first | (simp [g1x]; done) | grind) (fun k6 h3 => ?_) (fun k6 h3 => ?_)
  ·try (have z := h3; simp [g1x] at z; done)
   all_goals
    have q3 := h3; try simp [s_l1In, w2] at q3
    simp [g1x]
    repeat ((with_reducible refine And.intro ?_ ?_); focus (intros; first | first | omega | (have cc : a0.Chain.length ≤ 2318336 := sm_len (by simp (maxDischargeDepth := 12) [u0]); have z0 := g1x; simp at z0; have z := s_l1In_idx (by omega) z0.1; have z2 := z0.2; (try have w3 : IntKind.i64.wrap (a2 - 1) = a2 - 1 := wrap_of (by omega) (by omega)); (try have w4 : W (a2 - 1) = a2 - 1 := w3); first | omega | (refine ⟨⟨z0.1, by omega⟩, by omega, by omega⟩) | (simp_all; omega)) | (simp_all; done) | (simp_all; omega) | grind | ((try simp only [W_def, show ∀ x, IntKind.i64.wrap x = W x from fun _ => rfl] at *); omega)))
    refine retRd (rv := [.tmp 6]) rfl ?_
    have f4 := s_LeafAt.eq_1 a0 a1 a2; simp only [h3, cond_t, cond_f] at f4; simp [f4, g1x]
  ·try (have z := h3; simp [g1x] at z; done)
   all_goals
    have q3 := h3; try simp [s_l1In, w2] at q3
    have i6 : a2.toNat < a0.Chain.length := by (have cc : a0.Chain.length ≤ 2318336 := sm_len (by simp (maxDischargeDepth := 12) [u0]); have z0 := g1x; simp at z0; have z := s_l1In_idx (by omega) z0.1; have z2 := z0.2; (try have w3 : IntKind.i64.wrap (a2 - 1) = a2 - 1 := wrap_of (by omega) (by omega)); (try have w4 : W (a2 - 1) = a2 - 1 := w3); omega)
    simp [i6, rowAt_map, g1x]
    repeat ((with_reducible refine And.intro ?_ ?_); focus (intros; first | first | omega | (have cc : a0.Chain.length ≤ 2318336 := sm_len (by simp (maxDischargeDepth := 12) [u0]); have z0 := g1x; simp at z0; have z := s_l1In_idx (by omega) z0.1; have z2 := z0.2; (try have w3 : IntKind.i64.wrap (a2 - 1) = a2 - 1 := wrap_of (by omega) (by omega)); (try have w4 : W (a2 - 1) = a2 - 1 := w3); first | omega | (refine ⟨⟨z0.1, by omega⟩, by omega, by omega⟩) | (simp_all; omega)) | (simp_all; done) | (simp_all; omega) | grind | ((try simp only [W_def, show ∀ x, IntKind.i64.wrap x = W x from fun _ => rfl] at *); omega)))
    refine condR (c := (decide (a2 > 0))) (by first | (simp [g1x]; done) | grind) (fun k7 h4 => ?_) (fun k7 h4 => ?_)
    ·try (have z := h4; simp [g1x] at z; done)
     all_goals
      have q4 := h4; try simp at q4
      have i7 : (W (a2 - 1)).toNat < a0.Chain.length := by (have cc : a0.Chain.length ≤ 2318336 := sm_len (by simp (maxDischargeDepth := 12) [u0]); have z0 := g1x; simp at z0; have z := s_l1In_idx (by omega) z0.1; have z2 := z0.2; (try have w3 : IntKind.i64.wrap (a2 - 1) = a2 - 1 := wrap_of (by omega) (by omega)); (try have w4 : W (a2 - 1) = a2 - 1 := w3); omega)
      simp [i7, rowAt_map, g1x]
      repeat ((with_reducible refine And.intro ?_ ?_); focus (intros; first | first | omega | (have cc : a0.Chain.length ≤ 2318336 := sm_len (by simp (maxDischargeDepth := 12) [u0]); have z0 := g1x; simp at z0; have z := s_l1In_idx (by omega) z0.1; have z2 := z0.2; (try have w3 : IntKind.i64.wrap (a2 - 1) = a2 - 1 := wrap_of (by omega) (by omega)); (try have w4 : W (a2 - 1) = a2 - 1 := w3); first | omega | (refine ⟨⟨z0.1, by omega⟩, by omega, by omega⟩) | (simp_all; omega)) | (simp_all; done) | (simp_all; omega) | grind | ((try simp only [W_def, show ∀ x, IntKind.i64.wrap x = W x from fun _ => rfl] at *); omega)))
      refine cR (s_RenewalDigest_ok (nth a0.Chain a2.toNat).Method (nth a0.Chain (W (a2 - 1)).toNat) (sg (sm_nth (TStrand.sm_Chain u0)))) ?_ (hrows := by first | (simp; done) | (simp [W, w2]; done))
      simp [g1x]
      repeat ((with_reducible refine And.intro ?_ ?_); focus (intros; first | first | omega | (have cc : a0.Chain.length ≤ 2318336 := sm_len (by simp (maxDischargeDepth := 12) [u0]); have z0 := g1x; simp at z0; have z := s_l1In_idx (by omega) z0.1; have z2 := z0.2; (try have w3 : IntKind.i64.wrap (a2 - 1) = a2 - 1 := wrap_of (by omega) (by omega)); (try have w4 : W (a2 - 1) = a2 - 1 := w3); first | omega | (refine ⟨⟨z0.1, by omega⟩, by omega, by omega⟩) | (simp_all; omega)) | (simp_all; done) | (simp_all; omega) | grind | ((try simp only [W_def, show ∀ x, IntKind.i64.wrap x = W x from fun _ => rfl] at *); omega)))
      refine okD fun k8 => ?_
      refine drawI mixed (by kernel_rfl) (by kernel_rfl) ?_
      have i8 : a2.toNat < a1.length := by (have cc : a0.Chain.length ≤ 2318336 := sm_len (by simp (maxDischargeDepth := 12) [u0]); have z0 := g1x; simp at z0; have z := s_l1In_idx (by omega) z0.1; have z2 := z0.2; (try have w3 : IntKind.i64.wrap (a2 - 1) = a2 - 1 := wrap_of (by omega) (by omega)); (try have w4 : W (a2 - 1) = a2 - 1 := w3); omega)
      simp [i8, rowAt_map, i6, g1x]
      repeat ((with_reducible refine And.intro ?_ ?_); focus (intros; first | first | omega | (have cc : a0.Chain.length ≤ 2318336 := sm_len (by simp (maxDischargeDepth := 12) [u0]); have z0 := g1x; simp at z0; have z := s_l1In_idx (by omega) z0.1; have z2 := z0.2; (try have w3 : IntKind.i64.wrap (a2 - 1) = a2 - 1 := wrap_of (by omega) (by omega)); (try have w4 : W (a2 - 1) = a2 - 1 := w3); first | omega | (refine ⟨⟨z0.1, by omega⟩, by omega, by omega⟩) | (simp_all; omega)) | (simp_all; done) | (simp_all; omega) | grind | ((try simp only [W_def, show ∀ x, IntKind.i64.wrap x = W x from fun _ => rfl] at *); omega)))
      refine cR (s_LeafOf_ok (nth a0.Chain a2.toNat).Method (nth a1 a2.toNat) (a0.Pieces.take (nth a0.Chain a2.toNat).Count.toNat) (s_RenewalDigest (nth a0.Chain a2.toNat).Method (nth a0.Chain (W (a2 - 1)).toNat)) (sm_mono (n := 2318336) (by decide) (by simp (maxDischargeDepth := 12) [u0, u1]))) ?_ (hrows := by first | (simp; done) | (simp [W, w2]; done))
      simp [g1x]
      repeat ((with_reducible refine And.intro ?_ ?_); focus (intros; first | first | omega | (have cc : a0.Chain.length ≤ 2318336 := sm_len (by simp (maxDischargeDepth := 12) [u0]); have z0 := g1x; simp at z0; have z := s_l1In_idx (by omega) z0.1; have z2 := z0.2; (try have w3 : IntKind.i64.wrap (a2 - 1) = a2 - 1 := wrap_of (by omega) (by omega)); (try have w4 : W (a2 - 1) = a2 - 1 := w3); first | omega | (refine ⟨⟨z0.1, by omega⟩, by omega, by omega⟩) | (simp_all; omega)) | (simp_all; done) | (simp_all; omega) | grind | ((try simp only [W_def, show ∀ x, IntKind.i64.wrap x = W x from fun _ => rfl] at *); omega)))
      refine retRd (rv := [.tmp 6]) rfl ?_
      have f5 := s_LeafAt.eq_1 a0 a1 a2; simp only [h3, h4, cond_t, cond_f] at f5; simp [f5, g1x]
    ·try (have z := h4; simp [g1x] at z; done)
     all_goals
      have q4 := h4; try simp at q4
      simp [g1x]
      repeat ((with_reducible refine And.intro ?_ ?_); focus (intros; first | first | omega | (have cc : a0.Chain.length ≤ 2318336 := sm_len (by simp (maxDischargeDepth := 12) [u0]); have z0 := g1x; simp at z0; have z := s_l1In_idx (by omega) z0.1; have z2 := z0.2; (try have w3 : IntKind.i64.wrap (a2 - 1) = a2 - 1 := wrap_of (by omega) (by omega)); (try have w4 : W (a2 - 1) = a2 - 1 := w3); first | omega | (refine ⟨⟨z0.1, by omega⟩, by omega, by omega⟩) | (simp_all; omega)) | (simp_all; done) | (simp_all; omega) | grind | ((try simp only [W_def, show ∀ x, IntKind.i64.wrap x = W x from fun _ => rfl] at *); omega)))
      refine okD fun k9 => ?_
      refine drawI mixed (by kernel_rfl) (by kernel_rfl) ?_
      have i9 : a2.toNat < a1.length := by (have cc : a0.Chain.length ≤ 2318336 := sm_len (by simp (maxDischargeDepth := 12) [u0]); have z0 := g1x; simp at z0; have z := s_l1In_idx (by omega) z0.1; have z2 := z0.2; (try have w3 : IntKind.i64.wrap (a2 - 1) = a2 - 1 := wrap_of (by omega) (by omega)); (try have w4 : W (a2 - 1) = a2 - 1 := w3); omega)
      simp [i9, rowAt_map, i6, g1x]
      repeat ((with_reducible refine And.intro ?_ ?_); focus (intros; first | first | omega | (have cc : a0.Chain.length ≤ 2318336 := sm_len (by simp (maxDischargeDepth := 12) [u0]); have z0 := g1x; simp at z0; have z := s_l1In_idx (by omega) z0.1; have z2 := z0.2; (try have w3 : IntKind.i64.wrap (a2 - 1) = a2 - 1 := wrap_of (by omega) (by omega)); (try have w4 : W (a2 - 1) = a2 - 1 := w3); first | omega | (refine ⟨⟨z0.1, by omega⟩, by omega, by omega⟩) | (simp_all; omega)) | (simp_all; done) | (simp_all; omega) | grind | ((try simp only [W_def, show ∀ x, IntKind.i64.wrap x = W x from fun _ => rfl] at *); omega)))
      refine cR (s_LeafOf_ok (nth a0.Chain a2.toNat).Method (nth a1 a2.toNat) (a0.Pieces.take (nth a0.Chain a2.toNat).Count.toNat) 0 (sm_mono (n := 2318336) (by decide) (by simp (maxDischargeDepth := 12) [u0, u1]))) ?_
      simp [g1x]
      repeat ((with_reducible refine And.intro ?_ ?_); focus (intros; first | first | omega | (have cc : a0.Chain.length ≤ 2318336 := sm_len (by simp (maxDischargeDepth := 12) [u0]); have z0 := g1x; simp at z0; have z := s_l1In_idx (by omega) z0.1; have z2 := z0.2; (try have w3 : IntKind.i64.wrap (a2 - 1) = a2 - 1 := wrap_of (by omega) (by omega)); (try have w4 : W (a2 - 1) = a2 - 1 := w3); first | omega | (refine ⟨⟨z0.1, by omega⟩, by omega, by omega⟩) | (simp_all; omega)) | (simp_all; done) | (simp_all; omega) | grind | ((try simp only [W_def, show ∀ x, IntKind.i64.wrap x = W x from fun _ => rfl] at *); omega)))
      refine retRd (rv := [.tmp 6]) rfl ?_
      have f6 := s_LeafAt.eq_1 a0 a1 a2; simp only [h3, h4, cond_t, cond_f] at f6; simp [f6, g1x]
theorem s_PairDigest_ok (a0 : Int) (a1 : Int) (a2 : Int) : SoundAt Tryz.prog 226 false [[.int .i64 a0], [.int .i64 a1], [.int .i64 a2]] [[.int .i64 (s_PairDigest a0 a1 a2)]] := by
 refine sound_of Tryz.func226 rfl (by kernel_rfl) ?_
 simp [Tryz.ntmps226]
 refine cR (s_DigestOf_ok a0 ([1, a1, a2] : List Int) (by simp (maxDischargeDepth := 12) [sm_append, sm_list]; try omega)) ?_
 simp
 refine retRd (rv := [.tmp 6]) rfl ?_
 have f1 := s_PairDigest.eq_1 a0 a1 a2; simp [f1]
theorem s_FollowPath_ok (a0 : Int) (a1 : Int) (a2 : List TStep) : SoundAt Tryz.prog 201 false [[.int .i64 a0], [.int .i64 a1], [.sl 2 (a2.map TStep.row)]] [[.int .i64 (s_FollowPath a0 a1 a2)]] := by
 refine sound_of Tryz.func201 rfl (by kernel_rfl) ?_
 simp [Tryz.ntmps201]
 refine okL fun k1 => ?_
 refine loopI (ι := { s : Nat × Int × Nat // s_FollowPath_1 a0 a2 s.1 s.2.1 s.2.2 = s_FollowPath_1 a0 a2 (a2.length + 1) a1 0 ∧ (1 ≤ s.1 ∧ a2.length < s.1 + s.2.2 ∧ s.2.2 ≤ a2.length) }) (fun s => stOf 38 [eI 0 a0, eL 2 2 a2 TStep.row, eI 7 s.1.2.1, eI 8 (↑s.1.2.2 : Int)]) (fun s => s.1.1) ⟨((a2.length + 1), a1, 0), rfl, by first | omega | (dsimp only; omega) | simp⟩ (wk_keep (by simp)) ?_
 rintro ⟨⟨n1, v1_0, v1_1⟩, e1, j1⟩
 try dsimp only at e1 j1
 obtain ⟨p1, rfl⟩ : ∃ p, n1 = p + 1 := ⟨n1 - 1, by omega⟩
 simp
 refine cC (decide ((↑v1_1 : Int) < (↑a2.length : Int))) (fun k2 h1 => ?_) (fun k2 h1 => ?_)
 ·have q1 := h1; try simp at q1
  have i1 : v1_1 < a2.length := by simpa using h1
  have m2 : a2.length ≤ 9223372036854775807 := by simpa using k2 2 _ rfl
  have w1 : IntKind.i64.wrap ((v1_1 : Int) + 1) = (v1_1 : Int) + 1 := wrap_of (by omega) (by omega)
  simp [i1, rowAt_map]
  repeat with_reducible refine sd ?_
  refine cC (nth a2 v1_1).Left (fun k3 h2 => ?_) (fun k3 h2 => ?_)
  ·have q2 := h2; try simp at q2
   simp [i1, rowAt_map]
   repeat with_reducible refine sd ?_
   refine cR (s_PairDigest_ok a0 (nth a2 v1_1).Digest v1_0) ?_
   simp
   refine nxtI ⟨(p1, (s_PairDigest a0 (nth a2 v1_1).Digest v1_0), (v1_1 + 1)), ?_, ?_⟩ (by simp) (wk_keep (by simp [w1]))
   · rw [← e1]; simp only [s_FollowPath_1, h1, h2, cond_t, cond_f]
   · first | omega | (simp at *; omega)
  ·have q2 := h2; try simp at q2
   simp [i1, rowAt_map]
   repeat with_reducible refine sd ?_
   refine cR (s_PairDigest_ok a0 v1_0 (nth a2 v1_1).Digest) ?_
   simp
   refine nxtI ⟨(p1, (s_PairDigest a0 v1_0 (nth a2 v1_1).Digest), (v1_1 + 1)), ?_, ?_⟩ (by simp) (wk_keep (by simp [w1]))
   · rw [← e1]; simp only [s_FollowPath_1, h1, h2, cond_t, cond_f]
   · first | omega | (simp at *; omega)
 ·have q1 := h1; try simp at q1
  have x1 : s_FollowPath_1 a0 a2 (a2.length + 1) a1 0 = v1_0 := by rw [← e1]; simp only [s_FollowPath_1, h1, cond_t, cond_f]
  simp
  refine retRd (rv := [.tmp 6]) rfl ?_
  have f1 := s_FollowPath.eq_1 a0 a1 a2; simp only [x1, cond_t, cond_f] at f1; simp [f1]
theorem s_KeyedHash_ok (a0 : Int) (a1 : List Int) (u0 : Sm 2330624 a1) : SoundAt Tryz.prog 150 false [[.int .i64 a0], [.sl 1 (a1.map iR)]] [[.int .i64 (s_KeyedHash a0 a1)]] := by
 refine sound_of Tryz.func150 rfl (by kernel_rfl) ?_
 have c1 : a1.length ≤ 2330624 := sm_len (by simp (maxDischargeDepth := 12) [u0])
 simp [Tryz.ntmps150]
 repeat with_reducible refine sd ?_
 refine cR (s_Hash_ok ((([a0] : List Int) ++ a1) ++ ([a0] : List Int))) ?_
 simp
 refine retRd (rv := [.tmp 4]) rfl ?_
 have f1 := s_KeyedHash.eq_1 a0 a1; simp [f1]
theorem s_MarkWith_ok (a0 : TKey) (a1 : List Int) (u0 : Sm 2326528 a1) : SoundAt Tryz.prog 100 false [a0.row, [.sl 1 (a1.map iR)]] [[.int .i64 (s_MarkWith a0 a1)]] := by
 refine sound_of Tryz.func100 rfl (by kernel_rfl) ?_
 simp [Tryz.ntmps100]
 refine okD fun k1 => ?_
 refine drawP [2, 3, 4, 5, 6, 0, 1, 7, 8] mixed (by kernel_rfl) (by kernel_rfl) (by kernel_rfl) ?_
 have c1 : a1.length ≤ 2326528 := sm_len (by simp (maxDischargeDepth := 12) [u0])
 simp
 repeat with_reducible refine sd ?_
 refine cR (s_KeyedHash_ok a0.Secret (([a0.Method] : List Int) ++ a1) (by simp (maxDischargeDepth := 12) [sm_append, sm_list, sm_mono (m := 2330624) (by decide) u0]; try omega)) ?_
 simp
 refine retRd (rv := [.tmp 4]) rfl ?_
 have f1 := s_MarkWith.eq_1 a0 a1; simp [f1]
theorem s_MakeStamp_ok (a0 : List TKey) (a1 : List TAuthority) (a2 : TStamp) (u0 : Sm 2322432 a0) (u1 : Sm 2322432 a1) : SoundAt Tryz.prog 52 false [[.sl 5 (a0.map TKey.row)], [.sl 3 (a1.map TAuthority.row)], a2.row] [(s_MakeStamp a0 a1 a2).1.row, [.bool (s_MakeStamp a0 a1 a2).2]] := by
 refine sound_of Tryz.func52 rfl (by kernel_rfl) ?_
 simp [Tryz.ntmps52]
 refine cR (s_FindAuthority_ok a1 a2.Authority) ?_
 simp
 refine cG (fun gg => (s_l4Time_ok a2.Time)) ?_
 simp
 refine cC (((decide ((s_FindAuthority a1 a2.Authority) < 0)) || (decide (a2.Seq < 0))) || (!(s_l4Time a2.Time))) (fun k1 h1 => ?_) (fun k1 h1 => ?_)
 ·have q1 := h1; try simp at q1
  simp
  refine retRd (rv := [.cell 6 86, .tmp 7]) rfl ?_
  have f1 := s_MakeStamp.eq_1 a0 a1 a2; simp only [h1, cond_t, cond_f] at f1; simp [f1]
 ·have q1 := h1; try simp at q1
  have i1 : (s_FindAuthority a1 a2.Authority).toNat < a1.length := by have := s_FindAuthority_lt a1 a2.Authority; exact il
  simp [i1, rowAt_map]
  repeat with_reducible refine sd ?_
  refine cR (s_FindKey_ok a0 (nth a1 (s_FindAuthority a1 a2.Authority).toNat).Key) ?_
  simp
  refine cC (decide ((s_FindKey a0 (nth a1 (s_FindAuthority a1 a2.Authority).toNat).Key) < 0)) (fun k2 h2 => ?_) (fun k2 h2 => ?_)
  ·have q2 := h2; try simp at q2
   simp
   refine retRd (rv := [.cell 6 86, .tmp 7]) rfl ?_
   have f2 := s_MakeStamp.eq_1 a0 a1 a2; simp only [h1, h2, cond_t, cond_f] at f2; simp [f2]
  ·have q2 := h2; try simp at q2
   simp
   refine okD fun k3 => ?_
   refine drawI mixed (by kernel_rfl) (by kernel_rfl) ?_
   have i2 : (s_FindKey a0 (nth a1 (s_FindAuthority a1 a2.Authority).toNat).Key).toNat < a0.length := by have := s_FindKey_lt a0 (nth a1 (s_FindAuthority a1 a2.Authority).toNat).Key; exact il
   simp [i2, rowAt_map]
   repeat with_reducible refine sd ?_
   refine cR (SoundD.rd (s_StampInts_ok a2)) ?_
   simp
   refine cR (s_MarkWith_ok (nth a0 (s_FindKey a0 (nth a1 (s_FindAuthority a1 a2.Authority).toNat).Key).toNat) (s_StampInts a2) (by simp (maxDischargeDepth := 12) [s_StampInts_sm, sm_mono (m := 2326528) (by decide) u0, sm_mono (m := 2326528) (by decide) u1]; try omega)) ?_
   simp
   refine retRd (rv := [.cell 6 86, .tmp 7]) rfl ?_
   have f3 := s_MakeStamp.eq_1 a0 a1 a2; simp only [h1, h2, cond_t, cond_f] at f3; simp [f3]
theorem s_CheckStamp_ok (a0 : List TKey) (a1 : List TAuthority) (a2 : TStamp) (u0 : Sm 2318336 a0) (u1 : Sm 2318336 a1) : SoundAt Tryz.prog 202 false [[.sl 5 (a0.map TKey.row)], [.sl 3 (a1.map TAuthority.row)], a2.row] [[.bool (s_CheckStamp a0 a1 a2)]] := by
 refine sound_of Tryz.func202 rfl (by kernel_rfl) ?_
 simp [Tryz.ntmps202]
 refine cR (s_MakeStamp_ok a0 a1 a2 (sg u0) (sg u1)) ?_
 simp
 refine retRd (rv := [.tmp 6]) rfl ?_
 have f1 := s_CheckStamp.eq_1 a0 a1 a2; simp [f1]
theorem s_CheckRenewal_ok (a0 : List TKey) (a1 : List TAuthority) (a2 : TRenewal) (a3 : Int) (u0 : Sm 2314240 a0) (u1 : Sm 2314240 a1) (u2 : Sm 2314240 a2) : SoundAt Tryz.prog 171 false [[.sl 5 (a0.map TKey.row)], [.sl 3 (a1.map TAuthority.row)], a2.row, [.int .i64 a3]] [[.bool (s_CheckRenewal a0 a1 a2 a3)]] := by
 refine sound_of Tryz.func171 rfl (by kernel_rfl) ?_
 simp [Tryz.ntmps171]
 refine okD fun k1 => ?_
 refine drawI mixed (by kernel_rfl) (by kernel_rfl) ?_
 simp
 refine cG (fun gg => (s_FollowPath_ok a2.Method a3 a2.Path)) ?_
 simp
 refine cG (fun gg => (s_l1In_ok (↑a2.Stamps.length : Int) 1 6)) ?_
 simp
 refine cC (((decide ((↑a2.Path.length : Int) > 4)) || ((s_FollowPath a2.Method a3 a2.Path) != a2.Root)) || (!(s_l1In (↑a2.Stamps.length : Int) 1 6))) (fun k2 h1 => ?_) (fun k2 h1 => ?_)
 ·have q1 := h1; try simp [s_l1In] at q1
  simp
  refine retRd (rv := [.tmp 8]) rfl ?_
  have f1 := s_CheckRenewal.eq_1 a0 a1 a2 a3; simp only [h1, cond_t, cond_f] at f1; simp [f1]
 ·have q1 := h1; try simp [s_l1In] at q1
  simp
  refine okL fun k3 => ?_
  refine loopI (ι := { s : Nat × Nat // s_CheckRenewal_1 a0 a1 a2 s.1 s.2 = s_CheckRenewal_1 a0 a1 a2 (a2.Stamps.length + 1) 0 ∧ (1 ≤ s.1 ∧ a2.Stamps.length < s.1 + s.2 ∧ s.2 ≤ a2.Stamps.length) }) (fun s => stOf 73 [eL 0 5 a0 TKey.row, eL 1 3 a1 TAuthority.row, eX 6 (a2.row.map .d), eI 9 (↑s.1.2 : Int)]) (fun s => s.1.1) ⟨((a2.Stamps.length + 1), 0), rfl, by first | omega | (dsimp only; omega) | simp⟩ (wk_keep (by simp)) ?_
  rintro ⟨⟨n1, v1_0⟩, e1, j1⟩
  try dsimp only at e1 j1
  obtain ⟨p1, rfl⟩ : ∃ p, n1 = p + 1 := ⟨n1 - 1, by omega⟩
  simp
  refine cC (decide ((↑v1_0 : Int) < (↑a2.Stamps.length : Int))) (fun k4 h2 => ?_) (fun k4 h2 => ?_)
  ·have q2 := h2; try simp at q2
   have i1 : v1_0 < a2.Stamps.length := by simpa using h2
   have m2 : a2.Stamps.length ≤ 9223372036854775807 := by simpa using k4 35 _ rfl
   have c1 : a2.Stamps.length ≤ 2314240 := sm_len (by simp (maxDischargeDepth := 12) [u0, u1, u2])
   have w1 : IntKind.i64.wrap ((v1_0 : Int) + 1) = (v1_0 : Int) + 1 := wrap_of (by omega) (by omega)
   simp [i1, rowAt_map]
   repeat with_reducible refine sd ?_
   refine okD fun k5 => ?_
   refine drawI mixed (by kernel_rfl) (by kernel_rfl) ?_
   simp
   refine guardI rfl rfl rfl rfl rfl (by simp) (fun g1 => ?_) (fun g1 => ?_)
   ·have g1x := g1; try simp only [beq_true, beq_false, Bool.not_eq_true', Bool.not_eq_false', Bool.true_and, Bool.and_true] at g1x
    try simp at g1
    have i2 : (v1_0 - 1) < a2.Stamps.length := il
    have w2 : IntKind.i64.wrap ((v1_0 : Int) - 1) = (v1_0 : Int) - 1 := wrap_of (by omega) (by omega)
    simp [i2, rowAt_map, w2, toNat_pred, g1x]
    repeat with_reducible refine sdg ?_
    refine callG rfl rfl rfl rfl rfl rfl (fun gg => (s_CheckStamp_ok a0 a1 (nth a2.Stamps v1_0) (sg u0) (sg u1))) (by first | (simp; done) | (simp [g1x]; done) | (simp [g1x]; omega) | (simp_all; done)) (by first | (simp; done) | (simp [g1x]; done) | (simp [g1x]; omega) | (simp_all; done)) (by first | (simp; done) | (simp [g1x]; done) | (simp [g1x]; omega) | (simp_all; done)) (by first | (simp; done) | (simp [g1x]; done) | (simp [g1x]; omega) | (simp_all; done)) ?_
    simp [g1x]
    repeat with_reducible refine sdg ?_
    refine condR (c := ((((nth a2.Stamps v1_0).Digest != a2.Root) || ((decide ((↑v1_0 : Int) > 0)) && (decide ((nth a2.Stamps (v1_0 - 1)).Authority ≥ (nth a2.Stamps v1_0).Authority)))) || (!(s_CheckStamp a0 a1 (nth a2.Stamps v1_0))))) (by first | (simp [g1x]; done) | grind) (fun k6 h3 => ?_) (fun k6 h3 => ?_)
    ·try (have z := h3; simp [g1x] at z; done)
     all_goals
      have q3 := h3; try simp at q3
      have x1 : s_CheckRenewal_1 a0 a1 a2 (a2.Stamps.length + 1) 0 = .inl false := by rw [← e1]; simp only [s_CheckRenewal_1, h2, h3, cond_t, cond_f]
      simp [g1x]
      repeat with_reducible refine sdg ?_
      refine retRd (rv := [.tmp 8]) rfl ?_
      have f2 := s_CheckRenewal.eq_1 a0 a1 a2 a3; simp only [h1, x1, cond_t, cond_f] at f2; simp [f2, g1x]
    ·try (have z := h3; simp [g1x] at z; done)
     all_goals
      have q3 := h3; try simp at q3
      simp [g1x]
      repeat with_reducible refine sdg ?_
      refine nxtI ⟨(p1, (v1_0 + 1)), ?_, ?_⟩ (by simp) (wk_keep (by simp [w1, w2, g1x]))
      · rw [← e1]; simp only [s_CheckRenewal_1, h2, h3, cond_t, cond_f]
      · first | omega | (simp at *; omega)
   ·have g1x := g1; try simp only [beq_true, beq_false, Bool.not_eq_true', Bool.not_eq_false', Bool.true_and, Bool.and_true] at g1x
    simp [g1x]
    repeat with_reducible refine sdg ?_
    refine callG rfl rfl rfl rfl rfl rfl (fun gg => (s_CheckStamp_ok a0 a1 (nth a2.Stamps v1_0) (sg u0) (sg u1))) (by first | (simp; done) | (simp [g1x]; done) | (simp [g1x]; omega) | (simp_all; done)) (by first | (simp; done) | (simp [g1x]; done) | (simp [g1x]; omega) | (simp_all; done)) (by first | (simp; done) | (simp [g1x]; done) | (simp [g1x]; omega) | (simp_all; done)) (by first | (simp; done) | (simp [g1x]; done) | (simp [g1x]; omega) | (simp_all; done)) ?_
    simp [g1x]
    repeat with_reducible refine sdg ?_
    refine condR (c := ((((nth a2.Stamps v1_0).Digest != a2.Root) || ((decide ((↑v1_0 : Int) > 0)) && (decide ((nth a2.Stamps (v1_0 - 1)).Authority ≥ (nth a2.Stamps v1_0).Authority)))) || (!(s_CheckStamp a0 a1 (nth a2.Stamps v1_0))))) (by first | (simp [g1x]; done) | grind) (fun k7 h4 => ?_) (fun k7 h4 => ?_)
    ·try (have z := h4; simp [g1x] at z; done)
     all_goals
      have q4 := h4; try simp at q4
      have x2 : s_CheckRenewal_1 a0 a1 a2 (a2.Stamps.length + 1) 0 = .inl false := by rw [← e1]; simp only [s_CheckRenewal_1, h2, h4, cond_t, cond_f]
      simp [g1x]
      repeat with_reducible refine sdg ?_
      refine retRd (rv := [.tmp 8]) rfl ?_
      have f3 := s_CheckRenewal.eq_1 a0 a1 a2 a3; simp only [h1, x2, cond_t, cond_f] at f3; simp [f3, g1x]
    ·try (have z := h4; simp [g1x] at z; done)
     all_goals
      have q4 := h4; try simp at q4
      simp [g1x]
      repeat with_reducible refine sdg ?_
      refine nxtI ⟨(p1, (v1_0 + 1)), ?_, ?_⟩ (by simp) (wk_keep (by simp [w1, g1x]))
      · rw [← e1]; simp only [s_CheckRenewal_1, h2, h4, cond_t, cond_f]
      · first | omega | (simp at *; omega)
  ·have q2 := h2; try simp at q2
   have c2 : a2.Stamps.length ≤ 2314240 := sm_len (by simp (maxDischargeDepth := 12) [u0, u1, u2])
   have x3 : s_CheckRenewal_1 a0 a1 a2 (a2.Stamps.length + 1) 0 = .inr () := by rw [← e1]; simp only [s_CheckRenewal_1, h2, cond_t, cond_f]
   simp
   refine retRd (rv := [.tmp 8]) rfl ?_
   have f4 := s_CheckRenewal.eq_1 a0 a1 a2 a3; simp only [h1, x3, cond_t, cond_f] at f4; simp [f4]
theorem s_l21Kept_ok (a0 : TFrame) (a1 : TStrand) (a2 : List Int) (a3 : Int) (u0 : Sm 2310144 a0) (u1 : Sm 2310144 a1) (u2 : Sm 2310144 a2) (u3 : 0 ≤ a3 ∧ a3 < (a1.Chain.length : Int)) : SoundAt Tryz.prog 134 false [a0.row, a1.row, [.sl 1 (a2.map iR)], [.int .i64 a3]] [[.bool (s_l21Kept a0 a1 a2 a3)]] := by
 refine sound_of Tryz.func134 rfl (by kernel_rfl) ?_
 simp [Tryz.ntmps134]
 refine okD fun k1 => ?_
 refine drawI mixed (by kernel_rfl) (by kernel_rfl) ?_
 have i1 : a3.toNat < a1.Chain.length := il
 simp [i1, rowAt_map]
 repeat with_reducible refine sd ?_
 refine cR (s_RenewalSpan_ok a0.Authorities (nth a1.Chain a3.toNat) a0.Liars (sg (TFrame.sm_Authorities u0)) (sg (sm_nth (TStrand.sm_Chain u1)))) ?_
 simp
 refine okD fun k2 => ?_
 refine drawI mixed (by kernel_rfl) (by kernel_rfl) ?_
 simp
 refine cG (fun gg => (s_LinkHolds_ok a0 a1 a3 (sg u0) (sg u1))) ?_
 simp
 refine guardI rfl rfl rfl rfl rfl (by simp) (fun g1 => ?_) (fun g1 => ?_)
 ·have g1x := g1; try simp only [beq_true, beq_false, Bool.not_eq_true', Bool.not_eq_false', Bool.true_and, Bool.and_true] at g1x
  try simp at g1
  simp [i1, rowAt_map, g1x]
  repeat with_reducible refine sdg ?_
  refine callG rfl rfl rfl rfl rfl rfl (fun gg => (s_LeafAt_ok a1 a2 a3 (sg u1) (sg u2))) (by first | (simp; done) | (simp [g1x]; done) | (simp [g1x]; omega) | (simp_all; done)) (by first | (simp; done) | (simp [g1x]; done) | (simp [g1x]; omega) | (simp_all; done)) (by first | (simp; done) | (simp [g1x]; done) | (simp [g1x]; omega) | (simp_all; done)) (by first | (simp; done) | (simp [g1x]; done) | (simp [g1x]; omega) | (simp_all; done)) ?_
  simp [g1x]
  repeat with_reducible refine sdg ?_
  refine callG rfl rfl rfl rfl rfl rfl (fun gg => (s_CheckRenewal_ok a0.Keys a0.Authorities (nth a1.Chain a3.toNat) (s_LeafAt a1 a2 a3) (sg (TFrame.sm_Keys u0)) (sg (TFrame.sm_Authorities u0)) (sg (sm_nth (TStrand.sm_Chain u1))))) (by first | (simp; done) | (simp [g1x]; done) | (simp [g1x]; omega) | (simp_all; done)) (by first | (simp; done) | (simp [g1x]; done) | (simp [g1x]; omega) | (simp_all; done)) (by first | (simp; done) | (simp [g1x]; done) | (simp [g1x]; omega) | (simp_all; done)) (by first | (simp; done) | (simp [g1x]; done) | (simp [g1x]; omega) | (simp_all; done)) ?_
  simp [g1x]
  repeat with_reducible refine sdg ?_
  refine retRd (rv := [.tmp 8]) rfl ?_
  have f1 := s_l21Kept.eq_1 a0 a1 a2 a3; simp [f1, g1x]
 ·have g1x := g1; try simp only [beq_true, beq_false, Bool.not_eq_true', Bool.not_eq_false', Bool.true_and, Bool.and_true] at g1x
  simp [g1x]
  repeat with_reducible refine sdg ?_
  refine skipG rfl rfl rfl rfl (by simp) (by simp [g1x]) ?_
  simp [g1x]
  repeat with_reducible refine sdg ?_
  refine skipG rfl rfl rfl rfl (by simp) (by simp [g1x]) ?_
  simp [g1x]
  repeat with_reducible refine sdg ?_
  refine retRd (rv := [.tmp 8]) rfl ?_
  have f2 := s_l21Kept.eq_1 a0 a1 a2 a3; simp [f2, g1x]
theorem s_FirstKept_ok (a0 : TFrame) (a1 : TStrand) (a2 : List Int) (u0 : Sm 2306048 a0) (u1 : Sm 2306048 a1) (u2 : Sm 2306048 a2) : SoundAt Tryz.prog 88 false [a0.row, a1.row, [.sl 1 (a2.map iR)]] [[.int .i64 (s_FirstKept a0 a1 a2)]] := by
 refine sound_of Tryz.func88 rfl (by kernel_rfl) ?_
 simp [Tryz.ntmps88]
 refine okL fun k1 => ?_
 refine loopI (ι := { s : Nat × Nat // s_FirstKept_1 a0 a1 a2 s.1 s.2 = s_FirstKept_1 a0 a1 a2 (a1.Chain.length + 1) a1.Chain.length ∧ (1 ≤ s.1 ∧ s.2 < s.1 ∧ s.2 ≤ a1.Chain.length) }) (fun s => stOf 24 [eL 2 1 a2 iR, eX 3 (a0.row.map .d), eX 4 (a1.row.map .d), eI 7 (↑s.1.2 : Int)]) (fun s => s.1.1) ⟨((a1.Chain.length + 1), a1.Chain.length), rfl, by first | omega | (dsimp only; omega) | simp⟩ (wk_keep (by simp)) ?_
 rintro ⟨⟨n1, v1_0⟩, e1, j1⟩
 try dsimp only at e1 j1
 obtain ⟨p1, rfl⟩ : ∃ p, n1 = p + 1 := ⟨n1 - 1, by omega⟩
 simp
 refine cG (fun gg => (s_l21Kept_ok a0 a1 a2 (W ((↑v1_0 : Int) - 1)) (sg u0) (sg u1) (sg u2) (by (have g2 : ((decide (0 < v1_0)) == true) = true := gg; simp at g2; have cc : a1.Chain.length ≤ 2306048 := sm_len (by simp (maxDischargeDepth := 12) [u1]); have ww : W ((v1_0 : Int) - 1) = (v1_0 : Int) - 1 := wrap_of (by omega) (by omega); rw [ww]; omega)))) ?_
 simp
 refine cC ((decide ((↑v1_0 : Int) > 0)) && (s_l21Kept a0 a1 a2 (W ((↑v1_0 : Int) - 1)))) (fun k2 h1 => ?_) (fun k2 h1 => ?_)
 ·have q1 := h1; try simp at q1
  have m1 : a1.Chain.length ≤ 9223372036854775807 := by simpa using k1 9 _ rfl
  have w1 : IntKind.i64.wrap ((v1_0 : Int) - 1) = (v1_0 : Int) - 1 := wrap_of (by omega) (by omega)
  have w2 : ((v1_0 - 1 : Nat) : Int) = (v1_0 : Int) - 1 := by omega
  simp
  refine nxtI ⟨(p1, (v1_0 - 1)), ?_, ?_⟩ (by simp) (wk_keep (by simp [w1, w2]))
  · rw [← e1]; simp only [s_FirstKept_1, h1, cond_t, cond_f]
  · first | omega | (simp at *; omega)
 ·have q1 := h1; try simp at q1
  have x1 : s_FirstKept_1 a0 a1 a2 (a1.Chain.length + 1) a1.Chain.length = v1_0 := by rw [← e1]; simp only [s_FirstKept_1, h1, cond_t, cond_f]
  simp
  refine retRd (rv := [.tmp 6]) rfl ?_
  have f1 := s_FirstKept.eq_1 a0 a1 a2; simp only [x1, cond_t, cond_f] at f1; simp [f1]
theorem s_IsUnbroken_ok (a0 : TFrame) (a1 : TStrand) (a2 : List Int) (u0 : Sm 2301952 a0) (u1 : Sm 2301952 a1) (u2 : Sm 2301952 a2) : SoundAt Tryz.prog 42 false [a0.row, a1.row, [.sl 1 (a2.map iR)]] [[.bool (s_IsUnbroken a0 a1 a2)]] := by
 refine sound_of Tryz.func42 rfl (by kernel_rfl) ?_
 simp [Tryz.ntmps42]
 refine cG (fun gg => (s_FirstKept_ok a0 a1 a2 (sg u0) (sg u1) (sg u2))) ?_
 simp
 refine retRd (rv := [.tmp 6]) rfl ?_
 have f1 := s_IsUnbroken.eq_1 a0 a1 a2; simp [f1]
theorem s_IsUnbrokenItem_ok (a0 : TWorld) (a1 : Int) (u0 : Sm 2297856 a0) : SoundAt Tryz.prog 15 false [a0.row, [.int .i64 a1]] [[.bool (s_IsUnbrokenItem a0 a1)]] := by
 refine sound_of Tryz.func15 rfl (by kernel_rfl) ?_
 simp [Tryz.ntmps15]
 refine cR (s_FindIn_ok a0 a1) ?_
 simp
 refine cC (decide ((s_FindIn a0 a1).1 < 0)) (fun k1 h1 => ?_) (fun k1 h1 => ?_)
 ·have q1 := h1; try simp at q1
  simp
  refine retRd (rv := [.tmp 4]) rfl ?_
  have f1 := s_IsUnbrokenItem.eq_1 a0 a1; simp only [h1, cond_t, cond_f] at f1; simp [f1]
 ·have q1 := h1; try simp at q1
  have i1 : (s_FindIn a0 a1).1.toNat < a0.Archives.length := by (have fi := s_FindIn_ok' a0 a1 (by (try simp at q1); omega); omega)
  have i2 : (s_FindIn a0 a1).2.toNat < (nth a0.Archives (s_FindIn a0 a1).1.toNat).Items.length := by (have fi := s_FindIn_ok' a0 a1 (by (try simp at q1); omega); omega)
  simp [i1, rowAt_map, i2]
  repeat ((with_reducible refine And.intro ?_ ?_); focus (intros; first | first | omega | (have fi := s_FindIn_ok' a0 a1 (by (try simp at q1); omega); omega) | ((try simp only [W_def, show ∀ x, IntKind.i64.wrap x = W x from fun _ => rfl] at *); omega)))
  refine okD fun k2 => ?_
  refine drawI mixed (by kernel_rfl) (by kernel_rfl) ?_
  simp
  refine cR (SoundD.rd (s_DocDigests_ok (nth (nth a0.Archives (s_FindIn a0 a1).1.toNat).Items (s_FindIn a0 a1).2.toNat).Strand (nth (nth a0.Archives (s_FindIn a0 a1).1.toNat).Items (s_FindIn a0 a1).2.toNat).Doc (sg (TItem.sm_Strand (sm_nth (TArchive.sm_Items (sm_nth (TWorld.sm_Archives u0)))))) (sg (TItem.sm_Doc (sm_nth (TArchive.sm_Items (sm_nth (TWorld.sm_Archives u0)))))))) ?_
  simp
  refine cR (s_IsUnbroken_ok a0.Frame (nth (nth a0.Archives (s_FindIn a0 a1).1.toNat).Items (s_FindIn a0 a1).2.toNat).Strand (s_DocDigests (nth (nth a0.Archives (s_FindIn a0 a1).1.toNat).Items (s_FindIn a0 a1).2.toNat).Strand (nth (nth a0.Archives (s_FindIn a0 a1).1.toNat).Items (s_FindIn a0 a1).2.toNat).Doc) (sg (TWorld.sm_Frame u0)) (sg (TItem.sm_Strand (sm_nth (TArchive.sm_Items (sm_nth (TWorld.sm_Archives u0)))))) (by simp (maxDischargeDepth := 12) [s_DocDigests_sm, sm_mono (m := 2301952) (by decide) u0]; try omega)) ?_
  simp
  refine retRd (rv := [.tmp 4]) rfl ?_
  have f2 := s_IsUnbrokenItem.eq_1 a0 a1; simp only [h1, cond_t, cond_f] at f2; simp [f2]
theorem i_FindItem_ok (a0 : TArchive) (a1 : Int) : SoundAt Tryz.prog 90 false [a0.row, [.int .i64 a1]] [[.int .i64 (i_FindItem a0 a1)]] := by
 refine sound_of Tryz.func90 rfl (by kernel_rfl) ?_
 simp [Tryz.ntmps90]
 refine okL fun k1 => ?_
 refine loopI (ι := { s : Nat × Nat // i_FindItem_1 a0 a1 s.1 s.2 = i_FindItem_1 a0 a1 (a0.Items.length + 1) 0 ∧ (1 ≤ s.1 ∧ a0.Items.length < s.1 + s.2 ∧ s.2 ≤ a0.Items.length) }) (fun s => stOf 21 [eI 1 a1, eL 8 16 a0.Items TItem.row, eI 9 (↑a0.Items.length : Int), eI 10 (↑s.1.2 : Int)]) (fun s => s.1.1) ⟨((a0.Items.length + 1), 0), rfl, by first | omega | (dsimp only; omega) | simp⟩ (wk_keep (by simp)) ?_
 rintro ⟨⟨n1, v1_0⟩, e1, j1⟩
 try dsimp only at e1 j1
 obtain ⟨p1, rfl⟩ : ∃ p, n1 = p + 1 := ⟨n1 - 1, by omega⟩
 simp
 refine cC (decide ((↑v1_0 : Int) < (↑a0.Items.length : Int))) (fun k2 h1 => ?_) (fun k2 h1 => ?_)
 ·have q1 := h1; try simp at q1
  have i1 : v1_0 < a0.Items.length := by simpa using h1
  have m2 : a0.Items.length ≤ 9223372036854775807 := by simpa using k2 8 _ rfl
  have w1 : IntKind.i64.wrap ((v1_0 : Int) + 1) = (v1_0 : Int) + 1 := wrap_of (by omega) (by omega)
  simp [i1, rowAt_map]
  repeat with_reducible refine sd ?_
  refine cC ((nth a0.Items v1_0).Id == a1) (fun k3 h2 => ?_) (fun k3 h2 => ?_)
  ·have q2 := h2; try simp at q2
   have x1 : i_FindItem_1 a0 a1 (a0.Items.length + 1) 0 = .inl (↑v1_0 : Int) := by rw [← e1]; simp only [i_FindItem_1, h1, h2, cond_t, cond_f]
   simp
   refine retRd (rv := [.tmp 4]) rfl ?_
   have f1 := i_FindItem.eq_1 a0 a1; simp only [x1, cond_t, cond_f] at f1; simp [f1]
  ·have q2 := h2; try simp at q2
   simp
   refine nxtI ⟨(p1, (v1_0 + 1)), ?_, ?_⟩ (by simp) (wk_keep (by simp [w1]))
   · rw [← e1]; simp only [i_FindItem_1, h1, h2, cond_t, cond_f]
   · first | omega | (simp at *; omega)
 ·have q1 := h1; try simp at q1
  have x2 : i_FindItem_1 a0 a1 (a0.Items.length + 1) 0 = .inr () := by rw [← e1]; simp only [i_FindItem_1, h1, cond_t, cond_f]
  simp
  refine retRd (rv := [.tmp 4]) rfl ?_
  have f2 := i_FindItem.eq_1 a0 a1; simp only [x2, cond_t, cond_f] at f2; simp [f2]
theorem i_FindIn_ok (a0 : TWorld) (a1 : Int) : SoundAt Tryz.prog 44 false [a0.row, [.int .i64 a1]] [[.int .i64 (i_FindIn a0 a1).1], [.int .i64 (i_FindIn a0 a1).2]] := by
 refine sound_of Tryz.func44 rfl (by kernel_rfl) ?_
 simp [Tryz.ntmps44]
 refine okL fun k1 => ?_
 refine loopI (ι := { s : Nat × Nat // i_FindIn_1 a0 a1 s.1 s.2 = i_FindIn_1 a0 a1 (a0.Archives.length + 1) 0 ∧ (1 ≤ s.1 ∧ a0.Archives.length < s.1 + s.2 ∧ s.2 ≤ a0.Archives.length) }) (fun s => stOf 25 [eI 1 a1, eL 10 2 a0.Archives TArchive.row, eI 11 (↑a0.Archives.length : Int), eI 12 (↑s.1.2 : Int)]) (fun s => s.1.1) ⟨((a0.Archives.length + 1), 0), rfl, by first | omega | (dsimp only; omega) | simp⟩ (wk_keep (by simp)) ?_
 rintro ⟨⟨n1, v1_0⟩, e1, j1⟩
 try dsimp only at e1 j1
 obtain ⟨p1, rfl⟩ : ∃ p, n1 = p + 1 := ⟨n1 - 1, by omega⟩
 simp
 refine cC (decide ((↑v1_0 : Int) < (↑a0.Archives.length : Int))) (fun k2 h1 => ?_) (fun k2 h1 => ?_)
 ·have q1 := h1; try simp at q1
  have i1 : v1_0 < a0.Archives.length := by simpa using h1
  have m2 : a0.Archives.length ≤ 9223372036854775807 := by simpa using k2 10 _ rfl
  have w1 : IntKind.i64.wrap ((v1_0 : Int) + 1) = (v1_0 : Int) + 1 := wrap_of (by omega) (by omega)
  simp [i1, rowAt_map]
  repeat with_reducible refine sd ?_
  refine cR (i_FindItem_ok (nth a0.Archives v1_0) a1) ?_
  simp
  refine cC (decide ((i_FindItem (nth a0.Archives v1_0) a1) ≥ 0)) (fun k3 h2 => ?_) (fun k3 h2 => ?_)
  ·have q2 := h2; try simp at q2
   have x1 : i_FindIn_1 a0 a1 (a0.Archives.length + 1) 0 = .inl ((↑v1_0 : Int), (i_FindItem (nth a0.Archives v1_0) a1)) := by rw [← e1]; simp only [i_FindIn_1, h1, h2, cond_t, cond_f]
   simp
   refine retRd (rv := [.tmp 4, .tmp 5]) rfl ?_
   have f1 := i_FindIn.eq_1 a0 a1; simp only [x1, cond_t, cond_f] at f1; simp [f1]
  ·have q2 := h2; try simp at q2
   simp
   refine nxtI ⟨(p1, (v1_0 + 1)), ?_, ?_⟩ (by simp) (wk_keep (by simp [w1]))
   · rw [← e1]; simp only [i_FindIn_1, h1, h2, cond_t, cond_f]
   · first | omega | (simp at *; omega)
 ·have q1 := h1; try simp at q1
  have x2 : i_FindIn_1 a0 a1 (a0.Archives.length + 1) 0 = .inr () := by rw [← e1]; simp only [i_FindIn_1, h1, cond_t, cond_f]
  simp
  refine retRd (rv := [.tmp 4, .tmp 5]) rfl ?_
  have f2 := i_FindIn.eq_1 a0 a1; simp only [x2, cond_t, cond_f] at f2; simp [f2]
theorem i_InRange_ok (a0 : Int) (a1 : Int) (a2 : Int) : SoundAt Tryz.prog 156 false [[.int .i64 a0], [.int .i64 a1], [.int .i64 a2]] [[.bool (i_InRange a0 a1 a2)]] := by
 refine sound_of Tryz.func156 rfl (by kernel_rfl) ?_
 simp [Tryz.ntmps156]
 refine retRd (rv := [.tmp 6]) rfl ?_
 have f1 := i_InRange.eq_1 a0 a1 a2; simp [f1]
theorem i_IsDocument_ok (a0 : TDocument) : SoundAt Tryz.prog 142 false [a0.row] [[.bool (i_IsDocument a0)]] := by
 refine sound_of Tryz.func142 rfl (by kernel_rfl) ?_
 simp [Tryz.ntmps142]
 refine cR (i_InRange_ok a0.Title 0 999) ?_
 simp
 refine cG (fun gg => (i_InRange_ok (↑a0.Parts.length : Int) 1 6)) ?_
 simp
 refine cC (((!(i_InRange a0.Title 0 999)) || (!(i_InRange (↑a0.Parts.length : Int) 1 6))) || ((↑a0.Salts.length : Int) != (↑a0.Parts.length : Int))) (fun k1 h1 => ?_) (fun k1 h1 => ?_)
 ·have q1 := h1; try simp [i_InRange] at q1
  simp
  refine retRd (rv := [.tmp 2]) rfl ?_
  have f1 := i_IsDocument.eq_1 a0; simp only [h1, cond_t, cond_f] at f1; simp [f1]
 ·have q1 := h1; try simp [i_InRange] at q1
  simp
  refine okL fun k2 => ?_
  refine loopI (ι := { s : Nat × Nat // i_IsDocument_1 a0 s.1 s.2 = i_IsDocument_1 a0 (a0.Parts.length + 1) 0 ∧ (1 ≤ s.1 ∧ a0.Parts.length < s.1 + s.2 ∧ s.2 ≤ a0.Parts.length) }) (fun s => stOf 46 [eX 1 (a0.row.map .d), eL 26 1 a0.Parts sR, eI 27 (↑a0.Parts.length : Int), eI 28 (↑s.1.2 : Int)]) (fun s => s.1.1) ⟨((a0.Parts.length + 1), 0), rfl, by first | omega | (dsimp only; omega) | simp⟩ (wk_keep (by simp)) ?_
  rintro ⟨⟨n1, v1_0⟩, e1, j1⟩
  try dsimp only at e1 j1
  obtain ⟨p1, rfl⟩ : ∃ p, n1 = p + 1 := ⟨n1 - 1, by omega⟩
  simp
  refine cC (decide ((↑v1_0 : Int) < (↑a0.Parts.length : Int))) (fun k3 h2 => ?_) (fun k3 h2 => ?_)
  ·have q2 := h2; try simp at q2
   have i1 : v1_0 < a0.Parts.length := by simpa using h2
   have m2 : a0.Parts.length ≤ 9223372036854775807 := by simpa using k3 26 _ rfl
   have w1 : IntKind.i64.wrap ((v1_0 : Int) + 1) = (v1_0 : Int) + 1 := wrap_of (by omega) (by omega)
   simp [i1, rowAt_map]
   repeat with_reducible refine sd ?_
   refine guardI rfl rfl rfl rfl rfl (by simp) (fun g1 => ?_) (fun g1 => ?_)
   ·have g1x := g1; try simp only [beq_true, beq_false, Bool.not_eq_true', Bool.not_eq_false', Bool.true_and, Bool.and_true] at g1x
    try simp at g1
    have i2 : v1_0 < a0.Salts.length := il
    simp [i2, rowAt_map, g1x]
    repeat with_reducible refine sdg ?_
    refine callG rfl rfl rfl rfl rfl rfl (fun gg => (i_InRange_ok (nth a0.Salts v1_0) 1 1000000000000)) (by first | (simp; done) | (simp [g1x]; done) | (simp [g1x]; omega) | (simp_all; done)) (by first | (simp; done) | (simp [g1x]; done) | (simp [g1x]; omega) | (simp_all; done)) (by first | (simp; done) | (simp [g1x]; done) | (simp [g1x]; omega) | (simp_all; done)) (by first | (simp; done) | (simp [g1x]; done) | (simp [g1x]; omega) | (simp_all; done)) ?_
    simp [g1x]
    repeat with_reducible refine sdg ?_
    refine condR (c := ((decide ((↑(nth a0.Parts v1_0).size : Int) > 40)) || (!(i_InRange (nth a0.Salts v1_0) 1 1000000000000)))) (by first | (simp [g1x]; done) | grind) (fun k4 h3 => ?_) (fun k4 h3 => ?_)
    ·try (have z := h3; simp [g1x] at z; done)
     all_goals
      have q3 := h3; try simp [i_InRange] at q3
      have x1 : i_IsDocument_1 a0 (a0.Parts.length + 1) 0 = .inl false := by rw [← e1]; simp only [i_IsDocument_1, h2, h3, cond_t, cond_f]
      simp [g1x]
      repeat with_reducible refine sdg ?_
      refine retRd (rv := [.tmp 2]) rfl ?_
      have f2 := i_IsDocument.eq_1 a0; simp only [h1, x1, cond_t, cond_f] at f2; simp [f2, g1x]
    ·try (have z := h3; simp [g1x] at z; done)
     all_goals
      have q3 := h3; try simp [i_InRange] at q3
      simp [g1x]
      repeat with_reducible refine sdg ?_
      refine nxtI ⟨(p1, (v1_0 + 1)), ?_, ?_⟩ (by simp) (wk_keep (by simp [w1, g1x]))
      · rw [← e1]; simp only [i_IsDocument_1, h2, h3, cond_t, cond_f]
      · first | omega | (simp at *; omega)
   ·have g1x := g1; try simp only [beq_true, beq_false, Bool.not_eq_true', Bool.not_eq_false', Bool.true_and, Bool.and_true] at g1x
    simp [g1x]
    repeat with_reducible refine sdg ?_
    refine skipG rfl rfl rfl rfl (by simp) (by simp [g1x]) ?_
    simp [g1x]
    repeat with_reducible refine sdg ?_
    refine condR (c := ((decide ((↑(nth a0.Parts v1_0).size : Int) > 40)) || (!(i_InRange (nth a0.Salts v1_0) 1 1000000000000)))) (by first | (simp [g1x]; done) | grind) (fun k5 h4 => ?_) (fun k5 h4 => ?_)
    ·try (have z := h4; simp [g1x] at z; done)
     all_goals
      have q4 := h4; try simp [i_InRange] at q4
      have x2 : i_IsDocument_1 a0 (a0.Parts.length + 1) 0 = .inl false := by rw [← e1]; simp only [i_IsDocument_1, h2, h4, cond_t, cond_f]
      simp [g1x]
      repeat with_reducible refine sdg ?_
      refine retRd (rv := [.tmp 2]) rfl ?_
      have f3 := i_IsDocument.eq_1 a0; simp only [h1, x2, cond_t, cond_f] at f3; simp [f3, g1x]
    ·try (have z := h4; simp [g1x] at z; done)
     all_goals
      have q4 := h4; try simp [i_InRange] at q4
      simp [g1x]
      repeat with_reducible refine sdg ?_
      refine nxtI ⟨(p1, (v1_0 + 1)), ?_, ?_⟩ (by simp) (wk_keep (by simp [w1, g1x]))
      · rw [← e1]; simp only [i_IsDocument_1, h2, h4, cond_t, cond_f]
      · first | omega | (simp at *; omega)
  ·have q2 := h2; try simp at q2
   have x3 : i_IsDocument_1 a0 (a0.Parts.length + 1) 0 = .inr () := by rw [← e1]; simp only [i_IsDocument_1, h2, cond_t, cond_f]
   simp
   refine retRd (rv := [.tmp 2]) rfl ?_
   have f4 := i_IsDocument.eq_1 a0; simp only [h1, x3, cond_t, cond_f] at f4; simp [f4]
theorem i_bytesOf_ok (a0 : List UInt8) (u0 : Sm 2342912 a0) : SoundD Tryz.prog 178 [[.sl 1 (a0.map bR)]] [[.sl 1 ((i_bytesOf a0).map iR)]] := by
 refine sound_ofD Tryz.func178 rfl (by kernel_rfl) ?_
 simp [Tryz.ntmps178]
 refine okL fun k1 => ?_
 refine loopI (ι := { s : Nat × (List Int) × Nat // i_bytesOf_1 a0 s.1 s.2.1 s.2.2 = i_bytesOf_1 a0 (a0.length + 1) ([] : List Int) 0 ∧ (1 ≤ s.1 ∧ a0.length < s.1 + s.2.2 ∧ s.2.2 ≤ a0.length ∧ s.2.1.length ≤ 0 + 1 * s.2.2) }) (fun s => stOf 19 [(3, .one (.sref 3 0 0 s.1.2.1.length), [.arr false 1 (s.1.2.1.map iR)]), eL 6 1 a0 bR, eI 7 (↑a0.length : Int), eI 8 (↑s.1.2.2 : Int)]) (fun s => s.1.1) ⟨((a0.length + 1), ([] : List Int), 0), rfl, by first | omega | (dsimp only; omega) | simp⟩ (wk_of [((3, 0), none)] [] rfl (by simp)) ?_
 rintro ⟨⟨n1, v1_0, v1_1⟩, e1, j1⟩
 try dsimp only at e1 j1
 obtain ⟨p1, rfl⟩ : ∃ p, n1 = p + 1 := ⟨n1 - 1, by omega⟩
 simp
 refine cC (decide ((↑v1_1 : Int) < (↑a0.length : Int))) (fun k2 h1 => ?_) (fun k2 h1 => ?_)
 ·have q1 := h1; try simp at q1
  have i1 : v1_1 < a0.length := by simpa using h1
  have m2 : a0.length ≤ 9223372036854775807 := by simpa using k2 6 _ rfl
  have c1 : a0.length ≤ 2342912 := sm_len (by simp (maxDischargeDepth := 12) [u0])
  have w1 : IntKind.i64.wrap ((v1_1 : Int) + 1) = (v1_1 : Int) + 1 := wrap_of (by omega) (by omega)
  simp [i1, rowAt_map]
  repeat with_reducible refine sd ?_
  refine nxtI ⟨(p1, (v1_0 ++ ([(W (↑(nth a0 v1_1).toNat : Int))] : List Int)), (v1_1 + 1)), ?_, ?_⟩ (by simp) (wk_of [((3, 0), some (16, 0))] [] rfl (by simp [w1]))
  · rw [← e1]; simp only [i_bytesOf_1, h1, cond_t, cond_f]
  · first | omega | (simp at *; omega)
 ·have q1 := h1; try simp at q1
  have c2 : a0.length ≤ 2342912 := sm_len (by simp (maxDischargeDepth := 12) [u0])
  have x1 : i_bytesOf_1 a0 (a0.length + 1) ([] : List Int) 0 = v1_0 := by rw [← e1]; simp only [i_bytesOf_1, h1, cond_t, cond_f]
  simp
  refine retD (rv := [.tmp 2]) rfl ?_
  have f1 := i_bytesOf.eq_1 a0; simp only [x1, cond_t, cond_f] at f1; simp [f1]
theorem i_Mod_ok (a0 : Int) (a1 : Int) : SoundAt Tryz.prog 207 false [[.int .i64 a0], [.int .i64 a1]] [[.int .i64 (i_Mod a0 a1)]] := by
 refine sound_of Tryz.func207 rfl (by kernel_rfl) ?_
 simp [Tryz.ntmps207]
 refine cR (i_InRange_ok a1 1 1000000000000) ?_
 simp
 refine cC (!(i_InRange a1 1 1000000000000)) (fun k1 h1 => ?_) (fun k1 h1 => ?_)
 ·have q1 := h1; try simp [i_InRange] at q1
  simp
  refine retRd (rv := [.tmp 4]) rfl ?_
  have f1 := i_Mod.eq_1 a0 a1; simp only [h1, cond_t, cond_f] at f1; simp [f1]
 ·have q1 := h1; try simp [i_InRange] at q1
  simp
  repeat with_reducible refine sd ?_
  refine retRd (rv := [.tmp 4]) rfl ?_
  have f2 := i_Mod.eq_1 a0 a1; simp only [h1, cond_t, cond_f] at f2; simp [f2]
theorem i_Hash_ok (a0 : List Int) : SoundAt Tryz.prog 179 false [[.sl 1 (a0.map iR)]] [[.int .i64 (i_Hash a0)]] := by
 refine sound_of Tryz.func179 rfl (by kernel_rfl) ?_
 simp [Tryz.ntmps179]
 refine okL fun k1 => ?_
 refine loopI (ι := { s : Nat × Int × Nat // i_Hash_1 a0 s.1 s.2.1 s.2.2 = i_Hash_1 a0 (a0.length + 1) 11 0 ∧ (1 ≤ s.1 ∧ a0.length < s.1 + s.2.2 ∧ s.2.2 ≤ a0.length) }) (fun s => stOf 21 [eI 3 s.1.2.1, eL 6 1 a0 iR, eI 7 (↑a0.length : Int), eI 8 (↑s.1.2.2 : Int)]) (fun s => s.1.1) ⟨((a0.length + 1), 11, 0), rfl, by first | omega | (dsimp only; omega) | simp⟩ (wk_keep (by simp)) ?_
 rintro ⟨⟨n1, v1_0, v1_1⟩, e1, j1⟩
 try dsimp only at e1 j1
 obtain ⟨p1, rfl⟩ : ∃ p, n1 = p + 1 := ⟨n1 - 1, by omega⟩
 simp
 refine cC (decide ((↑v1_1 : Int) < (↑a0.length : Int))) (fun k2 h1 => ?_) (fun k2 h1 => ?_)
 ·have q1 := h1; try simp at q1
  have i1 : v1_1 < a0.length := by simpa using h1
  have m2 : a0.length ≤ 9223372036854775807 := by simpa using k2 6 _ rfl
  have w1 : IntKind.i64.wrap ((v1_1 : Int) + 1) = (v1_1 : Int) + 1 := wrap_of (by omega) (by omega)
  simp [i1, rowAt_map]
  repeat with_reducible refine sd ?_
  refine cR (i_Mod_ok (nth a0 v1_1) 2147483647) ?_
  simp
  refine nxtI ⟨(p1, (Int.tmod (W ((W ((W (v1_0 * 1000003)) + (i_Mod (nth a0 v1_1) 2147483647))) + 13)) 2147483647), (v1_1 + 1)), ?_, ?_⟩ (by simp) (wk_keep (by simp [w1]))
  · rw [← e1]; simp only [i_Hash_1, h1, cond_t, cond_f]
  · first | omega | (simp at *; omega)
 ·have q1 := h1; try simp at q1
  have x1 : i_Hash_1 a0 (a0.length + 1) 11 0 = v1_0 := by rw [← e1]; simp only [i_Hash_1, h1, cond_t, cond_f]
  simp
  refine retRd (rv := [.tmp 2]) rfl ?_
  have f1 := i_Hash.eq_1 a0; simp only [x1, cond_t, cond_f] at f1; simp [f1]
theorem i_DigestOf_ok (a0 : Int) (a1 : List Int) (u0 : Sm 68719476736 a1) : SoundAt Tryz.prog 144 false [[.int .i64 a0], [.sl 1 (a1.map iR)]] [[.int .i64 (i_DigestOf a0 a1)]] := by
 refine sound_of Tryz.func144 rfl (by kernel_rfl) ?_
 have c1 : a1.length ≤ 68719476736 := sm_len (by simp (maxDischargeDepth := 12) [u0])
 simp [Tryz.ntmps144]
 repeat with_reducible refine sd ?_
 refine cR (i_Hash_ok (([7, a0] : List Int) ++ a1)) ?_
 simp
 refine retRd (rv := [.tmp 4]) rfl ?_
 have f1 := i_DigestOf.eq_1 a0 a1; simp [f1]
theorem i_PartDigest_ok (a0 : Int) (a1 : ByteArray) (a2 : Int) (u0 : Sm 2326528 a1) : SoundAt Tryz.prog 143 false [[.int .i64 a0], [.str a1], [.int .i64 a2]] [[.int .i64 (i_PartDigest a0 a1 a2)]] := by
 refine sound_of Tryz.func143 rfl (by kernel_rfl) ?_
 have c1 : a1.size ≤ 2326528 := sm_size (by simp (maxDischargeDepth := 12) [u0])
 simp [Tryz.ntmps143]
 refine toBytes (s := a1) rfl rfl rfl (by simp) (by simp) (by simp) (by simp) (by omega) ?_
 simp
 refine cR (SoundD.rd (i_bytesOf_ok a1.data.toList (by simp [sm_list]; first | omega | (simp [ByteArray.size] at *; omega)))) ?_
 simp
 repeat with_reducible refine sd ?_
 refine cR (i_DigestOf_ok a0 (([a2] : List Int) ++ (i_bytesOf a1.data.toList)) (by simp (maxDischargeDepth := 12) [sm_append, sm_list, sm_mono (m := 68719476736) (by decide) u0]; try omega)) ?_
 simp
 refine retRd (rv := [.tmp 6]) rfl ?_
 have f1 := i_PartDigest.eq_1 a0 a1 a2; simp [f1]
theorem i_DocDigest_ok (a0 : Int) (a1 : TDocument) (u0 : Sm 2322432 a1) : SoundAt Tryz.prog 92 false [[.int .i64 a0], a1.row] [[.int .i64 (i_DocDigest a0 a1)]] := by
 refine sound_of Tryz.func92 rfl (by kernel_rfl) ?_
 simp [Tryz.ntmps92]
 refine cR (i_IsDocument_ok a1) ?_
 simp
 refine cC (!(i_IsDocument a1)) (fun k1 h1 => ?_) (fun k1 h1 => ?_)
 ·have q1 := h1; try simp at q1
  simp
  refine retRd (rv := [.tmp 4]) rfl ?_
  have f1 := i_DocDigest.eq_1 a0 a1; simp only [h1, cond_t, cond_f] at f1; simp [f1]
 ·have q1 := h1; try simp at q1
  simp
  refine okL fun k2 => ?_
  refine loopI (ι := { s : Nat × (List Int) × Nat // i_DocDigest_1 a0 a1 s.1 s.2.1 s.2.2 = i_DocDigest_1 a0 a1 (a1.Parts.length + 1) ([a1.Title] : List Int) 0 ∧ (1 ≤ s.1 ∧ a1.Parts.length < s.1 + s.2.2 ∧ s.2.2 ≤ a1.Parts.length ∧ s.2.1.length ≤ 1 + 1 * s.2.2) }) (fun s => stOf 37 [eI 0 a0, eX 3 (a1.row.map .d), (5, .one (.sref 5 0 0 s.1.2.1.length), [.arr false 1 (s.1.2.1.map iR)]), eL 15 1 a1.Parts sR, eI 16 (↑a1.Parts.length : Int), eI 17 (↑s.1.2.2 : Int)]) (fun s => s.1.1) ⟨((a1.Parts.length + 1), ([a1.Title] : List Int), 0), rfl, by first | omega | (dsimp only; omega) | simp⟩ (wk_of [((5, 0), some (13, 0))] [] rfl (by simp)) ?_
  rintro ⟨⟨n1, v1_0, v1_1⟩, e1, j1⟩
  try dsimp only at e1 j1
  obtain ⟨p1, rfl⟩ : ∃ p, n1 = p + 1 := ⟨n1 - 1, by omega⟩
  simp
  refine cC (decide ((↑v1_1 : Int) < (↑a1.Parts.length : Int))) (fun k3 h2 => ?_) (fun k3 h2 => ?_)
  ·have q2 := h2; try simp at q2
   have i1 : v1_1 < a1.Parts.length := by simpa using h2
   have m2 : a1.Parts.length ≤ 9223372036854775807 := by simpa using k3 15 _ rfl
   have c1 : a1.Parts.length ≤ 2322432 := sm_len (by simp (maxDischargeDepth := 12) [u0])
   have w1 : IntKind.i64.wrap ((v1_1 : Int) + 1) = (v1_1 : Int) + 1 := wrap_of (by omega) (by omega)
   have i2 : v1_1 < a1.Salts.length := by (have := i_IsDocument_len (a := a1); first | (simp_all; done) | (simp_all; omega))
   simp [i1, rowAt_map, i2]
   repeat with_reducible refine sd ?_
   refine cR (i_PartDigest_ok a0 (nth a1.Parts v1_1) (nth a1.Salts v1_1) (sg (sm_nth (TDocument.sm_Parts u0)))) ?_
   simp
   repeat with_reducible refine sd ?_
   refine nxtI ⟨(p1, (v1_0 ++ ([(i_PartDigest a0 (nth a1.Parts v1_1) (nth a1.Salts v1_1))] : List Int)), (v1_1 + 1)), ?_, ?_⟩ (by simp) (wk_of [((5, 0), some (32, 0))] [] rfl (by simp [w1]))
   · rw [← e1]; simp only [i_DocDigest_1, h2, cond_t, cond_f]
   · first | omega | (simp at *; omega)
  ·have q2 := h2; try simp at q2
   have c2 : a1.Parts.length ≤ 2322432 := sm_len (by simp (maxDischargeDepth := 12) [u0])
   have x1 : i_DocDigest_1 a0 a1 (a1.Parts.length + 1) ([a1.Title] : List Int) 0 = v1_0 := by rw [← e1]; simp only [i_DocDigest_1, h2, cond_t, cond_f]
   simp
   refine cR (i_DigestOf_ok a0 v1_0 (by first | (simp (maxDischargeDepth := 12) [sm_list]; omega) | (simp (maxDischargeDepth := 12) [sm_mono (m := 68719476736) (by decide) u0]; done))) ?_
   simp
   refine retRd (rv := [.tmp 4]) rfl ?_
   have f2 := i_DocDigest.eq_1 a0 a1; simp only [h1, x1, cond_t, cond_f] at f2; simp [f2]
theorem i_DocDigests_ok (a0 : TStrand) (a1 : TDocument) (u0 : Sm 2318336 a0) (u1 : Sm 2318336 a1) : SoundD Tryz.prog 46 [a0.row, a1.row] [[.sl 1 ((i_DocDigests a0 a1).map iR)]] := by
 refine sound_ofD Tryz.func46 rfl (by kernel_rfl) ?_
 simp [Tryz.ntmps46]
 refine okL fun k1 => ?_
 refine loopI (ι := { s : Nat × (List Int) × Nat // i_DocDigests_1 a0 a1 s.1 s.2.1 s.2.2 = i_DocDigests_1 a0 a1 (a0.Chain.length + 1) ([] : List Int) 0 ∧ (1 ≤ s.1 ∧ a0.Chain.length < s.1 + s.2.2 ∧ s.2.2 ≤ a0.Chain.length ∧ s.2.1.length ≤ 0 + 1 * s.2.2) }) (fun s => stOf 24 [eX 3 (a1.row.map .d), (5, .one (.sref 5 0 0 s.1.2.1.length), [.arr false 1 (s.1.2.1.map iR)]), eL 9 5 a0.Chain TRenewal.row, eI 10 (↑a0.Chain.length : Int), eI 11 (↑s.1.2.2 : Int)]) (fun s => s.1.1) ⟨((a0.Chain.length + 1), ([] : List Int), 0), rfl, by first | omega | (dsimp only; omega) | simp⟩ (wk_of [((5, 0), none)] [] rfl (by simp)) ?_
 rintro ⟨⟨n1, v1_0, v1_1⟩, e1, j1⟩
 try dsimp only at e1 j1
 obtain ⟨p1, rfl⟩ : ∃ p, n1 = p + 1 := ⟨n1 - 1, by omega⟩
 simp
 refine cC (decide ((↑v1_1 : Int) < (↑a0.Chain.length : Int))) (fun k2 h1 => ?_) (fun k2 h1 => ?_)
 ·have q1 := h1; try simp at q1
  have i1 : v1_1 < a0.Chain.length := by simpa using h1
  have m2 : a0.Chain.length ≤ 9223372036854775807 := by simpa using k2 9 _ rfl
  have c1 : a0.Chain.length ≤ 2318336 := sm_len (by simp (maxDischargeDepth := 12) [u0, u1])
  have w1 : IntKind.i64.wrap ((v1_1 : Int) + 1) = (v1_1 : Int) + 1 := wrap_of (by omega) (by omega)
  simp [i1, rowAt_map]
  repeat with_reducible refine sd ?_
  refine cR (i_DocDigest_ok (nth a0.Chain v1_1).Method a1 (sg u1)) ?_
  simp
  repeat with_reducible refine sd ?_
  refine nxtI ⟨(p1, (v1_0 ++ ([(i_DocDigest (nth a0.Chain v1_1).Method a1)] : List Int)), (v1_1 + 1)), ?_, ?_⟩ (by simp) (wk_of [((5, 0), some (21, 0))] [] rfl (by simp [w1]))
  · rw [← e1]; simp only [i_DocDigests_1, h1, cond_t, cond_f]
  · first | omega | (simp at *; omega)
 ·have q1 := h1; try simp at q1
  have c2 : a0.Chain.length ≤ 2318336 := sm_len (by simp (maxDischargeDepth := 12) [u0, u1])
  have x1 : i_DocDigests_1 a0 a1 (a0.Chain.length + 1) ([] : List Int) 0 = v1_0 := by rw [← e1]; simp only [i_DocDigests_1, h1, cond_t, cond_f]
  simp
  refine retD (rv := [.tmp 4]) rfl ?_
  have f1 := i_DocDigests.eq_1 a0 a1; simp only [x1, cond_t, cond_f] at f1; simp [f1]
end Go.Proofs.YtdbglcndfmdlfaaGreat
