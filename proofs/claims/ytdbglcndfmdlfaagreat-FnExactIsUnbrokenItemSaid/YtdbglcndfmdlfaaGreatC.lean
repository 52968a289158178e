/- Contracts of the functions over the abstract machine, part 2. No condition. -/
import Derived.Test.YtdbglcndfmdlfaaGreatC1
namespace Go.Proofs.YtdbglcndfmdlfaaGreat
open Go.Vm Go.Mo
set_option maxHeartbeats 1000000
set_option maxRecDepth 100000
set_option linter.unusedSimpArgs false
set_option linter.unusedVariables false
theorem i_FindAuthority_ok (a0 : List TAuthority) (a1 : Int) : SoundAt Tryz.prog 110 false [[.sl 3 (a0.map TAuthority.row)], [.int .i64 a1]] [[.int .i64 (i_FindAuthority a0 a1)]] := by
 refine sound_of Tryz.func110 rfl (by kernel_rfl) ?_
 simp [Tryz.ntmps110]
 refine okL fun k1 => ?_
 refine loopI (ι := { s : Nat × Nat // i_FindAuthority_1 a0 a1 s.1 s.2 = i_FindAuthority_1 a0 a1 (a0.length + 1) 0 ∧ (1 ≤ s.1 ∧ a0.length < s.1 + s.2 ∧ s.2 ≤ a0.length) }) (fun s => stOf 20 [eI 1 a1, eL 7 3 a0 TAuthority.row, eI 8 (↑a0.length : Int), eI 9 (↑s.1.2 : Int)]) (fun s => s.1.1) ⟨((a0.length + 1), 0), rfl, by first | omega | (dsimp only; omega) | simp⟩ (wk_keep (by simp)) ?_
 rintro ⟨⟨n1, v1_0⟩, e1, j1⟩
 try dsimp only at e1 j1
 obtain ⟨p1, rfl⟩ : ∃ p, n1 = p + 1 := ⟨n1 - 1, by omega⟩
 simp
 refine cC (decide ((↑v1_0 : Int) < (↑a0.length : Int))) (fun k2 h1 => ?_) (fun k2 h1 => ?_)
 ·have q1 := h1; try simp at q1
  have i1 : v1_0 < a0.length := by simpa using h1
  have m2 : a0.length ≤ 9223372036854775807 := by simpa using k2 7 _ rfl
  have w1 : IntKind.i64.wrap ((v1_0 : Int) + 1) = (v1_0 : Int) + 1 := wrap_of (by omega) (by omega)
  simp [i1, rowAt_map]
  repeat with_reducible refine sd ?_
  refine cC ((nth a0 v1_0).Id == a1) (fun k3 h2 => ?_) (fun k3 h2 => ?_)
  ·have q2 := h2; try simp at q2
   have x1 : i_FindAuthority_1 a0 a1 (a0.length + 1) 0 = .inl (↑v1_0 : Int) := by rw [← e1]; simp only [i_FindAuthority_1, h1, h2, cond_t, cond_f]
   simp
   refine retRd (rv := [.tmp 4]) rfl ?_
   have f1 := i_FindAuthority.eq_1 a0 a1; simp only [x1, cond_t, cond_f] at f1; simp [f1]
  ·have q2 := h2; try simp at q2
   simp
   refine nxtI ⟨(p1, (v1_0 + 1)), ?_, ?_⟩ (by simp) (wk_keep (by simp [w1]))
   · rw [← e1]; simp only [i_FindAuthority_1, h1, h2, cond_t, cond_f]
   · first | omega | (simp at *; omega)
 ·have q1 := h1; try simp at q1
  have x2 : i_FindAuthority_1 a0 a1 (a0.length + 1) 0 = .inr () := by rw [← e1]; simp only [i_FindAuthority_1, h1, cond_t, cond_f]
  simp
  refine retRd (rv := [.tmp 4]) rfl ?_
  have f2 := i_FindAuthority.eq_1 a0 a1; simp only [x2, cond_t, cond_f] at f2; simp [f2]
theorem i_isTime_ok (a0 : Int) : SoundAt Tryz.prog 111 false [[.int .i64 a0]] [[.bool (i_isTime a0)]] := by
 refine sound_of Tryz.func111 rfl (by kernel_rfl) ?_
 simp [Tryz.ntmps111]
 refine cR (i_InRange_ok a0 0 10000) ?_
 simp
 refine retRd (rv := [.tmp 2]) rfl ?_
 have f1 := i_isTime.eq_1 a0; simp [f1]
theorem i_IsSpan_ok (a0 : TSpan) : SoundAt Tryz.prog 243 false [a0.row] [[.bool (i_IsSpan a0)]] := by
 refine sound_of Tryz.func243 rfl (by kernel_rfl) ?_
 simp [Tryz.ntmps243]
 refine cR (i_isTime_ok a0.From) ?_
 simp
 refine cG (fun gg => (i_isTime_ok a0.To)) ?_
 simp
 refine retRd (rv := [.tmp 2]) rfl ?_
 have f1 := i_IsSpan.eq_1 a0; simp [f1]
theorem i_MakeSpan_ok (a0 : Int) (a1 : Int) : SoundAt Tryz.prog 236 false [[.int .i64 a0], [.int .i64 a1]] [(i_MakeSpan a0 a1).1.row, [.bool (i_MakeSpan a0 a1).2]] := by
 refine sound_of Tryz.func236 rfl (by kernel_rfl) ?_
 simp [Tryz.ntmps236]
 refine cG (fun gg => (i_IsSpan_ok (TSpan.mk (if 0 > a0 then 0 else a0) (if 10000 < a1 then 10000 else a1)))) ?_
 simp
 refine cC ((decide (a0 > a1)) || (!(i_IsSpan (TSpan.mk (if 0 > a0 then 0 else a0) (if 10000 < a1 then 10000 else a1))))) (fun k1 h1 => ?_) (fun k1 h1 => ?_)
 ·have q1 := h1; try simp at q1
  simp
  refine retRd (rv := [.cell 4 182, .tmp 5]) rfl ?_
  have f1 := i_MakeSpan.eq_1 a0 a1; simp only [h1, cond_t, cond_f] at f1; simp [f1]
 ·have q1 := h1; try simp at q1
  simp
  refine retRd (rv := [.cell 4 182, .tmp 5]) rfl ?_
  have f2 := i_MakeSpan.eq_1 a0 a1; simp only [h1, cond_t, cond_f] at f2; simp [f2]
theorem i_StampSpan_ok (a0 : List TAuthority) (a1 : TStamp) : SoundAt Tryz.prog 227 false [[.sl 3 (a0.map TAuthority.row)], a1.row] [(i_StampSpan a0 a1).1.row, [.bool (i_StampSpan a0 a1).2]] := by
 refine sound_of Tryz.func227 rfl (by kernel_rfl) ?_
 simp [Tryz.ntmps227]
 refine cR (i_FindAuthority_ok a0 a1.Authority) ?_
 simp
 refine guardI rfl rfl rfl rfl rfl (by simp) (fun g1 => ?_) (fun g1 => ?_)
 ·have g1x := g1; try simp only [beq_true, beq_false, Bool.not_eq_true', Bool.not_eq_false', Bool.true_and, Bool.and_true] at g1x
  try simp at g1
  have i1 : (i_FindAuthority a0 a1.Authority).toNat < a0.length := by have := i_FindAuthority_lt a0 a1.Authority; exact il
  simp [i1, rowAt_map, g1x]
  repeat with_reducible refine sdg ?_
  refine callG rfl rfl rfl rfl rfl rfl (fun gg => (i_isTime_ok a1.Time)) (by first | (simp; done) | (simp [g1x]; done) | (simp [g1x]; omega) | (simp_all; done)) (by first | (simp; done) | (simp [g1x]; done) | (simp [g1x]; omega) | (simp_all; done)) (by first | (simp; done) | (simp [g1x]; done) | (simp [g1x]; omega) | (simp_all; done)) (by first | (simp; done) | (simp [g1x]; done) | (simp [g1x]; omega) | (simp_all; done)) ?_
  simp [g1x]
  repeat with_reducible refine sdg ?_
  refine condR (c := (((decide ((i_FindAuthority a0 a1.Authority) < 0)) || (decide ((nth a0 (i_FindAuthority a0 a1.Authority).toNat).Error < 0))) || (!(i_isTime a1.Time)))) (by first | (simp [g1x]; done) | grind) (fun k1 h1 => ?_) (fun k1 h1 => ?_)
  ·try (have z := h1; simp [g1x] at z; done)
   all_goals
    have q1 := h1; try simp at q1
    simp [g1x]
    repeat with_reducible refine sdg ?_
    refine retRd (rv := [.cell 4 182, .tmp 5]) rfl ?_
    have f1 := i_StampSpan.eq_1 a0 a1; simp only [h1, cond_t, cond_f] at f1; simp [f1, g1x]
  ·try (have z := h1; simp [g1x] at z; done)
   all_goals
    have q1 := h1; try simp at q1
    simp [g1x]
    repeat with_reducible refine sdg ?_
    refine okD fun k2 => ?_
    refine drawI mixed (by kernel_rfl) (by kernel_rfl) ?_
    simp [i1, rowAt_map, g1x]
    repeat with_reducible refine sdg ?_
    refine cR (i_MakeSpan_ok (W (a1.Time - (nth a0 (i_FindAuthority a0 a1.Authority).toNat).Error)) (W (a1.Time + (nth a0 (i_FindAuthority a0 a1.Authority).toNat).Error))) ?_
    simp [g1x]
    repeat with_reducible refine sdg ?_
    refine retRd (rv := [.cell 4 182, .tmp 5]) rfl ?_
    have f2 := i_StampSpan.eq_1 a0 a1; simp only [h1, cond_t, cond_f] at f2; simp [f2, g1x]
 ·have g1x := g1; try simp only [beq_true, beq_false, Bool.not_eq_true', Bool.not_eq_false', Bool.true_and, Bool.and_true] at g1x
  simp [g1x]
  repeat with_reducible refine sdg ?_
  refine callG rfl rfl rfl rfl rfl rfl (fun gg => (i_isTime_ok a1.Time)) (by first | (simp; done) | (simp [g1x]; done) | (simp [g1x]; omega) | (simp_all; done)) (by first | (simp; done) | (simp [g1x]; done) | (simp [g1x]; omega) | (simp_all; done)) (by first | (simp; done) | (simp [g1x]; done) | (simp [g1x]; omega) | (simp_all; done)) (by first | (simp; done) | (simp [g1x]; done) | (simp [g1x]; omega) | (simp_all; done)) ?_
  simp [g1x]
  repeat with_reducible refine sdg ?_
  refine condR (c := (((decide ((i_FindAuthority a0 a1.Authority) < 0)) || (decide ((nth a0 (i_FindAuthority a0 a1.Authority).toNat).Error < 0))) || (!(i_isTime a1.Time)))) (by first | (simp [g1x]; done) | grind) (fun k3 h2 => ?_) (fun k3 h2 => ?_)
  ·try (have z := h2; simp [g1x] at z; done)
   all_goals
    have q2 := h2; try simp at q2
    simp [g1x]
    repeat with_reducible refine sdg ?_
    refine retRd (rv := [.cell 4 182, .tmp 5]) rfl ?_
    have f3 := i_StampSpan.eq_1 a0 a1; simp only [h2, cond_t, cond_f] at f3; simp [f3, g1x]
  ·try (have z := h2; simp [g1x] at z; done)
   all_goals
    have q2 := h2; try simp at q2
    simp [g1x]
    repeat with_reducible refine sdg ?_
    refine okD fun k4 => ?_
    refine drawI mixed (by kernel_rfl) (by kernel_rfl) ?_
    have i3 : (i_FindAuthority a0 a1.Authority).toNat < a0.length := by have := i_FindAuthority_lt a0 a1.Authority; exact il
    simp [i3, rowAt_map, g1x]
    repeat with_reducible refine sdg ?_
    refine cR (i_MakeSpan_ok (W (a1.Time - (nth a0 (i_FindAuthority a0 a1.Authority).toNat).Error)) (W (a1.Time + (nth a0 (i_FindAuthority a0 a1.Authority).toNat).Error))) ?_
    simp [g1x]
    repeat with_reducible refine sdg ?_
    refine retRd (rv := [.cell 4 182, .tmp 5]) rfl ?_
    have f4 := i_StampSpan.eq_1 a0 a1; simp only [h2, cond_t, cond_f] at f4; simp [f4, g1x]
theorem i_CountAt_ok (a0 : List TSpan) (a1 : Int) : SoundAt Tryz.prog 244 false [[.sl 2 (a0.map TSpan.row)], [.int .i64 a1]] [[.int .i64 (i_CountAt a0 a1)]] := by
 refine sound_of Tryz.func244 rfl (by kernel_rfl) ?_
 simp [Tryz.ntmps244]
 refine okL fun k1 => ?_
 refine loopI (ι := { s : Nat × Int × Nat // i_CountAt_1 a0 a1 s.1 s.2.1 s.2.2 = i_CountAt_1 a0 a1 (a0.length + 1) 0 0 ∧ (1 ≤ s.1 ∧ a0.length < s.1 + s.2.2 ∧ s.2.2 ≤ a0.length) }) (fun s => stOf 28 [eI 1 a1, eI 5 s.1.2.1, eL 8 2 a0 TSpan.row, eI 9 (↑a0.length : Int), eI 10 (↑s.1.2.2 : Int)]) (fun s => s.1.1) ⟨((a0.length + 1), 0, 0), rfl, by first | omega | (dsimp only; omega) | simp⟩ (wk_keep (by simp)) ?_
 rintro ⟨⟨n1, v1_0, v1_1⟩, e1, j1⟩
 try dsimp only at e1 j1
 obtain ⟨p1, rfl⟩ : ∃ p, n1 = p + 1 := ⟨n1 - 1, by omega⟩
 simp
 refine cC (decide ((↑v1_1 : Int) < (↑a0.length : Int))) (fun k2 h1 => ?_) (fun k2 h1 => ?_)
 ·have q1 := h1; try simp at q1
  have i1 : v1_1 < a0.length := by simpa using h1
  have m2 : a0.length ≤ 9223372036854775807 := by simpa using k2 8 _ rfl
  have w1 : IntKind.i64.wrap ((v1_1 : Int) + 1) = (v1_1 : Int) + 1 := wrap_of (by omega) (by omega)
  simp [i1, rowAt_map]
  repeat with_reducible refine sd ?_
  refine cR (i_IsSpan_ok (nth a0 v1_1)) ?_
  simp
  refine cG (fun gg => (i_InRange_ok a1 (nth a0 v1_1).From (nth a0 v1_1).To)) ?_
  simp
  refine cC ((i_IsSpan (nth a0 v1_1)) && (i_InRange a1 (nth a0 v1_1).From (nth a0 v1_1).To)) (fun k3 h2 => ?_) (fun k3 h2 => ?_)
  ·have q2 := h2; try simp [i_InRange] at q2
   simp
   refine nxtI ⟨(p1, (W (v1_0 + 1)), (v1_1 + 1)), ?_, ?_⟩ (by simp) (wk_keep (by simp [w1]))
   · rw [← e1]; simp only [i_CountAt_1, h1, h2, cond_t, cond_f]
   · first | omega | (simp at *; omega)
  ·have q2 := h2; try simp [i_InRange] at q2
   simp
   refine nxtI ⟨(p1, v1_0, (v1_1 + 1)), ?_, ?_⟩ (by simp) (wk_keep (by simp [w1]))
   · rw [← e1]; simp only [i_CountAt_1, h1, h2, cond_t, cond_f]
   · first | omega | (simp at *; omega)
 ·have q1 := h1; try simp at q1
  have x1 : i_CountAt_1 a0 a1 (a0.length + 1) 0 0 = v1_0 := by rw [← e1]; simp only [i_CountAt_1, h1, cond_t, cond_f]
  simp
  refine retRd (rv := [.tmp 4]) rfl ?_
  have f1 := i_CountAt.eq_1 a0 a1; simp only [x1, cond_t, cond_f] at f1; simp [f1]
theorem i_IsSupported_ok (a0 : List TSpan) (a1 : Int) (a2 : Int) : SoundAt Tryz.prog 237 false [[.sl 2 (a0.map TSpan.row)], [.int .i64 a1], [.int .i64 a2]] [[.bool (i_IsSupported a0 a1 a2)]] := by
 refine sound_of Tryz.func237 rfl (by kernel_rfl) ?_
 simp [Tryz.ntmps237]
 refine cR (i_InRange_ok a2 0 (W ((↑a0.length : Int) - 1))) ?_
 simp
 refine cG (fun gg => (i_CountAt_ok a0 a1)) ?_
 simp
 refine retRd (rv := [.tmp 6]) rfl ?_
 have f1 := i_IsSupported.eq_1 a0 a1 a2; simp [f1]
theorem i_AgreedSpan_ok (a0 : List TSpan) (a1 : Int) : SoundAt Tryz.prog 228 false [[.sl 2 (a0.map TSpan.row)], [.int .i64 a1]] [(i_AgreedSpan a0 a1).1.row, [.bool (i_AgreedSpan a0 a1).2]] := by
 refine sound_of Tryz.func228 rfl (by kernel_rfl) ?_
 simp [Tryz.ntmps228]
 refine okL fun k1 => ?_
 refine loopI (ι := { s : Nat × Bool × Nat × Int × Int // i_AgreedSpan_1 a0 a1 s.1 s.2.1 s.2.2.1 s.2.2.2.1 s.2.2.2.2 = i_AgreedSpan_1 a0 a1 10002 false 0 0 0 ∧ (1 ≤ s.1 ∧ 10001 < s.1 + s.2.2.1) }) (fun s => stOf 25 [eL 0 2 a0 TSpan.row, eI 1 a1, (4, .one (.bptr 4 0), [.box [.d (.int .i64 0), .d (.int .i64 0)]]), (6, .one (.bptr 6 0), [.box [.d (.int .i64 s.1.2.2.2.1), .d (.int .i64 s.1.2.2.2.2)]]), eB 7 s.1.2.1, eI 8 (↑s.1.2.2.1 : Int)]) (fun s => s.1.1) ⟨(10002, false, 0, 0, 0), rfl, by first | omega | (dsimp only; omega) | simp⟩ (wk_keep (by simp)) ?_
 rintro ⟨⟨n1, v1_0, v1_1, v1_2, v1_3⟩, e1, j1⟩
 try dsimp only at e1 j1
 obtain ⟨p1, rfl⟩ : ∃ p, n1 = p + 1 := ⟨n1 - 1, by omega⟩
 simp
 refine cC (decide ((↑v1_1 : Int) ≤ 10000)) (fun k2 h1 => ?_) (fun k2 h1 => ?_)
 ·have q1 := h1; try simp at q1
  have w1 : IntKind.i64.wrap ((v1_1 : Int) + 1) = (v1_1 : Int) + 1 := wrap_of (by omega) (by omega)
  simp
  refine cR (i_IsSupported_ok a0 (↑v1_1 : Int) a1) ?_
  simp
  refine cC (i_IsSupported a0 (↑v1_1 : Int) a1) (fun k3 h2 => ?_) (fun k3 h2 => ?_)
  ·have q2 := h2; try simp at q2
   simp
   refine cC (!v1_0) (fun k4 h3 => ?_) (fun k4 h3 => ?_)
   ·have q3 := h3; try simp at q3
    simp
    refine nxtI ⟨(p1, true, (v1_1 + 1), (↑v1_1 : Int), (↑v1_1 : Int)), ?_, ?_⟩ (by simp) (wk_keep (by simp [w1]))
    · rw [← e1]; simp only [i_AgreedSpan_1, h1, h2, h3, cond_t, cond_f]
    · first | omega | (simp at *; omega)
   ·have q3 := h3; try simp at q3
    simp
    refine nxtI ⟨(p1, true, (v1_1 + 1), v1_2, (↑v1_1 : Int)), ?_, ?_⟩ (by simp) (wk_keep (by simp [w1]))
    · rw [← e1]; simp only [i_AgreedSpan_1, h1, h2, h3, cond_t, cond_f]
    · first | omega | (simp at *; omega)
  ·have q2 := h2; try simp at q2
   simp
   refine nxtI ⟨(p1, v1_0, (v1_1 + 1), v1_2, v1_3), ?_, ?_⟩ (by simp) (wk_keep (by simp [w1]))
   · rw [← e1]; simp only [i_AgreedSpan_1, h1, h2, cond_t, cond_f]
   · first | omega | (simp at *; omega)
 ·have q1 := h1; try simp at q1
  have x1 : i_AgreedSpan_1 a0 a1 10002 false 0 0 0 = (v1_0, v1_2, v1_3) := by rw [← e1]; simp only [i_AgreedSpan_1, h1, cond_t, cond_f]
  simp
  refine retRd (rv := [.cell 4 182, .tmp 5]) rfl ?_
  have f1 := i_AgreedSpan.eq_1 a0 a1; simp only [x1, cond_t, cond_f] at f1; simp [f1]
theorem i_agreedOn_ok (a0 : List TAuthority) (a1 : List TStamp) (a2 : Int) (u0 : Sm 2318336 a0) (u1 : Sm 2318336 a1) : SoundAt Tryz.prog 204 false [[.sl 3 (a0.map TAuthority.row)], [.sl 5 (a1.map TStamp.row)], [.int .i64 a2]] [(i_agreedOn a0 a1 a2).1.row, [.bool (i_agreedOn a0 a1 a2).2]] := by
 refine sound_of Tryz.func204 rfl (by kernel_rfl) ?_
 simp [Tryz.ntmps204]
 refine okL fun k1 => ?_
 refine loopI (ι := { s : Nat × (List TSpan) × Nat // i_agreedOn_1 a0 a1 s.1 s.2.1 s.2.2 = i_agreedOn_1 a0 a1 (a1.length + 1) ([] : List TSpan) 0 ∧ (1 ≤ s.1 ∧ a1.length < s.1 + s.2.2 ∧ s.2.2 ≤ a1.length ∧ s.2.1.length ≤ 0 + 1 * s.2.2) }) (fun s => stOf 38 [eL 0 3 a0 TAuthority.row, eI 2 a2, (6, .one (.bptr 6 0), [.box [.d (.int .i64 0), .d (.int .i64 0)]]), (8, .one (.sref 8 0 0 s.1.2.1.length), [.arr false 2 (s.1.2.1.map TSpan.row)]), eL 13 5 a1 TStamp.row, eI 14 (↑a1.length : Int), eI 15 (↑s.1.2.2 : Int)]) (fun s => s.1.1) ⟨((a1.length + 1), ([] : List TSpan), 0), rfl, by first | omega | (dsimp only; omega) | simp⟩ (wk_of [((8, 0), none)] [] rfl (by simp)) ?_
 rintro ⟨⟨n1, v1_0, v1_1⟩, e1, j1⟩
 try dsimp only at e1 j1
 obtain ⟨p1, rfl⟩ : ∃ p, n1 = p + 1 := ⟨n1 - 1, by omega⟩
 simp
 refine cC (decide ((↑v1_1 : Int) < (↑a1.length : Int))) (fun k2 h1 => ?_) (fun k2 h1 => ?_)
 ·have q1 := h1; try simp at q1
  have i1 : v1_1 < a1.length := by simpa using h1
  have m2 : a1.length ≤ 9223372036854775807 := by simpa using k2 13 _ rfl
  have c1 : a1.length ≤ 2318336 := sm_len (by simp (maxDischargeDepth := 12) [u0, u1])
  have w1 : IntKind.i64.wrap ((v1_1 : Int) + 1) = (v1_1 : Int) + 1 := wrap_of (by omega) (by omega)
  simp [i1, rowAt_map]
  repeat with_reducible refine sd ?_
  refine cR (i_StampSpan_ok a0 (nth a1 v1_1)) ?_
  simp
  refine cC (!(i_StampSpan a0 (nth a1 v1_1)).2) (fun k3 h2 => ?_) (fun k3 h2 => ?_)
  ·have q2 := h2; try simp at q2
   have x1 : i_agreedOn_1 a0 a1 (a1.length + 1) ([] : List TSpan) 0 = .inl ((TSpan.mk 0 0), false) := by rw [← e1]; simp only [i_agreedOn_1, h1, h2, cond_t, cond_f]
   simp
   refine retRd (rv := [.cell 6 182, .tmp 7]) rfl ?_
   have f1 := i_agreedOn.eq_1 a0 a1 a2; simp only [x1, cond_t, cond_f] at f1; simp [f1]
  ·have q2 := h2; try simp at q2
   simp
   repeat with_reducible refine sd ?_
   refine nxtI ⟨(p1, (v1_0 ++ ([(i_StampSpan a0 (nth a1 v1_1)).1] : List TSpan)), (v1_1 + 1)), ?_, ?_⟩ (by simp) (wk_of [((8, 0), some (31, 0))] [] rfl (by simp [w1]))
   · rw [← e1]; simp only [i_agreedOn_1, h1, h2, cond_t, cond_f]
   · first | omega | (simp at *; omega)
 ·have q1 := h1; try simp at q1
  have c2 : a1.length ≤ 2318336 := sm_len (by simp (maxDischargeDepth := 12) [u0, u1])
  have x2 : i_agreedOn_1 a0 a1 (a1.length + 1) ([] : List TSpan) 0 = .inr v1_0 := by rw [← e1]; simp only [i_agreedOn_1, h1, cond_t, cond_f]
  simp
  refine cR (i_AgreedSpan_ok v1_0 a2) ?_
  simp
  refine retRd (rv := [.cell 6 182, .tmp 7]) rfl ?_
  have f2 := i_agreedOn.eq_1 a0 a1 a2; simp only [x2, cond_t, cond_f] at f2; simp [f2]
theorem i_RenewalSpan_ok (a0 : List TAuthority) (a1 : TRenewal) (a2 : Int) (u0 : Sm 2314240 a0) (u1 : Sm 2314240 a1) : SoundAt Tryz.prog 173 false [[.sl 3 (a0.map TAuthority.row)], a1.row, [.int .i64 a2]] [(i_RenewalSpan a0 a1 a2).1.row, [.bool (i_RenewalSpan a0 a1 a2).2]] := by
 refine sound_of Tryz.func173 rfl (by kernel_rfl) ?_
 simp [Tryz.ntmps173]
 refine cR (i_agreedOn_ok a0 a1.Stamps a2 (sg u0) (sg (TRenewal.sm_Stamps u1))) ?_
 simp
 refine retRd (rv := [.cell 6 182, .tmp 7]) rfl ?_
 have f1 := i_RenewalSpan.eq_1 a0 a1 a2; simp [f1]
theorem i_Frame_spanOf_ok (a0 : TFrame) (a1 : TRenewal) (u0 : Sm 2310144 a0) (u1 : Sm 2310144 a1) : SoundAt Tryz.prog 138 false [a0.row, a1.row] [(i_Frame_spanOf a0 a1).1.row, [.bool (i_Frame_spanOf a0 a1).2]] := by
 refine sound_of Tryz.func138 rfl (by kernel_rfl) ?_
 simp [Tryz.ntmps138]
 refine cR (i_RenewalSpan_ok a0.Authorities a1 a0.Liars (sg (TFrame.sm_Authorities u0)) (sg u1)) ?_
 simp
 refine retRd (rv := [.cell 4 182, .tmp 5]) rfl ?_
 have f1 := i_Frame_spanOf.eq_1 a0 a1; simp [f1]
theorem i_StampInts_ok (a0 : TStamp) : SoundD Tryz.prog 113 [a0.row] [[.sl 1 ((i_StampInts a0).map iR)]] := by
 refine sound_ofD Tryz.func113 rfl (by kernel_rfl) ?_
 simp [Tryz.ntmps113]
 refine retD (rv := [.tmp 2]) rfl ?_
 have f1 := i_StampInts.eq_1 a0; simp [f1]
theorem i_RenewalDigest_ok (a0 : Int) (a1 : TRenewal) (u0 : Sm 2326528 a1) : SoundAt Tryz.prog 108 false [[.int .i64 a0], a1.row] [[.int .i64 (i_RenewalDigest a0 a1)]] := by
 refine sound_of Tryz.func108 rfl (by kernel_rfl) ?_
 simp [Tryz.ntmps108]
 refine okL fun k1 => ?_
 refine loopI (ι := { s : Nat × (List Int) × Nat // i_RenewalDigest_1 a1 s.1 s.2.1 s.2.2 = i_RenewalDigest_1 a1 (a1.Path.length + 1) ([4, a1.Count, a1.Method, a1.Root] : List Int) 0 ∧ (1 ≤ s.1 ∧ a1.Path.length < s.1 + s.2.2 ∧ s.2.2 ≤ a1.Path.length ∧ s.2.1.length ≤ 4 + 2 * s.2.2) }) (fun s => stOf 59 [eI 0 a0, eX 3 (a1.row.map .d), (5, .one (.sref 5 0 0 s.1.2.1.length), [.arr false 1 (s.1.2.1.map iR)]), eL 19 2 a1.Path TStep.row, eI 20 (↑a1.Path.length : Int), eI 21 (↑s.1.2.2 : Int)]) (fun s => s.1.1) ⟨((a1.Path.length + 1), ([4, a1.Count, a1.Method, a1.Root] : List Int), 0), rfl, by first | omega | (dsimp only; omega) | simp⟩ (wk_of [((5, 0), some (17, 0))] [] rfl (by simp)) ?_
 rintro ⟨⟨n1, v1_0, v1_1⟩, e1, j1⟩
 try dsimp only at e1 j1
 obtain ⟨p1, rfl⟩ : ∃ p, n1 = p + 1 := ⟨n1 - 1, by omega⟩
 simp
 refine cC (decide ((↑v1_1 : Int) < (↑a1.Path.length : Int))) (fun k2 h1 => ?_) (fun k2 h1 => ?_)
 ·have q1 := h1; try simp at q1
  have i1 : v1_1 < a1.Path.length := by simpa using h1
  have m2 : a1.Path.length ≤ 9223372036854775807 := by simpa using k2 19 _ rfl
  have c1 : a1.Path.length ≤ 2326528 := sm_len (by simp (maxDischargeDepth := 12) [u0])
  have w1 : IntKind.i64.wrap ((v1_1 : Int) + 1) = (v1_1 : Int) + 1 := wrap_of (by omega) (by omega)
  simp [i1, rowAt_map]
  repeat with_reducible refine sd ?_
  refine cC (nth a1.Path v1_1).Left (fun k3 h2 => ?_) (fun k3 h2 => ?_)
  ·have q2 := h2; try simp at q2
   simp
   repeat with_reducible refine sd ?_
   refine nxtI ⟨(p1, (v1_0 ++ ([(nth a1.Path v1_1).Digest, 1] : List Int)), (v1_1 + 1)), ?_, ?_⟩ (by simp) (wk_of [((5, 0), some (32, 0))] [] rfl (by simp [w1]))
   · rw [← e1]; simp only [i_RenewalDigest_1, h1, h2, cond_t, cond_f]
   · first | omega | (simp at *; omega)
  ·have q2 := h2; try simp at q2
   simp
   repeat with_reducible refine sd ?_
   refine nxtI ⟨(p1, (v1_0 ++ ([(nth a1.Path v1_1).Digest, 0] : List Int)), (v1_1 + 1)), ?_, ?_⟩ (by simp) (wk_of [((5, 0), some (32, 0))] [] rfl (by simp [w1]))
   · rw [← e1]; simp only [i_RenewalDigest_1, h1, h2, cond_t, cond_f]
   · first | omega | (simp at *; omega)
 ·have q1 := h1; try simp at q1
  have c2 : a1.Path.length ≤ 2326528 := sm_len (by simp (maxDischargeDepth := 12) [u0])
  have x1 : i_RenewalDigest_1 a1 (a1.Path.length + 1) ([4, a1.Count, a1.Method, a1.Root] : List Int) 0 = v1_0 := by rw [← e1]; simp only [i_RenewalDigest_1, h1, cond_t, cond_f]
  simp
  repeat with_reducible refine sd ?_
  refine okL fun k4 => ?_
  refine loopI (ι := { s : Nat × (List Int) × Nat // i_RenewalDigest_2 a1 s.1 s.2.1 s.2.2 = i_RenewalDigest_2 a1 (a1.Stamps.length + 1) (v1_0 ++ ([(↑a1.Stamps.length : Int)] : List Int)) 0 ∧ (1 ≤ s.1 ∧ a1.Stamps.length < s.1 + s.2.2 ∧ s.2.2 ≤ a1.Stamps.length ∧ s.2.1.length ≤ 5 + 2 * 2326528 + 6 * s.2.2) }) (fun s => stOf 59 [eI 0 a0, (5, .one (.sref 5 0 0 s.1.2.1.length), [.arr false 1 (s.1.2.1.map iR)]), eL 41 5 a1.Stamps TStamp.row, eI 42 (↑a1.Stamps.length : Int), eI 43 (↑s.1.2.2 : Int)]) (fun s => s.1.1) ⟨((a1.Stamps.length + 1), (v1_0 ++ ([(↑a1.Stamps.length : Int)] : List Int)), 0), rfl, by (have o : a1.Path.length ≤ 2326528 := sm_len (by simp (maxDischargeDepth := 12) [u0]); simp at *; omega)⟩ (wk_of [((5, 0), some (39, 0))] [] rfl (by simp)) ?_
  rintro ⟨⟨n2, v2_0, v2_1⟩, e2, j2⟩
  try dsimp only at e2 j2
  obtain ⟨p2, rfl⟩ : ∃ p, n2 = p + 1 := ⟨n2 - 1, by omega⟩
  simp
  refine cC (decide ((↑v2_1 : Int) < (↑a1.Stamps.length : Int))) (fun k5 h3 => ?_) (fun k5 h3 => ?_)
  ·have q3 := h3; try simp at q3
   have i2 : v2_1 < a1.Stamps.length := by simpa using h3
   have m4 : a1.Stamps.length ≤ 9223372036854775807 := by simpa using k5 41 _ rfl
   have c3 : a1.Stamps.length ≤ 2326528 := sm_len (by simp (maxDischargeDepth := 12) [u0])
   have w2 : IntKind.i64.wrap ((v2_1 : Int) + 1) = (v2_1 : Int) + 1 := wrap_of (by omega) (by omega)
   simp [i2, rowAt_map]
   repeat with_reducible refine sd ?_
   refine okD fun k6 => ?_
   refine drawI mixed (by kernel_rfl) (by kernel_rfl) ?_
   simp
   refine cR (SoundD.rd (i_StampInts_ok (nth a1.Stamps v2_1))) ?_
   simp
   repeat with_reducible refine sd ?_
   refine nxtI ⟨(p2, ((v2_0 ++ (i_StampInts (nth a1.Stamps v2_1))) ++ ([(nth a1.Stamps v2_1).Mark] : List Int)), (v2_1 + 1)), ?_, ?_⟩ (by simp) (wk_of [((5, 0), some (54, 0))] [] rfl (by simp [w2]))
   · rw [← e2]; simp only [i_RenewalDigest_2, h3, cond_t, cond_f]
   · (simp; omega)
  ·have q3 := h3; try simp at q3
   have c4 : a1.Stamps.length ≤ 2326528 := sm_len (by simp (maxDischargeDepth := 12) [u0])
   have x2 : i_RenewalDigest_2 a1 (a1.Stamps.length + 1) (v1_0 ++ ([(↑a1.Stamps.length : Int)] : List Int)) 0 = v2_0 := by rw [← e2]; simp only [i_RenewalDigest_2, h3, cond_t, cond_f]
   simp
   refine cR (i_DigestOf_ok a0 v2_0 (by first | (simp (maxDischargeDepth := 12) [sm_list]; omega) | (simp (maxDischargeDepth := 12) [sm_mono (m := 68719476736) (by decide) u0]; done))) ?_
   simp
   refine retRd (rv := [.tmp 4]) rfl ?_
   have f1 := i_RenewalDigest.eq_1 a0 a1; simp only [x1, x2, cond_t, cond_f] at f1; simp [f1]
theorem i_PiecesDigest_ok (a0 : Int) (a1 : List TPiece) (u0 : Sm 2326528 a1) : SoundAt Tryz.prog 155 false [[.int .i64 a0], [.sl 3 (a1.map TPiece.row)]] [[.int .i64 (i_PiecesDigest a0 a1)]] := by
 refine sound_of Tryz.func155 rfl (by kernel_rfl) ?_
 simp [Tryz.ntmps155]
 refine okL fun k1 => ?_
 refine loopI (ι := { s : Nat × (List Int) × Nat // i_PiecesDigest_1 a0 a1 s.1 s.2.1 s.2.2 = i_PiecesDigest_1 a0 a1 (a1.length + 1) ([2] : List Int) 0 ∧ (1 ≤ s.1 ∧ a1.length < s.1 + s.2.2 ∧ s.2.2 ≤ a1.length ∧ s.2.1.length ≤ 1 + 1 * s.2.2) }) (fun s => stOf 32 [eI 0 a0, (5, .one (.sref 5 0 0 s.1.2.1.length), [.arr false 1 (s.1.2.1.map iR)]), eL 9 3 a1 TPiece.row, eI 10 (↑a1.length : Int), eI 11 (↑s.1.2.2 : Int)]) (fun s => s.1.1) ⟨((a1.length + 1), ([2] : List Int), 0), rfl, by first | omega | (dsimp only; omega) | simp⟩ (wk_of [((5, 0), some (8, 0))] [] rfl (by simp)) ?_
 rintro ⟨⟨n1, v1_0, v1_1⟩, e1, j1⟩
 try dsimp only at e1 j1
 obtain ⟨p1, rfl⟩ : ∃ p, n1 = p + 1 := ⟨n1 - 1, by omega⟩
 simp
 refine cC (decide ((↑v1_1 : Int) < (↑a1.length : Int))) (fun k2 h1 => ?_) (fun k2 h1 => ?_)
 ·have q1 := h1; try simp at q1
  have i1 : v1_1 < a1.length := by simpa using h1
  have m2 : a1.length ≤ 9223372036854775807 := by simpa using k2 9 _ rfl
  have c1 : a1.length ≤ 2326528 := sm_len (by simp (maxDischargeDepth := 12) [u0])
  have w1 : IntKind.i64.wrap ((v1_1 : Int) + 1) = (v1_1 : Int) + 1 := wrap_of (by omega) (by omega)
  have c2 : (nth a1 v1_1).Ints.length ≤ 2326528 := sm_len (by simp (maxDischargeDepth := 12) [u0])
  simp [i1, rowAt_map]
  repeat with_reducible refine sd ?_
  refine cR (i_DigestOf_ok a0 (([(nth a1 v1_1).Key, (nth a1 v1_1).Mark] : List Int) ++ (nth a1 v1_1).Ints) (by simp (maxDischargeDepth := 12) [sm_append, sm_list, sm_mono (m := 68719476736) (by decide) u0]; try omega)) ?_
  simp
  repeat with_reducible refine sd ?_
  refine nxtI ⟨(p1, (v1_0 ++ ([(i_DigestOf a0 (([(nth a1 v1_1).Key, (nth a1 v1_1).Mark] : List Int) ++ (nth a1 v1_1).Ints))] : List Int)), (v1_1 + 1)), ?_, ?_⟩ (by simp) (wk_of [((5, 0), some (27, 0))] [] rfl (by simp [w1]))
  · rw [← e1]; simp only [i_PiecesDigest_1, h1, cond_t, cond_f]
  · first | omega | (simp at *; omega)
 ·have q1 := h1; try simp at q1
  have c3 : a1.length ≤ 2326528 := sm_len (by simp (maxDischargeDepth := 12) [u0])
  have x1 : i_PiecesDigest_1 a0 a1 (a1.length + 1) ([2] : List Int) 0 = v1_0 := by rw [← e1]; simp only [i_PiecesDigest_1, h1, cond_t, cond_f]
  simp
  refine cR (i_DigestOf_ok a0 v1_0 (by first | (simp (maxDischargeDepth := 12) [sm_list]; omega) | (simp (maxDischargeDepth := 12) [sm_mono (m := 68719476736) (by decide) u0]; done))) ?_
  simp
  refine retRd (rv := [.tmp 4]) rfl ?_
  have f1 := i_PiecesDigest.eq_1 a0 a1; simp only [x1, cond_t, cond_f] at f1; simp [f1]
theorem i_LeafOf_ok (a0 : Int) (a1 : Int) (a2 : List TPiece) (a3 : Int) (u0 : Sm 2322432 a2) : SoundAt Tryz.prog 109 false [[.int .i64 a0], [.int .i64 a1], [.sl 3 (a2.map TPiece.row)], [.int .i64 a3]] [[.int .i64 (i_LeafOf a0 a1 a2 a3)]] := by
 refine sound_of Tryz.func109 rfl (by kernel_rfl) ?_
 simp [Tryz.ntmps109]
 refine cR (i_PiecesDigest_ok a0 a2 (sg u0)) ?_
 simp
 refine cR (i_DigestOf_ok a0 ([3, a1, (i_PiecesDigest a0 a2), a3] : List Int) (by simp (maxDischargeDepth := 12) [sm_append, sm_list, sm_mono (m := 68719476736) (by decide) u0]; try omega)) ?_
 simp
 refine retRd (rv := [.tmp 8]) rfl ?_
 have f1 := i_LeafOf.eq_1 a0 a1 a2 a3; simp [f1]
theorem i_LeafAt_ok (a0 : TStrand) (a1 : List Int) (a2 : Int) (u0 : Sm 2318336 a0) (u1 : Sm 2318336 a1) : SoundAt Tryz.prog 140 false [a0.row, [.sl 1 (a1.map iR)], [.int .i64 a2]] [[.int .i64 (i_LeafAt a0 a1 a2)]] := by
 refine sound_of Tryz.func140 rfl (by kernel_rfl) ?_
 simp [Tryz.ntmps140]
 refine okD fun k1 => ?_
 refine drawI mixed (by kernel_rfl) (by kernel_rfl) ?_
 simp
 refine cR (i_InRange_ok a2 0 (W ((↑a0.Chain.length : Int) - 1))) ?_
 simp
 refine guardI rfl rfl rfl rfl rfl (by simp) (fun g1 => ?_) (fun g1 => ?_)
 ·have g1x := g1; try simp only [beq_true, beq_false, Bool.not_eq_true', Bool.not_eq_false', Bool.true_and, Bool.and_true] at g1x
  have c1 : a0.Chain.length ≤ 2318336 := sm_len (by simp (maxDischargeDepth := 12) [u0, u1])
  have w1 : IntKind.i64.wrap ((a0.Chain.length : Int) - 1) = (a0.Chain.length : Int) - 1 := wrap_of (by omega) (by omega)
  try simp [i_InRange, w1] at g1
  have i1 : a2.toNat < a0.Chain.length := by (have cc : a0.Chain.length ≤ 2318336 := sm_len (by simp (maxDischargeDepth := 12) [u0]); have z0 := g1x; simp at z0; have z := i_InRange_idx (by omega) z0.1; have z2 := z0.2; (try have w3 : IntKind.i64.wrap (a2 - 1) = a2 - 1 := wrap_of (by omega) (by omega)); (try have w4 : W (a2 - 1) = a2 - 1 := w3); omega)
  simp [i1, rowAt_map, g1x]
  repeat ((with_reducible refine And.intro ?_ ?_); focus (intros; first | first | omega | (have cc : a0.Chain.length ≤ 2318336 := sm_len (by simp (maxDischargeDepth := 12) [u0]); have z0 := g1x; simp at z0; have z := i_InRange_idx (by omega) z0.1; have z2 := z0.2; (try have w3 : IntKind.i64.wrap (a2 - 1) = a2 - 1 := wrap_of (by omega) (by omega)); (try have w4 : W (a2 - 1) = a2 - 1 := w3); first | omega | (refine ⟨⟨z0.1, by omega⟩, by omega, by omega⟩) | (simp_all; omega)) | (simp_all; done) | (simp_all; omega) | grind | ((try simp only [W_def, show ∀ x, IntKind.i64.wrap x = W x from fun _ => rfl] at *); omega)))
  refine callG rfl rfl rfl rfl rfl rfl (fun gg => (i_InRange_ok (nth a0.Chain a2.toNat).Count 0 (↑a0.Pieces.length : Int))) (by first | (simp; done) | (simp [g1x]; done) | (simp [g1x]; omega) | (simp_all; done)) (by first | (simp; done) | (simp [g1x]; done) | (simp [g1x]; omega) | (simp_all; done)) (by first | (simp; done) | (simp [g1x]; done) | (simp [g1x]; omega) | (simp_all; done)) (by first | (simp; done) | (simp [g1x]; done) | (simp [g1x]; omega) | (simp_all; done)) ?_
  simp [g1x]
  repeat ((with_reducible refine And.intro ?_ ?_); focus (intros; first | first | omega | (have cc : a0.Chain.length ≤ 2318336 := sm_len (by simp (maxDischargeDepth := 12) [u0]); have z0 := g1x; simp at z0; have z := i_InRange_idx (by omega) z0.1; have z2 := z0.2; (try have w3 : IntKind.i64.wrap (a2 - 1) = a2 - 1 := wrap_of (by omega) (by omega)); (try have w4 : W (a2 - 1) = a2 - 1 := w3); first | omega | (refine ⟨⟨z0.1, by omega⟩, by omega, by omega⟩) | (simp_all; omega)) | (simp_all; done) | (simp_all; omega) | grind | ((try simp only [W_def, show ∀ x, IntKind.i64.wrap x = W x from fun _ => rfl] at *); omega)))
  refine condR (c := (((!(i_InRange a2 0 (W ((↑a0.Chain.length : Int) - 1)))) || ((↑a1.length : Int) != (↑a0.Chain.length : Int))) || (!(i_InRange (nth a0.Chain a2.toNat).Count 0 (↑a0.Pieces.length : Int))))) (by first | (simp [g1x]; done) | grind) (fun k2 h1 => ?_) (fun k2 h1 => ?_)
  ·try (have z := h1; simp [g1x] at z; done)
   all_goals
    have q1 := h1; try simp [i_InRange, w1] at q1
    simp [g1x]
    repeat ((with_reducible refine And.intro ?_ ?_); focus (intros; first | first | omega | (have cc : a0.Chain.length ≤ 2318336 := sm_len (by simp (maxDischargeDepth := 12) [u0]); have z0 := g1x; simp at z0; have z := i_InRange_idx (by omega) z0.1; have z2 := z0.2; (try have w3 : IntKind.i64.wrap (a2 - 1) = a2 - 1 := wrap_of (by omega) (by omega)); (try have w4 : W (a2 - 1) = a2 - 1 := w3); first | omega | (refine ⟨⟨z0.1, by omega⟩, by omega, by omega⟩) | (simp_all; omega)) | (simp_all; done) | (simp_all; omega) | grind | ((try simp only [W_def, show ∀ x, IntKind.i64.wrap x = W x from fun _ => rfl] at *); omega)))
    refine retRd (rv := [.tmp 6]) rfl ?_
    have f1 := i_LeafAt.eq_1 a0 a1 a2; simp only [h1, cond_t, cond_f] at f1; simp [f1, g1x]
  ·try (have z := h1; simp [g1x] at z; done)
   all_goals
    have q1 := h1; try simp [i_InRange, w1] at q1
    simp [i1, rowAt_map, g1x]
    repeat ((with_reducible refine And.intro ?_ ?_); focus (intros; first | first | omega | (have cc : a0.Chain.length ≤ 2318336 := sm_len (by simp (maxDischargeDepth := 12) [u0]); have z0 := g1x; simp at z0; have z := i_InRange_idx (by omega) z0.1; have z2 := z0.2; (try have w3 : IntKind.i64.wrap (a2 - 1) = a2 - 1 := wrap_of (by omega) (by omega)); (try have w4 : W (a2 - 1) = a2 - 1 := w3); first | omega | (refine ⟨⟨z0.1, by omega⟩, by omega, by omega⟩) | (simp_all; omega)) | (simp_all; done) | (simp_all; omega) | grind | ((try simp only [W_def, show ∀ x, IntKind.i64.wrap x = W x from fun _ => rfl] at *); omega)))
    refine condR (c := (decide (a2 > 0))) (by first | (simp [g1x]; done) | grind) (fun k3 h2 => ?_) (fun k3 h2 => ?_)
    ·try (have z := h2; simp [g1x] at z; done)
     all_goals
      have q2 := h2; try simp at q2
      simp [g1x]
      repeat ((with_reducible refine And.intro ?_ ?_); focus (intros; first | first | omega | (have cc : a0.Chain.length ≤ 2318336 := sm_len (by simp (maxDischargeDepth := 12) [u0]); have z0 := g1x; simp at z0; have z := i_InRange_idx (by omega) z0.1; have z2 := z0.2; (try have w3 : IntKind.i64.wrap (a2 - 1) = a2 - 1 := wrap_of (by omega) (by omega)); (try have w4 : W (a2 - 1) = a2 - 1 := w3); first | omega | (refine ⟨⟨z0.1, by omega⟩, by omega, by omega⟩) | (simp_all; omega)) | (simp_all; done) | (simp_all; omega) | grind | ((try simp only [W_def, show ∀ x, IntKind.i64.wrap x = W x from fun _ => rfl] at *); omega)))
      refine okD fun k4 => ?_
      refine drawI mixed (by kernel_rfl) (by kernel_rfl) ?_
      have i2 : (W (a2 - 1)).toNat < a0.Chain.length := by (have cc : a0.Chain.length ≤ 2318336 := sm_len (by simp (maxDischargeDepth := 12) [u0]); have z0 := g1x; simp at z0; have z := i_InRange_idx (by omega) z0.1; have z2 := z0.2; (try have w3 : IntKind.i64.wrap (a2 - 1) = a2 - 1 := wrap_of (by omega) (by omega)); (try have w4 : W (a2 - 1) = a2 - 1 := w3); omega)
      simp [i2, rowAt_map, g1x]
      repeat ((with_reducible refine And.intro ?_ ?_); focus (intros; first | first | omega | (have cc : a0.Chain.length ≤ 2318336 := sm_len (by simp (maxDischargeDepth := 12) [u0]); have z0 := g1x; simp at z0; have z := i_InRange_idx (by omega) z0.1; have z2 := z0.2; (try have w3 : IntKind.i64.wrap (a2 - 1) = a2 - 1 := wrap_of (by omega) (by omega)); (try have w4 : W (a2 - 1) = a2 - 1 := w3); first | omega | (refine ⟨⟨z0.1, by omega⟩, by omega, by omega⟩) | (simp_all; omega)) | (simp_all; done) | (simp_all; omega) | grind | ((try simp only [W_def, show ∀ x, IntKind.i64.wrap x = W x from fun _ => rfl] at *); omega)))
      refine cR (i_RenewalDigest_ok (nth a0.Chain a2.toNat).Method (nth a0.Chain (W (a2 - 1)).toNat) (sg (sm_nth (TStrand.sm_Chain u0)))) ?_ (hrows := by first | (simp; done) | (simp [W, w1]; done))
      simp [g1x]
      repeat ((with_reducible refine And.intro ?_ ?_); focus (intros; first | first | omega | (have cc : a0.Chain.length ≤ 2318336 := sm_len (by simp (maxDischargeDepth := 12) [u0]); have z0 := g1x; simp at z0; have z := i_InRange_idx (by omega) z0.1; have z2 := z0.2; (try have w3 : IntKind.i64.wrap (a2 - 1) = a2 - 1 := wrap_of (by omega) (by omega)); (try have w4 : W (a2 - 1) = a2 - 1 := w3); first | omega | (refine ⟨⟨z0.1, by omega⟩, by omega, by omega⟩) | (simp_all; omega)) | (simp_all; done) | (simp_all; omega) | grind | ((try simp only [W_def, show ∀ x, IntKind.i64.wrap x = W x from fun _ => rfl] at *); omega)))
      refine okD fun k5 => ?_
      refine drawI mixed (by kernel_rfl) (by kernel_rfl) ?_
      have i3 : a2.toNat < a1.length := by (have cc : a0.Chain.length ≤ 2318336 := sm_len (by simp (maxDischargeDepth := 12) [u0]); have z0 := g1x; simp at z0; have z := i_InRange_idx (by omega) z0.1; have z2 := z0.2; (try have w3 : IntKind.i64.wrap (a2 - 1) = a2 - 1 := wrap_of (by omega) (by omega)); (try have w4 : W (a2 - 1) = a2 - 1 := w3); omega)
      simp [i3, rowAt_map, g1x]
      repeat ((with_reducible refine And.intro ?_ ?_); focus (intros; first | first | omega | (have cc : a0.Chain.length ≤ 2318336 := sm_len (by simp (maxDischargeDepth := 12) [u0]); have z0 := g1x; simp at z0; have z := i_InRange_idx (by omega) z0.1; have z2 := z0.2; (try have w3 : IntKind.i64.wrap (a2 - 1) = a2 - 1 := wrap_of (by omega) (by omega)); (try have w4 : W (a2 - 1) = a2 - 1 := w3); first | omega | (refine ⟨⟨z0.1, by omega⟩, by omega, by omega⟩) | (simp_all; omega)) | (simp_all; done) | (simp_all; omega) | grind | ((try simp only [W_def, show ∀ x, IntKind.i64.wrap x = W x from fun _ => rfl] at *); omega)))
      refine cR (i_LeafOf_ok (nth a0.Chain a2.toNat).Method (nth a1 a2.toNat) (a0.Pieces.take (nth a0.Chain a2.toNat).Count.toNat) (i_RenewalDigest (nth a0.Chain a2.toNat).Method (nth a0.Chain (W (a2 - 1)).toNat)) (sm_mono (n := 2318336) (by decide) (by simp (maxDischargeDepth := 12) [u0, u1]))) ?_ (hrows := by first | (simp; done) | (simp [W, w1]; done))
      simp [g1x]
      repeat ((with_reducible refine And.intro ?_ ?_); focus (intros; first | first | omega | (have cc : a0.Chain.length ≤ 2318336 := sm_len (by simp (maxDischargeDepth := 12) [u0]); have z0 := g1x; simp at z0; have z := i_InRange_idx (by omega) z0.1; have z2 := z0.2; (try have w3 : IntKind.i64.wrap (a2 - 1) = a2 - 1 := wrap_of (by omega) (by omega)); (try have w4 : W (a2 - 1) = a2 - 1 := w3); first | omega | (refine ⟨⟨z0.1, by omega⟩, by omega, by omega⟩) | (simp_all; omega)) | (simp_all; done) | (simp_all; omega) | grind | ((try simp only [W_def, show ∀ x, IntKind.i64.wrap x = W x from fun _ => rfl] at *); omega)))
      refine retRd (rv := [.tmp 6]) rfl ?_
      have f2 := i_LeafAt.eq_1 a0 a1 a2; simp only [h1, h2, cond_t, cond_f] at f2; simp [f2, g1x]
    ·try (have z := h2; simp [g1x] at z; done)
     all_goals
      have q2 := h2; try simp at q2
      simp [g1x]
      repeat ((with_reducible refine And.intro ?_ ?_); focus (intros; first | first | omega | (have cc : a0.Chain.length ≤ 2318336 := sm_len (by simp (maxDischargeDepth := 12) [u0]); have z0 := g1x; simp at z0; have z := i_InRange_idx (by omega) z0.1; have z2 := z0.2; (try have w3 : IntKind.i64.wrap (a2 - 1) = a2 - 1 := wrap_of (by omega) (by omega)); (try have w4 : W (a2 - 1) = a2 - 1 := w3); first | omega | (refine ⟨⟨z0.1, by omega⟩, by omega, by omega⟩) | (simp_all; omega)) | (simp_all; done) | (simp_all; omega) | grind | ((try simp only [W_def, show ∀ x, IntKind.i64.wrap x = W x from fun _ => rfl] at *); omega)))
      refine okD fun k6 => ?_
      refine drawI mixed (by kernel_rfl) (by kernel_rfl) ?_
      have i4 : a2.toNat < a1.length := by (have cc : a0.Chain.length ≤ 2318336 := sm_len (by simp (maxDischargeDepth := 12) [u0]); have z0 := g1x; simp at z0; have z := i_InRange_idx (by omega) z0.1; have z2 := z0.2; (try have w3 : IntKind.i64.wrap (a2 - 1) = a2 - 1 := wrap_of (by omega) (by omega)); (try have w4 : W (a2 - 1) = a2 - 1 := w3); omega)
      simp [i4, rowAt_map, g1x]
      repeat ((with_reducible refine And.intro ?_ ?_); focus (intros; first | first | omega | (have cc : a0.Chain.length ≤ 2318336 := sm_len (by simp (maxDischargeDepth := 12) [u0]); have z0 := g1x; simp at z0; have z := i_InRange_idx (by omega) z0.1; have z2 := z0.2; (try have w3 : IntKind.i64.wrap (a2 - 1) = a2 - 1 := wrap_of (by omega) (by omega)); (try have w4 : W (a2 - 1) = a2 - 1 := w3); first | omega | (refine ⟨⟨z0.1, by omega⟩, by omega, by omega⟩) | (simp_all; omega)) | (simp_all; done) | (simp_all; omega) | grind | ((try simp only [W_def, show ∀ x, IntKind.i64.wrap x = W x from fun _ => rfl] at *); omega)))
      refine cR (i_LeafOf_ok (nth a0.Chain a2.toNat).Method (nth a1 a2.toNat) (a0.Pieces.take (nth a0.Chain a2.toNat).Count.toNat) 0 (sm_mono (n := 2318336) (by decide) (by simp (maxDischargeDepth := 12) [u0, u1]))) ?_
      simp [g1x]
      repeat ((with_reducible refine And.intro ?_ ?_); focus (intros; first | first | omega | (have cc : a0.Chain.length ≤ 2318336 := sm_len (by simp (maxDischargeDepth := 12) [u0]); have z0 := g1x; simp at z0; have z := i_InRange_idx (by omega) z0.1; have z2 := z0.2; (try have w3 : IntKind.i64.wrap (a2 - 1) = a2 - 1 := wrap_of (by omega) (by omega)); (try have w4 : W (a2 - 1) = a2 - 1 := w3); first | omega | (refine ⟨⟨z0.1, by omega⟩, by omega, by omega⟩) | (simp_all; omega)) | (simp_all; done) | (simp_all; omega) | grind | ((try simp only [W_def, show ∀ x, IntKind.i64.wrap x = W x from fun _ => rfl] at *); omega)))
      refine retRd (rv := [.tmp 6]) rfl ?_
      have f3 := i_LeafAt.eq_1 a0 a1 a2; simp only [h1, h2, cond_t, cond_f] at f3; simp [f3, g1x]
 ·have g1x := g1; try simp only [beq_true, beq_false, Bool.not_eq_true', Bool.not_eq_false', Bool.true_and, Bool.and_true] at g1x
  simp [g1x]
  repeat ((with_reducible refine And.intro ?_ ?_); focus (intros; first | first | omega | (have cc : a0.Chain.length ≤ 2318336 := sm_len (by simp (maxDischargeDepth := 12) [u0]); have z0 := g1x; simp at z0; have z := i_InRange_idx (by omega) z0.1; have z2 := z0.2; (try have w3 : IntKind.i64.wrap (a2 - 1) = a2 - 1 := wrap_of (by omega) (by omega)); (try have w4 : W (a2 - 1) = a2 - 1 := w3); first | omega | (refine ⟨⟨z0.1, by omega⟩, by omega, by omega⟩) | (simp_all; omega)) | (simp_all; done) | (simp_all; omega) | grind | ((try simp only [W_def, show ∀ x, IntKind.i64.wrap x = W x from fun _ => rfl] at *); omega)))
  refine skipG rfl rfl rfl rfl (by simp) (by simp [g1x]) ?_
  simp [g1x]
  repeat ((with_reducible refine And.intro ?_ ?_); focus (intros; first | first | omega | (have cc : a0.Chain.length ≤ 2318336 := sm_len (by simp (maxDischargeDepth := 12) [u0]); have z0 := g1x; simp at z0; have z := i_InRange_idx (by omega) z0.1; have z2 := z0.2; (try have w3 : IntKind.i64.wrap (a2 - 1) = a2 - 1 := wrap_of (by omega) (by omega)); (try have w4 : W (a2 - 1) = a2 - 1 := w3); first | omega | (refine ⟨⟨z0.1, by omega⟩, by omega, by omega⟩) | (simp_all; omega)) | (simp_all; done) | (simp_all; omega) | grind | ((try simp only [W_def, show ∀ x, IntKind.i64.wrap x = W x from fun _ => rfl] at *); omega)))
  have c2 : a0.Chain.length ≤ 2318336 := sm_len (by simp (maxDischargeDepth := 12) [u0, u1])
  have w2 : IntKind.i64.wrap ((a0.Chain.length : Int) - 1) = (a0.Chain.length : Int) - 1 := wrap_of (by omega) (by omega)
  refine condR (c := (((!(i_InRange a2 0 (W ((↑a0.Chain.length : Int) - 1)))) || ((↑a1.length : Int) != (↑a0.Chain.length : Int))) || (!(i_InRange (nth a0.Chain a2.toNat).Count 0 (↑a0.Pieces.length : Int))))) (by first | (simp [g1x]; done) | grind) (fun k7 h3 => ?_) (fun k7 h3 => ?_)
  ·try (have z := h3; simp [g1x] at z; done)
   all_goals
    have q3 := h3; try simp [i_InRange, w2] at q3
    simp [g1x]
    repeat ((with_reducible refine And.intro ?_ ?_); focus (intros; first | first | omega | (have cc : a0.Chain.length ≤ 2318336 := sm_len (by simp (maxDischargeDepth := 12) [u0]); have z0 := g1x; simp at z0; have z := i_InRange_idx (by omega) z0.1; have z2 := z0.2; (try have w3 : IntKind.i64.wrap (a2 - 1) = a2 - 1 := wrap_of (by omega) (by omega)); (try have w4 : W (a2 - 1) = a2 - 1 := w3); first | omega | (refine ⟨⟨z0.1, by omega⟩, by omega, by omega⟩) | (simp_all; omega)) | (simp_all; done) | (simp_all; omega) | grind | ((try simp only [W_def, show ∀ x, IntKind.i64.wrap x = W x from fun _ => rfl] at *); omega)))
    refine retRd (rv := [.tmp 6]) rfl ?_
    have f4 := i_LeafAt.eq_1 a0 a1 a2; simp only [h3, cond_t, cond_f] at f4; simp [f4, g1x]
  ·try (have z := h3; simp [g1x] at z; done)
   all_goals
    have q3 := h3; try simp [i_InRange, w2] at q3
    have i6 : a2.toNat < a0.Chain.length := by (have cc : a0.Chain.length ≤ 2318336 := sm_len (by simp (maxDischargeDepth := 12) [u0]); have z0 := g1x; simp at z0; have z := i_InRange_idx (by omega) z0.1; have z2 := z0.2; (try have w3 : IntKind.i64.wrap (a2 - 1) = a2 - 1 := wrap_of (by omega) (by omega)); (try have w4 : W (a2 - 1) = a2 - 1 := w3); omega)
    simp [i6, rowAt_map, g1x]
    repeat ((with_reducible refine And.intro ?_ ?_); focus (intros; first | first | omega | (have cc : a0.Chain.length ≤ 2318336 := sm_len (by simp (maxDischargeDepth := 12) [u0]); have z0 := g1x; simp at z0; have z := i_InRange_idx (by omega) z0.1; have z2 := z0.2; (try have w3 : IntKind.i64.wrap (a2 - 1) = a2 - 1 := wrap_of (by omega) (by omega)); (try have w4 : W (a2 - 1) = a2 - 1 := w3); first | omega | (refine ⟨⟨z0.1, by omega⟩, by omega, by omega⟩) | (simp_all; omega)) | (simp_all; done) | (simp_all; omega) | grind | ((try simp only [W_def, show ∀ x, IntKind.i64.wrap x = W x from fun _ => rfl] at *); omega)))
    refine condR (c := (decide (a2 > 0))) (by first | (simp [g1x]; done) | grind) (fun k8 h4 => ?_) (fun k8 h4 => ?_)
    ·try (have z := h4; simp [g1x] at z; done)
     all_goals
      have q4 := h4; try simp at q4
      simp [g1x]
      repeat ((with_reducible refine And.intro ?_ ?_); focus (intros; first | first | omega | (have cc : a0.Chain.length ≤ 2318336 := sm_len (by simp (maxDischargeDepth := 12) [u0]); have z0 := g1x; simp at z0; have z := i_InRange_idx (by omega) z0.1; have z2 := z0.2; (try have w3 : IntKind.i64.wrap (a2 - 1) = a2 - 1 := wrap_of (by omega) (by omega)); (try have w4 : W (a2 - 1) = a2 - 1 := w3); first | omega | (refine ⟨⟨z0.1, by omega⟩, by omega, by omega⟩) | (simp_all; omega)) | (simp_all; done) | (simp_all; omega) | grind | ((try simp only [W_def, show ∀ x, IntKind.i64.wrap x = W x from fun _ => rfl] at *); omega)))
      refine okD fun k9 => ?_
      refine drawI mixed (by kernel_rfl) (by kernel_rfl) ?_
      have i7 : (W (a2 - 1)).toNat < a0.Chain.length := by (have cc : a0.Chain.length ≤ 2318336 := sm_len (by simp (maxDischargeDepth := 12) [u0]); have z0 := g1x; simp at z0; have z := i_InRange_idx (by omega) z0.1; have z2 := z0.2; (try have w3 : IntKind.i64.wrap (a2 - 1) = a2 - 1 := wrap_of (by omega) (by omega)); (try have w4 : W (a2 - 1) = a2 - 1 := w3); omega)
      simp [i7, rowAt_map, g1x]
      repeat ((with_reducible refine And.intro ?_ ?_); focus (intros; first | first | omega | (have cc : a0.Chain.length ≤ 2318336 := sm_len (by simp (maxDischargeDepth := 12) [u0]); have z0 := g1x; simp at z0; have z := i_InRange_idx (by omega) z0.1; have z2 := z0.2; (try have w3 : IntKind.i64.wrap (a2 - 1) = a2 - 1 := wrap_of (by omega) (by omega)); (try have w4 : W (a2 - 1) = a2 - 1 := w3); first | omega | (refine ⟨⟨z0.1, by omega⟩, by omega, by omega⟩) | (simp_all; omega)) | (simp_all; done) | (simp_all; omega) | grind | ((try simp only [W_def, show ∀ x, IntKind.i64.wrap x = W x from fun _ => rfl] at *); omega)))
      refine cR (i_RenewalDigest_ok (nth a0.Chain a2.toNat).Method (nth a0.Chain (W (a2 - 1)).toNat) (sg (sm_nth (TStrand.sm_Chain u0)))) ?_ (hrows := by first | (simp; done) | (simp [W, w2]; done))
      simp [g1x]
      repeat ((with_reducible refine And.intro ?_ ?_); focus (intros; first | first | omega | (have cc : a0.Chain.length ≤ 2318336 := sm_len (by simp (maxDischargeDepth := 12) [u0]); have z0 := g1x; simp at z0; have z := i_InRange_idx (by omega) z0.1; have z2 := z0.2; (try have w3 : IntKind.i64.wrap (a2 - 1) = a2 - 1 := wrap_of (by omega) (by omega)); (try have w4 : W (a2 - 1) = a2 - 1 := w3); first | omega | (refine ⟨⟨z0.1, by omega⟩, by omega, by omega⟩) | (simp_all; omega)) | (simp_all; done) | (simp_all; omega) | grind | ((try simp only [W_def, show ∀ x, IntKind.i64.wrap x = W x from fun _ => rfl] at *); omega)))
      refine okD fun k10 => ?_
      refine drawI mixed (by kernel_rfl) (by kernel_rfl) ?_
      have i8 : a2.toNat < a1.length := by (have cc : a0.Chain.length ≤ 2318336 := sm_len (by simp (maxDischargeDepth := 12) [u0]); have z0 := g1x; simp at z0; have z := i_InRange_idx (by omega) z0.1; have z2 := z0.2; (try have w3 : IntKind.i64.wrap (a2 - 1) = a2 - 1 := wrap_of (by omega) (by omega)); (try have w4 : W (a2 - 1) = a2 - 1 := w3); omega)
      simp [i8, rowAt_map, g1x]
      repeat ((with_reducible refine And.intro ?_ ?_); focus (intros; first | first | omega | (have cc : a0.Chain.length ≤ 2318336 := sm_len (by simp (maxDischargeDepth := 12) [u0]); have z0 := g1x; simp at z0; have z := i_InRange_idx (by omega) z0.1; have z2 := z0.2; (try have w3 : IntKind.i64.wrap (a2 - 1) = a2 - 1 := wrap_of (by omega) (by omega)); (try have w4 : W (a2 - 1) = a2 - 1 := w3); first | omega | (refine ⟨⟨z0.1, by omega⟩, by omega, by omega⟩) | (simp_all; omega)) | (simp_all; done) | (simp_all; omega) | grind | ((try simp only [W_def, show ∀ x, IntKind.i64.wrap x = W x from fun _ => rfl] at *); omega)))
      refine cR (i_LeafOf_ok (nth a0.Chain a2.toNat).Method (nth a1 a2.toNat) (a0.Pieces.take (nth a0.Chain a2.toNat).Count.toNat) (i_RenewalDigest (nth a0.Chain a2.toNat).Method (nth a0.Chain (W (a2 - 1)).toNat)) (sm_mono (n := 2318336) (by decide) (by simp (maxDischargeDepth := 12) [u0, u1]))) ?_ (hrows := by first | (simp; done) | (simp [W, w2]; done))
      simp [g1x]
      repeat ((with_reducible refine And.intro ?_ ?_); focus (intros; first | first | omega | (have cc : a0.Chain.length ≤ 2318336 := sm_len (by simp (maxDischargeDepth := 12) [u0]); have z0 := g1x; simp at z0; have z := i_InRange_idx (by omega) z0.1; have z2 := z0.2; (try have w3 : IntKind.i64.wrap (a2 - 1) = a2 - 1 := wrap_of (by omega) (by omega)); (try have w4 : W (a2 - 1) = a2 - 1 := w3); first | omega | (refine ⟨⟨z0.1, by omega⟩, by omega, by omega⟩) | (simp_all; omega)) | (simp_all; done) | (simp_all; omega) | grind | ((try simp only [W_def, show ∀ x, IntKind.i64.wrap x = W x from fun _ => rfl] at *); omega)))
      refine retRd (rv := [.tmp 6]) rfl ?_
      have f5 := i_LeafAt.eq_1 a0 a1 a2; simp only [h3, h4, cond_t, cond_f] at f5; simp [f5, g1x]
    ·try (have z := h4; simp [g1x] at z; done)
     all_goals
      have q4 := h4; try simp at q4
      simp [g1x]
      repeat ((with_reducible refine And.intro ?_ ?_); focus (intros; first | first | omega | (have cc : a0.Chain.length ≤ 2318336 := sm_len (by simp (maxDischargeDepth := 12) [u0]); have z0 := g1x; simp at z0; have z := i_InRange_idx (by omega) z0.1; have z2 := z0.2; (try have w3 : IntKind.i64.wrap (a2 - 1) = a2 - 1 := wrap_of (by omega) (by omega)); (try have w4 : W (a2 - 1) = a2 - 1 := w3); first | omega | (refine ⟨⟨z0.1, by omega⟩, by omega, by omega⟩) | (simp_all; omega)) | (simp_all; done) | (simp_all; omega) | grind | ((try simp only [W_def, show ∀ x, IntKind.i64.wrap x = W x from fun _ => rfl] at *); omega)))
      refine okD fun k11 => ?_
      refine drawI mixed (by kernel_rfl) (by kernel_rfl) ?_
      have i9 : a2.toNat < a1.length := by (have cc : a0.Chain.length ≤ 2318336 := sm_len (by simp (maxDischargeDepth := 12) [u0]); have z0 := g1x; simp at z0; have z := i_InRange_idx (by omega) z0.1; have z2 := z0.2; (try have w3 : IntKind.i64.wrap (a2 - 1) = a2 - 1 := wrap_of (by omega) (by omega)); (try have w4 : W (a2 - 1) = a2 - 1 := w3); omega)
      simp [i9, rowAt_map, g1x]
      repeat ((with_reducible refine And.intro ?_ ?_); focus (intros; first | first | omega | (have cc : a0.Chain.length ≤ 2318336 := sm_len (by simp (maxDischargeDepth := 12) [u0]); have z0 := g1x; simp at z0; have z := i_InRange_idx (by omega) z0.1; have z2 := z0.2; (try have w3 : IntKind.i64.wrap (a2 - 1) = a2 - 1 := wrap_of (by omega) (by omega)); (try have w4 : W (a2 - 1) = a2 - 1 := w3); first | omega | (refine ⟨⟨z0.1, by omega⟩, by omega, by omega⟩) | (simp_all; omega)) | (simp_all; done) | (simp_all; omega) | grind | ((try simp only [W_def, show ∀ x, IntKind.i64.wrap x = W x from fun _ => rfl] at *); omega)))
      refine cR (i_LeafOf_ok (nth a0.Chain a2.toNat).Method (nth a1 a2.toNat) (a0.Pieces.take (nth a0.Chain a2.toNat).Count.toNat) 0 (sm_mono (n := 2318336) (by decide) (by simp (maxDischargeDepth := 12) [u0, u1]))) ?_
      simp [g1x]
      repeat ((with_reducible refine And.intro ?_ ?_); focus (intros; first | first | omega | (have cc : a0.Chain.length ≤ 2318336 := sm_len (by simp (maxDischargeDepth := 12) [u0]); have z0 := g1x; simp at z0; have z := i_InRange_idx (by omega) z0.1; have z2 := z0.2; (try have w3 : IntKind.i64.wrap (a2 - 1) = a2 - 1 := wrap_of (by omega) (by omega)); (try have w4 : W (a2 - 1) = a2 - 1 := w3); first | omega | (refine ⟨⟨z0.1, by omega⟩, by omega, by omega⟩) | (simp_all; omega)) | (simp_all; done) | (simp_all; omega) | grind | ((try simp only [W_def, show ∀ x, IntKind.i64.wrap x = W x from fun _ => rfl] at *); omega)))
      refine retRd (rv := [.tmp 6]) rfl ?_
      have f6 := i_LeafAt.eq_1 a0 a1 a2; simp only [h3, h4, cond_t, cond_f] at f6; simp [f6, g1x]
theorem i_PairDigest_ok (a0 : Int) (a1 : Int) (a2 : Int) : SoundAt Tryz.prog 205 false [[.int .i64 a0], [.int .i64 a1], [.int .i64 a2]] [[.int .i64 (i_PairDigest a0 a1 a2)]] := by
 refine sound_of Tryz.func205 rfl (by kernel_rfl) ?_
 simp [Tryz.ntmps205]
 refine cR (i_DigestOf_ok a0 ([1, a1, a2] : List Int) (by simp (maxDischargeDepth := 12) [sm_append, sm_list]; try omega)) ?_
 simp
 refine retRd (rv := [.tmp 6]) rfl ?_
 have f1 := i_PairDigest.eq_1 a0 a1 a2; simp [f1]
theorem i_FollowPath_ok (a0 : Int) (a1 : Int) (a2 : List TStep) : SoundAt Tryz.prog 174 false [[.int .i64 a0], [.int .i64 a1], [.sl 2 (a2.map TStep.row)]] [[.int .i64 (i_FollowPath a0 a1 a2)]] := by
 refine sound_of Tryz.func174 rfl (by kernel_rfl) ?_
 simp [Tryz.ntmps174]
 refine okL fun k1 => ?_
 refine loopI (ι := { s : Nat × Int × Nat // i_FollowPath_1 a0 a2 s.1 s.2.1 s.2.2 = i_FollowPath_1 a0 a2 (a2.length + 1) a1 0 ∧ (1 ≤ s.1 ∧ a2.length < s.1 + s.2.2 ∧ s.2.2 ≤ a2.length) }) (fun s => stOf 29 [eI 0 a0, eI 1 s.1.2.1, eL 9 2 a2 TStep.row, eI 10 (↑a2.length : Int), eI 11 (↑s.1.2.2 : Int)]) (fun s => s.1.1) ⟨((a2.length + 1), a1, 0), rfl, by first | omega | (dsimp only; omega) | simp⟩ (wk_keep (by simp)) ?_
 rintro ⟨⟨n1, v1_0, v1_1⟩, e1, j1⟩
 try dsimp only at e1 j1
 obtain ⟨p1, rfl⟩ : ∃ p, n1 = p + 1 := ⟨n1 - 1, by omega⟩
 simp
 refine cC (decide ((↑v1_1 : Int) < (↑a2.length : Int))) (fun k2 h1 => ?_) (fun k2 h1 => ?_)
 ·have q1 := h1; try simp at q1
  have i1 : v1_1 < a2.length := by simpa using h1
  have m2 : a2.length ≤ 9223372036854775807 := by simpa using k2 9 _ rfl
  have w1 : IntKind.i64.wrap ((v1_1 : Int) + 1) = (v1_1 : Int) + 1 := wrap_of (by omega) (by omega)
  simp [i1, rowAt_map]
  repeat with_reducible refine sd ?_
  refine cC (nth a2 v1_1).Left (fun k3 h2 => ?_) (fun k3 h2 => ?_)
  ·have q2 := h2; try simp at q2
   simp
   refine cR (i_PairDigest_ok a0 (nth a2 v1_1).Digest v1_0) ?_
   simp
   refine nxtI ⟨(p1, (i_PairDigest a0 (nth a2 v1_1).Digest v1_0), (v1_1 + 1)), ?_, ?_⟩ (by simp) (wk_keep (by simp [w1]))
   · rw [← e1]; simp only [i_FollowPath_1, h1, h2, cond_t, cond_f]
   · first | omega | (simp at *; omega)
  ·have q2 := h2; try simp at q2
   simp
   refine cR (i_PairDigest_ok a0 v1_0 (nth a2 v1_1).Digest) ?_
   simp
   refine nxtI ⟨(p1, (i_PairDigest a0 v1_0 (nth a2 v1_1).Digest), (v1_1 + 1)), ?_, ?_⟩ (by simp) (wk_keep (by simp [w1]))
   · rw [← e1]; simp only [i_FollowPath_1, h1, h2, cond_t, cond_f]
   · first | omega | (simp at *; omega)
 ·have q1 := h1; try simp at q1
  have x1 : i_FollowPath_1 a0 a2 (a2.length + 1) a1 0 = v1_0 := by rw [← e1]; simp only [i_FollowPath_1, h1, cond_t, cond_f]
  simp
  refine retRd (rv := [.tmp 6]) rfl ?_
  have f1 := i_FollowPath.eq_1 a0 a1 a2; simp only [x1, cond_t, cond_f] at f1; simp [f1]
theorem i_risingAuthorities_ok (a0 : List TStamp) : SoundAt Tryz.prog 175 false [[.sl 5 (a0.map TStamp.row)]] [[.bool (i_risingAuthorities a0)]] := by
 refine sound_of Tryz.func175 rfl (by kernel_rfl) ?_
 simp [Tryz.ntmps175]
 refine okL fun k1 => ?_
 refine loopI (ι := { s : Nat × Nat // i_risingAuthorities_1 a0 s.1 s.2 = i_risingAuthorities_1 a0 (a0.length + 1) 1 ∧ (1 ≤ s.1 ∧ a0.length < s.1 + s.2 ∧ 1 ≤ s.2) }) (fun s => stOf 22 [eL 0 5 a0 TStamp.row, eI 3 (↑s.1.2 : Int)]) (fun s => s.1.1) ⟨((a0.length + 1), 1), rfl, by first | omega | (dsimp only; omega) | simp⟩ (wk_keep (by simp)) ?_
 rintro ⟨⟨n1, v1_0⟩, e1, j1⟩
 try dsimp only at e1 j1
 obtain ⟨p1, rfl⟩ : ∃ p, n1 = p + 1 := ⟨n1 - 1, by omega⟩
 simp
 refine cC (decide ((↑v1_0 : Int) < (↑a0.length : Int))) (fun k2 h1 => ?_) (fun k2 h1 => ?_)
 ·have q1 := h1; try simp at q1
  have i1 : v1_0 < a0.length := by simpa using h1
  have m2 : a0.length ≤ 9223372036854775807 := by simpa using k2 0 _ rfl
  have w1 : IntKind.i64.wrap ((v1_0 : Int) + 1) = (v1_0 : Int) + 1 := wrap_of (by omega) (by omega)
  simp
  refine okD fun k3 => ?_
  refine drawI mixed (by kernel_rfl) (by kernel_rfl) ?_
  have i2 : (v1_0 - 1) < a0.length := il
  have w2 : IntKind.i64.wrap ((v1_0 : Int) - 1) = (v1_0 : Int) - 1 := wrap_of (by omega) (by omega)
  simp [i2, rowAt_map, w2, toNat_pred, i1]
  repeat with_reducible refine sd ?_
  refine cC (decide ((nth a0 (v1_0 - 1)).Authority ≥ (nth a0 v1_0).Authority)) (fun k4 h2 => ?_) (fun k4 h2 => ?_)
  ·have q2 := h2; try simp at q2
   have x1 : i_risingAuthorities_1 a0 (a0.length + 1) 1 = .inl false := by rw [← e1]; simp only [i_risingAuthorities_1, h1, h2, cond_t, cond_f]
   simp
   refine retRd (rv := [.tmp 2]) rfl ?_
   have f1 := i_risingAuthorities.eq_1 a0; simp only [x1, cond_t, cond_f] at f1; simp [f1]
  ·have q2 := h2; try simp at q2
   simp
   refine nxtI ⟨(p1, (v1_0 + 1)), ?_, ?_⟩ (by simp) (wk_keep (by simp [w1, w2]))
   · rw [← e1]; simp only [i_risingAuthorities_1, h1, h2, cond_t, cond_f]
   · first | omega | (simp at *; omega)
 ·have q1 := h1; try simp at q1
  have x2 : i_risingAuthorities_1 a0 (a0.length + 1) 1 = .inr () := by rw [← e1]; simp only [i_risingAuthorities_1, h1, cond_t, cond_f]
  simp
  refine retRd (rv := [.tmp 2]) rfl ?_
  have f2 := i_risingAuthorities.eq_1 a0; simp only [x2, cond_t, cond_f] at f2; simp [f2]
theorem i_FindKey_ok (a0 : List TKey) (a1 : Int) : SoundAt Tryz.prog 153 false [[.sl 5 (a0.map TKey.row)], [.int .i64 a1]] [[.int .i64 (i_FindKey a0 a1)]] := by
 refine sound_of Tryz.func153 rfl (by kernel_rfl) ?_
 simp [Tryz.ntmps153]
 refine okL fun k1 => ?_
 refine loopI (ι := { s : Nat × Nat // i_FindKey_1 a0 a1 s.1 s.2 = i_FindKey_1 a0 a1 (a0.length + 1) 0 ∧ (1 ≤ s.1 ∧ a0.length < s.1 + s.2 ∧ s.2 ≤ a0.length) }) (fun s => stOf 20 [eI 1 a1, eL 7 5 a0 TKey.row, eI 8 (↑a0.length : Int), eI 9 (↑s.1.2 : Int)]) (fun s => s.1.1) ⟨((a0.length + 1), 0), rfl, by first | omega | (dsimp only; omega) | simp⟩ (wk_keep (by simp)) ?_
 rintro ⟨⟨n1, v1_0⟩, e1, j1⟩
 try dsimp only at e1 j1
 obtain ⟨p1, rfl⟩ : ∃ p, n1 = p + 1 := ⟨n1 - 1, by omega⟩
 simp
 refine cC (decide ((↑v1_0 : Int) < (↑a0.length : Int))) (fun k2 h1 => ?_) (fun k2 h1 => ?_)
 ·have q1 := h1; try simp at q1
  have i1 : v1_0 < a0.length := by simpa using h1
  have m2 : a0.length ≤ 9223372036854775807 := by simpa using k2 7 _ rfl
  have w1 : IntKind.i64.wrap ((v1_0 : Int) + 1) = (v1_0 : Int) + 1 := wrap_of (by omega) (by omega)
  simp [i1, rowAt_map]
  repeat with_reducible refine sd ?_
  refine cC ((nth a0 v1_0).Number == a1) (fun k3 h2 => ?_) (fun k3 h2 => ?_)
  ·have q2 := h2; try simp at q2
   have x1 : i_FindKey_1 a0 a1 (a0.length + 1) 0 = .inl (↑v1_0 : Int) := by rw [← e1]; simp only [i_FindKey_1, h1, h2, cond_t, cond_f]
   simp
   refine retRd (rv := [.tmp 4]) rfl ?_
   have f1 := i_FindKey.eq_1 a0 a1; simp only [x1, cond_t, cond_f] at f1; simp [f1]
  ·have q2 := h2; try simp at q2
   simp
   refine nxtI ⟨(p1, (v1_0 + 1)), ?_, ?_⟩ (by simp) (wk_keep (by simp [w1]))
   · rw [← e1]; simp only [i_FindKey_1, h1, h2, cond_t, cond_f]
   · first | omega | (simp at *; omega)
 ·have q1 := h1; try simp at q1
  have x2 : i_FindKey_1 a0 a1 (a0.length + 1) 0 = .inr () := by rw [← e1]; simp only [i_FindKey_1, h1, cond_t, cond_f]
  simp
  refine retRd (rv := [.tmp 4]) rfl ?_
  have f2 := i_FindKey.eq_1 a0 a1; simp only [x2, cond_t, cond_f] at f2; simp [f2]
theorem i_KeyedHash_ok (a0 : Int) (a1 : List Int) (u0 : Sm 2330624 a1) : SoundAt Tryz.prog 186 false [[.int .i64 a0], [.sl 1 (a1.map iR)]] [[.int .i64 (i_KeyedHash a0 a1)]] := by
 refine sound_of Tryz.func186 rfl (by kernel_rfl) ?_
 have c1 : a1.length ≤ 2330624 := sm_len (by simp (maxDischargeDepth := 12) [u0])
 simp [Tryz.ntmps186]
 repeat with_reducible refine sd ?_
 refine cR (i_Hash_ok ((([a0] : List Int) ++ a1) ++ ([a0] : List Int))) ?_
 simp
 refine retRd (rv := [.tmp 4]) rfl ?_
 have f1 := i_KeyedHash.eq_1 a0 a1; simp [f1]
theorem i_MarkWith_ok (a0 : TKey) (a1 : List Int) (u0 : Sm 2326528 a1) : SoundAt Tryz.prog 157 false [a0.row, [.sl 1 (a1.map iR)]] [[.int .i64 (i_MarkWith a0 a1)]] := by
 refine sound_of Tryz.func157 rfl (by kernel_rfl) ?_
 simp [Tryz.ntmps157]
 refine okD fun k1 => ?_
 refine drawP [2, 3, 4, 5, 6, 0, 1, 7, 8] mixed (by kernel_rfl) (by kernel_rfl) (by kernel_rfl) ?_
 have c1 : a1.length ≤ 2326528 := sm_len (by simp (maxDischargeDepth := 12) [u0])
 simp
 repeat with_reducible refine sd ?_
 refine cR (i_KeyedHash_ok a0.Secret (([a0.Method] : List Int) ++ a1) (by simp (maxDischargeDepth := 12) [sm_append, sm_list, sm_mono (m := 2330624) (by decide) u0]; try omega)) ?_
 simp
 refine retRd (rv := [.tmp 4]) rfl ?_
 have f1 := i_MarkWith.eq_1 a0 a1; simp [f1]
theorem i_markBy_ok (a0 : List TKey) (a1 : Int) (a2 : List Int) (u0 : Sm 2322432 a0) (u1 : Sm 2322432 a2) : SoundAt Tryz.prog 112 false [[.sl 5 (a0.map TKey.row)], [.int .i64 a1], [.sl 1 (a2.map iR)]] [[.int .i64 (i_markBy a0 a1 a2).1], [.bool (i_markBy a0 a1 a2).2]] := by
 refine sound_of Tryz.func112 rfl (by kernel_rfl) ?_
 simp [Tryz.ntmps112]
 refine cR (i_FindKey_ok a0 a1) ?_
 simp
 refine cC (decide ((i_FindKey a0 a1) < 0)) (fun k1 h1 => ?_) (fun k1 h1 => ?_)
 ·have q1 := h1; try simp at q1
  simp
  refine retRd (rv := [.tmp 6, .tmp 7]) rfl ?_
  have f1 := i_markBy.eq_1 a0 a1 a2; simp only [h1, cond_t, cond_f] at f1; simp [f1]
 ·have q1 := h1; try simp at q1
  have i1 : (i_FindKey a0 a1).toNat < a0.length := by have := i_FindKey_lt a0 a1; exact il
  simp [i1, rowAt_map]
  repeat with_reducible refine sd ?_
  refine cR (i_MarkWith_ok (nth a0 (i_FindKey a0 a1).toNat) a2 (sg u1)) ?_
  simp
  refine retRd (rv := [.tmp 6, .tmp 7]) rfl ?_
  have f2 := i_markBy.eq_1 a0 a1 a2; simp only [h1, cond_t, cond_f] at f2; simp [f2]
theorem i_MakeStamp_ok (a0 : List TKey) (a1 : List TAuthority) (a2 : TStamp) (u0 : Sm 2318336 a0) (u1 : Sm 2318336 a1) : SoundAt Tryz.prog 59 false [[.sl 5 (a0.map TKey.row)], [.sl 3 (a1.map TAuthority.row)], a2.row] [(i_MakeStamp a0 a1 a2).1.row, [.bool (i_MakeStamp a0 a1 a2).2]] := by
 refine sound_of Tryz.func59 rfl (by kernel_rfl) ?_
 simp [Tryz.ntmps59]
 refine cR (i_FindAuthority_ok a1 a2.Authority) ?_
 simp
 refine cG (fun gg => (i_isTime_ok a2.Time)) ?_
 simp
 refine cC (((decide ((i_FindAuthority a1 a2.Authority) < 0)) || (decide (a2.Seq < 0))) || (!(i_isTime a2.Time))) (fun k1 h1 => ?_) (fun k1 h1 => ?_)
 ·have q1 := h1; try simp at q1
  simp
  refine retRd (rv := [.cell 6 86, .tmp 7]) rfl ?_
  have f1 := i_MakeStamp.eq_1 a0 a1 a2; simp only [h1, cond_t, cond_f] at f1; simp [f1]
 ·have q1 := h1; try simp at q1
  simp
  refine okD fun k2 => ?_
  refine drawI mixed (by kernel_rfl) (by kernel_rfl) ?_
  have i1 : (i_FindAuthority a1 a2.Authority).toNat < a1.length := by have := i_FindAuthority_lt a1 a2.Authority; exact il
  simp [i1, rowAt_map]
  repeat with_reducible refine sd ?_
  refine cR (SoundD.rd (i_StampInts_ok a2)) ?_
  simp
  refine cR (i_markBy_ok a0 (nth a1 (i_FindAuthority a1 a2.Authority).toNat).Key (i_StampInts a2) (sg u0) (by simp (maxDischargeDepth := 12) [i_StampInts_sm, sm_mono (m := 2322432) (by decide) u0, sm_mono (m := 2322432) (by decide) u1]; try omega)) ?_
  simp
  refine cC (!(i_markBy a0 (nth a1 (i_FindAuthority a1 a2.Authority).toNat).Key (i_StampInts a2)).2) (fun k3 h2 => ?_) (fun k3 h2 => ?_)
  ·have q2 := h2; try simp at q2
   simp
   refine retRd (rv := [.cell 6 86, .tmp 7]) rfl ?_
   have f2 := i_MakeStamp.eq_1 a0 a1 a2; simp only [h1, h2, cond_t, cond_f] at f2; simp [f2]
  ·have q2 := h2; try simp at q2
   simp
   refine retRd (rv := [.cell 6 86, .tmp 7]) rfl ?_
   have f3 := i_MakeStamp.eq_1 a0 a1 a2; simp only [h1, h2, cond_t, cond_f] at f3; simp [f3]
theorem i_CheckStamp_ok (a0 : List TKey) (a1 : List TAuthority) (a2 : TStamp) (u0 : Sm 2314240 a0) (u1 : Sm 2314240 a1) : SoundAt Tryz.prog 176 false [[.sl 5 (a0.map TKey.row)], [.sl 3 (a1.map TAuthority.row)], a2.row] [[.bool (i_CheckStamp a0 a1 a2)]] := by
 refine sound_of Tryz.func176 rfl (by kernel_rfl) ?_
 simp [Tryz.ntmps176]
 refine cR (i_MakeStamp_ok a0 a1 a2 (sg u0) (sg u1)) ?_
 simp
 refine retRd (rv := [.tmp 6]) rfl ?_
 have f1 := i_CheckStamp.eq_1 a0 a1 a2; simp [f1]
theorem i_CheckRenewal_ok (a0 : List TKey) (a1 : List TAuthority) (a2 : TRenewal) (a3 : Int) (u0 : Sm 2310144 a0) (u1 : Sm 2310144 a1) (u2 : Sm 2310144 a2) : SoundAt Tryz.prog 139 false [[.sl 5 (a0.map TKey.row)], [.sl 3 (a1.map TAuthority.row)], a2.row, [.int .i64 a3]] [[.bool (i_CheckRenewal a0 a1 a2 a3)]] := by
 refine sound_of Tryz.func139 rfl (by kernel_rfl) ?_
 simp [Tryz.ntmps139]
 refine okD fun k1 => ?_
 refine drawI mixed (by kernel_rfl) (by kernel_rfl) ?_
 simp
 refine cG (fun gg => (i_FollowPath_ok a2.Method a3 a2.Path)) ?_
 simp
 refine cG (fun gg => (i_InRange_ok (↑a2.Stamps.length : Int) 1 6)) ?_
 simp
 refine cG (fun gg => (i_risingAuthorities_ok a2.Stamps)) ?_
 simp
 refine cC ((((decide ((↑a2.Path.length : Int) > 4)) || ((i_FollowPath a2.Method a3 a2.Path) != a2.Root)) || (!(i_InRange (↑a2.Stamps.length : Int) 1 6))) || (!(i_risingAuthorities a2.Stamps))) (fun k2 h1 => ?_) (fun k2 h1 => ?_)
 ·have q1 := h1; try simp [i_InRange] at q1
  simp
  refine retRd (rv := [.tmp 8]) rfl ?_
  have f1 := i_CheckRenewal.eq_1 a0 a1 a2 a3; simp only [h1, cond_t, cond_f] at f1; simp [f1]
 ·have q1 := h1; try simp [i_InRange] at q1
  simp
  refine okL fun k3 => ?_
  refine loopI (ι := { s : Nat × Nat // i_CheckRenewal_1 a0 a1 a2 s.1 s.2 = i_CheckRenewal_1 a0 a1 a2 (a2.Stamps.length + 1) 0 ∧ (1 ≤ s.1 ∧ a2.Stamps.length < s.1 + s.2 ∧ s.2 ≤ a2.Stamps.length) }) (fun s => stOf 59 [eL 0 5 a0 TKey.row, eL 1 3 a1 TAuthority.row, eX 6 (a2.row.map .d), eL 40 5 a2.Stamps TStamp.row, eI 41 (↑a2.Stamps.length : Int), eI 42 (↑s.1.2 : Int)]) (fun s => s.1.1) ⟨((a2.Stamps.length + 1), 0), rfl, by first | omega | (dsimp only; omega) | simp⟩ (wk_keep (by simp)) ?_
  rintro ⟨⟨n1, v1_0⟩, e1, j1⟩
  try dsimp only at e1 j1
  obtain ⟨p1, rfl⟩ : ∃ p, n1 = p + 1 := ⟨n1 - 1, by omega⟩
  simp
  refine cC (decide ((↑v1_0 : Int) < (↑a2.Stamps.length : Int))) (fun k4 h2 => ?_) (fun k4 h2 => ?_)
  ·have q2 := h2; try simp at q2
   have i1 : v1_0 < a2.Stamps.length := by simpa using h2
   have m2 : a2.Stamps.length ≤ 9223372036854775807 := by simpa using k4 40 _ rfl
   have c1 : a2.Stamps.length ≤ 2310144 := sm_len (by simp (maxDischargeDepth := 12) [u0, u1, u2])
   have w1 : IntKind.i64.wrap ((v1_0 : Int) + 1) = (v1_0 : Int) + 1 := wrap_of (by omega) (by omega)
   simp [i1, rowAt_map]
   repeat with_reducible refine sd ?_
   refine cG (fun gg => (i_CheckStamp_ok a0 a1 (nth a2.Stamps v1_0) (sg u0) (sg u1))) ?_
   simp
   refine cC (((nth a2.Stamps v1_0).Digest != a2.Root) || (!(i_CheckStamp a0 a1 (nth a2.Stamps v1_0)))) (fun k5 h3 => ?_) (fun k5 h3 => ?_)
   ·have q3 := h3; try simp at q3
    have x1 : i_CheckRenewal_1 a0 a1 a2 (a2.Stamps.length + 1) 0 = .inl false := by rw [← e1]; simp only [i_CheckRenewal_1, h2, h3, cond_t, cond_f]
    simp
    refine retRd (rv := [.tmp 8]) rfl ?_
    have f2 := i_CheckRenewal.eq_1 a0 a1 a2 a3; simp only [h1, x1, cond_t, cond_f] at f2; simp [f2]
   ·have q3 := h3; try simp at q3
    simp
    refine nxtI ⟨(p1, (v1_0 + 1)), ?_, ?_⟩ (by simp) (wk_keep (by simp [w1]))
    · rw [← e1]; simp only [i_CheckRenewal_1, h2, h3, cond_t, cond_f]
    · first | omega | (simp at *; omega)
  ·have q2 := h2; try simp at q2
   have c2 : a2.Stamps.length ≤ 2310144 := sm_len (by simp (maxDischargeDepth := 12) [u0, u1, u2])
   have x2 : i_CheckRenewal_1 a0 a1 a2 (a2.Stamps.length + 1) 0 = .inr () := by rw [← e1]; simp only [i_CheckRenewal_1, h2, cond_t, cond_f]
   simp
   refine retRd (rv := [.tmp 8]) rfl ?_
   have f3 := i_CheckRenewal.eq_1 a0 a1 a2 a3; simp only [h1, x2, cond_t, cond_f] at f3; simp [f3]
theorem i_FindMethod_ok (a0 : List TMethod) (a1 : Int) : SoundAt Tryz.prog 209 false [[.sl 4 (a0.map TMethod.row)], [.int .i64 a1]] [[.int .i64 (i_FindMethod a0 a1)]] := by
 refine sound_of Tryz.func209 rfl (by kernel_rfl) ?_
 simp [Tryz.ntmps209]
 refine okL fun k1 => ?_
 refine loopI (ι := { s : Nat × Nat // i_FindMethod_1 a0 a1 s.1 s.2 = i_FindMethod_1 a0 a1 (a0.length + 1) 0 ∧ (1 ≤ s.1 ∧ a0.length < s.1 + s.2 ∧ s.2 ≤ a0.length) }) (fun s => stOf 20 [eI 1 a1, eL 7 4 a0 TMethod.row, eI 8 (↑a0.length : Int), eI 9 (↑s.1.2 : Int)]) (fun s => s.1.1) ⟨((a0.length + 1), 0), rfl, by first | omega | (dsimp only; omega) | simp⟩ (wk_keep (by simp)) ?_
 rintro ⟨⟨n1, v1_0⟩, e1, j1⟩
 try dsimp only at e1 j1
 obtain ⟨p1, rfl⟩ : ∃ p, n1 = p + 1 := ⟨n1 - 1, by omega⟩
 simp
 refine cC (decide ((↑v1_0 : Int) < (↑a0.length : Int))) (fun k2 h1 => ?_) (fun k2 h1 => ?_)
 ·have q1 := h1; try simp at q1
  have i1 : v1_0 < a0.length := by simpa using h1
  have m2 : a0.length ≤ 9223372036854775807 := by simpa using k2 7 _ rfl
  have w1 : IntKind.i64.wrap ((v1_0 : Int) + 1) = (v1_0 : Int) + 1 := wrap_of (by omega) (by omega)
  simp [i1, rowAt_map]
  repeat with_reducible refine sd ?_
  refine cC ((nth a0 v1_0).Id == a1) (fun k3 h2 => ?_) (fun k3 h2 => ?_)
  ·have q2 := h2; try simp at q2
   have x1 : i_FindMethod_1 a0 a1 (a0.length + 1) 0 = .inl (↑v1_0 : Int) := by rw [← e1]; simp only [i_FindMethod_1, h1, h2, cond_t, cond_f]
   simp
   refine retRd (rv := [.tmp 4]) rfl ?_
   have f1 := i_FindMethod.eq_1 a0 a1; simp only [x1, cond_t, cond_f] at f1; simp [f1]
  ·have q2 := h2; try simp at q2
   simp
   refine nxtI ⟨(p1, (v1_0 + 1)), ?_, ?_⟩ (by simp) (wk_keep (by simp [w1]))
   · rw [← e1]; simp only [i_FindMethod_1, h1, h2, cond_t, cond_f]
   · first | omega | (simp at *; omega)
 ·have q1 := h1; try simp at q1
  have x2 : i_FindMethod_1 a0 a1 (a0.length + 1) 0 = .inr () := by rw [← e1]; simp only [i_FindMethod_1, h1, cond_t, cond_f]
  simp
  refine retRd (rv := [.tmp 4]) rfl ?_
  have f2 := i_FindMethod.eq_1 a0 a1; simp only [x2, cond_t, cond_f] at f2; simp [f2]
theorem i_BreakOf_ok (a0 : List TMethod) (a1 : Int) : SoundAt Tryz.prog 185 false [[.sl 4 (a0.map TMethod.row)], [.int .i64 a1]] [[.int .i64 (i_BreakOf a0 a1)]] := by
 refine sound_of Tryz.func185 rfl (by kernel_rfl) ?_
 simp [Tryz.ntmps185]
 refine cR (i_FindMethod_ok a0 a1) ?_
 simp
 refine cC (decide ((i_FindMethod a0 a1) ≥ 0)) (fun k1 h1 => ?_) (fun k1 h1 => ?_)
 ·have q1 := h1; try simp at q1
  have i1 : (i_FindMethod a0 a1).toNat < a0.length := by have := i_FindMethod_lt a0 a1; exact il
  simp [i1, rowAt_map]
  repeat with_reducible refine sd ?_
  refine retRd (rv := [.tmp 4]) rfl ?_
  have f1 := i_BreakOf.eq_1 a0 a1; simp only [h1, cond_t, cond_f] at f1; simp [f1]
 ·have q1 := h1; try simp at q1
  simp
  refine retRd (rv := [.tmp 4]) rfl ?_
  have f2 := i_BreakOf.eq_1 a0 a1; simp only [h1, cond_t, cond_f] at f2; simp [f2]
theorem i_StampKey_ok (a0 : List TAuthority) (a1 : TStamp) : SoundAt Tryz.prog 206 false [[.sl 3 (a0.map TAuthority.row)], a1.row] [[.int .i64 (i_StampKey a0 a1)]] := by
 refine sound_of Tryz.func206 rfl (by kernel_rfl) ?_
 simp [Tryz.ntmps206]
 refine cR (i_FindAuthority_ok a0 a1.Authority) ?_
 simp
 refine cC (decide ((i_FindAuthority a0 a1.Authority) ≥ 0)) (fun k1 h1 => ?_) (fun k1 h1 => ?_)
 ·have q1 := h1; try simp at q1
  have i1 : (i_FindAuthority a0 a1.Authority).toNat < a0.length := by have := i_FindAuthority_lt a0 a1.Authority; exact il
  simp [i1, rowAt_map]
  repeat with_reducible refine sd ?_
  refine retRd (rv := [.tmp 4]) rfl ?_
  have f1 := i_StampKey.eq_1 a0 a1; simp only [h1, cond_t, cond_f] at f1; simp [f1]
 ·have q1 := h1; try simp at q1
  simp
  refine retRd (rv := [.tmp 4]) rfl ?_
  have f2 := i_StampKey.eq_1 a0 a1; simp only [h1, cond_t, cond_f] at f2; simp [f2]
theorem i_RenewalBreak_ok (a0 : List TKey) (a1 : List TAuthority) (a2 : List TMethod) (a3 : TRenewal) : SoundAt Tryz.prog 177 false [[.sl 5 (a0.map TKey.row)], [.sl 3 (a1.map TAuthority.row)], [.sl 4 (a2.map TMethod.row)], a3.row] [[.int .i64 (i_RenewalBreak a0 a1 a2 a3)]] := by
 refine sound_of Tryz.func177 rfl (by kernel_rfl) ?_
 simp [Tryz.ntmps177]
 refine cR (i_BreakOf_ok a2 a3.Method) ?_
 simp
 refine okL fun k1 => ?_
 refine loopI (ι := { s : Nat × Int × Nat // i_RenewalBreak_1 a0 a1 a2 a3 s.1 s.2.1 s.2.2 = i_RenewalBreak_1 a0 a1 a2 a3 (a3.Stamps.length + 1) (i_BreakOf a2 a3.Method) 0 ∧ (1 ≤ s.1 ∧ a3.Stamps.length < s.1 + s.2.2 ∧ s.2.2 ≤ a3.Stamps.length) }) (fun s => stOf 42 [eL 0 5 a0 TKey.row, eL 1 3 a1 TAuthority.row, eL 2 4 a2 TMethod.row, eI 9 s.1.2.1, eL 18 5 a3.Stamps TStamp.row, eI 19 (↑a3.Stamps.length : Int), eI 20 (↑s.1.2.2 : Int)]) (fun s => s.1.1) ⟨((a3.Stamps.length + 1), (i_BreakOf a2 a3.Method), 0), rfl, by first | omega | (dsimp only; omega) | simp⟩ (wk_keep (by simp)) ?_
 rintro ⟨⟨n1, v1_0, v1_1⟩, e1, j1⟩
 try dsimp only at e1 j1
 obtain ⟨p1, rfl⟩ : ∃ p, n1 = p + 1 := ⟨n1 - 1, by omega⟩
 simp
 refine cC (decide ((↑v1_1 : Int) < (↑a3.Stamps.length : Int))) (fun k2 h1 => ?_) (fun k2 h1 => ?_)
 ·have q1 := h1; try simp at q1
  have i1 : v1_1 < a3.Stamps.length := by simpa using h1
  have m2 : a3.Stamps.length ≤ 9223372036854775807 := by simpa using k2 18 _ rfl
  have w1 : IntKind.i64.wrap ((v1_1 : Int) + 1) = (v1_1 : Int) + 1 := wrap_of (by omega) (by omega)
  simp [i1, rowAt_map]
  repeat with_reducible refine sd ?_
  refine cR (i_StampKey_ok a1 (nth a3.Stamps v1_1)) ?_
  simp
  refine cR (i_FindKey_ok a0 (i_StampKey a1 (nth a3.Stamps v1_1))) ?_
  simp
  refine cC (decide ((i_FindKey a0 (i_StampKey a1 (nth a3.Stamps v1_1))) < 0)) (fun k3 h2 => ?_) (fun k3 h2 => ?_)
  ·have q2 := h2; try simp at q2
   have x1 : i_RenewalBreak_1 a0 a1 a2 a3 (a3.Stamps.length + 1) (i_BreakOf a2 a3.Method) 0 = .inl 0 := by rw [← e1]; simp only [i_RenewalBreak_1, h1, h2, cond_t, cond_f]
   simp
   refine retRd (rv := [.tmp 8]) rfl ?_
   have f1 := i_RenewalBreak.eq_1 a0 a1 a2 a3; simp only [x1, cond_t, cond_f] at f1; simp [f1]
  ·have q2 := h2; try simp at q2
   have i2 : (i_FindKey a0 (i_StampKey a1 (nth a3.Stamps v1_1))).toNat < a0.length := by have := i_FindKey_lt a0 (i_StampKey a1 (nth a3.Stamps v1_1)); exact il
   simp [i2, rowAt_map]
   repeat with_reducible refine sd ?_
   refine cR (i_BreakOf_ok a2 (nth a0 (i_FindKey a0 (i_StampKey a1 (nth a3.Stamps v1_1))).toNat).Method) ?_
   simp
   refine nxtI ⟨(p1, (if (i_BreakOf a2 (nth a0 (i_FindKey a0 (i_StampKey a1 (nth a3.Stamps v1_1))).toNat).Method) < v1_0 then (i_BreakOf a2 (nth a0 (i_FindKey a0 (i_StampKey a1 (nth a3.Stamps v1_1))).toNat).Method) else v1_0), (v1_1 + 1)), ?_, ?_⟩ (by simp) (wk_keep (by simp [w1]))
   · rw [← e1]; simp only [i_RenewalBreak_1, h1, h2, cond_t, cond_f]
   · first | omega | (simp at *; omega)
 ·have q1 := h1; try simp at q1
  have x2 : i_RenewalBreak_1 a0 a1 a2 a3 (a3.Stamps.length + 1) (i_BreakOf a2 a3.Method) 0 = .inr v1_0 := by rw [← e1]; simp only [i_RenewalBreak_1, h1, cond_t, cond_f]
  simp
  refine retRd (rv := [.tmp 8]) rfl ?_
  have f2 := i_RenewalBreak.eq_1 a0 a1 a2 a3; simp only [x2, cond_t, cond_f] at f2; simp [f2]
theorem i_LinkHolds_ok (a0 : TFrame) (a1 : TStrand) (a2 : Int) (u0 : Sm 2306048 a0) (u1 : Sm 2306048 a1) : SoundAt Tryz.prog 141 false [a0.row, a1.row, [.int .i64 a2]] [[.bool (i_LinkHolds a0 a1 a2)]] := by
 refine sound_of Tryz.func141 rfl (by kernel_rfl) ?_
 simp [Tryz.ntmps141]
 refine cR (i_InRange_ok a2 0 (W ((↑a1.Chain.length : Int) - 1))) ?_
 simp
 have c1 : a1.Chain.length ≤ 2306048 := sm_len (by simp (maxDischargeDepth := 12) [u0, u1])
 have w1 : IntKind.i64.wrap ((a1.Chain.length : Int) - 1) = (a1.Chain.length : Int) - 1 := wrap_of (by omega) (by omega)
 refine cC (!(i_InRange a2 0 (W ((↑a1.Chain.length : Int) - 1)))) (fun k1 h1 => ?_) (fun k1 h1 => ?_)
 ·have q1 := h1; try simp [i_InRange, w1] at q1
  simp
  refine retRd (rv := [.tmp 6]) rfl ?_
  have f1 := i_LinkHolds.eq_1 a0 a1 a2; simp only [h1, cond_t, cond_f] at f1; simp [f1]
 ·have q1 := h1; try simp [i_InRange, w1] at q1
  simp
  refine okD fun k2 => ?_
  refine drawI mixed (by kernel_rfl) (by kernel_rfl) ?_
  have i1 : a2.toNat < a1.Chain.length := by (have mm : a1.Chain.length ≤ 2306048 := sm_len (by simp (maxDischargeDepth := 12) [u1]); (try simp [i_InRange] at q1); have ww := W_sub1 a1.Chain.length (by omega); first | omega | ((try rw [ww] at q1); (try rw [ww] at q2); have w3 : W (a2 + 1) = a2 + 1 := wrap_of (by omega) (by omega); omega))
  simp [i1, rowAt_map]
  repeat ((with_reducible refine And.intro ?_ ?_); focus (intros; first | (first | omega | (have mm : a1.Chain.length ≤ 2306048 := sm_len (by simp (maxDischargeDepth := 12) [u1]); have ww := W_sub1 a1.Chain.length (by omega); (try rw [ww] at q1); (try rw [ww] at q2); have w3 : W (a2 + 1) = a2 + 1 := wrap_of (by omega) (by omega); have w4 : IntKind.i64.wrap (a2 + 1) = a2 + 1 := w3; omega)) | ((try simp only [W_def, show ∀ x, IntKind.i64.wrap x = W x from fun _ => rfl] at *); omega)))
  refine cR (i_RenewalBreak_ok a0.Keys a0.Authorities a0.Methods (nth a1.Chain a2.toNat)) ?_
  simp
  refine cC (a2 == (W ((↑a1.Chain.length : Int) - 1))) (fun k3 h2 => ?_) (fun k3 h2 => ?_)
  ·have q2 := h2; try simp [w1] at q2
   simp
   refine retRd (rv := [.tmp 6]) rfl ?_
   have f2 := i_LinkHolds.eq_1 a0 a1 a2; simp only [h1, h2, cond_t, cond_f] at f2; simp [f2]
  ·have q2 := h2; try simp [w1] at q2
   simp
   refine okD fun k4 => ?_
   refine drawI mixed (by kernel_rfl) (by kernel_rfl) ?_
   have i2 : (W (a2 + 1)).toNat < a1.Chain.length := by (have mm : a1.Chain.length ≤ 2306048 := sm_len (by simp (maxDischargeDepth := 12) [u1]); (try simp [i_InRange] at q1); have ww := W_sub1 a1.Chain.length (by omega); first | omega | ((try rw [ww] at q1); (try rw [ww] at q2); have w3 : W (a2 + 1) = a2 + 1 := wrap_of (by omega) (by omega); omega))
   simp [i2, rowAt_map]
   repeat ((with_reducible refine And.intro ?_ ?_); focus (intros; first | (first | omega | (have mm : a1.Chain.length ≤ 2306048 := sm_len (by simp (maxDischargeDepth := 12) [u1]); have ww := W_sub1 a1.Chain.length (by omega); (try rw [ww] at q1); (try rw [ww] at q2); have w3 : W (a2 + 1) = a2 + 1 := wrap_of (by omega) (by omega); have w4 : IntKind.i64.wrap (a2 + 1) = a2 + 1 := w3; omega)) | ((try simp only [W_def, show ∀ x, IntKind.i64.wrap x = W x from fun _ => rfl] at *); omega)))
   refine cR (i_Frame_spanOf_ok a0 (nth a1.Chain (W (a2 + 1)).toNat) (sg u0) (sg (sm_nth (TStrand.sm_Chain u1)))) ?_ (hrows := by first | (simp; done) | (simp [W, w1]; done))
   simp
   refine retRd (rv := [.tmp 6]) rfl ?_
   have f3 := i_LinkHolds.eq_1 a0 a1 a2; simp only [h1, h2, cond_t, cond_f] at f3; simp [f3]
theorem i_FirstKept_ok (a0 : TFrame) (a1 : TStrand) (a2 : List Int) (u0 : Sm 2301952 a0) (u1 : Sm 2301952 a1) (u2 : Sm 2301952 a2) : SoundAt Tryz.prog 91 false [a0.row, a1.row, [.sl 1 (a2.map iR)]] [[.int .i64 (i_FirstKept a0 a1 a2)]] := by
 refine sound_of Tryz.func91 rfl (by kernel_rfl) ?_
 simp [Tryz.ntmps91]
 refine okL fun k1 => ?_
 refine loopI (ι := { s : Nat × Nat // i_FirstKept_1 a0 a1 a2 s.1 s.2 = i_FirstKept_1 a0 a1 a2 (a1.Chain.length + 1) a1.Chain.length ∧ (1 ≤ s.1 ∧ s.2 < s.1 ∧ s.2 ≤ a1.Chain.length) }) (fun s => stOf 58 [eL 2 1 a2 iR, eX 3 (a0.row.map .d), eX 4 (a1.row.map .d), eI 7 (↑s.1.2 : Int)]) (fun s => s.1.1) ⟨((a1.Chain.length + 1), a1.Chain.length), rfl, by first | omega | (dsimp only; omega) | simp⟩ (wk_keep (by simp)) ?_
 rintro ⟨⟨n1, v1_0⟩, e1, j1⟩
 try dsimp only at e1 j1
 obtain ⟨p1, rfl⟩ : ∃ p, n1 = p + 1 := ⟨n1 - 1, by omega⟩
 simp
 refine cC (decide ((↑v1_0 : Int) > 0)) (fun k2 h1 => ?_) (fun k2 h1 => ?_)
 ·have q1 := h1; try simp at q1
  have m1 : a1.Chain.length ≤ 9223372036854775807 := by simpa using k1 11 _ rfl
  have w1 : IntKind.i64.wrap ((v1_0 : Int) - 1) = (v1_0 : Int) - 1 := wrap_of (by omega) (by omega)
  have w2 : ((v1_0 - 1 : Nat) : Int) = (v1_0 : Int) - 1 := by omega
  simp
  refine okD fun k3 => ?_
  refine drawI mixed (by kernel_rfl) (by kernel_rfl) ?_
  have i2 : (v1_0 - 1) < a1.Chain.length := il
  simp [i2, rowAt_map, w1, toNat_pred]
  repeat with_reducible refine sd ?_
  refine cR (i_Frame_spanOf_ok a0 (nth a1.Chain (v1_0 - 1)) (sg u0) (sg (sm_nth (TStrand.sm_Chain u1)))) ?_
  simp
  refine okD fun k4 => ?_
  refine drawI mixed (by kernel_rfl) (by kernel_rfl) ?_
  simp
  refine guardI rfl rfl rfl rfl rfl (by simp) (fun g1 => ?_) (fun g1 => ?_)
  ·have g1x := g1; try simp only [beq_true, beq_false, Bool.not_eq_true', Bool.not_eq_false', Bool.true_and, Bool.and_true] at g1x
   try simp at g1
   simp [i2, rowAt_map, w1, toNat_pred, g1x]
   repeat with_reducible refine sdg ?_
   refine callG rfl rfl rfl rfl rfl rfl (fun gg => (i_LeafAt_ok a1 a2 (W ((↑v1_0 : Int) - 1)) (sg u1) (sg u2))) (by first | (simp; done) | (simp [g1x]; done) | (simp [g1x]; omega) | (simp_all; done)) (by first | (simp; done) | (simp [g1x]; done) | (simp [g1x]; omega) | (simp_all; done)) (by first | (simp; done) | (simp [g1x]; done) | (simp [g1x]; omega) | (simp_all; done)) (by first | (simp; done) | (simp [g1x]; done) | (simp [g1x]; omega) | (simp_all; done)) ?_
   simp [g1x]
   repeat with_reducible refine sdg ?_
   refine callG rfl rfl rfl rfl rfl rfl (fun gg => (i_CheckRenewal_ok a0.Keys a0.Authorities (nth a1.Chain (v1_0 - 1)) (i_LeafAt a1 a2 (W ((↑v1_0 : Int) - 1))) (sg (TFrame.sm_Keys u0)) (sg (TFrame.sm_Authorities u0)) (sg (sm_nth (TStrand.sm_Chain u1))))) (by first | (simp; done) | (simp [g1x]; done) | (simp [g1x]; omega) | (simp_all; done)) (by first | (simp; done) | (simp [g1x]; done) | (simp [g1x]; omega) | (simp_all; done)) (by first | (simp; done) | (simp [g1x]; done) | (simp [g1x]; omega) | (simp_all; done)) (by first | (simp; done) | (simp [g1x]; done) | (simp [g1x]; omega) | (simp_all; done)) ?_
   simp [g1x]
   repeat with_reducible refine sdg ?_
   refine callG rfl rfl rfl rfl rfl rfl (fun gg => (i_LinkHolds_ok a0 a1 (W ((↑v1_0 : Int) - 1)) (sg u0) (sg u1))) (by first | (simp; done) | (simp [g1x]; done) | (simp [g1x]; omega) | (simp_all; done)) (by first | (simp; done) | (simp [g1x]; done) | (simp [g1x]; omega) | (simp_all; done)) (by first | (simp; done) | (simp [g1x]; done) | (simp [g1x]; omega) | (simp_all; done)) (by first | (simp; done) | (simp [g1x]; done) | (simp [g1x]; omega) | (simp_all; done)) ?_
   simp [g1x]
   repeat with_reducible refine sdg ?_
   refine condR (c := (((!(i_Frame_spanOf a0 (nth a1.Chain (v1_0 - 1))).2) || (!(i_CheckRenewal a0.Keys a0.Authorities (nth a1.Chain (v1_0 - 1)) (i_LeafAt a1 a2 (W ((↑v1_0 : Int) - 1)))))) || (!(i_LinkHolds a0 a1 (W ((↑v1_0 : Int) - 1)))))) (by first | (simp [g1x]; done) | grind) (fun k5 h2 => ?_) (fun k5 h2 => ?_)
   ·try (have z := h2; simp [g1x] at z; done)
    all_goals
     have q2 := h2; try simp [w1, w2] at q2
     have x1 : i_FirstKept_1 a0 a1 a2 (a1.Chain.length + 1) a1.Chain.length = v1_0 := by rw [← e1]; simp only [i_FirstKept_1, h1, h2, cond_t, cond_f]
     simp [g1x]
     repeat with_reducible refine sdg ?_
     refine retRd (rv := [.tmp 6]) rfl ?_
     have f1 := i_FirstKept.eq_1 a0 a1 a2; simp only [x1, cond_t, cond_f] at f1; simp [f1, g1x]
   ·try (have z := h2; simp [g1x] at z; done)
    all_goals
     have q2 := h2; try simp [w1, w2] at q2
     simp [g1x]
     repeat with_reducible refine sdg ?_
     refine nxtI ⟨(p1, (v1_0 - 1)), ?_, ?_⟩ (by simp) (wk_keep (by simp [w1, w2, g1x]))
     · rw [← e1]; simp only [i_FirstKept_1, h1, h2, cond_t, cond_f]
     · first | omega | (simp at *; omega)
  ·have g1x := g1; try simp only [beq_true, beq_false, Bool.not_eq_true', Bool.not_eq_false', Bool.true_and, Bool.and_true] at g1x
   simp [g1x]
   repeat with_reducible refine sdg ?_
   refine skipG rfl rfl rfl rfl (by simp) (by simp [g1x]) ?_
   simp [g1x]
   repeat with_reducible refine sdg ?_
   refine skipG rfl rfl rfl rfl (by simp) (by simp [g1x]) ?_
   simp [g1x]
   repeat with_reducible refine sdg ?_
   refine callG rfl rfl rfl rfl rfl rfl (fun gg => (i_LinkHolds_ok a0 a1 (W ((↑v1_0 : Int) - 1)) (sg u0) (sg u1))) (by first | (simp; done) | (simp [g1x]; done) | (simp [g1x]; omega) | (simp_all; done)) (by first | (simp; done) | (simp [g1x]; done) | (simp [g1x]; omega) | (simp_all; done)) (by first | (simp; done) | (simp [g1x]; done) | (simp [g1x]; omega) | (simp_all; done)) (by first | (simp; done) | (simp [g1x]; done) | (simp [g1x]; omega) | (simp_all; done)) ?_
   simp [g1x]
   repeat with_reducible refine sdg ?_
   refine condR (c := (((!(i_Frame_spanOf a0 (nth a1.Chain (v1_0 - 1))).2) || (!(i_CheckRenewal a0.Keys a0.Authorities (nth a1.Chain (v1_0 - 1)) (i_LeafAt a1 a2 (W ((↑v1_0 : Int) - 1)))))) || (!(i_LinkHolds a0 a1 (W ((↑v1_0 : Int) - 1)))))) (by first | (simp [g1x]; done) | grind) (fun k6 h3 => ?_) (fun k6 h3 => ?_)
   ·try (have z := h3; simp [g1x] at z; done)
    all_goals
     have q3 := h3; try simp [w1, w2] at q3
     have x2 : i_FirstKept_1 a0 a1 a2 (a1.Chain.length + 1) a1.Chain.length = v1_0 := by rw [← e1]; simp only [i_FirstKept_1, h1, h3, cond_t, cond_f]
     simp [g1x]
     repeat with_reducible refine sdg ?_
     refine retRd (rv := [.tmp 6]) rfl ?_
     have f2 := i_FirstKept.eq_1 a0 a1 a2; simp only [x2, cond_t, cond_f] at f2; simp [f2, g1x]
   ·try (have z := h3; simp [g1x] at z; done)
    all_goals
     have q3 := h3; try simp [w1, w2] at q3
     simp [g1x]
     repeat with_reducible refine sdg ?_
     refine nxtI ⟨(p1, (v1_0 - 1)), ?_, ?_⟩ (by simp) (wk_keep (by simp [w1, w2, g1x]))
     · rw [← e1]; simp only [i_FirstKept_1, h1, h3, cond_t, cond_f]
     · first | omega | (simp at *; omega)
 ·have q1 := h1; try simp at q1
  have x3 : i_FirstKept_1 a0 a1 a2 (a1.Chain.length + 1) a1.Chain.length = v1_0 := by rw [← e1]; simp only [i_FirstKept_1, h1, cond_t, cond_f]
  simp
  refine retRd (rv := [.tmp 6]) rfl ?_
  have f3 := i_FirstKept.eq_1 a0 a1 a2; simp only [x3, cond_t, cond_f] at f3; simp [f3]
theorem i_IsUnbroken_ok (a0 : TFrame) (a1 : TStrand) (a2 : List Int) (u0 : Sm 2297856 a0) (u1 : Sm 2297856 a1) (u2 : Sm 2297856 a2) : SoundAt Tryz.prog 45 false [a0.row, a1.row, [.sl 1 (a2.map iR)]] [[.bool (i_IsUnbroken a0 a1 a2)]] := by
 refine sound_of Tryz.func45 rfl (by kernel_rfl) ?_
 simp [Tryz.ntmps45]
 refine cG (fun gg => (i_FirstKept_ok a0 a1 a2 (sg u0) (sg u1) (sg u2))) ?_
 simp
 refine retRd (rv := [.tmp 6]) rfl ?_
 have f1 := i_IsUnbroken.eq_1 a0 a1 a2; simp [f1]
theorem i_IsUnbrokenItem_ok (a0 : TWorld) (a1 : Int) (u0 : Sm 2293760 a0) : SoundAt Tryz.prog 16 false [a0.row, [.int .i64 a1]] [[.bool (i_IsUnbrokenItem a0 a1)]] := by
 refine sound_of Tryz.func16 rfl (by kernel_rfl) ?_
 simp [Tryz.ntmps16]
 refine cR (i_FindIn_ok a0 a1) ?_
 simp
 refine cC (decide ((i_FindIn a0 a1).1 < 0)) (fun k1 h1 => ?_) (fun k1 h1 => ?_)
 ·have q1 := h1; try simp at q1
  simp
  refine retRd (rv := [.tmp 4]) rfl ?_
  have f1 := i_IsUnbrokenItem.eq_1 a0 a1; simp only [h1, cond_t, cond_f] at f1; simp [f1]
 ·have q1 := h1; try simp at q1
  have i1 : (i_FindIn a0 a1).1.toNat < a0.Archives.length := by (have fi := i_FindIn_ok' a0 a1 (by (try simp at q1); omega); omega)
  have i2 : (i_FindIn a0 a1).2.toNat < (nth a0.Archives (i_FindIn a0 a1).1.toNat).Items.length := by (have fi := i_FindIn_ok' a0 a1 (by (try simp at q1); omega); omega)
  simp [i1, rowAt_map, i2]
  repeat ((with_reducible refine And.intro ?_ ?_); focus (intros; first | first | omega | (have fi := i_FindIn_ok' a0 a1 (by (try simp at q1); omega); omega) | ((try simp only [W_def, show ∀ x, IntKind.i64.wrap x = W x from fun _ => rfl] at *); omega)))
  refine okD fun k2 => ?_
  refine drawI mixed (by kernel_rfl) (by kernel_rfl) ?_
  simp
  refine cR (SoundD.rd (i_DocDigests_ok (nth (nth a0.Archives (i_FindIn a0 a1).1.toNat).Items (i_FindIn a0 a1).2.toNat).Strand (nth (nth a0.Archives (i_FindIn a0 a1).1.toNat).Items (i_FindIn a0 a1).2.toNat).Doc (sg (TItem.sm_Strand (sm_nth (TArchive.sm_Items (sm_nth (TWorld.sm_Archives u0)))))) (sg (TItem.sm_Doc (sm_nth (TArchive.sm_Items (sm_nth (TWorld.sm_Archives u0)))))))) ?_
  simp
  refine cR (i_IsUnbroken_ok a0.Frame (nth (nth a0.Archives (i_FindIn a0 a1).1.toNat).Items (i_FindIn a0 a1).2.toNat).Strand (i_DocDigests (nth (nth a0.Archives (i_FindIn a0 a1).1.toNat).Items (i_FindIn a0 a1).2.toNat).Strand (nth (nth a0.Archives (i_FindIn a0 a1).1.toNat).Items (i_FindIn a0 a1).2.toNat).Doc) (sg (TWorld.sm_Frame u0)) (sg (TItem.sm_Strand (sm_nth (TArchive.sm_Items (sm_nth (TWorld.sm_Archives u0)))))) (by simp (maxDischargeDepth := 12) [i_DocDigests_sm, sm_mono (m := 2297856) (by decide) u0]; try omega)) ?_
  simp
  refine retRd (rv := [.tmp 4]) rfl ?_
  have f2 := i_IsUnbrokenItem.eq_1 a0 a1; simp only [h1, cond_t, cond_f] at f2; simp [f2]
theorem l_eqKey_ok (a0 : TKey) (a1 : TKey) : SoundAt Tryz.prog 127 false [a0.row, a1.row] [[.bool (l_eqKey a0 a1)]] := by
 refine sound_of Tryz.func127 rfl (by kernel_rfl) ?_
 simp [Tryz.ntmps127]
 refine cC (a0.Number != a1.Number) (fun k1 h1 => ?_) (fun k1 h1 => ?_)
 ·have q1 := h1; try simp at q1
  simp
  refine retRd (rv := [.tmp 4]) rfl ?_
  have f1 := l_eqKey.eq_1 a0 a1; simp only [h1, cond_t, cond_f] at f1; simp [f1]
 ·have q1 := h1; try simp at q1
  simp
  refine cC (a0.Owner != a1.Owner) (fun k2 h2 => ?_) (fun k2 h2 => ?_)
  ·have q2 := h2; try simp at q2
   simp
   refine retRd (rv := [.tmp 4]) rfl ?_
   have f2 := l_eqKey.eq_1 a0 a1; simp only [h1, h2, cond_t, cond_f] at f2; simp [f2]
  ·have q2 := h2; try simp at q2
   simp
   refine cC (a0.Method != a1.Method) (fun k3 h3 => ?_) (fun k3 h3 => ?_)
   ·have q3 := h3; try simp at q3
    simp
    refine retRd (rv := [.tmp 4]) rfl ?_
    have f3 := l_eqKey.eq_1 a0 a1; simp only [h1, h2, h3, cond_t, cond_f] at f3; simp [f3]
   ·have q3 := h3; try simp at q3
    simp
    refine cC (a0.Born != a1.Born) (fun k4 h4 => ?_) (fun k4 h4 => ?_)
    ·have q4 := h4; try simp at q4
     simp
     refine retRd (rv := [.tmp 4]) rfl ?_
     have f4 := l_eqKey.eq_1 a0 a1; simp only [h1, h2, h3, h4, cond_t, cond_f] at f4; simp [f4]
    ·have q4 := h4; try simp at q4
     simp
     refine cC (a0.Secret != a1.Secret) (fun k5 h5 => ?_) (fun k5 h5 => ?_)
     ·have q5 := h5; try simp at q5
      simp
      refine retRd (rv := [.tmp 4]) rfl ?_
      have f5 := l_eqKey.eq_1 a0 a1; simp only [h1, h2, h3, h4, h5, cond_t, cond_f] at f5; simp [f5]
     ·have q5 := h5; try simp at q5
      simp
      refine retRd (rv := [.tmp 4]) rfl ?_
      have f6 := l_eqKey.eq_1 a0 a1; simp only [h1, h2, h3, h4, h5, cond_t, cond_f] at f6; simp [f6]
theorem l_eqKeyS_ok (a0 : List TKey) (a1 : List TKey) : SoundAt Tryz.prog 78 false [[.sl 5 (a0.map TKey.row)], [.sl 5 (a1.map TKey.row)]] [[.bool (l_eqKeyS a0 a1)]] := by
 refine sound_of Tryz.func78 rfl (by kernel_rfl) ?_
 simp [Tryz.ntmps78]
 refine cC ((↑a0.length : Int) != (↑a1.length : Int)) (fun k1 h1 => ?_) (fun k1 h1 => ?_)
 ·have q1 := h1; try simp at q1
  simp
  refine retRd (rv := [.tmp 4]) rfl ?_
  have f1 := l_eqKeyS.eq_1 a0 a1; simp only [h1, cond_t, cond_f] at f1; simp [f1]
 ·have q1 := h1; try simp at q1
  simp
  refine okL fun k2 => ?_
  refine loopI (ι := { s : Nat × Nat // l_eqKeyS_1 a0 a1 s.1 s.2 = l_eqKeyS_1 a0 a1 (a0.length + 1) 0 ∧ (1 ≤ s.1 ∧ a0.length < s.1 + s.2 ∧ s.2 ≤ a0.length) }) (fun s => stOf 27 [eL 0 5 a0 TKey.row, eL 1 5 a1 TKey.row, eI 5 (↑s.1.2 : Int)]) (fun s => s.1.1) ⟨((a0.length + 1), 0), rfl, by first | omega | (dsimp only; omega) | simp⟩ (wk_keep (by simp)) ?_
  rintro ⟨⟨n1, v1_0⟩, e1, j1⟩
  try dsimp only at e1 j1
  obtain ⟨p1, rfl⟩ : ∃ p, n1 = p + 1 := ⟨n1 - 1, by omega⟩
  simp
  refine cC (decide ((↑v1_0 : Int) < (↑a0.length : Int))) (fun k3 h2 => ?_) (fun k3 h2 => ?_)
  ·have q2 := h2; try simp at q2
   have i1 : v1_0 < a0.length := by simpa using h2
   have m2 : a0.length ≤ 9223372036854775807 := by simpa using k3 0 _ rfl
   have w1 : IntKind.i64.wrap ((v1_0 : Int) + 1) = (v1_0 : Int) + 1 := wrap_of (by omega) (by omega)
   simp
   refine okD fun k4 => ?_
   refine drawI mixed (by kernel_rfl) (by kernel_rfl) ?_
   have i2 : v1_0 < a1.length := il
   simp [i1, rowAt_map, i2]
   repeat with_reducible refine sd ?_
   refine cR (l_eqKey_ok (nth a0 v1_0) (nth a1 v1_0)) ?_
   simp
   refine cC (!(l_eqKey (nth a0 v1_0) (nth a1 v1_0))) (fun k5 h3 => ?_) (fun k5 h3 => ?_)
   ·have q3 := h3; try simp at q3
    have x1 : l_eqKeyS_1 a0 a1 (a0.length + 1) 0 = .inl false := by rw [← e1]; simp only [l_eqKeyS_1, h2, h3, cond_t, cond_f]
    simp
    refine retRd (rv := [.tmp 4]) rfl ?_
    have f2 := l_eqKeyS.eq_1 a0 a1; simp only [h1, x1, cond_t, cond_f] at f2; simp [f2]
   ·have q3 := h3; try simp at q3
    simp
    refine nxtI ⟨(p1, (v1_0 + 1)), ?_, ?_⟩ (by simp) (wk_keep (by simp [w1]))
    · rw [← e1]; simp only [l_eqKeyS_1, h2, h3, cond_t, cond_f]
    · first | omega | (simp at *; omega)
  ·have q2 := h2; try simp at q2
   have x2 : l_eqKeyS_1 a0 a1 (a0.length + 1) 0 = .inr () := by rw [← e1]; simp only [l_eqKeyS_1, h2, cond_t, cond_f]
   simp
   refine retRd (rv := [.tmp 4]) rfl ?_
   have f3 := l_eqKeyS.eq_1 a0 a1; simp only [h1, x2, cond_t, cond_f] at f3; simp [f3]
theorem l_eqAuthority_ok (a0 : TAuthority) (a1 : TAuthority) : SoundAt Tryz.prog 128 false [a0.row, a1.row] [[.bool (l_eqAuthority a0 a1)]] := by
 refine sound_of Tryz.func128 rfl (by kernel_rfl) ?_
 simp [Tryz.ntmps128]
 refine cC (a0.Id != a1.Id) (fun k1 h1 => ?_) (fun k1 h1 => ?_)
 ·have q1 := h1; try simp at q1
  simp
  refine retRd (rv := [.tmp 4]) rfl ?_
  have f1 := l_eqAuthority.eq_1 a0 a1; simp only [h1, cond_t, cond_f] at f1; simp [f1]
 ·have q1 := h1; try simp at q1
  simp
  refine cC (a0.Key != a1.Key) (fun k2 h2 => ?_) (fun k2 h2 => ?_)
  ·have q2 := h2; try simp at q2
   simp
   refine retRd (rv := [.tmp 4]) rfl ?_
   have f2 := l_eqAuthority.eq_1 a0 a1; simp only [h1, h2, cond_t, cond_f] at f2; simp [f2]
  ·have q2 := h2; try simp at q2
   simp
   refine cC (a0.Error != a1.Error) (fun k3 h3 => ?_) (fun k3 h3 => ?_)
   ·have q3 := h3; try simp at q3
    simp
    refine retRd (rv := [.tmp 4]) rfl ?_
    have f3 := l_eqAuthority.eq_1 a0 a1; simp only [h1, h2, h3, cond_t, cond_f] at f3; simp [f3]
   ·have q3 := h3; try simp at q3
    simp
    refine retRd (rv := [.tmp 4]) rfl ?_
    have f4 := l_eqAuthority.eq_1 a0 a1; simp only [h1, h2, h3, cond_t, cond_f] at f4; simp [f4]
theorem l_eqAuthorityS_ok (a0 : List TAuthority) (a1 : List TAuthority) : SoundAt Tryz.prog 79 false [[.sl 3 (a0.map TAuthority.row)], [.sl 3 (a1.map TAuthority.row)]] [[.bool (l_eqAuthorityS a0 a1)]] := by
 refine sound_of Tryz.func79 rfl (by kernel_rfl) ?_
 simp [Tryz.ntmps79]
 refine cC ((↑a0.length : Int) != (↑a1.length : Int)) (fun k1 h1 => ?_) (fun k1 h1 => ?_)
 ·have q1 := h1; try simp at q1
  simp
  refine retRd (rv := [.tmp 4]) rfl ?_
  have f1 := l_eqAuthorityS.eq_1 a0 a1; simp only [h1, cond_t, cond_f] at f1; simp [f1]
 ·have q1 := h1; try simp at q1
  simp
  refine okL fun k2 => ?_
  refine loopI (ι := { s : Nat × Nat // l_eqAuthorityS_1 a0 a1 s.1 s.2 = l_eqAuthorityS_1 a0 a1 (a0.length + 1) 0 ∧ (1 ≤ s.1 ∧ a0.length < s.1 + s.2 ∧ s.2 ≤ a0.length) }) (fun s => stOf 27 [eL 0 3 a0 TAuthority.row, eL 1 3 a1 TAuthority.row, eI 5 (↑s.1.2 : Int)]) (fun s => s.1.1) ⟨((a0.length + 1), 0), rfl, by first | omega | (dsimp only; omega) | simp⟩ (wk_keep (by simp)) ?_
  rintro ⟨⟨n1, v1_0⟩, e1, j1⟩
  try dsimp only at e1 j1
  obtain ⟨p1, rfl⟩ : ∃ p, n1 = p + 1 := ⟨n1 - 1, by omega⟩
  simp
  refine cC (decide ((↑v1_0 : Int) < (↑a0.length : Int))) (fun k3 h2 => ?_) (fun k3 h2 => ?_)
  ·have q2 := h2; try simp at q2
   have i1 : v1_0 < a0.length := by simpa using h2
   have m2 : a0.length ≤ 9223372036854775807 := by simpa using k3 0 _ rfl
   have w1 : IntKind.i64.wrap ((v1_0 : Int) + 1) = (v1_0 : Int) + 1 := wrap_of (by omega) (by omega)
   simp
   refine okD fun k4 => ?_
   refine drawI mixed (by kernel_rfl) (by kernel_rfl) ?_
   have i2 : v1_0 < a1.length := il
   simp [i1, rowAt_map, i2]
   repeat with_reducible refine sd ?_
   refine cR (l_eqAuthority_ok (nth a0 v1_0) (nth a1 v1_0)) ?_
   simp
   refine cC (!(l_eqAuthority (nth a0 v1_0) (nth a1 v1_0))) (fun k5 h3 => ?_) (fun k5 h3 => ?_)
   ·have q3 := h3; try simp at q3
    have x1 : l_eqAuthorityS_1 a0 a1 (a0.length + 1) 0 = .inl false := by rw [← e1]; simp only [l_eqAuthorityS_1, h2, h3, cond_t, cond_f]
    simp
    refine retRd (rv := [.tmp 4]) rfl ?_
    have f2 := l_eqAuthorityS.eq_1 a0 a1; simp only [h1, x1, cond_t, cond_f] at f2; simp [f2]
   ·have q3 := h3; try simp at q3
    simp
    refine nxtI ⟨(p1, (v1_0 + 1)), ?_, ?_⟩ (by simp) (wk_keep (by simp [w1]))
    · rw [← e1]; simp only [l_eqAuthorityS_1, h2, h3, cond_t, cond_f]
    · first | omega | (simp at *; omega)
  ·have q2 := h2; try simp at q2
   have x2 : l_eqAuthorityS_1 a0 a1 (a0.length + 1) 0 = .inr () := by rw [← e1]; simp only [l_eqAuthorityS_1, h2, cond_t, cond_f]
   simp
   refine retRd (rv := [.tmp 4]) rfl ?_
   have f3 := l_eqAuthorityS.eq_1 a0 a1; simp only [h1, x2, cond_t, cond_f] at f3; simp [f3]
theorem l_eqMethod_ok (a0 : TMethod) (a1 : TMethod) : SoundAt Tryz.prog 129 false [a0.row, a1.row] [[.bool (l_eqMethod a0 a1)]] := by
 refine sound_of Tryz.func129 rfl (by kernel_rfl) ?_
 simp [Tryz.ntmps129]
 refine cC (a0.Id != a1.Id) (fun k1 h1 => ?_) (fun k1 h1 => ?_)
 ·have q1 := h1; try simp at q1
  simp
  refine retRd (rv := [.tmp 4]) rfl ?_
  have f1 := l_eqMethod.eq_1 a0 a1; simp only [h1, cond_t, cond_f] at f1; simp [f1]
 ·have q1 := h1; try simp at q1
  simp
  refine cC (a0.Known != a1.Known) (fun k2 h2 => ?_) (fun k2 h2 => ?_)
  ·have q2 := h2; try simp at q2
   simp
   refine retRd (rv := [.tmp 4]) rfl ?_
   have f2 := l_eqMethod.eq_1 a0 a1; simp only [h1, h2, cond_t, cond_f] at f2; simp [f2]
  ·have q2 := h2; try simp at q2
   simp
   refine cC (a0.Ends != a1.Ends) (fun k3 h3 => ?_) (fun k3 h3 => ?_)
   ·have q3 := h3; try simp at q3
    simp
    refine retRd (rv := [.tmp 4]) rfl ?_
    have f3 := l_eqMethod.eq_1 a0 a1; simp only [h1, h2, h3, cond_t, cond_f] at f3; simp [f3]
   ·have q3 := h3; try simp at q3
    simp
    refine cC (a0.Broken != a1.Broken) (fun k4 h4 => ?_) (fun k4 h4 => ?_)
    ·have q4 := h4; try simp at q4
     simp
     refine retRd (rv := [.tmp 4]) rfl ?_
     have f4 := l_eqMethod.eq_1 a0 a1; simp only [h1, h2, h3, h4, cond_t, cond_f] at f4; simp [f4]
    ·have q4 := h4; try simp at q4
     simp
     refine retRd (rv := [.tmp 4]) rfl ?_
     have f5 := l_eqMethod.eq_1 a0 a1; simp only [h1, h2, h3, h4, cond_t, cond_f] at f5; simp [f5]
theorem l_eqMethodS_ok (a0 : List TMethod) (a1 : List TMethod) : SoundAt Tryz.prog 80 false [[.sl 4 (a0.map TMethod.row)], [.sl 4 (a1.map TMethod.row)]] [[.bool (l_eqMethodS a0 a1)]] := by
 refine sound_of Tryz.func80 rfl (by kernel_rfl) ?_
 simp [Tryz.ntmps80]
 refine cC ((↑a0.length : Int) != (↑a1.length : Int)) (fun k1 h1 => ?_) (fun k1 h1 => ?_)
 ·have q1 := h1; try simp at q1
  simp
  refine retRd (rv := [.tmp 4]) rfl ?_
  have f1 := l_eqMethodS.eq_1 a0 a1; simp only [h1, cond_t, cond_f] at f1; simp [f1]
 ·have q1 := h1; try simp at q1
  simp
  refine okL fun k2 => ?_
  refine loopI (ι := { s : Nat × Nat // l_eqMethodS_1 a0 a1 s.1 s.2 = l_eqMethodS_1 a0 a1 (a0.length + 1) 0 ∧ (1 ≤ s.1 ∧ a0.length < s.1 + s.2 ∧ s.2 ≤ a0.length) }) (fun s => stOf 27 [eL 0 4 a0 TMethod.row, eL 1 4 a1 TMethod.row, eI 5 (↑s.1.2 : Int)]) (fun s => s.1.1) ⟨((a0.length + 1), 0), rfl, by first | omega | (dsimp only; omega) | simp⟩ (wk_keep (by simp)) ?_
  rintro ⟨⟨n1, v1_0⟩, e1, j1⟩
  try dsimp only at e1 j1
  obtain ⟨p1, rfl⟩ : ∃ p, n1 = p + 1 := ⟨n1 - 1, by omega⟩
  simp
  refine cC (decide ((↑v1_0 : Int) < (↑a0.length : Int))) (fun k3 h2 => ?_) (fun k3 h2 => ?_)
  ·have q2 := h2; try simp at q2
   have i1 : v1_0 < a0.length := by simpa using h2
   have m2 : a0.length ≤ 9223372036854775807 := by simpa using k3 0 _ rfl
   have w1 : IntKind.i64.wrap ((v1_0 : Int) + 1) = (v1_0 : Int) + 1 := wrap_of (by omega) (by omega)
   simp
   refine okD fun k4 => ?_
   refine drawI mixed (by kernel_rfl) (by kernel_rfl) ?_
   have i2 : v1_0 < a1.length := il
   simp [i1, rowAt_map, i2]
   repeat with_reducible refine sd ?_
   refine cR (l_eqMethod_ok (nth a0 v1_0) (nth a1 v1_0)) ?_
   simp
   refine cC (!(l_eqMethod (nth a0 v1_0) (nth a1 v1_0))) (fun k5 h3 => ?_) (fun k5 h3 => ?_)
   ·have q3 := h3; try simp at q3
    have x1 : l_eqMethodS_1 a0 a1 (a0.length + 1) 0 = .inl false := by rw [← e1]; simp only [l_eqMethodS_1, h2, h3, cond_t, cond_f]
    simp
    refine retRd (rv := [.tmp 4]) rfl ?_
    have f2 := l_eqMethodS.eq_1 a0 a1; simp only [h1, x1, cond_t, cond_f] at f2; simp [f2]
   ·have q3 := h3; try simp at q3
    simp
    refine nxtI ⟨(p1, (v1_0 + 1)), ?_, ?_⟩ (by simp) (wk_keep (by simp [w1]))
    · rw [← e1]; simp only [l_eqMethodS_1, h2, h3, cond_t, cond_f]
    · first | omega | (simp at *; omega)
  ·have q2 := h2; try simp at q2
   have x2 : l_eqMethodS_1 a0 a1 (a0.length + 1) 0 = .inr () := by rw [← e1]; simp only [l_eqMethodS_1, h2, cond_t, cond_f]
   simp
   refine retRd (rv := [.tmp 4]) rfl ?_
   have f3 := l_eqMethodS.eq_1 a0 a1; simp only [h1, x2, cond_t, cond_f] at f3; simp [f3]
theorem l_eqFrame_ok (a0 : TFrame) (a1 : TFrame) : SoundAt Tryz.prog 33 false [a0.row, a1.row] [[.bool (l_eqFrame a0 a1)]] := by
 refine sound_of Tryz.func33 rfl (by kernel_rfl) ?_
 simp [Tryz.ntmps33]
 refine cR (l_eqKeyS_ok a0.Keys a1.Keys) ?_
 simp
 refine cC (!(l_eqKeyS a0.Keys a1.Keys)) (fun k1 h1 => ?_) (fun k1 h1 => ?_)
 ·have q1 := h1; try simp at q1
  simp
  refine retRd (rv := [.tmp 4]) rfl ?_
  have f1 := l_eqFrame.eq_1 a0 a1; simp only [h1, cond_t, cond_f] at f1; simp [f1]
 ·have q1 := h1; try simp at q1
  simp
  refine cR (l_eqAuthorityS_ok a0.Authorities a1.Authorities) ?_
  simp
  refine cC (!(l_eqAuthorityS a0.Authorities a1.Authorities)) (fun k2 h2 => ?_) (fun k2 h2 => ?_)
  ·have q2 := h2; try simp at q2
   simp
   refine retRd (rv := [.tmp 4]) rfl ?_
   have f2 := l_eqFrame.eq_1 a0 a1; simp only [h1, h2, cond_t, cond_f] at f2; simp [f2]
  ·have q2 := h2; try simp at q2
   simp
   refine cR (l_eqMethodS_ok a0.Methods a1.Methods) ?_
   simp
   refine cC (!(l_eqMethodS a0.Methods a1.Methods)) (fun k3 h3 => ?_) (fun k3 h3 => ?_)
   ·have q3 := h3; try simp at q3
    simp
    refine retRd (rv := [.tmp 4]) rfl ?_
    have f3 := l_eqFrame.eq_1 a0 a1; simp only [h1, h2, h3, cond_t, cond_f] at f3; simp [f3]
   ·have q3 := h3; try simp at q3
    simp
    refine cC (a0.Liars != a1.Liars) (fun k4 h4 => ?_) (fun k4 h4 => ?_)
    ·have q4 := h4; try simp at q4
     simp
     refine retRd (rv := [.tmp 4]) rfl ?_
     have f4 := l_eqFrame.eq_1 a0 a1; simp only [h1, h2, h3, h4, cond_t, cond_f] at f4; simp [f4]
    ·have q4 := h4; try simp at q4
     simp
     refine cC (a0.Now != a1.Now) (fun k5 h5 => ?_) (fun k5 h5 => ?_)
     ·have q5 := h5; try simp at q5
      simp
      refine retRd (rv := [.tmp 4]) rfl ?_
      have f5 := l_eqFrame.eq_1 a0 a1; simp only [h1, h2, h3, h4, h5, cond_t, cond_f] at f5; simp [f5]
     ·have q5 := h5; try simp at q5
      simp
      refine retRd (rv := [.tmp 4]) rfl ?_
      have f6 := l_eqFrame.eq_1 a0 a1; simp only [h1, h2, h3, h4, h5, cond_t, cond_f] at f6; simp [f6]
theorem l_eqCert_ok (a0 : TCert) (a1 : TCert) : SoundAt Tryz.prog 81 false [a0.row, a1.row] [[.bool (l_eqCert a0 a1)]] := by
 refine sound_of Tryz.func81 rfl (by kernel_rfl) ?_
 simp [Tryz.ntmps81]
 refine cC (a0.Serial != a1.Serial) (fun k1 h1 => ?_) (fun k1 h1 => ?_)
 ·have q1 := h1; try simp at q1
  simp
  refine retRd (rv := [.tmp 4]) rfl ?_
  have f1 := l_eqCert.eq_1 a0 a1; simp only [h1, cond_t, cond_f] at f1; simp [f1]
 ·have q1 := h1; try simp at q1
  simp
  refine cC (a0.Key != a1.Key) (fun k2 h2 => ?_) (fun k2 h2 => ?_)
  ·have q2 := h2; try simp at q2
   simp
   refine retRd (rv := [.tmp 4]) rfl ?_
   have f2 := l_eqCert.eq_1 a0 a1; simp only [h1, h2, cond_t, cond_f] at f2; simp [f2]
  ·have q2 := h2; try simp at q2
   simp
   refine cC (a0.Owner != a1.Owner) (fun k3 h3 => ?_) (fun k3 h3 => ?_)
   ·have q3 := h3; try simp at q3
    simp
    refine retRd (rv := [.tmp 4]) rfl ?_
    have f3 := l_eqCert.eq_1 a0 a1; simp only [h1, h2, h3, cond_t, cond_f] at f3; simp [f3]
   ·have q3 := h3; try simp at q3
    simp
    refine cC (a0.From != a1.From) (fun k4 h4 => ?_) (fun k4 h4 => ?_)
    ·have q4 := h4; try simp at q4
     simp
     refine retRd (rv := [.tmp 4]) rfl ?_
     have f4 := l_eqCert.eq_1 a0 a1; simp only [h1, h2, h3, h4, cond_t, cond_f] at f4; simp [f4]
    ·have q4 := h4; try simp at q4
     simp
     refine cC (a0.To != a1.To) (fun k5 h5 => ?_) (fun k5 h5 => ?_)
     ·have q5 := h5; try simp at q5
      simp
      refine retRd (rv := [.tmp 4]) rfl ?_
      have f5 := l_eqCert.eq_1 a0 a1; simp only [h1, h2, h3, h4, h5, cond_t, cond_f] at f5; simp [f5]
     ·have q5 := h5; try simp at q5
      simp
      refine cC (a0.Issuer != a1.Issuer) (fun k6 h6 => ?_) (fun k6 h6 => ?_)
      ·have q6 := h6; try simp at q6
       simp
       refine retRd (rv := [.tmp 4]) rfl ?_
       have f6 := l_eqCert.eq_1 a0 a1; simp only [h1, h2, h3, h4, h5, h6, cond_t, cond_f] at f6; simp [f6]
      ·have q6 := h6; try simp at q6
       simp
       refine cC (a0.Mark != a1.Mark) (fun k7 h7 => ?_) (fun k7 h7 => ?_)
       ·have q7 := h7; try simp at q7
        simp
        refine retRd (rv := [.tmp 4]) rfl ?_
        have f7 := l_eqCert.eq_1 a0 a1; simp only [h1, h2, h3, h4, h5, h6, h7, cond_t, cond_f] at f7; simp [f7]
       ·have q7 := h7; try simp at q7
        simp
        refine retRd (rv := [.tmp 4]) rfl ?_
        have f8 := l_eqCert.eq_1 a0 a1; simp only [h1, h2, h3, h4, h5, h6, h7, cond_t, cond_f] at f8; simp [f8]
theorem l_eqCertS_ok (a0 : List TCert) (a1 : List TCert) : SoundAt Tryz.prog 34 false [[.sl 7 (a0.map TCert.row)], [.sl 7 (a1.map TCert.row)]] [[.bool (l_eqCertS a0 a1)]] := by
 refine sound_of Tryz.func34 rfl (by kernel_rfl) ?_
 simp [Tryz.ntmps34]
 refine cC ((↑a0.length : Int) != (↑a1.length : Int)) (fun k1 h1 => ?_) (fun k1 h1 => ?_)
 ·have q1 := h1; try simp at q1
  simp
  refine retRd (rv := [.tmp 4]) rfl ?_
  have f1 := l_eqCertS.eq_1 a0 a1; simp only [h1, cond_t, cond_f] at f1; simp [f1]
 ·have q1 := h1; try simp at q1
  simp
  refine okL fun k2 => ?_
  refine loopI (ι := { s : Nat × Nat // l_eqCertS_1 a0 a1 s.1 s.2 = l_eqCertS_1 a0 a1 (a0.length + 1) 0 ∧ (1 ≤ s.1 ∧ a0.length < s.1 + s.2 ∧ s.2 ≤ a0.length) }) (fun s => stOf 27 [eL 0 7 a0 TCert.row, eL 1 7 a1 TCert.row, eI 5 (↑s.1.2 : Int)]) (fun s => s.1.1) ⟨((a0.length + 1), 0), rfl, by first | omega | (dsimp only; omega) | simp⟩ (wk_keep (by simp)) ?_
  rintro ⟨⟨n1, v1_0⟩, e1, j1⟩
  try dsimp only at e1 j1
  obtain ⟨p1, rfl⟩ : ∃ p, n1 = p + 1 := ⟨n1 - 1, by omega⟩
  simp
  refine cC (decide ((↑v1_0 : Int) < (↑a0.length : Int))) (fun k3 h2 => ?_) (fun k3 h2 => ?_)
  ·have q2 := h2; try simp at q2
   have i1 : v1_0 < a0.length := by simpa using h2
   have m2 : a0.length ≤ 9223372036854775807 := by simpa using k3 0 _ rfl
   have w1 : IntKind.i64.wrap ((v1_0 : Int) + 1) = (v1_0 : Int) + 1 := wrap_of (by omega) (by omega)
   simp
   refine okD fun k4 => ?_
   refine drawI mixed (by kernel_rfl) (by kernel_rfl) ?_
   have i2 : v1_0 < a1.length := il
   simp [i1, rowAt_map, i2]
   repeat with_reducible refine sd ?_
   refine cR (l_eqCert_ok (nth a0 v1_0) (nth a1 v1_0)) ?_
   simp
   refine cC (!(l_eqCert (nth a0 v1_0) (nth a1 v1_0))) (fun k5 h3 => ?_) (fun k5 h3 => ?_)
   ·have q3 := h3; try simp at q3
    have x1 : l_eqCertS_1 a0 a1 (a0.length + 1) 0 = .inl false := by rw [← e1]; simp only [l_eqCertS_1, h2, h3, cond_t, cond_f]
    simp
    refine retRd (rv := [.tmp 4]) rfl ?_
    have f2 := l_eqCertS.eq_1 a0 a1; simp only [h1, x1, cond_t, cond_f] at f2; simp [f2]
   ·have q3 := h3; try simp at q3
    simp
    refine nxtI ⟨(p1, (v1_0 + 1)), ?_, ?_⟩ (by simp) (wk_keep (by simp [w1]))
    · rw [← e1]; simp only [l_eqCertS_1, h2, h3, cond_t, cond_f]
    · first | omega | (simp at *; omega)
  ·have q2 := h2; try simp at q2
   have x2 : l_eqCertS_1 a0 a1 (a0.length + 1) 0 = .inr () := by rw [← e1]; simp only [l_eqCertS_1, h2, cond_t, cond_f]
   simp
   refine retRd (rv := [.tmp 4]) rfl ?_
   have f3 := l_eqCertS.eq_1 a0 a1; simp only [h1, x2, cond_t, cond_f] at f3; simp [f3]
theorem l_eqIntS_ok (a0 : List Int) (a1 : List Int) : SoundAt Tryz.prog 35 false [[.sl 1 (a0.map iR)], [.sl 1 (a1.map iR)]] [[.bool (l_eqIntS a0 a1)]] := by
 refine sound_of Tryz.func35 rfl (by kernel_rfl) ?_
 simp [Tryz.ntmps35]
 refine cC ((↑a0.length : Int) != (↑a1.length : Int)) (fun k1 h1 => ?_) (fun k1 h1 => ?_)
 ·have q1 := h1; try simp at q1
  simp
  refine retRd (rv := [.tmp 4]) rfl ?_
  have f1 := l_eqIntS.eq_1 a0 a1; simp only [h1, cond_t, cond_f] at f1; simp [f1]
 ·have q1 := h1; try simp at q1
  simp
  refine okL fun k2 => ?_
  refine loopI (ι := { s : Nat × Nat // l_eqIntS_1 a0 a1 s.1 s.2 = l_eqIntS_1 a0 a1 (a0.length + 1) 0 ∧ (1 ≤ s.1 ∧ a0.length < s.1 + s.2 ∧ s.2 ≤ a0.length) }) (fun s => stOf 26 [eL 0 1 a0 iR, eL 1 1 a1 iR, eI 5 (↑s.1.2 : Int)]) (fun s => s.1.1) ⟨((a0.length + 1), 0), rfl, by first | omega | (dsimp only; omega) | simp⟩ (wk_keep (by simp)) ?_
  rintro ⟨⟨n1, v1_0⟩, e1, j1⟩
  try dsimp only at e1 j1
  obtain ⟨p1, rfl⟩ : ∃ p, n1 = p + 1 := ⟨n1 - 1, by omega⟩
  simp
  refine cC (decide ((↑v1_0 : Int) < (↑a0.length : Int))) (fun k3 h2 => ?_) (fun k3 h2 => ?_)
  ·have q2 := h2; try simp at q2
   have i1 : v1_0 < a0.length := by simpa using h2
   have m2 : a0.length ≤ 9223372036854775807 := by simpa using k3 0 _ rfl
   have w1 : IntKind.i64.wrap ((v1_0 : Int) + 1) = (v1_0 : Int) + 1 := wrap_of (by omega) (by omega)
   simp
   refine okD fun k4 => ?_
   refine drawI mixed (by kernel_rfl) (by kernel_rfl) ?_
   have i2 : v1_0 < a1.length := il
   simp [i1, rowAt_map, i2]
   repeat with_reducible refine sd ?_
   refine cC ((nth a0 v1_0) != (nth a1 v1_0)) (fun k5 h3 => ?_) (fun k5 h3 => ?_)
   ·have q3 := h3; try simp at q3
    have x1 : l_eqIntS_1 a0 a1 (a0.length + 1) 0 = .inl false := by rw [← e1]; simp only [l_eqIntS_1, h2, h3, cond_t, cond_f]
    simp
    refine retRd (rv := [.tmp 4]) rfl ?_
    have f2 := l_eqIntS.eq_1 a0 a1; simp only [h1, x1, cond_t, cond_f] at f2; simp [f2]
   ·have q3 := h3; try simp at q3
    simp
    refine nxtI ⟨(p1, (v1_0 + 1)), ?_, ?_⟩ (by simp) (wk_keep (by simp [w1]))
    · rw [← e1]; simp only [l_eqIntS_1, h2, h3, cond_t, cond_f]
    · first | omega | (simp at *; omega)
  ·have q2 := h2; try simp at q2
   have x2 : l_eqIntS_1 a0 a1 (a0.length + 1) 0 = .inr () := by rw [← e1]; simp only [l_eqIntS_1, h2, cond_t, cond_f]
   simp
   refine retRd (rv := [.tmp 4]) rfl ?_
   have f3 := l_eqIntS.eq_1 a0 a1; simp only [h1, x2, cond_t, cond_f] at f3; simp [f3]
theorem l_eqStringS_ok (a0 : List ByteArray) (a1 : List ByteArray) : SoundAt Tryz.prog 217 false [[.sl 1 (a0.map sR)], [.sl 1 (a1.map sR)]] [[.bool (l_eqStringS a0 a1)]] := by
 refine sound_of Tryz.func217 rfl (by kernel_rfl) ?_
 simp [Tryz.ntmps217]
 refine cC ((↑a0.length : Int) != (↑a1.length : Int)) (fun k1 h1 => ?_) (fun k1 h1 => ?_)
 ·have q1 := h1; try simp at q1
  simp
  refine retRd (rv := [.tmp 4]) rfl ?_
  have f1 := l_eqStringS.eq_1 a0 a1; simp only [h1, cond_t, cond_f] at f1; simp [f1]
 ·have q1 := h1; try simp at q1
  simp
  refine okL fun k2 => ?_
  refine loopI (ι := { s : Nat × Nat // l_eqStringS_1 a0 a1 s.1 s.2 = l_eqStringS_1 a0 a1 (a0.length + 1) 0 ∧ (1 ≤ s.1 ∧ a0.length < s.1 + s.2 ∧ s.2 ≤ a0.length) }) (fun s => stOf 26 [eL 0 1 a0 sR, eL 1 1 a1 sR, eI 5 (↑s.1.2 : Int)]) (fun s => s.1.1) ⟨((a0.length + 1), 0), rfl, by first | omega | (dsimp only; omega) | simp⟩ (wk_keep (by simp)) ?_
  rintro ⟨⟨n1, v1_0⟩, e1, j1⟩
  try dsimp only at e1 j1
  obtain ⟨p1, rfl⟩ : ∃ p, n1 = p + 1 := ⟨n1 - 1, by omega⟩
  simp
  refine cC (decide ((↑v1_0 : Int) < (↑a0.length : Int))) (fun k3 h2 => ?_) (fun k3 h2 => ?_)
  ·have q2 := h2; try simp at q2
   have i1 : v1_0 < a0.length := by simpa using h2
   have m2 : a0.length ≤ 9223372036854775807 := by simpa using k3 0 _ rfl
   have w1 : IntKind.i64.wrap ((v1_0 : Int) + 1) = (v1_0 : Int) + 1 := wrap_of (by omega) (by omega)
   simp
   refine okD fun k4 => ?_
   refine drawI mixed (by kernel_rfl) (by kernel_rfl) ?_
   have i2 : v1_0 < a1.length := il
   simp [i1, rowAt_map, i2]
   repeat with_reducible refine sd ?_
   refine cC (!decide ((nth a0 v1_0) = (nth a1 v1_0))) (fun k5 h3 => ?_) (fun k5 h3 => ?_)
   ·have q3 := h3; try simp at q3
    have x1 : l_eqStringS_1 a0 a1 (a0.length + 1) 0 = .inl false := by rw [← e1]; simp only [l_eqStringS_1, h2, h3, cond_t, cond_f]
    simp
    refine retRd (rv := [.tmp 4]) rfl ?_
    have f2 := l_eqStringS.eq_1 a0 a1; simp only [h1, x1, cond_t, cond_f] at f2; simp [f2]
   ·have q3 := h3; try simp at q3
    simp
    refine nxtI ⟨(p1, (v1_0 + 1)), ?_, ?_⟩ (by simp) (wk_keep (by simp [w1]))
    · rw [← e1]; simp only [l_eqStringS_1, h2, h3, cond_t, cond_f]
    · first | omega | (simp at *; omega)
  ·have q2 := h2; try simp at q2
   have x2 : l_eqStringS_1 a0 a1 (a0.length + 1) 0 = .inr () := by rw [← e1]; simp only [l_eqStringS_1, h2, cond_t, cond_f]
   simp
   refine retRd (rv := [.tmp 4]) rfl ?_
   have f3 := l_eqStringS.eq_1 a0 a1; simp only [h1, x2, cond_t, cond_f] at f3; simp [f3]
theorem l_eqDocument_ok (a0 : TDocument) (a1 : TDocument) : SoundAt Tryz.prog 195 false [a0.row, a1.row] [[.bool (l_eqDocument a0 a1)]] := by
 refine sound_of Tryz.func195 rfl (by kernel_rfl) ?_
 simp [Tryz.ntmps195]
 refine cC (a0.Title != a1.Title) (fun k1 h1 => ?_) (fun k1 h1 => ?_)
 ·have q1 := h1; try simp at q1
  simp
  refine retRd (rv := [.tmp 4]) rfl ?_
  have f1 := l_eqDocument.eq_1 a0 a1; simp only [h1, cond_t, cond_f] at f1; simp [f1]
 ·have q1 := h1; try simp at q1
  simp
  refine cR (l_eqStringS_ok a0.Parts a1.Parts) ?_
  simp
  refine cC (!(l_eqStringS a0.Parts a1.Parts)) (fun k2 h2 => ?_) (fun k2 h2 => ?_)
  ·have q2 := h2; try simp at q2
   simp
   refine retRd (rv := [.tmp 4]) rfl ?_
   have f2 := l_eqDocument.eq_1 a0 a1; simp only [h1, h2, cond_t, cond_f] at f2; simp [f2]
  ·have q2 := h2; try simp at q2
   simp
   refine cR (l_eqIntS_ok a0.Salts a1.Salts) ?_
   simp
   refine cC (!(l_eqIntS a0.Salts a1.Salts)) (fun k3 h3 => ?_) (fun k3 h3 => ?_)
   ·have q3 := h3; try simp at q3
    simp
    refine retRd (rv := [.tmp 4]) rfl ?_
    have f3 := l_eqDocument.eq_1 a0 a1; simp only [h1, h2, h3, cond_t, cond_f] at f3; simp [f3]
   ·have q3 := h3; try simp at q3
    simp
    refine retRd (rv := [.tmp 4]) rfl ?_
    have f4 := l_eqDocument.eq_1 a0 a1; simp only [h1, h2, h3, cond_t, cond_f] at f4; simp [f4]
theorem l_eqSignature_ok (a0 : TSignature) (a1 : TSignature) : SoundAt Tryz.prog 196 false [a0.row, a1.row] [[.bool (l_eqSignature a0 a1)]] := by
 refine sound_of Tryz.func196 rfl (by kernel_rfl) ?_
 simp [Tryz.ntmps196]
 refine cC (a0.Key != a1.Key) (fun k1 h1 => ?_) (fun k1 h1 => ?_)
 ·have q1 := h1; try simp at q1
  simp
  refine retRd (rv := [.tmp 4]) rfl ?_
  have f1 := l_eqSignature.eq_1 a0 a1; simp only [h1, cond_t, cond_f] at f1; simp [f1]
 ·have q1 := h1; try simp at q1
  simp
  refine cC (a0.Serial != a1.Serial) (fun k2 h2 => ?_) (fun k2 h2 => ?_)
  ·have q2 := h2; try simp at q2
   simp
   refine retRd (rv := [.tmp 4]) rfl ?_
   have f2 := l_eqSignature.eq_1 a0 a1; simp only [h1, h2, cond_t, cond_f] at f2; simp [f2]
  ·have q2 := h2; try simp at q2
   simp
   refine cC (a0.Method != a1.Method) (fun k3 h3 => ?_) (fun k3 h3 => ?_)
   ·have q3 := h3; try simp at q3
    simp
    refine retRd (rv := [.tmp 4]) rfl ?_
    have f3 := l_eqSignature.eq_1 a0 a1; simp only [h1, h2, h3, cond_t, cond_f] at f3; simp [f3]
   ·have q3 := h3; try simp at q3
    simp
    refine cC (a0.Digest != a1.Digest) (fun k4 h4 => ?_) (fun k4 h4 => ?_)
    ·have q4 := h4; try simp at q4
     simp
     refine retRd (rv := [.tmp 4]) rfl ?_
     have f4 := l_eqSignature.eq_1 a0 a1; simp only [h1, h2, h3, h4, cond_t, cond_f] at f4; simp [f4]
    ·have q4 := h4; try simp at q4
     simp
     refine cC (a0.Commit != a1.Commit) (fun k5 h5 => ?_) (fun k5 h5 => ?_)
     ·have q5 := h5; try simp at q5
      simp
      refine retRd (rv := [.tmp 4]) rfl ?_
      have f5 := l_eqSignature.eq_1 a0 a1; simp only [h1, h2, h3, h4, h5, cond_t, cond_f] at f5; simp [f5]
     ·have q5 := h5; try simp at q5
      simp
      refine cC (a0.Org != a1.Org) (fun k6 h6 => ?_) (fun k6 h6 => ?_)
      ·have q6 := h6; try simp at q6
       simp
       refine retRd (rv := [.tmp 4]) rfl ?_
       have f6 := l_eqSignature.eq_1 a0 a1; simp only [h1, h2, h3, h4, h5, h6, cond_t, cond_f] at f6; simp [f6]
      ·have q6 := h6; try simp at q6
       simp
       refine cC (a0.Before != a1.Before) (fun k7 h7 => ?_) (fun k7 h7 => ?_)
       ·have q7 := h7; try simp at q7
        simp
        refine retRd (rv := [.tmp 4]) rfl ?_
        have f7 := l_eqSignature.eq_1 a0 a1; simp only [h1, h2, h3, h4, h5, h6, h7, cond_t, cond_f] at f7; simp [f7]
       ·have q7 := h7; try simp at q7
        simp
        refine cC (a0.After != a1.After) (fun k8 h8 => ?_) (fun k8 h8 => ?_)
        ·have q8 := h8; try simp at q8
         simp
         refine retRd (rv := [.tmp 4]) rfl ?_
         have f8 := l_eqSignature.eq_1 a0 a1; simp only [h1, h2, h3, h4, h5, h6, h7, h8, cond_t, cond_f] at f8; simp [f8]
        ·have q8 := h8; try simp at q8
         simp
         refine cC (a0.Mark != a1.Mark) (fun k9 h9 => ?_) (fun k9 h9 => ?_)
         ·have q9 := h9; try simp at q9
          simp
          refine retRd (rv := [.tmp 4]) rfl ?_
          have f9 := l_eqSignature.eq_1 a0 a1; simp only [h1, h2, h3, h4, h5, h6, h7, h8, h9, cond_t, cond_f] at f9; simp [f9]
         ·have q9 := h9; try simp at q9
          simp
          refine retRd (rv := [.tmp 4]) rfl ?_
          have f10 := l_eqSignature.eq_1 a0 a1; simp only [h1, h2, h3, h4, h5, h6, h7, h8, h9, cond_t, cond_f] at f10; simp [f10]
theorem l_eqPiece_ok (a0 : TPiece) (a1 : TPiece) : SoundAt Tryz.prog 233 false [a0.row, a1.row] [[.bool (l_eqPiece a0 a1)]] := by
 refine sound_of Tryz.func233 rfl (by kernel_rfl) ?_
 simp [Tryz.ntmps233]
 refine cC (a0.Key != a1.Key) (fun k1 h1 => ?_) (fun k1 h1 => ?_)
 ·have q1 := h1; try simp at q1
  simp
  refine retRd (rv := [.tmp 4]) rfl ?_
  have f1 := l_eqPiece.eq_1 a0 a1; simp only [h1, cond_t, cond_f] at f1; simp [f1]
 ·have q1 := h1; try simp at q1
  simp
  refine cR (l_eqIntS_ok a0.Ints a1.Ints) ?_
  simp
  refine cC (!(l_eqIntS a0.Ints a1.Ints)) (fun k2 h2 => ?_) (fun k2 h2 => ?_)
  ·have q2 := h2; try simp at q2
   simp
   refine retRd (rv := [.tmp 4]) rfl ?_
   have f2 := l_eqPiece.eq_1 a0 a1; simp only [h1, h2, cond_t, cond_f] at f2; simp [f2]
  ·have q2 := h2; try simp at q2
   simp
   refine cC (a0.Mark != a1.Mark) (fun k3 h3 => ?_) (fun k3 h3 => ?_)
   ·have q3 := h3; try simp at q3
    simp
    refine retRd (rv := [.tmp 4]) rfl ?_
    have f3 := l_eqPiece.eq_1 a0 a1; simp only [h1, h2, h3, cond_t, cond_f] at f3; simp [f3]
   ·have q3 := h3; try simp at q3
    simp
    refine retRd (rv := [.tmp 4]) rfl ?_
    have f4 := l_eqPiece.eq_1 a0 a1; simp only [h1, h2, h3, cond_t, cond_f] at f4; simp [f4]
theorem l_eqPieceS_ok (a0 : List TPiece) (a1 : List TPiece) : SoundAt Tryz.prog 218 false [[.sl 3 (a0.map TPiece.row)], [.sl 3 (a1.map TPiece.row)]] [[.bool (l_eqPieceS a0 a1)]] := by
 refine sound_of Tryz.func218 rfl (by kernel_rfl) ?_
 simp [Tryz.ntmps218]
 refine cC ((↑a0.length : Int) != (↑a1.length : Int)) (fun k1 h1 => ?_) (fun k1 h1 => ?_)
 ·have q1 := h1; try simp at q1
  simp
  refine retRd (rv := [.tmp 4]) rfl ?_
  have f1 := l_eqPieceS.eq_1 a0 a1; simp only [h1, cond_t, cond_f] at f1; simp [f1]
 ·have q1 := h1; try simp at q1
  simp
  refine okL fun k2 => ?_
  refine loopI (ι := { s : Nat × Nat // l_eqPieceS_1 a0 a1 s.1 s.2 = l_eqPieceS_1 a0 a1 (a0.length + 1) 0 ∧ (1 ≤ s.1 ∧ a0.length < s.1 + s.2 ∧ s.2 ≤ a0.length) }) (fun s => stOf 27 [eL 0 3 a0 TPiece.row, eL 1 3 a1 TPiece.row, eI 5 (↑s.1.2 : Int)]) (fun s => s.1.1) ⟨((a0.length + 1), 0), rfl, by first | omega | (dsimp only; omega) | simp⟩ (wk_keep (by simp)) ?_
  rintro ⟨⟨n1, v1_0⟩, e1, j1⟩
  try dsimp only at e1 j1
  obtain ⟨p1, rfl⟩ : ∃ p, n1 = p + 1 := ⟨n1 - 1, by omega⟩
  simp
  refine cC (decide ((↑v1_0 : Int) < (↑a0.length : Int))) (fun k3 h2 => ?_) (fun k3 h2 => ?_)
  ·have q2 := h2; try simp at q2
   have i1 : v1_0 < a0.length := by simpa using h2
   have m2 : a0.length ≤ 9223372036854775807 := by simpa using k3 0 _ rfl
   have w1 : IntKind.i64.wrap ((v1_0 : Int) + 1) = (v1_0 : Int) + 1 := wrap_of (by omega) (by omega)
   simp
   refine okD fun k4 => ?_
   refine drawI mixed (by kernel_rfl) (by kernel_rfl) ?_
   have i2 : v1_0 < a1.length := il
   simp [i1, rowAt_map, i2]
   repeat with_reducible refine sd ?_
   refine cR (l_eqPiece_ok (nth a0 v1_0) (nth a1 v1_0)) ?_
   simp
   refine cC (!(l_eqPiece (nth a0 v1_0) (nth a1 v1_0))) (fun k5 h3 => ?_) (fun k5 h3 => ?_)
   ·have q3 := h3; try simp at q3
    have x1 : l_eqPieceS_1 a0 a1 (a0.length + 1) 0 = .inl false := by rw [← e1]; simp only [l_eqPieceS_1, h2, h3, cond_t, cond_f]
    simp
    refine retRd (rv := [.tmp 4]) rfl ?_
    have f2 := l_eqPieceS.eq_1 a0 a1; simp only [h1, x1, cond_t, cond_f] at f2; simp [f2]
   ·have q3 := h3; try simp at q3
    simp
    refine nxtI ⟨(p1, (v1_0 + 1)), ?_, ?_⟩ (by simp) (wk_keep (by simp [w1]))
    · rw [← e1]; simp only [l_eqPieceS_1, h2, h3, cond_t, cond_f]
    · first | omega | (simp at *; omega)
  ·have q2 := h2; try simp at q2
   have x2 : l_eqPieceS_1 a0 a1 (a0.length + 1) 0 = .inr () := by rw [← e1]; simp only [l_eqPieceS_1, h2, cond_t, cond_f]
   simp
   refine retRd (rv := [.tmp 4]) rfl ?_
   have f3 := l_eqPieceS.eq_1 a0 a1; simp only [h1, x2, cond_t, cond_f] at f3; simp [f3]
theorem l_eqStep_ok (a0 : TStep) (a1 : TStep) : SoundAt Tryz.prog 247 false [a0.row, a1.row] [[.bool (l_eqStep a0 a1)]] := by
 refine sound_of Tryz.func247 rfl (by kernel_rfl) ?_
 simp [Tryz.ntmps247]
 refine cC (a0.Digest != a1.Digest) (fun k1 h1 => ?_) (fun k1 h1 => ?_)
 ·have q1 := h1; try simp at q1
  simp
  refine retRd (rv := [.tmp 4]) rfl ?_
  have f1 := l_eqStep.eq_1 a0 a1; simp only [h1, cond_t, cond_f] at f1; simp [f1]
 ·have q1 := h1; try simp at q1
  simp
  refine cC (!(a0.Left == a1.Left)) (fun k2 h2 => ?_) (fun k2 h2 => ?_)
  ·have q2 := h2; try simp at q2
   simp
   refine retRd (rv := [.tmp 4]) rfl ?_
   have f2 := l_eqStep.eq_1 a0 a1; simp only [h1, h2, cond_t, cond_f] at f2; simp [f2]
  ·have q2 := h2; try simp at q2
   simp
   refine retRd (rv := [.tmp 4]) rfl ?_
   have f3 := l_eqStep.eq_1 a0 a1; simp only [h1, h2, cond_t, cond_f] at f3; simp [f3]
theorem l_eqStepS_ok (a0 : List TStep) (a1 : List TStep) : SoundAt Tryz.prog 242 false [[.sl 2 (a0.map TStep.row)], [.sl 2 (a1.map TStep.row)]] [[.bool (l_eqStepS a0 a1)]] := by
 refine sound_of Tryz.func242 rfl (by kernel_rfl) ?_
 simp [Tryz.ntmps242]
 refine cC ((↑a0.length : Int) != (↑a1.length : Int)) (fun k1 h1 => ?_) (fun k1 h1 => ?_)
 ·have q1 := h1; try simp at q1
  simp
  refine retRd (rv := [.tmp 4]) rfl ?_
  have f1 := l_eqStepS.eq_1 a0 a1; simp only [h1, cond_t, cond_f] at f1; simp [f1]
 ·have q1 := h1; try simp at q1
  simp
  refine okL fun k2 => ?_
  refine loopI (ι := { s : Nat × Nat // l_eqStepS_1 a0 a1 s.1 s.2 = l_eqStepS_1 a0 a1 (a0.length + 1) 0 ∧ (1 ≤ s.1 ∧ a0.length < s.1 + s.2 ∧ s.2 ≤ a0.length) }) (fun s => stOf 27 [eL 0 2 a0 TStep.row, eL 1 2 a1 TStep.row, eI 5 (↑s.1.2 : Int)]) (fun s => s.1.1) ⟨((a0.length + 1), 0), rfl, by first | omega | (dsimp only; omega) | simp⟩ (wk_keep (by simp)) ?_
  rintro ⟨⟨n1, v1_0⟩, e1, j1⟩
  try dsimp only at e1 j1
  obtain ⟨p1, rfl⟩ : ∃ p, n1 = p + 1 := ⟨n1 - 1, by omega⟩
  simp
  refine cC (decide ((↑v1_0 : Int) < (↑a0.length : Int))) (fun k3 h2 => ?_) (fun k3 h2 => ?_)
  ·have q2 := h2; try simp at q2
   have i1 : v1_0 < a0.length := by simpa using h2
   have m2 : a0.length ≤ 9223372036854775807 := by simpa using k3 0 _ rfl
   have w1 : IntKind.i64.wrap ((v1_0 : Int) + 1) = (v1_0 : Int) + 1 := wrap_of (by omega) (by omega)
   simp
   refine okD fun k4 => ?_
   refine drawI mixed (by kernel_rfl) (by kernel_rfl) ?_
   have i2 : v1_0 < a1.length := il
   simp [i1, rowAt_map, i2]
   repeat with_reducible refine sd ?_
   refine cR (l_eqStep_ok (nth a0 v1_0) (nth a1 v1_0)) ?_
   simp
   refine cC (!(l_eqStep (nth a0 v1_0) (nth a1 v1_0))) (fun k5 h3 => ?_) (fun k5 h3 => ?_)
   ·have q3 := h3; try simp at q3
    have x1 : l_eqStepS_1 a0 a1 (a0.length + 1) 0 = .inl false := by rw [← e1]; simp only [l_eqStepS_1, h2, h3, cond_t, cond_f]
    simp
    refine retRd (rv := [.tmp 4]) rfl ?_
    have f2 := l_eqStepS.eq_1 a0 a1; simp only [h1, x1, cond_t, cond_f] at f2; simp [f2]
   ·have q3 := h3; try simp at q3
    simp
    refine nxtI ⟨(p1, (v1_0 + 1)), ?_, ?_⟩ (by simp) (wk_keep (by simp [w1]))
    · rw [← e1]; simp only [l_eqStepS_1, h2, h3, cond_t, cond_f]
    · first | omega | (simp at *; omega)
  ·have q2 := h2; try simp at q2
   have x2 : l_eqStepS_1 a0 a1 (a0.length + 1) 0 = .inr () := by rw [← e1]; simp only [l_eqStepS_1, h2, cond_t, cond_f]
   simp
   refine retRd (rv := [.tmp 4]) rfl ?_
   have f3 := l_eqStepS.eq_1 a0 a1; simp only [h1, x2, cond_t, cond_f] at f3; simp [f3]
theorem l_eqStamp_ok (a0 : TStamp) (a1 : TStamp) : SoundAt Tryz.prog 32 false [a0.row, a1.row] [[.bool (l_eqStamp a0 a1)]] := by
 refine sound_of Tryz.func32 rfl (by kernel_rfl) ?_
 simp [Tryz.ntmps32]
 refine cC (a0.Authority != a1.Authority) (fun k1 h1 => ?_) (fun k1 h1 => ?_)
 ·have q1 := h1; try simp at q1
  simp
  refine retRd (rv := [.tmp 4]) rfl ?_
  have f1 := l_eqStamp.eq_1 a0 a1; simp only [h1, cond_t, cond_f] at f1; simp [f1]
 ·have q1 := h1; try simp at q1
  simp
  refine cC (a0.Seq != a1.Seq) (fun k2 h2 => ?_) (fun k2 h2 => ?_)
  ·have q2 := h2; try simp at q2
   simp
   refine retRd (rv := [.tmp 4]) rfl ?_
   have f2 := l_eqStamp.eq_1 a0 a1; simp only [h1, h2, cond_t, cond_f] at f2; simp [f2]
  ·have q2 := h2; try simp at q2
   simp
   refine cC (a0.Time != a1.Time) (fun k3 h3 => ?_) (fun k3 h3 => ?_)
   ·have q3 := h3; try simp at q3
    simp
    refine retRd (rv := [.tmp 4]) rfl ?_
    have f3 := l_eqStamp.eq_1 a0 a1; simp only [h1, h2, h3, cond_t, cond_f] at f3; simp [f3]
   ·have q3 := h3; try simp at q3
    simp
    refine cC (a0.Digest != a1.Digest) (fun k4 h4 => ?_) (fun k4 h4 => ?_)
    ·have q4 := h4; try simp at q4
     simp
     refine retRd (rv := [.tmp 4]) rfl ?_
     have f4 := l_eqStamp.eq_1 a0 a1; simp only [h1, h2, h3, h4, cond_t, cond_f] at f4; simp [f4]
    ·have q4 := h4; try simp at q4
     simp
     refine cC (a0.Mark != a1.Mark) (fun k5 h5 => ?_) (fun k5 h5 => ?_)
     ·have q5 := h5; try simp at q5
      simp
      refine retRd (rv := [.tmp 4]) rfl ?_
      have f5 := l_eqStamp.eq_1 a0 a1; simp only [h1, h2, h3, h4, h5, cond_t, cond_f] at f5; simp [f5]
     ·have q5 := h5; try simp at q5
      simp
      refine retRd (rv := [.tmp 4]) rfl ?_
      have f6 := l_eqStamp.eq_1 a0 a1; simp only [h1, h2, h3, h4, h5, cond_t, cond_f] at f6; simp [f6]
theorem l_eqStampS_ok (a0 : List TStamp) (a1 : List TStamp) : SoundAt Tryz.prog 10 false [[.sl 5 (a0.map TStamp.row)], [.sl 5 (a1.map TStamp.row)]] [[.bool (l_eqStampS a0 a1)]] := by
 refine sound_of Tryz.func10 rfl (by kernel_rfl) ?_
 simp [Tryz.ntmps10]
 refine cC ((↑a0.length : Int) != (↑a1.length : Int)) (fun k1 h1 => ?_) (fun k1 h1 => ?_)
 ·have q1 := h1; try simp at q1
  simp
  refine retRd (rv := [.tmp 4]) rfl ?_
  have f1 := l_eqStampS.eq_1 a0 a1; simp only [h1, cond_t, cond_f] at f1; simp [f1]
 ·have q1 := h1; try simp at q1
  simp
  refine okL fun k2 => ?_
  refine loopI (ι := { s : Nat × Nat // l_eqStampS_1 a0 a1 s.1 s.2 = l_eqStampS_1 a0 a1 (a0.length + 1) 0 ∧ (1 ≤ s.1 ∧ a0.length < s.1 + s.2 ∧ s.2 ≤ a0.length) }) (fun s => stOf 27 [eL 0 5 a0 TStamp.row, eL 1 5 a1 TStamp.row, eI 5 (↑s.1.2 : Int)]) (fun s => s.1.1) ⟨((a0.length + 1), 0), rfl, by first | omega | (dsimp only; omega) | simp⟩ (wk_keep (by simp)) ?_
  rintro ⟨⟨n1, v1_0⟩, e1, j1⟩
  try dsimp only at e1 j1
  obtain ⟨p1, rfl⟩ : ∃ p, n1 = p + 1 := ⟨n1 - 1, by omega⟩
  simp
  refine cC (decide ((↑v1_0 : Int) < (↑a0.length : Int))) (fun k3 h2 => ?_) (fun k3 h2 => ?_)
  ·have q2 := h2; try simp at q2
   have i1 : v1_0 < a0.length := by simpa using h2
   have m2 : a0.length ≤ 9223372036854775807 := by simpa using k3 0 _ rfl
   have w1 : IntKind.i64.wrap ((v1_0 : Int) + 1) = (v1_0 : Int) + 1 := wrap_of (by omega) (by omega)
   simp
   refine okD fun k4 => ?_
   refine drawI mixed (by kernel_rfl) (by kernel_rfl) ?_
   have i2 : v1_0 < a1.length := il
   simp [i1, rowAt_map, i2]
   repeat with_reducible refine sd ?_
   refine cR (l_eqStamp_ok (nth a0 v1_0) (nth a1 v1_0)) ?_
   simp
   refine cC (!(l_eqStamp (nth a0 v1_0) (nth a1 v1_0))) (fun k5 h3 => ?_) (fun k5 h3 => ?_)
   ·have q3 := h3; try simp at q3
    have x1 : l_eqStampS_1 a0 a1 (a0.length + 1) 0 = .inl false := by rw [← e1]; simp only [l_eqStampS_1, h2, h3, cond_t, cond_f]
    simp
    refine retRd (rv := [.tmp 4]) rfl ?_
    have f2 := l_eqStampS.eq_1 a0 a1; simp only [h1, x1, cond_t, cond_f] at f2; simp [f2]
   ·have q3 := h3; try simp at q3
    simp
    refine nxtI ⟨(p1, (v1_0 + 1)), ?_, ?_⟩ (by simp) (wk_keep (by simp [w1]))
    · rw [← e1]; simp only [l_eqStampS_1, h2, h3, cond_t, cond_f]
    · first | omega | (simp at *; omega)
  ·have q2 := h2; try simp at q2
   have x2 : l_eqStampS_1 a0 a1 (a0.length + 1) 0 = .inr () := by rw [← e1]; simp only [l_eqStampS_1, h2, cond_t, cond_f]
   simp
   refine retRd (rv := [.tmp 4]) rfl ?_
   have f3 := l_eqStampS.eq_1 a0 a1; simp only [h1, x2, cond_t, cond_f] at f3; simp [f3]
theorem l_eqRenewal_ok (a0 : TRenewal) (a1 : TRenewal) : SoundAt Tryz.prog 234 false [a0.row, a1.row] [[.bool (l_eqRenewal a0 a1)]] := by
 refine sound_of Tryz.func234 rfl (by kernel_rfl) ?_
 simp [Tryz.ntmps234]
 refine cC (a0.Count != a1.Count) (fun k1 h1 => ?_) (fun k1 h1 => ?_)
 ·have q1 := h1; try simp at q1
  simp
  refine retRd (rv := [.tmp 4]) rfl ?_
  have f1 := l_eqRenewal.eq_1 a0 a1; simp only [h1, cond_t, cond_f] at f1; simp [f1]
 ·have q1 := h1; try simp at q1
  simp
  refine cC (a0.Method != a1.Method) (fun k2 h2 => ?_) (fun k2 h2 => ?_)
  ·have q2 := h2; try simp at q2
   simp
   refine retRd (rv := [.tmp 4]) rfl ?_
   have f2 := l_eqRenewal.eq_1 a0 a1; simp only [h1, h2, cond_t, cond_f] at f2; simp [f2]
  ·have q2 := h2; try simp at q2
   simp
   refine cC (a0.Root != a1.Root) (fun k3 h3 => ?_) (fun k3 h3 => ?_)
   ·have q3 := h3; try simp at q3
    simp
    refine retRd (rv := [.tmp 4]) rfl ?_
    have f3 := l_eqRenewal.eq_1 a0 a1; simp only [h1, h2, h3, cond_t, cond_f] at f3; simp [f3]
   ·have q3 := h3; try simp at q3
    simp
    refine cR (l_eqStepS_ok a0.Path a1.Path) ?_
    simp
    refine cC (!(l_eqStepS a0.Path a1.Path)) (fun k4 h4 => ?_) (fun k4 h4 => ?_)
    ·have q4 := h4; try simp at q4
     simp
     refine retRd (rv := [.tmp 4]) rfl ?_
     have f4 := l_eqRenewal.eq_1 a0 a1; simp only [h1, h2, h3, h4, cond_t, cond_f] at f4; simp [f4]
    ·have q4 := h4; try simp at q4
     simp
     refine cR (l_eqStampS_ok a0.Stamps a1.Stamps) ?_
     simp
     refine cC (!(l_eqStampS a0.Stamps a1.Stamps)) (fun k5 h5 => ?_) (fun k5 h5 => ?_)
     ·have q5 := h5; try simp at q5
      simp
      refine retRd (rv := [.tmp 4]) rfl ?_
      have f5 := l_eqRenewal.eq_1 a0 a1; simp only [h1, h2, h3, h4, h5, cond_t, cond_f] at f5; simp [f5]
     ·have q5 := h5; try simp at q5
      simp
      refine retRd (rv := [.tmp 4]) rfl ?_
      have f6 := l_eqRenewal.eq_1 a0 a1; simp only [h1, h2, h3, h4, h5, cond_t, cond_f] at f6; simp [f6]
theorem l_eqRenewalS_ok (a0 : List TRenewal) (a1 : List TRenewal) : SoundAt Tryz.prog 219 false [[.sl 5 (a0.map TRenewal.row)], [.sl 5 (a1.map TRenewal.row)]] [[.bool (l_eqRenewalS a0 a1)]] := by
 refine sound_of Tryz.func219 rfl (by kernel_rfl) ?_
 simp [Tryz.ntmps219]
 refine cC ((↑a0.length : Int) != (↑a1.length : Int)) (fun k1 h1 => ?_) (fun k1 h1 => ?_)
 ·have q1 := h1; try simp at q1
  simp
  refine retRd (rv := [.tmp 4]) rfl ?_
  have f1 := l_eqRenewalS.eq_1 a0 a1; simp only [h1, cond_t, cond_f] at f1; simp [f1]
 ·have q1 := h1; try simp at q1
  simp
  refine okL fun k2 => ?_
  refine loopI (ι := { s : Nat × Nat // l_eqRenewalS_1 a0 a1 s.1 s.2 = l_eqRenewalS_1 a0 a1 (a0.length + 1) 0 ∧ (1 ≤ s.1 ∧ a0.length < s.1 + s.2 ∧ s.2 ≤ a0.length) }) (fun s => stOf 27 [eL 0 5 a0 TRenewal.row, eL 1 5 a1 TRenewal.row, eI 5 (↑s.1.2 : Int)]) (fun s => s.1.1) ⟨((a0.length + 1), 0), rfl, by first | omega | (dsimp only; omega) | simp⟩ (wk_keep (by simp)) ?_
  rintro ⟨⟨n1, v1_0⟩, e1, j1⟩
  try dsimp only at e1 j1
  obtain ⟨p1, rfl⟩ : ∃ p, n1 = p + 1 := ⟨n1 - 1, by omega⟩
  simp
  refine cC (decide ((↑v1_0 : Int) < (↑a0.length : Int))) (fun k3 h2 => ?_) (fun k3 h2 => ?_)
  ·have q2 := h2; try simp at q2
   have i1 : v1_0 < a0.length := by simpa using h2
   have m2 : a0.length ≤ 9223372036854775807 := by simpa using k3 0 _ rfl
   have w1 : IntKind.i64.wrap ((v1_0 : Int) + 1) = (v1_0 : Int) + 1 := wrap_of (by omega) (by omega)
   simp
   refine okD fun k4 => ?_
   refine drawI mixed (by kernel_rfl) (by kernel_rfl) ?_
   have i2 : v1_0 < a1.length := il
   simp [i1, rowAt_map, i2]
   repeat with_reducible refine sd ?_
   refine cR (l_eqRenewal_ok (nth a0 v1_0) (nth a1 v1_0)) ?_
   simp
   refine cC (!(l_eqRenewal (nth a0 v1_0) (nth a1 v1_0))) (fun k5 h3 => ?_) (fun k5 h3 => ?_)
   ·have q3 := h3; try simp at q3
    have x1 : l_eqRenewalS_1 a0 a1 (a0.length + 1) 0 = .inl false := by rw [← e1]; simp only [l_eqRenewalS_1, h2, h3, cond_t, cond_f]
    simp
    refine retRd (rv := [.tmp 4]) rfl ?_
    have f2 := l_eqRenewalS.eq_1 a0 a1; simp only [h1, x1, cond_t, cond_f] at f2; simp [f2]
   ·have q3 := h3; try simp at q3
    simp
    refine nxtI ⟨(p1, (v1_0 + 1)), ?_, ?_⟩ (by simp) (wk_keep (by simp [w1]))
    · rw [← e1]; simp only [l_eqRenewalS_1, h2, h3, cond_t, cond_f]
    · first | omega | (simp at *; omega)
  ·have q2 := h2; try simp at q2
   have x2 : l_eqRenewalS_1 a0 a1 (a0.length + 1) 0 = .inr () := by rw [← e1]; simp only [l_eqRenewalS_1, h2, cond_t, cond_f]
   simp
   refine retRd (rv := [.tmp 4]) rfl ?_
   have f3 := l_eqRenewalS.eq_1 a0 a1; simp only [h1, x2, cond_t, cond_f] at f3; simp [f3]
theorem l_eqStrand_ok (a0 : TStrand) (a1 : TStrand) : SoundAt Tryz.prog 197 false [a0.row, a1.row] [[.bool (l_eqStrand a0 a1)]] := by
 refine sound_of Tryz.func197 rfl (by kernel_rfl) ?_
 simp [Tryz.ntmps197]
 refine cR (l_eqPieceS_ok a0.Pieces a1.Pieces) ?_
 simp
 refine cC (!(l_eqPieceS a0.Pieces a1.Pieces)) (fun k1 h1 => ?_) (fun k1 h1 => ?_)
 ·have q1 := h1; try simp at q1
  simp
  refine retRd (rv := [.tmp 4]) rfl ?_
  have f1 := l_eqStrand.eq_1 a0 a1; simp only [h1, cond_t, cond_f] at f1; simp [f1]
 ·have q1 := h1; try simp at q1
  simp
  refine cR (l_eqRenewalS_ok a0.Chain a1.Chain) ?_
  simp
  refine cC (!(l_eqRenewalS a0.Chain a1.Chain)) (fun k2 h2 => ?_) (fun k2 h2 => ?_)
  ·have q2 := h2; try simp at q2
   simp
   refine retRd (rv := [.tmp 4]) rfl ?_
   have f2 := l_eqStrand.eq_1 a0 a1; simp only [h1, h2, cond_t, cond_f] at f2; simp [f2]
  ·have q2 := h2; try simp at q2
   simp
   refine retRd (rv := [.tmp 4]) rfl ?_
   have f3 := l_eqStrand.eq_1 a0 a1; simp only [h1, h2, cond_t, cond_f] at f3; simp [f3]
theorem l_eqItem_ok (a0 : TItem) (a1 : TItem) : SoundAt Tryz.prog 166 false [a0.row, a1.row] [[.bool (l_eqItem a0 a1)]] := by
 refine sound_of Tryz.func166 rfl (by kernel_rfl) ?_
 simp [Tryz.ntmps166]
 refine cC (a0.Id != a1.Id) (fun k1 h1 => ?_) (fun k1 h1 => ?_)
 ·have q1 := h1; try simp at q1
  simp
  refine retRd (rv := [.tmp 4]) rfl ?_
  have f1 := l_eqItem.eq_1 a0 a1; simp only [h1, cond_t, cond_f] at f1; simp [f1]
 ·have q1 := h1; try simp at q1
  simp
  refine cC (a0.Keep != a1.Keep) (fun k2 h2 => ?_) (fun k2 h2 => ?_)
  ·have q2 := h2; try simp at q2
   simp
   refine retRd (rv := [.tmp 4]) rfl ?_
   have f2 := l_eqItem.eq_1 a0 a1; simp only [h1, h2, cond_t, cond_f] at f2; simp [f2]
  ·have q2 := h2; try simp at q2
   simp
   refine cR (l_eqDocument_ok a0.Doc a1.Doc) ?_
   simp
   refine cC (!(l_eqDocument a0.Doc a1.Doc)) (fun k3 h3 => ?_) (fun k3 h3 => ?_)
   ·have q3 := h3; try simp at q3
    simp
    refine retRd (rv := [.tmp 4]) rfl ?_
    have f3 := l_eqItem.eq_1 a0 a1; simp only [h1, h2, h3, cond_t, cond_f] at f3; simp [f3]
   ·have q3 := h3; try simp at q3
    simp
    refine cR (l_eqSignature_ok a0.Sig a1.Sig) ?_
    simp
    refine cC (!(l_eqSignature a0.Sig a1.Sig)) (fun k4 h4 => ?_) (fun k4 h4 => ?_)
    ·have q4 := h4; try simp at q4
     simp
     refine retRd (rv := [.tmp 4]) rfl ?_
     have f4 := l_eqItem.eq_1 a0 a1; simp only [h1, h2, h3, h4, cond_t, cond_f] at f4; simp [f4]
    ·have q4 := h4; try simp at q4
     simp
     refine cR (l_eqStrand_ok a0.Strand a1.Strand) ?_
     simp
     refine cC (!(l_eqStrand a0.Strand a1.Strand)) (fun k5 h5 => ?_) (fun k5 h5 => ?_)
     ·have q5 := h5; try simp at q5
      simp
      refine retRd (rv := [.tmp 4]) rfl ?_
      have f5 := l_eqItem.eq_1 a0 a1; simp only [h1, h2, h3, h4, h5, cond_t, cond_f] at f5; simp [f5]
     ·have q5 := h5; try simp at q5
      simp
      refine retRd (rv := [.tmp 4]) rfl ?_
      have f6 := l_eqItem.eq_1 a0 a1; simp only [h1, h2, h3, h4, h5, cond_t, cond_f] at f6; simp [f6]
theorem l_eqItemS_ok (a0 : List TItem) (a1 : List TItem) : SoundAt Tryz.prog 130 false [[.sl 16 (a0.map TItem.row)], [.sl 16 (a1.map TItem.row)]] [[.bool (l_eqItemS a0 a1)]] := by
 refine sound_of Tryz.func130 rfl (by kernel_rfl) ?_
 simp [Tryz.ntmps130]
 refine cC ((↑a0.length : Int) != (↑a1.length : Int)) (fun k1 h1 => ?_) (fun k1 h1 => ?_)
 ·have q1 := h1; try simp at q1
  simp
  refine retRd (rv := [.tmp 4]) rfl ?_
  have f1 := l_eqItemS.eq_1 a0 a1; simp only [h1, cond_t, cond_f] at f1; simp [f1]
 ·have q1 := h1; try simp at q1
  simp
  refine okL fun k2 => ?_
  refine loopI (ι := { s : Nat × Nat // l_eqItemS_1 a0 a1 s.1 s.2 = l_eqItemS_1 a0 a1 (a0.length + 1) 0 ∧ (1 ≤ s.1 ∧ a0.length < s.1 + s.2 ∧ s.2 ≤ a0.length) }) (fun s => stOf 27 [eL 0 16 a0 TItem.row, eL 1 16 a1 TItem.row, eI 5 (↑s.1.2 : Int)]) (fun s => s.1.1) ⟨((a0.length + 1), 0), rfl, by first | omega | (dsimp only; omega) | simp⟩ (wk_keep (by simp)) ?_
  rintro ⟨⟨n1, v1_0⟩, e1, j1⟩
  try dsimp only at e1 j1
  obtain ⟨p1, rfl⟩ : ∃ p, n1 = p + 1 := ⟨n1 - 1, by omega⟩
  simp
  refine cC (decide ((↑v1_0 : Int) < (↑a0.length : Int))) (fun k3 h2 => ?_) (fun k3 h2 => ?_)
  ·have q2 := h2; try simp at q2
   have i1 : v1_0 < a0.length := by simpa using h2
   have m2 : a0.length ≤ 9223372036854775807 := by simpa using k3 0 _ rfl
   have w1 : IntKind.i64.wrap ((v1_0 : Int) + 1) = (v1_0 : Int) + 1 := wrap_of (by omega) (by omega)
   simp
   refine okD fun k4 => ?_
   refine drawI mixed (by kernel_rfl) (by kernel_rfl) ?_
   have i2 : v1_0 < a1.length := il
   simp [i1, rowAt_map, i2]
   repeat with_reducible refine sd ?_
   refine cR (l_eqItem_ok (nth a0 v1_0) (nth a1 v1_0)) ?_
   simp
   refine cC (!(l_eqItem (nth a0 v1_0) (nth a1 v1_0))) (fun k5 h3 => ?_) (fun k5 h3 => ?_)
   ·have q3 := h3; try simp at q3
    have x1 : l_eqItemS_1 a0 a1 (a0.length + 1) 0 = .inl false := by rw [← e1]; simp only [l_eqItemS_1, h2, h3, cond_t, cond_f]
    simp
    refine retRd (rv := [.tmp 4]) rfl ?_
    have f2 := l_eqItemS.eq_1 a0 a1; simp only [h1, x1, cond_t, cond_f] at f2; simp [f2]
   ·have q3 := h3; try simp at q3
    simp
    refine nxtI ⟨(p1, (v1_0 + 1)), ?_, ?_⟩ (by simp) (wk_keep (by simp [w1]))
    · rw [← e1]; simp only [l_eqItemS_1, h2, h3, cond_t, cond_f]
    · first | omega | (simp at *; omega)
  ·have q2 := h2; try simp at q2
   have x2 : l_eqItemS_1 a0 a1 (a0.length + 1) 0 = .inr () := by rw [← e1]; simp only [l_eqItemS_1, h2, cond_t, cond_f]
   simp
   refine retRd (rv := [.tmp 4]) rfl ?_
   have f3 := l_eqItemS.eq_1 a0 a1; simp only [h1, x2, cond_t, cond_f] at f3; simp [f3]
theorem l_eqArchive_ok (a0 : TArchive) (a1 : TArchive) : SoundAt Tryz.prog 82 false [a0.row, a1.row] [[.bool (l_eqArchive a0 a1)]] := by
 refine sound_of Tryz.func82 rfl (by kernel_rfl) ?_
 simp [Tryz.ntmps82]
 refine cC (a0.Id != a1.Id) (fun k1 h1 => ?_) (fun k1 h1 => ?_)
 ·have q1 := h1; try simp at q1
  simp
  refine retRd (rv := [.tmp 4]) rfl ?_
  have f1 := l_eqArchive.eq_1 a0 a1; simp only [h1, cond_t, cond_f] at f1; simp [f1]
 ·have q1 := h1; try simp at q1
  simp
  refine cR (l_eqItemS_ok a0.Items a1.Items) ?_
  simp
  refine cC (!(l_eqItemS a0.Items a1.Items)) (fun k2 h2 => ?_) (fun k2 h2 => ?_)
  ·have q2 := h2; try simp at q2
   simp
   refine retRd (rv := [.tmp 4]) rfl ?_
   have f2 := l_eqArchive.eq_1 a0 a1; simp only [h1, h2, cond_t, cond_f] at f2; simp [f2]
  ·have q2 := h2; try simp at q2
   simp
   refine retRd (rv := [.tmp 4]) rfl ?_
   have f3 := l_eqArchive.eq_1 a0 a1; simp only [h1, h2, cond_t, cond_f] at f3; simp [f3]
theorem l_eqArchiveS_ok (a0 : List TArchive) (a1 : List TArchive) : SoundAt Tryz.prog 36 false [[.sl 2 (a0.map TArchive.row)], [.sl 2 (a1.map TArchive.row)]] [[.bool (l_eqArchiveS a0 a1)]] := by
 refine sound_of Tryz.func36 rfl (by kernel_rfl) ?_
 simp [Tryz.ntmps36]
 refine cC ((↑a0.length : Int) != (↑a1.length : Int)) (fun k1 h1 => ?_) (fun k1 h1 => ?_)
 ·have q1 := h1; try simp at q1
  simp
  refine retRd (rv := [.tmp 4]) rfl ?_
  have f1 := l_eqArchiveS.eq_1 a0 a1; simp only [h1, cond_t, cond_f] at f1; simp [f1]
 ·have q1 := h1; try simp at q1
  simp
  refine okL fun k2 => ?_
  refine loopI (ι := { s : Nat × Nat // l_eqArchiveS_1 a0 a1 s.1 s.2 = l_eqArchiveS_1 a0 a1 (a0.length + 1) 0 ∧ (1 ≤ s.1 ∧ a0.length < s.1 + s.2 ∧ s.2 ≤ a0.length) }) (fun s => stOf 27 [eL 0 2 a0 TArchive.row, eL 1 2 a1 TArchive.row, eI 5 (↑s.1.2 : Int)]) (fun s => s.1.1) ⟨((a0.length + 1), 0), rfl, by first | omega | (dsimp only; omega) | simp⟩ (wk_keep (by simp)) ?_
  rintro ⟨⟨n1, v1_0⟩, e1, j1⟩
  try dsimp only at e1 j1
  obtain ⟨p1, rfl⟩ : ∃ p, n1 = p + 1 := ⟨n1 - 1, by omega⟩
  simp
  refine cC (decide ((↑v1_0 : Int) < (↑a0.length : Int))) (fun k3 h2 => ?_) (fun k3 h2 => ?_)
  ·have q2 := h2; try simp at q2
   have i1 : v1_0 < a0.length := by simpa using h2
   have m2 : a0.length ≤ 9223372036854775807 := by simpa using k3 0 _ rfl
   have w1 : IntKind.i64.wrap ((v1_0 : Int) + 1) = (v1_0 : Int) + 1 := wrap_of (by omega) (by omega)
   simp
   refine okD fun k4 => ?_
   refine drawI mixed (by kernel_rfl) (by kernel_rfl) ?_
   have i2 : v1_0 < a1.length := il
   simp [i1, rowAt_map, i2]
   repeat with_reducible refine sd ?_
   refine cR (l_eqArchive_ok (nth a0 v1_0) (nth a1 v1_0)) ?_
   simp
   refine cC (!(l_eqArchive (nth a0 v1_0) (nth a1 v1_0))) (fun k5 h3 => ?_) (fun k5 h3 => ?_)
   ·have q3 := h3; try simp at q3
    have x1 : l_eqArchiveS_1 a0 a1 (a0.length + 1) 0 = .inl false := by rw [← e1]; simp only [l_eqArchiveS_1, h2, h3, cond_t, cond_f]
    simp
    refine retRd (rv := [.tmp 4]) rfl ?_
    have f2 := l_eqArchiveS.eq_1 a0 a1; simp only [h1, x1, cond_t, cond_f] at f2; simp [f2]
   ·have q3 := h3; try simp at q3
    simp
    refine nxtI ⟨(p1, (v1_0 + 1)), ?_, ?_⟩ (by simp) (wk_keep (by simp [w1]))
    · rw [← e1]; simp only [l_eqArchiveS_1, h2, h3, cond_t, cond_f]
    · first | omega | (simp at *; omega)
  ·have q2 := h2; try simp at q2
   have x2 : l_eqArchiveS_1 a0 a1 (a0.length + 1) 0 = .inr () := by rw [← e1]; simp only [l_eqArchiveS_1, h2, cond_t, cond_f]
   simp
   refine retRd (rv := [.tmp 4]) rfl ?_
   have f3 := l_eqArchiveS.eq_1 a0 a1; simp only [h1, x2, cond_t, cond_f] at f3; simp [f3]
theorem l_eqWorld_ok (a0 : TWorld) (a1 : TWorld) : SoundAt Tryz.prog 11 false [a0.row, a1.row] [[.bool (l_eqWorld a0 a1)]] := by
 refine sound_of Tryz.func11 rfl (by kernel_rfl) ?_
 simp [Tryz.ntmps11]
 refine cR (l_eqFrame_ok a0.Frame a1.Frame) ?_
 simp
 refine cC (!(l_eqFrame a0.Frame a1.Frame)) (fun k1 h1 => ?_) (fun k1 h1 => ?_)
 ·have q1 := h1; try simp at q1
  simp
  refine retRd (rv := [.tmp 4]) rfl ?_
  have f1 := l_eqWorld.eq_1 a0 a1; simp only [h1, cond_t, cond_f] at f1; simp [f1]
 ·have q1 := h1; try simp at q1
  simp
  refine cR (l_eqCertS_ok a0.Certs a1.Certs) ?_
  simp
  refine cC (!(l_eqCertS a0.Certs a1.Certs)) (fun k2 h2 => ?_) (fun k2 h2 => ?_)
  ·have q2 := h2; try simp at q2
   simp
   refine retRd (rv := [.tmp 4]) rfl ?_
   have f2 := l_eqWorld.eq_1 a0 a1; simp only [h1, h2, cond_t, cond_f] at f2; simp [f2]
  ·have q2 := h2; try simp at q2
   simp
   refine cR (l_eqIntS_ok a0.Ended a1.Ended) ?_
   simp
   refine cC (!(l_eqIntS a0.Ended a1.Ended)) (fun k3 h3 => ?_) (fun k3 h3 => ?_)
   ·have q3 := h3; try simp at q3
    simp
    refine retRd (rv := [.tmp 4]) rfl ?_
    have f3 := l_eqWorld.eq_1 a0 a1; simp only [h1, h2, h3, cond_t, cond_f] at f3; simp [f3]
   ·have q3 := h3; try simp at q3
    simp
    refine cR (l_eqArchiveS_ok a0.Archives a1.Archives) ?_
    simp
    refine cC (!(l_eqArchiveS a0.Archives a1.Archives)) (fun k4 h4 => ?_) (fun k4 h4 => ?_)
    ·have q4 := h4; try simp at q4
     simp
     refine retRd (rv := [.tmp 4]) rfl ?_
     have f4 := l_eqWorld.eq_1 a0 a1; simp only [h1, h2, h3, h4, cond_t, cond_f] at f4; simp [f4]
    ·have q4 := h4; try simp at q4
     simp
     refine cR (l_eqIntS_ok a0.Seqs a1.Seqs) ?_
     simp
     refine cC (!(l_eqIntS a0.Seqs a1.Seqs)) (fun k5 h5 => ?_) (fun k5 h5 => ?_)
     ·have q5 := h5; try simp at q5
      simp
      refine retRd (rv := [.tmp 4]) rfl ?_
      have f5 := l_eqWorld.eq_1 a0 a1; simp only [h1, h2, h3, h4, h5, cond_t, cond_f] at f5; simp [f5]
     ·have q5 := h5; try simp at q5
      simp
      refine cR (l_eqIntS_ok a0.Lying a1.Lying) ?_
      simp
      refine cC (!(l_eqIntS a0.Lying a1.Lying)) (fun k6 h6 => ?_) (fun k6 h6 => ?_)
      ·have q6 := h6; try simp at q6
       simp
       refine retRd (rv := [.tmp 4]) rfl ?_
       have f6 := l_eqWorld.eq_1 a0 a1; simp only [h1, h2, h3, h4, h5, h6, cond_t, cond_f] at f6; simp [f6]
      ·have q6 := h6; try simp at q6
       simp
       refine cC (a0.Next != a1.Next) (fun k7 h7 => ?_) (fun k7 h7 => ?_)
       ·have q7 := h7; try simp at q7
        simp
        refine retRd (rv := [.tmp 4]) rfl ?_
        have f7 := l_eqWorld.eq_1 a0 a1; simp only [h1, h2, h3, h4, h5, h6, h7, cond_t, cond_f] at f7; simp [f7]
       ·have q7 := h7; try simp at q7
        simp
        refine cR (l_eqIntS_ok a0.Forged a1.Forged) ?_
        simp
        refine cC (!(l_eqIntS a0.Forged a1.Forged)) (fun k8 h8 => ?_) (fun k8 h8 => ?_)
        ·have q8 := h8; try simp at q8
         simp
         refine retRd (rv := [.tmp 4]) rfl ?_
         have f8 := l_eqWorld.eq_1 a0 a1; simp only [h1, h2, h3, h4, h5, h6, h7, h8, cond_t, cond_f] at f8; simp [f8]
        ·have q8 := h8; try simp at q8
         simp
         refine retRd (rv := [.tmp 4]) rfl ?_
         have f9 := l_eqWorld.eq_1 a0 a1; simp only [h1, h2, h3, h4, h5, h6, h7, h8, cond_t, cond_f] at f9; simp [f9]
theorem l_FnExactIsUnbrokenItem_ok (a0 : TWorld) (a1 : Int) (t0 : Sm maxLen a0) : SoundAt Tryz.prog 4 false [a0.row, [.int .i64 a1]] [[.bool (l_FnExactIsUnbrokenItem a0 a1)]] := by
 refine sound_of Tryz.func4 rfl (by kernel_rfl) ?_
 simp [Tryz.ntmps4]
 refine cR (l_szWorld_ok a0 1048576) ?_
 simp
 refine cC (decide ((l_szWorld a0 1048576) < 0)) (fun k1 h1 => ?_) (fun k1 h1 => ?_)
 ·have q1 := h1; try simp at q1
  simp
  refine retRd (rv := [.tmp 4]) rfl ?_
  have f1 := l_FnExactIsUnbrokenItem.eq_1 a0 a1; simp only [h1, cond_t, cond_f] at f1; simp [f1]
 ·have q1 := h1; try simp at q1
  obtain ⟨u0, y0⟩ := l_szWorld_sm a0 1048576 t0 (by omega) (by omega) (by simpa using h1)
  simp
  refine cR (SoundD.rd (l_toWorld_okI a0 (sm_mono (n := 1048576) (by decide) (by simp (maxDischargeDepth := 12) [u0, l_toArchive_id, l_toArchiveS_id, l_toAuthority_id, l_toAuthorityS_id, l_toCert_id, l_toCertS_id, l_toDocument_id, l_toFrame_id, l_toIntS_id, l_toItem_id, l_toItemS_id, l_toKey_id, l_toKeyS_id, l_toMethod_id, l_toMethodS_id, l_toPiece_id, l_toPieceS_id, l_toRenewal_id, l_toRenewalS_id, l_toSignature_id, l_toStamp_id, l_toStampS_id, l_toStep_id, l_toStepS_id, l_toStrand_id, l_toStringS_id, l_toWorld_id])))) ?_
  simp
  refine cR (s_IsUnbrokenItem_ok a0 a1 (sm_mono (n := 1048576) (by decide) (by simp (maxDischargeDepth := 12) [u0, l_toArchive_id, l_toArchiveS_id, l_toAuthority_id, l_toAuthorityS_id, l_toCert_id, l_toCertS_id, l_toDocument_id, l_toFrame_id, l_toIntS_id, l_toItem_id, l_toItemS_id, l_toKey_id, l_toKeyS_id, l_toMethod_id, l_toMethodS_id, l_toPiece_id, l_toPieceS_id, l_toRenewal_id, l_toRenewalS_id, l_toSignature_id, l_toStamp_id, l_toStampS_id, l_toStep_id, l_toStepS_id, l_toStrand_id, l_toStringS_id, l_toWorld_id]))) ?_
  simp
  refine cR (SoundD.rd (l_toWorld_okI a0 (sm_mono (n := 1048576) (by decide) (by simp (maxDischargeDepth := 12) [u0, l_toArchive_id, l_toArchiveS_id, l_toAuthority_id, l_toAuthorityS_id, l_toCert_id, l_toCertS_id, l_toDocument_id, l_toFrame_id, l_toIntS_id, l_toItem_id, l_toItemS_id, l_toKey_id, l_toKeyS_id, l_toMethod_id, l_toMethodS_id, l_toPiece_id, l_toPieceS_id, l_toRenewal_id, l_toRenewalS_id, l_toSignature_id, l_toStamp_id, l_toStampS_id, l_toStep_id, l_toStepS_id, l_toStrand_id, l_toStringS_id, l_toWorld_id])))) ?_
  simp
  refine cR (i_IsUnbrokenItem_ok a0 a1 (sm_mono (n := 1048576) (by decide) (by simp (maxDischargeDepth := 12) [u0, l_toArchive_id, l_toArchiveS_id, l_toAuthority_id, l_toAuthorityS_id, l_toCert_id, l_toCertS_id, l_toDocument_id, l_toFrame_id, l_toIntS_id, l_toItem_id, l_toItemS_id, l_toKey_id, l_toKeyS_id, l_toMethod_id, l_toMethodS_id, l_toPiece_id, l_toPieceS_id, l_toRenewal_id, l_toRenewalS_id, l_toSignature_id, l_toStamp_id, l_toStampS_id, l_toStep_id, l_toStepS_id, l_toStrand_id, l_toStringS_id, l_toWorld_id]))) ?_
  simp
  refine cC (!((i_IsUnbrokenItem a0 a1) == (s_IsUnbrokenItem a0 a1))) (fun k2 h2 => ?_) (fun k2 h2 => ?_)
  ·have q2 := h2; try simp at q2
   simp
   refine retRd (rv := [.tmp 4]) rfl ?_
   have f2 := l_FnExactIsUnbrokenItem.eq_1 a0 a1; simp only [h1, h2, cond_t, cond_f] at f2; simp [f2]
  ·have q2 := h2; try simp at q2
   simp
   refine okD fun k3 => ?_
   refine drawI mixed (by kernel_rfl) (by kernel_rfl) ?_
   simp
   refine cR (SoundD.rd (l_toWorld_okI a0 (sm_mono (n := 1048576) (by decide) (by simp (maxDischargeDepth := 12) [u0, l_toArchive_id, l_toArchiveS_id, l_toAuthority_id, l_toAuthorityS_id, l_toCert_id, l_toCertS_id, l_toDocument_id, l_toFrame_id, l_toIntS_id, l_toItem_id, l_toItemS_id, l_toKey_id, l_toKeyS_id, l_toMethod_id, l_toMethodS_id, l_toPiece_id, l_toPieceS_id, l_toRenewal_id, l_toRenewalS_id, l_toSignature_id, l_toStamp_id, l_toStampS_id, l_toStep_id, l_toStepS_id, l_toStrand_id, l_toStringS_id, l_toWorld_id])))) ?_
   simp
   refine cR (l_eqWorld_ok a0 a0) ?_
   simp
   refine cC (!(l_eqWorld a0 a0)) (fun k4 h3 => ?_) (fun k4 h3 => ?_)
   ·have q3 := h3; try simp at q3
    simp
    refine retRd (rv := [.tmp 4]) rfl ?_
    have f3 := l_FnExactIsUnbrokenItem.eq_1 a0 a1; simp only [h1, h2, h3, cond_t, cond_f] at f3; simp [f3]
   ·have q3 := h3; try simp at q3
    simp
    refine retRd (rv := [.tmp 4]) rfl ?_
    have f4 := l_FnExactIsUnbrokenItem.eq_1 a0 a1; simp only [h1, h2, h3, cond_t, cond_f] at f4; simp [f4]
end Go.Proofs.YtdbglcndfmdlfaaGreat
