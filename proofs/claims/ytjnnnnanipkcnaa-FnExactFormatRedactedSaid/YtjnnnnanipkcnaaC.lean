/- Contracts of the functions over the abstract machine, part 1. No condition. -/
import Derived.Test.YtjnnnnanipkcnaaL
import Derived.Test.YtjnnnnanipkcnaaTy
namespace Go.Proofs.Ytjnnnnanipkcnaa
open Go.Vm Go.Mo
set_option maxHeartbeats 1000000
set_option linter.unusedSimpArgs false
set_option linter.unusedVariables false
theorem mixed : Try.prog.follows .mixedOrders = true := by kernel_rfl
theorem l_szIntS_ok (a0 : List Int) (a1 : Int) : SoundAt Try.prog 9 false [[.sl 1 (a0.map iR)], [.int .i64 a1]] [[.int .i64 (l_szIntS a0 a1)]] := by
  refine sound_of Try.func9 rfl (by kernel_rfl) ?_
  simp [Try.ntmps9]
  refine condR (c := (decide ((W (a1 - (↑a0.length : Int))) < 0))) (by simp) (fun k1 h1 => ?_) (fun k1 h1 => ?_)
  · have q1 := h1; try simp at q1
    simp
    refine retRd (rv := [.tmp 4]) rfl ?_
    have f1 := l_szIntS.eq_1 a0 a1
    simp only [h1, cond_true, cond_false] at f1
    simp [f1]
  · have q1 := h1; try simp at q1
    simp
    refine retRd (rv := [.tmp 4]) rfl ?_
    have f2 := l_szIntS.eq_1 a0 a1
    simp only [h1, cond_true, cond_false] at f2
    simp [f2]
theorem l_szBoolS_ok (a0 : List Bool) (a1 : Int) : SoundAt Try.prog 10 false [[.sl 1 (a0.map lR)], [.int .i64 a1]] [[.int .i64 (l_szBoolS a0 a1)]] := by
  refine sound_of Try.func10 rfl (by kernel_rfl) ?_
  simp [Try.ntmps10]
  refine condR (c := (decide ((W (a1 - (↑a0.length : Int))) < 0))) (by simp) (fun k1 h1 => ?_) (fun k1 h1 => ?_)
  · have q1 := h1; try simp at q1
    simp
    refine retRd (rv := [.tmp 4]) rfl ?_
    have f1 := l_szBoolS.eq_1 a0 a1
    simp only [h1, cond_true, cond_false] at f1
    simp [f1]
  · have q1 := h1; try simp at q1
    simp
    refine retRd (rv := [.tmp 4]) rfl ?_
    have f2 := l_szBoolS.eq_1 a0 a1
    simp only [h1, cond_true, cond_false] at f2
    simp [f2]
theorem l_szStringS_ok (a0 : List ByteArray) (a1 : Int) : SoundAt Try.prog 11 false [[.sl 1 (a0.map sR)], [.int .i64 a1]] [[.int .i64 (l_szStringS a0 a1)]] := by
  refine sound_of Try.func11 rfl (by kernel_rfl) ?_
  simp [Try.ntmps11]
  refine condR (c := (decide ((W (a1 - (↑a0.length : Int))) < 0))) (by simp) (fun k1 h1 => ?_) (fun k1 h1 => ?_)
  · have q1 := h1; try simp at q1
    simp
    refine retRd (rv := [.tmp 4]) rfl ?_
    have f1 := l_szStringS.eq_1 a0 a1
    simp only [h1, cond_true, cond_false] at f1
    simp [f1]
  · have q1 := h1; try simp at q1
    simp
    refine okL fun k2 => ?_
    refine loopI (ι := { s : Nat × Int × Nat // l_szStringS_1 a0 s.1 s.2.1 s.2.2 = l_szStringS_1 a0 (a0.length + 1) (W (a1 - (↑a0.length : Int))) 0 ∧ (1 ≤ s.1 ∧ a0.length < s.1 + s.2.2) }) (fun s => stOf 28 [(0, .one (.d (.sl 1 (a0.map sR))), []), (1, .one (.d (.int .i64 s.1.2.1)), []), (5, .one (.d (.int .i64 (↑s.1.2.2 : Int))), [])]) (fun s => s.1.1) ⟨((a0.length + 1), (W (a1 - (↑a0.length : Int))), 0), rfl, by first | omega | (dsimp only; omega) | simp⟩ (wk_keep (by simp)) ?_
    rintro ⟨⟨n1, v1_0, v1_1⟩, e1, j1⟩
    try dsimp only at e1 j1
    obtain ⟨p1, rfl⟩ : ∃ p, n1 = p + 1 := ⟨n1 - 1, by omega⟩
    simp
    refine condR (c := (decide ((↑v1_1 : Int) < (↑a0.length : Int)))) (by simp) (fun k3 h2 => ?_) (fun k3 h2 => ?_)
    · have q2 := h2; try simp at q2
      have i1 : v1_1 < a0.length := by simpa using h2
      have m2 : a0.length ≤ 9223372036854775807 := by simpa using k3 0 _ rfl
      have w1 : IntKind.i64.wrap ((v1_1 : Int) + 1) = (v1_1 : Int) + 1 := wrap_of (by omega) (by omega)
      simp [i1, rowAt_map]
      repeat (refine ⟨by intros; omega, ?_⟩)
      refine condR (c := (decide ((W (v1_0 - (↑(nth a0 v1_1).size : Int))) < 0))) (by simp) (fun k4 h3 => ?_) (fun k4 h3 => ?_)
      · have q3 := h3; try simp at q3
        have x1 : l_szStringS_1 a0 (a0.length + 1) (W (a1 - (↑a0.length : Int))) 0 = .inl (-1) := by rw [← e1]; simp only [l_szStringS_1, h2, h3, cond_true, cond_false]
        simp
        refine retRd (rv := [.tmp 4]) rfl ?_
        have f2 := l_szStringS.eq_1 a0 a1
        simp only [h1, x1, cond_true, cond_false] at f2
        simp [f2]
      · have q3 := h3; try simp at q3
        simp
        refine nxtI ⟨(p1, (W (v1_0 - (↑(nth a0 v1_1).size : Int))), (v1_1 + 1)), ?_, ?_⟩ (by simp) (wk_keep (by simp [w1]))
        · rw [← e1]; simp only [l_szStringS_1, h2, h3, cond_true, cond_false]
        · first | omega | (simp at *; omega)
    · have q2 := h2; try simp at q2
      have x2 : l_szStringS_1 a0 (a0.length + 1) (W (a1 - (↑a0.length : Int))) 0 = .inr v1_0 := by rw [← e1]; simp only [l_szStringS_1, h2, cond_true, cond_false]
      simp
      refine retRd (rv := [.tmp 4]) rfl ?_
      have f3 := l_szStringS.eq_1 a0 a1
      simp only [h1, x2, cond_true, cond_false] at f3
      simp [f3]
theorem l_szIntSS_ok (a0 : List (List Int)) (a1 : Int) : SoundAt Try.prog 12 false [[.sl 1 (a0.map (slR 1 iR))], [.int .i64 a1]] [[.int .i64 (l_szIntSS a0 a1)]] := by
  refine sound_of Try.func12 rfl (by kernel_rfl) ?_
  simp [Try.ntmps12]
  refine condR (c := (decide ((W (a1 - (↑a0.length : Int))) < 0))) (by simp) (fun k1 h1 => ?_) (fun k1 h1 => ?_)
  · have q1 := h1; try simp at q1
    simp
    refine retRd (rv := [.tmp 4]) rfl ?_
    have f1 := l_szIntSS.eq_1 a0 a1
    simp only [h1, cond_true, cond_false] at f1
    simp [f1]
  · have q1 := h1; try simp at q1
    simp
    refine okL fun k2 => ?_
    refine loopI (ι := { s : Nat × Int × Nat // l_szIntSS_1 a0 s.1 s.2.1 s.2.2 = l_szIntSS_1 a0 (a0.length + 1) (W (a1 - (↑a0.length : Int))) 0 ∧ (1 ≤ s.1 ∧ a0.length < s.1 + s.2.2) }) (fun s => stOf 27 [(0, .one (.d (.sl 1 (a0.map (slR 1 iR)))), []), (1, .one (.d (.int .i64 s.1.2.1)), []), (5, .one (.d (.int .i64 (↑s.1.2.2 : Int))), [])]) (fun s => s.1.1) ⟨((a0.length + 1), (W (a1 - (↑a0.length : Int))), 0), rfl, by first | omega | (dsimp only; omega) | simp⟩ (wk_keep (by simp)) ?_
    rintro ⟨⟨n1, v1_0, v1_1⟩, e1, j1⟩
    try dsimp only at e1 j1
    obtain ⟨p1, rfl⟩ : ∃ p, n1 = p + 1 := ⟨n1 - 1, by omega⟩
    simp
    refine condR (c := (decide ((↑v1_1 : Int) < (↑a0.length : Int)))) (by simp) (fun k3 h2 => ?_) (fun k3 h2 => ?_)
    · have q2 := h2; try simp at q2
      have i1 : v1_1 < a0.length := by simpa using h2
      have m2 : a0.length ≤ 9223372036854775807 := by simpa using k3 0 _ rfl
      have w1 : IntKind.i64.wrap ((v1_1 : Int) + 1) = (v1_1 : Int) + 1 := wrap_of (by omega) (by omega)
      simp [i1, rowAt_map]
      repeat (refine ⟨by intros; omega, ?_⟩)
      refine callRd rfl rfl rfl rfl (l_szIntS_ok (nth a0 v1_1) v1_0) (by simp) (by simp) (by simp) ?_
      simp
      refine condR (c := (decide ((l_szIntS (nth a0 v1_1) v1_0) < 0))) (by simp) (fun k4 h3 => ?_) (fun k4 h3 => ?_)
      · have q3 := h3; try simp at q3
        have x1 : l_szIntSS_1 a0 (a0.length + 1) (W (a1 - (↑a0.length : Int))) 0 = .inl (-1) := by rw [← e1]; simp only [l_szIntSS_1, h2, h3, cond_true, cond_false]
        simp
        refine retRd (rv := [.tmp 4]) rfl ?_
        have f2 := l_szIntSS.eq_1 a0 a1
        simp only [h1, x1, cond_true, cond_false] at f2
        simp [f2]
      · have q3 := h3; try simp at q3
        simp
        refine nxtI ⟨(p1, (l_szIntS (nth a0 v1_1) v1_0), (v1_1 + 1)), ?_, ?_⟩ (by simp) (wk_keep (by simp [w1]))
        · rw [← e1]; simp only [l_szIntSS_1, h2, h3, cond_true, cond_false]
        · first | omega | (simp at *; omega)
    · have q2 := h2; try simp at q2
      have x2 : l_szIntSS_1 a0 (a0.length + 1) (W (a1 - (↑a0.length : Int))) 0 = .inr v1_0 := by rw [← e1]; simp only [l_szIntSS_1, h2, cond_true, cond_false]
      simp
      refine retRd (rv := [.tmp 4]) rfl ?_
      have f3 := l_szIntSS.eq_1 a0 a1
      simp only [h1, x2, cond_true, cond_false] at f3
      simp [f3]
theorem l_szRedacted_ok (a0 : TRedacted) (a1 : Int) : SoundAt Try.prog 4 false [a0.row, [.int .i64 a1]] [[.int .i64 (l_szRedacted a0 a1)]] := by
  refine sound_of Try.func4 rfl (by kernel_rfl) ?_
  simp [Try.ntmps4]
  refine callRd rfl rfl rfl rfl (l_szIntS_ok a0.Methods a1) (by simp) (by simp) (by simp) ?_
  simp
  refine condR (c := (decide ((l_szIntS a0.Methods a1) < 0))) (by simp) (fun k1 h1 => ?_) (fun k1 h1 => ?_)
  · have q1 := h1; try simp at q1
    simp
    refine retRd (rv := [.tmp 4]) rfl ?_
    have f1 := l_szRedacted.eq_1 a0 a1
    simp only [h1, cond_true, cond_false] at f1
    simp [f1]
  · have q1 := h1; try simp at q1
    simp
    refine callRd rfl rfl rfl rfl (l_szBoolS_ok a0.Shown (l_szIntS a0.Methods a1)) (by simp) (by simp) (by simp) ?_
    simp
    refine condR (c := (decide ((l_szBoolS a0.Shown (l_szIntS a0.Methods a1)) < 0))) (by simp) (fun k2 h2 => ?_) (fun k2 h2 => ?_)
    · have q2 := h2; try simp at q2
      simp
      refine retRd (rv := [.tmp 4]) rfl ?_
      have f2 := l_szRedacted.eq_1 a0 a1
      simp only [h1, h2, cond_true, cond_false] at f2
      simp [f2]
    · have q2 := h2; try simp at q2
      simp
      refine callRd rfl rfl rfl rfl (l_szStringS_ok a0.Parts (l_szBoolS a0.Shown (l_szIntS a0.Methods a1))) (by simp) (by simp) (by simp) ?_
      simp
      refine condR (c := (decide ((l_szStringS a0.Parts (l_szBoolS a0.Shown (l_szIntS a0.Methods a1))) < 0))) (by simp) (fun k3 h3 => ?_) (fun k3 h3 => ?_)
      · have q3 := h3; try simp at q3
        simp
        refine retRd (rv := [.tmp 4]) rfl ?_
        have f3 := l_szRedacted.eq_1 a0 a1
        simp only [h1, h2, h3, cond_true, cond_false] at f3
        simp [f3]
      · have q3 := h3; try simp at q3
        simp
        refine callRd rfl rfl rfl rfl (l_szIntS_ok a0.Salts (l_szStringS a0.Parts (l_szBoolS a0.Shown (l_szIntS a0.Methods a1)))) (by simp) (by simp) (by simp) ?_
        simp
        refine condR (c := (decide ((l_szIntS a0.Salts (l_szStringS a0.Parts (l_szBoolS a0.Shown (l_szIntS a0.Methods a1)))) < 0))) (by simp) (fun k4 h4 => ?_) (fun k4 h4 => ?_)
        · have q4 := h4; try simp at q4
          simp
          refine retRd (rv := [.tmp 4]) rfl ?_
          have f4 := l_szRedacted.eq_1 a0 a1
          simp only [h1, h2, h3, h4, cond_true, cond_false] at f4
          simp [f4]
        · have q4 := h4; try simp at q4
          simp
          refine callRd rfl rfl rfl rfl (l_szIntSS_ok a0.Digests (l_szIntS a0.Salts (l_szStringS a0.Parts (l_szBoolS a0.Shown (l_szIntS a0.Methods a1))))) (by simp) (by simp) (by simp) ?_
          simp
          refine condR (c := (decide ((l_szIntSS a0.Digests (l_szIntS a0.Salts (l_szStringS a0.Parts (l_szBoolS a0.Shown (l_szIntS a0.Methods a1))))) < 0))) (by simp) (fun k5 h5 => ?_) (fun k5 h5 => ?_)
          · have q5 := h5; try simp at q5
            simp
            refine retRd (rv := [.tmp 4]) rfl ?_
            have f5 := l_szRedacted.eq_1 a0 a1
            simp only [h1, h2, h3, h4, h5, cond_true, cond_false] at f5
            simp [f5]
          · have q5 := h5; try simp at q5
            simp
            refine retRd (rv := [.tmp 4]) rfl ?_
            have f6 := l_szRedacted.eq_1 a0 a1
            simp only [h1, h2, h3, h4, h5, cond_true, cond_false] at f6
            simp [f6]
theorem l_toIntS_ok (a0 : List Int) (u0 : Sm 68719476736 a0) : SoundAt Try.prog 14 true [[.sl 1 (a0.map iR)]] [[.sl 1 ((l_toIntS a0).map iR)]] := by
  refine sound_of Try.func14 rfl (by kernel_rfl) ?_
  have c1 : a0.length ≤ 68719476736 := sm_len (by simp [u0])
  simp [Try.ntmps14]
  repeat (refine ⟨by intros; omega, ?_⟩)
  refine okL fun k1 => ?_
  refine loopI (ι := { s : Nat × Nat × (List Int) // l_toIntS_1 a0 s.1 s.2.1 s.2.2 = l_toIntS_1 a0 (a0.length + 1) 0 (List.replicate a0.length 0) ∧ (1 ≤ s.1 ∧ a0.length < s.1 + s.2.1 ∧ s.2.2.length = a0.length) }) (fun s => stOf 22 [(0, .one (.d (.sl 1 (a0.map iR))), []), (3, .one (.sref 7 0 0 s.1.2.2.length), []), (4, .one (.d (.int .i64 (↑s.1.2.1 : Int))), []), (7, .any, [.arr 1 (s.1.2.2.map iR)])]) (fun s => s.1.1) ⟨((a0.length + 1), 0, (List.replicate a0.length 0)), rfl, by first | omega | (dsimp only; omega) | simp⟩ (wk_keep (by simp)) ?_
  rintro ⟨⟨n1, v1_0, v1_1⟩, e1, j1⟩
  try dsimp only at e1 j1
  obtain ⟨p1, rfl⟩ : ∃ p, n1 = p + 1 := ⟨n1 - 1, by omega⟩
  simp
  refine condR (c := (decide ((↑v1_0 : Int) < (↑a0.length : Int)))) (by simp) (fun k2 h1 => ?_) (fun k2 h1 => ?_)
  · have q1 := h1; try simp at q1
    have i1 : v1_0 < a0.length := by simpa using h1
    have m2 : a0.length ≤ 9223372036854775807 := by simpa using k2 0 _ rfl
    have w1 : IntKind.i64.wrap ((v1_0 : Int) + 1) = (v1_0 : Int) + 1 := wrap_of (by omega) (by omega)
    have i2 : v1_0 < v1_1.length := by omega
    simp [i1, rowAt_map, i2, set_map (x := (nth a0 v1_0)) rfl]
    repeat (refine ⟨by intros; omega, ?_⟩)
    refine nxtI ⟨(p1, (v1_0 + 1), (v1_1.set v1_0 (nth a0 v1_0))), ?_, ?_⟩ (by simp) (wk_keep (by simp [w1]))
    · rw [← e1]; simp only [l_toIntS_1, h1, cond_true, cond_false]
    · first | omega | (simp at *; omega)
  · have q1 := h1; try simp at q1
    have x1 : l_toIntS_1 a0 (a0.length + 1) 0 (List.replicate a0.length 0) = v1_1 := by rw [← e1]; simp only [l_toIntS_1, h1, cond_true, cond_false]
    simp
    refine retOwn (rv := [.tmp 2]) rfl ?_
    have f1 := l_toIntS.eq_1 a0
    simp only [x1, cond_true, cond_false] at f1
    simp [f1]
theorem l_toBoolS_ok (a0 : List Bool) (u0 : Sm 68719476736 a0) : SoundAt Try.prog 15 true [[.sl 1 (a0.map lR)]] [[.sl 1 ((l_toBoolS a0).map lR)]] := by
  refine sound_of Try.func15 rfl (by kernel_rfl) ?_
  have c1 : a0.length ≤ 68719476736 := sm_len (by simp [u0])
  simp [Try.ntmps15]
  repeat (refine ⟨by intros; omega, ?_⟩)
  refine okL fun k1 => ?_
  refine loopI (ι := { s : Nat × Nat × (List Bool) // l_toBoolS_1 a0 s.1 s.2.1 s.2.2 = l_toBoolS_1 a0 (a0.length + 1) 0 (List.replicate a0.length false) ∧ (1 ≤ s.1 ∧ a0.length < s.1 + s.2.1 ∧ s.2.2.length = a0.length) }) (fun s => stOf 22 [(0, .one (.d (.sl 1 (a0.map lR))), []), (3, .one (.sref 7 0 0 s.1.2.2.length), []), (4, .one (.d (.int .i64 (↑s.1.2.1 : Int))), []), (7, .any, [.arr 1 (s.1.2.2.map lR)])]) (fun s => s.1.1) ⟨((a0.length + 1), 0, (List.replicate a0.length false)), rfl, by first | omega | (dsimp only; omega) | simp⟩ (wk_keep (by simp)) ?_
  rintro ⟨⟨n1, v1_0, v1_1⟩, e1, j1⟩
  try dsimp only at e1 j1
  obtain ⟨p1, rfl⟩ : ∃ p, n1 = p + 1 := ⟨n1 - 1, by omega⟩
  simp
  refine condR (c := (decide ((↑v1_0 : Int) < (↑a0.length : Int)))) (by simp) (fun k2 h1 => ?_) (fun k2 h1 => ?_)
  · have q1 := h1; try simp at q1
    have i1 : v1_0 < a0.length := by simpa using h1
    have m2 : a0.length ≤ 9223372036854775807 := by simpa using k2 0 _ rfl
    have w1 : IntKind.i64.wrap ((v1_0 : Int) + 1) = (v1_0 : Int) + 1 := wrap_of (by omega) (by omega)
    have i2 : v1_0 < v1_1.length := by omega
    simp [i1, rowAt_map, i2, set_map (x := (nth a0 v1_0)) rfl]
    repeat (refine ⟨by intros; omega, ?_⟩)
    refine nxtI ⟨(p1, (v1_0 + 1), (v1_1.set v1_0 (nth a0 v1_0))), ?_, ?_⟩ (by simp) (wk_keep (by simp [w1]))
    · rw [← e1]; simp only [l_toBoolS_1, h1, cond_true, cond_false]
    · first | omega | (simp at *; omega)
  · have q1 := h1; try simp at q1
    have x1 : l_toBoolS_1 a0 (a0.length + 1) 0 (List.replicate a0.length false) = v1_1 := by rw [← e1]; simp only [l_toBoolS_1, h1, cond_true, cond_false]
    simp
    refine retOwn (rv := [.tmp 2]) rfl ?_
    have f1 := l_toBoolS.eq_1 a0
    simp only [x1, cond_true, cond_false] at f1
    simp [f1]
theorem l_toStringS_ok (a0 : List ByteArray) (u0 : Sm 68719476736 a0) : SoundAt Try.prog 16 true [[.sl 1 (a0.map sR)]] [[.sl 1 ((l_toStringS a0).map sR)]] := by
  refine sound_of Try.func16 rfl (by kernel_rfl) ?_
  have c1 : a0.length ≤ 68719476736 := sm_len (by simp [u0])
  simp [Try.ntmps16]
  repeat (refine ⟨by intros; omega, ?_⟩)
  refine okL fun k1 => ?_
  refine loopI (ι := { s : Nat × Nat × (List ByteArray) // l_toStringS_1 a0 s.1 s.2.1 s.2.2 = l_toStringS_1 a0 (a0.length + 1) 0 (List.replicate a0.length (⟨#[]⟩ : ByteArray)) ∧ (1 ≤ s.1 ∧ a0.length < s.1 + s.2.1 ∧ s.2.2.length = a0.length) }) (fun s => stOf 22 [(0, .one (.d (.sl 1 (a0.map sR))), []), (3, .one (.sref 7 0 0 s.1.2.2.length), []), (4, .one (.d (.int .i64 (↑s.1.2.1 : Int))), []), (7, .any, [.arr 1 (s.1.2.2.map sR)])]) (fun s => s.1.1) ⟨((a0.length + 1), 0, (List.replicate a0.length (⟨#[]⟩ : ByteArray))), rfl, by first | omega | (dsimp only; omega) | simp⟩ (wk_keep (by simp)) ?_
  rintro ⟨⟨n1, v1_0, v1_1⟩, e1, j1⟩
  try dsimp only at e1 j1
  obtain ⟨p1, rfl⟩ : ∃ p, n1 = p + 1 := ⟨n1 - 1, by omega⟩
  simp
  refine condR (c := (decide ((↑v1_0 : Int) < (↑a0.length : Int)))) (by simp) (fun k2 h1 => ?_) (fun k2 h1 => ?_)
  · have q1 := h1; try simp at q1
    have i1 : v1_0 < a0.length := by simpa using h1
    have m2 : a0.length ≤ 9223372036854775807 := by simpa using k2 0 _ rfl
    have w1 : IntKind.i64.wrap ((v1_0 : Int) + 1) = (v1_0 : Int) + 1 := wrap_of (by omega) (by omega)
    have i2 : v1_0 < v1_1.length := by omega
    simp [i1, rowAt_map, i2, set_map (x := (nth a0 v1_0)) rfl]
    repeat (refine ⟨by intros; omega, ?_⟩)
    refine nxtI ⟨(p1, (v1_0 + 1), (v1_1.set v1_0 (nth a0 v1_0))), ?_, ?_⟩ (by simp) (wk_keep (by simp [w1]))
    · rw [← e1]; simp only [l_toStringS_1, h1, cond_true, cond_false]
    · first | omega | (simp at *; omega)
  · have q1 := h1; try simp at q1
    have x1 : l_toStringS_1 a0 (a0.length + 1) 0 (List.replicate a0.length (⟨#[]⟩ : ByteArray)) = v1_1 := by rw [← e1]; simp only [l_toStringS_1, h1, cond_true, cond_false]
    simp
    refine retOwn (rv := [.tmp 2]) rfl ?_
    have f1 := l_toStringS.eq_1 a0
    simp only [x1, cond_true, cond_false] at f1
    simp [f1]
theorem l_toIntSS_ok (a0 : List (List Int)) (u0 : Sm 68719476736 a0) : SoundAt Try.prog 17 true [[.sl 1 (a0.map (slR 1 iR))]] [[.sl 1 ((l_toIntSS a0).map (slR 1 iR))]] := by
  refine sound_of Try.func17 rfl (by kernel_rfl) ?_
  have c1 : a0.length ≤ 68719476736 := sm_len (by simp [u0])
  simp [Try.ntmps17]
  repeat (refine ⟨by intros; omega, ?_⟩)
  refine okL fun k1 => ?_
  refine loopI (ι := { s : Nat × Nat × (List (List Int)) // l_toIntSS_1 a0 s.1 s.2.1 s.2.2 = l_toIntSS_1 a0 (a0.length + 1) 0 (List.replicate a0.length ([] : List Int)) ∧ (1 ≤ s.1 ∧ a0.length < s.1 + s.2.1 ∧ s.2.2.length = a0.length) }) (fun s => stOf 23 [(0, .one (.d (.sl 1 (a0.map (slR 1 iR)))), []), (3, .one (.sref 7 0 0 s.1.2.2.length), []), (4, .one (.d (.int .i64 (↑s.1.2.1 : Int))), []), (7, .any, [.arr 1 (s.1.2.2.map (slR 1 iR))])]) (fun s => s.1.1) ⟨((a0.length + 1), 0, (List.replicate a0.length ([] : List Int))), rfl, by first | omega | (dsimp only; omega) | simp⟩ (wk_keep (by simp)) ?_
  rintro ⟨⟨n1, v1_0, v1_1⟩, e1, j1⟩
  try dsimp only at e1 j1
  obtain ⟨p1, rfl⟩ : ∃ p, n1 = p + 1 := ⟨n1 - 1, by omega⟩
  simp
  refine condR (c := (decide ((↑v1_0 : Int) < (↑a0.length : Int)))) (by simp) (fun k2 h1 => ?_) (fun k2 h1 => ?_)
  · have q1 := h1; try simp at q1
    have i1 : v1_0 < a0.length := by simpa using h1
    have m2 : a0.length ≤ 9223372036854775807 := by simpa using k2 0 _ rfl
    have w1 : IntKind.i64.wrap ((v1_0 : Int) + 1) = (v1_0 : Int) + 1 := wrap_of (by omega) (by omega)
    simp [i1, rowAt_map]
    repeat (refine ⟨by intros; omega, ?_⟩)
    refine callRd rfl rfl rfl rfl (l_toIntS_ok (nth a0 v1_0) (by simp [u0])) (by simp) (by simp) (by simp) ?_
    have i2 : v1_0 < v1_1.length := by omega
    simp [i2, rowAt_map, set_map (x := (l_toIntS (nth a0 v1_0))) rfl]
    repeat (refine ⟨by intros; omega, ?_⟩)
    refine nxtI ⟨(p1, (v1_0 + 1), (v1_1.set v1_0 (l_toIntS (nth a0 v1_0)))), ?_, ?_⟩ (by simp) (wk_keep (by simp [w1]))
    · rw [← e1]; simp only [l_toIntSS_1, h1, cond_true, cond_false]
    · first | omega | (simp at *; omega)
  · have q1 := h1; try simp at q1
    have x1 : l_toIntSS_1 a0 (a0.length + 1) 0 (List.replicate a0.length ([] : List Int)) = v1_1 := by rw [← e1]; simp only [l_toIntSS_1, h1, cond_true, cond_false]
    simp
    refine retOwn (rv := [.tmp 2]) rfl ?_
    have f1 := l_toIntSS.eq_1 a0
    simp only [x1, cond_true, cond_false] at f1
    simp [f1]
theorem l_toRedacted_ok (a0 : TRedacted) (u0 : Sm 68719476736 a0) : SoundAt Try.prog 6 true [a0.row] [(l_toRedacted a0).row] := by
  refine sound_of Try.func6 rfl (by kernel_rfl) ?_
  simp [Try.ntmps6]
  refine callOwn rfl rfl rfl rfl (l_toIntS_ok a0.Methods (by simp [u0])) (by simp) (by simp) (by simp) (by simp) ?_
  simp
  refine callOwn rfl rfl rfl rfl (l_toBoolS_ok a0.Shown (by simp [u0])) (by simp) (by simp) (by simp) (by simp) ?_
  simp
  refine callOwn rfl rfl rfl rfl (l_toStringS_ok a0.Parts (by simp [u0])) (by simp) (by simp) (by simp) (by simp) ?_
  simp
  refine callOwn rfl rfl rfl rfl (l_toIntS_ok a0.Salts (by simp [u0])) (by simp) (by simp) (by simp) (by simp) ?_
  simp
  refine callOwn rfl rfl rfl rfl (l_toIntSS_ok a0.Digests (by simp [u0])) (by simp) (by simp) (by simp) (by simp) ?_
  simp
  refine retOwn (rv := [.cell 2 30]) rfl ?_
  have f1 := l_toRedacted.eq_1 a0
  simp [f1]
theorem s_FormatInt_ok (a0 : Int) : SoundAt Try.prog 13 false [[.int .i64 a0]] [[.str (s_FormatInt a0)]] := by
  refine sound_of Try.func13 rfl (by kernel_rfl) ?_
  simp [Try.ntmps13]
  refine condR (c := (a0 == 0)) (by simp) (fun k1 h1 => ?_) (fun k1 h1 => ?_)
  · have q1 := h1; try simp at q1
    simp
    refine retRd (rv := [.tmp 2]) rfl ?_
    have f1 := s_FormatInt.eq_1 a0
    simp only [h1, cond_true, cond_false] at f1
    simp [f1]
  · have q1 := h1; try simp at q1
    simp
    refine okL fun k2 => ?_
    refine loopI (ι := { s : Nat × ByteArray × Int // s_FormatInt_1 s.1 s.2.1 s.2.2 = s_FormatInt_1 22 (⟨#[]⟩ : ByteArray) a0 ∧ (1 ≤ s.1 ∧ (s.1 = 22 ∨ s.2.2.natAbs < 10 ^ (s.1 - 1)) ∧ s.2.1.size + s.1 = 22) }) (fun s => stOf 31 [(0, .one (.d (.int .i64 a0)), []), (3, .one (.d (.str s.1.2.1)), []), (4, .one (.d (.int .i64 s.1.2.2)), [])]) (fun s => s.1.1) ⟨(22, (⟨#[]⟩ : ByteArray), a0), rfl, by exact ⟨by omega, .inl rfl, rfl⟩⟩ (wk_keep (by simp)) ?_
    rintro ⟨⟨n1, v1_0, v1_1⟩, e1, j1⟩
    try dsimp only at e1 j1
    obtain ⟨p1, rfl⟩ : ∃ p, n1 = p + 1 := ⟨n1 - 1, by omega⟩
    simp
    refine condR (c := (v1_1 != 0)) (by simp) (fun k3 h2 => ?_) (fun k3 h2 => ?_)
    · have q2 := h2; try simp at q2
      simp
      refine condR (c := (decide ((Int.tmod v1_1 10) < 0))) (by simp) (fun k4 h3 => ?_) (fun k4 h3 => ?_)
      · have q3 := h3; try simp at q3
        simp
        refine toStr (l := ([(UInt8.ofInt (W (48 + (W (-(Int.tmod v1_1 10))))))] : List UInt8)) rfl rfl rfl (by simp) (by simp) (by simp) (by simp [SrcRows, bRows]) ?_
        simp
        repeat (refine ⟨by intros; omega, ?_⟩)
        refine nxtI ⟨(p1, ((⟨([(UInt8.ofInt (W (48 + (W (-(Int.tmod v1_1 10))))))] : List UInt8).toArray⟩ : ByteArray) ++ v1_0), (W (Int.tdiv v1_1 10))), ?_, ?_⟩ (by simp) (wk_keep (by simp []))
        · rw [← e1]; simp only [s_FormatInt_1, h2, h3, cond_true, cond_false]
        · dsimp only; obtain ⟨s1, s2⟩ := fmt_s j1.2.1 h2; refine ⟨s1, s2, ?_⟩; have := j1.2.2; simp; omega
      · have q3 := h3; try simp at q3
        simp
        refine toStr (l := ([(UInt8.ofInt (W (48 + (Int.tmod v1_1 10))))] : List UInt8)) rfl rfl rfl (by simp) (by simp) (by simp) (by simp [SrcRows, bRows]) ?_
        simp
        repeat (refine ⟨by intros; omega, ?_⟩)
        refine nxtI ⟨(p1, ((⟨([(UInt8.ofInt (W (48 + (Int.tmod v1_1 10))))] : List UInt8).toArray⟩ : ByteArray) ++ v1_0), (W (Int.tdiv v1_1 10))), ?_, ?_⟩ (by simp) (wk_keep (by simp []))
        · rw [← e1]; simp only [s_FormatInt_1, h2, h3, cond_true, cond_false]
        · dsimp only; obtain ⟨s1, s2⟩ := fmt_s j1.2.1 h2; refine ⟨s1, s2, ?_⟩; have := j1.2.2; simp; omega
    · have q2 := h2; try simp at q2
      have x1 : s_FormatInt_1 22 (⟨#[]⟩ : ByteArray) a0 = v1_0 := by rw [← e1]; simp only [s_FormatInt_1, h2, cond_true, cond_false]
      simp
      refine condR (c := (decide (a0 < 0))) (by simp) (fun k5 h4 => ?_) (fun k5 h4 => ?_)
      · have q4 := h4; try simp at q4
        simp
        repeat (refine ⟨by intros; omega, ?_⟩)
        refine retRd (rv := [.tmp 2]) rfl ?_
        have f2 := s_FormatInt.eq_1 a0
        simp only [h1, x1, h4, cond_true, cond_false] at f2
        simp [f2]
      · have q4 := h4; try simp at q4
        simp
        refine retRd (rv := [.tmp 2]) rfl ?_
        have f3 := s_FormatInt.eq_1 a0
        simp only [h1, x1, h4, cond_true, cond_false] at f3
        simp [f3]
theorem s_FormatRedacted_ok (a0 : TRedacted) (u0 : Sm 1048576 a0) : SoundAt Try.prog 5 false [a0.row] [[.str (s_FormatRedacted a0)]] := by
  refine sound_of Try.func5 rfl (by kernel_rfl) ?_
  simp [Try.ntmps5]
  refine callRd rfl rfl rfl rfl (s_FormatInt_ok a0.Title) (by simp) (by simp) (by simp) ?_
  simp
  refine okL fun k1 => ?_
  refine loopI (ι := { s : Nat × ByteArray × Nat // s_FormatRedacted_1 a0 s.1 s.2.1 s.2.2 = s_FormatRedacted_1 a0 (a0.Shown.length + 1) (s_FormatInt a0.Title) 0 ∧ (1 ≤ s.1 ∧ a0.Shown.length < s.1 + s.2.2 ∧ s.2.1.size ≤ 24 + 1048580 * s.2.2) }) (fun s => stOf 42 [(1, .one (.bptr 1 0), [.box [.d (.int .i64 a0.Title), .d (.sl 1 (a0.Methods.map iR)), .d (.sl 1 (a0.Shown.map lR)), .d (.sl 1 (a0.Parts.map sR)), .d (.sl 1 (a0.Salts.map iR)), .d (.sl 1 (a0.Digests.map (slR 1 iR)))]]), (3, .one (.d (.str s.1.2.1)), []), (4, .one (.d (.int .i64 (↑s.1.2.2 : Int))), [])]) (fun s => s.1.1) ⟨((a0.Shown.length + 1), (s_FormatInt a0.Title), 0), rfl, by exact ⟨by omega, by simp, s_FormatInt_size a0.Title⟩⟩ (wk_keep (by simp)) ?_
  rintro ⟨⟨n1, v1_0, v1_1⟩, e1, j1⟩
  try dsimp only at e1 j1
  obtain ⟨p1, rfl⟩ : ∃ p, n1 = p + 1 := ⟨n1 - 1, by omega⟩
  simp
  refine condR (c := (decide ((↑v1_1 : Int) < (↑a0.Shown.length : Int)))) (by simp) (fun k2 h1 => ?_) (fun k2 h1 => ?_)
  · have q1 := h1; try simp at q1
    have i1 : v1_1 < a0.Shown.length := by simpa using h1
    have m2 : a0.Shown.length ≤ 9223372036854775807 := by simpa using k2 10 _ rfl
    have c1 : a0.Shown.length ≤ 1048576 := sm_len (by simp [u0])
    have w1 : IntKind.i64.wrap ((v1_1 : Int) + 1) = (v1_1 : Int) + 1 := wrap_of (by omega) (by omega)
    simp [i1, rowAt_map]
    repeat (refine ⟨by intros; (have o : (nth a0.Parts v1_1).size ≤ 1048576 := sm_nth (i := v1_1) u0.2.2.1; omega), ?_⟩)
    refine condR (c := (!(nth a0.Shown v1_1))) (by simp) (fun k3 h2 => ?_) (fun k3 h2 => ?_)
    · have q2 := h2; try simp at q2
      simp
      repeat (refine ⟨by intros; (have o : (nth a0.Parts v1_1).size ≤ 1048576 := sm_nth (i := v1_1) u0.2.2.1; omega), ?_⟩)
      refine nxtI ⟨(p1, (v1_0 ++ (⟨#[32, 42]⟩ : ByteArray)), (v1_1 + 1)), ?_, ?_⟩ (by simp) (wk_keep (by simp [w1]))
      · rw [← e1]; simp only [s_FormatRedacted_1, h1, h2, cond_true, cond_false]
      · (have o : (nth a0.Parts v1_1).size ≤ 1048576 := sm_nth (i := v1_1) u0.2.2.1; dsimp only; refine ⟨by omega, by omega, ?_⟩; simp; omega)
    · have q2 := h2; try simp at q2
      simp
      refine condR (c := (decide ((↑v1_1 : Int) < (↑a0.Parts.length : Int)))) (by simp) (fun k4 h3 => ?_) (fun k4 h3 => ?_)
      · have q3 := h3; try simp at q3
        have i2 : v1_1 < a0.Parts.length := by simpa using h3
        have m4 : a0.Parts.length ≤ 9223372036854775807 := by simpa using k4 29 _ rfl
        have c2 : a0.Parts.length ≤ 1048576 := sm_len (by simp [u0])
        have w2 : IntKind.i64.wrap ((v1_1 : Int) + 1) = (v1_1 : Int) + 1 := wrap_of (by omega) (by omega)
        simp [i2, rowAt_map]
        repeat (refine ⟨by intros; (have o : (nth a0.Parts v1_1).size ≤ 1048576 := sm_nth (i := v1_1) u0.2.2.1; omega), ?_⟩)
        refine nxtI ⟨(p1, (((v1_0 ++ (⟨#[32, 91]⟩ : ByteArray)) ++ (nth a0.Parts v1_1)) ++ (⟨#[93]⟩ : ByteArray)), (v1_1 + 1)), ?_, ?_⟩ (by simp) (wk_keep (by simp [w2]))
        · rw [← e1]; simp only [s_FormatRedacted_1, h1, h2, h3, cond_true, cond_false]
        · (have o : (nth a0.Parts v1_1).size ≤ 1048576 := sm_nth (i := v1_1) u0.2.2.1; dsimp only; refine ⟨by omega, by omega, ?_⟩; simp; omega)
      · have q3 := h3; try simp at q3
        simp
        repeat (refine ⟨by intros; (have o : (nth a0.Parts v1_1).size ≤ 1048576 := sm_nth (i := v1_1) u0.2.2.1; omega), ?_⟩)
        refine nxtI ⟨(p1, (v1_0 ++ (⟨#[32, 91, 93]⟩ : ByteArray)), (v1_1 + 1)), ?_, ?_⟩ (by simp) (wk_keep (by simp [w1]))
        · rw [← e1]; simp only [s_FormatRedacted_1, h1, h2, h3, cond_true, cond_false]
        · (have o : (nth a0.Parts v1_1).size ≤ 1048576 := sm_nth (i := v1_1) u0.2.2.1; dsimp only; refine ⟨by omega, by omega, ?_⟩; simp; omega)
  · have q1 := h1; try simp at q1
    have x1 : s_FormatRedacted_1 a0 (a0.Shown.length + 1) (s_FormatInt a0.Title) 0 = v1_0 := by rw [← e1]; simp only [s_FormatRedacted_1, h1, cond_true, cond_false]
    simp
    refine retRd (rv := [.tmp 2]) rfl ?_
    have f1 := s_FormatRedacted.eq_1 a0
    simp only [x1, cond_true, cond_false] at f1
    simp [f1]
theorem i_FormatInt_ok (a0 : Int) : SoundAt Try.prog 18 false [[.int .i64 a0]] [[.str (i_FormatInt a0)]] := by
  refine sound_of Try.func18 rfl (by kernel_rfl) ?_
  simp [Try.ntmps18]
  refine okL fun k1 => ?_
  refine loopI (ι := { s : Nat × Int × (List UInt8) // i_FormatInt_1 s.1 s.2.1 s.2.2 = i_FormatInt_1 21 a0 ([] : List UInt8) ∧ (1 ≤ s.1 ∧ (s.1 = 21 ∨ s.2.1.natAbs < 10 ^ s.1) ∧ s.2.2.length + s.1 = 21) }) (fun s => stOf 30 [(0, .one (.d (.int .i64 s.1.2.1)), []), (3, .one (.sref 3 0 0 s.1.2.2.length), [.arr 1 (s.1.2.2.map bR)]), (4, .one (.d (.bool (decide (a0 < 0)))), [])]) (fun s => s.1.1) ⟨(21, a0, ([] : List UInt8)), rfl, by exact ⟨by omega, .inl rfl, rfl⟩⟩ (wk_of [((3, 0), none)] [] rfl (by simp)) ?_
  rintro ⟨⟨n1, v1_0, v1_1⟩, e1, j1⟩
  try dsimp only at e1 j1
  obtain ⟨p1, rfl⟩ : ∃ p, n1 = p + 1 := ⟨n1 - 1, by omega⟩
  simp
  refine condR (c := (decide ((Int.tmod v1_0 10) < 0))) (by simp) (fun k2 h1 => ?_) (fun k2 h1 => ?_)
  · have q1 := h1; try simp at q1
    simp
    repeat (refine ⟨by intros; omega, ?_⟩)
    refine condR (c := ((W (Int.tdiv v1_0 10)) == 0)) (by simp) (fun k3 h2 => ?_) (fun k3 h2 => ?_)
    · have q2 := h2; try simp at q2
      have x1 : i_FormatInt_1 21 a0 ([] : List UInt8) = (([(UInt8.ofInt (W (48 + (W (-(Int.tmod v1_0 10))))))] : List UInt8) ++ v1_1) := by rw [← e1]; simp only [i_FormatInt_1, h1, h2, cond_true, cond_false]
      simp
      refine condR (c := (decide (a0 < 0))) (by simp) (fun k4 h3 => ?_) (fun k4 h3 => ?_)
      · have q3 := h3; try simp at q3
        simp
        refine toStr (l := (([(UInt8.ofInt (W (48 + (W (-(Int.tmod v1_0 10))))))] : List UInt8) ++ v1_1)) rfl rfl rfl (by simp) (by simp) (by simp) (by simp [SrcRows, bRows]) ?_
        simp
        repeat (refine ⟨by intros; omega, ?_⟩)
        refine retRd (rv := [.tmp 2]) rfl ?_
        have f1 := i_FormatInt.eq_1 a0
        simp only [x1, h3, cond_true, cond_false] at f1
        simp [f1]
      · have q3 := h3; try simp at q3
        simp
        refine toStr (l := (([(UInt8.ofInt (W (48 + (W (-(Int.tmod v1_0 10))))))] : List UInt8) ++ v1_1)) rfl rfl rfl (by simp) (by simp) (by simp) (by simp [SrcRows, bRows]) ?_
        simp
        refine retRd (rv := [.tmp 2]) rfl ?_
        have f2 := i_FormatInt.eq_1 a0
        simp only [x1, h3, cond_true, cond_false] at f2
        simp [f2]
    · have q2 := h2; try simp at q2
      simp
      refine nxtI ⟨(p1, (W (Int.tdiv v1_0 10)), (([(UInt8.ofInt (W (48 + (W (-(Int.tmod v1_0 10))))))] : List UInt8) ++ v1_1)), ?_, ?_⟩ (by simp) (wk_of [((3, 0), some (19, 0))] [] rfl (by simp []))
      · rw [← e1]; simp only [i_FormatInt_1, h1, h2, cond_true, cond_false]
      · dsimp only; obtain ⟨s1, s2⟩ := fmt_i j1.2.1 h2; refine ⟨s1, s2, ?_⟩; have := j1.2.2; simp; omega
  · have q1 := h1; try simp at q1
    simp
    repeat (refine ⟨by intros; omega, ?_⟩)
    refine condR (c := ((W (Int.tdiv v1_0 10)) == 0)) (by simp) (fun k5 h4 => ?_) (fun k5 h4 => ?_)
    · have q4 := h4; try simp at q4
      have x2 : i_FormatInt_1 21 a0 ([] : List UInt8) = (([(UInt8.ofInt (W (48 + (Int.tmod v1_0 10))))] : List UInt8) ++ v1_1) := by rw [← e1]; simp only [i_FormatInt_1, h1, h4, cond_true, cond_false]
      simp
      refine condR (c := (decide (a0 < 0))) (by simp) (fun k6 h5 => ?_) (fun k6 h5 => ?_)
      · have q5 := h5; try simp at q5
        simp
        refine toStr (l := (([(UInt8.ofInt (W (48 + (Int.tmod v1_0 10))))] : List UInt8) ++ v1_1)) rfl rfl rfl (by simp) (by simp) (by simp) (by simp [SrcRows, bRows]) ?_
        simp
        repeat (refine ⟨by intros; omega, ?_⟩)
        refine retRd (rv := [.tmp 2]) rfl ?_
        have f3 := i_FormatInt.eq_1 a0
        simp only [x2, h5, cond_true, cond_false] at f3
        simp [f3]
      · have q5 := h5; try simp at q5
        simp
        refine toStr (l := (([(UInt8.ofInt (W (48 + (Int.tmod v1_0 10))))] : List UInt8) ++ v1_1)) rfl rfl rfl (by simp) (by simp) (by simp) (by simp [SrcRows, bRows]) ?_
        simp
        refine retRd (rv := [.tmp 2]) rfl ?_
        have f4 := i_FormatInt.eq_1 a0
        simp only [x2, h5, cond_true, cond_false] at f4
        simp [f4]
    · have q4 := h4; try simp at q4
      simp
      refine nxtI ⟨(p1, (W (Int.tdiv v1_0 10)), (([(UInt8.ofInt (W (48 + (Int.tmod v1_0 10))))] : List UInt8) ++ v1_1)), ?_, ?_⟩ (by simp) (wk_of [((3, 0), some (19, 0))] [] rfl (by simp []))
      · rw [← e1]; simp only [i_FormatInt_1, h1, h4, cond_true, cond_false]
      · dsimp only; obtain ⟨s1, s2⟩ := fmt_i j1.2.1 h4; refine ⟨s1, s2, ?_⟩; have := j1.2.2; simp; omega
theorem i_FormatRedacted_ok (a0 : TRedacted) (u0 : Sm 1048576 a0) : SoundAt Try.prog 7 false [a0.row] [[.str (i_FormatRedacted a0)]] := by
  refine sound_of Try.func7 rfl (by kernel_rfl) ?_
  simp [Try.ntmps7]
  refine callRd rfl rfl rfl rfl (i_FormatInt_ok a0.Title) (by simp) (by simp) (by simp) ?_
  simp
  refine okL fun k1 => ?_
  refine loopI (ι := { s : Nat × ByteArray × Nat // i_FormatRedacted_1 a0 s.1 s.2.1 s.2.2 = i_FormatRedacted_1 a0 (a0.Shown.length + 1) (i_FormatInt a0.Title) 0 ∧ (1 ≤ s.1 ∧ a0.Shown.length < s.1 + s.2.2 ∧ s.2.1.size ≤ 24 + 1048580 * s.2.2) }) (fun s => stOf 41 [(1, .one (.bptr 1 0), [.box [.d (.int .i64 a0.Title), .d (.sl 1 (a0.Methods.map iR)), .d (.sl 1 (a0.Shown.map lR)), .d (.sl 1 (a0.Parts.map sR)), .d (.sl 1 (a0.Salts.map iR)), .d (.sl 1 (a0.Digests.map (slR 1 iR)))]]), (3, .one (.d (.str s.1.2.1)), []), (10, .one (.d (.sl 1 (a0.Shown.map lR))), []), (11, .one (.d (.int .i64 (↑a0.Shown.length : Int))), []), (12, .one (.d (.int .i64 (↑s.1.2.2 : Int))), [])]) (fun s => s.1.1) ⟨((a0.Shown.length + 1), (i_FormatInt a0.Title), 0), rfl, by exact ⟨by omega, by simp, i_FormatInt_size a0.Title⟩⟩ (wk_keep (by simp)) ?_
  rintro ⟨⟨n1, v1_0, v1_1⟩, e1, j1⟩
  try dsimp only at e1 j1
  obtain ⟨p1, rfl⟩ : ∃ p, n1 = p + 1 := ⟨n1 - 1, by omega⟩
  simp
  refine condR (c := (decide ((↑v1_1 : Int) < (↑a0.Shown.length : Int)))) (by simp) (fun k2 h1 => ?_) (fun k2 h1 => ?_)
  · have q1 := h1; try simp at q1
    have i1 : v1_1 < a0.Shown.length := by simpa using h1
    have m2 : a0.Shown.length ≤ 9223372036854775807 := by simpa using k2 10 _ rfl
    have c1 : a0.Shown.length ≤ 1048576 := sm_len (by simp [u0])
    have w1 : IntKind.i64.wrap ((v1_1 : Int) + 1) = (v1_1 : Int) + 1 := wrap_of (by omega) (by omega)
    simp [i1, rowAt_map]
    repeat (refine ⟨by intros; (have o : (nth a0.Parts v1_1).size ≤ 1048576 := sm_nth (i := v1_1) u0.2.2.1; omega), ?_⟩)
    refine condR (c := (!(nth a0.Shown v1_1))) (by simp) (fun k3 h2 => ?_) (fun k3 h2 => ?_)
    · have q2 := h2; try simp at q2
      simp
      repeat (refine ⟨by intros; (have o : (nth a0.Parts v1_1).size ≤ 1048576 := sm_nth (i := v1_1) u0.2.2.1; omega), ?_⟩)
      refine nxtI ⟨(p1, (v1_0 ++ (⟨#[32, 42]⟩ : ByteArray)), (v1_1 + 1)), ?_, ?_⟩ (by simp) (wk_keep (by simp [w1]))
      · rw [← e1]; simp only [i_FormatRedacted_1, h1, h2, cond_true, cond_false]
      · (have o : (nth a0.Parts v1_1).size ≤ 1048576 := sm_nth (i := v1_1) u0.2.2.1; dsimp only; refine ⟨by omega, by omega, ?_⟩; simp; omega)
    · have q2 := h2; try simp at q2
      simp
      refine condR (c := (decide ((↑v1_1 : Int) < (↑a0.Parts.length : Int)))) (by simp) (fun k4 h3 => ?_) (fun k4 h3 => ?_)
      · have q3 := h3; try simp at q3
        have i2 : v1_1 < a0.Parts.length := by simpa using h3
        have m4 : a0.Parts.length ≤ 9223372036854775807 := by simpa using k4 27 _ rfl
        have c2 : a0.Parts.length ≤ 1048576 := sm_len (by simp [u0])
        have w2 : IntKind.i64.wrap ((v1_1 : Int) + 1) = (v1_1 : Int) + 1 := wrap_of (by omega) (by omega)
        simp [i2, rowAt_map]
        repeat (refine ⟨by intros; (have o : (nth a0.Parts v1_1).size ≤ 1048576 := sm_nth (i := v1_1) u0.2.2.1; omega), ?_⟩)
        refine nxtI ⟨(p1, (v1_0 ++ (((⟨#[32, 91]⟩ : ByteArray) ++ (nth a0.Parts v1_1)) ++ (⟨#[93]⟩ : ByteArray))), (v1_1 + 1)), ?_, ?_⟩ (by simp) (wk_keep (by simp [w2]))
        · rw [← e1]; simp only [i_FormatRedacted_1, h1, h2, h3, cond_true, cond_false]
        · (have o : (nth a0.Parts v1_1).size ≤ 1048576 := sm_nth (i := v1_1) u0.2.2.1; dsimp only; refine ⟨by omega, by omega, ?_⟩; simp; omega)
      · have q3 := h3; try simp at q3
        simp
        repeat (refine ⟨by intros; (have o : (nth a0.Parts v1_1).size ≤ 1048576 := sm_nth (i := v1_1) u0.2.2.1; omega), ?_⟩)
        refine nxtI ⟨(p1, (v1_0 ++ (⟨#[32, 91, 93]⟩ : ByteArray)), (v1_1 + 1)), ?_, ?_⟩ (by simp) (wk_keep (by simp [w1]))
        · rw [← e1]; simp only [i_FormatRedacted_1, h1, h2, h3, cond_true, cond_false]
        · (have o : (nth a0.Parts v1_1).size ≤ 1048576 := sm_nth (i := v1_1) u0.2.2.1; dsimp only; refine ⟨by omega, by omega, ?_⟩; simp; omega)
  · have q1 := h1; try simp at q1
    have x1 : i_FormatRedacted_1 a0 (a0.Shown.length + 1) (i_FormatInt a0.Title) 0 = v1_0 := by rw [← e1]; simp only [i_FormatRedacted_1, h1, cond_true, cond_false]
    simp
    refine retRd (rv := [.tmp 2]) rfl ?_
    have f1 := i_FormatRedacted.eq_1 a0
    simp only [x1, cond_true, cond_false] at f1
    simp [f1]
theorem l_eqIntS_ok (a0 : List Int) (a1 : List Int) : SoundAt Try.prog 19 false [[.sl 1 (a0.map iR)], [.sl 1 (a1.map iR)]] [[.bool (l_eqIntS a0 a1)]] := by
  refine sound_of Try.func19 rfl (by kernel_rfl) ?_
  simp [Try.ntmps19]
  refine condR (c := ((↑a0.length : Int) != (↑a1.length : Int))) (by simp) (fun k1 h1 => ?_) (fun k1 h1 => ?_)
  · have q1 := h1; try simp at q1
    simp
    refine retRd (rv := [.tmp 4]) rfl ?_
    have f1 := l_eqIntS.eq_1 a0 a1
    simp only [h1, cond_true, cond_false] at f1
    simp [f1]
  · have q1 := h1; try simp at q1
    simp
    refine okL fun k2 => ?_
    refine loopI (ι := { s : Nat × Nat // l_eqIntS_1 a0 a1 s.1 s.2 = l_eqIntS_1 a0 a1 (a0.length + 1) 0 ∧ (1 ≤ s.1 ∧ a0.length < s.1 + s.2) }) (fun s => stOf 26 [(0, .one (.d (.sl 1 (a0.map iR))), []), (1, .one (.d (.sl 1 (a1.map iR))), []), (5, .one (.d (.int .i64 (↑s.1.2 : Int))), [])]) (fun s => s.1.1) ⟨((a0.length + 1), 0), rfl, by first | omega | (dsimp only; omega) | simp⟩ (wk_keep (by simp)) ?_
    rintro ⟨⟨n1, v1_0⟩, e1, j1⟩
    try dsimp only at e1 j1
    obtain ⟨p1, rfl⟩ : ∃ p, n1 = p + 1 := ⟨n1 - 1, by omega⟩
    simp
    refine condR (c := (decide ((↑v1_0 : Int) < (↑a0.length : Int)))) (by simp) (fun k3 h2 => ?_) (fun k3 h2 => ?_)
    · have q2 := h2; try simp at q2
      have i1 : v1_0 < a0.length := by simpa using h2
      have m2 : a0.length ≤ 9223372036854775807 := by simpa using k3 0 _ rfl
      have w1 : IntKind.i64.wrap ((v1_0 : Int) + 1) = (v1_0 : Int) + 1 := wrap_of (by omega) (by omega)
      simp
      refine okD fun k4 => ?_
      refine drawI mixed (by kernel_rfl) (by kernel_rfl) ?_
      have i2 : v1_0 < a1.length := by omega
      simp [i1, rowAt_map, i2]
      repeat (refine ⟨by intros; omega, ?_⟩)
      refine condR (c := ((nth a0 v1_0) != (nth a1 v1_0))) (by simp) (fun k5 h3 => ?_) (fun k5 h3 => ?_)
      · have q3 := h3; try simp at q3
        have x1 : l_eqIntS_1 a0 a1 (a0.length + 1) 0 = .inl false := by rw [← e1]; simp only [l_eqIntS_1, h2, h3, cond_true, cond_false]
        simp
        refine retRd (rv := [.tmp 4]) rfl ?_
        have f2 := l_eqIntS.eq_1 a0 a1
        simp only [h1, x1, cond_true, cond_false] at f2
        simp [f2]
      · have q3 := h3; try simp at q3
        simp
        refine nxtI ⟨(p1, (v1_0 + 1)), ?_, ?_⟩ (by simp) (wk_keep (by simp [w1]))
        · rw [← e1]; simp only [l_eqIntS_1, h2, h3, cond_true, cond_false]
        · first | omega | (simp at *; omega)
    · have q2 := h2; try simp at q2
      have x2 : l_eqIntS_1 a0 a1 (a0.length + 1) 0 = .inr () := by rw [← e1]; simp only [l_eqIntS_1, h2, cond_true, cond_false]
      simp
      refine retRd (rv := [.tmp 4]) rfl ?_
      have f3 := l_eqIntS.eq_1 a0 a1
      simp only [h1, x2, cond_true, cond_false] at f3
      simp [f3]
theorem l_eqBoolS_ok (a0 : List Bool) (a1 : List Bool) : SoundAt Try.prog 20 false [[.sl 1 (a0.map lR)], [.sl 1 (a1.map lR)]] [[.bool (l_eqBoolS a0 a1)]] := by
  refine sound_of Try.func20 rfl (by kernel_rfl) ?_
  simp [Try.ntmps20]
  refine condR (c := ((↑a0.length : Int) != (↑a1.length : Int))) (by simp) (fun k1 h1 => ?_) (fun k1 h1 => ?_)
  · have q1 := h1; try simp at q1
    simp
    refine retRd (rv := [.tmp 4]) rfl ?_
    have f1 := l_eqBoolS.eq_1 a0 a1
    simp only [h1, cond_true, cond_false] at f1
    simp [f1]
  · have q1 := h1; try simp at q1
    simp
    refine okL fun k2 => ?_
    refine loopI (ι := { s : Nat × Nat // l_eqBoolS_1 a0 a1 s.1 s.2 = l_eqBoolS_1 a0 a1 (a0.length + 1) 0 ∧ (1 ≤ s.1 ∧ a0.length < s.1 + s.2) }) (fun s => stOf 26 [(0, .one (.d (.sl 1 (a0.map lR))), []), (1, .one (.d (.sl 1 (a1.map lR))), []), (5, .one (.d (.int .i64 (↑s.1.2 : Int))), [])]) (fun s => s.1.1) ⟨((a0.length + 1), 0), rfl, by first | omega | (dsimp only; omega) | simp⟩ (wk_keep (by simp)) ?_
    rintro ⟨⟨n1, v1_0⟩, e1, j1⟩
    try dsimp only at e1 j1
    obtain ⟨p1, rfl⟩ : ∃ p, n1 = p + 1 := ⟨n1 - 1, by omega⟩
    simp
    refine condR (c := (decide ((↑v1_0 : Int) < (↑a0.length : Int)))) (by simp) (fun k3 h2 => ?_) (fun k3 h2 => ?_)
    · have q2 := h2; try simp at q2
      have i1 : v1_0 < a0.length := by simpa using h2
      have m2 : a0.length ≤ 9223372036854775807 := by simpa using k3 0 _ rfl
      have w1 : IntKind.i64.wrap ((v1_0 : Int) + 1) = (v1_0 : Int) + 1 := wrap_of (by omega) (by omega)
      simp
      refine okD fun k4 => ?_
      refine drawI mixed (by kernel_rfl) (by kernel_rfl) ?_
      have i2 : v1_0 < a1.length := by omega
      simp [i1, rowAt_map, i2]
      repeat (refine ⟨by intros; omega, ?_⟩)
      refine condR (c := (!((nth a0 v1_0) == (nth a1 v1_0)))) (by simp) (fun k5 h3 => ?_) (fun k5 h3 => ?_)
      · have q3 := h3; try simp at q3
        have x1 : l_eqBoolS_1 a0 a1 (a0.length + 1) 0 = .inl false := by rw [← e1]; simp only [l_eqBoolS_1, h2, h3, cond_true, cond_false]
        simp
        refine retRd (rv := [.tmp 4]) rfl ?_
        have f2 := l_eqBoolS.eq_1 a0 a1
        simp only [h1, x1, cond_true, cond_false] at f2
        simp [f2]
      · have q3 := h3; try simp at q3
        simp
        refine nxtI ⟨(p1, (v1_0 + 1)), ?_, ?_⟩ (by simp) (wk_keep (by simp [w1]))
        · rw [← e1]; simp only [l_eqBoolS_1, h2, h3, cond_true, cond_false]
        · first | omega | (simp at *; omega)
    · have q2 := h2; try simp at q2
      have x2 : l_eqBoolS_1 a0 a1 (a0.length + 1) 0 = .inr () := by rw [← e1]; simp only [l_eqBoolS_1, h2, cond_true, cond_false]
      simp
      refine retRd (rv := [.tmp 4]) rfl ?_
      have f3 := l_eqBoolS.eq_1 a0 a1
      simp only [h1, x2, cond_true, cond_false] at f3
      simp [f3]
theorem l_eqStringS_ok (a0 : List ByteArray) (a1 : List ByteArray) : SoundAt Try.prog 21 false [[.sl 1 (a0.map sR)], [.sl 1 (a1.map sR)]] [[.bool (l_eqStringS a0 a1)]] := by
  refine sound_of Try.func21 rfl (by kernel_rfl) ?_
  simp [Try.ntmps21]
  refine condR (c := ((↑a0.length : Int) != (↑a1.length : Int))) (by simp) (fun k1 h1 => ?_) (fun k1 h1 => ?_)
  · have q1 := h1; try simp at q1
    simp
    refine retRd (rv := [.tmp 4]) rfl ?_
    have f1 := l_eqStringS.eq_1 a0 a1
    simp only [h1, cond_true, cond_false] at f1
    simp [f1]
  · have q1 := h1; try simp at q1
    simp
    refine okL fun k2 => ?_
    refine loopI (ι := { s : Nat × Nat // l_eqStringS_1 a0 a1 s.1 s.2 = l_eqStringS_1 a0 a1 (a0.length + 1) 0 ∧ (1 ≤ s.1 ∧ a0.length < s.1 + s.2) }) (fun s => stOf 26 [(0, .one (.d (.sl 1 (a0.map sR))), []), (1, .one (.d (.sl 1 (a1.map sR))), []), (5, .one (.d (.int .i64 (↑s.1.2 : Int))), [])]) (fun s => s.1.1) ⟨((a0.length + 1), 0), rfl, by first | omega | (dsimp only; omega) | simp⟩ (wk_keep (by simp)) ?_
    rintro ⟨⟨n1, v1_0⟩, e1, j1⟩
    try dsimp only at e1 j1
    obtain ⟨p1, rfl⟩ : ∃ p, n1 = p + 1 := ⟨n1 - 1, by omega⟩
    simp
    refine condR (c := (decide ((↑v1_0 : Int) < (↑a0.length : Int)))) (by simp) (fun k3 h2 => ?_) (fun k3 h2 => ?_)
    · have q2 := h2; try simp at q2
      have i1 : v1_0 < a0.length := by simpa using h2
      have m2 : a0.length ≤ 9223372036854775807 := by simpa using k3 0 _ rfl
      have w1 : IntKind.i64.wrap ((v1_0 : Int) + 1) = (v1_0 : Int) + 1 := wrap_of (by omega) (by omega)
      simp
      refine okD fun k4 => ?_
      refine drawI mixed (by kernel_rfl) (by kernel_rfl) ?_
      have i2 : v1_0 < a1.length := by omega
      simp [i1, rowAt_map, i2]
      repeat (refine ⟨by intros; omega, ?_⟩)
      refine condR (c := (!decide ((nth a0 v1_0) = (nth a1 v1_0)))) (by simp) (fun k5 h3 => ?_) (fun k5 h3 => ?_)
      · have q3 := h3; try simp at q3
        have x1 : l_eqStringS_1 a0 a1 (a0.length + 1) 0 = .inl false := by rw [← e1]; simp only [l_eqStringS_1, h2, h3, cond_true, cond_false]
        simp
        refine retRd (rv := [.tmp 4]) rfl ?_
        have f2 := l_eqStringS.eq_1 a0 a1
        simp only [h1, x1, cond_true, cond_false] at f2
        simp [f2]
      · have q3 := h3; try simp at q3
        simp
        refine nxtI ⟨(p1, (v1_0 + 1)), ?_, ?_⟩ (by simp) (wk_keep (by simp [w1]))
        · rw [← e1]; simp only [l_eqStringS_1, h2, h3, cond_true, cond_false]
        · first | omega | (simp at *; omega)
    · have q2 := h2; try simp at q2
      have x2 : l_eqStringS_1 a0 a1 (a0.length + 1) 0 = .inr () := by rw [← e1]; simp only [l_eqStringS_1, h2, cond_true, cond_false]
      simp
      refine retRd (rv := [.tmp 4]) rfl ?_
      have f3 := l_eqStringS.eq_1 a0 a1
      simp only [h1, x2, cond_true, cond_false] at f3
      simp [f3]
theorem l_eqIntSS_ok (a0 : List (List Int)) (a1 : List (List Int)) : SoundAt Try.prog 22 false [[.sl 1 (a0.map (slR 1 iR))], [.sl 1 (a1.map (slR 1 iR))]] [[.bool (l_eqIntSS a0 a1)]] := by
  refine sound_of Try.func22 rfl (by kernel_rfl) ?_
  simp [Try.ntmps22]
  refine condR (c := ((↑a0.length : Int) != (↑a1.length : Int))) (by simp) (fun k1 h1 => ?_) (fun k1 h1 => ?_)
  · have q1 := h1; try simp at q1
    simp
    refine retRd (rv := [.tmp 4]) rfl ?_
    have f1 := l_eqIntSS.eq_1 a0 a1
    simp only [h1, cond_true, cond_false] at f1
    simp [f1]
  · have q1 := h1; try simp at q1
    simp
    refine okL fun k2 => ?_
    refine loopI (ι := { s : Nat × Nat // l_eqIntSS_1 a0 a1 s.1 s.2 = l_eqIntSS_1 a0 a1 (a0.length + 1) 0 ∧ (1 ≤ s.1 ∧ a0.length < s.1 + s.2) }) (fun s => stOf 27 [(0, .one (.d (.sl 1 (a0.map (slR 1 iR)))), []), (1, .one (.d (.sl 1 (a1.map (slR 1 iR)))), []), (5, .one (.d (.int .i64 (↑s.1.2 : Int))), [])]) (fun s => s.1.1) ⟨((a0.length + 1), 0), rfl, by first | omega | (dsimp only; omega) | simp⟩ (wk_keep (by simp)) ?_
    rintro ⟨⟨n1, v1_0⟩, e1, j1⟩
    try dsimp only at e1 j1
    obtain ⟨p1, rfl⟩ : ∃ p, n1 = p + 1 := ⟨n1 - 1, by omega⟩
    simp
    refine condR (c := (decide ((↑v1_0 : Int) < (↑a0.length : Int)))) (by simp) (fun k3 h2 => ?_) (fun k3 h2 => ?_)
    · have q2 := h2; try simp at q2
      have i1 : v1_0 < a0.length := by simpa using h2
      have m2 : a0.length ≤ 9223372036854775807 := by simpa using k3 0 _ rfl
      have w1 : IntKind.i64.wrap ((v1_0 : Int) + 1) = (v1_0 : Int) + 1 := wrap_of (by omega) (by omega)
      simp
      refine okD fun k4 => ?_
      refine drawI mixed (by kernel_rfl) (by kernel_rfl) ?_
      have i2 : v1_0 < a1.length := by omega
      simp [i1, rowAt_map, i2]
      repeat (refine ⟨by intros; omega, ?_⟩)
      refine callRd rfl rfl rfl rfl (l_eqIntS_ok (nth a0 v1_0) (nth a1 v1_0)) (by simp) (by simp) (by simp) ?_
      simp
      refine condR (c := (!(l_eqIntS (nth a0 v1_0) (nth a1 v1_0)))) (by simp) (fun k5 h3 => ?_) (fun k5 h3 => ?_)
      · have q3 := h3; try simp at q3
        have x1 : l_eqIntSS_1 a0 a1 (a0.length + 1) 0 = .inl false := by rw [← e1]; simp only [l_eqIntSS_1, h2, h3, cond_true, cond_false]
        simp
        refine retRd (rv := [.tmp 4]) rfl ?_
        have f2 := l_eqIntSS.eq_1 a0 a1
        simp only [h1, x1, cond_true, cond_false] at f2
        simp [f2]
      · have q3 := h3; try simp at q3
        simp
        refine nxtI ⟨(p1, (v1_0 + 1)), ?_, ?_⟩ (by simp) (wk_keep (by simp [w1]))
        · rw [← e1]; simp only [l_eqIntSS_1, h2, h3, cond_true, cond_false]
        · first | omega | (simp at *; omega)
    · have q2 := h2; try simp at q2
      have x2 : l_eqIntSS_1 a0 a1 (a0.length + 1) 0 = .inr () := by rw [← e1]; simp only [l_eqIntSS_1, h2, cond_true, cond_false]
      simp
      refine retRd (rv := [.tmp 4]) rfl ?_
      have f3 := l_eqIntSS.eq_1 a0 a1
      simp only [h1, x2, cond_true, cond_false] at f3
      simp [f3]
theorem l_eqRedacted_ok (a0 : TRedacted) (a1 : TRedacted) : SoundAt Try.prog 8 false [a0.row, a1.row] [[.bool (l_eqRedacted a0 a1)]] := by
  refine sound_of Try.func8 rfl (by kernel_rfl) ?_
  simp [Try.ntmps8]
  refine condR (c := (a0.Title != a1.Title)) (by simp) (fun k1 h1 => ?_) (fun k1 h1 => ?_)
  · have q1 := h1; try simp at q1
    simp
    refine retRd (rv := [.tmp 4]) rfl ?_
    have f1 := l_eqRedacted.eq_1 a0 a1
    simp only [h1, cond_true, cond_false] at f1
    simp [f1]
  · have q1 := h1; try simp at q1
    simp
    refine callRd rfl rfl rfl rfl (l_eqIntS_ok a0.Methods a1.Methods) (by simp) (by simp) (by simp) ?_
    simp
    refine condR (c := (!(l_eqIntS a0.Methods a1.Methods))) (by simp) (fun k2 h2 => ?_) (fun k2 h2 => ?_)
    · have q2 := h2; try simp at q2
      simp
      refine retRd (rv := [.tmp 4]) rfl ?_
      have f2 := l_eqRedacted.eq_1 a0 a1
      simp only [h1, h2, cond_true, cond_false] at f2
      simp [f2]
    · have q2 := h2; try simp at q2
      simp
      refine callRd rfl rfl rfl rfl (l_eqBoolS_ok a0.Shown a1.Shown) (by simp) (by simp) (by simp) ?_
      simp
      refine condR (c := (!(l_eqBoolS a0.Shown a1.Shown))) (by simp) (fun k3 h3 => ?_) (fun k3 h3 => ?_)
      · have q3 := h3; try simp at q3
        simp
        refine retRd (rv := [.tmp 4]) rfl ?_
        have f3 := l_eqRedacted.eq_1 a0 a1
        simp only [h1, h2, h3, cond_true, cond_false] at f3
        simp [f3]
      · have q3 := h3; try simp at q3
        simp
        refine callRd rfl rfl rfl rfl (l_eqStringS_ok a0.Parts a1.Parts) (by simp) (by simp) (by simp) ?_
        simp
        refine condR (c := (!(l_eqStringS a0.Parts a1.Parts))) (by simp) (fun k4 h4 => ?_) (fun k4 h4 => ?_)
        · have q4 := h4; try simp at q4
          simp
          refine retRd (rv := [.tmp 4]) rfl ?_
          have f4 := l_eqRedacted.eq_1 a0 a1
          simp only [h1, h2, h3, h4, cond_true, cond_false] at f4
          simp [f4]
        · have q4 := h4; try simp at q4
          simp
          refine callRd rfl rfl rfl rfl (l_eqIntS_ok a0.Salts a1.Salts) (by simp) (by simp) (by simp) ?_
          simp
          refine condR (c := (!(l_eqIntS a0.Salts a1.Salts))) (by simp) (fun k5 h5 => ?_) (fun k5 h5 => ?_)
          · have q5 := h5; try simp at q5
            simp
            refine retRd (rv := [.tmp 4]) rfl ?_
            have f5 := l_eqRedacted.eq_1 a0 a1
            simp only [h1, h2, h3, h4, h5, cond_true, cond_false] at f5
            simp [f5]
          · have q5 := h5; try simp at q5
            simp
            refine callRd rfl rfl rfl rfl (l_eqIntSS_ok a0.Digests a1.Digests) (by simp) (by simp) (by simp) ?_
            simp
            refine condR (c := (!(l_eqIntSS a0.Digests a1.Digests))) (by simp) (fun k6 h6 => ?_) (fun k6 h6 => ?_)
            · have q6 := h6; try simp at q6
              simp
              refine retRd (rv := [.tmp 4]) rfl ?_
              have f6 := l_eqRedacted.eq_1 a0 a1
              simp only [h1, h2, h3, h4, h5, h6, cond_true, cond_false] at f6
              simp [f6]
            · have q6 := h6; try simp at q6
              simp
              refine retRd (rv := [.tmp 4]) rfl ?_
              have f7 := l_eqRedacted.eq_1 a0 a1
              simp only [h1, h2, h3, h4, h5, h6, cond_true, cond_false] at f7
              simp [f7]
theorem l_FnExactFormatRedacted_ok (a0 : TRedacted) (t0 : Sm maxLen a0) : SoundAt Try.prog 3 false [a0.row] [[.bool (l_FnExactFormatRedacted a0)]] := by
  refine sound_of Try.func3 rfl (by kernel_rfl) ?_
  simp [Try.ntmps3]
  refine callRd rfl rfl rfl rfl (l_szRedacted_ok a0 1048576) (by simp) (by simp) (by simp) ?_
  simp
  refine condR (c := (decide ((l_szRedacted a0 1048576) < 0))) (by simp) (fun k1 h1 => ?_) (fun k1 h1 => ?_)
  · have q1 := h1; try simp at q1
    simp
    refine retRd (rv := [.tmp 2]) rfl ?_
    have f1 := l_FnExactFormatRedacted.eq_1 a0
    simp only [h1, cond_true, cond_false] at f1
    simp [f1]
  · have q1 := h1; try simp at q1
    obtain ⟨u0, y0⟩ := l_szRedacted_sm a0 1048576 t0 (by omega) (by omega) (by simpa using h1)
    simp
    refine callRd rfl rfl rfl rfl (l_toRedacted_ok a0 (sm_mono (n := 1048576) (by decide) (by simp [u0, l_toBoolS_id, l_toIntS_id, l_toIntSS_id, l_toRedacted_id, l_toStringS_id]))) (by simp) (by simp) (by simp) ?_
    simp
    refine callRd rfl rfl rfl rfl (s_FormatRedacted_ok (l_toRedacted a0) (by simp [u0, l_toBoolS_id, l_toIntS_id, l_toIntSS_id, l_toRedacted_id, l_toStringS_id])) (by simp) (by simp) (by simp) ?_
    simp
    refine callRd rfl rfl rfl rfl (l_toRedacted_ok a0 (sm_mono (n := 1048576) (by decide) (by simp [u0, l_toBoolS_id, l_toIntS_id, l_toIntSS_id, l_toRedacted_id, l_toStringS_id]))) (by simp) (by simp) (by simp) ?_
    simp
    refine callRd rfl rfl rfl rfl (i_FormatRedacted_ok (l_toRedacted a0) (by simp [u0, l_toBoolS_id, l_toIntS_id, l_toIntSS_id, l_toRedacted_id, l_toStringS_id])) (by simp) (by simp) (by simp) ?_
    simp
    refine condR (c := (!decide ((i_FormatRedacted (l_toRedacted a0)) = (s_FormatRedacted (l_toRedacted a0))))) (by simp) (fun k2 h2 => ?_) (fun k2 h2 => ?_)
    · have q2 := h2; try simp at q2
      simp
      refine retRd (rv := [.tmp 2]) rfl ?_
      have f2 := l_FnExactFormatRedacted.eq_1 a0
      simp only [h1, h2, cond_true, cond_false] at f2
      simp [f2]
    · have q2 := h2; try simp at q2
      simp
      refine okD fun k3 => ?_
      refine drawI mixed (by kernel_rfl) (by kernel_rfl) ?_
      simp
      refine callRd rfl rfl rfl rfl (l_toRedacted_ok a0 (sm_mono (n := 1048576) (by decide) (by simp [u0, l_toBoolS_id, l_toIntS_id, l_toIntSS_id, l_toRedacted_id, l_toStringS_id]))) (by simp) (by simp) (by simp) ?_
      simp
      refine callRd rfl rfl rfl rfl (l_eqRedacted_ok (l_toRedacted a0) (l_toRedacted a0)) (by simp) (by simp) (by simp) ?_
      simp
      refine condR (c := (!(l_eqRedacted (l_toRedacted a0) (l_toRedacted a0)))) (by simp) (fun k4 h3 => ?_) (fun k4 h3 => ?_)
      · have q3 := h3; try simp at q3
        simp
        refine retRd (rv := [.tmp 2]) rfl ?_
        have f3 := l_FnExactFormatRedacted.eq_1 a0
        simp only [h1, h2, h3, cond_true, cond_false] at f3
        simp [f3]
      · have q3 := h3; try simp at q3
        simp
        refine retRd (rv := [.tmp 2]) rfl ?_
        have f4 := l_FnExactFormatRedacted.eq_1 a0
        simp only [h1, h2, h3, cond_true, cond_false] at f4
        simp [f4]
end Go.Proofs.Ytjnnnnanipkcnaa
