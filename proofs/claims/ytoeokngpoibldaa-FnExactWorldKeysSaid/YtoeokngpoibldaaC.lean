/- Contracts of the functions over the abstract machine, part 1. No condition. -/
import Derived.Test.YtoeokngpoibldaaL
import Derived.Test.YtoeokngpoibldaaTy
namespace Go.Proofs.Ytoeokngpoibldaa
open Go.Vm Go.Mo
set_option maxHeartbeats 1000000
set_option maxRecDepth 100000
set_option linter.unusedSimpArgs false
set_option linter.unusedVariables false
theorem mixed : Try.prog.follows .mixedOrders = true := by kernel_rfl
theorem s_l5Table_ok : SoundD Try.prog 43 [] [[.sl 4 (s_l5Table.map TMethod.row)]] := by
  refine sound_ofD Try.func43 rfl (by kernel_rfl) ?_
  simp [Try.ntmps43]
  refine retD (rv := [.tmp 0]) rfl ?_
  have f1 := s_l5Table.eq_1
  simp [f1]
theorem s_WorldMethods_ok : SoundD Try.prog 17 [] [[.sl 4 (s_WorldMethods.map TMethod.row)]] := by
  refine sound_ofD Try.func17 rfl (by kernel_rfl) ?_
  simp [Try.ntmps17]
  refine callD [false] rfl rfl rfl rfl (s_l5Table_ok) (by simp) (by simp) (by simp) (by simp) ?_
  simp
  refine retD (rv := [.tmp 0]) rfl ?_
  have f1 := s_WorldMethods.eq_1
  simp [f1]
theorem i_WorldMethods_ok : SoundD Try.prog 18 [] [[.sl 4 (i_WorldMethods.map TMethod.row)]] := by
  refine sound_ofD Try.func18 rfl (by kernel_rfl) ?_
  simp [Try.ntmps18]
  refine retD (rv := [.tmp 0]) rfl ?_
  have f1 := i_WorldMethods.eq_1
  simp [f1]
theorem l_eqMethod_ok (a0 : TMethod) (a1 : TMethod) : SoundAt Try.prog 44 false [a0.row, a1.row] [[.bool (l_eqMethod a0 a1)]] := by
  refine sound_of Try.func44 rfl (by kernel_rfl) ?_
  simp [Try.ntmps44]
  refine condR (c := (a0.Id != a1.Id)) (by simp) (fun k1 h1 => ?_) (fun k1 h1 => ?_)
  · have q1 := h1; try simp at q1
    simp
    refine retRd (rv := [.tmp 4]) rfl ?_
    have f1 := l_eqMethod.eq_1 a0 a1
    simp only [h1, cond_true, cond_false] at f1
    simp [f1]
  · have q1 := h1; try simp at q1
    simp
    refine condR (c := (a0.Known != a1.Known)) (by simp) (fun k2 h2 => ?_) (fun k2 h2 => ?_)
    · have q2 := h2; try simp at q2
      simp
      refine retRd (rv := [.tmp 4]) rfl ?_
      have f2 := l_eqMethod.eq_1 a0 a1
      simp only [h1, h2, cond_true, cond_false] at f2
      simp [f2]
    · have q2 := h2; try simp at q2
      simp
      refine condR (c := (a0.Ends != a1.Ends)) (by simp) (fun k3 h3 => ?_) (fun k3 h3 => ?_)
      · have q3 := h3; try simp at q3
        simp
        refine retRd (rv := [.tmp 4]) rfl ?_
        have f3 := l_eqMethod.eq_1 a0 a1
        simp only [h1, h2, h3, cond_true, cond_false] at f3
        simp [f3]
      · have q3 := h3; try simp at q3
        simp
        refine condR (c := (a0.Broken != a1.Broken)) (by simp) (fun k4 h4 => ?_) (fun k4 h4 => ?_)
        · have q4 := h4; try simp at q4
          simp
          refine retRd (rv := [.tmp 4]) rfl ?_
          have f4 := l_eqMethod.eq_1 a0 a1
          simp only [h1, h2, h3, h4, cond_true, cond_false] at f4
          simp [f4]
        · have q4 := h4; try simp at q4
          simp
          refine retRd (rv := [.tmp 4]) rfl ?_
          have f5 := l_eqMethod.eq_1 a0 a1
          simp only [h1, h2, h3, h4, cond_true, cond_false] at f5
          simp [f5]
theorem l_eqMethodS_ok (a0 : List TMethod) (a1 : List TMethod) : SoundAt Try.prog 19 false [[.sl 4 (a0.map TMethod.row)], [.sl 4 (a1.map TMethod.row)]] [[.bool (l_eqMethodS a0 a1)]] := by
  refine sound_of Try.func19 rfl (by kernel_rfl) ?_
  simp [Try.ntmps19]
  refine condR (c := ((↑a0.length : Int) != (↑a1.length : Int))) (by simp) (fun k1 h1 => ?_) (fun k1 h1 => ?_)
  · have q1 := h1; try simp at q1
    simp
    refine retRd (rv := [.tmp 4]) rfl ?_
    have f1 := l_eqMethodS.eq_1 a0 a1
    simp only [h1, cond_true, cond_false] at f1
    simp [f1]
  · have q1 := h1; try simp at q1
    simp
    refine okL fun k2 => ?_
    refine loopI (ι := { s : Nat × Nat // l_eqMethodS_1 a0 a1 s.1 s.2 = l_eqMethodS_1 a0 a1 (a0.length + 1) 0 ∧ (1 ≤ s.1 ∧ a0.length < s.1 + s.2 ∧ s.2 ≤ a0.length) }) (fun s => stOf 27 [(0, .one (.d (.sl 4 (a0.map TMethod.row))), []), (1, .one (.d (.sl 4 (a1.map TMethod.row))), []), (5, .one (.d (.int .i64 (↑s.1.2 : Int))), [])]) (fun s => s.1.1) ⟨((a0.length + 1), 0), rfl, by first | omega | (dsimp only; omega) | simp⟩ (wk_keep (by simp)) ?_
    rintro ⟨⟨n1, v1_0⟩, e1, j1⟩
    try dsimp only at e1 j1
    obtain ⟨p1, rfl⟩ : ∃ p, n1 = p + 1 := ⟨n1 - 1, by omega⟩
    simp
    refine condR (c := (decide ((↑v1_0 : Int) < (↑a0.length : Int)))) (by simp) (fun k3 h2 => ?_) (fun k3 h2 => ?_)
    · have q2 := h2; try simp at q2
      have i1 : v1_0 < a0.length := by simpa using h2
      have m2 : a0.length ≤ 9223372036854775807 := by simpa using k3 0 _ rfl
      have w1 : IntKind.i64.wrap ((v1_0 : Int) + 1) = (v1_0 : Int) + 1 := wrap_of (by omega) (by omega)
      simp
      refine okD fun k4 => ?_
      refine drawI mixed (by kernel_rfl) (by kernel_rfl) ?_
      have i2 : v1_0 < a1.length := by first | omega | (have hz := @List.length_pos_iff _ a1; simp_all; done) | ((try simp only [W_def, show ∀ x, IntKind.i64.wrap x = W x from fun _ => rfl] at *); omega)
      simp [i1, rowAt_map, i2]
      repeat ((with_reducible refine And.intro ?_ ?_); focus (intros; first | omega | ((try simp only [W_def, show ∀ x, IntKind.i64.wrap x = W x from fun _ => rfl] at *); omega)))
      refine callRd rfl rfl rfl rfl (l_eqMethod_ok (nth a0 v1_0) (nth a1 v1_0)) (by simp) (by simp) (by simp) ?_
      simp
      refine condR (c := (!(l_eqMethod (nth a0 v1_0) (nth a1 v1_0)))) (by simp) (fun k5 h3 => ?_) (fun k5 h3 => ?_)
      · have q3 := h3; try simp at q3
        have x1 : l_eqMethodS_1 a0 a1 (a0.length + 1) 0 = .inl false := by rw [← e1]; simp only [l_eqMethodS_1, h2, h3, cond_true, cond_false]
        simp
        refine retRd (rv := [.tmp 4]) rfl ?_
        have f2 := l_eqMethodS.eq_1 a0 a1
        simp only [h1, x1, cond_true, cond_false] at f2
        simp [f2]
      · have q3 := h3; try simp at q3
        simp
        refine nxtI ⟨(p1, (v1_0 + 1)), ?_, ?_⟩ (by simp) (wk_keep (by simp [w1]))
        · rw [← e1]; simp only [l_eqMethodS_1, h2, h3, cond_true, cond_false]
        · first | omega | (simp at *; omega)
    · have q2 := h2; try simp at q2
      have x2 : l_eqMethodS_1 a0 a1 (a0.length + 1) 0 = .inr () := by rw [← e1]; simp only [l_eqMethodS_1, h2, cond_true, cond_false]
      simp
      refine retRd (rv := [.tmp 4]) rfl ?_
      have f3 := l_eqMethodS.eq_1 a0 a1
      simp only [h1, x2, cond_true, cond_false] at f3
      simp [f3]
theorem l_markMethodS_ok (a0 : List TMethod) (a1 : Int) : SoundM Try.prog 20 [.sl 4 (a0.map TMethod.row)] [[.int .i64 a1]] [.sl 4 ((l_markMethodS a0 a1).1.map TMethod.row)] (.int .i64 (l_markMethodS a0 a1).2) := by
  refine sound_ofM Try.func20 rfl (by kernel_rfl) (fun v => ?_)
  simp [Try.ntmps20]
  refine okL fun k1 => ?_
  refine loopI (ι := { s : Nat × Int × Nat × (List TMethod) // l_markMethodS_1 s.1 s.2.1 s.2.2.1 s.2.2.2 = l_markMethodS_1 (a0.length + 1) a1 0 a0 ∧ (1 ≤ s.1 ∧ s.2.2.2.length < s.1 + s.2.2.1) }) (fun s => stOf 41 [(0, .fix v (.one (.sref 0 0 0 s.1.2.2.2.length)), [.arr true 4 (s.1.2.2.2.map TMethod.row)]), (1, .one (.d (.int .i64 s.1.2.1)), []), (5, .one (.d (.int .i64 (↑s.1.2.2.1 : Int))), [])]) (fun s => s.1.1) ⟨((a0.length + 1), a1, 0, a0), rfl, by first | omega | (dsimp only; omega) | simp⟩ (wk_keep (by simp)) ?_
  rintro ⟨⟨n1, v1_0, v1_1, v1_2⟩, e1, j1⟩
  try dsimp only at e1 j1
  obtain ⟨p1, rfl⟩ : ∃ p, n1 = p + 1 := ⟨n1 - 1, by omega⟩
  simp
  refine condR (c := (decide ((↑v1_1 : Int) < (↑v1_2.length : Int)))) (by simp) (fun k2 h1 => ?_) (fun k2 h1 => ?_)
  · have q1 := h1; try simp at q1
    have i1 : v1_1 < v1_2.length := by simpa using h1
    have m2 : v1_2.length ≤ 9223372036854775807 := by simpa using k2 0 _ rfl
    have w1 : IntKind.i64.wrap ((v1_1 : Int) + 1) = (v1_1 : Int) + 1 := wrap_of (by omega) (by omega)
    simp [i1, rowAt_map, set_map (x := (TMethod.mk v1_0 (nth v1_2 v1_1).Known (nth v1_2 v1_1).Ends (nth v1_2 v1_1).Broken)) rfl, rowAt_set_self, List.set_set, set_map (x := (TMethod.mk v1_0 (W (v1_0 + 1)) (nth v1_2 v1_1).Ends (nth v1_2 v1_1).Broken)) rfl, set_map (x := (TMethod.mk v1_0 (W (v1_0 + 1)) (W ((W (v1_0 + 1)) + 1)) (nth v1_2 v1_1).Broken)) rfl, set_map (x := (TMethod.mk v1_0 (W (v1_0 + 1)) (W ((W (v1_0 + 1)) + 1)) (W ((W ((W (v1_0 + 1)) + 1)) + 1)))) rfl]
    repeat ((with_reducible refine And.intro ?_ ?_); focus (intros; first | omega | ((try simp only [W_def, show ∀ x, IntKind.i64.wrap x = W x from fun _ => rfl] at *); omega)))
    refine nxtI ⟨(p1, (W ((W ((W ((W (v1_0 + 1)) + 1)) + 1)) + 1)), (v1_1 + 1), (v1_2.set v1_1 (TMethod.mk v1_0 (W (v1_0 + 1)) (W ((W (v1_0 + 1)) + 1)) (W ((W ((W (v1_0 + 1)) + 1)) + 1))))), ?_, ?_⟩ (by simp) (wk_keep (by simp [w1]))
    · rw [← e1]; simp only [l_markMethodS_1, h1, cond_true, cond_false]
    · (simp; omega)
  · have q1 := h1; try simp at q1
    have x1 : l_markMethodS_1 (a0.length + 1) a1 0 a0 = (v1_0, v1_2) := by rw [← e1]; simp only [l_markMethodS_1, h1, cond_true, cond_false]
    simp
    refine retM (rv := [.tmp 4]) rfl ?_
    have f1 := l_markMethodS.eq_1 a0 a1
    simp only [x1, cond_true, cond_false] at f1
    simp [f1]
theorem l_heldMethodS_ok (a0 : List TMethod) (a1 : Int) : SoundAt Try.prog 21 false [[.sl 4 (a0.map TMethod.row)], [.int .i64 a1]] [[.int .i64 (l_heldMethodS a0 a1)]] := by
  refine sound_of Try.func21 rfl (by kernel_rfl) ?_
  simp [Try.ntmps21]
  refine okL fun k1 => ?_
  refine loopI (ι := { s : Nat × Int × Nat // l_heldMethodS_1 a0 s.1 s.2.1 s.2.2 = l_heldMethodS_1 a0 (a0.length + 1) a1 0 ∧ (1 ≤ s.1 ∧ a0.length < s.1 + s.2.2 ∧ s.2.2 ≤ a0.length) }) (fun s => stOf 49 [(0, .one (.d (.sl 4 (a0.map TMethod.row))), []), (1, .one (.d (.int .i64 s.1.2.1)), []), (5, .one (.d (.int .i64 (↑s.1.2.2 : Int))), [])]) (fun s => s.1.1) ⟨((a0.length + 1), a1, 0), rfl, by first | omega | (dsimp only; omega) | simp⟩ (wk_keep (by simp)) ?_
  rintro ⟨⟨n1, v1_0, v1_1⟩, e1, j1⟩
  try dsimp only at e1 j1
  obtain ⟨p1, rfl⟩ : ∃ p, n1 = p + 1 := ⟨n1 - 1, by omega⟩
  simp
  refine condR (c := (decide ((↑v1_1 : Int) < (↑a0.length : Int)))) (by simp) (fun k2 h1 => ?_) (fun k2 h1 => ?_)
  · have q1 := h1; try simp at q1
    have i1 : v1_1 < a0.length := by simpa using h1
    have m2 : a0.length ≤ 9223372036854775807 := by simpa using k2 0 _ rfl
    have w1 : IntKind.i64.wrap ((v1_1 : Int) + 1) = (v1_1 : Int) + 1 := wrap_of (by omega) (by omega)
    simp [i1, rowAt_map]
    repeat ((with_reducible refine And.intro ?_ ?_); focus (intros; first | omega | ((try simp only [W_def, show ∀ x, IntKind.i64.wrap x = W x from fun _ => rfl] at *); omega)))
    refine condR (c := ((nth a0 v1_1).Id != v1_0)) (by simp) (fun k3 h2 => ?_) (fun k3 h2 => ?_)
    · have q2 := h2; try simp at q2
      have x1 : l_heldMethodS_1 a0 (a0.length + 1) a1 0 = .inl (-1) := by rw [← e1]; simp only [l_heldMethodS_1, h1, h2, cond_true, cond_false]
      simp
      refine retRd (rv := [.tmp 4]) rfl ?_
      have f1 := l_heldMethodS.eq_1 a0 a1
      simp only [x1, cond_true, cond_false] at f1
      simp [f1]
    · have q2 := h2; try simp at q2
      simp [i1, rowAt_map]
      repeat ((with_reducible refine And.intro ?_ ?_); focus (intros; first | omega | ((try simp only [W_def, show ∀ x, IntKind.i64.wrap x = W x from fun _ => rfl] at *); omega)))
      refine condR (c := ((nth a0 v1_1).Known != (W (v1_0 + 1)))) (by simp) (fun k4 h3 => ?_) (fun k4 h3 => ?_)
      · have q3 := h3; try simp at q3
        have x2 : l_heldMethodS_1 a0 (a0.length + 1) a1 0 = .inl (-1) := by rw [← e1]; simp only [l_heldMethodS_1, h1, h2, h3, cond_true, cond_false]
        simp
        refine retRd (rv := [.tmp 4]) rfl ?_
        have f2 := l_heldMethodS.eq_1 a0 a1
        simp only [x2, cond_true, cond_false] at f2
        simp [f2]
      · have q3 := h3; try simp at q3
        simp [i1, rowAt_map]
        repeat ((with_reducible refine And.intro ?_ ?_); focus (intros; first | omega | ((try simp only [W_def, show ∀ x, IntKind.i64.wrap x = W x from fun _ => rfl] at *); omega)))
        refine condR (c := ((nth a0 v1_1).Ends != (W ((W (v1_0 + 1)) + 1)))) (by simp) (fun k5 h4 => ?_) (fun k5 h4 => ?_)
        · have q4 := h4; try simp at q4
          have x3 : l_heldMethodS_1 a0 (a0.length + 1) a1 0 = .inl (-1) := by rw [← e1]; simp only [l_heldMethodS_1, h1, h2, h3, h4, cond_true, cond_false]
          simp
          refine retRd (rv := [.tmp 4]) rfl ?_
          have f3 := l_heldMethodS.eq_1 a0 a1
          simp only [x3, cond_true, cond_false] at f3
          simp [f3]
        · have q4 := h4; try simp at q4
          simp [i1, rowAt_map]
          repeat ((with_reducible refine And.intro ?_ ?_); focus (intros; first | omega | ((try simp only [W_def, show ∀ x, IntKind.i64.wrap x = W x from fun _ => rfl] at *); omega)))
          refine condR (c := ((nth a0 v1_1).Broken != (W ((W ((W (v1_0 + 1)) + 1)) + 1)))) (by simp) (fun k6 h5 => ?_) (fun k6 h5 => ?_)
          · have q5 := h5; try simp at q5
            have x4 : l_heldMethodS_1 a0 (a0.length + 1) a1 0 = .inl (-1) := by rw [← e1]; simp only [l_heldMethodS_1, h1, h2, h3, h4, h5, cond_true, cond_false]
            simp
            refine retRd (rv := [.tmp 4]) rfl ?_
            have f4 := l_heldMethodS.eq_1 a0 a1
            simp only [x4, cond_true, cond_false] at f4
            simp [f4]
          · have q5 := h5; try simp at q5
            simp
            refine nxtI ⟨(p1, (W ((W ((W ((W (v1_0 + 1)) + 1)) + 1)) + 1)), (v1_1 + 1)), ?_, ?_⟩ (by simp) (wk_keep (by simp [w1]))
            · rw [← e1]; simp only [l_heldMethodS_1, h1, h2, h3, h4, h5, cond_true, cond_false]
            · first | omega | (simp at *; omega)
  · have q1 := h1; try simp at q1
    have x5 : l_heldMethodS_1 a0 (a0.length + 1) a1 0 = .inr v1_0 := by rw [← e1]; simp only [l_heldMethodS_1, h1, cond_true, cond_false]
    simp
    refine retRd (rv := [.tmp 4]) rfl ?_
    have f5 := l_heldMethodS.eq_1 a0 a1
    simp only [x5, cond_true, cond_false] at f5
    simp [f5]
theorem l_FnExactWorldMethods_ok : SoundAt Try.prog 6 false [] [[.bool l_FnExactWorldMethods]] := by
  refine sound_of Try.func6 rfl (by kernel_rfl) ?_
  simp [Try.ntmps6]
  refine callRd rfl rfl rfl rfl (SoundD.rd (s_WorldMethods_ok)) (by simp) (by simp) (by simp) ?_
  simp
  refine callD [] rfl rfl rfl rfl (i_WorldMethods_ok) (by simp) (by simp) (by simp) (by simp) ?_
  simp
  refine callRd rfl rfl rfl rfl (l_eqMethodS_ok i_WorldMethods s_WorldMethods) (by simp) (by simp) (by simp) ?_
  simp
  refine condR (c := (!(l_eqMethodS i_WorldMethods s_WorldMethods))) (by simp) (fun k1 h1 => ?_) (fun k1 h1 => ?_)
  · have q1 := h1; try simp at q1
    simp
    refine retRd (rv := [.tmp 0]) rfl ?_
    have f1 := l_FnExactWorldMethods.eq_1
    simp only [h1, cond_true, cond_false] at f1
    simp [f1]
  · have q1 := h1; try simp at q1
    simp
    refine callMO (ats := [.sref 7 0 0 i_WorldMethods.length]) rfl rfl rfl rfl rfl rfl rfl (l_markMethodS_ok i_WorldMethods 1) (by simp) (by simp) (by simp) (by simp) (by simp) (by simp) (by simp) (by simp) (by simp) ?_
    simp
    refine callRd rfl rfl rfl rfl (l_heldMethodS_ok (l_markMethodS i_WorldMethods 1).1 1) (by simp) (by simp) (by simp) ?_
    simp
    refine condR (c := (decide ((l_heldMethodS (l_markMethodS i_WorldMethods 1).1 1) < 0))) (by simp) (fun k2 h2 => ?_) (fun k2 h2 => ?_)
    · have q2 := h2; try simp at q2
      simp
      refine retRd (rv := [.tmp 0]) rfl ?_
      have f2 := l_FnExactWorldMethods.eq_1
      simp only [h1, h2, cond_true, cond_false] at f2
      simp [f2]
    · have q2 := h2; try simp at q2
      simp
      refine condR (c := ((l_heldMethodS (l_markMethodS i_WorldMethods 1).1 1) != (l_markMethodS i_WorldMethods 1).2)) (by simp) (fun k3 h3 => ?_) (fun k3 h3 => ?_)
      · have q3 := h3; try simp at q3
        simp
        refine retRd (rv := [.tmp 0]) rfl ?_
        have f3 := l_FnExactWorldMethods.eq_1
        simp only [h1, h2, h3, cond_true, cond_false] at f3
        simp [f3]
      · have q3 := h3; try simp at q3
        simp
        refine callRd rfl rfl rfl rfl (SoundD.rd (i_WorldMethods_ok)) (by simp) (by simp) (by simp) ?_
        simp
        refine callRd rfl rfl rfl rfl (l_eqMethodS_ok i_WorldMethods s_WorldMethods) (by simp) (by simp) (by simp) ?_
        simp
        refine condR (c := (!(l_eqMethodS i_WorldMethods s_WorldMethods))) (by simp) (fun k4 h4 => ?_) (fun k4 h4 => ?_)
        · have q4 := h4; try simp at q4
          exact absurd (h1.symm.trans h4) (by decide)
        · have q4 := h4; try simp at q4
          simp
          refine callRd rfl rfl rfl rfl (l_heldMethodS_ok (l_markMethodS i_WorldMethods 1).1 1) (by simp) (by simp) (by simp) ?_
          simp
          refine condR (c := (decide ((l_heldMethodS (l_markMethodS i_WorldMethods 1).1 1) < 0))) (by simp) (fun k5 h5 => ?_) (fun k5 h5 => ?_)
          · have q5 := h5; try simp at q5
            exact absurd (h2.symm.trans h5) (by decide)
          · have q5 := h5; try simp at q5
            simp
            refine condR (c := ((l_heldMethodS (l_markMethodS i_WorldMethods 1).1 1) != (l_markMethodS i_WorldMethods 1).2)) (by simp) (fun k6 h6 => ?_) (fun k6 h6 => ?_)
            · have q6 := h6; try simp at q6
              exact absurd (h3.symm.trans h6) (by decide)
            · have q6 := h6; try simp at q6
              simp
              refine retRd (rv := [.tmp 0]) rfl ?_
              have f7 := l_FnExactWorldMethods.eq_1
              simp only [h1, h2, h3, h4, h5, h6, cond_true, cond_false] at f7
              simp [f7]
theorem s_l8Keys_ok : SoundD Try.prog 45 [] [[.sl 5 (s_l8Keys.map TKey.row)]] := by
  refine sound_ofD Try.func45 rfl (by kernel_rfl) ?_
  simp [Try.ntmps45]
  refine retD (rv := [.tmp 0]) rfl ?_
  have f1 := s_l8Keys.eq_1
  simp [f1]
theorem s_WorldKeys_ok : SoundD Try.prog 22 [] [[.sl 5 (s_WorldKeys.map TKey.row)]] := by
  refine sound_ofD Try.func22 rfl (by kernel_rfl) ?_
  simp [Try.ntmps22]
  refine callD [false] rfl rfl rfl rfl (s_l8Keys_ok) (by simp) (by simp) (by simp) (by simp) ?_
  simp
  refine retD (rv := [.tmp 0]) rfl ?_
  have f1 := s_WorldKeys.eq_1
  simp [f1]
theorem i_WorldKeys_ok : SoundD Try.prog 23 [] [[.sl 5 (i_WorldKeys.map TKey.row)]] := by
  refine sound_ofD Try.func23 rfl (by kernel_rfl) ?_
  simp [Try.ntmps23]
  refine retD (rv := [.tmp 0]) rfl ?_
  have f1 := i_WorldKeys.eq_1
  simp [f1]
theorem l_eqKey_ok (a0 : TKey) (a1 : TKey) : SoundAt Try.prog 46 false [a0.row, a1.row] [[.bool (l_eqKey a0 a1)]] := by
  refine sound_of Try.func46 rfl (by kernel_rfl) ?_
  simp [Try.ntmps46]
  refine condR (c := (a0.Number != a1.Number)) (by simp) (fun k1 h1 => ?_) (fun k1 h1 => ?_)
  · have q1 := h1; try simp at q1
    simp
    refine retRd (rv := [.tmp 4]) rfl ?_
    have f1 := l_eqKey.eq_1 a0 a1
    simp only [h1, cond_true, cond_false] at f1
    simp [f1]
  · have q1 := h1; try simp at q1
    simp
    refine condR (c := (a0.Owner != a1.Owner)) (by simp) (fun k2 h2 => ?_) (fun k2 h2 => ?_)
    · have q2 := h2; try simp at q2
      simp
      refine retRd (rv := [.tmp 4]) rfl ?_
      have f2 := l_eqKey.eq_1 a0 a1
      simp only [h1, h2, cond_true, cond_false] at f2
      simp [f2]
    · have q2 := h2; try simp at q2
      simp
      refine condR (c := (a0.Method != a1.Method)) (by simp) (fun k3 h3 => ?_) (fun k3 h3 => ?_)
      · have q3 := h3; try simp at q3
        simp
        refine retRd (rv := [.tmp 4]) rfl ?_
        have f3 := l_eqKey.eq_1 a0 a1
        simp only [h1, h2, h3, cond_true, cond_false] at f3
        simp [f3]
      · have q3 := h3; try simp at q3
        simp
        refine condR (c := (a0.Born != a1.Born)) (by simp) (fun k4 h4 => ?_) (fun k4 h4 => ?_)
        · have q4 := h4; try simp at q4
          simp
          refine retRd (rv := [.tmp 4]) rfl ?_
          have f4 := l_eqKey.eq_1 a0 a1
          simp only [h1, h2, h3, h4, cond_true, cond_false] at f4
          simp [f4]
        · have q4 := h4; try simp at q4
          simp
          refine condR (c := (a0.Secret != a1.Secret)) (by simp) (fun k5 h5 => ?_) (fun k5 h5 => ?_)
          · have q5 := h5; try simp at q5
            simp
            refine retRd (rv := [.tmp 4]) rfl ?_
            have f5 := l_eqKey.eq_1 a0 a1
            simp only [h1, h2, h3, h4, h5, cond_true, cond_false] at f5
            simp [f5]
          · have q5 := h5; try simp at q5
            simp
            refine retRd (rv := [.tmp 4]) rfl ?_
            have f6 := l_eqKey.eq_1 a0 a1
            simp only [h1, h2, h3, h4, h5, cond_true, cond_false] at f6
            simp [f6]
theorem l_eqKeyS_ok (a0 : List TKey) (a1 : List TKey) : SoundAt Try.prog 24 false [[.sl 5 (a0.map TKey.row)], [.sl 5 (a1.map TKey.row)]] [[.bool (l_eqKeyS a0 a1)]] := by
  refine sound_of Try.func24 rfl (by kernel_rfl) ?_
  simp [Try.ntmps24]
  refine condR (c := ((↑a0.length : Int) != (↑a1.length : Int))) (by simp) (fun k1 h1 => ?_) (fun k1 h1 => ?_)
  · have q1 := h1; try simp at q1
    simp
    refine retRd (rv := [.tmp 4]) rfl ?_
    have f1 := l_eqKeyS.eq_1 a0 a1
    simp only [h1, cond_true, cond_false] at f1
    simp [f1]
  · have q1 := h1; try simp at q1
    simp
    refine okL fun k2 => ?_
    refine loopI (ι := { s : Nat × Nat // l_eqKeyS_1 a0 a1 s.1 s.2 = l_eqKeyS_1 a0 a1 (a0.length + 1) 0 ∧ (1 ≤ s.1 ∧ a0.length < s.1 + s.2 ∧ s.2 ≤ a0.length) }) (fun s => stOf 27 [(0, .one (.d (.sl 5 (a0.map TKey.row))), []), (1, .one (.d (.sl 5 (a1.map TKey.row))), []), (5, .one (.d (.int .i64 (↑s.1.2 : Int))), [])]) (fun s => s.1.1) ⟨((a0.length + 1), 0), rfl, by first | omega | (dsimp only; omega) | simp⟩ (wk_keep (by simp)) ?_
    rintro ⟨⟨n1, v1_0⟩, e1, j1⟩
    try dsimp only at e1 j1
    obtain ⟨p1, rfl⟩ : ∃ p, n1 = p + 1 := ⟨n1 - 1, by omega⟩
    simp
    refine condR (c := (decide ((↑v1_0 : Int) < (↑a0.length : Int)))) (by simp) (fun k3 h2 => ?_) (fun k3 h2 => ?_)
    · have q2 := h2; try simp at q2
      have i1 : v1_0 < a0.length := by simpa using h2
      have m2 : a0.length ≤ 9223372036854775807 := by simpa using k3 0 _ rfl
      have w1 : IntKind.i64.wrap ((v1_0 : Int) + 1) = (v1_0 : Int) + 1 := wrap_of (by omega) (by omega)
      simp
      refine okD fun k4 => ?_
      refine drawI mixed (by kernel_rfl) (by kernel_rfl) ?_
      have i2 : v1_0 < a1.length := by first | omega | (have hz := @List.length_pos_iff _ a1; simp_all; done) | ((try simp only [W_def, show ∀ x, IntKind.i64.wrap x = W x from fun _ => rfl] at *); omega)
      simp [i1, rowAt_map, i2]
      repeat ((with_reducible refine And.intro ?_ ?_); focus (intros; first | omega | ((try simp only [W_def, show ∀ x, IntKind.i64.wrap x = W x from fun _ => rfl] at *); omega)))
      refine callRd rfl rfl rfl rfl (l_eqKey_ok (nth a0 v1_0) (nth a1 v1_0)) (by simp) (by simp) (by simp) ?_
      simp
      refine condR (c := (!(l_eqKey (nth a0 v1_0) (nth a1 v1_0)))) (by simp) (fun k5 h3 => ?_) (fun k5 h3 => ?_)
      · have q3 := h3; try simp at q3
        have x1 : l_eqKeyS_1 a0 a1 (a0.length + 1) 0 = .inl false := by rw [← e1]; simp only [l_eqKeyS_1, h2, h3, cond_true, cond_false]
        simp
        refine retRd (rv := [.tmp 4]) rfl ?_
        have f2 := l_eqKeyS.eq_1 a0 a1
        simp only [h1, x1, cond_true, cond_false] at f2
        simp [f2]
      · have q3 := h3; try simp at q3
        simp
        refine nxtI ⟨(p1, (v1_0 + 1)), ?_, ?_⟩ (by simp) (wk_keep (by simp [w1]))
        · rw [← e1]; simp only [l_eqKeyS_1, h2, h3, cond_true, cond_false]
        · first | omega | (simp at *; omega)
    · have q2 := h2; try simp at q2
      have x2 : l_eqKeyS_1 a0 a1 (a0.length + 1) 0 = .inr () := by rw [← e1]; simp only [l_eqKeyS_1, h2, cond_true, cond_false]
      simp
      refine retRd (rv := [.tmp 4]) rfl ?_
      have f3 := l_eqKeyS.eq_1 a0 a1
      simp only [h1, x2, cond_true, cond_false] at f3
      simp [f3]
theorem l_markKeyS_ok (a0 : List TKey) (a1 : Int) : SoundM Try.prog 25 [.sl 5 (a0.map TKey.row)] [[.int .i64 a1]] [.sl 5 ((l_markKeyS a0 a1).1.map TKey.row)] (.int .i64 (l_markKeyS a0 a1).2) := by
  refine sound_ofM Try.func25 rfl (by kernel_rfl) (fun v => ?_)
  simp [Try.ntmps25]
  refine okL fun k1 => ?_
  refine loopI (ι := { s : Nat × Int × Nat × (List TKey) // l_markKeyS_1 s.1 s.2.1 s.2.2.1 s.2.2.2 = l_markKeyS_1 (a0.length + 1) a1 0 a0 ∧ (1 ≤ s.1 ∧ s.2.2.2.length < s.1 + s.2.2.1) }) (fun s => stOf 48 [(0, .fix v (.one (.sref 0 0 0 s.1.2.2.2.length)), [.arr true 5 (s.1.2.2.2.map TKey.row)]), (1, .one (.d (.int .i64 s.1.2.1)), []), (5, .one (.d (.int .i64 (↑s.1.2.2.1 : Int))), [])]) (fun s => s.1.1) ⟨((a0.length + 1), a1, 0, a0), rfl, by first | omega | (dsimp only; omega) | simp⟩ (wk_keep (by simp)) ?_
  rintro ⟨⟨n1, v1_0, v1_1, v1_2⟩, e1, j1⟩
  try dsimp only at e1 j1
  obtain ⟨p1, rfl⟩ : ∃ p, n1 = p + 1 := ⟨n1 - 1, by omega⟩
  simp
  refine condR (c := (decide ((↑v1_1 : Int) < (↑v1_2.length : Int)))) (by simp) (fun k2 h1 => ?_) (fun k2 h1 => ?_)
  · have q1 := h1; try simp at q1
    have i1 : v1_1 < v1_2.length := by simpa using h1
    have m2 : v1_2.length ≤ 9223372036854775807 := by simpa using k2 0 _ rfl
    have w1 : IntKind.i64.wrap ((v1_1 : Int) + 1) = (v1_1 : Int) + 1 := wrap_of (by omega) (by omega)
    simp [i1, rowAt_map, set_map (x := (TKey.mk v1_0 (nth v1_2 v1_1).Owner (nth v1_2 v1_1).Method (nth v1_2 v1_1).Born (nth v1_2 v1_1).Secret)) rfl, rowAt_set_self, List.set_set, set_map (x := (TKey.mk v1_0 (W (v1_0 + 1)) (nth v1_2 v1_1).Method (nth v1_2 v1_1).Born (nth v1_2 v1_1).Secret)) rfl, set_map (x := (TKey.mk v1_0 (W (v1_0 + 1)) (W ((W (v1_0 + 1)) + 1)) (nth v1_2 v1_1).Born (nth v1_2 v1_1).Secret)) rfl, set_map (x := (TKey.mk v1_0 (W (v1_0 + 1)) (W ((W (v1_0 + 1)) + 1)) (W ((W ((W (v1_0 + 1)) + 1)) + 1)) (nth v1_2 v1_1).Secret)) rfl, set_map (x := (TKey.mk v1_0 (W (v1_0 + 1)) (W ((W (v1_0 + 1)) + 1)) (W ((W ((W (v1_0 + 1)) + 1)) + 1)) (W ((W ((W ((W (v1_0 + 1)) + 1)) + 1)) + 1)))) rfl]
    repeat ((with_reducible refine And.intro ?_ ?_); focus (intros; first | omega | ((try simp only [W_def, show ∀ x, IntKind.i64.wrap x = W x from fun _ => rfl] at *); omega)))
    refine nxtI ⟨(p1, (W ((W ((W ((W ((W (v1_0 + 1)) + 1)) + 1)) + 1)) + 1)), (v1_1 + 1), (v1_2.set v1_1 (TKey.mk v1_0 (W (v1_0 + 1)) (W ((W (v1_0 + 1)) + 1)) (W ((W ((W (v1_0 + 1)) + 1)) + 1)) (W ((W ((W ((W (v1_0 + 1)) + 1)) + 1)) + 1))))), ?_, ?_⟩ (by simp) (wk_keep (by simp [w1]))
    · rw [← e1]; simp only [l_markKeyS_1, h1, cond_true, cond_false]
    · (simp; omega)
  · have q1 := h1; try simp at q1
    have x1 : l_markKeyS_1 (a0.length + 1) a1 0 a0 = (v1_0, v1_2) := by rw [← e1]; simp only [l_markKeyS_1, h1, cond_true, cond_false]
    simp
    refine retM (rv := [.tmp 4]) rfl ?_
    have f1 := l_markKeyS.eq_1 a0 a1
    simp only [x1, cond_true, cond_false] at f1
    simp [f1]
theorem l_heldKeyS_ok (a0 : List TKey) (a1 : Int) : SoundAt Try.prog 26 false [[.sl 5 (a0.map TKey.row)], [.int .i64 a1]] [[.int .i64 (l_heldKeyS a0 a1)]] := by
  refine sound_of Try.func26 rfl (by kernel_rfl) ?_
  simp [Try.ntmps26]
  refine okL fun k1 => ?_
  refine loopI (ι := { s : Nat × Int × Nat // l_heldKeyS_1 a0 s.1 s.2.1 s.2.2 = l_heldKeyS_1 a0 (a0.length + 1) a1 0 ∧ (1 ≤ s.1 ∧ a0.length < s.1 + s.2.2 ∧ s.2.2 ≤ a0.length) }) (fun s => stOf 58 [(0, .one (.d (.sl 5 (a0.map TKey.row))), []), (1, .one (.d (.int .i64 s.1.2.1)), []), (5, .one (.d (.int .i64 (↑s.1.2.2 : Int))), [])]) (fun s => s.1.1) ⟨((a0.length + 1), a1, 0), rfl, by first | omega | (dsimp only; omega) | simp⟩ (wk_keep (by simp)) ?_
  rintro ⟨⟨n1, v1_0, v1_1⟩, e1, j1⟩
  try dsimp only at e1 j1
  obtain ⟨p1, rfl⟩ : ∃ p, n1 = p + 1 := ⟨n1 - 1, by omega⟩
  simp
  refine condR (c := (decide ((↑v1_1 : Int) < (↑a0.length : Int)))) (by simp) (fun k2 h1 => ?_) (fun k2 h1 => ?_)
  · have q1 := h1; try simp at q1
    have i1 : v1_1 < a0.length := by simpa using h1
    have m2 : a0.length ≤ 9223372036854775807 := by simpa using k2 0 _ rfl
    have w1 : IntKind.i64.wrap ((v1_1 : Int) + 1) = (v1_1 : Int) + 1 := wrap_of (by omega) (by omega)
    simp [i1, rowAt_map]
    repeat ((with_reducible refine And.intro ?_ ?_); focus (intros; first | omega | ((try simp only [W_def, show ∀ x, IntKind.i64.wrap x = W x from fun _ => rfl] at *); omega)))
    refine condR (c := ((nth a0 v1_1).Number != v1_0)) (by simp) (fun k3 h2 => ?_) (fun k3 h2 => ?_)
    · have q2 := h2; try simp at q2
      have x1 : l_heldKeyS_1 a0 (a0.length + 1) a1 0 = .inl (-1) := by rw [← e1]; simp only [l_heldKeyS_1, h1, h2, cond_true, cond_false]
      simp
      refine retRd (rv := [.tmp 4]) rfl ?_
      have f1 := l_heldKeyS.eq_1 a0 a1
      simp only [x1, cond_true, cond_false] at f1
      simp [f1]
    · have q2 := h2; try simp at q2
      simp [i1, rowAt_map]
      repeat ((with_reducible refine And.intro ?_ ?_); focus (intros; first | omega | ((try simp only [W_def, show ∀ x, IntKind.i64.wrap x = W x from fun _ => rfl] at *); omega)))
      refine condR (c := ((nth a0 v1_1).Owner != (W (v1_0 + 1)))) (by simp) (fun k4 h3 => ?_) (fun k4 h3 => ?_)
      · have q3 := h3; try simp at q3
        have x2 : l_heldKeyS_1 a0 (a0.length + 1) a1 0 = .inl (-1) := by rw [← e1]; simp only [l_heldKeyS_1, h1, h2, h3, cond_true, cond_false]
        simp
        refine retRd (rv := [.tmp 4]) rfl ?_
        have f2 := l_heldKeyS.eq_1 a0 a1
        simp only [x2, cond_true, cond_false] at f2
        simp [f2]
      · have q3 := h3; try simp at q3
        simp [i1, rowAt_map]
        repeat ((with_reducible refine And.intro ?_ ?_); focus (intros; first | omega | ((try simp only [W_def, show ∀ x, IntKind.i64.wrap x = W x from fun _ => rfl] at *); omega)))
        refine condR (c := ((nth a0 v1_1).Method != (W ((W (v1_0 + 1)) + 1)))) (by simp) (fun k5 h4 => ?_) (fun k5 h4 => ?_)
        · have q4 := h4; try simp at q4
          have x3 : l_heldKeyS_1 a0 (a0.length + 1) a1 0 = .inl (-1) := by rw [← e1]; simp only [l_heldKeyS_1, h1, h2, h3, h4, cond_true, cond_false]
          simp
          refine retRd (rv := [.tmp 4]) rfl ?_
          have f3 := l_heldKeyS.eq_1 a0 a1
          simp only [x3, cond_true, cond_false] at f3
          simp [f3]
        · have q4 := h4; try simp at q4
          simp [i1, rowAt_map]
          repeat ((with_reducible refine And.intro ?_ ?_); focus (intros; first | omega | ((try simp only [W_def, show ∀ x, IntKind.i64.wrap x = W x from fun _ => rfl] at *); omega)))
          refine condR (c := ((nth a0 v1_1).Born != (W ((W ((W (v1_0 + 1)) + 1)) + 1)))) (by simp) (fun k6 h5 => ?_) (fun k6 h5 => ?_)
          · have q5 := h5; try simp at q5
            have x4 : l_heldKeyS_1 a0 (a0.length + 1) a1 0 = .inl (-1) := by rw [← e1]; simp only [l_heldKeyS_1, h1, h2, h3, h4, h5, cond_true, cond_false]
            simp
            refine retRd (rv := [.tmp 4]) rfl ?_
            have f4 := l_heldKeyS.eq_1 a0 a1
            simp only [x4, cond_true, cond_false] at f4
            simp [f4]
          · have q5 := h5; try simp at q5
            simp [i1, rowAt_map]
            repeat ((with_reducible refine And.intro ?_ ?_); focus (intros; first | omega | ((try simp only [W_def, show ∀ x, IntKind.i64.wrap x = W x from fun _ => rfl] at *); omega)))
            refine condR (c := ((nth a0 v1_1).Secret != (W ((W ((W ((W (v1_0 + 1)) + 1)) + 1)) + 1)))) (by simp) (fun k7 h6 => ?_) (fun k7 h6 => ?_)
            · have q6 := h6; try simp at q6
              have x5 : l_heldKeyS_1 a0 (a0.length + 1) a1 0 = .inl (-1) := by rw [← e1]; simp only [l_heldKeyS_1, h1, h2, h3, h4, h5, h6, cond_true, cond_false]
              simp
              refine retRd (rv := [.tmp 4]) rfl ?_
              have f5 := l_heldKeyS.eq_1 a0 a1
              simp only [x5, cond_true, cond_false] at f5
              simp [f5]
            · have q6 := h6; try simp at q6
              simp
              refine nxtI ⟨(p1, (W ((W ((W ((W ((W (v1_0 + 1)) + 1)) + 1)) + 1)) + 1)), (v1_1 + 1)), ?_, ?_⟩ (by simp) (wk_keep (by simp [w1]))
              · rw [← e1]; simp only [l_heldKeyS_1, h1, h2, h3, h4, h5, h6, cond_true, cond_false]
              · first | omega | (simp at *; omega)
  · have q1 := h1; try simp at q1
    have x6 : l_heldKeyS_1 a0 (a0.length + 1) a1 0 = .inr v1_0 := by rw [← e1]; simp only [l_heldKeyS_1, h1, cond_true, cond_false]
    simp
    refine retRd (rv := [.tmp 4]) rfl ?_
    have f6 := l_heldKeyS.eq_1 a0 a1
    simp only [x6, cond_true, cond_false] at f6
    simp [f6]
theorem l_FnExactWorldKeys_ok : SoundAt Try.prog 7 false [] [[.bool l_FnExactWorldKeys]] := by
  refine sound_of Try.func7 rfl (by kernel_rfl) ?_
  simp [Try.ntmps7]
  refine callRd rfl rfl rfl rfl (SoundD.rd (s_WorldKeys_ok)) (by simp) (by simp) (by simp) ?_
  simp
  refine callD [] rfl rfl rfl rfl (i_WorldKeys_ok) (by simp) (by simp) (by simp) (by simp) ?_
  simp
  refine callRd rfl rfl rfl rfl (l_eqKeyS_ok i_WorldKeys s_WorldKeys) (by simp) (by simp) (by simp) ?_
  simp
  refine condR (c := (!(l_eqKeyS i_WorldKeys s_WorldKeys))) (by simp) (fun k1 h1 => ?_) (fun k1 h1 => ?_)
  · have q1 := h1; try simp at q1
    simp
    refine retRd (rv := [.tmp 0]) rfl ?_
    have f1 := l_FnExactWorldKeys.eq_1
    simp only [h1, cond_true, cond_false] at f1
    simp [f1]
  · have q1 := h1; try simp at q1
    simp
    refine callMO (ats := [.sref 7 0 0 i_WorldKeys.length]) rfl rfl rfl rfl rfl rfl rfl (l_markKeyS_ok i_WorldKeys 1) (by simp) (by simp) (by simp) (by simp) (by simp) (by simp) (by simp) (by simp) (by simp) ?_
    simp
    refine callRd rfl rfl rfl rfl (l_heldKeyS_ok (l_markKeyS i_WorldKeys 1).1 1) (by simp) (by simp) (by simp) ?_
    simp
    refine condR (c := (decide ((l_heldKeyS (l_markKeyS i_WorldKeys 1).1 1) < 0))) (by simp) (fun k2 h2 => ?_) (fun k2 h2 => ?_)
    · have q2 := h2; try simp at q2
      simp
      refine retRd (rv := [.tmp 0]) rfl ?_
      have f2 := l_FnExactWorldKeys.eq_1
      simp only [h1, h2, cond_true, cond_false] at f2
      simp [f2]
    · have q2 := h2; try simp at q2
      simp
      refine condR (c := ((l_heldKeyS (l_markKeyS i_WorldKeys 1).1 1) != (l_markKeyS i_WorldKeys 1).2)) (by simp) (fun k3 h3 => ?_) (fun k3 h3 => ?_)
      · have q3 := h3; try simp at q3
        simp
        refine retRd (rv := [.tmp 0]) rfl ?_
        have f3 := l_FnExactWorldKeys.eq_1
        simp only [h1, h2, h3, cond_true, cond_false] at f3
        simp [f3]
      · have q3 := h3; try simp at q3
        simp
        refine callRd rfl rfl rfl rfl (SoundD.rd (i_WorldKeys_ok)) (by simp) (by simp) (by simp) ?_
        simp
        refine callRd rfl rfl rfl rfl (l_eqKeyS_ok i_WorldKeys s_WorldKeys) (by simp) (by simp) (by simp) ?_
        simp
        refine condR (c := (!(l_eqKeyS i_WorldKeys s_WorldKeys))) (by simp) (fun k4 h4 => ?_) (fun k4 h4 => ?_)
        · have q4 := h4; try simp at q4
          exact absurd (h1.symm.trans h4) (by decide)
        · have q4 := h4; try simp at q4
          simp
          refine callRd rfl rfl rfl rfl (l_heldKeyS_ok (l_markKeyS i_WorldKeys 1).1 1) (by simp) (by simp) (by simp) ?_
          simp
          refine condR (c := (decide ((l_heldKeyS (l_markKeyS i_WorldKeys 1).1 1) < 0))) (by simp) (fun k5 h5 => ?_) (fun k5 h5 => ?_)
          · have q5 := h5; try simp at q5
            exact absurd (h2.symm.trans h5) (by decide)
          · have q5 := h5; try simp at q5
            simp
            refine condR (c := ((l_heldKeyS (l_markKeyS i_WorldKeys 1).1 1) != (l_markKeyS i_WorldKeys 1).2)) (by simp) (fun k6 h6 => ?_) (fun k6 h6 => ?_)
            · have q6 := h6; try simp at q6
              exact absurd (h3.symm.trans h6) (by decide)
            · have q6 := h6; try simp at q6
              simp
              refine retRd (rv := [.tmp 0]) rfl ?_
              have f7 := l_FnExactWorldKeys.eq_1
              simp only [h1, h2, h3, h4, h5, h6, cond_true, cond_false] at f7
              simp [f7]
end Go.Proofs.Ytoeokngpoibldaa
