/- Rows of the parameters' types are the rows of typed data. No condition. -/
import Derived.Test.YtoeokngpoibldaaMo
import Derived.Test.YtoeokngpoibldaaTy
namespace Go.Proofs.Ytoeokngpoibldaa
open Go.Vm Go.Mo
set_option maxRecDepth 100000
set_option linter.unusedSimpArgs false
set_option linter.unusedVariables false
theorem dec3 {n : Nat} {row : List D} (h : TyR Try.prog (n + 1) 3 row) : ∃ x : Int, row = iR x ∧ Sm maxLen x := by
  rw [TyR, Try.underlying3] at h
  dsimp only at h
  obtain ⟨m, rfl, _⟩ := h; exact ⟨m, rfl, trivial⟩
theorem dec27 {n : Nat} {row : List D} (h : TyR Try.prog (n + 2) 27 row) : ∃ x : TStamp, row = TStamp.row x ∧ Sm maxLen x := by
  rw [TyR, Try.underlying27] at h
  dsimp only at h
  obtain ⟨hl, hf⟩ := h
  simp only [List.mem_cons, List.not_mem_nil, or_false, forall_eq_or_imp, forall_eq, ce3] at hf
  rw [ce27] at hl
  obtain ⟨x0, e0, s0⟩ := dec3 (n := n + 0) hf.1
  obtain ⟨x1, e1, s1⟩ := dec3 (n := n + 0) hf.2.1
  obtain ⟨x2, e2, s2⟩ := dec3 (n := n + 0) hf.2.2.1
  obtain ⟨x3, e3, s3⟩ := dec3 (n := n + 0) hf.2.2.2.1
  obtain ⟨x4, e4, s4⟩ := dec3 (n := n + 0) hf.2.2.2.2
  refine ⟨⟨x0, x1, x2, x3, x4⟩, ?_, trivial⟩
  rw [← List.drop_zero (l := row), drop_cut row 0 1, e0, drop_cut row 1 1, e1, drop_cut row 2 1, e2, drop_cut row 3 1, e3, drop_cut row 4 1, e4, List.drop_eq_nil_of_le (by omega)]
  rfl
theorem dec4 {n : Nat} {row : List D} (h : TyR Try.prog (n + 1) 4 row) : ∃ x : Bool, row = lR x ∧ Sm maxLen x := by
  rw [TyR, Try.underlying4] at h
  dsimp only at h
  obtain ⟨b, rfl⟩ := h; exact ⟨b, rfl, trivial⟩
theorem dec93 {n : Nat} {row : List D} (h : TyR Try.prog (n + 2) 93 row) : ∃ x : TStep, row = TStep.row x ∧ Sm maxLen x := by
  rw [TyR, Try.underlying93] at h
  dsimp only at h
  obtain ⟨hl, hf⟩ := h
  simp only [List.mem_cons, List.not_mem_nil, or_false, forall_eq_or_imp, forall_eq, ce3, ce4] at hf
  rw [ce93] at hl
  obtain ⟨x0, e0, s0⟩ := dec3 (n := n + 0) hf.1
  obtain ⟨x1, e1, s1⟩ := dec4 (n := n + 0) hf.2
  refine ⟨⟨x0, x1⟩, ?_, trivial⟩
  rw [← List.drop_zero (l := row), drop_cut row 0 1, e0, drop_cut row 1 1, e1, List.drop_eq_nil_of_le (by omega)]
  rfl
theorem dec41 {n : Nat} {row : List D} (h : TyR Try.prog (n + 3) 41 row) : ∃ x : List TStep, row = (slR 2 TStep.row) x ∧ Sm maxLen x := by
  rw [TyR, Try.underlying41] at h
  dsimp only at h
  obtain ⟨rows, rfl, hl, hr⟩ := h
  obtain ⟨l, rfl, hs⟩ := rows_dec (f := TStep.row) (n := maxLen) (fun r hr' => dec93 (n := n + 0) (hr r hr').1)
  exact ⟨l, by simp, ⟨by simpa using hl, hs⟩⟩
theorem dec42 {n : Nat} {row : List D} (h : TyR Try.prog (n + 3) 42 row) : ∃ x : List TStamp, row = (slR 5 TStamp.row) x ∧ Sm maxLen x := by
  rw [TyR, Try.underlying42] at h
  dsimp only at h
  obtain ⟨rows, rfl, hl, hr⟩ := h
  obtain ⟨l, rfl, hs⟩ := rows_dec (f := TStamp.row) (n := maxLen) (fun r hr' => dec27 (n := n + 0) (hr r hr').1)
  exact ⟨l, by simp, ⟨by simpa using hl, hs⟩⟩
theorem dec44 {n : Nat} {row : List D} (h : TyR Try.prog (n + 4) 44 row) : ∃ x : TRenewal, row = TRenewal.row x ∧ Sm maxLen x := by
  rw [TyR, Try.underlying44] at h
  dsimp only at h
  obtain ⟨hl, hf⟩ := h
  simp only [List.mem_cons, List.not_mem_nil, or_false, forall_eq_or_imp, forall_eq, ce3, ce41, ce42] at hf
  rw [ce44] at hl
  obtain ⟨x0, e0, s0⟩ := dec3 (n := n + 2) hf.1
  obtain ⟨x1, e1, s1⟩ := dec3 (n := n + 2) hf.2.1
  obtain ⟨x2, e2, s2⟩ := dec3 (n := n + 2) hf.2.2.1
  obtain ⟨x3, e3, s3⟩ := dec41 (n := n + 0) hf.2.2.2.1
  obtain ⟨x4, e4, s4⟩ := dec42 (n := n + 0) hf.2.2.2.2
  refine ⟨⟨x0, x1, x2, x3, x4⟩, ?_, ⟨s3, s4⟩⟩
  rw [← List.drop_zero (l := row), drop_cut row 0 1, e0, drop_cut row 1 1, e1, drop_cut row 2 1, e2, drop_cut row 3 1, e3, drop_cut row 4 1, e4, List.drop_eq_nil_of_le (by omega)]
  rfl
theorem dec9 {n : Nat} {row : List D} (h : TyR Try.prog (n + 1) 9 row) : ∃ x : ByteArray, row = sR x ∧ Sm maxLen x := by
  rw [TyR, Try.underlying9] at h
  dsimp only at h
  obtain ⟨s, rfl, hs⟩ := h; exact ⟨s, rfl, hs⟩
theorem dec62 {n : Nat} {row : List D} (h : TyR Try.prog (n + 2) 62 row) : ∃ x : List ByteArray, row = (slR 1 sR) x ∧ Sm maxLen x := by
  rw [TyR, Try.underlying62] at h
  dsimp only at h
  obtain ⟨rows, rfl, hl, hr⟩ := h
  obtain ⟨l, rfl, hs⟩ := rows_dec (f := sR) (n := maxLen) (fun r hr' => dec9 (n := n + 0) (hr r hr').1)
  exact ⟨l, by simp, ⟨by simpa using hl, hs⟩⟩
theorem dec78 {n : Nat} {row : List D} (h : TyR Try.prog (n + 2) 78 row) : ∃ x : List Int, row = (slR 1 iR) x ∧ Sm maxLen x := by
  rw [TyR, Try.underlying78] at h
  dsimp only at h
  obtain ⟨rows, rfl, hl, hr⟩ := h
  obtain ⟨l, rfl, hs⟩ := rows_dec (f := iR) (n := maxLen) (fun r hr' => dec3 (n := n + 0) (hr r hr').1)
  exact ⟨l, by simp, ⟨by simpa using hl, hs⟩⟩
theorem dec80 {n : Nat} {row : List D} (h : TyR Try.prog (n + 3) 80 row) : ∃ x : TDocument, row = TDocument.row x ∧ Sm maxLen x := by
  rw [TyR, Try.underlying80] at h
  dsimp only at h
  obtain ⟨hl, hf⟩ := h
  simp only [List.mem_cons, List.not_mem_nil, or_false, forall_eq_or_imp, forall_eq, ce3, ce62, ce78] at hf
  rw [ce80] at hl
  obtain ⟨x0, e0, s0⟩ := dec3 (n := n + 1) hf.1
  obtain ⟨x1, e1, s1⟩ := dec62 (n := n + 0) hf.2.1
  obtain ⟨x2, e2, s2⟩ := dec78 (n := n + 0) hf.2.2
  refine ⟨⟨x0, x1, x2⟩, ?_, ⟨s1, s2⟩⟩
  rw [← List.drop_zero (l := row), drop_cut row 0 1, e0, drop_cut row 1 1, e1, drop_cut row 2 1, e2, List.drop_eq_nil_of_le (by omega)]
  rfl
theorem dec82 {n : Nat} {row : List D} (h : TyR Try.prog (n + 4) 82 row) : ∃ x : TEvent, row = TEvent.row x ∧ Sm maxLen x := by
  rw [TyR, Try.underlying82] at h
  dsimp only at h
  obtain ⟨hl, hf⟩ := h
  simp only [List.mem_cons, List.not_mem_nil, or_false, forall_eq_or_imp, forall_eq, ce3, ce78, ce80] at hf
  rw [ce82] at hl
  obtain ⟨x0, e0, s0⟩ := dec3 (n := n + 2) hf.1
  obtain ⟨x1, e1, s1⟩ := dec3 (n := n + 2) hf.2.1
  obtain ⟨x2, e2, s2⟩ := dec3 (n := n + 2) hf.2.2.1
  obtain ⟨x3, e3, s3⟩ := dec3 (n := n + 2) hf.2.2.2.1
  obtain ⟨x4, e4, s4⟩ := dec3 (n := n + 2) hf.2.2.2.2.1
  obtain ⟨x5, e5, s5⟩ := dec80 (n := n + 0) hf.2.2.2.2.2.1
  obtain ⟨x6, e6, s6⟩ := dec78 (n := n + 1) hf.2.2.2.2.2.2
  refine ⟨⟨x0, x1, x2, x3, x4, x5, x6⟩, ?_, ⟨s5, s6⟩⟩
  rw [← List.drop_zero (l := row), drop_cut row 0 1, e0, drop_cut row 1 1, e1, drop_cut row 2 1, e2, drop_cut row 3 1, e3, drop_cut row 4 1, e4, drop_cut row 5 3, e5, drop_cut row 8 1, e6, List.drop_eq_nil_of_le (by omega)]
  rfl
theorem dec54 {n : Nat} {row : List D} (h : TyR Try.prog (n + 5) 54 row) : ∃ x : List TEvent, row = (slR 9 TEvent.row) x ∧ Sm maxLen x := by
  rw [TyR, Try.underlying54] at h
  dsimp only at h
  obtain ⟨rows, rfl, hl, hr⟩ := h
  obtain ⟨l, rfl, hs⟩ := rows_dec (f := TEvent.row) (n := maxLen) (fun r hr' => dec82 (n := n + 0) (hr r hr').1)
  exact ⟨l, by simp, ⟨by simpa using hl, hs⟩⟩
end Go.Proofs.Ytoeokngpoibldaa
