/- Rows of the parameters' types are the rows of typed data. No condition. -/
import Derived.Test.YtejeomggohkclaaMo
import Derived.Test.YtejeomggohkclaaTy
namespace Go.Proofs.Ytejeomggohkclaa
open Go.Vm Go.Mo
set_option maxRecDepth 100000
set_option linter.unusedSimpArgs false
set_option linter.unusedVariables false
theorem dec3 {n : Nat} {row : List D} (h : TyR Try.prog (n + 1) 3 row) : ∃ x : Int, row = iR x ∧ Sm maxLen x := by
  rw [TyR, Try.underlying3] at h
  dsimp only at h
  obtain ⟨m, rfl, _⟩ := h; exact ⟨m, rfl, trivial⟩
theorem dec9 {n : Nat} {row : List D} (h : TyR Try.prog (n + 1) 9 row) : ∃ x : ByteArray, row = sR x ∧ Sm maxLen x := by
  rw [TyR, Try.underlying9] at h
  dsimp only at h
  obtain ⟨s, rfl, hs⟩ := h; exact ⟨s, rfl, hs⟩
theorem dec31 {n : Nat} {row : List D} (h : TyR Try.prog (n + 2) 31 row) : ∃ x : List ByteArray, row = (slR 1 sR) x ∧ Sm maxLen x := by
  rw [TyR, Try.underlying31] at h
  dsimp only at h
  obtain ⟨rows, rfl, hl, hr⟩ := h
  obtain ⟨l, rfl, hs⟩ := rows_dec (f := sR) (n := maxLen) (fun r hr' => dec9 (n := n + 0) (hr r hr').1)
  exact ⟨l, by simp, ⟨by simpa using hl, hs⟩⟩
theorem dec29 {n : Nat} {row : List D} (h : TyR Try.prog (n + 2) 29 row) : ∃ x : List Int, row = (slR 1 iR) x ∧ Sm maxLen x := by
  rw [TyR, Try.underlying29] at h
  dsimp only at h
  obtain ⟨rows, rfl, hl, hr⟩ := h
  obtain ⟨l, rfl, hs⟩ := rows_dec (f := iR) (n := maxLen) (fun r hr' => dec3 (n := n + 0) (hr r hr').1)
  exact ⟨l, by simp, ⟨by simpa using hl, hs⟩⟩
theorem dec81 {n : Nat} {row : List D} (h : TyR Try.prog (n + 3) 81 row) : ∃ x : TDocument, row = TDocument.row x ∧ Sm maxLen x := by
  rw [TyR, Try.underlying81] at h
  dsimp only at h
  obtain ⟨hl, hf⟩ := h
  simp only [List.mem_cons, List.not_mem_nil, or_false, forall_eq_or_imp, forall_eq, ce3, ce29, ce31] at hf
  rw [ce81] at hl
  obtain ⟨x0, e0, s0⟩ := dec3 (n := n + 1) hf.1
  obtain ⟨x1, e1, s1⟩ := dec31 (n := n + 0) hf.2.1
  obtain ⟨x2, e2, s2⟩ := dec29 (n := n + 0) hf.2.2
  refine ⟨⟨x0, x1, x2⟩, ?_, ⟨s1, s2⟩⟩
  rw [← List.drop_zero (l := row), drop_cut row 0 1, e0, drop_cut row 1 1, e1, drop_cut row 2 1, e2, List.drop_eq_nil_of_le (by omega)]
  rfl
theorem dec122 {n : Nat} {row : List D} (h : TyR Try.prog (n + 4) 122 row) : ∃ x : TEvent, row = TEvent.row x ∧ Sm maxLen x := by
  rw [TyR, Try.underlying122] at h
  dsimp only at h
  obtain ⟨hl, hf⟩ := h
  simp only [List.mem_cons, List.not_mem_nil, or_false, forall_eq_or_imp, forall_eq, ce3, ce29, ce81] at hf
  rw [ce122] at hl
  obtain ⟨x0, e0, s0⟩ := dec3 (n := n + 2) hf.1
  obtain ⟨x1, e1, s1⟩ := dec3 (n := n + 2) hf.2.1
  obtain ⟨x2, e2, s2⟩ := dec3 (n := n + 2) hf.2.2.1
  obtain ⟨x3, e3, s3⟩ := dec3 (n := n + 2) hf.2.2.2.1
  obtain ⟨x4, e4, s4⟩ := dec3 (n := n + 2) hf.2.2.2.2.1
  obtain ⟨x5, e5, s5⟩ := dec81 (n := n + 0) hf.2.2.2.2.2.1
  obtain ⟨x6, e6, s6⟩ := dec29 (n := n + 1) hf.2.2.2.2.2.2
  refine ⟨⟨x0, x1, x2, x3, x4, x5, x6⟩, ?_, ⟨s5, s6⟩⟩
  rw [← List.drop_zero (l := row), drop_cut row 0 1, e0, drop_cut row 1 1, e1, drop_cut row 2 1, e2, drop_cut row 3 1, e3, drop_cut row 4 1, e4, drop_cut row 5 3, e5, drop_cut row 8 1, e6, List.drop_eq_nil_of_le (by omega)]
  rfl
theorem dec22 {n : Nat} {row : List D} (h : TyR Try.prog (n + 5) 22 row) : ∃ x : List TEvent, row = (slR 9 TEvent.row) x ∧ Sm maxLen x := by
  rw [TyR, Try.underlying22] at h
  dsimp only at h
  obtain ⟨rows, rfl, hl, hr⟩ := h
  obtain ⟨l, rfl, hs⟩ := rows_dec (f := TEvent.row) (n := maxLen) (fun r hr' => dec122 (n := n + 0) (hr r hr').1)
  exact ⟨l, by simp, ⟨by simpa using hl, hs⟩⟩
theorem dec4 {n : Nat} {row : List D} (h : TyR Try.prog (n + 1) 4 row) : ∃ x : Bool, row = lR x ∧ Sm maxLen x := by
  rw [TyR, Try.underlying4] at h
  dsimp only at h
  obtain ⟨b, rfl⟩ := h; exact ⟨b, rfl, trivial⟩
theorem dec30 {n : Nat} {row : List D} (h : TyR Try.prog (n + 2) 30 row) : ∃ x : List Bool, row = (slR 1 lR) x ∧ Sm maxLen x := by
  rw [TyR, Try.underlying30] at h
  dsimp only at h
  obtain ⟨rows, rfl, hl, hr⟩ := h
  obtain ⟨l, rfl, hs⟩ := rows_dec (f := lR) (n := maxLen) (fun r hr' => dec4 (n := n + 0) (hr r hr').1)
  exact ⟨l, by simp, ⟨by simpa using hl, hs⟩⟩
theorem dec32 {n : Nat} {row : List D} (h : TyR Try.prog (n + 3) 32 row) : ∃ x : List (List Int), row = (slR 1 (slR 1 iR)) x ∧ Sm maxLen x := by
  rw [TyR, Try.underlying32] at h
  dsimp only at h
  obtain ⟨rows, rfl, hl, hr⟩ := h
  obtain ⟨l, rfl, hs⟩ := rows_dec (f := (slR 1 iR)) (n := maxLen) (fun r hr' => dec29 (n := n + 0) (hr r hr').1)
  exact ⟨l, by simp, ⟨by simpa using hl, hs⟩⟩
theorem dec34 {n : Nat} {row : List D} (h : TyR Try.prog (n + 4) 34 row) : ∃ x : TRedacted, row = TRedacted.row x ∧ Sm maxLen x := by
  rw [TyR, Try.underlying34] at h
  dsimp only at h
  obtain ⟨hl, hf⟩ := h
  simp only [List.mem_cons, List.not_mem_nil, or_false, forall_eq_or_imp, forall_eq, ce3, ce29, ce30, ce31, ce32] at hf
  rw [ce34] at hl
  obtain ⟨x0, e0, s0⟩ := dec3 (n := n + 2) hf.1
  obtain ⟨x1, e1, s1⟩ := dec29 (n := n + 1) hf.2.1
  obtain ⟨x2, e2, s2⟩ := dec30 (n := n + 1) hf.2.2.1
  obtain ⟨x3, e3, s3⟩ := dec31 (n := n + 1) hf.2.2.2.1
  obtain ⟨x4, e4, s4⟩ := dec29 (n := n + 1) hf.2.2.2.2.1
  obtain ⟨x5, e5, s5⟩ := dec32 (n := n + 0) hf.2.2.2.2.2
  refine ⟨⟨x0, x1, x2, x3, x4, x5⟩, ?_, ⟨s1, s2, s3, s4, s5⟩⟩
  rw [← List.drop_zero (l := row), drop_cut row 0 1, e0, drop_cut row 1 1, e1, drop_cut row 2 1, e2, drop_cut row 3 1, e3, drop_cut row 4 1, e4, drop_cut row 5 1, e5, List.drop_eq_nil_of_le (by omega)]
  rfl
theorem dec193 {n : Nat} {row : List D} (h : TyR Try.prog (n + 2) 193 row) : ∃ x : TKey, row = TKey.row x ∧ Sm maxLen x := by
  rw [TyR, Try.underlying193] at h
  dsimp only at h
  obtain ⟨hl, hf⟩ := h
  simp only [List.mem_cons, List.not_mem_nil, or_false, forall_eq_or_imp, forall_eq, ce3] at hf
  rw [ce193] at hl
  obtain ⟨x0, e0, s0⟩ := dec3 (n := n + 0) hf.1
  obtain ⟨x1, e1, s1⟩ := dec3 (n := n + 0) hf.2.1
  obtain ⟨x2, e2, s2⟩ := dec3 (n := n + 0) hf.2.2.1
  obtain ⟨x3, e3, s3⟩ := dec3 (n := n + 0) hf.2.2.2.1
  obtain ⟨x4, e4, s4⟩ := dec3 (n := n + 0) hf.2.2.2.2
  refine ⟨⟨x0, x1, x2, x3, x4⟩, ?_, trivial⟩
  rw [← List.drop_zero (l := row), drop_cut row 0 1, e0, drop_cut row 1 1, e1, drop_cut row 2 1, e2, drop_cut row 3 1, e3, drop_cut row 4 1, e4, List.drop_eq_nil_of_le (by omega)]
  rfl
theorem dec41 {n : Nat} {row : List D} (h : TyR Try.prog (n + 3) 41 row) : ∃ x : List TKey, row = (slR 5 TKey.row) x ∧ Sm maxLen x := by
  rw [TyR, Try.underlying41] at h
  dsimp only at h
  obtain ⟨rows, rfl, hl, hr⟩ := h
  obtain ⟨l, rfl, hs⟩ := rows_dec (f := TKey.row) (n := maxLen) (fun r hr' => dec193 (n := n + 0) (hr r hr').1)
  exact ⟨l, by simp, ⟨by simpa using hl, hs⟩⟩
theorem dec197 {n : Nat} {row : List D} (h : TyR Try.prog (n + 2) 197 row) : ∃ x : TAuthority, row = TAuthority.row x ∧ Sm maxLen x := by
  rw [TyR, Try.underlying197] at h
  dsimp only at h
  obtain ⟨hl, hf⟩ := h
  simp only [List.mem_cons, List.not_mem_nil, or_false, forall_eq_or_imp, forall_eq, ce3] at hf
  rw [ce197] at hl
  obtain ⟨x0, e0, s0⟩ := dec3 (n := n + 0) hf.1
  obtain ⟨x1, e1, s1⟩ := dec3 (n := n + 0) hf.2.1
  obtain ⟨x2, e2, s2⟩ := dec3 (n := n + 0) hf.2.2
  refine ⟨⟨x0, x1, x2⟩, ?_, trivial⟩
  rw [← List.drop_zero (l := row), drop_cut row 0 1, e0, drop_cut row 1 1, e1, drop_cut row 2 1, e2, List.drop_eq_nil_of_le (by omega)]
  rfl
theorem dec42 {n : Nat} {row : List D} (h : TyR Try.prog (n + 3) 42 row) : ∃ x : List TAuthority, row = (slR 3 TAuthority.row) x ∧ Sm maxLen x := by
  rw [TyR, Try.underlying42] at h
  dsimp only at h
  obtain ⟨rows, rfl, hl, hr⟩ := h
  obtain ⟨l, rfl, hs⟩ := rows_dec (f := TAuthority.row) (n := maxLen) (fun r hr' => dec197 (n := n + 0) (hr r hr').1)
  exact ⟨l, by simp, ⟨by simpa using hl, hs⟩⟩
theorem dec199 {n : Nat} {row : List D} (h : TyR Try.prog (n + 2) 199 row) : ∃ x : TMethod, row = TMethod.row x ∧ Sm maxLen x := by
  rw [TyR, Try.underlying199] at h
  dsimp only at h
  obtain ⟨hl, hf⟩ := h
  simp only [List.mem_cons, List.not_mem_nil, or_false, forall_eq_or_imp, forall_eq, ce3] at hf
  rw [ce199] at hl
  obtain ⟨x0, e0, s0⟩ := dec3 (n := n + 0) hf.1
  obtain ⟨x1, e1, s1⟩ := dec3 (n := n + 0) hf.2.1
  obtain ⟨x2, e2, s2⟩ := dec3 (n := n + 0) hf.2.2.1
  obtain ⟨x3, e3, s3⟩ := dec3 (n := n + 0) hf.2.2.2
  refine ⟨⟨x0, x1, x2, x3⟩, ?_, trivial⟩
  rw [← List.drop_zero (l := row), drop_cut row 0 1, e0, drop_cut row 1 1, e1, drop_cut row 2 1, e2, drop_cut row 3 1, e3, List.drop_eq_nil_of_le (by omega)]
  rfl
theorem dec43 {n : Nat} {row : List D} (h : TyR Try.prog (n + 3) 43 row) : ∃ x : List TMethod, row = (slR 4 TMethod.row) x ∧ Sm maxLen x := by
  rw [TyR, Try.underlying43] at h
  dsimp only at h
  obtain ⟨rows, rfl, hl, hr⟩ := h
  obtain ⟨l, rfl, hs⟩ := rows_dec (f := TMethod.row) (n := maxLen) (fun r hr' => dec199 (n := n + 0) (hr r hr').1)
  exact ⟨l, by simp, ⟨by simpa using hl, hs⟩⟩
theorem dec45 {n : Nat} {row : List D} (h : TyR Try.prog (n + 4) 45 row) : ∃ x : TFrame, row = TFrame.row x ∧ Sm maxLen x := by
  rw [TyR, Try.underlying45] at h
  dsimp only at h
  obtain ⟨hl, hf⟩ := h
  simp only [List.mem_cons, List.not_mem_nil, or_false, forall_eq_or_imp, forall_eq, ce3, ce41, ce42, ce43] at hf
  rw [ce45] at hl
  obtain ⟨x0, e0, s0⟩ := dec41 (n := n + 0) hf.1
  obtain ⟨x1, e1, s1⟩ := dec42 (n := n + 0) hf.2.1
  obtain ⟨x2, e2, s2⟩ := dec43 (n := n + 0) hf.2.2.1
  obtain ⟨x3, e3, s3⟩ := dec3 (n := n + 2) hf.2.2.2.1
  obtain ⟨x4, e4, s4⟩ := dec3 (n := n + 2) hf.2.2.2.2
  refine ⟨⟨x0, x1, x2, x3, x4⟩, ?_, ⟨s0, s1, s2⟩⟩
  rw [← List.drop_zero (l := row), drop_cut row 0 1, e0, drop_cut row 1 1, e1, drop_cut row 2 1, e2, drop_cut row 3 1, e3, drop_cut row 4 1, e4, List.drop_eq_nil_of_le (by omega)]
  rfl
theorem dec204 {n : Nat} {row : List D} (h : TyR Try.prog (n + 3) 204 row) : ∃ x : TPiece, row = TPiece.row x ∧ Sm maxLen x := by
  rw [TyR, Try.underlying204] at h
  dsimp only at h
  obtain ⟨hl, hf⟩ := h
  simp only [List.mem_cons, List.not_mem_nil, or_false, forall_eq_or_imp, forall_eq, ce3, ce29] at hf
  rw [ce204] at hl
  obtain ⟨x0, e0, s0⟩ := dec3 (n := n + 1) hf.1
  obtain ⟨x1, e1, s1⟩ := dec29 (n := n + 0) hf.2.1
  obtain ⟨x2, e2, s2⟩ := dec3 (n := n + 1) hf.2.2
  refine ⟨⟨x0, x1, x2⟩, ?_, s1⟩
  rw [← List.drop_zero (l := row), drop_cut row 0 1, e0, drop_cut row 1 1, e1, drop_cut row 2 1, e2, List.drop_eq_nil_of_le (by omega)]
  rfl
theorem dec56 {n : Nat} {row : List D} (h : TyR Try.prog (n + 4) 56 row) : ∃ x : List TPiece, row = (slR 3 TPiece.row) x ∧ Sm maxLen x := by
  rw [TyR, Try.underlying56] at h
  dsimp only at h
  obtain ⟨rows, rfl, hl, hr⟩ := h
  obtain ⟨l, rfl, hs⟩ := rows_dec (f := TPiece.row) (n := maxLen) (fun r hr' => dec204 (n := n + 0) (hr r hr').1)
  exact ⟨l, by simp, ⟨by simpa using hl, hs⟩⟩
theorem dec233 {n : Nat} {row : List D} (h : TyR Try.prog (n + 2) 233 row) : ∃ x : TStep, row = TStep.row x ∧ Sm maxLen x := by
  rw [TyR, Try.underlying233] at h
  dsimp only at h
  obtain ⟨hl, hf⟩ := h
  simp only [List.mem_cons, List.not_mem_nil, or_false, forall_eq_or_imp, forall_eq, ce3, ce4] at hf
  rw [ce233] at hl
  obtain ⟨x0, e0, s0⟩ := dec3 (n := n + 0) hf.1
  obtain ⟨x1, e1, s1⟩ := dec4 (n := n + 0) hf.2
  refine ⟨⟨x0, x1⟩, ?_, trivial⟩
  rw [← List.drop_zero (l := row), drop_cut row 0 1, e0, drop_cut row 1 1, e1, List.drop_eq_nil_of_le (by omega)]
  rfl
theorem dec206 {n : Nat} {row : List D} (h : TyR Try.prog (n + 3) 206 row) : ∃ x : List TStep, row = (slR 2 TStep.row) x ∧ Sm maxLen x := by
  rw [TyR, Try.underlying206] at h
  dsimp only at h
  obtain ⟨rows, rfl, hl, hr⟩ := h
  obtain ⟨l, rfl, hs⟩ := rows_dec (f := TStep.row) (n := maxLen) (fun r hr' => dec233 (n := n + 0) (hr r hr').1)
  exact ⟨l, by simp, ⟨by simpa using hl, hs⟩⟩
theorem dec235 {n : Nat} {row : List D} (h : TyR Try.prog (n + 2) 235 row) : ∃ x : TStamp, row = TStamp.row x ∧ Sm maxLen x := by
  rw [TyR, Try.underlying235] at h
  dsimp only at h
  obtain ⟨hl, hf⟩ := h
  simp only [List.mem_cons, List.not_mem_nil, or_false, forall_eq_or_imp, forall_eq, ce3] at hf
  rw [ce235] at hl
  obtain ⟨x0, e0, s0⟩ := dec3 (n := n + 0) hf.1
  obtain ⟨x1, e1, s1⟩ := dec3 (n := n + 0) hf.2.1
  obtain ⟨x2, e2, s2⟩ := dec3 (n := n + 0) hf.2.2.1
  obtain ⟨x3, e3, s3⟩ := dec3 (n := n + 0) hf.2.2.2.1
  obtain ⟨x4, e4, s4⟩ := dec3 (n := n + 0) hf.2.2.2.2
  refine ⟨⟨x0, x1, x2, x3, x4⟩, ?_, trivial⟩
  rw [← List.drop_zero (l := row), drop_cut row 0 1, e0, drop_cut row 1 1, e1, drop_cut row 2 1, e2, drop_cut row 3 1, e3, drop_cut row 4 1, e4, List.drop_eq_nil_of_le (by omega)]
  rfl
theorem dec207 {n : Nat} {row : List D} (h : TyR Try.prog (n + 3) 207 row) : ∃ x : List TStamp, row = (slR 5 TStamp.row) x ∧ Sm maxLen x := by
  rw [TyR, Try.underlying207] at h
  dsimp only at h
  obtain ⟨rows, rfl, hl, hr⟩ := h
  obtain ⟨l, rfl, hs⟩ := rows_dec (f := TStamp.row) (n := maxLen) (fun r hr' => dec235 (n := n + 0) (hr r hr').1)
  exact ⟨l, by simp, ⟨by simpa using hl, hs⟩⟩
theorem dec209 {n : Nat} {row : List D} (h : TyR Try.prog (n + 4) 209 row) : ∃ x : TRenewal, row = TRenewal.row x ∧ Sm maxLen x := by
  rw [TyR, Try.underlying209] at h
  dsimp only at h
  obtain ⟨hl, hf⟩ := h
  simp only [List.mem_cons, List.not_mem_nil, or_false, forall_eq_or_imp, forall_eq, ce3, ce206, ce207] at hf
  rw [ce209] at hl
  obtain ⟨x0, e0, s0⟩ := dec3 (n := n + 2) hf.1
  obtain ⟨x1, e1, s1⟩ := dec3 (n := n + 2) hf.2.1
  obtain ⟨x2, e2, s2⟩ := dec3 (n := n + 2) hf.2.2.1
  obtain ⟨x3, e3, s3⟩ := dec206 (n := n + 0) hf.2.2.2.1
  obtain ⟨x4, e4, s4⟩ := dec207 (n := n + 0) hf.2.2.2.2
  refine ⟨⟨x0, x1, x2, x3, x4⟩, ?_, ⟨s3, s4⟩⟩
  rw [← List.drop_zero (l := row), drop_cut row 0 1, e0, drop_cut row 1 1, e1, drop_cut row 2 1, e2, drop_cut row 3 1, e3, drop_cut row 4 1, e4, List.drop_eq_nil_of_le (by omega)]
  rfl
theorem dec57 {n : Nat} {row : List D} (h : TyR Try.prog (n + 5) 57 row) : ∃ x : List TRenewal, row = (slR 5 TRenewal.row) x ∧ Sm maxLen x := by
  rw [TyR, Try.underlying57] at h
  dsimp only at h
  obtain ⟨rows, rfl, hl, hr⟩ := h
  obtain ⟨l, rfl, hs⟩ := rows_dec (f := TRenewal.row) (n := maxLen) (fun r hr' => dec209 (n := n + 0) (hr r hr').1)
  exact ⟨l, by simp, ⟨by simpa using hl, hs⟩⟩
theorem dec59 {n : Nat} {row : List D} (h : TyR Try.prog (n + 6) 59 row) : ∃ x : TStrand, row = TStrand.row x ∧ Sm maxLen x := by
  rw [TyR, Try.underlying59] at h
  dsimp only at h
  obtain ⟨hl, hf⟩ := h
  simp only [List.mem_cons, List.not_mem_nil, or_false, forall_eq_or_imp, forall_eq, ce56, ce57] at hf
  rw [ce59] at hl
  obtain ⟨x0, e0, s0⟩ := dec56 (n := n + 1) hf.1
  obtain ⟨x1, e1, s1⟩ := dec57 (n := n + 0) hf.2
  refine ⟨⟨x0, x1⟩, ?_, ⟨s0, s1⟩⟩
  rw [← List.drop_zero (l := row), drop_cut row 0 1, e0, drop_cut row 1 1, e1, List.drop_eq_nil_of_le (by omega)]
  rfl
theorem dec83 {n : Nat} {row : List D} (h : TyR Try.prog (n + 2) 83 row) : ∃ x : TSignature, row = TSignature.row x ∧ Sm maxLen x := by
  rw [TyR, Try.underlying83] at h
  dsimp only at h
  obtain ⟨hl, hf⟩ := h
  simp only [List.mem_cons, List.not_mem_nil, or_false, forall_eq_or_imp, forall_eq, ce3] at hf
  rw [ce83] at hl
  obtain ⟨x0, e0, s0⟩ := dec3 (n := n + 0) hf.1
  obtain ⟨x1, e1, s1⟩ := dec3 (n := n + 0) hf.2.1
  obtain ⟨x2, e2, s2⟩ := dec3 (n := n + 0) hf.2.2.1
  obtain ⟨x3, e3, s3⟩ := dec3 (n := n + 0) hf.2.2.2.1
  obtain ⟨x4, e4, s4⟩ := dec3 (n := n + 0) hf.2.2.2.2.1
  obtain ⟨x5, e5, s5⟩ := dec3 (n := n + 0) hf.2.2.2.2.2.1
  obtain ⟨x6, e6, s6⟩ := dec3 (n := n + 0) hf.2.2.2.2.2.2.1
  obtain ⟨x7, e7, s7⟩ := dec3 (n := n + 0) hf.2.2.2.2.2.2.2.1
  obtain ⟨x8, e8, s8⟩ := dec3 (n := n + 0) hf.2.2.2.2.2.2.2.2
  refine ⟨⟨x0, x1, x2, x3, x4, x5, x6, x7, x8⟩, ?_, trivial⟩
  rw [← List.drop_zero (l := row), drop_cut row 0 1, e0, drop_cut row 1 1, e1, drop_cut row 2 1, e2, drop_cut row 3 1, e3, drop_cut row 4 1, e4, drop_cut row 5 1, e5, drop_cut row 6 1, e6, drop_cut row 7 1, e7, drop_cut row 8 1, e8, List.drop_eq_nil_of_le (by omega)]
  rfl
theorem dec85 {n : Nat} {row : List D} (h : TyR Try.prog (n + 7) 85 row) : ∃ x : TItem, row = TItem.row x ∧ Sm maxLen x := by
  rw [TyR, Try.underlying85] at h
  dsimp only at h
  obtain ⟨hl, hf⟩ := h
  simp only [List.mem_cons, List.not_mem_nil, or_false, forall_eq_or_imp, forall_eq, ce3, ce59, ce81, ce83] at hf
  rw [ce85] at hl
  obtain ⟨x0, e0, s0⟩ := dec3 (n := n + 5) hf.1
  obtain ⟨x1, e1, s1⟩ := dec3 (n := n + 5) hf.2.1
  obtain ⟨x2, e2, s2⟩ := dec81 (n := n + 3) hf.2.2.1
  obtain ⟨x3, e3, s3⟩ := dec83 (n := n + 4) hf.2.2.2.1
  obtain ⟨x4, e4, s4⟩ := dec59 (n := n + 0) hf.2.2.2.2
  refine ⟨⟨x0, x1, x2, x3, x4⟩, ?_, ⟨s2, s4⟩⟩
  rw [← List.drop_zero (l := row), drop_cut row 0 1, e0, drop_cut row 1 1, e1, drop_cut row 2 3, e2, drop_cut row 5 9, e3, drop_cut row 14 2, e4, List.drop_eq_nil_of_le (by omega)]
  rfl
theorem dec69 {n : Nat} {row : List D} (h : TyR Try.prog (n + 8) 69 row) : ∃ x : List TItem, row = (slR 16 TItem.row) x ∧ Sm maxLen x := by
  rw [TyR, Try.underlying69] at h
  dsimp only at h
  obtain ⟨rows, rfl, hl, hr⟩ := h
  obtain ⟨l, rfl, hs⟩ := rows_dec (f := TItem.row) (n := maxLen) (fun r hr' => dec85 (n := n + 0) (hr r hr').1)
  exact ⟨l, by simp, ⟨by simpa using hl, hs⟩⟩
theorem dec71 {n : Nat} {row : List D} (h : TyR Try.prog (n + 9) 71 row) : ∃ x : TArchive, row = TArchive.row x ∧ Sm maxLen x := by
  rw [TyR, Try.underlying71] at h
  dsimp only at h
  obtain ⟨hl, hf⟩ := h
  simp only [List.mem_cons, List.not_mem_nil, or_false, forall_eq_or_imp, forall_eq, ce3, ce69] at hf
  rw [ce71] at hl
  obtain ⟨x0, e0, s0⟩ := dec3 (n := n + 7) hf.1
  obtain ⟨x1, e1, s1⟩ := dec69 (n := n + 0) hf.2
  refine ⟨⟨x0, x1⟩, ?_, s1⟩
  rw [← List.drop_zero (l := row), drop_cut row 0 1, e0, drop_cut row 1 1, e1, List.drop_eq_nil_of_le (by omega)]
  rfl
theorem dec218 {n : Nat} {row : List D} (h : TyR Try.prog (n + 2) 218 row) : ∃ x : TCert, row = TCert.row x ∧ Sm maxLen x := by
  rw [TyR, Try.underlying218] at h
  dsimp only at h
  obtain ⟨hl, hf⟩ := h
  simp only [List.mem_cons, List.not_mem_nil, or_false, forall_eq_or_imp, forall_eq, ce3] at hf
  rw [ce218] at hl
  obtain ⟨x0, e0, s0⟩ := dec3 (n := n + 0) hf.1
  obtain ⟨x1, e1, s1⟩ := dec3 (n := n + 0) hf.2.1
  obtain ⟨x2, e2, s2⟩ := dec3 (n := n + 0) hf.2.2.1
  obtain ⟨x3, e3, s3⟩ := dec3 (n := n + 0) hf.2.2.2.1
  obtain ⟨x4, e4, s4⟩ := dec3 (n := n + 0) hf.2.2.2.2.1
  obtain ⟨x5, e5, s5⟩ := dec3 (n := n + 0) hf.2.2.2.2.2.1
  obtain ⟨x6, e6, s6⟩ := dec3 (n := n + 0) hf.2.2.2.2.2.2
  refine ⟨⟨x0, x1, x2, x3, x4, x5, x6⟩, ?_, trivial⟩
  rw [← List.drop_zero (l := row), drop_cut row 0 1, e0, drop_cut row 1 1, e1, drop_cut row 2 1, e2, drop_cut row 3 1, e3, drop_cut row 4 1, e4, drop_cut row 5 1, e5, drop_cut row 6 1, e6, List.drop_eq_nil_of_le (by omega)]
  rfl
theorem dec99 {n : Nat} {row : List D} (h : TyR Try.prog (n + 3) 99 row) : ∃ x : List TCert, row = (slR 7 TCert.row) x ∧ Sm maxLen x := by
  rw [TyR, Try.underlying99] at h
  dsimp only at h
  obtain ⟨rows, rfl, hl, hr⟩ := h
  obtain ⟨l, rfl, hs⟩ := rows_dec (f := TCert.row) (n := maxLen) (fun r hr' => dec218 (n := n + 0) (hr r hr').1)
  exact ⟨l, by simp, ⟨by simpa using hl, hs⟩⟩
theorem dec100 {n : Nat} {row : List D} (h : TyR Try.prog (n + 10) 100 row) : ∃ x : List TArchive, row = (slR 2 TArchive.row) x ∧ Sm maxLen x := by
  rw [TyR, Try.underlying100] at h
  dsimp only at h
  obtain ⟨rows, rfl, hl, hr⟩ := h
  obtain ⟨l, rfl, hs⟩ := rows_dec (f := TArchive.row) (n := maxLen) (fun r hr' => dec71 (n := n + 0) (hr r hr').1)
  exact ⟨l, by simp, ⟨by simpa using hl, hs⟩⟩
theorem dec102 {n : Nat} {row : List D} (h : TyR Try.prog (n + 11) 102 row) : ∃ x : TWorld, row = TWorld.row x ∧ Sm maxLen x := by
  rw [TyR, Try.underlying102] at h
  dsimp only at h
  obtain ⟨hl, hf⟩ := h
  simp only [List.mem_cons, List.not_mem_nil, or_false, forall_eq_or_imp, forall_eq, ce3, ce29, ce45, ce99, ce100] at hf
  rw [ce102] at hl
  obtain ⟨x0, e0, s0⟩ := dec45 (n := n + 6) hf.1
  obtain ⟨x1, e1, s1⟩ := dec99 (n := n + 7) hf.2.1
  obtain ⟨x2, e2, s2⟩ := dec29 (n := n + 8) hf.2.2.1
  obtain ⟨x3, e3, s3⟩ := dec100 (n := n + 0) hf.2.2.2.1
  obtain ⟨x4, e4, s4⟩ := dec29 (n := n + 8) hf.2.2.2.2.1
  obtain ⟨x5, e5, s5⟩ := dec29 (n := n + 8) hf.2.2.2.2.2.1
  obtain ⟨x6, e6, s6⟩ := dec3 (n := n + 9) hf.2.2.2.2.2.2.1
  obtain ⟨x7, e7, s7⟩ := dec29 (n := n + 8) hf.2.2.2.2.2.2.2
  refine ⟨⟨x0, x1, x2, x3, x4, x5, x6, x7⟩, ?_, ⟨s0, s1, s2, s3, s4, s5, s7⟩⟩
  rw [← List.drop_zero (l := row), drop_cut row 0 5, e0, drop_cut row 5 1, e1, drop_cut row 6 1, e2, drop_cut row 7 1, e3, drop_cut row 8 1, e4, drop_cut row 9 1, e5, drop_cut row 10 1, e6, drop_cut row 11 1, e7, List.drop_eq_nil_of_le (by omega)]
  rfl
end Go.Proofs.Ytejeomggohkclaa
