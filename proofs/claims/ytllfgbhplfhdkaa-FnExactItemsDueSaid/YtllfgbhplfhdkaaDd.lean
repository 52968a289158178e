/- Rows of the parameters' types are the rows of typed data. No condition. -/
import Derived.Test.YtllfgbhplfhdkaaMo
import Derived.Test.YtllfgbhplfhdkaaTy
namespace Go.Proofs.Ytllfgbhplfhdkaa
open Go.Vm Go.Mo
set_option maxRecDepth 100000
set_option linter.unusedSimpArgs false
set_option linter.unusedVariables false
theorem dec3 {n : Nat} {row : List D} (h : TyR Try.prog (n + 1) 3 row) : ∃ x : Int, row = iR x ∧ Sm maxLen x := by
  rw [TyR, Try.underlying3] at h
  dsimp only at h
  obtain ⟨m, rfl, _⟩ := h; exact ⟨m, rfl, trivial⟩
theorem dec115 {n : Nat} {row : List D} (h : TyR Try.prog (n + 2) 115 row) : ∃ x : TKey, row = TKey.row x ∧ Sm maxLen x := by
  rw [TyR, Try.underlying115] at h
  dsimp only at h
  obtain ⟨hl, hf⟩ := h
  simp only [List.mem_cons, List.not_mem_nil, or_false, forall_eq_or_imp, forall_eq, ce3] at hf
  rw [ce115] at hl
  obtain ⟨x0, e0, s0⟩ := dec3 (n := n + 0) hf.1
  obtain ⟨x1, e1, s1⟩ := dec3 (n := n + 0) hf.2.1
  obtain ⟨x2, e2, s2⟩ := dec3 (n := n + 0) hf.2.2.1
  obtain ⟨x3, e3, s3⟩ := dec3 (n := n + 0) hf.2.2.2.1
  obtain ⟨x4, e4, s4⟩ := dec3 (n := n + 0) hf.2.2.2.2
  refine ⟨⟨x0, x1, x2, x3, x4⟩, ?_, trivial⟩
  rw [← List.drop_zero (l := row), drop_cut row 0 1, e0, drop_cut row 1 1, e1, drop_cut row 2 1, e2, drop_cut row 3 1, e3, drop_cut row 4 1, e4, List.drop_eq_nil_of_le (by omega)]
  rfl
theorem dec22 {n : Nat} {row : List D} (h : TyR Try.prog (n + 3) 22 row) : ∃ x : List TKey, row = (slR 5 TKey.row) x ∧ Sm maxLen x := by
  rw [TyR, Try.underlying22] at h
  dsimp only at h
  obtain ⟨rows, rfl, hl, hr⟩ := h
  obtain ⟨l, rfl, hs⟩ := rows_dec (f := TKey.row) (n := maxLen) (fun r hr' => dec115 (n := n + 0) (hr r hr').1)
  exact ⟨l, by simp, ⟨by simpa using hl, hs⟩⟩
theorem dec117 {n : Nat} {row : List D} (h : TyR Try.prog (n + 2) 117 row) : ∃ x : TAuthority, row = TAuthority.row x ∧ Sm maxLen x := by
  rw [TyR, Try.underlying117] at h
  dsimp only at h
  obtain ⟨hl, hf⟩ := h
  simp only [List.mem_cons, List.not_mem_nil, or_false, forall_eq_or_imp, forall_eq, ce3] at hf
  rw [ce117] at hl
  obtain ⟨x0, e0, s0⟩ := dec3 (n := n + 0) hf.1
  obtain ⟨x1, e1, s1⟩ := dec3 (n := n + 0) hf.2.1
  obtain ⟨x2, e2, s2⟩ := dec3 (n := n + 0) hf.2.2
  refine ⟨⟨x0, x1, x2⟩, ?_, trivial⟩
  rw [← List.drop_zero (l := row), drop_cut row 0 1, e0, drop_cut row 1 1, e1, drop_cut row 2 1, e2, List.drop_eq_nil_of_le (by omega)]
  rfl
theorem dec23 {n : Nat} {row : List D} (h : TyR Try.prog (n + 3) 23 row) : ∃ x : List TAuthority, row = (slR 3 TAuthority.row) x ∧ Sm maxLen x := by
  rw [TyR, Try.underlying23] at h
  dsimp only at h
  obtain ⟨rows, rfl, hl, hr⟩ := h
  obtain ⟨l, rfl, hs⟩ := rows_dec (f := TAuthority.row) (n := maxLen) (fun r hr' => dec117 (n := n + 0) (hr r hr').1)
  exact ⟨l, by simp, ⟨by simpa using hl, hs⟩⟩
theorem dec121 {n : Nat} {row : List D} (h : TyR Try.prog (n + 2) 121 row) : ∃ x : TMethod, row = TMethod.row x ∧ Sm maxLen x := by
  rw [TyR, Try.underlying121] at h
  dsimp only at h
  obtain ⟨hl, hf⟩ := h
  simp only [List.mem_cons, List.not_mem_nil, or_false, forall_eq_or_imp, forall_eq, ce3] at hf
  rw [ce121] at hl
  obtain ⟨x0, e0, s0⟩ := dec3 (n := n + 0) hf.1
  obtain ⟨x1, e1, s1⟩ := dec3 (n := n + 0) hf.2.1
  obtain ⟨x2, e2, s2⟩ := dec3 (n := n + 0) hf.2.2.1
  obtain ⟨x3, e3, s3⟩ := dec3 (n := n + 0) hf.2.2.2
  refine ⟨⟨x0, x1, x2, x3⟩, ?_, trivial⟩
  rw [← List.drop_zero (l := row), drop_cut row 0 1, e0, drop_cut row 1 1, e1, drop_cut row 2 1, e2, drop_cut row 3 1, e3, List.drop_eq_nil_of_le (by omega)]
  rfl
theorem dec24 {n : Nat} {row : List D} (h : TyR Try.prog (n + 3) 24 row) : ∃ x : List TMethod, row = (slR 4 TMethod.row) x ∧ Sm maxLen x := by
  rw [TyR, Try.underlying24] at h
  dsimp only at h
  obtain ⟨rows, rfl, hl, hr⟩ := h
  obtain ⟨l, rfl, hs⟩ := rows_dec (f := TMethod.row) (n := maxLen) (fun r hr' => dec121 (n := n + 0) (hr r hr').1)
  exact ⟨l, by simp, ⟨by simpa using hl, hs⟩⟩
theorem dec26 {n : Nat} {row : List D} (h : TyR Try.prog (n + 4) 26 row) : ∃ x : TFrame, row = TFrame.row x ∧ Sm maxLen x := by
  rw [TyR, Try.underlying26] at h
  dsimp only at h
  obtain ⟨hl, hf⟩ := h
  simp only [List.mem_cons, List.not_mem_nil, or_false, forall_eq_or_imp, forall_eq, ce3, ce22, ce23, ce24] at hf
  rw [ce26] at hl
  obtain ⟨x0, e0, s0⟩ := dec22 (n := n + 0) hf.1
  obtain ⟨x1, e1, s1⟩ := dec23 (n := n + 0) hf.2.1
  obtain ⟨x2, e2, s2⟩ := dec24 (n := n + 0) hf.2.2.1
  obtain ⟨x3, e3, s3⟩ := dec3 (n := n + 2) hf.2.2.2.1
  obtain ⟨x4, e4, s4⟩ := dec3 (n := n + 2) hf.2.2.2.2
  refine ⟨⟨x0, x1, x2, x3, x4⟩, ?_, ⟨s0, s1, s2⟩⟩
  rw [← List.drop_zero (l := row), drop_cut row 0 1, e0, drop_cut row 1 1, e1, drop_cut row 2 1, e2, drop_cut row 3 1, e3, drop_cut row 4 1, e4, List.drop_eq_nil_of_le (by omega)]
  rfl
theorem dec9 {n : Nat} {row : List D} (h : TyR Try.prog (n + 1) 9 row) : ∃ x : ByteArray, row = sR x ∧ Sm maxLen x := by
  rw [TyR, Try.underlying9] at h
  dsimp only at h
  obtain ⟨s, rfl, hs⟩ := h; exact ⟨s, rfl, hs⟩
theorem dec64 {n : Nat} {row : List D} (h : TyR Try.prog (n + 2) 64 row) : ∃ x : List ByteArray, row = (slR 1 sR) x ∧ Sm maxLen x := by
  rw [TyR, Try.underlying64] at h
  dsimp only at h
  obtain ⟨rows, rfl, hl, hr⟩ := h
  obtain ⟨l, rfl, hs⟩ := rows_dec (f := sR) (n := maxLen) (fun r hr' => dec9 (n := n + 0) (hr r hr').1)
  exact ⟨l, by simp, ⟨by simpa using hl, hs⟩⟩
theorem dec32 {n : Nat} {row : List D} (h : TyR Try.prog (n + 2) 32 row) : ∃ x : List Int, row = (slR 1 iR) x ∧ Sm maxLen x := by
  rw [TyR, Try.underlying32] at h
  dsimp only at h
  obtain ⟨rows, rfl, hl, hr⟩ := h
  obtain ⟨l, rfl, hs⟩ := rows_dec (f := iR) (n := maxLen) (fun r hr' => dec3 (n := n + 0) (hr r hr').1)
  exact ⟨l, by simp, ⟨by simpa using hl, hs⟩⟩
theorem dec103 {n : Nat} {row : List D} (h : TyR Try.prog (n + 3) 103 row) : ∃ x : TDocument, row = TDocument.row x ∧ Sm maxLen x := by
  rw [TyR, Try.underlying103] at h
  dsimp only at h
  obtain ⟨hl, hf⟩ := h
  simp only [List.mem_cons, List.not_mem_nil, or_false, forall_eq_or_imp, forall_eq, ce3, ce32, ce64] at hf
  rw [ce103] at hl
  obtain ⟨x0, e0, s0⟩ := dec3 (n := n + 1) hf.1
  obtain ⟨x1, e1, s1⟩ := dec64 (n := n + 0) hf.2.1
  obtain ⟨x2, e2, s2⟩ := dec32 (n := n + 0) hf.2.2
  refine ⟨⟨x0, x1, x2⟩, ?_, ⟨s1, s2⟩⟩
  rw [← List.drop_zero (l := row), drop_cut row 0 1, e0, drop_cut row 1 1, e1, drop_cut row 2 1, e2, List.drop_eq_nil_of_le (by omega)]
  rfl
theorem dec104 {n : Nat} {row : List D} (h : TyR Try.prog (n + 2) 104 row) : ∃ x : TSignature, row = TSignature.row x ∧ Sm maxLen x := by
  rw [TyR, Try.underlying104] at h
  dsimp only at h
  obtain ⟨hl, hf⟩ := h
  simp only [List.mem_cons, List.not_mem_nil, or_false, forall_eq_or_imp, forall_eq, ce3] at hf
  rw [ce104] at hl
  obtain ⟨x0, e0, s0⟩ := dec3 (n := n + 0) hf.1
  obtain ⟨x1, e1, s1⟩ := dec3 (n := n + 0) hf.2.1
  obtain ⟨x2, e2, s2⟩ := dec3 (n := n + 0) hf.2.2.1
  obtain ⟨x3, e3, s3⟩ := dec3 (n := n + 0) hf.2.2.2.1
  obtain ⟨x4, e4, s4⟩ := dec3 (n := n + 0) hf.2.2.2.2.1
  obtain ⟨x5, e5, s5⟩ := dec3 (n := n + 0) hf.2.2.2.2.2.1
  obtain ⟨x6, e6, s6⟩ := dec3 (n := n + 0) hf.2.2.2.2.2.2.1
  obtain ⟨x7, e7, s7⟩ := dec3 (n := n + 0) hf.2.2.2.2.2.2.2.1
  obtain ⟨x8, e8, s8⟩ := dec3 (n := n + 0) hf.2.2.2.2.2.2.2.2
  refine ⟨⟨x0, x1, x2, x3, x4, x5, x6, x7, x8⟩, ?_, trivial⟩
  rw [← List.drop_zero (l := row), drop_cut row 0 1, e0, drop_cut row 1 1, e1, drop_cut row 2 1, e2, drop_cut row 3 1, e3, drop_cut row 4 1, e4, drop_cut row 5 1, e5, drop_cut row 6 1, e6, drop_cut row 7 1, e7, drop_cut row 8 1, e8, List.drop_eq_nil_of_le (by omega)]
  rfl
theorem dec178 {n : Nat} {row : List D} (h : TyR Try.prog (n + 3) 178 row) : ∃ x : TPiece, row = TPiece.row x ∧ Sm maxLen x := by
  rw [TyR, Try.underlying178] at h
  dsimp only at h
  obtain ⟨hl, hf⟩ := h
  simp only [List.mem_cons, List.not_mem_nil, or_false, forall_eq_or_imp, forall_eq, ce3, ce32] at hf
  rw [ce178] at hl
  obtain ⟨x0, e0, s0⟩ := dec3 (n := n + 1) hf.1
  obtain ⟨x1, e1, s1⟩ := dec32 (n := n + 0) hf.2.1
  obtain ⟨x2, e2, s2⟩ := dec3 (n := n + 1) hf.2.2
  refine ⟨⟨x0, x1, x2⟩, ?_, s1⟩
  rw [← List.drop_zero (l := row), drop_cut row 0 1, e0, drop_cut row 1 1, e1, drop_cut row 2 1, e2, List.drop_eq_nil_of_le (by omega)]
  rfl
theorem dec105 {n : Nat} {row : List D} (h : TyR Try.prog (n + 4) 105 row) : ∃ x : List TPiece, row = (slR 3 TPiece.row) x ∧ Sm maxLen x := by
  rw [TyR, Try.underlying105] at h
  dsimp only at h
  obtain ⟨rows, rfl, hl, hr⟩ := h
  obtain ⟨l, rfl, hs⟩ := rows_dec (f := TPiece.row) (n := maxLen) (fun r hr' => dec178 (n := n + 0) (hr r hr').1)
  exact ⟨l, by simp, ⟨by simpa using hl, hs⟩⟩
theorem dec4 {n : Nat} {row : List D} (h : TyR Try.prog (n + 1) 4 row) : ∃ x : Bool, row = lR x ∧ Sm maxLen x := by
  rw [TyR, Try.underlying4] at h
  dsimp only at h
  obtain ⟨b, rfl⟩ := h; exact ⟨b, rfl, trivial⟩
theorem dec196 {n : Nat} {row : List D} (h : TyR Try.prog (n + 2) 196 row) : ∃ x : TStep, row = TStep.row x ∧ Sm maxLen x := by
  rw [TyR, Try.underlying196] at h
  dsimp only at h
  obtain ⟨hl, hf⟩ := h
  simp only [List.mem_cons, List.not_mem_nil, or_false, forall_eq_or_imp, forall_eq, ce3, ce4] at hf
  rw [ce196] at hl
  obtain ⟨x0, e0, s0⟩ := dec3 (n := n + 0) hf.1
  obtain ⟨x1, e1, s1⟩ := dec4 (n := n + 0) hf.2
  refine ⟨⟨x0, x1⟩, ?_, trivial⟩
  rw [← List.drop_zero (l := row), drop_cut row 0 1, e0, drop_cut row 1 1, e1, List.drop_eq_nil_of_le (by omega)]
  rfl
theorem dec180 {n : Nat} {row : List D} (h : TyR Try.prog (n + 3) 180 row) : ∃ x : List TStep, row = (slR 2 TStep.row) x ∧ Sm maxLen x := by
  rw [TyR, Try.underlying180] at h
  dsimp only at h
  obtain ⟨rows, rfl, hl, hr⟩ := h
  obtain ⟨l, rfl, hs⟩ := rows_dec (f := TStep.row) (n := maxLen) (fun r hr' => dec196 (n := n + 0) (hr r hr').1)
  exact ⟨l, by simp, ⟨by simpa using hl, hs⟩⟩
theorem dec198 {n : Nat} {row : List D} (h : TyR Try.prog (n + 2) 198 row) : ∃ x : TStamp, row = TStamp.row x ∧ Sm maxLen x := by
  rw [TyR, Try.underlying198] at h
  dsimp only at h
  obtain ⟨hl, hf⟩ := h
  simp only [List.mem_cons, List.not_mem_nil, or_false, forall_eq_or_imp, forall_eq, ce3] at hf
  rw [ce198] at hl
  obtain ⟨x0, e0, s0⟩ := dec3 (n := n + 0) hf.1
  obtain ⟨x1, e1, s1⟩ := dec3 (n := n + 0) hf.2.1
  obtain ⟨x2, e2, s2⟩ := dec3 (n := n + 0) hf.2.2.1
  obtain ⟨x3, e3, s3⟩ := dec3 (n := n + 0) hf.2.2.2.1
  obtain ⟨x4, e4, s4⟩ := dec3 (n := n + 0) hf.2.2.2.2
  refine ⟨⟨x0, x1, x2, x3, x4⟩, ?_, trivial⟩
  rw [← List.drop_zero (l := row), drop_cut row 0 1, e0, drop_cut row 1 1, e1, drop_cut row 2 1, e2, drop_cut row 3 1, e3, drop_cut row 4 1, e4, List.drop_eq_nil_of_le (by omega)]
  rfl
theorem dec181 {n : Nat} {row : List D} (h : TyR Try.prog (n + 3) 181 row) : ∃ x : List TStamp, row = (slR 5 TStamp.row) x ∧ Sm maxLen x := by
  rw [TyR, Try.underlying181] at h
  dsimp only at h
  obtain ⟨rows, rfl, hl, hr⟩ := h
  obtain ⟨l, rfl, hs⟩ := rows_dec (f := TStamp.row) (n := maxLen) (fun r hr' => dec198 (n := n + 0) (hr r hr').1)
  exact ⟨l, by simp, ⟨by simpa using hl, hs⟩⟩
theorem dec183 {n : Nat} {row : List D} (h : TyR Try.prog (n + 4) 183 row) : ∃ x : TRenewal, row = TRenewal.row x ∧ Sm maxLen x := by
  rw [TyR, Try.underlying183] at h
  dsimp only at h
  obtain ⟨hl, hf⟩ := h
  simp only [List.mem_cons, List.not_mem_nil, or_false, forall_eq_or_imp, forall_eq, ce3, ce180, ce181] at hf
  rw [ce183] at hl
  obtain ⟨x0, e0, s0⟩ := dec3 (n := n + 2) hf.1
  obtain ⟨x1, e1, s1⟩ := dec3 (n := n + 2) hf.2.1
  obtain ⟨x2, e2, s2⟩ := dec3 (n := n + 2) hf.2.2.1
  obtain ⟨x3, e3, s3⟩ := dec180 (n := n + 0) hf.2.2.2.1
  obtain ⟨x4, e4, s4⟩ := dec181 (n := n + 0) hf.2.2.2.2
  refine ⟨⟨x0, x1, x2, x3, x4⟩, ?_, ⟨s3, s4⟩⟩
  rw [← List.drop_zero (l := row), drop_cut row 0 1, e0, drop_cut row 1 1, e1, drop_cut row 2 1, e2, drop_cut row 3 1, e3, drop_cut row 4 1, e4, List.drop_eq_nil_of_le (by omega)]
  rfl
theorem dec106 {n : Nat} {row : List D} (h : TyR Try.prog (n + 5) 106 row) : ∃ x : List TRenewal, row = (slR 5 TRenewal.row) x ∧ Sm maxLen x := by
  rw [TyR, Try.underlying106] at h
  dsimp only at h
  obtain ⟨rows, rfl, hl, hr⟩ := h
  obtain ⟨l, rfl, hs⟩ := rows_dec (f := TRenewal.row) (n := maxLen) (fun r hr' => dec183 (n := n + 0) (hr r hr').1)
  exact ⟨l, by simp, ⟨by simpa using hl, hs⟩⟩
theorem dec108 {n : Nat} {row : List D} (h : TyR Try.prog (n + 6) 108 row) : ∃ x : TStrand, row = TStrand.row x ∧ Sm maxLen x := by
  rw [TyR, Try.underlying108] at h
  dsimp only at h
  obtain ⟨hl, hf⟩ := h
  simp only [List.mem_cons, List.not_mem_nil, or_false, forall_eq_or_imp, forall_eq, ce105, ce106] at hf
  rw [ce108] at hl
  obtain ⟨x0, e0, s0⟩ := dec105 (n := n + 1) hf.1
  obtain ⟨x1, e1, s1⟩ := dec106 (n := n + 0) hf.2
  refine ⟨⟨x0, x1⟩, ?_, ⟨s0, s1⟩⟩
  rw [← List.drop_zero (l := row), drop_cut row 0 1, e0, drop_cut row 1 1, e1, List.drop_eq_nil_of_le (by omega)]
  rfl
theorem dec110 {n : Nat} {row : List D} (h : TyR Try.prog (n + 7) 110 row) : ∃ x : TItem, row = TItem.row x ∧ Sm maxLen x := by
  rw [TyR, Try.underlying110] at h
  dsimp only at h
  obtain ⟨hl, hf⟩ := h
  simp only [List.mem_cons, List.not_mem_nil, or_false, forall_eq_or_imp, forall_eq, ce3, ce103, ce104, ce108] at hf
  rw [ce110] at hl
  obtain ⟨x0, e0, s0⟩ := dec3 (n := n + 5) hf.1
  obtain ⟨x1, e1, s1⟩ := dec3 (n := n + 5) hf.2.1
  obtain ⟨x2, e2, s2⟩ := dec103 (n := n + 3) hf.2.2.1
  obtain ⟨x3, e3, s3⟩ := dec104 (n := n + 4) hf.2.2.2.1
  obtain ⟨x4, e4, s4⟩ := dec108 (n := n + 0) hf.2.2.2.2
  refine ⟨⟨x0, x1, x2, x3, x4⟩, ?_, ⟨s2, s4⟩⟩
  rw [← List.drop_zero (l := row), drop_cut row 0 1, e0, drop_cut row 1 1, e1, drop_cut row 2 3, e2, drop_cut row 5 9, e3, drop_cut row 14 2, e4, List.drop_eq_nil_of_le (by omega)]
  rfl
theorem dec27 {n : Nat} {row : List D} (h : TyR Try.prog (n + 8) 27 row) : ∃ x : List TItem, row = (slR 16 TItem.row) x ∧ Sm maxLen x := by
  rw [TyR, Try.underlying27] at h
  dsimp only at h
  obtain ⟨rows, rfl, hl, hr⟩ := h
  obtain ⟨l, rfl, hs⟩ := rows_dec (f := TItem.row) (n := maxLen) (fun r hr' => dec110 (n := n + 0) (hr r hr').1)
  exact ⟨l, by simp, ⟨by simpa using hl, hs⟩⟩
theorem dec29 {n : Nat} {row : List D} (h : TyR Try.prog (n + 9) 29 row) : ∃ x : TArchive, row = TArchive.row x ∧ Sm maxLen x := by
  rw [TyR, Try.underlying29] at h
  dsimp only at h
  obtain ⟨hl, hf⟩ := h
  simp only [List.mem_cons, List.not_mem_nil, or_false, forall_eq_or_imp, forall_eq, ce3, ce27] at hf
  rw [ce29] at hl
  obtain ⟨x0, e0, s0⟩ := dec3 (n := n + 7) hf.1
  obtain ⟨x1, e1, s1⟩ := dec27 (n := n + 0) hf.2
  refine ⟨⟨x0, x1⟩, ?_, s1⟩
  rw [← List.drop_zero (l := row), drop_cut row 0 1, e0, drop_cut row 1 1, e1, List.drop_eq_nil_of_le (by omega)]
  rfl
end Go.Proofs.Ytllfgbhplfhdkaa
