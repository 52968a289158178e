/- Rows of the parameters' types are the rows of typed data. No condition. -/
import Derived.Test.YtdbglcndfmdlfaaGreatMo
import Derived.Test.YtdbglcndfmdlfaaGreatTy
namespace Go.Proofs.YtdbglcndfmdlfaaGreat
open Go.Vm Go.Mo
set_option maxRecDepth 100000
set_option linter.unusedSimpArgs false
set_option linter.unusedVariables false
theorem dec3 {n : Nat} {row : List D} (h : TyR Tryz.prog (n + 1) 3 row) : ∃ x : Int, row = iR x ∧ Sm maxLen x := by
  rw [TyR, Tryz.underlying3] at h
  dsimp only at h
  obtain ⟨m, rfl, _⟩ := h; exact ⟨m, rfl, trivial⟩
theorem dec164 {n : Nat} {row : List D} (h : TyR Tryz.prog (n + 2) 164 row) : ∃ x : TKey, row = TKey.row x ∧ Sm maxLen x := by
  rw [TyR, Tryz.underlying164] at h
  dsimp only at h
  obtain ⟨hl, hf⟩ := h
  simp only [List.mem_cons, List.not_mem_nil, or_false, forall_eq_or_imp, forall_eq, ty3.2.1] at hf
  rw [ty164.2.1] at hl
  obtain ⟨x0, e0, s0⟩ := dec3 (n := n + 0) hf.1
  obtain ⟨x1, e1, s1⟩ := dec3 (n := n + 0) hf.2.1
  obtain ⟨x2, e2, s2⟩ := dec3 (n := n + 0) hf.2.2.1
  obtain ⟨x3, e3, s3⟩ := dec3 (n := n + 0) hf.2.2.2.1
  obtain ⟨x4, e4, s4⟩ := dec3 (n := n + 0) hf.2.2.2.2
  refine ⟨⟨x0, x1, x2, x3, x4⟩, ?_, trivial⟩
  rw [← List.drop_zero (l := row), drop_cut row 0 1, e0, drop_cut row 1 1, e1, drop_cut row 2 1, e2, drop_cut row 3 1, e3, drop_cut row 4 1, e4, List.drop_eq_nil_of_le (by omega)]
  rfl
theorem dec22 {n : Nat} {row : List D} (h : TyR Tryz.prog (n + 3) 22 row) : ∃ x : List TKey, row = (slR 5 TKey.row) x ∧ Sm maxLen x := by
  rw [TyR, Tryz.underlying22] at h
  dsimp only at h
  obtain ⟨rows, rfl, hl, hr⟩ := h
  obtain ⟨l, rfl, hs⟩ := rows_dec (f := TKey.row) (n := maxLen) (fun r hr' => dec164 (n := n + 0) (hr r hr').1)
  exact ⟨l, by simp, ⟨by simpa using hl, hs⟩⟩
theorem dec166 {n : Nat} {row : List D} (h : TyR Tryz.prog (n + 2) 166 row) : ∃ x : TAuthority, row = TAuthority.row x ∧ Sm maxLen x := by
  rw [TyR, Tryz.underlying166] at h
  dsimp only at h
  obtain ⟨hl, hf⟩ := h
  simp only [List.mem_cons, List.not_mem_nil, or_false, forall_eq_or_imp, forall_eq, ty3.2.1] at hf
  rw [ty166.2.1] at hl
  obtain ⟨x0, e0, s0⟩ := dec3 (n := n + 0) hf.1
  obtain ⟨x1, e1, s1⟩ := dec3 (n := n + 0) hf.2.1
  obtain ⟨x2, e2, s2⟩ := dec3 (n := n + 0) hf.2.2
  refine ⟨⟨x0, x1, x2⟩, ?_, trivial⟩
  rw [← List.drop_zero (l := row), drop_cut row 0 1, e0, drop_cut row 1 1, e1, drop_cut row 2 1, e2, List.drop_eq_nil_of_le (by omega)]
  rfl
theorem dec23 {n : Nat} {row : List D} (h : TyR Tryz.prog (n + 3) 23 row) : ∃ x : List TAuthority, row = (slR 3 TAuthority.row) x ∧ Sm maxLen x := by
  rw [TyR, Tryz.underlying23] at h
  dsimp only at h
  obtain ⟨rows, rfl, hl, hr⟩ := h
  obtain ⟨l, rfl, hs⟩ := rows_dec (f := TAuthority.row) (n := maxLen) (fun r hr' => dec166 (n := n + 0) (hr r hr').1)
  exact ⟨l, by simp, ⟨by simpa using hl, hs⟩⟩
theorem dec168 {n : Nat} {row : List D} (h : TyR Tryz.prog (n + 2) 168 row) : ∃ x : TMethod, row = TMethod.row x ∧ Sm maxLen x := by
  rw [TyR, Tryz.underlying168] at h
  dsimp only at h
  obtain ⟨hl, hf⟩ := h
  simp only [List.mem_cons, List.not_mem_nil, or_false, forall_eq_or_imp, forall_eq, ty3.2.1] at hf
  rw [ty168.2.1] at hl
  obtain ⟨x0, e0, s0⟩ := dec3 (n := n + 0) hf.1
  obtain ⟨x1, e1, s1⟩ := dec3 (n := n + 0) hf.2.1
  obtain ⟨x2, e2, s2⟩ := dec3 (n := n + 0) hf.2.2.1
  obtain ⟨x3, e3, s3⟩ := dec3 (n := n + 0) hf.2.2.2
  refine ⟨⟨x0, x1, x2, x3⟩, ?_, trivial⟩
  rw [← List.drop_zero (l := row), drop_cut row 0 1, e0, drop_cut row 1 1, e1, drop_cut row 2 1, e2, drop_cut row 3 1, e3, List.drop_eq_nil_of_le (by omega)]
  rfl
theorem dec24 {n : Nat} {row : List D} (h : TyR Tryz.prog (n + 3) 24 row) : ∃ x : List TMethod, row = (slR 4 TMethod.row) x ∧ Sm maxLen x := by
  rw [TyR, Tryz.underlying24] at h
  dsimp only at h
  obtain ⟨rows, rfl, hl, hr⟩ := h
  obtain ⟨l, rfl, hs⟩ := rows_dec (f := TMethod.row) (n := maxLen) (fun r hr' => dec168 (n := n + 0) (hr r hr').1)
  exact ⟨l, by simp, ⟨by simpa using hl, hs⟩⟩
theorem dec26 {n : Nat} {row : List D} (h : TyR Tryz.prog (n + 4) 26 row) : ∃ x : TFrame, row = TFrame.row x ∧ Sm maxLen x := by
  rw [TyR, Tryz.underlying26] at h
  dsimp only at h
  obtain ⟨hl, hf⟩ := h
  simp only [List.mem_cons, List.not_mem_nil, or_false, forall_eq_or_imp, forall_eq, ty3.2.1, ty22.2.1, ty23.2.1, ty24.2.1] at hf
  rw [ty26.2.1] at hl
  obtain ⟨x0, e0, s0⟩ := dec22 (n := n + 0) hf.1
  obtain ⟨x1, e1, s1⟩ := dec23 (n := n + 0) hf.2.1
  obtain ⟨x2, e2, s2⟩ := dec24 (n := n + 0) hf.2.2.1
  obtain ⟨x3, e3, s3⟩ := dec3 (n := n + 2) hf.2.2.2.1
  obtain ⟨x4, e4, s4⟩ := dec3 (n := n + 2) hf.2.2.2.2
  refine ⟨⟨x0, x1, x2, x3, x4⟩, ?_, ⟨s0, s1, s2⟩⟩
  rw [← List.drop_zero (l := row), drop_cut row 0 1, e0, drop_cut row 1 1, e1, drop_cut row 2 1, e2, drop_cut row 3 1, e3, drop_cut row 4 1, e4, List.drop_eq_nil_of_le (by omega)]
  rfl
theorem dec127 {n : Nat} {row : List D} (h : TyR Tryz.prog (n + 2) 127 row) : ∃ x : TCert, row = TCert.row x ∧ Sm maxLen x := by
  rw [TyR, Tryz.underlying127] at h
  dsimp only at h
  obtain ⟨hl, hf⟩ := h
  simp only [List.mem_cons, List.not_mem_nil, or_false, forall_eq_or_imp, forall_eq, ty3.2.1] at hf
  rw [ty127.2.1] at hl
  obtain ⟨x0, e0, s0⟩ := dec3 (n := n + 0) hf.1
  obtain ⟨x1, e1, s1⟩ := dec3 (n := n + 0) hf.2.1
  obtain ⟨x2, e2, s2⟩ := dec3 (n := n + 0) hf.2.2.1
  obtain ⟨x3, e3, s3⟩ := dec3 (n := n + 0) hf.2.2.2.1
  obtain ⟨x4, e4, s4⟩ := dec3 (n := n + 0) hf.2.2.2.2.1
  obtain ⟨x5, e5, s5⟩ := dec3 (n := n + 0) hf.2.2.2.2.2.1
  obtain ⟨x6, e6, s6⟩ := dec3 (n := n + 0) hf.2.2.2.2.2.2
  refine ⟨⟨x0, x1, x2, x3, x4, x5, x6⟩, ?_, trivial⟩
  rw [← List.drop_zero (l := row), drop_cut row 0 1, e0, drop_cut row 1 1, e1, drop_cut row 2 1, e2, drop_cut row 3 1, e3, drop_cut row 4 1, e4, drop_cut row 5 1, e5, drop_cut row 6 1, e6, List.drop_eq_nil_of_le (by omega)]
  rfl
theorem dec27 {n : Nat} {row : List D} (h : TyR Tryz.prog (n + 3) 27 row) : ∃ x : List TCert, row = (slR 7 TCert.row) x ∧ Sm maxLen x := by
  rw [TyR, Tryz.underlying27] at h
  dsimp only at h
  obtain ⟨rows, rfl, hl, hr⟩ := h
  obtain ⟨l, rfl, hs⟩ := rows_dec (f := TCert.row) (n := maxLen) (fun r hr' => dec127 (n := n + 0) (hr r hr').1)
  exact ⟨l, by simp, ⟨by simpa using hl, hs⟩⟩
theorem dec28 {n : Nat} {row : List D} (h : TyR Tryz.prog (n + 2) 28 row) : ∃ x : List Int, row = (slR 1 iR) x ∧ Sm maxLen x := by
  rw [TyR, Tryz.underlying28] at h
  dsimp only at h
  obtain ⟨rows, rfl, hl, hr⟩ := h
  obtain ⟨l, rfl, hs⟩ := rows_dec (f := iR) (n := maxLen) (fun r hr' => dec3 (n := n + 0) (hr r hr').1)
  exact ⟨l, by simp, ⟨by simpa using hl, hs⟩⟩
theorem dec9 {n : Nat} {row : List D} (h : TyR Tryz.prog (n + 1) 9 row) : ∃ x : ByteArray, row = sR x ∧ Sm maxLen x := by
  rw [TyR, Tryz.underlying9] at h
  dsimp only at h
  obtain ⟨s, rfl, hs⟩ := h; exact ⟨s, rfl, hs⟩
theorem dec71 {n : Nat} {row : List D} (h : TyR Tryz.prog (n + 2) 71 row) : ∃ x : List ByteArray, row = (slR 1 sR) x ∧ Sm maxLen x := by
  rw [TyR, Tryz.underlying71] at h
  dsimp only at h
  obtain ⟨rows, rfl, hl, hr⟩ := h
  obtain ⟨l, rfl, hs⟩ := rows_dec (f := sR) (n := maxLen) (fun r hr' => dec9 (n := n + 0) (hr r hr').1)
  exact ⟨l, by simp, ⟨by simpa using hl, hs⟩⟩
theorem dec196 {n : Nat} {row : List D} (h : TyR Tryz.prog (n + 3) 196 row) : ∃ x : TDocument, row = TDocument.row x ∧ Sm maxLen x := by
  rw [TyR, Tryz.underlying196] at h
  dsimp only at h
  obtain ⟨hl, hf⟩ := h
  simp only [List.mem_cons, List.not_mem_nil, or_false, forall_eq_or_imp, forall_eq, ty3.2.1, ty28.2.1, ty71.2.1] at hf
  rw [ty196.2.1] at hl
  obtain ⟨x0, e0, s0⟩ := dec3 (n := n + 1) hf.1
  obtain ⟨x1, e1, s1⟩ := dec71 (n := n + 0) hf.2.1
  obtain ⟨x2, e2, s2⟩ := dec28 (n := n + 0) hf.2.2
  refine ⟨⟨x0, x1, x2⟩, ?_, ⟨s1, s2⟩⟩
  rw [← List.drop_zero (l := row), drop_cut row 0 1, e0, drop_cut row 1 1, e1, drop_cut row 2 1, e2, List.drop_eq_nil_of_le (by omega)]
  rfl
theorem dec197 {n : Nat} {row : List D} (h : TyR Tryz.prog (n + 2) 197 row) : ∃ x : TSignature, row = TSignature.row x ∧ Sm maxLen x := by
  rw [TyR, Tryz.underlying197] at h
  dsimp only at h
  obtain ⟨hl, hf⟩ := h
  simp only [List.mem_cons, List.not_mem_nil, or_false, forall_eq_or_imp, forall_eq, ty3.2.1] at hf
  rw [ty197.2.1] at hl
  obtain ⟨x0, e0, s0⟩ := dec3 (n := n + 0) hf.1
  obtain ⟨x1, e1, s1⟩ := dec3 (n := n + 0) hf.2.1
  obtain ⟨x2, e2, s2⟩ := dec3 (n := n + 0) hf.2.2.1
  obtain ⟨x3, e3, s3⟩ := dec3 (n := n + 0) hf.2.2.2.1
  obtain ⟨x4, e4, s4⟩ := dec3 (n := n + 0) hf.2.2.2.2.1
  obtain ⟨x5, e5, s5⟩ := dec3 (n := n + 0) hf.2.2.2.2.2.1
  obtain ⟨x6, e6, s6⟩ := dec3 (n := n + 0) hf.2.2.2.2.2.2.1
  obtain ⟨x7, e7, s7⟩ := dec3 (n := n + 0) hf.2.2.2.2.2.2.2.1
  obtain ⟨x8, e8, s8⟩ := dec3 (n := n + 0) hf.2.2.2.2.2.2.2.2
  refine ⟨⟨x0, x1, x2, x3, x4, x5, x6, x7, x8⟩, ?_, trivial⟩
  rw [← List.drop_zero (l := row), drop_cut row 0 1, e0, drop_cut row 1 1, e1, drop_cut row 2 1, e2, drop_cut row 3 1, e3, drop_cut row 4 1, e4, drop_cut row 5 1, e5, drop_cut row 6 1, e6, drop_cut row 7 1, e7, drop_cut row 8 1, e8, List.drop_eq_nil_of_le (by omega)]
  rfl
theorem dec245 {n : Nat} {row : List D} (h : TyR Tryz.prog (n + 3) 245 row) : ∃ x : TPiece, row = TPiece.row x ∧ Sm maxLen x := by
  rw [TyR, Tryz.underlying245] at h
  dsimp only at h
  obtain ⟨hl, hf⟩ := h
  simp only [List.mem_cons, List.not_mem_nil, or_false, forall_eq_or_imp, forall_eq, ty3.2.1, ty28.2.1] at hf
  rw [ty245.2.1] at hl
  obtain ⟨x0, e0, s0⟩ := dec3 (n := n + 1) hf.1
  obtain ⟨x1, e1, s1⟩ := dec28 (n := n + 0) hf.2.1
  obtain ⟨x2, e2, s2⟩ := dec3 (n := n + 1) hf.2.2
  refine ⟨⟨x0, x1, x2⟩, ?_, s1⟩
  rw [← List.drop_zero (l := row), drop_cut row 0 1, e0, drop_cut row 1 1, e1, drop_cut row 2 1, e2, List.drop_eq_nil_of_le (by omega)]
  rfl
theorem dec198 {n : Nat} {row : List D} (h : TyR Tryz.prog (n + 4) 198 row) : ∃ x : List TPiece, row = (slR 3 TPiece.row) x ∧ Sm maxLen x := by
  rw [TyR, Tryz.underlying198] at h
  dsimp only at h
  obtain ⟨rows, rfl, hl, hr⟩ := h
  obtain ⟨l, rfl, hs⟩ := rows_dec (f := TPiece.row) (n := maxLen) (fun r hr' => dec245 (n := n + 0) (hr r hr').1)
  exact ⟨l, by simp, ⟨by simpa using hl, hs⟩⟩
theorem dec4 {n : Nat} {row : List D} (h : TyR Tryz.prog (n + 1) 4 row) : ∃ x : Bool, row = lR x ∧ Sm maxLen x := by
  rw [TyR, Tryz.underlying4] at h
  dsimp only at h
  obtain ⟨b, rfl⟩ := h; exact ⟨b, rfl, trivial⟩
theorem dec261 {n : Nat} {row : List D} (h : TyR Tryz.prog (n + 2) 261 row) : ∃ x : TStep, row = TStep.row x ∧ Sm maxLen x := by
  rw [TyR, Tryz.underlying261] at h
  dsimp only at h
  obtain ⟨hl, hf⟩ := h
  simp only [List.mem_cons, List.not_mem_nil, or_false, forall_eq_or_imp, forall_eq, ty3.2.1, ty4.2.1] at hf
  rw [ty261.2.1] at hl
  obtain ⟨x0, e0, s0⟩ := dec3 (n := n + 0) hf.1
  obtain ⟨x1, e1, s1⟩ := dec4 (n := n + 0) hf.2
  refine ⟨⟨x0, x1⟩, ?_, trivial⟩
  rw [← List.drop_zero (l := row), drop_cut row 0 1, e0, drop_cut row 1 1, e1, List.drop_eq_nil_of_le (by omega)]
  rfl
theorem dec247 {n : Nat} {row : List D} (h : TyR Tryz.prog (n + 3) 247 row) : ∃ x : List TStep, row = (slR 2 TStep.row) x ∧ Sm maxLen x := by
  rw [TyR, Tryz.underlying247] at h
  dsimp only at h
  obtain ⟨rows, rfl, hl, hr⟩ := h
  obtain ⟨l, rfl, hs⟩ := rows_dec (f := TStep.row) (n := maxLen) (fun r hr' => dec261 (n := n + 0) (hr r hr').1)
  exact ⟨l, by simp, ⟨by simpa using hl, hs⟩⟩
theorem dec263 {n : Nat} {row : List D} (h : TyR Tryz.prog (n + 2) 263 row) : ∃ x : TStamp, row = TStamp.row x ∧ Sm maxLen x := by
  rw [TyR, Tryz.underlying263] at h
  dsimp only at h
  obtain ⟨hl, hf⟩ := h
  simp only [List.mem_cons, List.not_mem_nil, or_false, forall_eq_or_imp, forall_eq, ty3.2.1] at hf
  rw [ty263.2.1] at hl
  obtain ⟨x0, e0, s0⟩ := dec3 (n := n + 0) hf.1
  obtain ⟨x1, e1, s1⟩ := dec3 (n := n + 0) hf.2.1
  obtain ⟨x2, e2, s2⟩ := dec3 (n := n + 0) hf.2.2.1
  obtain ⟨x3, e3, s3⟩ := dec3 (n := n + 0) hf.2.2.2.1
  obtain ⟨x4, e4, s4⟩ := dec3 (n := n + 0) hf.2.2.2.2
  refine ⟨⟨x0, x1, x2, x3, x4⟩, ?_, trivial⟩
  rw [← List.drop_zero (l := row), drop_cut row 0 1, e0, drop_cut row 1 1, e1, drop_cut row 2 1, e2, drop_cut row 3 1, e3, drop_cut row 4 1, e4, List.drop_eq_nil_of_le (by omega)]
  rfl
theorem dec248 {n : Nat} {row : List D} (h : TyR Tryz.prog (n + 3) 248 row) : ∃ x : List TStamp, row = (slR 5 TStamp.row) x ∧ Sm maxLen x := by
  rw [TyR, Tryz.underlying248] at h
  dsimp only at h
  obtain ⟨rows, rfl, hl, hr⟩ := h
  obtain ⟨l, rfl, hs⟩ := rows_dec (f := TStamp.row) (n := maxLen) (fun r hr' => dec263 (n := n + 0) (hr r hr').1)
  exact ⟨l, by simp, ⟨by simpa using hl, hs⟩⟩
theorem dec250 {n : Nat} {row : List D} (h : TyR Tryz.prog (n + 4) 250 row) : ∃ x : TRenewal, row = TRenewal.row x ∧ Sm maxLen x := by
  rw [TyR, Tryz.underlying250] at h
  dsimp only at h
  obtain ⟨hl, hf⟩ := h
  simp only [List.mem_cons, List.not_mem_nil, or_false, forall_eq_or_imp, forall_eq, ty3.2.1, ty247.2.1, ty248.2.1] at hf
  rw [ty250.2.1] at hl
  obtain ⟨x0, e0, s0⟩ := dec3 (n := n + 2) hf.1
  obtain ⟨x1, e1, s1⟩ := dec3 (n := n + 2) hf.2.1
  obtain ⟨x2, e2, s2⟩ := dec3 (n := n + 2) hf.2.2.1
  obtain ⟨x3, e3, s3⟩ := dec247 (n := n + 0) hf.2.2.2.1
  obtain ⟨x4, e4, s4⟩ := dec248 (n := n + 0) hf.2.2.2.2
  refine ⟨⟨x0, x1, x2, x3, x4⟩, ?_, ⟨s3, s4⟩⟩
  rw [← List.drop_zero (l := row), drop_cut row 0 1, e0, drop_cut row 1 1, e1, drop_cut row 2 1, e2, drop_cut row 3 1, e3, drop_cut row 4 1, e4, List.drop_eq_nil_of_le (by omega)]
  rfl
theorem dec199 {n : Nat} {row : List D} (h : TyR Tryz.prog (n + 5) 199 row) : ∃ x : List TRenewal, row = (slR 5 TRenewal.row) x ∧ Sm maxLen x := by
  rw [TyR, Tryz.underlying199] at h
  dsimp only at h
  obtain ⟨rows, rfl, hl, hr⟩ := h
  obtain ⟨l, rfl, hs⟩ := rows_dec (f := TRenewal.row) (n := maxLen) (fun r hr' => dec250 (n := n + 0) (hr r hr').1)
  exact ⟨l, by simp, ⟨by simpa using hl, hs⟩⟩
theorem dec201 {n : Nat} {row : List D} (h : TyR Tryz.prog (n + 6) 201 row) : ∃ x : TStrand, row = TStrand.row x ∧ Sm maxLen x := by
  rw [TyR, Tryz.underlying201] at h
  dsimp only at h
  obtain ⟨hl, hf⟩ := h
  simp only [List.mem_cons, List.not_mem_nil, or_false, forall_eq_or_imp, forall_eq, ty198.2.1, ty199.2.1] at hf
  rw [ty201.2.1] at hl
  obtain ⟨x0, e0, s0⟩ := dec198 (n := n + 1) hf.1
  obtain ⟨x1, e1, s1⟩ := dec199 (n := n + 0) hf.2
  refine ⟨⟨x0, x1⟩, ?_, ⟨s0, s1⟩⟩
  rw [← List.drop_zero (l := row), drop_cut row 0 1, e0, drop_cut row 1 1, e1, List.drop_eq_nil_of_le (by omega)]
  rfl
theorem dec203 {n : Nat} {row : List D} (h : TyR Tryz.prog (n + 7) 203 row) : ∃ x : TItem, row = TItem.row x ∧ Sm maxLen x := by
  rw [TyR, Tryz.underlying203] at h
  dsimp only at h
  obtain ⟨hl, hf⟩ := h
  simp only [List.mem_cons, List.not_mem_nil, or_false, forall_eq_or_imp, forall_eq, ty3.2.1, ty196.2.1, ty197.2.1, ty201.2.1] at hf
  rw [ty203.2.1] at hl
  obtain ⟨x0, e0, s0⟩ := dec3 (n := n + 5) hf.1
  obtain ⟨x1, e1, s1⟩ := dec3 (n := n + 5) hf.2.1
  obtain ⟨x2, e2, s2⟩ := dec196 (n := n + 3) hf.2.2.1
  obtain ⟨x3, e3, s3⟩ := dec197 (n := n + 4) hf.2.2.2.1
  obtain ⟨x4, e4, s4⟩ := dec201 (n := n + 0) hf.2.2.2.2
  refine ⟨⟨x0, x1, x2, x3, x4⟩, ?_, ⟨s2, s4⟩⟩
  rw [← List.drop_zero (l := row), drop_cut row 0 1, e0, drop_cut row 1 1, e1, drop_cut row 2 3, e2, drop_cut row 5 9, e3, drop_cut row 14 2, e4, List.drop_eq_nil_of_le (by omega)]
  rfl
theorem dec115 {n : Nat} {row : List D} (h : TyR Tryz.prog (n + 8) 115 row) : ∃ x : List TItem, row = (slR 16 TItem.row) x ∧ Sm maxLen x := by
  rw [TyR, Tryz.underlying115] at h
  dsimp only at h
  obtain ⟨rows, rfl, hl, hr⟩ := h
  obtain ⟨l, rfl, hs⟩ := rows_dec (f := TItem.row) (n := maxLen) (fun r hr' => dec203 (n := n + 0) (hr r hr').1)
  exact ⟨l, by simp, ⟨by simpa using hl, hs⟩⟩
theorem dec117 {n : Nat} {row : List D} (h : TyR Tryz.prog (n + 9) 117 row) : ∃ x : TArchive, row = TArchive.row x ∧ Sm maxLen x := by
  rw [TyR, Tryz.underlying117] at h
  dsimp only at h
  obtain ⟨hl, hf⟩ := h
  simp only [List.mem_cons, List.not_mem_nil, or_false, forall_eq_or_imp, forall_eq, ty3.2.1, ty115.2.1] at hf
  rw [ty117.2.1] at hl
  obtain ⟨x0, e0, s0⟩ := dec3 (n := n + 7) hf.1
  obtain ⟨x1, e1, s1⟩ := dec115 (n := n + 0) hf.2
  refine ⟨⟨x0, x1⟩, ?_, s1⟩
  rw [← List.drop_zero (l := row), drop_cut row 0 1, e0, drop_cut row 1 1, e1, List.drop_eq_nil_of_le (by omega)]
  rfl
theorem dec29 {n : Nat} {row : List D} (h : TyR Tryz.prog (n + 10) 29 row) : ∃ x : List TArchive, row = (slR 2 TArchive.row) x ∧ Sm maxLen x := by
  rw [TyR, Tryz.underlying29] at h
  dsimp only at h
  obtain ⟨rows, rfl, hl, hr⟩ := h
  obtain ⟨l, rfl, hs⟩ := rows_dec (f := TArchive.row) (n := maxLen) (fun r hr' => dec117 (n := n + 0) (hr r hr').1)
  exact ⟨l, by simp, ⟨by simpa using hl, hs⟩⟩
theorem dec31 {n : Nat} {row : List D} (h : TyR Tryz.prog (n + 11) 31 row) : ∃ x : TWorld, row = TWorld.row x ∧ Sm maxLen x := by
  rw [TyR, Tryz.underlying31] at h
  dsimp only at h
  obtain ⟨hl, hf⟩ := h
  simp only [List.mem_cons, List.not_mem_nil, or_false, forall_eq_or_imp, forall_eq, ty3.2.1, ty26.2.1, ty27.2.1, ty28.2.1, ty29.2.1] at hf
  rw [ty31.2.1] at hl
  obtain ⟨x0, e0, s0⟩ := dec26 (n := n + 6) hf.1
  obtain ⟨x1, e1, s1⟩ := dec27 (n := n + 7) hf.2.1
  obtain ⟨x2, e2, s2⟩ := dec28 (n := n + 8) hf.2.2.1
  obtain ⟨x3, e3, s3⟩ := dec29 (n := n + 0) hf.2.2.2.1
  obtain ⟨x4, e4, s4⟩ := dec28 (n := n + 8) hf.2.2.2.2.1
  obtain ⟨x5, e5, s5⟩ := dec28 (n := n + 8) hf.2.2.2.2.2.1
  obtain ⟨x6, e6, s6⟩ := dec3 (n := n + 9) hf.2.2.2.2.2.2.1
  obtain ⟨x7, e7, s7⟩ := dec28 (n := n + 8) hf.2.2.2.2.2.2.2
  refine ⟨⟨x0, x1, x2, x3, x4, x5, x6, x7⟩, ?_, ⟨s0, s1, s2, s3, s4, s5, s7⟩⟩
  rw [← List.drop_zero (l := row), drop_cut row 0 5, e0, drop_cut row 5 1, e1, drop_cut row 6 1, e2, drop_cut row 7 1, e3, drop_cut row 8 1, e4, drop_cut row 9 1, e5, drop_cut row 10 1, e6, drop_cut row 11 1, e7, List.drop_eq_nil_of_le (by omega)]
  rfl
end Go.Proofs.YtdbglcndfmdlfaaGreat
