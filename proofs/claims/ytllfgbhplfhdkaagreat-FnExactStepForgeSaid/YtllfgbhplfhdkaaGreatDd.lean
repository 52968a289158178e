/- Rows of the parameters' types are the rows of typed data. No condition. -/
import Derived.Test.YtllfgbhplfhdkaaGreatMo
import Derived.Test.YtllfgbhplfhdkaaGreatTy
namespace Go.Proofs.YtllfgbhplfhdkaaGreat
open Go.Vm Go.Mo
set_option maxRecDepth 100000
set_option linter.unusedSimpArgs false
set_option linter.unusedVariables false
theorem dec3 {n : Nat} {row : List D} (h : TyR Tryz.prog (n + 1) 3 row) : ∃ x : Int, row = iR x ∧ Sm maxLen x := by
  rw [TyR, Tryz.underlying3] at h
  dsimp only at h
  obtain ⟨m, rfl, _⟩ := h; exact ⟨m, rfl, trivial⟩
theorem dec201 {n : Nat} {row : List D} (h : TyR Tryz.prog (n + 2) 201 row) : ∃ x : TKey, row = TKey.row x ∧ Sm maxLen x := by
  rw [TyR, Tryz.underlying201] at h
  dsimp only at h
  obtain ⟨hl, hf⟩ := h
  simp only [List.mem_cons, List.not_mem_nil, or_false, forall_eq_or_imp, forall_eq, ty3.2.1] at hf
  rw [ty201.2.1] at hl
  obtain ⟨x0, e0, s0⟩ := dec3 (n := n + 0) hf.1
  obtain ⟨x1, e1, s1⟩ := dec3 (n := n + 0) hf.2.1
  obtain ⟨x2, e2, s2⟩ := dec3 (n := n + 0) hf.2.2.1
  obtain ⟨x3, e3, s3⟩ := dec3 (n := n + 0) hf.2.2.2.1
  obtain ⟨x4, e4, s4⟩ := dec3 (n := n + 0) hf.2.2.2.2
  refine ⟨⟨x0, x1, x2, x3, x4⟩, ?_, trivial⟩
  rw [← List.drop_zero (l := row), drop_cut row 0 1, e0, drop_cut row 1 1, e1, drop_cut row 2 1, e2, drop_cut row 3 1, e3, drop_cut row 4 1, e4, List.drop_eq_nil_of_le (by omega)]
  rfl
theorem dec22 {n : Nat} {row : List D} (h : TyR Tryz.prog (n + 3) 22 row) : ∃ x : List TKey, row = (slR 5 TKey.row) x ∧ Sm maxLen x := by
  rw [TyR, Tryz.underlying22] at h
  dsimp only at h
  obtain ⟨rows, rfl, hl, hr⟩ := h
  obtain ⟨l, rfl, hs⟩ := rows_dec (f := TKey.row) (n := maxLen) (fun r hr' => dec201 (n := n + 0) (hr r hr').1)
  exact ⟨l, by simp, ⟨by simpa using hl, hs⟩⟩
theorem dec203 {n : Nat} {row : List D} (h : TyR Tryz.prog (n + 2) 203 row) : ∃ x : TAuthority, row = TAuthority.row x ∧ Sm maxLen x := by
  rw [TyR, Tryz.underlying203] at h
  dsimp only at h
  obtain ⟨hl, hf⟩ := h
  simp only [List.mem_cons, List.not_mem_nil, or_false, forall_eq_or_imp, forall_eq, ty3.2.1] at hf
  rw [ty203.2.1] at hl
  obtain ⟨x0, e0, s0⟩ := dec3 (n := n + 0) hf.1
  obtain ⟨x1, e1, s1⟩ := dec3 (n := n + 0) hf.2.1
  obtain ⟨x2, e2, s2⟩ := dec3 (n := n + 0) hf.2.2
  refine ⟨⟨x0, x1, x2⟩, ?_, trivial⟩
  rw [← List.drop_zero (l := row), drop_cut row 0 1, e0, drop_cut row 1 1, e1, drop_cut row 2 1, e2, List.drop_eq_nil_of_le (by omega)]
  rfl
theorem dec23 {n : Nat} {row : List D} (h : TyR Tryz.prog (n + 3) 23 row) : ∃ x : List TAuthority, row = (slR 3 TAuthority.row) x ∧ Sm maxLen x := by
  rw [TyR, Tryz.underlying23] at h
  dsimp only at h
  obtain ⟨rows, rfl, hl, hr⟩ := h
  obtain ⟨l, rfl, hs⟩ := rows_dec (f := TAuthority.row) (n := maxLen) (fun r hr' => dec203 (n := n + 0) (hr r hr').1)
  exact ⟨l, by simp, ⟨by simpa using hl, hs⟩⟩
theorem dec205 {n : Nat} {row : List D} (h : TyR Tryz.prog (n + 2) 205 row) : ∃ x : TMethod, row = TMethod.row x ∧ Sm maxLen x := by
  rw [TyR, Tryz.underlying205] at h
  dsimp only at h
  obtain ⟨hl, hf⟩ := h
  simp only [List.mem_cons, List.not_mem_nil, or_false, forall_eq_or_imp, forall_eq, ty3.2.1] at hf
  rw [ty205.2.1] at hl
  obtain ⟨x0, e0, s0⟩ := dec3 (n := n + 0) hf.1
  obtain ⟨x1, e1, s1⟩ := dec3 (n := n + 0) hf.2.1
  obtain ⟨x2, e2, s2⟩ := dec3 (n := n + 0) hf.2.2.1
  obtain ⟨x3, e3, s3⟩ := dec3 (n := n + 0) hf.2.2.2
  refine ⟨⟨x0, x1, x2, x3⟩, ?_, trivial⟩
  rw [← List.drop_zero (l := row), drop_cut row 0 1, e0, drop_cut row 1 1, e1, drop_cut row 2 1, e2, drop_cut row 3 1, e3, List.drop_eq_nil_of_le (by omega)]
  rfl
theorem dec24 {n : Nat} {row : List D} (h : TyR Tryz.prog (n + 3) 24 row) : ∃ x : List TMethod, row = (slR 4 TMethod.row) x ∧ Sm maxLen x := by
  rw [TyR, Tryz.underlying24] at h
  dsimp only at h
  obtain ⟨rows, rfl, hl, hr⟩ := h
  obtain ⟨l, rfl, hs⟩ := rows_dec (f := TMethod.row) (n := maxLen) (fun r hr' => dec205 (n := n + 0) (hr r hr').1)
  exact ⟨l, by simp, ⟨by simpa using hl, hs⟩⟩
theorem dec26 {n : Nat} {row : List D} (h : TyR Tryz.prog (n + 4) 26 row) : ∃ x : TFrame, row = TFrame.row x ∧ Sm maxLen x := by
  rw [TyR, Tryz.underlying26] at h
  dsimp only at h
  obtain ⟨hl, hf⟩ := h
  simp only [List.mem_cons, List.not_mem_nil, or_false, forall_eq_or_imp, forall_eq, ty3.2.1, ty22.2.1, ty23.2.1, ty24.2.1] at hf
  rw [ty26.2.1] at hl
  obtain ⟨x0, e0, s0⟩ := dec22 (n := n + 0) hf.1
  obtain ⟨x1, e1, s1⟩ := dec23 (n := n + 0) hf.2.1
  obtain ⟨x2, e2, s2⟩ := dec24 (n := n + 0) hf.2.2.1
  obtain ⟨x3, e3, s3⟩ := dec3 (n := n + 2) hf.2.2.2.1
  obtain ⟨x4, e4, s4⟩ := dec3 (n := n + 2) hf.2.2.2.2
  refine ⟨⟨x0, x1, x2, x3, x4⟩, ?_, ⟨s0, s1, s2⟩⟩
  rw [← List.drop_zero (l := row), drop_cut row 0 1, e0, drop_cut row 1 1, e1, drop_cut row 2 1, e2, drop_cut row 3 1, e3, drop_cut row 4 1, e4, List.drop_eq_nil_of_le (by omega)]
  rfl
theorem dec155 {n : Nat} {row : List D} (h : TyR Tryz.prog (n + 2) 155 row) : ∃ x : TCert, row = TCert.row x ∧ Sm maxLen x := by
  rw [TyR, Tryz.underlying155] at h
  dsimp only at h
  obtain ⟨hl, hf⟩ := h
  simp only [List.mem_cons, List.not_mem_nil, or_false, forall_eq_or_imp, forall_eq, ty3.2.1] at hf
  rw [ty155.2.1] at hl
  obtain ⟨x0, e0, s0⟩ := dec3 (n := n + 0) hf.1
  obtain ⟨x1, e1, s1⟩ := dec3 (n := n + 0) hf.2.1
  obtain ⟨x2, e2, s2⟩ := dec3 (n := n + 0) hf.2.2.1
  obtain ⟨x3, e3, s3⟩ := dec3 (n := n + 0) hf.2.2.2.1
  obtain ⟨x4, e4, s4⟩ := dec3 (n := n + 0) hf.2.2.2.2.1
  obtain ⟨x5, e5, s5⟩ := dec3 (n := n + 0) hf.2.2.2.2.2.1
  obtain ⟨x6, e6, s6⟩ := dec3 (n := n + 0) hf.2.2.2.2.2.2
  refine ⟨⟨x0, x1, x2, x3, x4, x5, x6⟩, ?_, trivial⟩
  rw [← List.drop_zero (l := row), drop_cut row 0 1, e0, drop_cut row 1 1, e1, drop_cut row 2 1, e2, drop_cut row 3 1, e3, drop_cut row 4 1, e4, drop_cut row 5 1, e5, drop_cut row 6 1, e6, List.drop_eq_nil_of_le (by omega)]
  rfl
theorem dec27 {n : Nat} {row : List D} (h : TyR Tryz.prog (n + 3) 27 row) : ∃ x : List TCert, row = (slR 7 TCert.row) x ∧ Sm maxLen x := by
  rw [TyR, Tryz.underlying27] at h
  dsimp only at h
  obtain ⟨rows, rfl, hl, hr⟩ := h
  obtain ⟨l, rfl, hs⟩ := rows_dec (f := TCert.row) (n := maxLen) (fun r hr' => dec155 (n := n + 0) (hr r hr').1)
  exact ⟨l, by simp, ⟨by simpa using hl, hs⟩⟩
theorem dec28 {n : Nat} {row : List D} (h : TyR Tryz.prog (n + 2) 28 row) : ∃ x : List Int, row = (slR 1 iR) x ∧ Sm maxLen x := by
  rw [TyR, Tryz.underlying28] at h
  dsimp only at h
  obtain ⟨rows, rfl, hl, hr⟩ := h
  obtain ⟨l, rfl, hs⟩ := rows_dec (f := iR) (n := maxLen) (fun r hr' => dec3 (n := n + 0) (hr r hr').1)
  exact ⟨l, by simp, ⟨by simpa using hl, hs⟩⟩
theorem dec9 {n : Nat} {row : List D} (h : TyR Tryz.prog (n + 1) 9 row) : ∃ x : ByteArray, row = sR x ∧ Sm maxLen x := by
  rw [TyR, Tryz.underlying9] at h
  dsimp only at h
  obtain ⟨s, rfl, hs⟩ := h; exact ⟨s, rfl, hs⟩
theorem dec54 {n : Nat} {row : List D} (h : TyR Tryz.prog (n + 2) 54 row) : ∃ x : List ByteArray, row = (slR 1 sR) x ∧ Sm maxLen x := by
  rw [TyR, Tryz.underlying54] at h
  dsimp only at h
  obtain ⟨rows, rfl, hl, hr⟩ := h
  obtain ⟨l, rfl, hs⟩ := rows_dec (f := sR) (n := maxLen) (fun r hr' => dec9 (n := n + 0) (hr r hr').1)
  exact ⟨l, by simp, ⟨by simpa using hl, hs⟩⟩
theorem dec56 {n : Nat} {row : List D} (h : TyR Tryz.prog (n + 3) 56 row) : ∃ x : TDocument, row = TDocument.row x ∧ Sm maxLen x := by
  rw [TyR, Tryz.underlying56] at h
  dsimp only at h
  obtain ⟨hl, hf⟩ := h
  simp only [List.mem_cons, List.not_mem_nil, or_false, forall_eq_or_imp, forall_eq, ty3.2.1, ty28.2.1, ty54.2.1] at hf
  rw [ty56.2.1] at hl
  obtain ⟨x0, e0, s0⟩ := dec3 (n := n + 1) hf.1
  obtain ⟨x1, e1, s1⟩ := dec54 (n := n + 0) hf.2.1
  obtain ⟨x2, e2, s2⟩ := dec28 (n := n + 0) hf.2.2
  refine ⟨⟨x0, x1, x2⟩, ?_, ⟨s1, s2⟩⟩
  rw [← List.drop_zero (l := row), drop_cut row 0 1, e0, drop_cut row 1 1, e1, drop_cut row 2 1, e2, List.drop_eq_nil_of_le (by omega)]
  rfl
theorem dec233 {n : Nat} {row : List D} (h : TyR Tryz.prog (n + 2) 233 row) : ∃ x : TSignature, row = TSignature.row x ∧ Sm maxLen x := by
  rw [TyR, Tryz.underlying233] at h
  dsimp only at h
  obtain ⟨hl, hf⟩ := h
  simp only [List.mem_cons, List.not_mem_nil, or_false, forall_eq_or_imp, forall_eq, ty3.2.1] at hf
  rw [ty233.2.1] at hl
  obtain ⟨x0, e0, s0⟩ := dec3 (n := n + 0) hf.1
  obtain ⟨x1, e1, s1⟩ := dec3 (n := n + 0) hf.2.1
  obtain ⟨x2, e2, s2⟩ := dec3 (n := n + 0) hf.2.2.1
  obtain ⟨x3, e3, s3⟩ := dec3 (n := n + 0) hf.2.2.2.1
  obtain ⟨x4, e4, s4⟩ := dec3 (n := n + 0) hf.2.2.2.2.1
  obtain ⟨x5, e5, s5⟩ := dec3 (n := n + 0) hf.2.2.2.2.2.1
  obtain ⟨x6, e6, s6⟩ := dec3 (n := n + 0) hf.2.2.2.2.2.2.1
  obtain ⟨x7, e7, s7⟩ := dec3 (n := n + 0) hf.2.2.2.2.2.2.2.1
  obtain ⟨x8, e8, s8⟩ := dec3 (n := n + 0) hf.2.2.2.2.2.2.2.2
  refine ⟨⟨x0, x1, x2, x3, x4, x5, x6, x7, x8⟩, ?_, trivial⟩
  rw [← List.drop_zero (l := row), drop_cut row 0 1, e0, drop_cut row 1 1, e1, drop_cut row 2 1, e2, drop_cut row 3 1, e3, drop_cut row 4 1, e4, drop_cut row 5 1, e5, drop_cut row 6 1, e6, drop_cut row 7 1, e7, drop_cut row 8 1, e8, List.drop_eq_nil_of_le (by omega)]
  rfl
theorem dec269 {n : Nat} {row : List D} (h : TyR Tryz.prog (n + 3) 269 row) : ∃ x : TPiece, row = TPiece.row x ∧ Sm maxLen x := by
  rw [TyR, Tryz.underlying269] at h
  dsimp only at h
  obtain ⟨hl, hf⟩ := h
  simp only [List.mem_cons, List.not_mem_nil, or_false, forall_eq_or_imp, forall_eq, ty3.2.1, ty28.2.1] at hf
  rw [ty269.2.1] at hl
  obtain ⟨x0, e0, s0⟩ := dec3 (n := n + 1) hf.1
  obtain ⟨x1, e1, s1⟩ := dec28 (n := n + 0) hf.2.1
  obtain ⟨x2, e2, s2⟩ := dec3 (n := n + 1) hf.2.2
  refine ⟨⟨x0, x1, x2⟩, ?_, s1⟩
  rw [← List.drop_zero (l := row), drop_cut row 0 1, e0, drop_cut row 1 1, e1, drop_cut row 2 1, e2, List.drop_eq_nil_of_le (by omega)]
  rfl
theorem dec234 {n : Nat} {row : List D} (h : TyR Tryz.prog (n + 4) 234 row) : ∃ x : List TPiece, row = (slR 3 TPiece.row) x ∧ Sm maxLen x := by
  rw [TyR, Tryz.underlying234] at h
  dsimp only at h
  obtain ⟨rows, rfl, hl, hr⟩ := h
  obtain ⟨l, rfl, hs⟩ := rows_dec (f := TPiece.row) (n := maxLen) (fun r hr' => dec269 (n := n + 0) (hr r hr').1)
  exact ⟨l, by simp, ⟨by simpa using hl, hs⟩⟩
theorem dec4 {n : Nat} {row : List D} (h : TyR Tryz.prog (n + 1) 4 row) : ∃ x : Bool, row = lR x ∧ Sm maxLen x := by
  rw [TyR, Tryz.underlying4] at h
  dsimp only at h
  obtain ⟨b, rfl⟩ := h; exact ⟨b, rfl, trivial⟩
theorem dec285 {n : Nat} {row : List D} (h : TyR Tryz.prog (n + 2) 285 row) : ∃ x : TStep, row = TStep.row x ∧ Sm maxLen x := by
  rw [TyR, Tryz.underlying285] at h
  dsimp only at h
  obtain ⟨hl, hf⟩ := h
  simp only [List.mem_cons, List.not_mem_nil, or_false, forall_eq_or_imp, forall_eq, ty3.2.1, ty4.2.1] at hf
  rw [ty285.2.1] at hl
  obtain ⟨x0, e0, s0⟩ := dec3 (n := n + 0) hf.1
  obtain ⟨x1, e1, s1⟩ := dec4 (n := n + 0) hf.2
  refine ⟨⟨x0, x1⟩, ?_, trivial⟩
  rw [← List.drop_zero (l := row), drop_cut row 0 1, e0, drop_cut row 1 1, e1, List.drop_eq_nil_of_le (by omega)]
  rfl
theorem dec271 {n : Nat} {row : List D} (h : TyR Tryz.prog (n + 3) 271 row) : ∃ x : List TStep, row = (slR 2 TStep.row) x ∧ Sm maxLen x := by
  rw [TyR, Tryz.underlying271] at h
  dsimp only at h
  obtain ⟨rows, rfl, hl, hr⟩ := h
  obtain ⟨l, rfl, hs⟩ := rows_dec (f := TStep.row) (n := maxLen) (fun r hr' => dec285 (n := n + 0) (hr r hr').1)
  exact ⟨l, by simp, ⟨by simpa using hl, hs⟩⟩
theorem dec287 {n : Nat} {row : List D} (h : TyR Tryz.prog (n + 2) 287 row) : ∃ x : TStamp, row = TStamp.row x ∧ Sm maxLen x := by
  rw [TyR, Tryz.underlying287] at h
  dsimp only at h
  obtain ⟨hl, hf⟩ := h
  simp only [List.mem_cons, List.not_mem_nil, or_false, forall_eq_or_imp, forall_eq, ty3.2.1] at hf
  rw [ty287.2.1] at hl
  obtain ⟨x0, e0, s0⟩ := dec3 (n := n + 0) hf.1
  obtain ⟨x1, e1, s1⟩ := dec3 (n := n + 0) hf.2.1
  obtain ⟨x2, e2, s2⟩ := dec3 (n := n + 0) hf.2.2.1
  obtain ⟨x3, e3, s3⟩ := dec3 (n := n + 0) hf.2.2.2.1
  obtain ⟨x4, e4, s4⟩ := dec3 (n := n + 0) hf.2.2.2.2
  refine ⟨⟨x0, x1, x2, x3, x4⟩, ?_, trivial⟩
  rw [← List.drop_zero (l := row), drop_cut row 0 1, e0, drop_cut row 1 1, e1, drop_cut row 2 1, e2, drop_cut row 3 1, e3, drop_cut row 4 1, e4, List.drop_eq_nil_of_le (by omega)]
  rfl
theorem dec272 {n : Nat} {row : List D} (h : TyR Tryz.prog (n + 3) 272 row) : ∃ x : List TStamp, row = (slR 5 TStamp.row) x ∧ Sm maxLen x := by
  rw [TyR, Tryz.underlying272] at h
  dsimp only at h
  obtain ⟨rows, rfl, hl, hr⟩ := h
  obtain ⟨l, rfl, hs⟩ := rows_dec (f := TStamp.row) (n := maxLen) (fun r hr' => dec287 (n := n + 0) (hr r hr').1)
  exact ⟨l, by simp, ⟨by simpa using hl, hs⟩⟩
theorem dec274 {n : Nat} {row : List D} (h : TyR Tryz.prog (n + 4) 274 row) : ∃ x : TRenewal, row = TRenewal.row x ∧ Sm maxLen x := by
  rw [TyR, Tryz.underlying274] at h
  dsimp only at h
  obtain ⟨hl, hf⟩ := h
  simp only [List.mem_cons, List.not_mem_nil, or_false, forall_eq_or_imp, forall_eq, ty3.2.1, ty271.2.1, ty272.2.1] at hf
  rw [ty274.2.1] at hl
  obtain ⟨x0, e0, s0⟩ := dec3 (n := n + 2) hf.1
  obtain ⟨x1, e1, s1⟩ := dec3 (n := n + 2) hf.2.1
  obtain ⟨x2, e2, s2⟩ := dec3 (n := n + 2) hf.2.2.1
  obtain ⟨x3, e3, s3⟩ := dec271 (n := n + 0) hf.2.2.2.1
  obtain ⟨x4, e4, s4⟩ := dec272 (n := n + 0) hf.2.2.2.2
  refine ⟨⟨x0, x1, x2, x3, x4⟩, ?_, ⟨s3, s4⟩⟩
  rw [← List.drop_zero (l := row), drop_cut row 0 1, e0, drop_cut row 1 1, e1, drop_cut row 2 1, e2, drop_cut row 3 1, e3, drop_cut row 4 1, e4, List.drop_eq_nil_of_le (by omega)]
  rfl
theorem dec235 {n : Nat} {row : List D} (h : TyR Tryz.prog (n + 5) 235 row) : ∃ x : List TRenewal, row = (slR 5 TRenewal.row) x ∧ Sm maxLen x := by
  rw [TyR, Tryz.underlying235] at h
  dsimp only at h
  obtain ⟨rows, rfl, hl, hr⟩ := h
  obtain ⟨l, rfl, hs⟩ := rows_dec (f := TRenewal.row) (n := maxLen) (fun r hr' => dec274 (n := n + 0) (hr r hr').1)
  exact ⟨l, by simp, ⟨by simpa using hl, hs⟩⟩
theorem dec237 {n : Nat} {row : List D} (h : TyR Tryz.prog (n + 6) 237 row) : ∃ x : TStrand, row = TStrand.row x ∧ Sm maxLen x := by
  rw [TyR, Tryz.underlying237] at h
  dsimp only at h
  obtain ⟨hl, hf⟩ := h
  simp only [List.mem_cons, List.not_mem_nil, or_false, forall_eq_or_imp, forall_eq, ty234.2.1, ty235.2.1] at hf
  rw [ty237.2.1] at hl
  obtain ⟨x0, e0, s0⟩ := dec234 (n := n + 1) hf.1
  obtain ⟨x1, e1, s1⟩ := dec235 (n := n + 0) hf.2
  refine ⟨⟨x0, x1⟩, ?_, ⟨s0, s1⟩⟩
  rw [← List.drop_zero (l := row), drop_cut row 0 1, e0, drop_cut row 1 1, e1, List.drop_eq_nil_of_le (by omega)]
  rfl
theorem dec239 {n : Nat} {row : List D} (h : TyR Tryz.prog (n + 7) 239 row) : ∃ x : TItem, row = TItem.row x ∧ Sm maxLen x := by
  rw [TyR, Tryz.underlying239] at h
  dsimp only at h
  obtain ⟨hl, hf⟩ := h
  simp only [List.mem_cons, List.not_mem_nil, or_false, forall_eq_or_imp, forall_eq, ty3.2.1, ty56.2.1, ty233.2.1, ty237.2.1] at hf
  rw [ty239.2.1] at hl
  obtain ⟨x0, e0, s0⟩ := dec3 (n := n + 5) hf.1
  obtain ⟨x1, e1, s1⟩ := dec3 (n := n + 5) hf.2.1
  obtain ⟨x2, e2, s2⟩ := dec56 (n := n + 3) hf.2.2.1
  obtain ⟨x3, e3, s3⟩ := dec233 (n := n + 4) hf.2.2.2.1
  obtain ⟨x4, e4, s4⟩ := dec237 (n := n + 0) hf.2.2.2.2
  refine ⟨⟨x0, x1, x2, x3, x4⟩, ?_, ⟨s2, s4⟩⟩
  rw [← List.drop_zero (l := row), drop_cut row 0 1, e0, drop_cut row 1 1, e1, drop_cut row 2 3, e2, drop_cut row 5 9, e3, drop_cut row 14 2, e4, List.drop_eq_nil_of_le (by omega)]
  rfl
theorem dec148 {n : Nat} {row : List D} (h : TyR Tryz.prog (n + 8) 148 row) : ∃ x : List TItem, row = (slR 16 TItem.row) x ∧ Sm maxLen x := by
  rw [TyR, Tryz.underlying148] at h
  dsimp only at h
  obtain ⟨rows, rfl, hl, hr⟩ := h
  obtain ⟨l, rfl, hs⟩ := rows_dec (f := TItem.row) (n := maxLen) (fun r hr' => dec239 (n := n + 0) (hr r hr').1)
  exact ⟨l, by simp, ⟨by simpa using hl, hs⟩⟩
theorem dec150 {n : Nat} {row : List D} (h : TyR Tryz.prog (n + 9) 150 row) : ∃ x : TArchive, row = TArchive.row x ∧ Sm maxLen x := by
  rw [TyR, Tryz.underlying150] at h
  dsimp only at h
  obtain ⟨hl, hf⟩ := h
  simp only [List.mem_cons, List.not_mem_nil, or_false, forall_eq_or_imp, forall_eq, ty3.2.1, ty148.2.1] at hf
  rw [ty150.2.1] at hl
  obtain ⟨x0, e0, s0⟩ := dec3 (n := n + 7) hf.1
  obtain ⟨x1, e1, s1⟩ := dec148 (n := n + 0) hf.2
  refine ⟨⟨x0, x1⟩, ?_, s1⟩
  rw [← List.drop_zero (l := row), drop_cut row 0 1, e0, drop_cut row 1 1, e1, List.drop_eq_nil_of_le (by omega)]
  rfl
theorem dec29 {n : Nat} {row : List D} (h : TyR Tryz.prog (n + 10) 29 row) : ∃ x : List TArchive, row = (slR 2 TArchive.row) x ∧ Sm maxLen x := by
  rw [TyR, Tryz.underlying29] at h
  dsimp only at h
  obtain ⟨rows, rfl, hl, hr⟩ := h
  obtain ⟨l, rfl, hs⟩ := rows_dec (f := TArchive.row) (n := maxLen) (fun r hr' => dec150 (n := n + 0) (hr r hr').1)
  exact ⟨l, by simp, ⟨by simpa using hl, hs⟩⟩
theorem dec31 {n : Nat} {row : List D} (h : TyR Tryz.prog (n + 11) 31 row) : ∃ x : TWorld, row = TWorld.row x ∧ Sm maxLen x := by
  rw [TyR, Tryz.underlying31] at h
  dsimp only at h
  obtain ⟨hl, hf⟩ := h
  simp only [List.mem_cons, List.not_mem_nil, or_false, forall_eq_or_imp, forall_eq, ty3.2.1, ty26.2.1, ty27.2.1, ty28.2.1, ty29.2.1] at hf
  rw [ty31.2.1] at hl
  obtain ⟨x0, e0, s0⟩ := dec26 (n := n + 6) hf.1
  obtain ⟨x1, e1, s1⟩ := dec27 (n := n + 7) hf.2.1
  obtain ⟨x2, e2, s2⟩ := dec28 (n := n + 8) hf.2.2.1
  obtain ⟨x3, e3, s3⟩ := dec29 (n := n + 0) hf.2.2.2.1
  obtain ⟨x4, e4, s4⟩ := dec28 (n := n + 8) hf.2.2.2.2.1
  obtain ⟨x5, e5, s5⟩ := dec28 (n := n + 8) hf.2.2.2.2.2.1
  obtain ⟨x6, e6, s6⟩ := dec3 (n := n + 9) hf.2.2.2.2.2.2.1
  obtain ⟨x7, e7, s7⟩ := dec28 (n := n + 8) hf.2.2.2.2.2.2.2
  refine ⟨⟨x0, x1, x2, x3, x4, x5, x6, x7⟩, ?_, ⟨s0, s1, s2, s3, s4, s5, s7⟩⟩
  rw [← List.drop_zero (l := row), drop_cut row 0 5, e0, drop_cut row 5 1, e1, drop_cut row 6 1, e2, drop_cut row 7 1, e3, drop_cut row 8 1, e4, drop_cut row 9 1, e5, drop_cut row 10 1, e6, drop_cut row 11 1, e7, List.drop_eq_nil_of_le (by omega)]
  rfl
end Go.Proofs.YtllfgbhplfhdkaaGreat
