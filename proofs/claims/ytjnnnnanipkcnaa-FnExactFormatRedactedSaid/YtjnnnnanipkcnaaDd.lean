/- Rows of the parameters' types are the rows of typed data. No condition. -/
import Derived.Test.YtjnnnnanipkcnaaMo
import Derived.Test.YtjnnnnanipkcnaaTy
namespace Go.Proofs.Ytjnnnnanipkcnaa
open Go.Vm Go.Mo
set_option maxRecDepth 100000
set_option linter.unusedSimpArgs false
set_option linter.unusedVariables false
theorem dec3 {n : Nat} {row : List D} (h : TyR Try.prog (n + 1) 3 row) : ∃ x : Int, row = iR x ∧ Sm maxLen x := by
  rw [TyR, Try.underlying3] at h
  dsimp only at h
  obtain ⟨m, rfl, _⟩ := h; exact ⟨m, rfl, trivial⟩
theorem dec22 {n : Nat} {row : List D} (h : TyR Try.prog (n + 2) 22 row) : ∃ x : List Int, row = (slR 1 iR) x ∧ Sm maxLen x := by
  rw [TyR, Try.underlying22] at h
  dsimp only at h
  obtain ⟨rows, rfl, hl, hr⟩ := h
  obtain ⟨l, rfl, hs⟩ := rows_dec (f := iR) (n := maxLen) (fun r hr' => dec3 (n := n + 0) (hr r hr').1)
  exact ⟨l, by simp, ⟨by simpa using hl, hs⟩⟩
theorem dec4 {n : Nat} {row : List D} (h : TyR Try.prog (n + 1) 4 row) : ∃ x : Bool, row = lR x ∧ Sm maxLen x := by
  rw [TyR, Try.underlying4] at h
  dsimp only at h
  obtain ⟨b, rfl⟩ := h; exact ⟨b, rfl, trivial⟩
theorem dec23 {n : Nat} {row : List D} (h : TyR Try.prog (n + 2) 23 row) : ∃ x : List Bool, row = (slR 1 lR) x ∧ Sm maxLen x := by
  rw [TyR, Try.underlying23] at h
  dsimp only at h
  obtain ⟨rows, rfl, hl, hr⟩ := h
  obtain ⟨l, rfl, hs⟩ := rows_dec (f := lR) (n := maxLen) (fun r hr' => dec4 (n := n + 0) (hr r hr').1)
  exact ⟨l, by simp, ⟨by simpa using hl, hs⟩⟩
theorem dec9 {n : Nat} {row : List D} (h : TyR Try.prog (n + 1) 9 row) : ∃ x : ByteArray, row = sR x ∧ Sm maxLen x := by
  rw [TyR, Try.underlying9] at h
  dsimp only at h
  obtain ⟨s, rfl, hs⟩ := h; exact ⟨s, rfl, hs⟩
theorem dec24 {n : Nat} {row : List D} (h : TyR Try.prog (n + 2) 24 row) : ∃ x : List ByteArray, row = (slR 1 sR) x ∧ Sm maxLen x := by
  rw [TyR, Try.underlying24] at h
  dsimp only at h
  obtain ⟨rows, rfl, hl, hr⟩ := h
  obtain ⟨l, rfl, hs⟩ := rows_dec (f := sR) (n := maxLen) (fun r hr' => dec9 (n := n + 0) (hr r hr').1)
  exact ⟨l, by simp, ⟨by simpa using hl, hs⟩⟩
theorem dec25 {n : Nat} {row : List D} (h : TyR Try.prog (n + 3) 25 row) : ∃ x : List (List Int), row = (slR 1 (slR 1 iR)) x ∧ Sm maxLen x := by
  rw [TyR, Try.underlying25] at h
  dsimp only at h
  obtain ⟨rows, rfl, hl, hr⟩ := h
  obtain ⟨l, rfl, hs⟩ := rows_dec (f := (slR 1 iR)) (n := maxLen) (fun r hr' => dec22 (n := n + 0) (hr r hr').1)
  exact ⟨l, by simp, ⟨by simpa using hl, hs⟩⟩
theorem dec27 {n : Nat} {row : List D} (h : TyR Try.prog (n + 4) 27 row) : ∃ x : TRedacted, row = TRedacted.row x ∧ Sm maxLen x := by
  rw [TyR, Try.underlying27] at h
  dsimp only at h
  obtain ⟨hl, hf⟩ := h
  simp only [List.mem_cons, List.not_mem_nil, or_false, forall_eq_or_imp, forall_eq, ce3, ce22, ce23, ce24, ce25] at hf
  rw [ce27] at hl
  obtain ⟨x0, e0, s0⟩ := dec3 (n := n + 2) hf.1
  obtain ⟨x1, e1, s1⟩ := dec22 (n := n + 1) hf.2.1
  obtain ⟨x2, e2, s2⟩ := dec23 (n := n + 1) hf.2.2.1
  obtain ⟨x3, e3, s3⟩ := dec24 (n := n + 1) hf.2.2.2.1
  obtain ⟨x4, e4, s4⟩ := dec22 (n := n + 1) hf.2.2.2.2.1
  obtain ⟨x5, e5, s5⟩ := dec25 (n := n + 0) hf.2.2.2.2.2
  refine ⟨⟨x0, x1, x2, x3, x4, x5⟩, ?_, ⟨s1, s2, s3, s4, s5⟩⟩
  rw [← List.drop_zero (l := row), drop_cut row 0 1, e0, drop_cut row 1 1, e1, drop_cut row 2 1, e2, drop_cut row 3 1, e3, drop_cut row 4 1, e4, drop_cut row 5 1, e5, List.drop_eq_nil_of_le (by omega)]
  rfl
end Go.Proofs.Ytjnnnnanipkcnaa
