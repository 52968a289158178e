/- Rows of the parameters' types are the rows of typed data. No condition. -/
import Derived.Test.YtjflhdkeibijaaaGreatMo
import Derived.Test.YtjflhdkeibijaaaGreatTy
namespace Go.Proofs.YtjflhdkeibijaaaGreat
open Go.Vm Go.Mo
set_option maxRecDepth 100000
set_option linter.unusedSimpArgs false
set_option linter.unusedVariables false
theorem X7 {n : Nat} {row : List D} (h : TyR Tryz.prog (n + 1) 3 row) : ∃ x : Int, row = iR x ∧ Sm maxLen x := by
  rw [TyR, Tryz.underlying3] at h
  dsimp only at h
  obtain ⟨m, rfl, _⟩ := h; exact ⟨m, rfl, trivial⟩
theorem CD {n : Nat} {row : List D} (h : TyR Tryz.prog (n + 2) 171 row) : ∃ x : YD, row = YD.row x ∧ Sm maxLen x := by
  rw [TyR, Tryz.underlying171] at h
  dsimp only at h
  obtain ⟨hl, hf⟩ := h
  simp only [List.mem_cons, List.not_mem_nil, or_false, forall_eq_or_imp, forall_eq, ty3.2.1] at hf
  rw [Cg.2.1] at hl
  obtain ⟨x0, e0, s0⟩ := X7 (n := n + 0) hf.1
  obtain ⟨x1, e1, s1⟩ := X7 (n := n + 0) hf.2.1
  obtain ⟨x2, e2, s2⟩ := X7 (n := n + 0) hf.2.2.1
  obtain ⟨x3, e3, s3⟩ := X7 (n := n + 0) hf.2.2.2.1
  obtain ⟨x4, e4, s4⟩ := X7 (n := n + 0) hf.2.2.2.2
  refine ⟨⟨x0, x1, x2, x3, x4⟩, ?_, trivial⟩
  rw [← List.drop_zero (l := row), Zl row 0 1, e0, Zl row 1 1, e1, Zl row 2 1, e2, Zl row 3 1, e3, Zl row 4 1, e4, List.drop_eq_nil_of_le (by omega)]
  rfl
theorem Cw {n : Nat} {row : List D} (h : TyR Tryz.prog (n + 3) 22 row) : ∃ x : List YD, row = (slR 5 YD.row) x ∧ Sm maxLen x := by
  rw [TyR, Tryz.underlying22] at h
  dsimp only at h
  obtain ⟨rows, rfl, hl, hr⟩ := h
  obtain ⟨l, rfl, hs⟩ := JL (f := YD.row) (n := maxLen) (fun r hr' => CD (n := n + 0) (hr r hr').1)
  exact ⟨l, by simp, ⟨by simpa using hl, hs⟩⟩
theorem D0 {n : Nat} {row : List D} (h : TyR Tryz.prog (n + 2) 173 row) : ∃ x : ZI, row = ZI.row x ∧ Sm maxLen x := by
  rw [TyR, Tryz.underlying173] at h
  dsimp only at h
  obtain ⟨hl, hf⟩ := h
  simp only [List.mem_cons, List.not_mem_nil, or_false, forall_eq_or_imp, forall_eq, ty3.2.1] at hf
  rw [Ch.2.1] at hl
  obtain ⟨x0, e0, s0⟩ := X7 (n := n + 0) hf.1
  obtain ⟨x1, e1, s1⟩ := X7 (n := n + 0) hf.2.1
  obtain ⟨x2, e2, s2⟩ := X7 (n := n + 0) hf.2.2
  refine ⟨⟨x0, x1, x2⟩, ?_, trivial⟩
  rw [← List.drop_zero (l := row), Zl row 0 1, e0, Zl row 1 1, e1, Zl row 2 1, e2, List.drop_eq_nil_of_le (by omega)]
  rfl
theorem CW {n : Nat} {row : List D} (h : TyR Tryz.prog (n + 3) 23 row) : ∃ x : List ZI, row = (slR 3 ZI.row) x ∧ Sm maxLen x := by
  rw [TyR, Tryz.underlying23] at h
  dsimp only at h
  obtain ⟨rows, rfl, hl, hr⟩ := h
  obtain ⟨l, rfl, hs⟩ := JL (f := ZI.row) (n := maxLen) (fun r hr' => D0 (n := n + 0) (hr r hr').1)
  exact ⟨l, by simp, ⟨by simpa using hl, hs⟩⟩
theorem DZ {n : Nat} {row : List D} (h : TyR Tryz.prog (n + 2) 175 row) : ∃ x : ZU, row = ZU.row x ∧ Sm maxLen x := by
  rw [TyR, Tryz.underlying175] at h
  dsimp only at h
  obtain ⟨hl, hf⟩ := h
  simp only [List.mem_cons, List.not_mem_nil, or_false, forall_eq_or_imp, forall_eq, ty3.2.1] at hf
  rw [CQ.2.1] at hl
  obtain ⟨x0, e0, s0⟩ := X7 (n := n + 0) hf.1
  obtain ⟨x1, e1, s1⟩ := X7 (n := n + 0) hf.2.1
  obtain ⟨x2, e2, s2⟩ := X7 (n := n + 0) hf.2.2.1
  obtain ⟨x3, e3, s3⟩ := X7 (n := n + 0) hf.2.2.2
  refine ⟨⟨x0, x1, x2, x3⟩, ?_, trivial⟩
  rw [← List.drop_zero (l := row), Zl row 0 1, e0, Zl row 1 1, e1, Zl row 2 1, e2, Zl row 3 1, e3, List.drop_eq_nil_of_le (by omega)]
  rfl
theorem CM {n : Nat} {row : List D} (h : TyR Tryz.prog (n + 3) 24 row) : ∃ x : List ZU, row = (slR 4 ZU.row) x ∧ Sm maxLen x := by
  rw [TyR, Tryz.underlying24] at h
  dsimp only at h
  obtain ⟨rows, rfl, hl, hr⟩ := h
  obtain ⟨l, rfl, hs⟩ := JL (f := ZU.row) (n := maxLen) (fun r hr' => DZ (n := n + 0) (hr r hr').1)
  exact ⟨l, by simp, ⟨by simpa using hl, hs⟩⟩
theorem CK {n : Nat} {row : List D} (h : TyR Tryz.prog (n + 4) 26 row) : ∃ x : Z4, row = Z4.row x ∧ Sm maxLen x := by
  rw [TyR, Tryz.underlying26] at h
  dsimp only at h
  obtain ⟨hl, hf⟩ := h
  simp only [List.mem_cons, List.not_mem_nil, or_false, forall_eq_or_imp, forall_eq, ty3.2.1, BM.2.1, BJ.2.1, BE.2.1] at hf
  rw [Ci.2.1] at hl
  obtain ⟨x0, e0, s0⟩ := Cw (n := n + 0) hf.1
  obtain ⟨x1, e1, s1⟩ := CW (n := n + 0) hf.2.1
  obtain ⟨x2, e2, s2⟩ := CM (n := n + 0) hf.2.2.1
  obtain ⟨x3, e3, s3⟩ := X7 (n := n + 2) hf.2.2.2.1
  obtain ⟨x4, e4, s4⟩ := X7 (n := n + 2) hf.2.2.2.2
  refine ⟨⟨x0, x1, x2, x3, x4⟩, ?_, ⟨s0, s1, s2⟩⟩
  rw [← List.drop_zero (l := row), Zl row 0 1, e0, Zl row 1 1, e1, Zl row 2 1, e2, Zl row 3 1, e3, Zl row 4 1, e4, List.drop_eq_nil_of_le (by omega)]
  rfl
theorem Ds {n : Nat} {row : List D} (h : TyR Tryz.prog (n + 2) 135 row) : ∃ x : Z0, row = Z0.row x ∧ Sm maxLen x := by
  rw [TyR, Tryz.underlying135] at h
  dsimp only at h
  obtain ⟨hl, hf⟩ := h
  simp only [List.mem_cons, List.not_mem_nil, or_false, forall_eq_or_imp, forall_eq, ty3.2.1] at hf
  rw [Ce.2.1] at hl
  obtain ⟨x0, e0, s0⟩ := X7 (n := n + 0) hf.1
  obtain ⟨x1, e1, s1⟩ := X7 (n := n + 0) hf.2.1
  obtain ⟨x2, e2, s2⟩ := X7 (n := n + 0) hf.2.2.1
  obtain ⟨x3, e3, s3⟩ := X7 (n := n + 0) hf.2.2.2.1
  obtain ⟨x4, e4, s4⟩ := X7 (n := n + 0) hf.2.2.2.2.1
  obtain ⟨x5, e5, s5⟩ := X7 (n := n + 0) hf.2.2.2.2.2.1
  obtain ⟨x6, e6, s6⟩ := X7 (n := n + 0) hf.2.2.2.2.2.2
  refine ⟨⟨x0, x1, x2, x3, x4, x5, x6⟩, ?_, trivial⟩
  rw [← List.drop_zero (l := row), Zl row 0 1, e0, Zl row 1 1, e1, Zl row 2 1, e2, Zl row 3 1, e3, Zl row 4 1, e4, Zl row 5 1, e5, Zl row 6 1, e6, List.drop_eq_nil_of_le (by omega)]
  rfl
theorem CY {n : Nat} {row : List D} (h : TyR Tryz.prog (n + 3) 27 row) : ∃ x : List Z0, row = (slR 7 Z0.row) x ∧ Sm maxLen x := by
  rw [TyR, Tryz.underlying27] at h
  dsimp only at h
  obtain ⟨rows, rfl, hl, hr⟩ := h
  obtain ⟨l, rfl, hs⟩ := JL (f := Z0.row) (n := maxLen) (fun r hr' => Ds (n := n + 0) (hr r hr').1)
  exact ⟨l, by simp, ⟨by simpa using hl, hs⟩⟩
theorem N4 {n : Nat} {row : List D} (h : TyR Tryz.prog (n + 2) 28 row) : ∃ x : List Int, row = (slR 1 iR) x ∧ Sm maxLen x := by
  rw [TyR, Tryz.underlying28] at h
  dsimp only at h
  obtain ⟨rows, rfl, hl, hr⟩ := h
  obtain ⟨l, rfl, hs⟩ := JL (f := iR) (n := maxLen) (fun r hr' => X7 (n := n + 0) (hr r hr').1)
  exact ⟨l, by simp, ⟨by simpa using hl, hs⟩⟩
theorem BD {n : Nat} {row : List D} (h : TyR Tryz.prog (n + 1) 9 row) : ∃ x : ByteArray, row = sR x ∧ Sm maxLen x := by
  rw [TyR, Tryz.underlying9] at h
  dsimp only at h
  obtain ⟨s, rfl, hs⟩ := h; exact ⟨s, rfl, hs⟩
theorem CZ {n : Nat} {row : List D} (h : TyR Tryz.prog (n + 2) 86 row) : ∃ x : List ByteArray, row = (slR 1 sR) x ∧ Sm maxLen x := by
  rw [TyR, Tryz.underlying86] at h
  dsimp only at h
  obtain ⟨rows, rfl, hl, hr⟩ := h
  obtain ⟨l, rfl, hs⟩ := JL (f := sR) (n := maxLen) (fun r hr' => BD (n := n + 0) (hr r hr').1)
  exact ⟨l, by simp, ⟨by simpa using hl, hs⟩⟩
theorem Du {n : Nat} {row : List D} (h : TyR Tryz.prog (n + 3) 201 row) : ∃ x : ZT, row = ZT.row x ∧ Sm maxLen x := by
  rw [TyR, Tryz.underlying201] at h
  dsimp only at h
  obtain ⟨hl, hf⟩ := h
  simp only [List.mem_cons, List.not_mem_nil, or_false, forall_eq_or_imp, forall_eq, ty3.2.1, DW.2.1, BA.2.1] at hf
  rw [DJ.2.1] at hl
  obtain ⟨x0, e0, s0⟩ := X7 (n := n + 1) hf.1
  obtain ⟨x1, e1, s1⟩ := CZ (n := n + 0) hf.2.1
  obtain ⟨x2, e2, s2⟩ := N4 (n := n + 0) hf.2.2
  refine ⟨⟨x0, x1, x2⟩, ?_, ⟨s1, s2⟩⟩
  rw [← List.drop_zero (l := row), Zl row 0 1, e0, Zl row 1 1, e1, Zl row 2 1, e2, List.drop_eq_nil_of_le (by omega)]
  rfl
theorem D4 {n : Nat} {row : List D} (h : TyR Tryz.prog (n + 2) 202 row) : ∃ x : Zm, row = Zm.row x ∧ Sm maxLen x := by
  rw [TyR, Tryz.underlying202] at h
  dsimp only at h
  obtain ⟨hl, hf⟩ := h
  simp only [List.mem_cons, List.not_mem_nil, or_false, forall_eq_or_imp, forall_eq, ty3.2.1] at hf
  rw [DA.2.1] at hl
  obtain ⟨x0, e0, s0⟩ := X7 (n := n + 0) hf.1
  obtain ⟨x1, e1, s1⟩ := X7 (n := n + 0) hf.2.1
  obtain ⟨x2, e2, s2⟩ := X7 (n := n + 0) hf.2.2.1
  obtain ⟨x3, e3, s3⟩ := X7 (n := n + 0) hf.2.2.2.1
  obtain ⟨x4, e4, s4⟩ := X7 (n := n + 0) hf.2.2.2.2.1
  obtain ⟨x5, e5, s5⟩ := X7 (n := n + 0) hf.2.2.2.2.2.1
  obtain ⟨x6, e6, s6⟩ := X7 (n := n + 0) hf.2.2.2.2.2.2.1
  obtain ⟨x7, e7, s7⟩ := X7 (n := n + 0) hf.2.2.2.2.2.2.2.1
  obtain ⟨x8, e8, s8⟩ := X7 (n := n + 0) hf.2.2.2.2.2.2.2.2
  refine ⟨⟨x0, x1, x2, x3, x4, x5, x6, x7, x8⟩, ?_, trivial⟩
  rw [← List.drop_zero (l := row), Zl row 0 1, e0, Zl row 1 1, e1, Zl row 2 1, e2, Zl row 3 1, e3, Zl row 4 1, e4, Zl row 5 1, e5, Zl row 6 1, e6, Zl row 7 1, e7, Zl row 8 1, e8, List.drop_eq_nil_of_le (by omega)]
  rfl
theorem Dd {n : Nat} {row : List D} (h : TyR Tryz.prog (n + 3) 240 row) : ∃ x : ZO, row = ZO.row x ∧ Sm maxLen x := by
  rw [TyR, Tryz.underlying240] at h
  dsimp only at h
  obtain ⟨hl, hf⟩ := h
  simp only [List.mem_cons, List.not_mem_nil, or_false, forall_eq_or_imp, forall_eq, ty3.2.1, DW.2.1] at hf
  rw [CG.2.1] at hl
  obtain ⟨x0, e0, s0⟩ := X7 (n := n + 1) hf.1
  obtain ⟨x1, e1, s1⟩ := N4 (n := n + 0) hf.2.1
  obtain ⟨x2, e2, s2⟩ := X7 (n := n + 1) hf.2.2
  refine ⟨⟨x0, x1, x2⟩, ?_, s1⟩
  rw [← List.drop_zero (l := row), Zl row 0 1, e0, Zl row 1 1, e1, Zl row 2 1, e2, List.drop_eq_nil_of_le (by omega)]
  rfl
theorem Dq {n : Nat} {row : List D} (h : TyR Tryz.prog (n + 4) 203 row) : ∃ x : List ZO, row = (slR 3 ZO.row) x ∧ Sm maxLen x := by
  rw [TyR, Tryz.underlying203] at h
  dsimp only at h
  obtain ⟨rows, rfl, hl, hr⟩ := h
  obtain ⟨l, rfl, hs⟩ := JL (f := ZO.row) (n := maxLen) (fun r hr' => Dd (n := n + 0) (hr r hr').1)
  exact ⟨l, by simp, ⟨by simpa using hl, hs⟩⟩
theorem BC {n : Nat} {row : List D} (h : TyR Tryz.prog (n + 1) 4 row) : ∃ x : Bool, row = lR x ∧ Sm maxLen x := by
  rw [TyR, Tryz.underlying4] at h
  dsimp only at h
  obtain ⟨b, rfl⟩ := h; exact ⟨b, rfl, trivial⟩
theorem D8 {n : Nat} {row : List D} (h : TyR Tryz.prog (n + 2) 256 row) : ∃ x : Zq, row = Zq.row x ∧ Sm maxLen x := by
  rw [TyR, Tryz.underlying256] at h
  dsimp only at h
  obtain ⟨hl, hf⟩ := h
  simp only [List.mem_cons, List.not_mem_nil, or_false, forall_eq_or_imp, forall_eq, ty3.2.1, ty4.2.1] at hf
  rw [Co.2.1] at hl
  obtain ⟨x0, e0, s0⟩ := X7 (n := n + 0) hf.1
  obtain ⟨x1, e1, s1⟩ := BC (n := n + 0) hf.2
  refine ⟨⟨x0, x1⟩, ?_, trivial⟩
  rw [← List.drop_zero (l := row), Zl row 0 1, e0, Zl row 1 1, e1, List.drop_eq_nil_of_le (by omega)]
  rfl
theorem Dw {n : Nat} {row : List D} (h : TyR Tryz.prog (n + 3) 242 row) : ∃ x : List Zq, row = (slR 2 Zq.row) x ∧ Sm maxLen x := by
  rw [TyR, Tryz.underlying242] at h
  dsimp only at h
  obtain ⟨rows, rfl, hl, hr⟩ := h
  obtain ⟨l, rfl, hs⟩ := JL (f := Zq.row) (n := maxLen) (fun r hr' => D8 (n := n + 0) (hr r hr').1)
  exact ⟨l, by simp, ⟨by simpa using hl, hs⟩⟩
theorem D3 {n : Nat} {row : List D} (h : TyR Tryz.prog (n + 2) 258 row) : ∃ x : ZX, row = ZX.row x ∧ Sm maxLen x := by
  rw [TyR, Tryz.underlying258] at h
  dsimp only at h
  obtain ⟨hl, hf⟩ := h
  simp only [List.mem_cons, List.not_mem_nil, or_false, forall_eq_or_imp, forall_eq, ty3.2.1] at hf
  rw [CX.2.1] at hl
  obtain ⟨x0, e0, s0⟩ := X7 (n := n + 0) hf.1
  obtain ⟨x1, e1, s1⟩ := X7 (n := n + 0) hf.2.1
  obtain ⟨x2, e2, s2⟩ := X7 (n := n + 0) hf.2.2.1
  obtain ⟨x3, e3, s3⟩ := X7 (n := n + 0) hf.2.2.2.1
  obtain ⟨x4, e4, s4⟩ := X7 (n := n + 0) hf.2.2.2.2
  refine ⟨⟨x0, x1, x2, x3, x4⟩, ?_, trivial⟩
  rw [← List.drop_zero (l := row), Zl row 0 1, e0, Zl row 1 1, e1, Zl row 2 1, e2, Zl row 3 1, e3, Zl row 4 1, e4, List.drop_eq_nil_of_le (by omega)]
  rfl
theorem DV {n : Nat} {row : List D} (h : TyR Tryz.prog (n + 3) 243 row) : ∃ x : List ZX, row = (slR 5 ZX.row) x ∧ Sm maxLen x := by
  rw [TyR, Tryz.underlying243] at h
  dsimp only at h
  obtain ⟨rows, rfl, hl, hr⟩ := h
  obtain ⟨l, rfl, hs⟩ := JL (f := ZX.row) (n := maxLen) (fun r hr' => D3 (n := n + 0) (hr r hr').1)
  exact ⟨l, by simp, ⟨by simpa using hl, hs⟩⟩
theorem Dl {n : Nat} {row : List D} (h : TyR Tryz.prog (n + 4) 245 row) : ∃ x : ZF, row = ZF.row x ∧ Sm maxLen x := by
  rw [TyR, Tryz.underlying245] at h
  dsimp only at h
  obtain ⟨hl, hf⟩ := h
  simp only [List.mem_cons, List.not_mem_nil, or_false, forall_eq_or_imp, forall_eq, ty3.2.1, Cd.2.1, CF.2.1] at hf
  rw [Cm.2.1] at hl
  obtain ⟨x0, e0, s0⟩ := X7 (n := n + 2) hf.1
  obtain ⟨x1, e1, s1⟩ := X7 (n := n + 2) hf.2.1
  obtain ⟨x2, e2, s2⟩ := X7 (n := n + 2) hf.2.2.1
  obtain ⟨x3, e3, s3⟩ := Dw (n := n + 0) hf.2.2.2.1
  obtain ⟨x4, e4, s4⟩ := DV (n := n + 0) hf.2.2.2.2
  refine ⟨⟨x0, x1, x2, x3, x4⟩, ?_, ⟨s3, s4⟩⟩
  rw [← List.drop_zero (l := row), Zl row 0 1, e0, Zl row 1 1, e1, Zl row 2 1, e2, Zl row 3 1, e3, Zl row 4 1, e4, List.drop_eq_nil_of_le (by omega)]
  rfl
theorem DU {n : Nat} {row : List D} (h : TyR Tryz.prog (n + 5) 204 row) : ∃ x : List ZF, row = (slR 5 ZF.row) x ∧ Sm maxLen x := by
  rw [TyR, Tryz.underlying204] at h
  dsimp only at h
  obtain ⟨rows, rfl, hl, hr⟩ := h
  obtain ⟨l, rfl, hs⟩ := JL (f := ZF.row) (n := maxLen) (fun r hr' => Dl (n := n + 0) (hr r hr').1)
  exact ⟨l, by simp, ⟨by simpa using hl, hs⟩⟩
theorem Dz {n : Nat} {row : List D} (h : TyR Tryz.prog (n + 6) 206 row) : ∃ x : ZY, row = ZY.row x ∧ Sm maxLen x := by
  rw [TyR, Tryz.underlying206] at h
  dsimp only at h
  obtain ⟨hl, hf⟩ := h
  simp only [List.mem_cons, List.not_mem_nil, or_false, forall_eq_or_imp, forall_eq, Cx.2.1, CP.2.1] at hf
  rw [DK.2.1] at hl
  obtain ⟨x0, e0, s0⟩ := Dq (n := n + 1) hf.1
  obtain ⟨x1, e1, s1⟩ := DU (n := n + 0) hf.2
  refine ⟨⟨x0, x1⟩, ?_, ⟨s0, s1⟩⟩
  rw [← List.drop_zero (l := row), Zl row 0 1, e0, Zl row 1 1, e1, List.drop_eq_nil_of_le (by omega)]
  rfl
theorem DY {n : Nat} {row : List D} (h : TyR Tryz.prog (n + 7) 208 row) : ∃ x : Zb, row = Zb.row x ∧ Sm maxLen x := by
  rw [TyR, Tryz.underlying208] at h
  dsimp only at h
  obtain ⟨hl, hf⟩ := h
  simp only [List.mem_cons, List.not_mem_nil, or_false, forall_eq_or_imp, forall_eq, ty3.2.1, DJ.2.1, DA.2.1, DK.2.1] at hf
  rw [Ct.2.1] at hl
  obtain ⟨x0, e0, s0⟩ := X7 (n := n + 5) hf.1
  obtain ⟨x1, e1, s1⟩ := X7 (n := n + 5) hf.2.1
  obtain ⟨x2, e2, s2⟩ := Du (n := n + 3) hf.2.2.1
  obtain ⟨x3, e3, s3⟩ := D4 (n := n + 4) hf.2.2.2.1
  obtain ⟨x4, e4, s4⟩ := Dz (n := n + 0) hf.2.2.2.2
  refine ⟨⟨x0, x1, x2, x3, x4⟩, ?_, ⟨s2, s4⟩⟩
  rw [← List.drop_zero (l := row), Zl row 0 1, e0, Zl row 1 1, e1, Zl row 2 3, e2, Zl row 5 9, e3, Zl row 14 2, e4, List.drop_eq_nil_of_le (by omega)]
  rfl
theorem Dx {n : Nat} {row : List D} (h : TyR Tryz.prog (n + 8) 123 row) : ∃ x : List Zb, row = (slR 16 Zb.row) x ∧ Sm maxLen x := by
  rw [TyR, Tryz.underlying123] at h
  dsimp only at h
  obtain ⟨rows, rfl, hl, hr⟩ := h
  obtain ⟨l, rfl, hs⟩ := JL (f := Zb.row) (n := maxLen) (fun r hr' => DY (n := n + 0) (hr r hr').1)
  exact ⟨l, by simp, ⟨by simpa using hl, hs⟩⟩
theorem Dn {n : Nat} {row : List D} (h : TyR Tryz.prog (n + 9) 125 row) : ∃ x : ZH, row = ZH.row x ∧ Sm maxLen x := by
  rw [TyR, Tryz.underlying125] at h
  dsimp only at h
  obtain ⟨hl, hf⟩ := h
  simp only [List.mem_cons, List.not_mem_nil, or_false, forall_eq_or_imp, forall_eq, ty3.2.1, Ca.2.1] at hf
  rw [CT.2.1] at hl
  obtain ⟨x0, e0, s0⟩ := X7 (n := n + 7) hf.1
  obtain ⟨x1, e1, s1⟩ := Dx (n := n + 0) hf.2
  refine ⟨⟨x0, x1⟩, ?_, s1⟩
  rw [← List.drop_zero (l := row), Zl row 0 1, e0, Zl row 1 1, e1, List.drop_eq_nil_of_le (by omega)]
  rfl
theorem Cc {n : Nat} {row : List D} (h : TyR Tryz.prog (n + 10) 29 row) : ∃ x : List ZH, row = (slR 2 ZH.row) x ∧ Sm maxLen x := by
  rw [TyR, Tryz.underlying29] at h
  dsimp only at h
  obtain ⟨rows, rfl, hl, hr⟩ := h
  obtain ⟨l, rfl, hs⟩ := JL (f := ZH.row) (n := maxLen) (fun r hr' => Dn (n := n + 0) (hr r hr').1)
  exact ⟨l, by simp, ⟨by simpa using hl, hs⟩⟩
theorem Cf {n : Nat} {row : List D} (h : TyR Tryz.prog (n + 11) 31 row) : ∃ x : Zc, row = Zc.row x ∧ Sm maxLen x := by
  rw [TyR, Tryz.underlying31] at h
  dsimp only at h
  obtain ⟨hl, hf⟩ := h
  simp only [List.mem_cons, List.not_mem_nil, or_false, forall_eq_or_imp, forall_eq, ty3.2.1, Ci.2.1, BG.2.1, DW.2.1, C8.2.1] at hf
  rw [BL.2.1] at hl
  obtain ⟨x0, e0, s0⟩ := CK (n := n + 6) hf.1
  obtain ⟨x1, e1, s1⟩ := CY (n := n + 7) hf.2.1
  obtain ⟨x2, e2, s2⟩ := N4 (n := n + 8) hf.2.2.1
  obtain ⟨x3, e3, s3⟩ := Cc (n := n + 0) hf.2.2.2.1
  obtain ⟨x4, e4, s4⟩ := N4 (n := n + 8) hf.2.2.2.2.1
  obtain ⟨x5, e5, s5⟩ := N4 (n := n + 8) hf.2.2.2.2.2.1
  obtain ⟨x6, e6, s6⟩ := X7 (n := n + 9) hf.2.2.2.2.2.2.1
  obtain ⟨x7, e7, s7⟩ := N4 (n := n + 8) hf.2.2.2.2.2.2.2
  refine ⟨⟨x0, x1, x2, x3, x4, x5, x6, x7⟩, ?_, ⟨s0, s1, s2, s3, s4, s5, s7⟩⟩
  rw [← List.drop_zero (l := row), Zl row 0 5, e0, Zl row 5 1, e1, Zl row 6 1, e2, Zl row 7 1, e3, Zl row 8 1, e4, Zl row 9 1, e5, Zl row 10 1, e6, Zl row 11 1, e7, List.drop_eq_nil_of_le (by omega)]
  rfl
end Go.Proofs.YtjflhdkeibijaaaGreat
