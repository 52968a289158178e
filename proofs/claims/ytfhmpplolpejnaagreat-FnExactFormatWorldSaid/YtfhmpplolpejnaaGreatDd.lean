/- Rows of the parameters' types are the rows of typed data. No condition. -/
import Derived.Test.YtfhmpplolpejnaaGreatMo
import Derived.Test.YtfhmpplolpejnaaGreatTy
namespace Go.Proofs.YtfhmpplolpejnaaGreat
open Go.Vm Go.Mo
set_option maxRecDepth 100000
set_option linter.unusedSimpArgs false
set_option linter.unusedVariables false
theorem Jx {n : Nat} {row : List D} (h : TyR Tryz.prog (n + 1) 3 row) : ∃ x : Int, row = iR x ∧ Sm maxLen x := by
  rw [TyR, Tryz.underlying3] at h
  dsimp only at h
  obtain ⟨m, rfl, _⟩ := h; exact ⟨m, rfl, trivial⟩
theorem ZWX {n : Nat} {row : List D} (h : TyR Tryz.prog (n + 2) 148 row) : ∃ x : YC, row = YC.row x ∧ Sm maxLen x := by
  rw [TyR, Tryz.underlying148] at h
  dsimp only at h
  obtain ⟨hl, hf⟩ := h
  simp only [List.mem_cons, List.not_mem_nil, or_false, forall_eq_or_imp, forall_eq, ty3.2.1] at hf
  rw [ZW3.2.1] at hl
  obtain ⟨x0, e0, s0⟩ := Jx (n := n + 0) hf.1
  obtain ⟨x1, e1, s1⟩ := Jx (n := n + 0) hf.2.1
  obtain ⟨x2, e2, s2⟩ := Jx (n := n + 0) hf.2.2.1
  obtain ⟨x3, e3, s3⟩ := Jx (n := n + 0) hf.2.2.2.1
  obtain ⟨x4, e4, s4⟩ := Jx (n := n + 0) hf.2.2.2.2
  refine ⟨⟨x0, x1, x2, x3, x4⟩, ?_, trivial⟩
  rw [← List.drop_zero (l := row), Z9 row 0 1, e0, Z9 row 1 1, e1, Z9 row 2 1, e2, Z9 row 3 1, e3, Z9 row 4 1, e4, List.drop_eq_nil_of_le (by omega)]
  rfl
theorem ZWr {n : Nat} {row : List D} (h : TyR Tryz.prog (n + 3) 22 row) : ∃ x : List YC, row = (slR 5 YC.row) x ∧ Sm maxLen x := by
  rw [TyR, Tryz.underlying22] at h
  dsimp only at h
  obtain ⟨rows, rfl, hl, hr⟩ := h
  obtain ⟨l, rfl, hs⟩ := zo (f := YC.row) (n := maxLen) (fun r hr' => ZWX (n := n + 0) (hr r hr').1)
  exact ⟨l, by simp, ⟨by simpa using hl, hs⟩⟩
theorem ZWA {n : Nat} {row : List D} (h : TyR Tryz.prog (n + 2) 152 row) : ∃ x : ZE, row = ZE.row x ∧ Sm maxLen x := by
  rw [TyR, Tryz.underlying152] at h
  dsimp only at h
  obtain ⟨hl, hf⟩ := h
  simp only [List.mem_cons, List.not_mem_nil, or_false, forall_eq_or_imp, forall_eq, ty3.2.1] at hf
  rw [ZW5.2.1] at hl
  obtain ⟨x0, e0, s0⟩ := Jx (n := n + 0) hf.1
  obtain ⟨x1, e1, s1⟩ := Jx (n := n + 0) hf.2.1
  obtain ⟨x2, e2, s2⟩ := Jx (n := n + 0) hf.2.2
  refine ⟨⟨x0, x1, x2⟩, ?_, trivial⟩
  rw [← List.drop_zero (l := row), Z9 row 0 1, e0, Z9 row 1 1, e1, Z9 row 2 1, e2, List.drop_eq_nil_of_le (by omega)]
  rfl
theorem ZXD {n : Nat} {row : List D} (h : TyR Tryz.prog (n + 3) 23 row) : ∃ x : List ZE, row = (slR 3 ZE.row) x ∧ Sm maxLen x := by
  rw [TyR, Tryz.underlying23] at h
  dsimp only at h
  obtain ⟨rows, rfl, hl, hr⟩ := h
  obtain ⟨l, rfl, hs⟩ := zo (f := ZE.row) (n := maxLen) (fun r hr' => ZWA (n := n + 0) (hr r hr').1)
  exact ⟨l, by simp, ⟨by simpa using hl, hs⟩⟩
theorem ZWG {n : Nat} {row : List D} (h : TyR Tryz.prog (n + 2) 156 row) : ∃ x : Zl, row = Zl.row x ∧ Sm maxLen x := by
  rw [TyR, Tryz.underlying156] at h
  dsimp only at h
  obtain ⟨hl, hf⟩ := h
  simp only [List.mem_cons, List.not_mem_nil, or_false, forall_eq_or_imp, forall_eq, ty3.2.1] at hf
  rw [ZWl.2.1] at hl
  obtain ⟨x0, e0, s0⟩ := Jx (n := n + 0) hf.1
  obtain ⟨x1, e1, s1⟩ := Jx (n := n + 0) hf.2.1
  obtain ⟨x2, e2, s2⟩ := Jx (n := n + 0) hf.2.2.1
  obtain ⟨x3, e3, s3⟩ := Jx (n := n + 0) hf.2.2.2
  refine ⟨⟨x0, x1, x2, x3⟩, ?_, trivial⟩
  rw [← List.drop_zero (l := row), Z9 row 0 1, e0, Z9 row 1 1, e1, Z9 row 2 1, e2, Z9 row 3 1, e3, List.drop_eq_nil_of_le (by omega)]
  rfl
theorem ZWz {n : Nat} {row : List D} (h : TyR Tryz.prog (n + 3) 24 row) : ∃ x : List Zl, row = (slR 4 Zl.row) x ∧ Sm maxLen x := by
  rw [TyR, Tryz.underlying24] at h
  dsimp only at h
  obtain ⟨rows, rfl, hl, hr⟩ := h
  obtain ⟨l, rfl, hs⟩ := zo (f := Zl.row) (n := maxLen) (fun r hr' => ZWG (n := n + 0) (hr r hr').1)
  exact ⟨l, by simp, ⟨by simpa using hl, hs⟩⟩
theorem ZTt {n : Nat} {row : List D} (h : TyR Tryz.prog (n + 4) 26 row) : ∃ x : ZF, row = ZF.row x ∧ Sm maxLen x := by
  rw [TyR, Tryz.underlying26] at h
  dsimp only at h
  obtain ⟨hl, hf⟩ := h
  simp only [List.mem_cons, List.not_mem_nil, or_false, forall_eq_or_imp, forall_eq, ty3.2.1, ZXj.2.1, ZXf.2.1, ZXt.2.1] at hf
  rw [ZWs.2.1] at hl
  obtain ⟨x0, e0, s0⟩ := ZWr (n := n + 0) hf.1
  obtain ⟨x1, e1, s1⟩ := ZXD (n := n + 0) hf.2.1
  obtain ⟨x2, e2, s2⟩ := ZWz (n := n + 0) hf.2.2.1
  obtain ⟨x3, e3, s3⟩ := Jx (n := n + 2) hf.2.2.2.1
  obtain ⟨x4, e4, s4⟩ := Jx (n := n + 2) hf.2.2.2.2
  refine ⟨⟨x0, x1, x2, x3, x4⟩, ?_, ⟨s0, s1, s2⟩⟩
  rw [← List.drop_zero (l := row), Z9 row 0 1, e0, Z9 row 1 1, e1, Z9 row 2 1, e2, Z9 row 3 1, e3, Z9 row 4 1, e4, List.drop_eq_nil_of_le (by omega)]
  rfl
theorem ZXp {n : Nat} {row : List D} (h : TyR Tryz.prog (n + 1) 9 row) : ∃ x : ByteArray, row = sR x ∧ Sm maxLen x := by
  rw [TyR, Tryz.underlying9] at h
  dsimp only at h
  obtain ⟨s, rfl, hs⟩ := h; exact ⟨s, rfl, hs⟩
theorem ZXF {n : Nat} {row : List D} (h : TyR Tryz.prog (n + 2) 27 row) : ∃ x : List ByteArray, row = (slR 1 sR) x ∧ Sm maxLen x := by
  rw [TyR, Tryz.underlying27] at h
  dsimp only at h
  obtain ⟨rows, rfl, hl, hr⟩ := h
  obtain ⟨l, rfl, hs⟩ := zo (f := sR) (n := maxLen) (fun r hr' => ZXp (n := n + 0) (hr r hr').1)
  exact ⟨l, by simp, ⟨by simpa using hl, hs⟩⟩
theorem ZNv {n : Nat} {row : List D} (h : TyR Tryz.prog (n + 2) 28 row) : ∃ x : List Int, row = (slR 1 iR) x ∧ Sm maxLen x := by
  rw [TyR, Tryz.underlying28] at h
  dsimp only at h
  obtain ⟨rows, rfl, hl, hr⟩ := h
  obtain ⟨l, rfl, hs⟩ := zo (f := iR) (n := maxLen) (fun r hr' => Jx (n := n + 0) (hr r hr').1)
  exact ⟨l, by simp, ⟨by simpa using hl, hs⟩⟩
theorem ZWy {n : Nat} {row : List D} (h : TyR Tryz.prog (n + 3) 30 row) : ∃ x : Zg, row = Zg.row x ∧ Sm maxLen x := by
  rw [TyR, Tryz.underlying30] at h
  dsimp only at h
  obtain ⟨hl, hf⟩ := h
  simp only [List.mem_cons, List.not_mem_nil, or_false, forall_eq_or_imp, forall_eq, ty3.2.1, ZXl.2.1, ZWR.2.1] at hf
  rw [ZW2.2.1] at hl
  obtain ⟨x0, e0, s0⟩ := Jx (n := n + 1) hf.1
  obtain ⟨x1, e1, s1⟩ := ZXF (n := n + 0) hf.2.1
  obtain ⟨x2, e2, s2⟩ := ZNv (n := n + 0) hf.2.2
  refine ⟨⟨x0, x1, x2⟩, ?_, ⟨s1, s2⟩⟩
  rw [← List.drop_zero (l := row), Z9 row 0 1, e0, Z9 row 1 1, e1, Z9 row 2 1, e2, List.drop_eq_nil_of_le (by omega)]
  rfl
theorem ZW0 {n : Nat} {row : List D} (h : TyR Tryz.prog (n + 2) 32 row) : ∃ x : ZY, row = ZY.row x ∧ Sm maxLen x := by
  rw [TyR, Tryz.underlying32] at h
  dsimp only at h
  obtain ⟨hl, hf⟩ := h
  simp only [List.mem_cons, List.not_mem_nil, or_false, forall_eq_or_imp, forall_eq, ty3.2.1] at hf
  rw [ZW8.2.1] at hl
  obtain ⟨x0, e0, s0⟩ := Jx (n := n + 0) hf.1
  obtain ⟨x1, e1, s1⟩ := Jx (n := n + 0) hf.2.1
  obtain ⟨x2, e2, s2⟩ := Jx (n := n + 0) hf.2.2.1
  obtain ⟨x3, e3, s3⟩ := Jx (n := n + 0) hf.2.2.2.1
  obtain ⟨x4, e4, s4⟩ := Jx (n := n + 0) hf.2.2.2.2.1
  obtain ⟨x5, e5, s5⟩ := Jx (n := n + 0) hf.2.2.2.2.2.1
  obtain ⟨x6, e6, s6⟩ := Jx (n := n + 0) hf.2.2.2.2.2.2.1
  obtain ⟨x7, e7, s7⟩ := Jx (n := n + 0) hf.2.2.2.2.2.2.2.1
  obtain ⟨x8, e8, s8⟩ := Jx (n := n + 0) hf.2.2.2.2.2.2.2.2
  refine ⟨⟨x0, x1, x2, x3, x4, x5, x6, x7, x8⟩, ?_, trivial⟩
  rw [← List.drop_zero (l := row), Z9 row 0 1, e0, Z9 row 1 1, e1, Z9 row 2 1, e2, Z9 row 3 1, e3, Z9 row 4 1, e4, Z9 row 5 1, e5, Z9 row 6 1, e6, Z9 row 7 1, e7, Z9 row 8 1, e8, List.drop_eq_nil_of_le (by omega)]
  rfl
theorem ZWh {n : Nat} {row : List D} (h : TyR Tryz.prog (n + 3) 183 row) : ∃ x : ZB, row = ZB.row x ∧ Sm maxLen x := by
  rw [TyR, Tryz.underlying183] at h
  dsimp only at h
  obtain ⟨hl, hf⟩ := h
  simp only [List.mem_cons, List.not_mem_nil, or_false, forall_eq_or_imp, forall_eq, ty3.2.1, ZWR.2.1] at hf
  rw [ZXB.2.1] at hl
  obtain ⟨x0, e0, s0⟩ := Jx (n := n + 1) hf.1
  obtain ⟨x1, e1, s1⟩ := ZNv (n := n + 0) hf.2.1
  obtain ⟨x2, e2, s2⟩ := Jx (n := n + 1) hf.2.2
  refine ⟨⟨x0, x1, x2⟩, ?_, s1⟩
  rw [← List.drop_zero (l := row), Z9 row 0 1, e0, Z9 row 1 1, e1, Z9 row 2 1, e2, List.drop_eq_nil_of_le (by omega)]
  rfl
theorem ZWp {n : Nat} {row : List D} (h : TyR Tryz.prog (n + 4) 33 row) : ∃ x : List ZB, row = (slR 3 ZB.row) x ∧ Sm maxLen x := by
  rw [TyR, Tryz.underlying33] at h
  dsimp only at h
  obtain ⟨rows, rfl, hl, hr⟩ := h
  obtain ⟨l, rfl, hs⟩ := zo (f := ZB.row) (n := maxLen) (fun r hr' => ZWh (n := n + 0) (hr r hr').1)
  exact ⟨l, by simp, ⟨by simpa using hl, hs⟩⟩
theorem ZXq {n : Nat} {row : List D} (h : TyR Tryz.prog (n + 1) 4 row) : ∃ x : Bool, row = lR x ∧ Sm maxLen x := by
  rw [TyR, Tryz.underlying4] at h
  dsimp only at h
  obtain ⟨b, rfl⟩ := h; exact ⟨b, rfl, trivial⟩
theorem ZWT {n : Nat} {row : List D} (h : TyR Tryz.prog (n + 2) 277 row) : ∃ x : XG, row = XG.row x ∧ Sm maxLen x := by
  rw [TyR, Tryz.underlying277] at h
  dsimp only at h
  obtain ⟨hl, hf⟩ := h
  simp only [List.mem_cons, List.not_mem_nil, or_false, forall_eq_or_imp, forall_eq, ty3.2.1, ty4.2.1] at hf
  rw [ZW6.2.1] at hl
  obtain ⟨x0, e0, s0⟩ := Jx (n := n + 0) hf.1
  obtain ⟨x1, e1, s1⟩ := ZXq (n := n + 0) hf.2
  refine ⟨⟨x0, x1⟩, ?_, trivial⟩
  rw [← List.drop_zero (l := row), Z9 row 0 1, e0, Z9 row 1 1, e1, List.drop_eq_nil_of_le (by omega)]
  rfl
theorem ZWi {n : Nat} {row : List D} (h : TyR Tryz.prog (n + 3) 185 row) : ∃ x : List XG, row = (slR 2 XG.row) x ∧ Sm maxLen x := by
  rw [TyR, Tryz.underlying185] at h
  dsimp only at h
  obtain ⟨rows, rfl, hl, hr⟩ := h
  obtain ⟨l, rfl, hs⟩ := zo (f := XG.row) (n := maxLen) (fun r hr' => ZWT (n := n + 0) (hr r hr').1)
  exact ⟨l, by simp, ⟨by simpa using hl, hs⟩⟩
theorem ZWS {n : Nat} {row : List D} (h : TyR Tryz.prog (n + 2) 281 row) : ∃ x : Za, row = Za.row x ∧ Sm maxLen x := by
  rw [TyR, Tryz.underlying281] at h
  dsimp only at h
  obtain ⟨hl, hf⟩ := h
  simp only [List.mem_cons, List.not_mem_nil, or_false, forall_eq_or_imp, forall_eq, ty3.2.1] at hf
  rw [ZXO.2.1] at hl
  obtain ⟨x0, e0, s0⟩ := Jx (n := n + 0) hf.1
  obtain ⟨x1, e1, s1⟩ := Jx (n := n + 0) hf.2.1
  obtain ⟨x2, e2, s2⟩ := Jx (n := n + 0) hf.2.2.1
  obtain ⟨x3, e3, s3⟩ := Jx (n := n + 0) hf.2.2.2.1
  obtain ⟨x4, e4, s4⟩ := Jx (n := n + 0) hf.2.2.2.2
  refine ⟨⟨x0, x1, x2, x3, x4⟩, ?_, trivial⟩
  rw [← List.drop_zero (l := row), Z9 row 0 1, e0, Z9 row 1 1, e1, Z9 row 2 1, e2, Z9 row 3 1, e3, Z9 row 4 1, e4, List.drop_eq_nil_of_le (by omega)]
  rfl
theorem ZWL {n : Nat} {row : List D} (h : TyR Tryz.prog (n + 3) 186 row) : ∃ x : List Za, row = (slR 5 Za.row) x ∧ Sm maxLen x := by
  rw [TyR, Tryz.underlying186] at h
  dsimp only at h
  obtain ⟨rows, rfl, hl, hr⟩ := h
  obtain ⟨l, rfl, hs⟩ := zo (f := Za.row) (n := maxLen) (fun r hr' => ZWS (n := n + 0) (hr r hr').1)
  exact ⟨l, by simp, ⟨by simpa using hl, hs⟩⟩
theorem ZWj {n : Nat} {row : List D} (h : TyR Tryz.prog (n + 4) 188 row) : ∃ x : ZS, row = ZS.row x ∧ Sm maxLen x := by
  rw [TyR, Tryz.underlying188] at h
  dsimp only at h
  obtain ⟨hl, hf⟩ := h
  simp only [List.mem_cons, List.not_mem_nil, or_false, forall_eq_or_imp, forall_eq, ty3.2.1, ZXT.2.1, ZXH.2.1] at hf
  rw [ZWt.2.1] at hl
  obtain ⟨x0, e0, s0⟩ := Jx (n := n + 2) hf.1
  obtain ⟨x1, e1, s1⟩ := Jx (n := n + 2) hf.2.1
  obtain ⟨x2, e2, s2⟩ := Jx (n := n + 2) hf.2.2.1
  obtain ⟨x3, e3, s3⟩ := ZWi (n := n + 0) hf.2.2.2.1
  obtain ⟨x4, e4, s4⟩ := ZWL (n := n + 0) hf.2.2.2.2
  refine ⟨⟨x0, x1, x2, x3, x4⟩, ?_, ⟨s3, s4⟩⟩
  rw [← List.drop_zero (l := row), Z9 row 0 1, e0, Z9 row 1 1, e1, Z9 row 2 1, e2, Z9 row 3 1, e3, Z9 row 4 1, e4, List.drop_eq_nil_of_le (by omega)]
  rfl
theorem ZXG {n : Nat} {row : List D} (h : TyR Tryz.prog (n + 5) 34 row) : ∃ x : List ZS, row = (slR 5 ZS.row) x ∧ Sm maxLen x := by
  rw [TyR, Tryz.underlying34] at h
  dsimp only at h
  obtain ⟨rows, rfl, hl, hr⟩ := h
  obtain ⟨l, rfl, hs⟩ := zo (f := ZS.row) (n := maxLen) (fun r hr' => ZWj (n := n + 0) (hr r hr').1)
  exact ⟨l, by simp, ⟨by simpa using hl, hs⟩⟩
theorem ZXA {n : Nat} {row : List D} (h : TyR Tryz.prog (n + 6) 36 row) : ∃ x : ZN, row = ZN.row x ∧ Sm maxLen x := by
  rw [TyR, Tryz.underlying36] at h
  dsimp only at h
  obtain ⟨hl, hf⟩ := h
  simp only [List.mem_cons, List.not_mem_nil, or_false, forall_eq_or_imp, forall_eq, ZXg.2.1, ZXe.2.1] at hf
  rw [ZWu.2.1] at hl
  obtain ⟨x0, e0, s0⟩ := ZWp (n := n + 1) hf.1
  obtain ⟨x1, e1, s1⟩ := ZXG (n := n + 0) hf.2
  refine ⟨⟨x0, x1⟩, ?_, ⟨s0, s1⟩⟩
  rw [← List.drop_zero (l := row), Z9 row 0 1, e0, Z9 row 1 1, e1, List.drop_eq_nil_of_le (by omega)]
  rfl
theorem ZVw {n : Nat} {row : List D} (h : TyR Tryz.prog (n + 7) 38 row) : ∃ x : Z3, row = Z3.row x ∧ Sm maxLen x := by
  rw [TyR, Tryz.underlying38] at h
  dsimp only at h
  obtain ⟨hl, hf⟩ := h
  simp only [List.mem_cons, List.not_mem_nil, or_false, forall_eq_or_imp, forall_eq, ty3.2.1, ZW2.2.1, ZW8.2.1, ZWu.2.1] at hf
  rw [ZXk.2.1] at hl
  obtain ⟨x0, e0, s0⟩ := Jx (n := n + 5) hf.1
  obtain ⟨x1, e1, s1⟩ := Jx (n := n + 5) hf.2.1
  obtain ⟨x2, e2, s2⟩ := ZWy (n := n + 3) hf.2.2.1
  obtain ⟨x3, e3, s3⟩ := ZW0 (n := n + 4) hf.2.2.2.1
  obtain ⟨x4, e4, s4⟩ := ZXA (n := n + 0) hf.2.2.2.2
  refine ⟨⟨x0, x1, x2, x3, x4⟩, ?_, ⟨s2, s4⟩⟩
  rw [← List.drop_zero (l := row), Z9 row 0 1, e0, Z9 row 1 1, e1, Z9 row 2 3, e2, Z9 row 5 9, e3, Z9 row 14 2, e4, List.drop_eq_nil_of_le (by omega)]
  rfl
theorem ZW1 {n : Nat} {row : List D} (h : TyR Tryz.prog (n + 8) 60 row) : ∃ x : List Z3, row = (slR 16 Z3.row) x ∧ Sm maxLen x := by
  rw [TyR, Tryz.underlying60] at h
  dsimp only at h
  obtain ⟨rows, rfl, hl, hr⟩ := h
  obtain ⟨l, rfl, hs⟩ := zo (f := Z3.row) (n := maxLen) (fun r hr' => ZVw (n := n + 0) (hr r hr').1)
  exact ⟨l, by simp, ⟨by simpa using hl, hs⟩⟩
theorem ZV3 {n : Nat} {row : List D} (h : TyR Tryz.prog (n + 9) 62 row) : ∃ x : Zc, row = Zc.row x ∧ Sm maxLen x := by
  rw [TyR, Tryz.underlying62] at h
  dsimp only at h
  obtain ⟨hl, hf⟩ := h
  simp only [List.mem_cons, List.not_mem_nil, or_false, forall_eq_or_imp, forall_eq, ty3.2.1, ZXh.2.1] at hf
  rw [ZXi.2.1] at hl
  obtain ⟨x0, e0, s0⟩ := Jx (n := n + 7) hf.1
  obtain ⟨x1, e1, s1⟩ := ZW1 (n := n + 0) hf.2
  refine ⟨⟨x0, x1⟩, ?_, s1⟩
  rw [← List.drop_zero (l := row), Z9 row 0 1, e0, Z9 row 1 1, e1, List.drop_eq_nil_of_le (by omega)]
  rfl
theorem ZWQ {n : Nat} {row : List D} (h : TyR Tryz.prog (n + 2) 170 row) : ∃ x : YH, row = YH.row x ∧ Sm maxLen x := by
  rw [TyR, Tryz.underlying170] at h
  dsimp only at h
  obtain ⟨hl, hf⟩ := h
  simp only [List.mem_cons, List.not_mem_nil, or_false, forall_eq_or_imp, forall_eq, ty3.2.1] at hf
  rw [ZWx.2.1] at hl
  obtain ⟨x0, e0, s0⟩ := Jx (n := n + 0) hf.1
  obtain ⟨x1, e1, s1⟩ := Jx (n := n + 0) hf.2.1
  obtain ⟨x2, e2, s2⟩ := Jx (n := n + 0) hf.2.2.1
  obtain ⟨x3, e3, s3⟩ := Jx (n := n + 0) hf.2.2.2.1
  obtain ⟨x4, e4, s4⟩ := Jx (n := n + 0) hf.2.2.2.2.1
  obtain ⟨x5, e5, s5⟩ := Jx (n := n + 0) hf.2.2.2.2.2.1
  obtain ⟨x6, e6, s6⟩ := Jx (n := n + 0) hf.2.2.2.2.2.2
  refine ⟨⟨x0, x1, x2, x3, x4, x5, x6⟩, ?_, trivial⟩
  rw [← List.drop_zero (l := row), Z9 row 0 1, e0, Z9 row 1 1, e1, Z9 row 2 1, e2, Z9 row 3 1, e3, Z9 row 4 1, e4, Z9 row 5 1, e5, Z9 row 6 1, e6, List.drop_eq_nil_of_le (by omega)]
  rfl
theorem ZXR {n : Nat} {row : List D} (h : TyR Tryz.prog (n + 3) 71 row) : ∃ x : List YH, row = (slR 7 YH.row) x ∧ Sm maxLen x := by
  rw [TyR, Tryz.underlying71] at h
  dsimp only at h
  obtain ⟨rows, rfl, hl, hr⟩ := h
  obtain ⟨l, rfl, hs⟩ := zo (f := YH.row) (n := maxLen) (fun r hr' => ZWQ (n := n + 0) (hr r hr').1)
  exact ⟨l, by simp, ⟨by simpa using hl, hs⟩⟩
theorem ZW7 {n : Nat} {row : List D} (h : TyR Tryz.prog (n + 10) 72 row) : ∃ x : List Zc, row = (slR 2 Zc.row) x ∧ Sm maxLen x := by
  rw [TyR, Tryz.underlying72] at h
  dsimp only at h
  obtain ⟨rows, rfl, hl, hr⟩ := h
  obtain ⟨l, rfl, hs⟩ := zo (f := Zc.row) (n := maxLen) (fun r hr' => ZV3 (n := n + 0) (hr r hr').1)
  exact ⟨l, by simp, ⟨by simpa using hl, hs⟩⟩
theorem ZUQ {n : Nat} {row : List D} (h : TyR Tryz.prog (n + 11) 74 row) : ∃ x : YD, row = YD.row x ∧ Sm maxLen x := by
  rw [TyR, Tryz.underlying74] at h
  dsimp only at h
  obtain ⟨hl, hf⟩ := h
  simp only [List.mem_cons, List.not_mem_nil, or_false, forall_eq_or_imp, forall_eq, ty3.2.1, ZWs.2.1, ZWR.2.1, ZXo.2.1, ZXs.2.1] at hf
  rw [ZXu.2.1] at hl
  obtain ⟨x0, e0, s0⟩ := ZTt (n := n + 6) hf.1
  obtain ⟨x1, e1, s1⟩ := ZXR (n := n + 7) hf.2.1
  obtain ⟨x2, e2, s2⟩ := ZNv (n := n + 8) hf.2.2.1
  obtain ⟨x3, e3, s3⟩ := ZW7 (n := n + 0) hf.2.2.2.1
  obtain ⟨x4, e4, s4⟩ := ZNv (n := n + 8) hf.2.2.2.2.1
  obtain ⟨x5, e5, s5⟩ := ZNv (n := n + 8) hf.2.2.2.2.2.1
  obtain ⟨x6, e6, s6⟩ := Jx (n := n + 9) hf.2.2.2.2.2.2.1
  obtain ⟨x7, e7, s7⟩ := ZNv (n := n + 8) hf.2.2.2.2.2.2.2
  refine ⟨⟨x0, x1, x2, x3, x4, x5, x6, x7⟩, ?_, ⟨s0, s1, s2, s3, s4, s5, s7⟩⟩
  rw [← List.drop_zero (l := row), Z9 row 0 5, e0, Z9 row 5 1, e1, Z9 row 6 1, e2, Z9 row 7 1, e3, Z9 row 8 1, e4, Z9 row 9 1, e5, Z9 row 10 1, e6, Z9 row 11 1, e7, List.drop_eq_nil_of_le (by omega)]
  rfl
end Go.Proofs.YtfhmpplolpejnaaGreat
