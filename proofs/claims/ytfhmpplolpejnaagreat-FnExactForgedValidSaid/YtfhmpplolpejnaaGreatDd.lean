/- Rows of the parameters' types are the rows of typed data. No condition. -/
import Derived.Test.YtfhmpplolpejnaaGreatMo
import Derived.Test.YtfhmpplolpejnaaGreatTy
namespace Go.Proofs.YtfhmpplolpejnaaGreat
open Go.Vm Go.Mo
set_option maxRecDepth 100000
set_option linter.unusedSimpArgs false
set_option linter.unusedVariables false
theorem Ko {n : Nat} {row : List D} (h : TyR Tryz.prog (n + 1) 3 row) : ∃ x : Int, row = iR x ∧ Sm maxLen x := by
  rw [TyR, Tryz.underlying3] at h
  dsimp only at h
  obtain ⟨m, rfl, _⟩ := h; exact ⟨m, rfl, trivial⟩
theorem oJ {n : Nat} {row : List D} (h : TyR Tryz.prog (n + 2) 148 row) : ∃ x : Zs, row = Zs.row x ∧ Sm maxLen x := by
  rw [TyR, Tryz.underlying148] at h
  dsimp only at h
  obtain ⟨hl, hf⟩ := h
  simp only [List.mem_cons, List.not_mem_nil, or_false, forall_eq_or_imp, forall_eq, ty3.2.1] at hf
  rw [nA.2.1] at hl
  obtain ⟨x0, e0, s0⟩ := Ko (n := n + 0) hf.1
  obtain ⟨x1, e1, s1⟩ := Ko (n := n + 0) hf.2.1
  obtain ⟨x2, e2, s2⟩ := Ko (n := n + 0) hf.2.2.1
  obtain ⟨x3, e3, s3⟩ := Ko (n := n + 0) hf.2.2.2.1
  obtain ⟨x4, e4, s4⟩ := Ko (n := n + 0) hf.2.2.2.2
  refine ⟨⟨x0, x1, x2, x3, x4⟩, ?_, trivial⟩
  rw [← List.drop_zero (l := row), Z1 row 0 1, e0, Z1 row 1 1, e1, Z1 row 2 1, e2, Z1 row 3 1, e3, Z1 row 4 1, e4, List.drop_eq_nil_of_le (by omega)]
  rfl
theorem nW {n : Nat} {row : List D} (h : TyR Tryz.prog (n + 3) 22 row) : ∃ x : List Zs, row = (slR 5 Zs.row) x ∧ Sm maxLen x := by
  rw [TyR, Tryz.underlying22] at h
  dsimp only at h
  obtain ⟨rows, rfl, hl, hr⟩ := h
  obtain ⟨l, rfl, hs⟩ := zn (f := Zs.row) (n := maxLen) (fun r hr' => oJ (n := n + 0) (hr r hr').1)
  exact ⟨l, by simp, ⟨by simpa using hl, hs⟩⟩
theorem oO {n : Nat} {row : List D} (h : TyR Tryz.prog (n + 2) 152 row) : ∃ x : ZG, row = ZG.row x ∧ Sm maxLen x := by
  rw [TyR, Tryz.underlying152] at h
  dsimp only at h
  obtain ⟨hl, hf⟩ := h
  simp only [List.mem_cons, List.not_mem_nil, or_false, forall_eq_or_imp, forall_eq, ty3.2.1] at hf
  rw [nH.2.1] at hl
  obtain ⟨x0, e0, s0⟩ := Ko (n := n + 0) hf.1
  obtain ⟨x1, e1, s1⟩ := Ko (n := n + 0) hf.2.1
  obtain ⟨x2, e2, s2⟩ := Ko (n := n + 0) hf.2.2
  refine ⟨⟨x0, x1, x2⟩, ?_, trivial⟩
  rw [← List.drop_zero (l := row), Z1 row 0 1, e0, Z1 row 1 1, e1, Z1 row 2 1, e2, List.drop_eq_nil_of_le (by omega)]
  rfl
theorem nJ {n : Nat} {row : List D} (h : TyR Tryz.prog (n + 3) 23 row) : ∃ x : List ZG, row = (slR 3 ZG.row) x ∧ Sm maxLen x := by
  rw [TyR, Tryz.underlying23] at h
  dsimp only at h
  obtain ⟨rows, rfl, hl, hr⟩ := h
  obtain ⟨l, rfl, hs⟩ := zn (f := ZG.row) (n := maxLen) (fun r hr' => oO (n := n + 0) (hr r hr').1)
  exact ⟨l, by simp, ⟨by simpa using hl, hs⟩⟩
theorem pe {n : Nat} {row : List D} (h : TyR Tryz.prog (n + 2) 156 row) : ∃ x : Zh, row = Zh.row x ∧ Sm maxLen x := by
  rw [TyR, Tryz.underlying156] at h
  dsimp only at h
  obtain ⟨hl, hf⟩ := h
  simp only [List.mem_cons, List.not_mem_nil, or_false, forall_eq_or_imp, forall_eq, ty3.2.1] at hf
  rw [oq.2.1] at hl
  obtain ⟨x0, e0, s0⟩ := Ko (n := n + 0) hf.1
  obtain ⟨x1, e1, s1⟩ := Ko (n := n + 0) hf.2.1
  obtain ⟨x2, e2, s2⟩ := Ko (n := n + 0) hf.2.2.1
  obtain ⟨x3, e3, s3⟩ := Ko (n := n + 0) hf.2.2.2
  refine ⟨⟨x0, x1, x2, x3⟩, ?_, trivial⟩
  rw [← List.drop_zero (l := row), Z1 row 0 1, e0, Z1 row 1 1, e1, Z1 row 2 1, e2, Z1 row 3 1, e3, List.drop_eq_nil_of_le (by omega)]
  rfl
theorem o9 {n : Nat} {row : List D} (h : TyR Tryz.prog (n + 3) 24 row) : ∃ x : List Zh, row = (slR 4 Zh.row) x ∧ Sm maxLen x := by
  rw [TyR, Tryz.underlying24] at h
  dsimp only at h
  obtain ⟨rows, rfl, hl, hr⟩ := h
  obtain ⟨l, rfl, hs⟩ := zn (f := Zh.row) (n := maxLen) (fun r hr' => pe (n := n + 0) (hr r hr').1)
  exact ⟨l, by simp, ⟨by simpa using hl, hs⟩⟩
theorem na {n : Nat} {row : List D} (h : TyR Tryz.prog (n + 4) 26 row) : ∃ x : ZI, row = ZI.row x ∧ Sm maxLen x := by
  rw [TyR, Tryz.underlying26] at h
  dsimp only at h
  obtain ⟨hl, hf⟩ := h
  simp only [List.mem_cons, List.not_mem_nil, or_false, forall_eq_or_imp, forall_eq, ty3.2.1, ny.2.1, nr.2.1, nz.2.1] at hf
  rw [oz.2.1] at hl
  obtain ⟨x0, e0, s0⟩ := nW (n := n + 0) hf.1
  obtain ⟨x1, e1, s1⟩ := nJ (n := n + 0) hf.2.1
  obtain ⟨x2, e2, s2⟩ := o9 (n := n + 0) hf.2.2.1
  obtain ⟨x3, e3, s3⟩ := Ko (n := n + 2) hf.2.2.2.1
  obtain ⟨x4, e4, s4⟩ := Ko (n := n + 2) hf.2.2.2.2
  refine ⟨⟨x0, x1, x2, x3, x4⟩, ?_, ⟨s0, s1, s2⟩⟩
  rw [← List.drop_zero (l := row), Z1 row 0 1, e0, Z1 row 1 1, e1, Z1 row 2 1, e2, Z1 row 3 1, e3, Z1 row 4 1, e4, List.drop_eq_nil_of_le (by omega)]
  rfl
theorem nu {n : Nat} {row : List D} (h : TyR Tryz.prog (n + 1) 9 row) : ∃ x : ByteArray, row = sR x ∧ Sm maxLen x := by
  rw [TyR, Tryz.underlying9] at h
  dsimp only at h
  obtain ⟨s, rfl, hs⟩ := h; exact ⟨s, rfl, hs⟩
theorem oy {n : Nat} {row : List D} (h : TyR Tryz.prog (n + 2) 27 row) : ∃ x : List ByteArray, row = (slR 1 sR) x ∧ Sm maxLen x := by
  rw [TyR, Tryz.underlying27] at h
  dsimp only at h
  obtain ⟨rows, rfl, hl, hr⟩ := h
  obtain ⟨l, rfl, hs⟩ := zn (f := sR) (n := maxLen) (fun r hr' => nu (n := n + 0) (hr r hr').1)
  exact ⟨l, by simp, ⟨by simpa using hl, hs⟩⟩
theorem DN {n : Nat} {row : List D} (h : TyR Tryz.prog (n + 2) 28 row) : ∃ x : List Int, row = (slR 1 iR) x ∧ Sm maxLen x := by
  rw [TyR, Tryz.underlying28] at h
  dsimp only at h
  obtain ⟨rows, rfl, hl, hr⟩ := h
  obtain ⟨l, rfl, hs⟩ := zn (f := iR) (n := maxLen) (fun r hr' => Ko (n := n + 0) (hr r hr').1)
  exact ⟨l, by simp, ⟨by simpa using hl, hs⟩⟩
theorem oY {n : Nat} {row : List D} (h : TyR Tryz.prog (n + 3) 30 row) : ∃ x : Zc, row = Zc.row x ∧ Sm maxLen x := by
  rw [TyR, Tryz.underlying30] at h
  dsimp only at h
  obtain ⟨hl, hf⟩ := h
  simp only [List.mem_cons, List.not_mem_nil, or_false, forall_eq_or_imp, forall_eq, ty3.2.1, n7.2.1, oN.2.1] at hf
  rw [ov.2.1] at hl
  obtain ⟨x0, e0, s0⟩ := Ko (n := n + 1) hf.1
  obtain ⟨x1, e1, s1⟩ := oy (n := n + 0) hf.2.1
  obtain ⟨x2, e2, s2⟩ := DN (n := n + 0) hf.2.2
  refine ⟨⟨x0, x1, x2⟩, ?_, ⟨s1, s2⟩⟩
  rw [← List.drop_zero (l := row), Z1 row 0 1, e0, Z1 row 1 1, e1, Z1 row 2 1, e2, List.drop_eq_nil_of_le (by omega)]
  rfl
theorem nZ {n : Nat} {row : List D} (h : TyR Tryz.prog (n + 2) 32 row) : ∃ x : ZV, row = ZV.row x ∧ Sm maxLen x := by
  rw [TyR, Tryz.underlying32] at h
  dsimp only at h
  obtain ⟨hl, hf⟩ := h
  simp only [List.mem_cons, List.not_mem_nil, or_false, forall_eq_or_imp, forall_eq, ty3.2.1] at hf
  rw [oX.2.1] at hl
  obtain ⟨x0, e0, s0⟩ := Ko (n := n + 0) hf.1
  obtain ⟨x1, e1, s1⟩ := Ko (n := n + 0) hf.2.1
  obtain ⟨x2, e2, s2⟩ := Ko (n := n + 0) hf.2.2.1
  obtain ⟨x3, e3, s3⟩ := Ko (n := n + 0) hf.2.2.2.1
  obtain ⟨x4, e4, s4⟩ := Ko (n := n + 0) hf.2.2.2.2.1
  obtain ⟨x5, e5, s5⟩ := Ko (n := n + 0) hf.2.2.2.2.2.1
  obtain ⟨x6, e6, s6⟩ := Ko (n := n + 0) hf.2.2.2.2.2.2.1
  obtain ⟨x7, e7, s7⟩ := Ko (n := n + 0) hf.2.2.2.2.2.2.2.1
  obtain ⟨x8, e8, s8⟩ := Ko (n := n + 0) hf.2.2.2.2.2.2.2.2
  refine ⟨⟨x0, x1, x2, x3, x4, x5, x6, x7, x8⟩, ?_, trivial⟩
  rw [← List.drop_zero (l := row), Z1 row 0 1, e0, Z1 row 1 1, e1, Z1 row 2 1, e2, Z1 row 3 1, e3, Z1 row 4 1, e4, Z1 row 5 1, e5, Z1 row 6 1, e6, Z1 row 7 1, e7, Z1 row 8 1, e8, List.drop_eq_nil_of_le (by omega)]
  rfl
theorem oF {n : Nat} {row : List D} (h : TyR Tryz.prog (n + 3) 183 row) : ∃ x : ZD, row = ZD.row x ∧ Sm maxLen x := by
  rw [TyR, Tryz.underlying183] at h
  dsimp only at h
  obtain ⟨hl, hf⟩ := h
  simp only [List.mem_cons, List.not_mem_nil, or_false, forall_eq_or_imp, forall_eq, ty3.2.1, oN.2.1] at hf
  rw [oa.2.1] at hl
  obtain ⟨x0, e0, s0⟩ := Ko (n := n + 1) hf.1
  obtain ⟨x1, e1, s1⟩ := DN (n := n + 0) hf.2.1
  obtain ⟨x2, e2, s2⟩ := Ko (n := n + 1) hf.2.2
  refine ⟨⟨x0, x1, x2⟩, ?_, s1⟩
  rw [← List.drop_zero (l := row), Z1 row 0 1, e0, Z1 row 1 1, e1, Z1 row 2 1, e2, List.drop_eq_nil_of_le (by omega)]
  rfl
theorem nB {n : Nat} {row : List D} (h : TyR Tryz.prog (n + 4) 33 row) : ∃ x : List ZD, row = (slR 3 ZD.row) x ∧ Sm maxLen x := by
  rw [TyR, Tryz.underlying33] at h
  dsimp only at h
  obtain ⟨rows, rfl, hl, hr⟩ := h
  obtain ⟨l, rfl, hs⟩ := zn (f := ZD.row) (n := maxLen) (fun r hr' => oF (n := n + 0) (hr r hr').1)
  exact ⟨l, by simp, ⟨by simpa using hl, hs⟩⟩
theorem mA {n : Nat} {row : List D} (h : TyR Tryz.prog (n + 1) 4 row) : ∃ x : Bool, row = lR x ∧ Sm maxLen x := by
  rw [TyR, Tryz.underlying4] at h
  dsimp only at h
  obtain ⟨b, rfl⟩ := h; exact ⟨b, rfl, trivial⟩
theorem oS {n : Nat} {row : List D} (h : TyR Tryz.prog (n + 2) 277 row) : ∃ x : Ya, row = Ya.row x ∧ Sm maxLen x := by
  rw [TyR, Tryz.underlying277] at h
  dsimp only at h
  obtain ⟨hl, hf⟩ := h
  simp only [List.mem_cons, List.not_mem_nil, or_false, forall_eq_or_imp, forall_eq, ty3.2.1, ty4.2.1] at hf
  rw [nX.2.1] at hl
  obtain ⟨x0, e0, s0⟩ := Ko (n := n + 0) hf.1
  obtain ⟨x1, e1, s1⟩ := mA (n := n + 0) hf.2
  refine ⟨⟨x0, x1⟩, ?_, trivial⟩
  rw [← List.drop_zero (l := row), Z1 row 0 1, e0, Z1 row 1 1, e1, List.drop_eq_nil_of_le (by omega)]
  rfl
theorem oH {n : Nat} {row : List D} (h : TyR Tryz.prog (n + 3) 185 row) : ∃ x : List Ya, row = (slR 2 Ya.row) x ∧ Sm maxLen x := by
  rw [TyR, Tryz.underlying185] at h
  dsimp only at h
  obtain ⟨rows, rfl, hl, hr⟩ := h
  obtain ⟨l, rfl, hs⟩ := zn (f := Ya.row) (n := maxLen) (fun r hr' => oS (n := n + 0) (hr r hr').1)
  exact ⟨l, by simp, ⟨by simpa using hl, hs⟩⟩
theorem po {n : Nat} {row : List D} (h : TyR Tryz.prog (n + 2) 281 row) : ∃ x : ZY, row = ZY.row x ∧ Sm maxLen x := by
  rw [TyR, Tryz.underlying281] at h
  dsimp only at h
  obtain ⟨hl, hf⟩ := h
  simp only [List.mem_cons, List.not_mem_nil, or_false, forall_eq_or_imp, forall_eq, ty3.2.1] at hf
  rw [nT.2.1] at hl
  obtain ⟨x0, e0, s0⟩ := Ko (n := n + 0) hf.1
  obtain ⟨x1, e1, s1⟩ := Ko (n := n + 0) hf.2.1
  obtain ⟨x2, e2, s2⟩ := Ko (n := n + 0) hf.2.2.1
  obtain ⟨x3, e3, s3⟩ := Ko (n := n + 0) hf.2.2.2.1
  obtain ⟨x4, e4, s4⟩ := Ko (n := n + 0) hf.2.2.2.2
  refine ⟨⟨x0, x1, x2, x3, x4⟩, ?_, trivial⟩
  rw [← List.drop_zero (l := row), Z1 row 0 1, e0, Z1 row 1 1, e1, Z1 row 2 1, e2, Z1 row 3 1, e3, Z1 row 4 1, e4, List.drop_eq_nil_of_le (by omega)]
  rfl
theorem pd {n : Nat} {row : List D} (h : TyR Tryz.prog (n + 3) 186 row) : ∃ x : List ZY, row = (slR 5 ZY.row) x ∧ Sm maxLen x := by
  rw [TyR, Tryz.underlying186] at h
  dsimp only at h
  obtain ⟨rows, rfl, hl, hr⟩ := h
  obtain ⟨l, rfl, hs⟩ := zn (f := ZY.row) (n := maxLen) (fun r hr' => po (n := n + 0) (hr r hr').1)
  exact ⟨l, by simp, ⟨by simpa using hl, hs⟩⟩
theorem pj {n : Nat} {row : List D} (h : TyR Tryz.prog (n + 4) 188 row) : ∃ x : ZK, row = ZK.row x ∧ Sm maxLen x := by
  rw [TyR, Tryz.underlying188] at h
  dsimp only at h
  obtain ⟨hl, hf⟩ := h
  simp only [List.mem_cons, List.not_mem_nil, or_false, forall_eq_or_imp, forall_eq, ty3.2.1, oe.2.1, nO.2.1] at hf
  rw [nV.2.1] at hl
  obtain ⟨x0, e0, s0⟩ := Ko (n := n + 2) hf.1
  obtain ⟨x1, e1, s1⟩ := Ko (n := n + 2) hf.2.1
  obtain ⟨x2, e2, s2⟩ := Ko (n := n + 2) hf.2.2.1
  obtain ⟨x3, e3, s3⟩ := oH (n := n + 0) hf.2.2.2.1
  obtain ⟨x4, e4, s4⟩ := pd (n := n + 0) hf.2.2.2.2
  refine ⟨⟨x0, x1, x2, x3, x4⟩, ?_, ⟨s3, s4⟩⟩
  rw [← List.drop_zero (l := row), Z1 row 0 1, e0, Z1 row 1 1, e1, Z1 row 2 1, e2, Z1 row 3 1, e3, Z1 row 4 1, e4, List.drop_eq_nil_of_le (by omega)]
  rfl
theorem od {n : Nat} {row : List D} (h : TyR Tryz.prog (n + 5) 34 row) : ∃ x : List ZK, row = (slR 5 ZK.row) x ∧ Sm maxLen x := by
  rw [TyR, Tryz.underlying34] at h
  dsimp only at h
  obtain ⟨rows, rfl, hl, hr⟩ := h
  obtain ⟨l, rfl, hs⟩ := zn (f := ZK.row) (n := maxLen) (fun r hr' => pj (n := n + 0) (hr r hr').1)
  exact ⟨l, by simp, ⟨by simpa using hl, hs⟩⟩
theorem nG {n : Nat} {row : List D} (h : TyR Tryz.prog (n + 6) 36 row) : ∃ x : ZP, row = ZP.row x ∧ Sm maxLen x := by
  rw [TyR, Tryz.underlying36] at h
  dsimp only at h
  obtain ⟨hl, hf⟩ := h
  simp only [List.mem_cons, List.not_mem_nil, or_false, forall_eq_or_imp, forall_eq, nv.2.1, nw.2.1] at hf
  rw [ou.2.1] at hl
  obtain ⟨x0, e0, s0⟩ := nB (n := n + 1) hf.1
  obtain ⟨x1, e1, s1⟩ := od (n := n + 0) hf.2
  refine ⟨⟨x0, x1⟩, ?_, ⟨s0, s1⟩⟩
  rw [← List.drop_zero (l := row), Z1 row 0 1, e0, Z1 row 1 1, e1, List.drop_eq_nil_of_le (by omega)]
  rfl
theorem nC {n : Nat} {row : List D} (h : TyR Tryz.prog (n + 7) 38 row) : ∃ x : Zm, row = Zm.row x ∧ Sm maxLen x := by
  rw [TyR, Tryz.underlying38] at h
  dsimp only at h
  obtain ⟨hl, hf⟩ := h
  simp only [List.mem_cons, List.not_mem_nil, or_false, forall_eq_or_imp, forall_eq, ty3.2.1, ov.2.1, oX.2.1, ou.2.1] at hf
  rw [mF.2.1] at hl
  obtain ⟨x0, e0, s0⟩ := Ko (n := n + 5) hf.1
  obtain ⟨x1, e1, s1⟩ := Ko (n := n + 5) hf.2.1
  obtain ⟨x2, e2, s2⟩ := oY (n := n + 3) hf.2.2.1
  obtain ⟨x3, e3, s3⟩ := nZ (n := n + 4) hf.2.2.2.1
  obtain ⟨x4, e4, s4⟩ := nG (n := n + 0) hf.2.2.2.2
  refine ⟨⟨x0, x1, x2, x3, x4⟩, ?_, ⟨s2, s4⟩⟩
  rw [← List.drop_zero (l := row), Z1 row 0 1, e0, Z1 row 1 1, e1, Z1 row 2 3, e2, Z1 row 5 9, e3, Z1 row 14 2, e4, List.drop_eq_nil_of_le (by omega)]
  rfl
theorem ox {n : Nat} {row : List D} (h : TyR Tryz.prog (n + 8) 60 row) : ∃ x : List Zm, row = (slR 16 Zm.row) x ∧ Sm maxLen x := by
  rw [TyR, Tryz.underlying60] at h
  dsimp only at h
  obtain ⟨rows, rfl, hl, hr⟩ := h
  obtain ⟨l, rfl, hs⟩ := zn (f := Zm.row) (n := maxLen) (fun r hr' => nC (n := n + 0) (hr r hr').1)
  exact ⟨l, by simp, ⟨by simpa using hl, hs⟩⟩
theorem nI {n : Nat} {row : List D} (h : TyR Tryz.prog (n + 9) 62 row) : ∃ x : Zf, row = Zf.row x ∧ Sm maxLen x := by
  rw [TyR, Tryz.underlying62] at h
  dsimp only at h
  obtain ⟨hl, hf⟩ := h
  simp only [List.mem_cons, List.not_mem_nil, or_false, forall_eq_or_imp, forall_eq, ty3.2.1, mC.2.1] at hf
  rw [mB.2.1] at hl
  obtain ⟨x0, e0, s0⟩ := Ko (n := n + 7) hf.1
  obtain ⟨x1, e1, s1⟩ := ox (n := n + 0) hf.2
  refine ⟨⟨x0, x1⟩, ?_, s1⟩
  rw [← List.drop_zero (l := row), Z1 row 0 1, e0, Z1 row 1 1, e1, List.drop_eq_nil_of_le (by omega)]
  rfl
theorem oV {n : Nat} {row : List D} (h : TyR Tryz.prog (n + 2) 170 row) : ∃ x : Zn, row = Zn.row x ∧ Sm maxLen x := by
  rw [TyR, Tryz.underlying170] at h
  dsimp only at h
  obtain ⟨hl, hf⟩ := h
  simp only [List.mem_cons, List.not_mem_nil, or_false, forall_eq_or_imp, forall_eq, ty3.2.1] at hf
  rw [og.2.1] at hl
  obtain ⟨x0, e0, s0⟩ := Ko (n := n + 0) hf.1
  obtain ⟨x1, e1, s1⟩ := Ko (n := n + 0) hf.2.1
  obtain ⟨x2, e2, s2⟩ := Ko (n := n + 0) hf.2.2.1
  obtain ⟨x3, e3, s3⟩ := Ko (n := n + 0) hf.2.2.2.1
  obtain ⟨x4, e4, s4⟩ := Ko (n := n + 0) hf.2.2.2.2.1
  obtain ⟨x5, e5, s5⟩ := Ko (n := n + 0) hf.2.2.2.2.2.1
  obtain ⟨x6, e6, s6⟩ := Ko (n := n + 0) hf.2.2.2.2.2.2
  refine ⟨⟨x0, x1, x2, x3, x4, x5, x6⟩, ?_, trivial⟩
  rw [← List.drop_zero (l := row), Z1 row 0 1, e0, Z1 row 1 1, e1, Z1 row 2 1, e2, Z1 row 3 1, e3, Z1 row 4 1, e4, Z1 row 5 1, e5, Z1 row 6 1, e6, List.drop_eq_nil_of_le (by omega)]
  rfl
theorem ow {n : Nat} {row : List D} (h : TyR Tryz.prog (n + 3) 71 row) : ∃ x : List Zn, row = (slR 7 Zn.row) x ∧ Sm maxLen x := by
  rw [TyR, Tryz.underlying71] at h
  dsimp only at h
  obtain ⟨rows, rfl, hl, hr⟩ := h
  obtain ⟨l, rfl, hs⟩ := zn (f := Zn.row) (n := maxLen) (fun r hr' => oV (n := n + 0) (hr r hr').1)
  exact ⟨l, by simp, ⟨by simpa using hl, hs⟩⟩
theorem nM {n : Nat} {row : List D} (h : TyR Tryz.prog (n + 10) 72 row) : ∃ x : List Zf, row = (slR 2 Zf.row) x ∧ Sm maxLen x := by
  rw [TyR, Tryz.underlying72] at h
  dsimp only at h
  obtain ⟨rows, rfl, hl, hr⟩ := h
  obtain ⟨l, rfl, hs⟩ := zn (f := Zf.row) (n := maxLen) (fun r hr' => nI (n := n + 0) (hr r hr').1)
  exact ⟨l, by simp, ⟨by simpa using hl, hs⟩⟩
theorem pU {n : Nat} {row : List D} (h : TyR Tryz.prog (n + 11) 74 row) : ∃ x : Zo, row = Zo.row x ∧ Sm maxLen x := by
  rw [TyR, Tryz.underlying74] at h
  dsimp only at h
  obtain ⟨hl, hf⟩ := h
  simp only [List.mem_cons, List.not_mem_nil, or_false, forall_eq_or_imp, forall_eq, ty3.2.1, oz.2.1, oN.2.1, mE.2.1, nx.2.1] at hf
  rw [nq.2.1] at hl
  obtain ⟨x0, e0, s0⟩ := na (n := n + 6) hf.1
  obtain ⟨x1, e1, s1⟩ := ow (n := n + 7) hf.2.1
  obtain ⟨x2, e2, s2⟩ := DN (n := n + 8) hf.2.2.1
  obtain ⟨x3, e3, s3⟩ := nM (n := n + 0) hf.2.2.2.1
  obtain ⟨x4, e4, s4⟩ := DN (n := n + 8) hf.2.2.2.2.1
  obtain ⟨x5, e5, s5⟩ := DN (n := n + 8) hf.2.2.2.2.2.1
  obtain ⟨x6, e6, s6⟩ := Ko (n := n + 9) hf.2.2.2.2.2.2.1
  obtain ⟨x7, e7, s7⟩ := DN (n := n + 8) hf.2.2.2.2.2.2.2
  refine ⟨⟨x0, x1, x2, x3, x4, x5, x6, x7⟩, ?_, ⟨s0, s1, s2, s3, s4, s5, s7⟩⟩
  rw [← List.drop_zero (l := row), Z1 row 0 5, e0, Z1 row 5 1, e1, Z1 row 6 1, e2, Z1 row 7 1, e3, Z1 row 8 1, e4, Z1 row 9 1, e5, Z1 row 10 1, e6, Z1 row 11 1, e7, List.drop_eq_nil_of_le (by omega)]
  rfl
end Go.Proofs.YtfhmpplolpejnaaGreat
