/- Rows of the parameters' types are the rows of typed data. No condition. -/
import Derived.Test.YtjflhdkeibijaaaGreatMo
import Derived.Test.YtjflhdkeibijaaaGreatTy
namespace Go.Proofs.YtjflhdkeibijaaaGreat
open Go.Vm Go.Mo
set_option maxRecDepth 100000
set_option linter.unusedSimpArgs false
set_option linter.unusedVariables false
theorem Qb {n : Nat} {row : List D} (h : TyR Tryz.prog (n + 1) 3 row) : ∃ x : Int, row = iR x ∧ Sm maxLen x := by
  rw [TyR, Tryz.underlying3] at h
  dsimp only at h
  obtain ⟨m, rfl, _⟩ := h; exact ⟨m, rfl, trivial⟩
theorem Cp {n : Nat} {row : List D} (h : TyR Tryz.prog (n + 2) 171 row) : ∃ x : YG, row = YG.row x ∧ Sm maxLen x := by
  rw [TyR, Tryz.underlying171] at h
  dsimp only at h
  obtain ⟨hl, hf⟩ := h
  simp only [List.mem_cons, List.not_mem_nil, or_false, forall_eq_or_imp, forall_eq, ty3.2.1] at hf
  rw [Bz.2.1] at hl
  obtain ⟨x0, e0, s0⟩ := Qb (n := n + 0) hf.1
  obtain ⟨x1, e1, s1⟩ := Qb (n := n + 0) hf.2.1
  obtain ⟨x2, e2, s2⟩ := Qb (n := n + 0) hf.2.2.1
  obtain ⟨x3, e3, s3⟩ := Qb (n := n + 0) hf.2.2.2.1
  obtain ⟨x4, e4, s4⟩ := Qb (n := n + 0) hf.2.2.2.2
  refine ⟨⟨x0, x1, x2, x3, x4⟩, ?_, trivial⟩
  rw [← List.drop_zero (l := row), Zn row 0 1, e0, Zn row 1 1, e1, Zn row 2 1, e2, Zn row 3 1, e3, Zn row 4 1, e4, List.drop_eq_nil_of_le (by omega)]
  rfl
theorem Bg {n : Nat} {row : List D} (h : TyR Tryz.prog (n + 3) 22 row) : ∃ x : List YG, row = (slR 5 YG.row) x ∧ Sm maxLen x := by
  rw [TyR, Tryz.underlying22] at h
  dsimp only at h
  obtain ⟨rows, rfl, hl, hr⟩ := h
  obtain ⟨l, rfl, hs⟩ := Jk (f := YG.row) (n := maxLen) (fun r hr' => Cp (n := n + 0) (hr r hr').1)
  exact ⟨l, by simp, ⟨by simpa using hl, hs⟩⟩
theorem Co {n : Nat} {row : List D} (h : TyR Tryz.prog (n + 2) 173 row) : ∃ x : ZJ, row = ZJ.row x ∧ Sm maxLen x := by
  rw [TyR, Tryz.underlying173] at h
  dsimp only at h
  obtain ⟨hl, hf⟩ := h
  simp only [List.mem_cons, List.not_mem_nil, or_false, forall_eq_or_imp, forall_eq, ty3.2.1] at hf
  rw [AE.2.1] at hl
  obtain ⟨x0, e0, s0⟩ := Qb (n := n + 0) hf.1
  obtain ⟨x1, e1, s1⟩ := Qb (n := n + 0) hf.2.1
  obtain ⟨x2, e2, s2⟩ := Qb (n := n + 0) hf.2.2
  refine ⟨⟨x0, x1, x2⟩, ?_, trivial⟩
  rw [← List.drop_zero (l := row), Zn row 0 1, e0, Zn row 1 1, e1, Zn row 2 1, e2, List.drop_eq_nil_of_le (by omega)]
  rfl
theorem B0 {n : Nat} {row : List D} (h : TyR Tryz.prog (n + 3) 23 row) : ∃ x : List ZJ, row = (slR 3 ZJ.row) x ∧ Sm maxLen x := by
  rw [TyR, Tryz.underlying23] at h
  dsimp only at h
  obtain ⟨rows, rfl, hl, hr⟩ := h
  obtain ⟨l, rfl, hs⟩ := Jk (f := ZJ.row) (n := maxLen) (fun r hr' => Co (n := n + 0) (hr r hr').1)
  exact ⟨l, by simp, ⟨by simpa using hl, hs⟩⟩
theorem BF {n : Nat} {row : List D} (h : TyR Tryz.prog (n + 2) 175 row) : ∃ x : Zc, row = Zc.row x ∧ Sm maxLen x := by
  rw [TyR, Tryz.underlying175] at h
  dsimp only at h
  obtain ⟨hl, hf⟩ := h
  simp only [List.mem_cons, List.not_mem_nil, or_false, forall_eq_or_imp, forall_eq, ty3.2.1] at hf
  rw [B9.2.1] at hl
  obtain ⟨x0, e0, s0⟩ := Qb (n := n + 0) hf.1
  obtain ⟨x1, e1, s1⟩ := Qb (n := n + 0) hf.2.1
  obtain ⟨x2, e2, s2⟩ := Qb (n := n + 0) hf.2.2.1
  obtain ⟨x3, e3, s3⟩ := Qb (n := n + 0) hf.2.2.2
  refine ⟨⟨x0, x1, x2, x3⟩, ?_, trivial⟩
  rw [← List.drop_zero (l := row), Zn row 0 1, e0, Zn row 1 1, e1, Zn row 2 1, e2, Zn row 3 1, e3, List.drop_eq_nil_of_le (by omega)]
  rfl
theorem Bn {n : Nat} {row : List D} (h : TyR Tryz.prog (n + 3) 24 row) : ∃ x : List Zc, row = (slR 4 Zc.row) x ∧ Sm maxLen x := by
  rw [TyR, Tryz.underlying24] at h
  dsimp only at h
  obtain ⟨rows, rfl, hl, hr⟩ := h
  obtain ⟨l, rfl, hs⟩ := Jk (f := Zc.row) (n := maxLen) (fun r hr' => BF (n := n + 0) (hr r hr').1)
  exact ⟨l, by simp, ⟨by simpa using hl, hs⟩⟩
theorem B8 {n : Nat} {row : List D} (h : TyR Tryz.prog (n + 4) 26 row) : ∃ x : YF, row = YF.row x ∧ Sm maxLen x := by
  rw [TyR, Tryz.underlying26] at h
  dsimp only at h
  obtain ⟨hl, hf⟩ := h
  simp only [List.mem_cons, List.not_mem_nil, or_false, forall_eq_or_imp, forall_eq, ty3.2.1, Ad.2.1, Af.2.1, AU.2.1] at hf
  rw [B3.2.1] at hl
  obtain ⟨x0, e0, s0⟩ := Bg (n := n + 0) hf.1
  obtain ⟨x1, e1, s1⟩ := B0 (n := n + 0) hf.2.1
  obtain ⟨x2, e2, s2⟩ := Bn (n := n + 0) hf.2.2.1
  obtain ⟨x3, e3, s3⟩ := Qb (n := n + 2) hf.2.2.2.1
  obtain ⟨x4, e4, s4⟩ := Qb (n := n + 2) hf.2.2.2.2
  refine ⟨⟨x0, x1, x2, x3, x4⟩, ?_, ⟨s0, s1, s2⟩⟩
  rw [← List.drop_zero (l := row), Zn row 0 1, e0, Zn row 1 1, e1, Zn row 2 1, e2, Zn row 3 1, e3, Zn row 4 1, e4, List.drop_eq_nil_of_le (by omega)]
  rfl
theorem BP {n : Nat} {row : List D} (h : TyR Tryz.prog (n + 2) 135 row) : ∃ x : Z0, row = Z0.row x ∧ Sm maxLen x := by
  rw [TyR, Tryz.underlying135] at h
  dsimp only at h
  obtain ⟨hl, hf⟩ := h
  simp only [List.mem_cons, List.not_mem_nil, or_false, forall_eq_or_imp, forall_eq, ty3.2.1] at hf
  rw [Bq.2.1] at hl
  obtain ⟨x0, e0, s0⟩ := Qb (n := n + 0) hf.1
  obtain ⟨x1, e1, s1⟩ := Qb (n := n + 0) hf.2.1
  obtain ⟨x2, e2, s2⟩ := Qb (n := n + 0) hf.2.2.1
  obtain ⟨x3, e3, s3⟩ := Qb (n := n + 0) hf.2.2.2.1
  obtain ⟨x4, e4, s4⟩ := Qb (n := n + 0) hf.2.2.2.2.1
  obtain ⟨x5, e5, s5⟩ := Qb (n := n + 0) hf.2.2.2.2.2.1
  obtain ⟨x6, e6, s6⟩ := Qb (n := n + 0) hf.2.2.2.2.2.2
  refine ⟨⟨x0, x1, x2, x3, x4, x5, x6⟩, ?_, trivial⟩
  rw [← List.drop_zero (l := row), Zn row 0 1, e0, Zn row 1 1, e1, Zn row 2 1, e2, Zn row 3 1, e3, Zn row 4 1, e4, Zn row 5 1, e5, Zn row 6 1, e6, List.drop_eq_nil_of_le (by omega)]
  rfl
theorem Bv {n : Nat} {row : List D} (h : TyR Tryz.prog (n + 3) 27 row) : ∃ x : List Z0, row = (slR 7 Z0.row) x ∧ Sm maxLen x := by
  rw [TyR, Tryz.underlying27] at h
  dsimp only at h
  obtain ⟨rows, rfl, hl, hr⟩ := h
  obtain ⟨l, rfl, hs⟩ := Jk (f := Z0.row) (n := maxLen) (fun r hr' => BP (n := n + 0) (hr r hr').1)
  exact ⟨l, by simp, ⟨by simpa using hl, hs⟩⟩
theorem Ou {n : Nat} {row : List D} (h : TyR Tryz.prog (n + 2) 28 row) : ∃ x : List Int, row = (slR 1 iR) x ∧ Sm maxLen x := by
  rw [TyR, Tryz.underlying28] at h
  dsimp only at h
  obtain ⟨rows, rfl, hl, hr⟩ := h
  obtain ⟨l, rfl, hs⟩ := Jk (f := iR) (n := maxLen) (fun r hr' => Qb (n := n + 0) (hr r hr').1)
  exact ⟨l, by simp, ⟨by simpa using hl, hs⟩⟩
theorem AX {n : Nat} {row : List D} (h : TyR Tryz.prog (n + 1) 9 row) : ∃ x : ByteArray, row = sR x ∧ Sm maxLen x := by
  rw [TyR, Tryz.underlying9] at h
  dsimp only at h
  obtain ⟨s, rfl, hs⟩ := h; exact ⟨s, rfl, hs⟩
theorem B5 {n : Nat} {row : List D} (h : TyR Tryz.prog (n + 2) 86 row) : ∃ x : List ByteArray, row = (slR 1 sR) x ∧ Sm maxLen x := by
  rw [TyR, Tryz.underlying86] at h
  dsimp only at h
  obtain ⟨rows, rfl, hl, hr⟩ := h
  obtain ⟨l, rfl, hs⟩ := Jk (f := sR) (n := maxLen) (fun r hr' => AX (n := n + 0) (hr r hr').1)
  exact ⟨l, by simp, ⟨by simpa using hl, hs⟩⟩
theorem BJ {n : Nat} {row : List D} (h : TyR Tryz.prog (n + 3) 201 row) : ∃ x : ZV, row = ZV.row x ∧ Sm maxLen x := by
  rw [TyR, Tryz.underlying201] at h
  dsimp only at h
  obtain ⟨hl, hf⟩ := h
  simp only [List.mem_cons, List.not_mem_nil, or_false, forall_eq_or_imp, forall_eq, ty3.2.1, C3.2.1, AS.2.1] at hf
  rw [Ch.2.1] at hl
  obtain ⟨x0, e0, s0⟩ := Qb (n := n + 1) hf.1
  obtain ⟨x1, e1, s1⟩ := B5 (n := n + 0) hf.2.1
  obtain ⟨x2, e2, s2⟩ := Ou (n := n + 0) hf.2.2
  refine ⟨⟨x0, x1, x2⟩, ?_, ⟨s1, s2⟩⟩
  rw [← List.drop_zero (l := row), Zn row 0 1, e0, Zn row 1 1, e1, Zn row 2 1, e2, List.drop_eq_nil_of_le (by omega)]
  rfl
theorem Ct {n : Nat} {row : List D} (h : TyR Tryz.prog (n + 2) 202 row) : ∃ x : Zh, row = Zh.row x ∧ Sm maxLen x := by
  rw [TyR, Tryz.underlying202] at h
  dsimp only at h
  obtain ⟨hl, hf⟩ := h
  simp only [List.mem_cons, List.not_mem_nil, or_false, forall_eq_or_imp, forall_eq, ty3.2.1] at hf
  rw [CX.2.1] at hl
  obtain ⟨x0, e0, s0⟩ := Qb (n := n + 0) hf.1
  obtain ⟨x1, e1, s1⟩ := Qb (n := n + 0) hf.2.1
  obtain ⟨x2, e2, s2⟩ := Qb (n := n + 0) hf.2.2.1
  obtain ⟨x3, e3, s3⟩ := Qb (n := n + 0) hf.2.2.2.1
  obtain ⟨x4, e4, s4⟩ := Qb (n := n + 0) hf.2.2.2.2.1
  obtain ⟨x5, e5, s5⟩ := Qb (n := n + 0) hf.2.2.2.2.2.1
  obtain ⟨x6, e6, s6⟩ := Qb (n := n + 0) hf.2.2.2.2.2.2.1
  obtain ⟨x7, e7, s7⟩ := Qb (n := n + 0) hf.2.2.2.2.2.2.2.1
  obtain ⟨x8, e8, s8⟩ := Qb (n := n + 0) hf.2.2.2.2.2.2.2.2
  refine ⟨⟨x0, x1, x2, x3, x4, x5, x6, x7, x8⟩, ?_, trivial⟩
  rw [← List.drop_zero (l := row), Zn row 0 1, e0, Zn row 1 1, e1, Zn row 2 1, e2, Zn row 3 1, e3, Zn row 4 1, e4, Zn row 5 1, e5, Zn row 6 1, e6, Zn row 7 1, e7, Zn row 8 1, e8, List.drop_eq_nil_of_le (by omega)]
  rfl
theorem BD {n : Nat} {row : List D} (h : TyR Tryz.prog (n + 3) 240 row) : ∃ x : ZN, row = ZN.row x ∧ Sm maxLen x := by
  rw [TyR, Tryz.underlying240] at h
  dsimp only at h
  obtain ⟨hl, hf⟩ := h
  simp only [List.mem_cons, List.not_mem_nil, or_false, forall_eq_or_imp, forall_eq, ty3.2.1, C3.2.1] at hf
  rw [Bd.2.1] at hl
  obtain ⟨x0, e0, s0⟩ := Qb (n := n + 1) hf.1
  obtain ⟨x1, e1, s1⟩ := Ou (n := n + 0) hf.2.1
  obtain ⟨x2, e2, s2⟩ := Qb (n := n + 1) hf.2.2
  refine ⟨⟨x0, x1, x2⟩, ?_, s1⟩
  rw [← List.drop_zero (l := row), Zn row 0 1, e0, Zn row 1 1, e1, Zn row 2 1, e2, List.drop_eq_nil_of_le (by omega)]
  rfl
theorem Cw {n : Nat} {row : List D} (h : TyR Tryz.prog (n + 4) 203 row) : ∃ x : List ZN, row = (slR 3 ZN.row) x ∧ Sm maxLen x := by
  rw [TyR, Tryz.underlying203] at h
  dsimp only at h
  obtain ⟨rows, rfl, hl, hr⟩ := h
  obtain ⟨l, rfl, hs⟩ := Jk (f := ZN.row) (n := maxLen) (fun r hr' => BD (n := n + 0) (hr r hr').1)
  exact ⟨l, by simp, ⟨by simpa using hl, hs⟩⟩
theorem Aa {n : Nat} {row : List D} (h : TyR Tryz.prog (n + 1) 4 row) : ∃ x : Bool, row = lR x ∧ Sm maxLen x := by
  rw [TyR, Tryz.underlying4] at h
  dsimp only at h
  obtain ⟨b, rfl⟩ := h; exact ⟨b, rfl, trivial⟩
theorem Cz {n : Nat} {row : List D} (h : TyR Tryz.prog (n + 2) 256 row) : ∃ x : Zk, row = Zk.row x ∧ Sm maxLen x := by
  rw [TyR, Tryz.underlying256] at h
  dsimp only at h
  obtain ⟨hl, hf⟩ := h
  simp only [List.mem_cons, List.not_mem_nil, or_false, forall_eq_or_imp, forall_eq, ty3.2.1, ty4.2.1] at hf
  rw [Be.2.1] at hl
  obtain ⟨x0, e0, s0⟩ := Qb (n := n + 0) hf.1
  obtain ⟨x1, e1, s1⟩ := Aa (n := n + 0) hf.2
  refine ⟨⟨x0, x1⟩, ?_, trivial⟩
  rw [← List.drop_zero (l := row), Zn row 0 1, e0, Zn row 1 1, e1, List.drop_eq_nil_of_le (by omega)]
  rfl
theorem BK {n : Nat} {row : List D} (h : TyR Tryz.prog (n + 3) 242 row) : ∃ x : List Zk, row = (slR 2 Zk.row) x ∧ Sm maxLen x := by
  rw [TyR, Tryz.underlying242] at h
  dsimp only at h
  obtain ⟨rows, rfl, hl, hr⟩ := h
  obtain ⟨l, rfl, hs⟩ := Jk (f := Zk.row) (n := maxLen) (fun r hr' => Cz (n := n + 0) (hr r hr').1)
  exact ⟨l, by simp, ⟨by simpa using hl, hs⟩⟩
theorem BH {n : Nat} {row : List D} (h : TyR Tryz.prog (n + 2) 258 row) : ∃ x : ZQ, row = ZQ.row x ∧ Sm maxLen x := by
  rw [TyR, Tryz.underlying258] at h
  dsimp only at h
  obtain ⟨hl, hf⟩ := h
  simp only [List.mem_cons, List.not_mem_nil, or_false, forall_eq_or_imp, forall_eq, ty3.2.1] at hf
  rw [BZ.2.1] at hl
  obtain ⟨x0, e0, s0⟩ := Qb (n := n + 0) hf.1
  obtain ⟨x1, e1, s1⟩ := Qb (n := n + 0) hf.2.1
  obtain ⟨x2, e2, s2⟩ := Qb (n := n + 0) hf.2.2.1
  obtain ⟨x3, e3, s3⟩ := Qb (n := n + 0) hf.2.2.2.1
  obtain ⟨x4, e4, s4⟩ := Qb (n := n + 0) hf.2.2.2.2
  refine ⟨⟨x0, x1, x2, x3, x4⟩, ?_, trivial⟩
  rw [← List.drop_zero (l := row), Zn row 0 1, e0, Zn row 1 1, e1, Zn row 2 1, e2, Zn row 3 1, e3, Zn row 4 1, e4, List.drop_eq_nil_of_le (by omega)]
  rfl
theorem Cx {n : Nat} {row : List D} (h : TyR Tryz.prog (n + 3) 243 row) : ∃ x : List ZQ, row = (slR 5 ZQ.row) x ∧ Sm maxLen x := by
  rw [TyR, Tryz.underlying243] at h
  dsimp only at h
  obtain ⟨rows, rfl, hl, hr⟩ := h
  obtain ⟨l, rfl, hs⟩ := Jk (f := ZQ.row) (n := maxLen) (fun r hr' => BH (n := n + 0) (hr r hr').1)
  exact ⟨l, by simp, ⟨by simpa using hl, hs⟩⟩
theorem Cm {n : Nat} {row : List D} (h : TyR Tryz.prog (n + 4) 245 row) : ∃ x : ZG, row = ZG.row x ∧ Sm maxLen x := by
  rw [TyR, Tryz.underlying245] at h
  dsimp only at h
  obtain ⟨hl, hf⟩ := h
  simp only [List.mem_cons, List.not_mem_nil, or_false, forall_eq_or_imp, forall_eq, ty3.2.1, AA.2.1, AD.2.1] at hf
  rw [Bf.2.1] at hl
  obtain ⟨x0, e0, s0⟩ := Qb (n := n + 2) hf.1
  obtain ⟨x1, e1, s1⟩ := Qb (n := n + 2) hf.2.1
  obtain ⟨x2, e2, s2⟩ := Qb (n := n + 2) hf.2.2.1
  obtain ⟨x3, e3, s3⟩ := BK (n := n + 0) hf.2.2.2.1
  obtain ⟨x4, e4, s4⟩ := Cx (n := n + 0) hf.2.2.2.2
  refine ⟨⟨x0, x1, x2, x3, x4⟩, ?_, ⟨s3, s4⟩⟩
  rw [← List.drop_zero (l := row), Zn row 0 1, e0, Zn row 1 1, e1, Zn row 2 1, e2, Zn row 3 1, e3, Zn row 4 1, e4, List.drop_eq_nil_of_le (by omega)]
  rfl
theorem BG {n : Nat} {row : List D} (h : TyR Tryz.prog (n + 5) 204 row) : ∃ x : List ZG, row = (slR 5 ZG.row) x ∧ Sm maxLen x := by
  rw [TyR, Tryz.underlying204] at h
  dsimp only at h
  obtain ⟨rows, rfl, hl, hr⟩ := h
  obtain ⟨l, rfl, hs⟩ := Jk (f := ZG.row) (n := maxLen) (fun r hr' => Cm (n := n + 0) (hr r hr').1)
  exact ⟨l, by simp, ⟨by simpa using hl, hs⟩⟩
theorem Cu {n : Nat} {row : List D} (h : TyR Tryz.prog (n + 6) 206 row) : ∃ x : Za, row = Za.row x ∧ Sm maxLen x := by
  rw [TyR, Tryz.underlying206] at h
  dsimp only at h
  obtain ⟨hl, hf⟩ := h
  simp only [List.mem_cons, List.not_mem_nil, or_false, forall_eq_or_imp, forall_eq, Bl.2.1, Br.2.1] at hf
  rw [CU.2.1] at hl
  obtain ⟨x0, e0, s0⟩ := Cw (n := n + 1) hf.1
  obtain ⟨x1, e1, s1⟩ := BG (n := n + 0) hf.2
  refine ⟨⟨x0, x1⟩, ?_, ⟨s0, s1⟩⟩
  rw [← List.drop_zero (l := row), Zn row 0 1, e0, Zn row 1 1, e1, List.drop_eq_nil_of_le (by omega)]
  rfl
theorem BN {n : Nat} {row : List D} (h : TyR Tryz.prog (n + 7) 208 row) : ∃ x : ZY, row = ZY.row x ∧ Sm maxLen x := by
  rw [TyR, Tryz.underlying208] at h
  dsimp only at h
  obtain ⟨hl, hf⟩ := h
  simp only [List.mem_cons, List.not_mem_nil, or_false, forall_eq_or_imp, forall_eq, ty3.2.1, Ch.2.1, CX.2.1, CU.2.1] at hf
  rw [AF.2.1] at hl
  obtain ⟨x0, e0, s0⟩ := Qb (n := n + 5) hf.1
  obtain ⟨x1, e1, s1⟩ := Qb (n := n + 5) hf.2.1
  obtain ⟨x2, e2, s2⟩ := BJ (n := n + 3) hf.2.2.1
  obtain ⟨x3, e3, s3⟩ := Ct (n := n + 4) hf.2.2.2.1
  obtain ⟨x4, e4, s4⟩ := Cu (n := n + 0) hf.2.2.2.2
  refine ⟨⟨x0, x1, x2, x3, x4⟩, ?_, ⟨s2, s4⟩⟩
  rw [← List.drop_zero (l := row), Zn row 0 1, e0, Zn row 1 1, e1, Zn row 2 3, e2, Zn row 5 9, e3, Zn row 14 2, e4, List.drop_eq_nil_of_le (by omega)]
  rfl
theorem C1 {n : Nat} {row : List D} (h : TyR Tryz.prog (n + 8) 123 row) : ∃ x : List ZY, row = (slR 16 ZY.row) x ∧ Sm maxLen x := by
  rw [TyR, Tryz.underlying123] at h
  dsimp only at h
  obtain ⟨rows, rfl, hl, hr⟩ := h
  obtain ⟨l, rfl, hs⟩ := Jk (f := ZY.row) (n := maxLen) (fun r hr' => BN (n := n + 0) (hr r hr').1)
  exact ⟨l, by simp, ⟨by simpa using hl, hs⟩⟩
theorem C5 {n : Nat} {row : List D} (h : TyR Tryz.prog (n + 9) 125 row) : ∃ x : ZF, row = ZF.row x ∧ Sm maxLen x := by
  rw [TyR, Tryz.underlying125] at h
  dsimp only at h
  obtain ⟨hl, hf⟩ := h
  simp only [List.mem_cons, List.not_mem_nil, or_false, forall_eq_or_imp, forall_eq, ty3.2.1, Bi.2.1] at hf
  rw [Bb.2.1] at hl
  obtain ⟨x0, e0, s0⟩ := Qb (n := n + 7) hf.1
  obtain ⟨x1, e1, s1⟩ := C1 (n := n + 0) hf.2
  refine ⟨⟨x0, x1⟩, ?_, s1⟩
  rw [← List.drop_zero (l := row), Zn row 0 1, e0, Zn row 1 1, e1, List.drop_eq_nil_of_le (by omega)]
  rfl
theorem Bw {n : Nat} {row : List D} (h : TyR Tryz.prog (n + 10) 29 row) : ∃ x : List ZF, row = (slR 2 ZF.row) x ∧ Sm maxLen x := by
  rw [TyR, Tryz.underlying29] at h
  dsimp only at h
  obtain ⟨rows, rfl, hl, hr⟩ := h
  obtain ⟨l, rfl, hs⟩ := Jk (f := ZF.row) (n := maxLen) (fun r hr' => C5 (n := n + 0) (hr r hr').1)
  exact ⟨l, by simp, ⟨by simpa using hl, hs⟩⟩
theorem Ca {n : Nat} {row : List D} (h : TyR Tryz.prog (n + 11) 31 row) : ∃ x : ZZ, row = ZZ.row x ∧ Sm maxLen x := by
  rw [TyR, Tryz.underlying31] at h
  dsimp only at h
  obtain ⟨hl, hf⟩ := h
  simp only [List.mem_cons, List.not_mem_nil, or_false, forall_eq_or_imp, forall_eq, ty3.2.1, B3.2.1, Ac.2.1, C3.2.1, AT.2.1] at hf
  rw [Ab.2.1] at hl
  obtain ⟨x0, e0, s0⟩ := B8 (n := n + 6) hf.1
  obtain ⟨x1, e1, s1⟩ := Bv (n := n + 7) hf.2.1
  obtain ⟨x2, e2, s2⟩ := Ou (n := n + 8) hf.2.2.1
  obtain ⟨x3, e3, s3⟩ := Bw (n := n + 0) hf.2.2.2.1
  obtain ⟨x4, e4, s4⟩ := Ou (n := n + 8) hf.2.2.2.2.1
  obtain ⟨x5, e5, s5⟩ := Ou (n := n + 8) hf.2.2.2.2.2.1
  obtain ⟨x6, e6, s6⟩ := Qb (n := n + 9) hf.2.2.2.2.2.2.1
  obtain ⟨x7, e7, s7⟩ := Ou (n := n + 8) hf.2.2.2.2.2.2.2
  refine ⟨⟨x0, x1, x2, x3, x4, x5, x6, x7⟩, ?_, ⟨s0, s1, s2, s3, s4, s5, s7⟩⟩
  rw [← List.drop_zero (l := row), Zn row 0 5, e0, Zn row 5 1, e1, Zn row 6 1, e2, Zn row 7 1, e3, Zn row 8 1, e4, Zn row 9 1, e5, Zn row 10 1, e6, Zn row 11 1, e7, List.drop_eq_nil_of_le (by omega)]
  rfl
end Go.Proofs.YtjflhdkeibijaaaGreat
