/- Rows of the parameters' types are the rows of typed data. No condition. -/
import Derived.Test.YtjflhdkeibijaaaGreatMo
import Derived.Test.YtjflhdkeibijaaaGreatTy
namespace Go.Proofs.YtjflhdkeibijaaaGreat
open Go.Vm Go.Mo
set_option maxRecDepth 100000
set_option linter.unusedSimpArgs false
set_option linter.unusedVariables false
theorem QO {n : Nat} {row : List D} (h : TyR Tryz.prog (n + 1) 3 row) : ∃ x : Int, row = iR x ∧ Sm maxLen x := by
  rw [TyR, Tryz.underlying3] at h
  dsimp only at h
  obtain ⟨m, rfl, _⟩ := h; exact ⟨m, rfl, trivial⟩
theorem Cr {n : Nat} {row : List D} (h : TyR Tryz.prog (n + 2) 171 row) : ∃ x : YQ, row = YQ.row x ∧ Sm maxLen x := by
  rw [TyR, Tryz.underlying171] at h
  dsimp only at h
  obtain ⟨hl, hf⟩ := h
  simp only [List.mem_cons, List.not_mem_nil, or_false, forall_eq_or_imp, forall_eq, ty3.2.1] at hf
  rw [Bq.2.1] at hl
  obtain ⟨x0, e0, s0⟩ := QO (n := n + 0) hf.1
  obtain ⟨x1, e1, s1⟩ := QO (n := n + 0) hf.2.1
  obtain ⟨x2, e2, s2⟩ := QO (n := n + 0) hf.2.2.1
  obtain ⟨x3, e3, s3⟩ := QO (n := n + 0) hf.2.2.2.1
  obtain ⟨x4, e4, s4⟩ := QO (n := n + 0) hf.2.2.2.2
  refine ⟨⟨x0, x1, x2, x3, x4⟩, ?_, trivial⟩
  rw [← List.drop_zero (l := row), Zk row 0 1, e0, Zk row 1 1, e1, Zk row 2 1, e2, Zk row 3 1, e3, Zk row 4 1, e4, List.drop_eq_nil_of_le (by omega)]
  rfl
theorem Bb {n : Nat} {row : List D} (h : TyR Tryz.prog (n + 3) 22 row) : ∃ x : List YQ, row = (slR 5 YQ.row) x ∧ Sm maxLen x := by
  rw [TyR, Tryz.underlying22] at h
  dsimp only at h
  obtain ⟨rows, rfl, hl, hr⟩ := h
  obtain ⟨l, rfl, hs⟩ := Jf (f := YQ.row) (n := maxLen) (fun r hr' => Cr (n := n + 0) (hr r hr').1)
  exact ⟨l, by simp, ⟨by simpa using hl, hs⟩⟩
theorem C4 {n : Nat} {row : List D} (h : TyR Tryz.prog (n + 2) 173 row) : ∃ x : ZN, row = ZN.row x ∧ Sm maxLen x := by
  rw [TyR, Tryz.underlying173] at h
  dsimp only at h
  obtain ⟨hl, hf⟩ := h
  simp only [List.mem_cons, List.not_mem_nil, or_false, forall_eq_or_imp, forall_eq, ty3.2.1] at hf
  rw [B7.2.1] at hl
  obtain ⟨x0, e0, s0⟩ := QO (n := n + 0) hf.1
  obtain ⟨x1, e1, s1⟩ := QO (n := n + 0) hf.2.1
  obtain ⟨x2, e2, s2⟩ := QO (n := n + 0) hf.2.2
  refine ⟨⟨x0, x1, x2⟩, ?_, trivial⟩
  rw [← List.drop_zero (l := row), Zk row 0 1, e0, Zk row 1 1, e1, Zk row 2 1, e2, List.drop_eq_nil_of_le (by omega)]
  rfl
theorem Bt {n : Nat} {row : List D} (h : TyR Tryz.prog (n + 3) 23 row) : ∃ x : List ZN, row = (slR 3 ZN.row) x ∧ Sm maxLen x := by
  rw [TyR, Tryz.underlying23] at h
  dsimp only at h
  obtain ⟨rows, rfl, hl, hr⟩ := h
  obtain ⟨l, rfl, hs⟩ := Jf (f := ZN.row) (n := maxLen) (fun r hr' => C4 (n := n + 0) (hr r hr').1)
  exact ⟨l, by simp, ⟨by simpa using hl, hs⟩⟩
theorem BN {n : Nat} {row : List D} (h : TyR Tryz.prog (n + 2) 175 row) : ∃ x : ZV, row = ZV.row x ∧ Sm maxLen x := by
  rw [TyR, Tryz.underlying175] at h
  dsimp only at h
  obtain ⟨hl, hf⟩ := h
  simp only [List.mem_cons, List.not_mem_nil, or_false, forall_eq_or_imp, forall_eq, ty3.2.1] at hf
  rw [B9.2.1] at hl
  obtain ⟨x0, e0, s0⟩ := QO (n := n + 0) hf.1
  obtain ⟨x1, e1, s1⟩ := QO (n := n + 0) hf.2.1
  obtain ⟨x2, e2, s2⟩ := QO (n := n + 0) hf.2.2.1
  obtain ⟨x3, e3, s3⟩ := QO (n := n + 0) hf.2.2.2
  refine ⟨⟨x0, x1, x2, x3⟩, ?_, trivial⟩
  rw [← List.drop_zero (l := row), Zk row 0 1, e0, Zk row 1 1, e1, Zk row 2 1, e2, Zk row 3 1, e3, List.drop_eq_nil_of_le (by omega)]
  rfl
theorem B0 {n : Nat} {row : List D} (h : TyR Tryz.prog (n + 3) 24 row) : ∃ x : List ZV, row = (slR 4 ZV.row) x ∧ Sm maxLen x := by
  rw [TyR, Tryz.underlying24] at h
  dsimp only at h
  obtain ⟨rows, rfl, hl, hr⟩ := h
  obtain ⟨l, rfl, hs⟩ := Jf (f := ZV.row) (n := maxLen) (fun r hr' => BN (n := n + 0) (hr r hr').1)
  exact ⟨l, by simp, ⟨by simpa using hl, hs⟩⟩
theorem B6 {n : Nat} {row : List D} (h : TyR Tryz.prog (n + 4) 26 row) : ∃ x : YJ, row = YJ.row x ∧ Sm maxLen x := by
  rw [TyR, Tryz.underlying26] at h
  dsimp only at h
  obtain ⟨hl, hf⟩ := h
  simp only [List.mem_cons, List.not_mem_nil, or_false, forall_eq_or_imp, forall_eq, ty3.2.1, AW.2.1, AX.2.1, Af.2.1] at hf
  rw [Bm.2.1] at hl
  obtain ⟨x0, e0, s0⟩ := Bb (n := n + 0) hf.1
  obtain ⟨x1, e1, s1⟩ := Bt (n := n + 0) hf.2.1
  obtain ⟨x2, e2, s2⟩ := B0 (n := n + 0) hf.2.2.1
  obtain ⟨x3, e3, s3⟩ := QO (n := n + 2) hf.2.2.2.1
  obtain ⟨x4, e4, s4⟩ := QO (n := n + 2) hf.2.2.2.2
  refine ⟨⟨x0, x1, x2, x3, x4⟩, ?_, ⟨s0, s1, s2⟩⟩
  rw [← List.drop_zero (l := row), Zk row 0 1, e0, Zk row 1 1, e1, Zk row 2 1, e2, Zk row 3 1, e3, Zk row 4 1, e4, List.drop_eq_nil_of_le (by omega)]
  rfl
theorem BQ {n : Nat} {row : List D} (h : TyR Tryz.prog (n + 2) 135 row) : ∃ x : Zz, row = Zz.row x ∧ Sm maxLen x := by
  rw [TyR, Tryz.underlying135] at h
  dsimp only at h
  obtain ⟨hl, hf⟩ := h
  simp only [List.mem_cons, List.not_mem_nil, or_false, forall_eq_or_imp, forall_eq, ty3.2.1] at hf
  rw [B4.2.1] at hl
  obtain ⟨x0, e0, s0⟩ := QO (n := n + 0) hf.1
  obtain ⟨x1, e1, s1⟩ := QO (n := n + 0) hf.2.1
  obtain ⟨x2, e2, s2⟩ := QO (n := n + 0) hf.2.2.1
  obtain ⟨x3, e3, s3⟩ := QO (n := n + 0) hf.2.2.2.1
  obtain ⟨x4, e4, s4⟩ := QO (n := n + 0) hf.2.2.2.2.1
  obtain ⟨x5, e5, s5⟩ := QO (n := n + 0) hf.2.2.2.2.2.1
  obtain ⟨x6, e6, s6⟩ := QO (n := n + 0) hf.2.2.2.2.2.2
  refine ⟨⟨x0, x1, x2, x3, x4, x5, x6⟩, ?_, trivial⟩
  rw [← List.drop_zero (l := row), Zk row 0 1, e0, Zk row 1 1, e1, Zk row 2 1, e2, Zk row 3 1, e3, Zk row 4 1, e4, Zk row 5 1, e5, Zk row 6 1, e6, List.drop_eq_nil_of_le (by omega)]
  rfl
theorem Bi {n : Nat} {row : List D} (h : TyR Tryz.prog (n + 3) 27 row) : ∃ x : List Zz, row = (slR 7 Zz.row) x ∧ Sm maxLen x := by
  rw [TyR, Tryz.underlying27] at h
  dsimp only at h
  obtain ⟨rows, rfl, hl, hr⟩ := h
  obtain ⟨l, rfl, hs⟩ := Jf (f := Zz.row) (n := maxLen) (fun r hr' => BQ (n := n + 0) (hr r hr').1)
  exact ⟨l, by simp, ⟨by simpa using hl, hs⟩⟩
theorem Ml {n : Nat} {row : List D} (h : TyR Tryz.prog (n + 2) 28 row) : ∃ x : List Int, row = (slR 1 iR) x ∧ Sm maxLen x := by
  rw [TyR, Tryz.underlying28] at h
  dsimp only at h
  obtain ⟨rows, rfl, hl, hr⟩ := h
  obtain ⟨l, rfl, hs⟩ := Jf (f := iR) (n := maxLen) (fun r hr' => QO (n := n + 0) (hr r hr').1)
  exact ⟨l, by simp, ⟨by simpa using hl, hs⟩⟩
theorem AR {n : Nat} {row : List D} (h : TyR Tryz.prog (n + 1) 9 row) : ∃ x : ByteArray, row = sR x ∧ Sm maxLen x := by
  rw [TyR, Tryz.underlying9] at h
  dsimp only at h
  obtain ⟨s, rfl, hs⟩ := h; exact ⟨s, rfl, hs⟩
theorem AG {n : Nat} {row : List D} (h : TyR Tryz.prog (n + 2) 86 row) : ∃ x : List ByteArray, row = (slR 1 sR) x ∧ Sm maxLen x := by
  rw [TyR, Tryz.underlying86] at h
  dsimp only at h
  obtain ⟨rows, rfl, hl, hr⟩ := h
  obtain ⟨l, rfl, hs⟩ := Jf (f := sR) (n := maxLen) (fun r hr' => AR (n := n + 0) (hr r hr').1)
  exact ⟨l, by simp, ⟨by simpa using hl, hs⟩⟩
theorem BU {n : Nat} {row : List D} (h : TyR Tryz.prog (n + 3) 201 row) : ∃ x : ZR, row = ZR.row x ∧ Sm maxLen x := by
  rw [TyR, Tryz.underlying201] at h
  dsimp only at h
  obtain ⟨hl, hf⟩ := h
  simp only [List.mem_cons, List.not_mem_nil, or_false, forall_eq_or_imp, forall_eq, ty3.2.1, BO.2.1, Ah.2.1] at hf
  rw [CY.2.1] at hl
  obtain ⟨x0, e0, s0⟩ := QO (n := n + 1) hf.1
  obtain ⟨x1, e1, s1⟩ := AG (n := n + 0) hf.2.1
  obtain ⟨x2, e2, s2⟩ := Ml (n := n + 0) hf.2.2
  refine ⟨⟨x0, x1, x2⟩, ?_, ⟨s1, s2⟩⟩
  rw [← List.drop_zero (l := row), Zk row 0 1, e0, Zk row 1 1, e1, Zk row 2 1, e2, List.drop_eq_nil_of_le (by omega)]
  rfl
theorem C3 {n : Nat} {row : List D} (h : TyR Tryz.prog (n + 2) 202 row) : ∃ x : Zb, row = Zb.row x ∧ Sm maxLen x := by
  rw [TyR, Tryz.underlying202] at h
  dsimp only at h
  obtain ⟨hl, hf⟩ := h
  simp only [List.mem_cons, List.not_mem_nil, or_false, forall_eq_or_imp, forall_eq, ty3.2.1] at hf
  rw [CX.2.1] at hl
  obtain ⟨x0, e0, s0⟩ := QO (n := n + 0) hf.1
  obtain ⟨x1, e1, s1⟩ := QO (n := n + 0) hf.2.1
  obtain ⟨x2, e2, s2⟩ := QO (n := n + 0) hf.2.2.1
  obtain ⟨x3, e3, s3⟩ := QO (n := n + 0) hf.2.2.2.1
  obtain ⟨x4, e4, s4⟩ := QO (n := n + 0) hf.2.2.2.2.1
  obtain ⟨x5, e5, s5⟩ := QO (n := n + 0) hf.2.2.2.2.2.1
  obtain ⟨x6, e6, s6⟩ := QO (n := n + 0) hf.2.2.2.2.2.2.1
  obtain ⟨x7, e7, s7⟩ := QO (n := n + 0) hf.2.2.2.2.2.2.2.1
  obtain ⟨x8, e8, s8⟩ := QO (n := n + 0) hf.2.2.2.2.2.2.2.2
  refine ⟨⟨x0, x1, x2, x3, x4, x5, x6, x7, x8⟩, ?_, trivial⟩
  rw [← List.drop_zero (l := row), Zk row 0 1, e0, Zk row 1 1, e1, Zk row 2 1, e2, Zk row 3 1, e3, Zk row 4 1, e4, Zk row 5 1, e5, Zk row 6 1, e6, Zk row 7 1, e7, Zk row 8 1, e8, List.drop_eq_nil_of_le (by omega)]
  rfl
theorem BT {n : Nat} {row : List D} (h : TyR Tryz.prog (n + 3) 240 row) : ∃ x : ZM, row = ZM.row x ∧ Sm maxLen x := by
  rw [TyR, Tryz.underlying240] at h
  dsimp only at h
  obtain ⟨hl, hf⟩ := h
  simp only [List.mem_cons, List.not_mem_nil, or_false, forall_eq_or_imp, forall_eq, ty3.2.1, BO.2.1] at hf
  rw [B1.2.1] at hl
  obtain ⟨x0, e0, s0⟩ := QO (n := n + 1) hf.1
  obtain ⟨x1, e1, s1⟩ := Ml (n := n + 0) hf.2.1
  obtain ⟨x2, e2, s2⟩ := QO (n := n + 1) hf.2.2
  refine ⟨⟨x0, x1, x2⟩, ?_, s1⟩
  rw [← List.drop_zero (l := row), Zk row 0 1, e0, Zk row 1 1, e1, Zk row 2 1, e2, List.drop_eq_nil_of_le (by omega)]
  rfl
theorem Cj {n : Nat} {row : List D} (h : TyR Tryz.prog (n + 4) 203 row) : ∃ x : List ZM, row = (slR 3 ZM.row) x ∧ Sm maxLen x := by
  rw [TyR, Tryz.underlying203] at h
  dsimp only at h
  obtain ⟨rows, rfl, hl, hr⟩ := h
  obtain ⟨l, rfl, hs⟩ := Jf (f := ZM.row) (n := maxLen) (fun r hr' => BT (n := n + 0) (hr r hr').1)
  exact ⟨l, by simp, ⟨by simpa using hl, hs⟩⟩
theorem AV {n : Nat} {row : List D} (h : TyR Tryz.prog (n + 1) 4 row) : ∃ x : Bool, row = lR x ∧ Sm maxLen x := by
  rw [TyR, Tryz.underlying4] at h
  dsimp only at h
  obtain ⟨b, rfl⟩ := h; exact ⟨b, rfl, trivial⟩
theorem Cv {n : Nat} {row : List D} (h : TyR Tryz.prog (n + 2) 256 row) : ∃ x : Z4, row = Z4.row x ∧ Sm maxLen x := by
  rw [TyR, Tryz.underlying256] at h
  dsimp only at h
  obtain ⟨hl, hf⟩ := h
  simp only [List.mem_cons, List.not_mem_nil, or_false, forall_eq_or_imp, forall_eq, ty3.2.1, ty4.2.1] at hf
  rw [Bf.2.1] at hl
  obtain ⟨x0, e0, s0⟩ := QO (n := n + 0) hf.1
  obtain ⟨x1, e1, s1⟩ := AV (n := n + 0) hf.2
  refine ⟨⟨x0, x1⟩, ?_, trivial⟩
  rw [← List.drop_zero (l := row), Zk row 0 1, e0, Zk row 1 1, e1, List.drop_eq_nil_of_le (by omega)]
  rfl
theorem C2 {n : Nat} {row : List D} (h : TyR Tryz.prog (n + 3) 242 row) : ∃ x : List Z4, row = (slR 2 Z4.row) x ∧ Sm maxLen x := by
  rw [TyR, Tryz.underlying242] at h
  dsimp only at h
  obtain ⟨rows, rfl, hl, hr⟩ := h
  obtain ⟨l, rfl, hs⟩ := Jf (f := Z4.row) (n := maxLen) (fun r hr' => Cv (n := n + 0) (hr r hr').1)
  exact ⟨l, by simp, ⟨by simpa using hl, hs⟩⟩
theorem BK {n : Nat} {row : List D} (h : TyR Tryz.prog (n + 2) 258 row) : ∃ x : Za, row = Za.row x ∧ Sm maxLen x := by
  rw [TyR, Tryz.underlying258] at h
  dsimp only at h
  obtain ⟨hl, hf⟩ := h
  simp only [List.mem_cons, List.not_mem_nil, or_false, forall_eq_or_imp, forall_eq, ty3.2.1] at hf
  rw [Bo.2.1] at hl
  obtain ⟨x0, e0, s0⟩ := QO (n := n + 0) hf.1
  obtain ⟨x1, e1, s1⟩ := QO (n := n + 0) hf.2.1
  obtain ⟨x2, e2, s2⟩ := QO (n := n + 0) hf.2.2.1
  obtain ⟨x3, e3, s3⟩ := QO (n := n + 0) hf.2.2.2.1
  obtain ⟨x4, e4, s4⟩ := QO (n := n + 0) hf.2.2.2.2
  refine ⟨⟨x0, x1, x2, x3, x4⟩, ?_, trivial⟩
  rw [← List.drop_zero (l := row), Zk row 0 1, e0, Zk row 1 1, e1, Zk row 2 1, e2, Zk row 3 1, e3, Zk row 4 1, e4, List.drop_eq_nil_of_le (by omega)]
  rfl
theorem BB {n : Nat} {row : List D} (h : TyR Tryz.prog (n + 3) 243 row) : ∃ x : List Za, row = (slR 5 Za.row) x ∧ Sm maxLen x := by
  rw [TyR, Tryz.underlying243] at h
  dsimp only at h
  obtain ⟨rows, rfl, hl, hr⟩ := h
  obtain ⟨l, rfl, hs⟩ := Jf (f := Za.row) (n := maxLen) (fun r hr' => BK (n := n + 0) (hr r hr').1)
  exact ⟨l, by simp, ⟨by simpa using hl, hs⟩⟩
theorem BD {n : Nat} {row : List D} (h : TyR Tryz.prog (n + 4) 245 row) : ∃ x : ZL, row = ZL.row x ∧ Sm maxLen x := by
  rw [TyR, Tryz.underlying245] at h
  dsimp only at h
  obtain ⟨hl, hf⟩ := h
  simp only [List.mem_cons, List.not_mem_nil, or_false, forall_eq_or_imp, forall_eq, ty3.2.1, B2.2.1, Bc.2.1] at hf
  rw [Bg.2.1] at hl
  obtain ⟨x0, e0, s0⟩ := QO (n := n + 2) hf.1
  obtain ⟨x1, e1, s1⟩ := QO (n := n + 2) hf.2.1
  obtain ⟨x2, e2, s2⟩ := QO (n := n + 2) hf.2.2.1
  obtain ⟨x3, e3, s3⟩ := C2 (n := n + 0) hf.2.2.2.1
  obtain ⟨x4, e4, s4⟩ := BB (n := n + 0) hf.2.2.2.2
  refine ⟨⟨x0, x1, x2, x3, x4⟩, ?_, ⟨s3, s4⟩⟩
  rw [← List.drop_zero (l := row), Zk row 0 1, e0, Zk row 1 1, e1, Zk row 2 1, e2, Zk row 3 1, e3, Zk row 4 1, e4, List.drop_eq_nil_of_le (by omega)]
  rfl
theorem C7 {n : Nat} {row : List D} (h : TyR Tryz.prog (n + 5) 204 row) : ∃ x : List ZL, row = (slR 5 ZL.row) x ∧ Sm maxLen x := by
  rw [TyR, Tryz.underlying204] at h
  dsimp only at h
  obtain ⟨rows, rfl, hl, hr⟩ := h
  obtain ⟨l, rfl, hs⟩ := Jf (f := ZL.row) (n := maxLen) (fun r hr' => BD (n := n + 0) (hr r hr').1)
  exact ⟨l, by simp, ⟨by simpa using hl, hs⟩⟩
theorem Ck {n : Nat} {row : List D} (h : TyR Tryz.prog (n + 6) 206 row) : ∃ x : Zf, row = Zf.row x ∧ Sm maxLen x := by
  rw [TyR, Tryz.underlying206] at h
  dsimp only at h
  obtain ⟨hl, hf⟩ := h
  simp only [List.mem_cons, List.not_mem_nil, or_false, forall_eq_or_imp, forall_eq, AB.2.1, BY.2.1] at hf
  rw [CH.2.1] at hl
  obtain ⟨x0, e0, s0⟩ := Cj (n := n + 1) hf.1
  obtain ⟨x1, e1, s1⟩ := C7 (n := n + 0) hf.2
  refine ⟨⟨x0, x1⟩, ?_, ⟨s0, s1⟩⟩
  rw [← List.drop_zero (l := row), Zk row 0 1, e0, Zk row 1 1, e1, List.drop_eq_nil_of_le (by omega)]
  rfl
theorem BI {n : Nat} {row : List D} (h : TyR Tryz.prog (n + 7) 208 row) : ∃ x : ZI, row = ZI.row x ∧ Sm maxLen x := by
  rw [TyR, Tryz.underlying208] at h
  dsimp only at h
  obtain ⟨hl, hf⟩ := h
  simp only [List.mem_cons, List.not_mem_nil, or_false, forall_eq_or_imp, forall_eq, ty3.2.1, CY.2.1, CX.2.1, CH.2.1] at hf
  rw [B5.2.1] at hl
  obtain ⟨x0, e0, s0⟩ := QO (n := n + 5) hf.1
  obtain ⟨x1, e1, s1⟩ := QO (n := n + 5) hf.2.1
  obtain ⟨x2, e2, s2⟩ := BU (n := n + 3) hf.2.2.1
  obtain ⟨x3, e3, s3⟩ := C3 (n := n + 4) hf.2.2.2.1
  obtain ⟨x4, e4, s4⟩ := Ck (n := n + 0) hf.2.2.2.2
  refine ⟨⟨x0, x1, x2, x3, x4⟩, ?_, ⟨s2, s4⟩⟩
  rw [← List.drop_zero (l := row), Zk row 0 1, e0, Zk row 1 1, e1, Zk row 2 3, e2, Zk row 5 9, e3, Zk row 14 2, e4, List.drop_eq_nil_of_le (by omega)]
  rfl
theorem Ct {n : Nat} {row : List D} (h : TyR Tryz.prog (n + 8) 123 row) : ∃ x : List ZI, row = (slR 16 ZI.row) x ∧ Sm maxLen x := by
  rw [TyR, Tryz.underlying123] at h
  dsimp only at h
  obtain ⟨rows, rfl, hl, hr⟩ := h
  obtain ⟨l, rfl, hs⟩ := Jf (f := ZI.row) (n := maxLen) (fun r hr' => BI (n := n + 0) (hr r hr').1)
  exact ⟨l, by simp, ⟨by simpa using hl, hs⟩⟩
theorem BM {n : Nat} {row : List D} (h : TyR Tryz.prog (n + 9) 125 row) : ∃ x : ZC, row = ZC.row x ∧ Sm maxLen x := by
  rw [TyR, Tryz.underlying125] at h
  dsimp only at h
  obtain ⟨hl, hf⟩ := h
  simp only [List.mem_cons, List.not_mem_nil, or_false, forall_eq_or_imp, forall_eq, ty3.2.1, Br.2.1] at hf
  rw [Ba.2.1] at hl
  obtain ⟨x0, e0, s0⟩ := QO (n := n + 7) hf.1
  obtain ⟨x1, e1, s1⟩ := Ct (n := n + 0) hf.2
  refine ⟨⟨x0, x1⟩, ?_, s1⟩
  rw [← List.drop_zero (l := row), Zk row 0 1, e0, Zk row 1 1, e1, List.drop_eq_nil_of_le (by omega)]
  rfl
theorem B3 {n : Nat} {row : List D} (h : TyR Tryz.prog (n + 10) 29 row) : ∃ x : List ZC, row = (slR 2 ZC.row) x ∧ Sm maxLen x := by
  rw [TyR, Tryz.underlying29] at h
  dsimp only at h
  obtain ⟨rows, rfl, hl, hr⟩ := h
  obtain ⟨l, rfl, hs⟩ := Jf (f := ZC.row) (n := maxLen) (fun r hr' => BM (n := n + 0) (hr r hr').1)
  exact ⟨l, by simp, ⟨by simpa using hl, hs⟩⟩
theorem Bw {n : Nat} {row : List D} (h : TyR Tryz.prog (n + 11) 31 row) : ∃ x : Ze, row = Ze.row x ∧ Sm maxLen x := by
  rw [TyR, Tryz.underlying31] at h
  dsimp only at h
  obtain ⟨hl, hf⟩ := h
  simp only [List.mem_cons, List.not_mem_nil, or_false, forall_eq_or_imp, forall_eq, ty3.2.1, Bm.2.1, AS.2.1, BO.2.1, Ae.2.1] at hf
  rw [AY.2.1] at hl
  obtain ⟨x0, e0, s0⟩ := B6 (n := n + 6) hf.1
  obtain ⟨x1, e1, s1⟩ := Bi (n := n + 7) hf.2.1
  obtain ⟨x2, e2, s2⟩ := Ml (n := n + 8) hf.2.2.1
  obtain ⟨x3, e3, s3⟩ := B3 (n := n + 0) hf.2.2.2.1
  obtain ⟨x4, e4, s4⟩ := Ml (n := n + 8) hf.2.2.2.2.1
  obtain ⟨x5, e5, s5⟩ := Ml (n := n + 8) hf.2.2.2.2.2.1
  obtain ⟨x6, e6, s6⟩ := QO (n := n + 9) hf.2.2.2.2.2.2.1
  obtain ⟨x7, e7, s7⟩ := Ml (n := n + 8) hf.2.2.2.2.2.2.2
  refine ⟨⟨x0, x1, x2, x3, x4, x5, x6, x7⟩, ?_, ⟨s0, s1, s2, s3, s4, s5, s7⟩⟩
  rw [← List.drop_zero (l := row), Zk row 0 5, e0, Zk row 5 1, e1, Zk row 6 1, e2, Zk row 7 1, e3, Zk row 8 1, e4, Zk row 9 1, e5, Zk row 10 1, e6, Zk row 11 1, e7, List.drop_eq_nil_of_le (by omega)]
  rfl
end Go.Proofs.YtjflhdkeibijaaaGreat
