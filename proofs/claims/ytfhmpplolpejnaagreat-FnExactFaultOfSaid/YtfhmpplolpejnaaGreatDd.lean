/- Rows of the parameters' types are the rows of typed data. No condition. -/
import Derived.Test.YtfhmpplolpejnaaGreatMo
import Derived.Test.YtfhmpplolpejnaaGreatTy
namespace Go.Proofs.YtfhmpplolpejnaaGreat
open Go.Vm Go.Mo
set_option maxRecDepth 100000
set_option linter.unusedSimpArgs false
set_option linter.unusedVariables false
theorem Jo {n : Nat} {row : List D} (h : TyR Tryz.prog (n + 1) 3 row) : ∃ x : Int, row = iR x ∧ Sm maxLen x := by
  rw [TyR, Tryz.underlying3] at h
  dsimp only at h
  obtain ⟨m, rfl, _⟩ := h; exact ⟨m, rfl, trivial⟩
theorem rJ {n : Nat} {row : List D} (h : TyR Tryz.prog (n + 2) 148 row) : ∃ x : Zy, row = Zy.row x ∧ Sm maxLen x := by
  rw [TyR, Tryz.underlying148] at h
  dsimp only at h
  obtain ⟨hl, hf⟩ := h
  simp only [List.mem_cons, List.not_mem_nil, or_false, forall_eq_or_imp, forall_eq, ty3.2.1] at hf
  rw [ru.2.1] at hl
  obtain ⟨x0, e0, s0⟩ := Jo (n := n + 0) hf.1
  obtain ⟨x1, e1, s1⟩ := Jo (n := n + 0) hf.2.1
  obtain ⟨x2, e2, s2⟩ := Jo (n := n + 0) hf.2.2.1
  obtain ⟨x3, e3, s3⟩ := Jo (n := n + 0) hf.2.2.2.1
  obtain ⟨x4, e4, s4⟩ := Jo (n := n + 0) hf.2.2.2.2
  refine ⟨⟨x0, x1, x2, x3, x4⟩, ?_, trivial⟩
  rw [← List.drop_zero (l := row), Zu row 0 1, e0, Zu row 1 1, e1, Zu row 2 1, e2, Zu row 3 1, e3, Zu row 4 1, e4, List.drop_eq_nil_of_le (by omega)]
  rfl
theorem pV {n : Nat} {row : List D} (h : TyR Tryz.prog (n + 3) 22 row) : ∃ x : List Zy, row = (slR 5 Zy.row) x ∧ Sm maxLen x := by
  rw [TyR, Tryz.underlying22] at h
  dsimp only at h
  obtain ⟨rows, rfl, hl, hr⟩ := h
  obtain ⟨l, rfl, hs⟩ := zH (f := Zy.row) (n := maxLen) (fun r hr' => rJ (n := n + 0) (hr r hr').1)
  exact ⟨l, by simp, ⟨by simpa using hl, hs⟩⟩
theorem rl {n : Nat} {row : List D} (h : TyR Tryz.prog (n + 2) 152 row) : ∃ x : ZF, row = ZF.row x ∧ Sm maxLen x := by
  rw [TyR, Tryz.underlying152] at h
  dsimp only at h
  obtain ⟨hl, hf⟩ := h
  simp only [List.mem_cons, List.not_mem_nil, or_false, forall_eq_or_imp, forall_eq, ty3.2.1] at hf
  rw [pF.2.1] at hl
  obtain ⟨x0, e0, s0⟩ := Jo (n := n + 0) hf.1
  obtain ⟨x1, e1, s1⟩ := Jo (n := n + 0) hf.2.1
  obtain ⟨x2, e2, s2⟩ := Jo (n := n + 0) hf.2.2
  refine ⟨⟨x0, x1, x2⟩, ?_, trivial⟩
  rw [← List.drop_zero (l := row), Zu row 0 1, e0, Zu row 1 1, e1, Zu row 2 1, e2, List.drop_eq_nil_of_le (by omega)]
  rfl
theorem pd {n : Nat} {row : List D} (h : TyR Tryz.prog (n + 3) 23 row) : ∃ x : List ZF, row = (slR 3 ZF.row) x ∧ Sm maxLen x := by
  rw [TyR, Tryz.underlying23] at h
  dsimp only at h
  obtain ⟨rows, rfl, hl, hr⟩ := h
  obtain ⟨l, rfl, hs⟩ := zH (f := ZF.row) (n := maxLen) (fun r hr' => rl (n := n + 0) (hr r hr').1)
  exact ⟨l, by simp, ⟨by simpa using hl, hs⟩⟩
theorem rR {n : Nat} {row : List D} (h : TyR Tryz.prog (n + 2) 156 row) : ∃ x : Zg, row = Zg.row x ∧ Sm maxLen x := by
  rw [TyR, Tryz.underlying156] at h
  dsimp only at h
  obtain ⟨hl, hf⟩ := h
  simp only [List.mem_cons, List.not_mem_nil, or_false, forall_eq_or_imp, forall_eq, ty3.2.1] at hf
  rw [pa.2.1] at hl
  obtain ⟨x0, e0, s0⟩ := Jo (n := n + 0) hf.1
  obtain ⟨x1, e1, s1⟩ := Jo (n := n + 0) hf.2.1
  obtain ⟨x2, e2, s2⟩ := Jo (n := n + 0) hf.2.2.1
  obtain ⟨x3, e3, s3⟩ := Jo (n := n + 0) hf.2.2.2
  refine ⟨⟨x0, x1, x2, x3⟩, ?_, trivial⟩
  rw [← List.drop_zero (l := row), Zu row 0 1, e0, Zu row 1 1, e1, Zu row 2 1, e2, Zu row 3 1, e3, List.drop_eq_nil_of_le (by omega)]
  rfl
theorem pg {n : Nat} {row : List D} (h : TyR Tryz.prog (n + 3) 24 row) : ∃ x : List Zg, row = (slR 4 Zg.row) x ∧ Sm maxLen x := by
  rw [TyR, Tryz.underlying24] at h
  dsimp only at h
  obtain ⟨rows, rfl, hl, hr⟩ := h
  obtain ⟨l, rfl, hs⟩ := zH (f := Zg.row) (n := maxLen) (fun r hr' => rR (n := n + 0) (hr r hr').1)
  exact ⟨l, by simp, ⟨by simpa using hl, hs⟩⟩
theorem pK {n : Nat} {row : List D} (h : TyR Tryz.prog (n + 4) 26 row) : ∃ x : ZH, row = ZH.row x ∧ Sm maxLen x := by
  rw [TyR, Tryz.underlying26] at h
  dsimp only at h
  obtain ⟨hl, hf⟩ := h
  simp only [List.mem_cons, List.not_mem_nil, or_false, forall_eq_or_imp, forall_eq, ty3.2.1, oJ.2.1, oP.2.1, oM.2.1] at hf
  rw [pU.2.1] at hl
  obtain ⟨x0, e0, s0⟩ := pV (n := n + 0) hf.1
  obtain ⟨x1, e1, s1⟩ := pd (n := n + 0) hf.2.1
  obtain ⟨x2, e2, s2⟩ := pg (n := n + 0) hf.2.2.1
  obtain ⟨x3, e3, s3⟩ := Jo (n := n + 2) hf.2.2.2.1
  obtain ⟨x4, e4, s4⟩ := Jo (n := n + 2) hf.2.2.2.2
  refine ⟨⟨x0, x1, x2, x3, x4⟩, ?_, ⟨s0, s1, s2⟩⟩
  rw [← List.drop_zero (l := row), Zu row 0 1, e0, Zu row 1 1, e1, Zu row 2 1, e2, Zu row 3 1, e3, Zu row 4 1, e4, List.drop_eq_nil_of_le (by omega)]
  rfl
theorem oO {n : Nat} {row : List D} (h : TyR Tryz.prog (n + 1) 9 row) : ∃ x : ByteArray, row = sR x ∧ Sm maxLen x := by
  rw [TyR, Tryz.underlying9] at h
  dsimp only at h
  obtain ⟨s, rfl, hs⟩ := h; exact ⟨s, rfl, hs⟩
theorem r7 {n : Nat} {row : List D} (h : TyR Tryz.prog (n + 2) 27 row) : ∃ x : List ByteArray, row = (slR 1 sR) x ∧ Sm maxLen x := by
  rw [TyR, Tryz.underlying27] at h
  dsimp only at h
  obtain ⟨rows, rfl, hl, hr⟩ := h
  obtain ⟨l, rfl, hs⟩ := zH (f := sR) (n := maxLen) (fun r hr' => oO (n := n + 0) (hr r hr').1)
  exact ⟨l, by simp, ⟨by simpa using hl, hs⟩⟩
theorem EL {n : Nat} {row : List D} (h : TyR Tryz.prog (n + 2) 28 row) : ∃ x : List Int, row = (slR 1 iR) x ∧ Sm maxLen x := by
  rw [TyR, Tryz.underlying28] at h
  dsimp only at h
  obtain ⟨rows, rfl, hl, hr⟩ := h
  obtain ⟨l, rfl, hs⟩ := zH (f := iR) (n := maxLen) (fun r hr' => Jo (n := n + 0) (hr r hr').1)
  exact ⟨l, by simp, ⟨by simpa using hl, hs⟩⟩
theorem rq {n : Nat} {row : List D} (h : TyR Tryz.prog (n + 3) 30 row) : ∃ x : Zd, row = Zd.row x ∧ Sm maxLen x := by
  rw [TyR, Tryz.underlying30] at h
  dsimp only at h
  obtain ⟨hl, hf⟩ := h
  simp only [List.mem_cons, List.not_mem_nil, or_false, forall_eq_or_imp, forall_eq, ty3.2.1, oI.2.1, rm.2.1] at hf
  rw [pr.2.1] at hl
  obtain ⟨x0, e0, s0⟩ := Jo (n := n + 1) hf.1
  obtain ⟨x1, e1, s1⟩ := r7 (n := n + 0) hf.2.1
  obtain ⟨x2, e2, s2⟩ := EL (n := n + 0) hf.2.2
  refine ⟨⟨x0, x1, x2⟩, ?_, ⟨s1, s2⟩⟩
  rw [← List.drop_zero (l := row), Zu row 0 1, e0, Zu row 1 1, e1, Zu row 2 1, e2, List.drop_eq_nil_of_le (by omega)]
  rfl
theorem pe {n : Nat} {row : List D} (h : TyR Tryz.prog (n + 2) 32 row) : ∃ x : ZY, row = ZY.row x ∧ Sm maxLen x := by
  rw [TyR, Tryz.underlying32] at h
  dsimp only at h
  obtain ⟨hl, hf⟩ := h
  simp only [List.mem_cons, List.not_mem_nil, or_false, forall_eq_or_imp, forall_eq, ty3.2.1] at hf
  rw [pZ.2.1] at hl
  obtain ⟨x0, e0, s0⟩ := Jo (n := n + 0) hf.1
  obtain ⟨x1, e1, s1⟩ := Jo (n := n + 0) hf.2.1
  obtain ⟨x2, e2, s2⟩ := Jo (n := n + 0) hf.2.2.1
  obtain ⟨x3, e3, s3⟩ := Jo (n := n + 0) hf.2.2.2.1
  obtain ⟨x4, e4, s4⟩ := Jo (n := n + 0) hf.2.2.2.2.1
  obtain ⟨x5, e5, s5⟩ := Jo (n := n + 0) hf.2.2.2.2.2.1
  obtain ⟨x6, e6, s6⟩ := Jo (n := n + 0) hf.2.2.2.2.2.2.1
  obtain ⟨x7, e7, s7⟩ := Jo (n := n + 0) hf.2.2.2.2.2.2.2.1
  obtain ⟨x8, e8, s8⟩ := Jo (n := n + 0) hf.2.2.2.2.2.2.2.2
  refine ⟨⟨x0, x1, x2, x3, x4, x5, x6, x7, x8⟩, ?_, trivial⟩
  rw [← List.drop_zero (l := row), Zu row 0 1, e0, Zu row 1 1, e1, Zu row 2 1, e2, Zu row 3 1, e3, Zu row 4 1, e4, Zu row 5 1, e5, Zu row 6 1, e6, Zu row 7 1, e7, Zu row 8 1, e8, List.drop_eq_nil_of_le (by omega)]
  rfl
theorem re {n : Nat} {row : List D} (h : TyR Tryz.prog (n + 3) 183 row) : ∃ x : ZB, row = ZB.row x ∧ Sm maxLen x := by
  rw [TyR, Tryz.underlying183] at h
  dsimp only at h
  obtain ⟨hl, hf⟩ := h
  simp only [List.mem_cons, List.not_mem_nil, or_false, forall_eq_or_imp, forall_eq, ty3.2.1, rm.2.1] at hf
  rw [pN.2.1] at hl
  obtain ⟨x0, e0, s0⟩ := Jo (n := n + 1) hf.1
  obtain ⟨x1, e1, s1⟩ := EL (n := n + 0) hf.2.1
  obtain ⟨x2, e2, s2⟩ := Jo (n := n + 1) hf.2.2
  refine ⟨⟨x0, x1, x2⟩, ?_, s1⟩
  rw [← List.drop_zero (l := row), Zu row 0 1, e0, Zu row 1 1, e1, Zu row 2 1, e2, List.drop_eq_nil_of_le (by omega)]
  rfl
theorem pE {n : Nat} {row : List D} (h : TyR Tryz.prog (n + 4) 33 row) : ∃ x : List ZB, row = (slR 3 ZB.row) x ∧ Sm maxLen x := by
  rw [TyR, Tryz.underlying33] at h
  dsimp only at h
  obtain ⟨rows, rfl, hl, hr⟩ := h
  obtain ⟨l, rfl, hs⟩ := zH (f := ZB.row) (n := maxLen) (fun r hr' => re (n := n + 0) (hr r hr').1)
  exact ⟨l, by simp, ⟨by simpa using hl, hs⟩⟩
theorem oV {n : Nat} {row : List D} (h : TyR Tryz.prog (n + 1) 4 row) : ∃ x : Bool, row = lR x ∧ Sm maxLen x := by
  rw [TyR, Tryz.underlying4] at h
  dsimp only at h
  obtain ⟨b, rfl⟩ := h; exact ⟨b, rfl, trivial⟩
theorem ra {n : Nat} {row : List D} (h : TyR Tryz.prog (n + 2) 277 row) : ∃ x : Yq, row = Yq.row x ∧ Sm maxLen x := by
  rw [TyR, Tryz.underlying277] at h
  dsimp only at h
  obtain ⟨hl, hf⟩ := h
  simp only [List.mem_cons, List.not_mem_nil, or_false, forall_eq_or_imp, forall_eq, ty3.2.1, ty4.2.1] at hf
  rw [pj.2.1] at hl
  obtain ⟨x0, e0, s0⟩ := Jo (n := n + 0) hf.1
  obtain ⟨x1, e1, s1⟩ := oV (n := n + 0) hf.2
  refine ⟨⟨x0, x1⟩, ?_, trivial⟩
  rw [← List.drop_zero (l := row), Zu row 0 1, e0, Zu row 1 1, e1, List.drop_eq_nil_of_le (by omega)]
  rfl
theorem sk {n : Nat} {row : List D} (h : TyR Tryz.prog (n + 3) 185 row) : ∃ x : List Yq, row = (slR 2 Yq.row) x ∧ Sm maxLen x := by
  rw [TyR, Tryz.underlying185] at h
  dsimp only at h
  obtain ⟨rows, rfl, hl, hr⟩ := h
  obtain ⟨l, rfl, hs⟩ := zH (f := Yq.row) (n := maxLen) (fun r hr' => ra (n := n + 0) (hr r hr').1)
  exact ⟨l, by simp, ⟨by simpa using hl, hs⟩⟩
theorem rT {n : Nat} {row : List D} (h : TyR Tryz.prog (n + 2) 281 row) : ∃ x : ZZ, row = ZZ.row x ∧ Sm maxLen x := by
  rw [TyR, Tryz.underlying281] at h
  dsimp only at h
  obtain ⟨hl, hf⟩ := h
  simp only [List.mem_cons, List.not_mem_nil, or_false, forall_eq_or_imp, forall_eq, ty3.2.1] at hf
  rw [pP.2.1] at hl
  obtain ⟨x0, e0, s0⟩ := Jo (n := n + 0) hf.1
  obtain ⟨x1, e1, s1⟩ := Jo (n := n + 0) hf.2.1
  obtain ⟨x2, e2, s2⟩ := Jo (n := n + 0) hf.2.2.1
  obtain ⟨x3, e3, s3⟩ := Jo (n := n + 0) hf.2.2.2.1
  obtain ⟨x4, e4, s4⟩ := Jo (n := n + 0) hf.2.2.2.2
  refine ⟨⟨x0, x1, x2, x3, x4⟩, ?_, trivial⟩
  rw [← List.drop_zero (l := row), Zu row 0 1, e0, Zu row 1 1, e1, Zu row 2 1, e2, Zu row 3 1, e3, Zu row 4 1, e4, List.drop_eq_nil_of_le (by omega)]
  rfl
theorem sy {n : Nat} {row : List D} (h : TyR Tryz.prog (n + 3) 186 row) : ∃ x : List ZZ, row = (slR 5 ZZ.row) x ∧ Sm maxLen x := by
  rw [TyR, Tryz.underlying186] at h
  dsimp only at h
  obtain ⟨rows, rfl, hl, hr⟩ := h
  obtain ⟨l, rfl, hs⟩ := zH (f := ZZ.row) (n := maxLen) (fun r hr' => rT (n := n + 0) (hr r hr').1)
  exact ⟨l, by simp, ⟨by simpa using hl, hs⟩⟩
theorem rE {n : Nat} {row : List D} (h : TyR Tryz.prog (n + 4) 188 row) : ∃ x : ZV, row = ZV.row x ∧ Sm maxLen x := by
  rw [TyR, Tryz.underlying188] at h
  dsimp only at h
  obtain ⟨hl, hf⟩ := h
  simp only [List.mem_cons, List.not_mem_nil, or_false, forall_eq_or_imp, forall_eq, ty3.2.1, pb.2.1, po.2.1] at hf
  rw [pQ.2.1] at hl
  obtain ⟨x0, e0, s0⟩ := Jo (n := n + 2) hf.1
  obtain ⟨x1, e1, s1⟩ := Jo (n := n + 2) hf.2.1
  obtain ⟨x2, e2, s2⟩ := Jo (n := n + 2) hf.2.2.1
  obtain ⟨x3, e3, s3⟩ := sk (n := n + 0) hf.2.2.2.1
  obtain ⟨x4, e4, s4⟩ := sy (n := n + 0) hf.2.2.2.2
  refine ⟨⟨x0, x1, x2, x3, x4⟩, ?_, ⟨s3, s4⟩⟩
  rw [← List.drop_zero (l := row), Zu row 0 1, e0, Zu row 1 1, e1, Zu row 2 1, e2, Zu row 3 1, e3, Zu row 4 1, e4, List.drop_eq_nil_of_le (by omega)]
  rfl
theorem pL {n : Nat} {row : List D} (h : TyR Tryz.prog (n + 5) 34 row) : ∃ x : List ZV, row = (slR 5 ZV.row) x ∧ Sm maxLen x := by
  rw [TyR, Tryz.underlying34] at h
  dsimp only at h
  obtain ⟨rows, rfl, hl, hr⟩ := h
  obtain ⟨l, rfl, hs⟩ := zH (f := ZV.row) (n := maxLen) (fun r hr' => rE (n := n + 0) (hr r hr').1)
  exact ⟨l, by simp, ⟨by simpa using hl, hs⟩⟩
theorem pR {n : Nat} {row : List D} (h : TyR Tryz.prog (n + 6) 36 row) : ∃ x : ZK, row = ZK.row x ∧ Sm maxLen x := by
  rw [TyR, Tryz.underlying36] at h
  dsimp only at h
  obtain ⟨hl, hf⟩ := h
  simp only [List.mem_cons, List.not_mem_nil, or_false, forall_eq_or_imp, forall_eq, oH.2.1, oU.2.1] at hf
  rw [pn.2.1] at hl
  obtain ⟨x0, e0, s0⟩ := pE (n := n + 1) hf.1
  obtain ⟨x1, e1, s1⟩ := pL (n := n + 0) hf.2
  refine ⟨⟨x0, x1⟩, ?_, ⟨s0, s1⟩⟩
  rw [← List.drop_zero (l := row), Zu row 0 1, e0, Zu row 1 1, e1, List.drop_eq_nil_of_le (by omega)]
  rfl
theorem pt {n : Nat} {row : List D} (h : TyR Tryz.prog (n + 7) 38 row) : ∃ x : Zt, row = Zt.row x ∧ Sm maxLen x := by
  rw [TyR, Tryz.underlying38] at h
  dsimp only at h
  obtain ⟨hl, hf⟩ := h
  simp only [List.mem_cons, List.not_mem_nil, or_false, forall_eq_or_imp, forall_eq, ty3.2.1, pr.2.1, pZ.2.1, pn.2.1] at hf
  rw [oR.2.1] at hl
  obtain ⟨x0, e0, s0⟩ := Jo (n := n + 5) hf.1
  obtain ⟨x1, e1, s1⟩ := Jo (n := n + 5) hf.2.1
  obtain ⟨x2, e2, s2⟩ := rq (n := n + 3) hf.2.2.1
  obtain ⟨x3, e3, s3⟩ := pe (n := n + 4) hf.2.2.2.1
  obtain ⟨x4, e4, s4⟩ := pR (n := n + 0) hf.2.2.2.2
  refine ⟨⟨x0, x1, x2, x3, x4⟩, ?_, ⟨s2, s4⟩⟩
  rw [← List.drop_zero (l := row), Zu row 0 1, e0, Zu row 1 1, e1, Zu row 2 3, e2, Zu row 5 9, e3, Zu row 14 2, e4, List.drop_eq_nil_of_le (by omega)]
  rfl
theorem pG {n : Nat} {row : List D} (h : TyR Tryz.prog (n + 8) 60 row) : ∃ x : List Zt, row = (slR 16 Zt.row) x ∧ Sm maxLen x := by
  rw [TyR, Tryz.underlying60] at h
  dsimp only at h
  obtain ⟨rows, rfl, hl, hr⟩ := h
  obtain ⟨l, rfl, hs⟩ := zH (f := Zt.row) (n := maxLen) (fun r hr' => pt (n := n + 0) (hr r hr').1)
  exact ⟨l, by simp, ⟨by simpa using hl, hs⟩⟩
theorem pc {n : Nat} {row : List D} (h : TyR Tryz.prog (n + 9) 62 row) : ∃ x : Zc, row = Zc.row x ∧ Sm maxLen x := by
  rw [TyR, Tryz.underlying62] at h
  dsimp only at h
  obtain ⟨hl, hf⟩ := h
  simp only [List.mem_cons, List.not_mem_nil, or_false, forall_eq_or_imp, forall_eq, ty3.2.1, oK.2.1] at hf
  rw [oL.2.1] at hl
  obtain ⟨x0, e0, s0⟩ := Jo (n := n + 7) hf.1
  obtain ⟨x1, e1, s1⟩ := pG (n := n + 0) hf.2
  refine ⟨⟨x0, x1⟩, ?_, s1⟩
  rw [← List.drop_zero (l := row), Zu row 0 1, e0, Zu row 1 1, e1, List.drop_eq_nil_of_le (by omega)]
  rfl
theorem rV {n : Nat} {row : List D} (h : TyR Tryz.prog (n + 2) 170 row) : ∃ x : Zs, row = Zs.row x ∧ Sm maxLen x := by
  rw [TyR, Tryz.underlying170] at h
  dsimp only at h
  obtain ⟨hl, hf⟩ := h
  simp only [List.mem_cons, List.not_mem_nil, or_false, forall_eq_or_imp, forall_eq, ty3.2.1] at hf
  rw [pA.2.1] at hl
  obtain ⟨x0, e0, s0⟩ := Jo (n := n + 0) hf.1
  obtain ⟨x1, e1, s1⟩ := Jo (n := n + 0) hf.2.1
  obtain ⟨x2, e2, s2⟩ := Jo (n := n + 0) hf.2.2.1
  obtain ⟨x3, e3, s3⟩ := Jo (n := n + 0) hf.2.2.2.1
  obtain ⟨x4, e4, s4⟩ := Jo (n := n + 0) hf.2.2.2.2.1
  obtain ⟨x5, e5, s5⟩ := Jo (n := n + 0) hf.2.2.2.2.2.1
  obtain ⟨x6, e6, s6⟩ := Jo (n := n + 0) hf.2.2.2.2.2.2
  refine ⟨⟨x0, x1, x2, x3, x4, x5, x6⟩, ?_, trivial⟩
  rw [← List.drop_zero (l := row), Zu row 0 1, e0, Zu row 1 1, e1, Zu row 2 1, e2, Zu row 3 1, e3, Zu row 4 1, e4, Zu row 5 1, e5, Zu row 6 1, e6, List.drop_eq_nil_of_le (by omega)]
  rfl
theorem r8 {n : Nat} {row : List D} (h : TyR Tryz.prog (n + 3) 71 row) : ∃ x : List Zs, row = (slR 7 Zs.row) x ∧ Sm maxLen x := by
  rw [TyR, Tryz.underlying71] at h
  dsimp only at h
  obtain ⟨rows, rfl, hl, hr⟩ := h
  obtain ⟨l, rfl, hs⟩ := zH (f := Zs.row) (n := maxLen) (fun r hr' => rV (n := n + 0) (hr r hr').1)
  exact ⟨l, by simp, ⟨by simpa using hl, hs⟩⟩
theorem pq {n : Nat} {row : List D} (h : TyR Tryz.prog (n + 10) 72 row) : ∃ x : List Zc, row = (slR 2 Zc.row) x ∧ Sm maxLen x := by
  rw [TyR, Tryz.underlying72] at h
  dsimp only at h
  obtain ⟨rows, rfl, hl, hr⟩ := h
  obtain ⟨l, rfl, hs⟩ := zH (f := Zc.row) (n := maxLen) (fun r hr' => pc (n := n + 0) (hr r hr').1)
  exact ⟨l, by simp, ⟨by simpa using hl, hs⟩⟩
theorem pD {n : Nat} {row : List D} (h : TyR Tryz.prog (n + 11) 74 row) : ∃ x : Zi, row = Zi.row x ∧ Sm maxLen x := by
  rw [TyR, Tryz.underlying74] at h
  dsimp only at h
  obtain ⟨hl, hf⟩ := h
  simp only [List.mem_cons, List.not_mem_nil, or_false, forall_eq_or_imp, forall_eq, ty3.2.1, pU.2.1, rm.2.1, oS.2.1, oY.2.1] at hf
  rw [oG.2.1] at hl
  obtain ⟨x0, e0, s0⟩ := pK (n := n + 6) hf.1
  obtain ⟨x1, e1, s1⟩ := r8 (n := n + 7) hf.2.1
  obtain ⟨x2, e2, s2⟩ := EL (n := n + 8) hf.2.2.1
  obtain ⟨x3, e3, s3⟩ := pq (n := n + 0) hf.2.2.2.1
  obtain ⟨x4, e4, s4⟩ := EL (n := n + 8) hf.2.2.2.2.1
  obtain ⟨x5, e5, s5⟩ := EL (n := n + 8) hf.2.2.2.2.2.1
  obtain ⟨x6, e6, s6⟩ := Jo (n := n + 9) hf.2.2.2.2.2.2.1
  obtain ⟨x7, e7, s7⟩ := EL (n := n + 8) hf.2.2.2.2.2.2.2
  refine ⟨⟨x0, x1, x2, x3, x4, x5, x6, x7⟩, ?_, ⟨s0, s1, s2, s3, s4, s5, s7⟩⟩
  rw [← List.drop_zero (l := row), Zu row 0 5, e0, Zu row 5 1, e1, Zu row 6 1, e2, Zu row 7 1, e3, Zu row 8 1, e4, Zu row 9 1, e5, Zu row 10 1, e6, Zu row 11 1, e7, List.drop_eq_nil_of_le (by omega)]
  rfl
end Go.Proofs.YtfhmpplolpejnaaGreat
