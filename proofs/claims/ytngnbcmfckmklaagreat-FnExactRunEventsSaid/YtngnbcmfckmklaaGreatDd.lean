/- Rows of the parameters' types are the rows of typed data. No condition. -/
import Derived.Test.YtngnbcmfckmklaaGreatMo
import Derived.Test.YtngnbcmfckmklaaGreatTy
namespace Go.Proofs.YtngnbcmfckmklaaGreat
open Tryz
open Go.Vm Go.Mo
set_option maxRecDepth 100000
set_option linter.unusedSimpArgs false
set_option linter.unusedVariables false
theorem KL {n : Nat} {row : List D} (h : TyR prog (n + 1) 3 row) : ∃ x : Int, row = iR x /\ Sm maxLen x := by
  rw [TyR, underlying3] at h
  dsimp only at h
  obtain ⟨m, rfl, _⟩ := h; exact ⟨m, rfl, trivial⟩
theorem ot {n : Nat} {row : List D} (h : TyR prog (n + 2) 175 row) : ∃ x : YZ, row = YZ.row x /\ Sm maxLen x := by
  rw [TyR, underlying175] at h
  dsimp only at h
  obtain ⟨hl, hf⟩ := h
  simp only [List.mem_cons, List.not_mem_nil, or_false, forall_eq_or_imp, forall_eq, ty3.1.2.1] at hf
  rw [mK.1.2.1] at hl
  obtain ⟨x0, e0, s0⟩ := KL (n := n + 0) hf.1
  obtain ⟨x1, e1, s1⟩ := KL (n := n + 0) hf.2.1
  obtain ⟨x2, e2, s2⟩ := KL (n := n + 0) hf.2.2.1
  obtain ⟨x3, e3, s3⟩ := KL (n := n + 0) hf.2.2.2.1
  obtain ⟨x4, e4, s4⟩ := KL (n := n + 0) hf.2.2.2.2
  refine ⟨⟨x0, x1, x2, x3, x4⟩, ?_, trivial⟩
  rw [<- List.drop_zero (l := row), Zs row 0 1, e0, Zs row 1 1, e1, Zs row 2 1, e2, Zs row 3 1, e3, Zs row 4 1, e4, List.drop_eq_nil_of_le (by omega)]
  rfl
theorem mL {n : Nat} {row : List D} (h : TyR prog (n + 3) 22 row) : ∃ x : List YZ, row = (slR 5 YZ.row) x /\ Sm maxLen x := by
  rw [TyR, underlying22] at h
  dsimp only at h
  obtain ⟨rows, rfl, hl, hr⟩ := h
  obtain ⟨l, rfl, hs⟩ := zS (f := YZ.row) (n := maxLen) (fun r gL => ot (n := n + 0) (hr r gL).1)
  exact ⟨l, by simp, ⟨by simpa using hl, hs⟩⟩
theorem nD {n : Nat} {row : List D} (h : TyR prog (n + 2) 179 row) : ∃ x : ZR, row = ZR.row x /\ Sm maxLen x := by
  rw [TyR, underlying179] at h
  dsimp only at h
  obtain ⟨hl, hf⟩ := h
  simp only [List.mem_cons, List.not_mem_nil, or_false, forall_eq_or_imp, forall_eq, ty3.1.2.1] at hf
  rw [mB.1.2.1] at hl
  obtain ⟨x0, e0, s0⟩ := KL (n := n + 0) hf.1
  obtain ⟨x1, e1, s1⟩ := KL (n := n + 0) hf.2.1
  obtain ⟨x2, e2, s2⟩ := KL (n := n + 0) hf.2.2
  refine ⟨⟨x0, x1, x2⟩, ?_, trivial⟩
  rw [<- List.drop_zero (l := row), Zs row 0 1, e0, Zs row 1 1, e1, Zs row 2 1, e2, List.drop_eq_nil_of_le (by omega)]
  rfl
theorem nx {n : Nat} {row : List D} (h : TyR prog (n + 3) 23 row) : ∃ x : List ZR, row = (slR 3 ZR.row) x /\ Sm maxLen x := by
  rw [TyR, underlying23] at h
  dsimp only at h
  obtain ⟨rows, rfl, hl, hr⟩ := h
  obtain ⟨l, rfl, hs⟩ := zS (f := ZR.row) (n := maxLen) (fun r gL => nD (n := n + 0) (hr r gL).1)
  exact ⟨l, by simp, ⟨by simpa using hl, hs⟩⟩
theorem nF {n : Nat} {row : List D} (h : TyR prog (n + 2) 183 row) : ∃ x : Zj, row = Zj.row x /\ Sm maxLen x := by
  rw [TyR, underlying183] at h
  dsimp only at h
  obtain ⟨hl, hf⟩ := h
  simp only [List.mem_cons, List.not_mem_nil, or_false, forall_eq_or_imp, forall_eq, ty3.1.2.1] at hf
  rw [mZ.1.2.1] at hl
  obtain ⟨x0, e0, s0⟩ := KL (n := n + 0) hf.1
  obtain ⟨x1, e1, s1⟩ := KL (n := n + 0) hf.2.1
  obtain ⟨x2, e2, s2⟩ := KL (n := n + 0) hf.2.2.1
  obtain ⟨x3, e3, s3⟩ := KL (n := n + 0) hf.2.2.2
  refine ⟨⟨x0, x1, x2, x3⟩, ?_, trivial⟩
  rw [<- List.drop_zero (l := row), Zs row 0 1, e0, Zs row 1 1, e1, Zs row 2 1, e2, Zs row 3 1, e3, List.drop_eq_nil_of_le (by omega)]
  rfl
theorem ma {n : Nat} {row : List D} (h : TyR prog (n + 3) 24 row) : ∃ x : List Zj, row = (slR 4 Zj.row) x /\ Sm maxLen x := by
  rw [TyR, underlying24] at h
  dsimp only at h
  obtain ⟨rows, rfl, hl, hr⟩ := h
  obtain ⟨l, rfl, hs⟩ := zS (f := Zj.row) (n := maxLen) (fun r gL => nF (n := n + 0) (hr r gL).1)
  exact ⟨l, by simp, ⟨by simpa using hl, hs⟩⟩
theorem mH {n : Nat} {row : List D} (h : TyR prog (n + 4) 26 row) : ∃ x : Zq, row = Zq.row x /\ Sm maxLen x := by
  rw [TyR, underlying26] at h
  dsimp only at h
  obtain ⟨hl, hf⟩ := h
  simp only [List.mem_cons, List.not_mem_nil, or_false, forall_eq_or_imp, forall_eq, ty3.1.2.1, lS.1.2.1, lO.1.2.1, lT.1.2.1] at hf
  rw [mi.1.2.1] at hl
  obtain ⟨x0, e0, s0⟩ := mL (n := n + 0) hf.1
  obtain ⟨x1, e1, s1⟩ := nx (n := n + 0) hf.2.1
  obtain ⟨x2, e2, s2⟩ := ma (n := n + 0) hf.2.2.1
  obtain ⟨x3, e3, s3⟩ := KL (n := n + 2) hf.2.2.2.1
  obtain ⟨x4, e4, s4⟩ := KL (n := n + 2) hf.2.2.2.2
  refine ⟨⟨x0, x1, x2, x3, x4⟩, ?_, ⟨s0, s1, s2⟩⟩
  rw [<- List.drop_zero (l := row), Zs row 0 1, e0, Zs row 1 1, e1, Zs row 2 1, e2, Zs row 3 1, e3, Zs row 4 1, e4, List.drop_eq_nil_of_le (by omega)]
  rfl
theorem nU {n : Nat} {row : List D} (h : TyR prog (n + 2) 108 row) : ∃ x : Z1, row = Z1.row x /\ Sm maxLen x := by
  rw [TyR, underlying108] at h
  dsimp only at h
  obtain ⟨hl, hf⟩ := h
  simp only [List.mem_cons, List.not_mem_nil, or_false, forall_eq_or_imp, forall_eq, ty3.1.2.1] at hf
  rw [ny.1.2.1] at hl
  obtain ⟨x0, e0, s0⟩ := KL (n := n + 0) hf.1
  obtain ⟨x1, e1, s1⟩ := KL (n := n + 0) hf.2.1
  obtain ⟨x2, e2, s2⟩ := KL (n := n + 0) hf.2.2.1
  obtain ⟨x3, e3, s3⟩ := KL (n := n + 0) hf.2.2.2.1
  obtain ⟨x4, e4, s4⟩ := KL (n := n + 0) hf.2.2.2.2.1
  obtain ⟨x5, e5, s5⟩ := KL (n := n + 0) hf.2.2.2.2.2.1
  obtain ⟨x6, e6, s6⟩ := KL (n := n + 0) hf.2.2.2.2.2.2
  refine ⟨⟨x0, x1, x2, x3, x4, x5, x6⟩, ?_, trivial⟩
  rw [<- List.drop_zero (l := row), Zs row 0 1, e0, Zs row 1 1, e1, Zs row 2 1, e2, Zs row 3 1, e3, Zs row 4 1, e4, Zs row 5 1, e5, Zs row 6 1, e6, List.drop_eq_nil_of_le (by omega)]
  rfl
theorem mc {n : Nat} {row : List D} (h : TyR prog (n + 3) 27 row) : ∃ x : List Z1, row = (slR 7 Z1.row) x /\ Sm maxLen x := by
  rw [TyR, underlying27] at h
  dsimp only at h
  obtain ⟨rows, rfl, hl, hr⟩ := h
  obtain ⟨l, rfl, hs⟩ := zS (f := Z1.row) (n := maxLen) (fun r gL => nU (n := n + 0) (hr r gL).1)
  exact ⟨l, by simp, ⟨by simpa using hl, hs⟩⟩
theorem F2 {n : Nat} {row : List D} (h : TyR prog (n + 2) 28 row) : ∃ x : List Int, row = (slR 1 iR) x /\ Sm maxLen x := by
  rw [TyR, underlying28] at h
  dsimp only at h
  obtain ⟨rows, rfl, hl, hr⟩ := h
  obtain ⟨l, rfl, hs⟩ := zS (f := iR) (n := maxLen) (fun r gL => KL (n := n + 0) (hr r gL).1)
  exact ⟨l, by simp, ⟨by simpa using hl, hs⟩⟩
theorem lV {n : Nat} {row : List D} (h : TyR prog (n + 1) 9 row) : ∃ x : ByteArray, row = sR x /\ Sm maxLen x := by
  rw [TyR, underlying9] at h
  dsimp only at h
  obtain ⟨s, rfl, hs⟩ := h; exact ⟨s, rfl, hs⟩
theorem mh {n : Nat} {row : List D} (h : TyR prog (n + 2) 58 row) : ∃ x : List ByteArray, row = (slR 1 sR) x /\ Sm maxLen x := by
  rw [TyR, underlying58] at h
  dsimp only at h
  obtain ⟨rows, rfl, hl, hr⟩ := h
  obtain ⟨l, rfl, hs⟩ := zS (f := sR) (n := maxLen) (fun r gL => lV (n := n + 0) (hr r gL).1)
  exact ⟨l, by simp, ⟨by simpa using hl, hs⟩⟩
theorem oW {n : Nat} {row : List D} (h : TyR prog (n + 3) 60 row) : ∃ x : ZT, row = ZT.row x /\ Sm maxLen x := by
  rw [TyR, underlying60] at h
  dsimp only at h
  obtain ⟨hl, hf⟩ := h
  simp only [List.mem_cons, List.not_mem_nil, or_false, forall_eq_or_imp, forall_eq, ty3.1.2.1, pY.1.2.1, lK.1.2.1] at hf
  rw [nI.1.2.1] at hl
  obtain ⟨x0, e0, s0⟩ := KL (n := n + 1) hf.1
  obtain ⟨x1, e1, s1⟩ := mh (n := n + 0) hf.2.1
  obtain ⟨x2, e2, s2⟩ := F2 (n := n + 0) hf.2.2
  refine ⟨⟨x0, x1, x2⟩, ?_, ⟨s1, s2⟩⟩
  rw [<- List.drop_zero (l := row), Zs row 0 1, e0, Zs row 1 1, e1, Zs row 2 1, e2, List.drop_eq_nil_of_le (by omega)]
  rfl
theorem nH {n : Nat} {row : List D} (h : TyR prog (n + 2) 200 row) : ∃ x : Zc, row = Zc.row x /\ Sm maxLen x := by
  rw [TyR, underlying200] at h
  dsimp only at h
  obtain ⟨hl, hf⟩ := h
  simp only [List.mem_cons, List.not_mem_nil, or_false, forall_eq_or_imp, forall_eq, ty3.1.2.1] at hf
  rw [oN.1.2.1] at hl
  obtain ⟨x0, e0, s0⟩ := KL (n := n + 0) hf.1
  obtain ⟨x1, e1, s1⟩ := KL (n := n + 0) hf.2.1
  obtain ⟨x2, e2, s2⟩ := KL (n := n + 0) hf.2.2.1
  obtain ⟨x3, e3, s3⟩ := KL (n := n + 0) hf.2.2.2.1
  obtain ⟨x4, e4, s4⟩ := KL (n := n + 0) hf.2.2.2.2.1
  obtain ⟨x5, e5, s5⟩ := KL (n := n + 0) hf.2.2.2.2.2.1
  obtain ⟨x6, e6, s6⟩ := KL (n := n + 0) hf.2.2.2.2.2.2.1
  obtain ⟨x7, e7, s7⟩ := KL (n := n + 0) hf.2.2.2.2.2.2.2.1
  obtain ⟨x8, e8, s8⟩ := KL (n := n + 0) hf.2.2.2.2.2.2.2.2
  refine ⟨⟨x0, x1, x2, x3, x4, x5, x6, x7, x8⟩, ?_, trivial⟩
  rw [<- List.drop_zero (l := row), Zs row 0 1, e0, Zs row 1 1, e1, Zs row 2 1, e2, Zs row 3 1, e3, Zs row 4 1, e4, Zs row 5 1, e5, Zs row 6 1, e6, Zs row 7 1, e7, Zs row 8 1, e8, List.drop_eq_nil_of_le (by omega)]
  rfl
theorem na {n : Nat} {row : List D} (h : TyR prog (n + 3) 277 row) : ∃ x : ZO, row = ZO.row x /\ Sm maxLen x := by
  rw [TyR, underlying277] at h
  dsimp only at h
  obtain ⟨hl, hf⟩ := h
  simp only [List.mem_cons, List.not_mem_nil, or_false, forall_eq_or_imp, forall_eq, ty3.1.2.1, pY.1.2.1] at hf
  rw [mC.1.2.1] at hl
  obtain ⟨x0, e0, s0⟩ := KL (n := n + 1) hf.1
  obtain ⟨x1, e1, s1⟩ := F2 (n := n + 0) hf.2.1
  obtain ⟨x2, e2, s2⟩ := KL (n := n + 1) hf.2.2
  refine ⟨⟨x0, x1, x2⟩, ?_, s1⟩
  rw [<- List.drop_zero (l := row), Zs row 0 1, e0, Zs row 1 1, e1, Zs row 2 1, e2, List.drop_eq_nil_of_le (by omega)]
  rfl
theorem oy {n : Nat} {row : List D} (h : TyR prog (n + 4) 201 row) : ∃ x : List ZO, row = (slR 3 ZO.row) x /\ Sm maxLen x := by
  rw [TyR, underlying201] at h
  dsimp only at h
  obtain ⟨rows, rfl, hl, hr⟩ := h
  obtain ⟨l, rfl, hs⟩ := zS (f := ZO.row) (n := maxLen) (fun r gL => na (n := n + 0) (hr r gL).1)
  exact ⟨l, by simp, ⟨by simpa using hl, hs⟩⟩
theorem lI {n : Nat} {row : List D} (h : TyR prog (n + 1) 4 row) : ∃ x : Bool, row = lR x /\ Sm maxLen x := by
  rw [TyR, underlying4] at h
  dsimp only at h
  obtain ⟨b, rfl⟩ := h; exact ⟨b, rfl, trivial⟩
theorem nO {n : Nat} {row : List D} (h : TyR prog (n + 2) 293 row) : ∃ x : Zy, row = Zy.row x /\ Sm maxLen x := by
  rw [TyR, underlying293] at h
  dsimp only at h
  obtain ⟨hl, hf⟩ := h
  simp only [List.mem_cons, List.not_mem_nil, or_false, forall_eq_or_imp, forall_eq, ty3.1.2.1, ty4.1.2.1] at hf
  rw [n7.1.2.1] at hl
  obtain ⟨x0, e0, s0⟩ := KL (n := n + 0) hf.1
  obtain ⟨x1, e1, s1⟩ := lI (n := n + 0) hf.2
  refine ⟨⟨x0, x1⟩, ?_, trivial⟩
  rw [<- List.drop_zero (l := row), Zs row 0 1, e0, Zs row 1 1, e1, List.drop_eq_nil_of_le (by omega)]
  rfl
theorem nW {n : Nat} {row : List D} (h : TyR prog (n + 3) 279 row) : ∃ x : List Zy, row = (slR 2 Zy.row) x /\ Sm maxLen x := by
  rw [TyR, underlying279] at h
  dsimp only at h
  obtain ⟨rows, rfl, hl, hr⟩ := h
  obtain ⟨l, rfl, hs⟩ := zS (f := Zy.row) (n := maxLen) (fun r gL => nO (n := n + 0) (hr r gL).1)
  exact ⟨l, by simp, ⟨by simpa using hl, hs⟩⟩
theorem ox {n : Nat} {row : List D} (h : TyR prog (n + 2) 295 row) : ∃ x : ZW, row = ZW.row x /\ Sm maxLen x := by
  rw [TyR, underlying295] at h
  dsimp only at h
  obtain ⟨hl, hf⟩ := h
  simp only [List.mem_cons, List.not_mem_nil, or_false, forall_eq_or_imp, forall_eq, ty3.1.2.1] at hf
  rw [mb.1.2.1] at hl
  obtain ⟨x0, e0, s0⟩ := KL (n := n + 0) hf.1
  obtain ⟨x1, e1, s1⟩ := KL (n := n + 0) hf.2.1
  obtain ⟨x2, e2, s2⟩ := KL (n := n + 0) hf.2.2.1
  obtain ⟨x3, e3, s3⟩ := KL (n := n + 0) hf.2.2.2.1
  obtain ⟨x4, e4, s4⟩ := KL (n := n + 0) hf.2.2.2.2
  refine ⟨⟨x0, x1, x2, x3, x4⟩, ?_, trivial⟩
  rw [<- List.drop_zero (l := row), Zs row 0 1, e0, Zs row 1 1, e1, Zs row 2 1, e2, Zs row 3 1, e3, Zs row 4 1, e4, List.drop_eq_nil_of_le (by omega)]
  rfl
theorem nk {n : Nat} {row : List D} (h : TyR prog (n + 3) 280 row) : ∃ x : List ZW, row = (slR 5 ZW.row) x /\ Sm maxLen x := by
  rw [TyR, underlying280] at h
  dsimp only at h
  obtain ⟨rows, rfl, hl, hr⟩ := h
  obtain ⟨l, rfl, hs⟩ := zS (f := ZW.row) (n := maxLen) (fun r gL => ox (n := n + 0) (hr r gL).1)
  exact ⟨l, by simp, ⟨by simpa using hl, hs⟩⟩
theorem nE {n : Nat} {row : List D} (h : TyR prog (n + 4) 282 row) : ∃ x : ZK, row = ZK.row x /\ Sm maxLen x := by
  rw [TyR, underlying282] at h
  dsimp only at h
  obtain ⟨hl, hf⟩ := h
  simp only [List.mem_cons, List.not_mem_nil, or_false, forall_eq_or_imp, forall_eq, ty3.1.2.1, mY.1.2.1, nw.1.2.1] at hf
  rw [mO.1.2.1] at hl
  obtain ⟨x0, e0, s0⟩ := KL (n := n + 2) hf.1
  obtain ⟨x1, e1, s1⟩ := KL (n := n + 2) hf.2.1
  obtain ⟨x2, e2, s2⟩ := KL (n := n + 2) hf.2.2.1
  obtain ⟨x3, e3, s3⟩ := nW (n := n + 0) hf.2.2.2.1
  obtain ⟨x4, e4, s4⟩ := nk (n := n + 0) hf.2.2.2.2
  refine ⟨⟨x0, x1, x2, x3, x4⟩, ?_, ⟨s3, s4⟩⟩
  rw [<- List.drop_zero (l := row), Zs row 0 1, e0, Zs row 1 1, e1, Zs row 2 1, e2, Zs row 3 1, e3, Zs row 4 1, e4, List.drop_eq_nil_of_le (by omega)]
  rfl
theorem nb {n : Nat} {row : List D} (h : TyR prog (n + 5) 202 row) : ∃ x : List ZK, row = (slR 5 ZK.row) x /\ Sm maxLen x := by
  rw [TyR, underlying202] at h
  dsimp only at h
  obtain ⟨rows, rfl, hl, hr⟩ := h
  obtain ⟨l, rfl, hs⟩ := zS (f := ZK.row) (n := maxLen) (fun r gL => nE (n := n + 0) (hr r gL).1)
  exact ⟨l, by simp, ⟨by simpa using hl, hs⟩⟩
theorem o9 {n : Nat} {row : List D} (h : TyR prog (n + 6) 204 row) : ∃ x : Za, row = Za.row x /\ Sm maxLen x := by
  rw [TyR, underlying204] at h
  dsimp only at h
  obtain ⟨hl, hf⟩ := h
  simp only [List.mem_cons, List.not_mem_nil, or_false, forall_eq_or_imp, forall_eq, nq.1.2.1, mF.1.2.1] at hf
  rw [oO.1.2.1] at hl
  obtain ⟨x0, e0, s0⟩ := oy (n := n + 1) hf.1
  obtain ⟨x1, e1, s1⟩ := nb (n := n + 0) hf.2
  refine ⟨⟨x0, x1⟩, ?_, ⟨s0, s1⟩⟩
  rw [<- List.drop_zero (l := row), Zs row 0 1, e0, Zs row 1 1, e1, List.drop_eq_nil_of_le (by omega)]
  rfl
theorem nL {n : Nat} {row : List D} (h : TyR prog (n + 7) 206 row) : ∃ x : ZM, row = ZM.row x /\ Sm maxLen x := by
  rw [TyR, underlying206] at h
  dsimp only at h
  obtain ⟨hl, hf⟩ := h
  simp only [List.mem_cons, List.not_mem_nil, or_false, forall_eq_or_imp, forall_eq, ty3.1.2.1, nI.1.2.1, oN.1.2.1, oO.1.2.1] at hf
  rw [mf.1.2.1] at hl
  obtain ⟨x0, e0, s0⟩ := KL (n := n + 5) hf.1
  obtain ⟨x1, e1, s1⟩ := KL (n := n + 5) hf.2.1
  obtain ⟨x2, e2, s2⟩ := oW (n := n + 3) hf.2.2.1
  obtain ⟨x3, e3, s3⟩ := nH (n := n + 4) hf.2.2.2.1
  obtain ⟨x4, e4, s4⟩ := o9 (n := n + 0) hf.2.2.2.2
  refine ⟨⟨x0, x1, x2, x3, x4⟩, ?_, ⟨s2, s4⟩⟩
  rw [<- List.drop_zero (l := row), Zs row 0 1, e0, Zs row 1 1, e1, Zs row 2 3, e2, Zs row 5 9, e3, Zs row 14 2, e4, List.drop_eq_nil_of_le (by omega)]
  rfl
theorem mg {n : Nat} {row : List D} (h : TyR prog (n + 8) 87 row) : ∃ x : List ZM, row = (slR 16 ZM.row) x /\ Sm maxLen x := by
  rw [TyR, underlying87] at h
  dsimp only at h
  obtain ⟨rows, rfl, hl, hr⟩ := h
  obtain ⟨l, rfl, hs⟩ := zS (f := ZM.row) (n := maxLen) (fun r gL => nL (n := n + 0) (hr r gL).1)
  exact ⟨l, by simp, ⟨by simpa using hl, hs⟩⟩
theorem mD {n : Nat} {row : List D} (h : TyR prog (n + 9) 89 row) : ∃ x : ZC, row = ZC.row x /\ Sm maxLen x := by
  rw [TyR, underlying89] at h
  dsimp only at h
  obtain ⟨hl, hf⟩ := h
  simp only [List.mem_cons, List.not_mem_nil, or_false, forall_eq_or_imp, forall_eq, ty3.1.2.1, lW.1.2.1] at hf
  rw [lD.1.2.1] at hl
  obtain ⟨x0, e0, s0⟩ := KL (n := n + 7) hf.1
  obtain ⟨x1, e1, s1⟩ := mg (n := n + 0) hf.2
  refine ⟨⟨x0, x1⟩, ?_, s1⟩
  rw [<- List.drop_zero (l := row), Zs row 0 1, e0, Zs row 1 1, e1, List.drop_eq_nil_of_le (by omega)]
  rfl
theorem mX {n : Nat} {row : List D} (h : TyR prog (n + 10) 29 row) : ∃ x : List ZC, row = (slR 2 ZC.row) x /\ Sm maxLen x := by
  rw [TyR, underlying29] at h
  dsimp only at h
  obtain ⟨rows, rfl, hl, hr⟩ := h
  obtain ⟨l, rfl, hs⟩ := zS (f := ZC.row) (n := maxLen) (fun r gL => mD (n := n + 0) (hr r gL).1)
  exact ⟨l, by simp, ⟨by simpa using hl, hs⟩⟩
theorem nt {n : Nat} {row : List D} (h : TyR prog (n + 11) 31 row) : ∃ x : ZH, row = ZH.row x /\ Sm maxLen x := by
  rw [TyR, underlying31] at h
  dsimp only at h
  obtain ⟨hl, hf⟩ := h
  simp only [List.mem_cons, List.not_mem_nil, or_false, forall_eq_or_imp, forall_eq, ty3.1.2.1, mi.1.2.1, lC.1.2.1, pY.1.2.1, lE.1.2.1] at hf
  rw [lB.1.2.1] at hl
  obtain ⟨x0, e0, s0⟩ := mH (n := n + 6) hf.1
  obtain ⟨x1, e1, s1⟩ := mc (n := n + 7) hf.2.1
  obtain ⟨x2, e2, s2⟩ := F2 (n := n + 8) hf.2.2.1
  obtain ⟨x3, e3, s3⟩ := mX (n := n + 0) hf.2.2.2.1
  obtain ⟨x4, e4, s4⟩ := F2 (n := n + 8) hf.2.2.2.2.1
  obtain ⟨x5, e5, s5⟩ := F2 (n := n + 8) hf.2.2.2.2.2.1
  obtain ⟨x6, e6, s6⟩ := KL (n := n + 9) hf.2.2.2.2.2.2.1
  obtain ⟨x7, e7, s7⟩ := F2 (n := n + 8) hf.2.2.2.2.2.2.2
  refine ⟨⟨x0, x1, x2, x3, x4, x5, x6, x7⟩, ?_, ⟨s0, s1, s2, s3, s4, s5, s7⟩⟩
  rw [<- List.drop_zero (l := row), Zs row 0 5, e0, Zs row 5 1, e1, Zs row 6 1, e2, Zs row 7 1, e3, Zs row 8 1, e4, Zs row 9 1, e5, Zs row 10 1, e6, Zs row 11 1, e7, List.drop_eq_nil_of_le (by omega)]
  rfl
theorem mV {n : Nat} {row : List D} (h : TyR prog (n + 4) 62 row) : ∃ x : Zp, row = Zp.row x /\ Sm maxLen x := by
  rw [TyR, underlying62] at h
  dsimp only at h
  obtain ⟨hl, hf⟩ := h
  simp only [List.mem_cons, List.not_mem_nil, or_false, forall_eq_or_imp, forall_eq, ty3.1.2.1, pY.1.2.1, nI.1.2.1] at hf
  rw [lJ.1.2.1] at hl
  obtain ⟨x0, e0, s0⟩ := KL (n := n + 2) hf.1
  obtain ⟨x1, e1, s1⟩ := KL (n := n + 2) hf.2.1
  obtain ⟨x2, e2, s2⟩ := KL (n := n + 2) hf.2.2.1
  obtain ⟨x3, e3, s3⟩ := KL (n := n + 2) hf.2.2.2.1
  obtain ⟨x4, e4, s4⟩ := KL (n := n + 2) hf.2.2.2.2.1
  obtain ⟨x5, e5, s5⟩ := oW (n := n + 0) hf.2.2.2.2.2.1
  obtain ⟨x6, e6, s6⟩ := F2 (n := n + 1) hf.2.2.2.2.2.2
  refine ⟨⟨x0, x1, x2, x3, x4, x5, x6⟩, ?_, ⟨s5, s6⟩⟩
  rw [<- List.drop_zero (l := row), Zs row 0 1, e0, Zs row 1 1, e1, Zs row 2 1, e2, Zs row 3 1, e3, Zs row 4 1, e4, Zs row 5 3, e5, Zs row 8 1, e6, List.drop_eq_nil_of_le (by omega)]
  rfl
theorem mT {n : Nat} {row : List D} (h : TyR prog (n + 5) 32 row) : ∃ x : List Zp, row = (slR 9 Zp.row) x /\ Sm maxLen x := by
  rw [TyR, underlying32] at h
  dsimp only at h
  obtain ⟨rows, rfl, hl, hr⟩ := h
  obtain ⟨l, rfl, hs⟩ := zS (f := Zp.row) (n := maxLen) (fun r gL => mV (n := n + 0) (hr r gL).1)
  exact ⟨l, by simp, ⟨by simpa using hl, hs⟩⟩
end Go.Proofs.YtngnbcmfckmklaaGreat
