/- Rows of the parameters' types are the rows of typed data. No condition. -/
import Derived.Test.YtdkobknehoecjaaGreatMo
import Derived.Test.YtdkobknehoecjaaGreatTy
namespace Go.Proofs.YtdkobknehoecjaaGreat
open Tryz
open Go.Vm Go.Mo
set_option maxRecDepth 100000
set_option linter.unusedSimpArgs false
set_option linter.unusedVariables false
theorem J8 {n : Nat} {row : List D} (h : TyR prog (n + 1) 3 row) : ∃ x : Int, row = iR x /\ Sm maxLen x := by
  rw [TyR, underlying3] at h
  dsimp only at h
  obtain ⟨m, rfl, _⟩ := h; exact ⟨m, rfl, trivial⟩
theorem oS {n : Nat} {row : List D} (h : TyR prog (n + 2) 216 row) : ∃ x : YR, row = YR.row x /\ Sm maxLen x := by
  rw [TyR, underlying216] at h
  dsimp only at h
  obtain ⟨hl, hf⟩ := h
  simp only [List.mem_cons, List.not_mem_nil, or_false, forall_eq_or_imp, forall_eq, ty3.1.2.1] at hf
  rw [nP.1.2.1] at hl
  obtain ⟨x0, e0, s0⟩ := J8 (n := n + 0) hf.1
  obtain ⟨x1, e1, s1⟩ := J8 (n := n + 0) hf.2.1
  obtain ⟨x2, e2, s2⟩ := J8 (n := n + 0) hf.2.2.1
  obtain ⟨x3, e3, s3⟩ := J8 (n := n + 0) hf.2.2.2.1
  obtain ⟨x4, e4, s4⟩ := J8 (n := n + 0) hf.2.2.2.2
  refine ⟨⟨x0, x1, x2, x3, x4⟩, ?_, trivial⟩
  rw [<- List.drop_zero (l := row), Zw row 0 1, e0, Zw row 1 1, e1, Zw row 2 1, e2, Zw row 3 1, e3, Zw row 4 1, e4, List.drop_eq_nil_of_le (by omega)]
  rfl
theorem nH {n : Nat} {row : List D} (h : TyR prog (n + 3) 22 row) : ∃ x : List YR, row = (slR 5 YR.row) x /\ Sm maxLen x := by
  rw [TyR, underlying22] at h
  dsimp only at h
  obtain ⟨rows, rfl, hl, hr⟩ := h
  obtain ⟨l, rfl, hs⟩ := zp (f := YR.row) (n := maxLen) (fun r lp => oS (n := n + 0) (hr r lp).1)
  exact ⟨l, by simp, ⟨by simpa using hl, hs⟩⟩
theorem pz {n : Nat} {row : List D} (h : TyR prog (n + 2) 218 row) : ∃ x : ZQ, row = ZQ.row x /\ Sm maxLen x := by
  rw [TyR, underlying218] at h
  dsimp only at h
  obtain ⟨hl, hf⟩ := h
  simp only [List.mem_cons, List.not_mem_nil, or_false, forall_eq_or_imp, forall_eq, ty3.1.2.1] at hf
  rw [nZ.1.2.1] at hl
  obtain ⟨x0, e0, s0⟩ := J8 (n := n + 0) hf.1
  obtain ⟨x1, e1, s1⟩ := J8 (n := n + 0) hf.2.1
  obtain ⟨x2, e2, s2⟩ := J8 (n := n + 0) hf.2.2
  refine ⟨⟨x0, x1, x2⟩, ?_, trivial⟩
  rw [<- List.drop_zero (l := row), Zw row 0 1, e0, Zw row 1 1, e1, Zw row 2 1, e2, List.drop_eq_nil_of_le (by omega)]
  rfl
theorem o7 {n : Nat} {row : List D} (h : TyR prog (n + 3) 23 row) : ∃ x : List ZQ, row = (slR 3 ZQ.row) x /\ Sm maxLen x := by
  rw [TyR, underlying23] at h
  dsimp only at h
  obtain ⟨rows, rfl, hl, hr⟩ := h
  obtain ⟨l, rfl, hs⟩ := zp (f := ZQ.row) (n := maxLen) (fun r lp => pz (n := n + 0) (hr r lp).1)
  exact ⟨l, by simp, ⟨by simpa using hl, hs⟩⟩
theorem pq {n : Nat} {row : List D} (h : TyR prog (n + 2) 220 row) : ∃ x : Zf, row = Zf.row x /\ Sm maxLen x := by
  rw [TyR, underlying220] at h
  dsimp only at h
  obtain ⟨hl, hf⟩ := h
  simp only [List.mem_cons, List.not_mem_nil, or_false, forall_eq_or_imp, forall_eq, ty3.1.2.1] at hf
  rw [oo.1.2.1] at hl
  obtain ⟨x0, e0, s0⟩ := J8 (n := n + 0) hf.1
  obtain ⟨x1, e1, s1⟩ := J8 (n := n + 0) hf.2.1
  obtain ⟨x2, e2, s2⟩ := J8 (n := n + 0) hf.2.2.1
  obtain ⟨x3, e3, s3⟩ := J8 (n := n + 0) hf.2.2.2
  refine ⟨⟨x0, x1, x2, x3⟩, ?_, trivial⟩
  rw [<- List.drop_zero (l := row), Zw row 0 1, e0, Zw row 1 1, e1, Zw row 2 1, e2, Zw row 3 1, e3, List.drop_eq_nil_of_le (by omega)]
  rfl
theorem nM {n : Nat} {row : List D} (h : TyR prog (n + 3) 24 row) : ∃ x : List Zf, row = (slR 4 Zf.row) x /\ Sm maxLen x := by
  rw [TyR, underlying24] at h
  dsimp only at h
  obtain ⟨rows, rfl, hl, hr⟩ := h
  obtain ⟨l, rfl, hs⟩ := zp (f := Zf.row) (n := maxLen) (fun r lp => pq (n := n + 0) (hr r lp).1)
  exact ⟨l, by simp, ⟨by simpa using hl, hs⟩⟩
theorem oq {n : Nat} {row : List D} (h : TyR prog (n + 4) 26 row) : ∃ x : Z8, row = Z8.row x /\ Sm maxLen x := by
  rw [TyR, underlying26] at h
  dsimp only at h
  obtain ⟨hl, hf⟩ := h
  simp only [List.mem_cons, List.not_mem_nil, or_false, forall_eq_or_imp, forall_eq, ty3.1.2.1, mD.1.2.1, nu.1.2.1, nt.1.2.1] at hf
  rw [oc.1.2.1] at hl
  obtain ⟨x0, e0, s0⟩ := nH (n := n + 0) hf.1
  obtain ⟨x1, e1, s1⟩ := o7 (n := n + 0) hf.2.1
  obtain ⟨x2, e2, s2⟩ := nM (n := n + 0) hf.2.2.1
  obtain ⟨x3, e3, s3⟩ := J8 (n := n + 2) hf.2.2.2.1
  obtain ⟨x4, e4, s4⟩ := J8 (n := n + 2) hf.2.2.2.2
  refine ⟨⟨x0, x1, x2, x3, x4⟩, ?_, ⟨s0, s1, s2⟩⟩
  rw [<- List.drop_zero (l := row), Zw row 0 1, e0, Zw row 1 1, e1, Zw row 2 1, e2, Zw row 3 1, e3, Zw row 4 1, e4, List.drop_eq_nil_of_le (by omega)]
  rfl
theorem oA {n : Nat} {row : List D} (h : TyR prog (n + 2) 166 row) : ∃ x : Z1, row = Z1.row x /\ Sm maxLen x := by
  rw [TyR, underlying166] at h
  dsimp only at h
  obtain ⟨hl, hf⟩ := h
  simp only [List.mem_cons, List.not_mem_nil, or_false, forall_eq_or_imp, forall_eq, ty3.1.2.1] at hf
  rw [nA.1.2.1] at hl
  obtain ⟨x0, e0, s0⟩ := J8 (n := n + 0) hf.1
  obtain ⟨x1, e1, s1⟩ := J8 (n := n + 0) hf.2.1
  obtain ⟨x2, e2, s2⟩ := J8 (n := n + 0) hf.2.2.1
  obtain ⟨x3, e3, s3⟩ := J8 (n := n + 0) hf.2.2.2.1
  obtain ⟨x4, e4, s4⟩ := J8 (n := n + 0) hf.2.2.2.2.1
  obtain ⟨x5, e5, s5⟩ := J8 (n := n + 0) hf.2.2.2.2.2.1
  obtain ⟨x6, e6, s6⟩ := J8 (n := n + 0) hf.2.2.2.2.2.2
  refine ⟨⟨x0, x1, x2, x3, x4, x5, x6⟩, ?_, trivial⟩
  rw [<- List.drop_zero (l := row), Zw row 0 1, e0, Zw row 1 1, e1, Zw row 2 1, e2, Zw row 3 1, e3, Zw row 4 1, e4, Zw row 5 1, e5, Zw row 6 1, e6, List.drop_eq_nil_of_le (by omega)]
  rfl
theorem nU {n : Nat} {row : List D} (h : TyR prog (n + 3) 27 row) : ∃ x : List Z1, row = (slR 7 Z1.row) x /\ Sm maxLen x := by
  rw [TyR, underlying27] at h
  dsimp only at h
  obtain ⟨rows, rfl, hl, hr⟩ := h
  obtain ⟨l, rfl, hs⟩ := zp (f := Z1.row) (n := maxLen) (fun r lp => oA (n := n + 0) (hr r lp).1)
  exact ⟨l, by simp, ⟨by simpa using hl, hs⟩⟩
theorem Hp {n : Nat} {row : List D} (h : TyR prog (n + 2) 28 row) : ∃ x : List Int, row = (slR 1 iR) x /\ Sm maxLen x := by
  rw [TyR, underlying28] at h
  dsimp only at h
  obtain ⟨rows, rfl, hl, hr⟩ := h
  obtain ⟨l, rfl, hs⟩ := zp (f := iR) (n := maxLen) (fun r lp => J8 (n := n + 0) (hr r lp).1)
  exact ⟨l, by simp, ⟨by simpa using hl, hs⟩⟩
theorem mE {n : Nat} {row : List D} (h : TyR prog (n + 1) 9 row) : ∃ x : ByteArray, row = sR x /\ Sm maxLen x := by
  rw [TyR, underlying9] at h
  dsimp only at h
  obtain ⟨s, rfl, hs⟩ := h; exact ⟨s, rfl, hs⟩
theorem oe {n : Nat} {row : List D} (h : TyR prog (n + 2) 32 row) : ∃ x : List ByteArray, row = (slR 1 sR) x /\ Sm maxLen x := by
  rw [TyR, underlying32] at h
  dsimp only at h
  obtain ⟨rows, rfl, hl, hr⟩ := h
  obtain ⟨l, rfl, hs⟩ := zp (f := sR) (n := maxLen) (fun r lp => mE (n := n + 0) (hr r lp).1)
  exact ⟨l, by simp, ⟨by simpa using hl, hs⟩⟩
theorem pB {n : Nat} {row : List D} (h : TyR prog (n + 3) 34 row) : ∃ x : ZV, row = ZV.row x /\ Sm maxLen x := by
  rw [TyR, underlying34] at h
  dsimp only at h
  obtain ⟨hl, hf⟩ := h
  simp only [List.mem_cons, List.not_mem_nil, or_false, forall_eq_or_imp, forall_eq, ty3.1.2.1, rf.1.2.1, nw.1.2.1] at hf
  rw [oD.1.2.1] at hl
  obtain ⟨x0, e0, s0⟩ := J8 (n := n + 1) hf.1
  obtain ⟨x1, e1, s1⟩ := oe (n := n + 0) hf.2.1
  obtain ⟨x2, e2, s2⟩ := Hp (n := n + 0) hf.2.2
  refine ⟨⟨x0, x1, x2⟩, ?_, ⟨s1, s2⟩⟩
  rw [<- List.drop_zero (l := row), Zw row 0 1, e0, Zw row 1 1, e1, Zw row 2 1, e2, List.drop_eq_nil_of_le (by omega)]
  rfl
theorem oB {n : Nat} {row : List D} (h : TyR prog (n + 2) 234 row) : ∃ x : ZY, row = ZY.row x /\ Sm maxLen x := by
  rw [TyR, underlying234] at h
  dsimp only at h
  obtain ⟨hl, hf⟩ := h
  simp only [List.mem_cons, List.not_mem_nil, or_false, forall_eq_or_imp, forall_eq, ty3.1.2.1] at hf
  rw [pS.1.2.1] at hl
  obtain ⟨x0, e0, s0⟩ := J8 (n := n + 0) hf.1
  obtain ⟨x1, e1, s1⟩ := J8 (n := n + 0) hf.2.1
  obtain ⟨x2, e2, s2⟩ := J8 (n := n + 0) hf.2.2.1
  obtain ⟨x3, e3, s3⟩ := J8 (n := n + 0) hf.2.2.2.1
  obtain ⟨x4, e4, s4⟩ := J8 (n := n + 0) hf.2.2.2.2.1
  obtain ⟨x5, e5, s5⟩ := J8 (n := n + 0) hf.2.2.2.2.2.1
  obtain ⟨x6, e6, s6⟩ := J8 (n := n + 0) hf.2.2.2.2.2.2.1
  obtain ⟨x7, e7, s7⟩ := J8 (n := n + 0) hf.2.2.2.2.2.2.2.1
  obtain ⟨x8, e8, s8⟩ := J8 (n := n + 0) hf.2.2.2.2.2.2.2.2
  refine ⟨⟨x0, x1, x2, x3, x4, x5, x6, x7, x8⟩, ?_, trivial⟩
  rw [<- List.drop_zero (l := row), Zw row 0 1, e0, Zw row 1 1, e1, Zw row 2 1, e2, Zw row 3 1, e3, Zw row 4 1, e4, Zw row 5 1, e5, Zw row 6 1, e6, Zw row 7 1, e7, Zw row 8 1, e8, List.drop_eq_nil_of_le (by omega)]
  rfl
theorem oE {n : Nat} {row : List D} (h : TyR prog (n + 3) 280 row) : ∃ x : ZO, row = ZO.row x /\ Sm maxLen x := by
  rw [TyR, underlying280] at h
  dsimp only at h
  obtain ⟨hl, hf⟩ := h
  simp only [List.mem_cons, List.not_mem_nil, or_false, forall_eq_or_imp, forall_eq, ty3.1.2.1, rf.1.2.1] at hf
  rw [nN.1.2.1] at hl
  obtain ⟨x0, e0, s0⟩ := J8 (n := n + 1) hf.1
  obtain ⟨x1, e1, s1⟩ := Hp (n := n + 0) hf.2.1
  obtain ⟨x2, e2, s2⟩ := J8 (n := n + 1) hf.2.2
  refine ⟨⟨x0, x1, x2⟩, ?_, s1⟩
  rw [<- List.drop_zero (l := row), Zw row 0 1, e0, Zw row 1 1, e1, Zw row 2 1, e2, List.drop_eq_nil_of_le (by omega)]
  rfl
theorem pX {n : Nat} {row : List D} (h : TyR prog (n + 4) 235 row) : ∃ x : List ZO, row = (slR 3 ZO.row) x /\ Sm maxLen x := by
  rw [TyR, underlying235] at h
  dsimp only at h
  obtain ⟨rows, rfl, hl, hr⟩ := h
  obtain ⟨l, rfl, hs⟩ := zp (f := ZO.row) (n := maxLen) (fun r lp => oE (n := n + 0) (hr r lp).1)
  exact ⟨l, by simp, ⟨by simpa using hl, hs⟩⟩
theorem nr {n : Nat} {row : List D} (h : TyR prog (n + 1) 4 row) : ∃ x : Bool, row = lR x /\ Sm maxLen x := by
  rw [TyR, underlying4] at h
  dsimp only at h
  obtain ⟨b, rfl⟩ := h; exact ⟨b, rfl, trivial⟩
theorem oH {n : Nat} {row : List D} (h : TyR prog (n + 2) 296 row) : ∃ x : Zv, row = Zv.row x /\ Sm maxLen x := by
  rw [TyR, underlying296] at h
  dsimp only at h
  obtain ⟨hl, hf⟩ := h
  simp only [List.mem_cons, List.not_mem_nil, or_false, forall_eq_or_imp, forall_eq, ty3.1.2.1, ty4.1.2.1] at hf
  rw [nK.1.2.1] at hl
  obtain ⟨x0, e0, s0⟩ := J8 (n := n + 0) hf.1
  obtain ⟨x1, e1, s1⟩ := nr (n := n + 0) hf.2
  refine ⟨⟨x0, x1⟩, ?_, trivial⟩
  rw [<- List.drop_zero (l := row), Zw row 0 1, e0, Zw row 1 1, e1, List.drop_eq_nil_of_le (by omega)]
  rfl
theorem oF {n : Nat} {row : List D} (h : TyR prog (n + 3) 282 row) : ∃ x : List Zv, row = (slR 2 Zv.row) x /\ Sm maxLen x := by
  rw [TyR, underlying282] at h
  dsimp only at h
  obtain ⟨rows, rfl, hl, hr⟩ := h
  obtain ⟨l, rfl, hs⟩ := zp (f := Zv.row) (n := maxLen) (fun r lp => oH (n := n + 0) (hr r lp).1)
  exact ⟨l, by simp, ⟨by simpa using hl, hs⟩⟩
theorem oG {n : Nat} {row : List D} (h : TyR prog (n + 2) 298 row) : ∃ x : ZX, row = ZX.row x /\ Sm maxLen x := by
  rw [TyR, underlying298] at h
  dsimp only at h
  obtain ⟨hl, hf⟩ := h
  simp only [List.mem_cons, List.not_mem_nil, or_false, forall_eq_or_imp, forall_eq, ty3.1.2.1] at hf
  rw [nC.1.2.1] at hl
  obtain ⟨x0, e0, s0⟩ := J8 (n := n + 0) hf.1
  obtain ⟨x1, e1, s1⟩ := J8 (n := n + 0) hf.2.1
  obtain ⟨x2, e2, s2⟩ := J8 (n := n + 0) hf.2.2.1
  obtain ⟨x3, e3, s3⟩ := J8 (n := n + 0) hf.2.2.2.1
  obtain ⟨x4, e4, s4⟩ := J8 (n := n + 0) hf.2.2.2.2
  refine ⟨⟨x0, x1, x2, x3, x4⟩, ?_, trivial⟩
  rw [<- List.drop_zero (l := row), Zw row 0 1, e0, Zw row 1 1, e1, Zw row 2 1, e2, Zw row 3 1, e3, Zw row 4 1, e4, List.drop_eq_nil_of_le (by omega)]
  rfl
theorem ph {n : Nat} {row : List D} (h : TyR prog (n + 3) 283 row) : ∃ x : List ZX, row = (slR 5 ZX.row) x /\ Sm maxLen x := by
  rw [TyR, underlying283] at h
  dsimp only at h
  obtain ⟨rows, rfl, hl, hr⟩ := h
  obtain ⟨l, rfl, hs⟩ := zp (f := ZX.row) (n := maxLen) (fun r lp => oG (n := n + 0) (hr r lp).1)
  exact ⟨l, by simp, ⟨by simpa using hl, hs⟩⟩
theorem p8 {n : Nat} {row : List D} (h : TyR prog (n + 4) 285 row) : ∃ x : ZK, row = ZK.row x /\ Sm maxLen x := by
  rw [TyR, underlying285] at h
  dsimp only at h
  obtain ⟨hl, hf⟩ := h
  simp only [List.mem_cons, List.not_mem_nil, or_false, forall_eq_or_imp, forall_eq, ty3.1.2.1, nI.1.2.1, ox.1.2.1] at hf
  rw [oY.1.2.1] at hl
  obtain ⟨x0, e0, s0⟩ := J8 (n := n + 2) hf.1
  obtain ⟨x1, e1, s1⟩ := J8 (n := n + 2) hf.2.1
  obtain ⟨x2, e2, s2⟩ := J8 (n := n + 2) hf.2.2.1
  obtain ⟨x3, e3, s3⟩ := oF (n := n + 0) hf.2.2.2.1
  obtain ⟨x4, e4, s4⟩ := ph (n := n + 0) hf.2.2.2.2
  refine ⟨⟨x0, x1, x2, x3, x4⟩, ?_, ⟨s3, s4⟩⟩
  rw [<- List.drop_zero (l := row), Zw row 0 1, e0, Zw row 1 1, e1, Zw row 2 1, e2, Zw row 3 1, e3, Zw row 4 1, e4, List.drop_eq_nil_of_le (by omega)]
  rfl
theorem oU {n : Nat} {row : List D} (h : TyR prog (n + 5) 236 row) : ∃ x : List ZK, row = (slR 5 ZK.row) x /\ Sm maxLen x := by
  rw [TyR, underlying236] at h
  dsimp only at h
  obtain ⟨rows, rfl, hl, hr⟩ := h
  obtain ⟨l, rfl, hs⟩ := zp (f := ZK.row) (n := maxLen) (fun r lp => p8 (n := n + 0) (hr r lp).1)
  exact ⟨l, by simp, ⟨by simpa using hl, hs⟩⟩
theorem pn {n : Nat} {row : List D} (h : TyR prog (n + 6) 238 row) : ∃ x : Za, row = Za.row x /\ Sm maxLen x := by
  rw [TyR, underlying238] at h
  dsimp only at h
  obtain ⟨hl, hf⟩ := h
  simp only [List.mem_cons, List.not_mem_nil, or_false, forall_eq_or_imp, forall_eq, nX.1.2.1, nB.1.2.1] at hf
  rw [pG.1.2.1] at hl
  obtain ⟨x0, e0, s0⟩ := pX (n := n + 1) hf.1
  obtain ⟨x1, e1, s1⟩ := oU (n := n + 0) hf.2
  refine ⟨⟨x0, x1⟩, ?_, ⟨s0, s1⟩⟩
  rw [<- List.drop_zero (l := row), Zw row 0 1, e0, Zw row 1 1, e1, List.drop_eq_nil_of_le (by omega)]
  rfl
theorem po {n : Nat} {row : List D} (h : TyR prog (n + 7) 240 row) : ∃ x : ZM, row = ZM.row x /\ Sm maxLen x := by
  rw [TyR, underlying240] at h
  dsimp only at h
  obtain ⟨hl, hf⟩ := h
  simp only [List.mem_cons, List.not_mem_nil, or_false, forall_eq_or_imp, forall_eq, ty3.1.2.1, oD.1.2.1, pS.1.2.1, pG.1.2.1] at hf
  rw [ov.1.2.1] at hl
  obtain ⟨x0, e0, s0⟩ := J8 (n := n + 5) hf.1
  obtain ⟨x1, e1, s1⟩ := J8 (n := n + 5) hf.2.1
  obtain ⟨x2, e2, s2⟩ := pB (n := n + 3) hf.2.2.1
  obtain ⟨x3, e3, s3⟩ := oB (n := n + 4) hf.2.2.2.1
  obtain ⟨x4, e4, s4⟩ := pn (n := n + 0) hf.2.2.2.2
  refine ⟨⟨x0, x1, x2, x3, x4⟩, ?_, ⟨s2, s4⟩⟩
  rw [<- List.drop_zero (l := row), Zw row 0 1, e0, Zw row 1 1, e1, Zw row 2 3, e2, Zw row 5 9, e3, Zw row 14 2, e4, List.drop_eq_nil_of_le (by omega)]
  rfl
theorem nG {n : Nat} {row : List D} (h : TyR prog (n + 8) 99 row) : ∃ x : List ZM, row = (slR 16 ZM.row) x /\ Sm maxLen x := by
  rw [TyR, underlying99] at h
  dsimp only at h
  obtain ⟨rows, rfl, hl, hr⟩ := h
  obtain ⟨l, rfl, hs⟩ := zp (f := ZM.row) (n := maxLen) (fun r lp => po (n := n + 0) (hr r lp).1)
  exact ⟨l, by simp, ⟨by simpa using hl, hs⟩⟩
theorem pW {n : Nat} {row : List D} (h : TyR prog (n + 9) 101 row) : ∃ x : ZD, row = ZD.row x /\ Sm maxLen x := by
  rw [TyR, underlying101] at h
  dsimp only at h
  obtain ⟨hl, hf⟩ := h
  simp only [List.mem_cons, List.not_mem_nil, or_false, forall_eq_or_imp, forall_eq, ty3.1.2.1, nn.1.2.1] at hf
  rw [oX.1.2.1] at hl
  obtain ⟨x0, e0, s0⟩ := J8 (n := n + 7) hf.1
  obtain ⟨x1, e1, s1⟩ := nG (n := n + 0) hf.2
  refine ⟨⟨x0, x1⟩, ?_, s1⟩
  rw [<- List.drop_zero (l := row), Zw row 0 1, e0, Zw row 1 1, e1, List.drop_eq_nil_of_le (by omega)]
  rfl
theorem nR {n : Nat} {row : List D} (h : TyR prog (n + 10) 29 row) : ∃ x : List ZD, row = (slR 2 ZD.row) x /\ Sm maxLen x := by
  rw [TyR, underlying29] at h
  dsimp only at h
  obtain ⟨rows, rfl, hl, hr⟩ := h
  obtain ⟨l, rfl, hs⟩ := zp (f := ZD.row) (n := maxLen) (fun r lp => pW (n := n + 0) (hr r lp).1)
  exact ⟨l, by simp, ⟨by simpa using hl, hs⟩⟩
theorem og {n : Nat} {row : List D} (h : TyR prog (n + 11) 31 row) : ∃ x : ZJ, row = ZJ.row x /\ Sm maxLen x := by
  rw [TyR, underlying31] at h
  dsimp only at h
  obtain ⟨hl, hf⟩ := h
  simp only [List.mem_cons, List.not_mem_nil, or_false, forall_eq_or_imp, forall_eq, ty3.1.2.1, oc.1.2.1, mF.1.2.1, rf.1.2.1, np.1.2.1] at hf
  rw [nx.1.2.1] at hl
  obtain ⟨x0, e0, s0⟩ := oq (n := n + 6) hf.1
  obtain ⟨x1, e1, s1⟩ := nU (n := n + 7) hf.2.1
  obtain ⟨x2, e2, s2⟩ := Hp (n := n + 8) hf.2.2.1
  obtain ⟨x3, e3, s3⟩ := nR (n := n + 0) hf.2.2.2.1
  obtain ⟨x4, e4, s4⟩ := Hp (n := n + 8) hf.2.2.2.2.1
  obtain ⟨x5, e5, s5⟩ := Hp (n := n + 8) hf.2.2.2.2.2.1
  obtain ⟨x6, e6, s6⟩ := J8 (n := n + 9) hf.2.2.2.2.2.2.1
  obtain ⟨x7, e7, s7⟩ := Hp (n := n + 8) hf.2.2.2.2.2.2.2
  refine ⟨⟨x0, x1, x2, x3, x4, x5, x6, x7⟩, ?_, ⟨s0, s1, s2, s3, s4, s5, s7⟩⟩
  rw [<- List.drop_zero (l := row), Zw row 0 5, e0, Zw row 5 1, e1, Zw row 6 1, e2, Zw row 7 1, e3, Zw row 8 1, e4, Zw row 9 1, e5, Zw row 10 1, e6, Zw row 11 1, e7, List.drop_eq_nil_of_le (by omega)]
  rfl
theorem nL {n : Nat} {row : List D} (h : TyR prog (n + 4) 36 row) : ∃ x : Yu, row = Yu.row x /\ Sm maxLen x := by
  rw [TyR, underlying36] at h
  dsimp only at h
  obtain ⟨hl, hf⟩ := h
  simp only [List.mem_cons, List.not_mem_nil, or_false, forall_eq_or_imp, forall_eq, ty3.1.2.1, rf.1.2.1, oD.1.2.1] at hf
  rw [mA.1.2.1] at hl
  obtain ⟨x0, e0, s0⟩ := J8 (n := n + 2) hf.1
  obtain ⟨x1, e1, s1⟩ := J8 (n := n + 2) hf.2.1
  obtain ⟨x2, e2, s2⟩ := J8 (n := n + 2) hf.2.2.1
  obtain ⟨x3, e3, s3⟩ := J8 (n := n + 2) hf.2.2.2.1
  obtain ⟨x4, e4, s4⟩ := J8 (n := n + 2) hf.2.2.2.2.1
  obtain ⟨x5, e5, s5⟩ := pB (n := n + 0) hf.2.2.2.2.2.1
  obtain ⟨x6, e6, s6⟩ := Hp (n := n + 1) hf.2.2.2.2.2.2
  refine ⟨⟨x0, x1, x2, x3, x4, x5, x6⟩, ?_, ⟨s5, s6⟩⟩
  rw [<- List.drop_zero (l := row), Zw row 0 1, e0, Zw row 1 1, e1, Zw row 2 1, e2, Zw row 3 1, e3, Zw row 4 1, e4, Zw row 5 3, e5, Zw row 8 1, e6, List.drop_eq_nil_of_le (by omega)]
  rfl
end Go.Proofs.YtdkobknehoecjaaGreat
