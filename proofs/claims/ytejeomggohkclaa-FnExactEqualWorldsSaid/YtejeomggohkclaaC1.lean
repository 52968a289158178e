/- Contracts of the functions over the abstract machine, part 1. No condition. -/
import Derived.Test.YtejeomggohkclaaL
import Derived.Test.YtejeomggohkclaaTy
namespace Go.Proofs.Ytejeomggohkclaa
open Go.Vm Go.Mo
set_option maxHeartbeats 1000000
set_option linter.unusedSimpArgs false
set_option linter.unusedVariables false
theorem mixed : Try.prog.follows .mixedOrders = true := by kernel_rfl
theorem l_szStringS_ok (a0 : List ByteArray) (a1 : Int) : SoundAt Try.prog 72 false [[.sl 1 (a0.map sR)], [.int .i64 a1]] [[.int .i64 (l_szStringS a0 a1)]] := by
  refine sound_of Try.func72 rfl (by kernel_rfl) ?_
  simp [Try.ntmps72]
  refine condB (fun k1 q1 => ?_) (fun k1 q1 => ?_)
  · have h1 : (decide ((W (a1 - (↑a0.length : Int))) < 0)) = true := by simpa using q1
    try simp at q1
    simp
    refine retRd (rv := [.tmp 4]) rfl ?_
    have f1 : l_szStringS a0 a1 = (-1) := by simp only [l_szStringS, h1, cond_true, cond_false]
    simp [f1]
  · have h1 : (decide ((W (a1 - (↑a0.length : Int))) < 0)) = false := by simpa using q1
    try simp at q1
    simp
    refine okL fun k2 => ?_
    refine loopI (ι := { s : Nat × Int × Nat // l_szStringS_1 a0 s.1 s.2.1 s.2.2 = l_szStringS_1 a0 (a0.length + 1) (W (a1 - (↑a0.length : Int))) 0 ∧ (1 ≤ s.1 ∧ a0.length < s.1 + s.2.2) }) (fun s => stOf 28 [(0, .one (.d (.sl 1 (a0.map sR))), []), (1, .one (.d (.int .i64 s.1.2.1)), []), (5, .one (.d (.int .i64 (↑s.1.2.2 : Int))), [])]) (fun s => s.1.1) ⟨((a0.length + 1), (W (a1 - (↑a0.length : Int))), 0), rfl, by first | omega | (dsimp only; omega) | simp⟩ (wk_keep (by simp)) ?_
    rintro ⟨⟨n1, v1_0, v1_1⟩, e1, j1⟩
    try dsimp only at e1 j1
    obtain ⟨p1, rfl⟩ : ∃ p, n1 = p + 1 := ⟨n1 - 1, by omega⟩
    simp
    refine condB (fun k3 q2 => ?_) (fun k3 q2 => ?_)
    · have h2 : (decide ((↑v1_1 : Int) < (↑a0.length : Int))) = true := by simpa using q2
      have i1 : v1_1 < a0.length := by simpa using q2
      have m2 : a0.length ≤ 9223372036854775807 := by simpa using k3 0 _ rfl
      have w1 : IntKind.i64.wrap ((v1_1 : Int) + 1) = (v1_1 : Int) + 1 := wrap_of (by omega) (by omega)
      try simp at q2
      simp [i1, rowAt_map]
      repeat (refine ⟨by intros; omega, ?_⟩)
      refine condB (fun k4 q3 => ?_) (fun k4 q3 => ?_)
      · have h3 : (decide ((W (v1_0 - (↑(nth a0 v1_1).size : Int))) < 0)) = true := by simpa using q3
        try simp at q3
        have x1 : l_szStringS_1 a0 (a0.length + 1) (W (a1 - (↑a0.length : Int))) 0 = .inl (-1) := by rw [← e1]; simp only [l_szStringS_1, h2, h3, cond_true, cond_false]
        simp
        refine retRd (rv := [.tmp 4]) rfl ?_
        have f2 : l_szStringS a0 a1 = (-1) := by simp only [l_szStringS, h1, x1, cond_true, cond_false]
        simp [f2]
      · have h3 : (decide ((W (v1_0 - (↑(nth a0 v1_1).size : Int))) < 0)) = false := by simpa using q3
        try simp at q3
        simp
        refine nxtI ⟨(p1, (W (v1_0 - (↑(nth a0 v1_1).size : Int))), (v1_1 + 1)), ?_, ?_⟩ (by simp) (wk_keep (by simp [w1]))
        · rw [← e1]; simp only [l_szStringS_1, h2, h3, cond_true, cond_false]
        · first | omega | (simp at *; omega)
    · have h2 : (decide ((↑v1_1 : Int) < (↑a0.length : Int))) = false := by simpa using q2
      try simp at q2
      have x2 : l_szStringS_1 a0 (a0.length + 1) (W (a1 - (↑a0.length : Int))) 0 = .inr v1_0 := by rw [← e1]; simp only [l_szStringS_1, h2, cond_true, cond_false]
      simp
      refine retRd (rv := [.tmp 4]) rfl ?_
      have f3 : l_szStringS a0 a1 = v1_0 := by simp only [l_szStringS, h1, x2, cond_true, cond_false]
      simp [f3]
theorem l_szIntS_ok (a0 : List Int) (a1 : Int) : SoundAt Try.prog 70 false [[.sl 1 (a0.map iR)], [.int .i64 a1]] [[.int .i64 (l_szIntS a0 a1)]] := by
  refine sound_of Try.func70 rfl (by kernel_rfl) ?_
  simp [Try.ntmps70]
  refine condB (fun k1 q1 => ?_) (fun k1 q1 => ?_)
  · have h1 : (decide ((W (a1 - (↑a0.length : Int))) < 0)) = true := by simpa using q1
    try simp at q1
    simp
    refine retRd (rv := [.tmp 4]) rfl ?_
    have f1 : l_szIntS a0 a1 = (-1) := by simp only [l_szIntS, h1, cond_true, cond_false]
    simp [f1]
  · have h1 : (decide ((W (a1 - (↑a0.length : Int))) < 0)) = false := by simpa using q1
    try simp at q1
    simp
    refine retRd (rv := [.tmp 4]) rfl ?_
    have f2 : l_szIntS a0 a1 = (W (a1 - (↑a0.length : Int))) := by simp only [l_szIntS, h1, cond_true, cond_false]
    simp [f2]
theorem l_szDocument_ok (a0 : TDocument) (a1 : Int) : SoundAt Try.prog 108 false [a0.row, [.int .i64 a1]] [[.int .i64 (l_szDocument a0 a1)]] := by
  refine sound_of Try.func108 rfl (by kernel_rfl) ?_
  simp [Try.ntmps108]
  refine callRd rfl rfl rfl rfl (l_szStringS_ok a0.Parts a1) (by simp) (by simp) (by simp) ?_
  simp
  refine condB (fun k1 q1 => ?_) (fun k1 q1 => ?_)
  · have h1 : (decide ((l_szStringS a0.Parts a1) < 0)) = true := by simpa using q1
    try simp at q1
    simp
    refine retRd (rv := [.tmp 4]) rfl ?_
    have f1 : l_szDocument a0 a1 = (-1) := by simp only [l_szDocument, h1, cond_true, cond_false]
    simp [f1]
  · have h1 : (decide ((l_szStringS a0.Parts a1) < 0)) = false := by simpa using q1
    try simp at q1
    simp
    refine callRd rfl rfl rfl rfl (l_szIntS_ok a0.Salts (l_szStringS a0.Parts a1)) (by simp) (by simp) (by simp) ?_
    simp
    refine condB (fun k2 q2 => ?_) (fun k2 q2 => ?_)
    · have h2 : (decide ((l_szIntS a0.Salts (l_szStringS a0.Parts a1)) < 0)) = true := by simpa using q2
      try simp at q2
      simp
      refine retRd (rv := [.tmp 4]) rfl ?_
      have f2 : l_szDocument a0 a1 = (-1) := by simp only [l_szDocument, h1, h2, cond_true, cond_false]
      simp [f2]
    · have h2 : (decide ((l_szIntS a0.Salts (l_szStringS a0.Parts a1)) < 0)) = false := by simpa using q2
      try simp at q2
      simp
      refine retRd (rv := [.tmp 4]) rfl ?_
      have f3 : l_szDocument a0 a1 = (l_szIntS a0.Salts (l_szStringS a0.Parts a1)) := by simp only [l_szDocument, h1, h2, cond_true, cond_false]
      simp [f3]
theorem l_szEvent_ok (a0 : TEvent) (a1 : Int) : SoundAt Try.prog 65 false [a0.row, [.int .i64 a1]] [[.int .i64 (l_szEvent a0 a1)]] := by
  refine sound_of Try.func65 rfl (by kernel_rfl) ?_
  simp [Try.ntmps65]
  refine callRd rfl rfl rfl rfl (l_szDocument_ok a0.Doc a1) (by simp) (by simp) (by simp) ?_
  simp
  refine condB (fun k1 q1 => ?_) (fun k1 q1 => ?_)
  · have h1 : (decide ((l_szDocument a0.Doc a1) < 0)) = true := by simpa using q1
    try simp at q1
    simp
    refine retRd (rv := [.tmp 4]) rfl ?_
    have f1 : l_szEvent a0 a1 = (-1) := by simp only [l_szEvent, h1, cond_true, cond_false]
    simp [f1]
  · have h1 : (decide ((l_szDocument a0.Doc a1) < 0)) = false := by simpa using q1
    try simp at q1
    simp
    refine callRd rfl rfl rfl rfl (l_szIntS_ok a0.Ids (l_szDocument a0.Doc a1)) (by simp) (by simp) (by simp) ?_
    simp
    refine condB (fun k2 q2 => ?_) (fun k2 q2 => ?_)
    · have h2 : (decide ((l_szIntS a0.Ids (l_szDocument a0.Doc a1)) < 0)) = true := by simpa using q2
      try simp at q2
      simp
      refine retRd (rv := [.tmp 4]) rfl ?_
      have f2 : l_szEvent a0 a1 = (-1) := by simp only [l_szEvent, h1, h2, cond_true, cond_false]
      simp [f2]
    · have h2 : (decide ((l_szIntS a0.Ids (l_szDocument a0.Doc a1)) < 0)) = false := by simpa using q2
      try simp at q2
      simp
      refine retRd (rv := [.tmp 4]) rfl ?_
      have f3 : l_szEvent a0 a1 = (l_szIntS a0.Ids (l_szDocument a0.Doc a1)) := by simp only [l_szEvent, h1, h2, cond_true, cond_false]
      simp [f3]
theorem l_szEventS_ok (a0 : List TEvent) (a1 : Int) : SoundAt Try.prog 15 false [[.sl 9 (a0.map TEvent.row)], [.int .i64 a1]] [[.int .i64 (l_szEventS a0 a1)]] := by
  refine sound_of Try.func15 rfl (by kernel_rfl) ?_
  simp [Try.ntmps15]
  refine condB (fun k1 q1 => ?_) (fun k1 q1 => ?_)
  · have h1 : (decide ((W (a1 - (↑a0.length : Int))) < 0)) = true := by simpa using q1
    try simp at q1
    simp
    refine retRd (rv := [.tmp 4]) rfl ?_
    have f1 : l_szEventS a0 a1 = (-1) := by simp only [l_szEventS, h1, cond_true, cond_false]
    simp [f1]
  · have h1 : (decide ((W (a1 - (↑a0.length : Int))) < 0)) = false := by simpa using q1
    try simp at q1
    simp
    refine okL fun k2 => ?_
    refine loopI (ι := { s : Nat × Int × Nat // l_szEventS_1 a0 s.1 s.2.1 s.2.2 = l_szEventS_1 a0 (a0.length + 1) (W (a1 - (↑a0.length : Int))) 0 ∧ (1 ≤ s.1 ∧ a0.length < s.1 + s.2.2) }) (fun s => stOf 27 [(0, .one (.d (.sl 9 (a0.map TEvent.row))), []), (1, .one (.d (.int .i64 s.1.2.1)), []), (5, .one (.d (.int .i64 (↑s.1.2.2 : Int))), [])]) (fun s => s.1.1) ⟨((a0.length + 1), (W (a1 - (↑a0.length : Int))), 0), rfl, by first | omega | (dsimp only; omega) | simp⟩ (wk_keep (by simp)) ?_
    rintro ⟨⟨n1, v1_0, v1_1⟩, e1, j1⟩
    try dsimp only at e1 j1
    obtain ⟨p1, rfl⟩ : ∃ p, n1 = p + 1 := ⟨n1 - 1, by omega⟩
    simp
    refine condB (fun k3 q2 => ?_) (fun k3 q2 => ?_)
    · have h2 : (decide ((↑v1_1 : Int) < (↑a0.length : Int))) = true := by simpa using q2
      have i1 : v1_1 < a0.length := by simpa using q2
      have m2 : a0.length ≤ 9223372036854775807 := by simpa using k3 0 _ rfl
      have w1 : IntKind.i64.wrap ((v1_1 : Int) + 1) = (v1_1 : Int) + 1 := wrap_of (by omega) (by omega)
      try simp at q2
      simp [i1, rowAt_map]
      repeat (refine ⟨by intros; omega, ?_⟩)
      refine callRd rfl rfl rfl rfl (l_szEvent_ok (nth a0 v1_1) v1_0) (by simp) (by simp) (by simp) ?_
      simp
      refine condB (fun k4 q3 => ?_) (fun k4 q3 => ?_)
      · have h3 : (decide ((l_szEvent (nth a0 v1_1) v1_0) < 0)) = true := by simpa using q3
        try simp at q3
        have x1 : l_szEventS_1 a0 (a0.length + 1) (W (a1 - (↑a0.length : Int))) 0 = .inl (-1) := by rw [← e1]; simp only [l_szEventS_1, h2, h3, cond_true, cond_false]
        simp
        refine retRd (rv := [.tmp 4]) rfl ?_
        have f2 : l_szEventS a0 a1 = (-1) := by simp only [l_szEventS, h1, x1, cond_true, cond_false]
        simp [f2]
      · have h3 : (decide ((l_szEvent (nth a0 v1_1) v1_0) < 0)) = false := by simpa using q3
        try simp at q3
        simp
        refine nxtI ⟨(p1, (l_szEvent (nth a0 v1_1) v1_0), (v1_1 + 1)), ?_, ?_⟩ (by simp) (wk_keep (by simp [w1]))
        · rw [← e1]; simp only [l_szEventS_1, h2, h3, cond_true, cond_false]
        · first | omega | (simp at *; omega)
    · have h2 : (decide ((↑v1_1 : Int) < (↑a0.length : Int))) = false := by simpa using q2
      try simp at q2
      have x2 : l_szEventS_1 a0 (a0.length + 1) (W (a1 - (↑a0.length : Int))) 0 = .inr v1_0 := by rw [← e1]; simp only [l_szEventS_1, h2, cond_true, cond_false]
      simp
      refine retRd (rv := [.tmp 4]) rfl ?_
      have f3 : l_szEventS a0 a1 = v1_0 := by simp only [l_szEventS, h1, x2, cond_true, cond_false]
      simp [f3]
theorem l_toStringS_ok (a0 : List ByteArray) (u0 : Sm 68719476736 a0) : SoundAt Try.prog 77 true [[.sl 1 (a0.map sR)]] [[.sl 1 ((l_toStringS a0).map sR)]] := by
  refine sound_of Try.func77 rfl (by kernel_rfl) ?_
  have c1 : a0.length ≤ 68719476736 := sm_len (by simp [u0])
  simp [Try.ntmps77]
  repeat (refine ⟨by intros; omega, ?_⟩)
  refine okL fun k1 => ?_
  refine loopI (ι := { s : Nat × Nat × (List ByteArray) // l_toStringS_1 a0 s.1 s.2.1 s.2.2 = l_toStringS_1 a0 (a0.length + 1) 0 (List.replicate a0.length (⟨#[]⟩ : ByteArray)) ∧ (1 ≤ s.1 ∧ a0.length < s.1 + s.2.1 ∧ s.2.2.length = a0.length) }) (fun s => stOf 22 [(0, .one (.d (.sl 1 (a0.map sR))), []), (3, .one (.sref 7 0 0 s.1.2.2.length), []), (4, .one (.d (.int .i64 (↑s.1.2.1 : Int))), []), (7, .any, [.arr 1 (s.1.2.2.map sR)])]) (fun s => s.1.1) ⟨((a0.length + 1), 0, (List.replicate a0.length (⟨#[]⟩ : ByteArray))), rfl, by first | omega | (dsimp only; omega) | simp⟩ (wk_keep (by simp)) ?_
  rintro ⟨⟨n1, v1_0, v1_1⟩, e1, j1⟩
  try dsimp only at e1 j1
  obtain ⟨p1, rfl⟩ : ∃ p, n1 = p + 1 := ⟨n1 - 1, by omega⟩
  simp
  refine condB (fun k2 q1 => ?_) (fun k2 q1 => ?_)
  · have h1 : (decide ((↑v1_0 : Int) < (↑a0.length : Int))) = true := by simpa using q1
    have i1 : v1_0 < a0.length := by simpa using q1
    have m2 : a0.length ≤ 9223372036854775807 := by simpa using k2 0 _ rfl
    have w1 : IntKind.i64.wrap ((v1_0 : Int) + 1) = (v1_0 : Int) + 1 := wrap_of (by omega) (by omega)
    try simp at q1
    have i2 : v1_0 < v1_1.length := by omega
    simp [i1, rowAt_map, i2, set_map (x := (nth a0 v1_0)) rfl]
    repeat (refine ⟨by intros; omega, ?_⟩)
    refine nxtI ⟨(p1, (v1_0 + 1), (v1_1.set v1_0 (nth a0 v1_0))), ?_, ?_⟩ (by simp) (wk_keep (by simp [w1]))
    · rw [← e1]; simp only [l_toStringS_1, h1, cond_true, cond_false]
    · first | omega | (simp at *; omega)
  · have h1 : (decide ((↑v1_0 : Int) < (↑a0.length : Int))) = false := by simpa using q1
    try simp at q1
    have x1 : l_toStringS_1 a0 (a0.length + 1) 0 (List.replicate a0.length (⟨#[]⟩ : ByteArray)) = v1_1 := by rw [← e1]; simp only [l_toStringS_1, h1, cond_true, cond_false]
    simp
    refine retOwn (rv := [.tmp 2]) rfl ?_
    have f1 : l_toStringS a0 = v1_1 := by simp only [l_toStringS, x1, cond_true, cond_false]
    simp [f1]
theorem l_toIntS_ok (a0 : List Int) (u0 : Sm 68719476736 a0) : SoundAt Try.prog 75 true [[.sl 1 (a0.map iR)]] [[.sl 1 ((l_toIntS a0).map iR)]] := by
  refine sound_of Try.func75 rfl (by kernel_rfl) ?_
  have c1 : a0.length ≤ 68719476736 := sm_len (by simp [u0])
  simp [Try.ntmps75]
  repeat (refine ⟨by intros; omega, ?_⟩)
  refine okL fun k1 => ?_
  refine loopI (ι := { s : Nat × Nat × (List Int) // l_toIntS_1 a0 s.1 s.2.1 s.2.2 = l_toIntS_1 a0 (a0.length + 1) 0 (List.replicate a0.length 0) ∧ (1 ≤ s.1 ∧ a0.length < s.1 + s.2.1 ∧ s.2.2.length = a0.length) }) (fun s => stOf 22 [(0, .one (.d (.sl 1 (a0.map iR))), []), (3, .one (.sref 7 0 0 s.1.2.2.length), []), (4, .one (.d (.int .i64 (↑s.1.2.1 : Int))), []), (7, .any, [.arr 1 (s.1.2.2.map iR)])]) (fun s => s.1.1) ⟨((a0.length + 1), 0, (List.replicate a0.length 0)), rfl, by first | omega | (dsimp only; omega) | simp⟩ (wk_keep (by simp)) ?_
  rintro ⟨⟨n1, v1_0, v1_1⟩, e1, j1⟩
  try dsimp only at e1 j1
  obtain ⟨p1, rfl⟩ : ∃ p, n1 = p + 1 := ⟨n1 - 1, by omega⟩
  simp
  refine condB (fun k2 q1 => ?_) (fun k2 q1 => ?_)
  · have h1 : (decide ((↑v1_0 : Int) < (↑a0.length : Int))) = true := by simpa using q1
    have i1 : v1_0 < a0.length := by simpa using q1
    have m2 : a0.length ≤ 9223372036854775807 := by simpa using k2 0 _ rfl
    have w1 : IntKind.i64.wrap ((v1_0 : Int) + 1) = (v1_0 : Int) + 1 := wrap_of (by omega) (by omega)
    try simp at q1
    have i2 : v1_0 < v1_1.length := by omega
    simp [i1, rowAt_map, i2, set_map (x := (nth a0 v1_0)) rfl]
    repeat (refine ⟨by intros; omega, ?_⟩)
    refine nxtI ⟨(p1, (v1_0 + 1), (v1_1.set v1_0 (nth a0 v1_0))), ?_, ?_⟩ (by simp) (wk_keep (by simp [w1]))
    · rw [← e1]; simp only [l_toIntS_1, h1, cond_true, cond_false]
    · first | omega | (simp at *; omega)
  · have h1 : (decide ((↑v1_0 : Int) < (↑a0.length : Int))) = false := by simpa using q1
    try simp at q1
    have x1 : l_toIntS_1 a0 (a0.length + 1) 0 (List.replicate a0.length 0) = v1_1 := by rw [← e1]; simp only [l_toIntS_1, h1, cond_true, cond_false]
    simp
    refine retOwn (rv := [.tmp 2]) rfl ?_
    have f1 : l_toIntS a0 = v1_1 := by simp only [l_toIntS, x1, cond_true, cond_false]
    simp [f1]
theorem l_toDocument_ok (a0 : TDocument) (u0 : Sm 68719476736 a0) : SoundAt Try.prog 110 true [a0.row] [(l_toDocument a0).row] := by
  refine sound_of Try.func110 rfl (by kernel_rfl) ?_
  simp [Try.ntmps110]
  refine callOwn rfl rfl rfl rfl (l_toStringS_ok a0.Parts (by simp [u0])) (by simp) (by simp) (by simp) (by simp) ?_
  simp
  refine callOwn rfl rfl rfl rfl (l_toIntS_ok a0.Salts (by simp [u0])) (by simp) (by simp) (by simp) (by simp) ?_
  simp
  refine retOwn (rv := [.cell 2 88]) rfl ?_
  have f1 : l_toDocument a0 = (TDocument.mk a0.Title (l_toStringS a0.Parts) (l_toIntS a0.Salts)) := by simp only [l_toDocument, cond_true, cond_false]
  simp [f1]
theorem l_toEvent_ok (a0 : TEvent) (u0 : Sm 68719476736 a0) : SoundAt Try.prog 67 true [a0.row] [(l_toEvent a0).row] := by
  refine sound_of Try.func67 rfl (by kernel_rfl) ?_
  simp [Try.ntmps67]
  refine callOwn rfl rfl rfl rfl (l_toDocument_ok a0.Doc (by simp [u0])) (by simp) (by simp) (by simp) (by simp) ?_
  simp
  refine callOwn rfl rfl rfl rfl (l_toIntS_ok a0.Ids (by simp [u0])) (by simp) (by simp) (by simp) (by simp) ?_
  simp
  refine retOwn (rv := [.cell 2 125]) rfl ?_
  have f1 : l_toEvent a0 = (TEvent.mk a0.Kind a0.A a0.B a0.C a0.D (TDocument.mk (l_toDocument a0.Doc).Title (l_toDocument a0.Doc).Parts (l_toDocument a0.Doc).Salts) (l_toIntS a0.Ids)) := by simp only [l_toEvent, cond_true, cond_false]
  simp [f1]
theorem l_toEventS_ok (a0 : List TEvent) (u0 : Sm 68719476736 a0) : SoundAt Try.prog 17 true [[.sl 9 (a0.map TEvent.row)]] [[.sl 9 ((l_toEventS a0).map TEvent.row)]] := by
  refine sound_of Try.func17 rfl (by kernel_rfl) ?_
  have c1 : a0.length ≤ 68719476736 := sm_len (by simp [u0])
  simp [Try.ntmps17]
  repeat (refine ⟨by intros; omega, ?_⟩)
  refine okL fun k1 => ?_
  refine loopI (ι := { s : Nat × Nat × (List TEvent) // l_toEventS_1 a0 s.1 s.2.1 s.2.2 = l_toEventS_1 a0 (a0.length + 1) 0 (List.replicate a0.length (TEvent.mk 0 0 0 0 0 (TDocument.mk 0 ([] : List ByteArray) ([] : List Int)) ([] : List Int))) ∧ (1 ≤ s.1 ∧ a0.length < s.1 + s.2.1 ∧ s.2.2.length = a0.length) }) (fun s => stOf 23 [(0, .one (.d (.sl 9 (a0.map TEvent.row))), []), (3, .one (.sref 7 0 0 s.1.2.2.length), []), (4, .one (.d (.int .i64 (↑s.1.2.1 : Int))), []), (7, .any, [.arr 9 (s.1.2.2.map TEvent.row)])]) (fun s => s.1.1) ⟨((a0.length + 1), 0, (List.replicate a0.length (TEvent.mk 0 0 0 0 0 (TDocument.mk 0 ([] : List ByteArray) ([] : List Int)) ([] : List Int)))), rfl, by first | omega | (dsimp only; omega) | simp⟩ (wk_keep (by simp)) ?_
  rintro ⟨⟨n1, v1_0, v1_1⟩, e1, j1⟩
  try dsimp only at e1 j1
  obtain ⟨p1, rfl⟩ : ∃ p, n1 = p + 1 := ⟨n1 - 1, by omega⟩
  simp
  refine condB (fun k2 q1 => ?_) (fun k2 q1 => ?_)
  · have h1 : (decide ((↑v1_0 : Int) < (↑a0.length : Int))) = true := by simpa using q1
    have i1 : v1_0 < a0.length := by simpa using q1
    have m2 : a0.length ≤ 9223372036854775807 := by simpa using k2 0 _ rfl
    have w1 : IntKind.i64.wrap ((v1_0 : Int) + 1) = (v1_0 : Int) + 1 := wrap_of (by omega) (by omega)
    try simp at q1
    simp [i1, rowAt_map]
    repeat (refine ⟨by intros; omega, ?_⟩)
    refine callRd rfl rfl rfl rfl (l_toEvent_ok (nth a0 v1_0) (by simp [u0])) (by simp) (by simp) (by simp) ?_
    have i2 : v1_0 < v1_1.length := by omega
    simp [i2, rowAt_map, set_map (x := (l_toEvent (nth a0 v1_0))) rfl]
    repeat (refine ⟨by intros; omega, ?_⟩)
    refine nxtI ⟨(p1, (v1_0 + 1), (v1_1.set v1_0 (l_toEvent (nth a0 v1_0)))), ?_, ?_⟩ (by simp) (wk_keep (by simp [w1]))
    · rw [← e1]; simp only [l_toEventS_1, h1, cond_true, cond_false]
    · first | omega | (simp at *; omega)
  · have h1 : (decide ((↑v1_0 : Int) < (↑a0.length : Int))) = false := by simpa using q1
    try simp at q1
    have x1 : l_toEventS_1 a0 (a0.length + 1) 0 (List.replicate a0.length (TEvent.mk 0 0 0 0 0 (TDocument.mk 0 ([] : List ByteArray) ([] : List Int)) ([] : List Int))) = v1_1 := by rw [← e1]; simp only [l_toEventS_1, h1, cond_true, cond_false]
    simp
    refine retOwn (rv := [.tmp 2]) rfl ?_
    have f1 : l_toEventS a0 = v1_1 := by simp only [l_toEventS, x1, cond_true, cond_false]
    simp [f1]
theorem s_l1In_ok (a0 : Int) (a1 : Int) (a2 : Int) : SoundAt Try.prog 66 false [[.int .i64 a0], [.int .i64 a1], [.int .i64 a2]] [[.bool (s_l1In a0 a1 a2)]] := by
  refine sound_of Try.func66 rfl (by kernel_rfl) ?_
  simp [Try.ntmps66]
  refine retRd (rv := [.tmp 6]) rfl ?_
  have f1 : s_l1In a0 a1 a2 = ((decide (a0 ≥ a1)) && (decide (a0 ≤ a2))) := by simp only [s_l1In, cond_true, cond_false]
  simp [f1]
theorem s_IsHonest_ok (a0 : List TEvent) : SoundAt Try.prog 16 false [[.sl 9 (a0.map TEvent.row)]] [[.bool (s_IsHonest a0)]] := by
  refine sound_of Try.func16 rfl (by kernel_rfl) ?_
  simp [Try.ntmps16]
  refine okL fun k1 => ?_
  refine loopI (ι := { s : Nat × Nat // s_IsHonest_1 a0 s.1 s.2 = s_IsHonest_1 a0 (a0.length + 1) 0 ∧ (1 ≤ s.1 ∧ a0.length < s.1 + s.2) }) (fun s => stOf 16 [(0, .one (.d (.sl 9 (a0.map TEvent.row))), []), (3, .one (.d (.int .i64 (↑s.1.2 : Int))), [])]) (fun s => s.1.1) ⟨((a0.length + 1), 0), rfl, by first | omega | (dsimp only; omega) | simp⟩ (wk_keep (by simp)) ?_
  rintro ⟨⟨n1, v1_0⟩, e1, j1⟩
  try dsimp only at e1 j1
  obtain ⟨p1, rfl⟩ : ∃ p, n1 = p + 1 := ⟨n1 - 1, by omega⟩
  simp
  refine condB (fun k2 q1 => ?_) (fun k2 q1 => ?_)
  · have h1 : (decide ((↑v1_0 : Int) < (↑a0.length : Int))) = true := by simpa using q1
    have i1 : v1_0 < a0.length := by simpa using q1
    have m2 : a0.length ≤ 9223372036854775807 := by simpa using k2 0 _ rfl
    have w1 : IntKind.i64.wrap ((v1_0 : Int) + 1) = (v1_0 : Int) + 1 := wrap_of (by omega) (by omega)
    try simp at q1
    simp [i1, rowAt_map]
    repeat (refine ⟨by intros; omega, ?_⟩)
    refine callRd rfl rfl rfl rfl (s_l1In_ok (nth a0 v1_0).Kind 8 10) (by simp) (by simp) (by simp) ?_
    simp
    refine condB (fun k3 q2 => ?_) (fun k3 q2 => ?_)
    · have h2 : (s_l1In (nth a0 v1_0).Kind 8 10) = true := by simpa using q2
      try simp at q2
      have x1 : s_IsHonest_1 a0 (a0.length + 1) 0 = .inl false := by rw [← e1]; simp only [s_IsHonest_1, h1, h2, cond_true, cond_false]
      simp
      refine retRd (rv := [.tmp 2]) rfl ?_
      have f1 : s_IsHonest a0 = false := by simp only [s_IsHonest, x1, cond_true, cond_false]
      simp [f1]
    · have h2 : (s_l1In (nth a0 v1_0).Kind 8 10) = false := by simpa using q2
      try simp at q2
      simp
      refine nxtI ⟨(p1, (v1_0 + 1)), ?_, ?_⟩ (by simp) (wk_keep (by simp [w1]))
      · rw [← e1]; simp only [s_IsHonest_1, h1, h2, cond_true, cond_false]
      · first | omega | (simp at *; omega)
  · have h1 : (decide ((↑v1_0 : Int) < (↑a0.length : Int))) = false := by simpa using q1
    try simp at q1
    have x2 : s_IsHonest_1 a0 (a0.length + 1) 0 = .inr () := by rw [← e1]; simp only [s_IsHonest_1, h1, cond_true, cond_false]
    simp
    refine retRd (rv := [.tmp 2]) rfl ?_
    have f2 : s_IsHonest a0 = true := by simp only [s_IsHonest, x2, cond_true, cond_false]
    simp [f2]
theorem i_InRange_ok (a0 : Int) (a1 : Int) (a2 : Int) : SoundAt Try.prog 68 false [[.int .i64 a0], [.int .i64 a1], [.int .i64 a2]] [[.bool (i_InRange a0 a1 a2)]] := by
  refine sound_of Try.func68 rfl (by kernel_rfl) ?_
  simp [Try.ntmps68]
  refine retRd (rv := [.tmp 6]) rfl ?_
  have f1 : i_InRange a0 a1 a2 = ((decide (a1 ≤ a0)) && (decide (a0 ≤ a2))) := by simp only [i_InRange, cond_true, cond_false]
  simp [f1]
theorem i_IsHonest_ok (a0 : List TEvent) : SoundAt Try.prog 18 false [[.sl 9 (a0.map TEvent.row)]] [[.bool (i_IsHonest a0)]] := by
  refine sound_of Try.func18 rfl (by kernel_rfl) ?_
  simp [Try.ntmps18]
  refine okL fun k1 => ?_
  refine loopI (ι := { s : Nat × Nat // i_IsHonest_1 a0 s.1 s.2 = i_IsHonest_1 a0 (a0.length + 1) 0 ∧ (1 ≤ s.1 ∧ a0.length < s.1 + s.2) }) (fun s => stOf 15 [(5, .one (.d (.sl 9 (a0.map TEvent.row))), []), (6, .one (.d (.int .i64 (↑a0.length : Int))), []), (7, .one (.d (.int .i64 (↑s.1.2 : Int))), [])]) (fun s => s.1.1) ⟨((a0.length + 1), 0), rfl, by first | omega | (dsimp only; omega) | simp⟩ (wk_keep (by simp)) ?_
  rintro ⟨⟨n1, v1_0⟩, e1, j1⟩
  try dsimp only at e1 j1
  obtain ⟨p1, rfl⟩ : ∃ p, n1 = p + 1 := ⟨n1 - 1, by omega⟩
  simp
  refine condB (fun k2 q1 => ?_) (fun k2 q1 => ?_)
  · have h1 : (decide ((↑v1_0 : Int) < (↑a0.length : Int))) = true := by simpa using q1
    have i1 : v1_0 < a0.length := by simpa using q1
    have m2 : a0.length ≤ 9223372036854775807 := by simpa using k2 5 _ rfl
    have w1 : IntKind.i64.wrap ((v1_0 : Int) + 1) = (v1_0 : Int) + 1 := wrap_of (by omega) (by omega)
    try simp at q1
    simp [i1, rowAt_map]
    repeat (refine ⟨by intros; omega, ?_⟩)
    refine callRd rfl rfl rfl rfl (i_InRange_ok (nth a0 v1_0).Kind 8 10) (by simp) (by simp) (by simp) ?_
    simp
    refine condB (fun k3 q2 => ?_) (fun k3 q2 => ?_)
    · have h2 : (i_InRange (nth a0 v1_0).Kind 8 10) = true := by simpa using q2
      try simp at q2
      have x1 : i_IsHonest_1 a0 (a0.length + 1) 0 = .inl false := by rw [← e1]; simp only [i_IsHonest_1, h1, h2, cond_true, cond_false]
      simp
      refine retRd (rv := [.tmp 2]) rfl ?_
      have f1 : i_IsHonest a0 = false := by simp only [i_IsHonest, x1, cond_true, cond_false]
      simp [f1]
    · have h2 : (i_InRange (nth a0 v1_0).Kind 8 10) = false := by simpa using q2
      try simp at q2
      simp
      refine nxtI ⟨(p1, (v1_0 + 1)), ?_, ?_⟩ (by simp) (wk_keep (by simp [w1]))
      · rw [← e1]; simp only [i_IsHonest_1, h1, h2, cond_true, cond_false]
      · first | omega | (simp at *; omega)
  · have h1 : (decide ((↑v1_0 : Int) < (↑a0.length : Int))) = false := by simpa using q1
    try simp at q1
    have x2 : i_IsHonest_1 a0 (a0.length + 1) 0 = .inr () := by rw [← e1]; simp only [i_IsHonest_1, h1, cond_true, cond_false]
    simp
    refine retRd (rv := [.tmp 2]) rfl ?_
    have f2 : i_IsHonest a0 = true := by simp only [i_IsHonest, x2, cond_true, cond_false]
    simp [f2]
theorem l_eqStringS_ok (a0 : List ByteArray) (a1 : List ByteArray) : SoundAt Try.prog 81 false [[.sl 1 (a0.map sR)], [.sl 1 (a1.map sR)]] [[.bool (l_eqStringS a0 a1)]] := by
  refine sound_of Try.func81 rfl (by kernel_rfl) ?_
  simp [Try.ntmps81]
  refine condB (fun k1 q1 => ?_) (fun k1 q1 => ?_)
  · have h1 : ((↑a0.length : Int) != (↑a1.length : Int)) = true := by simpa using q1
    try simp at q1
    simp
    refine retRd (rv := [.tmp 4]) rfl ?_
    have f1 : l_eqStringS a0 a1 = false := by simp only [l_eqStringS, h1, cond_true, cond_false]
    simp [f1]
  · have h1 : ((↑a0.length : Int) != (↑a1.length : Int)) = false := by simpa using q1
    try simp at q1
    simp
    refine okL fun k2 => ?_
    refine loopI (ι := { s : Nat × Nat // l_eqStringS_1 a0 a1 s.1 s.2 = l_eqStringS_1 a0 a1 (a0.length + 1) 0 ∧ (1 ≤ s.1 ∧ a0.length < s.1 + s.2) }) (fun s => stOf 26 [(0, .one (.d (.sl 1 (a0.map sR))), []), (1, .one (.d (.sl 1 (a1.map sR))), []), (5, .one (.d (.int .i64 (↑s.1.2 : Int))), [])]) (fun s => s.1.1) ⟨((a0.length + 1), 0), rfl, by first | omega | (dsimp only; omega) | simp⟩ (wk_keep (by simp)) ?_
    rintro ⟨⟨n1, v1_0⟩, e1, j1⟩
    try dsimp only at e1 j1
    obtain ⟨p1, rfl⟩ : ∃ p, n1 = p + 1 := ⟨n1 - 1, by omega⟩
    simp
    refine condB (fun k3 q2 => ?_) (fun k3 q2 => ?_)
    · have h2 : (decide ((↑v1_0 : Int) < (↑a0.length : Int))) = true := by simpa using q2
      have i1 : v1_0 < a0.length := by simpa using q2
      have m2 : a0.length ≤ 9223372036854775807 := by simpa using k3 0 _ rfl
      have w1 : IntKind.i64.wrap ((v1_0 : Int) + 1) = (v1_0 : Int) + 1 := wrap_of (by omega) (by omega)
      try simp at q2
      simp
      refine okD fun k4 => ?_
      refine drawI mixed (by kernel_rfl) (by kernel_rfl) ?_
      have i2 : v1_0 < a1.length := by omega
      simp [i1, rowAt_map, i2]
      repeat (refine ⟨by intros; omega, ?_⟩)
      refine condB (fun k5 q3 => ?_) (fun k5 q3 => ?_)
      · have h3 : (!decide ((nth a0 v1_0) = (nth a1 v1_0))) = true := by simpa using q3
        try simp at q3
        have x1 : l_eqStringS_1 a0 a1 (a0.length + 1) 0 = .inl false := by rw [← e1]; simp only [l_eqStringS_1, h2, h3, cond_true, cond_false]
        simp
        refine retRd (rv := [.tmp 4]) rfl ?_
        have f2 : l_eqStringS a0 a1 = false := by simp only [l_eqStringS, h1, x1, cond_true, cond_false]
        simp [f2]
      · have h3 : (!decide ((nth a0 v1_0) = (nth a1 v1_0))) = false := by simpa using q3
        try simp at q3
        simp
        refine nxtI ⟨(p1, (v1_0 + 1)), ?_, ?_⟩ (by simp) (wk_keep (by simp [w1]))
        · rw [← e1]; simp only [l_eqStringS_1, h2, h3, cond_true, cond_false]
        · first | omega | (simp at *; omega)
    · have h2 : (decide ((↑v1_0 : Int) < (↑a0.length : Int))) = false := by simpa using q2
      try simp at q2
      have x2 : l_eqStringS_1 a0 a1 (a0.length + 1) 0 = .inr () := by rw [← e1]; simp only [l_eqStringS_1, h2, cond_true, cond_false]
      simp
      refine retRd (rv := [.tmp 4]) rfl ?_
      have f3 : l_eqStringS a0 a1 = true := by simp only [l_eqStringS, h1, x2, cond_true, cond_false]
      simp [f3]
theorem l_eqIntS_ok (a0 : List Int) (a1 : List Int) : SoundAt Try.prog 58 false [[.sl 1 (a0.map iR)], [.sl 1 (a1.map iR)]] [[.bool (l_eqIntS a0 a1)]] := by
  refine sound_of Try.func58 rfl (by kernel_rfl) ?_
  simp [Try.ntmps58]
  refine condB (fun k1 q1 => ?_) (fun k1 q1 => ?_)
  · have h1 : ((↑a0.length : Int) != (↑a1.length : Int)) = true := by simpa using q1
    try simp at q1
    simp
    refine retRd (rv := [.tmp 4]) rfl ?_
    have f1 : l_eqIntS a0 a1 = false := by simp only [l_eqIntS, h1, cond_true, cond_false]
    simp [f1]
  · have h1 : ((↑a0.length : Int) != (↑a1.length : Int)) = false := by simpa using q1
    try simp at q1
    simp
    refine okL fun k2 => ?_
    refine loopI (ι := { s : Nat × Nat // l_eqIntS_1 a0 a1 s.1 s.2 = l_eqIntS_1 a0 a1 (a0.length + 1) 0 ∧ (1 ≤ s.1 ∧ a0.length < s.1 + s.2) }) (fun s => stOf 26 [(0, .one (.d (.sl 1 (a0.map iR))), []), (1, .one (.d (.sl 1 (a1.map iR))), []), (5, .one (.d (.int .i64 (↑s.1.2 : Int))), [])]) (fun s => s.1.1) ⟨((a0.length + 1), 0), rfl, by first | omega | (dsimp only; omega) | simp⟩ (wk_keep (by simp)) ?_
    rintro ⟨⟨n1, v1_0⟩, e1, j1⟩
    try dsimp only at e1 j1
    obtain ⟨p1, rfl⟩ : ∃ p, n1 = p + 1 := ⟨n1 - 1, by omega⟩
    simp
    refine condB (fun k3 q2 => ?_) (fun k3 q2 => ?_)
    · have h2 : (decide ((↑v1_0 : Int) < (↑a0.length : Int))) = true := by simpa using q2
      have i1 : v1_0 < a0.length := by simpa using q2
      have m2 : a0.length ≤ 9223372036854775807 := by simpa using k3 0 _ rfl
      have w1 : IntKind.i64.wrap ((v1_0 : Int) + 1) = (v1_0 : Int) + 1 := wrap_of (by omega) (by omega)
      try simp at q2
      simp
      refine okD fun k4 => ?_
      refine drawI mixed (by kernel_rfl) (by kernel_rfl) ?_
      have i2 : v1_0 < a1.length := by omega
      simp [i1, rowAt_map, i2]
      repeat (refine ⟨by intros; omega, ?_⟩)
      refine condB (fun k5 q3 => ?_) (fun k5 q3 => ?_)
      · have h3 : ((nth a0 v1_0) != (nth a1 v1_0)) = true := by simpa using q3
        try simp at q3
        have x1 : l_eqIntS_1 a0 a1 (a0.length + 1) 0 = .inl false := by rw [← e1]; simp only [l_eqIntS_1, h2, h3, cond_true, cond_false]
        simp
        refine retRd (rv := [.tmp 4]) rfl ?_
        have f2 : l_eqIntS a0 a1 = false := by simp only [l_eqIntS, h1, x1, cond_true, cond_false]
        simp [f2]
      · have h3 : ((nth a0 v1_0) != (nth a1 v1_0)) = false := by simpa using q3
        try simp at q3
        simp
        refine nxtI ⟨(p1, (v1_0 + 1)), ?_, ?_⟩ (by simp) (wk_keep (by simp [w1]))
        · rw [← e1]; simp only [l_eqIntS_1, h2, h3, cond_true, cond_false]
        · first | omega | (simp at *; omega)
    · have h2 : (decide ((↑v1_0 : Int) < (↑a0.length : Int))) = false := by simpa using q2
      try simp at q2
      have x2 : l_eqIntS_1 a0 a1 (a0.length + 1) 0 = .inr () := by rw [← e1]; simp only [l_eqIntS_1, h2, cond_true, cond_false]
      simp
      refine retRd (rv := [.tmp 4]) rfl ?_
      have f3 : l_eqIntS a0 a1 = true := by simp only [l_eqIntS, h1, x2, cond_true, cond_false]
      simp [f3]
theorem l_eqDocument_ok (a0 : TDocument) (a1 : TDocument) : SoundAt Try.prog 114 false [a0.row, a1.row] [[.bool (l_eqDocument a0 a1)]] := by
  refine sound_of Try.func114 rfl (by kernel_rfl) ?_
  simp [Try.ntmps114]
  refine condB (fun k1 q1 => ?_) (fun k1 q1 => ?_)
  · have h1 : (a0.Title != a1.Title) = true := by simpa using q1
    try simp at q1
    simp
    refine retRd (rv := [.tmp 4]) rfl ?_
    have f1 : l_eqDocument a0 a1 = false := by simp only [l_eqDocument, h1, cond_true, cond_false]
    simp [f1]
  · have h1 : (a0.Title != a1.Title) = false := by simpa using q1
    try simp at q1
    simp
    refine callRd rfl rfl rfl rfl (l_eqStringS_ok a0.Parts a1.Parts) (by simp) (by simp) (by simp) ?_
    simp
    refine condB (fun k2 q2 => ?_) (fun k2 q2 => ?_)
    · have h2 : (!(l_eqStringS a0.Parts a1.Parts)) = true := by simpa using q2
      try simp at q2
      simp
      refine retRd (rv := [.tmp 4]) rfl ?_
      have f2 : l_eqDocument a0 a1 = false := by simp only [l_eqDocument, h1, h2, cond_true, cond_false]
      simp [f2]
    · have h2 : (!(l_eqStringS a0.Parts a1.Parts)) = false := by simpa using q2
      try simp at q2
      simp
      refine callRd rfl rfl rfl rfl (l_eqIntS_ok a0.Salts a1.Salts) (by simp) (by simp) (by simp) ?_
      simp
      refine condB (fun k3 q3 => ?_) (fun k3 q3 => ?_)
      · have h3 : (!(l_eqIntS a0.Salts a1.Salts)) = true := by simpa using q3
        try simp at q3
        simp
        refine retRd (rv := [.tmp 4]) rfl ?_
        have f3 : l_eqDocument a0 a1 = false := by simp only [l_eqDocument, h1, h2, h3, cond_true, cond_false]
        simp [f3]
      · have h3 : (!(l_eqIntS a0.Salts a1.Salts)) = false := by simpa using q3
        try simp at q3
        simp
        refine retRd (rv := [.tmp 4]) rfl ?_
        have f4 : l_eqDocument a0 a1 = true := by simp only [l_eqDocument, h1, h2, h3, cond_true, cond_false]
        simp [f4]
theorem l_eqEvent_ok (a0 : TEvent) (a1 : TEvent) : SoundAt Try.prog 69 false [a0.row, a1.row] [[.bool (l_eqEvent a0 a1)]] := by
  refine sound_of Try.func69 rfl (by kernel_rfl) ?_
  simp [Try.ntmps69]
  refine condB (fun k1 q1 => ?_) (fun k1 q1 => ?_)
  · have h1 : (a0.Kind != a1.Kind) = true := by simpa using q1
    try simp at q1
    simp
    refine retRd (rv := [.tmp 4]) rfl ?_
    have f1 : l_eqEvent a0 a1 = false := by simp only [l_eqEvent, h1, cond_true, cond_false]
    simp [f1]
  · have h1 : (a0.Kind != a1.Kind) = false := by simpa using q1
    try simp at q1
    simp
    refine condB (fun k2 q2 => ?_) (fun k2 q2 => ?_)
    · have h2 : (a0.A != a1.A) = true := by simpa using q2
      try simp at q2
      simp
      refine retRd (rv := [.tmp 4]) rfl ?_
      have f2 : l_eqEvent a0 a1 = false := by simp only [l_eqEvent, h1, h2, cond_true, cond_false]
      simp [f2]
    · have h2 : (a0.A != a1.A) = false := by simpa using q2
      try simp at q2
      simp
      refine condB (fun k3 q3 => ?_) (fun k3 q3 => ?_)
      · have h3 : (a0.B != a1.B) = true := by simpa using q3
        try simp at q3
        simp
        refine retRd (rv := [.tmp 4]) rfl ?_
        have f3 : l_eqEvent a0 a1 = false := by simp only [l_eqEvent, h1, h2, h3, cond_true, cond_false]
        simp [f3]
      · have h3 : (a0.B != a1.B) = false := by simpa using q3
        try simp at q3
        simp
        refine condB (fun k4 q4 => ?_) (fun k4 q4 => ?_)
        · have h4 : (a0.C != a1.C) = true := by simpa using q4
          try simp at q4
          simp
          refine retRd (rv := [.tmp 4]) rfl ?_
          have f4 : l_eqEvent a0 a1 = false := by simp only [l_eqEvent, h1, h2, h3, h4, cond_true, cond_false]
          simp [f4]
        · have h4 : (a0.C != a1.C) = false := by simpa using q4
          try simp at q4
          simp
          refine condB (fun k5 q5 => ?_) (fun k5 q5 => ?_)
          · have h5 : (a0.D != a1.D) = true := by simpa using q5
            try simp at q5
            simp
            refine retRd (rv := [.tmp 4]) rfl ?_
            have f5 : l_eqEvent a0 a1 = false := by simp only [l_eqEvent, h1, h2, h3, h4, h5, cond_true, cond_false]
            simp [f5]
          · have h5 : (a0.D != a1.D) = false := by simpa using q5
            try simp at q5
            simp
            refine callRd rfl rfl rfl rfl (l_eqDocument_ok a0.Doc a1.Doc) (by simp) (by simp) (by simp) ?_
            simp
            refine condB (fun k6 q6 => ?_) (fun k6 q6 => ?_)
            · have h6 : (!(l_eqDocument a0.Doc a1.Doc)) = true := by simpa using q6
              try simp at q6
              simp
              refine retRd (rv := [.tmp 4]) rfl ?_
              have f6 : l_eqEvent a0 a1 = false := by simp only [l_eqEvent, h1, h2, h3, h4, h5, h6, cond_true, cond_false]
              simp [f6]
            · have h6 : (!(l_eqDocument a0.Doc a1.Doc)) = false := by simpa using q6
              try simp at q6
              simp
              refine callRd rfl rfl rfl rfl (l_eqIntS_ok a0.Ids a1.Ids) (by simp) (by simp) (by simp) ?_
              simp
              refine condB (fun k7 q7 => ?_) (fun k7 q7 => ?_)
              · have h7 : (!(l_eqIntS a0.Ids a1.Ids)) = true := by simpa using q7
                try simp at q7
                simp
                refine retRd (rv := [.tmp 4]) rfl ?_
                have f7 : l_eqEvent a0 a1 = false := by simp only [l_eqEvent, h1, h2, h3, h4, h5, h6, h7, cond_true, cond_false]
                simp [f7]
              · have h7 : (!(l_eqIntS a0.Ids a1.Ids)) = false := by simpa using q7
                try simp at q7
                simp
                refine retRd (rv := [.tmp 4]) rfl ?_
                have f8 : l_eqEvent a0 a1 = true := by simp only [l_eqEvent, h1, h2, h3, h4, h5, h6, h7, cond_true, cond_false]
                simp [f8]
theorem l_eqEventS_ok (a0 : List TEvent) (a1 : List TEvent) : SoundAt Try.prog 19 false [[.sl 9 (a0.map TEvent.row)], [.sl 9 (a1.map TEvent.row)]] [[.bool (l_eqEventS a0 a1)]] := by
  refine sound_of Try.func19 rfl (by kernel_rfl) ?_
  simp [Try.ntmps19]
  refine condB (fun k1 q1 => ?_) (fun k1 q1 => ?_)
  · have h1 : ((↑a0.length : Int) != (↑a1.length : Int)) = true := by simpa using q1
    try simp at q1
    simp
    refine retRd (rv := [.tmp 4]) rfl ?_
    have f1 : l_eqEventS a0 a1 = false := by simp only [l_eqEventS, h1, cond_true, cond_false]
    simp [f1]
  · have h1 : ((↑a0.length : Int) != (↑a1.length : Int)) = false := by simpa using q1
    try simp at q1
    simp
    refine okL fun k2 => ?_
    refine loopI (ι := { s : Nat × Nat // l_eqEventS_1 a0 a1 s.1 s.2 = l_eqEventS_1 a0 a1 (a0.length + 1) 0 ∧ (1 ≤ s.1 ∧ a0.length < s.1 + s.2) }) (fun s => stOf 27 [(0, .one (.d (.sl 9 (a0.map TEvent.row))), []), (1, .one (.d (.sl 9 (a1.map TEvent.row))), []), (5, .one (.d (.int .i64 (↑s.1.2 : Int))), [])]) (fun s => s.1.1) ⟨((a0.length + 1), 0), rfl, by first | omega | (dsimp only; omega) | simp⟩ (wk_keep (by simp)) ?_
    rintro ⟨⟨n1, v1_0⟩, e1, j1⟩
    try dsimp only at e1 j1
    obtain ⟨p1, rfl⟩ : ∃ p, n1 = p + 1 := ⟨n1 - 1, by omega⟩
    simp
    refine condB (fun k3 q2 => ?_) (fun k3 q2 => ?_)
    · have h2 : (decide ((↑v1_0 : Int) < (↑a0.length : Int))) = true := by simpa using q2
      have i1 : v1_0 < a0.length := by simpa using q2
      have m2 : a0.length ≤ 9223372036854775807 := by simpa using k3 0 _ rfl
      have w1 : IntKind.i64.wrap ((v1_0 : Int) + 1) = (v1_0 : Int) + 1 := wrap_of (by omega) (by omega)
      try simp at q2
      simp
      refine okD fun k4 => ?_
      refine drawI mixed (by kernel_rfl) (by kernel_rfl) ?_
      have i2 : v1_0 < a1.length := by omega
      simp [i1, rowAt_map, i2]
      repeat (refine ⟨by intros; omega, ?_⟩)
      refine callRd rfl rfl rfl rfl (l_eqEvent_ok (nth a0 v1_0) (nth a1 v1_0)) (by simp) (by simp) (by simp) ?_
      simp
      refine condB (fun k5 q3 => ?_) (fun k5 q3 => ?_)
      · have h3 : (!(l_eqEvent (nth a0 v1_0) (nth a1 v1_0))) = true := by simpa using q3
        try simp at q3
        have x1 : l_eqEventS_1 a0 a1 (a0.length + 1) 0 = .inl false := by rw [← e1]; simp only [l_eqEventS_1, h2, h3, cond_true, cond_false]
        simp
        refine retRd (rv := [.tmp 4]) rfl ?_
        have f2 : l_eqEventS a0 a1 = false := by simp only [l_eqEventS, h1, x1, cond_true, cond_false]
        simp [f2]
      · have h3 : (!(l_eqEvent (nth a0 v1_0) (nth a1 v1_0))) = false := by simpa using q3
        try simp at q3
        simp
        refine nxtI ⟨(p1, (v1_0 + 1)), ?_, ?_⟩ (by simp) (wk_keep (by simp [w1]))
        · rw [← e1]; simp only [l_eqEventS_1, h2, h3, cond_true, cond_false]
        · first | omega | (simp at *; omega)
    · have h2 : (decide ((↑v1_0 : Int) < (↑a0.length : Int))) = false := by simpa using q2
      try simp at q2
      have x2 : l_eqEventS_1 a0 a1 (a0.length + 1) 0 = .inr () := by rw [← e1]; simp only [l_eqEventS_1, h2, cond_true, cond_false]
      simp
      refine retRd (rv := [.tmp 4]) rfl ?_
      have f3 : l_eqEventS a0 a1 = true := by simp only [l_eqEventS, h1, x2, cond_true, cond_false]
      simp [f3]
theorem l_FnExactIsHonest_ok (a0 : List TEvent) (t0 : Sm maxLen a0) : SoundAt Try.prog 3 false [[.sl 9 (a0.map TEvent.row)]] [[.bool (l_FnExactIsHonest a0)]] := by
  refine sound_of Try.func3 rfl (by kernel_rfl) ?_
  simp [Try.ntmps3]
  refine callRd rfl rfl rfl rfl (l_szEventS_ok a0 1048576) (by simp) (by simp) (by simp) ?_
  simp
  refine condB (fun k1 q1 => ?_) (fun k1 q1 => ?_)
  · have h1 : (decide ((l_szEventS a0 1048576) < 0)) = true := by simpa using q1
    try simp at q1
    simp
    refine retRd (rv := [.tmp 2]) rfl ?_
    have f1 : l_FnExactIsHonest a0 = true := by simp only [l_FnExactIsHonest, h1, cond_true, cond_false]
    simp [f1]
  · have h1 : (decide ((l_szEventS a0 1048576) < 0)) = false := by simpa using q1
    try simp at q1
    obtain ⟨u0, y0⟩ := l_szEventS_sm a0 1048576 t0 (by omega) (by omega) (by simpa using h1)
    simp
    refine callRd rfl rfl rfl rfl (l_toEventS_ok a0 (sm_mono (n := 1048576) (by decide) (by simp [u0, l_toArchive_id, l_toArchiveS_id, l_toAuthority_id, l_toAuthorityS_id, l_toBoolS_id, l_toCert_id, l_toCertS_id, l_toDocument_id, l_toEvent_id, l_toEventS_id, l_toFrame_id, l_toIntS_id, l_toIntSS_id, l_toItem_id, l_toItemS_id, l_toKey_id, l_toKeyS_id, l_toMethod_id, l_toMethodS_id, l_toPiece_id, l_toPieceS_id, l_toRedacted_id, l_toRenewal_id, l_toRenewalS_id, l_toSignature_id, l_toStamp_id, l_toStampS_id, l_toStep_id, l_toStepS_id, l_toStrand_id, l_toStringS_id, l_toWorld_id]))) (by simp) (by simp) (by simp) ?_
    simp
    refine callRd rfl rfl rfl rfl (s_IsHonest_ok (l_toEventS a0)) (by simp) (by simp) (by simp) ?_
    simp
    refine callRd rfl rfl rfl rfl (l_toEventS_ok a0 (sm_mono (n := 1048576) (by decide) (by simp [u0, l_toArchive_id, l_toArchiveS_id, l_toAuthority_id, l_toAuthorityS_id, l_toBoolS_id, l_toCert_id, l_toCertS_id, l_toDocument_id, l_toEvent_id, l_toEventS_id, l_toFrame_id, l_toIntS_id, l_toIntSS_id, l_toItem_id, l_toItemS_id, l_toKey_id, l_toKeyS_id, l_toMethod_id, l_toMethodS_id, l_toPiece_id, l_toPieceS_id, l_toRedacted_id, l_toRenewal_id, l_toRenewalS_id, l_toSignature_id, l_toStamp_id, l_toStampS_id, l_toStep_id, l_toStepS_id, l_toStrand_id, l_toStringS_id, l_toWorld_id]))) (by simp) (by simp) (by simp) ?_
    simp
    refine callRd rfl rfl rfl rfl (i_IsHonest_ok (l_toEventS a0)) (by simp) (by simp) (by simp) ?_
    simp
    refine condB (fun k2 q2 => ?_) (fun k2 q2 => ?_)
    · have h2 : (!((i_IsHonest (l_toEventS a0)) == (s_IsHonest (l_toEventS a0)))) = true := by simpa using q2
      try simp at q2
      simp
      refine retRd (rv := [.tmp 2]) rfl ?_
      have f2 : l_FnExactIsHonest a0 = false := by simp only [l_FnExactIsHonest, h1, h2, cond_true, cond_false]
      simp [f2]
    · have h2 : (!((i_IsHonest (l_toEventS a0)) == (s_IsHonest (l_toEventS a0)))) = false := by simpa using q2
      try simp at q2
      simp
      refine callRd rfl rfl rfl rfl (l_toEventS_ok a0 (sm_mono (n := 1048576) (by decide) (by simp [u0, l_toArchive_id, l_toArchiveS_id, l_toAuthority_id, l_toAuthorityS_id, l_toBoolS_id, l_toCert_id, l_toCertS_id, l_toDocument_id, l_toEvent_id, l_toEventS_id, l_toFrame_id, l_toIntS_id, l_toIntSS_id, l_toItem_id, l_toItemS_id, l_toKey_id, l_toKeyS_id, l_toMethod_id, l_toMethodS_id, l_toPiece_id, l_toPieceS_id, l_toRedacted_id, l_toRenewal_id, l_toRenewalS_id, l_toSignature_id, l_toStamp_id, l_toStampS_id, l_toStep_id, l_toStepS_id, l_toStrand_id, l_toStringS_id, l_toWorld_id]))) (by simp) (by simp) (by simp) ?_
      simp
      refine callRd rfl rfl rfl rfl (l_eqEventS_ok (l_toEventS a0) (l_toEventS a0)) (by simp) (by simp) (by simp) ?_
      simp
      refine condB (fun k3 q3 => ?_) (fun k3 q3 => ?_)
      · have h3 : (!(l_eqEventS (l_toEventS a0) (l_toEventS a0))) = true := by simpa using q3
        try simp at q3
        simp
        refine retRd (rv := [.tmp 2]) rfl ?_
        have f3 : l_FnExactIsHonest a0 = false := by simp only [l_FnExactIsHonest, h1, h2, h3, cond_true, cond_false]
        simp [f3]
      · have h3 : (!(l_eqEventS (l_toEventS a0) (l_toEventS a0))) = false := by simpa using q3
        try simp at q3
        simp
        refine retRd (rv := [.tmp 2]) rfl ?_
        have f4 : l_FnExactIsHonest a0 = true := by simp only [l_FnExactIsHonest, h1, h2, h3, cond_true, cond_false]
        simp [f4]
theorem l_szBoolS_ok (a0 : List Bool) (a1 : Int) : SoundAt Try.prog 71 false [[.sl 1 (a0.map lR)], [.int .i64 a1]] [[.int .i64 (l_szBoolS a0 a1)]] := by
  refine sound_of Try.func71 rfl (by kernel_rfl) ?_
  simp [Try.ntmps71]
  refine condB (fun k1 q1 => ?_) (fun k1 q1 => ?_)
  · have h1 : (decide ((W (a1 - (↑a0.length : Int))) < 0)) = true := by simpa using q1
    try simp at q1
    simp
    refine retRd (rv := [.tmp 4]) rfl ?_
    have f1 : l_szBoolS a0 a1 = (-1) := by simp only [l_szBoolS, h1, cond_true, cond_false]
    simp [f1]
  · have h1 : (decide ((W (a1 - (↑a0.length : Int))) < 0)) = false := by simpa using q1
    try simp at q1
    simp
    refine retRd (rv := [.tmp 4]) rfl ?_
    have f2 : l_szBoolS a0 a1 = (W (a1 - (↑a0.length : Int))) := by simp only [l_szBoolS, h1, cond_true, cond_false]
    simp [f2]
theorem l_szIntSS_ok (a0 : List (List Int)) (a1 : Int) : SoundAt Try.prog 73 false [[.sl 1 (a0.map (slR 1 iR))], [.int .i64 a1]] [[.int .i64 (l_szIntSS a0 a1)]] := by
  refine sound_of Try.func73 rfl (by kernel_rfl) ?_
  simp [Try.ntmps73]
  refine condB (fun k1 q1 => ?_) (fun k1 q1 => ?_)
  · have h1 : (decide ((W (a1 - (↑a0.length : Int))) < 0)) = true := by simpa using q1
    try simp at q1
    simp
    refine retRd (rv := [.tmp 4]) rfl ?_
    have f1 : l_szIntSS a0 a1 = (-1) := by simp only [l_szIntSS, h1, cond_true, cond_false]
    simp [f1]
  · have h1 : (decide ((W (a1 - (↑a0.length : Int))) < 0)) = false := by simpa using q1
    try simp at q1
    simp
    refine okL fun k2 => ?_
    refine loopI (ι := { s : Nat × Int × Nat // l_szIntSS_1 a0 s.1 s.2.1 s.2.2 = l_szIntSS_1 a0 (a0.length + 1) (W (a1 - (↑a0.length : Int))) 0 ∧ (1 ≤ s.1 ∧ a0.length < s.1 + s.2.2) }) (fun s => stOf 27 [(0, .one (.d (.sl 1 (a0.map (slR 1 iR)))), []), (1, .one (.d (.int .i64 s.1.2.1)), []), (5, .one (.d (.int .i64 (↑s.1.2.2 : Int))), [])]) (fun s => s.1.1) ⟨((a0.length + 1), (W (a1 - (↑a0.length : Int))), 0), rfl, by first | omega | (dsimp only; omega) | simp⟩ (wk_keep (by simp)) ?_
    rintro ⟨⟨n1, v1_0, v1_1⟩, e1, j1⟩
    try dsimp only at e1 j1
    obtain ⟨p1, rfl⟩ : ∃ p, n1 = p + 1 := ⟨n1 - 1, by omega⟩
    simp
    refine condB (fun k3 q2 => ?_) (fun k3 q2 => ?_)
    · have h2 : (decide ((↑v1_1 : Int) < (↑a0.length : Int))) = true := by simpa using q2
      have i1 : v1_1 < a0.length := by simpa using q2
      have m2 : a0.length ≤ 9223372036854775807 := by simpa using k3 0 _ rfl
      have w1 : IntKind.i64.wrap ((v1_1 : Int) + 1) = (v1_1 : Int) + 1 := wrap_of (by omega) (by omega)
      try simp at q2
      simp [i1, rowAt_map]
      repeat (refine ⟨by intros; omega, ?_⟩)
      refine callRd rfl rfl rfl rfl (l_szIntS_ok (nth a0 v1_1) v1_0) (by simp) (by simp) (by simp) ?_
      simp
      refine condB (fun k4 q3 => ?_) (fun k4 q3 => ?_)
      · have h3 : (decide ((l_szIntS (nth a0 v1_1) v1_0) < 0)) = true := by simpa using q3
        try simp at q3
        have x1 : l_szIntSS_1 a0 (a0.length + 1) (W (a1 - (↑a0.length : Int))) 0 = .inl (-1) := by rw [← e1]; simp only [l_szIntSS_1, h2, h3, cond_true, cond_false]
        simp
        refine retRd (rv := [.tmp 4]) rfl ?_
        have f2 : l_szIntSS a0 a1 = (-1) := by simp only [l_szIntSS, h1, x1, cond_true, cond_false]
        simp [f2]
      · have h3 : (decide ((l_szIntS (nth a0 v1_1) v1_0) < 0)) = false := by simpa using q3
        try simp at q3
        simp
        refine nxtI ⟨(p1, (l_szIntS (nth a0 v1_1) v1_0), (v1_1 + 1)), ?_, ?_⟩ (by simp) (wk_keep (by simp [w1]))
        · rw [← e1]; simp only [l_szIntSS_1, h2, h3, cond_true, cond_false]
        · first | omega | (simp at *; omega)
    · have h2 : (decide ((↑v1_1 : Int) < (↑a0.length : Int))) = false := by simpa using q2
      try simp at q2
      have x2 : l_szIntSS_1 a0 (a0.length + 1) (W (a1 - (↑a0.length : Int))) 0 = .inr v1_0 := by rw [← e1]; simp only [l_szIntSS_1, h2, cond_true, cond_false]
      simp
      refine retRd (rv := [.tmp 4]) rfl ?_
      have f3 : l_szIntSS a0 a1 = v1_0 := by simp only [l_szIntSS, h1, x2, cond_true, cond_false]
      simp [f3]
theorem l_szRedacted_ok (a0 : TRedacted) (a1 : Int) : SoundAt Try.prog 20 false [a0.row, [.int .i64 a1]] [[.int .i64 (l_szRedacted a0 a1)]] := by
  refine sound_of Try.func20 rfl (by kernel_rfl) ?_
  simp [Try.ntmps20]
  refine callRd rfl rfl rfl rfl (l_szIntS_ok a0.Methods a1) (by simp) (by simp) (by simp) ?_
  simp
  refine condB (fun k1 q1 => ?_) (fun k1 q1 => ?_)
  · have h1 : (decide ((l_szIntS a0.Methods a1) < 0)) = true := by simpa using q1
    try simp at q1
    simp
    refine retRd (rv := [.tmp 4]) rfl ?_
    have f1 : l_szRedacted a0 a1 = (-1) := by simp only [l_szRedacted, h1, cond_true, cond_false]
    simp [f1]
  · have h1 : (decide ((l_szIntS a0.Methods a1) < 0)) = false := by simpa using q1
    try simp at q1
    simp
    refine callRd rfl rfl rfl rfl (l_szBoolS_ok a0.Shown (l_szIntS a0.Methods a1)) (by simp) (by simp) (by simp) ?_
    simp
    refine condB (fun k2 q2 => ?_) (fun k2 q2 => ?_)
    · have h2 : (decide ((l_szBoolS a0.Shown (l_szIntS a0.Methods a1)) < 0)) = true := by simpa using q2
      try simp at q2
      simp
      refine retRd (rv := [.tmp 4]) rfl ?_
      have f2 : l_szRedacted a0 a1 = (-1) := by simp only [l_szRedacted, h1, h2, cond_true, cond_false]
      simp [f2]
    · have h2 : (decide ((l_szBoolS a0.Shown (l_szIntS a0.Methods a1)) < 0)) = false := by simpa using q2
      try simp at q2
      simp
      refine callRd rfl rfl rfl rfl (l_szStringS_ok a0.Parts (l_szBoolS a0.Shown (l_szIntS a0.Methods a1))) (by simp) (by simp) (by simp) ?_
      simp
      refine condB (fun k3 q3 => ?_) (fun k3 q3 => ?_)
      · have h3 : (decide ((l_szStringS a0.Parts (l_szBoolS a0.Shown (l_szIntS a0.Methods a1))) < 0)) = true := by simpa using q3
        try simp at q3
        simp
        refine retRd (rv := [.tmp 4]) rfl ?_
        have f3 : l_szRedacted a0 a1 = (-1) := by simp only [l_szRedacted, h1, h2, h3, cond_true, cond_false]
        simp [f3]
      · have h3 : (decide ((l_szStringS a0.Parts (l_szBoolS a0.Shown (l_szIntS a0.Methods a1))) < 0)) = false := by simpa using q3
        try simp at q3
        simp
        refine callRd rfl rfl rfl rfl (l_szIntS_ok a0.Salts (l_szStringS a0.Parts (l_szBoolS a0.Shown (l_szIntS a0.Methods a1)))) (by simp) (by simp) (by simp) ?_
        simp
        refine condB (fun k4 q4 => ?_) (fun k4 q4 => ?_)
        · have h4 : (decide ((l_szIntS a0.Salts (l_szStringS a0.Parts (l_szBoolS a0.Shown (l_szIntS a0.Methods a1)))) < 0)) = true := by simpa using q4
          try simp at q4
          simp
          refine retRd (rv := [.tmp 4]) rfl ?_
          have f4 : l_szRedacted a0 a1 = (-1) := by simp only [l_szRedacted, h1, h2, h3, h4, cond_true, cond_false]
          simp [f4]
        · have h4 : (decide ((l_szIntS a0.Salts (l_szStringS a0.Parts (l_szBoolS a0.Shown (l_szIntS a0.Methods a1)))) < 0)) = false := by simpa using q4
          try simp at q4
          simp
          refine callRd rfl rfl rfl rfl (l_szIntSS_ok a0.Digests (l_szIntS a0.Salts (l_szStringS a0.Parts (l_szBoolS a0.Shown (l_szIntS a0.Methods a1))))) (by simp) (by simp) (by simp) ?_
          simp
          refine condB (fun k5 q5 => ?_) (fun k5 q5 => ?_)
          · have h5 : (decide ((l_szIntSS a0.Digests (l_szIntS a0.Salts (l_szStringS a0.Parts (l_szBoolS a0.Shown (l_szIntS a0.Methods a1))))) < 0)) = true := by simpa using q5
            try simp at q5
            simp
            refine retRd (rv := [.tmp 4]) rfl ?_
            have f5 : l_szRedacted a0 a1 = (-1) := by simp only [l_szRedacted, h1, h2, h3, h4, h5, cond_true, cond_false]
            simp [f5]
          · have h5 : (decide ((l_szIntSS a0.Digests (l_szIntS a0.Salts (l_szStringS a0.Parts (l_szBoolS a0.Shown (l_szIntS a0.Methods a1))))) < 0)) = false := by simpa using q5
            try simp at q5
            simp
            refine retRd (rv := [.tmp 4]) rfl ?_
            have f6 : l_szRedacted a0 a1 = (l_szIntSS a0.Digests (l_szIntS a0.Salts (l_szStringS a0.Parts (l_szBoolS a0.Shown (l_szIntS a0.Methods a1))))) := by simp only [l_szRedacted, h1, h2, h3, h4, h5, cond_true, cond_false]
            simp [f6]
theorem l_toBoolS_ok (a0 : List Bool) (u0 : Sm 68719476736 a0) : SoundAt Try.prog 76 true [[.sl 1 (a0.map lR)]] [[.sl 1 ((l_toBoolS a0).map lR)]] := by
  refine sound_of Try.func76 rfl (by kernel_rfl) ?_
  have c1 : a0.length ≤ 68719476736 := sm_len (by simp [u0])
  simp [Try.ntmps76]
  repeat (refine ⟨by intros; omega, ?_⟩)
  refine okL fun k1 => ?_
  refine loopI (ι := { s : Nat × Nat × (List Bool) // l_toBoolS_1 a0 s.1 s.2.1 s.2.2 = l_toBoolS_1 a0 (a0.length + 1) 0 (List.replicate a0.length false) ∧ (1 ≤ s.1 ∧ a0.length < s.1 + s.2.1 ∧ s.2.2.length = a0.length) }) (fun s => stOf 22 [(0, .one (.d (.sl 1 (a0.map lR))), []), (3, .one (.sref 7 0 0 s.1.2.2.length), []), (4, .one (.d (.int .i64 (↑s.1.2.1 : Int))), []), (7, .any, [.arr 1 (s.1.2.2.map lR)])]) (fun s => s.1.1) ⟨((a0.length + 1), 0, (List.replicate a0.length false)), rfl, by first | omega | (dsimp only; omega) | simp⟩ (wk_keep (by simp)) ?_
  rintro ⟨⟨n1, v1_0, v1_1⟩, e1, j1⟩
  try dsimp only at e1 j1
  obtain ⟨p1, rfl⟩ : ∃ p, n1 = p + 1 := ⟨n1 - 1, by omega⟩
  simp
  refine condB (fun k2 q1 => ?_) (fun k2 q1 => ?_)
  · have h1 : (decide ((↑v1_0 : Int) < (↑a0.length : Int))) = true := by simpa using q1
    have i1 : v1_0 < a0.length := by simpa using q1
    have m2 : a0.length ≤ 9223372036854775807 := by simpa using k2 0 _ rfl
    have w1 : IntKind.i64.wrap ((v1_0 : Int) + 1) = (v1_0 : Int) + 1 := wrap_of (by omega) (by omega)
    try simp at q1
    have i2 : v1_0 < v1_1.length := by omega
    simp [i1, rowAt_map, i2, set_map (x := (nth a0 v1_0)) rfl]
    repeat (refine ⟨by intros; omega, ?_⟩)
    refine nxtI ⟨(p1, (v1_0 + 1), (v1_1.set v1_0 (nth a0 v1_0))), ?_, ?_⟩ (by simp) (wk_keep (by simp [w1]))
    · rw [← e1]; simp only [l_toBoolS_1, h1, cond_true, cond_false]
    · first | omega | (simp at *; omega)
  · have h1 : (decide ((↑v1_0 : Int) < (↑a0.length : Int))) = false := by simpa using q1
    try simp at q1
    have x1 : l_toBoolS_1 a0 (a0.length + 1) 0 (List.replicate a0.length false) = v1_1 := by rw [← e1]; simp only [l_toBoolS_1, h1, cond_true, cond_false]
    simp
    refine retOwn (rv := [.tmp 2]) rfl ?_
    have f1 : l_toBoolS a0 = v1_1 := by simp only [l_toBoolS, x1, cond_true, cond_false]
    simp [f1]
theorem l_toIntSS_ok (a0 : List (List Int)) (u0 : Sm 68719476736 a0) : SoundAt Try.prog 78 true [[.sl 1 (a0.map (slR 1 iR))]] [[.sl 1 ((l_toIntSS a0).map (slR 1 iR))]] := by
  refine sound_of Try.func78 rfl (by kernel_rfl) ?_
  have c1 : a0.length ≤ 68719476736 := sm_len (by simp [u0])
  simp [Try.ntmps78]
  repeat (refine ⟨by intros; omega, ?_⟩)
  refine okL fun k1 => ?_
  refine loopI (ι := { s : Nat × Nat × (List (List Int)) // l_toIntSS_1 a0 s.1 s.2.1 s.2.2 = l_toIntSS_1 a0 (a0.length + 1) 0 (List.replicate a0.length ([] : List Int)) ∧ (1 ≤ s.1 ∧ a0.length < s.1 + s.2.1 ∧ s.2.2.length = a0.length) }) (fun s => stOf 23 [(0, .one (.d (.sl 1 (a0.map (slR 1 iR)))), []), (3, .one (.sref 7 0 0 s.1.2.2.length), []), (4, .one (.d (.int .i64 (↑s.1.2.1 : Int))), []), (7, .any, [.arr 1 (s.1.2.2.map (slR 1 iR))])]) (fun s => s.1.1) ⟨((a0.length + 1), 0, (List.replicate a0.length ([] : List Int))), rfl, by first | omega | (dsimp only; omega) | simp⟩ (wk_keep (by simp)) ?_
  rintro ⟨⟨n1, v1_0, v1_1⟩, e1, j1⟩
  try dsimp only at e1 j1
  obtain ⟨p1, rfl⟩ : ∃ p, n1 = p + 1 := ⟨n1 - 1, by omega⟩
  simp
  refine condB (fun k2 q1 => ?_) (fun k2 q1 => ?_)
  · have h1 : (decide ((↑v1_0 : Int) < (↑a0.length : Int))) = true := by simpa using q1
    have i1 : v1_0 < a0.length := by simpa using q1
    have m2 : a0.length ≤ 9223372036854775807 := by simpa using k2 0 _ rfl
    have w1 : IntKind.i64.wrap ((v1_0 : Int) + 1) = (v1_0 : Int) + 1 := wrap_of (by omega) (by omega)
    try simp at q1
    simp [i1, rowAt_map]
    repeat (refine ⟨by intros; omega, ?_⟩)
    refine callRd rfl rfl rfl rfl (l_toIntS_ok (nth a0 v1_0) (by simp [u0])) (by simp) (by simp) (by simp) ?_
    have i2 : v1_0 < v1_1.length := by omega
    simp [i2, rowAt_map, set_map (x := (l_toIntS (nth a0 v1_0))) rfl]
    repeat (refine ⟨by intros; omega, ?_⟩)
    refine nxtI ⟨(p1, (v1_0 + 1), (v1_1.set v1_0 (l_toIntS (nth a0 v1_0)))), ?_, ?_⟩ (by simp) (wk_keep (by simp [w1]))
    · rw [← e1]; simp only [l_toIntSS_1, h1, cond_true, cond_false]
    · first | omega | (simp at *; omega)
  · have h1 : (decide ((↑v1_0 : Int) < (↑a0.length : Int))) = false := by simpa using q1
    try simp at q1
    have x1 : l_toIntSS_1 a0 (a0.length + 1) 0 (List.replicate a0.length ([] : List Int)) = v1_1 := by rw [← e1]; simp only [l_toIntSS_1, h1, cond_true, cond_false]
    simp
    refine retOwn (rv := [.tmp 2]) rfl ?_
    have f1 : l_toIntSS a0 = v1_1 := by simp only [l_toIntSS, x1, cond_true, cond_false]
    simp [f1]
theorem l_toRedacted_ok (a0 : TRedacted) (u0 : Sm 68719476736 a0) : SoundAt Try.prog 22 true [a0.row] [(l_toRedacted a0).row] := by
  refine sound_of Try.func22 rfl (by kernel_rfl) ?_
  simp [Try.ntmps22]
  refine callOwn rfl rfl rfl rfl (l_toIntS_ok a0.Methods (by simp [u0])) (by simp) (by simp) (by simp) (by simp) ?_
  simp
  refine callOwn rfl rfl rfl rfl (l_toBoolS_ok a0.Shown (by simp [u0])) (by simp) (by simp) (by simp) (by simp) ?_
  simp
  refine callOwn rfl rfl rfl rfl (l_toStringS_ok a0.Parts (by simp [u0])) (by simp) (by simp) (by simp) (by simp) ?_
  simp
  refine callOwn rfl rfl rfl rfl (l_toIntS_ok a0.Salts (by simp [u0])) (by simp) (by simp) (by simp) (by simp) ?_
  simp
  refine callOwn rfl rfl rfl rfl (l_toIntSS_ok a0.Digests (by simp [u0])) (by simp) (by simp) (by simp) (by simp) ?_
  simp
  refine retOwn (rv := [.cell 2 37]) rfl ?_
  have f1 : l_toRedacted a0 = (TRedacted.mk a0.Title (l_toIntS a0.Methods) (l_toBoolS a0.Shown) (l_toStringS a0.Parts) (l_toIntS a0.Salts) (l_toIntSS a0.Digests)) := by simp only [l_toRedacted, cond_true, cond_false]
  simp [f1]
theorem s_FormatInt_ok (a0 : Int) : SoundAt Try.prog 74 false [[.int .i64 a0]] [[.str (s_FormatInt a0)]] := by
  refine sound_of Try.func74 rfl (by kernel_rfl) ?_
  simp [Try.ntmps74]
  refine condB (fun k1 q1 => ?_) (fun k1 q1 => ?_)
  · have h1 : (a0 == 0) = true := by simpa using q1
    try simp at q1
    simp
    refine retRd (rv := [.tmp 2]) rfl ?_
    have f1 : s_FormatInt a0 = (⟨#[48]⟩ : ByteArray) := by simp only [s_FormatInt, h1, cond_true, cond_false]
    simp [f1]
  · have h1 : (a0 == 0) = false := by simpa using q1
    try simp at q1
    simp
    refine okL fun k2 => ?_
    refine loopI (ι := { s : Nat × ByteArray × Int // s_FormatInt_1 s.1 s.2.1 s.2.2 = s_FormatInt_1 22 (⟨#[]⟩ : ByteArray) a0 ∧ (1 ≤ s.1 ∧ (s.1 = 22 ∨ s.2.2.natAbs < 10 ^ (s.1 - 1)) ∧ s.2.1.size + s.1 = 22) }) (fun s => stOf 31 [(0, .one (.d (.int .i64 a0)), []), (3, .one (.d (.str s.1.2.1)), []), (4, .one (.d (.int .i64 s.1.2.2)), [])]) (fun s => s.1.1) ⟨(22, (⟨#[]⟩ : ByteArray), a0), rfl, by exact ⟨by omega, .inl rfl, rfl⟩⟩ (wk_keep (by simp)) ?_
    rintro ⟨⟨n1, v1_0, v1_1⟩, e1, j1⟩
    try dsimp only at e1 j1
    obtain ⟨p1, rfl⟩ : ∃ p, n1 = p + 1 := ⟨n1 - 1, by omega⟩
    simp
    refine condB (fun k3 q2 => ?_) (fun k3 q2 => ?_)
    · have h2 : (v1_1 != 0) = true := by simpa using q2
      try simp at q2
      simp
      refine condB (fun k4 q3 => ?_) (fun k4 q3 => ?_)
      · have h3 : (decide ((Int.tmod v1_1 10) < 0)) = true := by simpa using q3
        try simp at q3
        simp
        refine toStr (l := ([(UInt8.ofInt (W (48 + (W (-(Int.tmod v1_1 10))))))] : List UInt8)) rfl rfl rfl (by simp) (by simp) (by simp) (by simp [SrcRows, bRows]) ?_
        simp
        repeat (refine ⟨by intros; omega, ?_⟩)
        refine nxtI ⟨(p1, ((⟨([(UInt8.ofInt (W (48 + (W (-(Int.tmod v1_1 10))))))] : List UInt8).toArray⟩ : ByteArray) ++ v1_0), (W (Int.tdiv v1_1 10))), ?_, ?_⟩ (by simp) (wk_keep (by simp []))
        · rw [← e1]; simp only [s_FormatInt_1, h2, h3, cond_true, cond_false]
        · dsimp only; obtain ⟨s1, s2⟩ := fmt_s j1.2.1 h2; refine ⟨s1, s2, ?_⟩; have := j1.2.2; simp; omega
      · have h3 : (decide ((Int.tmod v1_1 10) < 0)) = false := by simpa using q3
        try simp at q3
        simp
        refine toStr (l := ([(UInt8.ofInt (W (48 + (Int.tmod v1_1 10))))] : List UInt8)) rfl rfl rfl (by simp) (by simp) (by simp) (by simp [SrcRows, bRows]) ?_
        simp
        repeat (refine ⟨by intros; omega, ?_⟩)
        refine nxtI ⟨(p1, ((⟨([(UInt8.ofInt (W (48 + (Int.tmod v1_1 10))))] : List UInt8).toArray⟩ : ByteArray) ++ v1_0), (W (Int.tdiv v1_1 10))), ?_, ?_⟩ (by simp) (wk_keep (by simp []))
        · rw [← e1]; simp only [s_FormatInt_1, h2, h3, cond_true, cond_false]
        · dsimp only; obtain ⟨s1, s2⟩ := fmt_s j1.2.1 h2; refine ⟨s1, s2, ?_⟩; have := j1.2.2; simp; omega
    · have h2 : (v1_1 != 0) = false := by simpa using q2
      try simp at q2
      have x1 : s_FormatInt_1 22 (⟨#[]⟩ : ByteArray) a0 = v1_0 := by rw [← e1]; simp only [s_FormatInt_1, h2, cond_true, cond_false]
      simp
      refine condB (fun k5 q4 => ?_) (fun k5 q4 => ?_)
      · have h4 : (decide (a0 < 0)) = true := by simpa using q4
        try simp at q4
        simp
        repeat (refine ⟨by intros; omega, ?_⟩)
        refine retRd (rv := [.tmp 2]) rfl ?_
        have f2 : s_FormatInt a0 = ((⟨#[45]⟩ : ByteArray) ++ v1_0) := by simp only [s_FormatInt, h1, x1, h4, cond_true, cond_false]
        simp [f2]
      · have h4 : (decide (a0 < 0)) = false := by simpa using q4
        try simp at q4
        simp
        refine retRd (rv := [.tmp 2]) rfl ?_
        have f3 : s_FormatInt a0 = v1_0 := by simp only [s_FormatInt, h1, x1, h4, cond_true, cond_false]
        simp [f3]
theorem i_FormatInt_ok (a0 : Int) : SoundAt Try.prog 79 false [[.int .i64 a0]] [[.str (i_FormatInt a0)]] := by
  refine sound_of Try.func79 rfl (by kernel_rfl) ?_
  simp [Try.ntmps79]
  refine okL fun k1 => ?_
  refine loopI (ι := { s : Nat × Int × (List UInt8) // i_FormatInt_1 s.1 s.2.1 s.2.2 = i_FormatInt_1 21 a0 ([] : List UInt8) ∧ (1 ≤ s.1 ∧ (s.1 = 21 ∨ s.2.1.natAbs < 10 ^ s.1) ∧ s.2.2.length + s.1 = 21) }) (fun s => stOf 30 [(0, .one (.d (.int .i64 s.1.2.1)), []), (3, .one (.sref 3 0 0 s.1.2.2.length), [.arr 1 (s.1.2.2.map bR)]), (4, .one (.d (.bool (decide (a0 < 0)))), [])]) (fun s => s.1.1) ⟨(21, a0, ([] : List UInt8)), rfl, by exact ⟨by omega, .inl rfl, rfl⟩⟩ (wk_of [((3, 0), none)] [] rfl (by simp)) ?_
  rintro ⟨⟨n1, v1_0, v1_1⟩, e1, j1⟩
  try dsimp only at e1 j1
  obtain ⟨p1, rfl⟩ : ∃ p, n1 = p + 1 := ⟨n1 - 1, by omega⟩
  simp
  refine condB (fun k2 q1 => ?_) (fun k2 q1 => ?_)
  · have h1 : (decide ((Int.tmod v1_0 10) < 0)) = true := by simpa using q1
    try simp at q1
    simp
    repeat (refine ⟨by intros; omega, ?_⟩)
    refine condB (fun k3 q2 => ?_) (fun k3 q2 => ?_)
    · have h2 : ((W (Int.tdiv v1_0 10)) == 0) = true := by simpa using q2
      try simp at q2
      have x1 : i_FormatInt_1 21 a0 ([] : List UInt8) = (([(UInt8.ofInt (W (48 + (W (-(Int.tmod v1_0 10))))))] : List UInt8) ++ v1_1) := by rw [← e1]; simp only [i_FormatInt_1, h1, h2, cond_true, cond_false]
      simp
      refine condB (fun k4 q3 => ?_) (fun k4 q3 => ?_)
      · have h3 : (decide (a0 < 0)) = true := by simpa using q3
        try simp at q3
        simp
        refine toStr (l := (([(UInt8.ofInt (W (48 + (W (-(Int.tmod v1_0 10))))))] : List UInt8) ++ v1_1)) rfl rfl rfl (by simp) (by simp) (by simp) (by simp [SrcRows, bRows]) ?_
        simp
        repeat (refine ⟨by intros; omega, ?_⟩)
        refine retRd (rv := [.tmp 2]) rfl ?_
        have f1 : i_FormatInt a0 = ((⟨#[45]⟩ : ByteArray) ++ (⟨(([(UInt8.ofInt (W (48 + (W (-(Int.tmod v1_0 10))))))] : List UInt8) ++ v1_1).toArray⟩ : ByteArray)) := by simp only [i_FormatInt, x1, h3, cond_true, cond_false]
        simp [f1]
      · have h3 : (decide (a0 < 0)) = false := by simpa using q3
        try simp at q3
        simp
        refine toStr (l := (([(UInt8.ofInt (W (48 + (W (-(Int.tmod v1_0 10))))))] : List UInt8) ++ v1_1)) rfl rfl rfl (by simp) (by simp) (by simp) (by simp [SrcRows, bRows]) ?_
        simp
        refine retRd (rv := [.tmp 2]) rfl ?_
        have f2 : i_FormatInt a0 = (⟨(([(UInt8.ofInt (W (48 + (W (-(Int.tmod v1_0 10))))))] : List UInt8) ++ v1_1).toArray⟩ : ByteArray) := by simp only [i_FormatInt, x1, h3, cond_true, cond_false]
        simp [f2]
    · have h2 : ((W (Int.tdiv v1_0 10)) == 0) = false := by simpa using q2
      try simp at q2
      simp
      refine nxtI ⟨(p1, (W (Int.tdiv v1_0 10)), (([(UInt8.ofInt (W (48 + (W (-(Int.tmod v1_0 10))))))] : List UInt8) ++ v1_1)), ?_, ?_⟩ (by simp) (wk_of [((3, 0), some (19, 0))] [] rfl (by simp []))
      · rw [← e1]; simp only [i_FormatInt_1, h1, h2, cond_true, cond_false]
      · dsimp only; obtain ⟨s1, s2⟩ := fmt_i j1.2.1 h2; refine ⟨s1, s2, ?_⟩; have := j1.2.2; simp; omega
  · have h1 : (decide ((Int.tmod v1_0 10) < 0)) = false := by simpa using q1
    try simp at q1
    simp
    repeat (refine ⟨by intros; omega, ?_⟩)
    refine condB (fun k5 q4 => ?_) (fun k5 q4 => ?_)
    · have h4 : ((W (Int.tdiv v1_0 10)) == 0) = true := by simpa using q4
      try simp at q4
      have x2 : i_FormatInt_1 21 a0 ([] : List UInt8) = (([(UInt8.ofInt (W (48 + (Int.tmod v1_0 10))))] : List UInt8) ++ v1_1) := by rw [← e1]; simp only [i_FormatInt_1, h1, h4, cond_true, cond_false]
      simp
      refine condB (fun k6 q5 => ?_) (fun k6 q5 => ?_)
      · have h5 : (decide (a0 < 0)) = true := by simpa using q5
        try simp at q5
        simp
        refine toStr (l := (([(UInt8.ofInt (W (48 + (Int.tmod v1_0 10))))] : List UInt8) ++ v1_1)) rfl rfl rfl (by simp) (by simp) (by simp) (by simp [SrcRows, bRows]) ?_
        simp
        repeat (refine ⟨by intros; omega, ?_⟩)
        refine retRd (rv := [.tmp 2]) rfl ?_
        have f3 : i_FormatInt a0 = ((⟨#[45]⟩ : ByteArray) ++ (⟨(([(UInt8.ofInt (W (48 + (Int.tmod v1_0 10))))] : List UInt8) ++ v1_1).toArray⟩ : ByteArray)) := by simp only [i_FormatInt, x2, h5, cond_true, cond_false]
        simp [f3]
      · have h5 : (decide (a0 < 0)) = false := by simpa using q5
        try simp at q5
        simp
        refine toStr (l := (([(UInt8.ofInt (W (48 + (Int.tmod v1_0 10))))] : List UInt8) ++ v1_1)) rfl rfl rfl (by simp) (by simp) (by simp) (by simp [SrcRows, bRows]) ?_
        simp
        refine retRd (rv := [.tmp 2]) rfl ?_
        have f4 : i_FormatInt a0 = (⟨(([(UInt8.ofInt (W (48 + (Int.tmod v1_0 10))))] : List UInt8) ++ v1_1).toArray⟩ : ByteArray) := by simp only [i_FormatInt, x2, h5, cond_true, cond_false]
        simp [f4]
    · have h4 : ((W (Int.tdiv v1_0 10)) == 0) = false := by simpa using q4
      try simp at q4
      simp
      refine nxtI ⟨(p1, (W (Int.tdiv v1_0 10)), (([(UInt8.ofInt (W (48 + (Int.tmod v1_0 10))))] : List UInt8) ++ v1_1)), ?_, ?_⟩ (by simp) (wk_of [((3, 0), some (19, 0))] [] rfl (by simp []))
      · rw [← e1]; simp only [i_FormatInt_1, h1, h4, cond_true, cond_false]
      · dsimp only; obtain ⟨s1, s2⟩ := fmt_i j1.2.1 h4; refine ⟨s1, s2, ?_⟩; have := j1.2.2; simp; omega
theorem l_eqBoolS_ok (a0 : List Bool) (a1 : List Bool) : SoundAt Try.prog 80 false [[.sl 1 (a0.map lR)], [.sl 1 (a1.map lR)]] [[.bool (l_eqBoolS a0 a1)]] := by
  refine sound_of Try.func80 rfl (by kernel_rfl) ?_
  simp [Try.ntmps80]
  refine condB (fun k1 q1 => ?_) (fun k1 q1 => ?_)
  · have h1 : ((↑a0.length : Int) != (↑a1.length : Int)) = true := by simpa using q1
    try simp at q1
    simp
    refine retRd (rv := [.tmp 4]) rfl ?_
    have f1 : l_eqBoolS a0 a1 = false := by simp only [l_eqBoolS, h1, cond_true, cond_false]
    simp [f1]
  · have h1 : ((↑a0.length : Int) != (↑a1.length : Int)) = false := by simpa using q1
    try simp at q1
    simp
    refine okL fun k2 => ?_
    refine loopI (ι := { s : Nat × Nat // l_eqBoolS_1 a0 a1 s.1 s.2 = l_eqBoolS_1 a0 a1 (a0.length + 1) 0 ∧ (1 ≤ s.1 ∧ a0.length < s.1 + s.2) }) (fun s => stOf 26 [(0, .one (.d (.sl 1 (a0.map lR))), []), (1, .one (.d (.sl 1 (a1.map lR))), []), (5, .one (.d (.int .i64 (↑s.1.2 : Int))), [])]) (fun s => s.1.1) ⟨((a0.length + 1), 0), rfl, by first | omega | (dsimp only; omega) | simp⟩ (wk_keep (by simp)) ?_
    rintro ⟨⟨n1, v1_0⟩, e1, j1⟩
    try dsimp only at e1 j1
    obtain ⟨p1, rfl⟩ : ∃ p, n1 = p + 1 := ⟨n1 - 1, by omega⟩
    simp
    refine condB (fun k3 q2 => ?_) (fun k3 q2 => ?_)
    · have h2 : (decide ((↑v1_0 : Int) < (↑a0.length : Int))) = true := by simpa using q2
      have i1 : v1_0 < a0.length := by simpa using q2
      have m2 : a0.length ≤ 9223372036854775807 := by simpa using k3 0 _ rfl
      have w1 : IntKind.i64.wrap ((v1_0 : Int) + 1) = (v1_0 : Int) + 1 := wrap_of (by omega) (by omega)
      try simp at q2
      simp
      refine okD fun k4 => ?_
      refine drawI mixed (by kernel_rfl) (by kernel_rfl) ?_
      have i2 : v1_0 < a1.length := by omega
      simp [i1, rowAt_map, i2]
      repeat (refine ⟨by intros; omega, ?_⟩)
      refine condB (fun k5 q3 => ?_) (fun k5 q3 => ?_)
      · have h3 : (!((nth a0 v1_0) == (nth a1 v1_0))) = true := by simpa using q3
        try simp at q3
        have x1 : l_eqBoolS_1 a0 a1 (a0.length + 1) 0 = .inl false := by rw [← e1]; simp only [l_eqBoolS_1, h2, h3, cond_true, cond_false]
        simp
        refine retRd (rv := [.tmp 4]) rfl ?_
        have f2 : l_eqBoolS a0 a1 = false := by simp only [l_eqBoolS, h1, x1, cond_true, cond_false]
        simp [f2]
      · have h3 : (!((nth a0 v1_0) == (nth a1 v1_0))) = false := by simpa using q3
        try simp at q3
        simp
        refine nxtI ⟨(p1, (v1_0 + 1)), ?_, ?_⟩ (by simp) (wk_keep (by simp [w1]))
        · rw [← e1]; simp only [l_eqBoolS_1, h2, h3, cond_true, cond_false]
        · first | omega | (simp at *; omega)
    · have h2 : (decide ((↑v1_0 : Int) < (↑a0.length : Int))) = false := by simpa using q2
      try simp at q2
      have x2 : l_eqBoolS_1 a0 a1 (a0.length + 1) 0 = .inr () := by rw [← e1]; simp only [l_eqBoolS_1, h2, cond_true, cond_false]
      simp
      refine retRd (rv := [.tmp 4]) rfl ?_
      have f3 : l_eqBoolS a0 a1 = true := by simp only [l_eqBoolS, h1, x2, cond_true, cond_false]
      simp [f3]
theorem l_eqIntSS_ok (a0 : List (List Int)) (a1 : List (List Int)) : SoundAt Try.prog 82 false [[.sl 1 (a0.map (slR 1 iR))], [.sl 1 (a1.map (slR 1 iR))]] [[.bool (l_eqIntSS a0 a1)]] := by
  refine sound_of Try.func82 rfl (by kernel_rfl) ?_
  simp [Try.ntmps82]
  refine condB (fun k1 q1 => ?_) (fun k1 q1 => ?_)
  · have h1 : ((↑a0.length : Int) != (↑a1.length : Int)) = true := by simpa using q1
    try simp at q1
    simp
    refine retRd (rv := [.tmp 4]) rfl ?_
    have f1 : l_eqIntSS a0 a1 = false := by simp only [l_eqIntSS, h1, cond_true, cond_false]
    simp [f1]
  · have h1 : ((↑a0.length : Int) != (↑a1.length : Int)) = false := by simpa using q1
    try simp at q1
    simp
    refine okL fun k2 => ?_
    refine loopI (ι := { s : Nat × Nat // l_eqIntSS_1 a0 a1 s.1 s.2 = l_eqIntSS_1 a0 a1 (a0.length + 1) 0 ∧ (1 ≤ s.1 ∧ a0.length < s.1 + s.2) }) (fun s => stOf 27 [(0, .one (.d (.sl 1 (a0.map (slR 1 iR)))), []), (1, .one (.d (.sl 1 (a1.map (slR 1 iR)))), []), (5, .one (.d (.int .i64 (↑s.1.2 : Int))), [])]) (fun s => s.1.1) ⟨((a0.length + 1), 0), rfl, by first | omega | (dsimp only; omega) | simp⟩ (wk_keep (by simp)) ?_
    rintro ⟨⟨n1, v1_0⟩, e1, j1⟩
    try dsimp only at e1 j1
    obtain ⟨p1, rfl⟩ : ∃ p, n1 = p + 1 := ⟨n1 - 1, by omega⟩
    simp
    refine condB (fun k3 q2 => ?_) (fun k3 q2 => ?_)
    · have h2 : (decide ((↑v1_0 : Int) < (↑a0.length : Int))) = true := by simpa using q2
      have i1 : v1_0 < a0.length := by simpa using q2
      have m2 : a0.length ≤ 9223372036854775807 := by simpa using k3 0 _ rfl
      have w1 : IntKind.i64.wrap ((v1_0 : Int) + 1) = (v1_0 : Int) + 1 := wrap_of (by omega) (by omega)
      try simp at q2
      simp
      refine okD fun k4 => ?_
      refine drawI mixed (by kernel_rfl) (by kernel_rfl) ?_
      have i2 : v1_0 < a1.length := by omega
      simp [i1, rowAt_map, i2]
      repeat (refine ⟨by intros; omega, ?_⟩)
      refine callRd rfl rfl rfl rfl (l_eqIntS_ok (nth a0 v1_0) (nth a1 v1_0)) (by simp) (by simp) (by simp) ?_
      simp
      refine condB (fun k5 q3 => ?_) (fun k5 q3 => ?_)
      · have h3 : (!(l_eqIntS (nth a0 v1_0) (nth a1 v1_0))) = true := by simpa using q3
        try simp at q3
        have x1 : l_eqIntSS_1 a0 a1 (a0.length + 1) 0 = .inl false := by rw [← e1]; simp only [l_eqIntSS_1, h2, h3, cond_true, cond_false]
        simp
        refine retRd (rv := [.tmp 4]) rfl ?_
        have f2 : l_eqIntSS a0 a1 = false := by simp only [l_eqIntSS, h1, x1, cond_true, cond_false]
        simp [f2]
      · have h3 : (!(l_eqIntS (nth a0 v1_0) (nth a1 v1_0))) = false := by simpa using q3
        try simp at q3
        simp
        refine nxtI ⟨(p1, (v1_0 + 1)), ?_, ?_⟩ (by simp) (wk_keep (by simp [w1]))
        · rw [← e1]; simp only [l_eqIntSS_1, h2, h3, cond_true, cond_false]
        · first | omega | (simp at *; omega)
    · have h2 : (decide ((↑v1_0 : Int) < (↑a0.length : Int))) = false := by simpa using q2
      try simp at q2
      have x2 : l_eqIntSS_1 a0 a1 (a0.length + 1) 0 = .inr () := by rw [← e1]; simp only [l_eqIntSS_1, h2, cond_true, cond_false]
      simp
      refine retRd (rv := [.tmp 4]) rfl ?_
      have f3 : l_eqIntSS a0 a1 = true := by simp only [l_eqIntSS, h1, x2, cond_true, cond_false]
      simp [f3]
theorem l_eqRedacted_ok (a0 : TRedacted) (a1 : TRedacted) : SoundAt Try.prog 24 false [a0.row, a1.row] [[.bool (l_eqRedacted a0 a1)]] := by
  refine sound_of Try.func24 rfl (by kernel_rfl) ?_
  simp [Try.ntmps24]
  refine condB (fun k1 q1 => ?_) (fun k1 q1 => ?_)
  · have h1 : (a0.Title != a1.Title) = true := by simpa using q1
    try simp at q1
    simp
    refine retRd (rv := [.tmp 4]) rfl ?_
    have f1 : l_eqRedacted a0 a1 = false := by simp only [l_eqRedacted, h1, cond_true, cond_false]
    simp [f1]
  · have h1 : (a0.Title != a1.Title) = false := by simpa using q1
    try simp at q1
    simp
    refine callRd rfl rfl rfl rfl (l_eqIntS_ok a0.Methods a1.Methods) (by simp) (by simp) (by simp) ?_
    simp
    refine condB (fun k2 q2 => ?_) (fun k2 q2 => ?_)
    · have h2 : (!(l_eqIntS a0.Methods a1.Methods)) = true := by simpa using q2
      try simp at q2
      simp
      refine retRd (rv := [.tmp 4]) rfl ?_
      have f2 : l_eqRedacted a0 a1 = false := by simp only [l_eqRedacted, h1, h2, cond_true, cond_false]
      simp [f2]
    · have h2 : (!(l_eqIntS a0.Methods a1.Methods)) = false := by simpa using q2
      try simp at q2
      simp
      refine callRd rfl rfl rfl rfl (l_eqBoolS_ok a0.Shown a1.Shown) (by simp) (by simp) (by simp) ?_
      simp
      refine condB (fun k3 q3 => ?_) (fun k3 q3 => ?_)
      · have h3 : (!(l_eqBoolS a0.Shown a1.Shown)) = true := by simpa using q3
        try simp at q3
        simp
        refine retRd (rv := [.tmp 4]) rfl ?_
        have f3 : l_eqRedacted a0 a1 = false := by simp only [l_eqRedacted, h1, h2, h3, cond_true, cond_false]
        simp [f3]
      · have h3 : (!(l_eqBoolS a0.Shown a1.Shown)) = false := by simpa using q3
        try simp at q3
        simp
        refine callRd rfl rfl rfl rfl (l_eqStringS_ok a0.Parts a1.Parts) (by simp) (by simp) (by simp) ?_
        simp
        refine condB (fun k4 q4 => ?_) (fun k4 q4 => ?_)
        · have h4 : (!(l_eqStringS a0.Parts a1.Parts)) = true := by simpa using q4
          try simp at q4
          simp
          refine retRd (rv := [.tmp 4]) rfl ?_
          have f4 : l_eqRedacted a0 a1 = false := by simp only [l_eqRedacted, h1, h2, h3, h4, cond_true, cond_false]
          simp [f4]
        · have h4 : (!(l_eqStringS a0.Parts a1.Parts)) = false := by simpa using q4
          try simp at q4
          simp
          refine callRd rfl rfl rfl rfl (l_eqIntS_ok a0.Salts a1.Salts) (by simp) (by simp) (by simp) ?_
          simp
          refine condB (fun k5 q5 => ?_) (fun k5 q5 => ?_)
          · have h5 : (!(l_eqIntS a0.Salts a1.Salts)) = true := by simpa using q5
            try simp at q5
            simp
            refine retRd (rv := [.tmp 4]) rfl ?_
            have f5 : l_eqRedacted a0 a1 = false := by simp only [l_eqRedacted, h1, h2, h3, h4, h5, cond_true, cond_false]
            simp [f5]
          · have h5 : (!(l_eqIntS a0.Salts a1.Salts)) = false := by simpa using q5
            try simp at q5
            simp
            refine callRd rfl rfl rfl rfl (l_eqIntSS_ok a0.Digests a1.Digests) (by simp) (by simp) (by simp) ?_
            simp
            refine condB (fun k6 q6 => ?_) (fun k6 q6 => ?_)
            · have h6 : (!(l_eqIntSS a0.Digests a1.Digests)) = true := by simpa using q6
              try simp at q6
              simp
              refine retRd (rv := [.tmp 4]) rfl ?_
              have f6 : l_eqRedacted a0 a1 = false := by simp only [l_eqRedacted, h1, h2, h3, h4, h5, h6, cond_true, cond_false]
              simp [f6]
            · have h6 : (!(l_eqIntSS a0.Digests a1.Digests)) = false := by simpa using q6
              try simp at q6
              simp
              refine retRd (rv := [.tmp 4]) rfl ?_
              have f7 : l_eqRedacted a0 a1 = true := by simp only [l_eqRedacted, h1, h2, h3, h4, h5, h6, cond_true, cond_false]
              simp [f7]
theorem l_szKeyS_ok (a0 : List TKey) (a1 : Int) : SoundAt Try.prog 83 false [[.sl 5 (a0.map TKey.row)], [.int .i64 a1]] [[.int .i64 (l_szKeyS a0 a1)]] := by
  refine sound_of Try.func83 rfl (by kernel_rfl) ?_
  simp [Try.ntmps83]
  refine condB (fun k1 q1 => ?_) (fun k1 q1 => ?_)
  · have h1 : (decide ((W (a1 - (↑a0.length : Int))) < 0)) = true := by simpa using q1
    try simp at q1
    simp
    refine retRd (rv := [.tmp 4]) rfl ?_
    have f1 : l_szKeyS a0 a1 = (-1) := by simp only [l_szKeyS, h1, cond_true, cond_false]
    simp [f1]
  · have h1 : (decide ((W (a1 - (↑a0.length : Int))) < 0)) = false := by simpa using q1
    try simp at q1
    simp
    refine retRd (rv := [.tmp 4]) rfl ?_
    have f2 : l_szKeyS a0 a1 = (W (a1 - (↑a0.length : Int))) := by simp only [l_szKeyS, h1, cond_true, cond_false]
    simp [f2]
theorem l_szAuthorityS_ok (a0 : List TAuthority) (a1 : Int) : SoundAt Try.prog 84 false [[.sl 3 (a0.map TAuthority.row)], [.int .i64 a1]] [[.int .i64 (l_szAuthorityS a0 a1)]] := by
  refine sound_of Try.func84 rfl (by kernel_rfl) ?_
  simp [Try.ntmps84]
  refine condB (fun k1 q1 => ?_) (fun k1 q1 => ?_)
  · have h1 : (decide ((W (a1 - (↑a0.length : Int))) < 0)) = true := by simpa using q1
    try simp at q1
    simp
    refine retRd (rv := [.tmp 4]) rfl ?_
    have f1 : l_szAuthorityS a0 a1 = (-1) := by simp only [l_szAuthorityS, h1, cond_true, cond_false]
    simp [f1]
  · have h1 : (decide ((W (a1 - (↑a0.length : Int))) < 0)) = false := by simpa using q1
    try simp at q1
    simp
    refine retRd (rv := [.tmp 4]) rfl ?_
    have f2 : l_szAuthorityS a0 a1 = (W (a1 - (↑a0.length : Int))) := by simp only [l_szAuthorityS, h1, cond_true, cond_false]
    simp [f2]
theorem l_szMethodS_ok (a0 : List TMethod) (a1 : Int) : SoundAt Try.prog 85 false [[.sl 4 (a0.map TMethod.row)], [.int .i64 a1]] [[.int .i64 (l_szMethodS a0 a1)]] := by
  refine sound_of Try.func85 rfl (by kernel_rfl) ?_
  simp [Try.ntmps85]
  refine condB (fun k1 q1 => ?_) (fun k1 q1 => ?_)
  · have h1 : (decide ((W (a1 - (↑a0.length : Int))) < 0)) = true := by simpa using q1
    try simp at q1
    simp
    refine retRd (rv := [.tmp 4]) rfl ?_
    have f1 : l_szMethodS a0 a1 = (-1) := by simp only [l_szMethodS, h1, cond_true, cond_false]
    simp [f1]
  · have h1 : (decide ((W (a1 - (↑a0.length : Int))) < 0)) = false := by simpa using q1
    try simp at q1
    simp
    refine retRd (rv := [.tmp 4]) rfl ?_
    have f2 : l_szMethodS a0 a1 = (W (a1 - (↑a0.length : Int))) := by simp only [l_szMethodS, h1, cond_true, cond_false]
    simp [f2]
theorem l_szFrame_ok (a0 : TFrame) (a1 : Int) : SoundAt Try.prog 25 false [a0.row, [.int .i64 a1]] [[.int .i64 (l_szFrame a0 a1)]] := by
  refine sound_of Try.func25 rfl (by kernel_rfl) ?_
  simp [Try.ntmps25]
  refine callRd rfl rfl rfl rfl (l_szKeyS_ok a0.Keys a1) (by simp) (by simp) (by simp) ?_
  simp
  refine condB (fun k1 q1 => ?_) (fun k1 q1 => ?_)
  · have h1 : (decide ((l_szKeyS a0.Keys a1) < 0)) = true := by simpa using q1
    try simp at q1
    simp
    refine retRd (rv := [.tmp 4]) rfl ?_
    have f1 : l_szFrame a0 a1 = (-1) := by simp only [l_szFrame, h1, cond_true, cond_false]
    simp [f1]
  · have h1 : (decide ((l_szKeyS a0.Keys a1) < 0)) = false := by simpa using q1
    try simp at q1
    simp
    refine callRd rfl rfl rfl rfl (l_szAuthorityS_ok a0.Authorities (l_szKeyS a0.Keys a1)) (by simp) (by simp) (by simp) ?_
    simp
    refine condB (fun k2 q2 => ?_) (fun k2 q2 => ?_)
    · have h2 : (decide ((l_szAuthorityS a0.Authorities (l_szKeyS a0.Keys a1)) < 0)) = true := by simpa using q2
      try simp at q2
      simp
      refine retRd (rv := [.tmp 4]) rfl ?_
      have f2 : l_szFrame a0 a1 = (-1) := by simp only [l_szFrame, h1, h2, cond_true, cond_false]
      simp [f2]
    · have h2 : (decide ((l_szAuthorityS a0.Authorities (l_szKeyS a0.Keys a1)) < 0)) = false := by simpa using q2
      try simp at q2
      simp
      refine callRd rfl rfl rfl rfl (l_szMethodS_ok a0.Methods (l_szAuthorityS a0.Authorities (l_szKeyS a0.Keys a1))) (by simp) (by simp) (by simp) ?_
      simp
      refine condB (fun k3 q3 => ?_) (fun k3 q3 => ?_)
      · have h3 : (decide ((l_szMethodS a0.Methods (l_szAuthorityS a0.Authorities (l_szKeyS a0.Keys a1))) < 0)) = true := by simpa using q3
        try simp at q3
        simp
        refine retRd (rv := [.tmp 4]) rfl ?_
        have f3 : l_szFrame a0 a1 = (-1) := by simp only [l_szFrame, h1, h2, h3, cond_true, cond_false]
        simp [f3]
      · have h3 : (decide ((l_szMethodS a0.Methods (l_szAuthorityS a0.Authorities (l_szKeyS a0.Keys a1))) < 0)) = false := by simpa using q3
        try simp at q3
        simp
        refine retRd (rv := [.tmp 4]) rfl ?_
        have f4 : l_szFrame a0 a1 = (l_szMethodS a0.Methods (l_szAuthorityS a0.Authorities (l_szKeyS a0.Keys a1))) := by simp only [l_szFrame, h1, h2, h3, cond_true, cond_false]
        simp [f4]
theorem l_toKey_ok (a0 : TKey) : SoundAt Try.prog 138 false [a0.row] [(l_toKey a0).row] := by
  refine sound_of Try.func138 rfl (by kernel_rfl) ?_
  simp [Try.ntmps138]
  refine retRd (rv := [.cell 2 145]) rfl ?_
  have f1 : l_toKey a0 = a0 := by simp only [l_toKey, cond_true, cond_false]
  simp [f1]
theorem l_toKeyS_ok (a0 : List TKey) (u0 : Sm 68719476736 a0) : SoundAt Try.prog 88 true [[.sl 5 (a0.map TKey.row)]] [[.sl 5 ((l_toKeyS a0).map TKey.row)]] := by
  refine sound_of Try.func88 rfl (by kernel_rfl) ?_
  have c1 : a0.length ≤ 68719476736 := sm_len (by simp [u0])
  simp [Try.ntmps88]
  repeat (refine ⟨by intros; omega, ?_⟩)
  refine okL fun k1 => ?_
  refine loopI (ι := { s : Nat × Nat × (List TKey) // l_toKeyS_1 a0 s.1 s.2.1 s.2.2 = l_toKeyS_1 a0 (a0.length + 1) 0 (List.replicate a0.length (TKey.mk 0 0 0 0 0)) ∧ (1 ≤ s.1 ∧ a0.length < s.1 + s.2.1 ∧ s.2.2.length = a0.length) }) (fun s => stOf 23 [(0, .one (.d (.sl 5 (a0.map TKey.row))), []), (3, .one (.sref 7 0 0 s.1.2.2.length), []), (4, .one (.d (.int .i64 (↑s.1.2.1 : Int))), []), (7, .any, [.arr 5 (s.1.2.2.map TKey.row)])]) (fun s => s.1.1) ⟨((a0.length + 1), 0, (List.replicate a0.length (TKey.mk 0 0 0 0 0))), rfl, by first | omega | (dsimp only; omega) | simp⟩ (wk_keep (by simp)) ?_
  rintro ⟨⟨n1, v1_0, v1_1⟩, e1, j1⟩
  try dsimp only at e1 j1
  obtain ⟨p1, rfl⟩ : ∃ p, n1 = p + 1 := ⟨n1 - 1, by omega⟩
  simp
  refine condB (fun k2 q1 => ?_) (fun k2 q1 => ?_)
  · have h1 : (decide ((↑v1_0 : Int) < (↑a0.length : Int))) = true := by simpa using q1
    have i1 : v1_0 < a0.length := by simpa using q1
    have m2 : a0.length ≤ 9223372036854775807 := by simpa using k2 0 _ rfl
    have w1 : IntKind.i64.wrap ((v1_0 : Int) + 1) = (v1_0 : Int) + 1 := wrap_of (by omega) (by omega)
    try simp at q1
    simp [i1, rowAt_map]
    repeat (refine ⟨by intros; omega, ?_⟩)
    refine callRd rfl rfl rfl rfl (l_toKey_ok (nth a0 v1_0)) (by simp) (by simp) (by simp) ?_
    have i2 : v1_0 < v1_1.length := by omega
    simp [i2, rowAt_map, set_map (x := (l_toKey (nth a0 v1_0))) rfl]
    repeat (refine ⟨by intros; omega, ?_⟩)
    refine nxtI ⟨(p1, (v1_0 + 1), (v1_1.set v1_0 (l_toKey (nth a0 v1_0)))), ?_, ?_⟩ (by simp) (wk_keep (by simp [w1]))
    · rw [← e1]; simp only [l_toKeyS_1, h1, cond_true, cond_false]
    · first | omega | (simp at *; omega)
  · have h1 : (decide ((↑v1_0 : Int) < (↑a0.length : Int))) = false := by simpa using q1
    try simp at q1
    have x1 : l_toKeyS_1 a0 (a0.length + 1) 0 (List.replicate a0.length (TKey.mk 0 0 0 0 0)) = v1_1 := by rw [← e1]; simp only [l_toKeyS_1, h1, cond_true, cond_false]
    simp
    refine retOwn (rv := [.tmp 2]) rfl ?_
    have f1 : l_toKeyS a0 = v1_1 := by simp only [l_toKeyS, x1, cond_true, cond_false]
    simp [f1]
theorem l_toAuthority_ok (a0 : TAuthority) : SoundAt Try.prog 139 false [a0.row] [(l_toAuthority a0).row] := by
  refine sound_of Try.func139 rfl (by kernel_rfl) ?_
  simp [Try.ntmps139]
  refine retRd (rv := [.cell 2 195]) rfl ?_
  have f1 : l_toAuthority a0 = a0 := by simp only [l_toAuthority, cond_true, cond_false]
  simp [f1]
theorem l_toAuthorityS_ok (a0 : List TAuthority) (u0 : Sm 68719476736 a0) : SoundAt Try.prog 89 true [[.sl 3 (a0.map TAuthority.row)]] [[.sl 3 ((l_toAuthorityS a0).map TAuthority.row)]] := by
  refine sound_of Try.func89 rfl (by kernel_rfl) ?_
  have c1 : a0.length ≤ 68719476736 := sm_len (by simp [u0])
  simp [Try.ntmps89]
  repeat (refine ⟨by intros; omega, ?_⟩)
  refine okL fun k1 => ?_
  refine loopI (ι := { s : Nat × Nat × (List TAuthority) // l_toAuthorityS_1 a0 s.1 s.2.1 s.2.2 = l_toAuthorityS_1 a0 (a0.length + 1) 0 (List.replicate a0.length (TAuthority.mk 0 0 0)) ∧ (1 ≤ s.1 ∧ a0.length < s.1 + s.2.1 ∧ s.2.2.length = a0.length) }) (fun s => stOf 23 [(0, .one (.d (.sl 3 (a0.map TAuthority.row))), []), (3, .one (.sref 7 0 0 s.1.2.2.length), []), (4, .one (.d (.int .i64 (↑s.1.2.1 : Int))), []), (7, .any, [.arr 3 (s.1.2.2.map TAuthority.row)])]) (fun s => s.1.1) ⟨((a0.length + 1), 0, (List.replicate a0.length (TAuthority.mk 0 0 0))), rfl, by first | omega | (dsimp only; omega) | simp⟩ (wk_keep (by simp)) ?_
  rintro ⟨⟨n1, v1_0, v1_1⟩, e1, j1⟩
  try dsimp only at e1 j1
  obtain ⟨p1, rfl⟩ : ∃ p, n1 = p + 1 := ⟨n1 - 1, by omega⟩
  simp
  refine condB (fun k2 q1 => ?_) (fun k2 q1 => ?_)
  · have h1 : (decide ((↑v1_0 : Int) < (↑a0.length : Int))) = true := by simpa using q1
    have i1 : v1_0 < a0.length := by simpa using q1
    have m2 : a0.length ≤ 9223372036854775807 := by simpa using k2 0 _ rfl
    have w1 : IntKind.i64.wrap ((v1_0 : Int) + 1) = (v1_0 : Int) + 1 := wrap_of (by omega) (by omega)
    try simp at q1
    simp [i1, rowAt_map]
    repeat (refine ⟨by intros; omega, ?_⟩)
    refine callRd rfl rfl rfl rfl (l_toAuthority_ok (nth a0 v1_0)) (by simp) (by simp) (by simp) ?_
    have i2 : v1_0 < v1_1.length := by omega
    simp [i2, rowAt_map, set_map (x := (l_toAuthority (nth a0 v1_0))) rfl]
    repeat (refine ⟨by intros; omega, ?_⟩)
    refine nxtI ⟨(p1, (v1_0 + 1), (v1_1.set v1_0 (l_toAuthority (nth a0 v1_0)))), ?_, ?_⟩ (by simp) (wk_keep (by simp [w1]))
    · rw [← e1]; simp only [l_toAuthorityS_1, h1, cond_true, cond_false]
    · first | omega | (simp at *; omega)
  · have h1 : (decide ((↑v1_0 : Int) < (↑a0.length : Int))) = false := by simpa using q1
    try simp at q1
    have x1 : l_toAuthorityS_1 a0 (a0.length + 1) 0 (List.replicate a0.length (TAuthority.mk 0 0 0)) = v1_1 := by rw [← e1]; simp only [l_toAuthorityS_1, h1, cond_true, cond_false]
    simp
    refine retOwn (rv := [.tmp 2]) rfl ?_
    have f1 : l_toAuthorityS a0 = v1_1 := by simp only [l_toAuthorityS, x1, cond_true, cond_false]
    simp [f1]
theorem l_toMethod_ok (a0 : TMethod) : SoundAt Try.prog 140 false [a0.row] [(l_toMethod a0).row] := by
  refine sound_of Try.func140 rfl (by kernel_rfl) ?_
  simp [Try.ntmps140]
  refine retRd (rv := [.cell 2 191]) rfl ?_
  have f1 : l_toMethod a0 = a0 := by simp only [l_toMethod, cond_true, cond_false]
  simp [f1]
theorem l_toMethodS_ok (a0 : List TMethod) (u0 : Sm 68719476736 a0) : SoundAt Try.prog 90 true [[.sl 4 (a0.map TMethod.row)]] [[.sl 4 ((l_toMethodS a0).map TMethod.row)]] := by
  refine sound_of Try.func90 rfl (by kernel_rfl) ?_
  have c1 : a0.length ≤ 68719476736 := sm_len (by simp [u0])
  simp [Try.ntmps90]
  repeat (refine ⟨by intros; omega, ?_⟩)
  refine okL fun k1 => ?_
  refine loopI (ι := { s : Nat × Nat × (List TMethod) // l_toMethodS_1 a0 s.1 s.2.1 s.2.2 = l_toMethodS_1 a0 (a0.length + 1) 0 (List.replicate a0.length (TMethod.mk 0 0 0 0)) ∧ (1 ≤ s.1 ∧ a0.length < s.1 + s.2.1 ∧ s.2.2.length = a0.length) }) (fun s => stOf 23 [(0, .one (.d (.sl 4 (a0.map TMethod.row))), []), (3, .one (.sref 7 0 0 s.1.2.2.length), []), (4, .one (.d (.int .i64 (↑s.1.2.1 : Int))), []), (7, .any, [.arr 4 (s.1.2.2.map TMethod.row)])]) (fun s => s.1.1) ⟨((a0.length + 1), 0, (List.replicate a0.length (TMethod.mk 0 0 0 0))), rfl, by first | omega | (dsimp only; omega) | simp⟩ (wk_keep (by simp)) ?_
  rintro ⟨⟨n1, v1_0, v1_1⟩, e1, j1⟩
  try dsimp only at e1 j1
  obtain ⟨p1, rfl⟩ : ∃ p, n1 = p + 1 := ⟨n1 - 1, by omega⟩
  simp
  refine condB (fun k2 q1 => ?_) (fun k2 q1 => ?_)
  · have h1 : (decide ((↑v1_0 : Int) < (↑a0.length : Int))) = true := by simpa using q1
    have i1 : v1_0 < a0.length := by simpa using q1
    have m2 : a0.length ≤ 9223372036854775807 := by simpa using k2 0 _ rfl
    have w1 : IntKind.i64.wrap ((v1_0 : Int) + 1) = (v1_0 : Int) + 1 := wrap_of (by omega) (by omega)
    try simp at q1
    simp [i1, rowAt_map]
    repeat (refine ⟨by intros; omega, ?_⟩)
    refine callRd rfl rfl rfl rfl (l_toMethod_ok (nth a0 v1_0)) (by simp) (by simp) (by simp) ?_
    have i2 : v1_0 < v1_1.length := by omega
    simp [i2, rowAt_map, set_map (x := (l_toMethod (nth a0 v1_0))) rfl]
    repeat (refine ⟨by intros; omega, ?_⟩)
    refine nxtI ⟨(p1, (v1_0 + 1), (v1_1.set v1_0 (l_toMethod (nth a0 v1_0)))), ?_, ?_⟩ (by simp) (wk_keep (by simp [w1]))
    · rw [← e1]; simp only [l_toMethodS_1, h1, cond_true, cond_false]
    · first | omega | (simp at *; omega)
  · have h1 : (decide ((↑v1_0 : Int) < (↑a0.length : Int))) = false := by simpa using q1
    try simp at q1
    have x1 : l_toMethodS_1 a0 (a0.length + 1) 0 (List.replicate a0.length (TMethod.mk 0 0 0 0)) = v1_1 := by rw [← e1]; simp only [l_toMethodS_1, h1, cond_true, cond_false]
    simp
    refine retOwn (rv := [.tmp 2]) rfl ?_
    have f1 : l_toMethodS a0 = v1_1 := by simp only [l_toMethodS, x1, cond_true, cond_false]
    simp [f1]
theorem l_toFrame_ok (a0 : TFrame) (u0 : Sm 68719476736 a0) : SoundAt Try.prog 27 true [a0.row] [(l_toFrame a0).row] := by
  refine sound_of Try.func27 rfl (by kernel_rfl) ?_
  simp [Try.ntmps27]
  refine callOwn rfl rfl rfl rfl (l_toKeyS_ok a0.Keys (by simp [u0])) (by simp) (by simp) (by simp) (by simp) ?_
  simp
  refine callOwn rfl rfl rfl rfl (l_toAuthorityS_ok a0.Authorities (by simp [u0])) (by simp) (by simp) (by simp) (by simp) ?_
  simp
  refine callOwn rfl rfl rfl rfl (l_toMethodS_ok a0.Methods (by simp [u0])) (by simp) (by simp) (by simp) (by simp) ?_
  simp
  refine retOwn (rv := [.cell 2 52]) rfl ?_
  have f1 : l_toFrame a0 = (TFrame.mk (l_toKeyS a0.Keys) (l_toAuthorityS a0.Authorities) (l_toMethodS a0.Methods) a0.Liars a0.Now) := by simp only [l_toFrame, cond_true, cond_false]
  simp [f1]
theorem s_FindKey_ok (a0 : List TKey) (a1 : Int) : SoundAt Try.prog 86 false [[.sl 5 (a0.map TKey.row)], [.int .i64 a1]] [[.int .i64 (s_FindKey a0 a1)]] := by
  refine sound_of Try.func86 rfl (by kernel_rfl) ?_
  simp [Try.ntmps86]
  refine okL fun k1 => ?_
  refine loopI (ι := { s : Nat × Nat // s_FindKey_1 a0 a1 s.1 s.2 = s_FindKey_1 a0 a1 (a0.length + 1) 0 ∧ (1 ≤ s.1 ∧ a0.length < s.1 + s.2) }) (fun s => stOf 20 [(0, .one (.d (.sl 5 (a0.map TKey.row))), []), (1, .one (.d (.int .i64 a1)), []), (5, .one (.d (.int .i64 (↑s.1.2 : Int))), [])]) (fun s => s.1.1) ⟨((a0.length + 1), 0), rfl, by first | omega | (dsimp only; omega) | simp⟩ (wk_keep (by simp)) ?_
  rintro ⟨⟨n1, v1_0⟩, e1, j1⟩
  try dsimp only at e1 j1
  obtain ⟨p1, rfl⟩ : ∃ p, n1 = p + 1 := ⟨n1 - 1, by omega⟩
  simp
  refine condB (fun k2 q1 => ?_) (fun k2 q1 => ?_)
  · have h1 : (decide ((↑v1_0 : Int) < (↑a0.length : Int))) = true := by simpa using q1
    have i1 : v1_0 < a0.length := by simpa using q1
    have m2 : a0.length ≤ 9223372036854775807 := by simpa using k2 0 _ rfl
    have w1 : IntKind.i64.wrap ((v1_0 : Int) + 1) = (v1_0 : Int) + 1 := wrap_of (by omega) (by omega)
    try simp at q1
    simp [i1, rowAt_map]
    repeat (refine ⟨by intros; omega, ?_⟩)
    refine condB (fun k3 q2 => ?_) (fun k3 q2 => ?_)
    · have h2 : ((nth a0 v1_0).Number == a1) = true := by simpa using q2
      try simp at q2
      have x1 : s_FindKey_1 a0 a1 (a0.length + 1) 0 = .inl (↑v1_0 : Int) := by rw [← e1]; simp only [s_FindKey_1, h1, h2, cond_true, cond_false]
      simp
      refine retRd (rv := [.tmp 4]) rfl ?_
      have f1 : s_FindKey a0 a1 = (↑v1_0 : Int) := by simp only [s_FindKey, x1, cond_true, cond_false]
      simp [f1]
    · have h2 : ((nth a0 v1_0).Number == a1) = false := by simpa using q2
      try simp at q2
      simp
      refine nxtI ⟨(p1, (v1_0 + 1)), ?_, ?_⟩ (by simp) (wk_keep (by simp [w1]))
      · rw [← e1]; simp only [s_FindKey_1, h1, h2, cond_true, cond_false]
      · first | omega | (simp at *; omega)
  · have h1 : (decide ((↑v1_0 : Int) < (↑a0.length : Int))) = false := by simpa using q1
    try simp at q1
    have x2 : s_FindKey_1 a0 a1 (a0.length + 1) 0 = .inr () := by rw [← e1]; simp only [s_FindKey_1, h1, cond_true, cond_false]
    simp
    refine retRd (rv := [.tmp 4]) rfl ?_
    have f2 : s_FindKey a0 a1 = (-1) := by simp only [s_FindKey, x2, cond_true, cond_false]
    simp [f2]
theorem s_FindMethod_ok (a0 : List TMethod) (a1 : Int) : SoundAt Try.prog 137 false [[.sl 4 (a0.map TMethod.row)], [.int .i64 a1]] [[.int .i64 (s_FindMethod a0 a1)]] := by
  refine sound_of Try.func137 rfl (by kernel_rfl) ?_
  simp [Try.ntmps137]
  refine okL fun k1 => ?_
  refine loopI (ι := { s : Nat × Nat // s_FindMethod_1 a0 a1 s.1 s.2 = s_FindMethod_1 a0 a1 (a0.length + 1) 0 ∧ (1 ≤ s.1 ∧ a0.length < s.1 + s.2) }) (fun s => stOf 20 [(0, .one (.d (.sl 4 (a0.map TMethod.row))), []), (1, .one (.d (.int .i64 a1)), []), (5, .one (.d (.int .i64 (↑s.1.2 : Int))), [])]) (fun s => s.1.1) ⟨((a0.length + 1), 0), rfl, by first | omega | (dsimp only; omega) | simp⟩ (wk_keep (by simp)) ?_
  rintro ⟨⟨n1, v1_0⟩, e1, j1⟩
  try dsimp only at e1 j1
  obtain ⟨p1, rfl⟩ : ∃ p, n1 = p + 1 := ⟨n1 - 1, by omega⟩
  simp
  refine condB (fun k2 q1 => ?_) (fun k2 q1 => ?_)
  · have h1 : (decide ((↑v1_0 : Int) < (↑a0.length : Int))) = true := by simpa using q1
    have i1 : v1_0 < a0.length := by simpa using q1
    have m2 : a0.length ≤ 9223372036854775807 := by simpa using k2 0 _ rfl
    have w1 : IntKind.i64.wrap ((v1_0 : Int) + 1) = (v1_0 : Int) + 1 := wrap_of (by omega) (by omega)
    try simp at q1
    simp [i1, rowAt_map]
    repeat (refine ⟨by intros; omega, ?_⟩)
    refine condB (fun k3 q2 => ?_) (fun k3 q2 => ?_)
    · have h2 : ((nth a0 v1_0).Id == a1) = true := by simpa using q2
      try simp at q2
      have x1 : s_FindMethod_1 a0 a1 (a0.length + 1) 0 = .inl (↑v1_0 : Int) := by rw [← e1]; simp only [s_FindMethod_1, h1, h2, cond_true, cond_false]
      simp
      refine retRd (rv := [.tmp 4]) rfl ?_
      have f1 : s_FindMethod a0 a1 = (↑v1_0 : Int) := by simp only [s_FindMethod, x1, cond_true, cond_false]
      simp [f1]
    · have h2 : ((nth a0 v1_0).Id == a1) = false := by simpa using q2
      try simp at q2
      simp
      refine nxtI ⟨(p1, (v1_0 + 1)), ?_, ?_⟩ (by simp) (wk_keep (by simp [w1]))
      · rw [← e1]; simp only [s_FindMethod_1, h1, h2, cond_true, cond_false]
      · first | omega | (simp at *; omega)
  · have h1 : (decide ((↑v1_0 : Int) < (↑a0.length : Int))) = false := by simpa using q1
    try simp at q1
    have x2 : s_FindMethod_1 a0 a1 (a0.length + 1) 0 = .inr () := by rw [← e1]; simp only [s_FindMethod_1, h1, cond_true, cond_false]
    simp
    refine retRd (rv := [.tmp 4]) rfl ?_
    have f2 : s_FindMethod a0 a1 = (-1) := by simp only [s_FindMethod, x2, cond_true, cond_false]
    simp [f2]
theorem s_BreakOf_ok (a0 : List TMethod) (a1 : Int) : SoundAt Try.prog 87 false [[.sl 4 (a0.map TMethod.row)], [.int .i64 a1]] [[.int .i64 (s_BreakOf a0 a1)]] := by
  refine sound_of Try.func87 rfl (by kernel_rfl) ?_
  simp [Try.ntmps87]
  refine callRd rfl rfl rfl rfl (s_FindMethod_ok a0 a1) (by simp) (by simp) (by simp) ?_
  simp
  refine condB (fun k1 q1 => ?_) (fun k1 q1 => ?_)
  · have h1 : (decide ((s_FindMethod a0 a1) < 0)) = true := by simpa using q1
    try simp at q1
    simp
    refine retRd (rv := [.tmp 4]) rfl ?_
    have f1 : s_BreakOf a0 a1 = 0 := by simp only [s_BreakOf, h1, cond_true, cond_false]
    simp [f1]
  · have h1 : (decide ((s_FindMethod a0 a1) < 0)) = false := by simpa using q1
    try simp at q1
    have i1 : (s_FindMethod a0 a1).toNat < a0.length := by have := s_FindMethod_lt a0 a1; omega
    simp [i1, rowAt_map]
    repeat (refine ⟨by intros; omega, ?_⟩)
    refine retRd (rv := [.tmp 4]) rfl ?_
    have f2 : s_BreakOf a0 a1 = (nth a0 (s_FindMethod a0 a1).toNat).Broken := by simp only [s_BreakOf, h1, cond_true, cond_false]
    simp [f2]
theorem s_IsStolen_ok (a0 : TFrame) (a1 : Int) : SoundAt Try.prog 26 false [a0.row, [.int .i64 a1]] [[.bool (s_IsStolen a0 a1)]] := by
  refine sound_of Try.func26 rfl (by kernel_rfl) ?_
  simp [Try.ntmps26]
  refine callRd rfl rfl rfl rfl (s_FindKey_ok a0.Keys a1) (by simp) (by simp) (by simp) ?_
  simp
  refine okD fun k1 => ?_
  refine drawI mixed (by kernel_rfl) (by kernel_rfl) ?_
  simp
  refine guardI rfl rfl rfl rfl rfl (by simp) (fun g1 => ?_) (fun g1 => ?_)
  · have g1x := g1; try simp only [beq_true, beq_false, Bool.not_eq_true', Bool.not_eq_false', Bool.true_and, Bool.and_true] at g1x
    try simp at g1
    have i1 : (s_FindKey a0.Keys a1).toNat < a0.Keys.length := by have := s_FindKey_lt a0.Keys a1; omega
    simp [i1, rowAt_map, g1x]
    repeat (refine ⟨by intros; omega, ?_⟩)
    refine callG rfl rfl rfl rfl rfl rfl (fun _ => (s_BreakOf_ok a0.Methods (nth a0.Keys (s_FindKey a0.Keys a1).toNat).Method)) (by simp) (by simp) (by simp) (by simp) ?_
    simp [g1x]
    refine retRd (rv := [.tmp 4]) rfl ?_
    have f1 : s_IsStolen a0 a1 = ((decide ((s_FindKey a0.Keys a1) ≥ 0)) && (decide (a0.Now ≥ (s_BreakOf a0.Methods (nth a0.Keys (s_FindKey a0.Keys a1).toNat).Method)))) := by simp only [s_IsStolen, cond_true, cond_false]
    simp [f1, g1x]
  · have g1x := g1; try simp only [beq_true, beq_false, Bool.not_eq_true', Bool.not_eq_false', Bool.true_and, Bool.and_true] at g1x
    simp [g1x]
    refine skipG rfl rfl rfl rfl (by simp) (by simp [g1x]) ?_
    simp [g1x]
    refine retRd (rv := [.tmp 4]) rfl ?_
    have f2 : s_IsStolen a0 a1 = ((decide ((s_FindKey a0.Keys a1) ≥ 0)) && (decide (a0.Now ≥ (s_BreakOf a0.Methods (nth a0.Keys (s_FindKey a0.Keys a1).toNat).Method)))) := by simp only [s_IsStolen, cond_true, cond_false]
    simp [f2, g1x]
theorem i_FindKey_ok (a0 : List TKey) (a1 : Int) : SoundAt Try.prog 91 false [[.sl 5 (a0.map TKey.row)], [.int .i64 a1]] [[.int .i64 (i_FindKey a0 a1)]] := by
  refine sound_of Try.func91 rfl (by kernel_rfl) ?_
  simp [Try.ntmps91]
  refine okL fun k1 => ?_
  refine loopI (ι := { s : Nat × Nat // i_FindKey_1 a0 a1 s.1 s.2 = i_FindKey_1 a0 a1 (a0.length + 1) 0 ∧ (1 ≤ s.1 ∧ a0.length < s.1 + s.2) }) (fun s => stOf 20 [(1, .one (.d (.int .i64 a1)), []), (7, .one (.d (.sl 5 (a0.map TKey.row))), []), (8, .one (.d (.int .i64 (↑a0.length : Int))), []), (9, .one (.d (.int .i64 (↑s.1.2 : Int))), [])]) (fun s => s.1.1) ⟨((a0.length + 1), 0), rfl, by first | omega | (dsimp only; omega) | simp⟩ (wk_keep (by simp)) ?_
  rintro ⟨⟨n1, v1_0⟩, e1, j1⟩
  try dsimp only at e1 j1
  obtain ⟨p1, rfl⟩ : ∃ p, n1 = p + 1 := ⟨n1 - 1, by omega⟩
  simp
  refine condB (fun k2 q1 => ?_) (fun k2 q1 => ?_)
  · have h1 : (decide ((↑v1_0 : Int) < (↑a0.length : Int))) = true := by simpa using q1
    have i1 : v1_0 < a0.length := by simpa using q1
    have m2 : a0.length ≤ 9223372036854775807 := by simpa using k2 7 _ rfl
    have w1 : IntKind.i64.wrap ((v1_0 : Int) + 1) = (v1_0 : Int) + 1 := wrap_of (by omega) (by omega)
    try simp at q1
    simp [i1, rowAt_map]
    repeat (refine ⟨by intros; omega, ?_⟩)
    refine condB (fun k3 q2 => ?_) (fun k3 q2 => ?_)
    · have h2 : ((nth a0 v1_0).Number == a1) = true := by simpa using q2
      try simp at q2
      have x1 : i_FindKey_1 a0 a1 (a0.length + 1) 0 = .inl (↑v1_0 : Int) := by rw [← e1]; simp only [i_FindKey_1, h1, h2, cond_true, cond_false]
      simp
      refine retRd (rv := [.tmp 4]) rfl ?_
      have f1 : i_FindKey a0 a1 = (↑v1_0 : Int) := by simp only [i_FindKey, x1, cond_true, cond_false]
      simp [f1]
    · have h2 : ((nth a0 v1_0).Number == a1) = false := by simpa using q2
      try simp at q2
      simp
      refine nxtI ⟨(p1, (v1_0 + 1)), ?_, ?_⟩ (by simp) (wk_keep (by simp [w1]))
      · rw [← e1]; simp only [i_FindKey_1, h1, h2, cond_true, cond_false]
      · first | omega | (simp at *; omega)
  · have h1 : (decide ((↑v1_0 : Int) < (↑a0.length : Int))) = false := by simpa using q1
    try simp at q1
    have x2 : i_FindKey_1 a0 a1 (a0.length + 1) 0 = .inr () := by rw [← e1]; simp only [i_FindKey_1, h1, cond_true, cond_false]
    simp
    refine retRd (rv := [.tmp 4]) rfl ?_
    have f2 : i_FindKey a0 a1 = (-1) := by simp only [i_FindKey, x2, cond_true, cond_false]
    simp [f2]
theorem i_FindMethod_ok (a0 : List TMethod) (a1 : Int) : SoundAt Try.prog 163 false [[.sl 4 (a0.map TMethod.row)], [.int .i64 a1]] [[.int .i64 (i_FindMethod a0 a1)]] := by
  refine sound_of Try.func163 rfl (by kernel_rfl) ?_
  simp [Try.ntmps163]
  refine okL fun k1 => ?_
  refine loopI (ι := { s : Nat × Nat // i_FindMethod_1 a0 a1 s.1 s.2 = i_FindMethod_1 a0 a1 (a0.length + 1) 0 ∧ (1 ≤ s.1 ∧ a0.length < s.1 + s.2) }) (fun s => stOf 20 [(1, .one (.d (.int .i64 a1)), []), (7, .one (.d (.sl 4 (a0.map TMethod.row))), []), (8, .one (.d (.int .i64 (↑a0.length : Int))), []), (9, .one (.d (.int .i64 (↑s.1.2 : Int))), [])]) (fun s => s.1.1) ⟨((a0.length + 1), 0), rfl, by first | omega | (dsimp only; omega) | simp⟩ (wk_keep (by simp)) ?_
  rintro ⟨⟨n1, v1_0⟩, e1, j1⟩
  try dsimp only at e1 j1
  obtain ⟨p1, rfl⟩ : ∃ p, n1 = p + 1 := ⟨n1 - 1, by omega⟩
  simp
  refine condB (fun k2 q1 => ?_) (fun k2 q1 => ?_)
  · have h1 : (decide ((↑v1_0 : Int) < (↑a0.length : Int))) = true := by simpa using q1
    have i1 : v1_0 < a0.length := by simpa using q1
    have m2 : a0.length ≤ 9223372036854775807 := by simpa using k2 7 _ rfl
    have w1 : IntKind.i64.wrap ((v1_0 : Int) + 1) = (v1_0 : Int) + 1 := wrap_of (by omega) (by omega)
    try simp at q1
    simp [i1, rowAt_map]
    repeat (refine ⟨by intros; omega, ?_⟩)
    refine condB (fun k3 q2 => ?_) (fun k3 q2 => ?_)
    · have h2 : ((nth a0 v1_0).Id == a1) = true := by simpa using q2
      try simp at q2
      have x1 : i_FindMethod_1 a0 a1 (a0.length + 1) 0 = .inl (↑v1_0 : Int) := by rw [← e1]; simp only [i_FindMethod_1, h1, h2, cond_true, cond_false]
      simp
      refine retRd (rv := [.tmp 4]) rfl ?_
      have f1 : i_FindMethod a0 a1 = (↑v1_0 : Int) := by simp only [i_FindMethod, x1, cond_true, cond_false]
      simp [f1]
    · have h2 : ((nth a0 v1_0).Id == a1) = false := by simpa using q2
      try simp at q2
      simp
      refine nxtI ⟨(p1, (v1_0 + 1)), ?_, ?_⟩ (by simp) (wk_keep (by simp [w1]))
      · rw [← e1]; simp only [i_FindMethod_1, h1, h2, cond_true, cond_false]
      · first | omega | (simp at *; omega)
  · have h1 : (decide ((↑v1_0 : Int) < (↑a0.length : Int))) = false := by simpa using q1
    try simp at q1
    have x2 : i_FindMethod_1 a0 a1 (a0.length + 1) 0 = .inr () := by rw [← e1]; simp only [i_FindMethod_1, h1, cond_true, cond_false]
    simp
    refine retRd (rv := [.tmp 4]) rfl ?_
    have f2 : i_FindMethod a0 a1 = (-1) := by simp only [i_FindMethod, x2, cond_true, cond_false]
    simp [f2]
theorem i_BreakOf_ok (a0 : List TMethod) (a1 : Int) : SoundAt Try.prog 141 false [[.sl 4 (a0.map TMethod.row)], [.int .i64 a1]] [[.int .i64 (i_BreakOf a0 a1)]] := by
  refine sound_of Try.func141 rfl (by kernel_rfl) ?_
  simp [Try.ntmps141]
  refine callRd rfl rfl rfl rfl (i_FindMethod_ok a0 a1) (by simp) (by simp) (by simp) ?_
  simp
  refine condB (fun k1 q1 => ?_) (fun k1 q1 => ?_)
  · have h1 : (decide ((i_FindMethod a0 a1) ≥ 0)) = true := by simpa using q1
    try simp at q1
    have i1 : (i_FindMethod a0 a1).toNat < a0.length := by have := i_FindMethod_lt a0 a1; omega
    simp [i1, rowAt_map]
    repeat (refine ⟨by intros; omega, ?_⟩)
    refine retRd (rv := [.tmp 4]) rfl ?_
    have f1 : i_BreakOf a0 a1 = (nth a0 (i_FindMethod a0 a1).toNat).Broken := by simp only [i_BreakOf, h1, cond_true, cond_false]
    simp [f1]
  · have h1 : (decide ((i_FindMethod a0 a1) ≥ 0)) = false := by simpa using q1
    try simp at q1
    simp
    refine retRd (rv := [.tmp 4]) rfl ?_
    have f2 : i_BreakOf a0 a1 = 0 := by simp only [i_BreakOf, h1, cond_true, cond_false]
    simp [f2]
theorem i_breakOfKey_ok (a0 : TFrame) (a1 : Int) : SoundAt Try.prog 92 false [a0.row, [.int .i64 a1]] [[.int .i64 (i_breakOfKey a0 a1)]] := by
  refine sound_of Try.func92 rfl (by kernel_rfl) ?_
  simp [Try.ntmps92]
  refine callRd rfl rfl rfl rfl (i_FindKey_ok a0.Keys a1) (by simp) (by simp) (by simp) ?_
  simp
  refine condB (fun k1 q1 => ?_) (fun k1 q1 => ?_)
  · have h1 : (decide ((i_FindKey a0.Keys a1) < 0)) = true := by simpa using q1
    try simp at q1
    simp
    refine retRd (rv := [.tmp 4]) rfl ?_
    have f1 : i_breakOfKey a0 a1 = 0 := by simp only [i_breakOfKey, h1, cond_true, cond_false]
    simp [f1]
  · have h1 : (decide ((i_FindKey a0.Keys a1) < 0)) = false := by simpa using q1
    try simp at q1
    simp
    refine okD fun k2 => ?_
    refine drawI mixed (by kernel_rfl) (by kernel_rfl) ?_
    have i1 : (i_FindKey a0.Keys a1).toNat < a0.Keys.length := by have := i_FindKey_lt a0.Keys a1; omega
    simp [i1, rowAt_map]
    repeat (refine ⟨by intros; omega, ?_⟩)
    refine callRd rfl rfl rfl rfl (i_BreakOf_ok a0.Methods (nth a0.Keys (i_FindKey a0.Keys a1).toNat).Method) (by simp) (by simp) (by simp) ?_
    simp
    refine retRd (rv := [.tmp 4]) rfl ?_
    have f2 : i_breakOfKey a0 a1 = (i_BreakOf a0.Methods (nth a0.Keys (i_FindKey a0.Keys a1).toNat).Method) := by simp only [i_breakOfKey, h1, cond_true, cond_false]
    simp [f2]
theorem i_IsStolen_ok (a0 : TFrame) (a1 : Int) : SoundAt Try.prog 28 false [a0.row, [.int .i64 a1]] [[.bool (i_IsStolen a0 a1)]] := by
  refine sound_of Try.func28 rfl (by kernel_rfl) ?_
  simp [Try.ntmps28]
  refine okD fun k1 => ?_
  refine drawI mixed (by kernel_rfl) (by kernel_rfl) ?_
  simp
  refine callRd rfl rfl rfl rfl (i_FindKey_ok a0.Keys a1) (by simp) (by simp) (by simp) ?_
  simp
  refine callG rfl rfl rfl rfl rfl rfl (fun _ => (i_breakOfKey_ok a0 a1)) (by simp) (by simp) (by simp) (by simp) ?_
  simp
  refine retRd (rv := [.tmp 4]) rfl ?_
  have f1 : i_IsStolen a0 a1 = ((decide ((i_FindKey a0.Keys a1) ≥ 0)) && (decide (a0.Now ≥ (i_breakOfKey a0 a1)))) := by simp only [i_IsStolen, cond_true, cond_false]
  simp [f1]
theorem l_eqKey_ok (a0 : TKey) (a1 : TKey) : SoundAt Try.prog 142 false [a0.row, a1.row] [[.bool (l_eqKey a0 a1)]] := by
  refine sound_of Try.func142 rfl (by kernel_rfl) ?_
  simp [Try.ntmps142]
  refine condB (fun k1 q1 => ?_) (fun k1 q1 => ?_)
  · have h1 : (a0.Number != a1.Number) = true := by simpa using q1
    try simp at q1
    simp
    refine retRd (rv := [.tmp 4]) rfl ?_
    have f1 : l_eqKey a0 a1 = false := by simp only [l_eqKey, h1, cond_true, cond_false]
    simp [f1]
  · have h1 : (a0.Number != a1.Number) = false := by simpa using q1
    try simp at q1
    simp
    refine condB (fun k2 q2 => ?_) (fun k2 q2 => ?_)
    · have h2 : (a0.Owner != a1.Owner) = true := by simpa using q2
      try simp at q2
      simp
      refine retRd (rv := [.tmp 4]) rfl ?_
      have f2 : l_eqKey a0 a1 = false := by simp only [l_eqKey, h1, h2, cond_true, cond_false]
      simp [f2]
    · have h2 : (a0.Owner != a1.Owner) = false := by simpa using q2
      try simp at q2
      simp
      refine condB (fun k3 q3 => ?_) (fun k3 q3 => ?_)
      · have h3 : (a0.Method != a1.Method) = true := by simpa using q3
        try simp at q3
        simp
        refine retRd (rv := [.tmp 4]) rfl ?_
        have f3 : l_eqKey a0 a1 = false := by simp only [l_eqKey, h1, h2, h3, cond_true, cond_false]
        simp [f3]
      · have h3 : (a0.Method != a1.Method) = false := by simpa using q3
        try simp at q3
        simp
        refine condB (fun k4 q4 => ?_) (fun k4 q4 => ?_)
        · have h4 : (a0.Born != a1.Born) = true := by simpa using q4
          try simp at q4
          simp
          refine retRd (rv := [.tmp 4]) rfl ?_
          have f4 : l_eqKey a0 a1 = false := by simp only [l_eqKey, h1, h2, h3, h4, cond_true, cond_false]
          simp [f4]
        · have h4 : (a0.Born != a1.Born) = false := by simpa using q4
          try simp at q4
          simp
          refine condB (fun k5 q5 => ?_) (fun k5 q5 => ?_)
          · have h5 : (a0.Secret != a1.Secret) = true := by simpa using q5
            try simp at q5
            simp
            refine retRd (rv := [.tmp 4]) rfl ?_
            have f5 : l_eqKey a0 a1 = false := by simp only [l_eqKey, h1, h2, h3, h4, h5, cond_true, cond_false]
            simp [f5]
          · have h5 : (a0.Secret != a1.Secret) = false := by simpa using q5
            try simp at q5
            simp
            refine retRd (rv := [.tmp 4]) rfl ?_
            have f6 : l_eqKey a0 a1 = true := by simp only [l_eqKey, h1, h2, h3, h4, h5, cond_true, cond_false]
            simp [f6]
theorem l_eqKeyS_ok (a0 : List TKey) (a1 : List TKey) : SoundAt Try.prog 93 false [[.sl 5 (a0.map TKey.row)], [.sl 5 (a1.map TKey.row)]] [[.bool (l_eqKeyS a0 a1)]] := by
  refine sound_of Try.func93 rfl (by kernel_rfl) ?_
  simp [Try.ntmps93]
  refine condB (fun k1 q1 => ?_) (fun k1 q1 => ?_)
  · have h1 : ((↑a0.length : Int) != (↑a1.length : Int)) = true := by simpa using q1
    try simp at q1
    simp
    refine retRd (rv := [.tmp 4]) rfl ?_
    have f1 : l_eqKeyS a0 a1 = false := by simp only [l_eqKeyS, h1, cond_true, cond_false]
    simp [f1]
  · have h1 : ((↑a0.length : Int) != (↑a1.length : Int)) = false := by simpa using q1
    try simp at q1
    simp
    refine okL fun k2 => ?_
    refine loopI (ι := { s : Nat × Nat // l_eqKeyS_1 a0 a1 s.1 s.2 = l_eqKeyS_1 a0 a1 (a0.length + 1) 0 ∧ (1 ≤ s.1 ∧ a0.length < s.1 + s.2) }) (fun s => stOf 27 [(0, .one (.d (.sl 5 (a0.map TKey.row))), []), (1, .one (.d (.sl 5 (a1.map TKey.row))), []), (5, .one (.d (.int .i64 (↑s.1.2 : Int))), [])]) (fun s => s.1.1) ⟨((a0.length + 1), 0), rfl, by first | omega | (dsimp only; omega) | simp⟩ (wk_keep (by simp)) ?_
    rintro ⟨⟨n1, v1_0⟩, e1, j1⟩
    try dsimp only at e1 j1
    obtain ⟨p1, rfl⟩ : ∃ p, n1 = p + 1 := ⟨n1 - 1, by omega⟩
    simp
    refine condB (fun k3 q2 => ?_) (fun k3 q2 => ?_)
    · have h2 : (decide ((↑v1_0 : Int) < (↑a0.length : Int))) = true := by simpa using q2
      have i1 : v1_0 < a0.length := by simpa using q2
      have m2 : a0.length ≤ 9223372036854775807 := by simpa using k3 0 _ rfl
      have w1 : IntKind.i64.wrap ((v1_0 : Int) + 1) = (v1_0 : Int) + 1 := wrap_of (by omega) (by omega)
      try simp at q2
      simp
      refine okD fun k4 => ?_
      refine drawI mixed (by kernel_rfl) (by kernel_rfl) ?_
      have i2 : v1_0 < a1.length := by omega
      simp [i1, rowAt_map, i2]
      repeat (refine ⟨by intros; omega, ?_⟩)
      refine callRd rfl rfl rfl rfl (l_eqKey_ok (nth a0 v1_0) (nth a1 v1_0)) (by simp) (by simp) (by simp) ?_
      simp
      refine condB (fun k5 q3 => ?_) (fun k5 q3 => ?_)
      · have h3 : (!(l_eqKey (nth a0 v1_0) (nth a1 v1_0))) = true := by simpa using q3
        try simp at q3
        have x1 : l_eqKeyS_1 a0 a1 (a0.length + 1) 0 = .inl false := by rw [← e1]; simp only [l_eqKeyS_1, h2, h3, cond_true, cond_false]
        simp
        refine retRd (rv := [.tmp 4]) rfl ?_
        have f2 : l_eqKeyS a0 a1 = false := by simp only [l_eqKeyS, h1, x1, cond_true, cond_false]
        simp [f2]
      · have h3 : (!(l_eqKey (nth a0 v1_0) (nth a1 v1_0))) = false := by simpa using q3
        try simp at q3
        simp
        refine nxtI ⟨(p1, (v1_0 + 1)), ?_, ?_⟩ (by simp) (wk_keep (by simp [w1]))
        · rw [← e1]; simp only [l_eqKeyS_1, h2, h3, cond_true, cond_false]
        · first | omega | (simp at *; omega)
    · have h2 : (decide ((↑v1_0 : Int) < (↑a0.length : Int))) = false := by simpa using q2
      try simp at q2
      have x2 : l_eqKeyS_1 a0 a1 (a0.length + 1) 0 = .inr () := by rw [← e1]; simp only [l_eqKeyS_1, h2, cond_true, cond_false]
      simp
      refine retRd (rv := [.tmp 4]) rfl ?_
      have f3 : l_eqKeyS a0 a1 = true := by simp only [l_eqKeyS, h1, x2, cond_true, cond_false]
      simp [f3]
theorem l_eqAuthority_ok (a0 : TAuthority) (a1 : TAuthority) : SoundAt Try.prog 143 false [a0.row, a1.row] [[.bool (l_eqAuthority a0 a1)]] := by
  refine sound_of Try.func143 rfl (by kernel_rfl) ?_
  simp [Try.ntmps143]
  refine condB (fun k1 q1 => ?_) (fun k1 q1 => ?_)
  · have h1 : (a0.Id != a1.Id) = true := by simpa using q1
    try simp at q1
    simp
    refine retRd (rv := [.tmp 4]) rfl ?_
    have f1 : l_eqAuthority a0 a1 = false := by simp only [l_eqAuthority, h1, cond_true, cond_false]
    simp [f1]
  · have h1 : (a0.Id != a1.Id) = false := by simpa using q1
    try simp at q1
    simp
    refine condB (fun k2 q2 => ?_) (fun k2 q2 => ?_)
    · have h2 : (a0.Key != a1.Key) = true := by simpa using q2
      try simp at q2
      simp
      refine retRd (rv := [.tmp 4]) rfl ?_
      have f2 : l_eqAuthority a0 a1 = false := by simp only [l_eqAuthority, h1, h2, cond_true, cond_false]
      simp [f2]
    · have h2 : (a0.Key != a1.Key) = false := by simpa using q2
      try simp at q2
      simp
      refine condB (fun k3 q3 => ?_) (fun k3 q3 => ?_)
      · have h3 : (a0.Error != a1.Error) = true := by simpa using q3
        try simp at q3
        simp
        refine retRd (rv := [.tmp 4]) rfl ?_
        have f3 : l_eqAuthority a0 a1 = false := by simp only [l_eqAuthority, h1, h2, h3, cond_true, cond_false]
        simp [f3]
      · have h3 : (a0.Error != a1.Error) = false := by simpa using q3
        try simp at q3
        simp
        refine retRd (rv := [.tmp 4]) rfl ?_
        have f4 : l_eqAuthority a0 a1 = true := by simp only [l_eqAuthority, h1, h2, h3, cond_true, cond_false]
        simp [f4]
theorem l_eqAuthorityS_ok (a0 : List TAuthority) (a1 : List TAuthority) : SoundAt Try.prog 94 false [[.sl 3 (a0.map TAuthority.row)], [.sl 3 (a1.map TAuthority.row)]] [[.bool (l_eqAuthorityS a0 a1)]] := by
  refine sound_of Try.func94 rfl (by kernel_rfl) ?_
  simp [Try.ntmps94]
  refine condB (fun k1 q1 => ?_) (fun k1 q1 => ?_)
  · have h1 : ((↑a0.length : Int) != (↑a1.length : Int)) = true := by simpa using q1
    try simp at q1
    simp
    refine retRd (rv := [.tmp 4]) rfl ?_
    have f1 : l_eqAuthorityS a0 a1 = false := by simp only [l_eqAuthorityS, h1, cond_true, cond_false]
    simp [f1]
  · have h1 : ((↑a0.length : Int) != (↑a1.length : Int)) = false := by simpa using q1
    try simp at q1
    simp
    refine okL fun k2 => ?_
    refine loopI (ι := { s : Nat × Nat // l_eqAuthorityS_1 a0 a1 s.1 s.2 = l_eqAuthorityS_1 a0 a1 (a0.length + 1) 0 ∧ (1 ≤ s.1 ∧ a0.length < s.1 + s.2) }) (fun s => stOf 27 [(0, .one (.d (.sl 3 (a0.map TAuthority.row))), []), (1, .one (.d (.sl 3 (a1.map TAuthority.row))), []), (5, .one (.d (.int .i64 (↑s.1.2 : Int))), [])]) (fun s => s.1.1) ⟨((a0.length + 1), 0), rfl, by first | omega | (dsimp only; omega) | simp⟩ (wk_keep (by simp)) ?_
    rintro ⟨⟨n1, v1_0⟩, e1, j1⟩
    try dsimp only at e1 j1
    obtain ⟨p1, rfl⟩ : ∃ p, n1 = p + 1 := ⟨n1 - 1, by omega⟩
    simp
    refine condB (fun k3 q2 => ?_) (fun k3 q2 => ?_)
    · have h2 : (decide ((↑v1_0 : Int) < (↑a0.length : Int))) = true := by simpa using q2
      have i1 : v1_0 < a0.length := by simpa using q2
      have m2 : a0.length ≤ 9223372036854775807 := by simpa using k3 0 _ rfl
      have w1 : IntKind.i64.wrap ((v1_0 : Int) + 1) = (v1_0 : Int) + 1 := wrap_of (by omega) (by omega)
      try simp at q2
      simp
      refine okD fun k4 => ?_
      refine drawI mixed (by kernel_rfl) (by kernel_rfl) ?_
      have i2 : v1_0 < a1.length := by omega
      simp [i1, rowAt_map, i2]
      repeat (refine ⟨by intros; omega, ?_⟩)
      refine callRd rfl rfl rfl rfl (l_eqAuthority_ok (nth a0 v1_0) (nth a1 v1_0)) (by simp) (by simp) (by simp) ?_
      simp
      refine condB (fun k5 q3 => ?_) (fun k5 q3 => ?_)
      · have h3 : (!(l_eqAuthority (nth a0 v1_0) (nth a1 v1_0))) = true := by simpa using q3
        try simp at q3
        have x1 : l_eqAuthorityS_1 a0 a1 (a0.length + 1) 0 = .inl false := by rw [← e1]; simp only [l_eqAuthorityS_1, h2, h3, cond_true, cond_false]
        simp
        refine retRd (rv := [.tmp 4]) rfl ?_
        have f2 : l_eqAuthorityS a0 a1 = false := by simp only [l_eqAuthorityS, h1, x1, cond_true, cond_false]
        simp [f2]
      · have h3 : (!(l_eqAuthority (nth a0 v1_0) (nth a1 v1_0))) = false := by simpa using q3
        try simp at q3
        simp
        refine nxtI ⟨(p1, (v1_0 + 1)), ?_, ?_⟩ (by simp) (wk_keep (by simp [w1]))
        · rw [← e1]; simp only [l_eqAuthorityS_1, h2, h3, cond_true, cond_false]
        · first | omega | (simp at *; omega)
    · have h2 : (decide ((↑v1_0 : Int) < (↑a0.length : Int))) = false := by simpa using q2
      try simp at q2
      have x2 : l_eqAuthorityS_1 a0 a1 (a0.length + 1) 0 = .inr () := by rw [← e1]; simp only [l_eqAuthorityS_1, h2, cond_true, cond_false]
      simp
      refine retRd (rv := [.tmp 4]) rfl ?_
      have f3 : l_eqAuthorityS a0 a1 = true := by simp only [l_eqAuthorityS, h1, x2, cond_true, cond_false]
      simp [f3]
theorem l_eqMethod_ok (a0 : TMethod) (a1 : TMethod) : SoundAt Try.prog 144 false [a0.row, a1.row] [[.bool (l_eqMethod a0 a1)]] := by
  refine sound_of Try.func144 rfl (by kernel_rfl) ?_
  simp [Try.ntmps144]
  refine condB (fun k1 q1 => ?_) (fun k1 q1 => ?_)
  · have h1 : (a0.Id != a1.Id) = true := by simpa using q1
    try simp at q1
    simp
    refine retRd (rv := [.tmp 4]) rfl ?_
    have f1 : l_eqMethod a0 a1 = false := by simp only [l_eqMethod, h1, cond_true, cond_false]
    simp [f1]
  · have h1 : (a0.Id != a1.Id) = false := by simpa using q1
    try simp at q1
    simp
    refine condB (fun k2 q2 => ?_) (fun k2 q2 => ?_)
    · have h2 : (a0.Known != a1.Known) = true := by simpa using q2
      try simp at q2
      simp
      refine retRd (rv := [.tmp 4]) rfl ?_
      have f2 : l_eqMethod a0 a1 = false := by simp only [l_eqMethod, h1, h2, cond_true, cond_false]
      simp [f2]
    · have h2 : (a0.Known != a1.Known) = false := by simpa using q2
      try simp at q2
      simp
      refine condB (fun k3 q3 => ?_) (fun k3 q3 => ?_)
      · have h3 : (a0.Ends != a1.Ends) = true := by simpa using q3
        try simp at q3
        simp
        refine retRd (rv := [.tmp 4]) rfl ?_
        have f3 : l_eqMethod a0 a1 = false := by simp only [l_eqMethod, h1, h2, h3, cond_true, cond_false]
        simp [f3]
      · have h3 : (a0.Ends != a1.Ends) = false := by simpa using q3
        try simp at q3
        simp
        refine condB (fun k4 q4 => ?_) (fun k4 q4 => ?_)
        · have h4 : (a0.Broken != a1.Broken) = true := by simpa using q4
          try simp at q4
          simp
          refine retRd (rv := [.tmp 4]) rfl ?_
          have f4 : l_eqMethod a0 a1 = false := by simp only [l_eqMethod, h1, h2, h3, h4, cond_true, cond_false]
          simp [f4]
        · have h4 : (a0.Broken != a1.Broken) = false := by simpa using q4
          try simp at q4
          simp
          refine retRd (rv := [.tmp 4]) rfl ?_
          have f5 : l_eqMethod a0 a1 = true := by simp only [l_eqMethod, h1, h2, h3, h4, cond_true, cond_false]
          simp [f5]
theorem l_eqMethodS_ok (a0 : List TMethod) (a1 : List TMethod) : SoundAt Try.prog 95 false [[.sl 4 (a0.map TMethod.row)], [.sl 4 (a1.map TMethod.row)]] [[.bool (l_eqMethodS a0 a1)]] := by
  refine sound_of Try.func95 rfl (by kernel_rfl) ?_
  simp [Try.ntmps95]
  refine condB (fun k1 q1 => ?_) (fun k1 q1 => ?_)
  · have h1 : ((↑a0.length : Int) != (↑a1.length : Int)) = true := by simpa using q1
    try simp at q1
    simp
    refine retRd (rv := [.tmp 4]) rfl ?_
    have f1 : l_eqMethodS a0 a1 = false := by simp only [l_eqMethodS, h1, cond_true, cond_false]
    simp [f1]
  · have h1 : ((↑a0.length : Int) != (↑a1.length : Int)) = false := by simpa using q1
    try simp at q1
    simp
    refine okL fun k2 => ?_
    refine loopI (ι := { s : Nat × Nat // l_eqMethodS_1 a0 a1 s.1 s.2 = l_eqMethodS_1 a0 a1 (a0.length + 1) 0 ∧ (1 ≤ s.1 ∧ a0.length < s.1 + s.2) }) (fun s => stOf 27 [(0, .one (.d (.sl 4 (a0.map TMethod.row))), []), (1, .one (.d (.sl 4 (a1.map TMethod.row))), []), (5, .one (.d (.int .i64 (↑s.1.2 : Int))), [])]) (fun s => s.1.1) ⟨((a0.length + 1), 0), rfl, by first | omega | (dsimp only; omega) | simp⟩ (wk_keep (by simp)) ?_
    rintro ⟨⟨n1, v1_0⟩, e1, j1⟩
    try dsimp only at e1 j1
    obtain ⟨p1, rfl⟩ : ∃ p, n1 = p + 1 := ⟨n1 - 1, by omega⟩
    simp
    refine condB (fun k3 q2 => ?_) (fun k3 q2 => ?_)
    · have h2 : (decide ((↑v1_0 : Int) < (↑a0.length : Int))) = true := by simpa using q2
      have i1 : v1_0 < a0.length := by simpa using q2
      have m2 : a0.length ≤ 9223372036854775807 := by simpa using k3 0 _ rfl
      have w1 : IntKind.i64.wrap ((v1_0 : Int) + 1) = (v1_0 : Int) + 1 := wrap_of (by omega) (by omega)
      try simp at q2
      simp
      refine okD fun k4 => ?_
      refine drawI mixed (by kernel_rfl) (by kernel_rfl) ?_
      have i2 : v1_0 < a1.length := by omega
      simp [i1, rowAt_map, i2]
      repeat (refine ⟨by intros; omega, ?_⟩)
      refine callRd rfl rfl rfl rfl (l_eqMethod_ok (nth a0 v1_0) (nth a1 v1_0)) (by simp) (by simp) (by simp) ?_
      simp
      refine condB (fun k5 q3 => ?_) (fun k5 q3 => ?_)
      · have h3 : (!(l_eqMethod (nth a0 v1_0) (nth a1 v1_0))) = true := by simpa using q3
        try simp at q3
        have x1 : l_eqMethodS_1 a0 a1 (a0.length + 1) 0 = .inl false := by rw [← e1]; simp only [l_eqMethodS_1, h2, h3, cond_true, cond_false]
        simp
        refine retRd (rv := [.tmp 4]) rfl ?_
        have f2 : l_eqMethodS a0 a1 = false := by simp only [l_eqMethodS, h1, x1, cond_true, cond_false]
        simp [f2]
      · have h3 : (!(l_eqMethod (nth a0 v1_0) (nth a1 v1_0))) = false := by simpa using q3
        try simp at q3
        simp
        refine nxtI ⟨(p1, (v1_0 + 1)), ?_, ?_⟩ (by simp) (wk_keep (by simp [w1]))
        · rw [← e1]; simp only [l_eqMethodS_1, h2, h3, cond_true, cond_false]
        · first | omega | (simp at *; omega)
    · have h2 : (decide ((↑v1_0 : Int) < (↑a0.length : Int))) = false := by simpa using q2
      try simp at q2
      have x2 : l_eqMethodS_1 a0 a1 (a0.length + 1) 0 = .inr () := by rw [← e1]; simp only [l_eqMethodS_1, h2, cond_true, cond_false]
      simp
      refine retRd (rv := [.tmp 4]) rfl ?_
      have f3 : l_eqMethodS a0 a1 = true := by simp only [l_eqMethodS, h1, x2, cond_true, cond_false]
      simp [f3]
theorem l_eqFrame_ok (a0 : TFrame) (a1 : TFrame) : SoundAt Try.prog 29 false [a0.row, a1.row] [[.bool (l_eqFrame a0 a1)]] := by
  refine sound_of Try.func29 rfl (by kernel_rfl) ?_
  simp [Try.ntmps29]
  refine callRd rfl rfl rfl rfl (l_eqKeyS_ok a0.Keys a1.Keys) (by simp) (by simp) (by simp) ?_
  simp
  refine condB (fun k1 q1 => ?_) (fun k1 q1 => ?_)
  · have h1 : (!(l_eqKeyS a0.Keys a1.Keys)) = true := by simpa using q1
    try simp at q1
    simp
    refine retRd (rv := [.tmp 4]) rfl ?_
    have f1 : l_eqFrame a0 a1 = false := by simp only [l_eqFrame, h1, cond_true, cond_false]
    simp [f1]
  · have h1 : (!(l_eqKeyS a0.Keys a1.Keys)) = false := by simpa using q1
    try simp at q1
    simp
    refine callRd rfl rfl rfl rfl (l_eqAuthorityS_ok a0.Authorities a1.Authorities) (by simp) (by simp) (by simp) ?_
    simp
    refine condB (fun k2 q2 => ?_) (fun k2 q2 => ?_)
    · have h2 : (!(l_eqAuthorityS a0.Authorities a1.Authorities)) = true := by simpa using q2
      try simp at q2
      simp
      refine retRd (rv := [.tmp 4]) rfl ?_
      have f2 : l_eqFrame a0 a1 = false := by simp only [l_eqFrame, h1, h2, cond_true, cond_false]
      simp [f2]
    · have h2 : (!(l_eqAuthorityS a0.Authorities a1.Authorities)) = false := by simpa using q2
      try simp at q2
      simp
      refine callRd rfl rfl rfl rfl (l_eqMethodS_ok a0.Methods a1.Methods) (by simp) (by simp) (by simp) ?_
      simp
      refine condB (fun k3 q3 => ?_) (fun k3 q3 => ?_)
      · have h3 : (!(l_eqMethodS a0.Methods a1.Methods)) = true := by simpa using q3
        try simp at q3
        simp
        refine retRd (rv := [.tmp 4]) rfl ?_
        have f3 : l_eqFrame a0 a1 = false := by simp only [l_eqFrame, h1, h2, h3, cond_true, cond_false]
        simp [f3]
      · have h3 : (!(l_eqMethodS a0.Methods a1.Methods)) = false := by simpa using q3
        try simp at q3
        simp
        refine condB (fun k4 q4 => ?_) (fun k4 q4 => ?_)
        · have h4 : (a0.Liars != a1.Liars) = true := by simpa using q4
          try simp at q4
          simp
          refine retRd (rv := [.tmp 4]) rfl ?_
          have f4 : l_eqFrame a0 a1 = false := by simp only [l_eqFrame, h1, h2, h3, h4, cond_true, cond_false]
          simp [f4]
        · have h4 : (a0.Liars != a1.Liars) = false := by simpa using q4
          try simp at q4
          simp
          refine condB (fun k5 q5 => ?_) (fun k5 q5 => ?_)
          · have h5 : (a0.Now != a1.Now) = true := by simpa using q5
            try simp at q5
            simp
            refine retRd (rv := [.tmp 4]) rfl ?_
            have f5 : l_eqFrame a0 a1 = false := by simp only [l_eqFrame, h1, h2, h3, h4, h5, cond_true, cond_false]
            simp [f5]
          · have h5 : (a0.Now != a1.Now) = false := by simpa using q5
            try simp at q5
            simp
            refine retRd (rv := [.tmp 4]) rfl ?_
            have f6 : l_eqFrame a0 a1 = true := by simp only [l_eqFrame, h1, h2, h3, h4, h5, cond_true, cond_false]
            simp [f6]
theorem l_FnExactIsStolen_ok (a0 : TFrame) (a1 : Int) (t0 : Sm maxLen a0) : SoundAt Try.prog 5 false [a0.row, [.int .i64 a1]] [[.bool (l_FnExactIsStolen a0 a1)]] := by
  refine sound_of Try.func5 rfl (by kernel_rfl) ?_
  simp [Try.ntmps5]
  refine callRd rfl rfl rfl rfl (l_szFrame_ok a0 1048576) (by simp) (by simp) (by simp) ?_
  simp
  refine condB (fun k1 q1 => ?_) (fun k1 q1 => ?_)
  · have h1 : (decide ((l_szFrame a0 1048576) < 0)) = true := by simpa using q1
    try simp at q1
    simp
    refine retRd (rv := [.tmp 4]) rfl ?_
    have f1 : l_FnExactIsStolen a0 a1 = true := by simp only [l_FnExactIsStolen, h1, cond_true, cond_false]
    simp [f1]
  · have h1 : (decide ((l_szFrame a0 1048576) < 0)) = false := by simpa using q1
    try simp at q1
    obtain ⟨u0, y0⟩ := l_szFrame_sm a0 1048576 t0 (by omega) (by omega) (by simpa using h1)
    simp
    refine callRd rfl rfl rfl rfl (l_toFrame_ok a0 (sm_mono (n := 1048576) (by decide) (by simp [u0, l_toArchive_id, l_toArchiveS_id, l_toAuthority_id, l_toAuthorityS_id, l_toBoolS_id, l_toCert_id, l_toCertS_id, l_toDocument_id, l_toEvent_id, l_toEventS_id, l_toFrame_id, l_toIntS_id, l_toIntSS_id, l_toItem_id, l_toItemS_id, l_toKey_id, l_toKeyS_id, l_toMethod_id, l_toMethodS_id, l_toPiece_id, l_toPieceS_id, l_toRedacted_id, l_toRenewal_id, l_toRenewalS_id, l_toSignature_id, l_toStamp_id, l_toStampS_id, l_toStep_id, l_toStepS_id, l_toStrand_id, l_toStringS_id, l_toWorld_id]))) (by simp) (by simp) (by simp) ?_
    simp
    refine callRd rfl rfl rfl rfl (s_IsStolen_ok (l_toFrame a0) a1) (by simp) (by simp) (by simp) ?_
    simp
    refine callRd rfl rfl rfl rfl (l_toFrame_ok a0 (sm_mono (n := 1048576) (by decide) (by simp [u0, l_toArchive_id, l_toArchiveS_id, l_toAuthority_id, l_toAuthorityS_id, l_toBoolS_id, l_toCert_id, l_toCertS_id, l_toDocument_id, l_toEvent_id, l_toEventS_id, l_toFrame_id, l_toIntS_id, l_toIntSS_id, l_toItem_id, l_toItemS_id, l_toKey_id, l_toKeyS_id, l_toMethod_id, l_toMethodS_id, l_toPiece_id, l_toPieceS_id, l_toRedacted_id, l_toRenewal_id, l_toRenewalS_id, l_toSignature_id, l_toStamp_id, l_toStampS_id, l_toStep_id, l_toStepS_id, l_toStrand_id, l_toStringS_id, l_toWorld_id]))) (by simp) (by simp) (by simp) ?_
    simp
    refine callRd rfl rfl rfl rfl (i_IsStolen_ok (l_toFrame a0) a1) (by simp) (by simp) (by simp) ?_
    simp
    refine condB (fun k2 q2 => ?_) (fun k2 q2 => ?_)
    · have h2 : (!((i_IsStolen (l_toFrame a0) a1) == (s_IsStolen (l_toFrame a0) a1))) = true := by simpa using q2
      try simp at q2
      simp
      refine retRd (rv := [.tmp 4]) rfl ?_
      have f2 : l_FnExactIsStolen a0 a1 = false := by simp only [l_FnExactIsStolen, h1, h2, cond_true, cond_false]
      simp [f2]
    · have h2 : (!((i_IsStolen (l_toFrame a0) a1) == (s_IsStolen (l_toFrame a0) a1))) = false := by simpa using q2
      try simp at q2
      simp
      refine okD fun k3 => ?_
      refine drawI mixed (by kernel_rfl) (by kernel_rfl) ?_
      simp
      refine callRd rfl rfl rfl rfl (l_toFrame_ok a0 (sm_mono (n := 1048576) (by decide) (by simp [u0, l_toArchive_id, l_toArchiveS_id, l_toAuthority_id, l_toAuthorityS_id, l_toBoolS_id, l_toCert_id, l_toCertS_id, l_toDocument_id, l_toEvent_id, l_toEventS_id, l_toFrame_id, l_toIntS_id, l_toIntSS_id, l_toItem_id, l_toItemS_id, l_toKey_id, l_toKeyS_id, l_toMethod_id, l_toMethodS_id, l_toPiece_id, l_toPieceS_id, l_toRedacted_id, l_toRenewal_id, l_toRenewalS_id, l_toSignature_id, l_toStamp_id, l_toStampS_id, l_toStep_id, l_toStepS_id, l_toStrand_id, l_toStringS_id, l_toWorld_id]))) (by simp) (by simp) (by simp) ?_
      simp
      refine callRd rfl rfl rfl rfl (l_eqFrame_ok (l_toFrame a0) (l_toFrame a0)) (by simp) (by simp) (by simp) ?_
      simp
      refine condB (fun k4 q3 => ?_) (fun k4 q3 => ?_)
      · have h3 : (!(l_eqFrame (l_toFrame a0) (l_toFrame a0))) = true := by simpa using q3
        try simp at q3
        simp
        refine retRd (rv := [.tmp 4]) rfl ?_
        have f3 : l_FnExactIsStolen a0 a1 = false := by simp only [l_FnExactIsStolen, h1, h2, h3, cond_true, cond_false]
        simp [f3]
      · have h3 : (!(l_eqFrame (l_toFrame a0) (l_toFrame a0))) = false := by simpa using q3
        try simp at q3
        simp
        refine retRd (rv := [.tmp 4]) rfl ?_
        have f4 : l_FnExactIsStolen a0 a1 = true := by simp only [l_FnExactIsStolen, h1, h2, h3, cond_true, cond_false]
        simp [f4]
theorem l_szPiece_ok (a0 : TPiece) (a1 : Int) : SoundAt Try.prog 145 false [a0.row, [.int .i64 a1]] [[.int .i64 (l_szPiece a0 a1)]] := by
  refine sound_of Try.func145 rfl (by kernel_rfl) ?_
  simp [Try.ntmps145]
  refine callRd rfl rfl rfl rfl (l_szIntS_ok a0.Ints a1) (by simp) (by simp) (by simp) ?_
  simp
  refine condB (fun k1 q1 => ?_) (fun k1 q1 => ?_)
  · have h1 : (decide ((l_szIntS a0.Ints a1) < 0)) = true := by simpa using q1
    try simp at q1
    simp
    refine retRd (rv := [.tmp 4]) rfl ?_
    have f1 : l_szPiece a0 a1 = (-1) := by simp only [l_szPiece, h1, cond_true, cond_false]
    simp [f1]
  · have h1 : (decide ((l_szIntS a0.Ints a1) < 0)) = false := by simpa using q1
    try simp at q1
    simp
    refine retRd (rv := [.tmp 4]) rfl ?_
    have f2 : l_szPiece a0 a1 = (l_szIntS a0.Ints a1) := by simp only [l_szPiece, h1, cond_true, cond_false]
    simp [f2]
theorem l_szPieceS_ok (a0 : List TPiece) (a1 : Int) : SoundAt Try.prog 96 false [[.sl 3 (a0.map TPiece.row)], [.int .i64 a1]] [[.int .i64 (l_szPieceS a0 a1)]] := by
  refine sound_of Try.func96 rfl (by kernel_rfl) ?_
  simp [Try.ntmps96]
  refine condB (fun k1 q1 => ?_) (fun k1 q1 => ?_)
  · have h1 : (decide ((W (a1 - (↑a0.length : Int))) < 0)) = true := by simpa using q1
    try simp at q1
    simp
    refine retRd (rv := [.tmp 4]) rfl ?_
    have f1 : l_szPieceS a0 a1 = (-1) := by simp only [l_szPieceS, h1, cond_true, cond_false]
    simp [f1]
  · have h1 : (decide ((W (a1 - (↑a0.length : Int))) < 0)) = false := by simpa using q1
    try simp at q1
    simp
    refine okL fun k2 => ?_
    refine loopI (ι := { s : Nat × Int × Nat // l_szPieceS_1 a0 s.1 s.2.1 s.2.2 = l_szPieceS_1 a0 (a0.length + 1) (W (a1 - (↑a0.length : Int))) 0 ∧ (1 ≤ s.1 ∧ a0.length < s.1 + s.2.2) }) (fun s => stOf 27 [(0, .one (.d (.sl 3 (a0.map TPiece.row))), []), (1, .one (.d (.int .i64 s.1.2.1)), []), (5, .one (.d (.int .i64 (↑s.1.2.2 : Int))), [])]) (fun s => s.1.1) ⟨((a0.length + 1), (W (a1 - (↑a0.length : Int))), 0), rfl, by first | omega | (dsimp only; omega) | simp⟩ (wk_keep (by simp)) ?_
    rintro ⟨⟨n1, v1_0, v1_1⟩, e1, j1⟩
    try dsimp only at e1 j1
    obtain ⟨p1, rfl⟩ : ∃ p, n1 = p + 1 := ⟨n1 - 1, by omega⟩
    simp
    refine condB (fun k3 q2 => ?_) (fun k3 q2 => ?_)
    · have h2 : (decide ((↑v1_1 : Int) < (↑a0.length : Int))) = true := by simpa using q2
      have i1 : v1_1 < a0.length := by simpa using q2
      have m2 : a0.length ≤ 9223372036854775807 := by simpa using k3 0 _ rfl
      have w1 : IntKind.i64.wrap ((v1_1 : Int) + 1) = (v1_1 : Int) + 1 := wrap_of (by omega) (by omega)
      try simp at q2
      simp [i1, rowAt_map]
      repeat (refine ⟨by intros; omega, ?_⟩)
      refine callRd rfl rfl rfl rfl (l_szPiece_ok (nth a0 v1_1) v1_0) (by simp) (by simp) (by simp) ?_
      simp
      refine condB (fun k4 q3 => ?_) (fun k4 q3 => ?_)
      · have h3 : (decide ((l_szPiece (nth a0 v1_1) v1_0) < 0)) = true := by simpa using q3
        try simp at q3
        have x1 : l_szPieceS_1 a0 (a0.length + 1) (W (a1 - (↑a0.length : Int))) 0 = .inl (-1) := by rw [← e1]; simp only [l_szPieceS_1, h2, h3, cond_true, cond_false]
        simp
        refine retRd (rv := [.tmp 4]) rfl ?_
        have f2 : l_szPieceS a0 a1 = (-1) := by simp only [l_szPieceS, h1, x1, cond_true, cond_false]
        simp [f2]
      · have h3 : (decide ((l_szPiece (nth a0 v1_1) v1_0) < 0)) = false := by simpa using q3
        try simp at q3
        simp
        refine nxtI ⟨(p1, (l_szPiece (nth a0 v1_1) v1_0), (v1_1 + 1)), ?_, ?_⟩ (by simp) (wk_keep (by simp [w1]))
        · rw [← e1]; simp only [l_szPieceS_1, h2, h3, cond_true, cond_false]
        · first | omega | (simp at *; omega)
    · have h2 : (decide ((↑v1_1 : Int) < (↑a0.length : Int))) = false := by simpa using q2
      try simp at q2
      have x2 : l_szPieceS_1 a0 (a0.length + 1) (W (a1 - (↑a0.length : Int))) 0 = .inr v1_0 := by rw [← e1]; simp only [l_szPieceS_1, h2, cond_true, cond_false]
      simp
      refine retRd (rv := [.tmp 4]) rfl ?_
      have f3 : l_szPieceS a0 a1 = v1_0 := by simp only [l_szPieceS, h1, x2, cond_true, cond_false]
      simp [f3]
theorem l_szStepS_ok (a0 : List TStep) (a1 : Int) : SoundAt Try.prog 164 false [[.sl 2 (a0.map TStep.row)], [.int .i64 a1]] [[.int .i64 (l_szStepS a0 a1)]] := by
  refine sound_of Try.func164 rfl (by kernel_rfl) ?_
  simp [Try.ntmps164]
  refine condB (fun k1 q1 => ?_) (fun k1 q1 => ?_)
  · have h1 : (decide ((W (a1 - (↑a0.length : Int))) < 0)) = true := by simpa using q1
    try simp at q1
    simp
    refine retRd (rv := [.tmp 4]) rfl ?_
    have f1 : l_szStepS a0 a1 = (-1) := by simp only [l_szStepS, h1, cond_true, cond_false]
    simp [f1]
  · have h1 : (decide ((W (a1 - (↑a0.length : Int))) < 0)) = false := by simpa using q1
    try simp at q1
    simp
    refine retRd (rv := [.tmp 4]) rfl ?_
    have f2 : l_szStepS a0 a1 = (W (a1 - (↑a0.length : Int))) := by simp only [l_szStepS, h1, cond_true, cond_false]
    simp [f2]
theorem l_szStampS_ok (a0 : List TStamp) (a1 : Int) : SoundAt Try.prog 165 false [[.sl 5 (a0.map TStamp.row)], [.int .i64 a1]] [[.int .i64 (l_szStampS a0 a1)]] := by
  refine sound_of Try.func165 rfl (by kernel_rfl) ?_
  simp [Try.ntmps165]
  refine condB (fun k1 q1 => ?_) (fun k1 q1 => ?_)
  · have h1 : (decide ((W (a1 - (↑a0.length : Int))) < 0)) = true := by simpa using q1
    try simp at q1
    simp
    refine retRd (rv := [.tmp 4]) rfl ?_
    have f1 : l_szStampS a0 a1 = (-1) := by simp only [l_szStampS, h1, cond_true, cond_false]
    simp [f1]
  · have h1 : (decide ((W (a1 - (↑a0.length : Int))) < 0)) = false := by simpa using q1
    try simp at q1
    simp
    refine retRd (rv := [.tmp 4]) rfl ?_
    have f2 : l_szStampS a0 a1 = (W (a1 - (↑a0.length : Int))) := by simp only [l_szStampS, h1, cond_true, cond_false]
    simp [f2]
theorem l_szRenewal_ok (a0 : TRenewal) (a1 : Int) : SoundAt Try.prog 146 false [a0.row, [.int .i64 a1]] [[.int .i64 (l_szRenewal a0 a1)]] := by
  refine sound_of Try.func146 rfl (by kernel_rfl) ?_
  simp [Try.ntmps146]
  refine callRd rfl rfl rfl rfl (l_szStepS_ok a0.Path a1) (by simp) (by simp) (by simp) ?_
  simp
  refine condB (fun k1 q1 => ?_) (fun k1 q1 => ?_)
  · have h1 : (decide ((l_szStepS a0.Path a1) < 0)) = true := by simpa using q1
    try simp at q1
    simp
    refine retRd (rv := [.tmp 4]) rfl ?_
    have f1 : l_szRenewal a0 a1 = (-1) := by simp only [l_szRenewal, h1, cond_true, cond_false]
    simp [f1]
  · have h1 : (decide ((l_szStepS a0.Path a1) < 0)) = false := by simpa using q1
    try simp at q1
    simp
    refine callRd rfl rfl rfl rfl (l_szStampS_ok a0.Stamps (l_szStepS a0.Path a1)) (by simp) (by simp) (by simp) ?_
    simp
    refine condB (fun k2 q2 => ?_) (fun k2 q2 => ?_)
    · have h2 : (decide ((l_szStampS a0.Stamps (l_szStepS a0.Path a1)) < 0)) = true := by simpa using q2
      try simp at q2
      simp
      refine retRd (rv := [.tmp 4]) rfl ?_
      have f2 : l_szRenewal a0 a1 = (-1) := by simp only [l_szRenewal, h1, h2, cond_true, cond_false]
      simp [f2]
    · have h2 : (decide ((l_szStampS a0.Stamps (l_szStepS a0.Path a1)) < 0)) = false := by simpa using q2
      try simp at q2
      simp
      refine retRd (rv := [.tmp 4]) rfl ?_
      have f3 : l_szRenewal a0 a1 = (l_szStampS a0.Stamps (l_szStepS a0.Path a1)) := by simp only [l_szRenewal, h1, h2, cond_true, cond_false]
      simp [f3]
theorem l_szRenewalS_ok (a0 : List TRenewal) (a1 : Int) : SoundAt Try.prog 97 false [[.sl 5 (a0.map TRenewal.row)], [.int .i64 a1]] [[.int .i64 (l_szRenewalS a0 a1)]] := by
  refine sound_of Try.func97 rfl (by kernel_rfl) ?_
  simp [Try.ntmps97]
  refine condB (fun k1 q1 => ?_) (fun k1 q1 => ?_)
  · have h1 : (decide ((W (a1 - (↑a0.length : Int))) < 0)) = true := by simpa using q1
    try simp at q1
    simp
    refine retRd (rv := [.tmp 4]) rfl ?_
    have f1 : l_szRenewalS a0 a1 = (-1) := by simp only [l_szRenewalS, h1, cond_true, cond_false]
    simp [f1]
  · have h1 : (decide ((W (a1 - (↑a0.length : Int))) < 0)) = false := by simpa using q1
    try simp at q1
    simp
    refine okL fun k2 => ?_
    refine loopI (ι := { s : Nat × Int × Nat // l_szRenewalS_1 a0 s.1 s.2.1 s.2.2 = l_szRenewalS_1 a0 (a0.length + 1) (W (a1 - (↑a0.length : Int))) 0 ∧ (1 ≤ s.1 ∧ a0.length < s.1 + s.2.2) }) (fun s => stOf 27 [(0, .one (.d (.sl 5 (a0.map TRenewal.row))), []), (1, .one (.d (.int .i64 s.1.2.1)), []), (5, .one (.d (.int .i64 (↑s.1.2.2 : Int))), [])]) (fun s => s.1.1) ⟨((a0.length + 1), (W (a1 - (↑a0.length : Int))), 0), rfl, by first | omega | (dsimp only; omega) | simp⟩ (wk_keep (by simp)) ?_
    rintro ⟨⟨n1, v1_0, v1_1⟩, e1, j1⟩
    try dsimp only at e1 j1
    obtain ⟨p1, rfl⟩ : ∃ p, n1 = p + 1 := ⟨n1 - 1, by omega⟩
    simp
    refine condB (fun k3 q2 => ?_) (fun k3 q2 => ?_)
    · have h2 : (decide ((↑v1_1 : Int) < (↑a0.length : Int))) = true := by simpa using q2
      have i1 : v1_1 < a0.length := by simpa using q2
      have m2 : a0.length ≤ 9223372036854775807 := by simpa using k3 0 _ rfl
      have w1 : IntKind.i64.wrap ((v1_1 : Int) + 1) = (v1_1 : Int) + 1 := wrap_of (by omega) (by omega)
      try simp at q2
      simp [i1, rowAt_map]
      repeat (refine ⟨by intros; omega, ?_⟩)
      refine callRd rfl rfl rfl rfl (l_szRenewal_ok (nth a0 v1_1) v1_0) (by simp) (by simp) (by simp) ?_
      simp
      refine condB (fun k4 q3 => ?_) (fun k4 q3 => ?_)
      · have h3 : (decide ((l_szRenewal (nth a0 v1_1) v1_0) < 0)) = true := by simpa using q3
        try simp at q3
        have x1 : l_szRenewalS_1 a0 (a0.length + 1) (W (a1 - (↑a0.length : Int))) 0 = .inl (-1) := by rw [← e1]; simp only [l_szRenewalS_1, h2, h3, cond_true, cond_false]
        simp
        refine retRd (rv := [.tmp 4]) rfl ?_
        have f2 : l_szRenewalS a0 a1 = (-1) := by simp only [l_szRenewalS, h1, x1, cond_true, cond_false]
        simp [f2]
      · have h3 : (decide ((l_szRenewal (nth a0 v1_1) v1_0) < 0)) = false := by simpa using q3
        try simp at q3
        simp
        refine nxtI ⟨(p1, (l_szRenewal (nth a0 v1_1) v1_0), (v1_1 + 1)), ?_, ?_⟩ (by simp) (wk_keep (by simp [w1]))
        · rw [← e1]; simp only [l_szRenewalS_1, h2, h3, cond_true, cond_false]
        · first | omega | (simp at *; omega)
    · have h2 : (decide ((↑v1_1 : Int) < (↑a0.length : Int))) = false := by simpa using q2
      try simp at q2
      have x2 : l_szRenewalS_1 a0 (a0.length + 1) (W (a1 - (↑a0.length : Int))) 0 = .inr v1_0 := by rw [← e1]; simp only [l_szRenewalS_1, h2, cond_true, cond_false]
      simp
      refine retRd (rv := [.tmp 4]) rfl ?_
      have f3 : l_szRenewalS a0 a1 = v1_0 := by simp only [l_szRenewalS, h1, x2, cond_true, cond_false]
      simp [f3]
theorem l_szStrand_ok (a0 : TStrand) (a1 : Int) : SoundAt Try.prog 30 false [a0.row, [.int .i64 a1]] [[.int .i64 (l_szStrand a0 a1)]] := by
  refine sound_of Try.func30 rfl (by kernel_rfl) ?_
  simp [Try.ntmps30]
  refine callRd rfl rfl rfl rfl (l_szPieceS_ok a0.Pieces a1) (by simp) (by simp) (by simp) ?_
  simp
  refine condB (fun k1 q1 => ?_) (fun k1 q1 => ?_)
  · have h1 : (decide ((l_szPieceS a0.Pieces a1) < 0)) = true := by simpa using q1
    try simp at q1
    simp
    refine retRd (rv := [.tmp 4]) rfl ?_
    have f1 : l_szStrand a0 a1 = (-1) := by simp only [l_szStrand, h1, cond_true, cond_false]
    simp [f1]
  · have h1 : (decide ((l_szPieceS a0.Pieces a1) < 0)) = false := by simpa using q1
    try simp at q1
    simp
    refine callRd rfl rfl rfl rfl (l_szRenewalS_ok a0.Chain (l_szPieceS a0.Pieces a1)) (by simp) (by simp) (by simp) ?_
    simp
    refine condB (fun k2 q2 => ?_) (fun k2 q2 => ?_)
    · have h2 : (decide ((l_szRenewalS a0.Chain (l_szPieceS a0.Pieces a1)) < 0)) = true := by simpa using q2
      try simp at q2
      simp
      refine retRd (rv := [.tmp 4]) rfl ?_
      have f2 : l_szStrand a0 a1 = (-1) := by simp only [l_szStrand, h1, h2, cond_true, cond_false]
      simp [f2]
    · have h2 : (decide ((l_szRenewalS a0.Chain (l_szPieceS a0.Pieces a1)) < 0)) = false := by simpa using q2
      try simp at q2
      simp
      refine retRd (rv := [.tmp 4]) rfl ?_
      have f3 : l_szStrand a0 a1 = (l_szRenewalS a0.Chain (l_szPieceS a0.Pieces a1)) := by simp only [l_szStrand, h1, h2, cond_true, cond_false]
      simp [f3]
theorem l_toPiece_ok (a0 : TPiece) (u0 : Sm 68719476736 a0) : SoundAt Try.prog 147 true [a0.row] [(l_toPiece a0).row] := by
  refine sound_of Try.func147 rfl (by kernel_rfl) ?_
  simp [Try.ntmps147]
  refine callOwn rfl rfl rfl rfl (l_toIntS_ok a0.Ints (by simp [u0])) (by simp) (by simp) (by simp) (by simp) ?_
  simp
  refine retOwn (rv := [.cell 2 155]) rfl ?_
  have f1 : l_toPiece a0 = (TPiece.mk a0.Key (l_toIntS a0.Ints) a0.Mark) := by simp only [l_toPiece, cond_true, cond_false]
  simp [f1]
theorem l_toPieceS_ok (a0 : List TPiece) (u0 : Sm 68719476736 a0) : SoundAt Try.prog 99 true [[.sl 3 (a0.map TPiece.row)]] [[.sl 3 ((l_toPieceS a0).map TPiece.row)]] := by
  refine sound_of Try.func99 rfl (by kernel_rfl) ?_
  have c1 : a0.length ≤ 68719476736 := sm_len (by simp [u0])
  simp [Try.ntmps99]
  repeat (refine ⟨by intros; omega, ?_⟩)
  refine okL fun k1 => ?_
  refine loopI (ι := { s : Nat × Nat × (List TPiece) // l_toPieceS_1 a0 s.1 s.2.1 s.2.2 = l_toPieceS_1 a0 (a0.length + 1) 0 (List.replicate a0.length (TPiece.mk 0 ([] : List Int) 0)) ∧ (1 ≤ s.1 ∧ a0.length < s.1 + s.2.1 ∧ s.2.2.length = a0.length) }) (fun s => stOf 23 [(0, .one (.d (.sl 3 (a0.map TPiece.row))), []), (3, .one (.sref 7 0 0 s.1.2.2.length), []), (4, .one (.d (.int .i64 (↑s.1.2.1 : Int))), []), (7, .any, [.arr 3 (s.1.2.2.map TPiece.row)])]) (fun s => s.1.1) ⟨((a0.length + 1), 0, (List.replicate a0.length (TPiece.mk 0 ([] : List Int) 0))), rfl, by first | omega | (dsimp only; omega) | simp⟩ (wk_keep (by simp)) ?_
  rintro ⟨⟨n1, v1_0, v1_1⟩, e1, j1⟩
  try dsimp only at e1 j1
  obtain ⟨p1, rfl⟩ : ∃ p, n1 = p + 1 := ⟨n1 - 1, by omega⟩
  simp
  refine condB (fun k2 q1 => ?_) (fun k2 q1 => ?_)
  · have h1 : (decide ((↑v1_0 : Int) < (↑a0.length : Int))) = true := by simpa using q1
    have i1 : v1_0 < a0.length := by simpa using q1
    have m2 : a0.length ≤ 9223372036854775807 := by simpa using k2 0 _ rfl
    have w1 : IntKind.i64.wrap ((v1_0 : Int) + 1) = (v1_0 : Int) + 1 := wrap_of (by omega) (by omega)
    try simp at q1
    simp [i1, rowAt_map]
    repeat (refine ⟨by intros; omega, ?_⟩)
    refine callRd rfl rfl rfl rfl (l_toPiece_ok (nth a0 v1_0) (by simp [u0])) (by simp) (by simp) (by simp) ?_
    have i2 : v1_0 < v1_1.length := by omega
    simp [i2, rowAt_map, set_map (x := (l_toPiece (nth a0 v1_0))) rfl]
    repeat (refine ⟨by intros; omega, ?_⟩)
    refine nxtI ⟨(p1, (v1_0 + 1), (v1_1.set v1_0 (l_toPiece (nth a0 v1_0)))), ?_, ?_⟩ (by simp) (wk_keep (by simp [w1]))
    · rw [← e1]; simp only [l_toPieceS_1, h1, cond_true, cond_false]
    · first | omega | (simp at *; omega)
  · have h1 : (decide ((↑v1_0 : Int) < (↑a0.length : Int))) = false := by simpa using q1
    try simp at q1
    have x1 : l_toPieceS_1 a0 (a0.length + 1) 0 (List.replicate a0.length (TPiece.mk 0 ([] : List Int) 0)) = v1_1 := by rw [← e1]; simp only [l_toPieceS_1, h1, cond_true, cond_false]
    simp
    refine retOwn (rv := [.tmp 2]) rfl ?_
    have f1 : l_toPieceS a0 = v1_1 := by simp only [l_toPieceS, x1, cond_true, cond_false]
    simp [f1]
theorem l_toStep_ok (a0 : TStep) : SoundAt Try.prog 180 false [a0.row] [(l_toStep a0).row] := by
  refine sound_of Try.func180 rfl (by kernel_rfl) ?_
  simp [Try.ntmps180]
  refine retRd (rv := [.cell 2 231]) rfl ?_
  have f1 : l_toStep a0 = a0 := by simp only [l_toStep, cond_true, cond_false]
  simp [f1]
theorem l_toStepS_ok (a0 : List TStep) (u0 : Sm 68719476736 a0) : SoundAt Try.prog 166 true [[.sl 2 (a0.map TStep.row)]] [[.sl 2 ((l_toStepS a0).map TStep.row)]] := by
  refine sound_of Try.func166 rfl (by kernel_rfl) ?_
  have c1 : a0.length ≤ 68719476736 := sm_len (by simp [u0])
  simp [Try.ntmps166]
  repeat (refine ⟨by intros; omega, ?_⟩)
  refine okL fun k1 => ?_
  refine loopI (ι := { s : Nat × Nat × (List TStep) // l_toStepS_1 a0 s.1 s.2.1 s.2.2 = l_toStepS_1 a0 (a0.length + 1) 0 (List.replicate a0.length (TStep.mk 0 false)) ∧ (1 ≤ s.1 ∧ a0.length < s.1 + s.2.1 ∧ s.2.2.length = a0.length) }) (fun s => stOf 23 [(0, .one (.d (.sl 2 (a0.map TStep.row))), []), (3, .one (.sref 7 0 0 s.1.2.2.length), []), (4, .one (.d (.int .i64 (↑s.1.2.1 : Int))), []), (7, .any, [.arr 2 (s.1.2.2.map TStep.row)])]) (fun s => s.1.1) ⟨((a0.length + 1), 0, (List.replicate a0.length (TStep.mk 0 false))), rfl, by first | omega | (dsimp only; omega) | simp⟩ (wk_keep (by simp)) ?_
  rintro ⟨⟨n1, v1_0, v1_1⟩, e1, j1⟩
  try dsimp only at e1 j1
  obtain ⟨p1, rfl⟩ : ∃ p, n1 = p + 1 := ⟨n1 - 1, by omega⟩
  simp
  refine condB (fun k2 q1 => ?_) (fun k2 q1 => ?_)
  · have h1 : (decide ((↑v1_0 : Int) < (↑a0.length : Int))) = true := by simpa using q1
    have i1 : v1_0 < a0.length := by simpa using q1
    have m2 : a0.length ≤ 9223372036854775807 := by simpa using k2 0 _ rfl
    have w1 : IntKind.i64.wrap ((v1_0 : Int) + 1) = (v1_0 : Int) + 1 := wrap_of (by omega) (by omega)
    try simp at q1
    simp [i1, rowAt_map]
    repeat (refine ⟨by intros; omega, ?_⟩)
    refine callRd rfl rfl rfl rfl (l_toStep_ok (nth a0 v1_0)) (by simp) (by simp) (by simp) ?_
    have i2 : v1_0 < v1_1.length := by omega
    simp [i2, rowAt_map, set_map (x := (l_toStep (nth a0 v1_0))) rfl]
    repeat (refine ⟨by intros; omega, ?_⟩)
    refine nxtI ⟨(p1, (v1_0 + 1), (v1_1.set v1_0 (l_toStep (nth a0 v1_0)))), ?_, ?_⟩ (by simp) (wk_keep (by simp [w1]))
    · rw [← e1]; simp only [l_toStepS_1, h1, cond_true, cond_false]
    · first | omega | (simp at *; omega)
  · have h1 : (decide ((↑v1_0 : Int) < (↑a0.length : Int))) = false := by simpa using q1
    try simp at q1
    have x1 : l_toStepS_1 a0 (a0.length + 1) 0 (List.replicate a0.length (TStep.mk 0 false)) = v1_1 := by rw [← e1]; simp only [l_toStepS_1, h1, cond_true, cond_false]
    simp
    refine retOwn (rv := [.tmp 2]) rfl ?_
    have f1 : l_toStepS a0 = v1_1 := by simp only [l_toStepS, x1, cond_true, cond_false]
    simp [f1]
theorem l_toStamp_ok (a0 : TStamp) : SoundAt Try.prog 181 false [a0.row] [(l_toStamp a0).row] := by
  refine sound_of Try.func181 rfl (by kernel_rfl) ?_
  simp [Try.ntmps181]
  refine retRd (rv := [.cell 2 216]) rfl ?_
  have f1 : l_toStamp a0 = a0 := by simp only [l_toStamp, cond_true, cond_false]
  simp [f1]
theorem l_toStampS_ok (a0 : List TStamp) (u0 : Sm 68719476736 a0) : SoundAt Try.prog 167 true [[.sl 5 (a0.map TStamp.row)]] [[.sl 5 ((l_toStampS a0).map TStamp.row)]] := by
  refine sound_of Try.func167 rfl (by kernel_rfl) ?_
  have c1 : a0.length ≤ 68719476736 := sm_len (by simp [u0])
  simp [Try.ntmps167]
  repeat (refine ⟨by intros; omega, ?_⟩)
  refine okL fun k1 => ?_
  refine loopI (ι := { s : Nat × Nat × (List TStamp) // l_toStampS_1 a0 s.1 s.2.1 s.2.2 = l_toStampS_1 a0 (a0.length + 1) 0 (List.replicate a0.length (TStamp.mk 0 0 0 0 0)) ∧ (1 ≤ s.1 ∧ a0.length < s.1 + s.2.1 ∧ s.2.2.length = a0.length) }) (fun s => stOf 23 [(0, .one (.d (.sl 5 (a0.map TStamp.row))), []), (3, .one (.sref 7 0 0 s.1.2.2.length), []), (4, .one (.d (.int .i64 (↑s.1.2.1 : Int))), []), (7, .any, [.arr 5 (s.1.2.2.map TStamp.row)])]) (fun s => s.1.1) ⟨((a0.length + 1), 0, (List.replicate a0.length (TStamp.mk 0 0 0 0 0))), rfl, by first | omega | (dsimp only; omega) | simp⟩ (wk_keep (by simp)) ?_
  rintro ⟨⟨n1, v1_0, v1_1⟩, e1, j1⟩
  try dsimp only at e1 j1
  obtain ⟨p1, rfl⟩ : ∃ p, n1 = p + 1 := ⟨n1 - 1, by omega⟩
  simp
  refine condB (fun k2 q1 => ?_) (fun k2 q1 => ?_)
  · have h1 : (decide ((↑v1_0 : Int) < (↑a0.length : Int))) = true := by simpa using q1
    have i1 : v1_0 < a0.length := by simpa using q1
    have m2 : a0.length ≤ 9223372036854775807 := by simpa using k2 0 _ rfl
    have w1 : IntKind.i64.wrap ((v1_0 : Int) + 1) = (v1_0 : Int) + 1 := wrap_of (by omega) (by omega)
    try simp at q1
    simp [i1, rowAt_map]
    repeat (refine ⟨by intros; omega, ?_⟩)
    refine callRd rfl rfl rfl rfl (l_toStamp_ok (nth a0 v1_0)) (by simp) (by simp) (by simp) ?_
    have i2 : v1_0 < v1_1.length := by omega
    simp [i2, rowAt_map, set_map (x := (l_toStamp (nth a0 v1_0))) rfl]
    repeat (refine ⟨by intros; omega, ?_⟩)
    refine nxtI ⟨(p1, (v1_0 + 1), (v1_1.set v1_0 (l_toStamp (nth a0 v1_0)))), ?_, ?_⟩ (by simp) (wk_keep (by simp [w1]))
    · rw [← e1]; simp only [l_toStampS_1, h1, cond_true, cond_false]
    · first | omega | (simp at *; omega)
  · have h1 : (decide ((↑v1_0 : Int) < (↑a0.length : Int))) = false := by simpa using q1
    try simp at q1
    have x1 : l_toStampS_1 a0 (a0.length + 1) 0 (List.replicate a0.length (TStamp.mk 0 0 0 0 0)) = v1_1 := by rw [← e1]; simp only [l_toStampS_1, h1, cond_true, cond_false]
    simp
    refine retOwn (rv := [.tmp 2]) rfl ?_
    have f1 : l_toStampS a0 = v1_1 := by simp only [l_toStampS, x1, cond_true, cond_false]
    simp [f1]
theorem l_toRenewal_ok (a0 : TRenewal) (u0 : Sm 68719476736 a0) : SoundAt Try.prog 148 true [a0.row] [(l_toRenewal a0).row] := by
  refine sound_of Try.func148 rfl (by kernel_rfl) ?_
  simp [Try.ntmps148]
  refine callOwn rfl rfl rfl rfl (l_toStepS_ok a0.Path (by simp [u0])) (by simp) (by simp) (by simp) (by simp) ?_
  simp
  refine callOwn rfl rfl rfl rfl (l_toStampS_ok a0.Stamps (by simp [u0])) (by simp) (by simp) (by simp) (by simp) ?_
  simp
  refine retOwn (rv := [.cell 2 160]) rfl ?_
  have f1 : l_toRenewal a0 = (TRenewal.mk a0.Count a0.Method a0.Root (l_toStepS a0.Path) (l_toStampS a0.Stamps)) := by simp only [l_toRenewal, cond_true, cond_false]
  simp [f1]
theorem l_toRenewalS_ok (a0 : List TRenewal) (u0 : Sm 68719476736 a0) : SoundAt Try.prog 100 true [[.sl 5 (a0.map TRenewal.row)]] [[.sl 5 ((l_toRenewalS a0).map TRenewal.row)]] := by
  refine sound_of Try.func100 rfl (by kernel_rfl) ?_
  have c1 : a0.length ≤ 68719476736 := sm_len (by simp [u0])
  simp [Try.ntmps100]
  repeat (refine ⟨by intros; omega, ?_⟩)
  refine okL fun k1 => ?_
  refine loopI (ι := { s : Nat × Nat × (List TRenewal) // l_toRenewalS_1 a0 s.1 s.2.1 s.2.2 = l_toRenewalS_1 a0 (a0.length + 1) 0 (List.replicate a0.length (TRenewal.mk 0 0 0 ([] : List TStep) ([] : List TStamp))) ∧ (1 ≤ s.1 ∧ a0.length < s.1 + s.2.1 ∧ s.2.2.length = a0.length) }) (fun s => stOf 23 [(0, .one (.d (.sl 5 (a0.map TRenewal.row))), []), (3, .one (.sref 7 0 0 s.1.2.2.length), []), (4, .one (.d (.int .i64 (↑s.1.2.1 : Int))), []), (7, .any, [.arr 5 (s.1.2.2.map TRenewal.row)])]) (fun s => s.1.1) ⟨((a0.length + 1), 0, (List.replicate a0.length (TRenewal.mk 0 0 0 ([] : List TStep) ([] : List TStamp)))), rfl, by first | omega | (dsimp only; omega) | simp⟩ (wk_keep (by simp)) ?_
  rintro ⟨⟨n1, v1_0, v1_1⟩, e1, j1⟩
  try dsimp only at e1 j1
  obtain ⟨p1, rfl⟩ : ∃ p, n1 = p + 1 := ⟨n1 - 1, by omega⟩
  simp
  refine condB (fun k2 q1 => ?_) (fun k2 q1 => ?_)
  · have h1 : (decide ((↑v1_0 : Int) < (↑a0.length : Int))) = true := by simpa using q1
    have i1 : v1_0 < a0.length := by simpa using q1
    have m2 : a0.length ≤ 9223372036854775807 := by simpa using k2 0 _ rfl
    have w1 : IntKind.i64.wrap ((v1_0 : Int) + 1) = (v1_0 : Int) + 1 := wrap_of (by omega) (by omega)
    try simp at q1
    simp [i1, rowAt_map]
    repeat (refine ⟨by intros; omega, ?_⟩)
    refine callRd rfl rfl rfl rfl (l_toRenewal_ok (nth a0 v1_0) (by simp [u0])) (by simp) (by simp) (by simp) ?_
    have i2 : v1_0 < v1_1.length := by omega
    simp [i2, rowAt_map, set_map (x := (l_toRenewal (nth a0 v1_0))) rfl]
    repeat (refine ⟨by intros; omega, ?_⟩)
    refine nxtI ⟨(p1, (v1_0 + 1), (v1_1.set v1_0 (l_toRenewal (nth a0 v1_0)))), ?_, ?_⟩ (by simp) (wk_keep (by simp [w1]))
    · rw [← e1]; simp only [l_toRenewalS_1, h1, cond_true, cond_false]
    · first | omega | (simp at *; omega)
  · have h1 : (decide ((↑v1_0 : Int) < (↑a0.length : Int))) = false := by simpa using q1
    try simp at q1
    have x1 : l_toRenewalS_1 a0 (a0.length + 1) 0 (List.replicate a0.length (TRenewal.mk 0 0 0 ([] : List TStep) ([] : List TStamp))) = v1_1 := by rw [← e1]; simp only [l_toRenewalS_1, h1, cond_true, cond_false]
    simp
    refine retOwn (rv := [.tmp 2]) rfl ?_
    have f1 : l_toRenewalS a0 = v1_1 := by simp only [l_toRenewalS, x1, cond_true, cond_false]
    simp [f1]
theorem l_toStrand_ok (a0 : TStrand) (u0 : Sm 68719476736 a0) : SoundAt Try.prog 32 true [a0.row] [(l_toStrand a0).row] := by
  refine sound_of Try.func32 rfl (by kernel_rfl) ?_
  simp [Try.ntmps32]
  refine callOwn rfl rfl rfl rfl (l_toPieceS_ok a0.Pieces (by simp [u0])) (by simp) (by simp) (by simp) (by simp) ?_
  simp
  refine callOwn rfl rfl rfl rfl (l_toRenewalS_ok a0.Chain (by simp [u0])) (by simp) (by simp) (by simp) (by simp) ?_
  simp
  refine retOwn (rv := [.cell 2 65]) rfl ?_
  have f1 : l_toStrand a0 = (TStrand.mk (l_toPieceS a0.Pieces) (l_toRenewalS a0.Chain)) := by simp only [l_toStrand, cond_true, cond_false]
  simp [f1]
theorem s_RenewalSize_ok (a0 : TRenewal) : SoundAt Try.prog 98 false [a0.row] [[.int .i64 (s_RenewalSize a0)]] := by
  refine sound_of Try.func98 rfl (by kernel_rfl) ?_
  simp [Try.ntmps98]
  refine retRd (rv := [.tmp 2]) rfl ?_
  have f1 : s_RenewalSize a0 = (W ((W (3 + (W (2 * (↑a0.Path.length : Int))))) + (W (6 * (↑a0.Stamps.length : Int))))) := by simp only [s_RenewalSize, cond_true, cond_false]
  simp [f1]
theorem s_StrandSize_ok (a0 : TStrand) : SoundAt Try.prog 31 false [a0.row] [[.int .i64 (s_StrandSize a0)]] := by
  refine sound_of Try.func31 rfl (by kernel_rfl) ?_
  simp [Try.ntmps31]
  refine okL fun k1 => ?_
  refine loopI (ι := { s : Nat × Int × Nat // s_StrandSize_1 a0 s.1 s.2.1 s.2.2 = s_StrandSize_1 a0 (a0.Pieces.length + 1) 0 0 ∧ (1 ≤ s.1 ∧ a0.Pieces.length < s.1 + s.2.2) }) (fun s => stOf 39 [(1, .one (.bptr 1 0), [.box [.d (.sl 3 (a0.Pieces.map TPiece.row)), .d (.sl 5 (a0.Chain.map TRenewal.row))]]), (3, .one (.d (.int .i64 s.1.2.1)), []), (4, .one (.d (.int .i64 (↑s.1.2.2 : Int))), [])]) (fun s => s.1.1) ⟨((a0.Pieces.length + 1), 0, 0), rfl, by first | omega | (dsimp only; omega) | simp⟩ (wk_keep (by simp)) ?_
  rintro ⟨⟨n1, v1_0, v1_1⟩, e1, j1⟩
  try dsimp only at e1 j1
  obtain ⟨p1, rfl⟩ : ∃ p, n1 = p + 1 := ⟨n1 - 1, by omega⟩
  simp
  refine condB (fun k2 q1 => ?_) (fun k2 q1 => ?_)
  · have h1 : (decide ((↑v1_1 : Int) < (↑a0.Pieces.length : Int))) = true := by simpa using q1
    have i1 : v1_1 < a0.Pieces.length := by simpa using q1
    have m2 : a0.Pieces.length ≤ 9223372036854775807 := by simpa using k2 8 _ rfl
    have w1 : IntKind.i64.wrap ((v1_1 : Int) + 1) = (v1_1 : Int) + 1 := wrap_of (by omega) (by omega)
    try simp at q1
    simp [i1, rowAt_map]
    repeat (refine ⟨by intros; omega, ?_⟩)
    refine nxtI ⟨(p1, (W ((W (v1_0 + 2)) + (↑(nth a0.Pieces v1_1).Ints.length : Int))), (v1_1 + 1)), ?_, ?_⟩ (by simp) (wk_keep (by simp [w1]))
    · rw [← e1]; simp only [s_StrandSize_1, h1, cond_true, cond_false]
    · first | omega | (simp at *; omega)
  · have h1 : (decide ((↑v1_1 : Int) < (↑a0.Pieces.length : Int))) = false := by simpa using q1
    try simp at q1
    have x1 : s_StrandSize_1 a0 (a0.Pieces.length + 1) 0 0 = v1_0 := by rw [← e1]; simp only [s_StrandSize_1, h1, cond_true, cond_false]
    simp
    refine okL fun k3 => ?_
    refine loopI (ι := { s : Nat × Int × Nat // s_StrandSize_2 a0 s.1 s.2.1 s.2.2 = s_StrandSize_2 a0 (a0.Chain.length + 1) v1_0 0 ∧ (1 ≤ s.1 ∧ a0.Chain.length < s.1 + s.2.2) }) (fun s => stOf 39 [(1, .one (.bptr 1 0), [.box [.d (.sl 3 (a0.Pieces.map TPiece.row)), .d (.sl 5 (a0.Chain.map TRenewal.row))]]), (3, .one (.d (.int .i64 s.1.2.1)), []), (5, .one (.d (.int .i64 (↑s.1.2.2 : Int))), [])]) (fun s => s.1.1) ⟨((a0.Chain.length + 1), v1_0, 0), rfl, by first | omega | (dsimp only; omega) | simp⟩ (wk_keep (by simp)) ?_
    rintro ⟨⟨n2, v2_0, v2_1⟩, e2, j2⟩
    try dsimp only at e2 j2
    obtain ⟨p2, rfl⟩ : ∃ p, n2 = p + 1 := ⟨n2 - 1, by omega⟩
    simp
    refine condB (fun k4 q2 => ?_) (fun k4 q2 => ?_)
    · have h2 : (decide ((↑v2_1 : Int) < (↑a0.Chain.length : Int))) = true := by simpa using q2
      have i2 : v2_1 < a0.Chain.length := by simpa using q2
      have m4 : a0.Chain.length ≤ 9223372036854775807 := by simpa using k4 25 _ rfl
      have w2 : IntKind.i64.wrap ((v2_1 : Int) + 1) = (v2_1 : Int) + 1 := wrap_of (by omega) (by omega)
      try simp at q2
      simp [i2, rowAt_map]
      repeat (refine ⟨by intros; omega, ?_⟩)
      refine callRd rfl rfl rfl rfl (s_RenewalSize_ok (nth a0.Chain v2_1)) (by simp) (by simp) (by simp) ?_
      simp
      refine nxtI ⟨(p2, (W (v2_0 + (s_RenewalSize (nth a0.Chain v2_1)))), (v2_1 + 1)), ?_, ?_⟩ (by simp) (wk_keep (by simp [w2]))
      · rw [← e2]; simp only [s_StrandSize_2, h2, cond_true, cond_false]
      · first | omega | (simp at *; omega)
    · have h2 : (decide ((↑v2_1 : Int) < (↑a0.Chain.length : Int))) = false := by simpa using q2
      try simp at q2
      have x2 : s_StrandSize_2 a0 (a0.Chain.length + 1) v1_0 0 = v2_0 := by rw [← e2]; simp only [s_StrandSize_2, h2, cond_true, cond_false]
      simp
      refine retRd (rv := [.tmp 2]) rfl ?_
      have f1 : s_StrandSize a0 = v2_0 := by simp only [s_StrandSize, x1, x2, cond_true, cond_false]
      simp [f1]
theorem i_RenewalSize_ok (a0 : TRenewal) : SoundAt Try.prog 101 false [a0.row] [[.int .i64 (i_RenewalSize a0)]] := by
  refine sound_of Try.func101 rfl (by kernel_rfl) ?_
  simp [Try.ntmps101]
  refine retRd (rv := [.tmp 2]) rfl ?_
  have f1 : i_RenewalSize a0 = (W ((W (3 + (W (2 * (↑a0.Path.length : Int))))) + (W (6 * (↑a0.Stamps.length : Int))))) := by simp only [i_RenewalSize, cond_true, cond_false]
  simp [f1]
theorem i_StrandSize_ok (a0 : TStrand) : SoundAt Try.prog 33 false [a0.row] [[.int .i64 (i_StrandSize a0)]] := by
  refine sound_of Try.func33 rfl (by kernel_rfl) ?_
  simp [Try.ntmps33]
  refine okL fun k1 => ?_
  refine loopI (ι := { s : Nat × Int × Nat // i_StrandSize_1 a0 s.1 s.2.1 s.2.2 = i_StrandSize_1 a0 (a0.Chain.length + 1) 0 0 ∧ (1 ≤ s.1 ∧ a0.Chain.length < s.1 + s.2.2) }) (fun s => stOf 35 [(1, .one (.bptr 1 0), [.box [.d (.sl 3 (a0.Pieces.map TPiece.row)), .d (.sl 5 (a0.Chain.map TRenewal.row))]]), (3, .one (.d (.int .i64 s.1.2.1)), []), (9, .one (.d (.sl 5 (a0.Chain.map TRenewal.row))), []), (10, .one (.d (.int .i64 (↑a0.Chain.length : Int))), []), (11, .one (.d (.int .i64 (↑s.1.2.2 : Int))), [])]) (fun s => s.1.1) ⟨((a0.Chain.length + 1), 0, 0), rfl, by first | omega | (dsimp only; omega) | simp⟩ (wk_keep (by simp)) ?_
  rintro ⟨⟨n1, v1_0, v1_1⟩, e1, j1⟩
  try dsimp only at e1 j1
  obtain ⟨p1, rfl⟩ : ∃ p, n1 = p + 1 := ⟨n1 - 1, by omega⟩
  simp
  refine condB (fun k2 q1 => ?_) (fun k2 q1 => ?_)
  · have h1 : (decide ((↑v1_1 : Int) < (↑a0.Chain.length : Int))) = true := by simpa using q1
    have i1 : v1_1 < a0.Chain.length := by simpa using q1
    have m2 : a0.Chain.length ≤ 9223372036854775807 := by simpa using k2 9 _ rfl
    have w1 : IntKind.i64.wrap ((v1_1 : Int) + 1) = (v1_1 : Int) + 1 := wrap_of (by omega) (by omega)
    try simp at q1
    simp [i1, rowAt_map]
    repeat (refine ⟨by intros; omega, ?_⟩)
    refine callRd rfl rfl rfl rfl (i_RenewalSize_ok (nth a0.Chain v1_1)) (by simp) (by simp) (by simp) ?_
    simp
    refine nxtI ⟨(p1, (W (v1_0 + (i_RenewalSize (nth a0.Chain v1_1)))), (v1_1 + 1)), ?_, ?_⟩ (by simp) (wk_keep (by simp [w1]))
    · rw [← e1]; simp only [i_StrandSize_1, h1, cond_true, cond_false]
    · first | omega | (simp at *; omega)
  · have h1 : (decide ((↑v1_1 : Int) < (↑a0.Chain.length : Int))) = false := by simpa using q1
    try simp at q1
    have x1 : i_StrandSize_1 a0 (a0.Chain.length + 1) 0 0 = v1_0 := by rw [← e1]; simp only [i_StrandSize_1, h1, cond_true, cond_false]
    simp
    refine okL fun k3 => ?_
    refine loopI (ι := { s : Nat × Int × Nat // i_StrandSize_2 a0 s.1 s.2.1 s.2.2 = i_StrandSize_2 a0 (a0.Pieces.length + 1) v1_0 0 ∧ (1 ≤ s.1 ∧ a0.Pieces.length < s.1 + s.2.2) }) (fun s => stOf 35 [(3, .one (.d (.int .i64 s.1.2.1)), []), (21, .one (.d (.sl 3 (a0.Pieces.map TPiece.row))), []), (22, .one (.d (.int .i64 (↑a0.Pieces.length : Int))), []), (23, .one (.d (.int .i64 (↑s.1.2.2 : Int))), [])]) (fun s => s.1.1) ⟨((a0.Pieces.length + 1), v1_0, 0), rfl, by first | omega | (dsimp only; omega) | simp⟩ (wk_keep (by simp)) ?_
    rintro ⟨⟨n2, v2_0, v2_1⟩, e2, j2⟩
    try dsimp only at e2 j2
    obtain ⟨p2, rfl⟩ : ∃ p, n2 = p + 1 := ⟨n2 - 1, by omega⟩
    simp
    refine condB (fun k4 q2 => ?_) (fun k4 q2 => ?_)
    · have h2 : (decide ((↑v2_1 : Int) < (↑a0.Pieces.length : Int))) = true := by simpa using q2
      have i2 : v2_1 < a0.Pieces.length := by simpa using q2
      have m4 : a0.Pieces.length ≤ 9223372036854775807 := by simpa using k4 21 _ rfl
      have w2 : IntKind.i64.wrap ((v2_1 : Int) + 1) = (v2_1 : Int) + 1 := wrap_of (by omega) (by omega)
      try simp at q2
      simp [i2, rowAt_map]
      repeat (refine ⟨by intros; omega, ?_⟩)
      refine nxtI ⟨(p2, (W (v2_0 + (W (2 + (↑(nth a0.Pieces v2_1).Ints.length : Int))))), (v2_1 + 1)), ?_, ?_⟩ (by simp) (wk_keep (by simp [w2]))
      · rw [← e2]; simp only [i_StrandSize_2, h2, cond_true, cond_false]
      · first | omega | (simp at *; omega)
    · have h2 : (decide ((↑v2_1 : Int) < (↑a0.Pieces.length : Int))) = false := by simpa using q2
      try simp at q2
      have x2 : i_StrandSize_2 a0 (a0.Pieces.length + 1) v1_0 0 = v2_0 := by rw [← e2]; simp only [i_StrandSize_2, h2, cond_true, cond_false]
      simp
      refine retRd (rv := [.tmp 2]) rfl ?_
      have f1 : i_StrandSize a0 = v2_0 := by simp only [i_StrandSize, x1, x2, cond_true, cond_false]
      simp [f1]
theorem l_eqPiece_ok (a0 : TPiece) (a1 : TPiece) : SoundAt Try.prog 149 false [a0.row, a1.row] [[.bool (l_eqPiece a0 a1)]] := by
  refine sound_of Try.func149 rfl (by kernel_rfl) ?_
  simp [Try.ntmps149]
  refine condB (fun k1 q1 => ?_) (fun k1 q1 => ?_)
  · have h1 : (a0.Key != a1.Key) = true := by simpa using q1
    try simp at q1
    simp
    refine retRd (rv := [.tmp 4]) rfl ?_
    have f1 : l_eqPiece a0 a1 = false := by simp only [l_eqPiece, h1, cond_true, cond_false]
    simp [f1]
  · have h1 : (a0.Key != a1.Key) = false := by simpa using q1
    try simp at q1
    simp
    refine callRd rfl rfl rfl rfl (l_eqIntS_ok a0.Ints a1.Ints) (by simp) (by simp) (by simp) ?_
    simp
    refine condB (fun k2 q2 => ?_) (fun k2 q2 => ?_)
    · have h2 : (!(l_eqIntS a0.Ints a1.Ints)) = true := by simpa using q2
      try simp at q2
      simp
      refine retRd (rv := [.tmp 4]) rfl ?_
      have f2 : l_eqPiece a0 a1 = false := by simp only [l_eqPiece, h1, h2, cond_true, cond_false]
      simp [f2]
    · have h2 : (!(l_eqIntS a0.Ints a1.Ints)) = false := by simpa using q2
      try simp at q2
      simp
      refine condB (fun k3 q3 => ?_) (fun k3 q3 => ?_)
      · have h3 : (a0.Mark != a1.Mark) = true := by simpa using q3
        try simp at q3
        simp
        refine retRd (rv := [.tmp 4]) rfl ?_
        have f3 : l_eqPiece a0 a1 = false := by simp only [l_eqPiece, h1, h2, h3, cond_true, cond_false]
        simp [f3]
      · have h3 : (a0.Mark != a1.Mark) = false := by simpa using q3
        try simp at q3
        simp
        refine retRd (rv := [.tmp 4]) rfl ?_
        have f4 : l_eqPiece a0 a1 = true := by simp only [l_eqPiece, h1, h2, h3, cond_true, cond_false]
        simp [f4]
theorem l_eqPieceS_ok (a0 : List TPiece) (a1 : List TPiece) : SoundAt Try.prog 102 false [[.sl 3 (a0.map TPiece.row)], [.sl 3 (a1.map TPiece.row)]] [[.bool (l_eqPieceS a0 a1)]] := by
  refine sound_of Try.func102 rfl (by kernel_rfl) ?_
  simp [Try.ntmps102]
  refine condB (fun k1 q1 => ?_) (fun k1 q1 => ?_)
  · have h1 : ((↑a0.length : Int) != (↑a1.length : Int)) = true := by simpa using q1
    try simp at q1
    simp
    refine retRd (rv := [.tmp 4]) rfl ?_
    have f1 : l_eqPieceS a0 a1 = false := by simp only [l_eqPieceS, h1, cond_true, cond_false]
    simp [f1]
  · have h1 : ((↑a0.length : Int) != (↑a1.length : Int)) = false := by simpa using q1
    try simp at q1
    simp
    refine okL fun k2 => ?_
    refine loopI (ι := { s : Nat × Nat // l_eqPieceS_1 a0 a1 s.1 s.2 = l_eqPieceS_1 a0 a1 (a0.length + 1) 0 ∧ (1 ≤ s.1 ∧ a0.length < s.1 + s.2) }) (fun s => stOf 27 [(0, .one (.d (.sl 3 (a0.map TPiece.row))), []), (1, .one (.d (.sl 3 (a1.map TPiece.row))), []), (5, .one (.d (.int .i64 (↑s.1.2 : Int))), [])]) (fun s => s.1.1) ⟨((a0.length + 1), 0), rfl, by first | omega | (dsimp only; omega) | simp⟩ (wk_keep (by simp)) ?_
    rintro ⟨⟨n1, v1_0⟩, e1, j1⟩
    try dsimp only at e1 j1
    obtain ⟨p1, rfl⟩ : ∃ p, n1 = p + 1 := ⟨n1 - 1, by omega⟩
    simp
    refine condB (fun k3 q2 => ?_) (fun k3 q2 => ?_)
    · have h2 : (decide ((↑v1_0 : Int) < (↑a0.length : Int))) = true := by simpa using q2
      have i1 : v1_0 < a0.length := by simpa using q2
      have m2 : a0.length ≤ 9223372036854775807 := by simpa using k3 0 _ rfl
      have w1 : IntKind.i64.wrap ((v1_0 : Int) + 1) = (v1_0 : Int) + 1 := wrap_of (by omega) (by omega)
      try simp at q2
      simp
      refine okD fun k4 => ?_
      refine drawI mixed (by kernel_rfl) (by kernel_rfl) ?_
      have i2 : v1_0 < a1.length := by omega
      simp [i1, rowAt_map, i2]
      repeat (refine ⟨by intros; omega, ?_⟩)
      refine callRd rfl rfl rfl rfl (l_eqPiece_ok (nth a0 v1_0) (nth a1 v1_0)) (by simp) (by simp) (by simp) ?_
      simp
      refine condB (fun k5 q3 => ?_) (fun k5 q3 => ?_)
      · have h3 : (!(l_eqPiece (nth a0 v1_0) (nth a1 v1_0))) = true := by simpa using q3
        try simp at q3
        have x1 : l_eqPieceS_1 a0 a1 (a0.length + 1) 0 = .inl false := by rw [← e1]; simp only [l_eqPieceS_1, h2, h3, cond_true, cond_false]
        simp
        refine retRd (rv := [.tmp 4]) rfl ?_
        have f2 : l_eqPieceS a0 a1 = false := by simp only [l_eqPieceS, h1, x1, cond_true, cond_false]
        simp [f2]
      · have h3 : (!(l_eqPiece (nth a0 v1_0) (nth a1 v1_0))) = false := by simpa using q3
        try simp at q3
        simp
        refine nxtI ⟨(p1, (v1_0 + 1)), ?_, ?_⟩ (by simp) (wk_keep (by simp [w1]))
        · rw [← e1]; simp only [l_eqPieceS_1, h2, h3, cond_true, cond_false]
        · first | omega | (simp at *; omega)
    · have h2 : (decide ((↑v1_0 : Int) < (↑a0.length : Int))) = false := by simpa using q2
      try simp at q2
      have x2 : l_eqPieceS_1 a0 a1 (a0.length + 1) 0 = .inr () := by rw [← e1]; simp only [l_eqPieceS_1, h2, cond_true, cond_false]
      simp
      refine retRd (rv := [.tmp 4]) rfl ?_
      have f3 : l_eqPieceS a0 a1 = true := by simp only [l_eqPieceS, h1, x2, cond_true, cond_false]
      simp [f3]
theorem l_eqStep_ok (a0 : TStep) (a1 : TStep) : SoundAt Try.prog 182 false [a0.row, a1.row] [[.bool (l_eqStep a0 a1)]] := by
  refine sound_of Try.func182 rfl (by kernel_rfl) ?_
  simp [Try.ntmps182]
  refine condB (fun k1 q1 => ?_) (fun k1 q1 => ?_)
  · have h1 : (a0.Digest != a1.Digest) = true := by simpa using q1
    try simp at q1
    simp
    refine retRd (rv := [.tmp 4]) rfl ?_
    have f1 : l_eqStep a0 a1 = false := by simp only [l_eqStep, h1, cond_true, cond_false]
    simp [f1]
  · have h1 : (a0.Digest != a1.Digest) = false := by simpa using q1
    try simp at q1
    simp
    refine condB (fun k2 q2 => ?_) (fun k2 q2 => ?_)
    · have h2 : (!(a0.Left == a1.Left)) = true := by simpa using q2
      try simp at q2
      simp
      refine retRd (rv := [.tmp 4]) rfl ?_
      have f2 : l_eqStep a0 a1 = false := by simp only [l_eqStep, h1, h2, cond_true, cond_false]
      simp [f2]
    · have h2 : (!(a0.Left == a1.Left)) = false := by simpa using q2
      try simp at q2
      simp
      refine retRd (rv := [.tmp 4]) rfl ?_
      have f3 : l_eqStep a0 a1 = true := by simp only [l_eqStep, h1, h2, cond_true, cond_false]
      simp [f3]
theorem l_eqStepS_ok (a0 : List TStep) (a1 : List TStep) : SoundAt Try.prog 168 false [[.sl 2 (a0.map TStep.row)], [.sl 2 (a1.map TStep.row)]] [[.bool (l_eqStepS a0 a1)]] := by
  refine sound_of Try.func168 rfl (by kernel_rfl) ?_
  simp [Try.ntmps168]
  refine condB (fun k1 q1 => ?_) (fun k1 q1 => ?_)
  · have h1 : ((↑a0.length : Int) != (↑a1.length : Int)) = true := by simpa using q1
    try simp at q1
    simp
    refine retRd (rv := [.tmp 4]) rfl ?_
    have f1 : l_eqStepS a0 a1 = false := by simp only [l_eqStepS, h1, cond_true, cond_false]
    simp [f1]
  · have h1 : ((↑a0.length : Int) != (↑a1.length : Int)) = false := by simpa using q1
    try simp at q1
    simp
    refine okL fun k2 => ?_
    refine loopI (ι := { s : Nat × Nat // l_eqStepS_1 a0 a1 s.1 s.2 = l_eqStepS_1 a0 a1 (a0.length + 1) 0 ∧ (1 ≤ s.1 ∧ a0.length < s.1 + s.2) }) (fun s => stOf 27 [(0, .one (.d (.sl 2 (a0.map TStep.row))), []), (1, .one (.d (.sl 2 (a1.map TStep.row))), []), (5, .one (.d (.int .i64 (↑s.1.2 : Int))), [])]) (fun s => s.1.1) ⟨((a0.length + 1), 0), rfl, by first | omega | (dsimp only; omega) | simp⟩ (wk_keep (by simp)) ?_
    rintro ⟨⟨n1, v1_0⟩, e1, j1⟩
    try dsimp only at e1 j1
    obtain ⟨p1, rfl⟩ : ∃ p, n1 = p + 1 := ⟨n1 - 1, by omega⟩
    simp
    refine condB (fun k3 q2 => ?_) (fun k3 q2 => ?_)
    · have h2 : (decide ((↑v1_0 : Int) < (↑a0.length : Int))) = true := by simpa using q2
      have i1 : v1_0 < a0.length := by simpa using q2
      have m2 : a0.length ≤ 9223372036854775807 := by simpa using k3 0 _ rfl
      have w1 : IntKind.i64.wrap ((v1_0 : Int) + 1) = (v1_0 : Int) + 1 := wrap_of (by omega) (by omega)
      try simp at q2
      simp
      refine okD fun k4 => ?_
      refine drawI mixed (by kernel_rfl) (by kernel_rfl) ?_
      have i2 : v1_0 < a1.length := by omega
      simp [i1, rowAt_map, i2]
      repeat (refine ⟨by intros; omega, ?_⟩)
      refine callRd rfl rfl rfl rfl (l_eqStep_ok (nth a0 v1_0) (nth a1 v1_0)) (by simp) (by simp) (by simp) ?_
      simp
      refine condB (fun k5 q3 => ?_) (fun k5 q3 => ?_)
      · have h3 : (!(l_eqStep (nth a0 v1_0) (nth a1 v1_0))) = true := by simpa using q3
        try simp at q3
        have x1 : l_eqStepS_1 a0 a1 (a0.length + 1) 0 = .inl false := by rw [← e1]; simp only [l_eqStepS_1, h2, h3, cond_true, cond_false]
        simp
        refine retRd (rv := [.tmp 4]) rfl ?_
        have f2 : l_eqStepS a0 a1 = false := by simp only [l_eqStepS, h1, x1, cond_true, cond_false]
        simp [f2]
      · have h3 : (!(l_eqStep (nth a0 v1_0) (nth a1 v1_0))) = false := by simpa using q3
        try simp at q3
        simp
        refine nxtI ⟨(p1, (v1_0 + 1)), ?_, ?_⟩ (by simp) (wk_keep (by simp [w1]))
        · rw [← e1]; simp only [l_eqStepS_1, h2, h3, cond_true, cond_false]
        · first | omega | (simp at *; omega)
    · have h2 : (decide ((↑v1_0 : Int) < (↑a0.length : Int))) = false := by simpa using q2
      try simp at q2
      have x2 : l_eqStepS_1 a0 a1 (a0.length + 1) 0 = .inr () := by rw [← e1]; simp only [l_eqStepS_1, h2, cond_true, cond_false]
      simp
      refine retRd (rv := [.tmp 4]) rfl ?_
      have f3 : l_eqStepS a0 a1 = true := by simp only [l_eqStepS, h1, x2, cond_true, cond_false]
      simp [f3]
theorem l_eqStamp_ok (a0 : TStamp) (a1 : TStamp) : SoundAt Try.prog 183 false [a0.row, a1.row] [[.bool (l_eqStamp a0 a1)]] := by
  refine sound_of Try.func183 rfl (by kernel_rfl) ?_
  simp [Try.ntmps183]
  refine condB (fun k1 q1 => ?_) (fun k1 q1 => ?_)
  · have h1 : (a0.Authority != a1.Authority) = true := by simpa using q1
    try simp at q1
    simp
    refine retRd (rv := [.tmp 4]) rfl ?_
    have f1 : l_eqStamp a0 a1 = false := by simp only [l_eqStamp, h1, cond_true, cond_false]
    simp [f1]
  · have h1 : (a0.Authority != a1.Authority) = false := by simpa using q1
    try simp at q1
    simp
    refine condB (fun k2 q2 => ?_) (fun k2 q2 => ?_)
    · have h2 : (a0.Seq != a1.Seq) = true := by simpa using q2
      try simp at q2
      simp
      refine retRd (rv := [.tmp 4]) rfl ?_
      have f2 : l_eqStamp a0 a1 = false := by simp only [l_eqStamp, h1, h2, cond_true, cond_false]
      simp [f2]
    · have h2 : (a0.Seq != a1.Seq) = false := by simpa using q2
      try simp at q2
      simp
      refine condB (fun k3 q3 => ?_) (fun k3 q3 => ?_)
      · have h3 : (a0.Time != a1.Time) = true := by simpa using q3
        try simp at q3
        simp
        refine retRd (rv := [.tmp 4]) rfl ?_
        have f3 : l_eqStamp a0 a1 = false := by simp only [l_eqStamp, h1, h2, h3, cond_true, cond_false]
        simp [f3]
      · have h3 : (a0.Time != a1.Time) = false := by simpa using q3
        try simp at q3
        simp
        refine condB (fun k4 q4 => ?_) (fun k4 q4 => ?_)
        · have h4 : (a0.Digest != a1.Digest) = true := by simpa using q4
          try simp at q4
          simp
          refine retRd (rv := [.tmp 4]) rfl ?_
          have f4 : l_eqStamp a0 a1 = false := by simp only [l_eqStamp, h1, h2, h3, h4, cond_true, cond_false]
          simp [f4]
        · have h4 : (a0.Digest != a1.Digest) = false := by simpa using q4
          try simp at q4
          simp
          refine condB (fun k5 q5 => ?_) (fun k5 q5 => ?_)
          · have h5 : (a0.Mark != a1.Mark) = true := by simpa using q5
            try simp at q5
            simp
            refine retRd (rv := [.tmp 4]) rfl ?_
            have f5 : l_eqStamp a0 a1 = false := by simp only [l_eqStamp, h1, h2, h3, h4, h5, cond_true, cond_false]
            simp [f5]
          · have h5 : (a0.Mark != a1.Mark) = false := by simpa using q5
            try simp at q5
            simp
            refine retRd (rv := [.tmp 4]) rfl ?_
            have f6 : l_eqStamp a0 a1 = true := by simp only [l_eqStamp, h1, h2, h3, h4, h5, cond_true, cond_false]
            simp [f6]
theorem l_eqStampS_ok (a0 : List TStamp) (a1 : List TStamp) : SoundAt Try.prog 169 false [[.sl 5 (a0.map TStamp.row)], [.sl 5 (a1.map TStamp.row)]] [[.bool (l_eqStampS a0 a1)]] := by
  refine sound_of Try.func169 rfl (by kernel_rfl) ?_
  simp [Try.ntmps169]
  refine condB (fun k1 q1 => ?_) (fun k1 q1 => ?_)
  · have h1 : ((↑a0.length : Int) != (↑a1.length : Int)) = true := by simpa using q1
    try simp at q1
    simp
    refine retRd (rv := [.tmp 4]) rfl ?_
    have f1 : l_eqStampS a0 a1 = false := by simp only [l_eqStampS, h1, cond_true, cond_false]
    simp [f1]
  · have h1 : ((↑a0.length : Int) != (↑a1.length : Int)) = false := by simpa using q1
    try simp at q1
    simp
    refine okL fun k2 => ?_
    refine loopI (ι := { s : Nat × Nat // l_eqStampS_1 a0 a1 s.1 s.2 = l_eqStampS_1 a0 a1 (a0.length + 1) 0 ∧ (1 ≤ s.1 ∧ a0.length < s.1 + s.2) }) (fun s => stOf 27 [(0, .one (.d (.sl 5 (a0.map TStamp.row))), []), (1, .one (.d (.sl 5 (a1.map TStamp.row))), []), (5, .one (.d (.int .i64 (↑s.1.2 : Int))), [])]) (fun s => s.1.1) ⟨((a0.length + 1), 0), rfl, by first | omega | (dsimp only; omega) | simp⟩ (wk_keep (by simp)) ?_
    rintro ⟨⟨n1, v1_0⟩, e1, j1⟩
    try dsimp only at e1 j1
    obtain ⟨p1, rfl⟩ : ∃ p, n1 = p + 1 := ⟨n1 - 1, by omega⟩
    simp
    refine condB (fun k3 q2 => ?_) (fun k3 q2 => ?_)
    · have h2 : (decide ((↑v1_0 : Int) < (↑a0.length : Int))) = true := by simpa using q2
      have i1 : v1_0 < a0.length := by simpa using q2
      have m2 : a0.length ≤ 9223372036854775807 := by simpa using k3 0 _ rfl
      have w1 : IntKind.i64.wrap ((v1_0 : Int) + 1) = (v1_0 : Int) + 1 := wrap_of (by omega) (by omega)
      try simp at q2
      simp
      refine okD fun k4 => ?_
      refine drawI mixed (by kernel_rfl) (by kernel_rfl) ?_
      have i2 : v1_0 < a1.length := by omega
      simp [i1, rowAt_map, i2]
      repeat (refine ⟨by intros; omega, ?_⟩)
      refine callRd rfl rfl rfl rfl (l_eqStamp_ok (nth a0 v1_0) (nth a1 v1_0)) (by simp) (by simp) (by simp) ?_
      simp
      refine condB (fun k5 q3 => ?_) (fun k5 q3 => ?_)
      · have h3 : (!(l_eqStamp (nth a0 v1_0) (nth a1 v1_0))) = true := by simpa using q3
        try simp at q3
        have x1 : l_eqStampS_1 a0 a1 (a0.length + 1) 0 = .inl false := by rw [← e1]; simp only [l_eqStampS_1, h2, h3, cond_true, cond_false]
        simp
        refine retRd (rv := [.tmp 4]) rfl ?_
        have f2 : l_eqStampS a0 a1 = false := by simp only [l_eqStampS, h1, x1, cond_true, cond_false]
        simp [f2]
      · have h3 : (!(l_eqStamp (nth a0 v1_0) (nth a1 v1_0))) = false := by simpa using q3
        try simp at q3
        simp
        refine nxtI ⟨(p1, (v1_0 + 1)), ?_, ?_⟩ (by simp) (wk_keep (by simp [w1]))
        · rw [← e1]; simp only [l_eqStampS_1, h2, h3, cond_true, cond_false]
        · first | omega | (simp at *; omega)
    · have h2 : (decide ((↑v1_0 : Int) < (↑a0.length : Int))) = false := by simpa using q2
      try simp at q2
      have x2 : l_eqStampS_1 a0 a1 (a0.length + 1) 0 = .inr () := by rw [← e1]; simp only [l_eqStampS_1, h2, cond_true, cond_false]
      simp
      refine retRd (rv := [.tmp 4]) rfl ?_
      have f3 : l_eqStampS a0 a1 = true := by simp only [l_eqStampS, h1, x2, cond_true, cond_false]
      simp [f3]
theorem l_eqRenewal_ok (a0 : TRenewal) (a1 : TRenewal) : SoundAt Try.prog 150 false [a0.row, a1.row] [[.bool (l_eqRenewal a0 a1)]] := by
  refine sound_of Try.func150 rfl (by kernel_rfl) ?_
  simp [Try.ntmps150]
  refine condB (fun k1 q1 => ?_) (fun k1 q1 => ?_)
  · have h1 : (a0.Count != a1.Count) = true := by simpa using q1
    try simp at q1
    simp
    refine retRd (rv := [.tmp 4]) rfl ?_
    have f1 : l_eqRenewal a0 a1 = false := by simp only [l_eqRenewal, h1, cond_true, cond_false]
    simp [f1]
  · have h1 : (a0.Count != a1.Count) = false := by simpa using q1
    try simp at q1
    simp
    refine condB (fun k2 q2 => ?_) (fun k2 q2 => ?_)
    · have h2 : (a0.Method != a1.Method) = true := by simpa using q2
      try simp at q2
      simp
      refine retRd (rv := [.tmp 4]) rfl ?_
      have f2 : l_eqRenewal a0 a1 = false := by simp only [l_eqRenewal, h1, h2, cond_true, cond_false]
      simp [f2]
    · have h2 : (a0.Method != a1.Method) = false := by simpa using q2
      try simp at q2
      simp
      refine condB (fun k3 q3 => ?_) (fun k3 q3 => ?_)
      · have h3 : (a0.Root != a1.Root) = true := by simpa using q3
        try simp at q3
        simp
        refine retRd (rv := [.tmp 4]) rfl ?_
        have f3 : l_eqRenewal a0 a1 = false := by simp only [l_eqRenewal, h1, h2, h3, cond_true, cond_false]
        simp [f3]
      · have h3 : (a0.Root != a1.Root) = false := by simpa using q3
        try simp at q3
        simp
        refine callRd rfl rfl rfl rfl (l_eqStepS_ok a0.Path a1.Path) (by simp) (by simp) (by simp) ?_
        simp
        refine condB (fun k4 q4 => ?_) (fun k4 q4 => ?_)
        · have h4 : (!(l_eqStepS a0.Path a1.Path)) = true := by simpa using q4
          try simp at q4
          simp
          refine retRd (rv := [.tmp 4]) rfl ?_
          have f4 : l_eqRenewal a0 a1 = false := by simp only [l_eqRenewal, h1, h2, h3, h4, cond_true, cond_false]
          simp [f4]
        · have h4 : (!(l_eqStepS a0.Path a1.Path)) = false := by simpa using q4
          try simp at q4
          simp
          refine callRd rfl rfl rfl rfl (l_eqStampS_ok a0.Stamps a1.Stamps) (by simp) (by simp) (by simp) ?_
          simp
          refine condB (fun k5 q5 => ?_) (fun k5 q5 => ?_)
          · have h5 : (!(l_eqStampS a0.Stamps a1.Stamps)) = true := by simpa using q5
            try simp at q5
            simp
            refine retRd (rv := [.tmp 4]) rfl ?_
            have f5 : l_eqRenewal a0 a1 = false := by simp only [l_eqRenewal, h1, h2, h3, h4, h5, cond_true, cond_false]
            simp [f5]
          · have h5 : (!(l_eqStampS a0.Stamps a1.Stamps)) = false := by simpa using q5
            try simp at q5
            simp
            refine retRd (rv := [.tmp 4]) rfl ?_
            have f6 : l_eqRenewal a0 a1 = true := by simp only [l_eqRenewal, h1, h2, h3, h4, h5, cond_true, cond_false]
            simp [f6]
theorem l_eqRenewalS_ok (a0 : List TRenewal) (a1 : List TRenewal) : SoundAt Try.prog 103 false [[.sl 5 (a0.map TRenewal.row)], [.sl 5 (a1.map TRenewal.row)]] [[.bool (l_eqRenewalS a0 a1)]] := by
  refine sound_of Try.func103 rfl (by kernel_rfl) ?_
  simp [Try.ntmps103]
  refine condB (fun k1 q1 => ?_) (fun k1 q1 => ?_)
  · have h1 : ((↑a0.length : Int) != (↑a1.length : Int)) = true := by simpa using q1
    try simp at q1
    simp
    refine retRd (rv := [.tmp 4]) rfl ?_
    have f1 : l_eqRenewalS a0 a1 = false := by simp only [l_eqRenewalS, h1, cond_true, cond_false]
    simp [f1]
  · have h1 : ((↑a0.length : Int) != (↑a1.length : Int)) = false := by simpa using q1
    try simp at q1
    simp
    refine okL fun k2 => ?_
    refine loopI (ι := { s : Nat × Nat // l_eqRenewalS_1 a0 a1 s.1 s.2 = l_eqRenewalS_1 a0 a1 (a0.length + 1) 0 ∧ (1 ≤ s.1 ∧ a0.length < s.1 + s.2) }) (fun s => stOf 27 [(0, .one (.d (.sl 5 (a0.map TRenewal.row))), []), (1, .one (.d (.sl 5 (a1.map TRenewal.row))), []), (5, .one (.d (.int .i64 (↑s.1.2 : Int))), [])]) (fun s => s.1.1) ⟨((a0.length + 1), 0), rfl, by first | omega | (dsimp only; omega) | simp⟩ (wk_keep (by simp)) ?_
    rintro ⟨⟨n1, v1_0⟩, e1, j1⟩
    try dsimp only at e1 j1
    obtain ⟨p1, rfl⟩ : ∃ p, n1 = p + 1 := ⟨n1 - 1, by omega⟩
    simp
    refine condB (fun k3 q2 => ?_) (fun k3 q2 => ?_)
    · have h2 : (decide ((↑v1_0 : Int) < (↑a0.length : Int))) = true := by simpa using q2
      have i1 : v1_0 < a0.length := by simpa using q2
      have m2 : a0.length ≤ 9223372036854775807 := by simpa using k3 0 _ rfl
      have w1 : IntKind.i64.wrap ((v1_0 : Int) + 1) = (v1_0 : Int) + 1 := wrap_of (by omega) (by omega)
      try simp at q2
      simp
      refine okD fun k4 => ?_
      refine drawI mixed (by kernel_rfl) (by kernel_rfl) ?_
      have i2 : v1_0 < a1.length := by omega
      simp [i1, rowAt_map, i2]
      repeat (refine ⟨by intros; omega, ?_⟩)
      refine callRd rfl rfl rfl rfl (l_eqRenewal_ok (nth a0 v1_0) (nth a1 v1_0)) (by simp) (by simp) (by simp) ?_
      simp
      refine condB (fun k5 q3 => ?_) (fun k5 q3 => ?_)
      · have h3 : (!(l_eqRenewal (nth a0 v1_0) (nth a1 v1_0))) = true := by simpa using q3
        try simp at q3
        have x1 : l_eqRenewalS_1 a0 a1 (a0.length + 1) 0 = .inl false := by rw [← e1]; simp only [l_eqRenewalS_1, h2, h3, cond_true, cond_false]
        simp
        refine retRd (rv := [.tmp 4]) rfl ?_
        have f2 : l_eqRenewalS a0 a1 = false := by simp only [l_eqRenewalS, h1, x1, cond_true, cond_false]
        simp [f2]
      · have h3 : (!(l_eqRenewal (nth a0 v1_0) (nth a1 v1_0))) = false := by simpa using q3
        try simp at q3
        simp
        refine nxtI ⟨(p1, (v1_0 + 1)), ?_, ?_⟩ (by simp) (wk_keep (by simp [w1]))
        · rw [← e1]; simp only [l_eqRenewalS_1, h2, h3, cond_true, cond_false]
        · first | omega | (simp at *; omega)
    · have h2 : (decide ((↑v1_0 : Int) < (↑a0.length : Int))) = false := by simpa using q2
      try simp at q2
      have x2 : l_eqRenewalS_1 a0 a1 (a0.length + 1) 0 = .inr () := by rw [← e1]; simp only [l_eqRenewalS_1, h2, cond_true, cond_false]
      simp
      refine retRd (rv := [.tmp 4]) rfl ?_
      have f3 : l_eqRenewalS a0 a1 = true := by simp only [l_eqRenewalS, h1, x2, cond_true, cond_false]
      simp [f3]
theorem l_eqStrand_ok (a0 : TStrand) (a1 : TStrand) : SoundAt Try.prog 34 false [a0.row, a1.row] [[.bool (l_eqStrand a0 a1)]] := by
  refine sound_of Try.func34 rfl (by kernel_rfl) ?_
  simp [Try.ntmps34]
  refine callRd rfl rfl rfl rfl (l_eqPieceS_ok a0.Pieces a1.Pieces) (by simp) (by simp) (by simp) ?_
  simp
  refine condB (fun k1 q1 => ?_) (fun k1 q1 => ?_)
  · have h1 : (!(l_eqPieceS a0.Pieces a1.Pieces)) = true := by simpa using q1
    try simp at q1
    simp
    refine retRd (rv := [.tmp 4]) rfl ?_
    have f1 : l_eqStrand a0 a1 = false := by simp only [l_eqStrand, h1, cond_true, cond_false]
    simp [f1]
  · have h1 : (!(l_eqPieceS a0.Pieces a1.Pieces)) = false := by simpa using q1
    try simp at q1
    simp
    refine callRd rfl rfl rfl rfl (l_eqRenewalS_ok a0.Chain a1.Chain) (by simp) (by simp) (by simp) ?_
    simp
    refine condB (fun k2 q2 => ?_) (fun k2 q2 => ?_)
    · have h2 : (!(l_eqRenewalS a0.Chain a1.Chain)) = true := by simpa using q2
      try simp at q2
      simp
      refine retRd (rv := [.tmp 4]) rfl ?_
      have f2 : l_eqStrand a0 a1 = false := by simp only [l_eqStrand, h1, h2, cond_true, cond_false]
      simp [f2]
    · have h2 : (!(l_eqRenewalS a0.Chain a1.Chain)) = false := by simpa using q2
      try simp at q2
      simp
      refine retRd (rv := [.tmp 4]) rfl ?_
      have f3 : l_eqStrand a0 a1 = true := by simp only [l_eqStrand, h1, h2, cond_true, cond_false]
      simp [f3]
theorem l_FnExactStrandSize_ok (a0 : TStrand) (t0 : Sm maxLen a0) : SoundAt Try.prog 6 false [a0.row] [[.bool (l_FnExactStrandSize a0)]] := by
  refine sound_of Try.func6 rfl (by kernel_rfl) ?_
  simp [Try.ntmps6]
  refine callRd rfl rfl rfl rfl (l_szStrand_ok a0 1048576) (by simp) (by simp) (by simp) ?_
  simp
  refine condB (fun k1 q1 => ?_) (fun k1 q1 => ?_)
  · have h1 : (decide ((l_szStrand a0 1048576) < 0)) = true := by simpa using q1
    try simp at q1
    simp
    refine retRd (rv := [.tmp 2]) rfl ?_
    have f1 : l_FnExactStrandSize a0 = true := by simp only [l_FnExactStrandSize, h1, cond_true, cond_false]
    simp [f1]
  · have h1 : (decide ((l_szStrand a0 1048576) < 0)) = false := by simpa using q1
    try simp at q1
    obtain ⟨u0, y0⟩ := l_szStrand_sm a0 1048576 t0 (by omega) (by omega) (by simpa using h1)
    simp
    refine callRd rfl rfl rfl rfl (l_toStrand_ok a0 (sm_mono (n := 1048576) (by decide) (by simp [u0, l_toArchive_id, l_toArchiveS_id, l_toAuthority_id, l_toAuthorityS_id, l_toBoolS_id, l_toCert_id, l_toCertS_id, l_toDocument_id, l_toEvent_id, l_toEventS_id, l_toFrame_id, l_toIntS_id, l_toIntSS_id, l_toItem_id, l_toItemS_id, l_toKey_id, l_toKeyS_id, l_toMethod_id, l_toMethodS_id, l_toPiece_id, l_toPieceS_id, l_toRedacted_id, l_toRenewal_id, l_toRenewalS_id, l_toSignature_id, l_toStamp_id, l_toStampS_id, l_toStep_id, l_toStepS_id, l_toStrand_id, l_toStringS_id, l_toWorld_id]))) (by simp) (by simp) (by simp) ?_
    simp
    refine callRd rfl rfl rfl rfl (s_StrandSize_ok (l_toStrand a0)) (by simp) (by simp) (by simp) ?_
    simp
    refine callRd rfl rfl rfl rfl (l_toStrand_ok a0 (sm_mono (n := 1048576) (by decide) (by simp [u0, l_toArchive_id, l_toArchiveS_id, l_toAuthority_id, l_toAuthorityS_id, l_toBoolS_id, l_toCert_id, l_toCertS_id, l_toDocument_id, l_toEvent_id, l_toEventS_id, l_toFrame_id, l_toIntS_id, l_toIntSS_id, l_toItem_id, l_toItemS_id, l_toKey_id, l_toKeyS_id, l_toMethod_id, l_toMethodS_id, l_toPiece_id, l_toPieceS_id, l_toRedacted_id, l_toRenewal_id, l_toRenewalS_id, l_toSignature_id, l_toStamp_id, l_toStampS_id, l_toStep_id, l_toStepS_id, l_toStrand_id, l_toStringS_id, l_toWorld_id]))) (by simp) (by simp) (by simp) ?_
    simp
    refine callRd rfl rfl rfl rfl (i_StrandSize_ok (l_toStrand a0)) (by simp) (by simp) (by simp) ?_
    simp
    refine condB (fun k2 q2 => ?_) (fun k2 q2 => ?_)
    · have h2 : ((i_StrandSize (l_toStrand a0)) != (s_StrandSize (l_toStrand a0))) = true := by simpa using q2
      try simp at q2
      simp
      refine retRd (rv := [.tmp 2]) rfl ?_
      have f2 : l_FnExactStrandSize a0 = false := by simp only [l_FnExactStrandSize, h1, h2, cond_true, cond_false]
      simp [f2]
    · have h2 : ((i_StrandSize (l_toStrand a0)) != (s_StrandSize (l_toStrand a0))) = false := by simpa using q2
      try simp at q2
      simp
      refine okD fun k3 => ?_
      refine drawI mixed (by kernel_rfl) (by kernel_rfl) ?_
      simp
      refine callRd rfl rfl rfl rfl (l_toStrand_ok a0 (sm_mono (n := 1048576) (by decide) (by simp [u0, l_toArchive_id, l_toArchiveS_id, l_toAuthority_id, l_toAuthorityS_id, l_toBoolS_id, l_toCert_id, l_toCertS_id, l_toDocument_id, l_toEvent_id, l_toEventS_id, l_toFrame_id, l_toIntS_id, l_toIntSS_id, l_toItem_id, l_toItemS_id, l_toKey_id, l_toKeyS_id, l_toMethod_id, l_toMethodS_id, l_toPiece_id, l_toPieceS_id, l_toRedacted_id, l_toRenewal_id, l_toRenewalS_id, l_toSignature_id, l_toStamp_id, l_toStampS_id, l_toStep_id, l_toStepS_id, l_toStrand_id, l_toStringS_id, l_toWorld_id]))) (by simp) (by simp) (by simp) ?_
      simp
      refine callRd rfl rfl rfl rfl (l_eqStrand_ok (l_toStrand a0) (l_toStrand a0)) (by simp) (by simp) (by simp) ?_
      simp
      refine condB (fun k4 q3 => ?_) (fun k4 q3 => ?_)
      · have h3 : (!(l_eqStrand (l_toStrand a0) (l_toStrand a0))) = true := by simpa using q3
        try simp at q3
        simp
        refine retRd (rv := [.tmp 2]) rfl ?_
        have f3 : l_FnExactStrandSize a0 = false := by simp only [l_FnExactStrandSize, h1, h2, h3, cond_true, cond_false]
        simp [f3]
      · have h3 : (!(l_eqStrand (l_toStrand a0) (l_toStrand a0))) = false := by simpa using q3
        try simp at q3
        simp
        refine retRd (rv := [.tmp 2]) rfl ?_
        have f4 : l_FnExactStrandSize a0 = true := by simp only [l_FnExactStrandSize, h1, h2, h3, cond_true, cond_false]
        simp [f4]
theorem l_szItem_ok (a0 : TItem) (a1 : Int) : SoundAt Try.prog 42 false [a0.row, [.int .i64 a1]] [[.int .i64 (l_szItem a0 a1)]] := by
  refine sound_of Try.func42 rfl (by kernel_rfl) ?_
  simp [Try.ntmps42]
  refine callRd rfl rfl rfl rfl (l_szDocument_ok a0.Doc a1) (by simp) (by simp) (by simp) ?_
  simp
  refine condB (fun k1 q1 => ?_) (fun k1 q1 => ?_)
  · have h1 : (decide ((l_szDocument a0.Doc a1) < 0)) = true := by simpa using q1
    try simp at q1
    simp
    refine retRd (rv := [.tmp 4]) rfl ?_
    have f1 : l_szItem a0 a1 = (-1) := by simp only [l_szItem, h1, cond_true, cond_false]
    simp [f1]
  · have h1 : (decide ((l_szDocument a0.Doc a1) < 0)) = false := by simpa using q1
    try simp at q1
    simp
    refine callRd rfl rfl rfl rfl (l_szStrand_ok a0.Strand (l_szDocument a0.Doc a1)) (by simp) (by simp) (by simp) ?_
    simp
    refine condB (fun k2 q2 => ?_) (fun k2 q2 => ?_)
    · have h2 : (decide ((l_szStrand a0.Strand (l_szDocument a0.Doc a1)) < 0)) = true := by simpa using q2
      try simp at q2
      simp
      refine retRd (rv := [.tmp 4]) rfl ?_
      have f2 : l_szItem a0 a1 = (-1) := by simp only [l_szItem, h1, h2, cond_true, cond_false]
      simp [f2]
    · have h2 : (decide ((l_szStrand a0.Strand (l_szDocument a0.Doc a1)) < 0)) = false := by simpa using q2
      try simp at q2
      simp
      refine retRd (rv := [.tmp 4]) rfl ?_
      have f3 : l_szItem a0 a1 = (l_szStrand a0.Strand (l_szDocument a0.Doc a1)) := by simp only [l_szItem, h1, h2, cond_true, cond_false]
      simp [f3]
theorem l_szItemS_ok (a0 : List TItem) (a1 : Int) : SoundAt Try.prog 104 false [[.sl 16 (a0.map TItem.row)], [.int .i64 a1]] [[.int .i64 (l_szItemS a0 a1)]] := by
  refine sound_of Try.func104 rfl (by kernel_rfl) ?_
  simp [Try.ntmps104]
  refine condB (fun k1 q1 => ?_) (fun k1 q1 => ?_)
  · have h1 : (decide ((W (a1 - (↑a0.length : Int))) < 0)) = true := by simpa using q1
    try simp at q1
    simp
    refine retRd (rv := [.tmp 4]) rfl ?_
    have f1 : l_szItemS a0 a1 = (-1) := by simp only [l_szItemS, h1, cond_true, cond_false]
    simp [f1]
  · have h1 : (decide ((W (a1 - (↑a0.length : Int))) < 0)) = false := by simpa using q1
    try simp at q1
    simp
    refine okL fun k2 => ?_
    refine loopI (ι := { s : Nat × Int × Nat // l_szItemS_1 a0 s.1 s.2.1 s.2.2 = l_szItemS_1 a0 (a0.length + 1) (W (a1 - (↑a0.length : Int))) 0 ∧ (1 ≤ s.1 ∧ a0.length < s.1 + s.2.2) }) (fun s => stOf 27 [(0, .one (.d (.sl 16 (a0.map TItem.row))), []), (1, .one (.d (.int .i64 s.1.2.1)), []), (5, .one (.d (.int .i64 (↑s.1.2.2 : Int))), [])]) (fun s => s.1.1) ⟨((a0.length + 1), (W (a1 - (↑a0.length : Int))), 0), rfl, by first | omega | (dsimp only; omega) | simp⟩ (wk_keep (by simp)) ?_
    rintro ⟨⟨n1, v1_0, v1_1⟩, e1, j1⟩
    try dsimp only at e1 j1
    obtain ⟨p1, rfl⟩ : ∃ p, n1 = p + 1 := ⟨n1 - 1, by omega⟩
    simp
    refine condB (fun k3 q2 => ?_) (fun k3 q2 => ?_)
    · have h2 : (decide ((↑v1_1 : Int) < (↑a0.length : Int))) = true := by simpa using q2
      have i1 : v1_1 < a0.length := by simpa using q2
      have m2 : a0.length ≤ 9223372036854775807 := by simpa using k3 0 _ rfl
      have w1 : IntKind.i64.wrap ((v1_1 : Int) + 1) = (v1_1 : Int) + 1 := wrap_of (by omega) (by omega)
      try simp at q2
      simp [i1, rowAt_map]
      repeat (refine ⟨by intros; omega, ?_⟩)
      refine callRd rfl rfl rfl rfl (l_szItem_ok (nth a0 v1_1) v1_0) (by simp) (by simp) (by simp) ?_
      simp
      refine condB (fun k4 q3 => ?_) (fun k4 q3 => ?_)
      · have h3 : (decide ((l_szItem (nth a0 v1_1) v1_0) < 0)) = true := by simpa using q3
        try simp at q3
        have x1 : l_szItemS_1 a0 (a0.length + 1) (W (a1 - (↑a0.length : Int))) 0 = .inl (-1) := by rw [← e1]; simp only [l_szItemS_1, h2, h3, cond_true, cond_false]
        simp
        refine retRd (rv := [.tmp 4]) rfl ?_
        have f2 : l_szItemS a0 a1 = (-1) := by simp only [l_szItemS, h1, x1, cond_true, cond_false]
        simp [f2]
      · have h3 : (decide ((l_szItem (nth a0 v1_1) v1_0) < 0)) = false := by simpa using q3
        try simp at q3
        simp
        refine nxtI ⟨(p1, (l_szItem (nth a0 v1_1) v1_0), (v1_1 + 1)), ?_, ?_⟩ (by simp) (wk_keep (by simp [w1]))
        · rw [← e1]; simp only [l_szItemS_1, h2, h3, cond_true, cond_false]
        · first | omega | (simp at *; omega)
    · have h2 : (decide ((↑v1_1 : Int) < (↑a0.length : Int))) = false := by simpa using q2
      try simp at q2
      have x2 : l_szItemS_1 a0 (a0.length + 1) (W (a1 - (↑a0.length : Int))) 0 = .inr v1_0 := by rw [← e1]; simp only [l_szItemS_1, h2, cond_true, cond_false]
      simp
      refine retRd (rv := [.tmp 4]) rfl ?_
      have f3 : l_szItemS a0 a1 = v1_0 := by simp only [l_szItemS, h1, x2, cond_true, cond_false]
      simp [f3]
theorem l_szArchive_ok (a0 : TArchive) (a1 : Int) : SoundAt Try.prog 35 false [a0.row, [.int .i64 a1]] [[.int .i64 (l_szArchive a0 a1)]] := by
  refine sound_of Try.func35 rfl (by kernel_rfl) ?_
  simp [Try.ntmps35]
  refine callRd rfl rfl rfl rfl (l_szItemS_ok a0.Items a1) (by simp) (by simp) (by simp) ?_
  simp
  refine condB (fun k1 q1 => ?_) (fun k1 q1 => ?_)
  · have h1 : (decide ((l_szItemS a0.Items a1) < 0)) = true := by simpa using q1
    try simp at q1
    simp
    refine retRd (rv := [.tmp 4]) rfl ?_
    have f1 : l_szArchive a0 a1 = (-1) := by simp only [l_szArchive, h1, cond_true, cond_false]
    simp [f1]
  · have h1 : (decide ((l_szItemS a0.Items a1) < 0)) = false := by simpa using q1
    try simp at q1
    simp
    refine retRd (rv := [.tmp 4]) rfl ?_
    have f2 : l_szArchive a0 a1 = (l_szItemS a0.Items a1) := by simp only [l_szArchive, h1, cond_true, cond_false]
    simp [f2]
theorem l_toSignature_ok (a0 : TSignature) : SoundAt Try.prog 111 false [a0.row] [(l_toSignature a0).row] := by
  refine sound_of Try.func111 rfl (by kernel_rfl) ?_
  simp [Try.ntmps111]
  refine retRd (rv := [.cell 2 89]) rfl ?_
  have f1 : l_toSignature a0 = a0 := by simp only [l_toSignature, cond_true, cond_false]
  simp [f1]
theorem l_toItem_ok (a0 : TItem) (u0 : Sm 68719476736 a0) : SoundAt Try.prog 44 true [a0.row] [(l_toItem a0).row] := by
  refine sound_of Try.func44 rfl (by kernel_rfl) ?_
  simp [Try.ntmps44]
  refine callOwn rfl rfl rfl rfl (l_toDocument_ok a0.Doc (by simp [u0])) (by simp) (by simp) (by simp) (by simp) ?_
  simp
  refine callRd rfl rfl rfl rfl (l_toSignature_ok a0.Sig) (by simp) (by simp) (by simp) ?_
  simp
  refine callOwn rfl rfl rfl rfl (l_toStrand_ok a0.Strand (by simp [u0])) (by simp) (by simp) (by simp) (by simp) ?_
  simp
  refine retOwn (rv := [.cell 2 91]) rfl ?_
  have f1 : l_toItem a0 = (TItem.mk a0.Id a0.Keep (TDocument.mk (l_toDocument a0.Doc).Title (l_toDocument a0.Doc).Parts (l_toDocument a0.Doc).Salts) (l_toSignature a0.Sig) (TStrand.mk (l_toStrand a0.Strand).Pieces (l_toStrand a0.Strand).Chain)) := by simp only [l_toItem, cond_true, cond_false]
  simp [f1]
theorem l_toItemS_ok (a0 : List TItem) (u0 : Sm 68719476736 a0) : SoundAt Try.prog 106 true [[.sl 16 (a0.map TItem.row)]] [[.sl 16 ((l_toItemS a0).map TItem.row)]] := by
  refine sound_of Try.func106 rfl (by kernel_rfl) ?_
  have c1 : a0.length ≤ 68719476736 := sm_len (by simp [u0])
  simp [Try.ntmps106]
  repeat (refine ⟨by intros; omega, ?_⟩)
  refine okL fun k1 => ?_
  refine loopI (ι := { s : Nat × Nat × (List TItem) // l_toItemS_1 a0 s.1 s.2.1 s.2.2 = l_toItemS_1 a0 (a0.length + 1) 0 (List.replicate a0.length (TItem.mk 0 0 (TDocument.mk 0 ([] : List ByteArray) ([] : List Int)) (TSignature.mk 0 0 0 0 0 0 0 0 0) (TStrand.mk ([] : List TPiece) ([] : List TRenewal)))) ∧ (1 ≤ s.1 ∧ a0.length < s.1 + s.2.1 ∧ s.2.2.length = a0.length) }) (fun s => stOf 23 [(0, .one (.d (.sl 16 (a0.map TItem.row))), []), (3, .one (.sref 7 0 0 s.1.2.2.length), []), (4, .one (.d (.int .i64 (↑s.1.2.1 : Int))), []), (7, .any, [.arr 16 (s.1.2.2.map TItem.row)])]) (fun s => s.1.1) ⟨((a0.length + 1), 0, (List.replicate a0.length (TItem.mk 0 0 (TDocument.mk 0 ([] : List ByteArray) ([] : List Int)) (TSignature.mk 0 0 0 0 0 0 0 0 0) (TStrand.mk ([] : List TPiece) ([] : List TRenewal))))), rfl, by first | omega | (dsimp only; omega) | simp⟩ (wk_keep (by simp)) ?_
  rintro ⟨⟨n1, v1_0, v1_1⟩, e1, j1⟩
  try dsimp only at e1 j1
  obtain ⟨p1, rfl⟩ : ∃ p, n1 = p + 1 := ⟨n1 - 1, by omega⟩
  simp
  refine condB (fun k2 q1 => ?_) (fun k2 q1 => ?_)
  · have h1 : (decide ((↑v1_0 : Int) < (↑a0.length : Int))) = true := by simpa using q1
    have i1 : v1_0 < a0.length := by simpa using q1
    have m2 : a0.length ≤ 9223372036854775807 := by simpa using k2 0 _ rfl
    have w1 : IntKind.i64.wrap ((v1_0 : Int) + 1) = (v1_0 : Int) + 1 := wrap_of (by omega) (by omega)
    try simp at q1
    simp [i1, rowAt_map]
    repeat (refine ⟨by intros; omega, ?_⟩)
    refine callRd rfl rfl rfl rfl (l_toItem_ok (nth a0 v1_0) (by simp [u0])) (by simp) (by simp) (by simp) ?_
    have i2 : v1_0 < v1_1.length := by omega
    simp [i2, rowAt_map, set_map (x := (l_toItem (nth a0 v1_0))) rfl]
    repeat (refine ⟨by intros; omega, ?_⟩)
    refine nxtI ⟨(p1, (v1_0 + 1), (v1_1.set v1_0 (l_toItem (nth a0 v1_0)))), ?_, ?_⟩ (by simp) (wk_keep (by simp [w1]))
    · rw [← e1]; simp only [l_toItemS_1, h1, cond_true, cond_false]
    · first | omega | (simp at *; omega)
  · have h1 : (decide ((↑v1_0 : Int) < (↑a0.length : Int))) = false := by simpa using q1
    try simp at q1
    have x1 : l_toItemS_1 a0 (a0.length + 1) 0 (List.replicate a0.length (TItem.mk 0 0 (TDocument.mk 0 ([] : List ByteArray) ([] : List Int)) (TSignature.mk 0 0 0 0 0 0 0 0 0) (TStrand.mk ([] : List TPiece) ([] : List TRenewal)))) = v1_1 := by rw [← e1]; simp only [l_toItemS_1, h1, cond_true, cond_false]
    simp
    refine retOwn (rv := [.tmp 2]) rfl ?_
    have f1 : l_toItemS a0 = v1_1 := by simp only [l_toItemS, x1, cond_true, cond_false]
    simp [f1]
theorem l_toArchive_ok (a0 : TArchive) (u0 : Sm 68719476736 a0) : SoundAt Try.prog 37 true [a0.row] [(l_toArchive a0).row] := by
  refine sound_of Try.func37 rfl (by kernel_rfl) ?_
  simp [Try.ntmps37]
  refine callOwn rfl rfl rfl rfl (l_toItemS_ok a0.Items (by simp [u0])) (by simp) (by simp) (by simp) (by simp) ?_
  simp
  refine retOwn (rv := [.cell 2 76]) rfl ?_
  have f1 : l_toArchive a0 = (TArchive.mk a0.Id (l_toItemS a0.Items)) := by simp only [l_toArchive, cond_true, cond_false]
  simp [f1]
theorem s_Max_ok (a0 : Int) (a1 : Int) : SoundAt Try.prog 105 false [[.int .i64 a0], [.int .i64 a1]] [[.int .i64 (s_Max a0 a1)]] := by
  refine sound_of Try.func105 rfl (by kernel_rfl) ?_
  simp [Try.ntmps105]
  refine condB (fun k1 q1 => ?_) (fun k1 q1 => ?_)
  · have h1 : (decide (a1 > a0)) = true := by simpa using q1
    try simp at q1
    simp
    refine retRd (rv := [.tmp 4]) rfl ?_
    have f1 : s_Max a0 a1 = a1 := by simp only [s_Max, h1, cond_true, cond_false]
    simp [f1]
  · have h1 : (decide (a1 > a0)) = false := by simpa using q1
    try simp at q1
    simp
    refine retRd (rv := [.tmp 4]) rfl ?_
    have f2 : s_Max a0 a1 = a0 := by simp only [s_Max, h1, cond_true, cond_false]
    simp [f2]
theorem s_LongestPath_ok (a0 : TArchive) : SoundAt Try.prog 36 false [a0.row] [[.int .i64 (s_LongestPath a0)]] := by
  refine sound_of Try.func36 rfl (by kernel_rfl) ?_
  simp [Try.ntmps36]
  refine okL fun k1 => ?_
  refine loopI (ι := { s : Nat × Int × Nat // s_LongestPath_1 a0 s.1 s.2.1 s.2.2 = s_LongestPath_1 a0 (a0.Items.length + 1) 0 0 ∧ (1 ≤ s.1 ∧ a0.Items.length < s.1 + s.2.2) }) (fun s => stOf 40 [(1, .one (.bptr 1 0), [.box [.d (.int .i64 a0.Id), .d (.sl 16 (a0.Items.map TItem.row))]]), (3, .one (.d (.int .i64 s.1.2.1)), []), (4, .one (.d (.int .i64 (↑s.1.2.2 : Int))), [])]) (fun s => s.1.1) ⟨((a0.Items.length + 1), 0, 0), rfl, by first | omega | (dsimp only; omega) | simp⟩ (wk_keep (by simp)) ?_
  rintro ⟨⟨n1, v1_0, v1_1⟩, e1, j1⟩
  try dsimp only at e1 j1
  obtain ⟨p1, rfl⟩ : ∃ p, n1 = p + 1 := ⟨n1 - 1, by omega⟩
  simp
  refine condB (fun k2 q1 => ?_) (fun k2 q1 => ?_)
  · have h1 : (decide ((↑v1_1 : Int) < (↑a0.Items.length : Int))) = true := by simpa using q1
    have i1 : v1_1 < a0.Items.length := by simpa using q1
    have m2 : a0.Items.length ≤ 9223372036854775807 := by simpa using k2 8 _ rfl
    have w1 : IntKind.i64.wrap ((v1_1 : Int) + 1) = (v1_1 : Int) + 1 := wrap_of (by omega) (by omega)
    try simp at q1
    simp
    refine okL fun k3 => ?_
    refine loopI (ι := { s : Nat × Int × Nat // s_LongestPath_2 a0 v1_1 s.1 s.2.1 s.2.2 = s_LongestPath_2 a0 v1_1 ((nth a0.Items v1_1).Strand.Chain.length + 1) v1_0 0 ∧ (1 ≤ s.1 ∧ (nth a0.Items v1_1).Strand.Chain.length < s.1 + s.2.2) }) (fun s => stOf 40 [(1, .one (.bptr 1 0), [.box [.d (.int .i64 a0.Id), .d (.sl 16 (a0.Items.map TItem.row))]]), (3, .one (.d (.int .i64 s.1.2.1)), []), (4, .one (.d (.int .i64 (↑v1_1 : Int))), []), (5, .one (.d (.int .i64 (↑s.1.2.2 : Int))), [])]) (fun s => s.1.1) ⟨(((nth a0.Items v1_1).Strand.Chain.length + 1), v1_0, 0), rfl, by first | omega | (dsimp only; omega) | simp⟩ (wk_keep (by simp)) ?_
    rintro ⟨⟨n2, v2_0, v2_1⟩, e2, j2⟩
    try dsimp only at e2 j2
    obtain ⟨p2, rfl⟩ : ∃ p, n2 = p + 1 := ⟨n2 - 1, by omega⟩
    simp [i1, rowAt_map]
    repeat (refine ⟨by intros; omega, ?_⟩)
    refine condB (fun k4 q2 => ?_) (fun k4 q2 => ?_)
    · have h2 : (decide ((↑v2_1 : Int) < (↑(nth a0.Items v1_1).Strand.Chain.length : Int))) = true := by simpa using q2
      have i2 : v2_1 < (nth a0.Items v1_1).Strand.Chain.length := by simpa using q2
      have m4 : (nth a0.Items v1_1).Strand.Chain.length ≤ 9223372036854775807 := by simpa using k4 20 _ rfl
      have w2 : IntKind.i64.wrap ((v2_1 : Int) + 1) = (v2_1 : Int) + 1 := wrap_of (by omega) (by omega)
      try simp at q2
      simp [i1, rowAt_map, i2]
      repeat (refine ⟨by intros; omega, ?_⟩)
      refine callRd rfl rfl rfl rfl (s_Max_ok v2_0 (↑(nth (nth a0.Items v1_1).Strand.Chain v2_1).Path.length : Int)) (by simp) (by simp) (by simp) ?_
      simp
      refine nxtI ⟨(p2, (s_Max v2_0 (↑(nth (nth a0.Items v1_1).Strand.Chain v2_1).Path.length : Int)), (v2_1 + 1)), ?_, ?_⟩ (by simp) (wk_keep (by simp [w1, w2]))
      · rw [← e2]; simp only [s_LongestPath_2, h2, cond_true, cond_false]
      · first | omega | (simp at *; omega)
    · have h2 : (decide ((↑v2_1 : Int) < (↑(nth a0.Items v1_1).Strand.Chain.length : Int))) = false := by simpa using q2
      try simp at q2
      have x1 : s_LongestPath_2 a0 v1_1 ((nth a0.Items v1_1).Strand.Chain.length + 1) v1_0 0 = v2_0 := by rw [← e2]; simp only [s_LongestPath_2, h2, cond_true, cond_false]
      simp
      refine nxtI ⟨(p1, v2_0, (v1_1 + 1)), ?_, ?_⟩ (by simp) (wk_keep (by simp [w1]))
      · rw [← e1]; simp only [s_LongestPath_1, h1, x1, cond_true, cond_false]
      · first | omega | (simp at *; omega)
  · have h1 : (decide ((↑v1_1 : Int) < (↑a0.Items.length : Int))) = false := by simpa using q1
    try simp at q1
    have x2 : s_LongestPath_1 a0 (a0.Items.length + 1) 0 0 = v1_0 := by rw [← e1]; simp only [s_LongestPath_1, h1, cond_true, cond_false]
    simp
    refine retRd (rv := [.tmp 2]) rfl ?_
    have f1 : s_LongestPath a0 = v1_0 := by simp only [s_LongestPath, x2, cond_true, cond_false]
    simp [f1]
theorem i_LongestPath_ok (a0 : TArchive) : SoundAt Try.prog 38 false [a0.row] [[.int .i64 (i_LongestPath a0)]] := by
  refine sound_of Try.func38 rfl (by kernel_rfl) ?_
  simp [Try.ntmps38]
  refine okL fun k1 => ?_
  refine loopI (ι := { s : Nat × Int × Nat // i_LongestPath_1 a0 s.1 s.2.1 s.2.2 = i_LongestPath_1 a0 (a0.Items.length + 1) 0 0 ∧ (1 ≤ s.1 ∧ a0.Items.length < s.1 + s.2.2) }) (fun s => stOf 31 [(3, .one (.d (.int .i64 s.1.2.1)), []), (9, .one (.d (.sl 16 (a0.Items.map TItem.row))), []), (10, .one (.d (.int .i64 (↑a0.Items.length : Int))), []), (11, .one (.d (.int .i64 (↑s.1.2.2 : Int))), [])]) (fun s => s.1.1) ⟨((a0.Items.length + 1), 0, 0), rfl, by first | omega | (dsimp only; omega) | simp⟩ (wk_keep (by simp)) ?_
  rintro ⟨⟨n1, v1_0, v1_1⟩, e1, j1⟩
  try dsimp only at e1 j1
  obtain ⟨p1, rfl⟩ : ∃ p, n1 = p + 1 := ⟨n1 - 1, by omega⟩
  simp
  refine condB (fun k2 q1 => ?_) (fun k2 q1 => ?_)
  · have h1 : (decide ((↑v1_1 : Int) < (↑a0.Items.length : Int))) = true := by simpa using q1
    have i1 : v1_1 < a0.Items.length := by simpa using q1
    have m2 : a0.Items.length ≤ 9223372036854775807 := by simpa using k2 9 _ rfl
    have w1 : IntKind.i64.wrap ((v1_1 : Int) + 1) = (v1_1 : Int) + 1 := wrap_of (by omega) (by omega)
    try simp at q1
    simp [i1, rowAt_map]
    repeat (refine ⟨by intros; omega, ?_⟩)
    refine okL fun k3 => ?_
    refine loopI (ι := { s : Nat × Int × Nat // i_LongestPath_2 a0 v1_1 s.1 s.2.1 s.2.2 = i_LongestPath_2 a0 v1_1 ((nth a0.Items v1_1).Strand.Chain.length + 1) v1_0 0 ∧ (1 ≤ s.1 ∧ (nth a0.Items v1_1).Strand.Chain.length < s.1 + s.2.2) }) (fun s => stOf 31 [(3, .one (.d (.int .i64 s.1.2.1)), []), (9, .one (.d (.sl 16 (a0.Items.map TItem.row))), []), (10, .one (.d (.int .i64 (↑a0.Items.length : Int))), []), (11, .one (.d (.int .i64 (↑v1_1 : Int))), []), (17, .one (.d (.sl 5 ((nth a0.Items v1_1).Strand.Chain.map TRenewal.row))), []), (18, .one (.d (.int .i64 (↑(nth a0.Items v1_1).Strand.Chain.length : Int))), []), (19, .one (.d (.int .i64 (↑s.1.2.2 : Int))), [])]) (fun s => s.1.1) ⟨(((nth a0.Items v1_1).Strand.Chain.length + 1), v1_0, 0), rfl, by first | omega | (dsimp only; omega) | simp⟩ (wk_keep (by simp)) ?_
    rintro ⟨⟨n2, v2_0, v2_1⟩, e2, j2⟩
    try dsimp only at e2 j2
    obtain ⟨p2, rfl⟩ : ∃ p, n2 = p + 1 := ⟨n2 - 1, by omega⟩
    simp
    refine condB (fun k4 q2 => ?_) (fun k4 q2 => ?_)
    · have h2 : (decide ((↑v2_1 : Int) < (↑(nth a0.Items v1_1).Strand.Chain.length : Int))) = true := by simpa using q2
      have i2 : v2_1 < (nth a0.Items v1_1).Strand.Chain.length := by simpa using q2
      have m4 : (nth a0.Items v1_1).Strand.Chain.length ≤ 9223372036854775807 := by simpa using k4 17 _ rfl
      have w2 : IntKind.i64.wrap ((v2_1 : Int) + 1) = (v2_1 : Int) + 1 := wrap_of (by omega) (by omega)
      try simp at q2
      simp [i2, rowAt_map]
      repeat (refine ⟨by intros; omega, ?_⟩)
      refine nxtI ⟨(p2, (if (↑(nth (nth a0.Items v1_1).Strand.Chain v2_1).Path.length : Int) > v2_0 then (↑(nth (nth a0.Items v1_1).Strand.Chain v2_1).Path.length : Int) else v2_0), (v2_1 + 1)), ?_, ?_⟩ (by simp) (wk_keep (by simp [w1, w2]))
      · rw [← e2]; simp only [i_LongestPath_2, h2, cond_true, cond_false]
      · first | omega | (simp at *; omega)
    · have h2 : (decide ((↑v2_1 : Int) < (↑(nth a0.Items v1_1).Strand.Chain.length : Int))) = false := by simpa using q2
      try simp at q2
      have x1 : i_LongestPath_2 a0 v1_1 ((nth a0.Items v1_1).Strand.Chain.length + 1) v1_0 0 = v2_0 := by rw [← e2]; simp only [i_LongestPath_2, h2, cond_true, cond_false]
      simp
      refine nxtI ⟨(p1, v2_0, (v1_1 + 1)), ?_, ?_⟩ (by simp) (wk_keep (by simp [w1]))
      · rw [← e1]; simp only [i_LongestPath_1, h1, x1, cond_true, cond_false]
      · first | omega | (simp at *; omega)
  · have h1 : (decide ((↑v1_1 : Int) < (↑a0.Items.length : Int))) = false := by simpa using q1
    try simp at q1
    have x2 : i_LongestPath_1 a0 (a0.Items.length + 1) 0 0 = v1_0 := by rw [← e1]; simp only [i_LongestPath_1, h1, cond_true, cond_false]
    simp
    refine retRd (rv := [.tmp 2]) rfl ?_
    have f1 : i_LongestPath a0 = v1_0 := by simp only [i_LongestPath, x2, cond_true, cond_false]
    simp [f1]
theorem l_eqSignature_ok (a0 : TSignature) (a1 : TSignature) : SoundAt Try.prog 115 false [a0.row, a1.row] [[.bool (l_eqSignature a0 a1)]] := by
  refine sound_of Try.func115 rfl (by kernel_rfl) ?_
  simp [Try.ntmps115]
  refine condB (fun k1 q1 => ?_) (fun k1 q1 => ?_)
  · have h1 : (a0.Key != a1.Key) = true := by simpa using q1
    try simp at q1
    simp
    refine retRd (rv := [.tmp 4]) rfl ?_
    have f1 : l_eqSignature a0 a1 = false := by simp only [l_eqSignature, h1, cond_true, cond_false]
    simp [f1]
  · have h1 : (a0.Key != a1.Key) = false := by simpa using q1
    try simp at q1
    simp
    refine condB (fun k2 q2 => ?_) (fun k2 q2 => ?_)
    · have h2 : (a0.Serial != a1.Serial) = true := by simpa using q2
      try simp at q2
      simp
      refine retRd (rv := [.tmp 4]) rfl ?_
      have f2 : l_eqSignature a0 a1 = false := by simp only [l_eqSignature, h1, h2, cond_true, cond_false]
      simp [f2]
    · have h2 : (a0.Serial != a1.Serial) = false := by simpa using q2
      try simp at q2
      simp
      refine condB (fun k3 q3 => ?_) (fun k3 q3 => ?_)
      · have h3 : (a0.Method != a1.Method) = true := by simpa using q3
        try simp at q3
        simp
        refine retRd (rv := [.tmp 4]) rfl ?_
        have f3 : l_eqSignature a0 a1 = false := by simp only [l_eqSignature, h1, h2, h3, cond_true, cond_false]
        simp [f3]
      · have h3 : (a0.Method != a1.Method) = false := by simpa using q3
        try simp at q3
        simp
        refine condB (fun k4 q4 => ?_) (fun k4 q4 => ?_)
        · have h4 : (a0.Digest != a1.Digest) = true := by simpa using q4
          try simp at q4
          simp
          refine retRd (rv := [.tmp 4]) rfl ?_
          have f4 : l_eqSignature a0 a1 = false := by simp only [l_eqSignature, h1, h2, h3, h4, cond_true, cond_false]
          simp [f4]
        · have h4 : (a0.Digest != a1.Digest) = false := by simpa using q4
          try simp at q4
          simp
          refine condB (fun k5 q5 => ?_) (fun k5 q5 => ?_)
          · have h5 : (a0.Commit != a1.Commit) = true := by simpa using q5
            try simp at q5
            simp
            refine retRd (rv := [.tmp 4]) rfl ?_
            have f5 : l_eqSignature a0 a1 = false := by simp only [l_eqSignature, h1, h2, h3, h4, h5, cond_true, cond_false]
            simp [f5]
          · have h5 : (a0.Commit != a1.Commit) = false := by simpa using q5
            try simp at q5
            simp
            refine condB (fun k6 q6 => ?_) (fun k6 q6 => ?_)
            · have h6 : (a0.Org != a1.Org) = true := by simpa using q6
              try simp at q6
              simp
              refine retRd (rv := [.tmp 4]) rfl ?_
              have f6 : l_eqSignature a0 a1 = false := by simp only [l_eqSignature, h1, h2, h3, h4, h5, h6, cond_true, cond_false]
              simp [f6]
            · have h6 : (a0.Org != a1.Org) = false := by simpa using q6
              try simp at q6
              simp
              refine condB (fun k7 q7 => ?_) (fun k7 q7 => ?_)
              · have h7 : (a0.Before != a1.Before) = true := by simpa using q7
                try simp at q7
                simp
                refine retRd (rv := [.tmp 4]) rfl ?_
                have f7 : l_eqSignature a0 a1 = false := by simp only [l_eqSignature, h1, h2, h3, h4, h5, h6, h7, cond_true, cond_false]
                simp [f7]
              · have h7 : (a0.Before != a1.Before) = false := by simpa using q7
                try simp at q7
                simp
                refine condB (fun k8 q8 => ?_) (fun k8 q8 => ?_)
                · have h8 : (a0.After != a1.After) = true := by simpa using q8
                  try simp at q8
                  simp
                  refine retRd (rv := [.tmp 4]) rfl ?_
                  have f8 : l_eqSignature a0 a1 = false := by simp only [l_eqSignature, h1, h2, h3, h4, h5, h6, h7, h8, cond_true, cond_false]
                  simp [f8]
                · have h8 : (a0.After != a1.After) = false := by simpa using q8
                  try simp at q8
                  simp
                  refine condB (fun k9 q9 => ?_) (fun k9 q9 => ?_)
                  · have h9 : (a0.Mark != a1.Mark) = true := by simpa using q9
                    try simp at q9
                    simp
                    refine retRd (rv := [.tmp 4]) rfl ?_
                    have f9 : l_eqSignature a0 a1 = false := by simp only [l_eqSignature, h1, h2, h3, h4, h5, h6, h7, h8, h9, cond_true, cond_false]
                    simp [f9]
                  · have h9 : (a0.Mark != a1.Mark) = false := by simpa using q9
                    try simp at q9
                    simp
                    refine retRd (rv := [.tmp 4]) rfl ?_
                    have f10 : l_eqSignature a0 a1 = true := by simp only [l_eqSignature, h1, h2, h3, h4, h5, h6, h7, h8, h9, cond_true, cond_false]
                    simp [f10]
theorem l_eqItem_ok (a0 : TItem) (a1 : TItem) : SoundAt Try.prog 46 false [a0.row, a1.row] [[.bool (l_eqItem a0 a1)]] := by
  refine sound_of Try.func46 rfl (by kernel_rfl) ?_
  simp [Try.ntmps46]
  refine condB (fun k1 q1 => ?_) (fun k1 q1 => ?_)
  · have h1 : (a0.Id != a1.Id) = true := by simpa using q1
    try simp at q1
    simp
    refine retRd (rv := [.tmp 4]) rfl ?_
    have f1 : l_eqItem a0 a1 = false := by simp only [l_eqItem, h1, cond_true, cond_false]
    simp [f1]
  · have h1 : (a0.Id != a1.Id) = false := by simpa using q1
    try simp at q1
    simp
    refine condB (fun k2 q2 => ?_) (fun k2 q2 => ?_)
    · have h2 : (a0.Keep != a1.Keep) = true := by simpa using q2
      try simp at q2
      simp
      refine retRd (rv := [.tmp 4]) rfl ?_
      have f2 : l_eqItem a0 a1 = false := by simp only [l_eqItem, h1, h2, cond_true, cond_false]
      simp [f2]
    · have h2 : (a0.Keep != a1.Keep) = false := by simpa using q2
      try simp at q2
      simp
      refine callRd rfl rfl rfl rfl (l_eqDocument_ok a0.Doc a1.Doc) (by simp) (by simp) (by simp) ?_
      simp
      refine condB (fun k3 q3 => ?_) (fun k3 q3 => ?_)
      · have h3 : (!(l_eqDocument a0.Doc a1.Doc)) = true := by simpa using q3
        try simp at q3
        simp
        refine retRd (rv := [.tmp 4]) rfl ?_
        have f3 : l_eqItem a0 a1 = false := by simp only [l_eqItem, h1, h2, h3, cond_true, cond_false]
        simp [f3]
      · have h3 : (!(l_eqDocument a0.Doc a1.Doc)) = false := by simpa using q3
        try simp at q3
        simp
        refine callRd rfl rfl rfl rfl (l_eqSignature_ok a0.Sig a1.Sig) (by simp) (by simp) (by simp) ?_
        simp
        refine condB (fun k4 q4 => ?_) (fun k4 q4 => ?_)
        · have h4 : (!(l_eqSignature a0.Sig a1.Sig)) = true := by simpa using q4
          try simp at q4
          simp
          refine retRd (rv := [.tmp 4]) rfl ?_
          have f4 : l_eqItem a0 a1 = false := by simp only [l_eqItem, h1, h2, h3, h4, cond_true, cond_false]
          simp [f4]
        · have h4 : (!(l_eqSignature a0.Sig a1.Sig)) = false := by simpa using q4
          try simp at q4
          simp
          refine callRd rfl rfl rfl rfl (l_eqStrand_ok a0.Strand a1.Strand) (by simp) (by simp) (by simp) ?_
          simp
          refine condB (fun k5 q5 => ?_) (fun k5 q5 => ?_)
          · have h5 : (!(l_eqStrand a0.Strand a1.Strand)) = true := by simpa using q5
            try simp at q5
            simp
            refine retRd (rv := [.tmp 4]) rfl ?_
            have f5 : l_eqItem a0 a1 = false := by simp only [l_eqItem, h1, h2, h3, h4, h5, cond_true, cond_false]
            simp [f5]
          · have h5 : (!(l_eqStrand a0.Strand a1.Strand)) = false := by simpa using q5
            try simp at q5
            simp
            refine retRd (rv := [.tmp 4]) rfl ?_
            have f6 : l_eqItem a0 a1 = true := by simp only [l_eqItem, h1, h2, h3, h4, h5, cond_true, cond_false]
            simp [f6]
theorem l_eqItemS_ok (a0 : List TItem) (a1 : List TItem) : SoundAt Try.prog 107 false [[.sl 16 (a0.map TItem.row)], [.sl 16 (a1.map TItem.row)]] [[.bool (l_eqItemS a0 a1)]] := by
  refine sound_of Try.func107 rfl (by kernel_rfl) ?_
  simp [Try.ntmps107]
  refine condB (fun k1 q1 => ?_) (fun k1 q1 => ?_)
  · have h1 : ((↑a0.length : Int) != (↑a1.length : Int)) = true := by simpa using q1
    try simp at q1
    simp
    refine retRd (rv := [.tmp 4]) rfl ?_
    have f1 : l_eqItemS a0 a1 = false := by simp only [l_eqItemS, h1, cond_true, cond_false]
    simp [f1]
  · have h1 : ((↑a0.length : Int) != (↑a1.length : Int)) = false := by simpa using q1
    try simp at q1
    simp
    refine okL fun k2 => ?_
    refine loopI (ι := { s : Nat × Nat // l_eqItemS_1 a0 a1 s.1 s.2 = l_eqItemS_1 a0 a1 (a0.length + 1) 0 ∧ (1 ≤ s.1 ∧ a0.length < s.1 + s.2) }) (fun s => stOf 27 [(0, .one (.d (.sl 16 (a0.map TItem.row))), []), (1, .one (.d (.sl 16 (a1.map TItem.row))), []), (5, .one (.d (.int .i64 (↑s.1.2 : Int))), [])]) (fun s => s.1.1) ⟨((a0.length + 1), 0), rfl, by first | omega | (dsimp only; omega) | simp⟩ (wk_keep (by simp)) ?_
    rintro ⟨⟨n1, v1_0⟩, e1, j1⟩
    try dsimp only at e1 j1
    obtain ⟨p1, rfl⟩ : ∃ p, n1 = p + 1 := ⟨n1 - 1, by omega⟩
    simp
    refine condB (fun k3 q2 => ?_) (fun k3 q2 => ?_)
    · have h2 : (decide ((↑v1_0 : Int) < (↑a0.length : Int))) = true := by simpa using q2
      have i1 : v1_0 < a0.length := by simpa using q2
      have m2 : a0.length ≤ 9223372036854775807 := by simpa using k3 0 _ rfl
      have w1 : IntKind.i64.wrap ((v1_0 : Int) + 1) = (v1_0 : Int) + 1 := wrap_of (by omega) (by omega)
      try simp at q2
      simp
      refine okD fun k4 => ?_
      refine drawI mixed (by kernel_rfl) (by kernel_rfl) ?_
      have i2 : v1_0 < a1.length := by omega
      simp [i1, rowAt_map, i2]
      repeat (refine ⟨by intros; omega, ?_⟩)
      refine callRd rfl rfl rfl rfl (l_eqItem_ok (nth a0 v1_0) (nth a1 v1_0)) (by simp) (by simp) (by simp) ?_
      simp
      refine condB (fun k5 q3 => ?_) (fun k5 q3 => ?_)
      · have h3 : (!(l_eqItem (nth a0 v1_0) (nth a1 v1_0))) = true := by simpa using q3
        try simp at q3
        have x1 : l_eqItemS_1 a0 a1 (a0.length + 1) 0 = .inl false := by rw [← e1]; simp only [l_eqItemS_1, h2, h3, cond_true, cond_false]
        simp
        refine retRd (rv := [.tmp 4]) rfl ?_
        have f2 : l_eqItemS a0 a1 = false := by simp only [l_eqItemS, h1, x1, cond_true, cond_false]
        simp [f2]
      · have h3 : (!(l_eqItem (nth a0 v1_0) (nth a1 v1_0))) = false := by simpa using q3
        try simp at q3
        simp
        refine nxtI ⟨(p1, (v1_0 + 1)), ?_, ?_⟩ (by simp) (wk_keep (by simp [w1]))
        · rw [← e1]; simp only [l_eqItemS_1, h2, h3, cond_true, cond_false]
        · first | omega | (simp at *; omega)
    · have h2 : (decide ((↑v1_0 : Int) < (↑a0.length : Int))) = false := by simpa using q2
      try simp at q2
      have x2 : l_eqItemS_1 a0 a1 (a0.length + 1) 0 = .inr () := by rw [← e1]; simp only [l_eqItemS_1, h2, cond_true, cond_false]
      simp
      refine retRd (rv := [.tmp 4]) rfl ?_
      have f3 : l_eqItemS a0 a1 = true := by simp only [l_eqItemS, h1, x2, cond_true, cond_false]
      simp [f3]
theorem l_eqArchive_ok (a0 : TArchive) (a1 : TArchive) : SoundAt Try.prog 39 false [a0.row, a1.row] [[.bool (l_eqArchive a0 a1)]] := by
  refine sound_of Try.func39 rfl (by kernel_rfl) ?_
  simp [Try.ntmps39]
  refine condB (fun k1 q1 => ?_) (fun k1 q1 => ?_)
  · have h1 : (a0.Id != a1.Id) = true := by simpa using q1
    try simp at q1
    simp
    refine retRd (rv := [.tmp 4]) rfl ?_
    have f1 : l_eqArchive a0 a1 = false := by simp only [l_eqArchive, h1, cond_true, cond_false]
    simp [f1]
  · have h1 : (a0.Id != a1.Id) = false := by simpa using q1
    try simp at q1
    simp
    refine callRd rfl rfl rfl rfl (l_eqItemS_ok a0.Items a1.Items) (by simp) (by simp) (by simp) ?_
    simp
    refine condB (fun k2 q2 => ?_) (fun k2 q2 => ?_)
    · have h2 : (!(l_eqItemS a0.Items a1.Items)) = true := by simpa using q2
      try simp at q2
      simp
      refine retRd (rv := [.tmp 4]) rfl ?_
      have f2 : l_eqArchive a0 a1 = false := by simp only [l_eqArchive, h1, h2, cond_true, cond_false]
      simp [f2]
    · have h2 : (!(l_eqItemS a0.Items a1.Items)) = false := by simpa using q2
      try simp at q2
      simp
      refine retRd (rv := [.tmp 4]) rfl ?_
      have f3 : l_eqArchive a0 a1 = true := by simp only [l_eqArchive, h1, h2, cond_true, cond_false]
      simp [f3]
theorem l_FnExactLongestPath_ok (a0 : TArchive) (t0 : Sm maxLen a0) : SoundAt Try.prog 7 false [a0.row] [[.bool (l_FnExactLongestPath a0)]] := by
  refine sound_of Try.func7 rfl (by kernel_rfl) ?_
  simp [Try.ntmps7]
  refine callRd rfl rfl rfl rfl (l_szArchive_ok a0 1048576) (by simp) (by simp) (by simp) ?_
  simp
  refine condB (fun k1 q1 => ?_) (fun k1 q1 => ?_)
  · have h1 : (decide ((l_szArchive a0 1048576) < 0)) = true := by simpa using q1
    try simp at q1
    simp
    refine retRd (rv := [.tmp 2]) rfl ?_
    have f1 : l_FnExactLongestPath a0 = true := by simp only [l_FnExactLongestPath, h1, cond_true, cond_false]
    simp [f1]
  · have h1 : (decide ((l_szArchive a0 1048576) < 0)) = false := by simpa using q1
    try simp at q1
    obtain ⟨u0, y0⟩ := l_szArchive_sm a0 1048576 t0 (by omega) (by omega) (by simpa using h1)
    simp
    refine callRd rfl rfl rfl rfl (l_toArchive_ok a0 (sm_mono (n := 1048576) (by decide) (by simp [u0, l_toArchive_id, l_toArchiveS_id, l_toAuthority_id, l_toAuthorityS_id, l_toBoolS_id, l_toCert_id, l_toCertS_id, l_toDocument_id, l_toEvent_id, l_toEventS_id, l_toFrame_id, l_toIntS_id, l_toIntSS_id, l_toItem_id, l_toItemS_id, l_toKey_id, l_toKeyS_id, l_toMethod_id, l_toMethodS_id, l_toPiece_id, l_toPieceS_id, l_toRedacted_id, l_toRenewal_id, l_toRenewalS_id, l_toSignature_id, l_toStamp_id, l_toStampS_id, l_toStep_id, l_toStepS_id, l_toStrand_id, l_toStringS_id, l_toWorld_id]))) (by simp) (by simp) (by simp) ?_
    simp
    refine callRd rfl rfl rfl rfl (s_LongestPath_ok (l_toArchive a0)) (by simp) (by simp) (by simp) ?_
    simp
    refine callRd rfl rfl rfl rfl (l_toArchive_ok a0 (sm_mono (n := 1048576) (by decide) (by simp [u0, l_toArchive_id, l_toArchiveS_id, l_toAuthority_id, l_toAuthorityS_id, l_toBoolS_id, l_toCert_id, l_toCertS_id, l_toDocument_id, l_toEvent_id, l_toEventS_id, l_toFrame_id, l_toIntS_id, l_toIntSS_id, l_toItem_id, l_toItemS_id, l_toKey_id, l_toKeyS_id, l_toMethod_id, l_toMethodS_id, l_toPiece_id, l_toPieceS_id, l_toRedacted_id, l_toRenewal_id, l_toRenewalS_id, l_toSignature_id, l_toStamp_id, l_toStampS_id, l_toStep_id, l_toStepS_id, l_toStrand_id, l_toStringS_id, l_toWorld_id]))) (by simp) (by simp) (by simp) ?_
    simp
    refine callRd rfl rfl rfl rfl (i_LongestPath_ok (l_toArchive a0)) (by simp) (by simp) (by simp) ?_
    simp
    refine condB (fun k2 q2 => ?_) (fun k2 q2 => ?_)
    · have h2 : ((i_LongestPath (l_toArchive a0)) != (s_LongestPath (l_toArchive a0))) = true := by simpa using q2
      try simp at q2
      simp
      refine retRd (rv := [.tmp 2]) rfl ?_
      have f2 : l_FnExactLongestPath a0 = false := by simp only [l_FnExactLongestPath, h1, h2, cond_true, cond_false]
      simp [f2]
    · have h2 : ((i_LongestPath (l_toArchive a0)) != (s_LongestPath (l_toArchive a0))) = false := by simpa using q2
      try simp at q2
      simp
      refine okD fun k3 => ?_
      refine drawI mixed (by kernel_rfl) (by kernel_rfl) ?_
      simp
      refine callRd rfl rfl rfl rfl (l_toArchive_ok a0 (sm_mono (n := 1048576) (by decide) (by simp [u0, l_toArchive_id, l_toArchiveS_id, l_toAuthority_id, l_toAuthorityS_id, l_toBoolS_id, l_toCert_id, l_toCertS_id, l_toDocument_id, l_toEvent_id, l_toEventS_id, l_toFrame_id, l_toIntS_id, l_toIntSS_id, l_toItem_id, l_toItemS_id, l_toKey_id, l_toKeyS_id, l_toMethod_id, l_toMethodS_id, l_toPiece_id, l_toPieceS_id, l_toRedacted_id, l_toRenewal_id, l_toRenewalS_id, l_toSignature_id, l_toStamp_id, l_toStampS_id, l_toStep_id, l_toStepS_id, l_toStrand_id, l_toStringS_id, l_toWorld_id]))) (by simp) (by simp) (by simp) ?_
      simp
      refine callRd rfl rfl rfl rfl (l_eqArchive_ok (l_toArchive a0) (l_toArchive a0)) (by simp) (by simp) (by simp) ?_
      simp
      refine condB (fun k4 q3 => ?_) (fun k4 q3 => ?_)
      · have h3 : (!(l_eqArchive (l_toArchive a0) (l_toArchive a0))) = true := by simpa using q3
        try simp at q3
        simp
        refine retRd (rv := [.tmp 2]) rfl ?_
        have f3 : l_FnExactLongestPath a0 = false := by simp only [l_FnExactLongestPath, h1, h2, h3, cond_true, cond_false]
        simp [f3]
      · have h3 : (!(l_eqArchive (l_toArchive a0) (l_toArchive a0))) = false := by simpa using q3
        try simp at q3
        simp
        refine retRd (rv := [.tmp 2]) rfl ?_
        have f4 : l_FnExactLongestPath a0 = true := by simp only [l_FnExactLongestPath, h1, h2, h3, cond_true, cond_false]
        simp [f4]
theorem s_ArchiveSize_ok (a0 : TArchive) : SoundAt Try.prog 40 false [a0.row] [[.int .i64 (s_ArchiveSize a0)]] := by
  refine sound_of Try.func40 rfl (by kernel_rfl) ?_
  simp [Try.ntmps40]
  refine okL fun k1 => ?_
  refine loopI (ι := { s : Nat × Int × Nat // s_ArchiveSize_1 a0 s.1 s.2.1 s.2.2 = s_ArchiveSize_1 a0 (a0.Items.length + 1) 0 0 ∧ (1 ≤ s.1 ∧ a0.Items.length < s.1 + s.2.2) }) (fun s => stOf 22 [(1, .one (.bptr 1 0), [.box [.d (.int .i64 a0.Id), .d (.sl 16 (a0.Items.map TItem.row))]]), (3, .one (.d (.int .i64 s.1.2.1)), []), (4, .one (.d (.int .i64 (↑s.1.2.2 : Int))), [])]) (fun s => s.1.1) ⟨((a0.Items.length + 1), 0, 0), rfl, by first | omega | (dsimp only; omega) | simp⟩ (wk_keep (by simp)) ?_
  rintro ⟨⟨n1, v1_0, v1_1⟩, e1, j1⟩
  try dsimp only at e1 j1
  obtain ⟨p1, rfl⟩ : ∃ p, n1 = p + 1 := ⟨n1 - 1, by omega⟩
  simp
  refine condB (fun k2 q1 => ?_) (fun k2 q1 => ?_)
  · have h1 : (decide ((↑v1_1 : Int) < (↑a0.Items.length : Int))) = true := by simpa using q1
    have i1 : v1_1 < a0.Items.length := by simpa using q1
    have m2 : a0.Items.length ≤ 9223372036854775807 := by simpa using k2 7 _ rfl
    have w1 : IntKind.i64.wrap ((v1_1 : Int) + 1) = (v1_1 : Int) + 1 := wrap_of (by omega) (by omega)
    try simp at q1
    simp [i1, rowAt_map]
    repeat (refine ⟨by intros; omega, ?_⟩)
    refine callRd rfl rfl rfl rfl (s_StrandSize_ok (nth a0.Items v1_1).Strand) (by simp) (by simp) (by simp) ?_
    simp
    refine nxtI ⟨(p1, (W (v1_0 + (s_StrandSize (nth a0.Items v1_1).Strand))), (v1_1 + 1)), ?_, ?_⟩ (by simp) (wk_keep (by simp [w1]))
    · rw [← e1]; simp only [s_ArchiveSize_1, h1, cond_true, cond_false]
    · first | omega | (simp at *; omega)
  · have h1 : (decide ((↑v1_1 : Int) < (↑a0.Items.length : Int))) = false := by simpa using q1
    try simp at q1
    have x1 : s_ArchiveSize_1 a0 (a0.Items.length + 1) 0 0 = v1_0 := by rw [← e1]; simp only [s_ArchiveSize_1, h1, cond_true, cond_false]
    simp
    refine retRd (rv := [.tmp 2]) rfl ?_
    have f1 : s_ArchiveSize a0 = v1_0 := by simp only [s_ArchiveSize, x1, cond_true, cond_false]
    simp [f1]
theorem i_ArchiveSize_ok (a0 : TArchive) : SoundAt Try.prog 41 false [a0.row] [[.int .i64 (i_ArchiveSize a0)]] := by
  refine sound_of Try.func41 rfl (by kernel_rfl) ?_
  simp [Try.ntmps41]
  refine okL fun k1 => ?_
  refine loopI (ι := { s : Nat × Int × Nat // i_ArchiveSize_1 a0 s.1 s.2.1 s.2.2 = i_ArchiveSize_1 a0 (a0.Items.length + 1) 0 0 ∧ (1 ≤ s.1 ∧ a0.Items.length < s.1 + s.2.2) }) (fun s => stOf 20 [(3, .one (.d (.int .i64 s.1.2.1)), []), (7, .one (.d (.sl 16 (a0.Items.map TItem.row))), []), (8, .one (.d (.int .i64 (↑a0.Items.length : Int))), []), (9, .one (.d (.int .i64 (↑s.1.2.2 : Int))), [])]) (fun s => s.1.1) ⟨((a0.Items.length + 1), 0, 0), rfl, by first | omega | (dsimp only; omega) | simp⟩ (wk_keep (by simp)) ?_
  rintro ⟨⟨n1, v1_0, v1_1⟩, e1, j1⟩
  try dsimp only at e1 j1
  obtain ⟨p1, rfl⟩ : ∃ p, n1 = p + 1 := ⟨n1 - 1, by omega⟩
  simp
  refine condB (fun k2 q1 => ?_) (fun k2 q1 => ?_)
  · have h1 : (decide ((↑v1_1 : Int) < (↑a0.Items.length : Int))) = true := by simpa using q1
    have i1 : v1_1 < a0.Items.length := by simpa using q1
    have m2 : a0.Items.length ≤ 9223372036854775807 := by simpa using k2 7 _ rfl
    have w1 : IntKind.i64.wrap ((v1_1 : Int) + 1) = (v1_1 : Int) + 1 := wrap_of (by omega) (by omega)
    try simp at q1
    simp [i1, rowAt_map]
    repeat (refine ⟨by intros; omega, ?_⟩)
    refine callRd rfl rfl rfl rfl (i_StrandSize_ok (nth a0.Items v1_1).Strand) (by simp) (by simp) (by simp) ?_
    simp
    refine nxtI ⟨(p1, (W (v1_0 + (i_StrandSize (nth a0.Items v1_1).Strand))), (v1_1 + 1)), ?_, ?_⟩ (by simp) (wk_keep (by simp [w1]))
    · rw [← e1]; simp only [i_ArchiveSize_1, h1, cond_true, cond_false]
    · first | omega | (simp at *; omega)
  · have h1 : (decide ((↑v1_1 : Int) < (↑a0.Items.length : Int))) = false := by simpa using q1
    try simp at q1
    have x1 : i_ArchiveSize_1 a0 (a0.Items.length + 1) 0 0 = v1_0 := by rw [← e1]; simp only [i_ArchiveSize_1, h1, cond_true, cond_false]
    simp
    refine retRd (rv := [.tmp 2]) rfl ?_
    have f1 : i_ArchiveSize a0 = v1_0 := by simp only [i_ArchiveSize, x1, cond_true, cond_false]
    simp [f1]
theorem l_FnExactArchiveSize_ok (a0 : TArchive) (t0 : Sm maxLen a0) : SoundAt Try.prog 8 false [a0.row] [[.bool (l_FnExactArchiveSize a0)]] := by
  refine sound_of Try.func8 rfl (by kernel_rfl) ?_
  simp [Try.ntmps8]
  refine callRd rfl rfl rfl rfl (l_szArchive_ok a0 1048576) (by simp) (by simp) (by simp) ?_
  simp
  refine condB (fun k1 q1 => ?_) (fun k1 q1 => ?_)
  · have h1 : (decide ((l_szArchive a0 1048576) < 0)) = true := by simpa using q1
    try simp at q1
    simp
    refine retRd (rv := [.tmp 2]) rfl ?_
    have f1 : l_FnExactArchiveSize a0 = true := by simp only [l_FnExactArchiveSize, h1, cond_true, cond_false]
    simp [f1]
  · have h1 : (decide ((l_szArchive a0 1048576) < 0)) = false := by simpa using q1
    try simp at q1
    obtain ⟨u0, y0⟩ := l_szArchive_sm a0 1048576 t0 (by omega) (by omega) (by simpa using h1)
    simp
    refine callRd rfl rfl rfl rfl (l_toArchive_ok a0 (sm_mono (n := 1048576) (by decide) (by simp [u0, l_toArchive_id, l_toArchiveS_id, l_toAuthority_id, l_toAuthorityS_id, l_toBoolS_id, l_toCert_id, l_toCertS_id, l_toDocument_id, l_toEvent_id, l_toEventS_id, l_toFrame_id, l_toIntS_id, l_toIntSS_id, l_toItem_id, l_toItemS_id, l_toKey_id, l_toKeyS_id, l_toMethod_id, l_toMethodS_id, l_toPiece_id, l_toPieceS_id, l_toRedacted_id, l_toRenewal_id, l_toRenewalS_id, l_toSignature_id, l_toStamp_id, l_toStampS_id, l_toStep_id, l_toStepS_id, l_toStrand_id, l_toStringS_id, l_toWorld_id]))) (by simp) (by simp) (by simp) ?_
    simp
    refine callRd rfl rfl rfl rfl (s_ArchiveSize_ok (l_toArchive a0)) (by simp) (by simp) (by simp) ?_
    simp
    refine callRd rfl rfl rfl rfl (l_toArchive_ok a0 (sm_mono (n := 1048576) (by decide) (by simp [u0, l_toArchive_id, l_toArchiveS_id, l_toAuthority_id, l_toAuthorityS_id, l_toBoolS_id, l_toCert_id, l_toCertS_id, l_toDocument_id, l_toEvent_id, l_toEventS_id, l_toFrame_id, l_toIntS_id, l_toIntSS_id, l_toItem_id, l_toItemS_id, l_toKey_id, l_toKeyS_id, l_toMethod_id, l_toMethodS_id, l_toPiece_id, l_toPieceS_id, l_toRedacted_id, l_toRenewal_id, l_toRenewalS_id, l_toSignature_id, l_toStamp_id, l_toStampS_id, l_toStep_id, l_toStepS_id, l_toStrand_id, l_toStringS_id, l_toWorld_id]))) (by simp) (by simp) (by simp) ?_
    simp
    refine callRd rfl rfl rfl rfl (i_ArchiveSize_ok (l_toArchive a0)) (by simp) (by simp) (by simp) ?_
    simp
    refine condB (fun k2 q2 => ?_) (fun k2 q2 => ?_)
    · have h2 : ((i_ArchiveSize (l_toArchive a0)) != (s_ArchiveSize (l_toArchive a0))) = true := by simpa using q2
      try simp at q2
      simp
      refine retRd (rv := [.tmp 2]) rfl ?_
      have f2 : l_FnExactArchiveSize a0 = false := by simp only [l_FnExactArchiveSize, h1, h2, cond_true, cond_false]
      simp [f2]
    · have h2 : ((i_ArchiveSize (l_toArchive a0)) != (s_ArchiveSize (l_toArchive a0))) = false := by simpa using q2
      try simp at q2
      simp
      refine okD fun k3 => ?_
      refine drawI mixed (by kernel_rfl) (by kernel_rfl) ?_
      simp
      refine callRd rfl rfl rfl rfl (l_toArchive_ok a0 (sm_mono (n := 1048576) (by decide) (by simp [u0, l_toArchive_id, l_toArchiveS_id, l_toAuthority_id, l_toAuthorityS_id, l_toBoolS_id, l_toCert_id, l_toCertS_id, l_toDocument_id, l_toEvent_id, l_toEventS_id, l_toFrame_id, l_toIntS_id, l_toIntSS_id, l_toItem_id, l_toItemS_id, l_toKey_id, l_toKeyS_id, l_toMethod_id, l_toMethodS_id, l_toPiece_id, l_toPieceS_id, l_toRedacted_id, l_toRenewal_id, l_toRenewalS_id, l_toSignature_id, l_toStamp_id, l_toStampS_id, l_toStep_id, l_toStepS_id, l_toStrand_id, l_toStringS_id, l_toWorld_id]))) (by simp) (by simp) (by simp) ?_
      simp
      refine callRd rfl rfl rfl rfl (l_eqArchive_ok (l_toArchive a0) (l_toArchive a0)) (by simp) (by simp) (by simp) ?_
      simp
      refine condB (fun k4 q3 => ?_) (fun k4 q3 => ?_)
      · have h3 : (!(l_eqArchive (l_toArchive a0) (l_toArchive a0))) = true := by simpa using q3
        try simp at q3
        simp
        refine retRd (rv := [.tmp 2]) rfl ?_
        have f3 : l_FnExactArchiveSize a0 = false := by simp only [l_FnExactArchiveSize, h1, h2, h3, cond_true, cond_false]
        simp [f3]
      · have h3 : (!(l_eqArchive (l_toArchive a0) (l_toArchive a0))) = false := by simpa using q3
        try simp at q3
        simp
        refine retRd (rv := [.tmp 2]) rfl ?_
        have f4 : l_FnExactArchiveSize a0 = true := by simp only [l_FnExactArchiveSize, h1, h2, h3, cond_true, cond_false]
        simp [f4]
end Go.Proofs.Ytejeomggohkclaa
