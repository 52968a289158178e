/- Contracts of the functions over the abstract machine, part 1. No condition. -/
import Derived.Test.YtoeokngpoibldaaL
import Derived.Test.YtoeokngpoibldaaTy
namespace Go.Proofs.Ytoeokngpoibldaa
open Go.Vm Go.Mo
set_option maxHeartbeats 1000000
set_option linter.unusedSimpArgs false
set_option linter.unusedVariables false
theorem mixed : Try.prog.follows .mixedOrders = true := by kernel_rfl
theorem s_l1In_ok (a0 : Int) (a1 : Int) (a2 : Int) : SoundAt Try.prog 37 false [[.int .i64 a0], [.int .i64 a1], [.int .i64 a2]] [[.bool (s_l1In a0 a1 a2)]] := by
  refine sound_of Try.func37 rfl (by kernel_rfl) ?_
  simp [Try.ntmps37]
  refine retRd (rv := [.tmp 6]) rfl ?_
  have f1 : s_l1In a0 a1 a2 = ((decide (a0 ≥ a1)) && (decide (a0 ≤ a2))) := by simp only [s_l1In, cond_true, cond_false]
  simp [f1]
theorem i_InRange_ok (a0 : Int) (a1 : Int) (a2 : Int) : SoundAt Try.prog 38 false [[.int .i64 a0], [.int .i64 a1], [.int .i64 a2]] [[.bool (i_InRange a0 a1 a2)]] := by
  refine sound_of Try.func38 rfl (by kernel_rfl) ?_
  simp [Try.ntmps38]
  refine retRd (rv := [.tmp 6]) rfl ?_
  have f1 : i_InRange a0 a1 a2 = ((decide (a1 ≤ a0)) && (decide (a0 ≤ a2))) := by simp only [i_InRange, cond_true, cond_false]
  simp [f1]
theorem l_toStamp_ok (a0 : TStamp) : SoundAt Try.prog 15 false [a0.row] [(l_toStamp a0).row] := by
  refine sound_of Try.func15 rfl (by kernel_rfl) ?_
  simp [Try.ntmps15]
  refine retRd (rv := [.cell 2 29]) rfl ?_
  have f1 : l_toStamp a0 = a0 := by simp only [l_toStamp, cond_true, cond_false]
  simp [f1]
theorem s_FormatInt_ok (a0 : Int) : SoundAt Try.prog 41 false [[.int .i64 a0]] [[.str (s_FormatInt a0)]] := by
  refine sound_of Try.func41 rfl (by kernel_rfl) ?_
  simp [Try.ntmps41]
  refine condB (fun k1 q1 => ?_) (fun k1 q1 => ?_)
  · have h1 : (a0 == 0) = true := by simpa using q1
    try simp at q1
    simp
    refine retRd (rv := [.tmp 2]) rfl ?_
    have f1 : s_FormatInt a0 = (⟨#[48]⟩ : ByteArray) := by simp only [s_FormatInt, h1, cond_true, cond_false]
    simp [f1]
  · have h1 : (a0 == 0) = false := by simpa using q1
    try simp at q1
    simp
    refine okL fun k2 => ?_
    refine loopI (ι := { s : Nat × ByteArray × Int // s_FormatInt_1 s.1 s.2.1 s.2.2 = s_FormatInt_1 22 (⟨#[]⟩ : ByteArray) a0 ∧ (1 ≤ s.1 ∧ (s.1 = 22 ∨ s.2.2.natAbs < 10 ^ (s.1 - 1)) ∧ s.2.1.size + s.1 = 22) }) (fun s => stOf 31 [(0, .one (.d (.int .i64 a0)), []), (3, .one (.d (.str s.1.2.1)), []), (4, .one (.d (.int .i64 s.1.2.2)), [])]) (fun s => s.1.1) ⟨(22, (⟨#[]⟩ : ByteArray), a0), rfl, by exact ⟨by omega, .inl rfl, rfl⟩⟩ (wk_keep (by simp)) ?_
    rintro ⟨⟨n1, v1_0, v1_1⟩, e1, j1⟩
    try dsimp only at e1 j1
    obtain ⟨p1, rfl⟩ : ∃ p, n1 = p + 1 := ⟨n1 - 1, by omega⟩
    simp
    refine condB (fun k3 q2 => ?_) (fun k3 q2 => ?_)
    · have h2 : (v1_1 != 0) = true := by simpa using q2
      try simp at q2
      simp
      refine condB (fun k4 q3 => ?_) (fun k4 q3 => ?_)
      · have h3 : (decide ((Int.tmod v1_1 10) < 0)) = true := by simpa using q3
        try simp at q3
        simp
        refine toStr (l := ([(UInt8.ofInt (W (48 + (W (-(Int.tmod v1_1 10))))))] : List UInt8)) rfl rfl rfl (by simp) (by simp) (by simp) (by simp [SrcRows, bRows]) ?_
        simp
        repeat (refine ⟨by intros; omega, ?_⟩)
        refine nxtI ⟨(p1, ((⟨([(UInt8.ofInt (W (48 + (W (-(Int.tmod v1_1 10))))))] : List UInt8).toArray⟩ : ByteArray) ++ v1_0), (W (Int.tdiv v1_1 10))), ?_, ?_⟩ (by simp) (wk_keep (by simp []))
        · rw [← e1]; simp only [s_FormatInt_1, h2, h3, cond_true, cond_false]
        · dsimp only; obtain ⟨s1, s2⟩ := fmt_s j1.2.1 h2; refine ⟨s1, s2, ?_⟩; have := j1.2.2; simp; omega
      · have h3 : (decide ((Int.tmod v1_1 10) < 0)) = false := by simpa using q3
        try simp at q3
        simp
        refine toStr (l := ([(UInt8.ofInt (W (48 + (Int.tmod v1_1 10))))] : List UInt8)) rfl rfl rfl (by simp) (by simp) (by simp) (by simp [SrcRows, bRows]) ?_
        simp
        repeat (refine ⟨by intros; omega, ?_⟩)
        refine nxtI ⟨(p1, ((⟨([(UInt8.ofInt (W (48 + (Int.tmod v1_1 10))))] : List UInt8).toArray⟩ : ByteArray) ++ v1_0), (W (Int.tdiv v1_1 10))), ?_, ?_⟩ (by simp) (wk_keep (by simp []))
        · rw [← e1]; simp only [s_FormatInt_1, h2, h3, cond_true, cond_false]
        · dsimp only; obtain ⟨s1, s2⟩ := fmt_s j1.2.1 h2; refine ⟨s1, s2, ?_⟩; have := j1.2.2; simp; omega
    · have h2 : (v1_1 != 0) = false := by simpa using q2
      try simp at q2
      have x1 : s_FormatInt_1 22 (⟨#[]⟩ : ByteArray) a0 = v1_0 := by rw [← e1]; simp only [s_FormatInt_1, h2, cond_true, cond_false]
      simp
      refine condB (fun k5 q4 => ?_) (fun k5 q4 => ?_)
      · have h4 : (decide (a0 < 0)) = true := by simpa using q4
        try simp at q4
        simp
        repeat (refine ⟨by intros; omega, ?_⟩)
        refine retRd (rv := [.tmp 2]) rfl ?_
        have f2 : s_FormatInt a0 = ((⟨#[45]⟩ : ByteArray) ++ v1_0) := by simp only [s_FormatInt, h1, x1, h4, cond_true, cond_false]
        simp [f2]
      · have h4 : (decide (a0 < 0)) = false := by simpa using q4
        try simp at q4
        simp
        refine retRd (rv := [.tmp 2]) rfl ?_
        have f3 : s_FormatInt a0 = v1_0 := by simp only [s_FormatInt, h1, x1, h4, cond_true, cond_false]
        simp [f3]
theorem s_FormatStamp_ok (a0 : TStamp) : SoundAt Try.prog 14 false [a0.row] [[.str (s_FormatStamp a0)]] := by
  refine sound_of Try.func14 rfl (by kernel_rfl) ?_
  simp [Try.ntmps14]
  refine okD fun k1 => ?_
  refine drawI mixed (by kernel_rfl) (by kernel_rfl) ?_
  simp
  refine callRd rfl rfl rfl rfl (s_FormatInt_ok a0.Authority) (by simp) (by simp) (by simp) ?_
  have o1 := s_FormatInt_size a0.Authority
  simp
  repeat (refine ⟨by intros; omega, ?_⟩)
  refine callRd rfl rfl rfl rfl (s_FormatInt_ok a0.Seq) (by simp) (by simp) (by simp) ?_
  have o2 := s_FormatInt_size a0.Seq
  simp
  repeat (refine ⟨by intros; omega, ?_⟩)
  refine callRd rfl rfl rfl rfl (s_FormatInt_ok a0.Time) (by simp) (by simp) (by simp) ?_
  have o3 := s_FormatInt_size a0.Time
  simp
  repeat (refine ⟨by intros; omega, ?_⟩)
  refine retRd (rv := [.tmp 2]) rfl ?_
  have f1 : s_FormatStamp a0 = ((((((⟨#[97]⟩ : ByteArray) ++ (s_FormatInt a0.Authority)) ++ (⟨#[110]⟩ : ByteArray)) ++ (s_FormatInt a0.Seq)) ++ (⟨#[116]⟩ : ByteArray)) ++ (s_FormatInt a0.Time)) := by simp only [s_FormatStamp, cond_true, cond_false]
  simp [f1]
theorem i_FormatInt_ok (a0 : Int) : SoundAt Try.prog 42 false [[.int .i64 a0]] [[.str (i_FormatInt a0)]] := by
  refine sound_of Try.func42 rfl (by kernel_rfl) ?_
  simp [Try.ntmps42]
  refine okL fun k1 => ?_
  refine loopI (ι := { s : Nat × Int × (List UInt8) // i_FormatInt_1 s.1 s.2.1 s.2.2 = i_FormatInt_1 21 a0 ([] : List UInt8) ∧ (1 ≤ s.1 ∧ (s.1 = 21 ∨ s.2.1.natAbs < 10 ^ s.1) ∧ s.2.2.length + s.1 = 21) }) (fun s => stOf 30 [(0, .one (.d (.int .i64 s.1.2.1)), []), (3, .one (.sref 3 0 0 s.1.2.2.length), [.arr 1 (s.1.2.2.map bR)]), (4, .one (.d (.bool (decide (a0 < 0)))), [])]) (fun s => s.1.1) ⟨(21, a0, ([] : List UInt8)), rfl, by exact ⟨by omega, .inl rfl, rfl⟩⟩ (wk_of [((3, 0), none)] [] rfl (by simp)) ?_
  rintro ⟨⟨n1, v1_0, v1_1⟩, e1, j1⟩
  try dsimp only at e1 j1
  obtain ⟨p1, rfl⟩ : ∃ p, n1 = p + 1 := ⟨n1 - 1, by omega⟩
  simp
  refine condB (fun k2 q1 => ?_) (fun k2 q1 => ?_)
  · have h1 : (decide ((Int.tmod v1_0 10) < 0)) = true := by simpa using q1
    try simp at q1
    simp
    repeat (refine ⟨by intros; omega, ?_⟩)
    refine condB (fun k3 q2 => ?_) (fun k3 q2 => ?_)
    · have h2 : ((W (Int.tdiv v1_0 10)) == 0) = true := by simpa using q2
      try simp at q2
      have x1 : i_FormatInt_1 21 a0 ([] : List UInt8) = (([(UInt8.ofInt (W (48 + (W (-(Int.tmod v1_0 10))))))] : List UInt8) ++ v1_1) := by rw [← e1]; simp only [i_FormatInt_1, h1, h2, cond_true, cond_false]
      simp
      refine condB (fun k4 q3 => ?_) (fun k4 q3 => ?_)
      · have h3 : (decide (a0 < 0)) = true := by simpa using q3
        try simp at q3
        simp
        refine toStr (l := (([(UInt8.ofInt (W (48 + (W (-(Int.tmod v1_0 10))))))] : List UInt8) ++ v1_1)) rfl rfl rfl (by simp) (by simp) (by simp) (by simp [SrcRows, bRows]) ?_
        simp
        repeat (refine ⟨by intros; omega, ?_⟩)
        refine retRd (rv := [.tmp 2]) rfl ?_
        have f1 : i_FormatInt a0 = ((⟨#[45]⟩ : ByteArray) ++ (⟨(([(UInt8.ofInt (W (48 + (W (-(Int.tmod v1_0 10))))))] : List UInt8) ++ v1_1).toArray⟩ : ByteArray)) := by simp only [i_FormatInt, x1, h3, cond_true, cond_false]
        simp [f1]
      · have h3 : (decide (a0 < 0)) = false := by simpa using q3
        try simp at q3
        simp
        refine toStr (l := (([(UInt8.ofInt (W (48 + (W (-(Int.tmod v1_0 10))))))] : List UInt8) ++ v1_1)) rfl rfl rfl (by simp) (by simp) (by simp) (by simp [SrcRows, bRows]) ?_
        simp
        refine retRd (rv := [.tmp 2]) rfl ?_
        have f2 : i_FormatInt a0 = (⟨(([(UInt8.ofInt (W (48 + (W (-(Int.tmod v1_0 10))))))] : List UInt8) ++ v1_1).toArray⟩ : ByteArray) := by simp only [i_FormatInt, x1, h3, cond_true, cond_false]
        simp [f2]
    · have h2 : ((W (Int.tdiv v1_0 10)) == 0) = false := by simpa using q2
      try simp at q2
      simp
      refine nxtI ⟨(p1, (W (Int.tdiv v1_0 10)), (([(UInt8.ofInt (W (48 + (W (-(Int.tmod v1_0 10))))))] : List UInt8) ++ v1_1)), ?_, ?_⟩ (by simp) (wk_of [((3, 0), some (19, 0))] [] rfl (by simp []))
      · rw [← e1]; simp only [i_FormatInt_1, h1, h2, cond_true, cond_false]
      · dsimp only; obtain ⟨s1, s2⟩ := fmt_i j1.2.1 h2; refine ⟨s1, s2, ?_⟩; have := j1.2.2; simp; omega
  · have h1 : (decide ((Int.tmod v1_0 10) < 0)) = false := by simpa using q1
    try simp at q1
    simp
    repeat (refine ⟨by intros; omega, ?_⟩)
    refine condB (fun k5 q4 => ?_) (fun k5 q4 => ?_)
    · have h4 : ((W (Int.tdiv v1_0 10)) == 0) = true := by simpa using q4
      try simp at q4
      have x2 : i_FormatInt_1 21 a0 ([] : List UInt8) = (([(UInt8.ofInt (W (48 + (Int.tmod v1_0 10))))] : List UInt8) ++ v1_1) := by rw [← e1]; simp only [i_FormatInt_1, h1, h4, cond_true, cond_false]
      simp
      refine condB (fun k6 q5 => ?_) (fun k6 q5 => ?_)
      · have h5 : (decide (a0 < 0)) = true := by simpa using q5
        try simp at q5
        simp
        refine toStr (l := (([(UInt8.ofInt (W (48 + (Int.tmod v1_0 10))))] : List UInt8) ++ v1_1)) rfl rfl rfl (by simp) (by simp) (by simp) (by simp [SrcRows, bRows]) ?_
        simp
        repeat (refine ⟨by intros; omega, ?_⟩)
        refine retRd (rv := [.tmp 2]) rfl ?_
        have f3 : i_FormatInt a0 = ((⟨#[45]⟩ : ByteArray) ++ (⟨(([(UInt8.ofInt (W (48 + (Int.tmod v1_0 10))))] : List UInt8) ++ v1_1).toArray⟩ : ByteArray)) := by simp only [i_FormatInt, x2, h5, cond_true, cond_false]
        simp [f3]
      · have h5 : (decide (a0 < 0)) = false := by simpa using q5
        try simp at q5
        simp
        refine toStr (l := (([(UInt8.ofInt (W (48 + (Int.tmod v1_0 10))))] : List UInt8) ++ v1_1)) rfl rfl rfl (by simp) (by simp) (by simp) (by simp [SrcRows, bRows]) ?_
        simp
        refine retRd (rv := [.tmp 2]) rfl ?_
        have f4 : i_FormatInt a0 = (⟨(([(UInt8.ofInt (W (48 + (Int.tmod v1_0 10))))] : List UInt8) ++ v1_1).toArray⟩ : ByteArray) := by simp only [i_FormatInt, x2, h5, cond_true, cond_false]
        simp [f4]
    · have h4 : ((W (Int.tdiv v1_0 10)) == 0) = false := by simpa using q4
      try simp at q4
      simp
      refine nxtI ⟨(p1, (W (Int.tdiv v1_0 10)), (([(UInt8.ofInt (W (48 + (Int.tmod v1_0 10))))] : List UInt8) ++ v1_1)), ?_, ?_⟩ (by simp) (wk_of [((3, 0), some (19, 0))] [] rfl (by simp []))
      · rw [← e1]; simp only [i_FormatInt_1, h1, h4, cond_true, cond_false]
      · dsimp only; obtain ⟨s1, s2⟩ := fmt_i j1.2.1 h4; refine ⟨s1, s2, ?_⟩; have := j1.2.2; simp; omega
theorem i_FormatStamp_ok (a0 : TStamp) : SoundAt Try.prog 16 false [a0.row] [[.str (i_FormatStamp a0)]] := by
  refine sound_of Try.func16 rfl (by kernel_rfl) ?_
  simp [Try.ntmps16]
  refine okD fun k1 => ?_
  refine drawI mixed (by kernel_rfl) (by kernel_rfl) ?_
  simp
  refine callRd rfl rfl rfl rfl (i_FormatInt_ok a0.Authority) (by simp) (by simp) (by simp) ?_
  have o1 := i_FormatInt_size a0.Authority
  simp
  repeat (refine ⟨by intros; omega, ?_⟩)
  refine callRd rfl rfl rfl rfl (i_FormatInt_ok a0.Seq) (by simp) (by simp) (by simp) ?_
  have o2 := i_FormatInt_size a0.Seq
  simp
  repeat (refine ⟨by intros; omega, ?_⟩)
  refine callRd rfl rfl rfl rfl (i_FormatInt_ok a0.Time) (by simp) (by simp) (by simp) ?_
  have o3 := i_FormatInt_size a0.Time
  simp
  repeat (refine ⟨by intros; omega, ?_⟩)
  refine retRd (rv := [.tmp 2]) rfl ?_
  have f1 : i_FormatStamp a0 = ((((((⟨#[97]⟩ : ByteArray) ++ (i_FormatInt a0.Authority)) ++ (⟨#[110]⟩ : ByteArray)) ++ (i_FormatInt a0.Seq)) ++ (⟨#[116]⟩ : ByteArray)) ++ (i_FormatInt a0.Time)) := by simp only [i_FormatStamp, cond_true, cond_false]
  simp [f1]
theorem l_FnExactFormatStamp_ok (a0 : TStamp) : SoundAt Try.prog 5 false [a0.row] [[.bool (l_FnExactFormatStamp a0)]] := by
  refine sound_of Try.func5 rfl (by kernel_rfl) ?_
  simp [Try.ntmps5]
  refine callRd rfl rfl rfl rfl (l_toStamp_ok a0) (by simp) (by simp) (by simp) ?_
  simp
  refine callRd rfl rfl rfl rfl (s_FormatStamp_ok (l_toStamp a0)) (by simp) (by simp) (by simp) ?_
  simp
  refine callRd rfl rfl rfl rfl (l_toStamp_ok a0) (by simp) (by simp) (by simp) ?_
  simp
  refine callRd rfl rfl rfl rfl (i_FormatStamp_ok (l_toStamp a0)) (by simp) (by simp) (by simp) ?_
  simp
  refine condB (fun k1 q1 => ?_) (fun k1 q1 => ?_)
  · have h1 : (!decide ((i_FormatStamp (l_toStamp a0)) = (s_FormatStamp (l_toStamp a0)))) = true := by simpa using q1
    try simp at q1
    simp
    refine retRd (rv := [.tmp 2]) rfl ?_
    have f1 : l_FnExactFormatStamp a0 = false := by simp only [l_FnExactFormatStamp, h1, cond_true, cond_false]
    simp [f1]
  · have h1 : (!decide ((i_FormatStamp (l_toStamp a0)) = (s_FormatStamp (l_toStamp a0)))) = false := by simpa using q1
    try simp at q1
    simp
    refine retRd (rv := [.tmp 2]) rfl ?_
    have f2 : l_FnExactFormatStamp a0 = true := by simp only [l_FnExactFormatStamp, h1, cond_true, cond_false]
    simp [f2]
theorem s_l5Table_ok : SoundAt Try.prog 43 true [] [[.sl 4 (s_l5Table.map TMethod.row)]] := by
  refine sound_of Try.func43 rfl (by kernel_rfl) ?_
  simp [Try.ntmps43]
  refine retOwn (rv := [.tmp 0]) rfl ?_
  have f1 : s_l5Table = ([(TMethod.mk 1 0 40 50), (TMethod.mk 2 20 80 70), (TMethod.mk 3 40 120 200), (TMethod.mk 4 60 10001 10001)] : List TMethod) := by simp only [s_l5Table, cond_true, cond_false]
  simp [f1]
theorem s_WorldMethods_ok : SoundAt Try.prog 17 true [] [[.sl 4 (s_WorldMethods.map TMethod.row)]] := by
  refine sound_of Try.func17 rfl (by kernel_rfl) ?_
  simp [Try.ntmps17]
  refine callOwn rfl rfl rfl rfl (s_l5Table_ok) (by simp) (by simp) (by simp) (by simp) ?_
  simp
  refine retOwn (rv := [.tmp 0]) rfl ?_
  have f1 : s_WorldMethods = s_l5Table := by simp only [s_WorldMethods, cond_true, cond_false]
  simp [f1]
theorem i_WorldMethods_ok : SoundAt Try.prog 18 true [] [[.sl 4 (i_WorldMethods.map TMethod.row)]] := by
  refine sound_of Try.func18 rfl (by kernel_rfl) ?_
  simp [Try.ntmps18]
  refine retOwn (rv := [.tmp 0]) rfl ?_
  have f1 : i_WorldMethods = ([(TMethod.mk 1 0 40 50), (TMethod.mk 2 20 80 70), (TMethod.mk 3 40 120 200), (TMethod.mk 4 60 10001 10001)] : List TMethod) := by simp only [i_WorldMethods, cond_true, cond_false]
  simp [f1]
theorem l_eqMethod_ok (a0 : TMethod) (a1 : TMethod) : SoundAt Try.prog 44 false [a0.row, a1.row] [[.bool (l_eqMethod a0 a1)]] := by
  refine sound_of Try.func44 rfl (by kernel_rfl) ?_
  simp [Try.ntmps44]
  refine condB (fun k1 q1 => ?_) (fun k1 q1 => ?_)
  · have h1 : (a0.Id != a1.Id) = true := by simpa using q1
    try simp at q1
    simp
    refine retRd (rv := [.tmp 4]) rfl ?_
    have f1 : l_eqMethod a0 a1 = false := by simp only [l_eqMethod, h1, cond_true, cond_false]
    simp [f1]
  · have h1 : (a0.Id != a1.Id) = false := by simpa using q1
    try simp at q1
    simp
    refine condB (fun k2 q2 => ?_) (fun k2 q2 => ?_)
    · have h2 : (a0.Known != a1.Known) = true := by simpa using q2
      try simp at q2
      simp
      refine retRd (rv := [.tmp 4]) rfl ?_
      have f2 : l_eqMethod a0 a1 = false := by simp only [l_eqMethod, h1, h2, cond_true, cond_false]
      simp [f2]
    · have h2 : (a0.Known != a1.Known) = false := by simpa using q2
      try simp at q2
      simp
      refine condB (fun k3 q3 => ?_) (fun k3 q3 => ?_)
      · have h3 : (a0.Ends != a1.Ends) = true := by simpa using q3
        try simp at q3
        simp
        refine retRd (rv := [.tmp 4]) rfl ?_
        have f3 : l_eqMethod a0 a1 = false := by simp only [l_eqMethod, h1, h2, h3, cond_true, cond_false]
        simp [f3]
      · have h3 : (a0.Ends != a1.Ends) = false := by simpa using q3
        try simp at q3
        simp
        refine condB (fun k4 q4 => ?_) (fun k4 q4 => ?_)
        · have h4 : (a0.Broken != a1.Broken) = true := by simpa using q4
          try simp at q4
          simp
          refine retRd (rv := [.tmp 4]) rfl ?_
          have f4 : l_eqMethod a0 a1 = false := by simp only [l_eqMethod, h1, h2, h3, h4, cond_true, cond_false]
          simp [f4]
        · have h4 : (a0.Broken != a1.Broken) = false := by simpa using q4
          try simp at q4
          simp
          refine retRd (rv := [.tmp 4]) rfl ?_
          have f5 : l_eqMethod a0 a1 = true := by simp only [l_eqMethod, h1, h2, h3, h4, cond_true, cond_false]
          simp [f5]
theorem l_eqMethodS_ok (a0 : List TMethod) (a1 : List TMethod) : SoundAt Try.prog 19 false [[.sl 4 (a0.map TMethod.row)], [.sl 4 (a1.map TMethod.row)]] [[.bool (l_eqMethodS a0 a1)]] := by
  refine sound_of Try.func19 rfl (by kernel_rfl) ?_
  simp [Try.ntmps19]
  refine condB (fun k1 q1 => ?_) (fun k1 q1 => ?_)
  · have h1 : ((↑a0.length : Int) != (↑a1.length : Int)) = true := by simpa using q1
    try simp at q1
    simp
    refine retRd (rv := [.tmp 4]) rfl ?_
    have f1 : l_eqMethodS a0 a1 = false := by simp only [l_eqMethodS, h1, cond_true, cond_false]
    simp [f1]
  · have h1 : ((↑a0.length : Int) != (↑a1.length : Int)) = false := by simpa using q1
    try simp at q1
    simp
    refine okL fun k2 => ?_
    refine loopI (ι := { s : Nat × Nat // l_eqMethodS_1 a0 a1 s.1 s.2 = l_eqMethodS_1 a0 a1 (a0.length + 1) 0 ∧ (1 ≤ s.1 ∧ a0.length < s.1 + s.2) }) (fun s => stOf 27 [(0, .one (.d (.sl 4 (a0.map TMethod.row))), []), (1, .one (.d (.sl 4 (a1.map TMethod.row))), []), (5, .one (.d (.int .i64 (↑s.1.2 : Int))), [])]) (fun s => s.1.1) ⟨((a0.length + 1), 0), rfl, by first | omega | (dsimp only; omega) | simp⟩ (wk_keep (by simp)) ?_
    rintro ⟨⟨n1, v1_0⟩, e1, j1⟩
    try dsimp only at e1 j1
    obtain ⟨p1, rfl⟩ : ∃ p, n1 = p + 1 := ⟨n1 - 1, by omega⟩
    simp
    refine condB (fun k3 q2 => ?_) (fun k3 q2 => ?_)
    · have h2 : (decide ((↑v1_0 : Int) < (↑a0.length : Int))) = true := by simpa using q2
      have i1 : v1_0 < a0.length := by simpa using q2
      have m2 : a0.length ≤ 9223372036854775807 := by simpa using k3 0 _ rfl
      have w1 : IntKind.i64.wrap ((v1_0 : Int) + 1) = (v1_0 : Int) + 1 := wrap_of (by omega) (by omega)
      try simp at q2
      simp
      refine okD fun k4 => ?_
      refine drawI mixed (by kernel_rfl) (by kernel_rfl) ?_
      have i2 : v1_0 < a1.length := by omega
      simp [i1, rowAt_map, i2]
      repeat (refine ⟨by intros; omega, ?_⟩)
      refine callRd rfl rfl rfl rfl (l_eqMethod_ok (nth a0 v1_0) (nth a1 v1_0)) (by simp) (by simp) (by simp) ?_
      simp
      refine condB (fun k5 q3 => ?_) (fun k5 q3 => ?_)
      · have h3 : (!(l_eqMethod (nth a0 v1_0) (nth a1 v1_0))) = true := by simpa using q3
        try simp at q3
        have x1 : l_eqMethodS_1 a0 a1 (a0.length + 1) 0 = .inl false := by rw [← e1]; simp only [l_eqMethodS_1, h2, h3, cond_true, cond_false]
        simp
        refine retRd (rv := [.tmp 4]) rfl ?_
        have f2 : l_eqMethodS a0 a1 = false := by simp only [l_eqMethodS, h1, x1, cond_true, cond_false]
        simp [f2]
      · have h3 : (!(l_eqMethod (nth a0 v1_0) (nth a1 v1_0))) = false := by simpa using q3
        try simp at q3
        simp
        refine nxtI ⟨(p1, (v1_0 + 1)), ?_, ?_⟩ (by simp) (wk_keep (by simp [w1]))
        · rw [← e1]; simp only [l_eqMethodS_1, h2, h3, cond_true, cond_false]
        · first | omega | (simp at *; omega)
    · have h2 : (decide ((↑v1_0 : Int) < (↑a0.length : Int))) = false := by simpa using q2
      try simp at q2
      have x2 : l_eqMethodS_1 a0 a1 (a0.length + 1) 0 = .inr () := by rw [← e1]; simp only [l_eqMethodS_1, h2, cond_true, cond_false]
      simp
      refine retRd (rv := [.tmp 4]) rfl ?_
      have f3 : l_eqMethodS a0 a1 = true := by simp only [l_eqMethodS, h1, x2, cond_true, cond_false]
      simp [f3]
theorem l_heldMethodS_ok (a0 : List TMethod) (a1 : Int) : SoundAt Try.prog 21 false [[.sl 4 (a0.map TMethod.row)], [.int .i64 a1]] [[.int .i64 (l_heldMethodS a0 a1)]] := by
  refine sound_of Try.func21 rfl (by kernel_rfl) ?_
  simp [Try.ntmps21]
  refine okL fun k1 => ?_
  refine loopI (ι := { s : Nat × Int × Nat // l_heldMethodS_1 a0 s.1 s.2.1 s.2.2 = l_heldMethodS_1 a0 (a0.length + 1) a1 0 ∧ (1 ≤ s.1 ∧ a0.length < s.1 + s.2.2) }) (fun s => stOf 49 [(0, .one (.d (.sl 4 (a0.map TMethod.row))), []), (1, .one (.d (.int .i64 s.1.2.1)), []), (5, .one (.d (.int .i64 (↑s.1.2.2 : Int))), [])]) (fun s => s.1.1) ⟨((a0.length + 1), a1, 0), rfl, by first | omega | (dsimp only; omega) | simp⟩ (wk_keep (by simp)) ?_
  rintro ⟨⟨n1, v1_0, v1_1⟩, e1, j1⟩
  try dsimp only at e1 j1
  obtain ⟨p1, rfl⟩ : ∃ p, n1 = p + 1 := ⟨n1 - 1, by omega⟩
  simp
  refine condB (fun k2 q1 => ?_) (fun k2 q1 => ?_)
  · have h1 : (decide ((↑v1_1 : Int) < (↑a0.length : Int))) = true := by simpa using q1
    have i1 : v1_1 < a0.length := by simpa using q1
    have m2 : a0.length ≤ 9223372036854775807 := by simpa using k2 0 _ rfl
    have w1 : IntKind.i64.wrap ((v1_1 : Int) + 1) = (v1_1 : Int) + 1 := wrap_of (by omega) (by omega)
    try simp at q1
    simp [i1, rowAt_map]
    repeat (refine ⟨by intros; omega, ?_⟩)
    refine condB (fun k3 q2 => ?_) (fun k3 q2 => ?_)
    · have h2 : ((nth a0 v1_1).Id != v1_0) = true := by simpa using q2
      try simp at q2
      have x1 : l_heldMethodS_1 a0 (a0.length + 1) a1 0 = .inl (-1) := by rw [← e1]; simp only [l_heldMethodS_1, h1, h2, cond_true, cond_false]
      simp
      refine retRd (rv := [.tmp 4]) rfl ?_
      have f1 : l_heldMethodS a0 a1 = (-1) := by simp only [l_heldMethodS, x1, cond_true, cond_false]
      simp [f1]
    · have h2 : ((nth a0 v1_1).Id != v1_0) = false := by simpa using q2
      try simp at q2
      simp [i1, rowAt_map]
      repeat (refine ⟨by intros; omega, ?_⟩)
      refine condB (fun k4 q3 => ?_) (fun k4 q3 => ?_)
      · have h3 : ((nth a0 v1_1).Known != (W (v1_0 + 1))) = true := by simpa using q3
        try simp at q3
        have x2 : l_heldMethodS_1 a0 (a0.length + 1) a1 0 = .inl (-1) := by rw [← e1]; simp only [l_heldMethodS_1, h1, h2, h3, cond_true, cond_false]
        simp
        refine retRd (rv := [.tmp 4]) rfl ?_
        have f2 : l_heldMethodS a0 a1 = (-1) := by simp only [l_heldMethodS, x2, cond_true, cond_false]
        simp [f2]
      · have h3 : ((nth a0 v1_1).Known != (W (v1_0 + 1))) = false := by simpa using q3
        try simp at q3
        simp [i1, rowAt_map]
        repeat (refine ⟨by intros; omega, ?_⟩)
        refine condB (fun k5 q4 => ?_) (fun k5 q4 => ?_)
        · have h4 : ((nth a0 v1_1).Ends != (W ((W (v1_0 + 1)) + 1))) = true := by simpa using q4
          try simp at q4
          have x3 : l_heldMethodS_1 a0 (a0.length + 1) a1 0 = .inl (-1) := by rw [← e1]; simp only [l_heldMethodS_1, h1, h2, h3, h4, cond_true, cond_false]
          simp
          refine retRd (rv := [.tmp 4]) rfl ?_
          have f3 : l_heldMethodS a0 a1 = (-1) := by simp only [l_heldMethodS, x3, cond_true, cond_false]
          simp [f3]
        · have h4 : ((nth a0 v1_1).Ends != (W ((W (v1_0 + 1)) + 1))) = false := by simpa using q4
          try simp at q4
          simp [i1, rowAt_map]
          repeat (refine ⟨by intros; omega, ?_⟩)
          refine condB (fun k6 q5 => ?_) (fun k6 q5 => ?_)
          · have h5 : ((nth a0 v1_1).Broken != (W ((W ((W (v1_0 + 1)) + 1)) + 1))) = true := by simpa using q5
            try simp at q5
            have x4 : l_heldMethodS_1 a0 (a0.length + 1) a1 0 = .inl (-1) := by rw [← e1]; simp only [l_heldMethodS_1, h1, h2, h3, h4, h5, cond_true, cond_false]
            simp
            refine retRd (rv := [.tmp 4]) rfl ?_
            have f4 : l_heldMethodS a0 a1 = (-1) := by simp only [l_heldMethodS, x4, cond_true, cond_false]
            simp [f4]
          · have h5 : ((nth a0 v1_1).Broken != (W ((W ((W (v1_0 + 1)) + 1)) + 1))) = false := by simpa using q5
            try simp at q5
            simp
            refine nxtI ⟨(p1, (W ((W ((W ((W (v1_0 + 1)) + 1)) + 1)) + 1)), (v1_1 + 1)), ?_, ?_⟩ (by simp) (wk_keep (by simp [w1]))
            · rw [← e1]; simp only [l_heldMethodS_1, h1, h2, h3, h4, h5, cond_true, cond_false]
            · first | omega | (simp at *; omega)
  · have h1 : (decide ((↑v1_1 : Int) < (↑a0.length : Int))) = false := by simpa using q1
    try simp at q1
    have x5 : l_heldMethodS_1 a0 (a0.length + 1) a1 0 = .inr v1_0 := by rw [← e1]; simp only [l_heldMethodS_1, h1, cond_true, cond_false]
    simp
    refine retRd (rv := [.tmp 4]) rfl ?_
    have f5 : l_heldMethodS a0 a1 = v1_0 := by simp only [l_heldMethodS, x5, cond_true, cond_false]
    simp [f5]
theorem s_l8Keys_ok : SoundAt Try.prog 45 true [] [[.sl 5 (s_l8Keys.map TKey.row)]] := by
  refine sound_of Try.func45 rfl (by kernel_rfl) ?_
  simp [Try.ntmps45]
  refine retOwn (rv := [.tmp 0]) rfl ?_
  have f1 : s_l8Keys = ([(TKey.mk 1 90 1 0 501), (TKey.mk 2 90 3 40 502), (TKey.mk 11 1 1 0 511), (TKey.mk 12 1 2 20 512), (TKey.mk 13 2 3 40 513), (TKey.mk 21 50 1 0 521), (TKey.mk 31 81 1 0 531), (TKey.mk 32 82 2 20 532), (TKey.mk 33 83 3 40 533), (TKey.mk 34 84 4 60 534)] : List TKey) := by simp only [s_l8Keys, cond_true, cond_false]
  simp [f1]
theorem s_WorldKeys_ok : SoundAt Try.prog 22 true [] [[.sl 5 (s_WorldKeys.map TKey.row)]] := by
  refine sound_of Try.func22 rfl (by kernel_rfl) ?_
  simp [Try.ntmps22]
  refine callOwn rfl rfl rfl rfl (s_l8Keys_ok) (by simp) (by simp) (by simp) (by simp) ?_
  simp
  refine retOwn (rv := [.tmp 0]) rfl ?_
  have f1 : s_WorldKeys = s_l8Keys := by simp only [s_WorldKeys, cond_true, cond_false]
  simp [f1]
theorem i_WorldKeys_ok : SoundAt Try.prog 23 true [] [[.sl 5 (i_WorldKeys.map TKey.row)]] := by
  refine sound_of Try.func23 rfl (by kernel_rfl) ?_
  simp [Try.ntmps23]
  refine retOwn (rv := [.tmp 0]) rfl ?_
  have f1 : i_WorldKeys = ([(TKey.mk 1 90 1 0 501), (TKey.mk 2 90 3 40 502), (TKey.mk 11 1 1 0 511), (TKey.mk 12 1 2 20 512), (TKey.mk 13 2 3 40 513), (TKey.mk 21 50 1 0 521), (TKey.mk 31 81 1 0 531), (TKey.mk 32 82 2 20 532), (TKey.mk 33 83 3 40 533), (TKey.mk 34 84 4 60 534)] : List TKey) := by simp only [i_WorldKeys, cond_true, cond_false]
  simp [f1]
theorem l_eqKey_ok (a0 : TKey) (a1 : TKey) : SoundAt Try.prog 46 false [a0.row, a1.row] [[.bool (l_eqKey a0 a1)]] := by
  refine sound_of Try.func46 rfl (by kernel_rfl) ?_
  simp [Try.ntmps46]
  refine condB (fun k1 q1 => ?_) (fun k1 q1 => ?_)
  · have h1 : (a0.Number != a1.Number) = true := by simpa using q1
    try simp at q1
    simp
    refine retRd (rv := [.tmp 4]) rfl ?_
    have f1 : l_eqKey a0 a1 = false := by simp only [l_eqKey, h1, cond_true, cond_false]
    simp [f1]
  · have h1 : (a0.Number != a1.Number) = false := by simpa using q1
    try simp at q1
    simp
    refine condB (fun k2 q2 => ?_) (fun k2 q2 => ?_)
    · have h2 : (a0.Owner != a1.Owner) = true := by simpa using q2
      try simp at q2
      simp
      refine retRd (rv := [.tmp 4]) rfl ?_
      have f2 : l_eqKey a0 a1 = false := by simp only [l_eqKey, h1, h2, cond_true, cond_false]
      simp [f2]
    · have h2 : (a0.Owner != a1.Owner) = false := by simpa using q2
      try simp at q2
      simp
      refine condB (fun k3 q3 => ?_) (fun k3 q3 => ?_)
      · have h3 : (a0.Method != a1.Method) = true := by simpa using q3
        try simp at q3
        simp
        refine retRd (rv := [.tmp 4]) rfl ?_
        have f3 : l_eqKey a0 a1 = false := by simp only [l_eqKey, h1, h2, h3, cond_true, cond_false]
        simp [f3]
      · have h3 : (a0.Method != a1.Method) = false := by simpa using q3
        try simp at q3
        simp
        refine condB (fun k4 q4 => ?_) (fun k4 q4 => ?_)
        · have h4 : (a0.Born != a1.Born) = true := by simpa using q4
          try simp at q4
          simp
          refine retRd (rv := [.tmp 4]) rfl ?_
          have f4 : l_eqKey a0 a1 = false := by simp only [l_eqKey, h1, h2, h3, h4, cond_true, cond_false]
          simp [f4]
        · have h4 : (a0.Born != a1.Born) = false := by simpa using q4
          try simp at q4
          simp
          refine condB (fun k5 q5 => ?_) (fun k5 q5 => ?_)
          · have h5 : (a0.Secret != a1.Secret) = true := by simpa using q5
            try simp at q5
            simp
            refine retRd (rv := [.tmp 4]) rfl ?_
            have f5 : l_eqKey a0 a1 = false := by simp only [l_eqKey, h1, h2, h3, h4, h5, cond_true, cond_false]
            simp [f5]
          · have h5 : (a0.Secret != a1.Secret) = false := by simpa using q5
            try simp at q5
            simp
            refine retRd (rv := [.tmp 4]) rfl ?_
            have f6 : l_eqKey a0 a1 = true := by simp only [l_eqKey, h1, h2, h3, h4, h5, cond_true, cond_false]
            simp [f6]
theorem l_eqKeyS_ok (a0 : List TKey) (a1 : List TKey) : SoundAt Try.prog 24 false [[.sl 5 (a0.map TKey.row)], [.sl 5 (a1.map TKey.row)]] [[.bool (l_eqKeyS a0 a1)]] := by
  refine sound_of Try.func24 rfl (by kernel_rfl) ?_
  simp [Try.ntmps24]
  refine condB (fun k1 q1 => ?_) (fun k1 q1 => ?_)
  · have h1 : ((↑a0.length : Int) != (↑a1.length : Int)) = true := by simpa using q1
    try simp at q1
    simp
    refine retRd (rv := [.tmp 4]) rfl ?_
    have f1 : l_eqKeyS a0 a1 = false := by simp only [l_eqKeyS, h1, cond_true, cond_false]
    simp [f1]
  · have h1 : ((↑a0.length : Int) != (↑a1.length : Int)) = false := by simpa using q1
    try simp at q1
    simp
    refine okL fun k2 => ?_
    refine loopI (ι := { s : Nat × Nat // l_eqKeyS_1 a0 a1 s.1 s.2 = l_eqKeyS_1 a0 a1 (a0.length + 1) 0 ∧ (1 ≤ s.1 ∧ a0.length < s.1 + s.2) }) (fun s => stOf 27 [(0, .one (.d (.sl 5 (a0.map TKey.row))), []), (1, .one (.d (.sl 5 (a1.map TKey.row))), []), (5, .one (.d (.int .i64 (↑s.1.2 : Int))), [])]) (fun s => s.1.1) ⟨((a0.length + 1), 0), rfl, by first | omega | (dsimp only; omega) | simp⟩ (wk_keep (by simp)) ?_
    rintro ⟨⟨n1, v1_0⟩, e1, j1⟩
    try dsimp only at e1 j1
    obtain ⟨p1, rfl⟩ : ∃ p, n1 = p + 1 := ⟨n1 - 1, by omega⟩
    simp
    refine condB (fun k3 q2 => ?_) (fun k3 q2 => ?_)
    · have h2 : (decide ((↑v1_0 : Int) < (↑a0.length : Int))) = true := by simpa using q2
      have i1 : v1_0 < a0.length := by simpa using q2
      have m2 : a0.length ≤ 9223372036854775807 := by simpa using k3 0 _ rfl
      have w1 : IntKind.i64.wrap ((v1_0 : Int) + 1) = (v1_0 : Int) + 1 := wrap_of (by omega) (by omega)
      try simp at q2
      simp
      refine okD fun k4 => ?_
      refine drawI mixed (by kernel_rfl) (by kernel_rfl) ?_
      have i2 : v1_0 < a1.length := by omega
      simp [i1, rowAt_map, i2]
      repeat (refine ⟨by intros; omega, ?_⟩)
      refine callRd rfl rfl rfl rfl (l_eqKey_ok (nth a0 v1_0) (nth a1 v1_0)) (by simp) (by simp) (by simp) ?_
      simp
      refine condB (fun k5 q3 => ?_) (fun k5 q3 => ?_)
      · have h3 : (!(l_eqKey (nth a0 v1_0) (nth a1 v1_0))) = true := by simpa using q3
        try simp at q3
        have x1 : l_eqKeyS_1 a0 a1 (a0.length + 1) 0 = .inl false := by rw [← e1]; simp only [l_eqKeyS_1, h2, h3, cond_true, cond_false]
        simp
        refine retRd (rv := [.tmp 4]) rfl ?_
        have f2 : l_eqKeyS a0 a1 = false := by simp only [l_eqKeyS, h1, x1, cond_true, cond_false]
        simp [f2]
      · have h3 : (!(l_eqKey (nth a0 v1_0) (nth a1 v1_0))) = false := by simpa using q3
        try simp at q3
        simp
        refine nxtI ⟨(p1, (v1_0 + 1)), ?_, ?_⟩ (by simp) (wk_keep (by simp [w1]))
        · rw [← e1]; simp only [l_eqKeyS_1, h2, h3, cond_true, cond_false]
        · first | omega | (simp at *; omega)
    · have h2 : (decide ((↑v1_0 : Int) < (↑a0.length : Int))) = false := by simpa using q2
      try simp at q2
      have x2 : l_eqKeyS_1 a0 a1 (a0.length + 1) 0 = .inr () := by rw [← e1]; simp only [l_eqKeyS_1, h2, cond_true, cond_false]
      simp
      refine retRd (rv := [.tmp 4]) rfl ?_
      have f3 : l_eqKeyS a0 a1 = true := by simp only [l_eqKeyS, h1, x2, cond_true, cond_false]
      simp [f3]
theorem l_heldKeyS_ok (a0 : List TKey) (a1 : Int) : SoundAt Try.prog 26 false [[.sl 5 (a0.map TKey.row)], [.int .i64 a1]] [[.int .i64 (l_heldKeyS a0 a1)]] := by
  refine sound_of Try.func26 rfl (by kernel_rfl) ?_
  simp [Try.ntmps26]
  refine okL fun k1 => ?_
  refine loopI (ι := { s : Nat × Int × Nat // l_heldKeyS_1 a0 s.1 s.2.1 s.2.2 = l_heldKeyS_1 a0 (a0.length + 1) a1 0 ∧ (1 ≤ s.1 ∧ a0.length < s.1 + s.2.2) }) (fun s => stOf 58 [(0, .one (.d (.sl 5 (a0.map TKey.row))), []), (1, .one (.d (.int .i64 s.1.2.1)), []), (5, .one (.d (.int .i64 (↑s.1.2.2 : Int))), [])]) (fun s => s.1.1) ⟨((a0.length + 1), a1, 0), rfl, by first | omega | (dsimp only; omega) | simp⟩ (wk_keep (by simp)) ?_
  rintro ⟨⟨n1, v1_0, v1_1⟩, e1, j1⟩
  try dsimp only at e1 j1
  obtain ⟨p1, rfl⟩ : ∃ p, n1 = p + 1 := ⟨n1 - 1, by omega⟩
  simp
  refine condB (fun k2 q1 => ?_) (fun k2 q1 => ?_)
  · have h1 : (decide ((↑v1_1 : Int) < (↑a0.length : Int))) = true := by simpa using q1
    have i1 : v1_1 < a0.length := by simpa using q1
    have m2 : a0.length ≤ 9223372036854775807 := by simpa using k2 0 _ rfl
    have w1 : IntKind.i64.wrap ((v1_1 : Int) + 1) = (v1_1 : Int) + 1 := wrap_of (by omega) (by omega)
    try simp at q1
    simp [i1, rowAt_map]
    repeat (refine ⟨by intros; omega, ?_⟩)
    refine condB (fun k3 q2 => ?_) (fun k3 q2 => ?_)
    · have h2 : ((nth a0 v1_1).Number != v1_0) = true := by simpa using q2
      try simp at q2
      have x1 : l_heldKeyS_1 a0 (a0.length + 1) a1 0 = .inl (-1) := by rw [← e1]; simp only [l_heldKeyS_1, h1, h2, cond_true, cond_false]
      simp
      refine retRd (rv := [.tmp 4]) rfl ?_
      have f1 : l_heldKeyS a0 a1 = (-1) := by simp only [l_heldKeyS, x1, cond_true, cond_false]
      simp [f1]
    · have h2 : ((nth a0 v1_1).Number != v1_0) = false := by simpa using q2
      try simp at q2
      simp [i1, rowAt_map]
      repeat (refine ⟨by intros; omega, ?_⟩)
      refine condB (fun k4 q3 => ?_) (fun k4 q3 => ?_)
      · have h3 : ((nth a0 v1_1).Owner != (W (v1_0 + 1))) = true := by simpa using q3
        try simp at q3
        have x2 : l_heldKeyS_1 a0 (a0.length + 1) a1 0 = .inl (-1) := by rw [← e1]; simp only [l_heldKeyS_1, h1, h2, h3, cond_true, cond_false]
        simp
        refine retRd (rv := [.tmp 4]) rfl ?_
        have f2 : l_heldKeyS a0 a1 = (-1) := by simp only [l_heldKeyS, x2, cond_true, cond_false]
        simp [f2]
      · have h3 : ((nth a0 v1_1).Owner != (W (v1_0 + 1))) = false := by simpa using q3
        try simp at q3
        simp [i1, rowAt_map]
        repeat (refine ⟨by intros; omega, ?_⟩)
        refine condB (fun k5 q4 => ?_) (fun k5 q4 => ?_)
        · have h4 : ((nth a0 v1_1).Method != (W ((W (v1_0 + 1)) + 1))) = true := by simpa using q4
          try simp at q4
          have x3 : l_heldKeyS_1 a0 (a0.length + 1) a1 0 = .inl (-1) := by rw [← e1]; simp only [l_heldKeyS_1, h1, h2, h3, h4, cond_true, cond_false]
          simp
          refine retRd (rv := [.tmp 4]) rfl ?_
          have f3 : l_heldKeyS a0 a1 = (-1) := by simp only [l_heldKeyS, x3, cond_true, cond_false]
          simp [f3]
        · have h4 : ((nth a0 v1_1).Method != (W ((W (v1_0 + 1)) + 1))) = false := by simpa using q4
          try simp at q4
          simp [i1, rowAt_map]
          repeat (refine ⟨by intros; omega, ?_⟩)
          refine condB (fun k6 q5 => ?_) (fun k6 q5 => ?_)
          · have h5 : ((nth a0 v1_1).Born != (W ((W ((W (v1_0 + 1)) + 1)) + 1))) = true := by simpa using q5
            try simp at q5
            have x4 : l_heldKeyS_1 a0 (a0.length + 1) a1 0 = .inl (-1) := by rw [← e1]; simp only [l_heldKeyS_1, h1, h2, h3, h4, h5, cond_true, cond_false]
            simp
            refine retRd (rv := [.tmp 4]) rfl ?_
            have f4 : l_heldKeyS a0 a1 = (-1) := by simp only [l_heldKeyS, x4, cond_true, cond_false]
            simp [f4]
          · have h5 : ((nth a0 v1_1).Born != (W ((W ((W (v1_0 + 1)) + 1)) + 1))) = false := by simpa using q5
            try simp at q5
            simp [i1, rowAt_map]
            repeat (refine ⟨by intros; omega, ?_⟩)
            refine condB (fun k7 q6 => ?_) (fun k7 q6 => ?_)
            · have h6 : ((nth a0 v1_1).Secret != (W ((W ((W ((W (v1_0 + 1)) + 1)) + 1)) + 1))) = true := by simpa using q6
              try simp at q6
              have x5 : l_heldKeyS_1 a0 (a0.length + 1) a1 0 = .inl (-1) := by rw [← e1]; simp only [l_heldKeyS_1, h1, h2, h3, h4, h5, h6, cond_true, cond_false]
              simp
              refine retRd (rv := [.tmp 4]) rfl ?_
              have f5 : l_heldKeyS a0 a1 = (-1) := by simp only [l_heldKeyS, x5, cond_true, cond_false]
              simp [f5]
            · have h6 : ((nth a0 v1_1).Secret != (W ((W ((W ((W (v1_0 + 1)) + 1)) + 1)) + 1))) = false := by simpa using q6
              try simp at q6
              simp
              refine nxtI ⟨(p1, (W ((W ((W ((W ((W (v1_0 + 1)) + 1)) + 1)) + 1)) + 1)), (v1_1 + 1)), ?_, ?_⟩ (by simp) (wk_keep (by simp [w1]))
              · rw [← e1]; simp only [l_heldKeyS_1, h1, h2, h3, h4, h5, h6, cond_true, cond_false]
              · first | omega | (simp at *; omega)
  · have h1 : (decide ((↑v1_1 : Int) < (↑a0.length : Int))) = false := by simpa using q1
    try simp at q1
    have x6 : l_heldKeyS_1 a0 (a0.length + 1) a1 0 = .inr v1_0 := by rw [← e1]; simp only [l_heldKeyS_1, h1, cond_true, cond_false]
    simp
    refine retRd (rv := [.tmp 4]) rfl ?_
    have f6 : l_heldKeyS a0 a1 = v1_0 := by simp only [l_heldKeyS, x6, cond_true, cond_false]
    simp [f6]
theorem l_szStepS_ok (a0 : List TStep) (a1 : Int) : SoundAt Try.prog 47 false [[.sl 2 (a0.map TStep.row)], [.int .i64 a1]] [[.int .i64 (l_szStepS a0 a1)]] := by
  refine sound_of Try.func47 rfl (by kernel_rfl) ?_
  simp [Try.ntmps47]
  refine condB (fun k1 q1 => ?_) (fun k1 q1 => ?_)
  · have h1 : (decide ((W (a1 - (↑a0.length : Int))) < 0)) = true := by simpa using q1
    try simp at q1
    simp
    refine retRd (rv := [.tmp 4]) rfl ?_
    have f1 : l_szStepS a0 a1 = (-1) := by simp only [l_szStepS, h1, cond_true, cond_false]
    simp [f1]
  · have h1 : (decide ((W (a1 - (↑a0.length : Int))) < 0)) = false := by simpa using q1
    try simp at q1
    simp
    refine retRd (rv := [.tmp 4]) rfl ?_
    have f2 : l_szStepS a0 a1 = (W (a1 - (↑a0.length : Int))) := by simp only [l_szStepS, h1, cond_true, cond_false]
    simp [f2]
theorem l_szStampS_ok (a0 : List TStamp) (a1 : Int) : SoundAt Try.prog 48 false [[.sl 5 (a0.map TStamp.row)], [.int .i64 a1]] [[.int .i64 (l_szStampS a0 a1)]] := by
  refine sound_of Try.func48 rfl (by kernel_rfl) ?_
  simp [Try.ntmps48]
  refine condB (fun k1 q1 => ?_) (fun k1 q1 => ?_)
  · have h1 : (decide ((W (a1 - (↑a0.length : Int))) < 0)) = true := by simpa using q1
    try simp at q1
    simp
    refine retRd (rv := [.tmp 4]) rfl ?_
    have f1 : l_szStampS a0 a1 = (-1) := by simp only [l_szStampS, h1, cond_true, cond_false]
    simp [f1]
  · have h1 : (decide ((W (a1 - (↑a0.length : Int))) < 0)) = false := by simpa using q1
    try simp at q1
    simp
    refine retRd (rv := [.tmp 4]) rfl ?_
    have f2 : l_szStampS a0 a1 = (W (a1 - (↑a0.length : Int))) := by simp only [l_szStampS, h1, cond_true, cond_false]
    simp [f2]
theorem l_szRenewal_ok (a0 : TRenewal) (a1 : Int) : SoundAt Try.prog 27 false [a0.row, [.int .i64 a1]] [[.int .i64 (l_szRenewal a0 a1)]] := by
  refine sound_of Try.func27 rfl (by kernel_rfl) ?_
  simp [Try.ntmps27]
  refine callRd rfl rfl rfl rfl (l_szStepS_ok a0.Path a1) (by simp) (by simp) (by simp) ?_
  simp
  refine condB (fun k1 q1 => ?_) (fun k1 q1 => ?_)
  · have h1 : (decide ((l_szStepS a0.Path a1) < 0)) = true := by simpa using q1
    try simp at q1
    simp
    refine retRd (rv := [.tmp 4]) rfl ?_
    have f1 : l_szRenewal a0 a1 = (-1) := by simp only [l_szRenewal, h1, cond_true, cond_false]
    simp [f1]
  · have h1 : (decide ((l_szStepS a0.Path a1) < 0)) = false := by simpa using q1
    try simp at q1
    simp
    refine callRd rfl rfl rfl rfl (l_szStampS_ok a0.Stamps (l_szStepS a0.Path a1)) (by simp) (by simp) (by simp) ?_
    simp
    refine condB (fun k2 q2 => ?_) (fun k2 q2 => ?_)
    · have h2 : (decide ((l_szStampS a0.Stamps (l_szStepS a0.Path a1)) < 0)) = true := by simpa using q2
      try simp at q2
      simp
      refine retRd (rv := [.tmp 4]) rfl ?_
      have f2 : l_szRenewal a0 a1 = (-1) := by simp only [l_szRenewal, h1, h2, cond_true, cond_false]
      simp [f2]
    · have h2 : (decide ((l_szStampS a0.Stamps (l_szStepS a0.Path a1)) < 0)) = false := by simpa using q2
      try simp at q2
      simp
      refine retRd (rv := [.tmp 4]) rfl ?_
      have f3 : l_szRenewal a0 a1 = (l_szStampS a0.Stamps (l_szStepS a0.Path a1)) := by simp only [l_szRenewal, h1, h2, cond_true, cond_false]
      simp [f3]
theorem l_toStep_ok (a0 : TStep) : SoundAt Try.prog 56 false [a0.row] [(l_toStep a0).row] := by
  refine sound_of Try.func56 rfl (by kernel_rfl) ?_
  simp [Try.ntmps56]
  refine retRd (rv := [.cell 2 91]) rfl ?_
  have f1 : l_toStep a0 = a0 := by simp only [l_toStep, cond_true, cond_false]
  simp [f1]
theorem l_toStepS_ok (a0 : List TStep) (u0 : Sm 68719476736 a0) : SoundAt Try.prog 49 true [[.sl 2 (a0.map TStep.row)]] [[.sl 2 ((l_toStepS a0).map TStep.row)]] := by
  refine sound_of Try.func49 rfl (by kernel_rfl) ?_
  have c1 : a0.length ≤ 68719476736 := sm_len (by simp [u0])
  simp [Try.ntmps49]
  repeat (refine ⟨by intros; omega, ?_⟩)
  refine okL fun k1 => ?_
  refine loopI (ι := { s : Nat × Nat × (List TStep) // l_toStepS_1 a0 s.1 s.2.1 s.2.2 = l_toStepS_1 a0 (a0.length + 1) 0 (List.replicate a0.length (TStep.mk 0 false)) ∧ (1 ≤ s.1 ∧ a0.length < s.1 + s.2.1 ∧ s.2.2.length = a0.length) }) (fun s => stOf 23 [(0, .one (.d (.sl 2 (a0.map TStep.row))), []), (3, .one (.sref 7 0 0 s.1.2.2.length), []), (4, .one (.d (.int .i64 (↑s.1.2.1 : Int))), []), (7, .any, [.arr 2 (s.1.2.2.map TStep.row)])]) (fun s => s.1.1) ⟨((a0.length + 1), 0, (List.replicate a0.length (TStep.mk 0 false))), rfl, by first | omega | (dsimp only; omega) | simp⟩ (wk_keep (by simp)) ?_
  rintro ⟨⟨n1, v1_0, v1_1⟩, e1, j1⟩
  try dsimp only at e1 j1
  obtain ⟨p1, rfl⟩ : ∃ p, n1 = p + 1 := ⟨n1 - 1, by omega⟩
  simp
  refine condB (fun k2 q1 => ?_) (fun k2 q1 => ?_)
  · have h1 : (decide ((↑v1_0 : Int) < (↑a0.length : Int))) = true := by simpa using q1
    have i1 : v1_0 < a0.length := by simpa using q1
    have m2 : a0.length ≤ 9223372036854775807 := by simpa using k2 0 _ rfl
    have w1 : IntKind.i64.wrap ((v1_0 : Int) + 1) = (v1_0 : Int) + 1 := wrap_of (by omega) (by omega)
    try simp at q1
    simp [i1, rowAt_map]
    repeat (refine ⟨by intros; omega, ?_⟩)
    refine callRd rfl rfl rfl rfl (l_toStep_ok (nth a0 v1_0)) (by simp) (by simp) (by simp) ?_
    have i2 : v1_0 < v1_1.length := by omega
    simp [i2, rowAt_map, set_map (x := (l_toStep (nth a0 v1_0))) rfl]
    repeat (refine ⟨by intros; omega, ?_⟩)
    refine nxtI ⟨(p1, (v1_0 + 1), (v1_1.set v1_0 (l_toStep (nth a0 v1_0)))), ?_, ?_⟩ (by simp) (wk_keep (by simp [w1]))
    · rw [← e1]; simp only [l_toStepS_1, h1, cond_true, cond_false]
    · first | omega | (simp at *; omega)
  · have h1 : (decide ((↑v1_0 : Int) < (↑a0.length : Int))) = false := by simpa using q1
    try simp at q1
    have x1 : l_toStepS_1 a0 (a0.length + 1) 0 (List.replicate a0.length (TStep.mk 0 false)) = v1_1 := by rw [← e1]; simp only [l_toStepS_1, h1, cond_true, cond_false]
    simp
    refine retOwn (rv := [.tmp 2]) rfl ?_
    have f1 : l_toStepS a0 = v1_1 := by simp only [l_toStepS, x1, cond_true, cond_false]
    simp [f1]
theorem l_toStampS_ok (a0 : List TStamp) (u0 : Sm 68719476736 a0) : SoundAt Try.prog 50 true [[.sl 5 (a0.map TStamp.row)]] [[.sl 5 ((l_toStampS a0).map TStamp.row)]] := by
  refine sound_of Try.func50 rfl (by kernel_rfl) ?_
  have c1 : a0.length ≤ 68719476736 := sm_len (by simp [u0])
  simp [Try.ntmps50]
  repeat (refine ⟨by intros; omega, ?_⟩)
  refine okL fun k1 => ?_
  refine loopI (ι := { s : Nat × Nat × (List TStamp) // l_toStampS_1 a0 s.1 s.2.1 s.2.2 = l_toStampS_1 a0 (a0.length + 1) 0 (List.replicate a0.length (TStamp.mk 0 0 0 0 0)) ∧ (1 ≤ s.1 ∧ a0.length < s.1 + s.2.1 ∧ s.2.2.length = a0.length) }) (fun s => stOf 23 [(0, .one (.d (.sl 5 (a0.map TStamp.row))), []), (3, .one (.sref 7 0 0 s.1.2.2.length), []), (4, .one (.d (.int .i64 (↑s.1.2.1 : Int))), []), (7, .any, [.arr 5 (s.1.2.2.map TStamp.row)])]) (fun s => s.1.1) ⟨((a0.length + 1), 0, (List.replicate a0.length (TStamp.mk 0 0 0 0 0))), rfl, by first | omega | (dsimp only; omega) | simp⟩ (wk_keep (by simp)) ?_
  rintro ⟨⟨n1, v1_0, v1_1⟩, e1, j1⟩
  try dsimp only at e1 j1
  obtain ⟨p1, rfl⟩ : ∃ p, n1 = p + 1 := ⟨n1 - 1, by omega⟩
  simp
  refine condB (fun k2 q1 => ?_) (fun k2 q1 => ?_)
  · have h1 : (decide ((↑v1_0 : Int) < (↑a0.length : Int))) = true := by simpa using q1
    have i1 : v1_0 < a0.length := by simpa using q1
    have m2 : a0.length ≤ 9223372036854775807 := by simpa using k2 0 _ rfl
    have w1 : IntKind.i64.wrap ((v1_0 : Int) + 1) = (v1_0 : Int) + 1 := wrap_of (by omega) (by omega)
    try simp at q1
    simp [i1, rowAt_map]
    repeat (refine ⟨by intros; omega, ?_⟩)
    refine callRd rfl rfl rfl rfl (l_toStamp_ok (nth a0 v1_0)) (by simp) (by simp) (by simp) ?_
    have i2 : v1_0 < v1_1.length := by omega
    simp [i2, rowAt_map, set_map (x := (l_toStamp (nth a0 v1_0))) rfl]
    repeat (refine ⟨by intros; omega, ?_⟩)
    refine nxtI ⟨(p1, (v1_0 + 1), (v1_1.set v1_0 (l_toStamp (nth a0 v1_0)))), ?_, ?_⟩ (by simp) (wk_keep (by simp [w1]))
    · rw [← e1]; simp only [l_toStampS_1, h1, cond_true, cond_false]
    · first | omega | (simp at *; omega)
  · have h1 : (decide ((↑v1_0 : Int) < (↑a0.length : Int))) = false := by simpa using q1
    try simp at q1
    have x1 : l_toStampS_1 a0 (a0.length + 1) 0 (List.replicate a0.length (TStamp.mk 0 0 0 0 0)) = v1_1 := by rw [← e1]; simp only [l_toStampS_1, h1, cond_true, cond_false]
    simp
    refine retOwn (rv := [.tmp 2]) rfl ?_
    have f1 : l_toStampS a0 = v1_1 := by simp only [l_toStampS, x1, cond_true, cond_false]
    simp [f1]
theorem l_toRenewal_ok (a0 : TRenewal) (u0 : Sm 68719476736 a0) : SoundAt Try.prog 29 true [a0.row] [(l_toRenewal a0).row] := by
  refine sound_of Try.func29 rfl (by kernel_rfl) ?_
  simp [Try.ntmps29]
  refine callOwn rfl rfl rfl rfl (l_toStepS_ok a0.Path (by simp [u0])) (by simp) (by simp) (by simp) (by simp) ?_
  simp
  refine callOwn rfl rfl rfl rfl (l_toStampS_ok a0.Stamps (by simp [u0])) (by simp) (by simp) (by simp) (by simp) ?_
  simp
  refine retOwn (rv := [.cell 2 50]) rfl ?_
  have f1 : l_toRenewal a0 = (TRenewal.mk a0.Count a0.Method a0.Root (l_toStepS a0.Path) (l_toStampS a0.Stamps)) := by simp only [l_toRenewal, cond_true, cond_false]
  simp [f1]
theorem s_RenewalSize_ok (a0 : TRenewal) : SoundAt Try.prog 28 false [a0.row] [[.int .i64 (s_RenewalSize a0)]] := by
  refine sound_of Try.func28 rfl (by kernel_rfl) ?_
  simp [Try.ntmps28]
  refine retRd (rv := [.tmp 2]) rfl ?_
  have f1 : s_RenewalSize a0 = (W ((W (3 + (W (2 * (↑a0.Path.length : Int))))) + (W (6 * (↑a0.Stamps.length : Int))))) := by simp only [s_RenewalSize, cond_true, cond_false]
  simp [f1]
theorem i_RenewalSize_ok (a0 : TRenewal) : SoundAt Try.prog 30 false [a0.row] [[.int .i64 (i_RenewalSize a0)]] := by
  refine sound_of Try.func30 rfl (by kernel_rfl) ?_
  simp [Try.ntmps30]
  refine retRd (rv := [.tmp 2]) rfl ?_
  have f1 : i_RenewalSize a0 = (W ((W (3 + (W (2 * (↑a0.Path.length : Int))))) + (W (6 * (↑a0.Stamps.length : Int))))) := by simp only [i_RenewalSize, cond_true, cond_false]
  simp [f1]
theorem l_eqStep_ok (a0 : TStep) (a1 : TStep) : SoundAt Try.prog 57 false [a0.row, a1.row] [[.bool (l_eqStep a0 a1)]] := by
  refine sound_of Try.func57 rfl (by kernel_rfl) ?_
  simp [Try.ntmps57]
  refine condB (fun k1 q1 => ?_) (fun k1 q1 => ?_)
  · have h1 : (a0.Digest != a1.Digest) = true := by simpa using q1
    try simp at q1
    simp
    refine retRd (rv := [.tmp 4]) rfl ?_
    have f1 : l_eqStep a0 a1 = false := by simp only [l_eqStep, h1, cond_true, cond_false]
    simp [f1]
  · have h1 : (a0.Digest != a1.Digest) = false := by simpa using q1
    try simp at q1
    simp
    refine condB (fun k2 q2 => ?_) (fun k2 q2 => ?_)
    · have h2 : (!(a0.Left == a1.Left)) = true := by simpa using q2
      try simp at q2
      simp
      refine retRd (rv := [.tmp 4]) rfl ?_
      have f2 : l_eqStep a0 a1 = false := by simp only [l_eqStep, h1, h2, cond_true, cond_false]
      simp [f2]
    · have h2 : (!(a0.Left == a1.Left)) = false := by simpa using q2
      try simp at q2
      simp
      refine retRd (rv := [.tmp 4]) rfl ?_
      have f3 : l_eqStep a0 a1 = true := by simp only [l_eqStep, h1, h2, cond_true, cond_false]
      simp [f3]
theorem l_eqStepS_ok (a0 : List TStep) (a1 : List TStep) : SoundAt Try.prog 51 false [[.sl 2 (a0.map TStep.row)], [.sl 2 (a1.map TStep.row)]] [[.bool (l_eqStepS a0 a1)]] := by
  refine sound_of Try.func51 rfl (by kernel_rfl) ?_
  simp [Try.ntmps51]
  refine condB (fun k1 q1 => ?_) (fun k1 q1 => ?_)
  · have h1 : ((↑a0.length : Int) != (↑a1.length : Int)) = true := by simpa using q1
    try simp at q1
    simp
    refine retRd (rv := [.tmp 4]) rfl ?_
    have f1 : l_eqStepS a0 a1 = false := by simp only [l_eqStepS, h1, cond_true, cond_false]
    simp [f1]
  · have h1 : ((↑a0.length : Int) != (↑a1.length : Int)) = false := by simpa using q1
    try simp at q1
    simp
    refine okL fun k2 => ?_
    refine loopI (ι := { s : Nat × Nat // l_eqStepS_1 a0 a1 s.1 s.2 = l_eqStepS_1 a0 a1 (a0.length + 1) 0 ∧ (1 ≤ s.1 ∧ a0.length < s.1 + s.2) }) (fun s => stOf 27 [(0, .one (.d (.sl 2 (a0.map TStep.row))), []), (1, .one (.d (.sl 2 (a1.map TStep.row))), []), (5, .one (.d (.int .i64 (↑s.1.2 : Int))), [])]) (fun s => s.1.1) ⟨((a0.length + 1), 0), rfl, by first | omega | (dsimp only; omega) | simp⟩ (wk_keep (by simp)) ?_
    rintro ⟨⟨n1, v1_0⟩, e1, j1⟩
    try dsimp only at e1 j1
    obtain ⟨p1, rfl⟩ : ∃ p, n1 = p + 1 := ⟨n1 - 1, by omega⟩
    simp
    refine condB (fun k3 q2 => ?_) (fun k3 q2 => ?_)
    · have h2 : (decide ((↑v1_0 : Int) < (↑a0.length : Int))) = true := by simpa using q2
      have i1 : v1_0 < a0.length := by simpa using q2
      have m2 : a0.length ≤ 9223372036854775807 := by simpa using k3 0 _ rfl
      have w1 : IntKind.i64.wrap ((v1_0 : Int) + 1) = (v1_0 : Int) + 1 := wrap_of (by omega) (by omega)
      try simp at q2
      simp
      refine okD fun k4 => ?_
      refine drawI mixed (by kernel_rfl) (by kernel_rfl) ?_
      have i2 : v1_0 < a1.length := by omega
      simp [i1, rowAt_map, i2]
      repeat (refine ⟨by intros; omega, ?_⟩)
      refine callRd rfl rfl rfl rfl (l_eqStep_ok (nth a0 v1_0) (nth a1 v1_0)) (by simp) (by simp) (by simp) ?_
      simp
      refine condB (fun k5 q3 => ?_) (fun k5 q3 => ?_)
      · have h3 : (!(l_eqStep (nth a0 v1_0) (nth a1 v1_0))) = true := by simpa using q3
        try simp at q3
        have x1 : l_eqStepS_1 a0 a1 (a0.length + 1) 0 = .inl false := by rw [← e1]; simp only [l_eqStepS_1, h2, h3, cond_true, cond_false]
        simp
        refine retRd (rv := [.tmp 4]) rfl ?_
        have f2 : l_eqStepS a0 a1 = false := by simp only [l_eqStepS, h1, x1, cond_true, cond_false]
        simp [f2]
      · have h3 : (!(l_eqStep (nth a0 v1_0) (nth a1 v1_0))) = false := by simpa using q3
        try simp at q3
        simp
        refine nxtI ⟨(p1, (v1_0 + 1)), ?_, ?_⟩ (by simp) (wk_keep (by simp [w1]))
        · rw [← e1]; simp only [l_eqStepS_1, h2, h3, cond_true, cond_false]
        · first | omega | (simp at *; omega)
    · have h2 : (decide ((↑v1_0 : Int) < (↑a0.length : Int))) = false := by simpa using q2
      try simp at q2
      have x2 : l_eqStepS_1 a0 a1 (a0.length + 1) 0 = .inr () := by rw [← e1]; simp only [l_eqStepS_1, h2, cond_true, cond_false]
      simp
      refine retRd (rv := [.tmp 4]) rfl ?_
      have f3 : l_eqStepS a0 a1 = true := by simp only [l_eqStepS, h1, x2, cond_true, cond_false]
      simp [f3]
theorem l_eqStamp_ok (a0 : TStamp) (a1 : TStamp) : SoundAt Try.prog 58 false [a0.row, a1.row] [[.bool (l_eqStamp a0 a1)]] := by
  refine sound_of Try.func58 rfl (by kernel_rfl) ?_
  simp [Try.ntmps58]
  refine condB (fun k1 q1 => ?_) (fun k1 q1 => ?_)
  · have h1 : (a0.Authority != a1.Authority) = true := by simpa using q1
    try simp at q1
    simp
    refine retRd (rv := [.tmp 4]) rfl ?_
    have f1 : l_eqStamp a0 a1 = false := by simp only [l_eqStamp, h1, cond_true, cond_false]
    simp [f1]
  · have h1 : (a0.Authority != a1.Authority) = false := by simpa using q1
    try simp at q1
    simp
    refine condB (fun k2 q2 => ?_) (fun k2 q2 => ?_)
    · have h2 : (a0.Seq != a1.Seq) = true := by simpa using q2
      try simp at q2
      simp
      refine retRd (rv := [.tmp 4]) rfl ?_
      have f2 : l_eqStamp a0 a1 = false := by simp only [l_eqStamp, h1, h2, cond_true, cond_false]
      simp [f2]
    · have h2 : (a0.Seq != a1.Seq) = false := by simpa using q2
      try simp at q2
      simp
      refine condB (fun k3 q3 => ?_) (fun k3 q3 => ?_)
      · have h3 : (a0.Time != a1.Time) = true := by simpa using q3
        try simp at q3
        simp
        refine retRd (rv := [.tmp 4]) rfl ?_
        have f3 : l_eqStamp a0 a1 = false := by simp only [l_eqStamp, h1, h2, h3, cond_true, cond_false]
        simp [f3]
      · have h3 : (a0.Time != a1.Time) = false := by simpa using q3
        try simp at q3
        simp
        refine condB (fun k4 q4 => ?_) (fun k4 q4 => ?_)
        · have h4 : (a0.Digest != a1.Digest) = true := by simpa using q4
          try simp at q4
          simp
          refine retRd (rv := [.tmp 4]) rfl ?_
          have f4 : l_eqStamp a0 a1 = false := by simp only [l_eqStamp, h1, h2, h3, h4, cond_true, cond_false]
          simp [f4]
        · have h4 : (a0.Digest != a1.Digest) = false := by simpa using q4
          try simp at q4
          simp
          refine condB (fun k5 q5 => ?_) (fun k5 q5 => ?_)
          · have h5 : (a0.Mark != a1.Mark) = true := by simpa using q5
            try simp at q5
            simp
            refine retRd (rv := [.tmp 4]) rfl ?_
            have f5 : l_eqStamp a0 a1 = false := by simp only [l_eqStamp, h1, h2, h3, h4, h5, cond_true, cond_false]
            simp [f5]
          · have h5 : (a0.Mark != a1.Mark) = false := by simpa using q5
            try simp at q5
            simp
            refine retRd (rv := [.tmp 4]) rfl ?_
            have f6 : l_eqStamp a0 a1 = true := by simp only [l_eqStamp, h1, h2, h3, h4, h5, cond_true, cond_false]
            simp [f6]
theorem l_eqStampS_ok (a0 : List TStamp) (a1 : List TStamp) : SoundAt Try.prog 52 false [[.sl 5 (a0.map TStamp.row)], [.sl 5 (a1.map TStamp.row)]] [[.bool (l_eqStampS a0 a1)]] := by
  refine sound_of Try.func52 rfl (by kernel_rfl) ?_
  simp [Try.ntmps52]
  refine condB (fun k1 q1 => ?_) (fun k1 q1 => ?_)
  · have h1 : ((↑a0.length : Int) != (↑a1.length : Int)) = true := by simpa using q1
    try simp at q1
    simp
    refine retRd (rv := [.tmp 4]) rfl ?_
    have f1 : l_eqStampS a0 a1 = false := by simp only [l_eqStampS, h1, cond_true, cond_false]
    simp [f1]
  · have h1 : ((↑a0.length : Int) != (↑a1.length : Int)) = false := by simpa using q1
    try simp at q1
    simp
    refine okL fun k2 => ?_
    refine loopI (ι := { s : Nat × Nat // l_eqStampS_1 a0 a1 s.1 s.2 = l_eqStampS_1 a0 a1 (a0.length + 1) 0 ∧ (1 ≤ s.1 ∧ a0.length < s.1 + s.2) }) (fun s => stOf 27 [(0, .one (.d (.sl 5 (a0.map TStamp.row))), []), (1, .one (.d (.sl 5 (a1.map TStamp.row))), []), (5, .one (.d (.int .i64 (↑s.1.2 : Int))), [])]) (fun s => s.1.1) ⟨((a0.length + 1), 0), rfl, by first | omega | (dsimp only; omega) | simp⟩ (wk_keep (by simp)) ?_
    rintro ⟨⟨n1, v1_0⟩, e1, j1⟩
    try dsimp only at e1 j1
    obtain ⟨p1, rfl⟩ : ∃ p, n1 = p + 1 := ⟨n1 - 1, by omega⟩
    simp
    refine condB (fun k3 q2 => ?_) (fun k3 q2 => ?_)
    · have h2 : (decide ((↑v1_0 : Int) < (↑a0.length : Int))) = true := by simpa using q2
      have i1 : v1_0 < a0.length := by simpa using q2
      have m2 : a0.length ≤ 9223372036854775807 := by simpa using k3 0 _ rfl
      have w1 : IntKind.i64.wrap ((v1_0 : Int) + 1) = (v1_0 : Int) + 1 := wrap_of (by omega) (by omega)
      try simp at q2
      simp
      refine okD fun k4 => ?_
      refine drawI mixed (by kernel_rfl) (by kernel_rfl) ?_
      have i2 : v1_0 < a1.length := by omega
      simp [i1, rowAt_map, i2]
      repeat (refine ⟨by intros; omega, ?_⟩)
      refine callRd rfl rfl rfl rfl (l_eqStamp_ok (nth a0 v1_0) (nth a1 v1_0)) (by simp) (by simp) (by simp) ?_
      simp
      refine condB (fun k5 q3 => ?_) (fun k5 q3 => ?_)
      · have h3 : (!(l_eqStamp (nth a0 v1_0) (nth a1 v1_0))) = true := by simpa using q3
        try simp at q3
        have x1 : l_eqStampS_1 a0 a1 (a0.length + 1) 0 = .inl false := by rw [← e1]; simp only [l_eqStampS_1, h2, h3, cond_true, cond_false]
        simp
        refine retRd (rv := [.tmp 4]) rfl ?_
        have f2 : l_eqStampS a0 a1 = false := by simp only [l_eqStampS, h1, x1, cond_true, cond_false]
        simp [f2]
      · have h3 : (!(l_eqStamp (nth a0 v1_0) (nth a1 v1_0))) = false := by simpa using q3
        try simp at q3
        simp
        refine nxtI ⟨(p1, (v1_0 + 1)), ?_, ?_⟩ (by simp) (wk_keep (by simp [w1]))
        · rw [← e1]; simp only [l_eqStampS_1, h2, h3, cond_true, cond_false]
        · first | omega | (simp at *; omega)
    · have h2 : (decide ((↑v1_0 : Int) < (↑a0.length : Int))) = false := by simpa using q2
      try simp at q2
      have x2 : l_eqStampS_1 a0 a1 (a0.length + 1) 0 = .inr () := by rw [← e1]; simp only [l_eqStampS_1, h2, cond_true, cond_false]
      simp
      refine retRd (rv := [.tmp 4]) rfl ?_
      have f3 : l_eqStampS a0 a1 = true := by simp only [l_eqStampS, h1, x2, cond_true, cond_false]
      simp [f3]
theorem l_eqRenewal_ok (a0 : TRenewal) (a1 : TRenewal) : SoundAt Try.prog 31 false [a0.row, a1.row] [[.bool (l_eqRenewal a0 a1)]] := by
  refine sound_of Try.func31 rfl (by kernel_rfl) ?_
  simp [Try.ntmps31]
  refine condB (fun k1 q1 => ?_) (fun k1 q1 => ?_)
  · have h1 : (a0.Count != a1.Count) = true := by simpa using q1
    try simp at q1
    simp
    refine retRd (rv := [.tmp 4]) rfl ?_
    have f1 : l_eqRenewal a0 a1 = false := by simp only [l_eqRenewal, h1, cond_true, cond_false]
    simp [f1]
  · have h1 : (a0.Count != a1.Count) = false := by simpa using q1
    try simp at q1
    simp
    refine condB (fun k2 q2 => ?_) (fun k2 q2 => ?_)
    · have h2 : (a0.Method != a1.Method) = true := by simpa using q2
      try simp at q2
      simp
      refine retRd (rv := [.tmp 4]) rfl ?_
      have f2 : l_eqRenewal a0 a1 = false := by simp only [l_eqRenewal, h1, h2, cond_true, cond_false]
      simp [f2]
    · have h2 : (a0.Method != a1.Method) = false := by simpa using q2
      try simp at q2
      simp
      refine condB (fun k3 q3 => ?_) (fun k3 q3 => ?_)
      · have h3 : (a0.Root != a1.Root) = true := by simpa using q3
        try simp at q3
        simp
        refine retRd (rv := [.tmp 4]) rfl ?_
        have f3 : l_eqRenewal a0 a1 = false := by simp only [l_eqRenewal, h1, h2, h3, cond_true, cond_false]
        simp [f3]
      · have h3 : (a0.Root != a1.Root) = false := by simpa using q3
        try simp at q3
        simp
        refine callRd rfl rfl rfl rfl (l_eqStepS_ok a0.Path a1.Path) (by simp) (by simp) (by simp) ?_
        simp
        refine condB (fun k4 q4 => ?_) (fun k4 q4 => ?_)
        · have h4 : (!(l_eqStepS a0.Path a1.Path)) = true := by simpa using q4
          try simp at q4
          simp
          refine retRd (rv := [.tmp 4]) rfl ?_
          have f4 : l_eqRenewal a0 a1 = false := by simp only [l_eqRenewal, h1, h2, h3, h4, cond_true, cond_false]
          simp [f4]
        · have h4 : (!(l_eqStepS a0.Path a1.Path)) = false := by simpa using q4
          try simp at q4
          simp
          refine callRd rfl rfl rfl rfl (l_eqStampS_ok a0.Stamps a1.Stamps) (by simp) (by simp) (by simp) ?_
          simp
          refine condB (fun k5 q5 => ?_) (fun k5 q5 => ?_)
          · have h5 : (!(l_eqStampS a0.Stamps a1.Stamps)) = true := by simpa using q5
            try simp at q5
            simp
            refine retRd (rv := [.tmp 4]) rfl ?_
            have f5 : l_eqRenewal a0 a1 = false := by simp only [l_eqRenewal, h1, h2, h3, h4, h5, cond_true, cond_false]
            simp [f5]
          · have h5 : (!(l_eqStampS a0.Stamps a1.Stamps)) = false := by simpa using q5
            try simp at q5
            simp
            refine retRd (rv := [.tmp 4]) rfl ?_
            have f6 : l_eqRenewal a0 a1 = true := by simp only [l_eqRenewal, h1, h2, h3, h4, h5, cond_true, cond_false]
            simp [f6]
theorem l_FnExactRenewalSize_ok (a0 : TRenewal) (t0 : Sm maxLen a0) : SoundAt Try.prog 8 false [a0.row] [[.bool (l_FnExactRenewalSize a0)]] := by
  refine sound_of Try.func8 rfl (by kernel_rfl) ?_
  simp [Try.ntmps8]
  refine callRd rfl rfl rfl rfl (l_szRenewal_ok a0 1048576) (by simp) (by simp) (by simp) ?_
  simp
  refine condB (fun k1 q1 => ?_) (fun k1 q1 => ?_)
  · have h1 : (decide ((l_szRenewal a0 1048576) < 0)) = true := by simpa using q1
    try simp at q1
    simp
    refine retRd (rv := [.tmp 2]) rfl ?_
    have f1 : l_FnExactRenewalSize a0 = true := by simp only [l_FnExactRenewalSize, h1, cond_true, cond_false]
    simp [f1]
  · have h1 : (decide ((l_szRenewal a0 1048576) < 0)) = false := by simpa using q1
    try simp at q1
    obtain ⟨u0, y0⟩ := l_szRenewal_sm a0 1048576 t0 (by omega) (by omega) (by simpa using h1)
    simp
    refine callRd rfl rfl rfl rfl (l_toRenewal_ok a0 (sm_mono (n := 1048576) (by decide) (by simp [u0, l_toDocument_id, l_toEvent_id, l_toEventS_id, l_toIntS_id, l_toRenewal_id, l_toStamp_id, l_toStampS_id, l_toStep_id, l_toStepS_id, l_toStringS_id]))) (by simp) (by simp) (by simp) ?_
    simp
    refine callRd rfl rfl rfl rfl (s_RenewalSize_ok (l_toRenewal a0)) (by simp) (by simp) (by simp) ?_
    simp
    refine callRd rfl rfl rfl rfl (l_toRenewal_ok a0 (sm_mono (n := 1048576) (by decide) (by simp [u0, l_toDocument_id, l_toEvent_id, l_toEventS_id, l_toIntS_id, l_toRenewal_id, l_toStamp_id, l_toStampS_id, l_toStep_id, l_toStepS_id, l_toStringS_id]))) (by simp) (by simp) (by simp) ?_
    simp
    refine callRd rfl rfl rfl rfl (i_RenewalSize_ok (l_toRenewal a0)) (by simp) (by simp) (by simp) ?_
    simp
    refine condB (fun k2 q2 => ?_) (fun k2 q2 => ?_)
    · have h2 : ((i_RenewalSize (l_toRenewal a0)) != (s_RenewalSize (l_toRenewal a0))) = true := by simpa using q2
      try simp at q2
      simp
      refine retRd (rv := [.tmp 2]) rfl ?_
      have f2 : l_FnExactRenewalSize a0 = false := by simp only [l_FnExactRenewalSize, h1, h2, cond_true, cond_false]
      simp [f2]
    · have h2 : ((i_RenewalSize (l_toRenewal a0)) != (s_RenewalSize (l_toRenewal a0))) = false := by simpa using q2
      try simp at q2
      simp
      refine okD fun k3 => ?_
      refine drawI mixed (by kernel_rfl) (by kernel_rfl) ?_
      simp
      refine callRd rfl rfl rfl rfl (l_toRenewal_ok a0 (sm_mono (n := 1048576) (by decide) (by simp [u0, l_toDocument_id, l_toEvent_id, l_toEventS_id, l_toIntS_id, l_toRenewal_id, l_toStamp_id, l_toStampS_id, l_toStep_id, l_toStepS_id, l_toStringS_id]))) (by simp) (by simp) (by simp) ?_
      simp
      refine callRd rfl rfl rfl rfl (l_eqRenewal_ok (l_toRenewal a0) (l_toRenewal a0)) (by simp) (by simp) (by simp) ?_
      simp
      refine condB (fun k4 q3 => ?_) (fun k4 q3 => ?_)
      · have h3 : (!(l_eqRenewal (l_toRenewal a0) (l_toRenewal a0))) = true := by simpa using q3
        try simp at q3
        simp
        refine retRd (rv := [.tmp 2]) rfl ?_
        have f3 : l_FnExactRenewalSize a0 = false := by simp only [l_FnExactRenewalSize, h1, h2, h3, cond_true, cond_false]
        simp [f3]
      · have h3 : (!(l_eqRenewal (l_toRenewal a0) (l_toRenewal a0))) = false := by simpa using q3
        try simp at q3
        simp
        refine retRd (rv := [.tmp 2]) rfl ?_
        have f4 : l_FnExactRenewalSize a0 = true := by simp only [l_FnExactRenewalSize, h1, h2, h3, cond_true, cond_false]
        simp [f4]
theorem l_szStringS_ok (a0 : List ByteArray) (a1 : Int) : SoundAt Try.prog 65 false [[.sl 1 (a0.map sR)], [.int .i64 a1]] [[.int .i64 (l_szStringS a0 a1)]] := by
  refine sound_of Try.func65 rfl (by kernel_rfl) ?_
  simp [Try.ntmps65]
  refine condB (fun k1 q1 => ?_) (fun k1 q1 => ?_)
  · have h1 : (decide ((W (a1 - (↑a0.length : Int))) < 0)) = true := by simpa using q1
    try simp at q1
    simp
    refine retRd (rv := [.tmp 4]) rfl ?_
    have f1 : l_szStringS a0 a1 = (-1) := by simp only [l_szStringS, h1, cond_true, cond_false]
    simp [f1]
  · have h1 : (decide ((W (a1 - (↑a0.length : Int))) < 0)) = false := by simpa using q1
    try simp at q1
    simp
    refine okL fun k2 => ?_
    refine loopI (ι := { s : Nat × Int × Nat // l_szStringS_1 a0 s.1 s.2.1 s.2.2 = l_szStringS_1 a0 (a0.length + 1) (W (a1 - (↑a0.length : Int))) 0 ∧ (1 ≤ s.1 ∧ a0.length < s.1 + s.2.2) }) (fun s => stOf 28 [(0, .one (.d (.sl 1 (a0.map sR))), []), (1, .one (.d (.int .i64 s.1.2.1)), []), (5, .one (.d (.int .i64 (↑s.1.2.2 : Int))), [])]) (fun s => s.1.1) ⟨((a0.length + 1), (W (a1 - (↑a0.length : Int))), 0), rfl, by first | omega | (dsimp only; omega) | simp⟩ (wk_keep (by simp)) ?_
    rintro ⟨⟨n1, v1_0, v1_1⟩, e1, j1⟩
    try dsimp only at e1 j1
    obtain ⟨p1, rfl⟩ : ∃ p, n1 = p + 1 := ⟨n1 - 1, by omega⟩
    simp
    refine condB (fun k3 q2 => ?_) (fun k3 q2 => ?_)
    · have h2 : (decide ((↑v1_1 : Int) < (↑a0.length : Int))) = true := by simpa using q2
      have i1 : v1_1 < a0.length := by simpa using q2
      have m2 : a0.length ≤ 9223372036854775807 := by simpa using k3 0 _ rfl
      have w1 : IntKind.i64.wrap ((v1_1 : Int) + 1) = (v1_1 : Int) + 1 := wrap_of (by omega) (by omega)
      try simp at q2
      simp [i1, rowAt_map]
      repeat (refine ⟨by intros; omega, ?_⟩)
      refine condB (fun k4 q3 => ?_) (fun k4 q3 => ?_)
      · have h3 : (decide ((W (v1_0 - (↑(nth a0 v1_1).size : Int))) < 0)) = true := by simpa using q3
        try simp at q3
        have x1 : l_szStringS_1 a0 (a0.length + 1) (W (a1 - (↑a0.length : Int))) 0 = .inl (-1) := by rw [← e1]; simp only [l_szStringS_1, h2, h3, cond_true, cond_false]
        simp
        refine retRd (rv := [.tmp 4]) rfl ?_
        have f2 : l_szStringS a0 a1 = (-1) := by simp only [l_szStringS, h1, x1, cond_true, cond_false]
        simp [f2]
      · have h3 : (decide ((W (v1_0 - (↑(nth a0 v1_1).size : Int))) < 0)) = false := by simpa using q3
        try simp at q3
        simp
        refine nxtI ⟨(p1, (W (v1_0 - (↑(nth a0 v1_1).size : Int))), (v1_1 + 1)), ?_, ?_⟩ (by simp) (wk_keep (by simp [w1]))
        · rw [← e1]; simp only [l_szStringS_1, h2, h3, cond_true, cond_false]
        · first | omega | (simp at *; omega)
    · have h2 : (decide ((↑v1_1 : Int) < (↑a0.length : Int))) = false := by simpa using q2
      try simp at q2
      have x2 : l_szStringS_1 a0 (a0.length + 1) (W (a1 - (↑a0.length : Int))) 0 = .inr v1_0 := by rw [← e1]; simp only [l_szStringS_1, h2, cond_true, cond_false]
      simp
      refine retRd (rv := [.tmp 4]) rfl ?_
      have f3 : l_szStringS a0 a1 = v1_0 := by simp only [l_szStringS, h1, x2, cond_true, cond_false]
      simp [f3]
theorem l_szIntS_ok (a0 : List Int) (a1 : Int) : SoundAt Try.prog 60 false [[.sl 1 (a0.map iR)], [.int .i64 a1]] [[.int .i64 (l_szIntS a0 a1)]] := by
  refine sound_of Try.func60 rfl (by kernel_rfl) ?_
  simp [Try.ntmps60]
  refine condB (fun k1 q1 => ?_) (fun k1 q1 => ?_)
  · have h1 : (decide ((W (a1 - (↑a0.length : Int))) < 0)) = true := by simpa using q1
    try simp at q1
    simp
    refine retRd (rv := [.tmp 4]) rfl ?_
    have f1 : l_szIntS a0 a1 = (-1) := by simp only [l_szIntS, h1, cond_true, cond_false]
    simp [f1]
  · have h1 : (decide ((W (a1 - (↑a0.length : Int))) < 0)) = false := by simpa using q1
    try simp at q1
    simp
    refine retRd (rv := [.tmp 4]) rfl ?_
    have f2 : l_szIntS a0 a1 = (W (a1 - (↑a0.length : Int))) := by simp only [l_szIntS, h1, cond_true, cond_false]
    simp [f2]
theorem l_szDocument_ok (a0 : TDocument) (a1 : Int) : SoundAt Try.prog 59 false [a0.row, [.int .i64 a1]] [[.int .i64 (l_szDocument a0 a1)]] := by
  refine sound_of Try.func59 rfl (by kernel_rfl) ?_
  simp [Try.ntmps59]
  refine callRd rfl rfl rfl rfl (l_szStringS_ok a0.Parts a1) (by simp) (by simp) (by simp) ?_
  simp
  refine condB (fun k1 q1 => ?_) (fun k1 q1 => ?_)
  · have h1 : (decide ((l_szStringS a0.Parts a1) < 0)) = true := by simpa using q1
    try simp at q1
    simp
    refine retRd (rv := [.tmp 4]) rfl ?_
    have f1 : l_szDocument a0 a1 = (-1) := by simp only [l_szDocument, h1, cond_true, cond_false]
    simp [f1]
  · have h1 : (decide ((l_szStringS a0.Parts a1) < 0)) = false := by simpa using q1
    try simp at q1
    simp
    refine callRd rfl rfl rfl rfl (l_szIntS_ok a0.Salts (l_szStringS a0.Parts a1)) (by simp) (by simp) (by simp) ?_
    simp
    refine condB (fun k2 q2 => ?_) (fun k2 q2 => ?_)
    · have h2 : (decide ((l_szIntS a0.Salts (l_szStringS a0.Parts a1)) < 0)) = true := by simpa using q2
      try simp at q2
      simp
      refine retRd (rv := [.tmp 4]) rfl ?_
      have f2 : l_szDocument a0 a1 = (-1) := by simp only [l_szDocument, h1, h2, cond_true, cond_false]
      simp [f2]
    · have h2 : (decide ((l_szIntS a0.Salts (l_szStringS a0.Parts a1)) < 0)) = false := by simpa using q2
      try simp at q2
      simp
      refine retRd (rv := [.tmp 4]) rfl ?_
      have f3 : l_szDocument a0 a1 = (l_szIntS a0.Salts (l_szStringS a0.Parts a1)) := by simp only [l_szDocument, h1, h2, cond_true, cond_false]
      simp [f3]
theorem l_szEvent_ok (a0 : TEvent) (a1 : Int) : SoundAt Try.prog 53 false [a0.row, [.int .i64 a1]] [[.int .i64 (l_szEvent a0 a1)]] := by
  refine sound_of Try.func53 rfl (by kernel_rfl) ?_
  simp [Try.ntmps53]
  refine callRd rfl rfl rfl rfl (l_szDocument_ok a0.Doc a1) (by simp) (by simp) (by simp) ?_
  simp
  refine condB (fun k1 q1 => ?_) (fun k1 q1 => ?_)
  · have h1 : (decide ((l_szDocument a0.Doc a1) < 0)) = true := by simpa using q1
    try simp at q1
    simp
    refine retRd (rv := [.tmp 4]) rfl ?_
    have f1 : l_szEvent a0 a1 = (-1) := by simp only [l_szEvent, h1, cond_true, cond_false]
    simp [f1]
  · have h1 : (decide ((l_szDocument a0.Doc a1) < 0)) = false := by simpa using q1
    try simp at q1
    simp
    refine callRd rfl rfl rfl rfl (l_szIntS_ok a0.Ids (l_szDocument a0.Doc a1)) (by simp) (by simp) (by simp) ?_
    simp
    refine condB (fun k2 q2 => ?_) (fun k2 q2 => ?_)
    · have h2 : (decide ((l_szIntS a0.Ids (l_szDocument a0.Doc a1)) < 0)) = true := by simpa using q2
      try simp at q2
      simp
      refine retRd (rv := [.tmp 4]) rfl ?_
      have f2 : l_szEvent a0 a1 = (-1) := by simp only [l_szEvent, h1, h2, cond_true, cond_false]
      simp [f2]
    · have h2 : (decide ((l_szIntS a0.Ids (l_szDocument a0.Doc a1)) < 0)) = false := by simpa using q2
      try simp at q2
      simp
      refine retRd (rv := [.tmp 4]) rfl ?_
      have f3 : l_szEvent a0 a1 = (l_szIntS a0.Ids (l_szDocument a0.Doc a1)) := by simp only [l_szEvent, h1, h2, cond_true, cond_false]
      simp [f3]
theorem l_szEventS_ok (a0 : List TEvent) (a1 : Int) : SoundAt Try.prog 32 false [[.sl 9 (a0.map TEvent.row)], [.int .i64 a1]] [[.int .i64 (l_szEventS a0 a1)]] := by
  refine sound_of Try.func32 rfl (by kernel_rfl) ?_
  simp [Try.ntmps32]
  refine condB (fun k1 q1 => ?_) (fun k1 q1 => ?_)
  · have h1 : (decide ((W (a1 - (↑a0.length : Int))) < 0)) = true := by simpa using q1
    try simp at q1
    simp
    refine retRd (rv := [.tmp 4]) rfl ?_
    have f1 : l_szEventS a0 a1 = (-1) := by simp only [l_szEventS, h1, cond_true, cond_false]
    simp [f1]
  · have h1 : (decide ((W (a1 - (↑a0.length : Int))) < 0)) = false := by simpa using q1
    try simp at q1
    simp
    refine okL fun k2 => ?_
    refine loopI (ι := { s : Nat × Int × Nat // l_szEventS_1 a0 s.1 s.2.1 s.2.2 = l_szEventS_1 a0 (a0.length + 1) (W (a1 - (↑a0.length : Int))) 0 ∧ (1 ≤ s.1 ∧ a0.length < s.1 + s.2.2) }) (fun s => stOf 27 [(0, .one (.d (.sl 9 (a0.map TEvent.row))), []), (1, .one (.d (.int .i64 s.1.2.1)), []), (5, .one (.d (.int .i64 (↑s.1.2.2 : Int))), [])]) (fun s => s.1.1) ⟨((a0.length + 1), (W (a1 - (↑a0.length : Int))), 0), rfl, by first | omega | (dsimp only; omega) | simp⟩ (wk_keep (by simp)) ?_
    rintro ⟨⟨n1, v1_0, v1_1⟩, e1, j1⟩
    try dsimp only at e1 j1
    obtain ⟨p1, rfl⟩ : ∃ p, n1 = p + 1 := ⟨n1 - 1, by omega⟩
    simp
    refine condB (fun k3 q2 => ?_) (fun k3 q2 => ?_)
    · have h2 : (decide ((↑v1_1 : Int) < (↑a0.length : Int))) = true := by simpa using q2
      have i1 : v1_1 < a0.length := by simpa using q2
      have m2 : a0.length ≤ 9223372036854775807 := by simpa using k3 0 _ rfl
      have w1 : IntKind.i64.wrap ((v1_1 : Int) + 1) = (v1_1 : Int) + 1 := wrap_of (by omega) (by omega)
      try simp at q2
      simp [i1, rowAt_map]
      repeat (refine ⟨by intros; omega, ?_⟩)
      refine callRd rfl rfl rfl rfl (l_szEvent_ok (nth a0 v1_1) v1_0) (by simp) (by simp) (by simp) ?_
      simp
      refine condB (fun k4 q3 => ?_) (fun k4 q3 => ?_)
      · have h3 : (decide ((l_szEvent (nth a0 v1_1) v1_0) < 0)) = true := by simpa using q3
        try simp at q3
        have x1 : l_szEventS_1 a0 (a0.length + 1) (W (a1 - (↑a0.length : Int))) 0 = .inl (-1) := by rw [← e1]; simp only [l_szEventS_1, h2, h3, cond_true, cond_false]
        simp
        refine retRd (rv := [.tmp 4]) rfl ?_
        have f2 : l_szEventS a0 a1 = (-1) := by simp only [l_szEventS, h1, x1, cond_true, cond_false]
        simp [f2]
      · have h3 : (decide ((l_szEvent (nth a0 v1_1) v1_0) < 0)) = false := by simpa using q3
        try simp at q3
        simp
        refine nxtI ⟨(p1, (l_szEvent (nth a0 v1_1) v1_0), (v1_1 + 1)), ?_, ?_⟩ (by simp) (wk_keep (by simp [w1]))
        · rw [← e1]; simp only [l_szEventS_1, h2, h3, cond_true, cond_false]
        · first | omega | (simp at *; omega)
    · have h2 : (decide ((↑v1_1 : Int) < (↑a0.length : Int))) = false := by simpa using q2
      try simp at q2
      have x2 : l_szEventS_1 a0 (a0.length + 1) (W (a1 - (↑a0.length : Int))) 0 = .inr v1_0 := by rw [← e1]; simp only [l_szEventS_1, h2, cond_true, cond_false]
      simp
      refine retRd (rv := [.tmp 4]) rfl ?_
      have f3 : l_szEventS a0 a1 = v1_0 := by simp only [l_szEventS, h1, x2, cond_true, cond_false]
      simp [f3]
theorem l_toStringS_ok (a0 : List ByteArray) (u0 : Sm 68719476736 a0) : SoundAt Try.prog 66 true [[.sl 1 (a0.map sR)]] [[.sl 1 ((l_toStringS a0).map sR)]] := by
  refine sound_of Try.func66 rfl (by kernel_rfl) ?_
  have c1 : a0.length ≤ 68719476736 := sm_len (by simp [u0])
  simp [Try.ntmps66]
  repeat (refine ⟨by intros; omega, ?_⟩)
  refine okL fun k1 => ?_
  refine loopI (ι := { s : Nat × Nat × (List ByteArray) // l_toStringS_1 a0 s.1 s.2.1 s.2.2 = l_toStringS_1 a0 (a0.length + 1) 0 (List.replicate a0.length (⟨#[]⟩ : ByteArray)) ∧ (1 ≤ s.1 ∧ a0.length < s.1 + s.2.1 ∧ s.2.2.length = a0.length) }) (fun s => stOf 22 [(0, .one (.d (.sl 1 (a0.map sR))), []), (3, .one (.sref 7 0 0 s.1.2.2.length), []), (4, .one (.d (.int .i64 (↑s.1.2.1 : Int))), []), (7, .any, [.arr 1 (s.1.2.2.map sR)])]) (fun s => s.1.1) ⟨((a0.length + 1), 0, (List.replicate a0.length (⟨#[]⟩ : ByteArray))), rfl, by first | omega | (dsimp only; omega) | simp⟩ (wk_keep (by simp)) ?_
  rintro ⟨⟨n1, v1_0, v1_1⟩, e1, j1⟩
  try dsimp only at e1 j1
  obtain ⟨p1, rfl⟩ : ∃ p, n1 = p + 1 := ⟨n1 - 1, by omega⟩
  simp
  refine condB (fun k2 q1 => ?_) (fun k2 q1 => ?_)
  · have h1 : (decide ((↑v1_0 : Int) < (↑a0.length : Int))) = true := by simpa using q1
    have i1 : v1_0 < a0.length := by simpa using q1
    have m2 : a0.length ≤ 9223372036854775807 := by simpa using k2 0 _ rfl
    have w1 : IntKind.i64.wrap ((v1_0 : Int) + 1) = (v1_0 : Int) + 1 := wrap_of (by omega) (by omega)
    try simp at q1
    have i2 : v1_0 < v1_1.length := by omega
    simp [i1, rowAt_map, i2, set_map (x := (nth a0 v1_0)) rfl]
    repeat (refine ⟨by intros; omega, ?_⟩)
    refine nxtI ⟨(p1, (v1_0 + 1), (v1_1.set v1_0 (nth a0 v1_0))), ?_, ?_⟩ (by simp) (wk_keep (by simp [w1]))
    · rw [← e1]; simp only [l_toStringS_1, h1, cond_true, cond_false]
    · first | omega | (simp at *; omega)
  · have h1 : (decide ((↑v1_0 : Int) < (↑a0.length : Int))) = false := by simpa using q1
    try simp at q1
    have x1 : l_toStringS_1 a0 (a0.length + 1) 0 (List.replicate a0.length (⟨#[]⟩ : ByteArray)) = v1_1 := by rw [← e1]; simp only [l_toStringS_1, h1, cond_true, cond_false]
    simp
    refine retOwn (rv := [.tmp 2]) rfl ?_
    have f1 : l_toStringS a0 = v1_1 := by simp only [l_toStringS, x1, cond_true, cond_false]
    simp [f1]
theorem l_toIntS_ok (a0 : List Int) (u0 : Sm 68719476736 a0) : SoundAt Try.prog 62 true [[.sl 1 (a0.map iR)]] [[.sl 1 ((l_toIntS a0).map iR)]] := by
  refine sound_of Try.func62 rfl (by kernel_rfl) ?_
  have c1 : a0.length ≤ 68719476736 := sm_len (by simp [u0])
  simp [Try.ntmps62]
  repeat (refine ⟨by intros; omega, ?_⟩)
  refine okL fun k1 => ?_
  refine loopI (ι := { s : Nat × Nat × (List Int) // l_toIntS_1 a0 s.1 s.2.1 s.2.2 = l_toIntS_1 a0 (a0.length + 1) 0 (List.replicate a0.length 0) ∧ (1 ≤ s.1 ∧ a0.length < s.1 + s.2.1 ∧ s.2.2.length = a0.length) }) (fun s => stOf 22 [(0, .one (.d (.sl 1 (a0.map iR))), []), (3, .one (.sref 7 0 0 s.1.2.2.length), []), (4, .one (.d (.int .i64 (↑s.1.2.1 : Int))), []), (7, .any, [.arr 1 (s.1.2.2.map iR)])]) (fun s => s.1.1) ⟨((a0.length + 1), 0, (List.replicate a0.length 0)), rfl, by first | omega | (dsimp only; omega) | simp⟩ (wk_keep (by simp)) ?_
  rintro ⟨⟨n1, v1_0, v1_1⟩, e1, j1⟩
  try dsimp only at e1 j1
  obtain ⟨p1, rfl⟩ : ∃ p, n1 = p + 1 := ⟨n1 - 1, by omega⟩
  simp
  refine condB (fun k2 q1 => ?_) (fun k2 q1 => ?_)
  · have h1 : (decide ((↑v1_0 : Int) < (↑a0.length : Int))) = true := by simpa using q1
    have i1 : v1_0 < a0.length := by simpa using q1
    have m2 : a0.length ≤ 9223372036854775807 := by simpa using k2 0 _ rfl
    have w1 : IntKind.i64.wrap ((v1_0 : Int) + 1) = (v1_0 : Int) + 1 := wrap_of (by omega) (by omega)
    try simp at q1
    have i2 : v1_0 < v1_1.length := by omega
    simp [i1, rowAt_map, i2, set_map (x := (nth a0 v1_0)) rfl]
    repeat (refine ⟨by intros; omega, ?_⟩)
    refine nxtI ⟨(p1, (v1_0 + 1), (v1_1.set v1_0 (nth a0 v1_0))), ?_, ?_⟩ (by simp) (wk_keep (by simp [w1]))
    · rw [← e1]; simp only [l_toIntS_1, h1, cond_true, cond_false]
    · first | omega | (simp at *; omega)
  · have h1 : (decide ((↑v1_0 : Int) < (↑a0.length : Int))) = false := by simpa using q1
    try simp at q1
    have x1 : l_toIntS_1 a0 (a0.length + 1) 0 (List.replicate a0.length 0) = v1_1 := by rw [← e1]; simp only [l_toIntS_1, h1, cond_true, cond_false]
    simp
    refine retOwn (rv := [.tmp 2]) rfl ?_
    have f1 : l_toIntS a0 = v1_1 := by simp only [l_toIntS, x1, cond_true, cond_false]
    simp [f1]
theorem l_toDocument_ok (a0 : TDocument) (u0 : Sm 68719476736 a0) : SoundAt Try.prog 61 true [a0.row] [(l_toDocument a0).row] := by
  refine sound_of Try.func61 rfl (by kernel_rfl) ?_
  simp [Try.ntmps61]
  refine callOwn rfl rfl rfl rfl (l_toStringS_ok a0.Parts (by simp [u0])) (by simp) (by simp) (by simp) (by simp) ?_
  simp
  refine callOwn rfl rfl rfl rfl (l_toIntS_ok a0.Salts (by simp [u0])) (by simp) (by simp) (by simp) (by simp) ?_
  simp
  refine retOwn (rv := [.cell 2 83]) rfl ?_
  have f1 : l_toDocument a0 = (TDocument.mk a0.Title (l_toStringS a0.Parts) (l_toIntS a0.Salts)) := by simp only [l_toDocument, cond_true, cond_false]
  simp [f1]
theorem l_toEvent_ok (a0 : TEvent) (u0 : Sm 68719476736 a0) : SoundAt Try.prog 54 true [a0.row] [(l_toEvent a0).row] := by
  refine sound_of Try.func54 rfl (by kernel_rfl) ?_
  simp [Try.ntmps54]
  refine callOwn rfl rfl rfl rfl (l_toDocument_ok a0.Doc (by simp [u0])) (by simp) (by simp) (by simp) (by simp) ?_
  simp
  refine callOwn rfl rfl rfl rfl (l_toIntS_ok a0.Ids (by simp [u0])) (by simp) (by simp) (by simp) (by simp) ?_
  simp
  refine retOwn (rv := [.cell 2 85]) rfl ?_
  have f1 : l_toEvent a0 = (TEvent.mk a0.Kind a0.A a0.B a0.C a0.D (TDocument.mk (l_toDocument a0.Doc).Title (l_toDocument a0.Doc).Parts (l_toDocument a0.Doc).Salts) (l_toIntS a0.Ids)) := by simp only [l_toEvent, cond_true, cond_false]
  simp [f1]
theorem l_toEventS_ok (a0 : List TEvent) (u0 : Sm 68719476736 a0) : SoundAt Try.prog 34 true [[.sl 9 (a0.map TEvent.row)]] [[.sl 9 ((l_toEventS a0).map TEvent.row)]] := by
  refine sound_of Try.func34 rfl (by kernel_rfl) ?_
  have c1 : a0.length ≤ 68719476736 := sm_len (by simp [u0])
  simp [Try.ntmps34]
  repeat (refine ⟨by intros; omega, ?_⟩)
  refine okL fun k1 => ?_
  refine loopI (ι := { s : Nat × Nat × (List TEvent) // l_toEventS_1 a0 s.1 s.2.1 s.2.2 = l_toEventS_1 a0 (a0.length + 1) 0 (List.replicate a0.length (TEvent.mk 0 0 0 0 0 (TDocument.mk 0 ([] : List ByteArray) ([] : List Int)) ([] : List Int))) ∧ (1 ≤ s.1 ∧ a0.length < s.1 + s.2.1 ∧ s.2.2.length = a0.length) }) (fun s => stOf 23 [(0, .one (.d (.sl 9 (a0.map TEvent.row))), []), (3, .one (.sref 7 0 0 s.1.2.2.length), []), (4, .one (.d (.int .i64 (↑s.1.2.1 : Int))), []), (7, .any, [.arr 9 (s.1.2.2.map TEvent.row)])]) (fun s => s.1.1) ⟨((a0.length + 1), 0, (List.replicate a0.length (TEvent.mk 0 0 0 0 0 (TDocument.mk 0 ([] : List ByteArray) ([] : List Int)) ([] : List Int)))), rfl, by first | omega | (dsimp only; omega) | simp⟩ (wk_keep (by simp)) ?_
  rintro ⟨⟨n1, v1_0, v1_1⟩, e1, j1⟩
  try dsimp only at e1 j1
  obtain ⟨p1, rfl⟩ : ∃ p, n1 = p + 1 := ⟨n1 - 1, by omega⟩
  simp
  refine condB (fun k2 q1 => ?_) (fun k2 q1 => ?_)
  · have h1 : (decide ((↑v1_0 : Int) < (↑a0.length : Int))) = true := by simpa using q1
    have i1 : v1_0 < a0.length := by simpa using q1
    have m2 : a0.length ≤ 9223372036854775807 := by simpa using k2 0 _ rfl
    have w1 : IntKind.i64.wrap ((v1_0 : Int) + 1) = (v1_0 : Int) + 1 := wrap_of (by omega) (by omega)
    try simp at q1
    simp [i1, rowAt_map]
    repeat (refine ⟨by intros; omega, ?_⟩)
    refine callRd rfl rfl rfl rfl (l_toEvent_ok (nth a0 v1_0) (by simp [u0])) (by simp) (by simp) (by simp) ?_
    have i2 : v1_0 < v1_1.length := by omega
    simp [i2, rowAt_map, set_map (x := (l_toEvent (nth a0 v1_0))) rfl]
    repeat (refine ⟨by intros; omega, ?_⟩)
    refine nxtI ⟨(p1, (v1_0 + 1), (v1_1.set v1_0 (l_toEvent (nth a0 v1_0)))), ?_, ?_⟩ (by simp) (wk_keep (by simp [w1]))
    · rw [← e1]; simp only [l_toEventS_1, h1, cond_true, cond_false]
    · first | omega | (simp at *; omega)
  · have h1 : (decide ((↑v1_0 : Int) < (↑a0.length : Int))) = false := by simpa using q1
    try simp at q1
    have x1 : l_toEventS_1 a0 (a0.length + 1) 0 (List.replicate a0.length (TEvent.mk 0 0 0 0 0 (TDocument.mk 0 ([] : List ByteArray) ([] : List Int)) ([] : List Int))) = v1_1 := by rw [← e1]; simp only [l_toEventS_1, h1, cond_true, cond_false]
    simp
    refine retOwn (rv := [.tmp 2]) rfl ?_
    have f1 : l_toEventS a0 = v1_1 := by simp only [l_toEventS, x1, cond_true, cond_false]
    simp [f1]
theorem s_CountKind_ok (a0 : List TEvent) (a1 : Int) : SoundAt Try.prog 33 false [[.sl 9 (a0.map TEvent.row)], [.int .i64 a1]] [[.int .i64 (s_CountKind a0 a1)]] := by
  refine sound_of Try.func33 rfl (by kernel_rfl) ?_
  simp [Try.ntmps33]
  refine okL fun k1 => ?_
  refine loopI (ι := { s : Nat × Int × Nat // s_CountKind_1 a0 a1 s.1 s.2.1 s.2.2 = s_CountKind_1 a0 a1 (a0.length + 1) 0 0 ∧ (1 ≤ s.1 ∧ a0.length < s.1 + s.2.2) }) (fun s => stOf 23 [(0, .one (.d (.sl 9 (a0.map TEvent.row))), []), (1, .one (.d (.int .i64 a1)), []), (5, .one (.d (.int .i64 s.1.2.1)), []), (6, .one (.d (.int .i64 (↑s.1.2.2 : Int))), [])]) (fun s => s.1.1) ⟨((a0.length + 1), 0, 0), rfl, by first | omega | (dsimp only; omega) | simp⟩ (wk_keep (by simp)) ?_
  rintro ⟨⟨n1, v1_0, v1_1⟩, e1, j1⟩
  try dsimp only at e1 j1
  obtain ⟨p1, rfl⟩ : ∃ p, n1 = p + 1 := ⟨n1 - 1, by omega⟩
  simp
  refine condB (fun k2 q1 => ?_) (fun k2 q1 => ?_)
  · have h1 : (decide ((↑v1_1 : Int) < (↑a0.length : Int))) = true := by simpa using q1
    have i1 : v1_1 < a0.length := by simpa using q1
    have m2 : a0.length ≤ 9223372036854775807 := by simpa using k2 0 _ rfl
    have w1 : IntKind.i64.wrap ((v1_1 : Int) + 1) = (v1_1 : Int) + 1 := wrap_of (by omega) (by omega)
    try simp at q1
    simp [i1, rowAt_map]
    repeat (refine ⟨by intros; omega, ?_⟩)
    refine condB (fun k3 q2 => ?_) (fun k3 q2 => ?_)
    · have h2 : ((nth a0 v1_1).Kind == a1) = true := by simpa using q2
      try simp at q2
      simp
      refine nxtI ⟨(p1, (W (v1_0 + 1)), (v1_1 + 1)), ?_, ?_⟩ (by simp) (wk_keep (by simp [w1]))
      · rw [← e1]; simp only [s_CountKind_1, h1, h2, cond_true, cond_false]
      · first | omega | (simp at *; omega)
    · have h2 : ((nth a0 v1_1).Kind == a1) = false := by simpa using q2
      try simp at q2
      simp
      refine nxtI ⟨(p1, v1_0, (v1_1 + 1)), ?_, ?_⟩ (by simp) (wk_keep (by simp [w1]))
      · rw [← e1]; simp only [s_CountKind_1, h1, h2, cond_true, cond_false]
      · first | omega | (simp at *; omega)
  · have h1 : (decide ((↑v1_1 : Int) < (↑a0.length : Int))) = false := by simpa using q1
    try simp at q1
    have x1 : s_CountKind_1 a0 a1 (a0.length + 1) 0 0 = v1_0 := by rw [← e1]; simp only [s_CountKind_1, h1, cond_true, cond_false]
    simp
    refine retRd (rv := [.tmp 4]) rfl ?_
    have f1 : s_CountKind a0 a1 = v1_0 := by simp only [s_CountKind, x1, cond_true, cond_false]
    simp [f1]
theorem i_CountKind_ok (a0 : List TEvent) (a1 : Int) : SoundAt Try.prog 35 false [[.sl 9 (a0.map TEvent.row)], [.int .i64 a1]] [[.int .i64 (i_CountKind a0 a1)]] := by
  refine sound_of Try.func35 rfl (by kernel_rfl) ?_
  simp [Try.ntmps35]
  refine okL fun k1 => ?_
  refine loopI (ι := { s : Nat × Int × Nat // i_CountKind_1 a0 a1 s.1 s.2.1 s.2.2 = i_CountKind_1 a0 a1 (a0.length + 1) 0 0 ∧ (1 ≤ s.1 ∧ a0.length < s.1 + s.2.2) }) (fun s => stOf 22 [(1, .one (.d (.int .i64 a1)), []), (5, .one (.d (.int .i64 s.1.2.1)), []), (8, .one (.d (.sl 9 (a0.map TEvent.row))), []), (9, .one (.d (.int .i64 (↑a0.length : Int))), []), (10, .one (.d (.int .i64 (↑s.1.2.2 : Int))), [])]) (fun s => s.1.1) ⟨((a0.length + 1), 0, 0), rfl, by first | omega | (dsimp only; omega) | simp⟩ (wk_keep (by simp)) ?_
  rintro ⟨⟨n1, v1_0, v1_1⟩, e1, j1⟩
  try dsimp only at e1 j1
  obtain ⟨p1, rfl⟩ : ∃ p, n1 = p + 1 := ⟨n1 - 1, by omega⟩
  simp
  refine condB (fun k2 q1 => ?_) (fun k2 q1 => ?_)
  · have h1 : (decide ((↑v1_1 : Int) < (↑a0.length : Int))) = true := by simpa using q1
    have i1 : v1_1 < a0.length := by simpa using q1
    have m2 : a0.length ≤ 9223372036854775807 := by simpa using k2 8 _ rfl
    have w1 : IntKind.i64.wrap ((v1_1 : Int) + 1) = (v1_1 : Int) + 1 := wrap_of (by omega) (by omega)
    try simp at q1
    simp [i1, rowAt_map]
    repeat (refine ⟨by intros; omega, ?_⟩)
    refine condB (fun k3 q2 => ?_) (fun k3 q2 => ?_)
    · have h2 : ((nth a0 v1_1).Kind == a1) = true := by simpa using q2
      try simp at q2
      simp
      refine nxtI ⟨(p1, (W (v1_0 + 1)), (v1_1 + 1)), ?_, ?_⟩ (by simp) (wk_keep (by simp [w1]))
      · rw [← e1]; simp only [i_CountKind_1, h1, h2, cond_true, cond_false]
      · first | omega | (simp at *; omega)
    · have h2 : ((nth a0 v1_1).Kind == a1) = false := by simpa using q2
      try simp at q2
      simp
      refine nxtI ⟨(p1, v1_0, (v1_1 + 1)), ?_, ?_⟩ (by simp) (wk_keep (by simp [w1]))
      · rw [← e1]; simp only [i_CountKind_1, h1, h2, cond_true, cond_false]
      · first | omega | (simp at *; omega)
  · have h1 : (decide ((↑v1_1 : Int) < (↑a0.length : Int))) = false := by simpa using q1
    try simp at q1
    have x1 : i_CountKind_1 a0 a1 (a0.length + 1) 0 0 = v1_0 := by rw [← e1]; simp only [i_CountKind_1, h1, cond_true, cond_false]
    simp
    refine retRd (rv := [.tmp 4]) rfl ?_
    have f1 : i_CountKind a0 a1 = v1_0 := by simp only [i_CountKind, x1, cond_true, cond_false]
    simp [f1]
theorem l_eqStringS_ok (a0 : List ByteArray) (a1 : List ByteArray) : SoundAt Try.prog 67 false [[.sl 1 (a0.map sR)], [.sl 1 (a1.map sR)]] [[.bool (l_eqStringS a0 a1)]] := by
  refine sound_of Try.func67 rfl (by kernel_rfl) ?_
  simp [Try.ntmps67]
  refine condB (fun k1 q1 => ?_) (fun k1 q1 => ?_)
  · have h1 : ((↑a0.length : Int) != (↑a1.length : Int)) = true := by simpa using q1
    try simp at q1
    simp
    refine retRd (rv := [.tmp 4]) rfl ?_
    have f1 : l_eqStringS a0 a1 = false := by simp only [l_eqStringS, h1, cond_true, cond_false]
    simp [f1]
  · have h1 : ((↑a0.length : Int) != (↑a1.length : Int)) = false := by simpa using q1
    try simp at q1
    simp
    refine okL fun k2 => ?_
    refine loopI (ι := { s : Nat × Nat // l_eqStringS_1 a0 a1 s.1 s.2 = l_eqStringS_1 a0 a1 (a0.length + 1) 0 ∧ (1 ≤ s.1 ∧ a0.length < s.1 + s.2) }) (fun s => stOf 26 [(0, .one (.d (.sl 1 (a0.map sR))), []), (1, .one (.d (.sl 1 (a1.map sR))), []), (5, .one (.d (.int .i64 (↑s.1.2 : Int))), [])]) (fun s => s.1.1) ⟨((a0.length + 1), 0), rfl, by first | omega | (dsimp only; omega) | simp⟩ (wk_keep (by simp)) ?_
    rintro ⟨⟨n1, v1_0⟩, e1, j1⟩
    try dsimp only at e1 j1
    obtain ⟨p1, rfl⟩ : ∃ p, n1 = p + 1 := ⟨n1 - 1, by omega⟩
    simp
    refine condB (fun k3 q2 => ?_) (fun k3 q2 => ?_)
    · have h2 : (decide ((↑v1_0 : Int) < (↑a0.length : Int))) = true := by simpa using q2
      have i1 : v1_0 < a0.length := by simpa using q2
      have m2 : a0.length ≤ 9223372036854775807 := by simpa using k3 0 _ rfl
      have w1 : IntKind.i64.wrap ((v1_0 : Int) + 1) = (v1_0 : Int) + 1 := wrap_of (by omega) (by omega)
      try simp at q2
      simp
      refine okD fun k4 => ?_
      refine drawI mixed (by kernel_rfl) (by kernel_rfl) ?_
      have i2 : v1_0 < a1.length := by omega
      simp [i1, rowAt_map, i2]
      repeat (refine ⟨by intros; omega, ?_⟩)
      refine condB (fun k5 q3 => ?_) (fun k5 q3 => ?_)
      · have h3 : (!decide ((nth a0 v1_0) = (nth a1 v1_0))) = true := by simpa using q3
        try simp at q3
        have x1 : l_eqStringS_1 a0 a1 (a0.length + 1) 0 = .inl false := by rw [← e1]; simp only [l_eqStringS_1, h2, h3, cond_true, cond_false]
        simp
        refine retRd (rv := [.tmp 4]) rfl ?_
        have f2 : l_eqStringS a0 a1 = false := by simp only [l_eqStringS, h1, x1, cond_true, cond_false]
        simp [f2]
      · have h3 : (!decide ((nth a0 v1_0) = (nth a1 v1_0))) = false := by simpa using q3
        try simp at q3
        simp
        refine nxtI ⟨(p1, (v1_0 + 1)), ?_, ?_⟩ (by simp) (wk_keep (by simp [w1]))
        · rw [← e1]; simp only [l_eqStringS_1, h2, h3, cond_true, cond_false]
        · first | omega | (simp at *; omega)
    · have h2 : (decide ((↑v1_0 : Int) < (↑a0.length : Int))) = false := by simpa using q2
      try simp at q2
      have x2 : l_eqStringS_1 a0 a1 (a0.length + 1) 0 = .inr () := by rw [← e1]; simp only [l_eqStringS_1, h2, cond_true, cond_false]
      simp
      refine retRd (rv := [.tmp 4]) rfl ?_
      have f3 : l_eqStringS a0 a1 = true := by simp only [l_eqStringS, h1, x2, cond_true, cond_false]
      simp [f3]
theorem l_eqIntS_ok (a0 : List Int) (a1 : List Int) : SoundAt Try.prog 64 false [[.sl 1 (a0.map iR)], [.sl 1 (a1.map iR)]] [[.bool (l_eqIntS a0 a1)]] := by
  refine sound_of Try.func64 rfl (by kernel_rfl) ?_
  simp [Try.ntmps64]
  refine condB (fun k1 q1 => ?_) (fun k1 q1 => ?_)
  · have h1 : ((↑a0.length : Int) != (↑a1.length : Int)) = true := by simpa using q1
    try simp at q1
    simp
    refine retRd (rv := [.tmp 4]) rfl ?_
    have f1 : l_eqIntS a0 a1 = false := by simp only [l_eqIntS, h1, cond_true, cond_false]
    simp [f1]
  · have h1 : ((↑a0.length : Int) != (↑a1.length : Int)) = false := by simpa using q1
    try simp at q1
    simp
    refine okL fun k2 => ?_
    refine loopI (ι := { s : Nat × Nat // l_eqIntS_1 a0 a1 s.1 s.2 = l_eqIntS_1 a0 a1 (a0.length + 1) 0 ∧ (1 ≤ s.1 ∧ a0.length < s.1 + s.2) }) (fun s => stOf 26 [(0, .one (.d (.sl 1 (a0.map iR))), []), (1, .one (.d (.sl 1 (a1.map iR))), []), (5, .one (.d (.int .i64 (↑s.1.2 : Int))), [])]) (fun s => s.1.1) ⟨((a0.length + 1), 0), rfl, by first | omega | (dsimp only; omega) | simp⟩ (wk_keep (by simp)) ?_
    rintro ⟨⟨n1, v1_0⟩, e1, j1⟩
    try dsimp only at e1 j1
    obtain ⟨p1, rfl⟩ : ∃ p, n1 = p + 1 := ⟨n1 - 1, by omega⟩
    simp
    refine condB (fun k3 q2 => ?_) (fun k3 q2 => ?_)
    · have h2 : (decide ((↑v1_0 : Int) < (↑a0.length : Int))) = true := by simpa using q2
      have i1 : v1_0 < a0.length := by simpa using q2
      have m2 : a0.length ≤ 9223372036854775807 := by simpa using k3 0 _ rfl
      have w1 : IntKind.i64.wrap ((v1_0 : Int) + 1) = (v1_0 : Int) + 1 := wrap_of (by omega) (by omega)
      try simp at q2
      simp
      refine okD fun k4 => ?_
      refine drawI mixed (by kernel_rfl) (by kernel_rfl) ?_
      have i2 : v1_0 < a1.length := by omega
      simp [i1, rowAt_map, i2]
      repeat (refine ⟨by intros; omega, ?_⟩)
      refine condB (fun k5 q3 => ?_) (fun k5 q3 => ?_)
      · have h3 : ((nth a0 v1_0) != (nth a1 v1_0)) = true := by simpa using q3
        try simp at q3
        have x1 : l_eqIntS_1 a0 a1 (a0.length + 1) 0 = .inl false := by rw [← e1]; simp only [l_eqIntS_1, h2, h3, cond_true, cond_false]
        simp
        refine retRd (rv := [.tmp 4]) rfl ?_
        have f2 : l_eqIntS a0 a1 = false := by simp only [l_eqIntS, h1, x1, cond_true, cond_false]
        simp [f2]
      · have h3 : ((nth a0 v1_0) != (nth a1 v1_0)) = false := by simpa using q3
        try simp at q3
        simp
        refine nxtI ⟨(p1, (v1_0 + 1)), ?_, ?_⟩ (by simp) (wk_keep (by simp [w1]))
        · rw [← e1]; simp only [l_eqIntS_1, h2, h3, cond_true, cond_false]
        · first | omega | (simp at *; omega)
    · have h2 : (decide ((↑v1_0 : Int) < (↑a0.length : Int))) = false := by simpa using q2
      try simp at q2
      have x2 : l_eqIntS_1 a0 a1 (a0.length + 1) 0 = .inr () := by rw [← e1]; simp only [l_eqIntS_1, h2, cond_true, cond_false]
      simp
      refine retRd (rv := [.tmp 4]) rfl ?_
      have f3 : l_eqIntS a0 a1 = true := by simp only [l_eqIntS, h1, x2, cond_true, cond_false]
      simp [f3]
theorem l_eqDocument_ok (a0 : TDocument) (a1 : TDocument) : SoundAt Try.prog 63 false [a0.row, a1.row] [[.bool (l_eqDocument a0 a1)]] := by
  refine sound_of Try.func63 rfl (by kernel_rfl) ?_
  simp [Try.ntmps63]
  refine condB (fun k1 q1 => ?_) (fun k1 q1 => ?_)
  · have h1 : (a0.Title != a1.Title) = true := by simpa using q1
    try simp at q1
    simp
    refine retRd (rv := [.tmp 4]) rfl ?_
    have f1 : l_eqDocument a0 a1 = false := by simp only [l_eqDocument, h1, cond_true, cond_false]
    simp [f1]
  · have h1 : (a0.Title != a1.Title) = false := by simpa using q1
    try simp at q1
    simp
    refine callRd rfl rfl rfl rfl (l_eqStringS_ok a0.Parts a1.Parts) (by simp) (by simp) (by simp) ?_
    simp
    refine condB (fun k2 q2 => ?_) (fun k2 q2 => ?_)
    · have h2 : (!(l_eqStringS a0.Parts a1.Parts)) = true := by simpa using q2
      try simp at q2
      simp
      refine retRd (rv := [.tmp 4]) rfl ?_
      have f2 : l_eqDocument a0 a1 = false := by simp only [l_eqDocument, h1, h2, cond_true, cond_false]
      simp [f2]
    · have h2 : (!(l_eqStringS a0.Parts a1.Parts)) = false := by simpa using q2
      try simp at q2
      simp
      refine callRd rfl rfl rfl rfl (l_eqIntS_ok a0.Salts a1.Salts) (by simp) (by simp) (by simp) ?_
      simp
      refine condB (fun k3 q3 => ?_) (fun k3 q3 => ?_)
      · have h3 : (!(l_eqIntS a0.Salts a1.Salts)) = true := by simpa using q3
        try simp at q3
        simp
        refine retRd (rv := [.tmp 4]) rfl ?_
        have f3 : l_eqDocument a0 a1 = false := by simp only [l_eqDocument, h1, h2, h3, cond_true, cond_false]
        simp [f3]
      · have h3 : (!(l_eqIntS a0.Salts a1.Salts)) = false := by simpa using q3
        try simp at q3
        simp
        refine retRd (rv := [.tmp 4]) rfl ?_
        have f4 : l_eqDocument a0 a1 = true := by simp only [l_eqDocument, h1, h2, h3, cond_true, cond_false]
        simp [f4]
theorem l_eqEvent_ok (a0 : TEvent) (a1 : TEvent) : SoundAt Try.prog 55 false [a0.row, a1.row] [[.bool (l_eqEvent a0 a1)]] := by
  refine sound_of Try.func55 rfl (by kernel_rfl) ?_
  simp [Try.ntmps55]
  refine condB (fun k1 q1 => ?_) (fun k1 q1 => ?_)
  · have h1 : (a0.Kind != a1.Kind) = true := by simpa using q1
    try simp at q1
    simp
    refine retRd (rv := [.tmp 4]) rfl ?_
    have f1 : l_eqEvent a0 a1 = false := by simp only [l_eqEvent, h1, cond_true, cond_false]
    simp [f1]
  · have h1 : (a0.Kind != a1.Kind) = false := by simpa using q1
    try simp at q1
    simp
    refine condB (fun k2 q2 => ?_) (fun k2 q2 => ?_)
    · have h2 : (a0.A != a1.A) = true := by simpa using q2
      try simp at q2
      simp
      refine retRd (rv := [.tmp 4]) rfl ?_
      have f2 : l_eqEvent a0 a1 = false := by simp only [l_eqEvent, h1, h2, cond_true, cond_false]
      simp [f2]
    · have h2 : (a0.A != a1.A) = false := by simpa using q2
      try simp at q2
      simp
      refine condB (fun k3 q3 => ?_) (fun k3 q3 => ?_)
      · have h3 : (a0.B != a1.B) = true := by simpa using q3
        try simp at q3
        simp
        refine retRd (rv := [.tmp 4]) rfl ?_
        have f3 : l_eqEvent a0 a1 = false := by simp only [l_eqEvent, h1, h2, h3, cond_true, cond_false]
        simp [f3]
      · have h3 : (a0.B != a1.B) = false := by simpa using q3
        try simp at q3
        simp
        refine condB (fun k4 q4 => ?_) (fun k4 q4 => ?_)
        · have h4 : (a0.C != a1.C) = true := by simpa using q4
          try simp at q4
          simp
          refine retRd (rv := [.tmp 4]) rfl ?_
          have f4 : l_eqEvent a0 a1 = false := by simp only [l_eqEvent, h1, h2, h3, h4, cond_true, cond_false]
          simp [f4]
        · have h4 : (a0.C != a1.C) = false := by simpa using q4
          try simp at q4
          simp
          refine condB (fun k5 q5 => ?_) (fun k5 q5 => ?_)
          · have h5 : (a0.D != a1.D) = true := by simpa using q5
            try simp at q5
            simp
            refine retRd (rv := [.tmp 4]) rfl ?_
            have f5 : l_eqEvent a0 a1 = false := by simp only [l_eqEvent, h1, h2, h3, h4, h5, cond_true, cond_false]
            simp [f5]
          · have h5 : (a0.D != a1.D) = false := by simpa using q5
            try simp at q5
            simp
            refine callRd rfl rfl rfl rfl (l_eqDocument_ok a0.Doc a1.Doc) (by simp) (by simp) (by simp) ?_
            simp
            refine condB (fun k6 q6 => ?_) (fun k6 q6 => ?_)
            · have h6 : (!(l_eqDocument a0.Doc a1.Doc)) = true := by simpa using q6
              try simp at q6
              simp
              refine retRd (rv := [.tmp 4]) rfl ?_
              have f6 : l_eqEvent a0 a1 = false := by simp only [l_eqEvent, h1, h2, h3, h4, h5, h6, cond_true, cond_false]
              simp [f6]
            · have h6 : (!(l_eqDocument a0.Doc a1.Doc)) = false := by simpa using q6
              try simp at q6
              simp
              refine callRd rfl rfl rfl rfl (l_eqIntS_ok a0.Ids a1.Ids) (by simp) (by simp) (by simp) ?_
              simp
              refine condB (fun k7 q7 => ?_) (fun k7 q7 => ?_)
              · have h7 : (!(l_eqIntS a0.Ids a1.Ids)) = true := by simpa using q7
                try simp at q7
                simp
                refine retRd (rv := [.tmp 4]) rfl ?_
                have f7 : l_eqEvent a0 a1 = false := by simp only [l_eqEvent, h1, h2, h3, h4, h5, h6, h7, cond_true, cond_false]
                simp [f7]
              · have h7 : (!(l_eqIntS a0.Ids a1.Ids)) = false := by simpa using q7
                try simp at q7
                simp
                refine retRd (rv := [.tmp 4]) rfl ?_
                have f8 : l_eqEvent a0 a1 = true := by simp only [l_eqEvent, h1, h2, h3, h4, h5, h6, h7, cond_true, cond_false]
                simp [f8]
theorem l_eqEventS_ok (a0 : List TEvent) (a1 : List TEvent) : SoundAt Try.prog 36 false [[.sl 9 (a0.map TEvent.row)], [.sl 9 (a1.map TEvent.row)]] [[.bool (l_eqEventS a0 a1)]] := by
  refine sound_of Try.func36 rfl (by kernel_rfl) ?_
  simp [Try.ntmps36]
  refine condB (fun k1 q1 => ?_) (fun k1 q1 => ?_)
  · have h1 : ((↑a0.length : Int) != (↑a1.length : Int)) = true := by simpa using q1
    try simp at q1
    simp
    refine retRd (rv := [.tmp 4]) rfl ?_
    have f1 : l_eqEventS a0 a1 = false := by simp only [l_eqEventS, h1, cond_true, cond_false]
    simp [f1]
  · have h1 : ((↑a0.length : Int) != (↑a1.length : Int)) = false := by simpa using q1
    try simp at q1
    simp
    refine okL fun k2 => ?_
    refine loopI (ι := { s : Nat × Nat // l_eqEventS_1 a0 a1 s.1 s.2 = l_eqEventS_1 a0 a1 (a0.length + 1) 0 ∧ (1 ≤ s.1 ∧ a0.length < s.1 + s.2) }) (fun s => stOf 27 [(0, .one (.d (.sl 9 (a0.map TEvent.row))), []), (1, .one (.d (.sl 9 (a1.map TEvent.row))), []), (5, .one (.d (.int .i64 (↑s.1.2 : Int))), [])]) (fun s => s.1.1) ⟨((a0.length + 1), 0), rfl, by first | omega | (dsimp only; omega) | simp⟩ (wk_keep (by simp)) ?_
    rintro ⟨⟨n1, v1_0⟩, e1, j1⟩
    try dsimp only at e1 j1
    obtain ⟨p1, rfl⟩ : ∃ p, n1 = p + 1 := ⟨n1 - 1, by omega⟩
    simp
    refine condB (fun k3 q2 => ?_) (fun k3 q2 => ?_)
    · have h2 : (decide ((↑v1_0 : Int) < (↑a0.length : Int))) = true := by simpa using q2
      have i1 : v1_0 < a0.length := by simpa using q2
      have m2 : a0.length ≤ 9223372036854775807 := by simpa using k3 0 _ rfl
      have w1 : IntKind.i64.wrap ((v1_0 : Int) + 1) = (v1_0 : Int) + 1 := wrap_of (by omega) (by omega)
      try simp at q2
      simp
      refine okD fun k4 => ?_
      refine drawI mixed (by kernel_rfl) (by kernel_rfl) ?_
      have i2 : v1_0 < a1.length := by omega
      simp [i1, rowAt_map, i2]
      repeat (refine ⟨by intros; omega, ?_⟩)
      refine callRd rfl rfl rfl rfl (l_eqEvent_ok (nth a0 v1_0) (nth a1 v1_0)) (by simp) (by simp) (by simp) ?_
      simp
      refine condB (fun k5 q3 => ?_) (fun k5 q3 => ?_)
      · have h3 : (!(l_eqEvent (nth a0 v1_0) (nth a1 v1_0))) = true := by simpa using q3
        try simp at q3
        have x1 : l_eqEventS_1 a0 a1 (a0.length + 1) 0 = .inl false := by rw [← e1]; simp only [l_eqEventS_1, h2, h3, cond_true, cond_false]
        simp
        refine retRd (rv := [.tmp 4]) rfl ?_
        have f2 : l_eqEventS a0 a1 = false := by simp only [l_eqEventS, h1, x1, cond_true, cond_false]
        simp [f2]
      · have h3 : (!(l_eqEvent (nth a0 v1_0) (nth a1 v1_0))) = false := by simpa using q3
        try simp at q3
        simp
        refine nxtI ⟨(p1, (v1_0 + 1)), ?_, ?_⟩ (by simp) (wk_keep (by simp [w1]))
        · rw [← e1]; simp only [l_eqEventS_1, h2, h3, cond_true, cond_false]
        · first | omega | (simp at *; omega)
    · have h2 : (decide ((↑v1_0 : Int) < (↑a0.length : Int))) = false := by simpa using q2
      try simp at q2
      have x2 : l_eqEventS_1 a0 a1 (a0.length + 1) 0 = .inr () := by rw [← e1]; simp only [l_eqEventS_1, h2, cond_true, cond_false]
      simp
      refine retRd (rv := [.tmp 4]) rfl ?_
      have f3 : l_eqEventS a0 a1 = true := by simp only [l_eqEventS, h1, x2, cond_true, cond_false]
      simp [f3]
theorem l_FnExactCountKind_ok (a0 : List TEvent) (a1 : Int) (t0 : Sm maxLen a0) : SoundAt Try.prog 9 false [[.sl 9 (a0.map TEvent.row)], [.int .i64 a1]] [[.bool (l_FnExactCountKind a0 a1)]] := by
  refine sound_of Try.func9 rfl (by kernel_rfl) ?_
  simp [Try.ntmps9]
  refine callRd rfl rfl rfl rfl (l_szEventS_ok a0 1048576) (by simp) (by simp) (by simp) ?_
  simp
  refine condB (fun k1 q1 => ?_) (fun k1 q1 => ?_)
  · have h1 : (decide ((l_szEventS a0 1048576) < 0)) = true := by simpa using q1
    try simp at q1
    simp
    refine retRd (rv := [.tmp 4]) rfl ?_
    have f1 : l_FnExactCountKind a0 a1 = true := by simp only [l_FnExactCountKind, h1, cond_true, cond_false]
    simp [f1]
  · have h1 : (decide ((l_szEventS a0 1048576) < 0)) = false := by simpa using q1
    try simp at q1
    obtain ⟨u0, y0⟩ := l_szEventS_sm a0 1048576 t0 (by omega) (by omega) (by simpa using h1)
    simp
    refine callRd rfl rfl rfl rfl (l_toEventS_ok a0 (sm_mono (n := 1048576) (by decide) (by simp [u0, l_toDocument_id, l_toEvent_id, l_toEventS_id, l_toIntS_id, l_toRenewal_id, l_toStamp_id, l_toStampS_id, l_toStep_id, l_toStepS_id, l_toStringS_id]))) (by simp) (by simp) (by simp) ?_
    simp
    refine callRd rfl rfl rfl rfl (s_CountKind_ok (l_toEventS a0) a1) (by simp) (by simp) (by simp) ?_
    simp
    refine callRd rfl rfl rfl rfl (l_toEventS_ok a0 (sm_mono (n := 1048576) (by decide) (by simp [u0, l_toDocument_id, l_toEvent_id, l_toEventS_id, l_toIntS_id, l_toRenewal_id, l_toStamp_id, l_toStampS_id, l_toStep_id, l_toStepS_id, l_toStringS_id]))) (by simp) (by simp) (by simp) ?_
    simp
    refine callRd rfl rfl rfl rfl (i_CountKind_ok (l_toEventS a0) a1) (by simp) (by simp) (by simp) ?_
    simp
    refine condB (fun k2 q2 => ?_) (fun k2 q2 => ?_)
    · have h2 : ((i_CountKind (l_toEventS a0) a1) != (s_CountKind (l_toEventS a0) a1)) = true := by simpa using q2
      try simp at q2
      simp
      refine retRd (rv := [.tmp 4]) rfl ?_
      have f2 : l_FnExactCountKind a0 a1 = false := by simp only [l_FnExactCountKind, h1, h2, cond_true, cond_false]
      simp [f2]
    · have h2 : ((i_CountKind (l_toEventS a0) a1) != (s_CountKind (l_toEventS a0) a1)) = false := by simpa using q2
      try simp at q2
      simp
      refine callRd rfl rfl rfl rfl (l_toEventS_ok a0 (sm_mono (n := 1048576) (by decide) (by simp [u0, l_toDocument_id, l_toEvent_id, l_toEventS_id, l_toIntS_id, l_toRenewal_id, l_toStamp_id, l_toStampS_id, l_toStep_id, l_toStepS_id, l_toStringS_id]))) (by simp) (by simp) (by simp) ?_
      simp
      refine callRd rfl rfl rfl rfl (l_eqEventS_ok (l_toEventS a0) (l_toEventS a0)) (by simp) (by simp) (by simp) ?_
      simp
      refine condB (fun k3 q3 => ?_) (fun k3 q3 => ?_)
      · have h3 : (!(l_eqEventS (l_toEventS a0) (l_toEventS a0))) = true := by simpa using q3
        try simp at q3
        simp
        refine retRd (rv := [.tmp 4]) rfl ?_
        have f3 : l_FnExactCountKind a0 a1 = false := by simp only [l_FnExactCountKind, h1, h2, h3, cond_true, cond_false]
        simp [f3]
      · have h3 : (!(l_eqEventS (l_toEventS a0) (l_toEventS a0))) = false := by simpa using q3
        try simp at q3
        simp
        refine retRd (rv := [.tmp 4]) rfl ?_
        have f4 : l_FnExactCountKind a0 a1 = true := by simp only [l_FnExactCountKind, h1, h2, h3, cond_true, cond_false]
        simp [f4]
end Go.Proofs.Ytoeokngpoibldaa
