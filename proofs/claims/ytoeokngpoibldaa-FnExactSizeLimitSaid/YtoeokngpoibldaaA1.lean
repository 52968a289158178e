/- Contracts of the functions that the laws of EventName and SizeLimit reach: what each returns, for all arguments. No condition. -/
import Derived.Test.YtoeokngpoibldaaVc
import Derived.Test.YtoeokngpoibldaaProg
namespace Go.Proofs.Ytoeokngpoibldaa
open Go.Vm
theorem inRange_ok (n lo hi : Int) : SoundAt Try.prog 38 false [[.int .i64 n], [.int .i64 lo], [.int .i64 hi]] [[.bool (decide (lo ≤ n) && decide (n ≤ hi))]] := by
  refine sound_of Try.func38 rfl (by kernel_rfl) ?_
  simp [Try.ntmps38]
  refine retRd (rv := [.tmp 6]) rfl ?_
  simp
theorem l1In_ok (n lo hi : Int) : SoundAt Try.prog 37 false [[.int .i64 n], [.int .i64 lo], [.int .i64 hi]] [[.bool (decide (lo ≤ n) && decide (n ≤ hi))]] := by
  refine sound_of Try.func37 rfl (by kernel_rfl) ?_
  simp [Try.ntmps37]
  refine retRd (rv := [.tmp 6]) rfl ?_
  simp
def lv (n : Int) : Int := if 1 ≤ n ∧ n ≤ 16 then (if n ≤ 1 then 0 else if n ≤ 2 then 1 else if n ≤ 4 then 2 else if n ≤ 8 then 3 else 4) else 0
theorem intT88 : intT Try.prog 88 = some .u64 := by kernel_rfl
theorem wu64 : ∀ k : Fin 5, IntKind.u64.wrap ((k.val : Nat) : Int) = k.val := by decide
theorem w2 : ∀ k : Fin 5, IntKind.i64.wrap (2 ^ min k.val IntKind.i64.bits) = 2 ^ k.val := by decide
theorem w3 : ∀ k : Fin 5, IntKind.i64.wrap (((k.val : Nat) : Int) + 1) = k.val + 1 := by decide
theorem w4 : ∀ k : Fin 5, IntKind.i64.wrap (2 * 2 ^ k.val) = 2 ^ (k.val + 1) := by decide
theorem lv_end (n : Int) : ∀ k : Fin 5, ((k.val = 0) ∨ (1 ≤ n ∧ n ≤ 16) ∧ (2:Int) ^ (k.val - 1) < n) → (1 ≤ n → n ≤ 16 → n ≤ 2 ^ k.val) → ((k.val : Nat) : Int) = lv n := by
  unfold lv
  intro k
  obtain ⟨k, hk⟩ := k
  have : k = 0 ∨ k = 1 ∨ k = 2 ∨ k = 3 ∨ k = 4 := by omega
  rcases this with rfl | rfl | rfl | rfl | rfl <;> simp <;> split <;> intros <;> (repeat' split) <;> omega
theorem lt4 {n : Int} {k : Fin 5} (h1 : n ≤ 16) (h2 : 2 ^ k.val < n) : k.val < 4 := by
  have := k.isLt
  rcases Nat.lt_or_ge k.val 4 with h | h
  · exact h
  · have h4 : k.val = 4 := by omega
    rw [h4] at h2; omega
theorem levels_ok (n : Int) : SoundAt Try.prog 40 false [[.int .i64 n]] [[.int .i64 (lv n)]] := by
  refine sound_of Try.func40 rfl (by kernel_rfl) ?_
  simp [Try.ntmps40]
  refine loopI (ι := { k : Fin 5 // k.val = 0 ∨ ((1 ≤ n ∧ n ≤ 16) ∧ (2 : Int) ^ (k.val - 1) < n) }) (fun k => stOf 16 [(0, .one (.d (.int .i64 n)), []), (3, .one (.d (.int .i64 k.val.val)), [])]) (fun k => 4 - k.val.val) ⟨⟨0, by omega⟩, .inl rfl⟩ (wk_keep (by simp)) fun k => ?_
  obtain ⟨k, hk⟩ := k
  simp
  refine callRd rfl rfl rfl rfl (inRange_ok _ _ _) rfl (by simp) (by simp) ?_
  simp [intT88, wu64, w2]
  refine condI ?_ ?_
  · intro hb
    simp [w3]
    simp at hb
    have hlt := lt4 hb.1.2 hb.2
    refine nxtI ⟨⟨k.val + 1, by omega⟩, .inr ⟨⟨hb.1.1, hb.1.2⟩, ?_⟩⟩ ?_ (wk_keep ?_)
    · simpa using hb.2
    · simp; omega
    · simp
  · intro hb
    simp
    refine retRd (rv := [.tmp 2]) rfl ?_
    simp at hb
    simp
    exact lv_end n k hk hb
theorem slevels_ok (n : Int) : SoundAt Try.prog 39 false [[.int .i64 n]] [[.int .i64 (lv n)]] := by
  refine sound_of Try.func39 rfl (by kernel_rfl) ?_
  simp [Try.ntmps39]
  refine callRd rfl rfl rfl rfl (l1In_ok _ _ _) rfl (by simp) (by simp) ?_
  simp
  refine condI ?_ ?_
  · intro hb
    simp
    refine retRd (rv := [.tmp 2]) rfl ?_
    simp at hb
    simp [lv]; omega
  · intro hb
    simp
    simp at hb
    refine loopI (ι := { k : Fin 5 // k.val = 0 ∨ (2 : Int) ^ (k.val - 1) < n }) (fun k => stOf 16 [(0, .one (.d (.int .i64 n)), []), (3, .one (.d (.int .i64 k.val.val)), []), (4, .one (.d (.int .i64 (2 ^ k.val.val))), [])]) (fun k => 4 - k.val.val) ⟨⟨0, by omega⟩, .inl rfl⟩ (wk_keep (by simp)) fun k => ?_
    obtain ⟨k, hk⟩ := k
    simp
    refine condI ?_ ?_
    · intro hc
      simp [w3, w4]
      simp at hc
      have hlt := lt4 hb.2 hc
      refine nxtI ⟨⟨k.val + 1, by omega⟩, .inr ?_⟩ ?_ (wk_keep ?_)
      · simpa using hc
      · simp; omega
      · simp
    · intro hc
      simp
      refine retRd (rv := [.tmp 2]) rfl ?_
      simp at hc
      simp
      exact lv_end n k (hk.imp id fun h => ⟨hb, h⟩) (fun _ _ => hc)
def szLimit (n m : Int) : Int := if (1 ≤ n ∧ n ≤ 16) ∧ 0 ≤ m ∧ m ≤ 6 then IntKind.i64.wrap (IntKind.i64.wrap (3 + IntKind.i64.wrap (2 * lv n)) + IntKind.i64.wrap (6 * m)) else 0
theorem ssize_ok (n m : Int) : SoundAt Try.prog 12 false [[.int .i64 n], [.int .i64 m]] [[.int .i64 (szLimit n m)]] := by
  refine sound_of Try.func12 rfl (by kernel_rfl) ?_
  simp [Try.ntmps12]
  refine callRd rfl rfl rfl rfl (l1In_ok _ _ _) rfl (by simp) (by simp) ?_
  simp
  refine callG rfl rfl rfl rfl rfl rfl (fun _ => l1In_ok _ _ _) rfl (by simp) (by simp) (by simp) ?_
  simp
  refine condI ?_ ?_
  · intro hb
    simp
    refine retRd (rv := [.tmp 4]) rfl ?_
    simp at hb
    simp [szLimit]; omega
  · intro hb
    simp
    refine callRd rfl rfl rfl rfl (slevels_ok _) rfl (by simp) (by simp) ?_
    simp
    refine retRd (rv := [.tmp 4]) rfl ?_
    simp at hb
    simp [szLimit, hb]
theorem isize_ok (n m : Int) : SoundAt Try.prog 13 false [[.int .i64 n], [.int .i64 m]] [[.int .i64 (szLimit n m)]] := by
  refine sound_of Try.func13 rfl (by kernel_rfl) ?_
  simp [Try.ntmps13]
  refine callRd rfl rfl rfl rfl (inRange_ok _ _ _) rfl (by simp) (by simp) ?_
  simp
  refine callG rfl rfl rfl rfl rfl rfl (fun _ => inRange_ok _ _ _) rfl (by simp) (by simp) (by simp) ?_
  simp
  refine condI ?_ ?_
  · intro hb
    simp
    refine retRd (rv := [.tmp 4]) rfl ?_
    simp at hb
    simp [szLimit]; omega
  · intro hb
    simp
    refine callRd rfl rfl rfl rfl (levels_ok _) rfl (by simp) (by simp) ?_
    simp
    refine retRd (rv := [.tmp 4]) rfl ?_
    simp at hb
    simp [szLimit, hb]
theorem lawS_ok (n m : Int) : SoundAt Try.prog 4 false [[.int .i64 n], [.int .i64 m]] [[.bool true]] := by
  refine sound_of Try.func4 rfl (by kernel_rfl) ?_
  simp [Try.ntmps4]
  refine callRd rfl rfl rfl rfl (ssize_ok _ _) rfl (by simp) (by simp) ?_
  simp
  refine callRd rfl rfl rfl rfl (isize_ok _ _) rfl (by simp) (by simp) ?_
  simp
  refine condI ?_ ?_
  · intro hb
    simp at hb
  · intro hb
    simp
    refine retRd (rv := [.tmp 4]) rfl ?_
    simp
theorem sT62 : sliceT Try.prog 62 = true := by kernel_rfl
theorem eT62 : elemT Try.prog 62 = 9 := by kernel_rfl
theorem cT9 : Try.prog.cellsOf 9 = 1 := by kernel_rfl
theorem zT9 : zeroOk Try.prog 9 = true := by kernel_rfl
theorem tT9 : tyOk Try.prog 9 = true := by kernel_rfl
theorem aT9 : aggT Try.prog 9 = false := by kernel_rfl
theorem sT9 : strT Try.prog 9 = true := by kernel_rfl
def evTab : List ByteArray := [⟨#[]⟩, ⟨#[116, 105, 99, 107]⟩, ⟨#[115, 105, 103, 110]⟩, ⟨#[97, 110, 115, 119, 101, 114]⟩, ⟨#[114, 101, 118, 111, 107, 101]⟩, ⟨#[114, 101, 110, 101, 119]⟩, ⟨#[109, 111, 118, 101]⟩, ⟨#[102, 111, 114, 103, 101, 116]⟩, ⟨#[102, 111, 114, 103, 101]⟩, ⟨#[98, 97, 99, 107, 100, 97, 116, 101]⟩, ⟨#[102, 97, 107, 101]⟩]
def evName (n : Int) : ByteArray := if 1 ≤ n ∧ n ≤ 10 then evTab.getD n.toNat ⟨#[]⟩ else ⟨#[]⟩
theorem sT63 : arrT Try.prog 63 = some 11 := by kernel_rfl
theorem eT63 : elemT Try.prog 63 = 9 := by kernel_rfl
theorem ten {n : Int} (h : 1 ≤ n ∧ n ≤ 10) : n = 1 ∨ n = 2 ∨ n = 3 ∨ n = 4 ∨ n = 5 ∨ n = 6 ∨ n = 7 ∨ n = 8 ∨ n = 9 ∨ n = 10 := by omega
theorem sev_ok (n : Int) : SoundAt Try.prog 10 false [[.int .i64 n]] [[.str (evName n)]] := by
  refine sound_of Try.func10 rfl (by kernel_rfl) ?_
  simp [Try.ntmps10]
  refine callRd rfl rfl rfl rfl (l1In_ok _ _ _) rfl (by simp) (by simp) ?_
  simp
  refine condI ?_ ?_
  · intro hb
    simp
    refine retRd (rv := [.tmp 2]) rfl ?_
    simp at hb
    simp [evName]; omega
  · intro hb
    simp at hb
    simp [sT62, eT62, cT9, zT9, tT9, aT9]
    refine ⟨by simp [St.fresh, freshFrom, V.ref, obsRef, At.ref], by omega, by omega, retRd (rv := [.tmp 2]) rfl ?_⟩
    rcases ten hb with rfl | rfl | rfl | rfl | rfl | rfl | rfl | rfl | rfl | rfl <;> simp [evName, evTab]
theorem iev_ok (n : Int) : SoundAt Try.prog 11 false [[.int .i64 n]] [[.str (evName n)]] := by
  refine sound_of Try.func11 rfl (by kernel_rfl) ?_
  simp [Try.ntmps11]
  refine callRd rfl rfl rfl rfl (inRange_ok _ _ _) rfl (by simp) (by simp) ?_
  simp
  refine condI ?_ ?_
  · intro hb
    simp
    refine retRd (rv := [.tmp 2]) rfl ?_
    simp at hb
    simp [evName]; omega
  · intro hb
    simp at hb
    have zT63 : zeroOk Try.prog 63 = true := by kernel_rfl
    have aT63 : aggT Try.prog 63 = true := by kernel_rfl
    have rT63 : zrow Try.prog 12 63 = some (List.replicate 11 (At.d (.str ⟨#[]⟩))) := by kernel_rfl
    have bOk63 : ∀ i, i < 11 → bOk Try.prog 63 i = true := by decide +kernel
    have bOff63 : ∀ i, i < 11 → bOff Try.prog 63 i = i := by decide +kernel
    have bTy63 : ∀ i, i < 11 → bTy Try.prog 63 i = 9 := by decide +kernel
    simp [sT63, eT63, cT9, tT9, aT9, zT63, aT63, rT63, bOk63, bOff63, bTy63]
    refine ⟨by omega, ?_⟩
    rcases ten hb with rfl | rfl | rfl | rfl | rfl | rfl | rfl | rfl | rfl | rfl <;> (simp; refine retRd (rv := [.tmp 2]) rfl ?_; simp [evName, evTab])
theorem lawE_ok (n : Int) : SoundAt Try.prog 3 false [[.int .i64 n]] [[.bool true]] := by
  refine sound_of Try.func3 rfl (by kernel_rfl) ?_
  simp [Try.ntmps3]
  refine callRd rfl rfl rfl rfl (sev_ok _) rfl (by simp) (by simp) ?_
  simp
  refine callRd rfl rfl rfl rfl (iev_ok _) rfl (by simp) (by simp) ?_
  simp
  refine condI ?_ ?_
  · intro hb
    simp at hb
  · intro hb
    simp
    refine retRd (rv := [.tmp 2]) rfl ?_
    simp
end Go.Proofs.Ytoeokngpoibldaa
