/- The models of the program and of the reference agree. No condition. -/
import Derived.Test.YtoeokngpoibldaaL
namespace Go.Mo
open Go.Vm
set_option linter.unusedSimpArgs false
set_option linter.unusedVariables false
theorem cond_neg (x : Int) {α : Type} (a b : α) : (bif decide (x < 0) then a else b) = (bif decide (0 ≤ x) then b else a) := by
  by_cases h : x < 0
  · rw [show decide (x < 0) = true by simpa using h, show decide (0 ≤ x) = false by simpa using h]; rfl
  · rw [show decide (x < 0) = false by simpa using h, show decide (0 ≤ x) = true by simp; omega]; rfl
@[simp] theorem s_l1In_eq (a0 a1 a2 : Int) : s_l1In a0 a1 a2 = i_InRange a0 a1 a2 := rfl

theorem ba_cons (b : UInt8) (l : List UInt8) : (ByteArray.mk [b].toArray) ++ (ByteArray.mk l.toArray) = ByteArray.mk ((b :: l).toArray) := by
  apply ByteArray.ext
  simp
theorem fmt_loop : ∀ (n : Nat) (x : Int) (l : List UInt8), x ≠ 0 → (n = 21 ∨ x.natAbs < 10 ^ n) → s_FormatInt_1 (n + 1) ⟨l.toArray⟩ x = ⟨(i_FormatInt_1 n x l).toArray⟩
  | 0, x, l, hx, h => by
    rcases h with h | h
    · omega
    · simp at h; exact absurd h hx
  | n + 1, x, l, hx, h => by
    have hb : (x != 0) = true := by simpa using hx
    have hn := fmt_step (x := x) (n := n) h
    have fin : ∀ w, s_FormatInt_1 (n + 1) w 0 = w := fun w => rfl
    rw [s_FormatInt_1, hb, cond_true, i_FormatInt_1]
    cases decide (x.tmod 10 < 0) <;> simp only [cond_true, cond_false]
    · by_cases hz : W (x.tdiv 10) = 0
      · rw [hz, fin, show ((0 : Int) == 0) = true from rfl, cond_true, ba_cons]; rfl
      · rw [show (W (x.tdiv 10) == 0) = false by simpa using hz, cond_false, ba_cons, fmt_loop n _ _ hz (.inr hn)]; rfl
    · by_cases hz : W (x.tdiv 10) = 0
      · rw [hz, fin, show ((0 : Int) == 0) = true from rfl, cond_true, ba_cons]; rfl
      · rw [show (W (x.tdiv 10) == 0) = false by simpa using hz, cond_false, ba_cons, fmt_loop n _ _ hz (.inr hn)]; rfl
@[simp] theorem s_FormatInt_eq (a0 : Int) : s_FormatInt a0 = i_FormatInt a0 := by
  unfold s_FormatInt
  by_cases h : a0 = 0
  · subst h; rfl
  · rw [show (a0 == 0) = false by simpa using h, cond_false]
    have := fmt_loop 21 a0 [] h (.inl rfl)
    rw [show (⟨#[]⟩ : ByteArray) = ⟨([] : List UInt8).toArray⟩ from rfl, this]
    rfl

@[simp] theorem s_FormatStamp_eq (a0 : TStamp) : s_FormatStamp a0 = i_FormatStamp a0 := by simp [s_FormatStamp, i_FormatStamp]
@[simp] theorem s_WorldMethods_eq : s_WorldMethods = i_WorldMethods := rfl

@[simp] theorem s_WorldKeys_eq : s_WorldKeys = i_WorldKeys := rfl

@[simp] theorem s_RenewalSize_eq (a0 : TRenewal) : s_RenewalSize a0 = i_RenewalSize a0 := by simp [s_RenewalSize, i_RenewalSize]
@[simp] theorem s_CountKind_1_eq (a0 : List TEvent) (a1 : Int) : ∀ (n : Nat) (v0 : Int) (v1 : Nat), s_CountKind_1 a0 a1 n v0 v1 = i_CountKind_1 a0 a1 n v0 v1 := by
  intro n
  induction n with
  | zero => intros; rfl
  | succ n ih => intros; simp [s_CountKind_1, i_CountKind_1, ih, ByteArray.append_assoc]
@[simp] theorem s_CountKind_eq (a0 : List TEvent) (a1 : Int) : s_CountKind a0 a1 = i_CountKind a0 a1 := by simp [s_CountKind, i_CountKind]
end Go.Mo
