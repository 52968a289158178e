/- The models of the program and of the reference agree. No condition. -/
import Derived.Test.YtjnnnnanipkcnaaL
namespace Go.Mo
open Go.Vm
set_option linter.unusedSimpArgs false
set_option linter.unusedVariables false
theorem cond_neg (x : Int) {α : Type} (a b : α) : (bif decide (x < 0) then a else b) = (bif decide (0 ≤ x) then b else a) := by
  by_cases h : x < 0
  · rw [show decide (x < 0) = true by simpa using h, show decide (0 ≤ x) = false by simpa using h]; rfl
  · rw [show decide (x < 0) = false by simpa using h, show decide (0 ≤ x) = true by simp; omega]; rfl
theorem ba_cons (b : UInt8) (l : List UInt8) : (ByteArray.mk [b].toArray) ++ (ByteArray.mk l.toArray) = ByteArray.mk ((b :: l).toArray) := by
  apply ByteArray.ext
  simp
theorem fmt_loop : ∀ (n : Nat) (x : Int) (l : List UInt8), x ≠ 0 → (n = 21 ∨ x.natAbs < 10 ^ n) → s_FormatInt_1 (n + 1) ⟨l.toArray⟩ x = ⟨(i_FormatInt_1 n x l).toArray⟩
  | 0, x, l, hx, h => by
    rcases h with h | h
    · omega
    · simp at h; exact absurd h hx
  | n + 1, x, l, hx, h => by
    have hb : (x != 0) = true := by simpa using hx
    have hn := fmt_step (x := x) (n := n) h
    have fin : ∀ w, s_FormatInt_1 (n + 1) w 0 = w := fun w => rfl
    rw [s_FormatInt_1, hb, cond_true, i_FormatInt_1]
    cases decide (x.tmod 10 < 0) <;> simp only [cond_true, cond_false]
    · by_cases hz : W (x.tdiv 10) = 0
      · rw [hz, fin, show ((0 : Int) == 0) = true from rfl, cond_true, ba_cons]; rfl
      · rw [show (W (x.tdiv 10) == 0) = false by simpa using hz, cond_false, ba_cons, fmt_loop n _ _ hz (.inr hn)]; rfl
    · by_cases hz : W (x.tdiv 10) = 0
      · rw [hz, fin, show ((0 : Int) == 0) = true from rfl, cond_true, ba_cons]; rfl
      · rw [show (W (x.tdiv 10) == 0) = false by simpa using hz, cond_false, ba_cons, fmt_loop n _ _ hz (.inr hn)]; rfl
@[simp] theorem s_FormatInt_eq (a0 : Int) : s_FormatInt a0 = i_FormatInt a0 := by
  unfold s_FormatInt
  by_cases h : a0 = 0
  · subst h; rfl
  · rw [show (a0 == 0) = false by simpa using h, cond_false]
    have := fmt_loop 21 a0 [] h (.inl rfl)
    rw [show (⟨#[]⟩ : ByteArray) = ⟨([] : List UInt8).toArray⟩ from rfl, this]
    rfl

@[simp] theorem s_FormatRedacted_1_eq (a0 : TRedacted) : ∀ (n : Nat) (v0 : ByteArray) (v1 : Nat), s_FormatRedacted_1 a0 n v0 v1 = i_FormatRedacted_1 a0 n v0 v1 := by
  intro n
  induction n with
  | zero => intros; rfl
  | succ n ih => intros; simp [s_FormatRedacted_1, i_FormatRedacted_1, ih, ByteArray.append_assoc]
@[simp] theorem s_FormatRedacted_eq (a0 : TRedacted) : s_FormatRedacted a0 = i_FormatRedacted a0 := by simp [s_FormatRedacted, i_FormatRedacted]
end Go.Mo
