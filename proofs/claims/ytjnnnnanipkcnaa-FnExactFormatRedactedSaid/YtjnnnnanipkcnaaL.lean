/- Plain lemmas on the models of the helpers. No condition. -/
import Derived.Test.YtjnnnnanipkcnaaM
namespace Go.Mo
open Go.Vm
set_option linter.unusedSimpArgs false
set_option linter.unusedVariables false
theorem l_szIntS_sm : SzOk l_szIntS := sz_flat (fun _ _ => trivial) (fun _ _ => rfl)
theorem l_szBoolS_sm : SzOk l_szBoolS := sz_flat (fun _ _ => trivial) (fun _ _ => rfl)
theorem l_szStringS_sm : SzOk l_szStringS := sz_loop sz_string (G := l_szStringS_1) (fun _ _ _ _ => rfl) (fun _ _ => rfl)
theorem l_szIntSS_sm : SzOk l_szIntSS := sz_loop l_szIntS_sm (G := l_szIntSS_1) (fun _ _ _ _ => rfl) (fun _ _ => rfl)
theorem l_szRedacted_sm : SzOk l_szRedacted := by
  intro a0 a1 hm h0 hn h
  unfold l_szRedacted at h ⊢
  by_cases c0 : (l_szIntS a0.Methods a1) < 0
  · simp [c0] at h
  obtain ⟨s0, t0⟩ := l_szIntS_sm a0.Methods a1 (by simp [hm]) (by omega) (by omega) c0
  by_cases c1 : (l_szBoolS a0.Shown (l_szIntS a0.Methods a1)) < 0
  · simp [c1, c0] at h
  obtain ⟨s1, t1⟩ := l_szBoolS_sm a0.Shown (l_szIntS a0.Methods a1) (by simp [hm]) (by omega) (by omega) c1
  by_cases c2 : (l_szStringS a0.Parts (l_szBoolS a0.Shown (l_szIntS a0.Methods a1))) < 0
  · simp [c2, c0, c1] at h
  obtain ⟨s2, t2⟩ := l_szStringS_sm a0.Parts (l_szBoolS a0.Shown (l_szIntS a0.Methods a1)) (by simp [hm]) (by omega) (by omega) c2
  by_cases c3 : (l_szIntS a0.Salts (l_szStringS a0.Parts (l_szBoolS a0.Shown (l_szIntS a0.Methods a1)))) < 0
  · simp [c3, c0, c1, c2] at h
  obtain ⟨s3, t3⟩ := l_szIntS_sm a0.Salts (l_szStringS a0.Parts (l_szBoolS a0.Shown (l_szIntS a0.Methods a1))) (by simp [hm]) (by omega) (by omega) c3
  by_cases c4 : (l_szIntSS a0.Digests (l_szIntS a0.Salts (l_szStringS a0.Parts (l_szBoolS a0.Shown (l_szIntS a0.Methods a1))))) < 0
  · simp [c4, c0, c1, c2, c3] at h
  obtain ⟨s4, t4⟩ := l_szIntSS_sm a0.Digests (l_szIntS a0.Salts (l_szStringS a0.Parts (l_szBoolS a0.Shown (l_szIntS a0.Methods a1)))) (by simp [hm]) (by omega) (by omega) c4
  simp only [c0, c1, c2, c3, c4, decide_false, cond_false] at h ⊢
  exact ⟨⟨s0, s1, s2, s3, s4⟩, t4⟩
theorem l_toIntS_id (a0 : List Int) : l_toIntS a0 = a0 := to_loop (F := l_toIntS_1 a0) (g := (fun x => x)) (fun _ => rfl) (fun _ _ _ => rfl) _ 0 _ (by simp) (by omega) (by omega) (fun j h => by omega)
theorem l_toBoolS_id (a0 : List Bool) : l_toBoolS a0 = a0 := to_loop (F := l_toBoolS_1 a0) (g := (fun x => x)) (fun _ => rfl) (fun _ _ _ => rfl) _ 0 _ (by simp) (by omega) (by omega) (fun j h => by omega)
theorem l_toStringS_id (a0 : List ByteArray) : l_toStringS a0 = a0 := to_loop (F := l_toStringS_1 a0) (g := (fun x => x)) (fun _ => rfl) (fun _ _ _ => rfl) _ 0 _ (by simp) (by omega) (by omega) (fun j h => by omega)
theorem l_toIntSS_id (a0 : List (List Int)) : l_toIntSS a0 = a0 := to_loop (F := l_toIntSS_1 a0) (g := l_toIntS) l_toIntS_id (fun _ _ _ => rfl) _ 0 _ (by simp) (by omega) (by omega) (fun j h => by omega)
theorem l_toRedacted_id (a0 : TRedacted) : l_toRedacted a0 = a0 := by cases a0; simp [l_toRedacted, l_toBoolS_id, l_toIntS_id, l_toIntSS_id, l_toStringS_id]
theorem l_eqIntS_self (a0 : List Int) : l_eqIntS a0 a0 = true := by
  unfold l_eqIntS
  rw [eq_loop (F := l_eqIntS_1 a0 a0) (L := a0.length) (c := fun v1_0 => ((nth a0 v1_0) != (nth a0 v1_0))) (fun i => by simp) (fun _ => rfl) (fun _ _ => rfl)]
  simp
theorem l_eqBoolS_self (a0 : List Bool) : l_eqBoolS a0 a0 = true := by
  unfold l_eqBoolS
  rw [eq_loop (F := l_eqBoolS_1 a0 a0) (L := a0.length) (c := fun v1_0 => (!((nth a0 v1_0) == (nth a0 v1_0)))) (fun i => by simp) (fun _ => rfl) (fun _ _ => rfl)]
  simp
theorem l_eqStringS_self (a0 : List ByteArray) : l_eqStringS a0 a0 = true := by
  unfold l_eqStringS
  rw [eq_loop (F := l_eqStringS_1 a0 a0) (L := a0.length) (c := fun v1_0 => (!decide ((nth a0 v1_0) = (nth a0 v1_0)))) (fun i => by simp) (fun _ => rfl) (fun _ _ => rfl)]
  simp
theorem l_eqIntSS_self (a0 : List (List Int)) : l_eqIntSS a0 a0 = true := by
  unfold l_eqIntSS
  rw [eq_loop (F := l_eqIntSS_1 a0 a0) (L := a0.length) (c := fun v1_0 => (!(l_eqIntS (nth a0 v1_0) (nth a0 v1_0)))) (fun i => by simp [l_eqIntS_self]) (fun _ => rfl) (fun _ _ => rfl)]
  simp
theorem l_eqRedacted_self (a0 : TRedacted) : l_eqRedacted a0 a0 = true := by simp [l_eqRedacted, l_eqBoolS_self, l_eqIntS_self, l_eqIntSS_self, l_eqStringS_self]
theorem s_FormatInt_1_size : ∀ (n : Nat) (v : ByteArray) (x : Int), (s_FormatInt_1 n v x).size ≤ v.size + n
  | 0, v, x => by show (default : ByteArray).size ≤ _; exact Nat.zero_le _
  | n + 1, v, x => by
    simp only [s_FormatInt_1]
    cases (x != 0) with
    | false => simp
    | true =>
      simp only [cond_true]
      cases decide (x.tmod 10 < 0) <;> simp only [cond_true, cond_false] <;> refine Nat.le_trans (s_FormatInt_1_size n _ _) ?_ <;> simp <;> omega
theorem s_FormatInt_size (a0 : Int) : (s_FormatInt a0).size ≤ 24 := by
  unfold s_FormatInt
  have h := s_FormatInt_1_size 22 (⟨#[]⟩ : ByteArray) a0
  simp only [ba_size, List.size_toArray, List.length_nil] at h
  cases (a0 == 0) with
  | true => simp
  | false =>
    simp only [cond_false]
    cases decide (a0 < 0) <;> simp <;> omega
theorem i_FormatInt_1_len : ∀ (n : Nat) (x : Int) (l : List UInt8), (i_FormatInt_1 n x l).length ≤ l.length + n
  | 0, x, l => by show (default : List UInt8).length ≤ _; exact Nat.zero_le _
  | n + 1, x, l => by
    simp only [i_FormatInt_1]
    cases decide (x.tmod 10 < 0) <;> simp only [cond_true, cond_false] <;> cases (W (x.tdiv 10) == 0) <;> simp only [cond_true, cond_false]
    · refine Nat.le_trans (i_FormatInt_1_len n _ _) ?_; simp; omega
    · simp
    · refine Nat.le_trans (i_FormatInt_1_len n _ _) ?_; simp; omega
    · simp
theorem i_FormatInt_size (a0 : Int) : (i_FormatInt a0).size ≤ 24 := by
  unfold i_FormatInt
  have h := i_FormatInt_1_len 21 a0 []
  simp only [List.length_nil] at h
  cases decide (a0 < 0) <;> simp <;> omega
end Go.Mo
