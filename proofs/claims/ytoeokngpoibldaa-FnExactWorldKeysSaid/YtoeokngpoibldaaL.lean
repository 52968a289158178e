/- Plain lemmas on the models of the helpers. No condition. -/
import Derived.Test.YtoeokngpoibldaaM
namespace Go.Mo
open Go.Vm
set_option linter.unusedSimpArgs false
set_option linter.unusedVariables false
theorem l_eqMethod_self (a0 : TMethod) : l_eqMethod a0 a0 = true := by simp [l_eqMethod]
theorem l_eqMethodS_self (a0 : List TMethod) : l_eqMethodS a0 a0 = true := by
  unfold l_eqMethodS
  rw [eq_loop (F := l_eqMethodS_1 a0 a0) (L := a0.length) (c := fun v1_0 => (!(l_eqMethod (nth a0 v1_0) (nth a0 v1_0)))) (fun i => by simp [l_eqMethod_self]) (fun _ => rfl) (fun _ _ => rfl)]
  simp
theorem l_markMethodS_eq (a0 : List TMethod) (a1 : Int) : l_markMethodS a0 a1 = mkL (fun (x : TMethod) (k : Int) => ((TMethod.mk k (W (k + 1)) (W ((W (k + 1)) + 1)) (W ((W ((W (k + 1)) + 1)) + 1))), (W ((W ((W ((W (k + 1)) + 1)) + 1)) + 1)))) a0 a1 := by
  have h := mark_loop (F := l_markMethodS_1) (f := (fun (x : TMethod) (k : Int) => ((TMethod.mk k (W (k + 1)) (W ((W (k + 1)) + 1)) (W ((W ((W (k + 1)) + 1)) + 1))), (W ((W ((W ((W (k + 1)) + 1)) + 1)) + 1))))) (fun _ _ _ _ => rfl) a0 [] (a0.length + 1) a1 (by omega)
  unfold l_markMethodS
  simp only [List.length_nil, List.nil_append] at h
  rw [h]
@[simp] theorem l_markMethodS_len (a0 : List TMethod) (a1 : Int) : (l_markMethodS a0 a1).1.length = a0.length := by rw [l_markMethodS_eq, mkL_len]
theorem l_markMethodS_c : ∀ (x : TMethod) (k : Int), 0 ≤ k → k + (cn x : Nat) < 4611686018427387904 → ((fun (x : TMethod) (k : Int) => ((TMethod.mk k (W (k + 1)) (W ((W (k + 1)) + 1)) (W ((W ((W (k + 1)) + 1)) + 1))), (W ((W ((W ((W (k + 1)) + 1)) + 1)) + 1)))) x k).2 = k + (cn x : Nat) := by
  intro x k h0 h
  simp only [cn_int, cn_bool, cn_u8, cn_str, TMethod.cn_eq] at h ⊢
  have e0 : W (k + 1) = k + 1 := wrap_of (by omega) (by omega)
  have e1 : W ((W (k + 1)) + 1) = (W (k + 1)) + 1 := wrap_of (by omega) (by omega)
  have e2 : W ((W ((W (k + 1)) + 1)) + 1) = (W ((W (k + 1)) + 1)) + 1 := wrap_of (by omega) (by omega)
  have e3 : W ((W ((W ((W (k + 1)) + 1)) + 1)) + 1) = (W ((W ((W (k + 1)) + 1)) + 1)) + 1 := wrap_of (by omega) (by omega)
  omega
theorem l_markMethodS_g : ∀ (x : TMethod) (k : Int) (r : Int → Sum Int Int), 0 ≤ k → k + (cn x : Nat) < 4611686018427387904 → (fun (x : TMethod) (k : Int) (r : Int → Sum Int Int) => (bif (x.Id != k) then (.inl (-1)) else (bif (x.Known != (W (k + 1))) then (.inl (-1)) else (bif (x.Ends != (W ((W (k + 1)) + 1))) then (.inl (-1)) else (bif (x.Broken != (W ((W ((W (k + 1)) + 1)) + 1))) then (.inl (-1)) else (r (W ((W ((W ((W (k + 1)) + 1)) + 1)) + 1)))))))) ((fun (x : TMethod) (k : Int) => ((TMethod.mk k (W (k + 1)) (W ((W (k + 1)) + 1)) (W ((W ((W (k + 1)) + 1)) + 1))), (W ((W ((W ((W (k + 1)) + 1)) + 1)) + 1)))) x k).1 k r = r ((fun (x : TMethod) (k : Int) => ((TMethod.mk k (W (k + 1)) (W ((W (k + 1)) + 1)) (W ((W ((W (k + 1)) + 1)) + 1))), (W ((W ((W ((W (k + 1)) + 1)) + 1)) + 1)))) x k).2 := by
  intro x k r h0 h
  simp only [cn_int, cn_bool, cn_u8, cn_str, TMethod.cn_eq] at h
  have e0 : W (k + 1) = k + 1 := wrap_of (by omega) (by omega)
  have e1 : W ((W (k + 1)) + 1) = (W (k + 1)) + 1 := wrap_of (by omega) (by omega)
  have e2 : W ((W ((W (k + 1)) + 1)) + 1) = (W ((W (k + 1)) + 1)) + 1 := wrap_of (by omega) (by omega)
  have e3 : W ((W ((W ((W (k + 1)) + 1)) + 1)) + 1) = (W ((W ((W (k + 1)) + 1)) + 1)) + 1 := wrap_of (by omega) (by omega)
  simp
theorem l_markMethodS_cnt (a0 : List TMethod) (a1 : Int) (h0 : 0 ≤ a1) (h : a1 + (cn a0 : Nat) < 4611686018427387904) : (l_markMethodS a0 a1).2 = a1 + (cn a0 : Nat) := by
  rw [l_markMethodS_eq]
  exact mkL_snd l_markMethodS_c a0 a1 h0 h
theorem l_markMethodS_mh (a0 : List TMethod) (a1 : Int) (h0 : 0 ≤ a1) (h : a1 + (cn a0 : Nat) < 4611686018427387904) : a1 ≤ (l_markMethodS a0 a1).2 ∧ (l_markMethodS a0 a1).2 ≤ a1 + (cn a0 : Nat) ∧ l_heldMethodS (l_markMethodS a0 a1).1 a1 = (l_markMethodS a0 a1).2 := by
  rw [l_markMethodS_eq]
  have s := mkL_snd l_markMethodS_c a0 a1 h0 h
  have hh := held_loop (z := (mkL (fun (x : TMethod) (k : Int) => ((TMethod.mk k (W (k + 1)) (W ((W (k + 1)) + 1)) (W ((W ((W (k + 1)) + 1)) + 1))), (W ((W ((W ((W (k + 1)) + 1)) + 1)) + 1)))) a0 a1).1) (H := l_heldMethodS_1 (mkL (fun (x : TMethod) (k : Int) => ((TMethod.mk k (W (k + 1)) (W ((W (k + 1)) + 1)) (W ((W ((W (k + 1)) + 1)) + 1))), (W ((W ((W ((W (k + 1)) + 1)) + 1)) + 1)))) a0 a1).1) (G := (fun (x : TMethod) (k : Int) (r : Int → Sum Int Int) => (bif (x.Id != k) then (.inl (-1)) else (bif (x.Known != (W (k + 1))) then (.inl (-1)) else (bif (x.Ends != (W ((W (k + 1)) + 1))) then (.inl (-1)) else (bif (x.Broken != (W ((W ((W (k + 1)) + 1)) + 1))) then (.inl (-1)) else (r (W ((W ((W ((W (k + 1)) + 1)) + 1)) + 1))))))))) (fun _ _ _ => rfl) l_markMethodS_c l_markMethodS_g a0 [] ((mkL (fun (x : TMethod) (k : Int) => ((TMethod.mk k (W (k + 1)) (W ((W (k + 1)) + 1)) (W ((W ((W (k + 1)) + 1)) + 1))), (W ((W ((W ((W (k + 1)) + 1)) + 1)) + 1)))) a0 a1).1.length + 1) a1 (by simp) (by rw [mkL_len]; omega) h0 h
  simp only [List.length_nil] at hh
  rw [cn_list] at *
  refine ⟨by omega, by omega, ?_⟩
  unfold l_heldMethodS
  rw [hh]
theorem l_eqKey_self (a0 : TKey) : l_eqKey a0 a0 = true := by simp [l_eqKey]
theorem l_eqKeyS_self (a0 : List TKey) : l_eqKeyS a0 a0 = true := by
  unfold l_eqKeyS
  rw [eq_loop (F := l_eqKeyS_1 a0 a0) (L := a0.length) (c := fun v1_0 => (!(l_eqKey (nth a0 v1_0) (nth a0 v1_0)))) (fun i => by simp [l_eqKey_self]) (fun _ => rfl) (fun _ _ => rfl)]
  simp
theorem l_markKeyS_eq (a0 : List TKey) (a1 : Int) : l_markKeyS a0 a1 = mkL (fun (x : TKey) (k : Int) => ((TKey.mk k (W (k + 1)) (W ((W (k + 1)) + 1)) (W ((W ((W (k + 1)) + 1)) + 1)) (W ((W ((W ((W (k + 1)) + 1)) + 1)) + 1))), (W ((W ((W ((W ((W (k + 1)) + 1)) + 1)) + 1)) + 1)))) a0 a1 := by
  have h := mark_loop (F := l_markKeyS_1) (f := (fun (x : TKey) (k : Int) => ((TKey.mk k (W (k + 1)) (W ((W (k + 1)) + 1)) (W ((W ((W (k + 1)) + 1)) + 1)) (W ((W ((W ((W (k + 1)) + 1)) + 1)) + 1))), (W ((W ((W ((W ((W (k + 1)) + 1)) + 1)) + 1)) + 1))))) (fun _ _ _ _ => rfl) a0 [] (a0.length + 1) a1 (by omega)
  unfold l_markKeyS
  simp only [List.length_nil, List.nil_append] at h
  rw [h]
@[simp] theorem l_markKeyS_len (a0 : List TKey) (a1 : Int) : (l_markKeyS a0 a1).1.length = a0.length := by rw [l_markKeyS_eq, mkL_len]
theorem l_markKeyS_c : ∀ (x : TKey) (k : Int), 0 ≤ k → k + (cn x : Nat) < 4611686018427387904 → ((fun (x : TKey) (k : Int) => ((TKey.mk k (W (k + 1)) (W ((W (k + 1)) + 1)) (W ((W ((W (k + 1)) + 1)) + 1)) (W ((W ((W ((W (k + 1)) + 1)) + 1)) + 1))), (W ((W ((W ((W ((W (k + 1)) + 1)) + 1)) + 1)) + 1)))) x k).2 = k + (cn x : Nat) := by
  intro x k h0 h
  simp only [cn_int, cn_bool, cn_u8, cn_str, TKey.cn_eq] at h ⊢
  have e0 : W (k + 1) = k + 1 := wrap_of (by omega) (by omega)
  have e1 : W ((W (k + 1)) + 1) = (W (k + 1)) + 1 := wrap_of (by omega) (by omega)
  have e2 : W ((W ((W (k + 1)) + 1)) + 1) = (W ((W (k + 1)) + 1)) + 1 := wrap_of (by omega) (by omega)
  have e3 : W ((W ((W ((W (k + 1)) + 1)) + 1)) + 1) = (W ((W ((W (k + 1)) + 1)) + 1)) + 1 := wrap_of (by omega) (by omega)
  have e4 : W ((W ((W ((W ((W (k + 1)) + 1)) + 1)) + 1)) + 1) = (W ((W ((W ((W (k + 1)) + 1)) + 1)) + 1)) + 1 := wrap_of (by omega) (by omega)
  omega
theorem l_markKeyS_g : ∀ (x : TKey) (k : Int) (r : Int → Sum Int Int), 0 ≤ k → k + (cn x : Nat) < 4611686018427387904 → (fun (x : TKey) (k : Int) (r : Int → Sum Int Int) => (bif (x.Number != k) then (.inl (-1)) else (bif (x.Owner != (W (k + 1))) then (.inl (-1)) else (bif (x.Method != (W ((W (k + 1)) + 1))) then (.inl (-1)) else (bif (x.Born != (W ((W ((W (k + 1)) + 1)) + 1))) then (.inl (-1)) else (bif (x.Secret != (W ((W ((W ((W (k + 1)) + 1)) + 1)) + 1))) then (.inl (-1)) else (r (W ((W ((W ((W ((W (k + 1)) + 1)) + 1)) + 1)) + 1))))))))) ((fun (x : TKey) (k : Int) => ((TKey.mk k (W (k + 1)) (W ((W (k + 1)) + 1)) (W ((W ((W (k + 1)) + 1)) + 1)) (W ((W ((W ((W (k + 1)) + 1)) + 1)) + 1))), (W ((W ((W ((W ((W (k + 1)) + 1)) + 1)) + 1)) + 1)))) x k).1 k r = r ((fun (x : TKey) (k : Int) => ((TKey.mk k (W (k + 1)) (W ((W (k + 1)) + 1)) (W ((W ((W (k + 1)) + 1)) + 1)) (W ((W ((W ((W (k + 1)) + 1)) + 1)) + 1))), (W ((W ((W ((W ((W (k + 1)) + 1)) + 1)) + 1)) + 1)))) x k).2 := by
  intro x k r h0 h
  simp only [cn_int, cn_bool, cn_u8, cn_str, TKey.cn_eq] at h
  have e0 : W (k + 1) = k + 1 := wrap_of (by omega) (by omega)
  have e1 : W ((W (k + 1)) + 1) = (W (k + 1)) + 1 := wrap_of (by omega) (by omega)
  have e2 : W ((W ((W (k + 1)) + 1)) + 1) = (W ((W (k + 1)) + 1)) + 1 := wrap_of (by omega) (by omega)
  have e3 : W ((W ((W ((W (k + 1)) + 1)) + 1)) + 1) = (W ((W ((W (k + 1)) + 1)) + 1)) + 1 := wrap_of (by omega) (by omega)
  have e4 : W ((W ((W ((W ((W (k + 1)) + 1)) + 1)) + 1)) + 1) = (W ((W ((W ((W (k + 1)) + 1)) + 1)) + 1)) + 1 := wrap_of (by omega) (by omega)
  simp
theorem l_markKeyS_cnt (a0 : List TKey) (a1 : Int) (h0 : 0 ≤ a1) (h : a1 + (cn a0 : Nat) < 4611686018427387904) : (l_markKeyS a0 a1).2 = a1 + (cn a0 : Nat) := by
  rw [l_markKeyS_eq]
  exact mkL_snd l_markKeyS_c a0 a1 h0 h
theorem l_markKeyS_mh (a0 : List TKey) (a1 : Int) (h0 : 0 ≤ a1) (h : a1 + (cn a0 : Nat) < 4611686018427387904) : a1 ≤ (l_markKeyS a0 a1).2 ∧ (l_markKeyS a0 a1).2 ≤ a1 + (cn a0 : Nat) ∧ l_heldKeyS (l_markKeyS a0 a1).1 a1 = (l_markKeyS a0 a1).2 := by
  rw [l_markKeyS_eq]
  have s := mkL_snd l_markKeyS_c a0 a1 h0 h
  have hh := held_loop (z := (mkL (fun (x : TKey) (k : Int) => ((TKey.mk k (W (k + 1)) (W ((W (k + 1)) + 1)) (W ((W ((W (k + 1)) + 1)) + 1)) (W ((W ((W ((W (k + 1)) + 1)) + 1)) + 1))), (W ((W ((W ((W ((W (k + 1)) + 1)) + 1)) + 1)) + 1)))) a0 a1).1) (H := l_heldKeyS_1 (mkL (fun (x : TKey) (k : Int) => ((TKey.mk k (W (k + 1)) (W ((W (k + 1)) + 1)) (W ((W ((W (k + 1)) + 1)) + 1)) (W ((W ((W ((W (k + 1)) + 1)) + 1)) + 1))), (W ((W ((W ((W ((W (k + 1)) + 1)) + 1)) + 1)) + 1)))) a0 a1).1) (G := (fun (x : TKey) (k : Int) (r : Int → Sum Int Int) => (bif (x.Number != k) then (.inl (-1)) else (bif (x.Owner != (W (k + 1))) then (.inl (-1)) else (bif (x.Method != (W ((W (k + 1)) + 1))) then (.inl (-1)) else (bif (x.Born != (W ((W ((W (k + 1)) + 1)) + 1))) then (.inl (-1)) else (bif (x.Secret != (W ((W ((W ((W (k + 1)) + 1)) + 1)) + 1))) then (.inl (-1)) else (r (W ((W ((W ((W ((W (k + 1)) + 1)) + 1)) + 1)) + 1)))))))))) (fun _ _ _ => rfl) l_markKeyS_c l_markKeyS_g a0 [] ((mkL (fun (x : TKey) (k : Int) => ((TKey.mk k (W (k + 1)) (W ((W (k + 1)) + 1)) (W ((W ((W (k + 1)) + 1)) + 1)) (W ((W ((W ((W (k + 1)) + 1)) + 1)) + 1))), (W ((W ((W ((W ((W (k + 1)) + 1)) + 1)) + 1)) + 1)))) a0 a1).1.length + 1) a1 (by simp) (by rw [mkL_len]; omega) h0 h
  simp only [List.length_nil] at hh
  rw [cn_list] at *
  refine ⟨by omega, by omega, ?_⟩
  unfold l_heldKeyS
  rw [hh]
end Go.Mo
