/- Plain lemmas on the models of the helpers. No condition. -/
import Derived.Test.YtoeokngpoibldaaM
namespace Go.Mo
open Go.Vm
set_option linter.unusedSimpArgs false
set_option linter.unusedVariables false
theorem l_toStamp_id (a0 : TStamp) : l_toStamp a0 = a0 := by cases a0; simp [l_toStamp]
theorem l_eqMethod_self (a0 : TMethod) : l_eqMethod a0 a0 = true := by simp [l_eqMethod]
theorem l_eqMethodS_self (a0 : List TMethod) : l_eqMethodS a0 a0 = true := by
  unfold l_eqMethodS
  rw [eq_loop (F := l_eqMethodS_1 a0 a0) (L := a0.length) (c := fun v1_0 => (!(l_eqMethod (nth a0 v1_0) (nth a0 v1_0)))) (fun i => by simp [l_eqMethod_self]) (fun _ => rfl) (fun _ _ => rfl)]
  simp
theorem l_eqKey_self (a0 : TKey) : l_eqKey a0 a0 = true := by simp [l_eqKey]
theorem l_eqKeyS_self (a0 : List TKey) : l_eqKeyS a0 a0 = true := by
  unfold l_eqKeyS
  rw [eq_loop (F := l_eqKeyS_1 a0 a0) (L := a0.length) (c := fun v1_0 => (!(l_eqKey (nth a0 v1_0) (nth a0 v1_0)))) (fun i => by simp [l_eqKey_self]) (fun _ => rfl) (fun _ _ => rfl)]
  simp
theorem l_szStepS_sm : SzOk l_szStepS := sz_flat (fun _ _ => trivial) (fun _ _ => rfl)
theorem l_szStampS_sm : SzOk l_szStampS := sz_flat (fun _ _ => trivial) (fun _ _ => rfl)
theorem l_szRenewal_sm : SzOk l_szRenewal := by
  intro a0 a1 hm h0 hn h
  unfold l_szRenewal at h ⊢
  by_cases c0 : (l_szStepS a0.Path a1) < 0
  · simp [c0] at h
  obtain ⟨s0, t0⟩ := l_szStepS_sm a0.Path a1 (by simp [hm]) (by omega) (by omega) c0
  by_cases c1 : (l_szStampS a0.Stamps (l_szStepS a0.Path a1)) < 0
  · simp [c1, c0] at h
  obtain ⟨s1, t1⟩ := l_szStampS_sm a0.Stamps (l_szStepS a0.Path a1) (by simp [hm]) (by omega) (by omega) c1
  simp only [c0, c1, decide_false, cond_false] at h ⊢
  exact ⟨⟨s0, s1⟩, t1⟩
theorem l_toStep_id (a0 : TStep) : l_toStep a0 = a0 := by cases a0; simp [l_toStep]
theorem l_toStepS_id (a0 : List TStep) : l_toStepS a0 = a0 := to_loop (F := l_toStepS_1 a0) (g := l_toStep) l_toStep_id (fun _ _ _ => rfl) _ 0 _ (by simp) (by omega) (by omega) (fun j h => by omega)
theorem l_toStampS_id (a0 : List TStamp) : l_toStampS a0 = a0 := to_loop (F := l_toStampS_1 a0) (g := l_toStamp) l_toStamp_id (fun _ _ _ => rfl) _ 0 _ (by simp) (by omega) (by omega) (fun j h => by omega)
theorem l_toRenewal_id (a0 : TRenewal) : l_toRenewal a0 = a0 := by cases a0; simp [l_toRenewal, l_toStampS_id, l_toStepS_id]
theorem l_eqStep_self (a0 : TStep) : l_eqStep a0 a0 = true := by simp [l_eqStep]
theorem l_eqStepS_self (a0 : List TStep) : l_eqStepS a0 a0 = true := by
  unfold l_eqStepS
  rw [eq_loop (F := l_eqStepS_1 a0 a0) (L := a0.length) (c := fun v1_0 => (!(l_eqStep (nth a0 v1_0) (nth a0 v1_0)))) (fun i => by simp [l_eqStep_self]) (fun _ => rfl) (fun _ _ => rfl)]
  simp
theorem l_eqStamp_self (a0 : TStamp) : l_eqStamp a0 a0 = true := by simp [l_eqStamp]
theorem l_eqStampS_self (a0 : List TStamp) : l_eqStampS a0 a0 = true := by
  unfold l_eqStampS
  rw [eq_loop (F := l_eqStampS_1 a0 a0) (L := a0.length) (c := fun v1_0 => (!(l_eqStamp (nth a0 v1_0) (nth a0 v1_0)))) (fun i => by simp [l_eqStamp_self]) (fun _ => rfl) (fun _ _ => rfl)]
  simp
theorem l_eqRenewal_self (a0 : TRenewal) : l_eqRenewal a0 a0 = true := by simp [l_eqRenewal, l_eqStampS_self, l_eqStepS_self]
theorem l_szStringS_sm : SzOk l_szStringS := sz_loop sz_string (G := l_szStringS_1) (fun _ _ _ _ => rfl) (fun _ _ => rfl)
theorem l_szIntS_sm : SzOk l_szIntS := sz_flat (fun _ _ => trivial) (fun _ _ => rfl)
theorem l_szDocument_sm : SzOk l_szDocument := by
  intro a0 a1 hm h0 hn h
  unfold l_szDocument at h ⊢
  by_cases c0 : (l_szStringS a0.Parts a1) < 0
  · simp [c0] at h
  obtain ⟨s0, t0⟩ := l_szStringS_sm a0.Parts a1 (by simp [hm]) (by omega) (by omega) c0
  by_cases c1 : (l_szIntS a0.Salts (l_szStringS a0.Parts a1)) < 0
  · simp [c1, c0] at h
  obtain ⟨s1, t1⟩ := l_szIntS_sm a0.Salts (l_szStringS a0.Parts a1) (by simp [hm]) (by omega) (by omega) c1
  simp only [c0, c1, decide_false, cond_false] at h ⊢
  exact ⟨⟨s0, s1⟩, t1⟩
theorem l_szEvent_sm : SzOk l_szEvent := by
  intro a0 a1 hm h0 hn h
  unfold l_szEvent at h ⊢
  by_cases c0 : (l_szDocument a0.Doc a1) < 0
  · simp [c0] at h
  obtain ⟨s0, t0⟩ := l_szDocument_sm a0.Doc a1 (by simp [hm]) (by omega) (by omega) c0
  by_cases c1 : (l_szIntS a0.Ids (l_szDocument a0.Doc a1)) < 0
  · simp [c1, c0] at h
  obtain ⟨s1, t1⟩ := l_szIntS_sm a0.Ids (l_szDocument a0.Doc a1) (by simp [hm]) (by omega) (by omega) c1
  simp only [c0, c1, decide_false, cond_false] at h ⊢
  exact ⟨⟨s0, s1⟩, t1⟩
theorem l_szEventS_sm : SzOk l_szEventS := sz_loop l_szEvent_sm (G := l_szEventS_1) (fun _ _ _ _ => rfl) (fun _ _ => rfl)
theorem l_toStringS_id (a0 : List ByteArray) : l_toStringS a0 = a0 := to_loop (F := l_toStringS_1 a0) (g := (fun x => x)) (fun _ => rfl) (fun _ _ _ => rfl) _ 0 _ (by simp) (by omega) (by omega) (fun j h => by omega)
theorem l_toIntS_id (a0 : List Int) : l_toIntS a0 = a0 := to_loop (F := l_toIntS_1 a0) (g := (fun x => x)) (fun _ => rfl) (fun _ _ _ => rfl) _ 0 _ (by simp) (by omega) (by omega) (fun j h => by omega)
theorem l_toDocument_id (a0 : TDocument) : l_toDocument a0 = a0 := by cases a0; simp [l_toDocument, l_toIntS_id, l_toStringS_id]
theorem l_toEvent_id (a0 : TEvent) : l_toEvent a0 = a0 := by cases a0; simp [l_toEvent, l_toDocument_id, l_toIntS_id]
theorem l_toEventS_id (a0 : List TEvent) : l_toEventS a0 = a0 := to_loop (F := l_toEventS_1 a0) (g := l_toEvent) l_toEvent_id (fun _ _ _ => rfl) _ 0 _ (by simp) (by omega) (by omega) (fun j h => by omega)
theorem l_eqStringS_self (a0 : List ByteArray) : l_eqStringS a0 a0 = true := by
  unfold l_eqStringS
  rw [eq_loop (F := l_eqStringS_1 a0 a0) (L := a0.length) (c := fun v1_0 => (!decide ((nth a0 v1_0) = (nth a0 v1_0)))) (fun i => by simp) (fun _ => rfl) (fun _ _ => rfl)]
  simp
theorem l_eqIntS_self (a0 : List Int) : l_eqIntS a0 a0 = true := by
  unfold l_eqIntS
  rw [eq_loop (F := l_eqIntS_1 a0 a0) (L := a0.length) (c := fun v1_0 => ((nth a0 v1_0) != (nth a0 v1_0))) (fun i => by simp) (fun _ => rfl) (fun _ _ => rfl)]
  simp
theorem l_eqDocument_self (a0 : TDocument) : l_eqDocument a0 a0 = true := by simp [l_eqDocument, l_eqIntS_self, l_eqStringS_self]
theorem l_eqEvent_self (a0 : TEvent) : l_eqEvent a0 a0 = true := by simp [l_eqEvent, l_eqDocument_self, l_eqIntS_self]
theorem l_eqEventS_self (a0 : List TEvent) : l_eqEventS a0 a0 = true := by
  unfold l_eqEventS
  rw [eq_loop (F := l_eqEventS_1 a0 a0) (L := a0.length) (c := fun v1_0 => (!(l_eqEvent (nth a0 v1_0) (nth a0 v1_0)))) (fun i => by simp [l_eqEvent_self]) (fun _ => rfl) (fun _ _ => rfl)]
  simp
theorem s_FormatInt_1_size : ∀ (n : Nat) (v : ByteArray) (x : Int), (s_FormatInt_1 n v x).size ≤ v.size + n
  | 0, v, x => by show (default : ByteArray).size ≤ _; exact Nat.zero_le _
  | n + 1, v, x => by
    simp only [s_FormatInt_1]
    cases (x != 0) with
    | false => simp
    | true =>
      simp only [cond_true]
      cases decide (x.tmod 10 < 0) <;> simp only [cond_true, cond_false] <;> refine Nat.le_trans (s_FormatInt_1_size n _ _) ?_ <;> simp <;> omega
theorem s_FormatInt_size (a0 : Int) : (s_FormatInt a0).size ≤ 24 := by
  unfold s_FormatInt
  have h := s_FormatInt_1_size 22 (⟨#[]⟩ : ByteArray) a0
  simp only [ba_size, List.size_toArray, List.length_nil] at h
  cases (a0 == 0) with
  | true => simp
  | false =>
    simp only [cond_false]
    cases decide (a0 < 0) <;> simp <;> omega
theorem i_FormatInt_1_len : ∀ (n : Nat) (x : Int) (l : List UInt8), (i_FormatInt_1 n x l).length ≤ l.length + n
  | 0, x, l => by show (default : List UInt8).length ≤ _; exact Nat.zero_le _
  | n + 1, x, l => by
    simp only [i_FormatInt_1]
    cases decide (x.tmod 10 < 0) <;> simp only [cond_true, cond_false] <;> cases (W (x.tdiv 10) == 0) <;> simp only [cond_true, cond_false]
    · refine Nat.le_trans (i_FormatInt_1_len n _ _) ?_; simp; omega
    · simp
    · refine Nat.le_trans (i_FormatInt_1_len n _ _) ?_; simp; omega
    · simp
theorem i_FormatInt_size (a0 : Int) : (i_FormatInt a0).size ≤ 24 := by
  unfold i_FormatInt
  have h := i_FormatInt_1_len 21 a0 []
  simp only [List.length_nil] at h
  cases decide (a0 < 0) <;> simp <;> omega
end Go.Mo
