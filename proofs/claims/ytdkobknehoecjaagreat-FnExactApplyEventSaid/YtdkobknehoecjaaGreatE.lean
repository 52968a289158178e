/- The models of the program and of the reference agree. No condition. -/
import Derived.Test.YtdkobknehoecjaaGreatL
namespace Go.Mo
open Go.Vm
set_option linter.unusedSimpArgs false
set_option linter.unusedVariables false
theorem cond_neg (x : Int) {α : Type} (a b : α) : (bif decide (x < 0) then a else b) = (bif decide (0 <= x) then b else a) := by
  by_cases h : x < 0
  · rw [show decide (x < 0) = true by simpa using h, show decide (0 <= x) = false by simpa using h]; rfl
  · rw [show decide (x < 0) = false by simpa using h, show decide (0 <= x) = true by simp; omega]; rfl
/-- a loop that looks whether one of the places is bad -/
theorem Bz {L : Nat -> Nat -> Sum Bool Unit} {len : Nat} {c : Nat -> Bool} (h0 : ∀ v, L 0 v = .inr ()) (hs : ∀ n v, L (n + 1) v = (bif decide ((v : Int) < (len : Int)) then (bif c v then .inl false else L n (v + 1)) else .inr ())) :
    ∀ n v, len < n + v -> (L n v = .inr () /\ ∀ i, v <= i -> i < len -> c i = false) \/ (L n v = .inl false /\ ∃ i, v <= i /\ i < len /\ c i = true)
  | 0, v, h => .inl ⟨h0 v, fun i h1 h2 => by omega⟩
  | n + 1, v, h => by
    rw [hs]
    by_cases hv : v < len
    · rw [show decide ((v : Int) < (len : Int)) = true by simpa using hv]
      cases hc : c v with
      | true => exact .inr ⟨rfl, v, Nat.le_refl _, hv, hc⟩
      | false =>
        rcases Bz h0 hs n (v + 1) (by omega) with ⟨e, k⟩ | ⟨e, i, k1, k2, k3⟩
        · refine .inl ⟨e, fun i h1 h2 => ?_⟩
          rcases Nat.eq_or_lt_of_le h1 with rfl | h1
          · exact hc
          · exact k i h1 h2
        · exact .inr ⟨e, i, by omega, k2, k3⟩
    · rw [show decide ((v : Int) < (len : Int)) = false by simpa using hv]
      exact .inl ⟨rfl, fun i h1 h2 => by omega⟩
/-- a loop that looks for the first place -/
theorem kP {β : Type} {L : Nat -> Nat -> Sum β Unit} {len : Nat} {c : Nat -> Bool} {r : Nat -> β} (h0 : ∀ v, L 0 v = .inr ()) (hs : ∀ n v, L (n + 1) v = (bif decide ((v : Int) < (len : Int)) then (bif c v then .inl (r v) else L n (v + 1)) else .inr ())) :
    ∀ n v, len < n + v -> (L n v = .inr () /\ ∀ i, v <= i -> i < len -> c i = false) \/ (∃ i, L n v = .inl (r i) /\ v <= i /\ i < len /\ c i = true /\ ∀ k, v <= k -> k < i -> c k = false)
  | 0, v, h => .inl ⟨h0 v, fun i h1 h2 => by omega⟩
  | n + 1, v, h => by
    rw [hs]
    by_cases hv : v < len
    · rw [show decide ((v : Int) < (len : Int)) = true by simpa using hv]
      cases hc : c v with
      | true => exact .inr ⟨v, rfl, Nat.le_refl _, hv, hc, fun k h1 h2 => by omega⟩
      | false =>
        rcases kP h0 hs n (v + 1) (by omega) with ⟨e, k⟩ | ⟨i, e, k1, k2, k3, k4⟩
        · refine .inl ⟨e, fun i h1 h2 => ?_⟩
          rcases Nat.eq_or_lt_of_le h1 with rfl | h1
          · exact hc
          · exact k i h1 h2
        · refine .inr ⟨i, e, by omega, k2, k3, fun k h1 h2 => ?_⟩
          rcases Nat.eq_or_lt_of_le h1 with rfl | h1
          · exact hc
          · exact k4 k h1 h2
    · rw [show decide ((v : Int) < (len : Int)) = false by simpa using hv]
      exact .inl ⟨rfl, fun i h1 h2 => by omega⟩
/-- the same, as a Boolean -/
theorem xx {L : Nat -> Nat -> Sum Bool Unit} {len : Nat} {c : Nat -> Bool} (h0 : ∀ v, L 0 v = .inr ()) (hs : ∀ n v, L (n + 1) v = (bif decide ((v : Int) < (len : Int)) then (bif c v then .inl false else L n (v + 1)) else .inr ())) (n v : Nat) (h : len < n + v) (X : Bool) :
    (match L n v with | .inl r => r | .inr _ => X) = true ↔ (∀ i, v <= i -> i < len -> c i = false) /\ X = true := by
  rcases Bz h0 hs n v h with ⟨e, k⟩ | ⟨e, i, k1, k2, k3⟩
  · rw [e]; simp only; exact ⟨fun hx => ⟨k, hx⟩, fun hx => hx.2⟩
  · rw [e]; simp only
    constructor
    · intro hx; cases hx
    · intro hx; rw [hx.1 i k1 k2] at k3; cases k3
theorem E7 {L : Nat -> Nat -> Sum Bool Unit} {len : Nat} {c : Nat -> Bool} (h0 : ∀ v, L 0 v = .inr ()) (hs : ∀ n v, L (n + 1) v = (bif decide ((v : Int) < (len : Int)) then (bif c v then .inl true else L n (v + 1)) else .inr ())) (n v : Nat) (h : len < n + v) :
    (match L n v with | .inl r => r | .inr _ => false) = true ↔ ∃ i, v <= i /\ i < len /\ c i = true := by
  rcases kP (r := fun _ => true) h0 hs n v h with ⟨e, k⟩ | ⟨i, e, k1, k2, k3, k4⟩
  · rw [e]; simp only
    constructor
    · intro hx; cases hx
    · rintro ⟨i, h1, h2, h3⟩; rw [k i h1 h2] at h3; cases h3
  · rw [e]; exact ⟨fun _ => ⟨i, k1, k2, k3⟩, fun _ => rfl⟩
theorem Bt {α : Type} [Inhabited α] {l : List α} {i n : Nat} (h : i < n) : nth (l.take n) i = nth l i := by
  unfold nth; simp [List.getD_eq_getElem?_getD, List.getElem?_take, h]
@[simp] theorem Wz (a0 a1 a2 : Int) : YL a0 a1 a2 = Zp a0 a1 a2 := rfl
@[simp] theorem nE (a0 a1 : Int) : Pd a0 a1 = if a1 > a0 then a1 else a0 := by
  unfold Pd; by_cases h : a1 > a0 <;> simp [h]
@[simp] theorem ou (a0 a1 : Int) : NP a0 a1 = if a1 < a0 then a1 else a0 := by
  unfold NP; by_cases h : a1 < a0 <;> simp [h]
@[simp] theorem sn (a0 : ZJ) (a1 : Int) : qn a0 a1 = yQ a0 a1 := by simp [qn, yQ]
theorem Er (a0 : ZJ) (a1 : Int) (h : cn a0 <= 33554464) : cn (yQ a0 a1).1 <= 1152921504606846976 := by
  have e : cn (yQ a0 a1).1 = cn a0 := Zm (p := fun (r : ZJ × Bool) => cn r.1 = cn a0) rfl rfl
  omega
@[simp] theorem tH (a0 : List YR) (a1 : Int) : ∀ (n : Nat) (v0 : Nat), qz a0 a1 n v0 = jG a0 a1 n v0 := by
  intro n
  induction n with
  | zero => intros; rfl
  | succ n ih => intros; simp [qz, jG, ih, ByteArray.append_assoc]
@[simp] theorem Wb (a0 : List YR) (a1 : Int) : Yd a0 a1 = YH a0 a1 := by simp [Yd, YH]
@[simp] theorem vk (a0 : List Zf) (a1 : Int) : ∀ (n : Nat) (v0 : Int) (v1 : Nat), zu a0 a1 n v0 v1 = zw a0 a1 n v0 v1 := by
  intro n
  induction n with
  | zero => intros; rfl
  | succ n ih => intros; simp [zu, zw, ih, ByteArray.append_assoc]
@[simp] theorem K2 (a0 : List Zf) (a1 : Int) : Zh a0 a1 = ZP a0 a1 := by simp [Zh, ZP]
@[simp] theorem WA (a0 : ZJ) (a1 : Int) : Qi a0 a1 = YU a0 a1 := by simp [Qi, YU]
@[simp] theorem uv (a0 : ZV) : zJ a0 = zE a0 := by
  rw [Bool.eq_iff_iff]
  have hs : zJ a0 = true ↔ _ := (xx (L := zi a0) (fun _ => rfl) (fun _ _ => rfl) (a0.ZN.length + 1) 0 (by omega) _).trans (and_congr_right fun _ => xx (L := z3 a0) (fun _ => rfl) (fun _ _ => rfl) (a0.ZR.length + 1) 0 (by omega) _)
  rw [hs]
  unfold zE
  have hi : ∀ b : Bool, (bif b then false else (match zm a0 (a0.ZN.length + 1) 0 with | .inl r1 => r1 | .inr _ => true)) = true ↔ b = false /\ _ := fun b => by
    cases b
    · exact (xx (L := zm a0) (fun _ => rfl) (fun _ _ => rfl) (a0.ZN.length + 1) 0 (by omega) true).trans (by simp only [true_and, and_true]; exact Iff.rfl)
    · simp
  refine Iff.trans ?_ (hi _).symm
  simp only [Wz, Bool.or_eq_false_iff, Bool.not_eq_false', Bool.and_eq_true, beq_iff_eq, bne_eq_false_iff_eq, Bool.not_eq_eq_eq_not, Bool.not_false]
  constructor
  · rintro ⟨h1, h2, h3, h4⟩
    exact ⟨⟨h3, h4⟩, fun i _ hi => ⟨h1 i (Nat.zero_le _) hi, h2 i (Nat.zero_le _) (by omega)⟩⟩
  · rintro ⟨⟨h3, h4⟩, h⟩
    exact ⟨fun i _ hi => (h i (Nat.zero_le _) hi).1, fun i _ hi => (h i (Nat.zero_le _) (by omega)).2, h3, h4⟩
@[simp] theorem nV (a0 : Int) (a1 : Int) : B5 a0 a1 = Al a0 a1 := by simp [B5, Al]
@[simp] theorem pN (a0 : List Int) : ∀ (n : Nat) (v0 : Int) (v1 : Nat), RN a0 n v0 v1 = RC a0 n v0 v1 := by
  intro n
  induction n with
  | zero => intros; rfl
  | succ n ih => intros; simp [RN, RC, ih, ByteArray.append_assoc]
@[simp] theorem oV (a0 : List Int) : MF a0 = Mq a0 := by simp [MF, Mq]
@[simp] theorem Fe (a0 : Int) (a1 : List Int) : KH a0 a1 = KK a0 a1 := by simp [KH, KK]
theorem NF (a1 : ByteArray) : ∀ (n : Nat) (p l : List Int) (v : Nat), a1.size < n + v -> v <= a1.size -> yw a1 n (p ++ l) v = p ++ xQ a1.data.toList n l v := by
  intro n
  induction n with
  | zero =>
    intro p l v h hv
    omega
  | succ n ih =>
    intro p l v h ef
    have hs : a1.size = a1.data.toList.length := (Array.length_toList).symm
    rw [yw, xQ, <- hs]
    by_cases hv : v < a1.size
    · rw [show decide ((v : Int) < (a1.size : Int)) = true by simpa using hv]
      simp only [cond_true]
      rw [List.append_assoc, ih p _ (v + 1) (by omega) (by omega)]
      rfl
    · rw [show decide ((v : Int) < (a1.size : Int)) = false by simpa using hv]
      rfl
@[simp] theorem uo (a0 : Int) (a1 : ByteArray) (a2 : Int) : jc a0 a1 a2 = jU a0 a1 a2 := by
  have := NF a1 (a1.size + 1) [a2] [] 0 (by omega) (by omega)
  simp only [List.append_nil] at this
  simp only [jc, jU, kA, this, Fe]
  rfl
@[simp] theorem v8 (a0 : Int) (a1 : ZV) : ∀ (n : Nat) (v0 : List Int) (v1 : Nat), qR a0 a1 n v0 v1 = qI a0 a1 n v0 v1 := by
  intro n
  induction n with
  | zero => intros; rfl
  | succ n ih => intros; simp [qR, qI, ih, ByteArray.append_assoc]
@[simp] theorem Rr (a0 : Int) (a1 : ZV) : Qq a0 a1 = Ya a0 a1 := by simp [Qq, Ya]
@[simp] theorem we (a0 : ZY) : QY a0 = X8 a0 := by simp [QY, X8]
@[simp] theorem tw (a0 : Int) (a1 : List Int) : kr a0 a1 = ko a0 a1 := by simp [kr, ko]
@[simp] theorem sc (a0 : YR) (a1 : List Int) : qg a0 a1 = W4 a0 a1 := by simp [qg, W4]
@[simp] theorem uN (a0 : ZY) : qN a0 = qT a0 := by simp [qN, qT]
@[simp] theorem IA (a0 : List YR) (a1 : ZY) : KT a0 a1 = Y6 a0 a1 := by
  by_cases h : YH a0 a1.Key < 0 <;> simp [KT, Y6, ya, h]
@[simp] theorem FD (a0 : ZY) : z6 a0 = QP a0 := by simp [z6, QP]
@[simp] theorem ss (a0 : Z1) : y8 a0 = xd a0 := by simp [y8, xd]
@[simp] theorem Hi (a0 : Z1) : qy a0 = JK a0 := by simp [qy, JK]
@[simp] theorem uh (a0 : ZD) (a1 : Int) : ∀ (n : Nat) (v0 : Nat), qA a0 a1 n v0 = yO a0 a1 n v0 := by
  intro n
  induction n with
  | zero => intros; rfl
  | succ n ih => intros; simp [qA, yO, ih, ByteArray.append_assoc]
@[simp] theorem Ua (a0 : ZD) (a1 : Int) : Yk a0 a1 = ZW a0 a1 := by simp [Yk, ZW]
@[simp] theorem pA (a0 : Int) : TK a0 = TP a0 := rfl
@[simp] theorem sQ (a0 a1 : List Int) : UC a0 a1 = decide (a0 = a1) := pD (F := kX a0 a1) (c := fun i => (nth a0 i) != (nth a1 i)) (fun i => by simp [bne, Bool.beq_eq_decide_eq]) (fun _ => rfl) (fun _ _ => rfl)
@[simp] theorem sK (a0 a1 : List Int) : UI a0 a1 = decide (a0 = a1) := pD (F := kg a0 a1) (c := fun i => (nth a0 i) != (nth a1 i)) (fun i => by simp [bne, Bool.beq_eq_decide_eq]) (fun _ => rfl) (fun _ _ => rfl)
@[simp] theorem uY (a0 a1 : ZO) : yf a0 a1 = decide (a0 = a1) := by
  obtain ⟨t, p, s⟩ := a0; obtain ⟨t', p', s'⟩ := a1
  by_cases h1 : t = t' <;> by_cases h2 : p = p' <;> by_cases h3 : s = s' <;> simp_all [yf]
@[simp] theorem vz (a0 a1 : ZO) : yk a0 a1 = decide (a0 = a1) := by
  obtain ⟨t, p, s⟩ := a0; obtain ⟨t', p', s'⟩ := a1
  by_cases h1 : t = t' <;> by_cases h2 : p = p' <;> by_cases h3 : s = s' <;> simp_all [yk]
theorem SL (a0 : Za) {k : Nat} (hk : k < a0.ZL.length) : decide (jI a0 (nth a0.ZL k) < (k : Int)) = VL (a0.ZL.take k) (nth a0.ZL k) := by
  rw [Bool.eq_iff_iff]
  have hi : VL (a0.ZL.take k) (nth a0.ZL k) = true ↔ _ := E7 (L := WZ (a0.ZL.take k) (nth a0.ZL k)) (fun _ => rfl) (fun _ _ => rfl) _ 0 (by omega)
  rw [hi]
  unfold jI
  have hl : (a0.ZL.take k).length = k := by simp; omega
  rw [hl]
  rcases kP (L := kd a0 (nth a0.ZL k)) (r := fun i => (i : Int)) (fun _ => rfl) (fun _ _ => rfl) (a0.ZL.length + 1) 0 (by omega) with ⟨e, p⟩ | ⟨i, e, p1, p2, p3, p4⟩
  · have := p k (Nat.zero_le _) hk
    simp at this
  · rw [e]
    simp only [decide_eq_true_eq]
    constructor
    · intro h
      exact ⟨i, Nat.zero_le _, by omega, by rw [Bt (by omega)]; simpa using p3⟩
    · rintro ⟨j, _, hj, hc⟩
      rw [Bt hj] at hc
      rcases Nat.lt_or_ge j i with h | h
      · have := p4 j (Nat.zero_le _) h; simp at this hc; exact absurd hc this
      · omega
@[simp] theorem sa (a0 : Za) : yX a0 = zX a0 := by
  rw [Bool.eq_iff_iff]
  have hs : yX a0 = true ↔ _ := (xx (L := xi a0) (fun _ => rfl) (fun _ _ => rfl) (a0.ZL.length + 1) 0 (by omega) _).trans (and_congr_right fun _ => xx (L := xp a0) (fun _ => rfl) (fun _ _ => rfl) (a0.Zd.length + 1) 0 (by omega) _)
  rw [hs]
  unfold zX
  have hi : ∀ b : Bool, (bif b then false else (match xz a0 (a0.ZL.length + 1) 0 with | .inl r1 => r1 | .inr _ => (match qC a0 (a0.Zd.length + 1) 0 with | .inl r2 => r2 | .inr _ => true))) = true ↔ b = false /\ _ := fun b => by
    cases b
    · exact ((xx (L := xz a0) (fun _ => rfl) (fun _ _ => rfl) (a0.ZL.length + 1) 0 (by omega) _).trans (and_congr_right fun _ => xx (L := qC a0) (fun _ => rfl) (fun _ _ => rfl) (a0.Zd.length + 1) 0 (by omega) true)).trans (by simp only [true_and, and_true]; exact Iff.rfl)
    · simp
  refine Iff.trans ?_ (hi _).symm
  simp only [Wz, Bool.or_eq_false_iff, Bool.not_eq_false', Bool.and_eq_true, Bool.not_eq_eq_eq_not, Bool.not_false]
  constructor
  · rintro ⟨h1, h2, h3, h4⟩
    exact ⟨⟨h3, by simpa using h4⟩, fun i hz hi => by rw [<- SL a0 hi]; exact h1 i hz hi, fun i hz hi => by simpa using h2 i hz hi⟩
  · rintro ⟨⟨h3, h4⟩, h1, h2⟩
    exact ⟨fun i hz hi => by rw [SL a0 hi]; exact h1 i hz hi, fun i hz hi => by simpa using h2 i hz hi, h3, by simpa using h4⟩
@[simp] theorem pT (a0 : ZM) : Uq a0 = Ur a0 := by simp [Uq, Ur]
@[simp] theorem v3 (a0 : ZD) : ∀ (n : Nat) (v0 : Nat), qL a0 n v0 = qO a0 n v0 := by
  intro n
  induction n with
  | zero => intros; rfl
  | succ n ih => intros; simp [qL, qO, ih, ByteArray.append_assoc]
@[simp] theorem Ru (a0 : ZD) : JG a0 = Ji a0 := by simp [JG, Ji]
theorem NX {l : List ZM} {i : Nat} (h : i < l.length) : l.drop i = nth l i :: l.drop (i + 1) := by
  rw [List.drop_eq_getElem_cons h]; simp [nth, List.getD_eq_getElem?_getD, List.getElem?_eq_getElem h]
theorem pO (a0 : ZD) (a1 : ZM) : ∀ (m i : Nat) (l : List ZM), a0.ZF.length < m + i -> i <= a0.ZF.length -> QN a0 a1 m true i l = (true, l ++ a0.ZF.drop i)
  | 0, i, l, h, hi => by omega
  | m + 1, i, l, h, hi => by
    simp only [QN]
    cases hc : decide ((i : Int) < (a0.ZF.length : Int)) with
    | false =>
      have : ¬ i < a0.ZF.length := by simpa using hc
      simp only [cond_false]; rw [List.drop_eq_nil_of_le (by omega)]; simp
    | true =>
      have lN : i < a0.ZF.length := by simpa using hc
      simp only [cond_true, Bool.not_true, Bool.false_and, cond_false]
      rw [pO a0 a1 m (i + 1) _ (by omega) lN, NX lN]; simp
theorem pQ (a0 : ZD) (a1 : ZM) (lD : ∀ k, k < a0.ZF.length -> (nth a0.ZF k).Id ≠ a1.Id) : ∀ (m i : Nat) (l : List ZM), a0.ZF.length < m + i -> i <= a0.ZF.length ->
    i <= Y9 a0 a1 m i /\ Y9 a0 a1 m i <= a0.ZF.length /\
    QN a0 a1 m false i l = (bif decide (Y9 a0 a1 m i < a0.ZF.length) then (true, l ++ (a0.ZF.take (Y9 a0 a1 m i)).drop i ++ [a1] ++ a0.ZF.drop (Y9 a0 a1 m i)) else (false, l ++ a0.ZF.drop i))
  | 0, i, l, h, hi => by omega
  | m + 1, i, l, h, hi => by
    by_cases lN : i < a0.ZF.length
    · have hc : decide ((i : Int) < (a0.ZF.length : Int)) = true := by simpa using lN
      have hn := lD i lN
      by_cases bn : a1.Id < (nth a0.ZF i).Id
      · have e1 : Y9 a0 a1 (m + 1) i = i := by
          simp only [Y9, hc, show decide ((nth a0.ZF i).Id < a1.Id) = false by simp; omega, Bool.true_and, cond_false]
        rw [e1]
        refine ⟨Nat.le_refl _, by omega, ?_⟩
        simp only [QN, hc, show decide (a1.Id < (nth a0.ZF i).Id) = true by simpa using bn, Bool.not_false, Bool.true_and, cond_true]
        rw [pO a0 a1 m (i + 1) _ (by omega) lN, show decide (i < a0.ZF.length) = true by simpa using lN, NX lN, List.drop_eq_nil_of_le (as := a0.ZF.take i) (by rw [List.length_take]; omega)]
        simp
      · have h2 : (nth a0.ZF i).Id < a1.Id := by omega
        have e1 : Y9 a0 a1 (m + 1) i = Y9 a0 a1 m (i + 1) := by
          simp only [Y9, hc, show decide ((nth a0.ZF i).Id < a1.Id) = true by simpa using h2, Bool.true_and, cond_true]
        rw [e1]
        obtain ⟨k1, k2, k3⟩ := pQ a0 a1 lD m (i + 1) (l ++ [nth a0.ZF i]) (by omega) lN
        refine ⟨by omega, k2, ?_⟩
        simp only [QN, hc, show decide (a1.Id < (nth a0.ZF i).Id) = false by simpa using bn, Bool.not_false, Bool.true_and, cond_true, cond_false]
        rw [k3]
        have ht : (a0.ZF.take (Y9 a0 a1 m (i + 1))).drop i = nth a0.ZF i :: (a0.ZF.take (Y9 a0 a1 m (i + 1))).drop (i + 1) := by
          have di : i < (a0.ZF.take (Y9 a0 a1 m (i + 1))).length := by simp; omega
          rw [NX di]
          congr 1
          simp only [nth, List.getD_eq_getElem?_getD]
          rw [List.getElem?_take_of_lt (by omega)]
        rw [ht, NX lN]
        cases decide (Y9 a0 a1 m (i + 1) < a0.ZF.length) <;> simp
    · have hc : decide ((i : Int) < (a0.ZF.length : Int)) = false := by simpa using lN
      have e1 : Y9 a0 a1 (m + 1) i = i := by simp only [Y9, hc, Bool.false_and, cond_false]
      rw [e1]
      refine ⟨Nat.le_refl _, by omega, ?_⟩
      simp only [QN, hc, cond_false]
      rw [show decide (i < a0.ZF.length) = false by simpa using lN, List.drop_eq_nil_of_le (as := a0.ZF.take i) (by rw [List.length_take]; omega)]; simp; omega
theorem L7 {a0 : ZD} {s : Int} (h : ZW a0 s < 0) : ∀ k, k < a0.ZF.length -> (nth a0.ZF k).Id ≠ s := by
  unfold ZW at h
  intro k hk
  rcases kP (β := Int) (L := yO a0 s) (len := a0.ZF.length) (c := fun v => (nth a0.ZF v).Id == s) (r := fun v => (v : Int)) (fun _ => rfl) (fun _ _ => rfl) (a0.ZF.length + 1) 0 (by omega) with ⟨e, h2⟩ | ⟨i, e, _, _, hc, _⟩
  · simpa using h2 k (Nat.zero_le _) hk
  · rw [e] at h; simp at h; omega
@[simp] theorem Te (a0 : ZD) (a1 : ZM) : Qr a0 a1 = XB a0 a1 := by
  simp only [Qr, XB, Ru, Ua]
  rw [Bool.or_comm]
  cases hc : (decide (ZW a0 a1.Id >= 0) || !Ji a0) with
  | true => rfl
  | false =>
    have hf : ZW a0 a1.Id < 0 := by simp at hc; exact hc.1
    obtain ⟨_, k2, k3⟩ := pQ a0 a1 (L7 hf) (a0.ZF.length + 1) 0 [] (by omega) (Nat.zero_le _)
    simp only [cond_false]
    rw [k3]
    generalize Y9 a0 a1 (a0.ZF.length + 1) 0 = z at k2 ⊢
    by_cases hz : z < a0.ZF.length
    · rw [show decide (z < a0.ZF.length) = true by simpa using hz]
      simp
    · rw [show decide (z < a0.ZF.length) = false by simpa using hz]
      have hZ : z = a0.ZF.length := by omega
      subst hZ
      simp
def wR (a0 : ZJ) (a2 : Int) (a3 : ZV) (a4 : Int) (v : Nat) : ZY × Bool := Y6 a0.Frame.Zq (ZY.mk a2 (nth a0.ZS v).Zg (ZP a0.Frame.Methods a0.Frame.Now) (Ya (ZP a0.Frame.Methods a0.Frame.Now) a3) 1 a4 0 0 0)
def wQ (a0 : ZJ) (a2 : Int) (a3 : ZV) (a4 a5 : Int) (v : Nat) : ZM := ZM.mk a0.Next a5 a3 (wR a0 a2 a3 a4 v).1 (Za.mk ([(QP (wR a0 a2 a3 a4 v).1), (JK (nth a0.ZS v))] : List ZO) ([] : List ZK))
def BV (a0 : ZJ) (a1 : Int) (it : ZM) : ZJ := ZJ.mk a0.Frame a0.ZS a0.Zr (a0.ZA.set a1.toNat (XB (nth a0.ZA a1.toNat) it).1) a0.Ym a0.YW (W (a0.Next + 1)) a0.YN
def Ar (a0 : ZJ) (a1 : Int) (b : Bool) (it : ZM) : ZJ × Bool := bif (!b) || !(XB (nth a0.ZA a1.toNat) it).2 then (a0, false) else (BV a0 a1 it, true)
theorem Da (a0 : ZJ) (a1 a2 : Int) (a3 : ZV) (a4 a5 : Int) :
    ∀ (m v : Nat), (match K6 a0 a1 a2 a3 a4 a5 m v with | .inl r1 => r1 | .inr _ => (a0, false)) = (match Jw a0 a2 m v with | .inl k => Ar a0 a1 (wR a0 a2 a3 a4 k.toNat).2 (wQ a0 a2 a3 a4 a5 k.toNat) | .inr _ => (a0, false))
  | 0, v => rfl
  | m + 1, v => by
    have ih := Da a0 a1 a2 a3 a4 a5 m (v + 1)
    simp only [K6, Jw]
    cases decide ((v : Int) < (a0.ZS.length : Int)) with
    | false => rfl
    | true =>
      simp only [cond_true, bne]
      cases ((nth a0.ZS v).Key == a2) with
      | false => exact ih
      | true =>
        simp only [cond_true, cond_false, Bool.not_true]
        rw [show ((v : Int)).toNat = v from rfl]
        show (match (bif ((!(wR a0 a2 a3 a4 v).2) || !(XB (nth a0.ZA a1.toNat) (wQ a0 a2 a3 a4 a5 v)).2) then (Sum.inl (a0, false) : Sum (ZJ × Bool) Unit) else .inl (BV a0 a1 (wQ a0 a2 a3 a4 a5 v), true)) with | .inl r1 => r1 | .inr _ => (a0, false)) = Ar a0 a1 (wR a0 a2 a3 a4 v).2 (wQ a0 a2 a3 a4 a5 v)
        unfold Ar
        cases ((!(wR a0 a2 a3 a4 v).2) || !(XB (nth a0.ZA a1.toNat) (wQ a0 a2 a3 a4 a5 v)).2) <;> rfl
theorem vc (a0 : ZJ) (a2 : Int) : ∀ (m v : Nat), Jw a0 a2 m v = .inr () \/ ∃ k : Nat, Jw a0 a2 m v = .inl (k : Int)
  | 0, v => .inl rfl
  | m + 1, v => by
    have ih := vc a0 a2 m (v + 1)
    simp only [Jw]
    cases decide ((v : Int) < (a0.ZS.length : Int)) with
    | false => exact .inl rfl
    | true =>
      cases ((nth a0.ZS v).Key == a2) with
      | false => exact ih
      | true => exact .inr ⟨v, rfl⟩
theorem NT (a0 : ZJ) (a1 : Int) (a2 : ZV) (a3 a4 : Int) : Xa a0 a1 a2 a3 a4 = bif ((decide ((ZP a0.Frame.Methods a0.Frame.Now) < 0)) || (decide ((Xb a0 a1) < 0))) then ((ZM.mk 0 0 (ZV.mk 0 ([] : List ByteArray) ([] : List Int)) (ZY.mk 0 0 0 0 0 0 0 0 0) (Za.mk ([] : List ZO) ([] : List ZK))), false) else (wQ a0 a1 a2 a3 a4 (Xb a0 a1).toNat, (wR a0 a1 a2 a3 (Xb a0 a1).toNat).2) := by
  unfold Xa
  simp only [K2, IA, Rr, FD, Hi]
  rfl
theorem Rg (a0 : ZJ) (a1 a2 : Int) (a3 : ZV) (a4 a5 : Int) : XP a0 a1 a2 a3 a4 a5 = bif ((!(YU a0 a1)) || (decide ((YH a0.Frame.Zq a2) < 0))) then (a0, false) else Ar a0 a1 (Xa a0 a2 a3 a4 a5).2 (Xa a0 a2 a3 a4 a5).1 := by
  unfold XP
  cases ((!(YU a0 a1)) || (decide ((YH a0.Frame.Zq a2) < 0))) with
  | true => rfl
  | false =>
    rw [NT]
    simp only [Bool.false_or, cond_false]
    refine Eq.trans (congrArg (fun z => bif decide ((ZP a0.Frame.Methods a0.Frame.Now) < 0) then (a0, false) else z) (Da a0 a1 a2 a3 a4 a5 (a0.ZS.length + 1) 0)) ?_
    cases decide ((ZP a0.Frame.Methods a0.Frame.Now) < 0) with
    | true => rfl
    | false =>
      simp only [Bool.false_or, cond_false]
      rcases vc a0 a2 (a0.ZS.length + 1) 0 with h | ⟨k, h⟩
      · rw [h, show Xb a0 a2 = -1 by unfold Xb; rw [h]]; rfl
      · rw [h, show Xb a0 a2 = (k : Int) by unfold Xb; rw [h]]
        rw [show decide ((k : Int) < 0) = false by simp only [decide_eq_false_iff_not]; omega]
        rfl
theorem rT (a0 : ZJ) (a1 : Int) (b : Bool) (it : ZM) : (bif !b then (a0, false) else (bif !(XB (nth a0.ZA a1.toNat) it).2 then (a0, false) else (BV a0 a1 it, true))) = Ar a0 a1 b it := by
  unfold Ar
  cases b <;> rfl
theorem Ee (a0 : ZD) (a1 : ZM) : cn (XB a0 a1).1 <= cn a0 + cn a1 := by
  unfold XB
  refine Zm (p := fun (r : ZD × Bool) => cn r.1 <= cn a0 + cn a1) (by show cn a0 <= _; omega) ?_
  simp only
  refine Zm (p := fun (r : ZD × Bool) => cn r.1 <= cn a0 + cn a1) (by show cn a0 <= _; omega) ?_
  generalize Y9 a0 a1 (a0.ZF.length + 1) 0 = z
  have h := JR (cn : ZM -> Nat) (a0.ZF.take z) (a0.ZF.drop z)
  rw [List.take_append_drop] at h
  simp only [ZD.Yb, XA, JR, cnL] at h ⊢
  omega
theorem rQ (a0 : ZJ) (a1 : Int) (b : Bool) (it : ZM) : cn (Ar a0 a1 b it).1 <= 3 * cn a0 + cn it + 1000 := by
  refine Zm (p := fun (r : ZJ × Bool) => cn r.1 <= 3 * cn a0 + cn it + 1000) (by show cn a0 <= _; omega) ?_
  have h1 := TV a0 a1.toNat (XB (nth a0.ZA a1.toNat) it).1 true
  have h2 := Ee (nth a0.ZA a1.toNat) it
  have h3 := Tg a0 a1.toNat
  simp only [ZJ.Yb, XO, BV] at h1 h2 h3 ⊢
  omega
theorem C1 (a0 : ZJ) (a1 : Int) (a2 : ZV) (a3 a4 : Int) : cn (Xa a0 a1 a2 a3 a4).1 <= cn a2 + 1000 := by
  rw [NT]
  refine Zm (p := fun (r : ZM × Bool) => cn r.1 <= cn a2 + 1000) (Nat.le_trans (Nat.le_of_ble_eq_true rfl) (Nat.le_add_left 1000 _)) ?_
  have h1 : ∀ x : ZY, cn x = 9 := fun _ => rfl
  have h2 : ∀ x : ZY, cn (QP x) = 11 := fun _ => rfl
  have h3 : ∀ x : Z1, cn (JK x) = 9 := fun _ => rfl
  simp only [wQ, ZM.Yb, Za.Yb, XA, cnL, XO, h1, h2, h3]
  omega
theorem Pa (a0 : ZJ) (a1 a2 : Int) (a3 : ZV) (a4 a5 : Int) : cn (XP a0 a1 a2 a3 a4 a5).1 <= 3 * cn a0 + cn a3 + 2000 := by
  rw [Rg]
  refine Zm (p := fun (r : ZJ × Bool) => cn r.1 <= 3 * cn a0 + cn a3 + 2000) (by show cn a0 <= _; omega) ?_
  have h1 := rQ a0 a1 (Xa a0 a2 a3 a4 a5).2 (Xa a0 a2 a3 a4 a5).1
  have h2 := C1 a0 a2 a3 a4 a5
  exact Nat.le_trans h1 (by omega)
@[simp] theorem se (a0 : ZJ) (a1 a2 : Int) (a3 : ZV) (a4 a5 : Int) : qu a0 a1 a2 a3 a4 a5 = xe a0 a1 a2 a3 a4 a5 := by
  unfold qu xe
  simp only [WA, Wb, Te]
  rw [Rg, <- rT]
  cases decide ((YH a0.Frame.Zq a2) < 0) <;> cases (YU a0 a1) <;> cases decide ((nth a0.Frame.Zq (YH a0.Frame.Zq a2).toNat).Wn > a0.Frame.Now) <;> rfl
theorem Eu (a0 : ZJ) (a1 a2 : Int) (a3 : ZV) (a4 a5 : Int) (h : cn a0 <= 33554464) (h3 : cn a3 <= 33554464) : cn (xe a0 a1 a2 a3 a4 a5).1 <= 1152921504606846976 := by
  refine Zm (p := fun (r : ZJ × Bool) => cn r.1 <= 1152921504606846976) (by show cn a0 <= _; omega) ?_
  have := Pa a0 a1 a2 a3 a4 a5
  simp only; omega
@[simp] theorem sw (a0 : ZJ) (a1 : Int) : ∀ (n : Nat) (v0 : Nat), xa a0 a1 n v0 = y7 a0 a1 n v0 := by
  intro n
  induction n with
  | zero => intros; rfl
  | succ n ih => intros; simp [xa, y7, ih, ByteArray.append_assoc]
@[simp] theorem Vr (a0 : ZJ) (a1 : Int) : ZH a0 a1 = ZT a0 a1 := by simp [ZH, ZT]
@[simp] theorem vv (a0 : ZO) : Qc a0 = QX a0 := by
  simp only [Qc, QX, Wz]
  cases (((a0.YP.length : Int) == 0) || (!(Zp (nth a0.YP 0) 101 105))) <;> simp
@[simp] theorem RR (a0 : ZO) : Zc a0 = J6 a0 := by simp [Zc, J6]
@[simp] theorem ur (a0 : List Z1) (a1 : Int) : ∀ (n : Nat) (v0 : Nat), xy a0 a1 n v0 = yV a0 a1 n v0 := by
  intro n
  induction n with
  | zero => intros; rfl
  | succ n ih => intros; simp [xy, yV, ih, ByteArray.append_assoc]
@[simp] theorem PS (a0 : List Z1) (a1 : Int) : Z2 a0 a1 = XL a0 a1 := by simp [Z2, XL]
@[simp] theorem uu (a0 : Z4) : Jv a0 = JT a0 := by simp [Jv, JT]
@[simp] theorem sj (a0 : Z4) : kE a0 = VG a0 := by simp [kE, VG]
@[simp] theorem SA (a0 : List YR) (a1 : Z4) : YZ a0 a1 = Yp a0 a1 := by
  by_cases h : YH a0 a1.Z5 < 0 <;> simp [YZ, Yp, ya, h]
theorem MY {a0 : List YR} {a1 : Z4} (h : (Yp a0 a1).2 = true) : 0 <= YH a0 a1.Z5 := by
  have := ZZ (a0 := a0) (a1 := a1) (by simpa using h)
  simpa using this
@[simp] theorem U6 (a0 : Z4) : Yz a0 = XD a0 := by simp [Yz, XD]
@[simp] theorem si (a0 : Za) (a1 : ZO) : yJ a0 a1 = Jp a0 a1 := by simp [yJ, Jp]
@[simp] theorem Rm (a0 : ZD) (a1 : Int) (a2 : ZO) : Xu a0 a1 a2 = XZ a0 a1 a2 := by simp [Xu, XZ]
theorem vS {α : Type} [Inhabited α] (l : List α) (i : Nat) : l.set i (nth l i) = l := by
  rcases Nat.lt_or_ge i l.length with h | h
  · simp [nth, List.getD_eq_getElem?_getD, List.getElem?_eq_getElem h]
  · exact List.set_eq_of_length_le h
theorem GA {a0 : ZD} {a1 : Int} {a2 : ZO} (h : (XZ a0 a1 a2).2 = false) : (XZ a0 a1 a2).1 = a0 := by
  unfold XZ at h ⊢
  cases hf : decide (ZW a0 a1 < 0) with
  | true => rfl
  | false =>
    rw [hf] at h
    simp only [cond_false] at h ⊢
    have hp : (Jp (nth a0.ZF (ZW a0 a1).toNat).ZI a2).1 = (nth a0.ZF (ZW a0 a1).toNat).ZI := by
      unfold Jp at h ⊢
      cases hs : (!(zX (Za.mk ((nth a0.ZF (ZW a0 a1).toNat).ZI.ZL ++ ([a2] : List ZO)) (nth a0.ZF (ZW a0 a1).toNat).ZI.Zd))) with
      | true => rfl
      | false => rw [hs] at h; cases h
    rw [hp, show ZM.mk (nth a0.ZF (ZW a0 a1).toNat).Id (nth a0.ZF (ZW a0 a1).toNat).Y7 (nth a0.ZF (ZW a0 a1).toNat).Doc (nth a0.ZF (ZW a0 a1).toNat).Sig (nth a0.ZF (ZW a0 a1).toNat).ZI = nth a0.ZF (ZW a0 a1).toNat from rfl, vS]
theorem E0 (a0 : ZJ) (i id : Int) (st : Z4) : (bif (Yp a0.Frame.Zq st).2 then ((ZJ.mk a0.Frame a0.ZS a0.Zr (a0.ZA.set i.toNat (XZ (nth a0.ZA i.toNat) id (XD (Yp a0.Frame.Zq st).1)).1) a0.Ym a0.YW a0.Next a0.YN), (XZ (nth a0.ZA i.toNat) id (XD (Yp a0.Frame.Zq st).1)).2) else (a0, false)) = JX a0 i id st := by
  unfold JX
  cases hm : (Yp a0.Frame.Zq st).2 with
  | false => rfl
  | true =>
    cases ha : (XZ (nth a0.ZA i.toNat) id (XD (Yp a0.Frame.Zq st).1)).2 with
    | true => rfl
    | false => rw [GA ha, vS]; rfl
theorem Ph (l : List Z1) (s : Int) (h : 0 <= XL l s) : (nth l (XL l s).toNat).Zg = s := by
  unfold XL at h ⊢
  rcases kP (β := Int) (L := yV l s) (len := l.length) (c := fun v => (nth l v).Zg == s) (r := fun v => (v : Int)) (fun _ => rfl) (fun _ _ => rfl) (l.length + 1) 0 (by omega) with ⟨e, _⟩ | ⟨i, e, _, _, hc, _⟩
  · rw [e] at h; simp at h
  · rw [e]; simpa using hc
theorem LM {a b c : Bool} : ((!(a && b)) || c) = ((!a || !b) || c) := by cases a <;> cases b <;> rfl
theorem Im (a0 : ZD) (a1 : Int) (a2 : ZO) : cn (XZ a0 a1 a2).1 <= 2 * cn a0 + cn a2 + 1000 := by
  unfold XZ
  cases decide (ZW a0 a1 < 0) with
  | true => simp only [cond_true]; omega
  | false =>
    simp only [cond_false]
    have h1 := UG (cn : ZM -> Nat) a0.ZF (ZW a0 a1).toNat
    have hd : cn (default : ZM) <= 900 := Nat.le_of_ble_eq_true rfl
    have h2 := Wi (cn : ZM -> Nat) a0.ZF (ZW a0 a1).toNat (ZM.mk (nth a0.ZF (ZW a0 a1).toNat).Id (nth a0.ZF (ZW a0 a1).toNat).Y7 (nth a0.ZF (ZW a0 a1).toNat).Doc (nth a0.ZF (ZW a0 a1).toNat).Sig (Jp (nth a0.ZF (ZW a0 a1).toNat).ZI a2).1)
    have h3 : cn (Jp (nth a0.ZF (ZW a0 a1).toNat).ZI a2).1 <= cn (nth a0.ZF (ZW a0 a1).toNat).ZI + cn a2 := by
      refine Zm (p := fun (r : Za × Bool) => cn r.1 <= cn (nth a0.ZF (ZW a0 a1).toNat).ZI + cn a2) (Nat.le_add_right _ _) ?_
      simp only [Za.Yb, XA, JR, cnL]; omega
    simp only [ZD.Yb, ZM.Yb, XA, XO] at h1 h2 hd ⊢
    omega
theorem RO (a0 : ZJ) (a1 a2 : Int) (a3 : Z4) : cn (JX a0 a1 a2 a3).1 <= 3 * cn a0 + 2000 := by
  refine Zm (p := fun (r : ZJ × Bool) => cn r.1 <= 3 * cn a0 + 2000) (by show cn a0 <= _; omega) ?_
  have h1 := TV a0 a1.toNat (XZ (nth a0.ZA a1.toNat) a2 (XD (Yp a0.Frame.Zq a3).1)).1 true
  have h2 := Im (nth a0.ZA a1.toNat) a2 (XD (Yp a0.Frame.Zq a3).1)
  have h3 := Tg a0 a1.toNat
  have h4 : cn (XD (Yp a0.Frame.Zq a3).1) = 7 := rfl
  simp only at h1 ⊢
  omega
@[simp] theorem uw (a0 : ZJ) (a1 : Int) : yF a0 a1 = K9 a0 a1 := by
  unfold yF K9 YG
  simp only [Vr, RR, PS, Wb, SA, Rm, U6]
  cases h1 : ((decide ((ZT a0 a1).1 < 0)) || (decide (((nth (nth a0.ZA (ZT a0 a1).1.toNat).ZF (ZT a0 a1).2.toNat).ZI.ZL.length : Int) < 2))) with
  | true => rfl
  | false =>
    simp only [cond_false]
    generalize J6 (nth (nth (nth a0.ZA (ZT a0 a1).1.toNat).ZF (ZT a0 a1).2.toNat).ZI.ZL 1) = p
    rw [LM, show (!(decide (XL a0.ZS p.1.Zg >= 0))) = decide (XL a0.ZS p.1.Zg < 0) by rw [<- decide_not]; simp]
    cases h2 : ((!p.2 || decide (XL a0.ZS p.1.Zg < 0)) || decide (XL a0.ZS p.1.Zg >= (a0.Zr.length : Int))) with
    | true => rfl
    | false =>
      simp only [cond_false]
      have hn : 0 <= XL a0.ZS p.1.Zg := by simp at h2; exact h2.1.2
      rw [Ph _ _ hn]
      have key : ∀ (n : Nat) (st : Z4), st.Z5 = (nth a0.ZS n).Z5 ->
          (bif ((!(Yp a0.Frame.Zq st).2) || (decide ((nth a0.Frame.Zq (YH a0.Frame.Zq (nth a0.ZS n).Z5).toNat).Wn > a0.Frame.Now))) then (a0, false) else ((ZJ.mk a0.Frame a0.ZS a0.Zr (a0.ZA.set (ZT a0 a1).1.toNat (XZ (nth a0.ZA (ZT a0 a1).1.toNat) a1 (XD (Yp a0.Frame.Zq st).1)).1) a0.Ym a0.YW a0.Next a0.YN), (XZ (nth a0.ZA (ZT a0 a1).1.toNat) a1 (XD (Yp a0.Frame.Zq st).1)).2)) =
          (bif ((decide ((YH a0.Frame.Zq (nth a0.ZS n).Z5) < 0)) || (decide ((nth a0.Frame.Zq (YH a0.Frame.Zq (nth a0.ZS n).Z5).toNat).Wn > a0.Frame.Now))) then (a0, false) else ((JX a0 (ZT a0 a1).1 a1 st).1, (JX a0 (ZT a0 a1).1 a1 st).2)) := by
        intro n st lZ
        rw [<- E0]
        cases hb : decide ((nth a0.Frame.Zq (YH a0.Frame.Zq (nth a0.ZS n).Z5).toNat).Wn > a0.Frame.Now) with
        | true => simp
        | false =>
          cases hm : (Yp a0.Frame.Zq st).2 with
          | false => simp
          | true =>
            have hp := MY hm
            rw [lZ] at hp
            rw [show decide (YH a0.Frame.Zq (nth a0.ZS n).Z5 < 0) = false by simp; exact hp]
            rfl
      rw [key _ _ rfl, key _ _ rfl]
      cases hk : ((decide ((YH a0.Frame.Zq (nth a0.ZS (XL a0.ZS p.1.Zg).toNat).Z5) < 0)) || (decide ((nth a0.Frame.Zq (YH a0.Frame.Zq (nth a0.ZS (XL a0.ZS p.1.Zg).toNat).Z5).toNat).Wn > a0.Frame.Now))) with
      | true => simp
      | false =>
        simp only [cond_false]
        rw [show ∀ x y : Int, decide (x > y) = !decide (x <= y) from fun x y => by rw [<- decide_not]; simp]
        cases decide (nth a0.Zr (XL a0.ZS p.1.Zg).toNat <= W (a0.Frame.Now + 1)) <;> rfl
theorem Lp (a0 : ZJ) (a1 : Int) (h : cn a0 <= 33554464) : cn (K9 a0 a1).1 <= 1152921504606846976 := by
  refine Zm (p := fun (r : ZJ × Bool) => cn r.1 <= 1152921504606846976) (by show cn a0 <= _; omega) ?_
  refine Zm (p := fun (r : ZJ × Bool) => cn r.1 <= 1152921504606846976) (by show cn a0 <= _; omega) ?_
  refine Zm (p := fun (r : ZJ × Bool) => cn r.1 <= 1152921504606846976) ?_ ?_ <;> exact Nat.le_trans (RO _ _ _ _) (by omega)
@[simp] theorem ux (a0 : ZJ) (a1 : Int) : yM a0 a1 = KN a0 a1 := by simp [yM, KN]
theorem Lj (a0 : ZJ) (a1 : Int) (h : cn a0 <= 33554464) : cn (KN a0 a1).1 <= 1152921504606846976 := by
  have e : cn (KN a0 a1).1 = cn a0 := Zm (p := fun (r : ZJ × Bool) => cn r.1 = cn a0) rfl (by simp [ZJ.Yb, XO, PG])
  omega
@[simp] theorem tT (a0 : ZX) : KX a0 = J5 a0 := by simp [KX, J5]
@[simp] theorem Bh (a1 : ZK) : ∀ (n : Nat) (v0 : List Int) (v1 : Nat), zS a1 n v0 v1 = zH a1 n v0 v1 := by
  intro n
  induction n with
  | zero => intros; rfl
  | succ n ih => intros; simp [zS, zH, ih, ByteArray.append_assoc]
@[simp] theorem Be (a1 : ZK) : ∀ (n : Nat) (v0 : List Int) (v1 : Nat), KE a1 n v0 v1 = KC a1 n v0 v1 := by
  intro n
  induction n with
  | zero => intros; rfl
  | succ n ih => intros; simp [KE, KC, ih, ByteArray.append_assoc]
@[simp] theorem OI (a0 : Int) (a1 : ZK) : KJ a0 a1 = KL a0 a1 := by simp [KJ, KL]
@[simp] theorem wD (a0 : Int) (a1 : List ZO) : ∀ (n : Nat) (v0 : List Int) (v1 : Nat), zz a0 a1 n v0 v1 = zn a0 a1 n v0 v1 := by
  intro n
  induction n with
  | zero => intros; rfl
  | succ n ih => intros; simp [zz, zn, ih, ByteArray.append_assoc]
@[simp] theorem vP (a0 : Int) (a1 : List ZO) : J2 a0 a1 = J3 a0 a1 := by simp [J2, J3]
@[simp] theorem Bi (a0 : Int) (a1 : Int) (a2 : List ZO) (a3 : Int) : U1 a0 a1 a2 a3 = TD a0 a1 a2 a3 := by simp [U1, TD]
theorem MG (a0 : Za) (a1 : ZV) : Jx a0 a1 = a0.Zd.map (fun c => Qq c.Method a1) := by
  have := H2 (as := a0.Zd) (fun c => [Qq c.Method a1]) (F := fun n i l => zx a0 a1 n l i) (fun _ _ _ => rfl) (a0.Zd.length + 1) 0 [] (by omega) (Nat.zero_le _)
  unfold Jx
  rw [this, List.drop_zero, Hw]; rfl
theorem By {α : Type} [Inhabited α] (l : List α) (x : α) : nth (l ++ [x]) l.length = x := by simp [nth]
theorem wg {α : Type} [Inhabited α] (l : List α) (x : α) {i : Nat} (h : i < l.length) : nth (l ++ [x]) i = nth l i := by simp [nth, List.getD_eq_getElem?_getD, List.getElem?_append_left h]
theorem AV (x : ZM) (a1 : Int) (h : Sm maxLen x) (r : ZK) (hr : r = ZK.mk (x.ZI.ZL.length : Int) a1 0 [] []) :
    TI (Za.mk x.ZI.ZL (x.ZI.Zd ++ [r])) (Jx (Za.mk x.ZI.ZL (x.ZI.Zd ++ [r])) x.Doc) (W (((x.ZI.Zd ++ [r]).length : Int) - 1)) = QJ x a1 := by
  have hl : x.ZI.Zd.length <= maxLen := JA (Za.jO (ZM.Jf h))
  have hm : maxLen = 9223372036854775807 := by decide
  have e1 : W (((x.ZI.Zd ++ [r]).length : Int) - 1) = (x.ZI.Zd.length : Int) := by
    rw [List.length_append, List.length_singleton, show ((x.ZI.Zd.length + 1 : Nat) : Int) - 1 = (x.ZI.Zd.length : Int) by omega, Kc]; omega
  have e2 : nth (x.ZI.Zd ++ [r]) x.ZI.Zd.length = r := By _ _
  have e3 : nth ((x.ZI.Zd ++ [r]).map (fun c => Ya c.Method x.Doc)) x.ZI.Zd.length = Ya r.Method x.Doc := by rw [List.map_append]; have := By (x.ZI.Zd.map (fun c => Ya c.Method x.Doc)) (Ya r.Method x.Doc); rw [List.length_map] at this; exact this
  have e4 : r.Count = (x.ZI.ZL.length : Int) := by rw [hr]
  have e5 : r.Method = a1 := by rw [hr]
  unfold TI QJ
  rw [e1, MG]
  simp only [Int.toNat_natCast, e1, e2, e3, e4, e5, Wz, Zp, List.length_map, bne_self_eq_false, Int.le_refl, decide_true, Bool.and_true, Int.natCast_nonneg, Bool.not_true, Bool.or_false, cond_false, List.take_length, Bi, Rr, OI]
  by_cases hz : 0 < x.ZI.Zd.length
  · have e6 : W ((x.ZI.Zd.length : Int) - 1) = ((x.ZI.Zd.length - 1 : Nat) : Int) := by rw [tU _ (by omega)]; omega
    rw [e6, Int.toNat_natCast, wg _ _ (by omega)]
  · have : decide ((x.ZI.Zd.length : Int) > 0) = false := decide_eq_false (by omega)
    rw [this, Yi, Yi]
theorem LL (a0 : ZD) (a1 : Int) (h : Sm maxLen a0) : ∀ n l i, Jt a0 a1 n l i = ym a0 a1 n l i
  | 0, _, _ => rfl
  | n + 1, l, i => by simp only [Jt, ym, LL a0 a1 h n, AV (nth a0.ZF i) a1 (Yf (ZD.Ys h)) _ rfl]
@[simp] theorem RI (a0 : ZD) (a1 : Int) (h : Sm maxLen a0) : YD a0 a1 = Xc a0 a1 := by
  simp only [YD, Xc, LL a0 a1 h]
@[simp] theorem IL (a0 : Int) (a1 : Int) (a2 : Int) : jv a0 a1 a2 = jr a0 a1 a2 := by simp [jv, jr]
theorem Oj (a0 : Int) (a1 : List Int) : ∀ n v i, xm a0 a1 n v i = Ja a0 a1 n v i
  | 0, _, _ => rfl
  | n + 1, v, i => by simp only [xm, Ja, Oj a0 a1 n, IL]
@[simp] theorem wS (a0 : Int) (a1 : List Int) : kl a0 a1 = Jy a0 a1 := by simp only [kl, Jy, Oj]
@[simp] theorem uy (a0 : Int) : ∀ (n : Nat) (v0 : List Int), jo a0 n v0 = j4 a0 n v0 := by
  intro n
  induction n with
  | zero => intros; rfl
  | succ n ih => intros; simp [jo, j4, ih, ByteArray.append_assoc]
@[simp] theorem Um (a0 : Int) (a1 : List Int) : KI a0 a1 = qq a0 a1 := by simp [KI, qq]
@[simp] theorem D8 (a0 : ZD) (a1 : Int) (h : Sm maxLen a0) : zg a0 a1 = Qf a0 a1 := by
  simp only [zg, Qf, RI a0 a1 h, Um]
@[simp] theorem AF (a0 : List ZQ) (a1 : Int) : ∀ (n : Nat) (v0 : Nat), KA a0 a1 n v0 = Jd a0 a1 n v0 := by
  intro n
  induction n with
  | zero => intros; rfl
  | succ n ih => intros; simp [KA, Jd, ih, ByteArray.append_assoc]
@[simp] theorem qj (a0 : List ZQ) (a1 : Int) : Ze a0 a1 = Zi a0 a1 := by simp [Ze, Zi]
theorem CZ (a0 : List Int) (a1 : Int) : jb a0 a1 = true ↔ ∃ i, 0 <= i /\ i < a0.length /\ (nth a0 i == a1) = true := by
  unfold jb PC
  rcases kP (L := UH a0 a1) (r := fun i => (i : Int)) (fun _ => rfl) (fun _ _ => rfl) (a0.length + 1) 0 (by omega) with ⟨e, p⟩ | ⟨i, e, p1, p2, p3, p4⟩
  · rw [e]
    constructor
    · intro h; simp at h
    · rintro ⟨i, h1, h2, h3⟩; have := p i h1 h2; rw [h3] at this; cases this
  · rw [e]
    exact ⟨fun _ => ⟨i, p1, p2, p3⟩, fun _ => by simp⟩
@[simp] theorem I0 (a0 : List Int) (a1 : Int) : PE a0 a1 = jb a0 a1 := by
  rw [Bool.eq_iff_iff, CZ]
  exact E7 (L := R6 a0 a1) (fun _ => rfl) (fun _ _ => rfl) (a0.length + 1) 0 (by omega)
@[simp] theorem Sr (a0 : List YR) (a1 : List ZQ) (a2 : ZX) : J1 a0 a1 a2 = Jm a0 a1 a2 := by
  simp [J1, Jm, ya]
  cases h : decide (YH a0 (nth a1 (Zi a1 a2.Authority).toNat).Key < 0) <;> simp
theorem SE (a0 : Int) : ∀ n i o l, KU a0 n i o l = JW a0 n l i o
  | 0, _, _, _ => rfl
  | n + 1, i, o, l => by simp only [KU, JW, SE a0 n, wS]
@[simp] theorem Fk (a0 : Int) (a1 : List Int) (a2 : Int) : Km a0 a1 a2 = Qj a0 a1 a2 := by
  simp only [Km, Qj, SE, Wz]
  rw [Bool.or_comm]
@[simp] theorem SZ (a0 : Za) (a1 : ZK) : Qg a0 a1 = XW a0 a1 := by simp [Qg, XW]
theorem Py (a0 : ZD) (a1 : Int) (a2 : List ZX) (n v : Nat) (l : List ZM) : Q6 a0 a1 a2 (n + 1) false v l = (false, l) := by
  simp only [Q6, Bool.and_false, Yi]
theorem DW (a0 : ZD) (a1 : Int) (a2 : List ZX) (h : Sm maxLen a0) : ∀ n v l, a0.ZF.length < n + v -> v <= a0.ZF.length -> (∃ z, X7 a0 a1 a2 n v l = .inr z /\ Q6 a0 a1 a2 n true v l = (true, z)) \/ (X7 a0 a1 a2 n v l = .inl (a0, false) /\ (Q6 a0 a1 a2 n true v l).1 = false)
  | 0, v, l, h1, h2 => by omega
  | n + 1, v, l, h1, h2 => by
    simp only [Q6, X7, Bool.and_true, Qf, RI a0 a1 h, Um, Fk, SZ]
    by_cases hi : v < a0.ZF.length
    · rw [show decide ((v : Int) < (a0.ZF.length : Int)) = true by simpa using hi, Y0, Y0]
      cases hb : (XW (nth a0.ZF v).ZI (ZK.mk ((nth a0.ZF v).ZI.ZL.length : Int) a1 (qq a1 (Xc a0 a1)) (Qj a1 (Xc a0 a1) (v : Int)) a2)).2
      · obtain ⟨m, rfl⟩ : ∃ m, n = m + 1 := ⟨n - 1, by omega⟩
        rw [Py]
        exact .inr ⟨rfl, rfl⟩
      · exact DW a0 a1 a2 h n (v + 1) _ (by omega) hi
    · rw [show decide ((v : Int) < (a0.ZF.length : Int)) = false by simpa using hi, Yi, Yi]
      exact .inl ⟨l, rfl, rfl⟩
@[simp] theorem N5 (a0 : ZD) (a1 : Int) (a2 : List ZX) (h : Sm maxLen a0) : QZ a0 a1 a2 = Qb a0 a1 a2 := by
  unfold QZ Qb
  simp only [Ru]
  by_cases hl : 0 < a0.ZF.length
  · have e1 : decide ((a0.ZF.length : Int) > 0) = true := decide_eq_true (by omega)
    have e2 : ((a0.ZF.length : Int) == 0) = false := beq_eq_false_iff_ne.2 (by omega)
    rw [e1, e2]
    cases Ji a0
    · rw [Bool.false_and, Py]; rfl
    · rcases DW a0 a1 a2 h (a0.ZF.length + 1) 0 a0.ZF (by omega) (Nat.zero_le _) with ⟨z, q1, q2⟩ | ⟨q1, q2⟩
      · rw [Bool.true_and, q1, q2]; rfl
      · rw [Bool.true_and, q1]
        generalize Q6 a0 a1 a2 (a0.ZF.length + 1) true 0 a0.ZF = p at q2 ⊢
        obtain ⟨p1, p2⟩ := p
        simp only at q2; subst q2; rfl
  · have e1 : decide ((a0.ZF.length : Int) > 0) = false := decide_eq_false (by omega)
    have e2 : ((a0.ZF.length : Int) == 0) = true := beq_iff_eq.2 (by omega)
    rw [e1, e2, Bool.and_false, Py]; rfl
theorem VW {a : List ZQ} {d : Int} (h : 0 <= Zi a d) : (nth a (Zi a d).toNat).Id = d := by
  unfold Zi at h ⊢
  rcases kP (L := Jd a d) (len := a.length) (c := fun i => (nth a i).Id == d) (r := fun i => (i : Int)) (fun _ => rfl) (fun _ _ => rfl) (a.length + 1) 0 (by omega) with ⟨e, _⟩ | ⟨i, e, _, _, k, _⟩
  · rw [e] at h; simp at h
  · rw [e]; simpa using k
def IK (a0 : ZJ) (d : Int) : Bool := !((decide (Zi a0.Frame.ZG d < 0) || decide (Zi a0.Frame.ZG d >= (a0.Ym.length : Int))) || (decide (YH a0.Frame.Zq (nth a0.Frame.ZG (Zi a0.Frame.ZG d).toNat).Key < 0) || decide ((nth a0.Frame.Zq (YH a0.Frame.Zq (nth a0.Frame.ZG (Zi a0.Frame.ZG d).toNat).Key).toNat).Wn > a0.Frame.Now)))
theorem TX (a0 : ZJ) (a1 : List Int) : K8 a0 a1 = true ↔ (∀ i, 0 <= i -> i < a1.length -> IK a0 (nth a1 i) = true /\ (0 < i -> nth a1 (i - 1) < nth a1 i)) /\ 0 < a1.length := by
  have := xx (L := xJ a0 a1) (len := a1.length) (c := fun v => (((decide ((Ze a0.Frame.ZG (nth a1 v)) < 0)) || (decide ((Ze a0.Frame.ZG (nth a1 v)) >= (a0.Ym.length : Int)))) || ((decide ((v : Int) > 0)) && (decide ((nth a1 (v - 1)) >= (nth a1 v))))) || ((decide ((Yd a0.Frame.Zq (nth a0.Frame.ZG (Ze a0.Frame.ZG (nth a1 v)).toNat).Key) < 0)) || (decide ((nth a0.Frame.Zq (Yd a0.Frame.Zq (nth a0.Frame.ZG (Ze a0.Frame.ZG (nth a1 v)).toNat).Key).toNat).Wn > a0.Frame.Now))))
    (fun _ => rfl) (fun n v => by
      simp only [xJ]
      cases (((decide ((Ze a0.Frame.ZG (nth a1 v)) < 0)) || (decide ((Ze a0.Frame.ZG (nth a1 v)) >= (a0.Ym.length : Int)))) || ((decide ((v : Int) > 0)) && (decide ((nth a1 (v - 1)) >= (nth a1 v))))) <;> rfl) (a1.length + 1) 0 (by omega) (decide ((a1.length : Int) > 0))
  unfold K8
  refine Iff.trans this ?_
  constructor
  · rintro ⟨h1, h2⟩
    refine ⟨fun i h0 hi => ?_, by simpa using h2⟩
    have := h1 i h0 hi
    simp only [qj, Wb, Bool.or_eq_false_iff, Bool.and_eq_false_iff, decide_eq_false_iff_not] at this
    obtain ⟨⟨⟨q1, q2⟩, q3⟩, q4, q5⟩ := this
    refine ⟨?_, fun h => ?_⟩
    · simp only [IK, Bool.not_eq_true', Bool.or_eq_false_iff, decide_eq_false_iff_not]; exact ⟨⟨q1, q2⟩, q4, q5⟩
    · rcases q3 with q3 | q3 <;> omega
  · rintro ⟨h1, h2⟩
    refine ⟨fun i h0 hi => ?_, by simpa using h2⟩
    obtain ⟨q, q3⟩ := h1 i h0 hi
    simp only [IK, Bool.not_eq_true', Bool.or_eq_false_iff, decide_eq_false_iff_not] at q
    simp only [qj, Wb, Bool.or_eq_false_iff, Bool.and_eq_false_iff, decide_eq_false_iff_not]
    refine ⟨⟨q.1, ?_⟩, q.2⟩
    by_cases hz : 0 < i
    · right; have := q3 hz; omega
    · left; omega
theorem Gr (a1 : List Int) : qw a1 = true ↔ ∀ i, 0 < i -> i < a1.length -> nth a1 (i - 1) < nth a1 i := by
  have := xx (L := ka a1) (len := a1.length) (c := fun v => decide ((nth a1 (v - 1)) >= (nth a1 v))) (fun _ => rfl) (fun _ _ => rfl) (a1.length + 1) 1 (by omega) true
  unfold qw
  refine Iff.trans this ?_
  simp only [decide_eq_false_iff_not, and_true]
  exact ⟨fun h i h0 hi => by have := h i h0 hi; omega, fun h i h0 hi => by have := h i h0 hi; omega⟩
theorem Dj {a1 : List Int} (h : ∀ i, 0 < i -> i < a1.length -> nth a1 (i - 1) < nth a1 i) : ∀ d v, 0 < d -> v + d < a1.length -> nth a1 v < nth a1 (v + d)
  | 0, _, h0, _ => by omega
  | 1, v, _, hv => h (v + 1) (by omega) hv
  | d + 2, v, _, hv => by
    have h1 := Dj h (d + 1) v (by omega) (by omega)
    have h2 := h (v + (d + 2)) (by omega) hv
    rw [show v + (d + 2) - 1 = v + (d + 1) by omega] at h2
    omega
theorem u6 (w : Int) : NP 10000 (Pd 0 w) = (if (if w < 10000 then w else 10000) > 0 then (if w < 10000 then w else 10000) else 0) := by
  unfold NP Pd
  by_cases h1 : w > 0
  · rw [show decide (w > 0) = true by simpa using h1, Y0]
    by_cases h2 : w < 10000
    · rw [show decide (w < 10000) = true by simpa using h2, Y0, if_pos h2, if_pos h1]
    · rw [show decide (w < 10000) = false by simpa using h2, Yi, if_neg h2]; rfl
  · rw [show decide (w > 0) = false by simpa using h1, Yi]
    rw [if_pos (show w < 10000 by omega), if_neg h1]; rfl
theorem HN {α : Type} [Inhabited α] (l : List α) (x : α) {i j : Nat} (h : i ≠ j) : nth (l.set i x) j = nth l j := by simp [nth, List.getD_eq_getElem?_getD, List.getElem?_set_ne h]
theorem MC (a0 : ZJ) (a1 : Int) (a2 : List Int) (a3 : Int) : ∀ n l v q, a2.length < n + v -> v <= a2.length -> (∃ k, v <= k /\ k < a2.length /\ IK a0 (nth a2 k) = false) -> Xr a0 a1 a2 a3 n l v q = .inl (a0, false)
  | 0, _, _, _, h1, h2, _ => by omega
  | n + 1, l, v, q, h1, h2, ⟨k, k1, k2, k3⟩ => by
    have hv : v < a2.length := by omega
    simp only [Xr]
    rw [show decide ((v : Int) < (a2.length : Int)) = true by simpa using hv, Y0]
    cases hA : ((decide ((Zi a0.Frame.ZG (nth a2 v)) < 0)) || (decide ((Zi a0.Frame.ZG (nth a2 v)) >= (a0.Ym.length : Int))))
    · rw [Yi]
      cases hB : ((decide ((YH a0.Frame.Zq (nth a0.Frame.ZG (Zi a0.Frame.ZG (nth a2 v)).toNat).Key) < 0)) || (decide ((nth a0.Frame.Zq (YH a0.Frame.Zq (nth a0.Frame.ZG (Zi a0.Frame.ZG (nth a2 v)).toNat).Key).toNat).Wn > a0.Frame.Now)))
      · rw [Yi]
        have hk : ∃ k, v + 1 <= k /\ k < a2.length /\ IK a0 (nth a2 k) = false := by
          refine ⟨k, ?_, k2, k3⟩
          rcases Nat.eq_or_lt_of_le k1 with rfl | k1
          · unfold IK at k3; rw [hA, hB] at k3; simp at k3
          · exact k1
        rw [MC a0 a1 a2 a3 n _ (v + 1) _ (by omega) hv hk, MC a0 a1 a2 a3 n _ (v + 1) _ (by omega) hv hk]
        simp
      · rfl
    · rfl
theorem DE (c : Bool) (a : ZJ × Bool) (x : Sum (ZJ × Bool) (List ZX)) (u : List Int) : (bif c then (Sum.inl a : Sum (ZJ × Bool) (List ZX × List Int)) else (match x with | .inl r => .inl r | .inr z => .inr (z, u))) = (match (bif c then Sum.inl a else x) with | .inl r => .inl r | .inr z => .inr (z, u)) := by cases c <;> rfl
theorem Hv (a0 : ZJ) (a1 : Int) (a2 : List Int) (a3 : Int) (h : Sm maxLen a0) (hr : ∀ i, 0 < i -> i < a2.length -> nth a2 (i - 1) < nth a2 i) (la : ∀ k, k < a2.length -> IK a0 (nth a2 k) = true) : ∀ n l v q, a2.length < n + v -> v <= a2.length -> (∀ k, v <= k -> k < a2.length -> nth q (Zi a0.Frame.ZG (nth a2 k)).toNat = nth a0.Ym (Zi a0.Frame.ZG (nth a2 k)).toNat) ->
    Xr a0 a1 a2 a3 n l v q = (match zU a0 a1 a2 a3 n l v with | .inl r => .inl r | .inr z => .inr (z, qS a0 a2 n v q))
  | 0, _, _, _, h1, h2, _ => by omega
  | n + 1, l, v, q, h1, h2, hq => by
    simp only [Xr, zU, qS, I0, Sr, qj, K2, D8 _ _ (Yf (ZJ.Y1 h)), u6]
    by_cases hv : v < a2.length
    · rw [show decide ((v : Int) < (a2.length : Int)) = true by simpa using hv, Y0, Y0, Y0]
      have ho := la v hv
      unfold IK at ho
      rw [Bool.not_eq_true', Bool.or_eq_false_iff] at ho
      rw [ho.1, ho.2, Yi, Yi, hq v (Nat.le_refl _) hv]
      have ih := fun l => Hv a0 a1 a2 a3 h hr la n l (v + 1) (q.set (Zi a0.Frame.ZG (nth a2 v)).toNat (W (nth a0.Ym (Zi a0.Frame.ZG (nth a2 v)).toNat + 1))) (by omega) hv (fun k k1 k2 => by
        rw [HN, hq k (by omega) k2]
        intro e
        have p1 : 0 <= Zi a0.Frame.ZG (nth a2 v) := by
          have := ho.1; simp only [Bool.or_eq_false_iff, decide_eq_false_iff_not] at this; omega
        have p2 : 0 <= Zi a0.Frame.ZG (nth a2 k) := by
          have := la k k2; unfold IK at this; simp only [Bool.not_eq_true', Bool.or_eq_false_iff, decide_eq_false_iff_not] at this; omega
        have e1 := VW p1
        have e2 := VW p2
        rw [e, e2] at e1
        have := Dj hr (k - v) v (by omega) (by omega)
        rw [show v + (k - v) = k by omega] at this
        omega)
      simp only [ih]
      cases jb a0.YW (nth a2 v) <;> simp only [Y0, Yi]
      · exact DE _ _ _ _
      · exact DE _ _ _ _
    · rw [show decide ((v : Int) < (a2.length : Int)) = false by simpa using hv, Yi, Yi, Yi]
@[simp] theorem sZ (a0 : ZJ) (a1 : Int) (a2 : List Int) (a3 : Int) (h : Sm maxLen a0) : xE a0 a1 a2 a3 = zP a0 a1 a2 a3 := by
  unfold xE zP
  simp only [WA, K2, Wz]
  cases hg : YU a0 a1
  · rfl
  cases hb : decide (ZP a0.Frame.Methods a0.Frame.Now < 0)
  rotate_left
  · simp
  cases hi : Zp a3 (-10000) 10000
  · simp
  simp only [Bool.not_true, Bool.false_or, Bool.or_false]
  cases hr : qw a2
  · have : K8 a0 a2 = false := by
      cases hs : K8 a0 a2 with
      | false => rfl
      | true =>
        have := (TX a0 a2).1 hs
        have h2 := (Gr a2).2 (fun i h0 hi => (this.1 i (Nat.zero_le _) hi).2 h0)
        rw [hr] at h2; cases h2
    rw [this]; rfl
  have hrr := (Gr a2).1 hr
  by_cases hl : 0 < a2.length
  rotate_left
  · have : K8 a0 a2 = false := by
      cases hs : K8 a0 a2 with
      | false => rfl
      | true => exact absurd ((TX a0 a2).1 hs).2 hl
    have e : ((a2.length : Int) == 0) = true := beq_iff_eq.2 (by omega)
    rw [this, e]; rfl
  have e : ((a2.length : Int) == 0) = false := beq_eq_false_iff_ne.2 (by omega)
  rw [e]
  by_cases la : ∀ k, k < a2.length -> IK a0 (nth a2 k) = true
  · have hs : K8 a0 a2 = true := (TX a0 a2).2 ⟨fun i _ hi => ⟨la i hi, fun h0 => hrr i h0 hi⟩, hl⟩
    rw [hs, Hv a0 a1 a2 a3 h hrr la (a2.length + 1) [] 0 a0.Ym (by omega) (Nat.zero_le _) (fun _ _ _ => rfl)]
    simp only [Bool.not_true, Bool.or_false, Yi]
    cases zU a0 a1 a2 a3 (a2.length + 1) [] 0 with
    | inl r => rfl
    | inr z => simp only [N5 _ _ _ (Yf (ZJ.Y1 h))]
  · have hs : K8 a0 a2 = false := by
      cases hs : K8 a0 a2 with
      | false => rfl
      | true => exact absurd (fun k hk => (((TX a0 a2).1 hs).1 k (Nat.zero_le _) hk).1) la
    have hx : ∃ k, 0 <= k /\ k < a2.length /\ IK a0 (nth a2 k) = false := by
      refine Classical.byContradiction fun hn => la fun k hk => ?_
      cases hz : IK a0 (nth a2 k) with
      | true => rfl
      | false => exact absurd ⟨k, Nat.zero_le _, hk, hz⟩ hn
    rw [hs, MC a0 a1 a2 a3 (a2.length + 1) [] 0 a0.Ym (by omega) (Nat.zero_le _) hx]
    rfl
theorem Ap (a0 : Int) : ∀ (n : Nat) (l : List Int) (i : Int) (o : List Zv), (JW a0 n l i o).length <= o.length + n
  | 0, _, _, _ => Nat.zero_le _
  | n + 1, l, i, o => by
    have ih := Ap a0 n
    simp only [JW]
    refine Zm (p := fun r : List Zv => r.length <= o.length + (n + 1)) ?_ (by omega)
    have h1 := fun l i x => ih l i (o ++ [x])
    simp only [List.length_append, List.length_singleton] at h1
    refine Zm (p := fun r : List Zv => r.length <= o.length + (n + 1)) (Nat.le_trans (h1 _ _ _) (by omega)) ?_
    exact Zm (p := fun r : List Zv => r.length <= o.length + (n + 1)) (Nat.le_trans (h1 _ _ _) (by omega)) (Nat.le_trans (ih _ _ _) (by omega))
theorem ED (a0 : Int) (a1 : List Int) (a2 : Int) : cn (Qj a0 a1 a2) <= 34 := by
  have h : ∀ l : List Zv, cn l = 2 * l.length := fun l => by rw [XA]; exact NG (c := (cn : Zv -> Nat)) (m := 2) (fun _ => rfl) l
  rw [h]
  unfold Qj
  by_cases hl : decide ((a1.length : Int) > 16) = true
  · rw [hl, Bool.or_true, Y0]; exact Nat.zero_le _
  · refine Zm (p := fun r : List Zv => 2 * r.length <= 34) (Nat.zero_le _) ?_
    have := Ap a0 (a1.length + 1) a1 a2 []
    have hl : a1.length <= 16 := by simp at hl; omega
    simp only [List.length_nil] at this ⊢
    omega
theorem vR (a0 : ZD) (a1 : Int) (a2 : List ZX) : ∀ (n v : Nat) (l : List ZM), v <= a0.ZF.length -> (∀ k, v <= k -> nth l k = nth a0.ZF k) -> ∀ z, X7 a0 a1 a2 n v l = .inr z -> cnL cn z <= cnL cn l + 2 * cnL cn (a0.ZF.drop v) + (a0.ZF.length - v) * (37 + cn a2)
  | 0, v, l, _, _, z, h => by cases h; exact Nat.zero_le _
  | n + 1, v, l, hv, hk, z, h => by
    simp only [X7] at h
    revert h
    refine y4 (p := fun r => r = Sum.inr z -> _) (fun hc => ?_) (fun _ h => by cases h; omega)
    have lN : v < a0.ZF.length := by simpa using hc
    refine Zm (p := fun r => r = Sum.inr z -> _) (fun h => by cases h) (fun h => ?_)
    have ih := vR a0 a1 a2 n (v + 1) _ lN (fun k h1 => by rw [HN _ _ (by omega)]; exact hk k (by omega)) z h
    refine Nat.le_trans ih ?_
    rw [Nu cn lN, hk v (Nat.le_refl _)]
    have hs := Wi (cn : ZM -> Nat) l v (ZM.mk (nth a0.ZF v).Id (nth a0.ZF v).Y7 (nth a0.ZF v).Doc (nth a0.ZF v).Sig (XW (nth a0.ZF v).ZI (ZK.mk ((nth a0.ZF v).ZI.ZL.length : Int) a1 (Qf a0 a1) (Qj a1 (Xc a0 a1) (v : Int)) a2)).1)
    have ha : ∀ (s : Za) (r : ZK), cn (XW s r).1 <= cn s + cn r := fun s r => by
      refine Zm (p := fun q : Za × Bool => cn q.1 <= cn s + cn r) (Nat.le_add_right _ _) ?_
      simp only [Za.Yb, XA, JR, cnL]; omega
    have hb := ha (nth a0.ZF v).ZI (ZK.mk ((nth a0.ZF v).ZI.ZL.length : Int) a1 (Qf a0 a1) (Qj a1 (Xc a0 a1) (v : Int)) a2)
    have hp := ED a1 (Xc a0 a1) (v : Int)
    have hd : (a0.ZF.length - v) * (37 + cn a2) = (a0.ZF.length - (v + 1)) * (37 + cn a2) + (37 + cn a2) := by
      rw [show a0.ZF.length - v = (a0.ZF.length - (v + 1)) + 1 by omega, Nat.add_mul, Nat.one_mul]
    rw [hd]
    simp only [ZM.Yb, ZK.Yb, XO] at hs hb ⊢
    omega
theorem Hj (a0 : ZJ) (a1 : Int) (a2 : List Int) (a3 : Int) : ∀ (n : Nat) (l : List ZX) (v : Nat) (q : List Int),
    (∀ r, Xr a0 a1 a2 a3 n l v q = .inl r -> r = (a0, false)) /\ ∀ z, Xr a0 a1 a2 a3 n l v q = .inr z -> cn z.1 <= cn l + 5 * n /\ z.2.length <= q.length
  | 0, _, _, _ => ⟨fun r h => (by cases h), fun z h => (by cases h; exact ⟨Nat.zero_le _, Nat.zero_le _⟩)⟩
  | n + 1, l, v, q => by
    have ih := Hj a0 a1 a2 a3 n
    simp only [Xr]
    have hx : ∀ x : ZX, cn (l ++ [x]) = cn l + 5 := fun x => by simp only [XA, JR, cnL]; rfl
    have step : ∀ x i y, (∀ r, Xr a0 a1 a2 a3 n (l ++ [x]) (v + 1) (q.set i y) = .inl r -> r = (a0, false)) /\ ∀ z, Xr a0 a1 a2 a3 n (l ++ [x]) (v + 1) (q.set i y) = .inr z -> cn z.1 <= cn l + 5 * (n + 1) /\ z.2.length <= q.length := fun x i y => by
      obtain ⟨h1, h2⟩ := ih (l ++ [x]) (v + 1) (q.set i y)
      refine ⟨h1, fun z hz => ?_⟩
      have := h2 z hz
      rw [hx, List.length_set] at this
      exact ⟨by omega, this.2⟩
    have bad : (∀ r, (Sum.inl (a0, false) : Sum (ZJ × Bool) (List ZX × List Int)) = .inl r -> r = (a0, false)) /\ ∀ z, (Sum.inl (a0, false) : Sum (ZJ × Bool) (List ZX × List Int)) = .inr z -> cn z.1 <= cn l + 5 * (n + 1) /\ z.2.length <= q.length := ⟨fun r h => (by cases h; rfl), fun z h => (by cases h)⟩
    let p := fun w : Sum (ZJ × Bool) (List ZX × List Int) => (∀ r, w = .inl r -> r = (a0, false)) /\ ∀ z, w = .inr z -> cn z.1 <= cn l + 5 * (n + 1) /\ z.2.length <= q.length
    refine Zm (p := p) ?_ ⟨fun r h => (by cases h), fun z h => (by cases h; exact ⟨Nat.le_add_right _ _, Nat.le_refl _⟩)⟩
    refine Zm (p := p) bad (Zm (p := p) bad (Zm (p := p) (Zm (p := p) bad (step _ _ _)) (Zm (p := p) bad (step _ _ _))))
theorem Gv (a0 : ZJ) (a1 : Int) (a2 : List Int) (a3 : Int) (h : cn a0 <= 33554464) (h2 : cn a2 <= 33554464) : cn (zP a0 a1 a2 a3).1 <= 1152921504606846976 := by
  unfold zP
  refine Zm (p := fun r : ZJ × Bool => cn r.1 <= 1152921504606846976) (by show cn a0 <= _; omega) ?_
  obtain ⟨k1, k2⟩ := Hj a0 a1 a2 a3 (a2.length + 1) [] 0 a0.Ym
  cases hs : Xr a0 a1 a2 a3 (a2.length + 1) [] 0 a0.Ym with
  | inl r => rw [k1 r hs]; show cn a0 <= _; omega
  | inr z =>
    obtain ⟨q1, q2⟩ := k2 z hs
    obtain ⟨z0, z1⟩ := z
    simp only at q1 q2 ⊢
    refine Zm (p := fun r : ZJ × Bool => cn r.1 <= 1152921504606846976) (by show cn a0 <= _; omega) ?_
    have e0 : cn ([] : List ZX) = 0 := rfl
    have e2 := PG a2
    have h3 : cn (nth a0.ZA a1.toNat) <= cn a0 + 1 := by
      have := UG (cn : ZD -> Nat) a0.ZA a1.toNat
      have hd : cn (default : ZD) = 1 := rfl
      rw [ZJ.Yb, XA (x := a0.ZA)]; omega
    have h4 : cn (Qb (nth a0.ZA a1.toNat) (ZP a0.Frame.Methods a0.Frame.Now) z0).1 <= 1 + 3 * cn (nth a0.ZA a1.toNat) + (nth a0.ZA a1.toNat).ZF.length * (37 + cn z0) := by
      generalize nth a0.ZA a1.toNat = A
      generalize ZP a0.Frame.Methods a0.Frame.Now = m
      unfold Qb
      let p := fun r : ZD × Bool => cn r.1 <= 1 + 3 * cn A + A.ZF.length * (37 + cn z0)
      refine Zm (p := p) (by show cn A <= _; omega) ?_
      cases ht : X7 A m z0 (A.ZF.length + 1) 0 A.ZF with
      | inl r =>
        have : ∀ n v l r, X7 A m z0 n v l = .inl r -> r = (A, false) := by
          intro n
          induction n with
          | zero => intro v l r h; cases h
          | succ n ih =>
            intro v l r h
            simp only [X7] at h
            revert h
            exact Zm (p := fun w => w = Sum.inl r -> r = (A, false)) (Zm (p := fun w => w = Sum.inl r -> r = (A, false)) (fun h => by cases h; rfl) (fun h => ih _ _ _ h)) (fun h => by cases h)
        rw [this _ _ _ _ ht]; show cn A <= _; omega
      | inr w =>
        have hz := vR A m z0 (A.ZF.length + 1) 0 A.ZF (Nat.zero_le _) (fun _ _ => rfl) w ht
        simp only [List.drop_zero, Nat.sub_zero] at hz ⊢
        have hA : cn A = 1 + cnL cn A.ZF := rfl
        refine Zm (p := p) (by show cn A <= _; omega) ?_
        show cn (ZD.mk A.Id w) <= _
        have hB : cn (ZD.mk A.Id w) = 1 + cnL cn w := rfl
        omega
    have h5 : (nth a0.ZA a1.toNat).ZF.length <= cn (nth a0.ZA a1.toNat) := by
      have := Ix (c := (cn : ZM -> Nat)) (fun x => by rw [ZM.Yb]; simp only [XO]; omega) (nth a0.ZA a1.toNat).ZF
      rw [ZD.Yb, XA (x := (nth a0.ZA a1.toNat).ZF)]; omega
    have h6 : (nth a0.ZA a1.toNat).ZF.length * (37 + cn z0) <= 33554465 * 167772400 := Nat.mul_le_mul (by omega) (by omega)
    have h7 := Wi (cn : ZD -> Nat) a0.ZA a1.toNat (Qb (nth a0.ZA a1.toNat) (ZP a0.Frame.Methods a0.Frame.Now) z0).1
    have h8 : cn z1 <= cn a0.Ym := by rw [PG, PG]; exact q2
    simp only [ZJ.Yb, XA (x := a0.ZA), XA (x := a0.ZA.set a1.toNat _), XO] at h h3 ⊢
    omega
@[simp] theorem vn (a0 : Int) (a1 : ZM) : ∀ (n : Nat) (v0 : List Int) (v1 : Nat), xb a0 a1 n v0 v1 = xR a0 a1 n v0 v1 := by
  intro n
  induction n with
  | zero => intros; rfl
  | succ n ih => intros; simp [xb, xR, ih, ByteArray.append_assoc]
@[simp] theorem IT (a0 : Int) (a1 : ZM) : jT a0 a1 = ju a0 a1 := by simp [jT, ju]
theorem Ry (a0 : Int) (a1 : List ZM) : ∀ n v i, WE a0 a1 n v i = zI a0 a1 n v i
  | 0, _, _ => rfl
  | n + 1, v, i => by simp only [WE, zI, Ry a0 a1 n, IT]
@[simp] theorem rU (a0 : Int) (a1 : List ZM) : Wv a0 a1 = K4 a0 a1 := by
  simp only [Wv, K4, Ry, Um]
@[simp] theorem vf (a0 : ZD) (a2 : List Int) : ∀ (n : Nat) (v0 : Nat) (v1 : List ZM), JV a0 a2 n v0 v1 = Xp a0 a2 n v0 v1 := by
  intro n
  induction n with
  | zero => intros; rfl
  | succ n ih => intros; simp [JV, Xp, ih, ByteArray.append_assoc]
@[simp] theorem SG (a0 : ZD) (a1 : Int) (a2 : List Int) (a3 : Int) : Xe a0 a1 a2 a3 = Yw a0 a1 a2 a3 := by simp [Xe, Yw]
@[simp] theorem wY (a0 : YM) : ∀ (n : Nat) (v0 : Nat), Jk a0 n v0 = Jn a0 n v0 := by
  intro n
  induction n with
  | zero => intros; rfl
  | succ n ih => intros; simp [Jk, Jn, ih, ByteArray.append_assoc]
@[simp] theorem N4 (a0 : YM) (a1 : Int) : Kb a0 a1 = Qt a0 a1 := by simp [Kb, Qt]
theorem Ms (a1 : YM) (n v : Nat) (d : Int) (l : List ZM) : (QC a1 (n + 1) false v d l).1 = false := by
  simp only [QC, Bool.and_false, Yi]
theorem M4 (a0 : ZD) (a1 : YM) : ∀ n v d l, a1.ZF.length < n + v -> v <= a1.ZF.length ->
    (∃ z, QA a0 a1 n v d l = .inr z /\ QC a1 n true v d l = (true, z)) \/ (QA a0 a1 n v d l = .inl (a0, false) /\ (QC a1 n true v d l).1 = false)
  | 0, v, d, l, h1, h2 => by omega
  | n + 1, v, d, l, h1, h2 => by
    simp only [QC, QA, Bool.and_true, Te]
    by_cases hi : v < a1.ZF.length
    · rw [show decide ((v : Int) < (a1.ZF.length : Int)) = true by simpa using hi, Y0, Y0]
      cases hb : (XB (ZD.mk d l) (nth a1.ZF v)).2
      · obtain ⟨m, rfl⟩ : ∃ m, n = m + 1 := ⟨n - 1, by omega⟩
        exact .inr ⟨rfl, Ms _ _ _ _ _⟩
      · exact M4 a0 a1 n (v + 1) _ _ (by omega) hi
    · rw [show decide ((v : Int) < (a1.ZF.length : Int)) = false by simpa using hi, Yi, Yi]
      exact .inl ⟨_, rfl, rfl⟩
@[simp] theorem Oi (a0 : ZD) (a1 : YM) (a2 : Int) : QQ a0 a1 a2 = XJ a0 a1 a2 := by
  unfold QQ XJ
  simp only [N4]
  have hc : ((!(Qt a1 a2)) || (a1.To != a0.Id)) = !((Qt a1 a2) && (a1.To == a0.Id)) := by
    cases Qt a1 a2 <;> simp [bne]
  rw [hc]
  cases (Qt a1 a2) && (a1.To == a0.Id) with
  | false =>
    have := Ms a1 a1.ZF.length 0 a0.Id a0.ZF
    cases hs : QC a1 (a1.ZF.length + 1) false 0 a0.Id a0.ZF with
    | mk b z => obtain ⟨z1, z2⟩ := z; rw [hs] at this; simp only at this; subst this; rfl
  | true =>
    rcases M4 a0 a1 (a1.ZF.length + 1) 0 a0.Id a0.ZF (by omega) (Nat.zero_le _) with ⟨z, h1, h2⟩ | ⟨h1, h2⟩
    · rw [h1, h2]
    · rw [h1]
      cases hs : QC a1 (a1.ZF.length + 1) true 0 a0.Id a0.ZF with
      | mk b z => obtain ⟨z1, z2⟩ := z; rw [hs] at h2; simp only at h2; subst h2; rfl
theorem MU (a0 : ZD) (a1 : Int) (k : Nat) (hk : ZW a0 a1 = (k : Int)) (hkl : k < a0.ZF.length) : ∀ n v l, v <= a0.ZF.length -> a0.ZF.length < n + v ->
    KW a0 a1 n v l = l ++ (if v <= k then (a0.ZF.take k).drop v ++ a0.ZF.drop (k + 1) else a0.ZF.drop v)
  | 0, v, l, h1, h2 => by omega
  | n + 1, v, l, h1, h2 => by
    rw [KW]
    simp only [Ua, hk]
    by_cases hv : v < a0.ZF.length
    · rw [show decide ((v : Int) < (a0.ZF.length : Int)) = true by simpa using hv, Y0]
      by_cases hvk : v = k
      · subst hvk
        rw [show ((v : Int) != (v : Int)) = false by simp, Yi, MU a0 a1 v hk hkl n (v + 1) l hv (by omega), if_neg (by omega), if_pos (Nat.le_refl _)]
        rw [show (a0.ZF.take v).drop v = [] from List.drop_eq_nil_of_le (by rw [List.length_take]; omega), List.nil_append]
      · have lD : ((v : Int) != (k : Int)) = true := by simp; omega
        rw [lD, Y0, MU a0 a1 k hk hkl n (v + 1) _ hv (by omega)]
        by_cases lN : v < k
        · rw [if_pos (by omega), if_pos (by omega)]
          have ht : (a0.ZF.take k).drop v = nth a0.ZF v :: (a0.ZF.take k).drop (v + 1) := by
            rw [R8 (l := a0.ZF.take k) (i := v) (by rw [List.length_take]; omega)]
            congr 1
            simp [nth, List.getD_eq_getElem?_getD, List.getElem?_take, lN]
          rw [ht]; simp
        · rw [if_neg (by omega), if_neg (by omega), R8 hv]; simp
    · rw [show decide ((v : Int) < (a0.ZF.length : Int)) = false by simpa using hv, Yi, if_neg (by omega), List.drop_eq_nil_of_le (by omega), List.append_nil]
theorem Fl (a0 : ZD) (a1 : Int) (h : Sm maxLen a0) : zV a0 a1 = Q8 a0 a1 := by
  unfold zV Q8
  simp only [Ua]
  by_cases hk : ZW a0 a1 < 0
  · rw [decide_eq_true hk, Y0, Y0]
  · rw [decide_eq_false hk, Yi, Yi]
    have hf := Qw a0 a1
    have hl := JA (ZD.Ys h)
    have hm : maxLen = 9223372036854775807 := by decide
    have w : W ((ZW a0 a1) + 1) = (ZW a0 a1) + 1 := Zb (by omega) (by omega)
    rw [w, MU a0 a1 (ZW a0 a1).toNat (by omega) (by omega) (a0.ZF.length + 1) 0 [] (Nat.zero_le _) (by omega), if_pos (Nat.zero_le _), show ((ZW a0 a1) + 1).toNat = (ZW a0 a1).toNat + 1 by omega]
    simp
theorem DC (a0 a1 : ZD) (a2 : List Int) (a3 : Int) (n v : Nat) (d : Int) (l : List ZM) : (Qv a0 a1 a2 a3 (n + 1) false v d l).1 = false := by
  simp only [Qv, Bool.and_false, Yi]
theorem Dl (a0 a1 : ZD) (a2 : List Int) (a3 : Int) (hm : (Yw a0 a1.Id a2 a3).2 = true) : ∀ n v d l, Sm maxLen (ZD.mk d l) -> a2.length < n + v -> v <= a2.length ->
    (∃ z, QB a0 a1 a2 n v d l = .inr z /\ Qv a0 a1 a2 a3 n true v d l = (true, z)) \/ (QB a0 a1 a2 n v d l = .inl (a0, a1, false) /\ (Qv a0 a1 a2 a3 n true v d l).1 = false)
  | 0, v, d, l, _, h1, h2 => by omega
  | n + 1, v, d, l, hs, h1, h2 => by
    simp only [Qv, QB, Bool.and_true, SG, hm, Fl _ _ hs]
    by_cases hi : v < a2.length
    · rw [show decide ((v : Int) < (a2.length : Int)) = true by simpa using hi, Y0, Y0]
      cases hb : (Q8 (ZD.mk d l) (nth a2 v)).2
      · obtain ⟨m, rfl⟩ : ∃ m, n = m + 1 := ⟨n - 1, by omega⟩
        exact .inr ⟨rfl, DC _ _ _ _ _ _ _ _⟩
      · exact Dl a0 a1 a2 a3 hm n (v + 1) _ _ (Po (by decide) hs) (by omega) hi
    · rw [show decide ((v : Int) < (a2.length : Int)) = false by simpa using hi, Yi, Yi]
      exact .inl ⟨_, rfl, rfl⟩
theorem HO (a0 a1 : ZD) (a2 : List Int) (a3 : Int) (h : Sm maxLen a0) : Qn a0 a1 a2 a3 = Yy a0 a1 a2 a3 := by
  unfold Qn Yy
  simp only [SG, Oi]
  cases hm : (Yw a0 a1.Id a2 a3).2 with
  | false =>
    rw [show (!false) = true from rfl, Bool.true_or, Y0]
    generalize Qv a0 a1 a2 a3 (a2.length + 1) (XJ a1 (Yw a0 a1.Id a2 a3).1 a3).2 0 a0.Id a0.ZF = q
    obtain ⟨b, z1, z2⟩ := q
    rfl
  | true =>
    cases ha : (XJ a1 (Yw a0 a1.Id a2 a3).1 a3).2 with
    | false =>
      have := DC a0 a1 a2 a3 a2.length 0 a0.Id a0.ZF
      cases hs : Qv a0 a1 a2 a3 (a2.length + 1) false 0 a0.Id a0.ZF with
      | mk b z => obtain ⟨z1, z2⟩ := z; rw [hs] at this; simp only at this; subst this; rfl
    | true =>
      rcases Dl a0 a1 a2 a3 hm (a2.length + 1) 0 a0.Id a0.ZF h (by omega) (Nat.zero_le _) with ⟨z, h1, h2⟩ | ⟨h1, h2⟩
      · rw [h1, h2]
      · rw [h1]
        cases hs : Qv a0 a1 a2 a3 (a2.length + 1) true 0 a0.Id a0.ZF with
        | mk b z => obtain ⟨z1, z2⟩ := z; rw [hs] at h2; simp only at h2; subst h2; rfl
theorem wx (a0 a1 : ZD) (a2 : List Int) (a3 : Int) (h : (Yy a0 a1 a2 a3).2.2 = false) : Yy a0 a1 a2 a3 = (a0, a1, false) := by
  unfold Yy at h ⊢
  cases hc : ((!(Yw a0 a1.Id a2 a3).2) || (!(XJ a1 (Yw a0 a1.Id a2 a3).1 a3).2)) with
  | true => rfl
  | false =>
    rw [hc, Yi] at h
    rw [Yi]
    have hk : ∀ n v d l r, QB a0 a1 a2 n v d l = .inl r -> r = (a0, a1, false) := by
      intro n
      induction n with
      | zero => intro v d l r h; cases h
      | succ n ih =>
        intro v d l r h
        rw [QB] at h
        revert h
        exact Zm (p := fun w => w = Sum.inl r -> r = (a0, a1, false)) (Zm (p := fun w => w = Sum.inl r -> r = (a0, a1, false)) (fun h => by cases h; rfl) (fun h => ih _ _ _ _ h)) (fun h => by cases h)
    cases hs : QB a0 a1 a2 (a2.length + 1) 0 a0.Id a0.ZF with
    | inl r => exact hk _ _ _ _ _ hs
    | inr z => rw [hs] at h; obtain ⟨z1, z2⟩ := z; cases h
theorem C6 {α : Type} [Inhabited α] (l : List α) (i : Nat) : l.set i (nth l i) = l := by
  by_cases h : i < l.length
  · have : nth l i = l[i] := by simp [nth, List.getD_eq_getElem?_getD, List.getElem?_eq_getElem h]
    rw [this, List.set_getElem_self]
  · exact List.set_eq_of_length_le (by omega)
@[simp] theorem sv (a0 : ZJ) (a1 a2 a3 : Int) (h : Sm maxLen a0) : qm a0 a1 a2 a3 = yE a0 a1 a2 a3 := by
  unfold qm yE
  simp only [WA, K2, HO _ _ _ _ (Yf (ZJ.Y1 h))]
  cases ((((!(YU a0 a1)) || (!(YU a0 a2))) || (a1 == a2)) || (decide ((ZP a0.Frame.Methods a0.Frame.Now) < 0))) with
  | true => rfl
  | false =>
    rw [Yi, Yi]
    cases hb : (Yy (nth a0.ZA a1.toNat) (nth a0.ZA a2.toNat) ([a3] : List Int) (ZP a0.Frame.Methods a0.Frame.Now)).2.2 with
    | true => rfl
    | false =>
      rw [wx _ _ _ _ hb, Yi]
      simp only [C6]
theorem pg (a0 : ZJ) (i k : Nat) (x y : ZD) : cn (ZJ.mk a0.Frame a0.ZS a0.Zr ((a0.ZA.set i x).set k y) a0.Ym a0.YW a0.Next a0.YN) <= cn a0 + cn x + cn y := by
  have h1 := Wi (cn : ZD -> Nat) a0.ZA i x
  have h2 := Wi (cn : ZD -> Nat) (a0.ZA.set i x) k y
  simp only [ZJ.Yb, XA (x := a0.ZA), XA (x := (a0.ZA.set i x).set k y), XO]
  omega
theorem Fy (a0 : ZD) (a1 : ZM) : cn (XB a0 a1).1 <= cn a0 + cn a1 := by
  unfold XB
  refine Zm (p := fun (r : ZD × Bool) => cn r.1 <= cn a0 + cn a1) (by show cn a0 <= _; omega) ?_
  simp only
  refine Zm (p := fun (r : ZD × Bool) => cn r.1 <= cn a0 + cn a1) (by show cn a0 <= _; omega) ?_
  generalize Y9 a0 a1 (a0.ZF.length + 1) 0 = z
  have h := JR (cn : ZM -> Nat) (a0.ZF.take z) (a0.ZF.drop z)
  rw [List.take_append_drop] at h
  simp only [ZD.Yb, XA, JR, cnL] at h ⊢
  omega
theorem Rp (a0 : ZD) : cn a0 = 1 + cnL cn a0.ZF := rfl
theorem uF (a0 : ZD) : a0.ZF.length <= cn a0 := by
  have := Ix (c := (cn : ZM -> Nat)) (fun x => by rw [ZM.Yb]; simp only [XO]; omega) a0.ZF
  rw [Rp]; omega
theorem Fb (a0 : ZD) (a1 : Int) (hb : cn a0 <= 1152921504606846976) : cn (Q8 a0 a1).1 <= cn a0 := by
  unfold Q8
  by_cases hk : ZW a0 a1 < 0
  · rw [decide_eq_true hk]; exact Nat.le_refl _
  · rw [decide_eq_false hk, Yi]
    have hf := Qw a0 a1
    have hl := uF a0
    have w : W ((ZW a0 a1) + 1) = (ZW a0 a1) + 1 := Zb (by omega) (by omega)
    rw [w, show ((ZW a0 a1) + 1).toNat = (ZW a0 a1).toNat + 1 by omega]
    have h1 := JR (cn : ZM -> Nat) (a0.ZF.take (ZW a0 a1).toNat) (a0.ZF.drop (ZW a0 a1).toNat)
    rw [List.take_append_drop, Nu cn (l := a0.ZF) (i := (ZW a0 a1).toNat) (by omega)] at h1
    show 1 + cnL cn (a0.ZF.take (ZW a0 a1).toNat ++ a0.ZF.drop ((ZW a0 a1).toNat + 1)) <= 1 + cnL cn a0.ZF
    rw [JR]; omega
theorem DU (a0 : ZD) (a2 : List Int) : ∀ n v l, (∀ r, Xp a0 a2 n v l = .inl r -> r = (YM.mk 0 0 [] 0, false)) /\ ∀ z, Xp a0 a2 n v l = .inr z -> cnL cn z <= cnL cn l + (a2.length - v) * (cn a0 + 200)
  | 0, v, l => ⟨fun r h => (by cases h), fun z h => (by cases h; exact Nat.zero_le _)⟩
  | n + 1, v, l => by
    rw [Xp]
    let p := fun w : Sum (YM × Bool) (List ZM) => (∀ r, w = .inl r -> r = (YM.mk 0 0 [] 0, false)) /\ ∀ z, w = .inr z -> cnL cn z <= cnL cn l + (a2.length - v) * (cn a0 + 200)
    refine y4 (p := p) (fun hc => ?_) (fun _ => ⟨fun r h => (by cases h), fun z h => (by cases h; exact Nat.le_add_right _ _)⟩)
    have hc : v < a2.length := by simpa using hc
    refine Zm (p := p) ⟨fun r h => (by cases h; rfl), fun z h => (by cases h)⟩ ?_
    obtain ⟨k1, k2⟩ := DU a0 a2 n (v + 1) (l ++ [nth a0.ZF (ZW a0 (nth a2 v)).toNat])
    refine ⟨k1, fun z hz => ?_⟩
    have := k2 z hz
    have hn := UG (cn : ZM -> Nat) a0.ZF (ZW a0 (nth a2 v)).toNat
    have hd : cn (default : ZM) <= 200 := Nat.le_of_ble_eq_true rfl
    have hi := Rp a0
    have hm : (a2.length - v) * (cn a0 + 200) = (a2.length - (v + 1)) * (cn a0 + 200) + (cn a0 + 200) := by
      rw [show a2.length - v = (a2.length - (v + 1)) + 1 by omega, Nat.add_mul, Nat.one_mul]
    rw [JR] at this
    simp only [cnL] at this
    omega
theorem rj (a0 : ZD) (a1 : Int) (a2 : List Int) (a3 : Int) : cnL cn (Yw a0 a1 a2 a3).1.ZF <= a2.length * (cn a0 + 200) := by
  unfold Yw
  obtain ⟨k1, k2⟩ := DU a0 a2 (a2.length + 1) 0 []
  cases hs : Xp a0 a2 (a2.length + 1) 0 [] with
  | inl r => rw [k1 r hs]; exact Nat.zero_le _
  | inr z =>
    have := k2 z hs
    rw [Nat.sub_zero] at this
    simp only [cnL] at this
    dsimp only
    refine Zm (p := fun w : YM × Bool => cnL cn w.1.ZF <= a2.length * (cn a0 + 200)) (Nat.zero_le _) ?_
    show cnL cn z <= _
    omega
theorem Mz (a0 : ZD) (a1 : YM) : ∀ n v d l, (∀ r, QA a0 a1 n v d l = .inl r -> r = (a0, false)) /\ ∀ z, QA a0 a1 n v d l = .inr z -> cnL cn z.2 <= cnL cn l + cnL cn (a1.ZF.drop v)
  | 0, v, d, l => ⟨fun r h => (by cases h), fun z h => (by cases h; exact Nat.zero_le _)⟩
  | n + 1, v, d, l => by
    rw [QA]
    let p := fun w : Sum (ZD × Bool) (Int × List ZM) => (∀ r, w = .inl r -> r = (a0, false)) /\ ∀ z, w = .inr z -> cnL cn z.2 <= cnL cn l + cnL cn (a1.ZF.drop v)
    refine y4 (p := p) (fun hc => ?_) (fun _ => ⟨fun r h => (by cases h), fun z h => (by cases h; exact Nat.le_add_right _ _)⟩)
    have hc : v < a1.ZF.length := by simpa using hc
    refine Zm (p := p) ⟨fun r h => (by cases h; rfl), fun z h => (by cases h)⟩ ?_
    obtain ⟨k1, k2⟩ := Mz a0 a1 n (v + 1) (XB (ZD.mk d l) (nth a1.ZF v)).1.Id (XB (ZD.mk d l) (nth a1.ZF v)).1.ZF
    refine ⟨k1, fun z hz => ?_⟩
    have := k2 z hz
    have ha := Fy (ZD.mk d l) (nth a1.ZF v)
    rw [Rp, Rp] at ha
    rw [Nu cn hc]
    simp only at ha
    omega
theorem uR (a0 : ZD) (a1 : YM) (a2 : Int) : cn (XJ a0 a1 a2).1 <= cn a0 + cnL cn a1.ZF := by
  unfold XJ
  refine Zm (p := fun w : ZD × Bool => cn w.1 <= cn a0 + cnL cn a1.ZF) (Nat.le_add_right _ _) ?_
  obtain ⟨k1, k2⟩ := Mz a0 a1 (a1.ZF.length + 1) 0 a0.Id a0.ZF
  cases hs : QA a0 a1 (a1.ZF.length + 1) 0 a0.Id a0.ZF with
  | inl r => rw [k1 r hs]; exact Nat.le_add_right _ _
  | inr z =>
    have := k2 z hs
    obtain ⟨z1, z2⟩ := z
    rw [List.drop_zero] at this
    show 1 + cnL cn z2 <= _
    rw [Rp]
    simp only at this
    omega
theorem E5 (a0 a1 : ZD) (a2 : List Int) : ∀ n v d l, cn (ZD.mk d l) <= 1152921504606846976 -> (∀ r, QB a0 a1 a2 n v d l = .inl r -> r = (a0, a1, false)) /\ ∀ z, QB a0 a1 a2 n v d l = .inr z -> cn (ZD.mk z.1 z.2) <= cn (ZD.mk d l)
  | 0, v, d, l, hb => ⟨fun r h => (by cases h), fun z h => (by cases h; show 1 + 0 <= 1 + cnL cn l; omega)⟩
  | n + 1, v, d, l, hb => by
    rw [QB]
    let p := fun w : Sum (ZD × ZD × Bool) (Int × List ZM) => (∀ r, w = .inl r -> r = (a0, a1, false)) /\ ∀ z, w = .inr z -> cn (ZD.mk z.1 z.2) <= cn (ZD.mk d l)
    have hd := Fb (ZD.mk d l) (nth a2 v) hb
    obtain ⟨k1, k2⟩ := E5 a0 a1 a2 n (v + 1) (Q8 (ZD.mk d l) (nth a2 v)).1.Id (Q8 (ZD.mk d l) (nth a2 v)).1.ZF (Nat.le_trans hd hb)
    exact Zm (p := p) (Zm (p := p) ⟨fun r h => (by cases h; rfl), fun z h => (by cases h)⟩ ⟨k1, fun z hz => Nat.le_trans (k2 z hz) hd⟩) ⟨fun r h => (by cases h), fun z h => (by cases h; exact Nat.le_refl _)⟩
theorem rM (a0 a1 : ZD) (a2 : List Int) (a3 : Int) (hb : cn a0 <= 1152921504606846976) : cn (Yy a0 a1 a2 a3).1 <= cn a0 /\ cn (Yy a0 a1 a2 a3).2.1 <= cn a1 + a2.length * (cn a0 + 200) := by
  have hto : cn (XJ a1 (Yw a0 a1.Id a2 a3).1 a3).1 <= cn a1 + a2.length * (cn a0 + 200) :=
    Nat.le_trans (uR _ _ _) (Nat.add_le_add_left (rj _ _ _ _) _)
  unfold Yy
  let p := fun (r : ZD × ZD × Bool) => cn r.1 <= cn a0 /\ cn r.2.1 <= cn a1 + a2.length * (cn a0 + 200)
  refine Zm (p := p) ⟨Nat.le_refl _, Nat.le_add_right _ _⟩ ?_
  obtain ⟨k1, k2⟩ := E5 a0 a1 a2 (a2.length + 1) 0 a0.Id a0.ZF hb
  cases hs : QB a0 a1 a2 (a2.length + 1) 0 a0.Id a0.ZF with
  | inl r => rw [k1 r hs]; exact ⟨Nat.le_refl _, Nat.le_add_right _ _⟩
  | inr z => exact ⟨k2 z hs, hto⟩
theorem F7 (a0 : ZJ) (a1 a2 a3 : Int) (h : cn a0 <= 33554464) : cn (yE a0 a1 a2 a3).1 <= 1152921504606846976 := by
  unfold yE
  refine Zm (p := fun r : ZJ × Bool => cn r.1 <= 1152921504606846976) (by show cn a0 <= _; omega) ?_
  refine Zm (p := fun r : ZJ × Bool => cn r.1 <= 1152921504606846976) ?_ (by show cn a0 <= _; omega)
  have hA : ∀ i, cn (nth a0.ZA i) <= cn a0 + 1 := fun i => by
    have := UG (cn : ZD -> Nat) a0.ZA i
    have hd : cn (default : ZD) = 1 := rfl
    rw [ZJ.Yb, XA (x := a0.ZA)]; omega
  have h1 := hA a1.toNat
  have h2 := hA a2.toNat
  have hm := rM (nth a0.ZA a1.toNat) (nth a0.ZA a2.toNat) [a3] (ZP a0.Frame.Methods a0.Frame.Now) (by omega)
  have hs := pg a0 a1.toNat a2.toNat (Yy (nth a0.ZA a1.toNat) (nth a0.ZA a2.toNat) ([a3] : List Int) (ZP a0.Frame.Methods a0.Frame.Now)).1 (Yy (nth a0.ZA a1.toNat) (nth a0.ZA a2.toNat) ([a3] : List Int) (ZP a0.Frame.Methods a0.Frame.Now)).2.1
  refine Nat.le_trans hs ?_
  have e1 : ([a3] : List Int).length = 1 := rfl
  rw [e1, Nat.one_mul] at hm
  omega
theorem De (a0 : ZD) (a1 : Int) : ∀ (m i : Nat) (d : Int) (l : List ZM), (Kt a0 a1 m d i l).2 = Jb a0 a1 m i l
  | 0, _, _, _ => rfl
  | m + 1, i, d, l => by
    simp only [Kt, Jb]
    cases decide ((i : Int) < (a0.ZF.length : Int)) with
    | false => rfl
    | true =>
      simp only [cond_true]
      rw [show decide ((nth a0.ZF i).Y7 >= a1) = !decide ((nth a0.ZF i).Y7 < a1) by rw [<- decide_not]; simp]
      cases decide ((nth a0.ZF i).Y7 < a1) <;> simp [De a0 a1 m]
theorem MA (a0 : ZD) (a1 : Int) : (yG a0 a1).1 = (J0 a0 a1).1 := by
  unfold yG J0
  have h := De a0 a1 (a0.ZF.length + 1) 0 0 []
  cases hs : Kt a0 a1 (a0.ZF.length + 1) 0 0 [] with
  | mk x y => rw [hs] at h; simp only at h ⊢; rw [h]
theorem MJ (a0 : ZD) (a1 : Int) : ∀ (m i : Nat) (l : List ZM), cnL cn (Jb a0 a1 m i l) <= cnL cn l + cnL cn (a0.ZF.drop i)
  | 0, _, _ => by show cnL cn (default : List ZM) <= _; exact Nat.zero_le _
  | m + 1, i, l => by
    simp only [Jb]
    cases hc : decide ((i : Int) < (a0.ZF.length : Int)) with
    | false => simp only [cond_false]; omega
    | true =>
      have lN : i < a0.ZF.length := by simpa using hc
      have hd : a0.ZF.drop i = nth a0.ZF i :: a0.ZF.drop (i + 1) := by
        rw [List.drop_eq_getElem_cons lN]; simp [nth, List.getD_eq_getElem?_getD, List.getElem?_eq_getElem lN]
      rw [hd]
      simp only [cond_true, cnL]
      cases decide ((nth a0.ZF i).Y7 >= a1) with
      | true =>
        have := MJ a0 a1 m (i + 1) (l ++ [nth a0.ZF i])
        simp only [JR, cnL] at this
        simp only [cond_true]; omega
      | false =>
        have := MJ a0 a1 m (i + 1) l
        simp only [cond_false]; omega
@[simp] theorem u3 (a0 : ZJ) (a1 : Int) : yP a0 a1 = zL a0 a1 := by
  simp only [yP, zL, WA, MA]
theorem IB (a0 : ZJ) (a1 : Int) (h : cn a0 <= 33554464) : cn (zL a0 a1).1 <= 1152921504606846976 := by
  refine Zm (p := fun (r : ZJ × Bool) => cn r.1 <= 1152921504606846976) (by show cn a0 <= _; omega) ?_
  have h1 := TV a0 a1.toNat (J0 (nth a0.ZA a1.toNat) a0.Frame.Now).1 true
  have h2 := MJ (nth a0.ZA a1.toNat) a0.Frame.Now ((nth a0.ZA a1.toNat).ZF.length + 1) 0 []
  have h3 := Tg a0 a1.toNat
  have h4 : cn (J0 (nth a0.ZA a1.toNat) a0.Frame.Now).1 = 1 + cnL cn (Jb (nth a0.ZA a1.toNat) a0.Frame.Now ((nth a0.ZA a1.toNat).ZF.length + 1) 0 []) := rfl
  simp only [List.drop_zero, cnL, ZD.Yb, XA, XO] at h1 h2 h3 h4 ⊢
  omega
@[simp] theorem vL (a0 : List Zf) (a1 : Int) : ∀ (n : Nat) (v0 : Nat), zf a0 a1 n v0 = zk a0 a1 n v0 := by
  intro n
  induction n with
  | zero => intros; rfl
  | succ n ih => intros; simp [zf, zk, ih, ByteArray.append_assoc]
@[simp] theorem uj (a0 : List Zf) (a1 : Int) : zC a0 a1 = zQ a0 a1 := by simp [zC, zQ]
@[simp] theorem rK (a0 : List Zf) (a1 : Int) : TE a0 a1 = TC a0 a1 := by
  unfold TE TC; rw [cond_neg]; simp
@[simp] theorem Pm (a0 : Z8) (a1 : Int) : qi a0 a1 = za a0 a1 := by
  unfold qi za Wp
  by_cases h : YH a0.Zq a1 < 0
  · have : ¬ 0 <= YH a0.Zq a1 := by omega
    simp [this]
  · simp [h]
@[simp] theorem tE (a0 : ZJ) (a1 a2 : Int) (a3 : ZV) : yz a0 a1 a2 a3 = z9 a0 a1 a2 a3 := by
  unfold yz z9
  simp only [WA, Pm, Te]
  cases hs : za a0.Frame a2 with
  | false => cases YU a0 a1 <;> rfl
  | true =>
    have hk : decide ((YH a0.Frame.Zq a2) < 0) = false := by
      simp only [za, Bool.and_eq_true, decide_eq_true_eq] at hs
      simp only [decide_eq_false_iff_not]; omega
    rw [Rg, hk]
    cases (YU a0 a1) with
    | false => rfl
    | true =>
      simp only [Bool.not_true, Bool.or_false, Bool.false_or, cond_false, Ar]
      cases (Xa a0 a2 a3 0 10000).2 with
      | false => rfl
      | true =>
        cases (XB (nth a0.ZA a1.toNat) (Xa a0 a2 a3 0 10000).1).2 <;> rfl
theorem GV (a0 : ZJ) (a1 a2 : Int) (a3 : ZV) (h : cn a0 <= 33554464) (h3 : cn a3 <= 33554464) : cn (z9 a0 a1 a2 a3).1 <= 1152921504606846976 := by
  have h4 := Pa a0 a1 a2 a3 0 10000
  refine Zm (p := fun (r : ZJ × Bool) => cn r.1 <= 1152921504606846976) (by show cn a0 <= _; omega) ?_
  refine Zm (p := fun (r : ZJ × Bool) => cn r.1 <= 1152921504606846976) ?_ (by simp only; omega)
  simp only [ZJ.Yb, XA, JR, cnL, XO] at h4 h ⊢
  omega
@[simp] theorem Dh (a0 : ZJ) : ∀ (n : Nat) (v0 : List Int) (v1 : Nat), QU a0 n v0 v1 = Xt a0 n v0 v1 := by
  intro n
  induction n with
  | zero => intros; rfl
  | succ n ih => intros; simp [QU, Xt, ih, ByteArray.append_assoc]
@[simp] theorem j6 (a0 : ZJ) : Yc a0 = Z6 a0 := by simp [Yc, Z6]
theorem Sn (a0 : ZJ) (h : cn a0 <= 33554464) : cn (Z6 a0) <= 1152921504606846976 := by
  have e := G3 (F := Xt a0) (fun _ _ => rfl) (fun _ _ _ => rfl) (a0.Frame.ZG.length + 1) [] 0
  have k := Ix (c := (cn : ZQ -> Nat)) (fun _ => Nat.le_of_ble_eq_true rfl) a0.Frame.ZG
  rw [PG]
  simp only [ZJ.Yb, Z8.Yb, XA] at h
  have : (Z6 a0).length <= 0 + (a0.Frame.ZG.length - 0) := e
  omega
theorem w7 (a0 : ZD) (a1 : Int) (h : Sm maxLen a0) : YD a0 a1 = a0.ZF.map (fun x => QJ x a1) := by
  have := H2 (as := a0.ZF) (fun x => [TI (Za.mk x.ZI.ZL (x.ZI.Zd ++ [ZK.mk (x.ZI.ZL.length : Int) a1 0 [] []])) (Jx (Za.mk x.ZI.ZL (x.ZI.Zd ++ [ZK.mk (x.ZI.ZL.length : Int) a1 0 [] []])) x.Doc) (W (((x.ZI.Zd ++ [ZK.mk (x.ZI.ZL.length : Int) a1 0 [] []]).length : Int) - 1))]) (F := fun n i l => Jt a0 a1 n l i) (fun _ _ _ => rfl) (a0.ZF.length + 1) 0 [] (by omega) (Nat.zero_le _)
  unfold YD
  rw [this, List.drop_zero, Hw]
  exact List.map_congr_left (fun x hx => AV x a1 ((ZD.Ys h).2 x hx) _ rfl)
theorem sG {α β : Type} [Inhabited α] [Inhabited β] (f : α -> β) {l : List α} {i : Nat} (h : i < l.length) : nth (l.map f) i = f (nth l i) := by simp [nth, List.getD_eq_getElem?_getD, List.getElem?_map, List.getElem?_eq_getElem h]
theorem DX (a0 : ZJ) (a1 a2 : Int) (e : nth (YD (nth a0.ZA (ZT a0 a1).1.toNat) (ZP a0.Frame.Methods a0.Frame.Now)) (ZT a0 a1).2.toNat = QJ (nth (nth a0.ZA (ZT a0 a1).1.toNat).ZF (ZT a0 a1).2.toNat) (ZP a0.Frame.Methods a0.Frame.Now)) :
    ∀ n v0 v1, zt a0 a1 a2 n v0 v1 = Qd a0 a1 a2 n v0 v1
  | 0, _, _ => rfl
  | n + 1, v0, v1 => by simp only [zt, Qd, DX a0 a1 a2 e n, j6, Sr, Vr, K2, e]
@[simp] theorem vj (a0 : ZJ) (a1 a2 : Int) (h : Sm maxLen a0) : Kq a0 a1 a2 = JZ a0 a1 a2 := by
  unfold Kq JZ
  simp only [Vr, K2, I0, j6, SZ]
  have hb : ∀ p q r s : Bool, (((p || q) || r) || s) = (((r || p) || q) || s) := by decide
  rw [hb]
  by_cases hi : (ZT a0 a1).1 < 0
  · rw [decide_eq_true hi]; simp
  · obtain ⟨h1, h2, h3⟩ := KS a0 a1 (by omega)
    have e : nth (YD (nth a0.ZA (ZT a0 a1).1.toNat) (ZP a0.Frame.Methods a0.Frame.Now)) (ZT a0 a1).2.toNat = QJ (nth (nth a0.ZA (ZT a0 a1).1.toNat).ZF (ZT a0 a1).2.toNat) (ZP a0.Frame.Methods a0.Frame.Now) := by
      rw [w7 _ _ (Yf (ZJ.Y1 h)), sG _ h3]
    rw [DX a0 a1 a2 e, e]
theorem vI (a0 : ZJ) (a1 a2 : Int) : ∀ n v0 v1, (∀ r, Qd a0 a1 a2 n v0 v1 = .inl r -> r = (a0, false)) /\ ∀ z, Qd a0 a1 a2 n v0 v1 = .inr z -> z.length <= v1.length + n
  | 0, _, _ => ⟨fun r h => (by cases h), fun z h => (by cases h; exact Nat.zero_le _)⟩
  | n + 1, v0, v1 => by
    simp only [Qd]
    let p := fun w : Sum (ZJ × Bool) (List ZX) => (∀ r, w = .inl r -> r = (a0, false)) /\ ∀ z, w = .inr z -> z.length <= v1.length + (n + 1)
    refine Zm (p := p) (Zm (p := p) ⟨fun r h => (by cases h; rfl), fun z h => (by cases h)⟩ ?_) ⟨fun r h => (by cases h), fun z h => (by cases h; exact Nat.le_add_right _ _)⟩
    obtain ⟨h1, h2⟩ := vI a0 a1 a2 n (v0 + 1) (v1 ++ [(Jm a0.Frame.Zq a0.Frame.ZG (ZX.mk (nth (Z6 a0) v0) 0 a2 (QJ (nth (nth a0.ZA (ZT a0 a1).1.toNat).ZF (ZT a0 a1).2.toNat) (ZP a0.Frame.Methods a0.Frame.Now)) 0)).1])
    exact ⟨h1, fun z hz => by have := h2 z hz; simp at this; omega⟩
theorem NS (a0 : ZJ) (a1 a2 : Int) (h : cn a0 <= 33554464) : cn (JZ a0 a1 a2).1 <= 1152921504606846976 := by
  unfold JZ
  refine Zm (p := fun r : ZJ × Bool => cn r.1 <= 1152921504606846976) (by show cn a0 <= _; omega) ?_
  obtain ⟨k1, k2⟩ := vI a0 a1 a2 ((Z6 a0).length + 1) 0 []
  cases hs : Qd a0 a1 a2 ((Z6 a0).length + 1) 0 [] with
  | inl r => rw [k1 r hs]; show cn a0 <= _; omega
  | inr z =>
    have hz := k2 z hs
    have hf := Sn a0 h
    rw [PG] at hf
    have iV := KV a0
    have hau := Ix (c := (cn : ZQ -> Nat)) (fun _ => Nat.le_of_ble_eq_true rfl) a0.Frame.ZG
    have hA := UG (cn : ZD -> Nat) a0.ZA (ZT a0 a1).1.toNat
    have hI := UG (cn : ZM -> Nat) (nth a0.ZA (ZT a0 a1).1.toNat).ZF (ZT a0 a1).2.toNat
    have hd : cn (default : ZD) = 1 := rfl
    have fH : cn (default : ZM) <= 100 := Nat.le_of_ble_eq_true rfl
    rw [hd] at hA
    replace hI := Nat.le_trans hI (Nat.add_le_add_left fH _)
    simp only [List.length_nil] at hz
    dsimp only
    have ha : ∀ (s : Za) (r : ZK), cn (XW s r).1 <= cn s + cn r := fun s r => by
      refine Zm (p := fun q : Za × Bool => cn q.1 <= cn s + cn r) (Nat.le_add_right _ _) ?_
      simp only [Za.Yb, XA, JR, cnL]; omega
    have hb := ha (nth (nth a0.ZA (ZT a0 a1).1.toNat).ZF (ZT a0 a1).2.toNat).ZI (ZK.mk ((nth (nth a0.ZA (ZT a0 a1).1.toNat).ZF (ZT a0 a1).2.toNat).ZI.ZL.length : Int) (ZP a0.Frame.Methods a0.Frame.Now) (QJ (nth (nth a0.ZA (ZT a0 a1).1.toNat).ZF (ZT a0 a1).2.toNat) (ZP a0.Frame.Methods a0.Frame.Now)) [] z)
    have e0 : cn ([] : List Zv) = 0 := rfl
    have ez : cn z = 5 * z.length := by rw [XA]; exact NG (c := (cn : ZX -> Nat)) (m := 5) (fun _ => rfl) z
    generalize (XW (nth (nth a0.ZA (ZT a0 a1).1.toNat).ZF (ZT a0 a1).2.toNat).ZI (ZK.mk ((nth (nth a0.ZA (ZT a0 a1).1.toNat).ZF (ZT a0 a1).2.toNat).ZI.ZL.length : Int) (ZP a0.Frame.Methods a0.Frame.Now) (QJ (nth (nth a0.ZA (ZT a0 a1).1.toNat).ZF (ZT a0 a1).2.toNat) (ZP a0.Frame.Methods a0.Frame.Now)) [] z)).1 = S at hb ⊢
    have hJ := Wi (cn : ZM -> Nat) (nth a0.ZA (ZT a0 a1).1.toNat).ZF (ZT a0 a1).2.toNat (ZM.mk (nth (nth a0.ZA (ZT a0 a1).1.toNat).ZF (ZT a0 a1).2.toNat).Id (nth (nth a0.ZA (ZT a0 a1).1.toNat).ZF (ZT a0 a1).2.toNat).Y7 (nth (nth a0.ZA (ZT a0 a1).1.toNat).ZF (ZT a0 a1).2.toNat).Doc (nth (nth a0.ZA (ZT a0 a1).1.toNat).ZF (ZT a0 a1).2.toNat).Sig S)
    generalize nth (nth a0.ZA (ZT a0 a1).1.toNat).ZF (ZT a0 a1).2.toNat = X at hI hb hJ ⊢
    have hK := Wi (cn : ZD -> Nat) a0.ZA (ZT a0 a1).1.toNat (ZD.mk (nth a0.ZA (ZT a0 a1).1.toNat).Id ((nth a0.ZA (ZT a0 a1).1.toNat).ZF.set (ZT a0 a1).2.toNat (ZM.mk X.Id X.Y7 X.Doc X.Sig S)))
    generalize nth a0.ZA (ZT a0 a1).1.toNat = Y at hA hI hJ hK ⊢
    simp only [ZJ.Yb, Z8.Yb, ZD.Yb, ZM.Yb, ZK.Yb, XA (x := Y.ZF), XA (x := a0.Frame.ZG), XA (x := a0.ZA), XA (x := Y.ZF.set _ _), XA (x := a0.ZA.set _ _), XO, List.length_nil, e0] at h hA hI hJ hK hb ⊢
    omega
@[simp] theorem sb (a0 : ZJ) (a1 a2 : Int) : qo a0 a1 a2 = y5 a0 a1 a2 := by
  unfold qo y5 YG
  simp only [Vr, RR, PS, Pm, SA, Rm, U6]
  cases h1 : ((decide ((ZT a0 a1).1 < 0)) || (decide (((nth (nth a0.ZA (ZT a0 a1).1.toNat).ZF (ZT a0 a1).2.toNat).ZI.ZL.length : Int) < 2))) with
  | true => rfl
  | false =>
    simp only [cond_false]
    generalize J6 (nth (nth (nth a0.ZA (ZT a0 a1).1.toNat).ZF (ZT a0 a1).2.toNat).ZI.ZL 1) = p
    rw [LM, show (!(decide (XL a0.ZS p.1.Zg >= 0))) = decide (XL a0.ZS p.1.Zg < 0) by rw [<- decide_not]; simp]
    cases h2 : ((!p.2 || decide (XL a0.ZS p.1.Zg < 0)) || (!(za a0.Frame (nth a0.ZS (XL a0.ZS p.1.Zg).toNat).Z5))) with
    | true => rfl
    | false =>
      simp only [cond_false]
      have hn : 0 <= XL a0.ZS p.1.Zg := by simp at h2; exact h2.1.2
      rw [Ph _ _ hn, <- E0]
      generalize (Z4.mk p.1.Zg a2 (-1) (nth a0.ZS (XL a0.ZS p.1.Zg).toNat).Z5 0) = st
      cases (Yp a0.Frame.Zq st).2 <;> rfl
theorem Ft (a0 : ZJ) (a1 a2 : Int) (h : cn a0 <= 33554464) : cn (y5 a0 a1 a2).1 <= 1152921504606846976 := by
  refine Zm (p := fun (r : ZJ × Bool) => cn r.1 <= 1152921504606846976) (by show cn a0 <= _; omega) ?_
  exact Nat.le_trans (RO _ _ _ _) (by omega)
@[simp] theorem u4 (a0 : ZJ) (a1 : Yu) (h : Sm maxLen a0) : QH a0 a1 = Z3 a0 a1 := by simp [QH, Z3, h]
theorem Lo (a0 : ZJ) (a1 : Yu) (h : cn a0 <= 33554464) (h2 : cn a1 <= 33554464) : cn (Z3 a0 a1).1 <= 1152921504606846976 := by
  have h3 : cn a1.Doc <= 33554464 := by rw [Yu.Yb] at h2; omega
  have h4 : cn a1.Ids <= 33554464 := by rw [Yu.Yb] at h2; omega
  unfold Z3
  let p := fun r : ZJ × Bool => cn r.1 <= 1152921504606846976
  refine Zm (p := p) (Er _ _ h) (Zm (p := p) (Eu _ _ _ _ _ _ h h3) (Zm (p := p) (Lp _ _ h) (Zm (p := p) (Lj _ _ h) (Zm (p := p) (Gv _ _ _ _ h h4) (Zm (p := p) (F7 _ _ _ _ h) (Zm (p := p) (IB _ _ h)
    (Zm (p := p) (GV _ _ _ _ h h3) (Zm (p := p) (NS _ _ _ h) (Zm (p := p) (Ft _ _ _ h) ?_)))))))))
  show cn a0 <= _; omega
end Go.Mo
