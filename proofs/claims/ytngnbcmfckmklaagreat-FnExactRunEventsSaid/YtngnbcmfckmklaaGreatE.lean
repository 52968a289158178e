/- The models of the program and of the reference agree. No condition. -/
import Derived.Test.YtngnbcmfckmklaaGreatL
namespace Go.Mo
open Go.Vm
set_option linter.unusedSimpArgs false
set_option linter.unusedVariables false
theorem cond_neg (x : Int) {α : Type} (a b : α) : (bif decide (x < 0) then a else b) = (bif decide (0 <= x) then b else a) := by
  by_cases h : x < 0
  · rw [show decide (x < 0) = true by simpa using h, show decide (0 <= x) = false by simpa using h]; rfl
  · rw [show decide (x < 0) = false by simpa using h, show decide (0 <= x) = true by simp; omega]; rfl
/-- a loop that looks whether one of the places is bad -/
theorem wY {L : Nat -> Nat -> Sum Bool Unit} {len : Nat} {c : Nat -> Bool} (h0 : ∀ v, L 0 v = .inr ()) (hs : ∀ n v, L (n + 1) v = (bif decide ((v : Int) < (len : Int)) then (bif c v then .inl false else L n (v + 1)) else .inr ())) :
    ∀ n v, len < n + v -> (L n v = .inr () /\ ∀ i, v <= i -> i < len -> c i = false) \/ (L n v = .inl false /\ ∃ i, v <= i /\ i < len /\ c i = true)
  | 0, v, h => .inl ⟨h0 v, fun i h1 h2 => by omega⟩
  | n + 1, v, h => by
    rw [hs]
    by_cases hv : v < len
    · rw [show decide ((v : Int) < (len : Int)) = true by simpa using hv]
      cases hc : c v with
      | true => exact .inr ⟨rfl, v, Nat.le_refl _, hv, hc⟩
      | false =>
        rcases wY h0 hs n (v + 1) (by omega) with ⟨e, k⟩ | ⟨e, i, k1, k2, k3⟩
        · refine .inl ⟨e, fun i h1 h2 => ?_⟩
          rcases Nat.eq_or_lt_of_le h1 with rfl | h1
          · exact hc
          · exact k i h1 h2
        · exact .inr ⟨e, i, by omega, k2, k3⟩
    · rw [show decide ((v : Int) < (len : Int)) = false by simpa using hv]
      exact .inl ⟨rfl, fun i h1 h2 => by omega⟩
/-- a loop that looks for the first place -/
theorem kj {β : Type} {L : Nat -> Nat -> Sum β Unit} {len : Nat} {c : Nat -> Bool} {r : Nat -> β} (h0 : ∀ v, L 0 v = .inr ()) (hs : ∀ n v, L (n + 1) v = (bif decide ((v : Int) < (len : Int)) then (bif c v then .inl (r v) else L n (v + 1)) else .inr ())) :
    ∀ n v, len < n + v -> (L n v = .inr () /\ ∀ i, v <= i -> i < len -> c i = false) \/ (∃ i, L n v = .inl (r i) /\ v <= i /\ i < len /\ c i = true /\ ∀ k, v <= k -> k < i -> c k = false)
  | 0, v, h => .inl ⟨h0 v, fun i h1 h2 => by omega⟩
  | n + 1, v, h => by
    rw [hs]
    by_cases hv : v < len
    · rw [show decide ((v : Int) < (len : Int)) = true by simpa using hv]
      cases hc : c v with
      | true => exact .inr ⟨v, rfl, Nat.le_refl _, hv, hc, fun k h1 h2 => by omega⟩
      | false =>
        rcases kj h0 hs n (v + 1) (by omega) with ⟨e, k⟩ | ⟨i, e, k1, k2, k3, k4⟩
        · refine .inl ⟨e, fun i h1 h2 => ?_⟩
          rcases Nat.eq_or_lt_of_le h1 with rfl | h1
          · exact hc
          · exact k i h1 h2
        · refine .inr ⟨i, e, by omega, k2, k3, fun k h1 h2 => ?_⟩
          rcases Nat.eq_or_lt_of_le h1 with rfl | h1
          · exact hc
          · exact k4 k h1 h2
    · rw [show decide ((v : Int) < (len : Int)) = false by simpa using hv]
      exact .inl ⟨rfl, fun i h1 h2 => by omega⟩
/-- the same, as a Boolean -/
theorem qH {L : Nat -> Nat -> Sum Bool Unit} {len : Nat} {c : Nat -> Bool} (h0 : ∀ v, L 0 v = .inr ()) (hs : ∀ n v, L (n + 1) v = (bif decide ((v : Int) < (len : Int)) then (bif c v then .inl false else L n (v + 1)) else .inr ())) (n v : Nat) (h : len < n + v) (X : Bool) :
    (match L n v with | .inl r => r | .inr _ => X) = true ↔ (∀ i, v <= i -> i < len -> c i = false) /\ X = true := by
  rcases wY h0 hs n v h with ⟨e, k⟩ | ⟨e, i, k1, k2, k3⟩
  · rw [e]; simp only; exact ⟨fun hx => ⟨k, hx⟩, fun hx => hx.2⟩
  · rw [e]; simp only
    constructor
    · intro hx; cases hx
    · intro hx; rw [hx.1 i k1 k2] at k3; cases k3
theorem CX {L : Nat -> Nat -> Sum Bool Unit} {len : Nat} {c : Nat -> Bool} (h0 : ∀ v, L 0 v = .inr ()) (hs : ∀ n v, L (n + 1) v = (bif decide ((v : Int) < (len : Int)) then (bif c v then .inl true else L n (v + 1)) else .inr ())) (n v : Nat) (h : len < n + v) :
    (match L n v with | .inl r => r | .inr _ => false) = true ↔ ∃ i, v <= i /\ i < len /\ c i = true := by
  rcases kj (r := fun _ => true) h0 hs n v h with ⟨e, k⟩ | ⟨i, e, k1, k2, k3, k4⟩
  · rw [e]; simp only
    constructor
    · intro hx; cases hx
    · rintro ⟨i, h1, h2, h3⟩; rw [k i h1 h2] at h3; cases h3
  · rw [e]; exact ⟨fun _ => ⟨i, k1, k2, k3⟩, fun _ => rfl⟩
theorem wS {α : Type} [Inhabited α] {l : List α} {i n : Nat} (h : i < n) : nth (l.take n) i = nth l i := by
  unfold nth; simp [List.getD_eq_getElem?_getD, List.getElem?_take, h]
@[simp] theorem VO (a0 a1 a2 : Int) : YN a0 a1 a2 = Zn a0 a1 a2 := rfl
@[simp] theorem mJ (a0 a1 : Int) : OR a0 a1 = if a1 > a0 then a1 else a0 := by
  unfold OR; by_cases h : a1 > a0 <;> simp [h]
@[simp] theorem mW (a0 a1 : Int) : ME a0 a1 = if a1 < a0 then a1 else a0 := by
  unfold ME; by_cases h : a1 < a0 <;> simp [h]
@[simp] theorem pL (a0 : ZH) (a1 : Int) : qy a0 a1 = ya a0 a1 := by simp [qy, ya]
@[simp] theorem rF (a0 : List YZ) (a1 : Int) : ∀ (n : Nat) (v0 : Nat), jY a0 a1 n v0 = ja a0 a1 n v0 := by
  intro n
  induction n with
  | zero => intros; rfl
  | succ n ih => intros; simp [jY, ja, ih, ByteArray.append_assoc]
@[simp] theorem W1 (a0 : List YZ) (a1 : Int) : Ye a0 a1 = YD a0 a1 := by simp [Ye, YD]
@[simp] theorem ua (a0 : List Zj) (a1 : Int) : ∀ (n : Nat) (v0 : Int) (v1 : Nat), yD a0 a1 n v0 v1 = z7 a0 a1 n v0 v1 := by
  intro n
  induction n with
  | zero => intros; rfl
  | succ n ih => intros; simp [yD, z7, ih, ByteArray.append_assoc]
@[simp] theorem zP (a0 : List Zj) (a1 : Int) : Zg a0 a1 = ZP a0 a1 := by simp [Zg, ZP]
@[simp] theorem WV (a0 : ZH) (a1 : Int) : Qo a0 a1 = YR a0 a1 := by simp [Qo, YR]
@[simp] theorem sG (a0 : ZT) : ze a0 = zg a0 := by
  rw [Bool.eq_iff_iff]
  have hs : ze a0 = true ↔ _ := (qH (L := yK a0) (fun _ => rfl) (fun _ _ => rfl) (a0.ZU.length + 1) 0 (by omega) _).trans (and_congr_right fun _ => qH (L := zy a0) (fun _ => rfl) (fun _ _ => rfl) (a0.Zk.length + 1) 0 (by omega) _)
  rw [hs]
  unfold zg
  have hi : ∀ b : Bool, (bif b then false else (match yB a0 (a0.ZU.length + 1) 0 with | .inl r1 => r1 | .inr _ => true)) = true ↔ b = false /\ _ := fun b => by
    cases b
    · exact (qH (L := yB a0) (fun _ => rfl) (fun _ _ => rfl) (a0.ZU.length + 1) 0 (by omega) true).trans (by simp only [true_and, and_true]; exact Iff.rfl)
    · simp
  refine Iff.trans ?_ (hi _).symm
  simp only [VO, Bool.or_eq_false_iff, Bool.not_eq_false', Bool.and_eq_true, beq_iff_eq, bne_eq_false_iff_eq, Bool.not_eq_eq_eq_not, Bool.not_false]
  constructor
  · rintro ⟨h1, h2, h3, h4⟩
    exact ⟨⟨h3, h4⟩, fun i _ hi => ⟨h1 i (Nat.zero_le _) hi, h2 i (Nat.zero_le _) (by omega)⟩⟩
  · rintro ⟨⟨h3, h4⟩, h⟩
    exact ⟨fun i _ hi => (h i (Nat.zero_le _) hi).1, fun i _ hi => (h i (Nat.zero_le _) (by omega)).2, h3, h4⟩
@[simp] theorem mQ (a0 : Int) (a1 : Int) : w8 a0 a1 = Ak a0 a1 := by simp [w8, Ak]
@[simp] theorem oY (a0 : List Int) : ∀ (n : Nat) (v0 : Int) (v1 : Nat), Rr a0 n v0 v1 = Rp a0 n v0 v1 := by
  intro n
  induction n with
  | zero => intros; rfl
  | succ n ih => intros; simp [Rr, Rp, ih, ByteArray.append_assoc]
@[simp] theorem nn (a0 : List Int) : Ms a0 = Lh a0 := by simp [Ms, Lh]
@[simp] theorem E1 (a0 : Int) (a1 : List Int) : KX a0 a1 = KU a0 a1 := by simp [KX, KU]
theorem Nb (a1 : ByteArray) : ∀ (n : Nat) (p l : List Int) (v : Nat), a1.size < n + v -> v <= a1.size -> xm a1 n (p ++ l) v = p ++ xo a1.data.toList n l v := by
  intro n
  induction n with
  | zero =>
    intro p l v h hv
    omega
  | succ n ih =>
    intro p l v h ck
    have hs : a1.size = a1.data.toList.length := (Array.length_toList).symm
    rw [xm, xo, <- hs]
    by_cases hv : v < a1.size
    · rw [show decide ((v : Int) < (a1.size : Int)) = true by simpa using hv]
      simp only [cond_true]
      rw [List.append_assoc, ih p _ (v + 1) (by omega) (by omega)]
      rfl
    · rw [show decide ((v : Int) < (a1.size : Int)) = false by simpa using hv]
      rfl
@[simp] theorem sO (a0 : Int) (a1 : ByteArray) (a2 : Int) : jl a0 a1 a2 = kL a0 a1 a2 := by
  have := Nb a1 (a1.size + 1) [a2] [] 0 (by omega) (by omega)
  simp only [List.append_nil] at this
  simp only [jl, kL, kr, this, E1]
  rfl
@[simp] theorem tG (a0 : Int) (a1 : ZT) : ∀ (n : Nat) (v0 : List Int) (v1 : Nat), qe a0 a1 n v0 v1 = qd a0 a1 n v0 v1 := by
  intro n
  induction n with
  | zero => intros; rfl
  | succ n ih => intros; simp [qe, qd, ih, ByteArray.append_assoc]
@[simp] theorem Pg (a0 : Int) (a1 : ZT) : Qr a0 a1 = Yc a0 a1 := by simp [Qr, Yc]
@[simp] theorem uR (a0 : Zc) : Qe a0 = QD a0 := by simp [Qe, QD]
@[simp] theorem rZ (a0 : Int) (a1 : List Int) : WT a0 a1 = Wd a0 a1 := by simp [WT, Wd]
@[simp] theorem pO (a0 : YZ) (a1 : List Int) : jB a0 a1 = V5 a0 a1 := by simp [jB, V5]
@[simp] theorem te (a0 : Zc) : qc a0 = qb a0 := by simp [qc, qb]
@[simp] theorem IL (a0 : List YZ) (a1 : Zc) : Kg a0 a1 = Y5 a0 a1 := by
  by_cases h : YD a0 a1.Key < 0 <;> simp [Kg, Y5, yz, h]
@[simp] theorem H3 (a0 : Zc) : yT a0 = Qd a0 := by simp [yT, Qd]
@[simp] theorem pR (a0 : Z1) : xj a0 = xR a0 := by simp [xj, xR]
@[simp] theorem FT (a0 : Z1) : jd a0 = JL a0 := by simp [jd, JL]
@[simp] theorem sQ (a0 : ZC) (a1 : Int) : ∀ (n : Nat) (v0 : Nat), qI a0 a1 n v0 = yX a0 a1 n v0 := by
  intro n
  induction n with
  | zero => intros; rfl
  | succ n ih => intros; simp [qI, yX, ih, ByteArray.append_assoc]
@[simp] theorem TM (a0 : ZC) (a1 : Int) : Yj a0 a1 = ZX a0 a1 := by simp [Yj, ZX]
@[simp] theorem oR (a0 : Int) : Ti a0 = TV a0 := rfl
@[simp] theorem rq (a0 a1 : List Int) : UX a0 a1 = decide (a0 = a1) := oX (F := WE a0 a1) (c := fun i => (nth a0 i) != (nth a1 i)) (fun i => by simp [bne, Bool.beq_eq_decide_eq]) (fun _ => rfl) (fun _ _ => rfl)
@[simp] theorem sh (a0 a1 : List Int) : UQ a0 a1 = decide (a0 = a1) := oX (F := WG a0 a1) (c := fun i => (nth a0 i) != (nth a1 i)) (fun i => by simp [bne, Bool.beq_eq_decide_eq]) (fun _ => rfl) (fun _ _ => rfl)
@[simp] theorem tf (a0 a1 : ZO) : y7 a0 a1 = decide (a0 = a1) := by
  obtain ⟨t, p, s⟩ := a0; obtain ⟨t', p', s'⟩ := a1
  by_cases h1 : t = t' <;> by_cases h2 : p = p' <;> by_cases h3 : s = s' <;> simp_all [y7]
@[simp] theorem tQ (a0 a1 : ZO) : y6 a0 a1 = decide (a0 = a1) := by
  obtain ⟨t, p, s⟩ := a0; obtain ⟨t', p', s'⟩ := a1
  by_cases h1 : t = t' <;> by_cases h2 : p = p' <;> by_cases h3 : s = s' <;> simp_all [y6]
theorem RH (a0 : Za) {k : Nat} (hk : k < a0.ZL.length) : decide (jc a0 (nth a0.ZL k) < (k : Int)) = V4 (a0.ZL.take k) (nth a0.ZL k) := by
  rw [Bool.eq_iff_iff]
  have hi : V4 (a0.ZL.take k) (nth a0.ZL k) = true ↔ _ := CX (L := W0 (a0.ZL.take k) (nth a0.ZL k)) (fun _ => rfl) (fun _ _ => rfl) _ 0 (by omega)
  rw [hi]
  unfold jc
  have hl : (a0.ZL.take k).length = k := by simp; omega
  rw [hl]
  rcases kj (L := WN a0 (nth a0.ZL k)) (r := fun i => (i : Int)) (fun _ => rfl) (fun _ _ => rfl) (a0.ZL.length + 1) 0 (by omega) with ⟨e, p⟩ | ⟨i, e, p1, p2, p3, p4⟩
  · have := p k (Nat.zero_le _) hk
    simp at this
  · rw [e]
    simp only [decide_eq_true_eq]
    constructor
    · intro h
      exact ⟨i, Nat.zero_le _, by omega, by rw [wS (by omega)]; simpa using p3⟩
    · rintro ⟨j, _, hj, hc⟩
      rw [wS hj] at hc
      rcases Nat.lt_or_ge j i with h | h
      · have := p4 j (Nat.zero_le _) h; simp at this hc; exact absurd hc this
      · omega
@[simp] theorem pJ (a0 : Za) : yj a0 = zp a0 := by
  rw [Bool.eq_iff_iff]
  have hs : yj a0 = true ↔ _ := (qH (L := qD a0) (fun _ => rfl) (fun _ _ => rfl) (a0.ZL.length + 1) 0 (by omega) _).trans (and_congr_right fun _ => qH (L := qC a0) (fun _ => rfl) (fun _ _ => rfl) (a0.Zf.length + 1) 0 (by omega) _)
  rw [hs]
  unfold zp
  have hi : ∀ b : Bool, (bif b then false else (match qS a0 (a0.ZL.length + 1) 0 with | .inl r1 => r1 | .inr _ => (match qN a0 (a0.Zf.length + 1) 0 with | .inl r2 => r2 | .inr _ => true))) = true ↔ b = false /\ _ := fun b => by
    cases b
    · exact ((qH (L := qS a0) (fun _ => rfl) (fun _ _ => rfl) (a0.ZL.length + 1) 0 (by omega) _).trans (and_congr_right fun _ => qH (L := qN a0) (fun _ => rfl) (fun _ _ => rfl) (a0.Zf.length + 1) 0 (by omega) true)).trans (by simp only [true_and, and_true]; exact Iff.rfl)
    · simp
  refine Iff.trans ?_ (hi _).symm
  simp only [VO, Bool.or_eq_false_iff, Bool.not_eq_false', Bool.and_eq_true, Bool.not_eq_eq_eq_not, Bool.not_false]
  constructor
  · rintro ⟨h1, h2, h3, h4⟩
    exact ⟨⟨h3, by simpa using h4⟩, fun i hz hi => by rw [<- RH a0 hi]; exact h1 i hz hi, fun i hz hi => by simpa using h2 i hz hi⟩
  · rintro ⟨⟨h3, h4⟩, h1, h2⟩
    exact ⟨fun i hz hi => by rw [RH a0 hi]; exact h1 i hz hi, fun i hz hi => by simpa using h2 i hz hi, h3, by simpa using h4⟩
@[simp] theorem od (a0 : ZM) : Tj a0 = T9 a0 := by simp [Tj, T9]
@[simp] theorem tr (a0 : ZC) : ∀ (n : Nat) (v0 : Nat), qg a0 n v0 = qh a0 n v0 := by
  intro n
  induction n with
  | zero => intros; rfl
  | succ n ih => intros; simp [qg, qh, ih, ByteArray.append_assoc]
@[simp] theorem R9 (a0 : ZC) : JP a0 = Jq a0 := by simp [JP, Jq]
theorem N6 {l : List ZM} {i : Nat} (h : i < l.length) : l.drop i = nth l i :: l.drop (i + 1) := by
  rw [List.drop_eq_getElem_cons h]; simp [nth, List.getD_eq_getElem?_getD, List.getElem?_eq_getElem h]
theorem oe (a0 : ZC) (a1 : ZM) : ∀ (m i : Nat) (l : List ZM), a0.ZD.length < m + i -> i <= a0.ZD.length -> QZ a0 a1 m true i l = (true, l ++ a0.ZD.drop i)
  | 0, i, l, h, hi => by omega
  | m + 1, i, l, h, hi => by
    simp only [QZ]
    cases hc : decide ((i : Int) < (a0.ZD.length : Int)) with
    | false =>
      have : ¬ i < a0.ZD.length := by simpa using hc
      simp only [cond_false]; rw [List.drop_eq_nil_of_le (by omega)]; simp
    | true =>
      have ij : i < a0.ZD.length := by simpa using hc
      simp only [cond_true, Bool.not_true, Bool.false_and, cond_false]
      rw [oe a0 a1 m (i + 1) _ (by omega) ij, N6 ij]; simp
theorem oS (a0 : ZC) (a1 : ZM) (iU : ∀ k, k < a0.ZD.length -> (nth a0.ZD k).Id ≠ a1.Id) : ∀ (m i : Nat) (l : List ZM), a0.ZD.length < m + i -> i <= a0.ZD.length ->
    i <= XH a0 a1 m i /\ XH a0 a1 m i <= a0.ZD.length /\
    QZ a0 a1 m false i l = (bif decide (XH a0 a1 m i < a0.ZD.length) then (true, l ++ (a0.ZD.take (XH a0 a1 m i)).drop i ++ [a1] ++ a0.ZD.drop (XH a0 a1 m i)) else (false, l ++ a0.ZD.drop i))
  | 0, i, l, h, hi => by omega
  | m + 1, i, l, h, hi => by
    by_cases ij : i < a0.ZD.length
    · have hc : decide ((i : Int) < (a0.ZD.length : Int)) = true := by simpa using ij
      have hn := iU i ij
      by_cases hid : a1.Id < (nth a0.ZD i).Id
      · have e1 : XH a0 a1 (m + 1) i = i := by
          simp only [XH, hc, show decide ((nth a0.ZD i).Id < a1.Id) = false by simp; omega, Bool.true_and, cond_false]
        rw [e1]
        refine ⟨Nat.le_refl _, by omega, ?_⟩
        simp only [QZ, hc, show decide (a1.Id < (nth a0.ZD i).Id) = true by simpa using hid, Bool.not_false, Bool.true_and, cond_true]
        rw [oe a0 a1 m (i + 1) _ (by omega) ij, show decide (i < a0.ZD.length) = true by simpa using ij, N6 ij, List.drop_eq_nil_of_le (as := a0.ZD.take i) (by rw [List.length_take]; omega)]
        simp
      · have h2 : (nth a0.ZD i).Id < a1.Id := by omega
        have e1 : XH a0 a1 (m + 1) i = XH a0 a1 m (i + 1) := by
          simp only [XH, hc, show decide ((nth a0.ZD i).Id < a1.Id) = true by simpa using h2, Bool.true_and, cond_true]
        rw [e1]
        obtain ⟨k1, k2, k3⟩ := oS a0 a1 iU m (i + 1) (l ++ [nth a0.ZD i]) (by omega) ij
        refine ⟨by omega, k2, ?_⟩
        simp only [QZ, hc, show decide (a1.Id < (nth a0.ZD i).Id) = false by simpa using hid, Bool.not_false, Bool.true_and, cond_true, cond_false]
        rw [k3]
        have ht : (a0.ZD.take (XH a0 a1 m (i + 1))).drop i = nth a0.ZD i :: (a0.ZD.take (XH a0 a1 m (i + 1))).drop (i + 1) := by
          have bk : i < (a0.ZD.take (XH a0 a1 m (i + 1))).length := by simp; omega
          rw [N6 bk]
          congr 1
          simp only [nth, List.getD_eq_getElem?_getD]
          rw [List.getElem?_take_of_lt (by omega)]
        rw [ht, N6 ij]
        cases decide (XH a0 a1 m (i + 1) < a0.ZD.length) <;> simp
    · have hc : decide ((i : Int) < (a0.ZD.length : Int)) = false := by simpa using ij
      have e1 : XH a0 a1 (m + 1) i = i := by simp only [XH, hc, Bool.false_and, cond_false]
      rw [e1]
      refine ⟨Nat.le_refl _, by omega, ?_⟩
      simp only [QZ, hc, cond_false]
      rw [show decide (i < a0.ZD.length) = false by simpa using ij, List.drop_eq_nil_of_le (as := a0.ZD.take i) (by rw [List.length_take]; omega)]; simp; omega
theorem I4 {a0 : ZC} {s : Int} (h : ZX a0 s < 0) : ∀ k, k < a0.ZD.length -> (nth a0.ZD k).Id ≠ s := by
  unfold ZX at h
  intro k hk
  rcases kj (β := Int) (L := yX a0 s) (len := a0.ZD.length) (c := fun v => (nth a0.ZD v).Id == s) (r := fun v => (v : Int)) (fun _ => rfl) (fun _ _ => rfl) (a0.ZD.length + 1) 0 (by omega) with ⟨e, h2⟩ | ⟨i, e, _, _, hc, _⟩
  · simpa using h2 k (Nat.zero_le _) hk
  · rw [e] at h; simp at h; omega
@[simp] theorem Ss (a0 : ZC) (a1 : ZM) : Q0 a0 a1 = XZ a0 a1 := by
  simp only [Q0, XZ, R9, TM]
  rw [Bool.or_comm]
  cases hc : (decide (ZX a0 a1.Id >= 0) || !Jq a0) with
  | true => rfl
  | false =>
    have hf : ZX a0 a1.Id < 0 := by simp at hc; exact hc.1
    obtain ⟨_, k2, k3⟩ := oS a0 a1 (I4 hf) (a0.ZD.length + 1) 0 [] (by omega) (Nat.zero_le _)
    simp only [cond_false]
    rw [k3]
    generalize XH a0 a1 (a0.ZD.length + 1) 0 = z at k2 ⊢
    by_cases hz : z < a0.ZD.length
    · rw [show decide (z < a0.ZD.length) = true by simpa using hz]
      simp
    · rw [show decide (z < a0.ZD.length) = false by simpa using hz]
      have fW : z = a0.ZD.length := by omega
      subst fW
      simp
def vZ (a0 : ZH) (a2 : Int) (a3 : ZT) (a4 : Int) (v : Nat) : Zc × Bool := Y5 a0.Frame.Zm (Zc.mk a2 (nth a0.ZN v).Zi (ZP a0.Frame.Methods a0.Frame.Now) (Yc (ZP a0.Frame.Methods a0.Frame.Now) a3) 1 a4 0 0 0)
def tD (a0 : ZH) (a2 : Int) (a3 : ZT) (a4 a5 : Int) (v : Nat) : ZM := ZM.mk a0.Next a5 a3 (vZ a0 a2 a3 a4 v).1 (Za.mk ([(Qd (vZ a0 a2 a3 a4 v).1), (JL (nth a0.ZN v))] : List ZO) ([] : List ZK))
def vi (a0 : ZH) (a1 : Int) (it : ZM) : ZH := ZH.mk a0.Frame a0.ZN a0.Zl (a0.ZA.set a1.toNat (XZ (nth a0.ZA a1.toNat) it).1) a0.YX a0.YJ (W (a0.Next + 1)) a0.Z4
def vk (a0 : ZH) (a1 : Int) (b : Bool) (it : ZM) : ZH × Bool := bif (!b) || !(XZ (nth a0.ZA a1.toNat) it).2 then (a0, false) else (vi a0 a1 it, true)
theorem Ca (a0 : ZH) (a1 a2 : Int) (a3 : ZT) (a4 a5 : Int) :
    ∀ (m v : Nat), (match QO a0 a1 a2 a3 a4 a5 m v with | .inl r1 => r1 | .inr _ => (a0, false)) = (match J3 a0 a2 m v with | .inl k => vk a0 a1 (vZ a0 a2 a3 a4 k.toNat).2 (tD a0 a2 a3 a4 a5 k.toNat) | .inr _ => (a0, false))
  | 0, v => rfl
  | m + 1, v => by
    have ih := Ca a0 a1 a2 a3 a4 a5 m (v + 1)
    simp only [QO, J3]
    cases decide ((v : Int) < (a0.ZN.length : Int)) with
    | false => rfl
    | true =>
      simp only [cond_true, bne]
      cases ((nth a0.ZN v).Key == a2) with
      | false => exact ih
      | true =>
        simp only [cond_true, cond_false, Bool.not_true]
        rw [show ((v : Int)).toNat = v from rfl]
        show (match (bif ((!(vZ a0 a2 a3 a4 v).2) || !(XZ (nth a0.ZA a1.toNat) (tD a0 a2 a3 a4 a5 v)).2) then (Sum.inl (a0, false) : Sum (ZH × Bool) Unit) else .inl (vi a0 a1 (tD a0 a2 a3 a4 a5 v), true)) with | .inl r1 => r1 | .inr _ => (a0, false)) = vk a0 a1 (vZ a0 a2 a3 a4 v).2 (tD a0 a2 a3 a4 a5 v)
        unfold vk
        cases ((!(vZ a0 a2 a3 a4 v).2) || !(XZ (nth a0.ZA a1.toNat) (tD a0 a2 a3 a4 a5 v)).2) <;> rfl
theorem u7 (a0 : ZH) (a2 : Int) : ∀ (m v : Nat), J3 a0 a2 m v = .inr () \/ ∃ k : Nat, J3 a0 a2 m v = .inl (k : Int)
  | 0, v => .inl rfl
  | m + 1, v => by
    have ih := u7 a0 a2 m (v + 1)
    simp only [J3]
    cases decide ((v : Int) < (a0.ZN.length : Int)) with
    | false => exact .inl rfl
    | true =>
      cases ((nth a0.ZN v).Key == a2) with
      | false => exact ih
      | true => exact .inr ⟨v, rfl⟩
theorem AF (a0 : ZH) (a1 : Int) (a2 : ZT) (a3 a4 : Int) : Xv a0 a1 a2 a3 a4 = bif ((decide ((ZP a0.Frame.Methods a0.Frame.Now) < 0)) || (decide ((XY a0 a1) < 0))) then ((ZM.mk 0 0 (ZT.mk 0 ([] : List ByteArray) ([] : List Int)) (Zc.mk 0 0 0 0 0 0 0 0 0) (Za.mk ([] : List ZO) ([] : List ZK))), false) else (tD a0 a1 a2 a3 a4 (XY a0 a1).toNat, (vZ a0 a1 a2 a3 (XY a0 a1).toNat).2) := by
  unfold Xv
  simp only [zP, IL, Pg, H3, FT]
  rfl
theorem Lo (a0 : ZH) (a1 a2 : Int) (a3 : ZT) (a4 a5 : Int) : Yx a0 a1 a2 a3 a4 a5 = bif ((!(YR a0 a1)) || (decide ((YD a0.Frame.Zm a2) < 0))) then (a0, false) else vk a0 a1 (Xv a0 a2 a3 a4 a5).2 (Xv a0 a2 a3 a4 a5).1 := by
  unfold Yx
  cases ((!(YR a0 a1)) || (decide ((YD a0.Frame.Zm a2) < 0))) with
  | true => rfl
  | false =>
    rw [AF]
    simp only [Bool.false_or, cond_false]
    refine Eq.trans (congrArg (fun z => bif decide ((ZP a0.Frame.Methods a0.Frame.Now) < 0) then (a0, false) else z) (Ca a0 a1 a2 a3 a4 a5 (a0.ZN.length + 1) 0)) ?_
    cases decide ((ZP a0.Frame.Methods a0.Frame.Now) < 0) with
    | true => rfl
    | false =>
      simp only [Bool.false_or, cond_false]
      rcases u7 a0 a2 (a0.ZN.length + 1) 0 with h | ⟨k, h⟩
      · rw [h, show XY a0 a2 = -1 by unfold XY; rw [h]]; rfl
      · rw [h, show XY a0 a2 = (k : Int) by unfold XY; rw [h]]
        rw [show decide ((k : Int) < 0) = false by simp only [decide_eq_false_iff_not]; omega]
        rfl
theorem pW (a0 : ZH) (a1 : Int) (b : Bool) (it : ZM) : (bif !b then (a0, false) else (bif !(XZ (nth a0.ZA a1.toNat) it).2 then (a0, false) else (vi a0 a1 it, true))) = vk a0 a1 b it := by
  unfold vk
  cases b <;> rfl
@[simp] theorem pQ (a0 : ZH) (a1 a2 : Int) (a3 : ZT) (a4 a5 : Int) : jM a0 a1 a2 a3 a4 a5 = yq a0 a1 a2 a3 a4 a5 := by
  unfold jM yq
  simp only [WV, W1, Ss]
  rw [Lo, <- pW]
  cases decide ((YD a0.Frame.Zm a2) < 0) <;> cases (YR a0 a1) <;> cases decide ((nth a0.Frame.Zm (YD a0.Frame.Zm a2).toNat).Vz > a0.Frame.Now) <;> rfl
@[simp] theorem pN (a0 : ZH) (a1 : Int) : ∀ (n : Nat) (v0 : Nat), xS a0 a1 n v0 = xp a0 a1 n v0 := by
  intro n
  induction n with
  | zero => intros; rfl
  | succ n ih => intros; simp [xS, xp, ih, ByteArray.append_assoc]
@[simp] theorem UR (a0 : ZH) (a1 : Int) : ZF a0 a1 = ZV a0 a1 := by simp [ZF, ZV]
@[simp] theorem tB (a0 : ZO) : Qj a0 = Qf a0 := by
  simp only [Qj, Qf, VO]
  cases (((a0.Ys.length : Int) == 0) || (!(Zn (nth a0.Ys 0) 101 105))) <;> simp
@[simp] theorem PC (a0 : ZO) : Zb a0 = KC a0 := by simp [Zb, KC]
@[simp] theorem sS (a0 : List Z1) (a1 : Int) : ∀ (n : Nat) (v0 : Nat), qA a0 a1 n v0 = ye a0 a1 n v0 := by
  intro n
  induction n with
  | zero => intros; rfl
  | succ n ih => intros; simp [qA, ye, ih, ByteArray.append_assoc]
@[simp] theorem OL (a0 : List Z1) (a1 : Int) : Zx a0 a1 = XJ a0 a1 := by simp [Zx, XJ]
@[simp] theorem sK (a0 : Z0) : J2 a0 = Jm a0 := by simp [J2, Jm]
@[simp] theorem pM (a0 : Z0) : kc a0 = Vu a0 := by simp [kc, Vu]
@[simp] theorem RA (a0 : List YZ) (a1 : Z0) : Ya a0 a1 = Yy a0 a1 := by
  by_cases h : YD a0 a1.Z2 < 0 <;> simp [Ya, Yy, yz, h]
theorem La {a0 : List YZ} {a1 : Z0} (h : (Yy a0 a1).2 = true) : 0 <= YD a0 a1.Z2 := by
  have := ZY (a0 := a0) (a1 := a1) (by simpa using h)
  simpa using this
@[simp] theorem Te (a0 : Z0) : Y0 a0 = Xc a0 := by simp [Y0, Xc]
@[simp] theorem pI (a0 : Za) (a1 : ZO) : yZ a0 a1 = J0 a0 a1 := by simp [yZ, J0]
@[simp] theorem R3 (a0 : ZC) (a1 : Int) (a2 : ZO) : Xx a0 a1 a2 = Xg a0 a1 a2 := by simp [Xx, Xg]
theorem ud {α : Type} [Inhabited α] (l : List α) (i : Nat) : l.set i (nth l i) = l := by
  rcases Nat.lt_or_ge i l.length with h | h
  · simp [nth, List.getD_eq_getElem?_getD, List.getElem?_eq_getElem h]
  · exact List.set_eq_of_length_le h
theorem Gj {a0 : ZC} {a1 : Int} {a2 : ZO} (h : (Xg a0 a1 a2).2 = false) : (Xg a0 a1 a2).1 = a0 := by
  unfold Xg at h ⊢
  cases hf : decide (ZX a0 a1 < 0) with
  | true => rfl
  | false =>
    rw [hf] at h
    simp only [cond_false] at h ⊢
    have hp : (J0 (nth a0.ZD (ZX a0 a1).toNat).ZJ a2).1 = (nth a0.ZD (ZX a0 a1).toNat).ZJ := by
      unfold J0 at h ⊢
      cases hs : (!(zp (Za.mk ((nth a0.ZD (ZX a0 a1).toNat).ZJ.ZL ++ ([a2] : List ZO)) (nth a0.ZD (ZX a0 a1).toNat).ZJ.Zf))) with
      | true => rfl
      | false => rw [hs] at h; cases h
    rw [hp, show ZM.mk (nth a0.ZD (ZX a0 a1).toNat).Id (nth a0.ZD (ZX a0 a1).toNat).XB (nth a0.ZD (ZX a0 a1).toNat).Doc (nth a0.ZD (ZX a0 a1).toNat).Sig (nth a0.ZD (ZX a0 a1).toNat).ZJ = nth a0.ZD (ZX a0 a1).toNat from rfl, ud]
theorem CV (a0 : ZH) (i id : Int) (st : Z0) : (bif (Yy a0.Frame.Zm st).2 then ((ZH.mk a0.Frame a0.ZN a0.Zl (a0.ZA.set i.toNat (Xg (nth a0.ZA i.toNat) id (Xc (Yy a0.Frame.Zm st).1)).1) a0.YX a0.YJ a0.Next a0.Z4), (Xg (nth a0.ZA i.toNat) id (Xc (Yy a0.Frame.Zm st).1)).2) else (a0, false)) = JK a0 i id st := by
  unfold JK
  cases hm : (Yy a0.Frame.Zm st).2 with
  | false => rfl
  | true =>
    cases ha : (Xg (nth a0.ZA i.toNat) id (Xc (Yy a0.Frame.Zm st).1)).2 with
    | true => rfl
    | false => rw [Gj ha, ud]; rfl
theorem Oc (l : List Z1) (s : Int) (h : 0 <= XJ l s) : (nth l (XJ l s).toNat).Zi = s := by
  unfold XJ at h ⊢
  rcases kj (β := Int) (L := ye l s) (len := l.length) (c := fun v => (nth l v).Zi == s) (r := fun v => (v : Int)) (fun _ => rfl) (fun _ _ => rfl) (l.length + 1) 0 (by omega) with ⟨e, _⟩ | ⟨i, e, _, _, hc, _⟩
  · rw [e] at h; simp at h
  · rw [e]; simpa using hc
theorem Lt {a b c : Bool} : ((!(a && b)) || c) = ((!a || !b) || c) := by cases a <;> cases b <;> rfl
@[simp] theorem sH (a0 : ZH) (a1 : Int) : yg a0 a1 = Kb a0 a1 := by
  unfold yg Kb YE
  simp only [UR, PC, OL, W1, RA, R3, Te]
  cases h1 : ((decide ((ZV a0 a1).1 < 0)) || (decide (((nth (nth a0.ZA (ZV a0 a1).1.toNat).ZD (ZV a0 a1).2.toNat).ZJ.ZL.length : Int) < 2))) with
  | true => rfl
  | false =>
    simp only [cond_false]
    generalize KC (nth (nth (nth a0.ZA (ZV a0 a1).1.toNat).ZD (ZV a0 a1).2.toNat).ZJ.ZL 1) = p
    rw [Lt, show (!(decide (XJ a0.ZN p.1.Zi >= 0))) = decide (XJ a0.ZN p.1.Zi < 0) by rw [<- decide_not]; simp]
    cases h2 : ((!p.2 || decide (XJ a0.ZN p.1.Zi < 0)) || decide (XJ a0.ZN p.1.Zi >= (a0.Zl.length : Int))) with
    | true => rfl
    | false =>
      simp only [cond_false]
      have hn : 0 <= XJ a0.ZN p.1.Zi := by simp at h2; exact h2.1.2
      rw [Oc _ _ hn]
      have key : ∀ (n : Nat) (st : Z0), st.Z2 = (nth a0.ZN n).Z2 ->
          (bif ((!(Yy a0.Frame.Zm st).2) || (decide ((nth a0.Frame.Zm (YD a0.Frame.Zm (nth a0.ZN n).Z2).toNat).Vz > a0.Frame.Now))) then (a0, false) else ((ZH.mk a0.Frame a0.ZN a0.Zl (a0.ZA.set (ZV a0 a1).1.toNat (Xg (nth a0.ZA (ZV a0 a1).1.toNat) a1 (Xc (Yy a0.Frame.Zm st).1)).1) a0.YX a0.YJ a0.Next a0.Z4), (Xg (nth a0.ZA (ZV a0 a1).1.toNat) a1 (Xc (Yy a0.Frame.Zm st).1)).2)) =
          (bif ((decide ((YD a0.Frame.Zm (nth a0.ZN n).Z2) < 0)) || (decide ((nth a0.Frame.Zm (YD a0.Frame.Zm (nth a0.ZN n).Z2).toNat).Vz > a0.Frame.Now))) then (a0, false) else ((JK a0 (ZV a0 a1).1 a1 st).1, (JK a0 (ZV a0 a1).1 a1 st).2)) := by
        intro n st hQ
        rw [<- CV]
        cases hb : decide ((nth a0.Frame.Zm (YD a0.Frame.Zm (nth a0.ZN n).Z2).toNat).Vz > a0.Frame.Now) with
        | true => simp
        | false =>
          cases hm : (Yy a0.Frame.Zm st).2 with
          | false => simp
          | true =>
            have hp := La hm
            rw [hQ] at hp
            rw [show decide (YD a0.Frame.Zm (nth a0.ZN n).Z2 < 0) = false by simp; exact hp]
            rfl
      rw [key _ _ rfl, key _ _ rfl]
      cases hk : ((decide ((YD a0.Frame.Zm (nth a0.ZN (XJ a0.ZN p.1.Zi).toNat).Z2) < 0)) || (decide ((nth a0.Frame.Zm (YD a0.Frame.Zm (nth a0.ZN (XJ a0.ZN p.1.Zi).toNat).Z2).toNat).Vz > a0.Frame.Now))) with
      | true => simp
      | false =>
        simp only [cond_false]
        rw [show ∀ x y : Int, decide (x > y) = !decide (x <= y) from fun x y => by rw [<- decide_not]; simp]
        cases decide (nth a0.Zl (XJ a0.ZN p.1.Zi).toNat <= W (a0.Frame.Now + 1)) <;> rfl
@[simp] theorem sJ (a0 : ZH) (a1 : Int) : yh a0 a1 = Ke a0 a1 := by simp [yh, Ke]
@[simp] theorem ss (a0 : ZW) : Kq a0 = KB a0 := by simp [Kq, KB]
@[simp] theorem Av (a1 : ZK) : ∀ (n : Nat) (v0 : List Int) (v1 : Nat), zU a1 n v0 v1 = zc a1 n v0 v1 := by
  intro n
  induction n with
  | zero => intros; rfl
  | succ n ih => intros; simp [zU, zc, ih, ByteArray.append_assoc]
@[simp] theorem wh (a1 : ZK) : ∀ (n : Nat) (v0 : List Int) (v1 : Nat), KO a1 n v0 v1 = KN a1 n v0 v1 := by
  intro n
  induction n with
  | zero => intros; rfl
  | succ n ih => intros; simp [KO, KN, ih, ByteArray.append_assoc]
@[simp] theorem NI (a0 : Int) (a1 : ZK) : KT a0 a1 = KY a0 a1 := by simp [KT, KY]
@[simp] theorem vX (a0 : Int) (a1 : List ZO) : ∀ (n : Nat) (v0 : List Int) (v1 : Nat), yA a0 a1 n v0 v1 = yE a0 a1 n v0 v1 := by
  intro n
  induction n with
  | zero => intros; rfl
  | succ n ih => intros; simp [yA, yE, ih, ByteArray.append_assoc]
@[simp] theorem uw (a0 : Int) (a1 : List ZO) : KF a0 a1 = KI a0 a1 := by simp [KF, KI]
@[simp] theorem vN (a0 : Int) (a1 : Int) (a2 : List ZO) (a3 : Int) : Ta a0 a1 a2 a3 = Td a0 a1 a2 a3 := by simp [Ta, Td]
theorem LD (a0 : Za) (a1 : ZT) : J9 a0 a1 = a0.Zf.map (fun c => Qr c.Method a1) := by
  have := EC (as := a0.Zf) (fun c => [Qr c.Method a1]) (F := fun n i l => yF a0 a1 n l i) (fun _ _ _ => rfl) (a0.Zf.length + 1) 0 [] (by omega) (Nat.zero_le _)
  unfold J9
  rw [this, List.drop_zero, Hy]; rfl
theorem Aq {α : Type} [Inhabited α] (l : List α) (x : α) : nth (l ++ [x]) l.length = x := by simp [nth]
theorem vo {α : Type} [Inhabited α] (l : List α) (x : α) {i : Nat} (h : i < l.length) : nth (l ++ [x]) i = nth l i := by simp [nth, List.getD_eq_getElem?_getD, List.getElem?_append_left h]
theorem wy (x : ZM) (a1 : Int) (h : Sm maxLen x) (r : ZK) (hr : r = ZK.mk (x.ZJ.ZL.length : Int) a1 0 [] []) :
    TX (Za.mk x.ZJ.ZL (x.ZJ.Zf ++ [r])) (J9 (Za.mk x.ZJ.ZL (x.ZJ.Zf ++ [r])) x.Doc) (W (((x.ZJ.Zf ++ [r]).length : Int) - 1)) = Qy x a1 := by
  have hl : x.ZJ.Zf.length <= maxLen := XP (Za.kH (ZM.Jo h))
  have hm : maxLen = 9223372036854775807 := by decide
  have e1 : W (((x.ZJ.Zf ++ [r]).length : Int) - 1) = (x.ZJ.Zf.length : Int) := by
    rw [List.length_append, List.length_singleton, show ((x.ZJ.Zf.length + 1 : Nat) : Int) - 1 = (x.ZJ.Zf.length : Int) by omega, K1]; omega
  have e2 : nth (x.ZJ.Zf ++ [r]) x.ZJ.Zf.length = r := Aq _ _
  have e3 : nth ((x.ZJ.Zf ++ [r]).map (fun c => Yc c.Method x.Doc)) x.ZJ.Zf.length = Yc r.Method x.Doc := by rw [List.map_append]; have := Aq (x.ZJ.Zf.map (fun c => Yc c.Method x.Doc)) (Yc r.Method x.Doc); rw [List.length_map] at this; exact this
  have e4 : r.Count = (x.ZJ.ZL.length : Int) := by rw [hr]
  have e5 : r.Method = a1 := by rw [hr]
  unfold TX Qy
  rw [e1, LD]
  simp only [Int.toNat_natCast, e1, e2, e3, e4, e5, VO, Zn, List.length_map, bne_self_eq_false, Int.le_refl, decide_true, Bool.and_true, Int.natCast_nonneg, Bool.not_true, Bool.or_false, cond_false, List.take_length, vN, Pg, NI]
  by_cases hz : 0 < x.ZJ.Zf.length
  · have e6 : W ((x.ZJ.Zf.length : Int) - 1) = ((x.ZJ.Zf.length - 1 : Nat) : Int) := by rw [rz _ (by omega)]; omega
    rw [e6, Int.toNat_natCast, vo _ _ (by omega)]
  · have : decide ((x.ZJ.Zf.length : Int) > 0) = false := decide_eq_false (by omega)
    rw [this, YY, YY]
theorem II (a0 : ZC) (a1 : Int) (h : Sm maxLen a0) : ∀ n l i, KA a0 a1 n l i = y3 a0 a1 n l i
  | 0, _, _ => rfl
  | n + 1, l, i => by simp only [KA, y3, II a0 a1 h n, wy (nth a0.ZD i) a1 (Z7 (ZC.YO h)) _ rfl]
@[simp] theorem Ph (a0 : ZC) (a1 : Int) (h : Sm maxLen a0) : YB a0 a1 = Xi a0 a1 := by
  simp only [YB, Xi, II a0 a1 h]
@[simp] theorem I5 (a0 : Int) (a1 : Int) (a2 : Int) : kC a0 a1 a2 = jx a0 a1 a2 := by simp [kC, jx]
theorem MK (a0 : Int) (a1 : List Int) : ∀ n v i, xx a0 a1 n v i = Jj a0 a1 n v i
  | 0, _, _ => rfl
  | n + 1, v, i => by simp only [xx, Jj, MK a0 a1 n, I5]
@[simp] theorem uQ (a0 : Int) (a1 : List Int) : WA a0 a1 = J6 a0 a1 := by simp only [WA, J6, MK]
@[simp] theorem sV (a0 : Int) : ∀ (n : Nat) (v0 : List Int), jw a0 n v0 = jh a0 n v0 := by
  intro n
  induction n with
  | zero => intros; rfl
  | succ n ih => intros; simp [jw, jh, ih, ByteArray.append_assoc]
@[simp] theorem U6 (a0 : Int) (a1 : List Int) : KW a0 a1 = jL a0 a1 := by simp [KW, jL]
@[simp] theorem AX (a0 : ZC) (a1 : Int) (h : Sm maxLen a0) : z5 a0 a1 = Qx a0 a1 := by
  simp only [z5, Qx, Ph a0 a1 h, U6]
@[simp] theorem wR (a0 : List ZR) (a1 : Int) : ∀ (n : Nat) (v0 : Nat), KM a0 a1 n v0 = Jd a0 a1 n v0 := by
  intro n
  induction n with
  | zero => intros; rfl
  | succ n ih => intros; simp [KM, Jd, ih, ByteArray.append_assoc]
@[simp] theorem jH (a0 : List ZR) (a1 : Int) : Ze a0 a1 = Zh a0 a1 := by simp [Ze, Zh]
theorem Bw (a0 : List Int) (a1 : Int) : jk a0 a1 = true ↔ ∃ i, 0 <= i /\ i < a0.length /\ (nth a0 i == a1) = true := by
  unfold jk Pz
  rcases kj (L := UP a0 a1) (r := fun i => (i : Int)) (fun _ => rfl) (fun _ _ => rfl) (a0.length + 1) 0 (by omega) with ⟨e, p⟩ | ⟨i, e, p1, p2, p3, p4⟩
  · rw [e]
    constructor
    · intro h; simp at h
    · rintro ⟨i, h1, h2, h3⟩; have := p i h1 h2; rw [h3] at this; cases this
  · rw [e]
    exact ⟨fun _ => ⟨i, p1, p2, p3⟩, fun _ => by simp⟩
@[simp] theorem Gf (a0 : List Int) (a1 : Int) : P0 a0 a1 = jk a0 a1 := by
  rw [Bool.eq_iff_iff, Bw]
  exact CX (L := P3 a0 a1) (fun _ => rfl) (fun _ _ => rfl) (a0.length + 1) 0 (by omega)
@[simp] theorem PO (a0 : List YZ) (a1 : List ZR) (a2 : ZW) : KJ a0 a1 a2 = Js a0 a1 a2 := by
  simp [KJ, Js, yz]
  cases h : decide (YD a0 (nth a1 (Zh a1 a2.Authority).toNat).Key < 0) <;> simp
theorem RX (a0 : Int) : ∀ n i o l, Ki a0 n i o l = Jh a0 n l i o
  | 0, _, _, _ => rfl
  | n + 1, i, o, l => by simp only [Ki, Jh, RX a0 n, uQ]
@[simp] theorem En (a0 : Int) (a1 : List Int) (a2 : Int) : K9 a0 a1 a2 = JJ a0 a1 a2 := by
  simp only [K9, JJ, RX, VO]
  rw [Bool.or_comm]
@[simp] theorem RK (a0 : Za) (a1 : ZK) : Qm a0 a1 = Xl a0 a1 := by simp [Qm, Xl]
theorem Oi (a0 : ZC) (a1 : Int) (a2 : List ZW) (n v : Nat) (l : List ZM) : JE a0 a1 a2 (n + 1) false v l = (false, l) := by
  simp only [JE, Bool.and_false, YY]
theorem Cw (a0 : ZC) (a1 : Int) (a2 : List ZW) (h : Sm maxLen a0) : ∀ n v l, a0.ZD.length < n + v -> v <= a0.ZD.length -> (∃ z, XQ a0 a1 a2 n v l = .inr z /\ JE a0 a1 a2 n true v l = (true, z)) \/ (XQ a0 a1 a2 n v l = .inl (a0, false) /\ (JE a0 a1 a2 n true v l).1 = false)
  | 0, v, l, h1, h2 => by omega
  | n + 1, v, l, h1, h2 => by
    simp only [JE, XQ, Bool.and_true, Qx, Ph a0 a1 h, U6, En, RK]
    by_cases hi : v < a0.ZD.length
    · rw [show decide ((v : Int) < (a0.ZD.length : Int)) = true by simpa using hi, Yu, Yu]
      cases hb : (Xl (nth a0.ZD v).ZJ (ZK.mk ((nth a0.ZD v).ZJ.ZL.length : Int) a1 (jL a1 (Xi a0 a1)) (JJ a1 (Xi a0 a1) (v : Int)) a2)).2
      · obtain ⟨m, rfl⟩ : ∃ m, n = m + 1 := ⟨n - 1, by omega⟩
        rw [Oi]
        exact .inr ⟨rfl, rfl⟩
      · exact Cw a0 a1 a2 h n (v + 1) _ (by omega) hi
    · rw [show decide ((v : Int) < (a0.ZD.length : Int)) = false by simpa using hi, YY, YY]
      exact .inl ⟨l, rfl, rfl⟩
@[simp] theorem Mw (a0 : ZC) (a1 : Int) (a2 : List ZW) (h : Sm maxLen a0) : Qg a0 a1 a2 = Qh a0 a1 a2 := by
  unfold Qg Qh
  simp only [R9]
  by_cases hl : 0 < a0.ZD.length
  · have e1 : decide ((a0.ZD.length : Int) > 0) = true := decide_eq_true (by omega)
    have e2 : ((a0.ZD.length : Int) == 0) = false := beq_eq_false_iff_ne.2 (by omega)
    rw [e1, e2]
    cases Jq a0
    · rw [Bool.false_and, Oi]; rfl
    · rcases Cw a0 a1 a2 h (a0.ZD.length + 1) 0 a0.ZD (by omega) (Nat.zero_le _) with ⟨z, q1, q2⟩ | ⟨q1, q2⟩
      · rw [Bool.true_and, q1, q2]; rfl
      · rw [Bool.true_and, q1]
        generalize JE a0 a1 a2 (a0.ZD.length + 1) true 0 a0.ZD = p at q2 ⊢
        obtain ⟨p1, p2⟩ := p
        simp only at q2; subst q2; rfl
  · have e1 : decide ((a0.ZD.length : Int) > 0) = false := decide_eq_false (by omega)
    have e2 : ((a0.ZD.length : Int) == 0) = true := beq_iff_eq.2 (by omega)
    rw [e1, e2, Bool.and_false, Oi]; rfl
theorem Vj {a : List ZR} {d : Int} (h : 0 <= Zh a d) : (nth a (Zh a d).toNat).Id = d := by
  unfold Zh at h ⊢
  rcases kj (L := Jd a d) (len := a.length) (c := fun i => (nth a i).Id == d) (r := fun i => (i : Int)) (fun _ => rfl) (fun _ _ => rfl) (a.length + 1) 0 (by omega) with ⟨e, _⟩ | ⟨i, e, _, _, k, _⟩
  · rw [e] at h; simp at h
  · rw [e]; simpa using k
def It (a0 : ZH) (d : Int) : Bool := !((decide (Zh a0.Frame.ZE d < 0) || decide (Zh a0.Frame.ZE d >= (a0.YX.length : Int))) || (decide (YD a0.Frame.Zm (nth a0.Frame.ZE (Zh a0.Frame.ZE d).toNat).Key < 0) || decide ((nth a0.Frame.Zm (YD a0.Frame.Zm (nth a0.Frame.ZE (Zh a0.Frame.ZE d).toNat).Key).toNat).Vz > a0.Frame.Now)))
theorem SH (a0 : ZH) (a1 : List Int) : zY a0 a1 = true ↔ (∀ i, 0 <= i -> i < a1.length -> It a0 (nth a1 i) = true /\ (0 < i -> nth a1 (i - 1) < nth a1 i)) /\ 0 < a1.length := by
  have := qH (L := xi a0 a1) (len := a1.length) (c := fun v => (((decide ((Ze a0.Frame.ZE (nth a1 v)) < 0)) || (decide ((Ze a0.Frame.ZE (nth a1 v)) >= (a0.YX.length : Int)))) || ((decide ((v : Int) > 0)) && (decide ((nth a1 (v - 1)) >= (nth a1 v))))) || ((decide ((Ye a0.Frame.Zm (nth a0.Frame.ZE (Ze a0.Frame.ZE (nth a1 v)).toNat).Key) < 0)) || (decide ((nth a0.Frame.Zm (Ye a0.Frame.Zm (nth a0.Frame.ZE (Ze a0.Frame.ZE (nth a1 v)).toNat).Key).toNat).Vz > a0.Frame.Now))))
    (fun _ => rfl) (fun n v => by
      simp only [xi]
      cases (((decide ((Ze a0.Frame.ZE (nth a1 v)) < 0)) || (decide ((Ze a0.Frame.ZE (nth a1 v)) >= (a0.YX.length : Int)))) || ((decide ((v : Int) > 0)) && (decide ((nth a1 (v - 1)) >= (nth a1 v))))) <;> rfl) (a1.length + 1) 0 (by omega) (decide ((a1.length : Int) > 0))
  unfold zY
  refine Iff.trans this ?_
  constructor
  · rintro ⟨h1, h2⟩
    refine ⟨fun i h0 hi => ?_, by simpa using h2⟩
    have := h1 i h0 hi
    simp only [jH, W1, Bool.or_eq_false_iff, Bool.and_eq_false_iff, decide_eq_false_iff_not] at this
    obtain ⟨⟨⟨q1, q2⟩, q3⟩, q4, q5⟩ := this
    refine ⟨?_, fun h => ?_⟩
    · simp only [It, Bool.not_eq_true', Bool.or_eq_false_iff, decide_eq_false_iff_not]; exact ⟨⟨q1, q2⟩, q4, q5⟩
    · rcases q3 with q3 | q3 <;> omega
  · rintro ⟨h1, h2⟩
    refine ⟨fun i h0 hi => ?_, by simpa using h2⟩
    obtain ⟨q, q3⟩ := h1 i h0 hi
    simp only [It, Bool.not_eq_true', Bool.or_eq_false_iff, decide_eq_false_iff_not] at q
    simp only [jH, W1, Bool.or_eq_false_iff, Bool.and_eq_false_iff, decide_eq_false_iff_not]
    refine ⟨⟨q.1, ?_⟩, q.2⟩
    by_cases hz : 0 < i
    · right; have := q3 hz; omega
    · left; omega
theorem GV (a1 : List Int) : jb a1 = true ↔ ∀ i, 0 < i -> i < a1.length -> nth a1 (i - 1) < nth a1 i := by
  have := qH (L := WK a1) (len := a1.length) (c := fun v => decide ((nth a1 (v - 1)) >= (nth a1 v))) (fun _ => rfl) (fun _ _ => rfl) (a1.length + 1) 1 (by omega) true
  unfold jb
  refine Iff.trans this ?_
  simp only [decide_eq_false_iff_not, and_true]
  exact ⟨fun h i h0 hi => by have := h i h0 hi; omega, fun h i h0 hi => by have := h i h0 hi; omega⟩
theorem CR {a1 : List Int} (h : ∀ i, 0 < i -> i < a1.length -> nth a1 (i - 1) < nth a1 i) : ∀ d v, 0 < d -> v + d < a1.length -> nth a1 v < nth a1 (v + d)
  | 0, _, h0, _ => by omega
  | 1, v, _, hv => h (v + 1) (by omega) hv
  | d + 2, v, _, hv => by
    have h1 := CR h (d + 1) v (by omega) (by omega)
    have h2 := h (v + (d + 2)) (by omega) hv
    rw [show v + (d + 2) - 1 = v + (d + 1) by omega] at h2
    omega
theorem r9 (w : Int) : ME 10000 (OR 0 w) = (if (if w < 10000 then w else 10000) > 0 then (if w < 10000 then w else 10000) else 0) := by
  unfold ME OR
  by_cases h1 : w > 0
  · rw [show decide (w > 0) = true by simpa using h1, Yu]
    by_cases h2 : w < 10000
    · rw [show decide (w < 10000) = true by simpa using h2, Yu, if_pos h2, if_pos h1]
    · rw [show decide (w < 10000) = false by simpa using h2, YY, if_neg h2]; rfl
  · rw [show decide (w > 0) = false by simpa using h1, YY]
    rw [if_pos (show w < 10000 by omega), if_neg h1]; rfl
theorem NA {α : Type} [Inhabited α] (l : List α) (x : α) {i j : Nat} (h : i ≠ j) : nth (l.set i x) j = nth l j := by simp [nth, List.getD_eq_getElem?_getD, List.getElem?_set_ne h]
theorem LH (a0 : ZH) (a1 : Int) (a2 : List Int) (a3 : Int) : ∀ n l v q, a2.length < n + v -> v <= a2.length -> (∃ k, v <= k /\ k < a2.length /\ It a0 (nth a2 k) = false) -> Y7 a0 a1 a2 a3 n l v q = .inl (a0, false)
  | 0, _, _, _, h1, h2, _ => by omega
  | n + 1, l, v, q, h1, h2, ⟨k, k1, k2, k3⟩ => by
    have hv : v < a2.length := by omega
    simp only [Y7]
    rw [show decide ((v : Int) < (a2.length : Int)) = true by simpa using hv, Yu]
    cases hA : ((decide ((Zh a0.Frame.ZE (nth a2 v)) < 0)) || (decide ((Zh a0.Frame.ZE (nth a2 v)) >= (a0.YX.length : Int))))
    · rw [YY]
      cases hB : ((decide ((YD a0.Frame.Zm (nth a0.Frame.ZE (Zh a0.Frame.ZE (nth a2 v)).toNat).Key) < 0)) || (decide ((nth a0.Frame.Zm (YD a0.Frame.Zm (nth a0.Frame.ZE (Zh a0.Frame.ZE (nth a2 v)).toNat).Key).toNat).Vz > a0.Frame.Now)))
      · rw [YY]
        have hk : ∃ k, v + 1 <= k /\ k < a2.length /\ It a0 (nth a2 k) = false := by
          refine ⟨k, ?_, k2, k3⟩
          rcases Nat.eq_or_lt_of_le k1 with rfl | k1
          · unfold It at k3; rw [hA, hB] at k3; simp at k3
          · exact k1
        rw [LH a0 a1 a2 a3 n _ (v + 1) _ (by omega) hv hk, LH a0 a1 a2 a3 n _ (v + 1) _ (by omega) hv hk]
        simp
      · rfl
    · rfl
theorem Ci (c : Bool) (a : ZH × Bool) (x : Sum (ZH × Bool) (List ZW)) (u : List Int) : (bif c then (Sum.inl a : Sum (ZH × Bool) (List ZW × List Int)) else (match x with | .inl r => .inl r | .inr z => .inr (z, u))) = (match (bif c then Sum.inl a else x) with | .inl r => .inl r | .inr z => .inr (z, u)) := by cases c <;> rfl
theorem Gy (a0 : ZH) (a1 : Int) (a2 : List Int) (a3 : Int) (h : Sm maxLen a0) (hr : ∀ i, 0 < i -> i < a2.length -> nth a2 (i - 1) < nth a2 i) (hR : ∀ k, k < a2.length -> It a0 (nth a2 k) = true) : ∀ n l v q, a2.length < n + v -> v <= a2.length -> (∀ k, v <= k -> k < a2.length -> nth q (Zh a0.Frame.ZE (nth a2 k)).toNat = nth a0.YX (Zh a0.Frame.ZE (nth a2 k)).toNat) ->
    Y7 a0 a1 a2 a3 n l v q = (match zm a0 a1 a2 a3 n l v with | .inl r => .inl r | .inr z => .inr (z, qj a0 a2 n v q))
  | 0, _, _, _, h1, h2, _ => by omega
  | n + 1, l, v, q, h1, h2, hq => by
    simp only [Y7, zm, qj, Gf, PO, jH, zP, AX _ _ (Z7 (ZH.YW h)), r9]
    by_cases hv : v < a2.length
    · rw [show decide ((v : Int) < (a2.length : Int)) = true by simpa using hv, Yu, Yu, Yu]
      have ho := hR v hv
      unfold It at ho
      rw [Bool.not_eq_true', Bool.or_eq_false_iff] at ho
      rw [ho.1, ho.2, YY, YY, hq v (Nat.le_refl _) hv]
      have ih := fun l => Gy a0 a1 a2 a3 h hr hR n l (v + 1) (q.set (Zh a0.Frame.ZE (nth a2 v)).toNat (W (nth a0.YX (Zh a0.Frame.ZE (nth a2 v)).toNat + 1))) (by omega) hv (fun k k1 k2 => by
        rw [NA, hq k (by omega) k2]
        intro e
        have p1 : 0 <= Zh a0.Frame.ZE (nth a2 v) := by
          have := ho.1; simp only [Bool.or_eq_false_iff, decide_eq_false_iff_not] at this; omega
        have p2 : 0 <= Zh a0.Frame.ZE (nth a2 k) := by
          have := hR k k2; unfold It at this; simp only [Bool.not_eq_true', Bool.or_eq_false_iff, decide_eq_false_iff_not] at this; omega
        have e1 := Vj p1
        have e2 := Vj p2
        rw [e, e2] at e1
        have := CR hr (k - v) v (by omega) (by omega)
        rw [show v + (k - v) = k by omega] at this
        omega)
      simp only [ih]
      cases jk a0.YJ (nth a2 v) <;> simp only [Yu, YY]
      · exact Ci _ _ _ _
      · exact Ci _ _ _ _
    · rw [show decide ((v : Int) < (a2.length : Int)) = false by simpa using hv, YY, YY, YY]
@[simp] theorem se (a0 : ZH) (a1 : Int) (a2 : List Int) (a3 : Int) (h : Sm maxLen a0) : xn a0 a1 a2 a3 = Kr a0 a1 a2 a3 := by
  unfold xn Kr
  simp only [WV, zP, VO]
  cases hg : YR a0 a1
  · rfl
  cases hb : decide (ZP a0.Frame.Methods a0.Frame.Now < 0)
  rotate_left
  · simp
  cases hi : Zn a3 (-10000) 10000
  · simp
  simp only [Bool.not_true, Bool.false_or, Bool.or_false]
  cases hr : jb a2
  · have : zY a0 a2 = false := by
      cases hs : zY a0 a2 with
      | false => rfl
      | true =>
        have := (SH a0 a2).1 hs
        have h2 := (GV a2).2 (fun i h0 hi => (this.1 i (Nat.zero_le _) hi).2 h0)
        rw [hr] at h2; cases h2
    rw [this]; rfl
  have hrr := (GV a2).1 hr
  by_cases hl : 0 < a2.length
  rotate_left
  · have : zY a0 a2 = false := by
      cases hs : zY a0 a2 with
      | false => rfl
      | true => exact absurd ((SH a0 a2).1 hs).2 hl
    have e : ((a2.length : Int) == 0) = true := beq_iff_eq.2 (by omega)
    rw [this, e]; rfl
  have e : ((a2.length : Int) == 0) = false := beq_eq_false_iff_ne.2 (by omega)
  rw [e]
  by_cases hR : ∀ k, k < a2.length -> It a0 (nth a2 k) = true
  · have hs : zY a0 a2 = true := (SH a0 a2).2 ⟨fun i _ hi => ⟨hR i hi, fun h0 => hrr i h0 hi⟩, hl⟩
    rw [hs, Gy a0 a1 a2 a3 h hrr hR (a2.length + 1) [] 0 a0.YX (by omega) (Nat.zero_le _) (fun _ _ _ => rfl)]
    simp only [Bool.not_true, Bool.or_false, YY]
    cases zm a0 a1 a2 a3 (a2.length + 1) [] 0 with
    | inl r => rfl
    | inr z => simp only [Mw _ _ _ (Z7 (ZH.YW h))]
  · have hs : zY a0 a2 = false := by
      cases hs : zY a0 a2 with
      | false => rfl
      | true => exact absurd (fun k hk => (((SH a0 a2).1 hs).1 k (Nat.zero_le _) hk).1) hR
    have hx : ∃ k, 0 <= k /\ k < a2.length /\ It a0 (nth a2 k) = false := by
      refine Classical.byContradiction fun hn => hR fun k hk => ?_
      cases hz : It a0 (nth a2 k) with
      | true => rfl
      | false => exact absurd ⟨k, Nat.zero_le _, hk, hz⟩ hn
    rw [hs, LH a0 a1 a2 a3 (a2.length + 1) [] 0 a0.YX (by omega) (Nat.zero_le _) hx]
    rfl
theorem vH (a0 : Int) : ∀ (n : Nat) (l : List Int) (i : Int) (o : List Zy), (Jh a0 n l i o).length <= o.length + n
  | 0, _, _, _ => Nat.zero_le _
  | n + 1, l, i, o => by
    have ih := vH a0 n
    simp only [Jh]
    refine ZS (p := fun r : List Zy => r.length <= o.length + (n + 1)) ?_ (by omega)
    have h1 := fun l i x => ih l i (o ++ [x])
    simp only [List.length_append, List.length_singleton] at h1
    refine ZS (p := fun r : List Zy => r.length <= o.length + (n + 1)) (Nat.le_trans (h1 _ _ _) (by omega)) ?_
    exact ZS (p := fun r : List Zy => r.length <= o.length + (n + 1)) (Nat.le_trans (h1 _ _ _) (by omega)) (Nat.le_trans (ih _ _ _) (by omega))
theorem DR (a0 : Int) (a1 : List Int) (a2 : Int) : cn (JJ a0 a1 a2) <= 34 := by
  have h : ∀ l : List Zy, cn l = 2 * l.length := fun l => by rw [X5]; exact Nn (c := (cn : Zy -> Nat)) (m := 2) (fun _ => rfl) l
  rw [h]
  unfold JJ
  by_cases hl : decide ((a1.length : Int) > 16) = true
  · rw [hl, Bool.or_true, Yu]; exact Nat.zero_le _
  · refine ZS (p := fun r : List Zy => 2 * r.length <= 34) (Nat.zero_le _) ?_
    have := vH a0 (a1.length + 1) a1 a2 []
    have hl : a1.length <= 16 := by simp at hl; omega
    simp only [List.length_nil] at this ⊢
    omega
theorem H7 (a0 : ZH) (a1 : Int) (a2 : List Int) (a3 : Int) : ∀ (n : Nat) (l : List ZW) (v : Nat) (q : List Int),
    (∀ r, Y7 a0 a1 a2 a3 n l v q = .inl r -> r = (a0, false)) /\ ∀ z, Y7 a0 a1 a2 a3 n l v q = .inr z -> cn z.1 <= cn l + 5 * n /\ z.2.length <= q.length
  | 0, _, _, _ => ⟨fun r h => (by cases h), fun z h => (by cases h; exact ⟨Nat.zero_le _, Nat.zero_le _⟩)⟩
  | n + 1, l, v, q => by
    have ih := H7 a0 a1 a2 a3 n
    simp only [Y7]
    have hx : ∀ x : ZW, cn (l ++ [x]) = cn l + 5 := fun x => by simp only [X5, zq, cnL]; rfl
    have step : ∀ x i y, (∀ r, Y7 a0 a1 a2 a3 n (l ++ [x]) (v + 1) (q.set i y) = .inl r -> r = (a0, false)) /\ ∀ z, Y7 a0 a1 a2 a3 n (l ++ [x]) (v + 1) (q.set i y) = .inr z -> cn z.1 <= cn l + 5 * (n + 1) /\ z.2.length <= q.length := fun x i y => by
      obtain ⟨h1, h2⟩ := ih (l ++ [x]) (v + 1) (q.set i y)
      refine ⟨h1, fun z hz => ?_⟩
      have := h2 z hz
      rw [hx, List.length_set] at this
      exact ⟨by omega, this.2⟩
    have bad : (∀ r, (Sum.inl (a0, false) : Sum (ZH × Bool) (List ZW × List Int)) = .inl r -> r = (a0, false)) /\ ∀ z, (Sum.inl (a0, false) : Sum (ZH × Bool) (List ZW × List Int)) = .inr z -> cn z.1 <= cn l + 5 * (n + 1) /\ z.2.length <= q.length := ⟨fun r h => (by cases h; rfl), fun z h => (by cases h)⟩
    let p := fun w : Sum (ZH × Bool) (List ZW × List Int) => (∀ r, w = .inl r -> r = (a0, false)) /\ ∀ z, w = .inr z -> cn z.1 <= cn l + 5 * (n + 1) /\ z.2.length <= q.length
    refine ZS (p := p) ?_ ⟨fun r h => (by cases h), fun z h => (by cases h; exact ⟨Nat.le_add_right _ _, Nat.le_refl _⟩)⟩
    refine ZS (p := p) bad (ZS (p := p) bad (ZS (p := p) (ZS (p := p) bad (step _ _ _)) (ZS (p := p) bad (step _ _ _))))
@[simp] theorem uf (a0 : Int) (a1 : ZM) : ∀ (n : Nat) (v0 : List Int) (v1 : Nat), xK a0 a1 n v0 v1 = xg a0 a1 n v0 v1 := by
  intro n
  induction n with
  | zero => intros; rfl
  | succ n ih => intros; simp [xK, xg, ih, ByteArray.append_assoc]
@[simp] theorem HO (a0 : Int) (a1 : ZM) : kK a0 a1 = js a0 a1 := by simp [kK, js]
theorem PY (a0 : Int) (a1 : List ZM) : ∀ n v i, WX a0 a1 n v i = zR a0 a1 n v i
  | 0, _, _ => rfl
  | n + 1, v, i => by simp only [WX, zR, PY a0 a1 n, HO]
@[simp] theorem oI (a0 : Int) (a1 : List ZM) : VN a0 a1 = zM a0 a1 := by
  simp only [VN, zM, PY, U6]
@[simp] theorem ux (a0 : ZC) (a2 : List Int) : ∀ (n : Nat) (v0 : Nat) (v1 : List ZM), Jl a0 a2 n v0 v1 = QB a0 a2 n v0 v1 := by
  intro n
  induction n with
  | zero => intros; rfl
  | succ n ih => intros; simp [Jl, QB, ih, ByteArray.append_assoc]
@[simp] theorem RG (a0 : ZC) (a1 : Int) (a2 : List Int) (a3 : Int) : Xm a0 a1 a2 a3 = YK a0 a1 a2 a3 := by simp [Xm, YK]
@[simp] theorem vb (a0 : YP) : ∀ (n : Nat) (v0 : Nat), Jv a0 n v0 = Ju a0 n v0 := by
  intro n
  induction n with
  | zero => intros; rfl
  | succ n ih => intros; simp [Jv, Ju, ih, ByteArray.append_assoc]
@[simp] theorem Mh (a0 : YP) (a1 : Int) : Ky a0 a1 = Q8 a0 a1 := by simp [Ky, Q8]
theorem IF (a1 : YP) (n v : Nat) (d : Int) (l : List ZM) : (QE a1 (n + 1) false v d l).1 = false := by
  simp only [QE, Bool.and_false, YY]
theorem Lk (a0 : ZC) (a1 : YP) : ∀ n v d l, a1.ZD.length < n + v -> v <= a1.ZD.length ->
    (∃ z, XA a0 a1 n v d l = .inr z /\ QE a1 n true v d l = (true, z)) \/ (XA a0 a1 n v d l = .inl (a0, false) /\ (QE a1 n true v d l).1 = false)
  | 0, v, d, l, h1, h2 => by omega
  | n + 1, v, d, l, h1, h2 => by
    simp only [QE, XA, Bool.and_true, Ss]
    by_cases hi : v < a1.ZD.length
    · rw [show decide ((v : Int) < (a1.ZD.length : Int)) = true by simpa using hi, Yu, Yu]
      cases hb : (XZ (ZC.mk d l) (nth a1.ZD v)).2
      · obtain ⟨m, rfl⟩ : ∃ m, n = m + 1 := ⟨n - 1, by omega⟩
        exact .inr ⟨rfl, IF _ _ _ _ _⟩
      · exact Lk a0 a1 n (v + 1) _ _ (by omega) hi
    · rw [show decide ((v : Int) < (a1.ZD.length : Int)) = false by simpa using hi, YY, YY]
      exact .inl ⟨_, rfl, rfl⟩
@[simp] theorem NX (a0 : ZC) (a1 : YP) (a2 : Int) : QY a0 a1 a2 = Yq a0 a1 a2 := by
  unfold QY Yq
  simp only [Mh]
  have hc : ((!(Q8 a1 a2)) || (a1.To != a0.Id)) = !((Q8 a1 a2) && (a1.To == a0.Id)) := by
    cases Q8 a1 a2 <;> simp [bne]
  rw [hc]
  cases (Q8 a1 a2) && (a1.To == a0.Id) with
  | false =>
    have := IF a1 a1.ZD.length 0 a0.Id a0.ZD
    cases hs : QE a1 (a1.ZD.length + 1) false 0 a0.Id a0.ZD with
    | mk b z => obtain ⟨z1, z2⟩ := z; rw [hs] at this; simp only at this; subst this; rfl
  | true =>
    rcases Lk a0 a1 (a1.ZD.length + 1) 0 a0.Id a0.ZD (by omega) (Nat.zero_le _) with ⟨z, h1, h2⟩ | ⟨h1, h2⟩
    · rw [h1, h2]
    · rw [h1]
      cases hs : QE a1 (a1.ZD.length + 1) true 0 a0.Id a0.ZD with
      | mk b z => obtain ⟨z1, z2⟩ := z; rw [hs] at h2; simp only at h2; subst h2; rfl
theorem M1 (a0 : ZC) (a1 : Int) (k : Nat) (hk : ZX a0 a1 = (k : Int)) (hkl : k < a0.ZD.length) : ∀ n v l, v <= a0.ZD.length -> a0.ZD.length < n + v ->
    Kf a0 a1 n v l = l ++ (if v <= k then (a0.ZD.take k).drop v ++ a0.ZD.drop (k + 1) else a0.ZD.drop v)
  | 0, v, l, h1, h2 => by omega
  | n + 1, v, l, h1, h2 => by
    rw [Kf]
    simp only [TM, hk]
    by_cases hv : v < a0.ZD.length
    · rw [show decide ((v : Int) < (a0.ZD.length : Int)) = true by simpa using hv, Yu]
      by_cases hvk : v = k
      · subst hvk
        rw [show ((v : Int) != (v : Int)) = false by simp, YY, M1 a0 a1 v hk hkl n (v + 1) l hv (by omega), if_neg (by omega), if_pos (Nat.le_refl _)]
        rw [show (a0.ZD.take v).drop v = [] from List.drop_eq_nil_of_le (by rw [List.length_take]; omega), List.nil_append]
      · have iU : ((v : Int) != (k : Int)) = true := by simp; omega
        rw [iU, Yu, M1 a0 a1 k hk hkl n (v + 1) _ hv (by omega)]
        by_cases ij : v < k
        · rw [if_pos (by omega), if_pos (by omega)]
          have ht : (a0.ZD.take k).drop v = nth a0.ZD v :: (a0.ZD.take k).drop (v + 1) := by
            rw [T1 (l := a0.ZD.take k) (i := v) (by rw [List.length_take]; omega)]
            congr 1
            simp [nth, List.getD_eq_getElem?_getD, List.getElem?_take, ij]
          rw [ht]; simp
        · rw [if_neg (by omega), if_neg (by omega), T1 hv]; simp
    · rw [show decide ((v : Int) < (a0.ZD.length : Int)) = false by simpa using hv, YY, if_neg (by omega), List.drop_eq_nil_of_le (by omega), List.append_nil]
theorem Ec (a0 : ZC) (a1 : Int) (h : Sm maxLen a0) : zo a0 a1 = QM a0 a1 := by
  unfold zo QM
  simp only [TM]
  by_cases hk : ZX a0 a1 < 0
  · rw [decide_eq_true hk, Yu, Yu]
  · rw [decide_eq_false hk, YY, YY]
    have hf := Q5 a0 a1
    have hl := XP (ZC.YO h)
    have hm : maxLen = 9223372036854775807 := by decide
    have w : W ((ZX a0 a1) + 1) = (ZX a0 a1) + 1 := YG (by omega) (by omega)
    rw [w, M1 a0 a1 (ZX a0 a1).toNat (by omega) (by omega) (a0.ZD.length + 1) 0 [] (Nat.zero_le _) (by omega), if_pos (Nat.zero_le _), show ((ZX a0 a1) + 1).toNat = (ZX a0 a1).toNat + 1 by omega]
    simp
theorem Cs (a0 a1 : ZC) (a2 : List Int) (a3 : Int) (n v : Nat) (d : Int) (l : List ZM) : (JB a0 a1 a2 a3 (n + 1) false v d l).1 = false := by
  simp only [JB, Bool.and_false, YY]
theorem Cr (a0 a1 : ZC) (a2 : List Int) (a3 : Int) (hm : (YK a0 a1.Id a2 a3).2 = true) : ∀ n v d l, Sm maxLen (ZC.mk d l) -> a2.length < n + v -> v <= a2.length ->
    (∃ z, Xb a0 a1 a2 n v d l = .inr z /\ JB a0 a1 a2 a3 n true v d l = (true, z)) \/ (Xb a0 a1 a2 n v d l = .inl (a0, a1, false) /\ (JB a0 a1 a2 a3 n true v d l).1 = false)
  | 0, v, d, l, _, h1, h2 => by omega
  | n + 1, v, d, l, hs, h1, h2 => by
    simp only [JB, Xb, Bool.and_true, RG, hm, Ec _ _ hs]
    by_cases hi : v < a2.length
    · rw [show decide ((v : Int) < (a2.length : Int)) = true by simpa using hi, Yu, Yu]
      cases hb : (QM (ZC.mk d l) (nth a2 v)).2
      · obtain ⟨m, rfl⟩ : ∃ m, n = m + 1 := ⟨n - 1, by omega⟩
        exact .inr ⟨rfl, Cs _ _ _ _ _ _ _ _⟩
      · exact Cr a0 a1 a2 a3 hm n (v + 1) _ _ (Uw (by decide) hs) (by omega) hi
    · rw [show decide ((v : Int) < (a2.length : Int)) = false by simpa using hi, YY, YY]
      exact .inl ⟨_, rfl, rfl⟩
theorem EP (a0 a1 : ZC) (a2 : List Int) (a3 : Int) (h : Sm maxLen a0) : Qq a0 a1 a2 a3 = Yt a0 a1 a2 a3 := by
  unfold Qq Yt
  simp only [RG, NX]
  cases hm : (YK a0 a1.Id a2 a3).2 with
  | false =>
    rw [show (!false) = true from rfl, Bool.true_or, Yu]
    generalize JB a0 a1 a2 a3 (a2.length + 1) (Yq a1 (YK a0 a1.Id a2 a3).1 a3).2 0 a0.Id a0.ZD = q
    obtain ⟨b, z1, z2⟩ := q
    rfl
  | true =>
    cases ha : (Yq a1 (YK a0 a1.Id a2 a3).1 a3).2 with
    | false =>
      have := Cs a0 a1 a2 a3 a2.length 0 a0.Id a0.ZD
      cases hs : JB a0 a1 a2 a3 (a2.length + 1) false 0 a0.Id a0.ZD with
      | mk b z => obtain ⟨z1, z2⟩ := z; rw [hs] at this; simp only at this; subst this; rfl
    | true =>
      rcases Cr a0 a1 a2 a3 hm (a2.length + 1) 0 a0.Id a0.ZD h (by omega) (Nat.zero_le _) with ⟨z, h1, h2⟩ | ⟨h1, h2⟩
      · rw [h1, h2]
      · rw [h1]
        cases hs : JB a0 a1 a2 a3 (a2.length + 1) true 0 a0.Id a0.ZD with
        | mk b z => obtain ⟨z1, z2⟩ := z; rw [hs] at h2; simp only at h2; subst h2; rfl
theorem vg (a0 a1 : ZC) (a2 : List Int) (a3 : Int) (h : (Yt a0 a1 a2 a3).2.2 = false) : Yt a0 a1 a2 a3 = (a0, a1, false) := by
  unfold Yt at h ⊢
  cases hc : ((!(YK a0 a1.Id a2 a3).2) || (!(Yq a1 (YK a0 a1.Id a2 a3).1 a3).2)) with
  | true => rfl
  | false =>
    rw [hc, YY] at h
    rw [YY]
    have hk : ∀ n v d l r, Xb a0 a1 a2 n v d l = .inl r -> r = (a0, a1, false) := by
      intro n
      induction n with
      | zero => intro v d l r h; cases h
      | succ n ih =>
        intro v d l r h
        rw [Xb] at h
        revert h
        exact ZS (p := fun w => w = Sum.inl r -> r = (a0, a1, false)) (ZS (p := fun w => w = Sum.inl r -> r = (a0, a1, false)) (fun h => by cases h; rfl) (fun h => ih _ _ _ _ h)) (fun h => by cases h)
    cases hs : Xb a0 a1 a2 (a2.length + 1) 0 a0.Id a0.ZD with
    | inl r => exact hk _ _ _ _ _ hs
    | inr z => rw [hs] at h; obtain ⟨z1, z2⟩ := z; cases h
theorem BD {α : Type} [Inhabited α] (l : List α) (i : Nat) : l.set i (nth l i) = l := by
  by_cases h : i < l.length
  · have : nth l i = l[i] := by simp [nth, List.getD_eq_getElem?_getD, List.getElem?_eq_getElem h]
    rw [this, List.set_getElem_self]
  · exact List.set_eq_of_length_le (by omega)
@[simp] theorem pK (a0 : ZH) (a1 a2 a3 : Int) (h : Sm maxLen a0) : jI a0 a1 a2 a3 = yV a0 a1 a2 a3 := by
  unfold jI yV
  simp only [WV, zP, EP _ _ _ _ (Z7 (ZH.YW h))]
  cases ((((!(YR a0 a1)) || (!(YR a0 a2))) || (a1 == a2)) || (decide ((ZP a0.Frame.Methods a0.Frame.Now) < 0))) with
  | true => rfl
  | false =>
    rw [YY, YY]
    cases hb : (Yt (nth a0.ZA a1.toNat) (nth a0.ZA a2.toNat) ([a3] : List Int) (ZP a0.Frame.Methods a0.Frame.Now)).2.2 with
    | true => rfl
    | false =>
      rw [vg _ _ _ _ hb, YY]
      simp only [BD]
theorem OD (a0 : ZC) (a1 : ZM) : cn (XZ a0 a1).1 <= cn a0 + cn a1 := by
  unfold XZ
  refine ZS (p := fun (r : ZC × Bool) => cn r.1 <= cn a0 + cn a1) (by show cn a0 <= _; omega) ?_
  simp only
  refine ZS (p := fun (r : ZC × Bool) => cn r.1 <= cn a0 + cn a1) (by show cn a0 <= _; omega) ?_
  generalize XH a0 a1 (a0.ZD.length + 1) 0 = z
  have h := zq (cn : ZM -> Nat) (a0.ZD.take z) (a0.ZD.drop z)
  rw [List.take_append_drop] at h
  simp only [ZC.Yz, X5, zq, cnL] at h ⊢
  omega
theorem Ge (a0 : ZC) : cn a0 = 1 + cnL cn a0.ZD := rfl
theorem L4 (a0 : ZC) (a1 : YP) : ∀ n v d l, (∀ r, XA a0 a1 n v d l = .inl r -> r = (a0, false)) /\ ∀ z, XA a0 a1 n v d l = .inr z -> cnL cn z.2 <= cnL cn l + cnL cn (a1.ZD.drop v)
  | 0, v, d, l => ⟨fun r h => (by cases h), fun z h => (by cases h; exact Nat.zero_le _)⟩
  | n + 1, v, d, l => by
    rw [XA]
    let p := fun w : Sum (ZC × Bool) (Int × List ZM) => (∀ r, w = .inl r -> r = (a0, false)) /\ ∀ z, w = .inr z -> cnL cn z.2 <= cnL cn l + cnL cn (a1.ZD.drop v)
    refine Jp (p := p) (fun hc => ?_) (fun _ => ⟨fun r h => (by cases h), fun z h => (by cases h; exact Nat.le_add_right _ _)⟩)
    have hc : v < a1.ZD.length := by simpa using hc
    refine ZS (p := p) ⟨fun r h => (by cases h; rfl), fun z h => (by cases h)⟩ ?_
    obtain ⟨k1, k2⟩ := L4 a0 a1 n (v + 1) (XZ (ZC.mk d l) (nth a1.ZD v)).1.Id (XZ (ZC.mk d l) (nth a1.ZD v)).1.ZD
    refine ⟨k1, fun z hz => ?_⟩
    have := k2 z hz
    have ha := OD (ZC.mk d l) (nth a1.ZD v)
    rw [Ge, Ge] at ha
    rw [Lf cn hc]
    simp only at ha
    omega
theorem tT (a0 : ZC) (a1 : YP) (a2 : Int) : cn (Yq a0 a1 a2).1 <= cn a0 + cnL cn a1.ZD := by
  unfold Yq
  refine ZS (p := fun w : ZC × Bool => cn w.1 <= cn a0 + cnL cn a1.ZD) (Nat.le_add_right _ _) ?_
  obtain ⟨k1, k2⟩ := L4 a0 a1 (a1.ZD.length + 1) 0 a0.Id a0.ZD
  cases hs : XA a0 a1 (a1.ZD.length + 1) 0 a0.Id a0.ZD with
  | inl r => rw [k1 r hs]; exact Nat.le_add_right _ _
  | inr z =>
    have := k2 z hs
    obtain ⟨z1, z2⟩ := z
    rw [List.drop_zero] at this
    show 1 + cnL cn z2 <= _
    rw [Ge]
    simp only at this
    omega
theorem CH (a0 : ZC) (a1 : Int) : ∀ (m i : Nat) (d : Int) (l : List ZM), (K7 a0 a1 m d i l).2 = QC a0 a1 m i l
  | 0, _, _, _ => rfl
  | m + 1, i, d, l => by
    simp only [K7, QC]
    cases decide ((i : Int) < (a0.ZD.length : Int)) with
    | false => rfl
    | true =>
      simp only [cond_true]
      rw [show decide ((nth a0.ZD i).XB >= a1) = !decide ((nth a0.ZD i).XB < a1) by rw [<- decide_not]; simp]
      cases decide ((nth a0.ZD i).XB < a1) <;> simp [CH a0 a1 m]
theorem Mr (a0 : ZC) (a1 : Int) : (yu a0 a1).1 = (Kd a0 a1).1 := by
  unfold yu Kd
  have h := CH a0 a1 (a0.ZD.length + 1) 0 0 []
  cases hs : K7 a0 a1 (a0.ZD.length + 1) 0 0 [] with
  | mk x y => rw [hs] at h; simp only at h ⊢; rw [h]
@[simp] theorem sT (a0 : ZH) (a1 : Int) : yr a0 a1 = Kk a0 a1 := by
  simp only [yr, Kk, WV, Mr]
@[simp] theorem uk (a0 : List Zj) (a1 : Int) : ∀ (n : Nat) (v0 : Nat), z9 a0 a1 n v0 = z3 a0 a1 n v0 := by
  intro n
  induction n with
  | zero => intros; rfl
  | succ n ih => intros; simp [z9, z3, ih, ByteArray.append_assoc]
@[simp] theorem sU (a0 : List Zj) (a1 : Int) : zZ a0 a1 = zi a0 a1 := by simp [zZ, zi]
@[simp] theorem p8 (a0 : List Zj) (a1 : Int) : Tg a0 a1 = TT a0 a1 := by
  unfold Tg TT; rw [cond_neg]; simp
@[simp] theorem OZ (a0 : Zq) (a1 : Int) : jF a0 a1 = zl a0 a1 := by
  unfold jF zl W7
  by_cases h : YD a0.Zm a1 < 0
  · have : ¬ 0 <= YD a0.Zm a1 := by omega
    simp [this]
  · simp [h]
@[simp] theorem rV (a0 : ZH) (a1 a2 : Int) (a3 : ZT) : xZ a0 a1 a2 a3 = Km a0 a1 a2 a3 := by
  unfold xZ Km
  simp only [WV, OZ, Ss]
  cases hs : zl a0.Frame a2 with
  | false => cases YR a0 a1 <;> rfl
  | true =>
    have hk : decide ((YD a0.Frame.Zm a2) < 0) = false := by
      simp only [zl, Bool.and_eq_true, decide_eq_true_eq] at hs
      simp only [decide_eq_false_iff_not]; omega
    rw [Lo, hk]
    cases (YR a0 a1) with
    | false => rfl
    | true =>
      simp only [Bool.not_true, Bool.or_false, Bool.false_or, cond_false, vk]
      cases (Xv a0 a2 a3 0 10000).2 with
      | false => rfl
      | true =>
        cases (XZ (nth a0.ZA a1.toNat) (Xv a0 a2 a3 0 10000).1).2 <;> rfl
@[simp] theorem CW (a0 : ZH) : ∀ (n : Nat) (v0 : List Int) (v1 : Nat), Qb a0 n v0 v1 = QR a0 n v0 v1 := by
  intro n
  induction n with
  | zero => intros; rfl
  | succ n ih => intros; simp [Qb, QR, ih, ByteArray.append_assoc]
@[simp] theorem kS (a0 : ZH) : Yd a0 = Zw a0 := by simp [Yd, Zw]
theorem uH (a0 : ZC) (a1 : Int) (h : Sm maxLen a0) : YB a0 a1 = a0.ZD.map (fun x => Qy x a1) := by
  have := EC (as := a0.ZD) (fun x => [TX (Za.mk x.ZJ.ZL (x.ZJ.Zf ++ [ZK.mk (x.ZJ.ZL.length : Int) a1 0 [] []])) (J9 (Za.mk x.ZJ.ZL (x.ZJ.Zf ++ [ZK.mk (x.ZJ.ZL.length : Int) a1 0 [] []])) x.Doc) (W (((x.ZJ.Zf ++ [ZK.mk (x.ZJ.ZL.length : Int) a1 0 [] []]).length : Int) - 1))]) (F := fun n i l => KA a0 a1 n l i) (fun _ _ _ => rfl) (a0.ZD.length + 1) 0 [] (by omega) (Nat.zero_le _)
  unfold YB
  rw [this, List.drop_zero, Hy]
  exact List.map_congr_left (fun x hx => wy x a1 ((ZC.YO h).2 x hx) _ rfl)
theorem rR {α β : Type} [Inhabited α] [Inhabited β] (f : α -> β) {l : List α} {i : Nat} (h : i < l.length) : nth (l.map f) i = f (nth l i) := by simp [nth, List.getD_eq_getElem?_getD, List.getElem?_map, List.getElem?_eq_getElem h]
theorem Ce (a0 : ZH) (a1 a2 : Int) (e : nth (YB (nth a0.ZA (ZV a0 a1).1.toNat) (ZP a0.Frame.Methods a0.Frame.Now)) (ZV a0 a1).2.toNat = Qy (nth (nth a0.ZA (ZV a0 a1).1.toNat).ZD (ZV a0 a1).2.toNat) (ZP a0.Frame.Methods a0.Frame.Now)) :
    ∀ n v0 v1, z6 a0 a1 a2 n v0 v1 = QG a0 a1 a2 n v0 v1
  | 0, _, _ => rfl
  | n + 1, v0, v1 => by simp only [z6, QG, Ce a0 a1 a2 e n, kS, PO, UR, zP, e]
@[simp] theorem uZ (a0 : ZH) (a1 a2 : Int) (h : Sm maxLen a0) : zE a0 a1 a2 = JA a0 a1 a2 := by
  unfold zE JA
  simp only [UR, zP, Gf, kS, RK]
  have hb : ∀ p q r s : Bool, (((p || q) || r) || s) = (((r || p) || q) || s) := by decide
  rw [hb]
  by_cases hi : (ZV a0 a1).1 < 0
  · rw [decide_eq_true hi]; simp
  · obtain ⟨h1, h2, h3⟩ := Kl a0 a1 (by omega)
    have e : nth (YB (nth a0.ZA (ZV a0 a1).1.toNat) (ZP a0.Frame.Methods a0.Frame.Now)) (ZV a0 a1).2.toNat = Qy (nth (nth a0.ZA (ZV a0 a1).1.toNat).ZD (ZV a0 a1).2.toNat) (ZP a0.Frame.Methods a0.Frame.Now) := by
      rw [uH _ _ (Z7 (ZH.YW h)), rR _ h3]
    rw [Ce a0 a1 a2 e, e]
@[simp] theorem pS (a0 : ZH) (a1 a2 : Int) : jK a0 a1 a2 = ym a0 a1 a2 := by
  unfold jK ym YE
  simp only [UR, PC, OL, OZ, RA, R3, Te]
  cases h1 : ((decide ((ZV a0 a1).1 < 0)) || (decide (((nth (nth a0.ZA (ZV a0 a1).1.toNat).ZD (ZV a0 a1).2.toNat).ZJ.ZL.length : Int) < 2))) with
  | true => rfl
  | false =>
    simp only [cond_false]
    generalize KC (nth (nth (nth a0.ZA (ZV a0 a1).1.toNat).ZD (ZV a0 a1).2.toNat).ZJ.ZL 1) = p
    rw [Lt, show (!(decide (XJ a0.ZN p.1.Zi >= 0))) = decide (XJ a0.ZN p.1.Zi < 0) by rw [<- decide_not]; simp]
    cases h2 : ((!p.2 || decide (XJ a0.ZN p.1.Zi < 0)) || (!(zl a0.Frame (nth a0.ZN (XJ a0.ZN p.1.Zi).toNat).Z2))) with
    | true => rfl
    | false =>
      simp only [cond_false]
      have hn : 0 <= XJ a0.ZN p.1.Zi := by simp at h2; exact h2.1.2
      rw [Oc _ _ hn, <- CV]
      generalize (Z0.mk p.1.Zi a2 (-1) (nth a0.ZN (XJ a0.ZN p.1.Zi).toNat).Z2 0) = st
      cases (Yy a0.Frame.Zm st).2 <;> rfl
@[simp] theorem RR (a0 : ZH) (a1 : Zp) (h : Sm maxLen a0) : XL a0 a1 = Y6 a0 a1 := by simp [XL, Y6, h]
theorem Pk {α : Type} [Inhabited α] (c : α -> Nat) : ∀ (l : List α) (i : Nat) (x : α), cnL c (l.set i x) + c (nth l i) <= cnL c l + c x + c default
  | [], i, x => by simp [nth, cnL]
  | y :: l, 0, x => by simp only [List.set_cons_zero, cnL, nth, List.getD_cons_zero]; omega
  | y :: l, i + 1, x => by have := Pk c l i x; simp only [List.set_cons_succ, cnL, nth, List.getD_cons_succ] at this ⊢; omega
/-- one archive grows by at most g -/
theorem Rs {a0 : ZH} {i g : Nat} {x : ZC} (h : cn x <= cn (nth a0.ZA i) + g) : cn (ZH.mk a0.Frame a0.ZN a0.Zl (a0.ZA.set i x) a0.YX a0.YJ a0.Next a0.Z4) <= cn a0 + g + 1 := by
  have h1 := Pk (cn : ZC -> Nat) a0.ZA i x
  have hd : cn (default : ZC) = 1 := rfl
  simp only [ZH.Yz, X5 (x := a0.ZA), X5 (x := a0.ZA.set _ _)]; omega
theorem Be {A : ZC} {i g : Nat} {s : Za} (h : cn s <= cn (nth A.ZD i).ZJ + g) : cn (ZC.mk A.Id (A.ZD.set i (ZM.mk (nth A.ZD i).Id (nth A.ZD i).XB (nth A.ZD i).Doc (nth A.ZD i).Sig s))) <= cn A + g + 200 := by
  have h1 := Pk (cn : ZM -> Nat) A.ZD i (ZM.mk (nth A.ZD i).Id (nth A.ZD i).XB (nth A.ZD i).Doc (nth A.ZD i).Sig s)
  have hd : cn (default : ZM) <= 200 := Nat.le_of_ble_eq_true rfl
  simp only [ZC.Yz, ZM.Yz, X5 (x := A.ZD), X5 (x := A.ZD.set _ _), Xk] at h1 hd ⊢; omega
theorem v8 {a0 : ZH} {g : Nat} : cn a0 <= cn a0 + g := Nat.le_add_right _ _
theorem Eu (s : Za) (p : ZO) : cn (J0 s p).1 <= cn s + cn p := by
  refine ZS (p := fun r : Za × Bool => cn r.1 <= cn s + cn p) (Nat.le_add_right _ _) ?_
  simp only [Za.Yz, X5, zq, cnL]; omega
theorem RQ (s : Za) (p : ZK) : cn (Xl s p).1 <= cn s + cn p := by
  refine ZS (p := fun r : Za × Bool => cn r.1 <= cn s + cn p) (Nat.le_add_right _ _) ?_
  simp only [Za.Yz, X5, zq, cnL]; omega
theorem Fy (a0 : ZC) (a1 : Int) (a2 : ZO) : cn (Xg a0 a1 a2).1 <= cn a0 + cn a2 + 200 :=
  ZS (p := fun r : ZC × Bool => cn r.1 <= cn a0 + cn a2 + 200) (by show cn a0 <= _; omega) (Be (Eu _ _))
theorem Uu (a0 : ZH) (a1 a2 : Int) (a3 : Z0) : cn (JK a0 a1 a2 a3).1 <= cn a0 + 208 :=
  ZS (p := fun r : ZH × Bool => cn r.1 <= cn a0 + 208) v8 (Rs (g := 207) (Fy _ _ (Xc _)))
theorem HS (a0 : ZH) (a1 : Int) : cn (Kb a0 a1).1 <= cn a0 + 208 := by
  let p := fun r : ZH × Bool => cn r.1 <= cn a0 + 208
  exact ZS (p := p) v8 (ZS (p := p) v8 (ZS (p := p) (Uu _ _ _ _) (Uu _ _ _ _)))
theorem Eg (a0 : ZH) (a1 a2 : Int) : cn (ym a0 a1 a2).1 <= cn a0 + 208 :=
  ZS (p := fun r : ZH × Bool => cn r.1 <= cn a0 + 208) v8 (Uu _ _ _ _)
theorem OK (a0 : ZH) (a1 a2 : Int) (a3 : ZT) (a4 a5 : Int) : cn (Yx a0 a1 a2 a3 a4 a5).1 <= cn a0 + cn a3 + 300 := by
  have hb : cn a0 <= cn a0 + cn a3 + 300 := by omega
  have key : ∀ m v r, QO a0 a1 a2 a3 a4 a5 m v = .inl r -> cn r.1 <= cn a0 + cn a3 + 300 := by
    intro m
    induction m with
    | zero => intro v r h; cases h
    | succ m ih =>
      intro v r h
      unfold QO at h
      revert h
      let p := fun w : Sum (ZH × Bool) Unit => w = Sum.inl r -> cn r.1 <= cn a0 + cn a3 + 300
      refine ZS (p := p) (ZS (p := p) (fun h => ih _ _ h) (ZS (p := p) (fun h => by cases h; exact hb) (fun h => ?_))) (fun h => by cases h)
      cases h
      refine Nat.le_trans (Rs (g := cn a3 + 200) (Nat.le_trans (OD _ _) (Nat.add_le_add_left ?_ _))) (by omega)
      have h1 : ∀ x : Zc, cn x = 9 := fun _ => rfl
      have h2 : ∀ x : Zc, cn (Qd x) = 11 := fun _ => rfl
      have h3 : ∀ x : Z1, cn (JL x) = 9 := fun _ => rfl
      simp only [ZM.Yz, Za.Yz, X5, cnL, Xk, h1, h2, h3]
      omega
  unfold Yx
  refine ZS (p := fun w : ZH × Bool => cn w.1 <= cn a0 + cn a3 + 300) hb ?_
  cases he : QO a0 a1 a2 a3 a4 a5 (a0.ZN.length + 1) 0 with
  | inl r => exact key _ _ r he
  | inr _ => exact hb
theorem DG (a0 : ZH) (a1 a2 : Int) (a3 : ZT) (a4 a5 : Int) : cn (yq a0 a1 a2 a3 a4 a5).1 <= cn a0 + cn a3 + 300 :=
  ZS (p := fun r : ZH × Bool => cn r.1 <= cn a0 + cn a3 + 300) (by show cn a0 <= _; omega) (OK _ _ _ _ _ _)
theorem GQ (a0 : ZH) (a1 a2 : Int) (a3 : ZT) : cn (Km a0 a1 a2 a3).1 <= cn a0 + cn a3 + 301 := by
  have h4 := OK a0 a1 a2 a3 0 10000
  let p := fun r : ZH × Bool => cn r.1 <= cn a0 + cn a3 + 301
  refine ZS (p := p) (by show cn a0 <= _; omega) (ZS (p := p) ?_ (by show cn (Yx a0 a1 a2 a3 0 10000).1 <= _; omega))
  show cn (ZH.mk _ _ _ _ _ _ _ _) <= _
  simp only [ZH.Yz, X5, zq, cnL, Xk] at h4 ⊢
  omega
theorem LS (a0 : ZC) (a1 : Int) : ∀ (m i : Nat) (l : List ZM), cnL cn (QC a0 a1 m i l) <= cnL cn l + cnL cn (a0.ZD.drop i)
  | 0, _, _ => by show cnL cn (default : List ZM) <= _; exact Nat.zero_le _
  | m + 1, i, l => by
    simp only [QC]
    refine Jp (p := fun r => cnL cn r <= cnL cn l + cnL cn (a0.ZD.drop i)) (fun hc => ?_) (fun _ => Nat.le_add_right _ _)
    rw [T1 (l := a0.ZD) (i := i) (by simpa using hc)]
    have h1 := LS a0 a1 m (i + 1) (l ++ [nth a0.ZD i])
    have h2 := LS a0 a1 m (i + 1) l
    simp only [zq, cnL] at h1 ⊢
    exact ZS (p := fun r => cnL cn r <= _) (by omega) (by omega)
theorem HK (a0 : ZH) (a1 : Int) : cn (Kk a0 a1).1 <= cn a0 + 1 := by
  refine ZS (p := fun (r : ZH × Bool) => cn r.1 <= cn a0 + 1) v8 (Rs (g := 0) ?_)
  have h2 := LS (nth a0.ZA a1.toNat) a0.Frame.Now ((nth a0.ZA a1.toNat).ZD.length + 1) 0 []
  simp only [List.drop_zero, cnL, Nat.zero_add] at h2
  exact Nat.add_le_add_left h2 1
theorem Bs (a0 : ZC) (a1 : Int) (a2 : List ZW) : ∀ (n v : Nat) (l : List ZM), v <= a0.ZD.length -> (∀ k, v <= k -> nth l k = nth a0.ZD k) -> (∀ r, XQ a0 a1 a2 n v l = .inl r -> r = (a0, false)) /\ ∀ z, XQ a0 a1 a2 n v l = .inr z -> cnL cn z <= cnL cn l + (a0.ZD.length - v) * (237 + cn a2)
  | 0, v, l, _, _ => ⟨fun r h => (by cases h), fun z h => (by cases h; exact Nat.zero_le _)⟩
  | n + 1, v, l, hv, hk => by
    simp only [XQ]
    let p := fun w : Sum (ZC × Bool) (List ZM) => (∀ r, w = .inl r -> r = (a0, false)) /\ ∀ z, w = .inr z -> cnL cn z <= cnL cn l + (a0.ZD.length - v) * (237 + cn a2)
    refine Jp (p := p) (fun hc => ?_) (fun _ => ⟨fun r h => (by cases h), fun z h => (by cases h; exact Nat.le_add_right _ _)⟩)
    have ij : v < a0.ZD.length := by simpa using hc
    refine ZS (p := p) ⟨fun r h => (by cases h; rfl), fun z h => (by cases h)⟩ ?_
    have ef : ∀ x k, v + 1 <= k -> nth (l.set v x) k = nth a0.ZD k := fun x k h1 => by rw [NA _ _ (by omega)]; exact hk k (by omega)
    refine ⟨(Bs a0 a1 a2 n (v + 1) _ ij (ef _)).1, fun z hz => Nat.le_trans ((Bs a0 a1 a2 n (v + 1) _ ij (ef _)).2 z hz) ?_⟩
    have hs := Be (A := ZC.mk 0 l) (i := v) (g := 37 + cn a2) (s := (Xl (nth a0.ZD v).ZJ (ZK.mk ((nth a0.ZD v).ZJ.ZL.length : Int) a1 (Qx a0 a1) (JJ a1 (Xi a0 a1) (v : Int)) a2)).1) (by
      show _ <= cn (nth l v).ZJ + _
      rw [hk v (Nat.le_refl _)]
      refine Nat.le_trans (RQ _ _) (Nat.add_le_add_left ?_ _)
      have hp := DR a1 (Xi a0 a1) (v : Int)
      simp only [ZK.Yz, Xk]; omega)
    have hd : (a0.ZD.length - v) * (237 + cn a2) = (a0.ZD.length - (v + 1)) * (237 + cn a2) + (237 + cn a2) := by
      rw [show a0.ZD.length - v = (a0.ZD.length - (v + 1)) + 1 by omega, Nat.add_mul, Nat.one_mul]
    rw [hd]
    simp only [ZC.Yz, Xk, X5 (x := l), X5 (x := l.set _ _)] at hs
    omega
theorem LG (A : ZC) (m : Int) (z0 : List ZW) : cn (Qh A m z0).1 <= cn A + A.ZD.length * (237 + cn z0) := by
  let p := fun r : ZC × Bool => cn r.1 <= cn A + A.ZD.length * (237 + cn z0)
  refine ZS (p := p) (Nat.le_add_right _ _) ?_
  obtain ⟨k1, k2⟩ := Bs A m z0 (A.ZD.length + 1) 0 A.ZD (Nat.zero_le _) (fun _ _ => rfl)
  cases ht : XQ A m z0 (A.ZD.length + 1) 0 A.ZD with
  | inl r => rw [k1 r ht]; exact Nat.le_add_right _ _
  | inr w => exact ZS (p := p) (Nat.le_add_right _ _) (by show 1 + cnL cn w <= 1 + cnL cn A.ZD + _; have := k2 w ht; rw [Nat.sub_zero] at this; omega)
theorem tb (l : List ZW) : cn l = 5 * l.length := by rw [X5]; exact Nn (c := (cn : ZW -> Nat)) (m := 5) (fun _ => rfl) l
theorem Fv {n : Nat} (a0 : ZH) (a1 : Int) (a2 : List Int) (a3 : Int) (h : ∀ x ∈ a0.ZA, x.ZD.length <= n) : cn (Kr a0 a1 a2 a3).1 <= cn a0 + n * (237 + 5 * (a2.length + 1)) + 1 := by
  let p := fun r : ZH × Bool => cn r.1 <= cn a0 + n * (237 + 5 * (a2.length + 1)) + 1
  have h0 : cn a0 <= cn a0 + n * (237 + 5 * (a2.length + 1)) + 1 := by omega
  refine ZS (p := p) h0 ?_
  obtain ⟨k1, k2⟩ := H7 a0 a1 a2 a3 (a2.length + 1) [] 0 a0.YX
  cases hs : Y7 a0 a1 a2 a3 (a2.length + 1) [] 0 a0.YX with
  | inl r => rw [k1 r hs]; exact h0
  | inr z =>
    obtain ⟨q1, q2⟩ := k2 z hs
    obtain ⟨z0, z1⟩ := z
    refine ZS (p := p) h0 ?_
    have e0 : cn ([] : List ZW) = 0 := rfl
    have hn : (nth a0.ZA a1.toNat).ZD.length <= n := by
      rw [nth, List.getD_eq_getElem?_getD]
      cases hh : a0.ZA[a1.toNat]? with
      | none => exact Nat.zero_le _
      | some x => exact h x (List.mem_of_getElem? hh)
    have h4 := Rs (a0 := a0) (i := a1.toNat) (LG (nth a0.ZA a1.toNat) (ZP a0.Frame.Methods a0.Frame.Now) z0)
    have h6 : (nth a0.ZA a1.toNat).ZD.length * (237 + cn z0) <= n * (237 + 5 * (a2.length + 1)) := Nat.mul_le_mul hn (by simp only at q1; omega)
    have h8 : cn z1 <= cn a0.YX := by rw [Hq, Hq]; exact q2
    show cn (ZH.mk _ _ _ _ _ _ _ _) <= _
    rw [ZH.Yz] at h4 ⊢
    simp only at h4 ⊢
    omega
theorem MW {n : Nat} (a0 : ZH) (a1 a2 : Int) (h : a0.Frame.ZE.length <= n) : cn (JA a0 a1 a2).1 <= cn a0 + 5 * n + 300 := by
  let p := fun r : ZH × Bool => cn r.1 <= cn a0 + 5 * n + 300
  have h0 : cn a0 <= cn a0 + 5 * n + 300 := by omega
  refine ZS (p := p) h0 ?_
  obtain ⟨k1, k2⟩ := qY (a0 := a0) (a1 := a1) (a2 := a2) ((Zw a0).length + 1) 0 []
  cases hs : QG a0 a1 a2 ((Zw a0).length + 1) 0 [] with
  | inl r => rw [k1 r hs]; exact h0
  | inr z =>
    have hz := k2 z hs
    have hf := Je a0
    rw [List.length_nil] at hz
    refine Nat.le_trans (Rs (g := 5 * n + 204) (Nat.le_trans (Be (g := 5 * n + 4) (Nat.le_trans (RQ _ _) (Nat.add_le_add_left ?_ _))) (by omega))) (by omega)
    have ez := tb z
    have e0 : cn ([] : List Zy) = 0 := rfl
    simp only [ZK.Yz, Xk, e0]; omega
theorem DU (a0 : ZC) (a1 : Int) (hb : a0.ZD.length <= 9223372036854775807) (hk : ¬ ZX a0 a1 < 0) : cn (QM a0 a1).1 + cn (nth a0.ZD (ZX a0 a1).toNat) <= cn a0 := by
  unfold QM
  rw [decide_eq_false hk, YY]
  have hf := Q5 a0 a1
  have w : W ((ZX a0 a1) + 1) = (ZX a0 a1) + 1 := YG (by omega) (by omega)
  rw [w, show ((ZX a0 a1) + 1).toNat = (ZX a0 a1).toNat + 1 by omega]
  have h1 := zq (cn : ZM -> Nat) (a0.ZD.take (ZX a0 a1).toNat) (a0.ZD.drop (ZX a0 a1).toNat)
  rw [List.take_append_drop, Lf cn (l := a0.ZD) (i := (ZX a0 a1).toNat) (by omega)] at h1
  show 1 + cnL cn (a0.ZD.take (ZX a0 a1).toNat ++ a0.ZD.drop ((ZX a0 a1).toNat + 1)) + _ <= 1 + cnL cn a0.ZD
  rw [zq]; omega
theorem oF (a0 a1 : ZC) (a2 a3 : Int) (hb : a0.ZD.length <= 9223372036854775807) : cn (Yt a0 a1 [a2] a3).1 + cn (Yt a0 a1 [a2] a3).2.1 <= cn a0 + cn a1 := by
  let p := fun r : ZC × ZC × Bool => cn r.1 + cn r.2.1 <= cn a0 + cn a1
  have h0 : p (a0, a1, false) := Nat.le_refl _
  unfold Yt
  by_cases hk : ZX a0 a2 < 0
  · have e : (YK a0 a1.Id [a2] a3).2 = false := by simp [YK, QB, nth, hk]
    rw [e]; exact h0
  · refine ZS (p := p) h0 ?_
    have e : cnL cn (YK a0 a1.Id [a2] a3).1.ZD = cn (nth a0.ZD (ZX a0 a2).toNat) := by simp [YK, QB, nth, hk, cnL]
    have ha := tT a1 (YK a0 a1.Id [a2] a3).1 a3
    have hd := DU a0 a2 hb hk
    have em : ∀ w, Xb a0 a1 [a2] 2 0 a0.Id a0.ZD = w -> (match w with | .inl r1 => r1 | .inr (z1_0, z1_1) => ((ZC.mk z1_0 z1_1), (Yq a1 (YK a0 a1.Id [a2] a3).1 a3).1, true)) = (bif (!(QM a0 a2).2) then (a0, a1, false) else ((QM a0 a2).1, (Yq a1 (YK a0 a1.Id [a2] a3).1 a3).1, true)) := fun w hw => by
      subst hw
      show _ = (bif (!(QM (ZC.mk a0.Id a0.ZD) (nth [a2] 0)).2) then _ else _)
      simp only [Xb]
      cases (QM (ZC.mk a0.Id a0.ZD) (nth [a2] 0)).2 <;> rfl
    have e2 := em _ rfl
    show p (match Xb a0 a1 [a2] 2 0 a0.Id a0.ZD with | .inl r1 => r1 | .inr (z1_0, z1_1) => _)
    rw [e2]
    exact ZS (p := p) h0 (by show cn (QM a0 a2).1 + cn (Yq a1 (YK a0 a1.Id [a2] a3).1 a3).1 <= _; omega)
theorem DE {n : Nat} (hb : n <= 9223372036854775807) (a0 : ZH) (a1 a2 a3 : Int) (h : Sm n a0) : cn (yV a0 a1 a2 a3).1 <= cn a0 + 2 := by
  let p := fun r : ZH × Bool => cn r.1 <= cn a0 + 2
  refine Jp (p := p) (fun _ => v8) (fun hc => ZS (p := p) ?_ v8)
  have iU : a1.toNat ≠ a2.toNat := by
    simp [YR, Zn] at hc
    omega
  have hm := oF (nth a0.ZA a1.toNat) (nth a0.ZA a2.toNat) a3 (ZP a0.Frame.Methods a0.Frame.Now) (Nat.le_trans (XP (ZC.YO (Z7 (ZH.YW h)))) hb)
  revert hm
  show _ -> cn (ZH.mk _ _ _ _ _ _ _ _) <= _
  generalize Yt (nth a0.ZA a1.toNat) (nth a0.ZA a2.toNat) ([a3] : List Int) (ZP a0.Frame.Methods a0.Frame.Now) = m
  intro hm
  have h1 := Pk (cn : ZC -> Nat) a0.ZA a1.toNat m.1
  have h2 := Pk (cn : ZC -> Nat) (a0.ZA.set a1.toNat m.1) a2.toNat m.2.1
  rw [NA _ _ iU] at h2
  have hd : cn (default : ZC) = 1 := rfl
  simp only [ZH.Yz, X5 (x := a0.ZA), X5 (x := (a0.ZA.set a1.toNat m.1).set a2.toNat m.2.1), Xk]
  omega
theorem I7 {n B d : Nat} (hb : n <= 9223372036854775807) (a0 : ZH) (a1 : Zp) (h : Sm n a0) (hd : cn a1.Doc <= d) (hi : a1.Ids.length <= d) (hB : n * (5 * d + 320) + (5 * d + 320) <= B) : cn (Y6 a0 a1).1 <= cn a0 + B := by
  have m1 : n * (237 + 5 * (a1.Ids.length + 1)) + (5 * d + 320) <= B := Nat.le_trans (Nat.add_le_add_right (Nat.mul_le_mul_left n (by omega)) _) hB
  have m2 : 5 * n + (5 * d + 320) <= B := Nat.le_trans (Nat.add_le_add_right (by rw [Nat.mul_comm 5]; exact Nat.mul_le_mul_left n (by omega)) _) hB
  have hn := Fv a0 a1.A a1.Ids a1.B (fun x hx => XP (ZC.YO ((ZH.YW h).2 x hx)))
  clear hB
  generalize n * (237 + 5 * (a1.Ids.length + 1)) = x1 at m1 hn
  let p := fun r : ZH × Bool => cn r.1 <= cn a0 + B
  have c : ∀ {w : ZH} {b : Bool} {g : Nat}, cn w <= g -> g <= cn a0 + B -> p (w, b) := fun h1 h2 => Nat.le_trans h1 h2
  have ht : cn (ya a0 a1.A).1 <= cn a0 := ZS (p := fun (r : ZH × Bool) => cn r.1 <= cn a0) (Nat.le_refl _) (Nat.le_refl _)
  have hr : cn (Ke a0 a1.A).1 <= cn a0 := ZS (p := fun (r : ZH × Bool) => cn r.1 <= cn a0) (Nat.le_refl _) (by simp [ZH.Yz, Xk, Hq])
  refine ZS (p := p) (c ht ?_) (ZS (p := p) (c (DG a0 a1.A a1.B a1.Doc a1.C a1.D) ?_) (ZS (p := p) (c (HS a0 a1.A) ?_) (ZS (p := p) (c hr ?_) (ZS (p := p) (c hn ?_)
    (ZS (p := p) (c (DE hb a0 a1.A a1.B a1.C h) ?_) (ZS (p := p) (c (HK a0 a1.A) ?_) (ZS (p := p) (c (GQ a0 a1.A a1.B a1.Doc) ?_)
    (ZS (p := p) (c (MW a0 a1.A a1.B (XP (Zq.XV (ZH.Xj h)))) ?_) (ZS (p := p) (c (Eg a0 a1.A a1.B) ?_) (Nat.le_add_right _ _)))))))))) <;> (clear hn ht hr c h p; revert hd; generalize cn a1.Doc = y; omega)
theorem HQ {n : Nat} {a0 : ZH} {a1 : Zp} (hb : n <= 9223372036854775807) (h : Sm n a0) (he : Sm n a1) (hn : 17 <= n) : Sm (n + 1) (XL a0 a1).1 := by
  rw [RR a0 a1 (ZZ hb h)]; exact Wp hb h he hn
theorem run_eq (a1 : List Zp) (h1 : Sm 1048576 a1) : ∀ (n v : Nat) (w : ZH), a1.length < n + v -> v <= a1.length -> Sm (1048576 + v) w ->
    zw a1 n v w.Frame.Zm w.Frame.ZE w.Frame.Methods w.Frame.KZ w.Frame.Now w.ZN w.Zl w.ZA w.YX w.YJ w.Next w.Z4 = Kw a1 n v w.Frame.Zm w.Frame.ZE w.Frame.Methods w.Frame.KZ w.Frame.Now w.ZN w.Zl w.ZA w.YX w.YJ w.Next w.Z4 /\
    ∃ z : ZH, Kw a1 n v w.Frame.Zm w.Frame.ZE w.Frame.Methods w.Frame.KZ w.Frame.Now w.ZN w.Zl w.ZA w.YX w.YJ w.Next w.Z4 = (z.Frame.Zm, z.Frame.ZE, z.Frame.Methods, z.Frame.KZ, z.Frame.Now, z.ZN, z.Zl, z.ZA, z.YX, z.YJ, z.Next, z.Z4) /\ cn z <= cn w + 2097153 * (5 * cnL cn (a1.drop v) + 320 * (a1.length - v))
  | 0, v, w, h, hv, hs => by omega
  | n + 1, v, w, h, hv, hs => by
    have hl := XP h1
    by_cases ij : v < a1.length
    · have hd : decide ((v : Int) < (a1.length : Int)) = true := by simpa using ij
      have e := RR w (nth a1 v) (ZZ (by show _ <= 9223372036854775807; omega) hs)
      have hc : cn (nth a1 v).Doc + (nth a1 v).Ids.length <= cn (nth a1 v) := by rw [<- Hq, Zp.Yz]; omega
      have g := I7 (n := 2097152) (B := 2097153 * (5 * cn (nth a1 v) + 320)) (d := cn (nth a1 v)) (by omega) w (nth a1 v) (ZZ (by omega) hs) (by omega) (by omega) (by omega)
      obtain ⟨k1, z, k2, k3⟩ := run_eq a1 h1 n (v + 1) (Y6 w (nth a1 v)).1 (by omega) ij (Wp (n := 1048576 + v) (by omega) hs (ZZ (by omega) (Z7 h1)) (by omega))
      refine ⟨?_, z, ?_, ?_⟩
      · rw [zw, Kw, hd, Yu, Yu]
        show zw a1 n (v + 1) (XL w (nth a1 v)).1.Frame.Zm _ _ _ _ _ _ _ _ _ _ _ = _
        rw [e]; exact k1
      · rw [Kw, hd, Yu]; exact k2
      · rw [Lf cn ij]
        rw [show a1.length - v = (a1.length - (v + 1)) + 1 by omega]
        omega
    · have hd : decide ((v : Int) < (a1.length : Int)) = false := by simpa using ij
      rw [zw, Kw, hd]
      exact ⟨rfl, w, rfl, Nat.le_add_right _ _⟩
theorem Gu (a0 : ZH) (a1 : List Zp) (h0 : Sm 1048576 a0) (h1 : Sm 1048576 a1) : Ku a0 a1 = YF a0 a1 := by
  unfold Ku YF
  rw [(run_eq a1 h1 (a1.length + 1) 0 a0 (by omega) (Nat.zero_le _) h0).1]
theorem GR (a0 : ZH) (a1 : List Zp) (h0 : Sm 1048576 a0) (h1 : Sm 1048576 a1) (h : cn a0 <= 33554464) (h2 : cn a1 <= 33554464) : cn (YF a0 a1) <= 1152921504606846976 := by
  obtain ⟨_, z, e, k⟩ := run_eq a1 h1 (a1.length + 1) 0 a0 (by omega) (Nat.zero_le _) h0
  have hl := XP h1
  have hc : cn a1 = cnL cn a1 := rfl
  unfold YF
  rw [e]
  show cn z <= _
  rw [List.drop_zero] at k
  omega
end Go.Mo
