/- The models of the program and of the reference agree. No condition. -/
import Derived.Test.YtjflhdkeibijaaaGreatL
namespace Go.Mo
open Go.Vm
set_option linter.unusedSimpArgs false
set_option linter.unusedVariables false
/-- a loop that looks whether one of the places is bad -/
theorem HE {L : Nat → Nat → Sum Bool Unit} {len : Nat} {c : Nat → Bool} (h0 : ∀ v, L 0 v = .inr ()) (hs : ∀ n v, L (n + 1) v = (bif decide ((v : Int) < (len : Int)) then (bif c v then .inl false else L n (v + 1)) else .inr ())) :
    ∀ n v, len < n + v → (L n v = .inr () ∧ ∀ i, v ≤ i → i < len → c i = false) ∨ (L n v = .inl false ∧ ∃ i, v ≤ i ∧ i < len ∧ c i = true)
  | 0, v, h => .inl ⟨h0 v, fun i h1 h2 => by omega⟩
  | n + 1, v, h => by
    rw [hs]
    by_cases hv : v < len
    · rw [show decide ((v : Int) < (len : Int)) = true by simpa using hv]
      cases hc : c v with
      | true => exact .inr ⟨rfl, v, Nat.le_refl _, hv, hc⟩
      | false =>
        rcases HE h0 hs n (v + 1) (by omega) with ⟨e, k⟩ | ⟨e, i, k1, k2, k3⟩
        · refine .inl ⟨e, fun i h1 h2 => ?_⟩
          rcases Nat.eq_or_lt_of_le h1 with rfl | h1
          · exact hc
          · exact k i h1 h2
        · exact .inr ⟨e, i, by omega, k2, k3⟩
    · rw [show decide ((v : Int) < (len : Int)) = false by simpa using hv]
      exact .inl ⟨rfl, fun i h1 h2 => by omega⟩
/-- a loop that looks for the first place -/
theorem VD {β : Type} {L : Nat → Nat → Sum β Unit} {len : Nat} {c : Nat → Bool} {r : Nat → β} (h0 : ∀ v, L 0 v = .inr ()) (hs : ∀ n v, L (n + 1) v = (bif decide ((v : Int) < (len : Int)) then (bif c v then .inl (r v) else L n (v + 1)) else .inr ())) :
    ∀ n v, len < n + v → (L n v = .inr () ∧ ∀ i, v ≤ i → i < len → c i = false) ∨ (∃ i, L n v = .inl (r i) ∧ v ≤ i ∧ i < len ∧ c i = true ∧ ∀ k, v ≤ k → k < i → c k = false)
  | 0, v, h => .inl ⟨h0 v, fun i h1 h2 => by omega⟩
  | n + 1, v, h => by
    rw [hs]
    by_cases hv : v < len
    · rw [show decide ((v : Int) < (len : Int)) = true by simpa using hv]
      cases hc : c v with
      | true => exact .inr ⟨v, rfl, Nat.le_refl _, hv, hc, fun k h1 h2 => by omega⟩
      | false =>
        rcases VD h0 hs n (v + 1) (by omega) with ⟨e, k⟩ | ⟨i, e, k1, k2, k3, k4⟩
        · refine .inl ⟨e, fun i h1 h2 => ?_⟩
          rcases Nat.eq_or_lt_of_le h1 with rfl | h1
          · exact hc
          · exact k i h1 h2
        · refine .inr ⟨i, e, by omega, k2, k3, fun k h1 h2 => ?_⟩
          rcases Nat.eq_or_lt_of_le h1 with rfl | h1
          · exact hc
          · exact k4 k h1 h2
    · rw [show decide ((v : Int) < (len : Int)) = false by simpa using hv]
      exact .inl ⟨rfl, fun i h1 h2 => by omega⟩
/-- the same, as a Boolean -/
theorem yn {L : Nat → Nat → Sum Bool Unit} {len : Nat} {c : Nat → Bool} (h0 : ∀ v, L 0 v = .inr ()) (hs : ∀ n v, L (n + 1) v = (bif decide ((v : Int) < (len : Int)) then (bif c v then .inl false else L n (v + 1)) else .inr ())) (n v : Nat) (h : len < n + v) (X : Bool) :
    (match L n v with | .inl r => r | .inr _ => X) = true ↔ (∀ i, v ≤ i → i < len → c i = false) ∧ X = true := by
  rcases HE h0 hs n v h with ⟨e, k⟩ | ⟨e, i, k1, k2, k3⟩
  · rw [e]; simp only; exact ⟨fun hx => ⟨k, hx⟩, fun hx => hx.2⟩
  · rw [e]; simp only
    constructor
    · intro hx; cases hx
    · intro hx; rw [hx.1 i k1 k2] at k3; cases k3
theorem EK {L : Nat → Nat → Sum Bool Unit} {len : Nat} {c : Nat → Bool} (h0 : ∀ v, L 0 v = .inr ()) (hs : ∀ n v, L (n + 1) v = (bif decide ((v : Int) < (len : Int)) then (bif c v then .inl true else L n (v + 1)) else .inr ())) (n v : Nat) (h : len < n + v) :
    (match L n v with | .inl r => r | .inr _ => false) = true ↔ ∃ i, v ≤ i ∧ i < len ∧ c i = true := by
  rcases VD (r := fun _ => true) h0 hs n v h with ⟨e, k⟩ | ⟨i, e, k1, k2, k3, k4⟩
  · rw [e]; simp only
    constructor
    · intro hx; cases hx
    · rintro ⟨i, h1, h2, h3⟩; rw [k i h1 h2] at h3; cases h3
  · rw [e]; exact ⟨fun _ => ⟨i, k1, k2, k3⟩, fun _ => rfl⟩
theorem H8 {α : Type} [Inhabited α] {l : List α} {i n : Nat} (h : i < n) : nth (l.take n) i = nth l i := by
  unfold nth; simp [List.getD_eq_getElem?_getD, List.getElem?_take, h]
@[simp] theorem Ms (a0 a1 a2 : Int) : XM a0 a1 a2 = YE a0 a1 a2 := rfl
@[simp] theorem G8 (a0 : List ZV) (a1 : Int) : ∀ (n : Nat) (v0 : Int) (v1 : Nat), JX a0 a1 n v0 v1 = Ji a0 a1 n v0 v1 := by
  intro n
  induction n with
  | zero => intros; rfl
  | succ n ih => intros; simp [JX, Ji, ih, ByteArray.append_assoc]
@[simp] theorem RZ (a0 : List ZV) (a1 : Int) : Yt a0 a1 = YK a0 a1 := by simp [Yt, YK]
@[simp] theorem HT (a0 : Ze) (a1 : Int) : xO a0 a1 = Xh a0 a1 := by simp [xO, Xh]
@[simp] theorem EO (a0 : ZC) (a1 : Int) : ∀ (n : Nat) (v0 : Nat), K1 a0 a1 n v0 = Jx a0 a1 n v0 := by
  intro n
  induction n with
  | zero => intros; rfl
  | succ n ih => intros; simp [K1, Jx, ih, ByteArray.append_assoc]
@[simp] theorem jd (a0 : ZC) (a1 : Int) : Xo a0 a1 = ZX a0 a1 := by simp [Xo, ZX]
@[simp] theorem ES (a0 : ZR) : Q8 a0 = JK a0 := by
  rw [Bool.eq_iff_iff]
  have hs : Q8 a0 = true ↔ _ := (yn (L := Jd a0) (fun _ => rfl) (fun _ _ => rfl) (a0.ZE.length + 1) 0 (by omega) _).trans (and_congr_right fun _ => yn (L := Jg a0) (fun _ => rfl) (fun _ _ => rfl) (a0.ZG.length + 1) 0 (by omega) _)
  rw [hs]
  unfold JK
  have hi : ∀ b : Bool, (bif b then false else (match JW a0 (a0.ZE.length + 1) 0 with | .inl r1 => r1 | .inr _ => true)) = true ↔ b = false ∧ _ := fun b => by
    cases b
    · exact (yn (L := JW a0) (fun _ => rfl) (fun _ _ => rfl) (a0.ZE.length + 1) 0 (by omega) true).trans (by simp only [true_and, and_true]; exact Iff.rfl)
    · simp
  refine Iff.trans ?_ (hi _).symm
  simp only [Ms, Bool.or_eq_false_iff, Bool.not_eq_false', Bool.and_eq_true, beq_iff_eq, bne_eq_false_iff_eq, Bool.not_eq_eq_eq_not, Bool.not_false]
  constructor
  · rintro ⟨h1, h2, h3, h4⟩
    exact ⟨⟨h3, h4⟩, fun i _ hi => ⟨h1 i (Nat.zero_le _) hi, h2 i (Nat.zero_le _) (by omega)⟩⟩
  · rintro ⟨⟨h3, h4⟩, h⟩
    exact ⟨fun i _ hi => (h i (Nat.zero_le _) hi).1, fun i _ hi => (h i (Nat.zero_le _) (by omega)).2, h3, h4⟩
@[simp] theorem AF (a0 : Int) (a1 : Int) : Iy a0 a1 = HN a0 a1 := by simp [Iy, HN]
@[simp] theorem CQ (a0 : List Int) : ∀ (n : Nat) (v0 : Int) (v1 : Nat), Wa a0 n v0 v1 = Wi a0 n v0 v1 := by
  intro n
  induction n with
  | zero => intros; rfl
  | succ n ih => intros; simp [Wa, Wi, ih, ByteArray.append_assoc]
@[simp] theorem BX (a0 : List Int) : OX a0 = Pq a0 := by simp [OX, Pq]
@[simp] theorem Np (a0 : Int) (a1 : List Int) : Qh a0 a1 = Qj a0 a1 := by simp [Qh, Qj]
theorem Uq (a1 : ByteArray) : ∀ (n : Nat) (p l : List Int) (v : Nat), a1.size < n + v → v ≤ a1.size → KV a1 n (p ++ l) v = p ++ Kc a1.data.toList n l v := by
  intro n
  induction n with
  | zero =>
    intro p l v h hv
    omega
  | succ n ih =>
    intro p l v h hv0
    have hs : a1.size = a1.data.toList.length := (Array.length_toList).symm
    rw [KV, Kc, ← hs]
    by_cases hv : v < a1.size
    · rw [show decide ((v : Int) < (a1.size : Int)) = true by simpa using hv]
      simp only [cond_true]
      rw [List.append_assoc, ih p _ (v + 1) (by omega) (by omega)]
      rfl
    · rw [show decide ((v : Int) < (a1.size : Int)) = false by simpa using hv]
      rfl
@[simp] theorem ET (a0 : Int) (a1 : ByteArray) (a2 : Int) : yD a0 a1 a2 = yJ a0 a1 a2 := by
  have := Uq a1 (a1.size + 1) [a2] [] 0 (by omega) (by omega)
  simp only [List.append_nil] at this
  simp only [yD, yJ, yg, this, Np]
  rfl
@[simp] theorem FW (a0 : Int) (a1 : ZR) : ∀ (n : Nat) (v0 : List Int) (v1 : Nat), zE a0 a1 n v0 v1 = zG a0 a1 n v0 v1 := by
  intro n
  induction n with
  | zero => intros; rfl
  | succ n ih => intros; simp [zE, zG, ih, ByteArray.append_assoc]
@[simp] theorem DE (a0 : Int) (a1 : ZR) : zj a0 a1 = zc a0 a1 := by simp [zj, zc]
@[simp] theorem GG (a0 : Int) (a1 : List ZM) : ∀ (n : Nat) (v0 : List Int) (v1 : Nat), Ja a0 a1 n v0 v1 = JU a0 a1 n v0 v1 := by
  intro n
  induction n with
  | zero => intros; rfl
  | succ n ih => intros; simp [Ja, JU, ih, ByteArray.append_assoc]
@[simp] theorem FE (a0 : Int) (a1 : List ZM) : JZ a0 a1 = Jb a0 a1 := by simp [JZ, Jb]
@[simp] theorem Ex (a0 : Za) : zk a0 = zd a0 := by simp [zk, zd]
@[simp] theorem Hl (a1 : ZL) : ∀ (n : Nat) (v0 : List Int) (v1 : Nat), JH a1 n v0 v1 = JC a1 n v0 v1 := by
  intro n
  induction n with
  | zero => intros; rfl
  | succ n ih => intros; simp [JH, JC, ih, ByteArray.append_assoc]
@[simp] theorem Hc (a1 : ZL) : ∀ (n : Nat) (v0 : List Int) (v1 : Nat), QJ a1 n v0 v1 = QI a1 n v0 v1 := by
  intro n
  induction n with
  | zero => intros; rfl
  | succ n ih => intros; simp [QJ, QI, ih, ByteArray.append_assoc]
@[simp] theorem GX (a0 : Int) (a1 : ZL) : J8 a0 a1 = J7 a0 a1 := by simp [J8, J7]
@[simp] theorem G4 (a0 : Int) (a1 : ZI) : ∀ (n : Nat) (v0 : List Int) (v1 : Nat), KZ a0 a1 n v0 v1 = Ke a0 a1 n v0 v1 := by
  intro n
  induction n with
  | zero => intros; rfl
  | succ n ih => intros; simp [KZ, Ke, ih, ByteArray.append_assoc]
@[simp] theorem S3 (a0 : Int) (a1 : ZI) : yV a0 a1 = yQ a0 a1 := by simp [yV, yQ]
@[simp] theorem RH (a0 : Int) (a1 : Int) (a2 : Int) : yE a0 a1 a2 = yR a0 a1 a2 := by simp [yE, yR]
theorem TF (a0 : Int) (a1 : List Int) : ∀ n v i, Kn a0 a1 n v i = Xr a0 a1 n v i
  | 0, _, _ => rfl
  | n + 1, v, i => by simp only [Kn, Xr, TF a0 a1 n, RH]
@[simp] theorem C5 (a0 : Int) (a1 : List Int) : kP a0 a1 = J1 a0 a1 := by simp only [kP, J1, TF]
@[simp] theorem EN (a0 : Int) : ∀ (n : Nat) (v0 : List Int), yN a0 n v0 = yO a0 n v0 := by
  intro n
  induction n with
  | zero => intros; rfl
  | succ n ih => intros; simp [yN, yO, ih, ByteArray.append_assoc]
@[simp] theorem NK (a0 : Int) (a1 : List Int) : qW a0 a1 = qN a0 a1 := by simp [qW, qN]
theorem Wn (a0 : Int) (a1 : List ZI) : ∀ n v i, xN a0 a1 n v i = Q7 a0 a1 n v i
  | 0, _, _ => rfl
  | n + 1, v, i => by simp only [xN, Q7, Wn a0 a1 n, S3]
@[simp] theorem Da (a0 : Int) (a1 : List ZI) : qD a0 a1 = Qt a0 a1 := by
  simp only [qD, Qt, Wn, NK]
@[simp] theorem FC (a0 : ZC) (a2 : List Int) : ∀ (n : Nat) (v0 : Nat) (v1 : List ZI), Xq a0 a2 n v0 v1 = Yr a0 a2 n v0 v1 := by
  intro n
  induction n with
  | zero => intros; rfl
  | succ n ih => intros; simp [Xq, Yr, ih, ByteArray.append_assoc]
@[simp] theorem WK (a0 : ZC) (a1 : Int) (a2 : List Int) (a3 : Int) : Yg a0 a1 a2 a3 = YH a0 a1 a2 a3 := by simp [Yg, YH]
@[simp] theorem Cb (a0 : Int) : Ur a0 = TD a0 := rfl
@[simp] theorem Eb (a0 a1 : List Int) : jL a0 a1 = decide (a0 = a1) := CW (F := y8 a0 a1) (c := fun i => (nth a0 i) != (nth a1 i)) (fun i => by simp [bne, Bool.beq_eq_decide_eq]) (fun _ => rfl) (fun _ _ => rfl)
@[simp] theorem DQ (a0 a1 : List Int) : jC a0 a1 = decide (a0 = a1) := CW (F := yv a0 a1) (c := fun i => (nth a0 i) != (nth a1 i)) (fun i => by simp [bne, Bool.beq_eq_decide_eq]) (fun _ => rfl) (fun _ _ => rfl)
@[simp] theorem EH (a0 a1 : ZM) : KJ a0 a1 = decide (a0 = a1) := by
  obtain ⟨t, p, s⟩ := a0; obtain ⟨t', p', s'⟩ := a1
  by_cases h1 : t = t' <;> by_cases h2 : p = p' <;> by_cases h3 : s = s' <;> simp_all [KJ]
@[simp] theorem Fz (a0 a1 : ZM) : KA a0 a1 = decide (a0 = a1) := by
  obtain ⟨t, p, s⟩ := a0; obtain ⟨t', p', s'⟩ := a1
  by_cases h1 : t = t' <;> by_cases h2 : p = p' <;> by_cases h3 : s = s' <;> simp_all [KA]
theorem kv (a0 : Zf) {k : Nat} (hk : k < a0.ZS.length) : decide (zp a0 (nth a0.ZS k) < (k : Int)) = qL (a0.ZS.take k) (nth a0.ZS k) := by
  rw [Bool.eq_iff_iff]
  have hi : qL (a0.ZS.take k) (nth a0.ZS k) = true ↔ _ := EK (L := xw (a0.ZS.take k) (nth a0.ZS k)) (fun _ => rfl) (fun _ _ => rfl) _ 0 (by omega)
  rw [hi]
  unfold zp
  have hl : (a0.ZS.take k).length = k := by simp; omega
  rw [hl]
  rcases VD (L := xA a0 (nth a0.ZS k)) (r := fun i => (i : Int)) (fun _ => rfl) (fun _ _ => rfl) (a0.ZS.length + 1) 0 (by omega) with ⟨e, p⟩ | ⟨i, e, p1, p2, p3, p4⟩
  · have := p k (Nat.zero_le _) hk
    simp at this
  · rw [e]
    simp only [decide_eq_true_eq]
    constructor
    · intro h
      exact ⟨i, Nat.zero_le _, by omega, by rw [H8 (by omega)]; simpa using p3⟩
    · rintro ⟨j, _, hj, hc⟩
      rw [H8 hj] at hc
      rcases Nat.lt_or_ge j i with h | h
      · have := p4 j (Nat.zero_le _) h; simp at this hc; exact absurd hc this
      · omega
@[simp] theorem DX (a0 : Zf) : zV a0 = zU a0 := by
  rw [Bool.eq_iff_iff]
  have hs : zV a0 = true ↔ _ := (yn (L := Kv a0) (fun _ => rfl) (fun _ _ => rfl) (a0.ZS.length + 1) 0 (by omega) _).trans (and_congr_right fun _ => yn (L := Kw a0) (fun _ => rfl) (fun _ _ => rfl) (a0.Zj.length + 1) 0 (by omega) _)
  rw [hs]
  unfold zU
  have hi : ∀ b : Bool, (bif b then false else (match Kx a0 (a0.ZS.length + 1) 0 with | .inl r1 => r1 | .inr _ => (match K0 a0 (a0.Zj.length + 1) 0 with | .inl r2 => r2 | .inr _ => true))) = true ↔ b = false ∧ _ := fun b => by
    cases b
    · exact ((yn (L := Kx a0) (fun _ => rfl) (fun _ _ => rfl) (a0.ZS.length + 1) 0 (by omega) _).trans (and_congr_right fun _ => yn (L := K0 a0) (fun _ => rfl) (fun _ _ => rfl) (a0.Zj.length + 1) 0 (by omega) true)).trans (by simp only [true_and, and_true]; exact Iff.rfl)
    · simp
  refine Iff.trans ?_ (hi _).symm
  simp only [Ms, Bool.or_eq_false_iff, Bool.not_eq_false', Bool.and_eq_true, Bool.not_eq_eq_eq_not, Bool.not_false]
  constructor
  · rintro ⟨h1, h2, h3, h4⟩
    exact ⟨⟨h3, by simpa using h4⟩, fun i hz hi => by rw [← kv a0 hi]; exact h1 i hz hi, fun i hz hi => by simpa using h2 i hz hi⟩
  · rintro ⟨⟨h3, h4⟩, h1, h2⟩
    exact ⟨fun i hz hi => by rw [kv a0 hi]; exact h1 i hz hi, fun i hz hi => by simpa using h2 i hz hi, h3, by simpa using h4⟩
@[simp] theorem Gi (a0 : Zb) : Qx a0 = Qy a0 := by simp [Qx, Qy]
@[simp] theorem DV (a0 : Zb) : zb a0 = za a0 := by simp [zb, za]
@[simp] theorem CG (a0 : ZI) : jk a0 = kA a0 := by simp [jk, kA]
@[simp] theorem Gg (a0 : Z1) : ∀ (n : Nat) (v0 : Nat), Xs a0 n v0 = Xu a0 n v0 := by
  intro n
  induction n with
  | zero => intros; rfl
  | succ n ih => intros; simp [Xs, Xu, ih, ByteArray.append_assoc]
@[simp] theorem Td (a0 : Z1) (a1 : Int) : QU a0 a1 = XK a0 a1 := by simp [QU, XK]
@[simp] theorem Fj (a0 : ZC) : ∀ (n : Nat) (v0 : Nat), zA a0 n v0 = K7 a0 n v0 := by
  intro n
  induction n with
  | zero => intros; rfl
  | succ n ih => intros; simp [zA, K7, ih, ByteArray.append_assoc]
@[simp] theorem OJ (a0 : ZC) : QV a0 = JG a0 := by simp [QV, JG]
theorem U5 {l : List ZI} {i : Nat} (h : i < l.length) : l.drop i = nth l i :: l.drop (i + 1) := by
  rw [List.drop_eq_getElem_cons h]; simp [nth, List.getD_eq_getElem?_getD, List.getElem?_eq_getElem h]
theorem CM (a0 : ZC) (a1 : ZI) : ∀ (m i : Nat) (l : List ZI), a0.ZF.length < m + i → i ≤ a0.ZF.length → Y8 a0 a1 m true i l = (true, l ++ a0.ZF.drop i)
  | 0, i, l, h, hi => by omega
  | m + 1, i, l, h, hi => by
    simp only [Y8]
    cases hc : decide ((↑i : Int) < (↑a0.ZF.length : Int)) with
    | false =>
      have : ¬ i < a0.ZF.length := by simpa using hc
      simp only [cond_false]; rw [List.drop_eq_nil_of_le (by omega)]; simp
    | true =>
      have hlt : i < a0.ZF.length := by simpa using hc
      simp only [cond_true, Bool.not_true, Bool.false_and, cond_false]
      rw [CM a0 a1 m (i + 1) _ (by omega) hlt, U5 hlt]; simp
theorem CK (a0 : ZC) (a1 : ZI) (hne : ∀ k, k < a0.ZF.length → (nth a0.ZF k).Id ≠ a1.Id) : ∀ (m i : Nat) (l : List ZI), a0.ZF.length < m + i → i ≤ a0.ZF.length →
    i ≤ YU a0 a1 m i ∧ YU a0 a1 m i ≤ a0.ZF.length ∧
    Y8 a0 a1 m false i l = (bif decide (YU a0 a1 m i < a0.ZF.length) then (true, l ++ (a0.ZF.take (YU a0 a1 m i)).drop i ++ [a1] ++ a0.ZF.drop (YU a0 a1 m i)) else (false, l ++ a0.ZF.drop i))
  | 0, i, l, h, hi => by omega
  | m + 1, i, l, h, hi => by
    by_cases hlt : i < a0.ZF.length
    · have hc : decide ((↑i : Int) < (↑a0.ZF.length : Int)) = true := by simpa using hlt
      have hn := hne i hlt
      by_cases hid : a1.Id < (nth a0.ZF i).Id
      · have e1 : YU a0 a1 (m + 1) i = i := by
          simp only [YU, hc, show decide ((nth a0.ZF i).Id < a1.Id) = false by simp; omega, Bool.true_and, cond_false]
        rw [e1]
        refine ⟨Nat.le_refl _, by omega, ?_⟩
        simp only [Y8, hc, show decide (a1.Id < (nth a0.ZF i).Id) = true by simpa using hid, Bool.not_false, Bool.true_and, cond_true]
        rw [CM a0 a1 m (i + 1) _ (by omega) hlt, show decide (i < a0.ZF.length) = true by simpa using hlt, U5 hlt, List.drop_eq_nil_of_le (as := a0.ZF.take i) (by rw [List.length_take]; omega)]
        simp
      · have h2 : (nth a0.ZF i).Id < a1.Id := by omega
        have e1 : YU a0 a1 (m + 1) i = YU a0 a1 m (i + 1) := by
          simp only [YU, hc, show decide ((nth a0.ZF i).Id < a1.Id) = true by simpa using h2, Bool.true_and, cond_true]
        rw [e1]
        obtain ⟨k1, k2, k3⟩ := CK a0 a1 hne m (i + 1) (l ++ [nth a0.ZF i]) (by omega) hlt
        refine ⟨by omega, k2, ?_⟩
        simp only [Y8, hc, show decide (a1.Id < (nth a0.ZF i).Id) = false by simpa using hid, Bool.not_false, Bool.true_and, cond_true, cond_false]
        rw [k3]
        have ht : (a0.ZF.take (YU a0 a1 m (i + 1))).drop i = nth a0.ZF i :: (a0.ZF.take (YU a0 a1 m (i + 1))).drop (i + 1) := by
          have hl2 : i < (a0.ZF.take (YU a0 a1 m (i + 1))).length := by simp; omega
          rw [U5 hl2]
          congr 1
          simp only [nth, List.getD_eq_getElem?_getD]
          rw [List.getElem?_take_of_lt (by omega)]
        rw [ht, U5 hlt]
        cases decide (YU a0 a1 m (i + 1) < a0.ZF.length) <;> simp
    · have hc : decide ((↑i : Int) < (↑a0.ZF.length : Int)) = false := by simpa using hlt
      have e1 : YU a0 a1 (m + 1) i = i := by simp only [YU, hc, Bool.false_and, cond_false]
      rw [e1]
      refine ⟨Nat.le_refl _, by omega, ?_⟩
      simp only [Y8, hc, cond_false]
      rw [show decide (i < a0.ZF.length) = false by simpa using hlt, List.drop_eq_nil_of_le (as := a0.ZF.take i) (by rw [List.length_take]; omega)]; simp; omega
theorem Sx {a0 : ZC} {s : Int} (h : ZX a0 s < 0) : ∀ k, k < a0.ZF.length → (nth a0.ZF k).Id ≠ s := by
  unfold ZX at h
  intro k hk
  rcases VD (β := Int) (L := Jx a0 s) (len := a0.ZF.length) (c := fun v => (nth a0.ZF v).Id == s) (r := fun v => (v : Int)) (fun _ => rfl) (fun _ _ => rfl) (a0.ZF.length + 1) 0 (by omega) with ⟨e, h2⟩ | ⟨i, e, _, _, hc, _⟩
  · simpa using h2 k (Nat.zero_le _) hk
  · rw [e] at h; simp at h; omega
@[simp] theorem LY (a0 : ZC) (a1 : ZI) : KD a0 a1 = X4 a0 a1 := by
  simp only [KD, X4, OJ, jd]
  rw [Bool.or_comm]
  cases hc : (decide (ZX a0 a1.Id ≥ 0) || !JG a0) with
  | true => rfl
  | false =>
    have hf : ZX a0 a1.Id < 0 := by simp at hc; exact hc.1
    obtain ⟨_, k2, k3⟩ := CK a0 a1 (Sx hf) (a0.ZF.length + 1) 0 [] (by omega) (Nat.zero_le _)
    simp only [cond_false]
    rw [k3]
    generalize YU a0 a1 (a0.ZF.length + 1) 0 = z at k2 ⊢
    by_cases hz : z < a0.ZF.length
    · rw [show decide (z < a0.ZF.length) = true by simpa using hz]
      simp
    · rw [show decide (z < a0.ZF.length) = false by simpa using hz]
      have hz' : z = a0.ZF.length := by omega
      subst hz'
      simp
theorem SZ (a1 : Z1) (n v : Nat) (d : Int) (l : List ZI) : (Yw a1 (n + 1) false v d l).1 = false := by
  simp only [Yw, Bool.and_false, YR]
theorem SV (a0 : ZC) (a1 : Z1) : ∀ n v d l, a1.ZF.length < n + v → v ≤ a1.ZF.length →
    (∃ z, Yx a0 a1 n v d l = .inr z ∧ Yw a1 n true v d l = (true, z)) ∨ (Yx a0 a1 n v d l = .inl (a0, false) ∧ (Yw a1 n true v d l).1 = false)
  | 0, v, d, l, h1, h2 => by omega
  | n + 1, v, d, l, h1, h2 => by
    simp only [Yw, Yx, Bool.and_true, LY]
    by_cases hi : v < a1.ZF.length
    · rw [show decide ((v : Int) < (a1.ZF.length : Int)) = true by simpa using hi, Ye, Ye]
      cases hb : (X4 (ZC.mk d l) (nth a1.ZF v)).2
      · obtain ⟨m, rfl⟩ : ∃ m, n = m + 1 := ⟨n - 1, by omega⟩
        exact .inr ⟨rfl, SZ _ _ _ _ _⟩
      · exact SV a0 a1 n (v + 1) _ _ (by omega) hi
    · rw [show decide ((v : Int) < (a1.ZF.length : Int)) = false by simpa using hi, YR, YR]
      exact .inl ⟨_, rfl, rfl⟩
@[simp] theorem U6 (a0 : ZC) (a1 : Z1) (a2 : Int) : Y5 a0 a1 a2 = YV a0 a1 a2 := by
  unfold Y5 YV
  simp only [Td]
  have hc : ((!(XK a1 a2)) || (a1.To != a0.Id)) = !((XK a1 a2) && (a1.To == a0.Id)) := by
    cases XK a1 a2 <;> simp [bne]
  rw [hc]
  cases (XK a1 a2) && (a1.To == a0.Id) with
  | false =>
    have := SZ a1 a1.ZF.length 0 a0.Id a0.ZF
    cases hs : Yw a1 (a1.ZF.length + 1) false 0 a0.Id a0.ZF with
    | mk b z => obtain ⟨z1, z2⟩ := z; rw [hs] at this; simp only at this; subst this; rfl
  | true =>
    rcases SV a0 a1 (a1.ZF.length + 1) 0 a0.Id a0.ZF (by omega) (Nat.zero_le _) with ⟨z, h1, h2⟩ | ⟨h1, h2⟩
    · rw [h1, h2]
    · rw [h1]
      cases hs : Yw a1 (a1.ZF.length + 1) true 0 a0.Id a0.ZF with
      | mk b z => obtain ⟨z1, z2⟩ := z; rw [hs] at h2; simp only at h2; subst h2; rfl
theorem TZ (a0 : ZC) (a1 : Int) (k : Nat) (hk : ZX a0 a1 = (k : Int)) (hkl : k < a0.ZF.length) : ∀ n v l, v ≤ a0.ZF.length → a0.ZF.length < n + v →
    QR a0 a1 n v l = l ++ (if v ≤ k then (a0.ZF.take k).drop v ++ a0.ZF.drop (k + 1) else a0.ZF.drop v)
  | 0, v, l, h1, h2 => by omega
  | n + 1, v, l, h1, h2 => by
    rw [QR]
    simp only [jd, hk]
    by_cases hv : v < a0.ZF.length
    · rw [show decide ((v : Int) < (a0.ZF.length : Int)) = true by simpa using hv, Ye]
      by_cases hvk : v = k
      · subst hvk
        rw [show ((v : Int) != (v : Int)) = false by simp, YR, TZ a0 a1 v hk hkl n (v + 1) l hv (by omega), if_neg (by omega), if_pos (Nat.le_refl _)]
        rw [show (a0.ZF.take v).drop v = [] from List.drop_eq_nil_of_le (by rw [List.length_take]; omega), List.nil_append]
      · have hne : ((v : Int) != (k : Int)) = true := by simp; omega
        rw [hne, Ye, TZ a0 a1 k hk hkl n (v + 1) _ hv (by omega)]
        by_cases hlt : v < k
        · rw [if_pos (by omega), if_pos (by omega)]
          have ht : (a0.ZF.take k).drop v = nth a0.ZF v :: (a0.ZF.take k).drop (v + 1) := by
            rw [T3 (l := a0.ZF.take k) (i := v) (by rw [List.length_take]; omega)]
            congr 1
            simp [nth, List.getD_eq_getElem?_getD, List.getElem?_take, hlt]
          rw [ht]; simp
        · rw [if_neg (by omega), if_neg (by omega), T3 hv]; simp
    · rw [show decide ((v : Int) < (a0.ZF.length : Int)) = false by simpa using hv, YR, if_neg (by omega), List.drop_eq_nil_of_le (by omega), List.append_nil]
theorem Nb (a0 : ZC) (a1 : Int) (h : Sm maxLen a0) : JM a0 a1 = XS a0 a1 := by
  unfold JM XS
  simp only [jd]
  by_cases hk : ZX a0 a1 < 0
  · rw [decide_eq_true hk, Ye, Ye]
  · rw [decide_eq_false hk, YR, YR]
    have hf := X8 a0 a1
    have hl := zM (ZC.YW h)
    have hm : maxLen = 9223372036854775807 := by decide
    have w : W ((ZX a0 a1) + 1) = (ZX a0 a1) + 1 := ZT (by omega) (by omega)
    rw [w, TZ a0 a1 (ZX a0 a1).toNat (by omega) (by omega) (a0.ZF.length + 1) 0 [] (Nat.zero_le _) (by omega), if_pos (Nat.zero_le _), show ((ZX a0 a1) + 1).toNat = (ZX a0 a1).toNat + 1 by omega]
    simp
theorem Mf (a0 a1 : ZC) (a2 : List Int) (a3 : Int) (n v : Nat) (d : Int) (l : List ZI) : (XL a0 a1 a2 a3 (n + 1) false v d l).1 = false := by
  simp only [XL, Bool.and_false, YR]
theorem Mr (a0 a1 : ZC) (a2 : List Int) (a3 : Int) (hm : (YH a0 a1.Id a2 a3).2 = true) : ∀ n v d l, Sm maxLen (ZC.mk d l) → a2.length < n + v → v ≤ a2.length →
    (∃ z, Yy a0 a1 a2 n v d l = .inr z ∧ XL a0 a1 a2 a3 n true v d l = (true, z)) ∨ (Yy a0 a1 a2 n v d l = .inl (a0, a1, false) ∧ (XL a0 a1 a2 a3 n true v d l).1 = false)
  | 0, v, d, l, _, h1, h2 => by omega
  | n + 1, v, d, l, hs, h1, h2 => by
    simp only [XL, Yy, Bool.and_true, WK, hm, Nb _ _ hs]
    by_cases hi : v < a2.length
    · rw [show decide ((v : Int) < (a2.length : Int)) = true by simpa using hi, Ye, Ye]
      cases hb : (XS (ZC.mk d l) (nth a2 v)).2
      · obtain ⟨m, rfl⟩ : ∃ m, n = m + 1 := ⟨n - 1, by omega⟩
        exact .inr ⟨rfl, Mf _ _ _ _ _ _ _ _⟩
      · exact Mr a0 a1 a2 a3 hm n (v + 1) _ _ (VX (by decide) hs) (by omega) hi
    · rw [show decide ((v : Int) < (a2.length : Int)) = false by simpa using hi, YR, YR]
      exact .inl ⟨_, rfl, rfl⟩
theorem PZ (a0 a1 : ZC) (a2 : List Int) (a3 : Int) (h : Sm maxLen a0) : Y7 a0 a1 a2 a3 = YG a0 a1 a2 a3 := by
  unfold Y7 YG
  simp only [WK, U6]
  cases hm : (YH a0 a1.Id a2 a3).2 with
  | false =>
    rw [show (!false) = true from rfl, Bool.true_or, Ye]
    generalize XL a0 a1 a2 a3 (a2.length + 1) (YV a1 (YH a0 a1.Id a2 a3).1 a3).2 0 a0.Id a0.ZF = q
    obtain ⟨b, z1, z2⟩ := q
    rfl
  | true =>
    cases ha : (YV a1 (YH a0 a1.Id a2 a3).1 a3).2 with
    | false =>
      have := Mf a0 a1 a2 a3 a2.length 0 a0.Id a0.ZF
      cases hs : XL a0 a1 a2 a3 (a2.length + 1) false 0 a0.Id a0.ZF with
      | mk b z => obtain ⟨z1, z2⟩ := z; rw [hs] at this; simp only at this; subst this; rfl
    | true =>
      rcases Mr a0 a1 a2 a3 hm (a2.length + 1) 0 a0.Id a0.ZF h (by omega) (Nat.zero_le _) with ⟨z, h1, h2⟩ | ⟨h1, h2⟩
      · rw [h1, h2]
      · rw [h1]
        cases hs : XL a0 a1 a2 a3 (a2.length + 1) true 0 a0.Id a0.ZF with
        | mk b z => obtain ⟨z1, z2⟩ := z; rw [hs] at h2; simp only at h2; subst h2; rfl
theorem GN (a0 a1 : ZC) (a2 : List Int) (a3 : Int) (h : (YG a0 a1 a2 a3).2.2 = false) : YG a0 a1 a2 a3 = (a0, a1, false) := by
  unfold YG at h ⊢
  cases hc : ((!(YH a0 a1.Id a2 a3).2) || (!(YV a1 (YH a0 a1.Id a2 a3).1 a3).2)) with
  | true => rfl
  | false =>
    rw [hc, YR] at h
    rw [YR]
    have hk : ∀ n v d l r, Yy a0 a1 a2 n v d l = .inl r → r = (a0, a1, false) := by
      intro n
      induction n with
      | zero => intro v d l r h; cases h
      | succ n ih =>
        intro v d l r h
        rw [Yy] at h
        revert h
        exact YS (p := fun w => w = Sum.inl r → r = (a0, a1, false)) (YS (p := fun w => w = Sum.inl r → r = (a0, a1, false)) (fun h => by cases h; rfl) (fun h => ih _ _ _ _ h)) (fun h => by cases h)
    cases hs : Yy a0 a1 a2 (a2.length + 1) 0 a0.Id a0.ZF with
    | inl r => exact hk _ _ _ _ _ hs
    | inr z => rw [hs] at h; obtain ⟨z1, z2⟩ := z; cases h
theorem Ls {α : Type} [Inhabited α] (l : List α) (i : Nat) : l.set i (nth l i) = l := by
  by_cases h : i < l.length
  · have : nth l i = l[i] := by simp [nth, List.getD_eq_getElem?_getD, List.getElem?_eq_getElem h]
    rw [this, List.set_getElem_self]
  · exact List.set_eq_of_length_le (by omega)
@[simp] theorem DW (a0 : Ze) (a1 a2 a3 : Int) (h : Sm maxLen a0) : Xj a0 a1 a2 a3 = Zx a0 a1 a2 a3 := by
  unfold Xj Zx
  simp only [HT, RZ, PZ _ _ _ _ (Yl (Ze.Jo h))]
  cases ((((!(Xh a0 a1)) || (!(Xh a0 a2))) || (a1 == a2)) || (decide ((YK a0.Frame.Methods a0.Frame.Now) < 0))) with
  | true => rfl
  | false =>
    rw [YR, YR]
    cases hb : (YG (nth a0.ZH a1.toNat) (nth a0.ZH a2.toNat) ([a3] : List Int) (YK a0.Frame.Methods a0.Frame.Now)).2.2 with
    | true => rfl
    | false =>
      rw [GN _ _ _ _ hb, YR]
      simp only [Ls]
theorem Cg (a0 : Ze) (i k : Nat) (x y : ZC) : cn (Ze.mk a0.Frame a0.Zy a0.Z6 ((a0.ZH.set i x).set k y) a0.XC a0.Yq a0.Next a0.Ym) ≤ cn a0 + cn x + cn y := by
  have h1 := LV (cn : ZC → Nat) a0.ZH i x
  have h2 := LV (cn : ZC → Nat) (a0.ZH.set i x) k y
  simp only [Ze.Ya, Qm (x := a0.ZH), Qm (x := (a0.ZH.set i x).set k y), Y3]
  omega
theorem NA (a0 : ZC) (a1 : ZI) : cn (X4 a0 a1).1 ≤ cn a0 + cn a1 := by
  unfold X4
  refine YS (p := fun (r : ZC × Bool) => cn r.1 ≤ cn a0 + cn a1) (by show cn a0 ≤ _; omega) ?_
  simp only
  refine YS (p := fun (r : ZC × Bool) => cn r.1 ≤ cn a0 + cn a1) (by show cn a0 ≤ _; omega) ?_
  generalize YU a0 a1 (a0.ZF.length + 1) 0 = z
  have h := yj (cn : ZI → Nat) (a0.ZF.take z) (a0.ZF.drop z)
  rw [List.take_append_drop] at h
  simp only [ZC.Ya, Qm, yj, cnL] at h ⊢
  omega
theorem Wz (a0 : ZC) : cn a0 = 1 + cnL cn a0.ZF := rfl
theorem EF (a0 : ZC) : a0.ZF.length ≤ cn a0 := by
  have := DL (c := (cn : ZI → Nat)) (fun x => by rw [ZI.Ya]; simp only [Y3]; omega) a0.ZF
  rw [Wz]; omega
theorem NV (a0 : ZC) (a1 : Int) (hb : cn a0 ≤ 1152921504606846976) : cn (XS a0 a1).1 ≤ cn a0 := by
  unfold XS
  by_cases hk : ZX a0 a1 < 0
  · rw [decide_eq_true hk]; exact Nat.le_refl _
  · rw [decide_eq_false hk, YR]
    have hf := X8 a0 a1
    have hl := EF a0
    have w : W ((ZX a0 a1) + 1) = (ZX a0 a1) + 1 := ZT (by omega) (by omega)
    rw [w, show ((ZX a0 a1) + 1).toNat = (ZX a0 a1).toNat + 1 by omega]
    have h1 := yj (cn : ZI → Nat) (a0.ZF.take (ZX a0 a1).toNat) (a0.ZF.drop (ZX a0 a1).toNat)
    rw [List.take_append_drop, M3 cn (l := a0.ZF) (i := (ZX a0 a1).toNat) (by omega)] at h1
    show 1 + cnL cn (a0.ZF.take (ZX a0 a1).toNat ++ a0.ZF.drop ((ZX a0 a1).toNat + 1)) ≤ 1 + cnL cn a0.ZF
    rw [yj]; omega
theorem MQ (a0 : ZC) (a2 : List Int) : ∀ n v l, (∀ r, Yr a0 a2 n v l = .inl r → r = (Z1.mk 0 0 [] 0, false)) ∧ ∀ z, Yr a0 a2 n v l = .inr z → cnL cn z ≤ cnL cn l + (a2.length - v) * (cn a0 + 200)
  | 0, v, l => ⟨fun r h => (by cases h), fun z h => (by cases h; exact Nat.zero_le _)⟩
  | n + 1, v, l => by
    rw [Yr]
    let p := fun w : Sum (Z1 × Bool) (List ZI) => (∀ r, w = .inl r → r = (Z1.mk 0 0 [] 0, false)) ∧ ∀ z, w = .inr z → cnL cn z ≤ cnL cn l + (a2.length - v) * (cn a0 + 200)
    refine xQ (p := p) (fun hc => ?_) (fun _ => ⟨fun r h => (by cases h), fun z h => (by cases h; exact Nat.le_add_right _ _)⟩)
    have hc : v < a2.length := by simpa using hc
    refine YS (p := p) ⟨fun r h => (by cases h; rfl), fun z h => (by cases h)⟩ ?_
    obtain ⟨k1, k2⟩ := MQ a0 a2 n (v + 1) (l ++ [nth a0.ZF (ZX a0 (nth a2 v)).toNat])
    refine ⟨k1, fun z hz => ?_⟩
    have := k2 z hz
    have hn := Lc (cn : ZI → Nat) a0.ZF (ZX a0 (nth a2 v)).toNat
    have hd : cn (default : ZI) ≤ 200 := Nat.le_of_ble_eq_true rfl
    have hi := Wz a0
    have hm : (a2.length - v) * (cn a0 + 200) = (a2.length - (v + 1)) * (cn a0 + 200) + (cn a0 + 200) := by
      rw [show a2.length - v = (a2.length - (v + 1)) + 1 by omega, Nat.add_mul, Nat.one_mul]
    rw [yj] at this
    simp only [cnL] at this
    omega
theorem Db (a0 : ZC) (a1 : Int) (a2 : List Int) (a3 : Int) : cnL cn (YH a0 a1 a2 a3).1.ZF ≤ a2.length * (cn a0 + 200) := by
  unfold YH
  obtain ⟨k1, k2⟩ := MQ a0 a2 (a2.length + 1) 0 []
  cases hs : Yr a0 a2 (a2.length + 1) 0 [] with
  | inl r => rw [k1 r hs]; exact Nat.zero_le _
  | inr z =>
    have := k2 z hs
    rw [Nat.sub_zero] at this
    simp only [cnL] at this
    dsimp only
    refine YS (p := fun w : Z1 × Bool => cnL cn w.1.ZF ≤ a2.length * (cn a0 + 200)) (Nat.zero_le _) ?_
    show cnL cn z ≤ _
    omega
theorem SY (a0 : ZC) (a1 : Z1) : ∀ n v d l, (∀ r, Yx a0 a1 n v d l = .inl r → r = (a0, false)) ∧ ∀ z, Yx a0 a1 n v d l = .inr z → cnL cn z.2 ≤ cnL cn l + cnL cn (a1.ZF.drop v)
  | 0, v, d, l => ⟨fun r h => (by cases h), fun z h => (by cases h; exact Nat.zero_le _)⟩
  | n + 1, v, d, l => by
    rw [Yx]
    let p := fun w : Sum (ZC × Bool) (Int × List ZI) => (∀ r, w = .inl r → r = (a0, false)) ∧ ∀ z, w = .inr z → cnL cn z.2 ≤ cnL cn l + cnL cn (a1.ZF.drop v)
    refine xQ (p := p) (fun hc => ?_) (fun _ => ⟨fun r h => (by cases h), fun z h => (by cases h; exact Nat.le_add_right _ _)⟩)
    have hc : v < a1.ZF.length := by simpa using hc
    refine YS (p := p) ⟨fun r h => (by cases h; rfl), fun z h => (by cases h)⟩ ?_
    obtain ⟨k1, k2⟩ := SY a0 a1 n (v + 1) (X4 (ZC.mk d l) (nth a1.ZF v)).1.Id (X4 (ZC.mk d l) (nth a1.ZF v)).1.ZF
    refine ⟨k1, fun z hz => ?_⟩
    have := k2 z hz
    have ha := NA (ZC.mk d l) (nth a1.ZF v)
    rw [Wz, Wz] at ha
    rw [M3 cn hc]
    simp only at ha
    omega
theorem FX (a0 : ZC) (a1 : Z1) (a2 : Int) : cn (YV a0 a1 a2).1 ≤ cn a0 + cnL cn a1.ZF := by
  unfold YV
  refine YS (p := fun w : ZC × Bool => cn w.1 ≤ cn a0 + cnL cn a1.ZF) (Nat.le_add_right _ _) ?_
  obtain ⟨k1, k2⟩ := SY a0 a1 (a1.ZF.length + 1) 0 a0.Id a0.ZF
  cases hs : Yx a0 a1 (a1.ZF.length + 1) 0 a0.Id a0.ZF with
  | inl r => rw [k1 r hs]; exact Nat.le_add_right _ _
  | inr z =>
    have := k2 z hs
    obtain ⟨z1, z2⟩ := z
    rw [List.drop_zero] at this
    show 1 + cnL cn z2 ≤ _
    rw [Wz]
    simp only at this
    omega
theorem Mv (a0 a1 : ZC) (a2 : List Int) : ∀ n v d l, cn (ZC.mk d l) ≤ 1152921504606846976 → (∀ r, Yy a0 a1 a2 n v d l = .inl r → r = (a0, a1, false)) ∧ ∀ z, Yy a0 a1 a2 n v d l = .inr z → cn (ZC.mk z.1 z.2) ≤ cn (ZC.mk d l)
  | 0, v, d, l, hb => ⟨fun r h => (by cases h), fun z h => (by cases h; show 1 + 0 ≤ 1 + cnL cn l; omega)⟩
  | n + 1, v, d, l, hb => by
    rw [Yy]
    let p := fun w : Sum (ZC × ZC × Bool) (Int × List ZI) => (∀ r, w = .inl r → r = (a0, a1, false)) ∧ ∀ z, w = .inr z → cn (ZC.mk z.1 z.2) ≤ cn (ZC.mk d l)
    have hd := NV (ZC.mk d l) (nth a2 v) hb
    obtain ⟨k1, k2⟩ := Mv a0 a1 a2 n (v + 1) (XS (ZC.mk d l) (nth a2 v)).1.Id (XS (ZC.mk d l) (nth a2 v)).1.ZF (Nat.le_trans hd hb)
    exact YS (p := p) (YS (p := p) ⟨fun r h => (by cases h; rfl), fun z h => (by cases h)⟩ ⟨k1, fun z hz => Nat.le_trans (k2 z hz) hd⟩) ⟨fun r h => (by cases h), fun z h => (by cases h; exact Nat.le_refl _)⟩
theorem Dq (a0 a1 : ZC) (a2 : List Int) (a3 : Int) (hb : cn a0 ≤ 1152921504606846976) : cn (YG a0 a1 a2 a3).1 ≤ cn a0 ∧ cn (YG a0 a1 a2 a3).2.1 ≤ cn a1 + a2.length * (cn a0 + 200) := by
  have hto : cn (YV a1 (YH a0 a1.Id a2 a3).1 a3).1 ≤ cn a1 + a2.length * (cn a0 + 200) :=
    Nat.le_trans (FX _ _ _) (Nat.add_le_add_left (Db _ _ _ _) _)
  unfold YG
  let p := fun (r : ZC × ZC × Bool) => cn r.1 ≤ cn a0 ∧ cn r.2.1 ≤ cn a1 + a2.length * (cn a0 + 200)
  refine YS (p := p) ⟨Nat.le_refl _, Nat.le_add_right _ _⟩ ?_
  obtain ⟨k1, k2⟩ := Mv a0 a1 a2 (a2.length + 1) 0 a0.Id a0.ZF hb
  cases hs : Yy a0 a1 a2 (a2.length + 1) 0 a0.Id a0.ZF with
  | inl r => rw [k1 r hs]; exact ⟨Nat.le_refl _, Nat.le_add_right _ _⟩
  | inr z => exact ⟨k2 z hs, hto⟩
theorem Nv (a0 : Ze) (a1 a2 a3 : Int) (h : cn a0 ≤ 33554464) : cn (Zx a0 a1 a2 a3).1 ≤ 1152921504606846976 := by
  unfold Zx
  refine YS (p := fun r : Ze × Bool => cn r.1 ≤ 1152921504606846976) (by show cn a0 ≤ _; omega) ?_
  refine YS (p := fun r : Ze × Bool => cn r.1 ≤ 1152921504606846976) ?_ (by show cn a0 ≤ _; omega)
  have hA : ∀ i, cn (nth a0.ZH i) ≤ cn a0 + 1 := fun i => by
    have := Lc (cn : ZC → Nat) a0.ZH i
    have hd : cn (default : ZC) = 1 := rfl
    rw [Ze.Ya, Qm (x := a0.ZH)]; omega
  have h1 := hA a1.toNat
  have h2 := hA a2.toNat
  have hm := Dq (nth a0.ZH a1.toNat) (nth a0.ZH a2.toNat) [a3] (YK a0.Frame.Methods a0.Frame.Now) (by omega)
  have hs := Cg a0 a1.toNat a2.toNat (YG (nth a0.ZH a1.toNat) (nth a0.ZH a2.toNat) ([a3] : List Int) (YK a0.Frame.Methods a0.Frame.Now)).1 (YG (nth a0.ZH a1.toNat) (nth a0.ZH a2.toNat) ([a3] : List Int) (YK a0.Frame.Methods a0.Frame.Now)).2.1
  refine Nat.le_trans hs ?_
  have e1 : ([a3] : List Int).length = 1 := rfl
  rw [e1, Nat.one_mul] at hm
  omega
end Go.Mo
