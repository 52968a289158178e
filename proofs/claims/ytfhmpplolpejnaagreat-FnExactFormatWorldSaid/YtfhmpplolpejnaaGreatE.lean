/- The models of the program and of the reference agree. No condition. -/
import Derived.Test.YtfhmpplolpejnaaGreatL
namespace Go.Mo
open Go.Vm
set_option linter.unusedSimpArgs false
set_option linter.unusedVariables false
theorem cond_neg (x : Int) {α : Type} (a b : α) : (bif decide (x < 0) then a else b) = (bif decide (0 ≤ x) then b else a) := by
  by_cases h : x < 0
  · rw [show decide (x < 0) = true by simpa using h, show decide (0 ≤ x) = false by simpa using h]; rfl
  · rw [show decide (x < 0) = false by simpa using h, show decide (0 ≤ x) = true by simp; omega]; rfl
/-- a loop that looks whether one of the places is bad -/
theorem ZQ8 {L : Nat → Nat → Sum Bool Unit} {len : Nat} {c : Nat → Bool} (h0 : ∀ v, L 0 v = .inr ()) (hs : ∀ n v, L (n + 1) v = (bif decide ((v : Int) < (len : Int)) then (bif c v then .inl false else L n (v + 1)) else .inr ())) :
    ∀ n v, len < n + v → (L n v = .inr () ∧ ∀ i, v ≤ i → i < len → c i = false) ∨ (L n v = .inl false ∧ ∃ i, v ≤ i ∧ i < len ∧ c i = true)
  | 0, v, h => .inl ⟨h0 v, fun i h1 h2 => by omega⟩
  | n + 1, v, h => by
    rw [hs]
    by_cases hv : v < len
    · rw [show decide ((v : Int) < (len : Int)) = true by simpa using hv]
      cases hc : c v with
      | true => exact .inr ⟨rfl, v, Nat.le_refl _, hv, hc⟩
      | false =>
        rcases ZQ8 h0 hs n (v + 1) (by omega) with ⟨e, k⟩ | ⟨e, i, k1, k2, k3⟩
        · refine .inl ⟨e, fun i h1 h2 => ?_⟩
          rcases Nat.eq_or_lt_of_le h1 with rfl | h1
          · exact hc
          · exact k i h1 h2
        · exact .inr ⟨e, i, by omega, k2, k3⟩
    · rw [show decide ((v : Int) < (len : Int)) = false by simpa using hv]
      exact .inl ⟨rfl, fun i h1 h2 => by omega⟩
/-- a loop that looks for the first place -/
theorem ZN4 {β : Type} {L : Nat → Nat → Sum β Unit} {len : Nat} {c : Nat → Bool} {r : Nat → β} (h0 : ∀ v, L 0 v = .inr ()) (hs : ∀ n v, L (n + 1) v = (bif decide ((v : Int) < (len : Int)) then (bif c v then .inl (r v) else L n (v + 1)) else .inr ())) :
    ∀ n v, len < n + v → (L n v = .inr () ∧ ∀ i, v ≤ i → i < len → c i = false) ∨ (∃ i, L n v = .inl (r i) ∧ v ≤ i ∧ i < len ∧ c i = true ∧ ∀ k, v ≤ k → k < i → c k = false)
  | 0, v, h => .inl ⟨h0 v, fun i h1 h2 => by omega⟩
  | n + 1, v, h => by
    rw [hs]
    by_cases hv : v < len
    · rw [show decide ((v : Int) < (len : Int)) = true by simpa using hv]
      cases hc : c v with
      | true => exact .inr ⟨v, rfl, Nat.le_refl _, hv, hc, fun k h1 h2 => by omega⟩
      | false =>
        rcases ZN4 h0 hs n (v + 1) (by omega) with ⟨e, k⟩ | ⟨i, e, k1, k2, k3, k4⟩
        · refine .inl ⟨e, fun i h1 h2 => ?_⟩
          rcases Nat.eq_or_lt_of_le h1 with rfl | h1
          · exact hc
          · exact k i h1 h2
        · refine .inr ⟨i, e, by omega, k2, k3, fun k h1 h2 => ?_⟩
          rcases Nat.eq_or_lt_of_le h1 with rfl | h1
          · exact hc
          · exact k4 k h1 h2
    · rw [show decide ((v : Int) < (len : Int)) = false by simpa using hv]
      exact .inl ⟨rfl, fun i h1 h2 => by omega⟩
/-- the same, as a Boolean -/
theorem kn {L : Nat → Nat → Sum Bool Unit} {len : Nat} {c : Nat → Bool} (h0 : ∀ v, L 0 v = .inr ()) (hs : ∀ n v, L (n + 1) v = (bif decide ((v : Int) < (len : Int)) then (bif c v then .inl false else L n (v + 1)) else .inr ())) (n v : Nat) (h : len < n + v) (X : Bool) :
    (match L n v with | .inl r => r | .inr _ => X) = true ↔ (∀ i, v ≤ i → i < len → c i = false) ∧ X = true := by
  rcases ZQ8 h0 hs n v h with ⟨e, k⟩ | ⟨e, i, k1, k2, k3⟩
  · rw [e]; simp only; exact ⟨fun hx => ⟨k, hx⟩, fun hx => hx.2⟩
  · rw [e]; simp only
    constructor
    · intro hx; cases hx
    · intro hx; rw [hx.1 i k1 k2] at k3; cases k3
theorem ZNw {L : Nat → Nat → Sum Bool Unit} {len : Nat} {c : Nat → Bool} (h0 : ∀ v, L 0 v = .inr ()) (hs : ∀ n v, L (n + 1) v = (bif decide ((v : Int) < (len : Int)) then (bif c v then .inl true else L n (v + 1)) else .inr ())) (n v : Nat) (h : len < n + v) :
    (match L n v with | .inl r => r | .inr _ => false) = true ↔ ∃ i, v ≤ i ∧ i < len ∧ c i = true := by
  rcases ZN4 (r := fun _ => true) h0 hs n v h with ⟨e, k⟩ | ⟨i, e, k1, k2, k3, k4⟩
  · rw [e]; simp only
    constructor
    · intro hx; cases hx
    · rintro ⟨i, h1, h2, h3⟩; rw [k i h1 h2] at h3; cases h3
  · rw [e]; exact ⟨fun _ => ⟨i, k1, k2, k3⟩, fun _ => rfl⟩
theorem ZPJ {α β : Type} [Inhabited α] [Inhabited β] {f : α → β} {l : List α} {i : Nat} (h : i < l.length) : nth (l.map f) i = f (nth l i) := by
  simp [nth, List.getD_eq_getElem?_getD, List.getElem?_eq_getElem h]
@[simp] theorem ZDH (a0 a1 a2 : Int) : YN a0 a1 a2 = ZW a0 a1 a2 := rfl

@[simp] theorem ZDF (a0 a1 : Int) : ZBz a0 a1 = if a1 < a0 then a1 else a0 := by
  unfold ZBz; by_cases h : a1 < a0 <;> simp [h]

theorem ZKk (b : UInt8) (l : List UInt8) : (ByteArray.mk [b].toArray) ++ (ByteArray.mk l.toArray) = ByteArray.mk ((b :: l).toArray) := by
  apply ByteArray.ext
  simp
theorem ZKx : ∀ (n : Nat) (x : Int) (l : List UInt8), x ≠ 0 → (n = 21 ∨ x.natAbs < 10 ^ n) → Q7 (n + 1) ⟨l.toArray⟩ x = ⟨(KC n x l).toArray⟩
  | 0, x, l, hx, h => by
    rcases h with h | h
    · omega
    · simp at h; exact absurd h hx
  | n + 1, x, l, hx, h => by
    have hb : (x != 0) = true := by simpa using hx
    have hn := ZLm (x := x) (n := n) h
    have fin : ∀ w, Q7 (n + 1) w 0 = w := fun w => rfl
    rw [Q7, hb, cond_true, KC]
    cases decide (x.tmod 10 < 0) <;> simp only [cond_true, cond_false]
    · by_cases hz : W (x.tdiv 10) = 0
      · rw [hz, fin, show ((0 : Int) == 0) = true from rfl, cond_true, ZKk]; rfl
      · rw [show (W (x.tdiv 10) == 0) = false by simpa using hz, cond_false, ZKk, ZKx n _ _ hz (.inr hn)]; rfl
    · by_cases hz : W (x.tdiv 10) = 0
      · rw [hz, fin, show ((0 : Int) == 0) = true from rfl, cond_true, ZKk]; rfl
      · rw [show (W (x.tdiv 10) == 0) = false by simpa using hz, cond_false, ZKk, ZKx n _ _ hz (.inr hn)]; rfl
@[simp] theorem jt (a0 : Int) : XT a0 = XJ a0 := by
  unfold XT
  by_cases h : a0 = 0
  · subst h; rfl
  · rw [show (a0 == 0) = false by simpa using h, cond_false]
    have := ZKx 21 a0 [] h (.inl rfl)
    rw [show (⟨#[]⟩ : ByteArray) = ⟨([] : List UInt8).toArray⟩ from rfl, this]
    rfl

@[simp] theorem ZHM (a0 : Z3) : zT a0 = yG a0 := by simp [zT, yG]
@[simp] theorem ZTY (a0 : Zg) : yf a0 = yj a0 := by
  rw [Bool.eq_iff_iff]
  have hs : yf a0 = true ↔ _ := (kn (L := zk a0) (fun _ => rfl) (fun _ _ => rfl) (a0.Yx.length + 1) 0 (by omega) _).trans (and_congr_right fun _ => kn (L := zw a0) (fun _ => rfl) (fun _ _ => rfl) (a0.Xl.length + 1) 0 (by omega) _)
  rw [hs]
  unfold yj
  have hi : ∀ b : Bool, (bif b then false else (match zW a0 (a0.Yx.length + 1) 0 with | .inl r1 => r1 | .inr _ => true)) = true ↔ b = false ∧ _ := fun b => by
    cases b
    · exact (kn (L := zW a0) (fun _ => rfl) (fun _ _ => rfl) (a0.Yx.length + 1) 0 (by omega) true).trans (by simp only [true_and, and_true]; exact Iff.rfl)
    · simp
  refine Iff.trans ?_ (hi _).symm
  simp only [ZDH, Bool.or_eq_false_iff, Bool.not_eq_false', Bool.and_eq_true, beq_iff_eq, bne_eq_false_iff_eq, Bool.not_eq_eq_eq_not, Bool.not_false]
  constructor
  · rintro ⟨h1, h2, h3, h4⟩
    exact ⟨⟨h3, h4⟩, fun i _ hi => ⟨h1 i (Nat.zero_le _) hi, h2 i (Nat.zero_le _) (by omega)⟩⟩
  · rintro ⟨⟨h3, h4⟩, h⟩
    exact ⟨fun i _ hi => (h i (Nat.zero_le _) hi).1, fun i _ hi => (h i (Nat.zero_le _) (by omega)).2, h3, h4⟩

@[simp] theorem ZXN (a0 : Int) (a1 : Int) : ZP8 a0 a1 = ZQk a0 a1 := by simp [ZP8, ZQk]
@[simp] theorem ZVp (a0 : List Int) : ∀ (n : Nat) (v0 : Int) (v1 : Nat), ZE2 a0 n v0 v1 = ZFl a0 n v0 v1 := by
  intro n
  induction n with
  | zero => intros; rfl
  | succ n ih => intros; simp [ZE2, ZFl, ih, ByteArray.append_assoc]
@[simp] theorem ZWk (a0 : List Int) : ZIn a0 = ZIi a0 := by simp [ZIn, ZIi]
@[simp] theorem ZNT (a0 : Int) (a1 : List Int) : Qz a0 a1 = Qq a0 a1 := by simp [Qz, Qq]
theorem ZGy (a1 : ByteArray) : ∀ (n : Nat) (p l : List Int) (v : Nat), a1.size < n + v → v ≤ a1.size → xT a1 n (p ++ l) v = p ++ xk a1.data.toList n l v := by
  intro n
  induction n with
  | zero =>
    intro p l v h hv
    omega
  | succ n ih =>
    intro p l v h hv0
    have hs : a1.size = a1.data.toList.length := (Array.length_toList).symm
    rw [xT, xk, ← hs]
    by_cases hv : v < a1.size
    · rw [show decide ((v : Int) < (a1.size : Int)) = true by simpa using hv]
      simp only [cond_true]
      rw [List.append_assoc, ih p _ (v + 1) (by omega) (by omega)]
      rfl
    · rw [show decide ((v : Int) < (a1.size : Int)) = false by simpa using hv]
      rfl
@[simp] theorem ZTZ (a0 : Int) (a1 : ByteArray) (a2 : Int) : kN a0 a1 a2 = jx a0 a1 a2 := by
  have := ZGy a1 (a1.size + 1) [a2] [] 0 (by omega) (by omega)
  simp only [List.append_nil] at this
  simp only [kN, jx, kv, this, ZNT]
  rfl

@[simp] theorem ZTJ (a0 : Int) (a1 : Zg) : ∀ (n : Nat) (v0 : List Int) (v1 : Nat), qj a0 a1 n v0 v1 = qZ a0 a1 n v0 v1 := by
  intro n
  induction n with
  | zero => intros; rfl
  | succ n ih => intros; simp [qj, qZ, ih, ByteArray.append_assoc]
@[simp] theorem ZK4 (a0 : Int) (a1 : Zg) : xa a0 a1 = xI a0 a1 := by simp [xa, xI]
@[simp] theorem ZSd (a0 : ZN) (a1 : Zg) : ∀ (n : Nat) (v0 : List Int) (v1 : Nat), KP a0 a1 n v0 v1 = KU a0 a1 n v0 v1 := by
  intro n
  induction n with
  | zero => intros; rfl
  | succ n ih => intros; simp [KP, KU, ih, ByteArray.append_assoc]
@[simp] theorem ZTa (a0 : ZN) (a1 : Zg) : yV a0 a1 = K5 a0 a1 := by simp [yV, K5]
@[simp] theorem ZRH (a0 : ZI) (a1 : Zg) : ∀ (n : Nat) (v0 : List (List Int)) (v1 : Nat), Qe a0 a1 n v0 v1 = QV a0 a1 n v0 v1 := by
  intro n
  induction n with
  | zero => intros; rfl
  | succ n ih => intros; simp [Qe, QV, ih, ByteArray.append_assoc]
@[simp] theorem ZGs (a0 : ZI) (a1 : Zg) : Jf a0 a1 = Jo a0 a1 := by simp [Jf, Jo]
@[simp] theorem ZVj (a0 : Int) : qc a0 = zp a0 := rfl

@[simp] theorem ZTf (a0 : Int) : j0 a0 = jk a0 := by simp [j0, jk]
@[simp] theorem ZWV (a0 : YC) : ZH3 a0 = ZHN a0 := by simp [ZH3, ZHN]
@[simp] theorem ZUg (a0 : List YC) : ∀ (n : Nat) (v0 : Nat), ZAY a0 n v0 = ZAU a0 n v0 := by
  intro n
  induction n with
  | zero => intros; rfl
  | succ n ih => intros; simp [ZAY, ZAU, ih, ByteArray.append_assoc]
@[simp] theorem ZVL (a0 : List YC) : ZDC a0 = ZDb a0 := by simp [ZDC, ZDb]
@[simp] theorem ZPv (a0 : List ZE) : ∀ (n : Nat) (v0 : Nat), KL a0 n v0 = KM a0 n v0 := by
  intro n
  induction n with
  | zero => intros; rfl
  | succ n ih => intros; simp [KL, KM, ih, ByteArray.append_assoc]
@[simp] theorem ZRL (a0 : List ZE) : yA a0 = zU a0 := by simp [yA, zU]
@[simp] theorem ZU0 (a0 : Zl) : ZB1 a0 = ZBk a0 := by simp [ZB1, ZBk]
@[simp] theorem ZSX (a0 : List Zl) : ∀ (n : Nat) (v0 : Nat), xQ a0 n v0 = xM a0 n v0 := by
  intro n
  induction n with
  | zero => intros; rfl
  | succ n ih => intros; simp [xQ, xM, ih, ByteArray.append_assoc]
@[simp] theorem ZTg (a0 : List Zl) : kV a0 = jl a0 := by simp [kV, jl]
@[simp] theorem ZPK (a0 : ZF) : ZBZ a0 = ZBX a0 := by simp [ZBZ, ZBX]
@[simp] theorem ZIO (a0 : ZY) : zH a0 = zR a0 := by simp [zH, zR]
@[simp] theorem ZUf (a0 : List YC) (a1 : Int) : ∀ (n : Nat) (v0 : Nat), jQ a0 a1 n v0 = jO a0 a1 n v0 := by
  intro n
  induction n with
  | zero => intros; rfl
  | succ n ih => intros; simp [jQ, jO, ih, ByteArray.append_assoc]
@[simp] theorem ZEV (a0 : List YC) (a1 : Int) : Y0 a0 a1 = Y5 a0 a1 := by simp [Y0, Y5]
@[simp] theorem ZRy (a0 : ZY) : Xv a0 = Xx a0 := by simp [Xv, Xx]
@[simp] theorem ZUV (a0 : Int) (a1 : List Int) : ZAO a0 a1 = ZAb a0 a1 := by simp [ZAO, ZAb]
@[simp] theorem ZUz (a0 : YC) (a1 : List Int) : ke a0 a1 = ZBf a0 a1 := by simp [ke, ZBf]
@[simp] theorem ZFd (a0 : List YC) (a1 : Int) (a2 : List Int) (a3 : Int) : yT a0 a1 a2 a3 = X7 a0 a1 a2 a3 := by
  unfold yT X7 qg
  rw [cond_neg]
  cases h : decide (0 ≤ Y5 a0 a1) <;> simp [h]

@[simp] theorem ZGE (a0 : List YC) (a1 : ZY) : yB a0 a1 = KK a0 a1 := by simp [yB, KK]
@[simp] theorem ZMW (a0 : ZY) : XW a0 = XY a0 := by simp [XW, XY]
@[simp] theorem ZUW (a0 a1 : List Int) : ZCM a0 a1 = decide (a0 = a1) := ZVf (F := ZAK a0 a1) (c := fun i => (nth a0 i) != (nth a1 i)) (fun i => by simp [bne, Bool.beq_eq_decide_eq]) (fun _ => rfl) (fun _ _ => rfl)
@[simp] theorem ZUc (a0 a1 : List Int) : ZCo a0 a1 = decide (a0 = a1) := ZVf (F := ZAA a0 a1) (c := fun i => (nth a0 i) != (nth a1 i)) (fun i => by simp [bne, Bool.beq_eq_decide_eq]) (fun _ => rfl) (fun _ _ => rfl)

@[simp] theorem ZIF (a0 a1 : ZB) : zQ a0 a1 = decide (a0 = a1) := by
  obtain ⟨t, p, s⟩ := a0; obtain ⟨t', p', s'⟩ := a1
  by_cases h1 : t = t' <;> by_cases h2 : p = p' <;> by_cases h3 : s = s' <;> simp_all [zQ]
@[simp] theorem ZDn (a0 a1 : ZB) : zC a0 a1 = decide (a0 = a1) := by
  obtain ⟨t, p, s⟩ := a0; obtain ⟨t', p', s'⟩ := a1
  by_cases h1 : t = t' <;> by_cases h2 : p = p' <;> by_cases h3 : s = s' <;> simp_all [zC]

@[simp] theorem ZTA (a0 : ZN) (a1 : ZB) : ∀ (n : Nat) (v0 : Nat), qe a0 a1 n v0 = qa a0 a1 n v0 := by
  intro n
  induction n with
  | zero => intros; rfl
  | succ n ih => intros; simp [qe, qa, ih, ByteArray.append_assoc]
@[simp] theorem ZMY (a0 : ZN) (a1 : ZB) : xx a0 a1 = xL a0 a1 := by simp [xx, xL]
@[simp] theorem ZQL (a0 : List ZE) (a1 : Int) : ∀ (n : Nat) (v0 : Nat), JX a0 a1 n v0 = JZ a0 a1 n v0 := by
  intro n
  induction n with
  | zero => intros; rfl
  | succ n ih => intros; simp [JX, JZ, ih, ByteArray.append_assoc]
@[simp] theorem ZR7 (a0 : List ZE) (a1 : Int) : YM a0 a1 = YP a0 a1 := by simp [YM, YP]
@[simp] theorem ZCS (a0 : ZD) : Js a0 = YZ a0 := by simp [Js, YZ]
@[simp] theorem ZNj (a0 a1 : Int) : Xo a0 a1 = Jh a0 a1 := by
  have e1 : xF 0 a0 = (if 0 > a0 then 0 else a0) := by unfold xF; rw [Bool.cond_decide]; split <;> split <;> omega
  have e2 : ZBz 10000 a1 = (if 10000 < a1 then 10000 else a1) := by unfold ZBz; rw [Bool.cond_decide]; split <;> split <;> omega
  unfold Xo Jh
  rw [e1, e2]
  have e3 : (decide (a0 > a1) || !YZ (ZD.mk (if 0 > a0 then 0 else a0) (if 10000 < a1 then 10000 else a1))) = decide ((if 0 > a0 then 0 else a0) > (if 10000 < a1 then 10000 else a1)) := by
    rw [Bool.eq_iff_iff]
    simp only [YZ, zp, ZW, Bool.or_eq_true, decide_eq_true_eq, Bool.not_eq_true', Bool.and_eq_false_iff, decide_eq_false_iff_not]
    split <;> split <;> omega
  rw [e3]

@[simp] theorem ZMP (a0 : List ZE) (a1 : Za) : Kw a0 a1 = KA a0 a1 := by simp [Kw, KA]
@[simp] theorem ZUb (a0 : List ZD) (a1 : Int) : ∀ (n : Nat) (v0 : Int) (v1 : Nat), jf a0 a1 n v0 v1 = yH a0 a1 n v0 v1 := by
  intro n
  induction n with
  | zero => intros; rfl
  | succ n ih => intros; simp [jf, yH, ih, ZW, Bool.and_assoc]
@[simp] theorem ZVX (a0 : List ZD) (a1 : Int) : ZDe a0 a1 = kg a0 a1 := by simp [ZDe, kg]

@[simp] theorem ZIP (a0 : List ZD) (a1 : Int) (a2 : Int) : zG a0 a1 a2 = Zw a0 a1 a2 := by simp [zG, Zw]
theorem ZGP (a0 : List ZD) (a1 : Int) : ∀ (n : Nat) (fd : Bool) (v : Nat) (f l : Int), 10001 < n + v → v ≤ 10001 →
    (QX a0 a1 n fd v f l = (fd, f, l) ∧ ∀ t : Nat, v ≤ t → t ≤ 10000 → Zw a0 (t : Int) a1 = false) ∨
    ∃ x y : Nat, v ≤ x ∧ x ≤ y ∧ y ≤ 10000 ∧ Zw a0 (x : Int) a1 = true ∧ Zw a0 (y : Int) a1 = true ∧ (∀ t : Nat, v ≤ t → t < x → Zw a0 (t : Int) a1 = false) ∧ (∀ t : Nat, y < t → t ≤ 10000 → Zw a0 (t : Int) a1 = false) ∧
      QX a0 a1 n fd v f l = (true, (if fd then f else (x : Int)), (y : Int)) := by
  intro n
  induction n with
  | zero => intro fd v f l h h'; omega
  | succ n ih =>
    intro fd v f l h h'
    rw [QX]
    by_cases hv : v ≤ 10000
    · rw [show decide ((v : Int) ≤ 10000) = true by simp; omega]
      simp only [cond_true]
      cases hs : Zw a0 (v : Int) a1 with
      | false =>
        simp only [cond_false]
        rcases ih fd (v + 1) f l (by omega) (by omega) with ⟨e, k⟩ | ⟨x, y, p1, p2, p3, p4, p5, p6, p7, p8⟩
        · refine .inl ⟨e, fun t h1 h2 => ?_⟩
          rcases Nat.eq_or_lt_of_le h1 with rfl | h1
          · exact hs
          · exact k t h1 h2
        · refine .inr ⟨x, y, by omega, p2, p3, p4, p5, fun t h1 h2 => ?_, p7, p8⟩
          rcases Nat.eq_or_lt_of_le h1 with rfl | h1
          · exact hs
          · exact p6 t h1 h2
      | true =>
        simp only [cond_true]
        have key : ∀ g : Int, (∃ x y : Nat, v ≤ x ∧ x ≤ y ∧ y ≤ 10000 ∧ Zw a0 (x : Int) a1 = true ∧ Zw a0 (y : Int) a1 = true ∧ (∀ t : Nat, v ≤ t → t < x → Zw a0 (t : Int) a1 = false) ∧ (∀ t : Nat, y < t → t ≤ 10000 → Zw a0 (t : Int) a1 = false) ∧
            QX a0 a1 n true (v + 1) g (v : Int) = (true, g, (y : Int)) ∧ x = v) := by
          intro g
          rcases ih true (v + 1) g (v : Int) (by omega) (by omega) with ⟨e, k⟩ | ⟨x, y, p1, p2, p3, p4, p5, p6, p7, p8⟩
          · exact ⟨v, v, Nat.le_refl _, Nat.le_refl _, hv, hs, hs, fun t h1 h2 => by omega, fun t h1 h2 => k t h1 h2, e, rfl⟩
          · exact ⟨v, y, Nat.le_refl _, by omega, p3, hs, p5, fun t h1 h2 => by omega, p7, by simpa using p8, rfl⟩
        cases fd with
        | false =>
          simp only [Bool.not_false, cond_true]
          obtain ⟨x, y, q1, q2, q3, q4, q5, q6, q7, q8, rfl⟩ := key (v : Int)
          exact .inr ⟨x, y, q1, q2, q3, q4, q5, q6, q7, by simpa using q8⟩
        | true =>
          simp only [Bool.not_true, cond_false]
          obtain ⟨x, y, q1, q2, q3, q4, q5, q6, q7, q8, rfl⟩ := key f
          exact .inr ⟨x, y, q1, q2, q3, q4, q5, q6, q7, by simpa using q8⟩
    · rw [show decide ((v : Int) ≤ 10000) = false by simp; omega]
      exact .inl ⟨rfl, fun t h1 h2 => by omega⟩
theorem ZRo (a0 : List ZD) (t : Int) (hm : a0.length ≤ maxLen) : kg a0 t = (a0.countP (fun s => YZ s && ZW t s.YQ s.To) : Int) := by
  have key : ∀ (n : Nat) (c : Nat) (v : Nat), a0.length < n + v → v ≤ a0.length → c ≤ v → yH a0 t n (c : Int) v = ((c + (a0.drop v).countP (fun s => YZ s && ZW t s.YQ s.To) : Nat) : Int) := by
    intro n
    induction n with
    | zero => intro c v h1 h2; omega
    | succ n ih =>
      intro c v h1 h2 h3
      rw [yH]
      by_cases hv : v < a0.length
      · rw [show decide ((v : Int) < (a0.length : Int)) = true by simpa using hv, List.drop_eq_getElem_cons hv, ← ZEd hv]
        simp only [cond_true, List.countP_cons]
        have hw : W ((c : Int) + 1) = ((c + 1 : Nat) : Int) := by rw [show ((c + 1 : Nat) : Int) = (c : Int) + 1 by omega]; exact Yd (by omega) (by unfold maxLen at hm; omega)
        cases hc : (YZ (nth a0 v) && ZW t (nth a0 v).YQ (nth a0 v).To) with
        | true => rw [cond_true, hw, ih (c + 1) (v + 1) (by omega) (by omega) (by omega)]; simp; omega
        | false => rw [cond_false, ih c (v + 1) (by omega) (by omega) (by omega)]; simp
      · rw [show decide ((v : Int) < (a0.length : Int)) = false by simpa using hv, List.drop_eq_nil_of_le (by omega)]
        simp
  have := key (a0.length + 1) 0 0 (by omega) (by omega) (by omega)
  simpa [kg] using this
theorem ZRz {α : Type} (p : α → Bool) (g : α → Int) : ∀ {l : List α}, (∃ x ∈ l, p x = true) → ∃ x ∈ l, p x = true ∧ ∀ y ∈ l, p y = true → g y ≤ g x
  | [], h => by obtain ⟨x, hx, _⟩ := h; cases hx
  | a :: l, h => by
    by_cases hl : ∃ x ∈ l, p x = true
    · obtain ⟨x, hx, px, hm⟩ := ZRz p g hl
      by_cases hc : p a = true ∧ g x < g a
      · refine ⟨a, by simp, hc.1, fun y hy py => ?_⟩
        rcases List.mem_cons.1 hy with rfl | hy
        · exact Int.le_refl _
        · have := hm y hy py; omega
      · refine ⟨x, by simp [hx], px, fun y hy py => ?_⟩
        rcases List.mem_cons.1 hy with rfl | hy
        · rcases Int.lt_or_le (g x) (g y) with h | h
          · exact absurd ⟨py, h⟩ hc
          · exact h
        · exact hm y hy py
    · obtain ⟨x, hx, px⟩ := h
      rcases List.mem_cons.1 hx with rfl | hx
      · refine ⟨x, by simp, px, fun y hy py => ?_⟩
        rcases List.mem_cons.1 hy with rfl | hy
        · exact Int.le_refl _
        · exact absurd ⟨y, hy, py⟩ hl
      · exact absurd ⟨x, hx, px⟩ hl
theorem ZEb (s : ZD) : YZ s = true ↔ 0 ≤ s.YQ ∧ s.YQ ≤ s.To ∧ s.To ≤ 10000 := by
  simp only [YZ, zp, ZW, Bool.and_eq_true, decide_eq_true_eq]; omega
theorem ZNk (a0 : List ZD) (a1 : Int) : ∀ (n : Nat) (f l : Int) (v : Nat), a0.length < n + v → v ≤ a0.length → -1 ≤ f →
    let r := Xk a0 a1 n f l v
    (r.1 = f ∨ ∃ k, v ≤ k ∧ k < a0.length ∧ YZ (nth a0 k) = true ∧ Zw a0 (nth a0 k).YQ a1 = true ∧ r.1 = (nth a0 k).YQ) ∧
    (∀ k, v ≤ k → k < a0.length → YZ (nth a0 k) = true → Zw a0 (nth a0 k).YQ a1 = true → 0 ≤ r.1 ∧ r.1 ≤ (nth a0 k).YQ) ∧ (0 ≤ f → 0 ≤ r.1 ∧ r.1 ≤ f) ∧
    (r.2 = l ∨ ∃ k, v ≤ k ∧ k < a0.length ∧ YZ (nth a0 k) = true ∧ Zw a0 (nth a0 k).To a1 = true ∧ r.2 = (nth a0 k).To) ∧
    (∀ k, v ≤ k → k < a0.length → YZ (nth a0 k) = true → Zw a0 (nth a0 k).To a1 = true → (nth a0 k).To ≤ r.2) ∧ l ≤ r.2 := by
  intro n
  induction n with
  | zero => intro f l v h1 h2; omega
  | succ n ih =>
    intro f l v h1 h2 hf
    by_cases hv : v < a0.length
    · have step : ∃ f' l' : Int, Xk a0 a1 (n + 1) f l v = Xk a0 a1 n f' l' (v + 1) ∧ -1 ≤ f' ∧
          (f' = f ∨ (YZ (nth a0 v) = true ∧ Zw a0 (nth a0 v).YQ a1 = true ∧ f' = (nth a0 v).YQ)) ∧ (YZ (nth a0 v) = true → Zw a0 (nth a0 v).YQ a1 = true → 0 ≤ f' ∧ f' ≤ (nth a0 v).YQ) ∧ (0 ≤ f → 0 ≤ f' ∧ f' ≤ f) ∧
          (l' = l ∨ (YZ (nth a0 v) = true ∧ Zw a0 (nth a0 v).To a1 = true ∧ l' = (nth a0 v).To)) ∧ (YZ (nth a0 v) = true → Zw a0 (nth a0 v).To a1 = true → (nth a0 v).To ≤ l') ∧ l ≤ l' := by
        rw [Xk, show decide ((v : Int) < (a0.length : Int)) = true by simpa using hv]
        simp only [cond_true, ZCS, ZIP]
        have hx := ZEb (nth a0 v)
        have hM : xF l (nth a0 v).To = if l < (nth a0 v).To then (nth a0 v).To else l := by unfold xF; rw [Bool.cond_decide]
        cases h1 : YZ (nth a0 v) with
        | false => simp only [Bool.false_and, cond_false]; exact ⟨f, l, rfl, hf, .inl rfl, by simp, fun h => ⟨h, Int.le_refl _⟩, .inl rfl, by simp, Int.le_refl _⟩
        | true =>
          have hx' := hx.1 h1
          simp only [Bool.true_and]
          have kl : ∃ l', (bif Zw a0 (nth a0 v).To a1 then xF l (nth a0 v).To else l) = l' ∧ (l' = l ∨ (True ∧ Zw a0 (nth a0 v).To a1 = true ∧ l' = (nth a0 v).To)) ∧ (True → Zw a0 (nth a0 v).To a1 = true → (nth a0 v).To ≤ l') ∧ l ≤ l' := by
            refine ⟨_, rfl, ?_⟩
            cases Zw a0 (nth a0 v).To a1 with
            | false => simp
            | true => simp only [cond_true, hM]; split <;> simp <;> omega
          obtain ⟨l', e1, kl⟩ := kl
          have kf : ∃ f', (bif (Zw a0 (nth a0 v).YQ a1 && (decide (f < 0) || decide ((nth a0 v).YQ < f))) then (nth a0 v).YQ else f) = f' ∧ -1 ≤ f' ∧ (f' = f ∨ (True ∧ Zw a0 (nth a0 v).YQ a1 = true ∧ f' = (nth a0 v).YQ)) ∧ (True → Zw a0 (nth a0 v).YQ a1 = true → 0 ≤ f' ∧ f' ≤ (nth a0 v).YQ) ∧ (0 ≤ f → 0 ≤ f' ∧ f' ≤ f) := by
            refine ⟨_, rfl, ?_⟩
            cases Zw a0 (nth a0 v).YQ a1 with
            | false => simp; omega
            | true =>
              by_cases hc : f < 0 ∨ (nth a0 v).YQ < f
              · rw [show (true && (decide (f < 0) || decide ((nth a0 v).YQ < f))) = true by simpa using hc]
                simp only [cond_true]; refine ⟨by omega, .inr ⟨trivial, trivial, trivial⟩, fun _ _ => ⟨by omega, Int.le_refl _⟩, fun h => by omega⟩
              · rw [show (true && (decide (f < 0) || decide ((nth a0 v).YQ < f))) = false by simp; omega]
                simp only [cond_false]; refine ⟨hf, .inl trivial, fun _ _ => by omega, fun h => ⟨h, Int.le_refl _⟩⟩
          obtain ⟨f', e2, kf⟩ := kf
          refine ⟨f', l', ?_, kf.1, kf.2.1, kf.2.2.1, kf.2.2.2, kl.1, kl.2.1, kl.2.2⟩
          rw [← e1, ← e2]
          cases (Zw a0 (nth a0 v).YQ a1 && (decide (f < 0) || decide ((nth a0 v).YQ < f))) <;> cases Zw a0 (nth a0 v).To a1 <;> rfl
      obtain ⟨f', l', e, g1, g2, g3, g4, g5, g6, g7⟩ := step
      rw [e]
      obtain ⟨i1, i2, i3, i4, i5, i6⟩ := ih f' l' (v + 1) (by omega) (by omega) g1
      refine ⟨?_, fun k k1 k2 k3 k4 => ?_, fun h => ?_, ?_, fun k k1 k2 k3 k4 => ?_, by omega⟩
      · rcases i1 with i1 | ⟨k, k1, k2⟩
        · rcases g2 with g2 | ⟨q1, q2, q3⟩
          · left; rw [i1, g2]
          · right; exact ⟨v, Nat.le_refl _, hv, q1, q2, by rw [i1, q3]⟩
        · right; exact ⟨k, by omega, k2⟩
      · rcases Nat.eq_or_lt_of_le k1 with rfl | k1
        · have := g3 k3 k4; have := i3 this.1; omega
        · exact i2 k k1 k2 k3 k4
      · have := g4 h; have := i3 this.1; omega
      · rcases i4 with i4 | ⟨k, k1, k2⟩
        · rcases g5 with g5 | ⟨q1, q2, q3⟩
          · left; rw [i4, g5]
          · right; exact ⟨v, Nat.le_refl _, hv, q1, q2, by rw [i4, q3]⟩
        · right; exact ⟨k, by omega, k2⟩
      · rcases Nat.eq_or_lt_of_le k1 with rfl | k1
        · have := g6 k3 k4; omega
        · exact i5 k k1 k2 k3 k4
    · rw [Xk, show decide ((v : Int) < (a0.length : Int)) = false by simpa using hv]
      exact ⟨.inl rfl, fun k h1 h2 => by omega, fun h => ⟨h, Int.le_refl _⟩, .inl rfl, fun k h1 h2 => by omega, Int.le_refl _⟩
theorem ZC0 (a0 : List ZD) (t a1 : Int) (hm : a0.length ≤ maxLen) (h0 : 0 ≤ a1) (h1 : a1 < a0.length) : Zw a0 t a1 = true ↔ (a0.length : Int) - a1 ≤ (a0.countP (fun s => YZ s && ZW t s.YQ s.To) : Int) := by
  have e1 : W ((a0.length : Int) - 1) = (a0.length : Int) - 1 := Yd (by omega) (by unfold maxLen at hm; omega)
  have e2 : W ((a0.length : Int) - a1) = (a0.length : Int) - a1 := Yd (by omega) (by unfold maxLen at hm; omega)
  unfold Zw
  rw [ZRo a0 t hm, e1, e2, show ZW a1 0 ((a0.length : Int) - 1) = true by simp [ZW]; omega]
  rw [Bool.true_and, decide_eq_true_eq]
theorem ZFE (a0 : List ZD) (t a1 : Int) (hm : a0.length ≤ maxLen) (h0 : 0 ≤ a1) (h1 : a1 < a0.length) (hs : Zw a0 t a1 = true) :
    (∃ k, k < a0.length ∧ YZ (nth a0 k) = true ∧ (nth a0 k).YQ ≤ t ∧ Zw a0 (nth a0 k).YQ a1 = true) ∧ (∃ k, k < a0.length ∧ YZ (nth a0 k) = true ∧ t ≤ (nth a0 k).To ∧ Zw a0 (nth a0 k).To a1 = true) := by
  have hc := (ZC0 a0 t a1 hm h0 h1).1 hs
  have hex : ∃ s ∈ a0, (YZ s && ZW t s.YQ s.To) = true := by
    have : 0 < a0.countP (fun s => YZ s && ZW t s.YQ s.To) := by omega
    exact List.countP_pos_iff.1 this
  have idx : ∀ s ∈ a0, ∃ k, k < a0.length ∧ nth a0 k = s := by
    intro s hs
    obtain ⟨k, hk, rfl⟩ := List.getElem_of_mem hs
    exact ⟨k, hk, ZEd hk⟩
  constructor
  · obtain ⟨s, hs1, hp, hmax⟩ := ZRz _ (fun s : ZD => s.YQ) hex
    obtain ⟨k, hk, rfl⟩ := idx s hs1
    simp only [ZW, Bool.and_eq_true, decide_eq_true_eq] at hp hmax
    refine ⟨k, hk, hp.1, hp.2.1, (ZC0 a0 _ a1 hm h0 h1).2 (Int.le_trans hc ?_)⟩
    refine Int.ofNat_le.2 (List.countP_mono_left (fun x hx hpx => ?_))
    simp only [ZW, Bool.and_eq_true, decide_eq_true_eq] at hpx ⊢
    have := hmax x hx hpx
    exact ⟨hpx.1, this, by omega⟩
  · obtain ⟨s, hs1, hp, hmax⟩ := ZRz _ (fun s : ZD => - s.To) hex
    obtain ⟨k, hk, rfl⟩ := idx s hs1
    simp only [ZW, Bool.and_eq_true, decide_eq_true_eq] at hp hmax
    refine ⟨k, hk, hp.1, hp.2.2, (ZC0 a0 _ a1 hm h0 h1).2 (Int.le_trans hc ?_)⟩
    refine Int.ofNat_le.2 (List.countP_mono_left (fun x hx hpx => ?_))
    simp only [ZW, Bool.and_eq_true, decide_eq_true_eq] at hpx ⊢
    have := hmax x hx hpx
    exact ⟨hpx.1, by omega, by omega⟩
@[simp] theorem ZEj (a0 : List ZD) (a1 : Int) (hm : a0.length ≤ maxLen) : J0 a0 a1 = yY a0 a1 := by
  have e1 : W ((a0.length : Int) - 1) = (a0.length : Int) - 1 := Yd (by omega) (by unfold maxLen at hm; omega)
  unfold J0 yY
  rw [ZDH, e1]
  by_cases hr : 0 ≤ a1 ∧ a1 < a0.length
  · rw [show (!ZW a1 0 ((a0.length : Int) - 1)) = false by simp [ZW]; omega]
    simp only [cond_false]
    obtain ⟨s1, s2, _, s4, s5, _⟩ := ZNk a0 a1 (a0.length + 1) (-1) (-1) 0 (by omega) (by omega) (by omega)
    generalize Xk a0 a1 (a0.length + 1) (-1) (-1) 0 = r at s1 s2 s4 s5
    obtain ⟨f, l⟩ := r
    simp only at s1 s2 s4 s5 ⊢
    rcases ZGP a0 a1 10002 false 0 0 0 (by omega) (by omega) with ⟨e, k⟩ | ⟨x, y, p1, p2, p3, p4, p5, p6, p7, e⟩
    · rw [e]
      simp only
      rcases s1 with s1 | ⟨j, j1, j2, j3, j4, j5⟩
      · rw [s1]; rfl
      · have hj := (ZEb _).1 j3
        have := k (nth a0 j).YQ.toNat (by omega) (by omega)
        rw [Int.toNat_of_nonneg hj.1, j4] at this; cases this
    · rw [e]
      simp only [Bool.false_eq_true, if_false]
      obtain ⟨⟨j, j1, j2, j3, j4⟩, _⟩ := ZFE a0 x a1 hm hr.1 hr.2 p4
      obtain ⟨_, ⟨i, i1, i2, i3, i4⟩⟩ := ZFE a0 y a1 hm hr.1 hr.2 p5
      have hf := s2 j (by omega) j1 j2 j4
      have hl := s5 i (by omega) i1 i2 i4
      have hf2 : (x : Int) ≤ f := by
        rcases s1 with s1 | ⟨k, k1, k2, k3, k4, k5⟩
        · omega
        · have hk := (ZEb _).1 k3
          rcases Int.lt_or_le f x with h | h
          · have := p6 f.toNat (by omega) (by omega)
            rw [Int.toNat_of_nonneg (by omega), k5, k4] at this; cases this
          · exact h
      have hl2 : l ≤ (y : Int) := by
        rcases s4 with s4 | ⟨k, k1, k2, k3, k4, k5⟩
        · omega
        · have hk := (ZEb _).1 k3
          rcases Int.lt_or_le (y : Int) l with h | h
          · have := p7 l.toNat (by omega) (by omega)
            rw [Int.toNat_of_nonneg (by omega), k5, k4] at this; cases this
          · exact h
      have e3 : f = x := by omega
      have e4 : l = y := by omega
      rw [e3, e4, show decide ((x : Int) < 0) = false by simp]; rfl
  · rw [show (!ZW a1 0 ((a0.length : Int) - 1)) = true by simp [ZW]; omega]
    simp only [cond_true]
    have hn : ∀ t, Zw a0 t a1 = false := by
      intro t; unfold Zw; rw [e1, show ZW a1 0 ((a0.length : Int) - 1) = false by simp [ZW]; omega]; rfl
    rcases ZGP a0 a1 10002 false 0 0 0 (by omega) (by omega) with ⟨e, k⟩ | ⟨x, y, p1, p2, p3, p4, p5, p6, p7, e⟩
    · rw [e]
    · rw [hn] at p4; cases p4

@[simp] theorem ZGg (a0 : List ZE) (a1 : ZS) : ∀ (n : Nat) (v0 : List ZD) (v1 : Nat), yo a0 a1 n v0 v1 = X4 a0 a1.Zi n v0 v1 := by
  intro n
  induction n with
  | zero => intros; rfl
  | succ n ih => intros; simp [yo, X4, ih]
theorem ZDd (a0 : List ZE) (a1 : List Za) : ∀ (n : Nat) (l : List ZD) (v : Nat), l.length ≤ v → v ≤ a1.length → ∀ z, X4 a0 a1 n l v = .inr z → z.length ≤ a1.length := by
  intro n
  induction n with
  | zero => intro l v h1 h2 z h; cases h; exact Nat.zero_le _
  | succ n ih =>
    intro l v h1 h2 z h
    rw [X4] at h
    by_cases hv : v < a1.length
    · rw [show decide ((v : Int) < (a1.length : Int)) = true by simpa using hv] at h
      cases hs : (!(KA a0 (nth a1 v)).2) with
      | true => rw [hs] at h; cases h
      | false => rw [hs] at h; exact ih _ (v + 1) (by simp; omega) (by omega) z h
    · rw [show decide ((v : Int) < (a1.length : Int)) = false by simpa using hv] at h
      cases h; omega
@[simp] theorem ko (a0 : List ZE) (a1 : ZS) (a2 : Int) (h : Sm maxLen a1) : QF a0 a1 a2 = KB a0 a1 a2 := by
  unfold QF KB QK
  rw [ZGg]
  cases hh : X4 a0 a1.Zi (a1.Zi.length + 1) [] 0 with
  | inl r => rfl
  | inr z =>
    simp only
    rw [ZEj _ _ (Nat.le_trans (ZDd a0 a1.Zi _ _ 0 (by simp) (by omega) z hh) (Yw (ZS.ZF3 h)))]

@[simp] theorem ZTq (a0 : Za) : JN a0 = Ql a0 := by simp [JN, Ql]
@[simp] theorem ZP5 (a1 : ZS) : ∀ (n : Nat) (v0 : List Int) (v1 : Nat), K6 a1 n v0 v1 = zB a1 n v0 v1 := by
  intro n
  induction n with
  | zero => intros; rfl
  | succ n ih => intros; simp [K6, zB, ih, ByteArray.append_assoc]
@[simp] theorem ZQ6 (a1 : ZS) : ∀ (n : Nat) (v0 : List Int) (v1 : Nat), Ja a1 n v0 v1 = JV a1 n v0 v1 := by
  intro n
  induction n with
  | zero => intros; rfl
  | succ n ih => intros; simp [Ja, JV, ih, ByteArray.append_assoc]
@[simp] theorem ZRk (a0 : Int) (a1 : ZS) : Jn a0 a1 = Jj a0 a1 := by simp [Jn, Jj]
@[simp] theorem ZRK (a0 : Int) (a1 : List ZB) : ∀ (n : Nat) (v0 : List Int) (v1 : Nat), zg a0 a1 n v0 v1 = zm a0 a1 n v0 v1 := by
  intro n
  induction n with
  | zero => intros; rfl
  | succ n ih => intros; simp [zg, zm, ih, ByteArray.append_assoc]
@[simp] theorem ZSU (a0 : Int) (a1 : List ZB) : ze a0 a1 = zs a0 a1 := by simp [ze, zs]
@[simp] theorem ZVn (a0 : Int) (a1 : Int) (a2 : List ZB) (a3 : Int) : ZDN a0 a1 a2 a3 = ZDf a0 a1 a2 a3 := by simp [ZDN, ZDf]
@[simp] theorem ZQg (a0 : ZN) (a1 : List Int) (a2 : Int) : ZDt a0 a1 a2 = ZB4 a0 a1 a2 := by simp [ZDt, ZB4]
@[simp] theorem ZTc (a0 : Int) (a1 : Int) (a2 : Int) : qN a0 a1 a2 = xy a0 a1 a2 := by simp [qN, xy]
@[simp] theorem ZSg (a0 : Int) (a2 : List XG) : ∀ (n : Nat) (v0 : Int) (v1 : Nat), z4 a0 a2 n v0 v1 = yC a0 a2 n v0 v1 := by
  intro n
  induction n with
  | zero => intros; rfl
  | succ n ih => intros; simp [z4, yC, ih, ByteArray.append_assoc]
@[simp] theorem ZJZ (a0 : Int) (a1 : Int) (a2 : List XG) : ju a0 a1 a2 = kE a0 a1 a2 := by simp [ju, kE]
@[simp] theorem ZUo (a0 : List YC) (a1 : List ZE) (a2 : Za) : JL a0 a1 a2 = JK a0 a1 a2 := by
  simp [JL, JK, qg]
  cases h : decide (Y5 a0 (nth a1 (YP a1 a2.Authority).toNat).Key < 0) <;> simp

@[simp] theorem ZJp (a0 : List YC) (a1 : List ZE) (a2 : Za) : kF a0 a1 a2 = j6 a0 a1 a2 := by simp [kF, j6]
@[simp] theorem ZH2 (a0 : List YC) (a1 : List ZE) (a2 : ZS) (a3 : Int) : xf a0 a1 a2 a3 = zi a0 a1 a2 a3 := by
  rw [Bool.eq_iff_iff]
  unfold xf zi
  have hs : ∀ b : Bool, (bif b then false else (match zc a0 a1 a2 (a2.Zi.length + 1) 0 with | .inl r1 => r1 | .inr _ => true)) = true ↔ b = false ∧ _ := fun b => by
    cases b
    · exact (kn (L := zc a0 a1 a2) (fun _ => rfl) (fun _ _ => rfl) (a2.Zi.length + 1) 0 (by omega) true).trans (by simp only [true_and, and_true]; exact Iff.rfl)
    · simp
  have hi : ∀ b : Bool, (bif b then false else (match z8 a0 a1 a2 (a2.Zi.length + 1) 0 with | .inl r1 => r1 | .inr _ => true)) = true ↔ b = false ∧ _ := fun b => by
    cases b
    · exact (kn (L := z8 a0 a1 a2) (fun _ => rfl) (fun _ _ => rfl) (a2.Zi.length + 1) 0 (by omega) true).trans (by simp only [true_and, and_true]; exact Iff.rfl)
    · simp
  have hr : XB a2.Zi = true ↔ _ := kn (L := Qo a2.Zi) (fun _ => rfl) (fun _ _ => rfl) (a2.Zi.length + 1) 1 (by omega) true
  refine (hs _).trans (Iff.trans ?_ (hi _).symm)
  simp only [Bool.or_eq_false_iff, Bool.not_eq_false', ZDH, ZJZ, ZJp, hr]
  constructor
  · rintro ⟨h1, h2⟩
    refine ⟨⟨h1, fun i hi hl => ?_, trivial⟩, fun i hz hi => ⟨(h2 i hz hi).1.1, (h2 i hz hi).2⟩⟩
    have := (h2 i (Nat.zero_le _) hl).1.2
    simpa [show (0 : Nat) < i by omega] using this
  · rintro ⟨⟨h1, h2, _⟩, h3⟩
    refine ⟨h1, fun i hz hi => ⟨⟨(h3 i hz hi).1, ?_⟩, (h3 i hz hi).2⟩⟩
    by_cases h0 : 0 < i
    · have := h2 i h0 hi; simpa [h0] using this
    · simp [h0]

@[simp] theorem ZSm (a0 : List Zl) (a1 : Int) : ∀ (n : Nat) (v0 : Nat), zX a0 a1 n v0 = z3 a0 a1 n v0 := by
  intro n
  induction n with
  | zero => intros; rfl
  | succ n ih => intros; simp [zX, z3, ih, ByteArray.append_assoc]
@[simp] theorem ZTd (a0 : List Zl) (a1 : Int) : Kz a0 a1 = Kv a0 a1 := by simp [Kz, Kv]
@[simp] theorem ZG6 (a0 : List Zl) (a1 : Int) : zn a0 a1 = zd a0 a1 := by
  unfold zn zd; rw [cond_neg]; simp

@[simp] theorem ZNS (a0 : List ZE) (a1 : Za) : X6 a0 a1 = Xj a0 a1 := by
  unfold X6 Xj; rw [cond_neg]; simp

@[simp] theorem ZRI (a0 : List YC) (a1 : List ZE) (a2 : List Zl) (a3 : ZS) : ∀ (n : Nat) (v0 : Int) (v1 : Nat), zl a0 a1 a2 a3 n v0 v1 = zz a0 a1 a2 a3 n v0 v1 := by
  intro n
  induction n with
  | zero => intros; rfl
  | succ n ih => intros; simp [zl, zz, ih, ByteArray.append_assoc]
@[simp] theorem ZHe (a0 : List YC) (a1 : List ZE) (a2 : List Zl) (a3 : ZS) : zh a0 a1 a2 a3 = zj a0 a1 a2 a3 := by simp [zh, zj]
@[simp] theorem ZLP (a0 : ZF) (a1 : ZN) (a2 : Int) (h : Sm maxLen a1) : ZAe a0 a1 a2 = jN a0 a1 a2 := by
  unfold ZAe jN Xs
  rw [ko _ _ _ (Z2 (ZN.QG h))]
  simp only [ZDH, ZHe]

theorem ZIb (a0 : ZF) (a1 : ZN) (a2 : List Int) (hs : Sm maxLen a1) : ∀ (n v : Nat), v ≤ maxLen → zI a0 a1 a2 n v = zO a0 a1 a2 n v := by
  intro n
  induction n with
  | zero => intros; rfl
  | succ n ih =>
    intro v hv
    rw [zI, zO]
    by_cases h : 0 < v
    · have hw : W ((v : Int) - 1) = (v : Int) - 1 := Yd (by omega) (by unfold maxLen at hv; omega)
      rw [show decide ((v : Int) > 0) = true by simpa using h, ih (v - 1) (by omega)]
      unfold ZFz Xs
      rw [hw, show ((v : Int) - 1).toNat = v - 1 by omega]
      rw [ko _ _ _ (Z2 (ZN.QG hs)), ZLP _ _ _ hs]
      simp only [cond_true, Bool.true_and, ZH2, ZQg]
      cases (KB a0.ZT (nth a1.ZR (v - 1)) a0.Q6).2 <;> cases jN a0 a1 ((v : Int) - 1) <;> cases zi a0.Y3 a0.ZT (nth a1.ZR (v - 1)) (ZB4 a1 a2 ((v : Int) - 1)) <;> rfl
    · rw [show decide ((v : Int) > 0) = false by simpa using h]; rfl
@[simp] theorem ZMZ (a0 : ZF) (a1 : ZN) (a2 : List Int) (h : Sm maxLen a1) : K4 a0 a1 a2 = K7 a0 a1 a2 := by
  unfold K4 K7
  rw [ZIb a0 a1 a2 h _ _ (Yw (ZN.QG h))]

theorem ZFv (a0 : ZF) (a1 : ZN) (a3 : Int) (h : Sm maxLen a1) : ∀ (n : Nat) (v0 v1 : Int), jM a0 a1 a3 n v0 v1 = jJ a0 a1 a3 n v0 v1
  | 0, _, _ => rfl
  | n + 1, v0, v1 => by
    have ih := ZFv a0 a1 a3 h n
    have hr : QF a0.ZT (nth a1.ZR v1.toNat) a0.Q6 = Xs a0 (nth a1.ZR v1.toNat) := by
      rw [ko _ _ _ (Z2 (ZN.QG h))]; rfl
    simp only [jM, jJ, ZDF, hr, ih]
theorem ZPg (a0 : ZF) (a1 : ZN) (a2 : List Int) (a3 : Int) (h : Sm maxLen a1) : ZDA a0 a1 a2 a3 = ZDE a0 a1 a2 a3 := by
  simp only [ZDA, ZDE, ZFv a0 a1 a3 h, ZMZ a0 a1 a2 h]

theorem ZKi (a0 : ZF) (a1 : ZN) (a2 : List Int) (a3 : ZB) (h : Sm maxLen a1) : qR a0 a1 a2 a3 = qK a0 a1 a2 a3 := by
  simp only [qR, qK, ZMY, ZPg a0 a1 a2 _ h]

theorem ZSn (a0 : ZF) (a1 : ZI) (a2 : List (List Int)) (a3 : ZB) : ∀ (n : Nat) (v0 : Int) (v1 : Nat), a2.length ≤ v1 → a1.ZK.length < n + v1 → v1 ≤ a1.ZK.length → X8 a0 a1 a2 a3 n v0 v1 = v0
  | 0, _, _, _, h1, h2 => by omega
  | n + 1, v0, v1, h0, h1, h2 => by
    simp only [X8]
    rw [show decide ((v1 : Int) < (a2.length : Int)) = false by simp; omega]
    by_cases hv : v1 < a1.ZK.length
    · rw [show decide ((v1 : Int) < (a1.ZK.length : Int)) = true by simpa using hv]
      exact ZSn a0 a1 a2 a3 n v0 (v1 + 1) (by omega) (by omega) hv
    · rw [show decide ((v1 : Int) < (a1.ZK.length : Int)) = false by simpa using hv]; rfl
theorem ZAc (a0 : ZF) (a1 : ZI) (a2 : List (List Int)) (a3 : ZB) (h : Sm maxLen a1) : ∀ (n : Nat) (v0 : Int) (v1 : Nat), a1.ZK.length < n + v1 → v1 ≤ a1.ZK.length → K9 a0 a1 a2 a3 n v0 v1 = X8 a0 a1 a2 a3 n v0 v1
  | 0, _, _, _, _ => rfl
  | n + 1, v0, v1, h1, h2 => by
    simp only [K9, X8, ZDF, ZKi a0 _ _ a3 (Z2 (ZI.Yr h))]
    by_cases hv : v1 < a1.ZK.length
    · rw [show decide ((v1 : Int) < (a1.ZK.length : Int)) = true by simpa using hv]
      by_cases ha : v1 < a2.length
      · rw [show decide ((v1 : Int) < (a2.length : Int)) = true by simpa using ha]
        exact ZAc a0 a1 a2 a3 h n _ (v1 + 1) (by omega) hv
      · rw [show decide ((v1 : Int) < (a2.length : Int)) = false by simpa using ha]
        exact (ZSn a0 a1 a2 a3 n v0 (v1 + 1) (by omega) (by omega) hv).symm
    · rw [show decide ((v1 : Int) < (a1.ZK.length : Int)) = false by simpa using hv]; rfl
theorem ZBc (a0 : ZF) (a1 : ZI) (a2 : List (List Int)) (a3 : ZB) (h : Sm maxLen a1) : Y2 a0 a1 a2 a3 = Yp a0 a1 a2 a3 := by
  simp only [Y2, Yp, ZAc a0 a1 a2 a3 h (a1.ZK.length + 1) a0.Now 0 (by omega) (Nat.zero_le _)]

@[simp] theorem ZS3 (a0 : ZB) : XV a0 = YB a0 := by
  simp only [XV, YB, ZDH]
  cases (((↑a0.Zb.length : Int) == 0) || (!(ZW (nth a0.Zb 0) 101 105))) <;> simp

@[simp] theorem ZK2 (a0 : ZB) : Xd a0 = XS a0 := by simp [Xd, XS]
@[simp] theorem ZIo (a0 : ZB) : QS a0 = Xy a0 := by simp [QS, Xy]
@[simp] theorem ZKW (a0 : ZB) : qS a0 = Ky a0 := by simp [qS, Ky]
@[simp] theorem ZML (a0 : ZB) : jW a0 = yS a0 := by simp [jW, yS]
@[simp] theorem ZHP (a0 : ZB) : JQ a0 = QD a0 := by simp [JQ, QD]
@[simp] theorem ZEu (a0 : List YC) (a1 : ZB) : qQ a0 a1 = Jw a0 a1 := by
  unfold qQ Jw ZEJ
  simp only [ZK2, ZIo, ZKW, ZML, ZHP, ZFd]
  have e1 : YB a1 ≠ 101 → (XS a1).2 = false := fun h => by unfold XS; rw [show (YB a1 != 101) = true by simpa using h]; rfl
  have e2 : YB a1 ≠ 102 → (Xy a1).2 = false := fun h => by unfold Xy; rw [show (YB a1 != 102) = true by simpa using h]; rfl
  have e3 : YB a1 ≠ 103 → (Ky a1).2 = false := fun h => by unfold Ky; rw [show (YB a1 != 103) = true by simpa using h]; rfl
  have e4 : YB a1 ≠ 104 → (yS a1).2 = false := fun h => by unfold yS; rw [show (YB a1 != 104) = true by simpa using h]; rfl
  have e5 : YB a1 ≠ 105 → (QD a1).2 = false := fun h => by unfold QD; rw [show (YB a1 != 105) = true by simpa using h]; rfl
  by_cases h1 : YB a1 = 101
  · rw [e2 (by omega), e3 (by omega), e4 (by omega), e5 (by omega), h1]; simp
  by_cases h2 : YB a1 = 102
  · rw [e1 h1, e3 (by omega), e4 (by omega), e5 (by omega), h2]; simp
  by_cases h3 : YB a1 = 103
  · rw [e1 h1, e2 h2, e4 (by omega), e5 (by omega), h3]; simp
  by_cases h4 : YB a1 = 104
  · rw [e1 h1, e2 h2, e3 h3, e5 (by omega), h4]; simp
  by_cases h5 : YB a1 = 105
  · rw [e1 h1, e2 h2, e3 h3, e4 h4, h5]; simp
  rw [e1 h1, e2 h2, e3 h3, e4 h4, e5 h5]
  simp [h1, h2, h3, h4, h5]

@[simp] theorem ZRj (a0 : ZB) (a1 : ZB) : ∀ (n : Nat) (v0 : Nat), yu a0 a1 n v0 = Jp a0 a1 n v0 := by
  intro n
  induction n with
  | zero => intros; rfl
  | succ n ih => intros; simp [yu, Jp, ih, ByteArray.append_assoc]
@[simp] theorem ZDg (a0 : ZB) (a1 : ZB) : qk a0 a1 = Y6 a0 a1 := by simp [qk, Y6]
def ZGH : List Int → List Int → Bool → Bool
  | [], [], t => t
  | [], _ :: _, _ => true
  | _ :: _, [], _ => false
  | a :: as, b :: bs, t => bif a != b then decide (a < b) else ZGH as bs t
theorem ZN2 : ∀ a t, ZGH a a t = t
  | [], _ => rfl
  | x :: a, t => by rw [ZGH, show (x != x) = false by simp]; exact ZN2 a t
theorem ZL1 : ∀ {a b c : List Int} {t1 t2 t3 : Bool}, (t1 = true → t2 = true → t3 = true) → ZGH a b t1 = true → ZGH b c t2 = true → ZGH a c t3 = true
  | [], [], [], _, _, _, h, h1, h2 => h h1 h2
  | [], [], _ :: _, _, _, _, _, _, _ => rfl
  | [], _ :: _, [], _, _, _, _, _, h2 => by cases h2
  | [], _ :: _, _ :: _, _, _, _, _, _, _ => rfl
  | _ :: _, [], _, _, _, _, _, h1, _ => by cases h1
  | _ :: _, _ :: _, [], _, _, _, _, _, h2 => by cases h2
  | x :: a, y :: b, z :: c, _, _, _, h, h1, h2 => by
    simp only [ZGH] at h1 h2 ⊢
    by_cases e1 : x = y
    · subst e1
      rw [show (x != x) = false by simp, cond_false] at h1
      by_cases e2 : x = z
      · subst e2
        rw [show (x != x) = false by simp, cond_false] at h2 ⊢
        exact ZL1 h h1 h2
      · rw [show (x != z) = true by simpa using e2, cond_true] at h2 ⊢; exact h2
    · rw [show (x != y) = true by simpa using e1, cond_true] at h1
      by_cases e2 : y = z
      · subst e2
        rw [show (x != y) = true by simpa using e1, cond_true]; exact h1
      · rw [show (y != z) = true by simpa using e2, cond_true] at h2
        simp only [decide_eq_true_eq] at h1 h2
        rw [show (x != z) = true by simp; omega, cond_true]
        simp; omega
theorem ZQS : ∀ {a b : List Int} {t1 t2 : Bool}, ZGH a b t1 = false → ZGH b a t2 = false → a = b ∧ t1 = false ∧ t2 = false
  | [], [], _, _, h1, h2 => ⟨rfl, h1, h2⟩
  | [], _ :: _, _, _, h1, _ => by cases h1
  | _ :: _, [], _, _, _, h2 => by cases h2
  | x :: a, y :: b, _, _, h1, h2 => by
    simp only [ZGH] at h1 h2
    by_cases e1 : x = y
    · subst e1
      rw [show (x != x) = false by simp, cond_false] at h1 h2
      obtain ⟨e, k1, k2⟩ := ZQS h1 h2
      exact ⟨by rw [e], k1, k2⟩
    · rw [show (x != y) = true by simpa using e1, cond_true] at h1
      rw [show (y != x) = true by simp; omega, cond_true] at h2
      simp only [decide_eq_false_iff_not] at h1 h2
      omega
theorem ZQT (x y : ZB) (t : Bool) : ∀ (n i : Nat), x.Zb.length < n + i → i ≤ x.Zb.length → i ≤ y.Zb.length →
    (match Jp x y n i with | .inl r1 => r1 | .inr _ => (bif ((↑x.Zb.length : Int) != (↑y.Zb.length : Int)) then (decide ((↑x.Zb.length : Int) < (↑y.Zb.length : Int))) else t)) = ZGH (x.Zb.drop i) (y.Zb.drop i) t
  | 0, i, h, h1, _ => by omega
  | n + 1, i, h, h1, h2 => by
    simp only [Jp]
    by_cases hx : i < x.Zb.length
    · by_cases hy : i < y.Zb.length
      · rw [show decide ((i : Int) < (x.Zb.length : Int)) = true by simpa using hx, show decide ((i : Int) < (y.Zb.length : Int)) = true by simpa using hy, ky hx, ky hy]
        simp only [Bool.and_true, cond_true, ZGH]
        cases (nth x.Zb i != nth y.Zb i) with
        | true => rfl
        | false => exact ZQT x y t n (i + 1) (by omega) hx hy
      · rw [show decide ((i : Int) < (y.Zb.length : Int)) = false by simpa using hy, ky hx, List.drop_eq_nil_of_le (as := y.Zb) (by omega)]
        simp only [Bool.and_false, cond_false, ZGH]
        rw [show ((x.Zb.length : Int) != (y.Zb.length : Int)) = true by simp; omega, cond_true]
        simp; omega
    · rw [show decide ((i : Int) < (x.Zb.length : Int)) = false by simpa using hx, List.drop_eq_nil_of_le (as := x.Zb) (by omega)]
      simp only [Bool.false_and, cond_false]
      by_cases hy : i < y.Zb.length
      · rw [ky hy, ZGH, show ((x.Zb.length : Int) != (y.Zb.length : Int)) = true by simp; omega, cond_true]
        simp; omega
      · rw [List.drop_eq_nil_of_le (as := y.Zb) (by omega), ZGH, show ((x.Zb.length : Int) != (y.Zb.length : Int)) = false by simp; omega]; rfl
def ZQH (x y : ZB) : Bool := bif (x.Key != y.Key) then (decide (x.Key < y.Key)) else (decide (x.Mark < y.Mark))
theorem ZGt (x y : ZB) : Y6 x y = ZGH x.Zb y.Zb (ZQH x y) := by
  have := ZQT x y (ZQH x y) (x.Zb.length + 1) 0 (by omega) (Nat.zero_le _) (Nat.zero_le _)
  rw [List.drop_zero, List.drop_zero] at this
  exact this
theorem ZRQ (x : ZB) : Y6 x x = false := by rw [ZGt, ZN2]; simp [ZQH]
theorem before_trans {x y z : ZB} (h1 : Y6 x y = true) (h2 : Y6 y z = true) : Y6 x z = true := by
  rw [ZGt] at h1 h2 ⊢
  refine ZL1 (fun k1 k2 => ?_) h1 h2
  unfold ZQH at *
  by_cases e1 : x.Key = y.Key <;> by_cases e2 : y.Key = z.Key <;> by_cases e3 : x.Key = z.Key <;> simp [bne, e1, e2, e3] at k1 k2 ⊢ <;> (try simp_all) <;> omega
theorem ZSG {x y : ZB} (h1 : Y6 x y = false) (h2 : Y6 y x = false) : x = y := by
  rw [ZGt] at h1 h2
  obtain ⟨e, k1, k2⟩ := ZQS h1 h2
  unfold ZQH at k1 k2
  cases x; cases y
  simp only at e k1 k2
  subst e
  rename_i k _ m k' m'
  by_cases ek : k = k'
  · subst ek
    simp at k1 k2
    congr 1; omega
  · rw [show (k != k') = true by simpa using ek, cond_true] at k1
    rw [show (k' != k) = true by simp; omega, cond_true] at k2
    simp at k1 k2; omega
def ZCc (l : List ZB) : Prop := l.Pairwise (fun a b => Y6 a b = true)
theorem ZQV {l : List ZB} (hs : ZCc l) {i j : Nat} (hij : i < j) (hj : j < l.length) : Y6 (nth l i) (nth l j) = true := by
  have h1 := List.pairwise_iff_getElem.1 hs i j (by omega) hj hij
  rw [show nth l i = l[i] by simp [nth, List.getD_eq_getElem?_getD, List.getElem?_eq_getElem (show i < l.length by omega)], show nth l j = l[j] by simp [nth, List.getD_eq_getElem?_getD, List.getElem?_eq_getElem hj]]
  exact h1
theorem ZSh (l : List ZB) (p : ZB) : ∀ (n v : Nat), l.length < n + v → v ≤ l.length → v ≤ QU l p n v ∧ QU l p n v ≤ l.length ∧ (∀ k, v ≤ k → k < QU l p n v → Y6 (nth l k) p = true) ∧ (QU l p n v < l.length → Y6 (nth l (QU l p n v)) p = false)
  | 0, v, h, h2 => by omega
  | n + 1, v, h, h2 => by
    simp only [QU, ZDg]
    by_cases hv : v < l.length
    · rw [show decide ((v : Int) < (l.length : Int)) = true by simpa using hv, Bool.true_and]
      cases hb : Y6 (nth l v) p with
      | true =>
        obtain ⟨k1, k2, k3, k4⟩ := ZSh l p n (v + 1) (by omega) hv
        refine ⟨by simp only [cond_true]; omega, k2, fun k a b => ?_, k4⟩
        rcases Nat.eq_or_lt_of_le a with rfl | a
        · exact hb
        · exact k3 k a b
      | false => exact ⟨Nat.le_refl _, h2, fun k a b => by simp only [cond_false] at b; omega, fun _ => hb⟩
    · rw [show decide ((v : Int) < (l.length : Int)) = false by simpa using hv]
      exact ⟨Nat.le_refl _, h2, fun k a b => by simp only [Bool.false_and, cond_false] at b; omega, fun a => absurd a hv⟩
theorem ZV6 (a1 : ZI) (v1 : Nat) (l : List ZB) (i : Nat) : ∀ (n v : Nat), KJ a1 v1 l i n v = QU l (nth (nth a1.ZK v1).ZZ i) n v
  | 0, _ => rfl
  | n + 1, v => by simp only [KJ, QU, ZDg, ZV6 a1 v1 l i n]
theorem ZSc (l : List ZB) (p : ZB) : QM l p = true ↔ ∃ k, k < l.length ∧ nth l k = p := by
  unfold QM
  refine Iff.trans (ZNw (L := xz l p) (len := l.length) (c := fun v => zQ (nth l v) p) (fun _ => rfl) (fun _ _ => rfl) (l.length + 1) 0 (by omega)) ?_
  constructor
  · rintro ⟨i, _, h1, h2⟩
    exact ⟨i, h1, by simpa using h2⟩
  · rintro ⟨i, h1, h2⟩
    exact ⟨i, Nat.zero_le _, h1, by simpa using h2⟩
theorem put_eq {l : List ZB} (hs : ZCc l) (p : ZB) : yr l p = (bif QM l p then l else (l.take (QU l p (l.length + 1) 0) ++ [p]) ++ l.drop (QU l p (l.length + 1) 0)) ∧ ZCc (yr l p) := by
  obtain ⟨_, k2, k3, k4⟩ := ZSh l p (l.length + 1) 0 (by omega) (Nat.zero_le _)
  unfold yr
  generalize QU l p (l.length + 1) 0 = z at k2 k3 k4 ⊢
  simp only [ZDn]
  have hh : (decide ((z : Int) < (l.length : Int)) && decide (nth l z = p)) = QM l p := by
    rw [Bool.eq_iff_iff, ZSc]
    simp only [Bool.and_eq_true, decide_eq_true_eq]
    constructor
    · rintro ⟨h1, h2⟩; exact ⟨z, by omega, h2⟩
    · rintro ⟨j, h1, h2⟩
      have hzj : ¬ j < z := fun hlt => by have := k3 j (Nat.zero_le _) hlt; rw [h2, ZRQ] at this; cases this
      rcases Nat.eq_or_lt_of_le (Nat.le_of_not_lt hzj) with rfl | hlt
      · exact ⟨by omega, h2⟩
      · have h5 := ZQV hs hlt h1
        rw [h2, k4 (by omega)] at h5; cases h5
  rw [hh]
  cases hp : QM l p with
  | true => exact ⟨rfl, hs⟩
  | false =>
    refine ⟨rfl, ?_⟩
    have hno : ∀ k, k < l.length → nth l k ≠ p := fun k hk he => by
      have := (ZSc l p).2 ⟨k, hk, he⟩
      rw [hp] at this; cases this
    have hsplit : ZCc (l.take z ++ l.drop z) := by rw [List.take_append_drop]; exact hs
    obtain ⟨q1, q2, q3⟩ := List.pairwise_append.1 hsplit
    have hleft : ∀ a ∈ l.take z, Y6 a p = true := by
      intro a ha
      obtain ⟨k, hk, rfl⟩ := List.mem_iff_getElem.1 ha
      have hkz : k < z := by rw [List.length_take] at hk; omega
      have := k3 k (Nat.zero_le _) hkz
      rw [List.getElem_take]
      rwa [show nth l k = l[k] by simp [nth, List.getD_eq_getElem?_getD, List.getElem?_eq_getElem (show k < l.length by omega)]] at this
    have hright : ∀ b ∈ l.drop z, Y6 p b = true := by
      by_cases hz : z < l.length
      · have hpz : Y6 p (nth l z) = true := by
          cases hc : Y6 p (nth l z) with
          | true => rfl
          | false => exact absurd (ZSG (k4 hz) hc) (hno z hz)
        rw [ky hz] at q2 ⊢
        intro b hb
        rcases List.mem_cons.1 hb with rfl | hb
        · exact hpz
        · exact before_trans hpz ((List.pairwise_cons.1 q2).1 b hb)
      · rw [List.drop_eq_nil_of_le (by omega)]; intro b hb; cases hb
    show ZCc ((l.take z ++ [p]) ++ l.drop z)
    rw [List.append_assoc]
    refine List.pairwise_append.2 ⟨q1, List.pairwise_cons.2 ⟨hright, q2⟩, fun a ha b hb => ?_⟩
    rcases List.mem_cons.1 (by simpa using hb) with rfl | hb
    · exact hleft a ha
    · exact q3 a ha b hb
theorem ZP7 {a0 : List YC} {p : ZB} (h : Jw a0 p = true) : 0 ≤ Y5 a0 p.Key := by
  rw [← ZEu] at h
  simp only [qQ, Bool.and_eq_true, ZFd] at h
  have h2 := h.2
  unfold X7 qg at h2
  cases hc : decide (Y5 a0 p.Key < 0) with
  | true => rw [hc] at h2; simp at h2
  | false => simpa using hc
theorem ZT4 (a0 : ZF) (a1 : ZI) (a2 : List (List Int)) (v1 : Nat) (h : Sm maxLen a1) : ∀ (n : Nat) (l : List ZB) (i : Nat), ZCc l → Xn a0 a1 a2 v1 n l i = Xz a0 a1 a2 v1 n l i ∧ ZCc (Xn a0 a1 a2 v1 n l i)
  | 0, _, _, _ => ⟨rfl, List.Pairwise.nil⟩
  | n + 1, l, i, hs => by
    simp only [Xn, Xz]
    cases decide ((i : Int) < ((nth a1.ZK v1).ZZ.length : Int)) with
    | false => exact ⟨rfl, hs⟩
    | true =>
      simp only [cond_true, ZV6]
      generalize (nth (nth a1.ZK v1).ZZ i) = p
      have hu : ZAj a0 a1 a2 p = !((!(Jw a0.Y3 p)) || decide (Yp a0 a1 a2 p ≥ J4 a0 p.Key)) := by
        unfold ZAj J4
        simp only [ZEV, ZEu, ZG6, ZBc a0 a1 a2 p h]
        cases hc : Jw a0.Y3 p with
        | false => simp
        | true =>
          have := ZP7 hc
          rw [show decide (Y5 a0.Y3 p.Key ≥ 0) = true by simpa using this, show decide (Y5 a0.Y3 p.Key < 0) = false by simp; omega]
          simp only [Bool.true_and, Bool.not_true, Bool.false_or, cond_false]
          rw [← decide_not]; simp
      rw [hu]
      obtain ⟨e, hs2⟩ := put_eq hs p
      cases hb : ((!(Jw a0.Y3 p)) || decide (Yp a0 a1 a2 p ≥ J4 a0 p.Key)) with
      | true =>
        rw [Bool.or_assoc, hb, Bool.or_true]
        simp only [Bool.not_true, cond_false, cond_true]
        exact ZT4 a0 a1 a2 v1 h n l (i + 1) hs
      | false =>
        rw [Bool.or_assoc, hb, Bool.or_false]
        simp only [Bool.not_false, cond_true]
        obtain ⟨r1, r2⟩ := ZT4 a0 a1 a2 v1 h n (yr l p) (i + 1) hs2
        refine ⟨?_, r2⟩
        rw [r1, e]
        cases QM l p with
        | true => rfl
        | false =>
          simp only [cond_false]
          congr 2
          exact (List.take_of_length_le (by rw [List.length_drop]; exact Nat.le_refl _)).symm
theorem ZVv (a0 : ZF) (a1 : ZI) (a2 : List (List Int)) (h : Sm maxLen a1) : ∀ (n : Nat) (l : List ZB) (i : Nat), ZCc l → Qv a0 a1 a2 n l i = Q0 a0 a1 a2 n l i
  | 0, _, _, _ => rfl
  | n + 1, l, i, hs => by
    simp only [Qv, Q0]
    cases decide ((i : Int) < (a1.ZK.length : Int)) with
    | false => rfl
    | true =>
      obtain ⟨r1, r2⟩ := ZT4 a0 a1 a2 i h ((nth a1.ZK i).ZZ.length + 1) l 0 hs
      simp only [cond_true]
      rw [ZVv a0 a1 a2 h n _ _ r2, r1]
theorem ZHl (a0 : ZF) (a1 : ZI) (a2 : List (List Int)) (h : Sm maxLen a1) : Zu a0 a1 a2 = Zt a0 a1 a2 := ZVv a0 a1 a2 h _ [] 0 List.Pairwise.nil

@[simp] theorem ZMl (a0 : YH) : xj a0 = xt a0 := by simp [xj, xt]
@[simp] theorem ZVl (a0 : YH) : ZFX a0 = ZFn a0 := by simp [ZFX, ZFn]
@[simp] theorem ZUx (a0 : YH) : ya a0 = yn a0 := by simp [ya, yn]
@[simp] theorem ZVR (a0 : List YC) (a1 : Int) : ZBR a0 a1 = ZBY a0 a1 := by simp [ZBR, ZBY, cond_neg]

@[simp] theorem ZUJ (a0 : List YC) (a1 : YH) : ZAX a0 a1 = ZAg a0 a1 := by simp [ZAX, ZAg, Bool.beq_comm]

@[simp] theorem ZTw (a0 : ZF) (a1 : List ZB) (a2 : ZY) : ∀ (n : Nat) (v0 : Int) (v1 : Nat) (v2 : Int) (v3 : Int) (v4 : Int) (v5 : Int) (v6 : Int) (v7 : Int) (v8 : Int), ji a0 a1 a2 n v0 v1 v2 v3 v4 v5 v6 v7 v8 = jg a0 a1 a2 n v0 v1 v2 v3 v4 v5 v6 v7 v8 := by
  intro n
  induction n with
  | zero => intros; rfl
  | succ n ih => intros; simp [ji, jg, ih, ByteArray.append_assoc]
@[simp] theorem ZPd (a0 : ZF) (a1 : List ZB) (a2 : ZY) : QP a0 a1 a2 = QQ a0 a1 a2 := by simp [QP, QQ]
@[simp] theorem ZAW (a0 a1 : Int) : xF a0 a1 = if a1 > a0 then a1 else a0 := by
  unfold xF; by_cases h : a1 > a0 <;> simp [h]

theorem ZA7 (a1 : List Za) : ∀ (n : Nat) (l : List Int) (i : Nat), zb a1 n l i = z5 a1 n l i
  | 0, _, _ => rfl
  | n + 1, l, i => by simp only [zb, z5, ZA7 a1 n]
@[simp] theorem ZHV (a0 : Int) (a1 : List Za) : zu a0 a1 = KX a0 a1 := by simp [zu, KX, ZSo, ZA7]

@[simp] theorem ZJu (a0 : Int) (a1 : Za) : yZ a0 a1 = JA a0 a1 := by simp [yZ, JA]
def ZS9 (l : List Za) (v : Nat) : Bool := decide ((v : Int) > 0) && decide ((nth l (v - 1)).Authority ≥ (nth l v).Authority)
def ZSv (a0 : ZF) (a1 : List ZB) (x : Za) : Bool := QM a1 (JA (Xj a0.ZT x) x)
def ZMd (a0 : ZF) (a1 : List ZB) (l : List Za) : Nat → Nat → Bool
  | 0, _ => true
  | n + 1, v => bif decide ((v : Int) < (l.length : Int)) then ((!ZS9 l v) && ZSv a0 a1 (nth l v)) && ZMd a0 a1 l n (v + 1) else true
theorem ZOD (a0 : ZF) (a1 : List ZB) (l : List Za) : ∀ n v, l.length < n + v → (ZMd a0 a1 l n v = true ↔ ∀ i, v ≤ i → i < l.length → ZS9 l i = false ∧ ZSv a0 a1 (nth l i) = true)
  | 0, v, h => ⟨fun _ i h1 h2 => by omega, fun _ => rfl⟩
  | n + 1, v, h => by
    simp only [ZMd]
    by_cases hv : v < l.length
    · rw [show decide ((v : Int) < (l.length : Int)) = true by simpa using hv]
      simp only [cond_true, Bool.and_eq_true, Bool.not_eq_true', ZOD a0 a1 l n (v + 1) (by omega)]
      constructor
      · rintro ⟨h1, h2⟩ i h3 h4
        rcases Nat.eq_or_lt_of_le h3 with rfl | h3
        · exact h1
        · exact h2 i h3 h4
      · intro h1
        exact ⟨h1 v (Nat.le_refl _) hv, fun i h3 h4 => h1 i (by omega) h4⟩
    · rw [show decide ((v : Int) < (l.length : Int)) = false by simpa using hv]
      exact ⟨fun _ i h1 h2 => by omega, fun _ => rfl⟩
theorem ZUl (a1 : List ZB) (p : ZB) : ZFg a1 p = QM a1 p := by
  have : ∀ n v, ZBg a1 p n v = xz a1 p n v := by
    intro n
    induction n with
    | zero => intro v; rfl
    | succ n ih => intro v; simp only [ZBg, xz, ih, ZDn, ZIF]
  simp only [ZFg, QM, this]
theorem ZSR (a0 : ZF) (a1 : List ZB) (l : List Za) : ∀ n s v, jr a0 a1 l n s v = bif ZMd a0 a1 l n v then (match X4 a0.ZT l n s v with | .inl _ => .inl (0, false) | .inr z => .inr z) else .inl (0, false)
  | 0, s, v => rfl
  | n + 1, s, v => by
    simp only [jr, X4, ZMd, ZMP, ZJu, ZNS, ZUl]
    cases decide ((v : Int) < (l.length : Int)) with
    | false => rfl
    | true =>
      simp only [cond_true]
      rw [ZSR a0 a1 l n]
      rw [show (decide ((v : Int) > 0) && decide ((nth l (v - 1)).Authority ≥ (nth l v).Authority)) = ZS9 l v from rfl, show QM a1 (JA (Xj a0.ZT (nth l v)) (nth l v)) = ZSv a0 a1 (nth l v) from rfl]
      cases (KA a0.ZT (nth l v)).2 <;> cases ZS9 l v <;> cases ZSv a0 a1 (nth l v) <;> cases ZMd a0 a1 l n (v + 1) <;> rfl
theorem ZSF (l : List Za) : XB l = true ↔ ∀ i, 1 ≤ i → i < l.length → decide ((nth l (i - 1)).Authority ≥ (nth l i).Authority) = false := by
  unfold XB
  refine Iff.trans (kn (L := Qo l) (len := l.length) (c := fun v => decide ((nth l (v - 1)).Authority ≥ (nth l v).Authority)) (fun _ => rfl) (fun _ _ => rfl) (l.length + 1) 1 (by omega) true) ?_
  simp
theorem ZVx (a0 : ZF) (a1 : ZI) (a2 : List ZB) (k : Nat) : ∀ n b v, (nth a1.Zz k).length < n + v → (QC a0 a1 a2 k n b v = true ↔ b = true ∧ ∀ i, v ≤ i → i < (nth a1.Zz k).length → ZSv a0 a2 (nth (nth a1.Zz k) i) = true) ∨ n = 0
  | 0, _, _, _ => .inr rfl
  | n + 1, b, v, h => by
    left
    simp only [QC]
    by_cases hv : v < (nth a1.Zz k).length
    · rw [show decide ((v : Int) < ((nth a1.Zz k).length : Int)) = true by simpa using hv, cond_true]
      rcases ZVx a0 a1 a2 k n (b && ZSv a0 a2 (nth (nth a1.Zz k) v)) (v + 1) (by omega) with e | e
      · refine Iff.trans e ?_
        rw [Bool.and_eq_true]
        constructor
        · rintro ⟨⟨h1, h2⟩, h3⟩
          refine ⟨h1, fun i h4 h5 => ?_⟩
          rcases Nat.eq_or_lt_of_le h4 with rfl | h4
          · exact h2
          · exact h3 i h4 h5
        · rintro ⟨h1, h2⟩
          exact ⟨⟨h1, h2 v (Nat.le_refl _) hv⟩, fun i h4 h5 => h2 i (by omega) h5⟩
      · omega
    · rw [show decide ((v : Int) < ((nth a1.Zz k).length : Int)) = false by simpa using hv, cond_false]
      exact ⟨fun hb => ⟨hb, fun i h1 h2 => by omega⟩, fun hb => hb.1⟩
theorem ZVF (a0 : ZF) (a1 : ZI) (a2 : List ZB) (k : Nat) : ZMd a0 a2 (nth a1.Zz k) ((nth a1.Zz k).length + 1) 0 = (XB (nth a1.Zz k) && QC a0 a1 a2 k ((nth a1.Zz k).length + 1) true 0) := by
  rw [Bool.eq_iff_iff, Bool.and_eq_true, ZOD _ _ _ _ _ (by omega), ZSF]
  rcases ZVx a0 a1 a2 k ((nth a1.Zz k).length + 1) true 0 (by omega) with e | e
  · rw [e]
    constructor
    · intro h
      refine ⟨fun i h1 h2 => ?_, rfl, fun i h1 h2 => (h i h1 h2).2⟩
      have := (h i (Nat.zero_le _) h2).1
      unfold ZS9 at this
      rwa [show decide ((i : Int) > 0) = true by simp; omega, Bool.true_and] at this
    · rintro ⟨h1, _, h3⟩ i _ h5
      refine ⟨?_, h3 i (Nat.zero_le _) h5⟩
      unfold ZS9
      by_cases hi : 0 < i
      · rw [h1 i hi h5, Bool.and_false]
      · rw [show decide ((i : Int) > 0) = false by simp; omega]; rfl
  · omega
theorem ZMg (a0 : List ZE) (l : List Za) : ∀ n s v r, X4 a0 l n s v = .inl r → r = (ZD.mk 0 0, false)
  | 0, _, _, _, h => by cases h
  | n + 1, s, v, r, h => by
    simp only [X4] at h
    cases hc : decide ((v : Int) < (l.length : Int)) with
    | false => rw [hc] at h; cases h
    | true =>
      cases hb : (!(KA a0 (nth l v)).2) with
      | true => rw [hc, hb] at h; cases h; rfl
      | false => rw [hc, hb] at h; exact ZMg a0 l n _ _ r h
theorem ZUX (a0 : ZF) (a1 : ZI) (a2 : List ZB) (k : Nat) (h : Sm maxLen a1) : KQ a0 a2 (nth a1.Zz k) = bif (XB (nth a1.Zz k) && QC a0 a1 a2 k ((nth a1.Zz k).length + 1) true 0) then ((QK a0.ZT (nth a1.Zz k) a0.Q6).1.YQ, (QK a0.ZT (nth a1.Zz k) a0.Q6).2) else (0, false) := by
  unfold KQ QK
  rw [ZSR, ZVF]
  cases (XB (nth a1.Zz k) && QC a0 a1 a2 k ((nth a1.Zz k).length + 1) true 0) with
  | false => rfl
  | true =>
    simp only [cond_true]
    cases hh : X4 a0.ZT (nth a1.Zz k) ((nth a1.Zz k).length + 1) [] 0 with
    | inl r => rw [ZMg _ _ _ _ _ _ hh]
    | inr z =>
      simp only
      rw [ZEj _ _ (Nat.le_trans (ZDd a0.ZT (nth a1.Zz k) _ _ 0 (by simp) (by omega) z hh) (Yw (Z2 (ZI.j9 h))))]
theorem ZKu (a0 : ZF) (a1 : ZI) (a2 : List ZB) (a3 : ZY) (ha : (a3.xD == 0) = true) : ∀ (n : Nat) (x : Int) (v : Nat), a1.Zz.length < n + v → v ≤ a1.Zz.length → QE a0 a1 a2 a3 n x v = x
  | 0, _, _, h1, h2 => by omega
  | n + 1, x, v, h1, h2 => by
    simp only [QE]
    by_cases hv : v < a1.Zz.length
    · rw [show decide ((v : Int) < (a1.Zz.length : Int)) = true by simpa using hv, ha]
      exact ZKu a0 a1 a2 a3 ha n x (v + 1) (by omega) hv
    · rw [show decide ((v : Int) < (a1.Zz.length : Int)) = false by simpa using hv]; rfl
theorem ZSV (a0 : ZF) (a1 : ZI) (a2 : List ZB) (a3 : ZY) (h : Sm maxLen a1) : ∀ (n : Nat) (x : Int) (v : Nat), a1.Zz.length < n + v → v ≤ a1.Zz.length → QT a0 a1 a2 a3 n x v = QE a0 a1 a2 a3 n x v
  | 0, _, _, h1, h2 => by omega
  | n + 1, x, v, h1, h2 => by
    cases ha : (a3.xD == 0) with
    | true =>
      rw [ZKu a0 a1 a2 a3 ha (n + 1) x v h1 h2]
      simp only [QT, bne, ha, Bool.not_true, Bool.and_false, cond_false]
    | false =>
      simp only [QT, QE, ZAW, ZHV]
      rw [show (a3.xD != 0) = true by simp only [bne, ha, Bool.not_false], ha, Bool.and_true, Bool.false_or]
      by_cases hv : v < a1.Zz.length
      · rw [show decide ((v : Int) < (a1.Zz.length : Int)) = true by simpa using hv]
        have ih := fun x => ZSV a0 a1 a2 a3 h n x (v + 1) (by omega) hv
        simp only [cond_true, ih, ZUX a0 a1 a2 v h]
        cases (KX a3.Method (nth a1.Zz v) != a3.xD) with
        | true => simp only [cond_true, Bool.or_true]
        | false =>
          simp only [cond_false, Bool.or_false]
          cases XB (nth a1.Zz v) with
          | false => rfl
          | true =>
            simp only [Bool.true_and, Bool.not_true, cond_false]
            cases QC a0 a1 a2 v ((nth a1.Zz v).length + 1) true 0 with
            | false => rfl
            | true => rfl
      · rw [show decide ((v : Int) < (a1.Zz.length : Int)) = false by simpa using hv]; rfl
theorem ZSL (a0 : ZF) (a1 : ZI) (a2 : List ZB) (a3 : ZY) : ∀ (n : Nat) (x : Int) (v : Nat), zE a0 a1 a2 a3 n x v = QT a0 a1 a2 a3 n x v
  | 0, _, _ => rfl
  | n + 1, x, v => by simp only [QT, zE, ZSL a0 a1 a2 a3 n]
theorem ZSY (a0 : ZF) (a1 : ZI) (a2 : List ZB) (k : Nat) : ∀ (n : Nat) (x : Bool) (v : Nat), qn a0 a1 a2 k n x v = QC a0 a1 a2 k n x v
  | 0, _, _ => rfl
  | n + 1, x, v => by simp only [qn, QC, ZSY a0 a1 a2 k n]
theorem ZSS (a0 : ZF) (a1 : ZI) (a2 : List ZB) (a3 : ZY) : ∀ (n : Nat) (x : Int) (v : Nat), zL a0 a1 a2 a3 n x v = QE a0 a1 a2 a3 n x v
  | 0, _, _ => rfl
  | n + 1, x, v => by simp only [zL, QE, ZSY, ZSS a0 a1 a2 a3 n]
theorem ZLw (a0 : ZF) (a1 : ZI) (a2 : List ZB) (a3 : ZY) (h : Sm maxLen a1) : Xu a0 a1 a2 a3 = Xt a0 a1 a2 a3 := by
  simp only [Xu, Xt, ZEV, ZSL, ZSS, ZSV a0 a1 a2 a3 h (a1.Zz.length + 1) _ 0 (by omega) (Nat.zero_le _)]

@[simp] theorem ZRX (a0 : List ZB) (a1 : YH) : ∀ (n : Nat) (v0 : List Zy) (v1 : Nat), Jk a0 a1 n v0 v1 = Jm a0 a1 n v0 v1 := by
  intro n
  induction n with
  | zero => intros; rfl
  | succ n ih => intros; simp [Jk, Jm, ih, ByteArray.append_assoc]
@[simp] theorem ZIg (a0 : List ZB) (a1 : YH) : JB a0 a1 = JC a0 a1 := by simp [JB, JC]
theorem ZHL (a0 : List Zy) (a1 : Int) : ∀ (n : Nat) (v0 v1 v2 : Int) (i : Nat), (xg a0 a1 n v0 v1 v2 i).2 = xu a0 a1 n v1 v2 i
  | 0, _, _, _, _ => rfl
  | n + 1, v0, v1, v2, i => by
    simp only [xg, xu, ZAW]
    cases decide ((i : Int) < (a0.length : Int)) with
    | false => rfl
    | true =>
      cases ((nth a0 i).YO != a1) with
      | true => exact ZHL a0 a1 n _ _ _ _
      | false =>
        simp only [cond_true, cond_false]
        rw [show decide ((nth a0 i).XH ≥ 0) = !decide ((nth a0 i).XH < 0) by rw [← decide_not]; simp]
        cases decide ((nth a0 i).XH < 0) with
        | true => exact ZHL a0 a1 n _ _ _ _
        | false =>
          simp only [cond_false, Bool.not_false, cond_true]
          cases (decide (v0 < 0) || decide ((nth a0 i).XH < v0)) <;> exact ZHL a0 a1 n _ _ _ _
@[simp] theorem ZO5 (a0 : List Zy) (a1 : Int) : Qk a0 a1 = Xp a0 a1 := by
  unfold Qk Xp jo
  have h := ZHL a0 a1 (a0.length + 1) (-1) (-1) (-1) 0
  rw [← h]
  simp only [ZAW]

theorem ZTl (l : List ZD) : ∀ (n : Nat) (v0 : List ZD) (v1 : Nat) (x y : Int), jY l n v0 v1 x y = yK l n v0 v1 x y
  | 0, _, _, _, _ => rfl
  | n + 1, v0, v1, x, y => by simp only [jY, yK, ZDF, ZAW, ZTl l n]
theorem ZUL (l : List ZD) (x : Int) : ∀ (n v : Nat), ZDO l x n v = ZAd l x n v
  | 0, _ => rfl
  | n + 1, v => by simp only [ZDO, ZAd, ZUL l x n]
theorem ZTx (a0 : List ZD) : ∀ (n : Nat) (v0 : List ZD) (v1 : Nat), yM a0 n v0 v1 = yI a0 n v0 v1
  | 0, _, _ => rfl
  | n + 1, v0, v1 => by
    simp only [yM, yI, ZEe, ZTl, ZUL, ZCS, ZTx a0 n]
    cases decide ((v1 : Int) < (a0.length : Int)) <;> cases YZ (nth a0 v1) <;> rfl
@[simp] theorem ZOn (a0 : List ZD) : Xm a0 = XU a0 := by simp only [Xm, XU, ZTx]

theorem ZWO (a : List ZD) (b c : Int) : XM a b c = Zh b c a := by
  simp only [XM, Zh, ZNj]
  cases (Jh b c).2 <;> rfl
@[simp] theorem ZUy (a0 : YH) (a1 : List Zy) : xm a0 a1 = xo a0 a1 := by
  simp only [xm, xo, ZWO, ZOn, ZO5]

@[simp] theorem ZUt (a0 : ZD) (a1 : ZD) : ZBj a0 a1 = jG a0 a1 := by simp [ZBj, jG]
@[simp] theorem ZSj (a0 : List ZD) (a1 : ZD) : ∀ (n : Nat) (v0 : Nat), xp a0 a1 n v0 = zx a0 a1 n v0 := by
  intro n
  induction n with
  | zero => intros; rfl
  | succ n ih => intros; simp [xp, zx, ih, ByteArray.append_assoc]
@[simp] theorem ZJc (a0 : List ZD) (a1 : ZD) : yh a0 a1 = JF a0 a1 := by simp [yh, JF]
@[simp] theorem ZNF (a0 : YH) (a1 : List Zy) (a2 : ZD) : ZBy a0 a1 a2 = ZBd a0 a1 a2 := by simp [ZBy, ZBd]
theorem ZF7 (a0 : List Zy) (a1 : Int) : ∀ (n : Nat) (v0 v1 v2 : Int) (i : Nat), ((xg a0 a1 n v0 v1 v2 i).1, (xg a0 a1 n v0 v1 v2 i).2.2) = J8 a0 a1 n v0 v2 i
  | 0, _, _, _, _ => rfl
  | n + 1, v0, v1, v2, i => by
    simp only [xg, J8, ZAW]
    cases decide ((i : Int) < (a0.length : Int)) with
    | false => rfl
    | true =>
      cases ((nth a0 i).YO != a1) with
      | true => exact ZF7 a0 a1 n _ _ _ _
      | false =>
        simp only [cond_true, cond_false]
        cases decide ((nth a0 i).XH < 0) with
        | true => exact ZF7 a0 a1 n _ _ _ _
        | false =>
          simp only [cond_false]
          cases (decide (v0 < 0) || decide ((nth a0 i).XH < v0)) <;> exact ZF7 a0 a1 n _ _ _ _
@[simp] theorem ZK6 (a0 : List Zy) (a1 : Int) : K8 a0 a1 = xP a0 a1 := by
  unfold K8 xP jo
  have h := ZF7 a0 a1 (a0.length + 1) (-1) (-1) (-1) 0
  rw [← h]

theorem ZFB (s : ZD) : YZ s = true ↔ 0 ≤ s.YQ ∧ s.YQ ≤ s.To ∧ s.To ≤ 10000 := by
  simp [YZ, zp, ZW]; omega
@[simp] theorem ZUP (a0 a1 : ZD) : Kp a0 a1 = Qm a0 a1 := by
  unfold Kp Qm
  simp only [ZCS]
  cases h0 : YZ a0 with
  | false => rfl
  | true =>
    cases h1 : YZ a1 with
    | false => rfl
    | true =>
      rw [ZFB] at h0 h1
      simp only [ZAW, ZDF, Bool.not_true, Bool.or_false, Bool.false_or, cond_false]
      generalize hf : (if a1.YQ > a0.YQ then a1.YQ else a0.YQ) = f
      generalize ht : (if a1.To < a0.To then a1.To else a0.To) = t
      have hf' : 0 ≤ f ∧ f ≤ 10000 := by split at hf <;> omega
      have ht' : 0 ≤ t ∧ t ≤ 10000 := by split at ht <;> omega
      unfold Xo
      simp only [ZAW, ZDF]
      rw [show (if f > 0 then f else 0) = f by split <;> omega, show (if t < 10000 then t else 10000) = t by split <;> omega]
      by_cases hft : f ≤ t
      · rw [show decide (f > t) = false by simp; omega, show YZ (ZD.mk f t) = true from (ZFB _).2 ⟨hf'.1, hft, ht'.2⟩]; rfl
      · rw [show decide (f > t) = true by simp; omega, show YZ (ZD.mk f t) = false by
          cases hs : YZ (ZD.mk f t) with
          | false => rfl
          | true => rw [ZFB] at hs; exact absurd hs.2.1 hft]
        rfl

@[simp] theorem ZUe (a0 : List ZD) (a1 : List ZD) (v1_1 : Nat) : ∀ (n : Nat) (v0 : List ZD) (v1 : Nat), jV a0 a1 v1_1 n v0 v1 = Kt a0 a1 v1_1 n v0 v1 := by
  intro n
  induction n with
  | zero => intros; rfl
  | succ n ih => intros; simp [jV, Kt, ih, ByteArray.append_assoc]
@[simp] theorem ZTm (a0 : List ZD) (a1 : List ZD) : ∀ (n : Nat) (v0 : List ZD) (v1 : Nat), ZAS a0 a1 n v0 v1 = jU a0 a1 n v0 v1 := by
  intro n
  induction n with
  | zero => intros; rfl
  | succ n ih => intros; simp [ZAS, jU, ih, ByteArray.append_assoc]
@[simp] theorem ZO1 (a0 : List ZD) (a1 : List ZD) : ZBW a0 a1 = ks a0 a1 := by simp [ZBW, ks]
theorem ZON (c d : ZD) (h : YZ d = false) : ks [c] [d] = [] := by
  have hm : (Qm c d).2 = false := by unfold Qm; rw [h]; cases YZ c <;> rfl
  have h2 : Kt [c] [d] 0 2 [] 0 = [] := by
    show (bif true then (bif (Qm c d).2 then _ else Kt [c] [d] 0 1 [] 1) else []) = []
    rw [hm]; rfl
  show XU (jU [c] [d] 1 (Kt [c] [d] 0 2 [] 0) 1) = []
  rw [h2]; rfl
@[simp] theorem ZUM (a0 : YH) (a1 : List Zy) : yL a0 a1 = yN a0 a1 := by
  simp only [yL, yN, ZK6, ZO1, ZMl]
  generalize xP a1 a0.YO = g
  unfold Xo
  simp only [ZAW, ZDF]
  by_cases h1 : g < 0
  · have hs : YZ (ZD.mk 0 g) = false := by
      cases hc : YZ (ZD.mk 0 g) with
      | false => rfl
      | true => rw [ZFB] at hc; simp at hc; omega
    rw [ZON _ _ hs]
    rw [show decide ((if (0 : Int) > 0 then (0 : Int) else 0) > (if g < 10000 then g else 10000)) = true by simp; omega]
    rfl
  · by_cases h2 : g > 10000
    · have hs : YZ (ZD.mk 0 g) = false := by
        cases hc : YZ (ZD.mk 0 g) with
        | false => rfl
        | true => rw [ZFB] at hc; simp at hc; omega
      rw [ZON _ _ hs, show decide (g > 10000) = true by simpa using h2, Bool.or_true]; rfl
    · rw [show decide (g > 10000) = false by simpa using h2, show (if g < 10000 then g else 10000) = g by split <;> omega, show decide ((if (0 : Int) > 0 then (0 : Int) else 0) > g) = false by simp; omega]
      rfl

@[simp] theorem ZJa (a0 : YH) (a1 : List Zy) (a2 : ZD) : kA a0 a1 a2 = kK a0 a1 a2 := by simp [kA, kK]
@[simp] theorem ZSN (a0 : List ZB) : ∀ (n : Nat) (v0 : List Z1) (v1 : Nat), KO a0 n v0 v1 = KV a0 n v0 v1 := by
  intro n
  induction n with
  | zero => intros; rfl
  | succ n ih => intros; simp [KO, KV, ih, ByteArray.append_assoc]
@[simp] theorem ZKA (a0 : List ZB) : ym a0 = yg a0 := by simp [ym, yg]
@[simp] theorem ZUs (a0 : Z1) : ZAh a0 = ZAf a0 := by simp [ZAh, ZAf]
@[simp] theorem ZTS (a0 : Z1) : JE a0 = JH a0 := by simp [JE, JH]
@[simp] theorem ZSb (a0 : List YC) (a1 : Z1) : xe a0 a1 = xh a0 a1 := by simp [xe, xh]
@[simp] theorem ZRJ (a0 : List YC) (a1 : List Z1) (a2 : Int) (a3 : Int) : ∀ (n : Nat) (v0 : List ZD) (v1 : Nat), Qt a0 a1 a2 a3 n v0 v1 = Qr a0 a1 a2 a3 n v0 v1 := by
  intro n
  induction n with
  | zero => intros; rfl
  | succ n ih => intros; simp [Qt, Qr, ih, ByteArray.append_assoc]
@[simp] theorem ZHm (a0 : List YC) (a1 : List Z1) (a2 : Int) (a3 : Int) : KS a0 a1 a2 a3 = JP a0 a1 a2 a3 := by simp [KS, JP]
theorem ZQ3 (l : List ZD) (s : ZD) (h : JF l s = true) : YZ s = true := by
  unfold JF at h
  obtain ⟨i, _, _, h3⟩ := (ZNw (L := zx l s) (len := (XU l).length) (c := fun v => jG s (nth (XU l) v)) (fun _ => rfl) (fun _ _ => rfl) ((XU l).length + 1) 0 (by omega)).1 h
  unfold jG at h3
  simp only [Bool.and_eq_true] at h3
  exact h3.1.1.1
@[simp] theorem ZJv (a0 : List YC) (a1 : List Z1) (a2 a3 : Int) (a4 : ZD) : js a0 a1 a2 a3 a4 = kP a0 a1 a2 a3 a4 := by
  simp only [js, kP, ZCS, ZJc, ZHm]
  cases (a2 == 0) with
  | false => rfl
  | true =>
    simp only [cond_true, Bool.true_and]
    cases hc : JF (JP a0 a1 a2 a3) a4 with
    | false => simp
    | true => rw [ZQ3 _ _ hc]; rfl

theorem ZHt (a0 : ZF) (a1 : ZI) (a2 : List (List Int)) (a3 : Int) (a4 : ZY) (h : Sm maxLen a1) : xi a0 a1 a2 a3 a4 = xw a0 a1 a2 a3 a4 := by
  unfold xi xw ki
  simp only [ZPK, ZIO, ZEV, ZGE, ZHl a0 a1 a2 h, ZBc a0 a1 a2 _ h, ZLw a0 a1 _ a4 h, ZG6, ZMW, ZPd, ZNF, ZIg, ZJa, ZJv, ZKA]
  cases ZBX a0 with
  | false => rfl
  | true =>
    cases zR a4 with
    | false => rfl
    | true =>
      cases decide (a3 < 0) with
      | true => rfl
      | false =>
        cases (a3 != a4.XC) with
        | true => rfl
        | false =>
          cases hk : decide (Y5 a0.Y3 a4.Key < 0) with
          | true => rfl
          | false =>
            cases KK a0.Y3 a4 with
            | false => rfl
            | true =>
              rw [show J4 a0 a4.Key = zd a0.Methods (nth a0.Y3 (Y5 a0.Y3 a4.Key).toNat).Method by unfold J4; rw [hk]; rfl]
              rfl

theorem ZRO (a0 : ZF) (a1 : ZI) (a2 : Zg) (a3 : ZY) (h : Sm maxLen a1) : ZHZ a0 a1 a2 a3 = ZHF a0 a1 a2 a3 := by
  simp only [ZHZ, ZHF, ZGs, ZK4, ZHt a0 a1 _ _ a3 h]

theorem ZFH (a0 : ZF) (a1 : Z3) (h : Sm maxLen a1) : Kr a0 a1 = Ks a0 a1 := by
  simp only [Kr, Ks, ZHM]
  refine ZRO _ _ _ _ ⟨⟨Nat.le_of_ble_eq_true rfl, fun x hx => ?_⟩, ⟨Nat.zero_le _, fun x hx => by cases hx⟩⟩
  rcases List.mem_cons.1 hx with rfl | hx
  · exact Z3.XZ h
  · cases hx

@[simp] theorem ZIw (a0 : Int) : JD a0 = JG a0 := by simp [JD, JG]
@[simp] theorem ZKH (a0 : Int) : Ju a0 = J3 a0 := by simp [Ju, J3]
@[simp] theorem ZGZ (a0 : Yf) : Je a0 = Ji a0 := by
  unfold Je Ji
  simp only [ZIw, ZKH, jt]
  cases h1 : (a0.Span.YQ == 0) <;> cases h2 : (a0.Span.To == 0) <;> simp only [bne, h1, h2, Bool.not_true, Bool.not_false, Bool.or_true, Bool.true_or, Bool.or_false, Bool.and_true, Bool.and_false, cond_true, cond_false]

@[simp] theorem ZKR (a0 : ZF) (a1 : Z3) (h : Sm maxLen a1) : Jz a0 a1 = Qi a0 a1 := by
  simp only [Jz, Qi, jt, ZGZ, ZFH a0 a1 h]

theorem ZJG (a0 : ZF) (a1 : Zc) (h : Sm maxLen a1) (l : List ByteArray) (hl : l = a1.Z5.map (Qi a0)) : ∀ n v i, Jd a0 a1 n v i = KY l ⟨#[59, 32]⟩ n v i
  | 0, _, _ => rfl
  | n + 1, v, i => by
    have e : l.length = a1.Z5.length := by rw [hl, List.length_map]
    simp only [Jd, KY, ZJG a0 a1 h l hl n, e]
    by_cases hi : i < a1.Z5.length
    · have hn : nth l i = Qi a0 (nth a1.Z5 i) := by rw [hl]; exact ZPJ hi
      rw [hn, ZKR a0 (nth a1.Z5 i) (Z2 (Zc.qt h))]
    · rw [show decide ((i : Int) < (a1.Z5.length : Int)) = false by simpa using hi]; rfl
@[simp] theorem ZRu (a0 : ZF) (a1 : Zc) (h : Sm maxLen a1) : yp a0 a1 = yx a0 a1 := by
  have hi := ZDm (as := a1.Z5) (fun x => [Qi a0 x]) (F := fun n i l => xC a0 a1 n l i) (fun _ _ _ => rfl) (a1.Z5.length + 1) 0 [] (by omega) (Nat.zero_le _)
  rw [List.drop_zero, ZIB, List.nil_append] at hi
  unfold yp yx
  rw [ZJG a0 a1 h _ rfl]
  simp only [hi, ZHR, xX, List.length_map]

@[simp] theorem ZTh (a0 : Zc) (a1 : Int) : ∀ (n : Nat) (v0 : Nat), qM a0 a1 n v0 = qC a0 a1 n v0 := by
  intro n
  induction n with
  | zero => intros; rfl
  | succ n ih => intros; simp [qM, qC, ih, ByteArray.append_assoc]
@[simp] theorem ZUw (a0 : Zc) (a1 : Int) : xR a0 a1 = xK a0 a1 := by simp [xR, xK]
@[simp] theorem ZUv (a0 : YD) (a1 : Int) : ∀ (n : Nat) (v0 : Nat), xV a0 a1 n v0 = xH a0 a1 n v0 := by
  intro n
  induction n with
  | zero => intros; rfl
  | succ n ih => intros; simp [xV, xH, ih, ByteArray.append_assoc]
@[simp] theorem ZPx (a0 : YD) (a1 : Int) : QZ a0 a1 = QY a0 a1 := by simp [QZ, QY]
@[simp] theorem ZIG (a0 : YD) (a1 : Int) (h : Sm maxLen a0) : zN a0 a1 = zP a0 a1 := by
  simp only [zN, zP, ZPx]
  rw [ZFH _ _ (Z2 (Zc.qt (Z2 (YD.ZCm h))))]

@[simp] theorem ZGY (a0 : YD) (a1 : Int) (h : Sm maxLen a0) : XQ a0 a1 = Xw a0 a1 := by
  have e1 := ZOe a0
  have e2 := ZNP a0
  have hn : ∀ i, i < (X1 a0).length → nth (KZ a0) i = (nth (X1 a0) i).Id := fun i hi => by
    rw [ZGM, show a0.ZH.flatMap (fun a => a.Z5.map (·.Id)) = (X1 a0).map (·.Id) by rw [ZE6, List.map_flatMap]]
    exact ZPJ hi
  have hl : ∀ n v i, Jc a0 a1 n v i = JY a0 a1 n v i := by
    intro n
    induction n with
    | zero => intros; rfl
    | succ n ih =>
      intro v i
      simp only [Jc, JY, ih, e1, e2]
      by_cases hi : i < (X1 a0).length
      · rw [hn i hi, ZIG a0 _ h]
      · rw [show decide ((i : Int) < ((itn a0.ZH : Nat) : Int)) = false by rw [← e2]; simpa using hi]; rfl
  simp only [XQ, Xw, hl, e1, e2]

theorem ZDz (a0 : YD) (l : List ByteArray) (hl : l = a0.ZH.map (fun a => XJ (a.Z5.length : Int))) (p : ByteArray) : ∀ n v i, a0.ZH.length < n + i → i ≤ a0.ZH.length → Kn a0 n (p ++ v) i = p ++ KY l ⟨#[43]⟩ n v i
  | 0, _, _, h, h2 => by omega
  | n + 1, v, i, h, h2 => by
    have e : l.length = a0.ZH.length := by rw [hl, List.length_map]
    simp only [Kn, KY, e, jt]
    by_cases hi : i < a0.ZH.length
    · have hn : nth l i = XJ ((nth a0.ZH i).Z5.length : Int) := by rw [hl]; exact ZPJ hi
      rw [show decide ((i : Int) < (a0.ZH.length : Int)) = true by simpa using hi, ZC2, ZC2, hn]
      cases decide ((i : Int) > 0)
      · rw [ZCz, ZCz, ByteArray.append_assoc]; exact ZDz a0 l hl p n _ _ (by omega) hi
      · rw [ZC2, ZC2, ByteArray.append_assoc, ByteArray.append_assoc, ← ByteArray.append_assoc (a := v)]; exact ZDz a0 l hl p n _ _ (by omega) hi
    · rw [show decide ((i : Int) < (a0.ZH.length : Int)) = false by simpa using hi, ZCz, ZCz]
theorem ZRG (x y z : ByteArray) : xX [x, y, z] ⟨#[47]⟩ = x ++ ⟨#[47]⟩ ++ y ++ ⟨#[47]⟩ ++ z := by
  have e : ∀ x : ByteArray, (⟨#[]⟩ : ByteArray) ++ x = x := fun x => ByteArray.empty_append
  simp [xX, KY, nth, e]
@[simp] theorem ZS2 (a0 : YD) (h : Sm maxLen a0) : qp a0 = qo a0 := by
  have hi := ZDm (as := a0.ZH) (fun x => [XJ (x.Z5.length : Int)]) (F := fun n i l => qz a0 n l i) (fun _ _ _ => rfl) (a0.ZH.length + 1) 0 [] (by omega) (Nat.zero_le _)
  rw [List.drop_zero, ZIB, List.nil_append] at hi
  have h3 : yz a0 5 [] 1 = [XJ (Xw a0 1), XJ (Xw a0 2), XJ (Xw a0 3)] := by
    simp [yz]
  have hj := ZDz a0 _ rfl (XJ a0.Frame.Now ++ ⟨#[32]⟩) (a0.ZH.length + 1) ⟨#[]⟩ 0 (by omega) (Nat.zero_le _)
  have hz : ∀ x : ByteArray, x ++ (⟨#[]⟩ : ByteArray) = x := fun x => ByteArray.append_empty
  rw [hz] at hj
  unfold qp qo
  simp only [hi, h3, jt, hj, ZGY a0 _ h, ZRG]
  simp only [xX, List.length_map, ByteArray.append_assoc]

end Go.Mo
