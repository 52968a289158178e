/- The models of the program and of the reference agree. No condition. -/
import Derived.Test.YtfhmpplolpejnaaGreatL
namespace Go.Mo
open Go.Vm
set_option linter.unusedSimpArgs false
set_option linter.unusedVariables false
theorem cond_neg (x : Int) {α : Type} (a b : α) : (bif decide (x < 0) then a else b) = (bif decide (0 ≤ x) then b else a) := by
  by_cases h : x < 0
  · rw [show decide (x < 0) = true by simpa using h, show decide (0 ≤ x) = false by simpa using h]; rfl
  · rw [show decide (x < 0) = false by simpa using h, show decide (0 ≤ x) = true by simp; omega]; rfl
/-- a loop that looks whether one of the places is bad -/
theorem B2 {L : Nat → Nat → Sum Bool Unit} {len : Nat} {c : Nat → Bool} (h0 : ∀ v, L 0 v = .inr ()) (hs : ∀ n v, L (n + 1) v = (bif decide ((v : Int) < (len : Int)) then (bif c v then .inl false else L n (v + 1)) else .inr ())) :
    ∀ n v, len < n + v → (L n v = .inr () ∧ ∀ i, v ≤ i → i < len → c i = false) ∨ (L n v = .inl false ∧ ∃ i, v ≤ i ∧ i < len ∧ c i = true)
  | 0, v, h => .inl ⟨h0 v, fun i h1 h2 => by omega⟩
  | n + 1, v, h => by
    rw [hs]
    by_cases hv : v < len
    · rw [show decide ((v : Int) < (len : Int)) = true by simpa using hv]
      cases hc : c v with
      | true => exact .inr ⟨rfl, v, Nat.le_refl _, hv, hc⟩
      | false =>
        rcases B2 h0 hs n (v + 1) (by omega) with ⟨e, k⟩ | ⟨e, i, k1, k2, k3⟩
        · refine .inl ⟨e, fun i h1 h2 => ?_⟩
          rcases Nat.eq_or_lt_of_le h1 with rfl | h1
          · exact hc
          · exact k i h1 h2
        · exact .inr ⟨e, i, by omega, k2, k3⟩
    · rw [show decide ((v : Int) < (len : Int)) = false by simpa using hv]
      exact .inl ⟨rfl, fun i h1 h2 => by omega⟩
/-- a loop that looks for the first place -/
theorem MH {β : Type} {L : Nat → Nat → Sum β Unit} {len : Nat} {c : Nat → Bool} {r : Nat → β} (h0 : ∀ v, L 0 v = .inr ()) (hs : ∀ n v, L (n + 1) v = (bif decide ((v : Int) < (len : Int)) then (bif c v then .inl (r v) else L n (v + 1)) else .inr ())) :
    ∀ n v, len < n + v → (L n v = .inr () ∧ ∀ i, v ≤ i → i < len → c i = false) ∨ (∃ i, L n v = .inl (r i) ∧ v ≤ i ∧ i < len ∧ c i = true ∧ ∀ k, v ≤ k → k < i → c k = false)
  | 0, v, h => .inl ⟨h0 v, fun i h1 h2 => by omega⟩
  | n + 1, v, h => by
    rw [hs]
    by_cases hv : v < len
    · rw [show decide ((v : Int) < (len : Int)) = true by simpa using hv]
      cases hc : c v with
      | true => exact .inr ⟨v, rfl, Nat.le_refl _, hv, hc, fun k h1 h2 => by omega⟩
      | false =>
        rcases MH h0 hs n (v + 1) (by omega) with ⟨e, k⟩ | ⟨i, e, k1, k2, k3, k4⟩
        · refine .inl ⟨e, fun i h1 h2 => ?_⟩
          rcases Nat.eq_or_lt_of_le h1 with rfl | h1
          · exact hc
          · exact k i h1 h2
        · refine .inr ⟨i, e, by omega, k2, k3, fun k h1 h2 => ?_⟩
          rcases Nat.eq_or_lt_of_le h1 with rfl | h1
          · exact hc
          · exact k4 k h1 h2
    · rw [show decide ((v : Int) < (len : Int)) = false by simpa using hv]
      exact .inl ⟨rfl, fun i h1 h2 => by omega⟩
/-- the same, as a Boolean -/
theorem kY {L : Nat → Nat → Sum Bool Unit} {len : Nat} {c : Nat → Bool} (h0 : ∀ v, L 0 v = .inr ()) (hs : ∀ n v, L (n + 1) v = (bif decide ((v : Int) < (len : Int)) then (bif c v then .inl false else L n (v + 1)) else .inr ())) (n v : Nat) (h : len < n + v) (X : Bool) :
    (match L n v with | .inl r => r | .inr _ => X) = true ↔ (∀ i, v ≤ i → i < len → c i = false) ∧ X = true := by
  rcases B2 h0 hs n v h with ⟨e, k⟩ | ⟨e, i, k1, k2, k3⟩
  · rw [e]; simp only; exact ⟨fun hx => ⟨k, hx⟩, fun hx => hx.2⟩
  · rw [e]; simp only
    constructor
    · intro hx; cases hx
    · intro hx; rw [hx.1 i k1 k2] at k3; cases k3
theorem Mr {L : Nat → Nat → Sum Bool Unit} {len : Nat} {c : Nat → Bool} (h0 : ∀ v, L 0 v = .inr ()) (hs : ∀ n v, L (n + 1) v = (bif decide ((v : Int) < (len : Int)) then (bif c v then .inl true else L n (v + 1)) else .inr ())) (n v : Nat) (h : len < n + v) :
    (match L n v with | .inl r => r | .inr _ => false) = true ↔ ∃ i, v ≤ i ∧ i < len ∧ c i = true := by
  rcases MH (r := fun _ => true) h0 hs n v h with ⟨e, k⟩ | ⟨i, e, k1, k2, k3, k4⟩
  · rw [e]; simp only
    constructor
    · intro hx; cases hx
    · rintro ⟨i, h1, h2, h3⟩; rw [k i h1 h2] at h3; cases h3
  · rw [e]; exact ⟨fun _ => ⟨i, k1, k2, k3⟩, fun _ => rfl⟩
@[simp] theorem SJ (a0 a1 a2 : Int) : YG a0 a1 a2 = Ze a0 a1 a2 := rfl
@[simp] theorem Tp (a0 a1 : Int) : Vq a0 a1 = if a1 < a0 then a1 else a0 := by
  unfold Vq; by_cases h : a1 < a0 <;> simp [h]
@[simp] theorem u7 (a0 : Zf) (a1 : Int) : ∀ (n : Nat) (v0 : Nat), xw a0 a1 n v0 = qG a0 a1 n v0 := by
  intro n
  induction n with
  | zero => intros; rfl
  | succ n ih => intros; simp [xw, qG, ih, ByteArray.append_assoc]
@[simp] theorem rC (a0 : Zf) (a1 : Int) : xd a0 a1 = xR a0 a1 := by simp [xd, xR]
@[simp] theorem s9 (a0 : Zo) (a1 : Int) : ∀ (n : Nat) (v0 : Nat), xK a0 a1 n v0 = xV a0 a1 n v0 := by
  intro n
  induction n with
  | zero => intros; rfl
  | succ n ih => intros; simp [xK, xV, ih, ByteArray.append_assoc]
@[simp] theorem AP (a0 : Zo) (a1 : Int) : Q5 a0 a1 = Q0 a0 a1 := by simp [Q5, Q0]
@[simp] theorem O5 (a0 : Zm) : zy a0 = zp a0 := by simp [zy, zp]
@[simp] theorem uv (a0 : Zc) : yZ a0 = yg a0 := by
  rw [Bool.eq_iff_iff]
  have hs : yZ a0 = true ↔ _ := (kY (L := z5 a0) (fun _ => rfl) (fun _ _ => rfl) (a0.ZQ.length + 1) 0 (by omega) _).trans (and_congr_right fun _ => kY (L := zk a0) (fun _ => rfl) (fun _ _ => rfl) (a0.Zb.length + 1) 0 (by omega) _)
  rw [hs]
  unfold yg
  have hi : ∀ b : Bool, (bif b then false else (match z4 a0 (a0.ZQ.length + 1) 0 with | .inl r1 => r1 | .inr _ => true)) = true ↔ b = false ∧ _ := fun b => by
    cases b
    · exact (kY (L := z4 a0) (fun _ => rfl) (fun _ _ => rfl) (a0.ZQ.length + 1) 0 (by omega) true).trans (by simp only [true_and, and_true]; exact Iff.rfl)
    · simp
  refine Iff.trans ?_ (hi _).symm
  simp only [SJ, Bool.or_eq_false_iff, Bool.not_eq_false', Bool.and_eq_true, beq_iff_eq, bne_eq_false_iff_eq, Bool.not_eq_eq_eq_not, Bool.not_false]
  constructor
  · rintro ⟨h1, h2, h3, h4⟩
    exact ⟨⟨h3, h4⟩, fun i _ hi => ⟨h1 i (Nat.zero_le _) hi, h2 i (Nat.zero_le _) (by omega)⟩⟩
  · rintro ⟨⟨h3, h4⟩, h⟩
    exact ⟨fun i _ hi => (h i (Nat.zero_le _) hi).1, fun i _ hi => (h i (Nat.zero_le _) (by omega)).2, h3, h4⟩
@[simp] theorem nc (a0 : Int) (a1 : Int) : Bl a0 a1 = Bk a0 a1 := by simp [Bl, Bk]
@[simp] theorem pI (a0 : List Int) : ∀ (n : Nat) (v0 : Int) (v1 : Nat), PD a0 n v0 v1 = Pg a0 n v0 v1 := by
  intro n
  induction n with
  | zero => intros; rfl
  | succ n ih => intros; simp [PD, Pg, ih, ByteArray.append_assoc]
@[simp] theorem oW (a0 : List Int) : M8 a0 = MV a0 := by simp [M8, MV]
@[simp] theorem EC (a0 : Int) (a1 : List Int) : JS a0 a1 = JO a0 a1 := by simp [JS, JO]
theorem Nn (a1 : ByteArray) : ∀ (n : Nat) (p l : List Int) (v : Nat), a1.size < n + v → v ≤ a1.size → xP a1 n (p ++ l) v = p ++ xX a1.data.toList n l v := by
  intro n
  induction n with
  | zero =>
    intro p l v h hv
    omega
  | succ n ih =>
    intro p l v h hv0
    have hs : a1.size = a1.data.toList.length := (Array.length_toList).symm
    rw [xP, xX, ← hs]
    by_cases hv : v < a1.size
    · rw [show decide ((v : Int) < (a1.size : Int)) = true by simpa using hv]
      simp only [cond_true]
      rw [List.append_assoc, ih p _ (v + 1) (by omega) (by omega)]
      rfl
    · rw [show decide ((v : Int) < (a1.size : Int)) = false by simpa using hv]
      rfl
@[simp] theorem ux (a0 : Int) (a1 : ByteArray) (a2 : Int) : kE a0 a1 a2 = ja a0 a1 a2 := by
  have := Nn a1 (a1.size + 1) [a2] [] 0 (by omega) (by omega)
  simp only [List.append_nil] at this
  simp only [kE, ja, km, this, EC]
  rfl
@[simp] theorem vv (a0 : Int) (a1 : Zc) : ∀ (n : Nat) (v0 : List Int) (v1 : Nat), qZ a0 a1 n v0 v1 = qU a0 a1 n v0 v1 := by
  intro n
  induction n with
  | zero => intros; rfl
  | succ n ih => intros; simp [qZ, qU, ih, ByteArray.append_assoc]
@[simp] theorem Hv (a0 : Int) (a1 : Zc) : xA a0 a1 = xl a0 a1 := by simp [xA, xl]
@[simp] theorem vp (a0 : ZP) (a1 : Zc) : ∀ (n : Nat) (v0 : List Int) (v1 : Nat), Km a0 a1 n v0 v1 = Kg a0 a1 n v0 v1 := by
  intro n
  induction n with
  | zero => intros; rfl
  | succ n ih => intros; simp [Km, Kg, ih, ByteArray.append_assoc]
@[simp] theorem u5 (a0 : ZP) (a1 : Zc) : yh a0 a1 = K8 a0 a1 := by simp [yh, K8]
@[simp] theorem BZ (a0 : ZL) (a1 : Zc) : ∀ (n : Nat) (v0 : List (List Int)) (v1 : Nat), JC a0 a1 n v0 v1 = Q8 a0 a1 n v0 v1 := by
  intro n
  induction n with
  | zero => intros; rfl
  | succ n ih => intros; simp [JC, Q8, ih, ByteArray.append_assoc]
@[simp] theorem Ok (a0 : ZL) (a1 : Zc) : J7 a0 a1 = J2 a0 a1 := by simp [J7, J2]
@[simp] theorem pK (a0 : Int) : qX a0 = yF a0 := rfl
@[simp] theorem uz (a0 : Int) : jy a0 = j9 a0 := by simp [jy, j9]
@[simp] theorem pf (a0 : Zs) : N4 a0 = NO a0 := by simp [N4, NO]
@[simp] theorem sw (a0 : List Zs) : ∀ (n : Nat) (v0 : Nat), WM a0 n v0 = Wb a0 n v0 := by
  intro n
  induction n with
  | zero => intros; rfl
  | succ n ih => intros; simp [WM, Wb, ih, ByteArray.append_assoc]
@[simp] theorem rO (a0 : List Zs) : Td a0 = Tt a0 := by simp [Td, Tt]
@[simp] theorem BE (a0 : List ZG) : ∀ (n : Nat) (v0 : Nat), Kn a0 n v0 = Ka a0 n v0 := by
  intro n
  induction n with
  | zero => intros; rfl
  | succ n ih => intros; simp [Kn, Ka, ih, ByteArray.append_assoc]
@[simp] theorem Al (a0 : List ZG) : z9 a0 = zu a0 := by simp [z9, zu]
@[simp] theorem rD (a0 : Zh) : UP a0 = Vx a0 := by simp [UP, Vx]
@[simp] theorem vF (a0 : List Zh) : ∀ (n : Nat) (v0 : Nat), xN a0 n v0 = xD a0 n v0 := by
  intro n
  induction n with
  | zero => intros; rfl
  | succ n ih => intros; simp [xN, xD, ih, ByteArray.append_assoc]
@[simp] theorem u6 (a0 : List Zh) : jw a0 = jZ a0 := by simp [jw, jZ]
@[simp] theorem D2 (a0 : ZI) : VX a0 = Vj a0 := by simp [VX, Vj]
@[simp] theorem My (a0 : ZV) : zV a0 = zZ a0 := by simp [zV, zZ]
@[simp] theorem sT (a0 : List Zs) (a1 : Int) : ∀ (n : Nat) (v0 : Nat), jT a0 a1 n v0 = jF a0 a1 n v0 := by
  intro n
  induction n with
  | zero => intros; rfl
  | succ n ih => intros; simp [jT, jF, ih, ByteArray.append_assoc]
@[simp] theorem RD (a0 : List Zs) (a1 : Int) : Ys a0 a1 = Yx a0 a1 := by simp [Ys, Yx]
@[simp] theorem wy (a0 : ZV) : QH a0 = QJ a0 := by simp [QH, QJ]
@[simp] theorem tc (a0 : Int) (a1 : List Int) : We a0 a1 = WY a0 a1 := by simp [We, WY]
@[simp] theorem rA (a0 : Zs) (a1 : List Int) : ke a0 a1 = V8 a0 a1 := by simp [ke, V8]
@[simp] theorem Pe (a0 : List Zs) (a1 : Int) (a2 : List Int) (a3 : Int) : yP a0 a1 a2 a3 = QS a0 a1 a2 a3 := by
  unfold yP QS qf
  rw [cond_neg]
  cases h : decide (0 ≤ Yx a0 a1) <;> simp [h]
@[simp] theorem P8 (a0 : List Zs) (a1 : ZV) : zl a0 a1 = KX a0 a1 := by simp [zl, KX]
@[simp] theorem HQ (a0 : ZV) : XX a0 = XY a0 := by simp [XX, XY]
@[simp] theorem tU (a0 a1 : List Int) : Uz a0 a1 = decide (a0 = a1) := pH (F := kz a0 a1) (c := fun i => (nth a0 i) != (nth a1 i)) (fun i => by simp [bne, Bool.beq_eq_decide_eq]) (fun _ => rfl) (fun _ _ => rfl)
@[simp] theorem sA (a0 a1 : List Int) : Uv a0 a1 = decide (a0 = a1) := pH (F := kx a0 a1) (c := fun i => (nth a0 i) != (nth a1 i)) (fun i => by simp [bne, Bool.beq_eq_decide_eq]) (fun _ => rfl) (fun _ _ => rfl)
@[simp] theorem Mm (a0 a1 : ZD) : zW a0 a1 = decide (a0 = a1) := by
  obtain ⟨t, p, s⟩ := a0; obtain ⟨t', p', s'⟩ := a1
  by_cases h1 : t = t' <;> by_cases h2 : p = p' <;> by_cases h3 : s = s' <;> simp_all [zW]
@[simp] theorem T5 (a0 a1 : ZD) : zQ a0 a1 = decide (a0 = a1) := by
  obtain ⟨t, p, s⟩ := a0; obtain ⟨t', p', s'⟩ := a1
  by_cases h1 : t = t' <;> by_cases h2 : p = p' <;> by_cases h3 : s = s' <;> simp_all [zQ]
@[simp] theorem v9 (a0 : ZP) (a1 : ZD) : ∀ (n : Nat) (v0 : Nat), qj a0 a1 n v0 = qV a0 a1 n v0 := by
  intro n
  induction n with
  | zero => intros; rfl
  | succ n ih => intros; simp [qj, qV, ih, ByteArray.append_assoc]
@[simp] theorem FZ (a0 : ZP) (a1 : ZD) : xG a0 a1 = y9 a0 a1 := by simp [xG, y9]
@[simp] theorem BV (a0 : List ZG) (a1 : Int) : ∀ (n : Nat) (v0 : Nat), Jw a0 a1 n v0 = Jt a0 a1 n v0 := by
  intro n
  induction n with
  | zero => intros; rfl
  | succ n ih => intros; simp [Jw, Jt, ih, ByteArray.append_assoc]
@[simp] theorem wq (a0 : List ZG) (a1 : Int) : Z9 a0 a1 = YC a0 a1 := by simp [Z9, YC]
@[simp] theorem Uy (a0 : ZF) : KB a0 = YR a0 := by simp [KB, YR]
@[simp] theorem Fi (a0 a1 : Int) : Xz a0 a1 = J1 a0 a1 := by
  have e1 : y5 0 a0 = (if 0 > a0 then 0 else a0) := by unfold y5; rw [Bool.cond_decide]; split <;> split <;> omega
  have e2 : Vq 10000 a1 = (if 10000 < a1 then 10000 else a1) := by unfold Vq; rw [Bool.cond_decide]; split <;> split <;> omega
  unfold Xz J1
  rw [e1, e2]
  have e3 : (decide (a0 > a1) || !YR (ZF.mk (if 0 > a0 then 0 else a0) (if 10000 < a1 then 10000 else a1))) = decide ((if 0 > a0 then 0 else a0) > (if 10000 < a1 then 10000 else a1)) := by
    rw [Bool.eq_iff_iff]
    simp only [YR, yF, Ze, Bool.or_eq_true, decide_eq_true_eq, Bool.not_eq_true', Bool.and_eq_false_iff, decide_eq_false_iff_not]
    split <;> split <;> omega
  rw [e3]
@[simp] theorem G2 (a0 : List ZG) (a1 : ZY) : K2 a0 a1 = KR a0 a1 := by simp [K2, KR]
@[simp] theorem tr (a0 : List ZF) (a1 : Int) : ∀ (n : Nat) (v0 : Int) (v1 : Nat), jH a0 a1 n v0 v1 = yQ a0 a1 n v0 v1 := by
  intro n
  induction n with
  | zero => intros; rfl
  | succ n ih => intros; simp [jH, yQ, ih, Ze, Bool.and_assoc]
@[simp] theorem rP (a0 : List ZF) (a1 : Int) : SL a0 a1 = kZ a0 a1 := by simp [SL, kZ]
@[simp] theorem MK (a0 : List ZF) (a1 : Int) (a2 : Int) : zX a0 a1 a2 = Zt a0 a1 a2 := by simp [zX, Zt]
theorem OE (a0 : List ZF) (a1 : Int) : ∀ (n : Nat) (fd : Bool) (v : Nat) (f l : Int), 10001 < n + v → v ≤ 10001 →
    (JA a0 a1 n fd v f l = (fd, f, l) ∧ ∀ t : Nat, v ≤ t → t ≤ 10000 → Zt a0 (t : Int) a1 = false) ∨
    ∃ x y : Nat, v ≤ x ∧ x ≤ y ∧ y ≤ 10000 ∧ Zt a0 (x : Int) a1 = true ∧ Zt a0 (y : Int) a1 = true ∧ (∀ t : Nat, v ≤ t → t < x → Zt a0 (t : Int) a1 = false) ∧ (∀ t : Nat, y < t → t ≤ 10000 → Zt a0 (t : Int) a1 = false) ∧
      JA a0 a1 n fd v f l = (true, (if fd then f else (x : Int)), (y : Int)) := by
  intro n
  induction n with
  | zero => intro fd v f l h h'; omega
  | succ n ih =>
    intro fd v f l h h'
    rw [JA]
    by_cases hv : v ≤ 10000
    · rw [show decide ((v : Int) ≤ 10000) = true by simp; omega]
      simp only [cond_true]
      cases hs : Zt a0 (v : Int) a1 with
      | false =>
        simp only [cond_false]
        rcases ih fd (v + 1) f l (by omega) (by omega) with ⟨e, k⟩ | ⟨x, y, p1, p2, p3, p4, p5, p6, p7, p8⟩
        · refine .inl ⟨e, fun t h1 h2 => ?_⟩
          rcases Nat.eq_or_lt_of_le h1 with rfl | h1
          · exact hs
          · exact k t h1 h2
        · refine .inr ⟨x, y, by omega, p2, p3, p4, p5, fun t h1 h2 => ?_, p7, p8⟩
          rcases Nat.eq_or_lt_of_le h1 with rfl | h1
          · exact hs
          · exact p6 t h1 h2
      | true =>
        simp only [cond_true]
        have key : ∀ g : Int, (∃ x y : Nat, v ≤ x ∧ x ≤ y ∧ y ≤ 10000 ∧ Zt a0 (x : Int) a1 = true ∧ Zt a0 (y : Int) a1 = true ∧ (∀ t : Nat, v ≤ t → t < x → Zt a0 (t : Int) a1 = false) ∧ (∀ t : Nat, y < t → t ≤ 10000 → Zt a0 (t : Int) a1 = false) ∧
            JA a0 a1 n true (v + 1) g (v : Int) = (true, g, (y : Int)) ∧ x = v) := by
          intro g
          rcases ih true (v + 1) g (v : Int) (by omega) (by omega) with ⟨e, k⟩ | ⟨x, y, p1, p2, p3, p4, p5, p6, p7, p8⟩
          · exact ⟨v, v, Nat.le_refl _, Nat.le_refl _, hv, hs, hs, fun t h1 h2 => by omega, fun t h1 h2 => k t h1 h2, e, rfl⟩
          · exact ⟨v, y, Nat.le_refl _, by omega, p3, hs, p5, fun t h1 h2 => by omega, p7, by simpa using p8, rfl⟩
        cases fd with
        | false =>
          simp only [Bool.not_false, cond_true]
          obtain ⟨x, y, q1, q2, q3, q4, q5, q6, q7, q8, rfl⟩ := key (v : Int)
          exact .inr ⟨x, y, q1, q2, q3, q4, q5, q6, q7, by simpa using q8⟩
        | true =>
          simp only [Bool.not_true, cond_false]
          obtain ⟨x, y, q1, q2, q3, q4, q5, q6, q7, q8, rfl⟩ := key f
          exact .inr ⟨x, y, q1, q2, q3, q4, q5, q6, q7, by simpa using q8⟩
    · rw [show decide ((v : Int) ≤ 10000) = false by simp; omega]
      exact .inl ⟨rfl, fun t h1 h2 => by omega⟩
theorem wh (a0 : List ZF) (t : Int) (hm : a0.length ≤ maxLen) : kZ a0 t = (a0.countP (fun s => YR s && Ze t s.YN s.To) : Int) := by
  have key : ∀ (n : Nat) (c : Nat) (v : Nat), a0.length < n + v → v ≤ a0.length → c ≤ v → yQ a0 t n (c : Int) v = ((c + (a0.drop v).countP (fun s => YR s && Ze t s.YN s.To) : Nat) : Int) := by
    intro n
    induction n with
    | zero => intro c v h1 h2; omega
    | succ n ih =>
      intro c v h1 h2 h3
      rw [yQ]
      by_cases hv : v < a0.length
      · rw [show decide ((v : Int) < (a0.length : Int)) = true by simpa using hv, List.drop_eq_getElem_cons hv, ← Sj hv]
        simp only [cond_true, List.countP_cons]
        have hw : W ((c : Int) + 1) = ((c + 1 : Nat) : Int) := by rw [show ((c + 1 : Nat) : Int) = (c : Int) + 1 by omega]; exact Zk (by omega) (by unfold maxLen at hm; omega)
        cases hc : (YR (nth a0 v) && Ze t (nth a0 v).YN (nth a0 v).To) with
        | true => rw [cond_true, hw, ih (c + 1) (v + 1) (by omega) (by omega) (by omega)]; simp; omega
        | false => rw [cond_false, ih c (v + 1) (by omega) (by omega) (by omega)]; simp
      · rw [show decide ((v : Int) < (a0.length : Int)) = false by simpa using hv, List.drop_eq_nil_of_le (by omega)]
        simp
  have := key (a0.length + 1) 0 0 (by omega) (by omega) (by omega)
  simpa [kZ] using this
theorem Au {α : Type} (p : α → Bool) (g : α → Int) : ∀ {l : List α}, (∃ x ∈ l, p x = true) → ∃ x ∈ l, p x = true ∧ ∀ y ∈ l, p y = true → g y ≤ g x
  | [], h => by obtain ⟨x, hx, _⟩ := h; cases hx
  | a :: l, h => by
    by_cases hl : ∃ x ∈ l, p x = true
    · obtain ⟨x, hx, px, hm⟩ := Au p g hl
      by_cases hc : p a = true ∧ g x < g a
      · refine ⟨a, by simp, hc.1, fun y hy py => ?_⟩
        rcases List.mem_cons.1 hy with rfl | hy
        · exact Int.le_refl _
        · have := hm y hy py; omega
      · refine ⟨x, by simp [hx], px, fun y hy py => ?_⟩
        rcases List.mem_cons.1 hy with rfl | hy
        · rcases Int.lt_or_le (g x) (g y) with h | h
          · exact absurd ⟨py, h⟩ hc
          · exact h
        · exact hm y hy py
    · obtain ⟨x, hx, px⟩ := h
      rcases List.mem_cons.1 hx with rfl | hx
      · refine ⟨x, by simp, px, fun y hy py => ?_⟩
        rcases List.mem_cons.1 hy with rfl | hy
        · exact Int.le_refl _
        · exact absurd ⟨y, hy, py⟩ hl
      · exact absurd ⟨x, hx, px⟩ hl
theorem SV (s : ZF) : YR s = true ↔ 0 ≤ s.YN ∧ s.YN ≤ s.To ∧ s.To ≤ 10000 := by
  simp only [YR, yF, Ze, Bool.and_eq_true, decide_eq_true_eq]; omega
theorem Ej (a0 : List ZF) (a1 : Int) : ∀ (n : Nat) (f l : Int) (v : Nat), a0.length < n + v → v ≤ a0.length → -1 ≤ f →
    let r := Xv a0 a1 n f l v
    (r.1 = f ∨ ∃ k, v ≤ k ∧ k < a0.length ∧ YR (nth a0 k) = true ∧ Zt a0 (nth a0 k).YN a1 = true ∧ r.1 = (nth a0 k).YN) ∧
    (∀ k, v ≤ k → k < a0.length → YR (nth a0 k) = true → Zt a0 (nth a0 k).YN a1 = true → 0 ≤ r.1 ∧ r.1 ≤ (nth a0 k).YN) ∧ (0 ≤ f → 0 ≤ r.1 ∧ r.1 ≤ f) ∧
    (r.2 = l ∨ ∃ k, v ≤ k ∧ k < a0.length ∧ YR (nth a0 k) = true ∧ Zt a0 (nth a0 k).To a1 = true ∧ r.2 = (nth a0 k).To) ∧
    (∀ k, v ≤ k → k < a0.length → YR (nth a0 k) = true → Zt a0 (nth a0 k).To a1 = true → (nth a0 k).To ≤ r.2) ∧ l ≤ r.2 := by
  intro n
  induction n with
  | zero => intro f l v h1 h2; omega
  | succ n ih =>
    intro f l v h1 h2 hf
    by_cases hv : v < a0.length
    · have step : ∃ f' l' : Int, Xv a0 a1 (n + 1) f l v = Xv a0 a1 n f' l' (v + 1) ∧ -1 ≤ f' ∧
          (f' = f ∨ (YR (nth a0 v) = true ∧ Zt a0 (nth a0 v).YN a1 = true ∧ f' = (nth a0 v).YN)) ∧ (YR (nth a0 v) = true → Zt a0 (nth a0 v).YN a1 = true → 0 ≤ f' ∧ f' ≤ (nth a0 v).YN) ∧ (0 ≤ f → 0 ≤ f' ∧ f' ≤ f) ∧
          (l' = l ∨ (YR (nth a0 v) = true ∧ Zt a0 (nth a0 v).To a1 = true ∧ l' = (nth a0 v).To)) ∧ (YR (nth a0 v) = true → Zt a0 (nth a0 v).To a1 = true → (nth a0 v).To ≤ l') ∧ l ≤ l' := by
        rw [Xv, show decide ((v : Int) < (a0.length : Int)) = true by simpa using hv]
        simp only [cond_true, Uy, MK]
        have hx := SV (nth a0 v)
        have hM : y5 l (nth a0 v).To = if l < (nth a0 v).To then (nth a0 v).To else l := by unfold y5; rw [Bool.cond_decide]
        cases h1 : YR (nth a0 v) with
        | false => simp only [Bool.false_and, cond_false]; exact ⟨f, l, rfl, hf, .inl rfl, by simp, fun h => ⟨h, Int.le_refl _⟩, .inl rfl, by simp, Int.le_refl _⟩
        | true =>
          have hx' := hx.1 h1
          simp only [Bool.true_and]
          have kl : ∃ l', (bif Zt a0 (nth a0 v).To a1 then y5 l (nth a0 v).To else l) = l' ∧ (l' = l ∨ (True ∧ Zt a0 (nth a0 v).To a1 = true ∧ l' = (nth a0 v).To)) ∧ (True → Zt a0 (nth a0 v).To a1 = true → (nth a0 v).To ≤ l') ∧ l ≤ l' := by
            refine ⟨_, rfl, ?_⟩
            cases Zt a0 (nth a0 v).To a1 with
            | false => simp
            | true => simp only [cond_true, hM]; split <;> simp <;> omega
          obtain ⟨l', e1, kl⟩ := kl
          have kf : ∃ f', (bif (Zt a0 (nth a0 v).YN a1 && (decide (f < 0) || decide ((nth a0 v).YN < f))) then (nth a0 v).YN else f) = f' ∧ -1 ≤ f' ∧ (f' = f ∨ (True ∧ Zt a0 (nth a0 v).YN a1 = true ∧ f' = (nth a0 v).YN)) ∧ (True → Zt a0 (nth a0 v).YN a1 = true → 0 ≤ f' ∧ f' ≤ (nth a0 v).YN) ∧ (0 ≤ f → 0 ≤ f' ∧ f' ≤ f) := by
            refine ⟨_, rfl, ?_⟩
            cases Zt a0 (nth a0 v).YN a1 with
            | false => simp; omega
            | true =>
              by_cases hc : f < 0 ∨ (nth a0 v).YN < f
              · rw [show (true && (decide (f < 0) || decide ((nth a0 v).YN < f))) = true by simpa using hc]
                simp only [cond_true]; refine ⟨by omega, .inr ⟨trivial, trivial, trivial⟩, fun _ _ => ⟨by omega, Int.le_refl _⟩, fun h => by omega⟩
              · rw [show (true && (decide (f < 0) || decide ((nth a0 v).YN < f))) = false by simp; omega]
                simp only [cond_false]; refine ⟨hf, .inl trivial, fun _ _ => by omega, fun h => ⟨h, Int.le_refl _⟩⟩
          obtain ⟨f', e2, kf⟩ := kf
          refine ⟨f', l', ?_, kf.1, kf.2.1, kf.2.2.1, kf.2.2.2, kl.1, kl.2.1, kl.2.2⟩
          rw [← e1, ← e2]
          cases (Zt a0 (nth a0 v).YN a1 && (decide (f < 0) || decide ((nth a0 v).YN < f))) <;> cases Zt a0 (nth a0 v).To a1 <;> rfl
      obtain ⟨f', l', e, g1, g2, g3, g4, g5, g6, g7⟩ := step
      rw [e]
      obtain ⟨i1, i2, i3, i4, i5, i6⟩ := ih f' l' (v + 1) (by omega) (by omega) g1
      refine ⟨?_, fun k k1 k2 k3 k4 => ?_, fun h => ?_, ?_, fun k k1 k2 k3 k4 => ?_, by omega⟩
      · rcases i1 with i1 | ⟨k, k1, k2⟩
        · rcases g2 with g2 | ⟨q1, q2, q3⟩
          · left; rw [i1, g2]
          · right; exact ⟨v, Nat.le_refl _, hv, q1, q2, by rw [i1, q3]⟩
        · right; exact ⟨k, by omega, k2⟩
      · rcases Nat.eq_or_lt_of_le k1 with rfl | k1
        · have := g3 k3 k4; have := i3 this.1; omega
        · exact i2 k k1 k2 k3 k4
      · have := g4 h; have := i3 this.1; omega
      · rcases i4 with i4 | ⟨k, k1, k2⟩
        · rcases g5 with g5 | ⟨q1, q2, q3⟩
          · left; rw [i4, g5]
          · right; exact ⟨v, Nat.le_refl _, hv, q1, q2, by rw [i4, q3]⟩
        · right; exact ⟨k, by omega, k2⟩
      · rcases Nat.eq_or_lt_of_le k1 with rfl | k1
        · have := g6 k3 k4; omega
        · exact i5 k k1 k2 k3 k4
    · rw [Xv, show decide ((v : Int) < (a0.length : Int)) = false by simpa using hv]
      exact ⟨.inl rfl, fun k h1 h2 => by omega, fun h => ⟨h, Int.le_refl _⟩, .inl rfl, fun k h1 h2 => by omega, Int.le_refl _⟩
theorem TY (a0 : List ZF) (t a1 : Int) (hm : a0.length ≤ maxLen) (h0 : 0 ≤ a1) (h1 : a1 < a0.length) : Zt a0 t a1 = true ↔ (a0.length : Int) - a1 ≤ (a0.countP (fun s => YR s && Ze t s.YN s.To) : Int) := by
  have e1 : W ((a0.length : Int) - 1) = (a0.length : Int) - 1 := Zk (by omega) (by unfold maxLen at hm; omega)
  have e2 : W ((a0.length : Int) - a1) = (a0.length : Int) - a1 := Zk (by omega) (by unfold maxLen at hm; omega)
  unfold Zt
  rw [wh a0 t hm, e1, e2, show Ze a1 0 ((a0.length : Int) - 1) = true by simp [Ze]; omega]
  rw [Bool.true_and, decide_eq_true_eq]
theorem PY (a0 : List ZF) (t a1 : Int) (hm : a0.length ≤ maxLen) (h0 : 0 ≤ a1) (h1 : a1 < a0.length) (hs : Zt a0 t a1 = true) :
    (∃ k, k < a0.length ∧ YR (nth a0 k) = true ∧ (nth a0 k).YN ≤ t ∧ Zt a0 (nth a0 k).YN a1 = true) ∧ (∃ k, k < a0.length ∧ YR (nth a0 k) = true ∧ t ≤ (nth a0 k).To ∧ Zt a0 (nth a0 k).To a1 = true) := by
  have hc := (TY a0 t a1 hm h0 h1).1 hs
  have hex : ∃ s ∈ a0, (YR s && Ze t s.YN s.To) = true := by
    have : 0 < a0.countP (fun s => YR s && Ze t s.YN s.To) := by omega
    exact List.countP_pos_iff.1 this
  have idx : ∀ s ∈ a0, ∃ k, k < a0.length ∧ nth a0 k = s := by
    intro s hs
    obtain ⟨k, hk, rfl⟩ := List.getElem_of_mem hs
    exact ⟨k, hk, Sj hk⟩
  constructor
  · obtain ⟨s, hs1, hp, hmax⟩ := Au _ (fun s : ZF => s.YN) hex
    obtain ⟨k, hk, rfl⟩ := idx s hs1
    simp only [Ze, Bool.and_eq_true, decide_eq_true_eq] at hp hmax
    refine ⟨k, hk, hp.1, hp.2.1, (TY a0 _ a1 hm h0 h1).2 (Int.le_trans hc ?_)⟩
    refine Int.ofNat_le.2 (List.countP_mono_left (fun x hx hpx => ?_))
    simp only [Ze, Bool.and_eq_true, decide_eq_true_eq] at hpx ⊢
    have := hmax x hx hpx
    exact ⟨hpx.1, this, by omega⟩
  · obtain ⟨s, hs1, hp, hmax⟩ := Au _ (fun s : ZF => - s.To) hex
    obtain ⟨k, hk, rfl⟩ := idx s hs1
    simp only [Ze, Bool.and_eq_true, decide_eq_true_eq] at hp hmax
    refine ⟨k, hk, hp.1, hp.2.2, (TY a0 _ a1 hm h0 h1).2 (Int.le_trans hc ?_)⟩
    refine Int.ofNat_le.2 (List.countP_mono_left (fun x hx hpx => ?_))
    simp only [Ze, Bool.and_eq_true, decide_eq_true_eq] at hpx ⊢
    have := hmax x hx hpx
    exact ⟨hpx.1, by omega, by omega⟩
@[simp] theorem Rg (a0 : List ZF) (a1 : Int) (hm : a0.length ≤ maxLen) : KL a0 a1 = yl a0 a1 := by
  have e1 : W ((a0.length : Int) - 1) = (a0.length : Int) - 1 := Zk (by omega) (by unfold maxLen at hm; omega)
  unfold KL yl
  rw [SJ, e1]
  by_cases hr : 0 ≤ a1 ∧ a1 < a0.length
  · rw [show (!Ze a1 0 ((a0.length : Int) - 1)) = false by simp [Ze]; omega]
    simp only [cond_false]
    obtain ⟨s1, s2, _, s4, s5, _⟩ := Ej a0 a1 (a0.length + 1) (-1) (-1) 0 (by omega) (by omega) (by omega)
    generalize Xv a0 a1 (a0.length + 1) (-1) (-1) 0 = r at s1 s2 s4 s5
    obtain ⟨f, l⟩ := r
    simp only at s1 s2 s4 s5 ⊢
    rcases OE a0 a1 10002 false 0 0 0 (by omega) (by omega) with ⟨e, k⟩ | ⟨x, y, p1, p2, p3, p4, p5, p6, p7, e⟩
    · rw [e]
      simp only
      rcases s1 with s1 | ⟨j, j1, j2, j3, j4, j5⟩
      · rw [s1]; rfl
      · have hj := (SV _).1 j3
        have := k (nth a0 j).YN.toNat (by omega) (by omega)
        rw [Int.toNat_of_nonneg hj.1, j4] at this; cases this
    · rw [e]
      simp only [Bool.false_eq_true, if_false]
      obtain ⟨⟨j, j1, j2, j3, j4⟩, _⟩ := PY a0 x a1 hm hr.1 hr.2 p4
      obtain ⟨_, ⟨i, i1, i2, i3, i4⟩⟩ := PY a0 y a1 hm hr.1 hr.2 p5
      have hf := s2 j (by omega) j1 j2 j4
      have hl := s5 i (by omega) i1 i2 i4
      have hf2 : (x : Int) ≤ f := by
        rcases s1 with s1 | ⟨k, k1, k2, k3, k4, k5⟩
        · omega
        · have hk := (SV _).1 k3
          rcases Int.lt_or_le f x with h | h
          · have := p6 f.toNat (by omega) (by omega)
            rw [Int.toNat_of_nonneg (by omega), k5, k4] at this; cases this
          · exact h
      have hl2 : l ≤ (y : Int) := by
        rcases s4 with s4 | ⟨k, k1, k2, k3, k4, k5⟩
        · omega
        · have hk := (SV _).1 k3
          rcases Int.lt_or_le (y : Int) l with h | h
          · have := p7 l.toNat (by omega) (by omega)
            rw [Int.toNat_of_nonneg (by omega), k5, k4] at this; cases this
          · exact h
      have e3 : f = x := by omega
      have e4 : l = y := by omega
      rw [e3, e4, show decide ((x : Int) < 0) = false by simp]; rfl
  · rw [show (!Ze a1 0 ((a0.length : Int) - 1)) = true by simp [Ze]; omega]
    simp only [cond_true]
    have hn : ∀ t, Zt a0 t a1 = false := by
      intro t; unfold Zt; rw [e1, show Ze a1 0 ((a0.length : Int) - 1) = false by simp [Ze]; omega]; rfl
    rcases OE a0 a1 10002 false 0 0 0 (by omega) (by omega) with ⟨e, k⟩ | ⟨x, y, p1, p2, p3, p4, p5, p6, p7, e⟩
    · rw [e]
    · rw [hn] at p4; cases p4
@[simp] theorem OW (a0 : List ZG) (a1 : ZK) : ∀ (n : Nat) (v0 : List ZF) (v1 : Nat), yr a0 a1 n v0 v1 = QO a0 a1.Zj n v0 v1 := by
  intro n
  induction n with
  | zero => intros; rfl
  | succ n ih => intros; simp [yr, QO, ih]
theorem T6 (a0 : List ZG) (a1 : List ZY) : ∀ (n : Nat) (l : List ZF) (v : Nat), l.length ≤ v → v ≤ a1.length → ∀ z, QO a0 a1 n l v = .inr z → z.length ≤ a1.length := by
  intro n
  induction n with
  | zero => intro l v h1 h2 z h; cases h; exact Nat.zero_le _
  | succ n ih =>
    intro l v h1 h2 z h
    rw [QO] at h
    by_cases hv : v < a1.length
    · rw [show decide ((v : Int) < (a1.length : Int)) = true by simpa using hv] at h
      cases hs : (!(KR a0 (nth a1 v)).2) with
      | true => rw [hs] at h; cases h
      | false => rw [hs] at h; exact ih _ (v + 1) (by simp; omega) (by omega) z h
    · rw [show decide ((v : Int) < (a1.length : Int)) = false by simpa using hv] at h
      cases h; omega
@[simp] theorem kR (a0 : List ZG) (a1 : ZK) (a2 : Int) (h : Sm maxLen a1) : Qe a0 a1 a2 = KV a0 a1 a2 := by
  unfold Qe KV Qm
  rw [OW]
  cases hh : QO a0 a1.Zj (a1.Zj.length + 1) [] 0 with
  | inl r => rfl
  | inr z =>
    simp only
    rw [Rg _ _ (Nat.le_trans (T6 a0 a1.Zj _ _ 0 (by simp) (by omega) z hh) (Yv (ZK.P1 h)))]
@[simp] theorem se (a0 : ZY) : Jo a0 = JI a0 := by simp [Jo, JI]
@[simp] theorem BJ (a1 : ZK) : ∀ (n : Nat) (v0 : List Int) (v1 : Nat), zE a1 n v0 v1 = K4 a1 n v0 v1 := by
  intro n
  induction n with
  | zero => intros; rfl
  | succ n ih => intros; simp [zE, K4, ih, ByteArray.append_assoc]
@[simp] theorem BK (a1 : ZK) : ∀ (n : Nat) (v0 : List Int) (v1 : Nat), Jv a1 n v0 v1 = Ju a1 n v0 v1 := by
  intro n
  induction n with
  | zero => intros; rfl
  | succ n ih => intros; simp [Jv, Ju, ih, ByteArray.append_assoc]
@[simp] theorem vC (a0 : Int) (a1 : ZK) : J6 a0 a1 = J4 a0 a1 := by simp [J6, J4]
@[simp] theorem Ap (a0 : Int) (a1 : List ZD) : ∀ (n : Nat) (v0 : List Int) (v1 : Nat), yI a0 a1 n v0 v1 = yE a0 a1 n v0 v1 := by
  intro n
  induction n with
  | zero => intros; rfl
  | succ n ih => intros; simp [yI, yE, ih, ByteArray.append_assoc]
@[simp] theorem vX (a0 : Int) (a1 : List ZD) : yA a0 a1 = z1 a0 a1 := by simp [yA, z1]
@[simp] theorem pD (a0 : Int) (a1 : Int) (a2 : List ZD) (a3 : Int) : Tg a0 a1 a2 a3 = Ti a0 a1 a2 a3 := by simp [Tg, Ti]
@[simp] theorem Bj (a0 : ZP) (a1 : List Int) (a2 : Int) : SM a0 a1 a2 = UJ a0 a1 a2 := by simp [SM, UJ]
@[simp] theorem uy (a0 : Int) (a1 : Int) (a2 : Int) : xr a0 a1 a2 = qE a0 a1 a2 := by simp [xr, qE]
@[simp] theorem vq (a0 : Int) (a2 : List Ya) : ∀ (n : Nat) (v0 : Int) (v1 : Nat), zz a0 a2 n v0 v1 = zg a0 a2 n v0 v1 := by
  intro n
  induction n with
  | zero => intros; rfl
  | succ n ih => intros; simp [zz, zg, ih, ByteArray.append_assoc]
@[simp] theorem Lk (a0 : Int) (a1 : Int) (a2 : List Ya) : kM a0 a1 a2 = jY a0 a1 a2 := by simp [kM, jY]
@[simp] theorem sK (a0 : List Zs) (a1 : List ZG) (a2 : ZY) : Jn a0 a1 a2 = Jg a0 a1 a2 := by
  simp [Jn, Jg, qf]
  cases h : decide (Yx a0 (nth a1 (YC a1 a2.Authority).toNat).Key < 0) <;> simp
@[simp] theorem Lt (a0 : List Zs) (a1 : List ZG) (a2 : ZY) : kC a0 a1 a2 = jb a0 a1 a2 := by simp [kC, jb]
@[simp] theorem Ox (a0 : List Zs) (a1 : List ZG) (a2 : ZK) (a3 : Int) : xM a0 a1 a2 a3 = zi a0 a1 a2 a3 := by
  rw [Bool.eq_iff_iff]
  unfold xM zi
  have hs : ∀ b : Bool, (bif b then false else (match zq a0 a1 a2 (a2.Zj.length + 1) 0 with | .inl r1 => r1 | .inr _ => true)) = true ↔ b = false ∧ _ := fun b => by
    cases b
    · exact (kY (L := zq a0 a1 a2) (fun _ => rfl) (fun _ _ => rfl) (a2.Zj.length + 1) 0 (by omega) true).trans (by simp only [true_and, and_true]; exact Iff.rfl)
    · simp
  have hi : ∀ b : Bool, (bif b then false else (match zm a0 a1 a2 (a2.Zj.length + 1) 0 with | .inl r1 => r1 | .inr _ => true)) = true ↔ b = false ∧ _ := fun b => by
    cases b
    · exact (kY (L := zm a0 a1 a2) (fun _ => rfl) (fun _ _ => rfl) (a2.Zj.length + 1) 0 (by omega) true).trans (by simp only [true_and, and_true]; exact Iff.rfl)
    · simp
  have hr : Y8 a2.Zj = true ↔ _ := kY (L := JL a2.Zj) (fun _ => rfl) (fun _ _ => rfl) (a2.Zj.length + 1) 1 (by omega) true
  refine (hs _).trans (Iff.trans ?_ (hi _).symm)
  simp only [Bool.or_eq_false_iff, Bool.not_eq_false', SJ, Lk, Lt, hr]
  constructor
  · rintro ⟨h1, h2⟩
    refine ⟨⟨h1, fun i hi hl => ?_, trivial⟩, fun i hz hi => ⟨(h2 i hz hi).1.1, (h2 i hz hi).2⟩⟩
    have := (h2 i (Nat.zero_le _) hl).1.2
    simpa [show (0 : Nat) < i by omega] using this
  · rintro ⟨⟨h1, h2, _⟩, h3⟩
    refine ⟨h1, fun i hz hi => ⟨⟨(h3 i hz hi).1, ?_⟩, (h3 i hz hi).2⟩⟩
    by_cases h0 : 0 < i
    · have := h2 i h0 hi; simpa [h0] using this
    · simp [h0]
@[simp] theorem vo (a0 : List Zh) (a1 : Int) : ∀ (n : Nat) (v0 : Nat), zs a0 a1 n v0 = yD a0 a1 n v0 := by
  intro n
  induction n with
  | zero => intros; rfl
  | succ n ih => intros; simp [zs, yD, ih, ByteArray.append_assoc]
@[simp] theorem tA (a0 : List Zh) (a1 : Int) : zI a0 a1 = K6 a0 a1 := by simp [zI, K6]
@[simp] theorem Nq (a0 : List Zh) (a1 : Int) : zj a0 a1 = zx a0 a1 := by
  unfold zj zx; rw [cond_neg]; simp
@[simp] theorem F6 (a0 : List ZG) (a1 : ZY) : QQ a0 a1 = Xs a0 a1 := by
  unfold QQ Xs; rw [cond_neg]; simp
@[simp] theorem Ar (a0 : List Zs) (a1 : List ZG) (a2 : List Zh) (a3 : ZK) : ∀ (n : Nat) (v0 : Int) (v1 : Nat), zt a0 a1 a2 a3 n v0 v1 = yB a0 a1 a2 a3 n v0 v1 := by
  intro n
  induction n with
  | zero => intros; rfl
  | succ n ih => intros; simp [zt, yB, ih, ByteArray.append_assoc]
@[simp] theorem Nl (a0 : List Zs) (a1 : List ZG) (a2 : List Zh) (a3 : ZK) : zw a0 a1 a2 a3 = z6 a0 a1 a2 a3 := by simp [zw, z6]
@[simp] theorem Hh (a0 : ZI) (a1 : ZP) (a2 : Int) (h : Sm maxLen a1) : WK a0 a1 a2 = jE a0 a1 a2 := by
  unfold WK jE X9
  rw [kR _ _ _ (Z3 (ZP.Qc h))]
  simp only [SJ, Nl]
theorem Mb (a0 : ZI) (a1 : ZP) (a2 : List Int) (hs : Sm maxLen a1) : ∀ (n v : Nat), v ≤ maxLen → za a0 a1 a2 n v = zT a0 a1 a2 n v := by
  intro n
  induction n with
  | zero => intros; rfl
  | succ n ih =>
    intro v hv
    rw [za, zT]
    by_cases h : 0 < v
    · have hw : W ((v : Int) - 1) = (v : Int) - 1 := Zk (by omega) (by unfold maxLen at hv; omega)
      rw [show decide ((v : Int) > 0) = true by simpa using h, ih (v - 1) (by omega)]
      unfold Pz X9
      rw [hw, show ((v : Int) - 1).toNat = v - 1 by omega]
      rw [kR _ _ _ (Z3 (ZP.Qc hs)), Hh _ _ _ hs]
      simp only [cond_true, Bool.true_and, Ox, Bj]
      cases (KV a0.ZN (nth a1.ZX (v - 1)) a0.QR).2 <;> cases jE a0 a1 ((v : Int) - 1) <;> cases zi a0.YY a0.ZN (nth a1.ZX (v - 1)) (UJ a1 a2 ((v : Int) - 1)) <;> rfl
    · rw [show decide ((v : Int) > 0) = false by simpa using h]; rfl
@[simp] theorem Gs (a0 : ZI) (a1 : ZP) (a2 : List Int) (h : Sm maxLen a1) : zG a0 a1 a2 = K9 a0 a1 a2 := by
  unfold zG K9
  rw [Mb a0 a1 a2 h _ _ (Yv (ZP.Qc h))]
theorem R3 (a0 : ZI) (a1 : ZP) (a3 : Int) (h : Sm maxLen a1) : ∀ (n : Nat) (v0 v1 : Int), jP a0 a1 a3 n v0 v1 = jA a0 a1 a3 n v0 v1
  | 0, _, _ => rfl
  | n + 1, v0, v1 => by
    have ih := R3 a0 a1 a3 h n
    have hr : Qe a0.ZN (nth a1.ZX v1.toNat) a0.QR = X9 a0 (nth a1.ZX v1.toNat) := by
      rw [kR _ _ _ (Z3 (ZP.Qc h))]; rfl
    simp only [jP, jA, Tp, hr, ih]
theorem CX (a0 : ZI) (a1 : ZP) (a2 : List Int) (a3 : Int) (h : Sm maxLen a1) : SR a0 a1 a2 a3 = SA a0 a1 a2 a3 := by
  simp only [SR, SA, R3 a0 a1 a3 h, Gs a0 a1 a2 h]
theorem Iw (a0 : ZI) (a1 : ZP) (a2 : List Int) (a3 : ZD) (h : Sm maxLen a1) : xu a0 a1 a2 a3 = xz a0 a1 a2 a3 := by
  simp only [xu, xz, FZ, CX a0 a1 a2 _ h]
theorem vD (a0 : ZI) (a1 : ZL) (a2 : List (List Int)) (a3 : ZD) : ∀ (n : Nat) (v0 : Int) (v1 : Nat), a2.length ≤ v1 → a1.ZO.length < n + v1 → v1 ≤ a1.ZO.length → QT a0 a1 a2 a3 n v0 v1 = v0
  | 0, _, _, _, h1, h2 => by omega
  | n + 1, v0, v1, h0, h1, h2 => by
    simp only [QT]
    rw [show decide ((v1 : Int) < (a2.length : Int)) = false by simp; omega]
    by_cases hv : v1 < a1.ZO.length
    · rw [show decide ((v1 : Int) < (a1.ZO.length : Int)) = true by simpa using hv]
      exact vD a0 a1 a2 a3 n v0 (v1 + 1) (by omega) (by omega) hv
    · rw [show decide ((v1 : Int) < (a1.ZO.length : Int)) = false by simpa using hv]; rfl
theorem Wd (a0 : ZI) (a1 : ZL) (a2 : List (List Int)) (a3 : ZD) (h : Sm maxLen a1) : ∀ (n : Nat) (v0 : Int) (v1 : Nat), a1.ZO.length < n + v1 → v1 ≤ a1.ZO.length → zN a0 a1 a2 a3 n v0 v1 = QT a0 a1 a2 a3 n v0 v1
  | 0, _, _, _, _ => rfl
  | n + 1, v0, v1, h1, h2 => by
    simp only [zN, QT, Tp, Iw a0 _ _ a3 (Z3 (ZL.Yl h))]
    by_cases hv : v1 < a1.ZO.length
    · rw [show decide ((v1 : Int) < (a1.ZO.length : Int)) = true by simpa using hv]
      by_cases ha : v1 < a2.length
      · rw [show decide ((v1 : Int) < (a2.length : Int)) = true by simpa using ha]
        exact Wd a0 a1 a2 a3 h n _ (v1 + 1) (by omega) hv
      · rw [show decide ((v1 : Int) < (a2.length : Int)) = false by simpa using ha]
        exact (vD a0 a1 a2 a3 n v0 (v1 + 1) (by omega) (by omega) hv).symm
    · rw [show decide ((v1 : Int) < (a1.ZO.length : Int)) = false by simpa using hv]; rfl
theorem Vo (a0 : ZI) (a1 : ZL) (a2 : List (List Int)) (a3 : ZD) (h : Sm maxLen a1) : Yw a0 a1 a2 a3 = Yk a0 a1 a2 a3 := by
  simp only [Yw, Yk, Wd a0 a1 a2 a3 h (a1.ZO.length + 1) a0.Now 0 (by omega) (Nat.zero_le _)]
@[simp] theorem um (a0 : ZD) : XS a0 = Z2 a0 := by
  simp only [XS, Z2, SJ]
  cases (((↑a0.Zg.length : Int) == 0) || (!(Ze (nth a0.Zg 0) 101 105))) <;> simp
@[simp] theorem Gk (a0 : ZD) : Xi a0 = XR a0 := by simp [Xi, XR]
@[simp] theorem Md (a0 : ZD) : Qu a0 = QG a0 := by simp [Qu, QG]
@[simp] theorem I2 (a0 : ZD) : xy a0 = K3 a0 := by simp [xy, K3]
@[simp] theorem Hc (a0 : ZD) : jV a0 = yM a0 := by simp [jV, yM]
@[simp] theorem Oz (a0 : ZD) : Jk a0 = Qb a0 := by simp [Jk, Qb]
@[simp] theorem RW (a0 : List Zs) (a1 : ZD) : qJ a0 a1 = KD a0 a1 := by
  unfold qJ KD Sf
  simp only [Gk, Md, I2, Hc, Oz, Pe]
  have e1 : Z2 a1 ≠ 101 → (XR a1).2 = false := fun h => by unfold XR; rw [show (Z2 a1 != 101) = true by simpa using h]; rfl
  have e2 : Z2 a1 ≠ 102 → (QG a1).2 = false := fun h => by unfold QG; rw [show (Z2 a1 != 102) = true by simpa using h]; rfl
  have e3 : Z2 a1 ≠ 103 → (K3 a1).2 = false := fun h => by unfold K3; rw [show (Z2 a1 != 103) = true by simpa using h]; rfl
  have e4 : Z2 a1 ≠ 104 → (yM a1).2 = false := fun h => by unfold yM; rw [show (Z2 a1 != 104) = true by simpa using h]; rfl
  have e5 : Z2 a1 ≠ 105 → (Qb a1).2 = false := fun h => by unfold Qb; rw [show (Z2 a1 != 105) = true by simpa using h]; rfl
  by_cases h1 : Z2 a1 = 101
  · rw [e2 (by omega), e3 (by omega), e4 (by omega), e5 (by omega), h1]; simp
  by_cases h2 : Z2 a1 = 102
  · rw [e1 h1, e3 (by omega), e4 (by omega), e5 (by omega), h2]; simp
  by_cases h3 : Z2 a1 = 103
  · rw [e1 h1, e2 h2, e4 (by omega), e5 (by omega), h3]; simp
  by_cases h4 : Z2 a1 = 104
  · rw [e1 h1, e2 h2, e3 h3, e5 (by omega), h4]; simp
  by_cases h5 : Z2 a1 = 105
  · rw [e1 h1, e2 h2, e3 h3, e4 h4, h5]; simp
  rw [e1 h1, e2 h2, e3 h3, e4 h4, e5 h5]
  simp [h1, h2, h3, h4, h5]
@[simp] theorem wG (a0 : ZD) (a1 : ZD) : ∀ (n : Nat) (v0 : Nat), yq a0 a1 n v0 = J3 a0 a1 n v0 := by
  intro n
  induction n with
  | zero => intros; rfl
  | succ n ih => intros; simp [yq, J3, ih, ByteArray.append_assoc]
@[simp] theorem SD (a0 : ZD) (a1 : ZD) : qk a0 a1 = Y0 a0 a1 := by simp [qk, Y0]
def P7 : List Int → List Int → Bool → Bool
  | [], [], t => t
  | [], _ :: _, _ => true
  | _ :: _, [], _ => false
  | a :: as, b :: bs, t => bif a != b then decide (a < b) else P7 as bs t
theorem DB : ∀ a t, P7 a a t = t
  | [], _ => rfl
  | x :: a, t => by rw [P7, show (x != x) = false by simp]; exact DB a t
theorem Gb : ∀ {a b c : List Int} {t1 t2 t3 : Bool}, (t1 = true → t2 = true → t3 = true) → P7 a b t1 = true → P7 b c t2 = true → P7 a c t3 = true
  | [], [], [], _, _, _, h, h1, h2 => h h1 h2
  | [], [], _ :: _, _, _, _, _, _, _ => rfl
  | [], _ :: _, [], _, _, _, _, _, h2 => by cases h2
  | [], _ :: _, _ :: _, _, _, _, _, _, _ => rfl
  | _ :: _, [], _, _, _, _, _, h1, _ => by cases h1
  | _ :: _, _ :: _, [], _, _, _, _, _, h2 => by cases h2
  | x :: a, y :: b, z :: c, _, _, _, h, h1, h2 => by
    simp only [P7] at h1 h2 ⊢
    by_cases e1 : x = y
    · subst e1
      rw [show (x != x) = false by simp, cond_false] at h1
      by_cases e2 : x = z
      · subst e2
        rw [show (x != x) = false by simp, cond_false] at h2 ⊢
        exact Gb h h1 h2
      · rw [show (x != z) = true by simpa using e2, cond_true] at h2 ⊢; exact h2
    · rw [show (x != y) = true by simpa using e1, cond_true] at h1
      by_cases e2 : y = z
      · subst e2
        rw [show (x != y) = true by simpa using e1, cond_true]; exact h1
      · rw [show (y != z) = true by simpa using e2, cond_true] at h2
        simp only [decide_eq_true_eq] at h1 h2
        rw [show (x != z) = true by simp; omega, cond_true]
        simp; omega
theorem B1 : ∀ {a b : List Int} {t1 t2 : Bool}, P7 a b t1 = false → P7 b a t2 = false → a = b ∧ t1 = false ∧ t2 = false
  | [], [], _, _, h1, h2 => ⟨rfl, h1, h2⟩
  | [], _ :: _, _, _, h1, _ => by cases h1
  | _ :: _, [], _, _, _, h2 => by cases h2
  | x :: a, y :: b, _, _, h1, h2 => by
    simp only [P7] at h1 h2
    by_cases e1 : x = y
    · subst e1
      rw [show (x != x) = false by simp, cond_false] at h1 h2
      obtain ⟨e, k1, k2⟩ := B1 h1 h2
      exact ⟨by rw [e], k1, k2⟩
    · rw [show (x != y) = true by simpa using e1, cond_true] at h1
      rw [show (y != x) = true by simp; omega, cond_true] at h2
      simp only [decide_eq_false_iff_not] at h1 h2
      omega
theorem AJ (x y : ZD) (t : Bool) : ∀ (n i : Nat), x.Zg.length < n + i → i ≤ x.Zg.length → i ≤ y.Zg.length →
    (match J3 x y n i with | .inl r1 => r1 | .inr _ => (bif ((↑x.Zg.length : Int) != (↑y.Zg.length : Int)) then (decide ((↑x.Zg.length : Int) < (↑y.Zg.length : Int))) else t)) = P7 (x.Zg.drop i) (y.Zg.drop i) t
  | 0, i, h, h1, _ => by omega
  | n + 1, i, h, h1, h2 => by
    simp only [J3]
    by_cases hx : i < x.Zg.length
    · by_cases hy : i < y.Zg.length
      · rw [show decide ((i : Int) < (x.Zg.length : Int)) = true by simpa using hx, show decide ((i : Int) < (y.Zg.length : Int)) = true by simpa using hy, kd hx, kd hy]
        simp only [Bool.and_true, cond_true, P7]
        cases (nth x.Zg i != nth y.Zg i) with
        | true => rfl
        | false => exact AJ x y t n (i + 1) (by omega) hx hy
      · rw [show decide ((i : Int) < (y.Zg.length : Int)) = false by simpa using hy, kd hx, List.drop_eq_nil_of_le (as := y.Zg) (by omega)]
        simp only [Bool.and_false, cond_false, P7]
        rw [show ((x.Zg.length : Int) != (y.Zg.length : Int)) = true by simp; omega, cond_true]
        simp; omega
    · rw [show decide ((i : Int) < (x.Zg.length : Int)) = false by simpa using hx, List.drop_eq_nil_of_le (as := x.Zg) (by omega)]
      simp only [Bool.false_and, cond_false]
      by_cases hy : i < y.Zg.length
      · rw [kd hy, P7, show ((x.Zg.length : Int) != (y.Zg.length : Int)) = true by simp; omega, cond_true]
        simp; omega
      · rw [List.drop_eq_nil_of_le (as := y.Zg) (by omega), P7, show ((x.Zg.length : Int) != (y.Zg.length : Int)) = false by simp; omega]; rfl
def BW (x y : ZD) : Bool := bif (x.Key != y.Key) then (decide (x.Key < y.Key)) else (decide (x.Mark < y.Mark))
theorem Og (x y : ZD) : Y0 x y = P7 x.Zg y.Zg (BW x y) := by
  have := AJ x y (BW x y) (x.Zg.length + 1) 0 (by omega) (Nat.zero_le _) (Nat.zero_le _)
  rw [List.drop_zero, List.drop_zero] at this
  exact this
theorem Ax (x : ZD) : Y0 x x = false := by rw [Og, DB]; simp [BW]
theorem before_trans {x y z : ZD} (h1 : Y0 x y = true) (h2 : Y0 y z = true) : Y0 x z = true := by
  rw [Og] at h1 h2 ⊢
  refine Gb (fun k1 k2 => ?_) h1 h2
  unfold BW at *
  by_cases e1 : x.Key = y.Key <;> by_cases e2 : y.Key = z.Key <;> by_cases e3 : x.Key = z.Key <;> simp [bne, e1, e2, e3] at k1 k2 ⊢ <;> (try simp_all) <;> omega
theorem Av {x y : ZD} (h1 : Y0 x y = false) (h2 : Y0 y x = false) : x = y := by
  rw [Og] at h1 h2
  obtain ⟨e, k1, k2⟩ := B1 h1 h2
  unfold BW at k1 k2
  cases x; cases y
  simp only at e k1 k2
  subst e
  rename_i k _ m k' m'
  by_cases ek : k = k'
  · subst ek
    simp at k1 k2
    congr 1; omega
  · rw [show (k != k') = true by simpa using ek, cond_true] at k1
    rw [show (k' != k) = true by simp; omega, cond_true] at k2
    simp at k1 k2; omega
def Uc (l : List ZD) : Prop := l.Pairwise (fun a b => Y0 a b = true)
theorem AD {l : List ZD} (hs : Uc l) {i j : Nat} (hij : i < j) (hj : j < l.length) : Y0 (nth l i) (nth l j) = true := by
  have h1 := List.pairwise_iff_getElem.1 hs i j (by omega) hj hij
  rw [show nth l i = l[i] by simp [nth, List.getD_eq_getElem?_getD, List.getElem?_eq_getElem (show i < l.length by omega)], show nth l j = l[j] by simp [nth, List.getD_eq_getElem?_getD, List.getElem?_eq_getElem hj]]
  exact h1
theorem vO (l : List ZD) (p : ZD) : ∀ (n v : Nat), l.length < n + v → v ≤ l.length → v ≤ Qw l p n v ∧ Qw l p n v ≤ l.length ∧ (∀ k, v ≤ k → k < Qw l p n v → Y0 (nth l k) p = true) ∧ (Qw l p n v < l.length → Y0 (nth l (Qw l p n v)) p = false)
  | 0, v, h, h2 => by omega
  | n + 1, v, h, h2 => by
    simp only [Qw, SD]
    by_cases hv : v < l.length
    · rw [show decide ((v : Int) < (l.length : Int)) = true by simpa using hv, Bool.true_and]
      cases hb : Y0 (nth l v) p with
      | true =>
        obtain ⟨k1, k2, k3, k4⟩ := vO l p n (v + 1) (by omega) hv
        refine ⟨by simp only [cond_true]; omega, k2, fun k a b => ?_, k4⟩
        rcases Nat.eq_or_lt_of_le a with rfl | a
        · exact hb
        · exact k3 k a b
      | false => exact ⟨Nat.le_refl _, h2, fun k a b => by simp only [cond_false] at b; omega, fun _ => hb⟩
    · rw [show decide ((v : Int) < (l.length : Int)) = false by simpa using hv]
      exact ⟨Nat.le_refl _, h2, fun k a b => by simp only [Bool.false_and, cond_false] at b; omega, fun a => absurd a hv⟩
theorem pT (a1 : ZL) (v1 : Nat) (l : List ZD) (i : Nat) : ∀ (n v : Nat), KZ a1 v1 l i n v = Qw l (nth (nth a1.ZO v1).Zd i) n v
  | 0, _ => rfl
  | n + 1, v => by simp only [KZ, Qw, SD, pT a1 v1 l i n]
theorem vj (l : List ZD) (p : ZD) : Ql l p = true ↔ ∃ k, k < l.length ∧ nth l k = p := by
  unfold Ql
  refine Iff.trans (Mr (L := qI l p) (len := l.length) (c := fun v => zW (nth l v) p) (fun _ => rfl) (fun _ _ => rfl) (l.length + 1) 0 (by omega)) ?_
  constructor
  · rintro ⟨i, _, h1, h2⟩
    exact ⟨i, h1, by simpa using h2⟩
  · rintro ⟨i, h1, h2⟩
    exact ⟨i, Nat.zero_le _, h1, by simpa using h2⟩
theorem put_eq {l : List ZD} (hs : Uc l) (p : ZD) : yv l p = (bif Ql l p then l else (l.take (Qw l p (l.length + 1) 0) ++ [p]) ++ l.drop (Qw l p (l.length + 1) 0)) ∧ Uc (yv l p) := by
  obtain ⟨_, k2, k3, k4⟩ := vO l p (l.length + 1) 0 (by omega) (Nat.zero_le _)
  unfold yv
  generalize Qw l p (l.length + 1) 0 = z at k2 k3 k4 ⊢
  simp only [T5]
  have hh : (decide ((z : Int) < (l.length : Int)) && decide (nth l z = p)) = Ql l p := by
    rw [Bool.eq_iff_iff, vj]
    simp only [Bool.and_eq_true, decide_eq_true_eq]
    constructor
    · rintro ⟨h1, h2⟩; exact ⟨z, by omega, h2⟩
    · rintro ⟨j, h1, h2⟩
      have hzj : ¬ j < z := fun hlt => by have := k3 j (Nat.zero_le _) hlt; rw [h2, Ax] at this; cases this
      rcases Nat.eq_or_lt_of_le (Nat.le_of_not_lt hzj) with rfl | hlt
      · exact ⟨by omega, h2⟩
      · have h5 := AD hs hlt h1
        rw [h2, k4 (by omega)] at h5; cases h5
  rw [hh]
  cases hp : Ql l p with
  | true => exact ⟨rfl, hs⟩
  | false =>
    refine ⟨rfl, ?_⟩
    have hno : ∀ k, k < l.length → nth l k ≠ p := fun k hk he => by
      have := (vj l p).2 ⟨k, hk, he⟩
      rw [hp] at this; cases this
    have hsplit : Uc (l.take z ++ l.drop z) := by rw [List.take_append_drop]; exact hs
    obtain ⟨q1, q2, q3⟩ := List.pairwise_append.1 hsplit
    have hleft : ∀ a ∈ l.take z, Y0 a p = true := by
      intro a ha
      obtain ⟨k, hk, rfl⟩ := List.mem_iff_getElem.1 ha
      have hkz : k < z := by rw [List.length_take] at hk; omega
      have := k3 k (Nat.zero_le _) hkz
      rw [List.getElem_take]
      rwa [show nth l k = l[k] by simp [nth, List.getD_eq_getElem?_getD, List.getElem?_eq_getElem (show k < l.length by omega)]] at this
    have hright : ∀ b ∈ l.drop z, Y0 p b = true := by
      by_cases hz : z < l.length
      · have hpz : Y0 p (nth l z) = true := by
          cases hc : Y0 p (nth l z) with
          | true => rfl
          | false => exact absurd (Av (k4 hz) hc) (hno z hz)
        rw [kd hz] at q2 ⊢
        intro b hb
        rcases List.mem_cons.1 hb with rfl | hb
        · exact hpz
        · exact before_trans hpz ((List.pairwise_cons.1 q2).1 b hb)
      · rw [List.drop_eq_nil_of_le (by omega)]; intro b hb; cases hb
    show Uc ((l.take z ++ [p]) ++ l.drop z)
    rw [List.append_assoc]
    refine List.pairwise_append.2 ⟨q1, List.pairwise_cons.2 ⟨hright, q2⟩, fun a ha b hb => ?_⟩
    rcases List.mem_cons.1 (by simpa using hb) with rfl | hb
    · exact hleft a ha
    · exact q3 a ha b hb
theorem Bp {a0 : List Zs} {p : ZD} (h : KD a0 p = true) : 0 ≤ Yx a0 p.Key := by
  rw [← RW] at h
  simp only [qJ, Bool.and_eq_true, Pe] at h
  have h2 := h.2
  unfold QS qf at h2
  cases hc : decide (Yx a0 p.Key < 0) with
  | true => rw [hc] at h2; simp at h2
  | false => simpa using hc
theorem sJ (a0 : ZI) (a1 : ZL) (a2 : List (List Int)) (v1 : Nat) (h : Sm maxLen a1) : ∀ (n : Nat) (l : List ZD) (i : Nat), Uc l → Xy a0 a1 a2 v1 n l i = QM a0 a1 a2 v1 n l i ∧ Uc (Xy a0 a1 a2 v1 n l i)
  | 0, _, _, _ => ⟨rfl, List.Pairwise.nil⟩
  | n + 1, l, i, hs => by
    simp only [Xy, QM]
    cases decide ((i : Int) < ((nth a1.ZO v1).Zd.length : Int)) with
    | false => exact ⟨rfl, hs⟩
    | true =>
      simp only [cond_true, pT]
      generalize (nth (nth a1.ZO v1).Zd i) = p
      have hu : WW a0 a1 a2 p = !((!(KD a0.YY p)) || decide (Yk a0 a1 a2 p ≥ KJ a0 p.Key)) := by
        unfold WW KJ
        simp only [RD, RW, Nq, Vo a0 a1 a2 p h]
        cases hc : KD a0.YY p with
        | false => simp
        | true =>
          have := Bp hc
          rw [show decide (Yx a0.YY p.Key ≥ 0) = true by simpa using this, show decide (Yx a0.YY p.Key < 0) = false by simp; omega]
          simp only [Bool.true_and, Bool.not_true, Bool.false_or, cond_false]
          rw [← decide_not]; simp
      rw [hu]
      obtain ⟨e, hs2⟩ := put_eq hs p
      cases hb : ((!(KD a0.YY p)) || decide (Yk a0 a1 a2 p ≥ KJ a0 p.Key)) with
      | true =>
        rw [Bool.or_assoc, hb, Bool.or_true]
        simp only [Bool.not_true, cond_false, cond_true]
        exact sJ a0 a1 a2 v1 h n l (i + 1) hs
      | false =>
        rw [Bool.or_assoc, hb, Bool.or_false]
        simp only [Bool.not_false, cond_true]
        obtain ⟨r1, r2⟩ := sJ a0 a1 a2 v1 h n (yv l p) (i + 1) hs2
        refine ⟨?_, r2⟩
        rw [r1, e]
        cases Ql l p with
        | true => rfl
        | false =>
          simp only [cond_false]
          congr 2
          exact (List.take_of_length_le (by rw [List.length_drop]; exact Nat.le_refl _)).symm
theorem pN (a0 : ZI) (a1 : ZL) (a2 : List (List Int)) (h : Sm maxLen a1) : ∀ (n : Nat) (l : List ZD) (i : Nat), Uc l → JU a0 a1 a2 n l i = JQ a0 a1 a2 n l i
  | 0, _, _, _ => rfl
  | n + 1, l, i, hs => by
    simp only [JU, JQ]
    cases decide ((i : Int) < (a1.ZO.length : Int)) with
    | false => rfl
    | true =>
      obtain ⟨r1, r2⟩ := sJ a0 a1 a2 i h ((nth a1.ZO i).Zd.length + 1) l 0 hs
      simp only [cond_true]
      rw [pN a0 a1 a2 h n _ _ r2, r1]
theorem Nv (a0 : ZI) (a1 : ZL) (a2 : List (List Int)) (h : Sm maxLen a1) : Zq a0 a1 a2 = Zr a0 a1 a2 := pN a0 a1 a2 h _ [] 0 List.Pairwise.nil
@[simp] theorem Ed (a0 : Zn) : xZ a0 = xE a0 := by simp [xZ, xE]
@[simp] theorem pM (a0 : Zn) : Ri a0 = Rp a0 := by simp [Ri, Rp]
@[simp] theorem sy (a0 : Zn) : yo a0 = yd a0 := by simp [yo, yd]
@[simp] theorem rz (a0 : List Zs) (a1 : Int) : VU a0 a1 = Vi a0 a1 := by simp [VU, Vi, cond_neg]
@[simp] theorem sv (a0 : List Zs) (a1 : Zn) : WS a0 a1 = WO a0 a1 := by simp [WS, WO, Bool.beq_comm]
@[simp] theorem tv (a0 : ZI) (a1 : List ZD) (a2 : ZV) : ∀ (n : Nat) (v0 : Int) (v1 : Nat) (v2 : Int) (v3 : Int) (v4 : Int) (v5 : Int) (v6 : Int) (v7 : Int) (v8 : Int), jJ a0 a1 a2 n v0 v1 v2 v3 v4 v5 v6 v7 v8 = jM a0 a1 a2 n v0 v1 v2 v3 v4 v5 v6 v7 v8 := by
  intro n
  induction n with
  | zero => intros; rfl
  | succ n ih => intros; simp [jJ, jM, ih, ByteArray.append_assoc]
@[simp] theorem Db (a0 : ZI) (a1 : List ZD) (a2 : ZV) : Qp a0 a1 a2 = Qq a0 a1 a2 := by simp [Qp, Qq]
@[simp] theorem WN (a0 a1 : Int) : y5 a0 a1 = if a1 > a0 then a1 else a0 := by
  unfold y5; by_cases h : a1 > a0 <;> simp [h]
theorem W9 (a1 : List ZY) : ∀ (n : Nat) (l : List Int) (i : Nat), zo a1 n l i = z7 a1 n l i
  | 0, _, _ => rfl
  | n + 1, l, i => by simp only [zo, z7, W9 a1 n]
@[simp] theorem NG (a0 : Int) (a1 : List ZY) : yG a0 a1 = Kj a0 a1 := by simp [yG, Kj, ve, W9]
@[simp] theorem Is (a0 : Int) (a1 : ZY) : yj a0 a1 = Jd a0 a1 := by simp [yj, Jd]
def uA (l : List ZY) (v : Nat) : Bool := decide ((v : Int) > 0) && decide ((nth l (v - 1)).Authority ≥ (nth l v).Authority)
def uq (a0 : ZI) (a1 : List ZD) (x : ZY) : Bool := Ql a1 (Jd (Xs a0.ZN x) x)
def FE (a0 : ZI) (a1 : List ZD) (l : List ZY) : Nat → Nat → Bool
  | 0, _ => true
  | n + 1, v => bif decide ((v : Int) < (l.length : Int)) then ((!uA l v) && uq a0 a1 (nth l v)) && FE a0 a1 l n (v + 1) else true
theorem DQ (a0 : ZI) (a1 : List ZD) (l : List ZY) : ∀ n v, l.length < n + v → (FE a0 a1 l n v = true ↔ ∀ i, v ≤ i → i < l.length → uA l i = false ∧ uq a0 a1 (nth l i) = true)
  | 0, v, h => ⟨fun _ i h1 h2 => by omega, fun _ => rfl⟩
  | n + 1, v, h => by
    simp only [FE]
    by_cases hv : v < l.length
    · rw [show decide ((v : Int) < (l.length : Int)) = true by simpa using hv]
      simp only [cond_true, Bool.and_eq_true, Bool.not_eq_true', DQ a0 a1 l n (v + 1) (by omega)]
      constructor
      · rintro ⟨h1, h2⟩ i h3 h4
        rcases Nat.eq_or_lt_of_le h3 with rfl | h3
        · exact h1
        · exact h2 i h3 h4
      · intro h1
        exact ⟨h1 v (Nat.le_refl _) hv, fun i h3 h4 => h1 i (by omega) h4⟩
    · rw [show decide ((v : Int) < (l.length : Int)) = false by simpa using hv]
      exact ⟨fun _ i h1 h2 => by omega, fun _ => rfl⟩
theorem sr (a1 : List ZD) (p : ZD) : Rt a1 p = Ql a1 p := by
  have : ∀ n v, V2 a1 p n v = qI a1 p n v := by
    intro n
    induction n with
    | zero => intro v; rfl
    | succ n ih => intro v; simp only [V2, qI, ih, T5, Mm]
  simp only [Rt, Ql, this]
theorem vm (a0 : ZI) (a1 : List ZD) (l : List ZY) : ∀ n s v, j8 a0 a1 l n s v = bif FE a0 a1 l n v then (match QO a0.ZN l n s v with | .inl _ => .inl (0, false) | .inr z => .inr z) else .inl (0, false)
  | 0, s, v => rfl
  | n + 1, s, v => by
    simp only [j8, QO, FE, G2, Is, F6, sr]
    cases decide ((v : Int) < (l.length : Int)) with
    | false => rfl
    | true =>
      simp only [cond_true]
      rw [vm a0 a1 l n]
      rw [show (decide ((v : Int) > 0) && decide ((nth l (v - 1)).Authority ≥ (nth l v).Authority)) = uA l v from rfl, show Ql a1 (Jd (Xs a0.ZN (nth l v)) (nth l v)) = uq a0 a1 (nth l v) from rfl]
      cases (KR a0.ZN (nth l v)).2 <;> cases uA l v <;> cases uq a0 a1 (nth l v) <;> cases FE a0 a1 l n (v + 1) <;> rfl
theorem wI (l : List ZY) : Y8 l = true ↔ ∀ i, 1 ≤ i → i < l.length → decide ((nth l (i - 1)).Authority ≥ (nth l i).Authority) = false := by
  unfold Y8
  refine Iff.trans (kY (L := JL l) (len := l.length) (c := fun v => decide ((nth l (v - 1)).Authority ≥ (nth l v).Authority)) (fun _ => rfl) (fun _ _ => rfl) (l.length + 1) 1 (by omega) true) ?_
  simp
theorem r9 (a0 : ZI) (a1 : ZL) (a2 : List ZD) (k : Nat) : ∀ n b v, (nth a1.Zv k).length < n + v → (Qf a0 a1 a2 k n b v = true ↔ b = true ∧ ∀ i, v ≤ i → i < (nth a1.Zv k).length → uq a0 a2 (nth (nth a1.Zv k) i) = true) ∨ n = 0
  | 0, _, _, _ => .inr rfl
  | n + 1, b, v, h => by
    left
    simp only [Qf]
    by_cases hv : v < (nth a1.Zv k).length
    · rw [show decide ((v : Int) < ((nth a1.Zv k).length : Int)) = true by simpa using hv, cond_true]
      rcases r9 a0 a1 a2 k n (b && uq a0 a2 (nth (nth a1.Zv k) v)) (v + 1) (by omega) with e | e
      · refine Iff.trans e ?_
        rw [Bool.and_eq_true]
        constructor
        · rintro ⟨⟨h1, h2⟩, h3⟩
          refine ⟨h1, fun i h4 h5 => ?_⟩
          rcases Nat.eq_or_lt_of_le h4 with rfl | h4
          · exact h2
          · exact h3 i h4 h5
        · rintro ⟨h1, h2⟩
          exact ⟨⟨h1, h2 v (Nat.le_refl _) hv⟩, fun i h4 h5 => h2 i (by omega) h5⟩
      · omega
    · rw [show decide ((v : Int) < ((nth a1.Zv k).length : Int)) = false by simpa using hv, cond_false]
      exact ⟨fun hb => ⟨hb, fun i h1 h2 => by omega⟩, fun hb => hb.1⟩
theorem rZ (a0 : ZI) (a1 : ZL) (a2 : List ZD) (k : Nat) : FE a0 a2 (nth a1.Zv k) ((nth a1.Zv k).length + 1) 0 = (Y8 (nth a1.Zv k) && Qf a0 a1 a2 k ((nth a1.Zv k).length + 1) true 0) := by
  rw [Bool.eq_iff_iff, Bool.and_eq_true, DQ _ _ _ _ _ (by omega), wI]
  rcases r9 a0 a1 a2 k ((nth a1.Zv k).length + 1) true 0 (by omega) with e | e
  · rw [e]
    constructor
    · intro h
      refine ⟨fun i h1 h2 => ?_, rfl, fun i h1 h2 => (h i h1 h2).2⟩
      have := (h i (Nat.zero_le _) h2).1
      unfold uA at this
      rwa [show decide ((i : Int) > 0) = true by simp; omega, Bool.true_and] at this
    · rintro ⟨h1, _, h3⟩ i _ h5
      refine ⟨?_, h3 i (Nat.zero_le _) h5⟩
      unfold uA
      by_cases hi : 0 < i
      · rw [h1 i hi h5, Bool.and_false]
      · rw [show decide ((i : Int) > 0) = false by simp; omega]; rfl
  · omega
theorem GG (a0 : List ZG) (l : List ZY) : ∀ n s v r, QO a0 l n s v = .inl r → r = (ZF.mk 0 0, false)
  | 0, _, _, _, h => by cases h
  | n + 1, s, v, r, h => by
    simp only [QO] at h
    cases hc : decide ((v : Int) < (l.length : Int)) with
    | false => rw [hc] at h; cases h
    | true =>
      cases hb : (!(KR a0 (nth l v)).2) with
      | true => rw [hc, hb] at h; cases h; rfl
      | false => rw [hc, hb] at h; exact GG a0 l n _ _ r h
theorem tj (a0 : ZI) (a1 : ZL) (a2 : List ZD) (k : Nat) (h : Sm maxLen a1) : Ki a0 a2 (nth a1.Zv k) = bif (Y8 (nth a1.Zv k) && Qf a0 a1 a2 k ((nth a1.Zv k).length + 1) true 0) then ((Qm a0.ZN (nth a1.Zv k) a0.QR).1.YN, (Qm a0.ZN (nth a1.Zv k) a0.QR).2) else (0, false) := by
  unfold Ki Qm
  rw [vm, rZ]
  cases (Y8 (nth a1.Zv k) && Qf a0 a1 a2 k ((nth a1.Zv k).length + 1) true 0) with
  | false => rfl
  | true =>
    simp only [cond_true]
    cases hh : QO a0.ZN (nth a1.Zv k) ((nth a1.Zv k).length + 1) [] 0 with
    | inl r => rw [GG _ _ _ _ _ _ hh]
    | inr z =>
      simp only
      rw [Rg _ _ (Nat.le_trans (T6 a0.ZN (nth a1.Zv k) _ _ 0 (by simp) (by omega) z hh) (Yv (Z3 (ZL.jx h))))]
theorem HV (a0 : ZI) (a1 : ZL) (a2 : List ZD) (a3 : ZV) (ha : (a3.Kd == 0) = true) : ∀ (n : Nat) (x : Int) (v : Nat), a1.Zv.length < n + v → v ≤ a1.Zv.length → QZ a0 a1 a2 a3 n x v = x
  | 0, _, _, h1, h2 => by omega
  | n + 1, x, v, h1, h2 => by
    simp only [QZ]
    by_cases hv : v < a1.Zv.length
    · rw [show decide ((v : Int) < (a1.Zv.length : Int)) = true by simpa using hv, ha]
      exact HV a0 a1 a2 a3 ha n x (v + 1) (by omega) hv
    · rw [show decide ((v : Int) < (a1.Zv.length : Int)) = false by simpa using hv]; rfl
theorem vH (a0 : ZI) (a1 : ZL) (a2 : List ZD) (a3 : ZV) (h : Sm maxLen a1) : ∀ (n : Nat) (x : Int) (v : Nat), a1.Zv.length < n + v → v ≤ a1.Zv.length → Qv a0 a1 a2 a3 n x v = QZ a0 a1 a2 a3 n x v
  | 0, _, _, h1, h2 => by omega
  | n + 1, x, v, h1, h2 => by
    cases ha : (a3.Kd == 0) with
    | true =>
      rw [HV a0 a1 a2 a3 ha (n + 1) x v h1 h2]
      simp only [Qv, bne, ha, Bool.not_true, Bool.and_false, cond_false]
    | false =>
      simp only [Qv, QZ, WN, NG]
      rw [show (a3.Kd != 0) = true by simp only [bne, ha, Bool.not_false], ha, Bool.and_true, Bool.false_or]
      by_cases hv : v < a1.Zv.length
      · rw [show decide ((v : Int) < (a1.Zv.length : Int)) = true by simpa using hv]
        have ih := fun x => vH a0 a1 a2 a3 h n x (v + 1) (by omega) hv
        simp only [cond_true, ih, tj a0 a1 a2 v h]
        cases (Kj a3.Method (nth a1.Zv v) != a3.Kd) with
        | true => simp only [cond_true, Bool.or_true]
        | false =>
          simp only [cond_false, Bool.or_false]
          cases Y8 (nth a1.Zv v) with
          | false => rfl
          | true =>
            simp only [Bool.true_and, Bool.not_true, cond_false]
            cases Qf a0 a1 a2 v ((nth a1.Zv v).length + 1) true 0 with
            | false => rfl
            | true => rfl
      · rw [show decide ((v : Int) < (a1.Zv.length : Int)) = false by simpa using hv]; rfl
theorem vf (a0 : ZI) (a1 : ZL) (a2 : List ZD) (a3 : ZV) : ∀ (n : Nat) (x : Int) (v : Nat), zb a0 a1 a2 a3 n x v = Qv a0 a1 a2 a3 n x v
  | 0, _, _ => rfl
  | n + 1, x, v => by simp only [Qv, zb, vf a0 a1 a2 a3 n]
theorem vR (a0 : ZI) (a1 : ZL) (a2 : List ZD) (k : Nat) : ∀ (n : Nat) (x : Bool) (v : Nat), qb a0 a1 a2 k n x v = Qf a0 a1 a2 k n x v
  | 0, _, _ => rfl
  | n + 1, x, v => by simp only [qb, Qf, vR a0 a1 a2 k n]
theorem vn (a0 : ZI) (a1 : ZL) (a2 : List ZD) (a3 : ZV) : ∀ (n : Nat) (x : Int) (v : Nat), zS a0 a1 a2 a3 n x v = QZ a0 a1 a2 a3 n x v
  | 0, _, _ => rfl
  | n + 1, x, v => by simp only [zS, QZ, vR, vn a0 a1 a2 a3 n]
theorem GH (a0 : ZI) (a1 : ZL) (a2 : List ZD) (a3 : ZV) (h : Sm maxLen a1) : QF a0 a1 a2 a3 = QD a0 a1 a2 a3 := by
  simp only [QF, QD, RD, vf, vn, vH a0 a1 a2 a3 h (a1.Zv.length + 1) _ 0 (by omega) (Nat.zero_le _)]
@[simp] theorem wm (a0 : List ZD) (a1 : Zn) : ∀ (n : Nat) (v0 : List Zu) (v1 : Nat), Jx a0 a1 n v0 v1 = J5 a0 a1 n v0 v1 := by
  intro n
  induction n with
  | zero => intros; rfl
  | succ n ih => intros; simp [Jx, J5, ih, ByteArray.append_assoc]
@[simp] theorem Ms (a0 : List ZD) (a1 : Zn) : JZ a0 a1 = Jc a0 a1 := by simp [JZ, Jc]
theorem NV (a0 : List Zu) (a1 : Int) : ∀ (n : Nat) (v0 v1 v2 : Int) (i : Nat), (xf a0 a1 n v0 v1 v2 i).2 = xj a0 a1 n v1 v2 i
  | 0, _, _, _, _ => rfl
  | n + 1, v0, v1, v2, i => by
    simp only [xf, xj, WN]
    cases decide ((i : Int) < (a0.length : Int)) with
    | false => rfl
    | true =>
      cases ((nth a0 i).YA != a1) with
      | true => exact NV a0 a1 n _ _ _ _
      | false =>
        simp only [cond_true, cond_false]
        rw [show decide ((nth a0 i).YW ≥ 0) = !decide ((nth a0 i).YW < 0) by rw [← decide_not]; simp]
        cases decide ((nth a0 i).YW < 0) with
        | true => exact NV a0 a1 n _ _ _ _
        | false =>
          simp only [cond_false, Bool.not_false, cond_true]
          cases (decide (v0 < 0) || decide ((nth a0 i).YW < v0)) <;> exact NV a0 a1 n _ _ _ _
@[simp] theorem Cf (a0 : List Zu) (a1 : Int) : JE a0 a1 = X5 a0 a1 := by
  unfold JE X5 kL
  have h := NV a0 a1 (a0.length + 1) (-1) (-1) (-1) 0
  rw [← h]
  simp only [WN]
theorem tF (l : List ZF) : ∀ (n : Nat) (v0 : List ZF) (v1 : Nat) (x y : Int), jG l n v0 v1 x y = yR l n v0 v1 x y
  | 0, _, _, _, _ => rfl
  | n + 1, v0, v1, x, y => by simp only [jG, yR, Tp, WN, tF l n]
theorem tx (l : List ZF) (x : Int) : ∀ (n v : Nat), SH l x n v = WZ l x n v
  | 0, _ => rfl
  | n + 1, v => by simp only [SH, WZ, tx l x n]
theorem tM (a0 : List ZF) : ∀ (n : Nat) (v0 : List ZF) (v1 : Nat), yV a0 n v0 v1 = yU a0 n v0 v1
  | 0, _, _ => rfl
  | n + 1, v0, v1 => by
    simp only [yV, yU, SY, tF, tx, Uy, tM a0 n]
    cases decide ((v1 : Int) < (a0.length : Int)) <;> cases YR (nth a0 v1) <;> rfl
@[simp] theorem CR (a0 : List ZF) : Xx a0 = XQ a0 := by simp only [Xx, XQ, tM]
theorem pg (a : List ZF) (b c : Int) : XG a b c = Zl b c a := by
  simp only [XG, Zl, Fi]
  cases (J1 b c).2 <;> rfl
@[simp] theorem rF (a0 : Zn) (a1 : List Zu) : xF a0 a1 = xU a0 a1 := by
  simp only [xF, xU, pg, CR, Cf]
@[simp] theorem rG (a0 : ZF) (a1 : ZF) : V3 a0 a1 = qx a0 a1 := by simp [V3, qx]
@[simp] theorem vb (a0 : List ZF) (a1 : ZF) : ∀ (n : Nat) (v0 : Nat), xO a0 a1 n v0 = z8 a0 a1 n v0 := by
  intro n
  induction n with
  | zero => intros; rfl
  | succ n ih => intros; simp [xO, z8, ih, ByteArray.append_assoc]
@[simp] theorem IH (a0 : List ZF) (a1 : ZF) : ya a0 a1 = Je a0 a1 := by simp [ya, Je]
@[simp] theorem Em (a0 : Zn) (a1 : List Zu) (a2 : ZF) : V7 a0 a1 a2 = UK a0 a1 a2 := by simp [V7, UK]
theorem Py (a0 : List Zu) (a1 : Int) : ∀ (n : Nat) (v0 v1 v2 : Int) (i : Nat), ((xf a0 a1 n v0 v1 v2 i).1, (xf a0 a1 n v0 v1 v2 i).2.2) = KU a0 a1 n v0 v2 i
  | 0, _, _, _, _ => rfl
  | n + 1, v0, v1, v2, i => by
    simp only [xf, KU, WN]
    cases decide ((i : Int) < (a0.length : Int)) with
    | false => rfl
    | true =>
      cases ((nth a0 i).YA != a1) with
      | true => exact Py a0 a1 n _ _ _ _
      | false =>
        simp only [cond_true, cond_false]
        cases decide ((nth a0 i).YW < 0) with
        | true => exact Py a0 a1 n _ _ _ _
        | false =>
          simp only [cond_false]
          cases (decide (v0 < 0) || decide ((nth a0 i).YW < v0)) <;> exact Py a0 a1 n _ _ _ _
@[simp] theorem HO (a0 : List Zu) (a1 : Int) : zK a0 a1 = xI a0 a1 := by
  unfold zK xI kL
  have h := Py a0 a1 (a0.length + 1) (-1) (-1) (-1) 0
  rw [← h]
theorem R1 (s : ZF) : YR s = true ↔ 0 ≤ s.YN ∧ s.YN ≤ s.To ∧ s.To ≤ 10000 := by
  simp [YR, yF, Ze]; omega
@[simp] theorem tq (a0 a1 : ZF) : zB a0 a1 = JG a0 a1 := by
  unfold zB JG
  simp only [Uy]
  cases h0 : YR a0 with
  | false => rfl
  | true =>
    cases h1 : YR a1 with
    | false => rfl
    | true =>
      rw [R1] at h0 h1
      simp only [WN, Tp, Bool.not_true, Bool.or_false, Bool.false_or, cond_false]
      generalize hf : (if a1.YN > a0.YN then a1.YN else a0.YN) = f
      generalize ht : (if a1.To < a0.To then a1.To else a0.To) = t
      have hf' : 0 ≤ f ∧ f ≤ 10000 := by split at hf <;> omega
      have ht' : 0 ≤ t ∧ t ≤ 10000 := by split at ht <;> omega
      unfold Xz
      simp only [WN, Tp]
      rw [show (if f > 0 then f else 0) = f by split <;> omega, show (if t < 10000 then t else 10000) = t by split <;> omega]
      by_cases hft : f ≤ t
      · rw [show decide (f > t) = false by simp; omega, show YR (ZF.mk f t) = true from (R1 _).2 ⟨hf'.1, hft, ht'.2⟩]; rfl
      · rw [show decide (f > t) = true by simp; omega, show YR (ZF.mk f t) = false by
          cases hs : YR (ZF.mk f t) with
          | false => rfl
          | true => rw [R1] at hs; exact absurd hs.2.1 hft]
        rfl
@[simp] theorem sj (a0 : List ZF) (a1 : List ZF) (v1_1 : Nat) : ∀ (n : Nat) (v0 : List ZF) (v1 : Nat), jX a0 a1 v1_1 n v0 v1 = K1 a0 a1 v1_1 n v0 v1 := by
  intro n
  induction n with
  | zero => intros; rfl
  | succ n ih => intros; simp [jX, K1, ih, ByteArray.append_assoc]
@[simp] theorem sC (a0 : List ZF) (a1 : List ZF) : ∀ (n : Nat) (v0 : List ZF) (v1 : Nat), Wj a0 a1 n v0 v1 = jC a0 a1 n v0 v1 := by
  intro n
  induction n with
  | zero => intros; rfl
  | succ n ih => intros; simp [Wj, jC, ih, ByteArray.append_assoc]
@[simp] theorem Cs (a0 : List ZF) (a1 : List ZF) : VY a0 a1 = kc a0 a1 := by simp [VY, kc]
theorem DR (c d : ZF) (h : YR d = false) : kc [c] [d] = [] := by
  have hm : (JG c d).2 = false := by unfold JG; rw [h]; cases YR c <;> rfl
  have h2 : K1 [c] [d] 0 2 [] 0 = [] := by
    show (bif true then (bif (JG c d).2 then _ else K1 [c] [d] 0 1 [] 1) else []) = []
    rw [hm]; rfl
  show XQ (jC [c] [d] 1 (K1 [c] [d] 0 2 [] 0) 1) = []
  rw [h2]; rfl
@[simp] theorem te (a0 : Zn) (a1 : List Zu) : yO a0 a1 = yT a0 a1 := by
  simp only [yO, yT, HO, Cs, Ed]
  generalize xI a1 a0.YA = g
  unfold Xz
  simp only [WN, Tp]
  by_cases h1 : g < 0
  · have hs : YR (ZF.mk 0 g) = false := by
      cases hc : YR (ZF.mk 0 g) with
      | false => rfl
      | true => rw [R1] at hc; simp at hc; omega
    rw [DR _ _ hs]
    rw [show decide ((if (0 : Int) > 0 then (0 : Int) else 0) > (if g < 10000 then g else 10000)) = true by simp; omega]
    rfl
  · by_cases h2 : g > 10000
    · have hs : YR (ZF.mk 0 g) = false := by
        cases hc : YR (ZF.mk 0 g) with
        | false => rfl
        | true => rw [R1] at hc; simp at hc; omega
      rw [DR _ _ hs, show decide (g > 10000) = true by simpa using h2, Bool.or_true]; rfl
    · rw [show decide (g > 10000) = false by simpa using h2, show (if g < 10000 then g else 10000) = g by split <;> omega, show decide ((if (0 : Int) > 0 then (0 : Int) else 0) > g) = false by simp; omega]
      rfl
@[simp] theorem IZ (a0 : Zn) (a1 : List Zu) (a2 : ZF) : kI a0 a1 a2 = ju a0 a1 a2 := by simp [kI, ju]
@[simp] theorem vW (a0 : List ZD) : ∀ (n : Nat) (v0 : List Zy) (v1 : Nat), Kk a0 n v0 v1 = Kc a0 n v0 v1 := by
  intro n
  induction n with
  | zero => intros; rfl
  | succ n ih => intros; simp [Kk, Kc, ih, ByteArray.append_assoc]
@[simp] theorem Ll (a0 : List ZD) : yp a0 = yf a0 := by simp [yp, yf]
@[simp] theorem sD (a0 : Zy) : WV a0 = WG a0 := by simp [WV, WG]
@[simp] theorem uT (a0 : Zy) : JV a0 = JX a0 := by simp [JV, JX]
@[simp] theorem vJ (a0 : List Zs) (a1 : Zy) : xJ a0 a1 = xn a0 a1 := by simp [xJ, xn]
@[simp] theorem Am (a0 : List Zs) (a1 : List Zy) (a2 : Int) (a3 : Int) : ∀ (n : Nat) (v0 : List ZF) (v1 : Nat), JP a0 a1 a2 a3 n v0 v1 = JR a0 a1 a2 a3 n v0 v1 := by
  intro n
  induction n with
  | zero => intros; rfl
  | succ n ih => intros; simp [JP, JR, ih, ByteArray.append_assoc]
@[simp] theorem Nb (a0 : List Zs) (a1 : List Zy) (a2 : Int) (a3 : Int) : Kf a0 a1 a2 a3 = Jm a0 a1 a2 a3 := by simp [Kf, Jm]
theorem BM (l : List ZF) (s : ZF) (h : Je l s = true) : YR s = true := by
  unfold Je at h
  obtain ⟨i, _, _, h3⟩ := (Mr (L := z8 l s) (len := (XQ l).length) (c := fun v => qx s (nth (XQ l) v)) (fun _ => rfl) (fun _ _ => rfl) ((XQ l).length + 1) 0 (by omega)).1 h
  unfold qx at h3
  simp only [Bool.and_eq_true] at h3
  exact h3.1.1.1
@[simp] theorem Lv (a0 : List Zs) (a1 : List Zy) (a2 a3 : Int) (a4 : ZF) : jm a0 a1 a2 a3 a4 = jg a0 a1 a2 a3 a4 := by
  simp only [jm, jg, Uy, IH, Nb]
  cases (a2 == 0) with
  | false => rfl
  | true =>
    simp only [cond_true, Bool.true_and]
    cases hc : Je (Jm a0 a1 a2 a3) a4 with
    | false => simp
    | true => rw [BM _ _ hc]; rfl
theorem NU (a0 : ZI) (a1 : ZL) (a2 : List (List Int)) (a3 : Int) (a4 : ZV) (h : Sm maxLen a1) : xC a0 a1 a2 a3 a4 = xi a0 a1 a2 a3 a4 := by
  unfold xC xi ka
  simp only [D2, My, RD, P8, Nv a0 a1 a2 h, Vo a0 a1 a2 _ h, GH a0 a1 _ a4 h, Nq, HQ, Db, Em, Ms, IZ, Lv, Ll]
  cases Vj a0 with
  | false => rfl
  | true =>
    cases zZ a4 with
    | false => rfl
    | true =>
      cases decide (a3 < 0) with
      | true => rfl
      | false =>
        cases (a3 != a4.Yz) with
        | true => rfl
        | false =>
          cases hk : decide (Yx a0.YY a4.Key < 0) with
          | true => rfl
          | false =>
            cases KX a0.YY a4 with
            | false => rfl
            | true =>
              rw [show KJ a0 a4.Key = zx a0.Methods (nth a0.YY (Yx a0.YY a4.Key).toNat).Method by unfold KJ; rw [hk]; rfl]
              rfl
theorem wP (a0 : ZI) (a1 : ZL) (a2 : Zc) (a3 : ZV) (h : Sm maxLen a1) : NI a0 a1 a2 a3 = Nk a0 a1 a2 a3 := by
  simp only [NI, Nk, Ok, Hv, NU a0 a1 _ _ a3 h]
theorem Ha (a0 : ZI) (a1 : Zm) (h : Sm maxLen a1) : WQ a0 a1 = Wg a0 a1 := by
  simp only [WQ, Wg, O5]
  refine wP _ _ _ _ ⟨⟨Nat.le_of_ble_eq_true rfl, fun x hx => ?_⟩, ⟨Nat.zero_le _, fun x hx => by cases hx⟩⟩
  rcases List.mem_cons.1 hx with rfl | hx
  · exact Zm.Xd h
  · cases hx
@[simp] theorem LH (a0 : Zo) (a1 : Int) (h : Sm maxLen a0) : JY a0 a1 = zO a0 a1 := by
  simp only [JY, zO, AP]
  rw [Ha _ _ (Z3 (Zf.Rs (Z3 (Zo.Uh h))))]
@[simp] theorem Ra (a0 : Zo) (h : Sm maxLen a0) : Y2 a0 = Zz a0 := by
  rw [Ug, UU, Vs, List.flatMap_assoc]
  simp only [LH a0 _ h]
theorem sX (a0 : Zo) : itn a0.ZJ ≤ cn a0 := by
  have h : itn a0.ZJ ≤ cnL (cn : Zf → Nat) a0.ZJ := B4 (fun a => by
    have := tN (c := (cn : Zm → Nat)) (fun x => by rw [Zm.X3]; simp only [KH]; omega) a.YM
    rw [Zf.X3, P0 (x := a.YM)]; omega) _
  rw [Zo.X3, P0 (x := a0.ZJ)]; omega
theorem I5 (a0 : Zo) (h : cn a0 ≤ 33554464) : cn (Zz a0) ≤ 1152921504606846976 := by
  have h1 := kT a0
  have h2 := sX a0
  rw [vV]; omega
theorem Dm (a0 : List Int) (a1 : Int) : WX a0 a1 = true ↔ ∃ i, 0 ≤ i ∧ i < a0.length ∧ (nth a0 i == a1) = true := by
  unfold WX Pt
  rcases MH (L := U1 a0 a1) (r := fun i => (i : Int)) (fun _ => rfl) (fun _ _ => rfl) (a0.length + 1) 0 (by omega) with ⟨e, p⟩ | ⟨i, e, p1, p2, p3, p4⟩
  · rw [e]
    constructor
    · intro h; simp at h
    · rintro ⟨i, h1, h2, h3⟩; have := p i h1 h2; rw [h3] at this; cases this
  · rw [e]
    exact ⟨fun _ => ⟨i, p1, p2, p3⟩, fun _ => by simp⟩
@[simp] theorem oE (a0 : List Int) (a1 : Int) : HE a0 a1 = WX a0 a1 := by
  rw [Bool.eq_iff_iff, Dm]
  exact Mr (L := Px a0 a1) (fun _ => rfl) (fun _ _ => rfl) (a0.length + 1) 0 (by omega)
@[simp] theorem ui (a0 : Zo) (h : Sm maxLen a0) : Qt a0 = YU a0 := by
  have hl : ∀ n v i, Kw a0 n v i = J0 a0 n v i := by
    intro n
    induction n with
    | zero => intros; rfl
    | succ n ih => intro v i; simp [Kw, J0, ih, Ra a0 h]
  simp only [Qt, YU, hl, Ra a0 h]
theorem LF (a0 : Zo) (h : cn a0 ≤ 33554464) : cn (YU a0) ≤ 1152921504606846976 := by
  have h0 : YU a0 = (Zz a0).flatMap (fun x => bif WX a0.QP x then [x] else []) := by
    have := LA (as := Zz a0) (fun x => WX a0.QP x) (fun x => x) (F := fun n i l => J0 a0 n l i) (fun _ _ _ => rfl) ((Zz a0).length + 1) 0 [] (by omega) (Nat.zero_le _)
    unfold YU
    rw [this]; rfl
  have h1 := kT a0
  have h2 := sX a0
  have h3 : (YU a0).length ≤ (Zz a0).length := by rw [h0]; exact Pw _ (fun x => FQ _ _) _
  rw [vV]; omega
end Go.Mo
