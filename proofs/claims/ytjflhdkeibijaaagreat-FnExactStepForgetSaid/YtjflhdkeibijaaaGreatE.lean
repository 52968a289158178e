/- The models of the program and of the reference agree. No condition. -/
import Derived.Test.YtjflhdkeibijaaaGreatL
namespace Go.Mo
open Go.Vm
set_option linter.unusedSimpArgs false
set_option linter.unusedVariables false
/-- a loop that looks whether one of the places is bad -/
theorem I7 {L : Nat → Nat → Sum Bool Unit} {len : Nat} {c : Nat → Bool} (h0 : ∀ v, L 0 v = .inr ()) (hs : ∀ n v, L (n + 1) v = (bif decide ((v : Int) < (len : Int)) then (bif c v then .inl false else L n (v + 1)) else .inr ())) :
    ∀ n v, len < n + v → (L n v = .inr () ∧ ∀ i, v ≤ i → i < len → c i = false) ∨ (L n v = .inl false ∧ ∃ i, v ≤ i ∧ i < len ∧ c i = true)
  | 0, v, h => .inl ⟨h0 v, fun i h1 h2 => by omega⟩
  | n + 1, v, h => by
    rw [hs]
    by_cases hv : v < len
    · rw [show decide ((v : Int) < (len : Int)) = true by simpa using hv]
      cases hc : c v with
      | true => exact .inr ⟨rfl, v, Nat.le_refl _, hv, hc⟩
      | false =>
        rcases I7 h0 hs n (v + 1) (by omega) with ⟨e, k⟩ | ⟨e, i, k1, k2, k3⟩
        · refine .inl ⟨e, fun i h1 h2 => ?_⟩
          rcases Nat.eq_or_lt_of_le h1 with rfl | h1
          · exact hc
          · exact k i h1 h2
        · exact .inr ⟨e, i, by omega, k2, k3⟩
    · rw [show decide ((v : Int) < (len : Int)) = false by simpa using hv]
      exact .inl ⟨rfl, fun i h1 h2 => by omega⟩
/-- a loop that looks for the first place -/
theorem kb {β : Type} {L : Nat → Nat → Sum β Unit} {len : Nat} {c : Nat → Bool} {r : Nat → β} (h0 : ∀ v, L 0 v = .inr ()) (hs : ∀ n v, L (n + 1) v = (bif decide ((v : Int) < (len : Int)) then (bif c v then .inl (r v) else L n (v + 1)) else .inr ())) :
    ∀ n v, len < n + v → (L n v = .inr () ∧ ∀ i, v ≤ i → i < len → c i = false) ∨ (∃ i, L n v = .inl (r i) ∧ v ≤ i ∧ i < len ∧ c i = true ∧ ∀ k, v ≤ k → k < i → c k = false)
  | 0, v, h => .inl ⟨h0 v, fun i h1 h2 => by omega⟩
  | n + 1, v, h => by
    rw [hs]
    by_cases hv : v < len
    · rw [show decide ((v : Int) < (len : Int)) = true by simpa using hv]
      cases hc : c v with
      | true => exact .inr ⟨v, rfl, Nat.le_refl _, hv, hc, fun k h1 h2 => by omega⟩
      | false =>
        rcases kb h0 hs n (v + 1) (by omega) with ⟨e, k⟩ | ⟨i, e, k1, k2, k3, k4⟩
        · refine .inl ⟨e, fun i h1 h2 => ?_⟩
          rcases Nat.eq_or_lt_of_le h1 with rfl | h1
          · exact hc
          · exact k i h1 h2
        · refine .inr ⟨i, e, by omega, k2, k3, fun k h1 h2 => ?_⟩
          rcases Nat.eq_or_lt_of_le h1 with rfl | h1
          · exact hc
          · exact k4 k h1 h2
    · rw [show decide ((v : Int) < (len : Int)) = false by simpa using hv]
      exact .inl ⟨rfl, fun i h1 h2 => by omega⟩
/-- the same, as a Boolean -/
theorem K3 {L : Nat → Nat → Sum Bool Unit} {len : Nat} {c : Nat → Bool} (h0 : ∀ v, L 0 v = .inr ()) (hs : ∀ n v, L (n + 1) v = (bif decide ((v : Int) < (len : Int)) then (bif c v then .inl false else L n (v + 1)) else .inr ())) (n v : Nat) (h : len < n + v) (X : Bool) :
    (match L n v with | .inl r => r | .inr _ => X) = true ↔ (∀ i, v ≤ i → i < len → c i = false) ∧ X = true := by
  rcases I7 h0 hs n v h with ⟨e, k⟩ | ⟨e, i, k1, k2, k3⟩
  · rw [e]; simp only; exact ⟨fun hx => ⟨k, hx⟩, fun hx => hx.2⟩
  · rw [e]; simp only
    constructor
    · intro hx; cases hx
    · intro hx; rw [hx.1 i k1 k2] at k3; cases k3
theorem M5 {L : Nat → Nat → Sum Bool Unit} {len : Nat} {c : Nat → Bool} (h0 : ∀ v, L 0 v = .inr ()) (hs : ∀ n v, L (n + 1) v = (bif decide ((v : Int) < (len : Int)) then (bif c v then .inl true else L n (v + 1)) else .inr ())) (n v : Nat) (h : len < n + v) :
    (match L n v with | .inl r => r | .inr _ => false) = true ↔ ∃ i, v ≤ i ∧ i < len ∧ c i = true := by
  rcases kb (r := fun _ => true) h0 hs n v h with ⟨e, k⟩ | ⟨i, e, k1, k2, k3, k4⟩
  · rw [e]; simp only
    constructor
    · intro hx; cases hx
    · rintro ⟨i, h1, h2, h3⟩; rw [k i h1 h2] at h3; cases h3
  · rw [e]; exact ⟨fun _ => ⟨i, k1, k2, k3⟩, fun _ => rfl⟩
theorem HJ {α : Type} [Inhabited α] {l : List α} {i n : Nat} (h : i < n) : nth (l.take n) i = nth l i := by
  unfold nth; simp [List.getD_eq_getElem?_getD, List.getElem?_take, h]
@[simp] theorem ka (a0 a1 a2 : Int) : Y3 a0 a1 a2 = Z7 a0 a1 a2 := rfl
@[simp] theorem S5 (a0 : ZZ) (a1 : Int) : zR a0 a1 = Xn a0 a1 := by simp [zR, Xn]
theorem LJ (a0 : ZF) (a1 : Int) : ∀ (m i : Nat) (d : Int) (l : List ZY), (Qw a0 a1 m d i l).2 = X6 a0 a1 m i l
  | 0, _, _, _ => rfl
  | m + 1, i, d, l => by
    simp only [Qw, X6]
    cases decide ((↑i : Int) < (↑a0.ZM.length : Int)) with
    | false => rfl
    | true =>
      simp only [cond_true]
      rw [show decide ((nth a0.ZM i).Y8 ≥ a1) = !decide ((nth a0.ZM i).Y8 < a1) by rw [← decide_not]; simp]
      cases decide ((nth a0.ZM i).Y8 < a1) <;> simp [LJ a0 a1 m]
theorem Sq (a0 : ZF) (a1 : Int) : (KB a0 a1).1 = (QJ a0 a1).1 := by
  unfold KB QJ
  have h := LJ a0 a1 (a0.ZM.length + 1) 0 0 []
  cases hs : Qw a0 a1 (a0.ZM.length + 1) 0 0 [] with
  | mk x y => rw [hs] at h; simp only at h ⊢; rw [h]
theorem SB (a0 : ZF) (a1 : Int) : ∀ (m i : Nat) (l : List ZY), cnL cn (X6 a0 a1 m i l) ≤ cnL cn l + cnL cn (a0.ZM.drop i)
  | 0, _, _ => by show cnL cn (default : List ZY) ≤ _; exact Nat.zero_le _
  | m + 1, i, l => by
    simp only [X6]
    cases hc : decide ((↑i : Int) < (↑a0.ZM.length : Int)) with
    | false => simp only [cond_false]; omega
    | true =>
      have hlt : i < a0.ZM.length := by simpa using hc
      have hd : a0.ZM.drop i = nth a0.ZM i :: a0.ZM.drop (i + 1) := by
        rw [List.drop_eq_getElem_cons hlt]; simp [nth, List.getD_eq_getElem?_getD, List.getElem?_eq_getElem hlt]
      rw [hd]
      simp only [cond_true, cnL]
      cases decide ((nth a0.ZM i).Y8 ≥ a1) with
      | true =>
        have := SB a0 a1 m (i + 1) (l ++ [nth a0.ZM i])
        simp only [WT, cnL] at this
        simp only [cond_true]; omega
      | false =>
        have := SB a0 a1 m (i + 1) l
        simp only [cond_false]; omega
@[simp] theorem Ef (a0 : ZZ) (a1 : Int) : XR a0 a1 = Zo a0 a1 := by
  simp only [XR, Zo, S5, Sq]
theorem Rh (a0 : ZZ) (a1 : Int) (h : cn a0 ≤ 33554464) : cn (Zo a0 a1).1 ≤ 1152921504606846976 := by
  refine XB (p := fun (r : ZZ × Bool) => cn r.1 ≤ 1152921504606846976) (by show cn a0 ≤ _; omega) ?_
  have h1 := Ie a0 a1.toNat (QJ (nth a0.ZI a1.toNat) a0.Frame.Now).1 true
  have h2 := SB (nth a0.ZI a1.toNat) a0.Frame.Now ((nth a0.ZI a1.toNat).ZM.length + 1) 0 []
  have h3 := Io a0 a1.toNat
  have h4 : cn (QJ (nth a0.ZI a1.toNat) a0.Frame.Now).1 = 1 + cnL cn (X6 (nth a0.ZI a1.toNat) a0.Frame.Now ((nth a0.ZI a1.toNat).ZM.length + 1) 0 []) := rfl
  simp only [List.drop_zero, cnL, ZF.Yn, Xf, XL] at h1 h2 h3 h4 ⊢
  omega
@[simp] theorem B2 (a0 a1 : Int) : UF a0 a1 = if a1 > a0 then a1 else a0 := by
  unfold UF; by_cases h : a1 > a0 <;> simp [h]
@[simp] theorem B7 (a0 a1 : Int) : U1 a0 a1 = if a1 < a0 then a1 else a0 := by
  unfold U1; by_cases h : a1 < a0 <;> simp [h]
@[simp] theorem FY (a0 : List Zc) (a1 : Int) : ∀ (n : Nat) (v0 : Int) (v1 : Nat), Jp a0 a1 n v0 v1 = Jl a0 a1 n v0 v1 := by
  intro n
  induction n with
  | zero => intros; rfl
  | succ n ih => intros; simp [Jp, Jl, ih, ByteArray.append_assoc]
@[simp] theorem Wg (a0 : List Zc) (a1 : Int) : Yw a0 a1 = YP a0 a1 := by simp [Yw, YP]
@[simp] theorem E2 (a0 : ZQ) : Qi a0 = QP a0 := by simp [Qi, QP]
@[simp] theorem Bk (a0 : Int) (a1 : Int) : Hx a0 a1 = GB a0 a1 := by simp [Hx, GB]
@[simp] theorem Cj (a0 : List Int) : ∀ (n : Nat) (v0 : Int) (v1 : Nat), Vo a0 n v0 v1 = VK a0 n v0 v1 := by
  intro n
  induction n with
  | zero => intros; rfl
  | succ n ih => intros; simp [Vo, VK, ih, ByteArray.append_assoc]
@[simp] theorem BW (a0 : List Int) : Sc a0 = SU a0 := by simp [Sc, SU]
@[simp] theorem MO (a0 : Int) (a1 : List Int) : Qy a0 a1 = Qv a0 a1 := by simp [Qy, Qv]
@[simp] theorem Ht (a1 : ZG) : ∀ (n : Nat) (v0 : List Int) (v1 : Nat), JR a1 n v0 v1 = JP a1 n v0 v1 := by
  intro n
  induction n with
  | zero => intros; rfl
  | succ n ih => intros; simp [JR, JP, ih, ByteArray.append_assoc]
@[simp] theorem GH (a1 : ZG) : ∀ (n : Nat) (v0 : List Int) (v1 : Nat), QV a1 n v0 v1 = QT a1 n v0 v1 := by
  intro n
  induction n with
  | zero => intros; rfl
  | succ n ih => intros; simp [QV, QT, ih, ByteArray.append_assoc]
@[simp] theorem Uu (a0 : Int) (a1 : ZG) : QW a0 a1 = Q7 a0 a1 := by simp [QW, Q7]
@[simp] theorem Eh (a0 : ZV) : JJ a0 = JG a0 := by
  rw [Bool.eq_iff_iff]
  have hs : JJ a0 = true ↔ _ := (K3 (L := Jm a0) (fun _ => rfl) (fun _ _ => rfl) (a0.ZE.length + 1) 0 (by omega) _).trans (and_congr_right fun _ => K3 (L := Jt a0) (fun _ => rfl) (fun _ _ => rfl) (a0.ZH.length + 1) 0 (by omega) _)
  rw [hs]
  unfold JG
  have hi : ∀ b : Bool, (bif b then false else (match Ju a0 (a0.ZE.length + 1) 0 with | .inl r1 => r1 | .inr _ => true)) = true ↔ b = false ∧ _ := fun b => by
    cases b
    · exact (K3 (L := Ju a0) (fun _ => rfl) (fun _ _ => rfl) (a0.ZE.length + 1) 0 (by omega) true).trans (by simp only [true_and, and_true]; exact Iff.rfl)
    · simp
  refine Iff.trans ?_ (hi _).symm
  simp only [ka, Bool.or_eq_false_iff, Bool.not_eq_false', Bool.and_eq_true, beq_iff_eq, bne_eq_false_iff_eq, Bool.not_eq_eq_eq_not, Bool.not_false]
  constructor
  · rintro ⟨h1, h2, h3, h4⟩
    exact ⟨⟨h3, h4⟩, fun i _ hi => ⟨h1 i (Nat.zero_le _) hi, h2 i (Nat.zero_le _) (by omega)⟩⟩
  · rintro ⟨⟨h3, h4⟩, h⟩
    exact ⟨fun i _ hi => (h i (Nat.zero_le _) hi).1, fun i _ hi => (h i (Nat.zero_le _) (by omega)).2, h3, h4⟩
theorem TO (a1 : ByteArray) : ∀ (n : Nat) (p l : List Int) (v : Nat), a1.size < n + v → v ≤ a1.size → KW a1 n (p ++ l) v = p ++ Ka a1.data.toList n l v := by
  intro n
  induction n with
  | zero =>
    intro p l v h hv
    omega
  | succ n ih =>
    intro p l v h hv0
    have hs : a1.size = a1.data.toList.length := (Array.length_toList).symm
    rw [KW, Ka, ← hs]
    by_cases hv : v < a1.size
    · rw [show decide ((v : Int) < (a1.size : Int)) = true by simpa using hv]
      simp only [cond_true]
      rw [List.append_assoc, ih p _ (v + 1) (by omega) (by omega)]
      rfl
    · rw [show decide ((v : Int) < (a1.size : Int)) = false by simpa using hv]
      rfl
@[simp] theorem Ed (a0 : Int) (a1 : ByteArray) (a2 : Int) : yC a0 a1 a2 = yE a0 a1 a2 := by
  have := TO a1 (a1.size + 1) [a2] [] 0 (by omega) (by omega)
  simp only [List.append_nil] at this
  simp only [yC, yE, y7, this, MO]
  rfl
@[simp] theorem ED (a0 : Int) (a1 : ZV) : ∀ (n : Nat) (v0 : List Int) (v1 : Nat), zL a0 a1 n v0 v1 = zQ a0 a1 n v0 v1 := by
  intro n
  induction n with
  | zero => intros; rfl
  | succ n ih => intros; simp [zL, zQ, ih, ByteArray.append_assoc]
@[simp] theorem Ph (a0 : Int) (a1 : ZV) : Ki a0 a1 = X8 a0 a1 := by simp [Ki, X8]
@[simp] theorem Gc (a0 : Int) (a1 : List ZN) : ∀ (n : Nat) (v0 : List Int) (v1 : Nat), Jn a0 a1 n v0 v1 = Jo a0 a1 n v0 v1 := by
  intro n
  induction n with
  | zero => intros; rfl
  | succ n ih => intros; simp [Jn, Jo, ih, ByteArray.append_assoc]
@[simp] theorem FP (a0 : Int) (a1 : List ZN) : Jw a0 a1 = Jq a0 a1 := by simp [Jw, Jq]
@[simp] theorem Hr (a0 : Int) (a1 : Int) (a2 : List ZN) (a3 : Int) : kL a0 a1 a2 a3 = kY a0 a1 a2 a3 := by simp [kL, kY]
theorem T3 (a0 : Za) (a1 : ZV) : Qg a0 a1 = a0.ZX.map (fun c => Ki c.Method a1) := by
  have := HC (as := a0.ZX) (fun c => [Ki c.Method a1]) (F := fun n i l => Js a0 a1 n l i) (fun _ _ _ => rfl) (a0.ZX.length + 1) 0 [] (by omega) (Nat.zero_le _)
  unfold Qg
  rw [this, List.drop_zero, Hu]; rfl
theorem GV {α : Type} [Inhabited α] (l : List α) (x : α) : nth (l ++ [x]) l.length = x := by simp [nth]
theorem Gf {α : Type} [Inhabited α] (l : List α) (x : α) {i : Nat} (h : i < l.length) : nth (l ++ [x]) i = nth l i := by simp [nth, List.getD_eq_getElem?_getD, List.getElem?_append_left h]
theorem DN (x : ZY) (a1 : Int) (h : Sm maxLen x) (r : ZG) (hr : r = ZG.mk (↑x.ZL.ZO.length : Int) a1 0 [] []) :
    Vk (Za.mk x.ZL.ZO (x.ZL.ZX ++ [r])) (Qg (Za.mk x.ZL.ZO (x.ZL.ZX ++ [r])) x.Doc) (W ((↑(x.ZL.ZX ++ [r]).length : Int) - 1)) = kT x a1 := by
  have hl : x.ZL.ZX.length ≤ maxLen := zF (Za.xp (ZY.KF h))
  have hm : maxLen = 9223372036854775807 := by decide
  have e1 : W ((↑(x.ZL.ZX ++ [r]).length : Int) - 1) = (x.ZL.ZX.length : Int) := by
    rw [List.length_append, List.length_singleton, show ((x.ZL.ZX.length + 1 : Nat) : Int) - 1 = (x.ZL.ZX.length : Int) by omega, yv]; omega
  have e2 : nth (x.ZL.ZX ++ [r]) x.ZL.ZX.length = r := GV _ _
  have e3 : nth ((x.ZL.ZX ++ [r]).map (fun c => X8 c.Method x.Doc)) x.ZL.ZX.length = X8 r.Method x.Doc := by rw [List.map_append]; have := GV (x.ZL.ZX.map (fun c => X8 c.Method x.Doc)) (X8 r.Method x.Doc); rw [List.length_map] at this; exact this
  have e4 : r.Count = (x.ZL.ZO.length : Int) := by rw [hr]
  have e5 : r.Method = a1 := by rw [hr]
  unfold Vk kT
  rw [e1, T3]
  simp only [Int.toNat_natCast, e1, e2, e3, e4, e5, ka, Z7, List.length_map, bne_self_eq_false, Int.le_refl, decide_true, Bool.and_true, Int.natCast_nonneg, Bool.not_true, Bool.or_false, cond_false, List.take_length, Hr, Ph, Uu]
  by_cases hz : 0 < x.ZL.ZX.length
  · have e6 : W ((x.ZL.ZX.length : Int) - 1) = ((x.ZL.ZX.length - 1 : Nat) : Int) := by rw [Dd _ (by omega)]; omega
    rw [e6, Int.toNat_natCast, Gf _ _ (by omega)]
  · have : decide ((x.ZL.ZX.length : Int) > 0) = false := decide_eq_false (by omega)
    rw [this, Yk, Yk]
theorem RE (a0 : ZF) (a1 : Int) (h : Sm maxLen a0) : ∀ n l i, KI a0 a1 n l i = KN a0 a1 n l i
  | 0, _, _ => rfl
  | n + 1, l, i => by simp only [KI, KN, RE a0 a1 h n, DN (nth a0.ZM i) a1 (Xm (ZF.Kk h)) _ rfl]
@[simp] theorem Vr (a0 : ZF) (a1 : Int) (h : Sm maxLen a0) : Y2 a0 a1 = Y1 a0 a1 := by
  simp only [Y2, Y1, RE a0 a1 h]
@[simp] theorem PH (a0 : Int) (a1 : Int) (a2 : Int) : yn a0 a1 a2 = yT a0 a1 a2 := by simp [yn, yT]
theorem U9 (a0 : Int) (a1 : List Int) : ∀ n v i, K1 a0 a1 n v i = X2 a0 a1 n v i
  | 0, _, _ => rfl
  | n + 1, v, i => by simp only [K1, X2, U9 a0 a1 n, PH]
@[simp] theorem FA (a0 : Int) (a1 : List Int) : xQ a0 a1 = QH a0 a1 := by simp only [xQ, QH, U9]
@[simp] theorem Em (a0 : Int) : ∀ (n : Nat) (v0 : List Int), yM a0 n v0 = ye a0 n v0 := by
  intro n
  induction n with
  | zero => intros; rfl
  | succ n ih => intros; simp [yM, ye, ih, ByteArray.append_assoc]
@[simp] theorem UQ (a0 : Int) (a1 : List Int) : JZ a0 a1 = xF a0 a1 := by simp [JZ, xF]
@[simp] theorem Lh (a0 : ZF) (a1 : Int) (h : Sm maxLen a0) : Jv a0 a1 = XO a0 a1 := by
  simp only [Jv, XO, Vr a0 a1 h, UQ]
@[simp] theorem Hn (a0 : List ZJ) (a1 : Int) : ∀ (n : Nat) (v0 : Nat), QU a0 a1 n v0 = X7 a0 a1 n v0 := by
  intro n
  induction n with
  | zero => intros; rfl
  | succ n ih => intros; simp [QU, X7, ih, ByteArray.append_assoc]
@[simp] theorem zm (a0 : List ZJ) (a1 : Int) : ZU a0 a1 = ZR a0 a1 := by simp [ZU, ZR]
@[simp] theorem Dk (a0 : List YG) (a1 : Int) : ∀ (n : Nat) (v0 : Nat), yB a0 a1 n v0 = z9 a0 a1 n v0 := by
  intro n
  induction n with
  | zero => intros; rfl
  | succ n ih => intros; simp [yB, z9, ih, ByteArray.append_assoc]
@[simp] theorem Tl (a0 : List YG) (a1 : Int) : Xb a0 a1 = Xv a0 a1 := by simp [Xb, Xv]
theorem IE (a0 : List Int) (a1 : Int) : jA a0 a1 = true ↔ ∃ i, 0 ≤ i ∧ i < a0.length ∧ (nth a0 i == a1) = true := by
  unfold jA V0
  rcases kb (L := jX a0 a1) (r := fun i => (i : Int)) (fun _ => rfl) (fun _ _ => rfl) (a0.length + 1) 0 (by omega) with ⟨e, p⟩ | ⟨i, e, p1, p2, p3, p4⟩
  · rw [e]
    constructor
    · intro h; simp at h
    · rintro ⟨i, h1, h2, h3⟩; have := p i h1 h2; rw [h3] at this; cases this
  · rw [e]
    exact ⟨fun _ => ⟨i, p1, p2, p3⟩, fun _ => by simp⟩
@[simp] theorem FI (a0 : List Int) (a1 : Int) : Pb a0 a1 = jA a0 a1 := by
  rw [Bool.eq_iff_iff, IE]
  exact M5 (L := Vx a0 a1) (fun _ => rfl) (fun _ _ => rfl) (a0.length + 1) 0 (by omega)
@[simp] theorem CT (a0 : Int) : W0 a0 = Wt a0 := rfl
@[simp] theorem DM (a0 : Int) (a1 : List Int) : xn a0 a1 = xq a0 a1 := by simp [xn, xq]
@[simp] theorem Ds (a0 : YG) (a1 : List Int) : qm a0 a1 = jI a0 a1 := by simp [qm, jI]
@[simp] theorem Pj (a0 : List YG) (a1 : List ZJ) (a2 : ZQ) : JI a0 a1 a2 = JT a0 a1 a2 := by
  simp [JI, JT, kj]
  cases h : decide (Xv a0 (nth a1 (ZR a1 a2.Authority).toNat).Key < 0) <;> simp
@[simp] theorem Eu (a0 a1 : List Int) : ja a0 a1 = decide (a0 = a1) := Cl (F := xM a0 a1) (c := fun i => (nth a0 i) != (nth a1 i)) (fun i => by simp [bne, Bool.beq_eq_decide_eq]) (fun _ => rfl) (fun _ _ => rfl)
@[simp] theorem DX (a0 a1 : List Int) : jU a0 a1 = decide (a0 = a1) := Cl (F := xW a0 a1) (c := fun i => (nth a0 i) != (nth a1 i)) (fun i => by simp [bne, Bool.beq_eq_decide_eq]) (fun _ => rfl) (fun _ _ => rfl)
@[simp] theorem EV (a0 a1 : ZN) : KE a0 a1 = decide (a0 = a1) := by
  obtain ⟨t, p, s⟩ := a0; obtain ⟨t', p', s'⟩ := a1
  by_cases h1 : t = t' <;> by_cases h2 : p = p' <;> by_cases h3 : s = s' <;> simp_all [KE]
@[simp] theorem Fv (a0 a1 : ZN) : KL a0 a1 = decide (a0 = a1) := by
  obtain ⟨t, p, s⟩ := a0; obtain ⟨t', p', s'⟩ := a1
  by_cases h1 : t = t' <;> by_cases h2 : p = p' <;> by_cases h3 : s = s' <;> simp_all [KL]
theorem Wo (a0 : Za) {k : Nat} (hk : k < a0.ZO.length) : decide (zs a0 (nth a0.ZO k) < (k : Int)) = qo (a0.ZO.take k) (nth a0.ZO k) := by
  rw [Bool.eq_iff_iff]
  have hi : qo (a0.ZO.take k) (nth a0.ZO k) = true ↔ _ := M5 (L := qZ (a0.ZO.take k) (nth a0.ZO k)) (fun _ => rfl) (fun _ _ => rfl) _ 0 (by omega)
  rw [hi]
  unfold zs
  have hl : (a0.ZO.take k).length = k := by simp; omega
  rw [hl]
  rcases kb (L := xR a0 (nth a0.ZO k)) (r := fun i => (i : Int)) (fun _ => rfl) (fun _ _ => rfl) (a0.ZO.length + 1) 0 (by omega) with ⟨e, p⟩ | ⟨i, e, p1, p2, p3, p4⟩
  · have := p k (Nat.zero_le _) hk
    simp at this
  · rw [e]
    simp only [decide_eq_true_eq]
    constructor
    · intro h
      exact ⟨i, Nat.zero_le _, by omega, by rw [HJ (by omega)]; simpa using p3⟩
    · rintro ⟨j, _, hj, hc⟩
      rw [HJ hj] at hc
      rcases Nat.lt_or_ge j i with h | h
      · have := p4 j (Nat.zero_le _) h; simp at this hc; exact absurd hc this
      · omega
@[simp] theorem Dr (a0 : Za) : Kp a0 = Kj a0 := by
  rw [Bool.eq_iff_iff]
  have hs : Kp a0 = true ↔ _ := (K3 (L := Ku a0) (fun _ => rfl) (fun _ _ => rfl) (a0.ZO.length + 1) 0 (by omega) _).trans (and_congr_right fun _ => K3 (L := Ky a0) (fun _ => rfl) (fun _ _ => rfl) (a0.ZX.length + 1) 0 (by omega) _)
  rw [hs]
  unfold Kj
  have hi : ∀ b : Bool, (bif b then false else (match Kw a0 (a0.ZO.length + 1) 0 with | .inl r1 => r1 | .inr _ => (match Kr a0 (a0.ZX.length + 1) 0 with | .inl r2 => r2 | .inr _ => true))) = true ↔ b = false ∧ _ := fun b => by
    cases b
    · exact ((K3 (L := Kw a0) (fun _ => rfl) (fun _ _ => rfl) (a0.ZO.length + 1) 0 (by omega) _).trans (and_congr_right fun _ => K3 (L := Kr a0) (fun _ => rfl) (fun _ _ => rfl) (a0.ZX.length + 1) 0 (by omega) true)).trans (by simp only [true_and, and_true]; exact Iff.rfl)
    · simp
  refine Iff.trans ?_ (hi _).symm
  simp only [ka, Bool.or_eq_false_iff, Bool.not_eq_false', Bool.and_eq_true, Bool.not_eq_eq_eq_not, Bool.not_false]
  constructor
  · rintro ⟨h1, h2, h3, h4⟩
    exact ⟨⟨h3, by simpa using h4⟩, fun i hz hi => by rw [← Wo a0 hi]; exact h1 i hz hi, fun i hz hi => by simpa using h2 i hz hi⟩
  · rintro ⟨⟨h3, h4⟩, h1, h2⟩
    exact ⟨fun i hz hi => by rw [Wo a0 hi]; exact h1 i hz hi, fun i hz hi => by simpa using h2 i hz hi, h3, by simpa using h4⟩
@[simp] theorem Gp (a0 : Zh) : JA a0 = Q6 a0 := by simp [JA, Q6]
@[simp] theorem Ep (a0 : Zh) : zy a0 = z7 a0 := by simp [zy, z7]
@[simp] theorem Cb (a0 : ZY) : Ww a0 = W4 a0 := by simp [Ww, W4]
@[simp] theorem EU (a0 : ZF) : ∀ (n : Nat) (v0 : Nat), zO a0 n v0 = zS a0 n v0 := by
  intro n
  induction n with
  | zero => intros; rfl
  | succ n ih => intros; simp [zO, zS, ih, ByteArray.append_assoc]
@[simp] theorem Ox (a0 : ZF) : Km a0 = Kh a0 := by simp [Km, Kh]
theorem Wi (a0 : Int) : ∀ n i o l, Qd a0 n i o l = X5 a0 n l i o
  | 0, _, _, _ => rfl
  | n + 1, i, o, l => by simp only [Qd, X5, Wi a0 n, FA]
@[simp] theorem Ni (a0 : Int) (a1 : List Int) (a2 : Int) : JU a0 a1 a2 = Xd a0 a1 a2 := by
  simp only [JU, Xd, Wi, ka]
  rw [Bool.or_comm]
@[simp] theorem PR (a0 : Za) (a1 : ZG) : JM a0 a1 = Xo a0 a1 := by simp [JM, Xo]
theorem Uv (a0 : ZF) (a1 : Int) (a2 : List ZQ) (n v : Nat) (l : List ZY) : Xp a0 a1 a2 (n + 1) false v l = (false, l) := by
  simp only [Xp, Bool.and_false, Yk]
theorem Mm (a0 : ZF) (a1 : Int) (a2 : List ZQ) (h : Sm maxLen a0) : ∀ n v l, a0.ZM.length < n + v → v ≤ a0.ZM.length → (∃ z, XM a0 a1 a2 n v l = .inr z ∧ Xp a0 a1 a2 n true v l = (true, z)) ∨ (XM a0 a1 a2 n v l = .inl (a0, false) ∧ (Xp a0 a1 a2 n true v l).1 = false)
  | 0, v, l, h1, h2 => by omega
  | n + 1, v, l, h1, h2 => by
    simp only [Xp, XM, Bool.and_true, XO, Vr a0 a1 h, UQ, Ni, PR]
    by_cases hi : v < a0.ZM.length
    · rw [show decide ((v : Int) < (a0.ZM.length : Int)) = true by simpa using hi, Yy, Yy]
      cases hb : (Xo (nth a0.ZM v).ZL (ZG.mk (↑(nth a0.ZM v).ZL.ZO.length : Int) a1 (xF a1 (Y1 a0 a1)) (Xd a1 (Y1 a0 a1) (↑v : Int)) a2)).2
      · obtain ⟨m, rfl⟩ : ∃ m, n = m + 1 := ⟨n - 1, by omega⟩
        rw [Uv]
        exact .inr ⟨rfl, rfl⟩
      · exact Mm a0 a1 a2 h n (v + 1) _ (by omega) hi
    · rw [show decide ((v : Int) < (a0.ZM.length : Int)) = false by simpa using hi, Yk, Yk]
      exact .inl ⟨l, rfl, rfl⟩
@[simp] theorem Sv (a0 : ZF) (a1 : Int) (a2 : List ZQ) (h : Sm maxLen a0) : QM a0 a1 a2 = XZ a0 a1 a2 := by
  unfold QM XZ
  simp only [Ox]
  by_cases hl : 0 < a0.ZM.length
  · have e1 : decide ((a0.ZM.length : Int) > 0) = true := decide_eq_true (by omega)
    have e2 : ((a0.ZM.length : Int) == 0) = false := beq_eq_false_iff_ne.2 (by omega)
    rw [e1, e2]
    cases Kh a0
    · rw [Bool.false_and, Uv]; rfl
    · rcases Mm a0 a1 a2 h (a0.ZM.length + 1) 0 a0.ZM (by omega) (Nat.zero_le _) with ⟨z, q1, q2⟩ | ⟨q1, q2⟩
      · rw [Bool.true_and, q1, q2]; rfl
      · rw [Bool.true_and, q1]
        generalize Xp a0 a1 a2 (a0.ZM.length + 1) true 0 a0.ZM = p at q2 ⊢
        obtain ⟨p1, p2⟩ := p
        simp only at q2; subst q2; rfl
  · have e1 : decide ((a0.ZM.length : Int) > 0) = false := decide_eq_false (by omega)
    have e2 : ((a0.ZM.length : Int) == 0) = true := beq_iff_eq.2 (by omega)
    rw [e1, e2, Bool.and_false, Uv]; rfl
theorem jG {a : List ZJ} {d : Int} (h : 0 ≤ ZR a d) : (nth a (ZR a d).toNat).Id = d := by
  unfold ZR at h ⊢
  rcases kb (L := X7 a d) (len := a.length) (c := fun i => (nth a i).Id == d) (r := fun i => (i : Int)) (fun _ => rfl) (fun _ _ => rfl) (a.length + 1) 0 (by omega) with ⟨e, _⟩ | ⟨i, e, _, _, k, _⟩
  · rw [e] at h; simp at h
  · rw [e]; simpa using k
def R0 (a0 : ZZ) (d : Int) : Bool := !((decide (ZR a0.Frame.ZC d < 0) || decide (ZR a0.Frame.ZC d ≥ (↑a0.YZ.length : Int))) || (decide (Xv a0.Frame.YV (nth a0.Frame.ZC (ZR a0.Frame.ZC d).toNat).Key < 0) || decide ((nth a0.Frame.YV (Xv a0.Frame.YV (nth a0.Frame.ZC (ZR a0.Frame.ZC d).toNat).Key).toNat).VF > a0.Frame.Now)))
theorem WR (a0 : ZZ) (a1 : List Int) : JL a0 a1 = true ↔ (∀ i, 0 ≤ i → i < a1.length → R0 a0 (nth a1 i) = true ∧ (0 < i → nth a1 (i - 1) < nth a1 i)) ∧ 0 < a1.length := by
  have := K3 (L := Ko a0 a1) (len := a1.length) (c := fun v => (((decide ((ZU a0.Frame.ZC (nth a1 v)) < 0)) || (decide ((ZU a0.Frame.ZC (nth a1 v)) ≥ (↑a0.YZ.length : Int)))) || ((decide ((↑v : Int) > 0)) && (decide ((nth a1 (v - 1)) ≥ (nth a1 v))))) || ((decide ((Xb a0.Frame.YV (nth a0.Frame.ZC (ZU a0.Frame.ZC (nth a1 v)).toNat).Key) < 0)) || (decide ((nth a0.Frame.YV (Xb a0.Frame.YV (nth a0.Frame.ZC (ZU a0.Frame.ZC (nth a1 v)).toNat).Key).toNat).VF > a0.Frame.Now))))
    (fun _ => rfl) (fun n v => by
      simp only [Ko]
      cases (((decide ((ZU a0.Frame.ZC (nth a1 v)) < 0)) || (decide ((ZU a0.Frame.ZC (nth a1 v)) ≥ (↑a0.YZ.length : Int)))) || ((decide ((↑v : Int) > 0)) && (decide ((nth a1 (v - 1)) ≥ (nth a1 v))))) <;> rfl) (a1.length + 1) 0 (by omega) (decide ((↑a1.length : Int) > 0))
  unfold JL
  refine Iff.trans this ?_
  constructor
  · rintro ⟨h1, h2⟩
    refine ⟨fun i h0 hi => ?_, by simpa using h2⟩
    have := h1 i h0 hi
    simp only [zm, Tl, Bool.or_eq_false_iff, Bool.and_eq_false_iff, decide_eq_false_iff_not] at this
    obtain ⟨⟨⟨q1, q2⟩, q3⟩, q4, q5⟩ := this
    refine ⟨?_, fun h => ?_⟩
    · simp only [R0, Bool.not_eq_true', Bool.or_eq_false_iff, decide_eq_false_iff_not]; exact ⟨⟨q1, q2⟩, q4, q5⟩
    · rcases q3 with q3 | q3 <;> omega
  · rintro ⟨h1, h2⟩
    refine ⟨fun i h0 hi => ?_, by simpa using h2⟩
    obtain ⟨q, q3⟩ := h1 i h0 hi
    simp only [R0, Bool.not_eq_true', Bool.or_eq_false_iff, decide_eq_false_iff_not] at q
    simp only [zm, Tl, Bool.or_eq_false_iff, Bool.and_eq_false_iff, decide_eq_false_iff_not]
    refine ⟨⟨q.1, ?_⟩, q.2⟩
    by_cases hz : 0 < i
    · right; have := q3 hz; omega
    · left; omega
theorem OZ (a1 : List Int) : zp a1 = true ↔ ∀ i, 0 < i → i < a1.length → nth a1 (i - 1) < nth a1 i := by
  have := K3 (L := xZ a1) (len := a1.length) (c := fun v => decide ((nth a1 (v - 1)) ≥ (nth a1 v))) (fun _ => rfl) (fun _ _ => rfl) (a1.length + 1) 1 (by omega) true
  unfold zp
  refine Iff.trans this ?_
  simp only [decide_eq_false_iff_not, and_true]
  exact ⟨fun h i h0 hi => by have := h i h0 hi; omega, fun h i h0 hi => by have := h i h0 hi; omega⟩
theorem LL {a1 : List Int} (h : ∀ i, 0 < i → i < a1.length → nth a1 (i - 1) < nth a1 i) : ∀ d v, 0 < d → v + d < a1.length → nth a1 v < nth a1 (v + d)
  | 0, _, h0, _ => by omega
  | 1, v, _, hv => h (v + 1) (by omega) hv
  | d + 2, v, _, hv => by
    have h1 := LL h (d + 1) v (by omega) (by omega)
    have h2 := h (v + (d + 2)) (by omega) hv
    rw [show v + (d + 2) - 1 = v + (d + 1) by omega] at h2
    omega
theorem DU (w : Int) : U1 10000 (UF 0 w) = (if (if w < 10000 then w else 10000) > 0 then (if w < 10000 then w else 10000) else 0) := by
  unfold U1 UF
  by_cases h1 : w > 0
  · rw [show decide (w > 0) = true by simpa using h1, Yy]
    by_cases h2 : w < 10000
    · rw [show decide (w < 10000) = true by simpa using h2, Yy, if_pos h2, if_pos h1]
    · rw [show decide (w < 10000) = false by simpa using h2, Yk, if_neg h2]; rfl
  · rw [show decide (w > 0) = false by simpa using h1, Yk]
    rw [if_pos (show w < 10000 by omega), if_neg h1]; rfl
theorem NS {α : Type} [Inhabited α] (l : List α) (x : α) {i j : Nat} (h : i ≠ j) : nth (l.set i x) j = nth l j := by simp [nth, List.getD_eq_getElem?_getD, List.getElem?_set_ne h]
theorem T5 (a0 : ZZ) (a1 : Int) (a2 : List Int) (a3 : Int) : ∀ n l v q, a2.length < n + v → v ≤ a2.length → (∃ k, v ≤ k ∧ k < a2.length ∧ R0 a0 (nth a2 k) = false) → XI a0 a1 a2 a3 n l v q = .inl (a0, false)
  | 0, _, _, _, h1, h2, _ => by omega
  | n + 1, l, v, q, h1, h2, ⟨k, k1, k2, k3⟩ => by
    have hv : v < a2.length := by omega
    simp only [XI]
    rw [show decide ((v : Int) < (a2.length : Int)) = true by simpa using hv, Yy]
    cases hA : ((decide ((ZR a0.Frame.ZC (nth a2 v)) < 0)) || (decide ((ZR a0.Frame.ZC (nth a2 v)) ≥ (↑a0.YZ.length : Int))))
    · rw [Yk]
      cases hB : ((decide ((Xv a0.Frame.YV (nth a0.Frame.ZC (ZR a0.Frame.ZC (nth a2 v)).toNat).Key) < 0)) || (decide ((nth a0.Frame.YV (Xv a0.Frame.YV (nth a0.Frame.ZC (ZR a0.Frame.ZC (nth a2 v)).toNat).Key).toNat).VF > a0.Frame.Now)))
      · rw [Yk]
        have hk : ∃ k, v + 1 ≤ k ∧ k < a2.length ∧ R0 a0 (nth a2 k) = false := by
          refine ⟨k, ?_, k2, k3⟩
          rcases Nat.eq_or_lt_of_le k1 with rfl | k1
          · unfold R0 at k3; rw [hA, hB] at k3; simp at k3
          · exact k1
        rw [T5 a0 a1 a2 a3 n _ (v + 1) _ (by omega) hv hk, T5 a0 a1 a2 a3 n _ (v + 1) _ (by omega) hv hk]
        simp
      · rfl
    · rfl
theorem Ma (c : Bool) (a : ZZ × Bool) (x : Sum (ZZ × Bool) (List ZQ)) (u : List Int) : (bif c then (Sum.inl a : Sum (ZZ × Bool) (List ZQ × List Int)) else (match x with | .inl r => .inl r | .inr z => .inr (z, u))) = (match (bif c then Sum.inl a else x) with | .inl r => .inl r | .inr z => .inr (z, u)) := by cases c <;> rfl
theorem NT (a0 : ZZ) (a1 : Int) (a2 : List Int) (a3 : Int) (h : Sm maxLen a0) (hr : ∀ i, 0 < i → i < a2.length → nth a2 (i - 1) < nth a2 i) (hok : ∀ k, k < a2.length → R0 a0 (nth a2 k) = true) : ∀ n l v q, a2.length < n + v → v ≤ a2.length → (∀ k, v ≤ k → k < a2.length → nth q (ZR a0.Frame.ZC (nth a2 k)).toNat = nth a0.YZ (ZR a0.Frame.ZC (nth a2 k)).toNat) →
    XI a0 a1 a2 a3 n l v q = (match Ja a0 a1 a2 a3 n l v with | .inl r => .inl r | .inr z => .inr (z, zM a0 a2 n v q))
  | 0, _, _, _, h1, h2, _ => by omega
  | n + 1, l, v, q, h1, h2, hq => by
    simp only [XI, Ja, zM, FI, Pj, zm, Wg, Lh _ _ (Xm (ZZ.QO h)), DU]
    by_cases hv : v < a2.length
    · rw [show decide ((v : Int) < (a2.length : Int)) = true by simpa using hv, Yy, Yy, Yy]
      have ho := hok v hv
      unfold R0 at ho
      rw [Bool.not_eq_true', Bool.or_eq_false_iff] at ho
      rw [ho.1, ho.2, Yk, Yk, hq v (Nat.le_refl _) hv]
      have ih := fun l => NT a0 a1 a2 a3 h hr hok n l (v + 1) (q.set (ZR a0.Frame.ZC (nth a2 v)).toNat (W (nth a0.YZ (ZR a0.Frame.ZC (nth a2 v)).toNat + 1))) (by omega) hv (fun k k1 k2 => by
        rw [NS, hq k (by omega) k2]
        intro e
        have p1 : 0 ≤ ZR a0.Frame.ZC (nth a2 v) := by
          have := ho.1; simp only [Bool.or_eq_false_iff, decide_eq_false_iff_not] at this; omega
        have p2 : 0 ≤ ZR a0.Frame.ZC (nth a2 k) := by
          have := hok k k2; unfold R0 at this; simp only [Bool.not_eq_true', Bool.or_eq_false_iff, decide_eq_false_iff_not] at this; omega
        have e1 := jG p1
        have e2 := jG p2
        rw [e, e2] at e1
        have := LL hr (k - v) v (by omega) (by omega)
        rw [show v + (k - v) = k by omega] at this
        omega)
      simp only [ih]
      cases jA a0.Yl (nth a2 v) <;> simp only [Yy, Yk]
      · exact Ma _ _ _ _
      · exact Ma _ _ _ _
    · rw [show decide ((v : Int) < (a2.length : Int)) = false by simpa using hv, Yk, Yk, Yk]
@[simp] theorem DJ (a0 : ZZ) (a1 : Int) (a2 : List Int) (a3 : Int) (h : Sm maxLen a0) : Xj a0 a1 a2 a3 = Zu a0 a1 a2 a3 := by
  unfold Xj Zu
  simp only [S5, Wg, ka]
  cases hg : Xn a0 a1
  · rfl
  cases hb : decide (YP a0.Frame.Methods a0.Frame.Now < 0)
  rotate_left
  · simp
  cases hi : Z7 a3 (-10000) 10000
  · simp
  simp only [Bool.not_true, Bool.false_or, Bool.or_false]
  cases hr : zp a2
  · have : JL a0 a2 = false := by
      cases hs : JL a0 a2 with
      | false => rfl
      | true =>
        have := (WR a0 a2).1 hs
        have h2 := (OZ a2).2 (fun i h0 hi => (this.1 i (Nat.zero_le _) hi).2 h0)
        rw [hr] at h2; cases h2
    rw [this]; rfl
  have hrr := (OZ a2).1 hr
  by_cases hl : 0 < a2.length
  rotate_left
  · have : JL a0 a2 = false := by
      cases hs : JL a0 a2 with
      | false => rfl
      | true => exact absurd ((WR a0 a2).1 hs).2 hl
    have e : ((a2.length : Int) == 0) = true := beq_iff_eq.2 (by omega)
    rw [this, e]; rfl
  have e : ((a2.length : Int) == 0) = false := beq_eq_false_iff_ne.2 (by omega)
  rw [e]
  by_cases hok : ∀ k, k < a2.length → R0 a0 (nth a2 k) = true
  · have hs : JL a0 a2 = true := (WR a0 a2).2 ⟨fun i _ hi => ⟨hok i hi, fun h0 => hrr i h0 hi⟩, hl⟩
    rw [hs, NT a0 a1 a2 a3 h hrr hok (a2.length + 1) [] 0 a0.YZ (by omega) (Nat.zero_le _) (fun _ _ _ => rfl)]
    simp only [Bool.not_true, Bool.or_false, Yk]
    cases Ja a0 a1 a2 a3 (a2.length + 1) [] 0 with
    | inl r => rfl
    | inr z => simp only [Sv _ _ _ (Xm (ZZ.QO h))]
  · have hs : JL a0 a2 = false := by
      cases hs : JL a0 a2 with
      | false => rfl
      | true => exact absurd (fun k hk => (((WR a0 a2).1 hs).1 k (Nat.zero_le _) hk).1) hok
    have hx : ∃ k, 0 ≤ k ∧ k < a2.length ∧ R0 a0 (nth a2 k) = false := by
      refine Classical.byContradiction fun hn => hok fun k hk => ?_
      cases hz : R0 a0 (nth a2 k) with
      | true => rfl
      | false => exact absurd ⟨k, Nat.zero_le _, hk, hz⟩ hn
    rw [hs, T5 a0 a1 a2 a3 (a2.length + 1) [] 0 a0.YZ (by omega) (Nat.zero_le _) hx]
    rfl
theorem Hk (a0 : Int) : ∀ (n : Nat) (l : List Int) (i : Int) (o : List Zk), (X5 a0 n l i o).length ≤ o.length + n
  | 0, _, _, _ => Nat.zero_le _
  | n + 1, l, i, o => by
    have ih := Hk a0 n
    simp only [X5]
    refine XB (p := fun r : List Zk => r.length ≤ o.length + (n + 1)) ?_ (by omega)
    have h1 := fun l i x => ih l i (o ++ [x])
    simp only [List.length_append, List.length_singleton] at h1
    refine XB (p := fun r : List Zk => r.length ≤ o.length + (n + 1)) (Nat.le_trans (h1 _ _ _) (by omega)) ?_
    exact XB (p := fun r : List Zk => r.length ≤ o.length + (n + 1)) (Nat.le_trans (h1 _ _ _) (by omega)) (Nat.le_trans (ih _ _ _) (by omega))
theorem MK (a0 : Int) (a1 : List Int) (a2 : Int) : cn (Xd a0 a1 a2) ≤ 34 := by
  have h : ∀ l : List Zk, cn l = 2 * l.length := fun l => by rw [Xf]; exact Od (c := (cn : Zk → Nat)) (m := 2) (fun _ => rfl) l
  rw [h]
  unfold Xd
  by_cases hl : decide ((a1.length : Int) > 16) = true
  · rw [hl, Bool.or_true, Yy]; exact Nat.zero_le _
  · refine XB (p := fun r : List Zk => 2 * r.length ≤ 34) (Nat.zero_le _) ?_
    have := Hk a0 (a1.length + 1) a1 a2 []
    have hl : a1.length ≤ 16 := by simp at hl; omega
    simp only [List.length_nil] at this ⊢
    omega
theorem Fa (a0 : ZF) (a1 : Int) (a2 : List ZQ) : ∀ (n v : Nat) (l : List ZY), v ≤ a0.ZM.length → (∀ k, v ≤ k → nth l k = nth a0.ZM k) → ∀ z, XM a0 a1 a2 n v l = .inr z → cnL cn z ≤ cnL cn l + 2 * cnL cn (a0.ZM.drop v) + (a0.ZM.length - v) * (37 + cn a2)
  | 0, v, l, _, _, z, h => by cases h; exact Nat.zero_le _
  | n + 1, v, l, hv, hk, z, h => by
    simp only [XM] at h
    revert h
    refine HA (p := fun r => r = Sum.inr z → _) (fun hc => ?_) (fun _ h => by cases h; omega)
    have hlt : v < a0.ZM.length := by simpa using hc
    refine XB (p := fun r => r = Sum.inr z → _) (fun h => by cases h) (fun h => ?_)
    have ih := Fa a0 a1 a2 n (v + 1) _ hlt (fun k h1 => by rw [NS _ _ (by omega)]; exact hk k (by omega)) z h
    refine Nat.le_trans ih ?_
    rw [Fw cn hlt, hk v (Nat.le_refl _)]
    have hs := Pa (cn : ZY → Nat) l v (ZY.mk (nth a0.ZM v).Id (nth a0.ZM v).Y8 (nth a0.ZM v).Doc (nth a0.ZM v).Sig (Xo (nth a0.ZM v).ZL (ZG.mk (↑(nth a0.ZM v).ZL.ZO.length : Int) a1 (XO a0 a1) (Xd a1 (Y1 a0 a1) (↑v : Int)) a2)).1)
    have ha : ∀ (s : Za) (r : ZG), cn (Xo s r).1 ≤ cn s + cn r := fun s r => by
      refine XB (p := fun q : Za × Bool => cn q.1 ≤ cn s + cn r) (Nat.le_add_right _ _) ?_
      simp only [Za.Yn, Xf, WT, cnL]; omega
    have hb := ha (nth a0.ZM v).ZL (ZG.mk (↑(nth a0.ZM v).ZL.ZO.length : Int) a1 (XO a0 a1) (Xd a1 (Y1 a0 a1) (↑v : Int)) a2)
    have hp := MK a1 (Y1 a0 a1) (↑v : Int)
    have hd : (a0.ZM.length - v) * (37 + cn a2) = (a0.ZM.length - (v + 1)) * (37 + cn a2) + (37 + cn a2) := by
      rw [show a0.ZM.length - v = (a0.ZM.length - (v + 1)) + 1 by omega, Nat.add_mul, Nat.one_mul]
    rw [hd]
    simp only [ZY.Yn, ZG.Yn, XL] at hs hb ⊢
    omega
theorem Ps (a0 : ZZ) (a1 : Int) (a2 : List Int) (a3 : Int) : ∀ (n : Nat) (l : List ZQ) (v : Nat) (q : List Int),
    (∀ r, XI a0 a1 a2 a3 n l v q = .inl r → r = (a0, false)) ∧ ∀ z, XI a0 a1 a2 a3 n l v q = .inr z → cn z.1 ≤ cn l + 5 * n ∧ z.2.length ≤ q.length
  | 0, _, _, _ => ⟨fun r h => (by cases h), fun z h => (by cases h; exact ⟨Nat.zero_le _, Nat.zero_le _⟩)⟩
  | n + 1, l, v, q => by
    have ih := Ps a0 a1 a2 a3 n
    simp only [XI]
    have hx : ∀ x : ZQ, cn (l ++ [x]) = cn l + 5 := fun x => by simp only [Xf, WT, cnL]; rfl
    have step : ∀ x i y, (∀ r, XI a0 a1 a2 a3 n (l ++ [x]) (v + 1) (q.set i y) = .inl r → r = (a0, false)) ∧ ∀ z, XI a0 a1 a2 a3 n (l ++ [x]) (v + 1) (q.set i y) = .inr z → cn z.1 ≤ cn l + 5 * (n + 1) ∧ z.2.length ≤ q.length := fun x i y => by
      obtain ⟨h1, h2⟩ := ih (l ++ [x]) (v + 1) (q.set i y)
      refine ⟨h1, fun z hz => ?_⟩
      have := h2 z hz
      rw [hx, List.length_set] at this
      exact ⟨by omega, this.2⟩
    have bad : (∀ r, (Sum.inl (a0, false) : Sum (ZZ × Bool) (List ZQ × List Int)) = .inl r → r = (a0, false)) ∧ ∀ z, (Sum.inl (a0, false) : Sum (ZZ × Bool) (List ZQ × List Int)) = .inr z → cn z.1 ≤ cn l + 5 * (n + 1) ∧ z.2.length ≤ q.length := ⟨fun r h => (by cases h; rfl), fun z h => (by cases h)⟩
    let p := fun w : Sum (ZZ × Bool) (List ZQ × List Int) => (∀ r, w = .inl r → r = (a0, false)) ∧ ∀ z, w = .inr z → cn z.1 ≤ cn l + 5 * (n + 1) ∧ z.2.length ≤ q.length
    refine XB (p := p) ?_ ⟨fun r h => (by cases h), fun z h => (by cases h; exact ⟨Nat.le_add_right _ _, Nat.le_refl _⟩)⟩
    refine XB (p := p) bad (XB (p := p) bad (XB (p := p) (XB (p := p) bad (step _ _ _)) (XB (p := p) bad (step _ _ _))))
theorem On (a0 : ZZ) (a1 : Int) (a2 : List Int) (a3 : Int) (h : cn a0 ≤ 33554464) (h2 : cn a2 ≤ 33554464) : cn (Zu a0 a1 a2 a3).1 ≤ 1152921504606846976 := by
  unfold Zu
  refine XB (p := fun r : ZZ × Bool => cn r.1 ≤ 1152921504606846976) (by show cn a0 ≤ _; omega) ?_
  obtain ⟨k1, k2⟩ := Ps a0 a1 a2 a3 (a2.length + 1) [] 0 a0.YZ
  cases hs : XI a0 a1 a2 a3 (a2.length + 1) [] 0 a0.YZ with
  | inl r => rw [k1 r hs]; show cn a0 ≤ _; omega
  | inr z =>
    obtain ⟨q1, q2⟩ := k2 z hs
    obtain ⟨z0, z1⟩ := z
    simp only at q1 q2 ⊢
    refine XB (p := fun r : ZZ × Bool => cn r.1 ≤ 1152921504606846976) (by show cn a0 ≤ _; omega) ?_
    have e0 : cn ([] : List ZQ) = 0 := rfl
    have e2 := L0 a2
    have h3 : cn (nth a0.ZI a1.toNat) ≤ cn a0 + 1 := by
      have := Lq (cn : ZF → Nat) a0.ZI a1.toNat
      have hd : cn (default : ZF) = 1 := rfl
      rw [ZZ.Yn, Xf (x := a0.ZI)]; omega
    have h4 : cn (XZ (nth a0.ZI a1.toNat) (YP a0.Frame.Methods a0.Frame.Now) z0).1 ≤ 1 + 3 * cn (nth a0.ZI a1.toNat) + (nth a0.ZI a1.toNat).ZM.length * (37 + cn z0) := by
      generalize nth a0.ZI a1.toNat = A
      generalize YP a0.Frame.Methods a0.Frame.Now = m
      unfold XZ
      let p := fun r : ZF × Bool => cn r.1 ≤ 1 + 3 * cn A + A.ZM.length * (37 + cn z0)
      refine XB (p := p) (by show cn A ≤ _; omega) ?_
      cases ht : XM A m z0 (A.ZM.length + 1) 0 A.ZM with
      | inl r =>
        have : ∀ n v l r, XM A m z0 n v l = .inl r → r = (A, false) := by
          intro n
          induction n with
          | zero => intro v l r h; cases h
          | succ n ih =>
            intro v l r h
            simp only [XM] at h
            revert h
            exact XB (p := fun w => w = Sum.inl r → r = (A, false)) (XB (p := fun w => w = Sum.inl r → r = (A, false)) (fun h => by cases h; rfl) (fun h => ih _ _ _ h)) (fun h => by cases h)
        rw [this _ _ _ _ ht]; show cn A ≤ _; omega
      | inr w =>
        have hz := Fa A m z0 (A.ZM.length + 1) 0 A.ZM (Nat.zero_le _) (fun _ _ => rfl) w ht
        simp only [List.drop_zero, Nat.sub_zero] at hz ⊢
        have hA : cn A = 1 + cnL cn A.ZM := rfl
        refine XB (p := p) (by show cn A ≤ _; omega) ?_
        show cn (ZF.mk A.Id w) ≤ _
        have hB : cn (ZF.mk A.Id w) = 1 + cnL cn w := rfl
        omega
    have h5 : (nth a0.ZI a1.toNat).ZM.length ≤ cn (nth a0.ZI a1.toNat) := by
      have := Di (c := (cn : ZY → Nat)) (fun x => by rw [ZY.Yn]; simp only [XL]; omega) (nth a0.ZI a1.toNat).ZM
      rw [ZF.Yn, Xf (x := (nth a0.ZI a1.toNat).ZM)]; omega
    have h6 : (nth a0.ZI a1.toNat).ZM.length * (37 + cn z0) ≤ 33554465 * 167772400 := Nat.mul_le_mul (by omega) (by omega)
    have h7 := Pa (cn : ZF → Nat) a0.ZI a1.toNat (XZ (nth a0.ZI a1.toNat) (YP a0.Frame.Methods a0.Frame.Now) z0).1
    have h8 : cn z1 ≤ cn a0.YZ := by rw [L0, L0]; exact q2
    simp only [ZZ.Yn, Xf (x := a0.ZI), Xf (x := a0.ZI.set a1.toNat _), XL] at h h3 ⊢
    omega
end Go.Mo
