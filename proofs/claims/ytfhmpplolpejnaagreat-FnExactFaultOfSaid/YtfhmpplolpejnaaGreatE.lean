/- The models of the program and of the reference agree. No condition. -/
import Derived.Test.YtfhmpplolpejnaaGreatL
namespace Go.Mo
open Go.Vm
set_option linter.unusedSimpArgs false
set_option linter.unusedVariables false
theorem cond_neg (x : Int) {α : Type} (a b : α) : (bif decide (x < 0) then a else b) = (bif decide (0 ≤ x) then b else a) := by
  by_cases h : x < 0
  · rw [show decide (x < 0) = true by simpa using h, show decide (0 ≤ x) = false by simpa using h]; rfl
  · rw [show decide (x < 0) = false by simpa using h, show decide (0 ≤ x) = true by simp; omega]; rfl
/-- a loop that looks whether one of the places is bad -/
theorem Bc {L : Nat → Nat → Sum Bool Unit} {len : Nat} {c : Nat → Bool} (h0 : ∀ v, L 0 v = .inr ()) (hs : ∀ n v, L (n + 1) v = (bif decide ((v : Int) < (len : Int)) then (bif c v then .inl false else L n (v + 1)) else .inr ())) :
    ∀ n v, len < n + v → (L n v = .inr () ∧ ∀ i, v ≤ i → i < len → c i = false) ∨ (L n v = .inl false ∧ ∃ i, v ≤ i ∧ i < len ∧ c i = true)
  | 0, v, h => .inl ⟨h0 v, fun i h1 h2 => by omega⟩
  | n + 1, v, h => by
    rw [hs]
    by_cases hv : v < len
    · rw [show decide ((v : Int) < (len : Int)) = true by simpa using hv]
      cases hc : c v with
      | true => exact .inr ⟨rfl, v, Nat.le_refl _, hv, hc⟩
      | false =>
        rcases Bc h0 hs n (v + 1) (by omega) with ⟨e, k⟩ | ⟨e, i, k1, k2, k3⟩
        · refine .inl ⟨e, fun i h1 h2 => ?_⟩
          rcases Nat.eq_or_lt_of_le h1 with rfl | h1
          · exact hc
          · exact k i h1 h2
        · exact .inr ⟨e, i, by omega, k2, k3⟩
    · rw [show decide ((v : Int) < (len : Int)) = false by simpa using hv]
      exact .inl ⟨rfl, fun i h1 h2 => by omega⟩
/-- a loop that looks for the first place -/
theorem Uw {β : Type} {L : Nat → Nat → Sum β Unit} {len : Nat} {c : Nat → Bool} {r : Nat → β} (h0 : ∀ v, L 0 v = .inr ()) (hs : ∀ n v, L (n + 1) v = (bif decide ((v : Int) < (len : Int)) then (bif c v then .inl (r v) else L n (v + 1)) else .inr ())) :
    ∀ n v, len < n + v → (L n v = .inr () ∧ ∀ i, v ≤ i → i < len → c i = false) ∨ (∃ i, L n v = .inl (r i) ∧ v ≤ i ∧ i < len ∧ c i = true ∧ ∀ k, v ≤ k → k < i → c k = false)
  | 0, v, h => .inl ⟨h0 v, fun i h1 h2 => by omega⟩
  | n + 1, v, h => by
    rw [hs]
    by_cases hv : v < len
    · rw [show decide ((v : Int) < (len : Int)) = true by simpa using hv]
      cases hc : c v with
      | true => exact .inr ⟨v, rfl, Nat.le_refl _, hv, hc, fun k h1 h2 => by omega⟩
      | false =>
        rcases Uw h0 hs n (v + 1) (by omega) with ⟨e, k⟩ | ⟨i, e, k1, k2, k3, k4⟩
        · refine .inl ⟨e, fun i h1 h2 => ?_⟩
          rcases Nat.eq_or_lt_of_le h1 with rfl | h1
          · exact hc
          · exact k i h1 h2
        · refine .inr ⟨i, e, by omega, k2, k3, fun k h1 h2 => ?_⟩
          rcases Nat.eq_or_lt_of_le h1 with rfl | h1
          · exact hc
          · exact k4 k h1 h2
    · rw [show decide ((v : Int) < (len : Int)) = false by simpa using hv]
      exact .inl ⟨rfl, fun i h1 h2 => by omega⟩
/-- the same, as a Boolean -/
theorem XL {L : Nat → Nat → Sum Bool Unit} {len : Nat} {c : Nat → Bool} (h0 : ∀ v, L 0 v = .inr ()) (hs : ∀ n v, L (n + 1) v = (bif decide ((v : Int) < (len : Int)) then (bif c v then .inl false else L n (v + 1)) else .inr ())) (n v : Nat) (h : len < n + v) (X : Bool) :
    (match L n v with | .inl r => r | .inr _ => X) = true ↔ (∀ i, v ≤ i → i < len → c i = false) ∧ X = true := by
  rcases Bc h0 hs n v h with ⟨e, k⟩ | ⟨e, i, k1, k2, k3⟩
  · rw [e]; simp only; exact ⟨fun hx => ⟨k, hx⟩, fun hx => hx.2⟩
  · rw [e]; simp only
    constructor
    · intro hx; cases hx
    · intro hx; rw [hx.1 i k1 k2] at k3; cases k3
theorem PG {L : Nat → Nat → Sum Bool Unit} {len : Nat} {c : Nat → Bool} (h0 : ∀ v, L 0 v = .inr ()) (hs : ∀ n v, L (n + 1) v = (bif decide ((v : Int) < (len : Int)) then (bif c v then .inl true else L n (v + 1)) else .inr ())) (n v : Nat) (h : len < n + v) :
    (match L n v with | .inl r => r | .inr _ => false) = true ↔ ∃ i, v ≤ i ∧ i < len ∧ c i = true := by
  rcases Uw (r := fun _ => true) h0 hs n v h with ⟨e, k⟩ | ⟨i, e, k1, k2, k3, k4⟩
  · rw [e]; simp only
    constructor
    · intro hx; cases hx
    · rintro ⟨i, h1, h2, h3⟩; rw [k i h1 h2] at h3; cases h3
  · rw [e]; exact ⟨fun _ => ⟨i, k1, k2, k3⟩, fun _ => rfl⟩
theorem CT {α : Type} [Inhabited α] {l : List α} {i n : Nat} (h : i < n) : nth (l.take n) i = nth l i := by
  unfold nth; simp [List.getD_eq_getElem?_getD, List.getElem?_take, h]
@[simp] theorem ju (a0 a1 a2 : Int) : Zw a0 a1 a2 = ZS a0 a1 a2 := rfl
@[simp] theorem Ut (a0 a1 : Int) : VQ a0 a1 = if a1 < a0 then a1 else a0 := by
  unfold VQ; by_cases h : a1 < a0 <;> simp [h]
@[simp] theorem sZ (a0 : Int) : yO a0 = J4 a0 := rfl
@[simp] theorem vd (a0 : Int) : je a0 = jZ a0 := by simp [je, jZ]
@[simp] theorem s9 (a0 : Zy) : P9 a0 = NM a0 := by simp [P9, NM]
@[simp] theorem uR (a0 : List Zy) : ∀ (n : Nat) (v0 : Nat), kq a0 n v0 = km a0 n v0 := by
  intro n
  induction n with
  | zero => intros; rfl
  | succ n ih => intros; simp [kq, km, ih, ByteArray.append_assoc]
@[simp] theorem sG (a0 : List Zy) : U8 a0 = Up a0 := by simp [U8, Up]
@[simp] theorem CB (a0 : List ZF) : ∀ (n : Nat) (v0 : Nat), Jn a0 n v0 = Jt a0 n v0 := by
  intro n
  induction n with
  | zero => intros; rfl
  | succ n ih => intros; simp [Jn, Jt, ih, ByteArray.append_assoc]
@[simp] theorem Bi (a0 : List ZF) : Ku a0 = zJ a0 := by simp [Ku, zJ]
@[simp] theorem tF (a0 : Zg) : VZ a0 = VK a0 := by simp [VZ, VK]
@[simp] theorem Az (a0 : List Zg) : ∀ (n : Nat) (v0 : Nat), yN a0 n v0 = yy a0 n v0 := by
  intro n
  induction n with
  | zero => intros; rfl
  | succ n ih => intros; simp [yN, yy, ih, ByteArray.append_assoc]
@[simp] theorem ve (a0 : List Zg) : qo a0 = qz a0 := by simp [qo, qz]
@[simp] theorem OW (a0 : ZH) : jr a0 = jk a0 := by simp [jr, jk]
@[simp] theorem Fa (a0 : Zs) : yf a0 = yv a0 := by simp [yf, yv]
@[simp] theorem Vy (a0 : ZD) : JF a0 = YF a0 := by simp [JF, YF]
@[simp] theorem sh (a0 : Zs) : RO a0 = RX a0 := by simp [RO, RX]
@[simp] theorem tD (a0 : Zs) : zu a0 = z4 a0 := by simp [zu, z4]
@[simp] theorem vu (a0 : List Zy) (a1 : Int) : ∀ (n : Nat) (v0 : Nat), qJ a0 a1 n v0 = qY a0 a1 n v0 := by
  intro n
  induction n with
  | zero => intros; rfl
  | succ n ih => intros; simp [qJ, qY, ih, ByteArray.append_assoc]
@[simp] theorem T7 (a0 : List Zy) (a1 : Int) : Yc a0 a1 = Yg a0 a1 := by simp [Yc, Yg]
@[simp] theorem pI (a0 : Int) (a1 : Int) : BQ a0 a1 = BV a0 a1 := by simp [BQ, BV]
@[simp] theorem sJ (a0 : List Int) : ∀ (n : Nat) (v0 : Int) (v1 : Nat), Rv a0 n v0 v1 = RB a0 n v0 v1 := by
  intro n
  induction n with
  | zero => intros; rfl
  | succ n ih => intros; simp [Rv, RB, ih, ByteArray.append_assoc]
@[simp] theorem rp (a0 : List Int) : Nr a0 = MC a0 := by simp [Nr, MC]
@[simp] theorem uf (a0 : Int) (a1 : List Int) : kr a0 a1 = kn a0 a1 := by simp [kr, kn]
@[simp] theorem tC (a0 : Zy) (a1 : List Int) : j8 a0 a1 = VF a0 a1 := by simp [j8, VF]
@[simp] theorem S5 (a0 : List Zy) (a1 : Int) (a2 : List Int) (a3 : Int) : zR a0 a1 a2 a3 = Xg a0 a1 a2 a3 := by
  unfold zR Xg xx
  rw [cond_neg]
  cases h : decide (0 ≤ Yg a0 a1) <;> simp [h]
@[simp] theorem tR (a0 : List Zy) (a1 : Int) : Ws a0 a1 = Wq a0 a1 := by simp [Ws, Wq, cond_neg]
@[simp] theorem Ix (a0 : List Zy) (a1 : Zs) : qZ a0 a1 = qX a0 a1 := by simp [qZ, qX, Bool.beq_comm]
@[simp] theorem vW (a0 : List Zs) (a1 : Int) : ∀ (n : Nat) (v0 : Nat), jN a0 a1 n v0 = y9 a0 a1 n v0 := by
  intro n
  induction n with
  | zero => intros; rfl
  | succ n ih => intros; simp [jN, y9, ih, ByteArray.append_assoc]
@[simp] theorem Gd (a0 : List Zs) (a1 : Int) : VG a0 a1 = j9 a0 a1 := by simp [VG, j9]
@[simp] theorem vY (a0 : Zd) : J6 a0 = KD a0 := by
  rw [Bool.eq_iff_iff]
  have hs : J6 a0 = true ↔ _ := (XL (L := Km a0) (fun _ => rfl) (fun _ _ => rfl) (a0.YY.length + 1) 0 (by omega) _).trans (and_congr_right fun _ => XL (L := zB a0) (fun _ => rfl) (fun _ _ => rfl) (a0.XI.length + 1) 0 (by omega) _)
  rw [hs]
  unfold KD
  have hi : ∀ b : Bool, (bif b then false else (match zN a0 (a0.YY.length + 1) 0 with | .inl r1 => r1 | .inr _ => true)) = true ↔ b = false ∧ _ := fun b => by
    cases b
    · exact (XL (L := zN a0) (fun _ => rfl) (fun _ _ => rfl) (a0.YY.length + 1) 0 (by omega) true).trans (by simp only [true_and, and_true]; exact Iff.rfl)
    · simp
  refine Iff.trans ?_ (hi _).symm
  simp only [ju, Bool.or_eq_false_iff, Bool.not_eq_false', Bool.and_eq_true, beq_iff_eq, bne_eq_false_iff_eq, Bool.not_eq_eq_eq_not, Bool.not_false]
  constructor
  · rintro ⟨h1, h2, h3, h4⟩
    exact ⟨⟨h3, h4⟩, fun i _ hi => ⟨h1 i (Nat.zero_le _) hi, h2 i (Nat.zero_le _) (by omega)⟩⟩
  · rintro ⟨⟨h3, h4⟩, h⟩
    exact ⟨fun i _ hi => (h i (Nat.zero_le _) hi).1, fun i _ hi => (h i (Nat.zero_le _) (by omega)).2, h3, h4⟩
@[simp] theorem uO (a0 a1 : List Int) : Vs a0 a1 = decide (a0 = a1) := sb (F := kK a0 a1) (c := fun i => (nth a0 i) != (nth a1 i)) (fun i => by simp [bne, Bool.beq_eq_decide_eq]) (fun _ => rfl) (fun _ _ => rfl)
@[simp] theorem tA (a0 a1 : List Int) : UI a0 a1 = decide (a0 = a1) := sb (F := kC a0 a1) (c := fun i => (nth a0 i) != (nth a1 i)) (fun i => by simp [bne, Bool.beq_eq_decide_eq]) (fun _ => rfl) (fun _ _ => rfl)
@[simp] theorem Ng (a0 a1 : ZB) : JU a0 a1 = decide (a0 = a1) := by
  obtain ⟨t, p, s⟩ := a0; obtain ⟨t', p', s'⟩ := a1
  by_cases h1 : t = t' <;> by_cases h2 : p = p' <;> by_cases h3 : s = s' <;> simp_all [JU]
@[simp] theorem Uv (a0 a1 : ZB) : JQ a0 a1 = decide (a0 = a1) := by
  obtain ⟨t, p, s⟩ := a0; obtain ⟨t', p', s'⟩ := a1
  by_cases h1 : t = t' <;> by_cases h2 : p = p' <;> by_cases h3 : s = s' <;> simp_all [JQ]
theorem SM (a0 : ZK) {k : Nat} (hk : k < a0.ZT.length) : decide (Qj a0 (nth a0.ZT k) < (k : Int)) = XP (a0.ZT.take k) (nth a0.ZT k) := by
  rw [Bool.eq_iff_iff]
  have hi : XP (a0.ZT.take k) (nth a0.ZT k) = true ↔ _ := PG (L := zj (a0.ZT.take k) (nth a0.ZT k)) (fun _ => rfl) (fun _ _ => rfl) _ 0 (by omega)
  rw [hi]
  unfold Qj
  have hl : (a0.ZT.take k).length = k := by simp; omega
  rw [hl]
  rcases Uw (L := yB a0 (nth a0.ZT k)) (r := fun i => (i : Int)) (fun _ => rfl) (fun _ _ => rfl) (a0.ZT.length + 1) 0 (by omega) with ⟨e, p⟩ | ⟨i, e, p1, p2, p3, p4⟩
  · have := p k (Nat.zero_le _) hk
    simp at this
  · rw [e]
    simp only [decide_eq_true_eq]
    constructor
    · intro h
      exact ⟨i, Nat.zero_le _, by omega, by rw [CT (by omega)]; simpa using p3⟩
    · rintro ⟨j, _, hj, hc⟩
      rw [CT hj] at hc
      rcases Nat.lt_or_ge j i with h | h
      · have := p4 j (Nat.zero_le _) h; simp at this hc; exact absurd hc this
      · omega
@[simp] theorem tE (a0 : ZK) : qC a0 = qE a0 := by
  rw [Bool.eq_iff_iff]
  have hs : qC a0 = true ↔ _ := (XL (L := y7 a0) (fun _ => rfl) (fun _ _ => rfl) (a0.ZT.length + 1) 0 (by omega) _).trans (and_congr_right fun _ => XL (L := xL a0) (fun _ => rfl) (fun _ _ => rfl) (a0.ZM.length + 1) 0 (by omega) _)
  rw [hs]
  unfold qE
  have hi : ∀ b : Bool, (bif b then false else (match xG a0 (a0.ZT.length + 1) 0 with | .inl r1 => r1 | .inr _ => (match xF a0 (a0.ZM.length + 1) 0 with | .inl r2 => r2 | .inr _ => true))) = true ↔ b = false ∧ _ := fun b => by
    cases b
    · exact ((XL (L := xG a0) (fun _ => rfl) (fun _ _ => rfl) (a0.ZT.length + 1) 0 (by omega) _).trans (and_congr_right fun _ => XL (L := xF a0) (fun _ => rfl) (fun _ _ => rfl) (a0.ZM.length + 1) 0 (by omega) true)).trans (by simp only [true_and, and_true]; exact Iff.rfl)
    · simp
  refine Iff.trans ?_ (hi _).symm
  simp only [ju, Bool.or_eq_false_iff, Bool.not_eq_false', Bool.and_eq_true, Bool.not_eq_eq_eq_not, Bool.not_false]
  constructor
  · rintro ⟨h1, h2, h3, h4⟩
    exact ⟨⟨h3, by simpa using h4⟩, fun i hz hi => by rw [← SM a0 hi]; exact h1 i hz hi, fun i hz hi => by simpa using h2 i hz hi⟩
  · rintro ⟨⟨h3, h4⟩, h1, h2⟩
    exact ⟨fun i hz hi => by rw [SM a0 hi]; exact h1 i hz hi, fun i hz hi => by simpa using h2 i hz hi, h3, by simpa using h4⟩
@[simp] theorem B9 (a0 : ZY) : Xa a0 = XY a0 := by simp [Xa, XY]
@[simp] theorem HH (a0 : ZY) : Yz a0 = Yx a0 := by simp [Yz, Yx]
@[simp] theorem sU (a0 : Zt) : RC a0 = Sv a0 := by simp [RC, Sv]
@[simp] theorem vQ (a0 : Zc) : ∀ (n : Nat) (v0 : Nat), xk a0 n v0 = xd a0 n v0 := by
  intro n
  induction n with
  | zero => intros; rfl
  | succ n ih => intros; simp [xk, xd, ih, ByteArray.append_assoc]
@[simp] theorem HB (a0 : Zc) : kp a0 = qa a0 := by simp [kp, qa]
theorem Ee (a0 : List Int) (a1 : Int) : kT a0 a1 = true ↔ ∃ i, 0 ≤ i ∧ i < a0.length ∧ (nth a0 i == a1) = true := by
  unfold kT R3
  rcases Uw (L := UO a0 a1) (r := fun i => (i : Int)) (fun _ => rfl) (fun _ _ => rfl) (a0.length + 1) 0 (by omega) with ⟨e, p⟩ | ⟨i, e, p1, p2, p3, p4⟩
  · rw [e]
    constructor
    · intro h; simp at h
    · rintro ⟨i, h1, h2, h3⟩; have := p i h1 h2; rw [h3] at this; cases this
  · rw [e]
    exact ⟨fun _ => ⟨i, p1, p2, p3⟩, fun _ => by simp⟩
@[simp] theorem Bv (a0 : List Int) (a1 : Int) : Ry a0 a1 = kT a0 a1 := by
  rw [Bool.eq_iff_iff, Ee]
  exact PG (L := PB a0 a1) (fun _ => rfl) (fun _ _ => rfl) (a0.length + 1) 0 (by omega)
@[simp] theorem BE (a0 : List ZF) (a1 : Int) : ∀ (n : Nat) (v0 : Nat), Qw a0 a1 n v0 = Qt a0 a1 n v0 := by
  intro n
  induction n with
  | zero => intros; rfl
  | succ n ih => intros; simp [Qw, Qt, ih, ByteArray.append_assoc]
@[simp] theorem Ps (a0 : List ZF) (a1 : Int) : Z2 a0 a1 = Z4 a0 a1 := by simp [Z2, Z4]
theorem Bo {β : Type} {L : Nat → Nat → Sum Int Unit} {len : Nat} {c : Nat → Bool} (h0 : ∀ v, L 0 v = .inr ()) (hs : ∀ n v, L (n + 1) v = (bif decide ((v : Int) < (len : Int)) then (bif c v then .inl (v : Int) else L n (v + 1)) else .inr ())) {k : Nat} (hk : k < len) (hc : c k = true) :
    ∃ i : Nat, (match L (len + 1) 0 with | .inl r => r | .inr _ => (-1)) = (i : Int) ∧ i ≤ k := by
  rcases Uw (r := fun i => (i : Int)) h0 hs (len + 1) 0 (by omega) with ⟨e, p⟩ | ⟨i, e, p1, p2, p3, p4⟩
  · have := p k (by omega) hk; rw [hc] at this; cases this
  · refine ⟨i, by rw [e], ?_⟩
    rcases Nat.lt_or_ge k i with h | h
    · have := p4 k (by omega) h; rw [hc] at this; cases this
    · exact h
theorem Gl (l : List Zs) {k : Nat} (hk : k < l.length) : ∃ i : Nat, j9 l (nth l k).Z1 = (i : Int) ∧ i ≤ k :=
  Bo (β := Int) (L := y9 l (nth l k).Z1) (fun _ => rfl) (fun _ _ => rfl) hk (by simp)
@[simp] theorem M6 (a0 : Zi) (k : Nat) : ∀ (n : Nat) (l : List Int) (v : Nat), jY a0 k n l v = zZ a0 k n l v := by
  intro n
  induction n with
  | zero => intros; rfl
  | succ n ih => intros; simp only [jY, zZ, ih, Bv]
@[simp] theorem SS (a0 : Zi) : ∀ (n : Nat) (l : List Int) (v : Nat), xJ a0 n l v = zT a0 n l v := by
  intro n
  induction n with
  | zero => intros; rfl
  | succ n ih => intros; simp only [xJ, zT, ih, HB, M6]
theorem NI (a0 : Zi) (k : Nat) : ∀ (n : Nat) (l : List Int) (v : Nat), zZ a0 k n l v ≠ .inl true := by
  intro n
  induction n with
  | zero => intro l v h; cases h
  | succ n ih =>
    intro l v h
    rw [zZ] at h
    generalize decide ((v : Int) < ((nth a0.ZE k).Zh.length : Int)) = c at h
    cases c with
    | false => cases h
    | true =>
      simp only [cond_true] at h
      generalize (kT l (nth (nth a0.ZE k).Zh v).Id || decide ((nth (nth a0.ZE k).Zh v).Id ≥ a0.Next)) = c at h
      cases c with
      | true => cases h
      | false => exact ih _ _ h
theorem V2 (a0 : Zi) : ∀ (n : Nat) (l : List Int) (v : Nat), zT a0 n l v ≠ .inl true := by
  intro n
  induction n with
  | zero => intro l v h; cases h
  | succ n ih =>
    intro l v h
    rw [zT] at h
    generalize decide ((v : Int) < (a0.ZE.length : Int)) = c at h
    cases c with
    | false => cases h
    | true =>
      simp only [cond_true] at h
      generalize (!qa (nth a0.ZE v) || (nth a0.ZE v).Id != (v : Int)) = c at h
      cases c with
      | true => cases h
      | false =>
        simp only [cond_false] at h
        cases hh : zZ a0 v ((nth a0.ZE v).Zh.length + 1) l 0 with
        | inl r =>
          rw [hh] at h; simp only at h
          cases h; exact NI _ _ _ _ _ hh
        | inr z => rw [hh] at h; exact ih _ _ h
theorem EG (s : Sum Bool Unit) (X : Bool) : s ≠ .inl true → ((match s with | .inl r => r | .inr _ => X) = true ↔ s = .inr () ∧ X = true) := by
  intro h
  cases s with
  | inl r => cases r with
    | true => exact absurd rfl h
    | false => simp
  | inr u => simp
@[simp] theorem tU (a0 : Zi) : Uo a0 = TS a0 := by
  rw [Bool.eq_iff_iff]
  have hs : Uo a0 = true ↔ _ := (XL (L := UK a0) (fun _ => rfl) (fun _ _ => rfl) (a0.Qg.length + 1) 0 (by omega) _).trans (and_congr_right fun _ => (XL (L := UA a0) (fun _ => rfl) (fun _ _ => rfl) (a0.Y4.length + 1) 0 (by omega) _).trans (and_congr_right fun _ => XL (L := V1 a0) (fun _ => rfl) (fun _ _ => rfl) (a0.XQ.length + 1) 1 (by omega) _))
  have hc : Tr a0 = true ↔ _ := (XL (L := Wd a0) (fun _ => rfl) (fun _ _ => rfl) (a0.YN.length + 1) 0 (by omega) _).trans (and_congr_right fun _ => XL (L := Wa a0) (fun _ => rfl) (fun _ _ => rfl) (a0.YX.length + 1) 0 (by omega) _)
  have hit : T1 a0 = true ↔ _ := EG (xJ a0 (a0.ZE.length + 1) [] 0) _ (by rw [SS]; exact V2 _ _ _ _)
  rw [SS] at hit
  have hl : qi a0.Y4 = true ↔ _ := XL (L := xf a0.Y4) (fun _ => rfl) (fun _ _ => rfl) (a0.Y4.length + 1) 1 (by omega) true
  have hg : qi a0.XQ = true ↔ _ := XL (L := xf a0.XQ) (fun _ => rfl) (fun _ _ => rfl) (a0.XQ.length + 1) 1 (by omega) true
  unfold TS
  have hi : ∀ b : Bool, (bif b then false else (match ke a0 (a0.YN.length + 1) 0 with | .inl r1 => r1 | .inr _ => (match zT a0 (a0.ZE.length + 1) ([] : List Int) 0 with | .inl r2 => r2 | .inr _ => (match kZ a0 (a0.Qg.length + 1) 0 with | .inl r4 => r4 | .inr _ => (match kh a0 (a0.Y4.length + 1) 0 with | .inl r5 => r5 | .inr _ => true))))) = true ↔ b = false ∧ _ := fun b => by
    cases b
    · exact ((XL (L := ke a0) (fun _ => rfl) (fun _ _ => rfl) (a0.YN.length + 1) 0 (by omega) _).trans (and_congr_right fun _ => (EG _ _ (V2 a0 (a0.ZE.length + 1) [] 0)).trans (and_congr_right fun _ => (XL (L := kZ a0) (fun _ => rfl) (fun _ _ => rfl) (a0.Qg.length + 1) 0 (by omega) _).trans (and_congr_right fun _ => XL (L := kh a0) (fun _ => rfl) (fun _ _ => rfl) (a0.Y4.length + 1) 0 (by omega) true)))).trans (by simp only [true_and, and_true]; exact Iff.rfl)
    · simp
  refine hs.trans (Iff.trans ?_ (hi _).symm)
  simp only [Bool.or_eq_false_iff, Bool.not_eq_false', Bool.and_eq_true, beq_iff_eq, bne_eq_false_iff_eq, decide_eq_true_eq, decide_eq_false_iff_not, ju, OW, Ix, Gd, Ps, hc, hit, hl, hg]
  constructor
  · rintro ⟨h1, h2, h3, ⟨⟨⟨h4, h5, h6, h7⟩, h8, h9, h10⟩, h11⟩, h12⟩
    refine ⟨⟨⟨⟨⟨⟨⟨⟨h4, h7⟩, h9⟩, h11⟩, by omega⟩, by omega⟩, fun i k1 k2 => ?_, trivial⟩, h3, trivial⟩, fun i k1 k2 => ⟨⟨(h5 i k1 k2).1, ?_⟩, h6 i k1 (by omega)⟩, h8, h1, fun i k1 k2 => (h2 i k1 k2).1⟩
    · have := (h2 i (Nat.zero_le _) k2).2
      simp only [show decide ((i : Int) > 0) = true by simp; omega, Bool.true_and, decide_eq_false_iff_not] at this
      exact this
    · obtain ⟨m, e, hm⟩ := Gl a0.YN k2
      have := (h5 i k1 k2).2
      rw [e] at this ⊢; omega
  · rintro ⟨⟨⟨⟨⟨⟨⟨⟨h4, h7⟩, h9⟩, h11⟩, h12⟩, h10⟩, h2, _⟩, h3, _⟩, h5, h8, h1, h6⟩
    refine ⟨h1, fun i k1 k2 => ⟨h6 i k1 k2, ?_⟩, h3, ⟨⟨⟨h4, fun i k1 k2 => ⟨(h5 i k1 k2).1.1, ?_⟩, fun i k1 k2 => (h5 i k1 (by omega)).2, h7⟩, h8, h9, by omega⟩, h11⟩, by omega⟩
    · by_cases h0 : 0 < i
      · rw [show decide (nth a0.Y4 (i - 1) ≥ nth a0.Y4 i) = false by simpa using h2 i h0 k2]; simp
      · simp [h0]
    · rw [(h5 i k1 k2).1.2]; omega
@[simp] theorem vb (a0 : Zc) (a1 : Int) : ∀ (n : Nat) (v0 : Nat), xO a0 a1 n v0 = xI a0 a1 n v0 := by
  intro n
  induction n with
  | zero => intros; rfl
  | succ n ih => intros; simp [xO, xI, ih, ByteArray.append_assoc]
@[simp] theorem tB (a0 : Zc) (a1 : Int) : y3 a0 a1 = yo a0 a1 := by simp [y3, yo]
@[simp] theorem tH (a0 : Zi) (a1 : Int) : ∀ (n : Nat) (v0 : Nat), yW a0 a1 n v0 = yQ a0 a1 n v0 := by
  intro n
  induction n with
  | zero => intros; rfl
  | succ n ih => intros; simp [yW, yQ, ih, ByteArray.append_assoc]
@[simp] theorem Cz (a0 : Zi) (a1 : Int) : QB a0 a1 = QD a0 a1 := by simp [QB, QD]
@[simp] theorem OJ (a0 : Zt) : Kn a0 = zG a0 := by simp [Kn, zG]
@[simp] theorem FN (a0 : Int) (a1 : List Int) : QQ a0 a1 = QT a0 a1 := by simp [QQ, QT]
theorem O5 (a1 : ByteArray) : ∀ (n : Nat) (p l : List Int) (v : Nat), a1.size < n + v → v ≤ a1.size → y1 a1 n (p ++ l) v = p ++ yJ a1.data.toList n l v := by
  intro n
  induction n with
  | zero =>
    intro p l v h hv
    omega
  | succ n ih =>
    intro p l v h hv0
    have hs : a1.size = a1.data.toList.length := (Array.length_toList).symm
    rw [y1, yJ, ← hs]
    by_cases hv : v < a1.size
    · rw [show decide ((v : Int) < (a1.size : Int)) = true by simpa using hv]
      simp only [cond_true]
      rw [List.append_assoc, ih p _ (v + 1) (by omega) (by omega)]
      rfl
    · rw [show decide ((v : Int) < (a1.size : Int)) = false by simpa using hv]
      rfl
@[simp] theorem vX (a0 : Int) (a1 : ByteArray) (a2 : Int) : qn a0 a1 a2 = jb a0 a1 a2 := by
  have := O5 a1 (a1.size + 1) [a2] [] 0 (by omega) (by omega)
  simp only [List.append_nil] at this
  simp only [qn, jb, jn, this, FN]
  rfl
@[simp] theorem w7 (a0 : Int) (a1 : Zd) : ∀ (n : Nat) (v0 : List Int) (v1 : Nat), xp a0 a1 n v0 v1 = xi a0 a1 n v0 v1 := by
  intro n
  induction n with
  | zero => intros; rfl
  | succ n ih => intros; simp [xp, xi, ih, ByteArray.append_assoc]
@[simp] theorem I4 (a0 : Int) (a1 : Zd) : yV a0 a1 = yh a0 a1 := by simp [yV, yh]
@[simp] theorem Aq (a0 : ZK) (a1 : Zd) : ∀ (n : Nat) (v0 : List Int) (v1 : Nat), Jg a0 a1 n v0 v1 = Jb a0 a1 n v0 v1 := by
  intro n
  induction n with
  | zero => intros; rfl
  | succ n ih => intros; simp [Jg, Jb, ih, ByteArray.append_assoc]
@[simp] theorem vV (a0 : ZK) (a1 : Zd) : zi a0 a1 = KG a0 a1 := by simp [zi, KG]
@[simp] theorem Ca (a0 : ZI) (a1 : Zd) : ∀ (n : Nat) (v0 : List (List Int)) (v1 : Nat), X6 a0 a1 n v0 v1 = X8 a0 a1 n v0 v1 := by
  intro n
  induction n with
  | zero => intros; rfl
  | succ n ih => intros; simp [X6, X8, ih, ByteArray.append_assoc]
@[simp] theorem P6 (a0 : ZI) (a1 : Zd) : JE a0 a1 = JA a0 a1 := by simp [JE, JA]
@[simp] theorem NX (a0 : ZY) : Kj a0 = Kf a0 := by simp [Kj, Kf]
@[simp] theorem PQ (a0 : List Zy) (a1 : ZY) : zM a0 a1 = JW a0 a1 := by simp [zM, JW]
@[simp] theorem vJ (a0 : ZK) (a1 : ZB) : ∀ (n : Nat) (v0 : Nat), yB a0 a1 n v0 = xn a0 a1 n v0 := by
  intro n
  induction n with
  | zero => intros; rfl
  | succ n ih => intros; simp [yB, xn, ih, ByteArray.append_assoc]
@[simp] theorem HV (a0 : ZK) (a1 : ZB) : Qj a0 a1 = yu a0 a1 := by simp [Qj, yu]
@[simp] theorem GZ (a0 a1 : Int) : XO a0 a1 = Q0 a0 a1 := by
  have e1 : yH 0 a0 = (if 0 > a0 then 0 else a0) := by unfold yH; rw [Bool.cond_decide]; split <;> split <;> omega
  have e2 : VQ 10000 a1 = (if 10000 < a1 then 10000 else a1) := by unfold VQ; rw [Bool.cond_decide]; split <;> split <;> omega
  unfold XO Q0
  rw [e1, e2]
  have e3 : (decide (a0 > a1) || !YF (ZD.mk (if 0 > a0 then 0 else a0) (if 10000 < a1 then 10000 else a1))) = decide ((if 0 > a0 then 0 else a0) > (if 10000 < a1 then 10000 else a1)) := by
    rw [Bool.eq_iff_iff]
    simp only [YF, J4, ZS, Bool.or_eq_true, decide_eq_true_eq, Bool.not_eq_true', Bool.and_eq_false_iff, decide_eq_false_iff_not]
    split <;> split <;> omega
  rw [e3]
@[simp] theorem HK (a0 : List ZF) (a1 : ZZ) : J9 a0 a1 = JP a0 a1 := by simp [J9, JP]
@[simp] theorem uw (a0 : List ZD) (a1 : Int) : ∀ (n : Nat) (v0 : Int) (v1 : Nat), qW a0 a1 n v0 v1 = zP a0 a1 n v0 v1 := by
  intro n
  induction n with
  | zero => intros; rfl
  | succ n ih => intros; simp [qW, zP, ih, ZS, Bool.and_assoc]
@[simp] theorem tW (a0 : List ZD) (a1 : Int) : TG a0 a1 = jo a0 a1 := by simp [TG, jo]
@[simp] theorem MX (a0 : List ZD) (a1 : Int) (a2 : Int) : KX a0 a1 a2 = Zm a0 a1 a2 := by simp [KX, Zm]
theorem PV (a0 : List ZD) (a1 : Int) : ∀ (n : Nat) (fd : Bool) (v : Nat) (f l : Int), 10001 < n + v → v ≤ 10001 →
    (X7 a0 a1 n fd v f l = (fd, f, l) ∧ ∀ t : Nat, v ≤ t → t ≤ 10000 → Zm a0 (t : Int) a1 = false) ∨
    ∃ x y : Nat, v ≤ x ∧ x ≤ y ∧ y ≤ 10000 ∧ Zm a0 (x : Int) a1 = true ∧ Zm a0 (y : Int) a1 = true ∧ (∀ t : Nat, v ≤ t → t < x → Zm a0 (t : Int) a1 = false) ∧ (∀ t : Nat, y < t → t ≤ 10000 → Zm a0 (t : Int) a1 = false) ∧
      X7 a0 a1 n fd v f l = (true, (if fd then f else (x : Int)), (y : Int)) := by
  intro n
  induction n with
  | zero => intro fd v f l h h'; omega
  | succ n ih =>
    intro fd v f l h h'
    rw [X7]
    by_cases hv : v ≤ 10000
    · rw [show decide ((v : Int) ≤ 10000) = true by simp; omega]
      simp only [cond_true]
      cases hs : Zm a0 (v : Int) a1 with
      | false =>
        simp only [cond_false]
        rcases ih fd (v + 1) f l (by omega) (by omega) with ⟨e, k⟩ | ⟨x, y, p1, p2, p3, p4, p5, p6, p7, p8⟩
        · refine .inl ⟨e, fun t h1 h2 => ?_⟩
          rcases Nat.eq_or_lt_of_le h1 with rfl | h1
          · exact hs
          · exact k t h1 h2
        · refine .inr ⟨x, y, by omega, p2, p3, p4, p5, fun t h1 h2 => ?_, p7, p8⟩
          rcases Nat.eq_or_lt_of_le h1 with rfl | h1
          · exact hs
          · exact p6 t h1 h2
      | true =>
        simp only [cond_true]
        have key : ∀ g : Int, (∃ x y : Nat, v ≤ x ∧ x ≤ y ∧ y ≤ 10000 ∧ Zm a0 (x : Int) a1 = true ∧ Zm a0 (y : Int) a1 = true ∧ (∀ t : Nat, v ≤ t → t < x → Zm a0 (t : Int) a1 = false) ∧ (∀ t : Nat, y < t → t ≤ 10000 → Zm a0 (t : Int) a1 = false) ∧
            X7 a0 a1 n true (v + 1) g (v : Int) = (true, g, (y : Int)) ∧ x = v) := by
          intro g
          rcases ih true (v + 1) g (v : Int) (by omega) (by omega) with ⟨e, k⟩ | ⟨x, y, p1, p2, p3, p4, p5, p6, p7, p8⟩
          · exact ⟨v, v, Nat.le_refl _, Nat.le_refl _, hv, hs, hs, fun t h1 h2 => by omega, fun t h1 h2 => k t h1 h2, e, rfl⟩
          · exact ⟨v, y, Nat.le_refl _, by omega, p3, hs, p5, fun t h1 h2 => by omega, p7, by simpa using p8, rfl⟩
        cases fd with
        | false =>
          simp only [Bool.not_false, cond_true]
          obtain ⟨x, y, q1, q2, q3, q4, q5, q6, q7, q8, rfl⟩ := key (v : Int)
          exact .inr ⟨x, y, q1, q2, q3, q4, q5, q6, q7, by simpa using q8⟩
        | true =>
          simp only [Bool.not_true, cond_false]
          obtain ⟨x, y, q1, q2, q3, q4, q5, q6, q7, q8, rfl⟩ := key f
          exact .inr ⟨x, y, q1, q2, q3, q4, q5, q6, q7, by simpa using q8⟩
    · rw [show decide ((v : Int) ≤ 10000) = false by simp; omega]
      exact .inl ⟨rfl, fun t h1 h2 => by omega⟩
theorem Ai (a0 : List ZD) (t : Int) (hm : a0.length ≤ maxLen) : jo a0 t = (a0.countP (fun s => YF s && ZS t s.YE s.To) : Int) := by
  have key : ∀ (n : Nat) (c : Nat) (v : Nat), a0.length < n + v → v ≤ a0.length → c ≤ v → zP a0 t n (c : Int) v = ((c + (a0.drop v).countP (fun s => YF s && ZS t s.YE s.To) : Nat) : Int) := by
    intro n
    induction n with
    | zero => intro c v h1 h2; omega
    | succ n ih =>
      intro c v h1 h2 h3
      rw [zP]
      by_cases hv : v < a0.length
      · rw [show decide ((v : Int) < (a0.length : Int)) = true by simpa using hv, List.drop_eq_getElem_cons hv, ← Tv hv]
        simp only [cond_true, List.countP_cons]
        have hw : W ((c : Int) + 1) = ((c + 1 : Nat) : Int) := by rw [show ((c + 1 : Nat) : Int) = (c : Int) + 1 by omega]; exact YA (by omega) (by unfold maxLen at hm; omega)
        cases hc : (YF (nth a0 v) && ZS t (nth a0 v).YE (nth a0 v).To) with
        | true => rw [cond_true, hw, ih (c + 1) (v + 1) (by omega) (by omega) (by omega)]; simp; omega
        | false => rw [cond_false, ih c (v + 1) (by omega) (by omega) (by omega)]; simp
      · rw [show decide ((v : Int) < (a0.length : Int)) = false by simpa using hv, List.drop_eq_nil_of_le (by omega)]
        simp
  have := key (a0.length + 1) 0 0 (by omega) (by omega) (by omega)
  simpa [jo] using this
theorem AY {α : Type} (p : α → Bool) (g : α → Int) : ∀ {l : List α}, (∃ x ∈ l, p x = true) → ∃ x ∈ l, p x = true ∧ ∀ y ∈ l, p y = true → g y ≤ g x
  | [], h => by obtain ⟨x, hx, _⟩ := h; cases hx
  | a :: l, h => by
    by_cases hl : ∃ x ∈ l, p x = true
    · obtain ⟨x, hx, px, hm⟩ := AY p g hl
      by_cases hc : p a = true ∧ g x < g a
      · refine ⟨a, by simp, hc.1, fun y hy py => ?_⟩
        rcases List.mem_cons.1 hy with rfl | hy
        · exact Int.le_refl _
        · have := hm y hy py; omega
      · refine ⟨x, by simp [hx], px, fun y hy py => ?_⟩
        rcases List.mem_cons.1 hy with rfl | hy
        · rcases Int.lt_or_le (g x) (g y) with h | h
          · exact absurd ⟨py, h⟩ hc
          · exact h
        · exact hm y hy py
    · obtain ⟨x, hx, px⟩ := h
      rcases List.mem_cons.1 hx with rfl | hx
      · refine ⟨x, by simp, px, fun y hy py => ?_⟩
        rcases List.mem_cons.1 hy with rfl | hy
        · exact Int.le_refl _
        · exact absurd ⟨y, hy, py⟩ hl
      · exact absurd ⟨x, hx, px⟩ hl
theorem SH (s : ZD) : YF s = true ↔ 0 ≤ s.YE ∧ s.YE ≤ s.To ∧ s.To ≤ 10000 := by
  simp only [YF, J4, ZS, Bool.and_eq_true, decide_eq_true_eq]; omega
theorem FA (a0 : List ZD) (a1 : Int) : ∀ (n : Nat) (f l : Int) (v : Nat), a0.length < n + v → v ≤ a0.length → -1 ≤ f →
    let r := XJ a0 a1 n f l v
    (r.1 = f ∨ ∃ k, v ≤ k ∧ k < a0.length ∧ YF (nth a0 k) = true ∧ Zm a0 (nth a0 k).YE a1 = true ∧ r.1 = (nth a0 k).YE) ∧
    (∀ k, v ≤ k → k < a0.length → YF (nth a0 k) = true → Zm a0 (nth a0 k).YE a1 = true → 0 ≤ r.1 ∧ r.1 ≤ (nth a0 k).YE) ∧ (0 ≤ f → 0 ≤ r.1 ∧ r.1 ≤ f) ∧
    (r.2 = l ∨ ∃ k, v ≤ k ∧ k < a0.length ∧ YF (nth a0 k) = true ∧ Zm a0 (nth a0 k).To a1 = true ∧ r.2 = (nth a0 k).To) ∧
    (∀ k, v ≤ k → k < a0.length → YF (nth a0 k) = true → Zm a0 (nth a0 k).To a1 = true → (nth a0 k).To ≤ r.2) ∧ l ≤ r.2 := by
  intro n
  induction n with
  | zero => intro f l v h1 h2; omega
  | succ n ih =>
    intro f l v h1 h2 hf
    by_cases hv : v < a0.length
    · have step : ∃ f' l' : Int, XJ a0 a1 (n + 1) f l v = XJ a0 a1 n f' l' (v + 1) ∧ -1 ≤ f' ∧
          (f' = f ∨ (YF (nth a0 v) = true ∧ Zm a0 (nth a0 v).YE a1 = true ∧ f' = (nth a0 v).YE)) ∧ (YF (nth a0 v) = true → Zm a0 (nth a0 v).YE a1 = true → 0 ≤ f' ∧ f' ≤ (nth a0 v).YE) ∧ (0 ≤ f → 0 ≤ f' ∧ f' ≤ f) ∧
          (l' = l ∨ (YF (nth a0 v) = true ∧ Zm a0 (nth a0 v).To a1 = true ∧ l' = (nth a0 v).To)) ∧ (YF (nth a0 v) = true → Zm a0 (nth a0 v).To a1 = true → (nth a0 v).To ≤ l') ∧ l ≤ l' := by
        rw [XJ, show decide ((v : Int) < (a0.length : Int)) = true by simpa using hv]
        simp only [cond_true, Vy, MX]
        have hx := SH (nth a0 v)
        have hM : yH l (nth a0 v).To = if l < (nth a0 v).To then (nth a0 v).To else l := by unfold yH; rw [Bool.cond_decide]
        cases h1 : YF (nth a0 v) with
        | false => simp only [Bool.false_and, cond_false]; exact ⟨f, l, rfl, hf, .inl rfl, by simp, fun h => ⟨h, Int.le_refl _⟩, .inl rfl, by simp, Int.le_refl _⟩
        | true =>
          have hx' := hx.1 h1
          simp only [Bool.true_and]
          have kl : ∃ l', (bif Zm a0 (nth a0 v).To a1 then yH l (nth a0 v).To else l) = l' ∧ (l' = l ∨ (True ∧ Zm a0 (nth a0 v).To a1 = true ∧ l' = (nth a0 v).To)) ∧ (True → Zm a0 (nth a0 v).To a1 = true → (nth a0 v).To ≤ l') ∧ l ≤ l' := by
            refine ⟨_, rfl, ?_⟩
            cases Zm a0 (nth a0 v).To a1 with
            | false => simp
            | true => simp only [cond_true, hM]; split <;> simp <;> omega
          obtain ⟨l', e1, kl⟩ := kl
          have kf : ∃ f', (bif (Zm a0 (nth a0 v).YE a1 && (decide (f < 0) || decide ((nth a0 v).YE < f))) then (nth a0 v).YE else f) = f' ∧ -1 ≤ f' ∧ (f' = f ∨ (True ∧ Zm a0 (nth a0 v).YE a1 = true ∧ f' = (nth a0 v).YE)) ∧ (True → Zm a0 (nth a0 v).YE a1 = true → 0 ≤ f' ∧ f' ≤ (nth a0 v).YE) ∧ (0 ≤ f → 0 ≤ f' ∧ f' ≤ f) := by
            refine ⟨_, rfl, ?_⟩
            cases Zm a0 (nth a0 v).YE a1 with
            | false => simp; omega
            | true =>
              by_cases hc : f < 0 ∨ (nth a0 v).YE < f
              · rw [show (true && (decide (f < 0) || decide ((nth a0 v).YE < f))) = true by simpa using hc]
                simp only [cond_true]; refine ⟨by omega, .inr ⟨trivial, trivial, trivial⟩, fun _ _ => ⟨by omega, Int.le_refl _⟩, fun h => by omega⟩
              · rw [show (true && (decide (f < 0) || decide ((nth a0 v).YE < f))) = false by simp; omega]
                simp only [cond_false]; refine ⟨hf, .inl trivial, fun _ _ => by omega, fun h => ⟨h, Int.le_refl _⟩⟩
          obtain ⟨f', e2, kf⟩ := kf
          refine ⟨f', l', ?_, kf.1, kf.2.1, kf.2.2.1, kf.2.2.2, kl.1, kl.2.1, kl.2.2⟩
          rw [← e1, ← e2]
          cases (Zm a0 (nth a0 v).YE a1 && (decide (f < 0) || decide ((nth a0 v).YE < f))) <;> cases Zm a0 (nth a0 v).To a1 <;> rfl
      obtain ⟨f', l', e, g1, g2, g3, g4, g5, g6, g7⟩ := step
      rw [e]
      obtain ⟨i1, i2, i3, i4, i5, i6⟩ := ih f' l' (v + 1) (by omega) (by omega) g1
      refine ⟨?_, fun k k1 k2 k3 k4 => ?_, fun h => ?_, ?_, fun k k1 k2 k3 k4 => ?_, by omega⟩
      · rcases i1 with i1 | ⟨k, k1, k2⟩
        · rcases g2 with g2 | ⟨q1, q2, q3⟩
          · left; rw [i1, g2]
          · right; exact ⟨v, Nat.le_refl _, hv, q1, q2, by rw [i1, q3]⟩
        · right; exact ⟨k, by omega, k2⟩
      · rcases Nat.eq_or_lt_of_le k1 with rfl | k1
        · have := g3 k3 k4; have := i3 this.1; omega
        · exact i2 k k1 k2 k3 k4
      · have := g4 h; have := i3 this.1; omega
      · rcases i4 with i4 | ⟨k, k1, k2⟩
        · rcases g5 with g5 | ⟨q1, q2, q3⟩
          · left; rw [i4, g5]
          · right; exact ⟨v, Nat.le_refl _, hv, q1, q2, by rw [i4, q3]⟩
        · right; exact ⟨k, by omega, k2⟩
      · rcases Nat.eq_or_lt_of_le k1 with rfl | k1
        · have := g6 k3 k4; omega
        · exact i5 k k1 k2 k3 k4
    · rw [XJ, show decide ((v : Int) < (a0.length : Int)) = false by simpa using hv]
      exact ⟨.inl rfl, fun k h1 h2 => by omega, fun h => ⟨h, Int.le_refl _⟩, .inl rfl, fun k h1 h2 => by omega, Int.le_refl _⟩
theorem Ug (a0 : List ZD) (t a1 : Int) (hm : a0.length ≤ maxLen) (h0 : 0 ≤ a1) (h1 : a1 < a0.length) : Zm a0 t a1 = true ↔ (a0.length : Int) - a1 ≤ (a0.countP (fun s => YF s && ZS t s.YE s.To) : Int) := by
  have e1 : W ((a0.length : Int) - 1) = (a0.length : Int) - 1 := YA (by omega) (by unfold maxLen at hm; omega)
  have e2 : W ((a0.length : Int) - a1) = (a0.length : Int) - a1 := YA (by omega) (by unfold maxLen at hm; omega)
  unfold Zm
  rw [Ai a0 t hm, e1, e2, show ZS a1 0 ((a0.length : Int) - 1) = true by simp [ZS]; omega]
  rw [Bool.true_and, decide_eq_true_eq]
theorem RD (a0 : List ZD) (t a1 : Int) (hm : a0.length ≤ maxLen) (h0 : 0 ≤ a1) (h1 : a1 < a0.length) (hs : Zm a0 t a1 = true) :
    (∃ k, k < a0.length ∧ YF (nth a0 k) = true ∧ (nth a0 k).YE ≤ t ∧ Zm a0 (nth a0 k).YE a1 = true) ∧ (∃ k, k < a0.length ∧ YF (nth a0 k) = true ∧ t ≤ (nth a0 k).To ∧ Zm a0 (nth a0 k).To a1 = true) := by
  have hc := (Ug a0 t a1 hm h0 h1).1 hs
  have hex : ∃ s ∈ a0, (YF s && ZS t s.YE s.To) = true := by
    have : 0 < a0.countP (fun s => YF s && ZS t s.YE s.To) := by omega
    exact List.countP_pos_iff.1 this
  have idx : ∀ s ∈ a0, ∃ k, k < a0.length ∧ nth a0 k = s := by
    intro s hs
    obtain ⟨k, hk, rfl⟩ := List.getElem_of_mem hs
    exact ⟨k, hk, Tv hk⟩
  constructor
  · obtain ⟨s, hs1, hp, hmax⟩ := AY _ (fun s : ZD => s.YE) hex
    obtain ⟨k, hk, rfl⟩ := idx s hs1
    simp only [ZS, Bool.and_eq_true, decide_eq_true_eq] at hp hmax
    refine ⟨k, hk, hp.1, hp.2.1, (Ug a0 _ a1 hm h0 h1).2 (Int.le_trans hc ?_)⟩
    refine Int.ofNat_le.2 (List.countP_mono_left (fun x hx hpx => ?_))
    simp only [ZS, Bool.and_eq_true, decide_eq_true_eq] at hpx ⊢
    have := hmax x hx hpx
    exact ⟨hpx.1, this, by omega⟩
  · obtain ⟨s, hs1, hp, hmax⟩ := AY _ (fun s : ZD => - s.To) hex
    obtain ⟨k, hk, rfl⟩ := idx s hs1
    simp only [ZS, Bool.and_eq_true, decide_eq_true_eq] at hp hmax
    refine ⟨k, hk, hp.1, hp.2.2, (Ug a0 _ a1 hm h0 h1).2 (Int.le_trans hc ?_)⟩
    refine Int.ofNat_le.2 (List.countP_mono_left (fun x hx hpx => ?_))
    simp only [ZS, Bool.and_eq_true, decide_eq_true_eq] at hpx ⊢
    have := hmax x hx hpx
    exact ⟨hpx.1, by omega, by omega⟩
@[simp] theorem Sg (a0 : List ZD) (a1 : Int) (hm : a0.length ≤ maxLen) : JI a0 a1 = zf a0 a1 := by
  have e1 : W ((a0.length : Int) - 1) = (a0.length : Int) - 1 := YA (by omega) (by unfold maxLen at hm; omega)
  unfold JI zf
  rw [ju, e1]
  by_cases hr : 0 ≤ a1 ∧ a1 < a0.length
  · rw [show (!ZS a1 0 ((a0.length : Int) - 1)) = false by simp [ZS]; omega]
    simp only [cond_false]
    obtain ⟨s1, s2, _, s4, s5, _⟩ := FA a0 a1 (a0.length + 1) (-1) (-1) 0 (by omega) (by omega) (by omega)
    generalize XJ a0 a1 (a0.length + 1) (-1) (-1) 0 = r at s1 s2 s4 s5
    obtain ⟨f, l⟩ := r
    simp only at s1 s2 s4 s5 ⊢
    rcases PV a0 a1 10002 false 0 0 0 (by omega) (by omega) with ⟨e, k⟩ | ⟨x, y, p1, p2, p3, p4, p5, p6, p7, e⟩
    · rw [e]
      simp only
      rcases s1 with s1 | ⟨j, j1, j2, j3, j4, j5⟩
      · rw [s1]; rfl
      · have hj := (SH _).1 j3
        have := k (nth a0 j).YE.toNat (by omega) (by omega)
        rw [Int.toNat_of_nonneg hj.1, j4] at this; cases this
    · rw [e]
      simp only [Bool.false_eq_true, if_false]
      obtain ⟨⟨j, j1, j2, j3, j4⟩, _⟩ := RD a0 x a1 hm hr.1 hr.2 p4
      obtain ⟨_, ⟨i, i1, i2, i3, i4⟩⟩ := RD a0 y a1 hm hr.1 hr.2 p5
      have hf := s2 j (by omega) j1 j2 j4
      have hl := s5 i (by omega) i1 i2 i4
      have hf2 : (x : Int) ≤ f := by
        rcases s1 with s1 | ⟨k, k1, k2, k3, k4, k5⟩
        · omega
        · have hk := (SH _).1 k3
          rcases Int.lt_or_le f x with h | h
          · have := p6 f.toNat (by omega) (by omega)
            rw [Int.toNat_of_nonneg (by omega), k5, k4] at this; cases this
          · exact h
      have hl2 : l ≤ (y : Int) := by
        rcases s4 with s4 | ⟨k, k1, k2, k3, k4, k5⟩
        · omega
        · have hk := (SH _).1 k3
          rcases Int.lt_or_le (y : Int) l with h | h
          · have := p7 l.toNat (by omega) (by omega)
            rw [Int.toNat_of_nonneg (by omega), k5, k4] at this; cases this
          · exact h
      have e3 : f = x := by omega
      have e4 : l = y := by omega
      rw [e3, e4, show decide ((x : Int) < 0) = false by simp]; rfl
  · rw [show (!ZS a1 0 ((a0.length : Int) - 1)) = true by simp [ZS]; omega]
    simp only [cond_true]
    have hn : ∀ t, Zm a0 t a1 = false := by
      intro t; unfold Zm; rw [e1, show ZS a1 0 ((a0.length : Int) - 1) = false by simp [ZS]; omega]; rfl
    rcases PV a0 a1 10002 false 0 0 0 (by omega) (by omega) with ⟨e, k⟩ | ⟨x, y, p1, p2, p3, p4, p5, p6, p7, e⟩
    · rw [e]
    · rw [hn] at p4; cases p4
@[simp] theorem P2 (a0 : List ZF) (a1 : ZV) : ∀ (n : Nat) (v0 : List ZD) (v1 : Nat), z6 a0 a1 n v0 v1 = Xd a0 a1.Zf n v0 v1 := by
  intro n
  induction n with
  | zero => intros; rfl
  | succ n ih => intros; simp [z6, Xd, ih]
theorem TT (a0 : List ZF) (a1 : List ZZ) : ∀ (n : Nat) (l : List ZD) (v : Nat), l.length ≤ v → v ≤ a1.length → ∀ z, Xd a0 a1 n l v = .inr z → z.length ≤ a1.length := by
  intro n
  induction n with
  | zero => intro l v h1 h2 z h; cases h; exact Nat.zero_le _
  | succ n ih =>
    intro l v h1 h2 z h
    rw [Xd] at h
    by_cases hv : v < a1.length
    · rw [show decide ((v : Int) < (a1.length : Int)) = true by simpa using hv] at h
      cases hs : (!(JP a0 (nth a1 v)).2) with
      | true => rw [hs] at h; cases h
      | false => rw [hs] at h; exact ih _ (v + 1) (by simp; omega) (by omega) z h
    · rw [show decide ((v : Int) < (a1.length : Int)) = false by simpa using hv] at h
      cases h; omega
@[simp] theorem jx (a0 : List ZF) (a1 : ZV) (a2 : Int) (h : Sm maxLen a1) : Xp a0 a1 a2 = JR a0 a1 a2 := by
  unfold Xp JR Xt
  rw [P2]
  cases hh : Xd a0 a1.Zf (a1.Zf.length + 1) [] 0 with
  | inl r => rfl
  | inr z =>
    simp only
    rw [Sg _ _ (Nat.le_trans (TT a0 a1.Zf _ _ 0 (by simp) (by omega) z hh) (YH (ZV.R4 h)))]
@[simp] theorem uD (a0 : ZZ) : Qp a0 = QI a0 := by simp [Qp, QI]
@[simp] theorem Cu (a1 : ZV) : ∀ (n : Nat) (v0 : List Int) (v1 : Nat), KA a1 n v0 v1 = KC a1 n v0 v1 := by
  intro n
  induction n with
  | zero => intros; rfl
  | succ n ih => intros; simp [KA, KC, ih, ByteArray.append_assoc]
@[simp] theorem BA (a1 : ZV) : ∀ (n : Nat) (v0 : List Int) (v1 : Nat), Qs a1 n v0 v1 = Qu a1 n v0 v1 := by
  intro n
  induction n with
  | zero => intros; rfl
  | succ n ih => intros; simp [Qs, Qu, ih, ByteArray.append_assoc]
@[simp] theorem AA (a0 : Int) (a1 : ZV) : JB a0 a1 = Q8 a0 a1 := by simp [JB, Q8]
@[simp] theorem Bn (a0 : Int) (a1 : List ZB) : ∀ (n : Nat) (v0 : List Int) (v1 : Nat), K2 a0 a1 n v0 v1 = K4 a0 a1 n v0 v1 := by
  intro n
  induction n with
  | zero => intros; rfl
  | succ n ih => intros; simp [K2, K4, ih, ByteArray.append_assoc]
@[simp] theorem wO (a0 : Int) (a1 : List ZB) : Kx a0 a1 = zO a0 a1 := by simp [Kx, zO]
@[simp] theorem sX (a0 : Int) (a1 : Int) (a2 : List ZB) (a3 : Int) : U2 a0 a1 a2 a3 = TF a0 a1 a2 a3 := by simp [U2, TF]
@[simp] theorem BC (a0 : ZK) (a1 : List Int) (a2 : Int) : TH a0 a1 a2 = W2 a0 a1 a2 := by simp [TH, W2]
@[simp] theorem va (a0 : Int) (a1 : Int) (a2 : Int) : xP a0 a1 a2 = xQ a0 a1 a2 := by simp [xP, xQ]
@[simp] theorem Av (a0 : Int) (a2 : List Yq) : ∀ (n : Nat) (v0 : Int) (v1 : Nat), K8 a0 a2 n v0 v1 = Kw a0 a2 n v0 v1 := by
  intro n
  induction n with
  | zero => intros; rfl
  | succ n ih => intros; simp [K8, Kw, ih, ByteArray.append_assoc]
@[simp] theorem LS (a0 : Int) (a1 : Int) (a2 : List Yq) : qy a0 a1 a2 = jE a0 a1 a2 := by simp [qy, jE]
@[simp] theorem vz (a0 : List Zy) (a1 : List ZF) (a2 : ZZ) : Ql a0 a1 a2 = Qi a0 a1 a2 := by
  simp [Ql, Qi, xx]
  cases h : decide (Yg a0 (nth a1 (Z4 a1 a2.Authority).toNat).Key < 0) <;> simp
@[simp] theorem LV (a0 : List Zy) (a1 : List ZF) (a2 : ZZ) : jX a0 a1 a2 = qx a0 a1 a2 := by simp [jX, qx]
@[simp] theorem OD (a0 : List Zy) (a1 : List ZF) (a2 : ZV) (a3 : Int) : yU a0 a1 a2 a3 = K7 a0 a1 a2 a3 := by
  rw [Bool.eq_iff_iff]
  unfold yU K7
  have hs : ∀ b : Bool, (bif b then false else (match zK a0 a1 a2 (a2.Zf.length + 1) 0 with | .inl r1 => r1 | .inr _ => true)) = true ↔ b = false ∧ _ := fun b => by
    cases b
    · exact (XL (L := zK a0 a1 a2) (fun _ => rfl) (fun _ _ => rfl) (a2.Zf.length + 1) 0 (by omega) true).trans (by simp only [true_and, and_true]; exact Iff.rfl)
    · simp
  have hi : ∀ b : Bool, (bif b then false else (match K0 a0 a1 a2 (a2.Zf.length + 1) 0 with | .inl r1 => r1 | .inr _ => true)) = true ↔ b = false ∧ _ := fun b => by
    cases b
    · exact (XL (L := K0 a0 a1 a2) (fun _ => rfl) (fun _ _ => rfl) (a2.Zf.length + 1) 0 (by omega) true).trans (by simp only [true_and, and_true]; exact Iff.rfl)
    · simp
  have hr : Yn a2.Zf = true ↔ _ := XL (L := QM a2.Zf) (fun _ => rfl) (fun _ _ => rfl) (a2.Zf.length + 1) 1 (by omega) true
  refine (hs _).trans (Iff.trans ?_ (hi _).symm)
  simp only [Bool.or_eq_false_iff, Bool.not_eq_false', ju, LS, LV, hr]
  constructor
  · rintro ⟨h1, h2⟩
    refine ⟨⟨h1, fun i hi hl => ?_, trivial⟩, fun i hz hi => ⟨(h2 i hz hi).1.1, (h2 i hz hi).2⟩⟩
    have := (h2 i (Nat.zero_le _) hl).1.2
    simpa [show (0 : Nat) < i by omega] using this
  · rintro ⟨⟨h1, h2, _⟩, h3⟩
    refine ⟨h1, fun i hz hi => ⟨⟨(h3 i hz hi).1, ?_⟩, (h3 i hz hi).2⟩⟩
    by_cases h0 : 0 < i
    · have := h2 i h0 hi; simpa [h0] using this
    · simp [h0]
@[simp] theorem wT (a0 : List Zg) (a1 : Int) : ∀ (n : Nat) (v0 : Nat), Ko a0 a1 n v0 = Kt a0 a1 n v0 := by
  intro n
  induction n with
  | zero => intros; rfl
  | succ n ih => intros; simp [Ko, Kt, ih, ByteArray.append_assoc]
@[simp] theorem vU (a0 : List Zg) (a1 : Int) : J8 a0 a1 = KJ a0 a1 := by simp [J8, KJ]
@[simp] theorem Ox (a0 : List Zg) (a1 : Int) : K3 a0 a1 = zI a0 a1 := by
  unfold K3 zI; rw [cond_neg]; simp
@[simp] theorem FC (a0 : List ZF) (a1 : ZZ) : Xf a0 a1 = XH a0 a1 := by
  unfold Xf XH; rw [cond_neg]; simp
@[simp] theorem Bj (a0 : List Zy) (a1 : List ZF) (a2 : List Zg) (a3 : ZV) : ∀ (n : Nat) (v0 : Int) (v1 : Nat), Kl a0 a1 a2 a3 n v0 v1 = K5 a0 a1 a2 a3 n v0 v1 := by
  intro n
  induction n with
  | zero => intros; rfl
  | succ n ih => intros; simp [Kl, K5, ih, ByteArray.append_assoc]
@[simp] theorem OQ (a0 : List Zy) (a1 : List ZF) (a2 : List Zg) (a3 : ZV) : zF a0 a1 a2 a3 = Kv a0 a1 a2 a3 := by simp [zF, Kv]
@[simp] theorem Hx (a0 : ZH) (a1 : ZK) (a2 : Int) (h : Sm maxLen a1) : kx a0 a1 a2 = qc a0 a1 a2 := by
  unfold kx qc XX
  rw [jx _ _ _ (Zx (ZK.Xo h))]
  simp only [ju, OQ]
theorem N3 (a0 : ZH) (a1 : ZK) (a2 : List Int) (hs : Sm maxLen a1) : ∀ (n v : Nat), v ≤ maxLen → KW a0 a1 a2 n v = Kg a0 a1 a2 n v := by
  intro n
  induction n with
  | zero => intros; rfl
  | succ n ih =>
    intro v hv
    rw [KW, Kg]
    by_cases h : 0 < v
    · have hw : W ((v : Int) - 1) = (v : Int) - 1 := YA (by omega) (by unfold maxLen at hv; omega)
      rw [show decide ((v : Int) > 0) = true by simpa using h, ih (v - 1) (by omega)]
      unfold PC XX
      rw [hw, show ((v : Int) - 1).toNat = v - 1 by omega]
      rw [jx _ _ _ (Zx (ZK.Xo hs)), Hx _ _ _ hs]
      simp only [cond_true, Bool.true_and, OD, BC]
      cases (JR a0.ZU (nth a1.ZM (v - 1)) a0.QK).2 <;> cases qc a0 a1 ((v : Int) - 1) <;> cases K7 a0.Yb a0.ZU (nth a1.ZM (v - 1)) (W2 a1 a2 ((v : Int) - 1)) <;> rfl
    · rw [show decide ((v : Int) > 0) = false by simpa using h]; rfl
@[simp] theorem Iv (a0 : ZH) (a1 : ZK) (a2 : List Int) (h : Sm maxLen a1) : J3 a0 a1 a2 = KN a0 a1 a2 := by
  unfold J3 KN
  rw [N3 a0 a1 a2 h _ _ (YH (ZK.Xo h))]
theorem Sy (a0 : ZH) (a1 : ZK) (a3 : Int) (h : Sm maxLen a1) : ∀ (n : Nat) (v0 v1 : Int), qK a0 a1 a3 n v0 v1 = qI a0 a1 a3 n v0 v1
  | 0, _, _ => rfl
  | n + 1, v0, v1 => by
    have ih := Sy a0 a1 a3 h n
    have hr : Xp a0.ZU (nth a1.ZM v1.toNat) a0.QK = XX a0 (nth a1.ZM v1.toNat) := by
      rw [jx _ _ _ (Zx (ZK.Xo h))]; rfl
    simp only [qK, qI, Ut, hr, ih]
theorem D7 (a0 : ZH) (a1 : ZK) (a2 : List Int) (a3 : Int) (h : Sm maxLen a1) : TJ a0 a1 a2 a3 = Un a0 a1 a2 a3 := by
  simp only [TJ, Un, Sy a0 a1 a3 h, Iv a0 a1 a2 h]
theorem LD (a0 : ZH) (a1 : ZK) (a2 : List Int) (a3 : ZB) (h : Sm maxLen a1) : xK a0 a1 a2 a3 = xM a0 a1 a2 a3 := by
  simp only [xK, xM, HV, D7 a0 a1 a2 _ h]
theorem Aw (a0 : ZH) (a1 : ZI) (a2 : List (List Int)) (a3 : ZB) : ∀ (n : Nat) (v0 : Int) (v1 : Nat), a2.length ≤ v1 → a1.ZL.length < n + v1 → v1 ≤ a1.ZL.length → Xj a0 a1 a2 a3 n v0 v1 = v0
  | 0, _, _, _, h1, h2 => by omega
  | n + 1, v0, v1, h0, h1, h2 => by
    simp only [Xj]
    rw [show decide ((v1 : Int) < (a2.length : Int)) = false by simp; omega]
    by_cases hv : v1 < a1.ZL.length
    · rw [show decide ((v1 : Int) < (a1.ZL.length : Int)) = true by simpa using hv]
      exact Aw a0 a1 a2 a3 n v0 (v1 + 1) (by omega) (by omega) hv
    · rw [show decide ((v1 : Int) < (a1.ZL.length : Int)) = false by simpa using hv]; rfl
theorem kV (a0 : ZH) (a1 : ZI) (a2 : List (List Int)) (a3 : ZB) (h : Sm maxLen a1) : ∀ (n : Nat) (v0 : Int) (v1 : Nat), a1.ZL.length < n + v1 → v1 ≤ a1.ZL.length → KE a0 a1 a2 a3 n v0 v1 = Xj a0 a1 a2 a3 n v0 v1
  | 0, _, _, _, _ => rfl
  | n + 1, v0, v1, h1, h2 => by
    simp only [KE, Xj, Ut, LD a0 _ _ a3 (Zx (ZI.YS h))]
    by_cases hv : v1 < a1.ZL.length
    · rw [show decide ((v1 : Int) < (a1.ZL.length : Int)) = true by simpa using hv]
      by_cases ha : v1 < a2.length
      · rw [show decide ((v1 : Int) < (a2.length : Int)) = true by simpa using ha]
        exact kV a0 a1 a2 a3 h n _ (v1 + 1) (by omega) hv
      · rw [show decide ((v1 : Int) < (a2.length : Int)) = false by simpa using ha]
        exact (Aw a0 a1 a2 a3 n v0 (v1 + 1) (by omega) (by omega) hv).symm
    · rw [show decide ((v1 : Int) < (a1.ZL.length : Int)) = false by simpa using hv]; rfl
theorem VO (a0 : ZH) (a1 : ZI) (a2 : List (List Int)) (a3 : ZB) (h : Sm maxLen a1) : Yf a0 a1 a2 a3 = YO a0 a1 a2 a3 := by
  simp only [Yf, YO, kV a0 a1 a2 a3 h (a1.ZL.length + 1) a0.Now 0 (by omega) (Nat.zero_le _)]
@[simp] theorem vB (a0 : ZB) : Y2 a0 = Zv a0 := by
  simp only [Y2, Zv, ju]
  cases (((↑a0.Zb.length : Int) == 0) || (!(ZS (nth a0.Zb 0) 101 105))) <;> simp
@[simp] theorem Hl (a0 : ZB) : XA a0 = Y0 a0 := by simp [XA, Y0]
@[simp] theorem MB (a0 : ZB) : X1 a0 = XZ a0 := by simp [X1, XZ]
@[simp] theorem M0 (a0 : ZB) : xD a0 = KO a0 := by simp [xD, KO]
@[simp] theorem I8 (a0 : ZB) : qh a0 = zX a0 := by simp [qh, zX]
@[simp] theorem Oy (a0 : ZB) : Qm a0 = Xm a0 := by simp [Qm, Xm]
@[simp] theorem Sb (a0 : List Zy) (a1 : ZB) : xU a0 a1 = JH a0 a1 := by
  unfold xU JH SJ
  simp only [Hl, MB, M0, I8, Oy, S5]
  have e1 : Zv a1 ≠ 101 → (Y0 a1).2 = false := fun h => by unfold Y0; rw [show (Zv a1 != 101) = true by simpa using h]; rfl
  have e2 : Zv a1 ≠ 102 → (XZ a1).2 = false := fun h => by unfold XZ; rw [show (Zv a1 != 102) = true by simpa using h]; rfl
  have e3 : Zv a1 ≠ 103 → (KO a1).2 = false := fun h => by unfold KO; rw [show (Zv a1 != 103) = true by simpa using h]; rfl
  have e4 : Zv a1 ≠ 104 → (zX a1).2 = false := fun h => by unfold zX; rw [show (Zv a1 != 104) = true by simpa using h]; rfl
  have e5 : Zv a1 ≠ 105 → (Xm a1).2 = false := fun h => by unfold Xm; rw [show (Zv a1 != 105) = true by simpa using h]; rfl
  by_cases h1 : Zv a1 = 101
  · rw [e2 (by omega), e3 (by omega), e4 (by omega), e5 (by omega), h1]; simp
  by_cases h2 : Zv a1 = 102
  · rw [e1 h1, e3 (by omega), e4 (by omega), e5 (by omega), h2]; simp
  by_cases h3 : Zv a1 = 103
  · rw [e1 h1, e2 h2, e4 (by omega), e5 (by omega), h3]; simp
  by_cases h4 : Zv a1 = 104
  · rw [e1 h1, e2 h2, e3 h3, e5 (by omega), h4]; simp
  by_cases h5 : Zv a1 = 105
  · rw [e1 h1, e2 h2, e3 h3, e4 h4, h5]; simp
  rw [e1 h1, e2 h2, e3 h3, e4 h4, e5 h5]
  simp [h1, h2, h3, h4, h5]
@[simp] theorem Af (a0 : ZB) (a1 : ZB) : ∀ (n : Nat) (v0 : Nat), z9 a0 a1 n v0 = Q5 a0 a1 n v0 := by
  intro n
  induction n with
  | zero => intros; rfl
  | succ n ih => intros; simp [z9, Q5, ih, ByteArray.append_assoc]
@[simp] theorem TN (a0 : ZB) (a1 : ZB) : xv a0 a1 = Yi a0 a1 := by simp [xv, Yi]
def PO : List Int → List Int → Bool → Bool
  | [], [], t => t
  | [], _ :: _, _ => true
  | _ :: _, [], _ => false
  | a :: as, b :: bs, t => bif a != b then decide (a < b) else PO as bs t
theorem ET : ∀ a t, PO a a t = t
  | [], _ => rfl
  | x :: a, t => by rw [PO, show (x != x) = false by simp]; exact ET a t
theorem I9 : ∀ {a b c : List Int} {t1 t2 t3 : Bool}, (t1 = true → t2 = true → t3 = true) → PO a b t1 = true → PO b c t2 = true → PO a c t3 = true
  | [], [], [], _, _, _, h, h1, h2 => h h1 h2
  | [], [], _ :: _, _, _, _, _, _, _ => rfl
  | [], _ :: _, [], _, _, _, _, _, h2 => by cases h2
  | [], _ :: _, _ :: _, _, _, _, _, _, _ => rfl
  | _ :: _, [], _, _, _, _, _, h1, _ => by cases h1
  | _ :: _, _ :: _, [], _, _, _, _, _, h2 => by cases h2
  | x :: a, y :: b, z :: c, _, _, _, h, h1, h2 => by
    simp only [PO] at h1 h2 ⊢
    by_cases e1 : x = y
    · subst e1
      rw [show (x != x) = false by simp, cond_false] at h1
      by_cases e2 : x = z
      · subst e2
        rw [show (x != x) = false by simp, cond_false] at h2 ⊢
        exact I9 h h1 h2
      · rw [show (x != z) = true by simpa using e2, cond_true] at h2 ⊢; exact h2
    · rw [show (x != y) = true by simpa using e1, cond_true] at h1
      by_cases e2 : y = z
      · subst e2
        rw [show (x != y) = true by simpa using e1, cond_true]; exact h1
      · rw [show (y != z) = true by simpa using e2, cond_true] at h2
        simp only [decide_eq_true_eq] at h1 h2
        rw [show (x != z) = true by simp; omega, cond_true]
        simp; omega
theorem BL : ∀ {a b : List Int} {t1 t2 : Bool}, PO a b t1 = false → PO b a t2 = false → a = b ∧ t1 = false ∧ t2 = false
  | [], [], _, _, h1, h2 => ⟨rfl, h1, h2⟩
  | [], _ :: _, _, _, h1, _ => by cases h1
  | _ :: _, [], _, _, _, h2 => by cases h2
  | x :: a, y :: b, _, _, h1, h2 => by
    simp only [PO] at h1 h2
    by_cases e1 : x = y
    · subst e1
      rw [show (x != x) = false by simp, cond_false] at h1 h2
      obtain ⟨e, k1, k2⟩ := BL h1 h2
      exact ⟨by rw [e], k1, k2⟩
    · rw [show (x != y) = true by simpa using e1, cond_true] at h1
      rw [show (y != x) = true by simp; omega, cond_true] at h2
      simp only [decide_eq_false_iff_not] at h1 h2
      omega
theorem CD (x y : ZB) (t : Bool) : ∀ (n i : Nat), x.Zb.length < n + i → i ≤ x.Zb.length → i ≤ y.Zb.length →
    (match Q5 x y n i with | .inl r1 => r1 | .inr _ => (bif ((↑x.Zb.length : Int) != (↑y.Zb.length : Int)) then (decide ((↑x.Zb.length : Int) < (↑y.Zb.length : Int))) else t)) = PO (x.Zb.drop i) (y.Zb.drop i) t
  | 0, i, h, h1, _ => by omega
  | n + 1, i, h, h1, h2 => by
    simp only [Q5]
    by_cases hx : i < x.Zb.length
    · by_cases hy : i < y.Zb.length
      · rw [show decide ((i : Int) < (x.Zb.length : Int)) = true by simpa using hx, show decide ((i : Int) < (y.Zb.length : Int)) = true by simpa using hy, jy hx, jy hy]
        simp only [Bool.and_true, cond_true, PO]
        cases (nth x.Zb i != nth y.Zb i) with
        | true => rfl
        | false => exact CD x y t n (i + 1) (by omega) hx hy
      · rw [show decide ((i : Int) < (y.Zb.length : Int)) = false by simpa using hy, jy hx, List.drop_eq_nil_of_le (as := y.Zb) (by omega)]
        simp only [Bool.and_false, cond_false, PO]
        rw [show ((x.Zb.length : Int) != (y.Zb.length : Int)) = true by simp; omega, cond_true]
        simp; omega
    · rw [show decide ((i : Int) < (x.Zb.length : Int)) = false by simpa using hx, List.drop_eq_nil_of_le (as := x.Zb) (by omega)]
      simp only [Bool.false_and, cond_false]
      by_cases hy : i < y.Zb.length
      · rw [jy hy, PO, show ((x.Zb.length : Int) != (y.Zb.length : Int)) = true by simp; omega, cond_true]
        simp; omega
      · rw [List.drop_eq_nil_of_le (as := y.Zb) (by omega), PO, show ((x.Zb.length : Int) != (y.Zb.length : Int)) = false by simp; omega]; rfl
def C3 (x y : ZB) : Bool := bif (x.Key != y.Key) then (decide (x.Key < y.Key)) else (decide (x.Mark < y.Mark))
theorem Pn (x y : ZB) : Yi x y = PO x.Zb y.Zb (C3 x y) := by
  have := CD x y (C3 x y) (x.Zb.length + 1) 0 (by omega) (Nat.zero_le _) (Nat.zero_le _)
  rw [List.drop_zero, List.drop_zero] at this
  exact this
theorem AG (x : ZB) : Yi x x = false := by rw [Pn, ET]; simp [C3]
theorem before_trans {x y z : ZB} (h1 : Yi x y = true) (h2 : Yi y z = true) : Yi x z = true := by
  rw [Pn] at h1 h2 ⊢
  refine I9 (fun k1 k2 => ?_) h1 h2
  unfold C3 at *
  by_cases e1 : x.Key = y.Key <;> by_cases e2 : y.Key = z.Key <;> by_cases e3 : x.Key = z.Key <;> simp [bne, e1, e2, e3] at k1 k2 ⊢ <;> (try simp_all) <;> omega
theorem AK {x y : ZB} (h1 : Yi x y = false) (h2 : Yi y x = false) : x = y := by
  rw [Pn] at h1 h2
  obtain ⟨e, k1, k2⟩ := BL h1 h2
  unfold C3 at k1 k2
  cases x; cases y
  simp only at e k1 k2
  subst e
  rename_i k _ m k' m'
  by_cases ek : k = k'
  · subst ek
    simp at k1 k2
    congr 1; omega
  · rw [show (k != k') = true by simpa using ek, cond_true] at k1
    rw [show (k' != k) = true by simp; omega, cond_true] at k2
    simp at k1 k2; omega
def UB (l : List ZB) : Prop := l.Pairwise (fun a b => Yi a b = true)
theorem CR {l : List ZB} (hs : UB l) {i j : Nat} (hij : i < j) (hj : j < l.length) : Yi (nth l i) (nth l j) = true := by
  have h1 := List.pairwise_iff_getElem.1 hs i j (by omega) hj hij
  rw [show nth l i = l[i] by simp [nth, List.getD_eq_getElem?_getD, List.getElem?_eq_getElem (show i < l.length by omega)], show nth l j = l[j] by simp [nth, List.getD_eq_getElem?_getD, List.getElem?_eq_getElem hj]]
  exact h1
theorem wF (l : List ZB) (p : ZB) : ∀ (n v : Nat), l.length < n + v → v ≤ l.length → v ≤ X4 l p n v ∧ X4 l p n v ≤ l.length ∧ (∀ k, v ≤ k → k < X4 l p n v → Yi (nth l k) p = true) ∧ (X4 l p n v < l.length → Yi (nth l (X4 l p n v)) p = false)
  | 0, v, h, h2 => by omega
  | n + 1, v, h, h2 => by
    simp only [X4, TN]
    by_cases hv : v < l.length
    · rw [show decide ((v : Int) < (l.length : Int)) = true by simpa using hv, Bool.true_and]
      cases hb : Yi (nth l v) p with
      | true =>
        obtain ⟨k1, k2, k3, k4⟩ := wF l p n (v + 1) (by omega) hv
        refine ⟨by simp only [cond_true]; omega, k2, fun k a b => ?_, k4⟩
        rcases Nat.eq_or_lt_of_le a with rfl | a
        · exact hb
        · exact k3 k a b
      | false => exact ⟨Nat.le_refl _, h2, fun k a b => by simp only [cond_false] at b; omega, fun _ => hb⟩
    · rw [show decide ((v : Int) < (l.length : Int)) = false by simpa using hv]
      exact ⟨Nat.le_refl _, h2, fun k a b => by simp only [Bool.false_and, cond_false] at b; omega, fun a => absurd a hv⟩
theorem sM (a1 : ZI) (v1 : Nat) (l : List ZB) (i : Nat) : ∀ (n v : Nat), JV a1 v1 l i n v = X4 l (nth (nth a1.ZL v1).ZT i) n v
  | 0, _ => rfl
  | n + 1, v => by simp only [JV, X4, TN, sM a1 v1 l i n]
theorem Ay (l : List ZB) (p : ZB) : XP l p = true ↔ ∃ k, k < l.length ∧ nth l k = p := by
  unfold XP
  refine Iff.trans (PG (L := zj l p) (len := l.length) (c := fun v => JU (nth l v) p) (fun _ => rfl) (fun _ _ => rfl) (l.length + 1) 0 (by omega)) ?_
  constructor
  · rintro ⟨i, _, h1, h2⟩
    exact ⟨i, h1, by simpa using h2⟩
  · rintro ⟨i, h1, h2⟩
    exact ⟨i, Nat.zero_le _, h1, by simpa using h2⟩
theorem put_eq {l : List ZB} (hs : UB l) (p : ZB) : z8 l p = (bif XP l p then l else (l.take (X4 l p (l.length + 1) 0) ++ [p]) ++ l.drop (X4 l p (l.length + 1) 0)) ∧ UB (z8 l p) := by
  obtain ⟨_, k2, k3, k4⟩ := wF l p (l.length + 1) 0 (by omega) (Nat.zero_le _)
  unfold z8
  generalize X4 l p (l.length + 1) 0 = z at k2 k3 k4 ⊢
  simp only [Uv]
  have hh : (decide ((z : Int) < (l.length : Int)) && decide (nth l z = p)) = XP l p := by
    rw [Bool.eq_iff_iff, Ay]
    simp only [Bool.and_eq_true, decide_eq_true_eq]
    constructor
    · rintro ⟨h1, h2⟩; exact ⟨z, by omega, h2⟩
    · rintro ⟨j, h1, h2⟩
      have hzj : ¬ j < z := fun hlt => by have := k3 j (Nat.zero_le _) hlt; rw [h2, AG] at this; cases this
      rcases Nat.eq_or_lt_of_le (Nat.le_of_not_lt hzj) with rfl | hlt
      · exact ⟨by omega, h2⟩
      · have h5 := CR hs hlt h1
        rw [h2, k4 (by omega)] at h5; cases h5
  rw [hh]
  cases hp : XP l p with
  | true => exact ⟨rfl, hs⟩
  | false =>
    refine ⟨rfl, ?_⟩
    have hno : ∀ k, k < l.length → nth l k ≠ p := fun k hk he => by
      have := (Ay l p).2 ⟨k, hk, he⟩
      rw [hp] at this; cases this
    have hsplit : UB (l.take z ++ l.drop z) := by rw [List.take_append_drop]; exact hs
    obtain ⟨q1, q2, q3⟩ := List.pairwise_append.1 hsplit
    have hleft : ∀ a ∈ l.take z, Yi a p = true := by
      intro a ha
      obtain ⟨k, hk, rfl⟩ := List.mem_iff_getElem.1 ha
      have hkz : k < z := by rw [List.length_take] at hk; omega
      have := k3 k (Nat.zero_le _) hkz
      rw [List.getElem_take]
      rwa [show nth l k = l[k] by simp [nth, List.getD_eq_getElem?_getD, List.getElem?_eq_getElem (show k < l.length by omega)]] at this
    have hright : ∀ b ∈ l.drop z, Yi p b = true := by
      by_cases hz : z < l.length
      · have hpz : Yi p (nth l z) = true := by
          cases hc : Yi p (nth l z) with
          | true => rfl
          | false => exact absurd (AK (k4 hz) hc) (hno z hz)
        rw [jy hz] at q2 ⊢
        intro b hb
        rcases List.mem_cons.1 hb with rfl | hb
        · exact hpz
        · exact before_trans hpz ((List.pairwise_cons.1 q2).1 b hb)
      · rw [List.drop_eq_nil_of_le (by omega)]; intro b hb; cases hb
    show UB ((l.take z ++ [p]) ++ l.drop z)
    rw [List.append_assoc]
    refine List.pairwise_append.2 ⟨q1, List.pairwise_cons.2 ⟨hright, q2⟩, fun a ha b hb => ?_⟩
    rcases List.mem_cons.1 (by simpa using hb) with rfl | hb
    · exact hleft a ha
    · exact q3 a ha b hb
theorem Cs {a0 : List Zy} {p : ZB} (h : JH a0 p = true) : 0 ≤ Yg a0 p.Key := by
  rw [← Sb] at h
  simp only [xU, Bool.and_eq_true, S5] at h
  have h2 := h.2
  unfold Xg xx at h2
  cases hc : decide (Yg a0 p.Key < 0) with
  | true => rw [hc] at h2; simp at h2
  | false => simpa using hc
theorem uM (a0 : ZH) (a1 : ZI) (a2 : List (List Int)) (v1 : Nat) (h : Sm maxLen a1) : ∀ (n : Nat) (l : List ZB) (i : Nat), UB l → XN a0 a1 a2 v1 n l i = Xe a0 a1 a2 v1 n l i ∧ UB (XN a0 a1 a2 v1 n l i)
  | 0, _, _, _ => ⟨rfl, List.Pairwise.nil⟩
  | n + 1, l, i, hs => by
    simp only [XN, Xe]
    cases decide ((i : Int) < ((nth a1.ZL v1).ZT.length : Int)) with
    | false => exact ⟨rfl, hs⟩
    | true =>
      simp only [cond_true, sM]
      generalize (nth (nth a1.ZL v1).ZT i) = p
      have hu : ku a0 a1 a2 p = !((!(JH a0.Yb p)) || decide (YO a0 a1 a2 p ≥ JJ a0 p.Key)) := by
        unfold ku JJ
        simp only [T7, Sb, Ox, VO a0 a1 a2 p h]
        cases hc : JH a0.Yb p with
        | false => simp
        | true =>
          have := Cs hc
          rw [show decide (Yg a0.Yb p.Key ≥ 0) = true by simpa using this, show decide (Yg a0.Yb p.Key < 0) = false by simp; omega]
          simp only [Bool.true_and, Bool.not_true, Bool.false_or, cond_false]
          rw [← decide_not]; simp
      rw [hu]
      obtain ⟨e, hs2⟩ := put_eq hs p
      cases hb : ((!(JH a0.Yb p)) || decide (YO a0 a1 a2 p ≥ JJ a0 p.Key)) with
      | true =>
        rw [Bool.or_assoc, hb, Bool.or_true]
        simp only [Bool.not_true, cond_false, cond_true]
        exact uM a0 a1 a2 v1 h n l (i + 1) hs
      | false =>
        rw [Bool.or_assoc, hb, Bool.or_false]
        simp only [Bool.not_false, cond_true]
        obtain ⟨r1, r2⟩ := uM a0 a1 a2 v1 h n (z8 l p) (i + 1) hs2
        refine ⟨?_, r2⟩
        rw [r1, e]
        cases XP l p with
        | true => rfl
        | false =>
          simp only [cond_false]
          congr 2
          exact (List.take_of_length_le (by rw [List.length_drop]; exact Nat.le_refl _)).symm
theorem si (a0 : ZH) (a1 : ZI) (a2 : List (List Int)) (h : Sm maxLen a1) : ∀ (n : Nat) (l : List ZB) (i : Nat), UB l → QN a0 a1 a2 n l i = QO a0 a1 a2 n l i
  | 0, _, _, _ => rfl
  | n + 1, l, i, hs => by
    simp only [QN, QO]
    cases decide ((i : Int) < (a1.ZL.length : Int)) with
    | false => rfl
    | true =>
      obtain ⟨r1, r2⟩ := uM a0 a1 a2 i h ((nth a1.ZL i).ZT.length + 1) l 0 hs
      simp only [cond_true]
      rw [si a0 a1 a2 h n _ _ r2, r1]
theorem NT (a0 : ZH) (a1 : ZI) (a2 : List (List Int)) (h : Sm maxLen a1) : Zl a0 a1 a2 = Zj a0 a1 a2 := si a0 a1 a2 h _ [] 0 List.Pairwise.nil
@[simp] theorem vp (a0 : ZH) (a1 : List ZB) (a2 : ZY) : ∀ (n : Nat) (v0 : Int) (v1 : Nat) (v2 : Int) (v3 : Int) (v4 : Int) (v5 : Int) (v6 : Int) (v7 : Int) (v8 : Int), qR a0 a1 a2 n v0 v1 v2 v3 v4 v5 v6 v7 v8 = qP a0 a1 a2 n v0 v1 v2 v3 v4 v5 v6 v7 v8 := by
  intro n
  induction n with
  | zero => intros; rfl
  | succ n ih => intros; simp [qR, qP, ih, ByteArray.append_assoc]
@[simp] theorem Da (a0 : ZH) (a1 : List ZB) (a2 : ZY) : Xw a0 a1 a2 = Xx a0 a1 a2 := by simp [Xw, Xx]
@[simp] theorem kj (a0 a1 : Int) : yH a0 a1 = if a1 > a0 then a1 else a0 := by
  unfold yH; by_cases h : a1 > a0 <;> simp [h]
theorem WT (a1 : List ZZ) : ∀ (n : Nat) (l : List Int) (i : Nat), Ky a1 n l i = Kr a1 n l i
  | 0, _, _ => rfl
  | n + 1, l, i => by simp only [Ky, Kr, WT a1 n]
@[simp] theorem OU (a0 : Int) (a1 : List ZZ) : Kq a0 a1 = Jp a0 a1 := by simp [Kq, Jp, wH, WT]
@[simp] theorem M7 (a0 : Int) (a1 : ZZ) : zm a0 a1 = QZ a0 a1 := by simp [zm, QZ]
def wy (l : List ZZ) (v : Nat) : Bool := decide ((v : Int) > 0) && decide ((nth l (v - 1)).Authority ≥ (nth l v).Authority)
def wu (a0 : ZH) (a1 : List ZB) (x : ZZ) : Bool := XP a1 (QZ (XH a0.ZU x) x)
def Ih (a0 : ZH) (a1 : List ZB) (l : List ZZ) : Nat → Nat → Bool
  | 0, _ => true
  | n + 1, v => bif decide ((v : Int) < (l.length : Int)) then ((!wy l v) && wu a0 a1 (nth l v)) && Ih a0 a1 l n (v + 1) else true
theorem EE (a0 : ZH) (a1 : List ZB) (l : List ZZ) : ∀ n v, l.length < n + v → (Ih a0 a1 l n v = true ↔ ∀ i, v ≤ i → i < l.length → wy l i = false ∧ wu a0 a1 (nth l i) = true)
  | 0, v, h => ⟨fun _ i h1 h2 => by omega, fun _ => rfl⟩
  | n + 1, v, h => by
    simp only [Ih]
    by_cases hv : v < l.length
    · rw [show decide ((v : Int) < (l.length : Int)) = true by simpa using hv]
      simp only [cond_true, Bool.and_eq_true, Bool.not_eq_true', EE a0 a1 l n (v + 1) (by omega)]
      constructor
      · rintro ⟨h1, h2⟩ i h3 h4
        rcases Nat.eq_or_lt_of_le h3 with rfl | h3
        · exact h1
        · exact h2 i h3 h4
      · intro h1
        exact ⟨h1 v (Nat.le_refl _) hv, fun i h3 h4 => h1 i (by omega) h4⟩
    · rw [show decide ((v : Int) < (l.length : Int)) = false by simpa using hv]
      exact ⟨fun _ i h1 h2 => by omega, fun _ => rfl⟩
theorem uK (a1 : List ZB) (p : ZB) : Rr a1 p = XP a1 p := by
  have : ∀ n v, VE a1 p n v = zj a1 p n v := by
    intro n
    induction n with
    | zero => intro v; rfl
    | succ n ih => intro v; simp only [VE, zj, ih, Uv, Ng]
  simp only [Rr, XP, this]
theorem wI (a0 : ZH) (a1 : List ZB) (l : List ZZ) : ∀ n s v, jU a0 a1 l n s v = bif Ih a0 a1 l n v then (match Xd a0.ZU l n s v with | .inl _ => .inl (0, false) | .inr z => .inr z) else .inl (0, false)
  | 0, s, v => rfl
  | n + 1, s, v => by
    simp only [jU, Xd, Ih, HK, M7, FC, uK]
    cases decide ((v : Int) < (l.length : Int)) with
    | false => rfl
    | true =>
      simp only [cond_true]
      rw [wI a0 a1 l n]
      rw [show (decide ((v : Int) > 0) && decide ((nth l (v - 1)).Authority ≥ (nth l v).Authority)) = wy l v from rfl, show XP a1 (QZ (XH a0.ZU (nth l v)) (nth l v)) = wu a0 a1 (nth l v) from rfl]
      cases (JP a0.ZU (nth l v)).2 <;> cases wy l v <;> cases wu a0 a1 (nth l v) <;> cases Ih a0 a1 l n (v + 1) <;> rfl
theorem Ae (l : List ZZ) : Yn l = true ↔ ∀ i, 1 ≤ i → i < l.length → decide ((nth l (i - 1)).Authority ≥ (nth l i).Authority) = false := by
  unfold Yn
  refine Iff.trans (XL (L := QM l) (len := l.length) (c := fun v => decide ((nth l (v - 1)).Authority ≥ (nth l v).Authority)) (fun _ => rfl) (fun _ _ => rfl) (l.length + 1) 1 (by omega) true) ?_
  simp
theorem sK (a0 : ZH) (a1 : ZI) (a2 : List ZB) (k : Nat) : ∀ n b v, (nth a1.Zp k).length < n + v → (Xn a0 a1 a2 k n b v = true ↔ b = true ∧ ∀ i, v ≤ i → i < (nth a1.Zp k).length → wu a0 a2 (nth (nth a1.Zp k) i) = true) ∨ n = 0
  | 0, _, _, _ => .inr rfl
  | n + 1, b, v, h => by
    left
    simp only [Xn]
    by_cases hv : v < (nth a1.Zp k).length
    · rw [show decide ((v : Int) < ((nth a1.Zp k).length : Int)) = true by simpa using hv, cond_true]
      rcases sK a0 a1 a2 k n (b && wu a0 a2 (nth (nth a1.Zp k) v)) (v + 1) (by omega) with e | e
      · refine Iff.trans e ?_
        rw [Bool.and_eq_true]
        constructor
        · rintro ⟨⟨h1, h2⟩, h3⟩
          refine ⟨h1, fun i h4 h5 => ?_⟩
          rcases Nat.eq_or_lt_of_le h4 with rfl | h4
          · exact h2
          · exact h3 i h4 h5
        · rintro ⟨h1, h2⟩
          exact ⟨⟨h1, h2 v (Nat.le_refl _) hv⟩, fun i h4 h5 => h2 i (by omega) h5⟩
      · omega
    · rw [show decide ((v : Int) < ((nth a1.Zp k).length : Int)) = false by simpa using hv, cond_false]
      exact ⟨fun hb => ⟨hb, fun i h1 h2 => by omega⟩, fun hb => hb.1⟩
theorem tr (a0 : ZH) (a1 : ZI) (a2 : List ZB) (k : Nat) : Ih a0 a2 (nth a1.Zp k) ((nth a1.Zp k).length + 1) 0 = (Yn (nth a1.Zp k) && Xn a0 a1 a2 k ((nth a1.Zp k).length + 1) true 0) := by
  rw [Bool.eq_iff_iff, Bool.and_eq_true, EE _ _ _ _ _ (by omega), Ae]
  rcases sK a0 a1 a2 k ((nth a1.Zp k).length + 1) true 0 (by omega) with e | e
  · rw [e]
    constructor
    · intro h
      refine ⟨fun i h1 h2 => ?_, rfl, fun i h1 h2 => (h i h1 h2).2⟩
      have := (h i (Nat.zero_le _) h2).1
      unfold wy at this
      rwa [show decide ((i : Int) > 0) = true by simp; omega, Bool.true_and] at this
    · rintro ⟨h1, _, h3⟩ i _ h5
      refine ⟨?_, h3 i (Nat.zero_le _) h5⟩
      unfold wy
      by_cases hi : 0 < i
      · rw [h1 i hi h5, Bool.and_false]
      · rw [show decide ((i : Int) > 0) = false by simp; omega]; rfl
  · omega
theorem Hp (a0 : List ZF) (l : List ZZ) : ∀ n s v r, Xd a0 l n s v = .inl r → r = (ZD.mk 0 0, false)
  | 0, _, _, _, h => by cases h
  | n + 1, s, v, r, h => by
    simp only [Xd] at h
    cases hc : decide ((v : Int) < (l.length : Int)) with
    | false => rw [hc] at h; cases h
    | true =>
      cases hb : (!(JP a0 (nth l v)).2) with
      | true => rw [hc, hb] at h; cases h; rfl
      | false => rw [hc, hb] at h; exact Hp a0 l n _ _ r h
theorem vx (a0 : ZH) (a1 : ZI) (a2 : List ZB) (k : Nat) (h : Sm maxLen a1) : Jr a0 a2 (nth a1.Zp k) = bif (Yn (nth a1.Zp k) && Xn a0 a1 a2 k ((nth a1.Zp k).length + 1) true 0) then ((Xt a0.ZU (nth a1.Zp k) a0.QK).1.YE, (Xt a0.ZU (nth a1.Zp k) a0.QK).2) else (0, false) := by
  unfold Jr Xt
  rw [wI, tr]
  cases (Yn (nth a1.Zp k) && Xn a0 a1 a2 k ((nth a1.Zp k).length + 1) true 0) with
  | false => rfl
  | true =>
    simp only [cond_true]
    cases hh : Xd a0.ZU (nth a1.Zp k) ((nth a1.Zp k).length + 1) [] 0 with
    | inl r => rw [Hp _ _ _ _ _ _ hh]
    | inr z =>
      simp only
      rw [Sg _ _ (Nat.le_trans (TT a0.ZU (nth a1.Zp k) _ _ 0 (by simp) (by omega) z hh) (YH (Zx (ZI.jV h))))]
theorem GH (a0 : ZH) (a1 : ZI) (a2 : List ZB) (a3 : ZY) (ha : (a3.yG == 0) = true) : ∀ (n : Nat) (x : Int) (v : Nat), a1.Zp.length < n + v → v ≤ a1.Zp.length → Xq a0 a1 a2 a3 n x v = x
  | 0, _, _, h1, h2 => by omega
  | n + 1, x, v, h1, h2 => by
    simp only [Xq]
    by_cases hv : v < a1.Zp.length
    · rw [show decide ((v : Int) < (a1.Zp.length : Int)) = true by simpa using hv, ha]
      exact GH a0 a1 a2 a3 ha n x (v + 1) (by omega) hv
    · rw [show decide ((v : Int) < (a1.Zp.length : Int)) = false by simpa using hv]; rfl
theorem Al (a0 : ZH) (a1 : ZI) (a2 : List ZB) (a3 : ZY) (h : Sm maxLen a1) : ∀ (n : Nat) (x : Int) (v : Nat), a1.Zp.length < n + v → v ≤ a1.Zp.length → X3 a0 a1 a2 a3 n x v = Xq a0 a1 a2 a3 n x v
  | 0, _, _, h1, h2 => by omega
  | n + 1, x, v, h1, h2 => by
    cases ha : (a3.yG == 0) with
    | true =>
      rw [GH a0 a1 a2 a3 ha (n + 1) x v h1 h2]
      simp only [X3, bne, ha, Bool.not_true, Bool.and_false, cond_false]
    | false =>
      simp only [X3, Xq, kj, OU]
      rw [show (a3.yG != 0) = true by simp only [bne, ha, Bool.not_false], ha, Bool.and_true, Bool.false_or]
      by_cases hv : v < a1.Zp.length
      · rw [show decide ((v : Int) < (a1.Zp.length : Int)) = true by simpa using hv]
        have ih := fun x => Al a0 a1 a2 a3 h n x (v + 1) (by omega) hv
        simp only [cond_true, ih, vx a0 a1 a2 v h]
        cases (Jp a3.Method (nth a1.Zp v) != a3.yG) with
        | true => simp only [cond_true, Bool.or_true]
        | false =>
          simp only [cond_false, Bool.or_false]
          cases Yn (nth a1.Zp v) with
          | false => rfl
          | true =>
            simp only [Bool.true_and, Bool.not_true, cond_false]
            cases Xn a0 a1 a2 v ((nth a1.Zp v).length + 1) true 0 with
            | false => rfl
            | true => rfl
      · rw [show decide ((v : Int) < (a1.Zp.length : Int)) = false by simpa using hv]; rfl
theorem wC (a0 : ZH) (a1 : ZI) (a2 : List ZB) (a3 : ZY) : ∀ (n : Nat) (x : Int) (v : Nat), KT a0 a1 a2 a3 n x v = X3 a0 a1 a2 a3 n x v
  | 0, _, _ => rfl
  | n + 1, x, v => by simp only [X3, KT, wC a0 a1 a2 a3 n]
theorem wV (a0 : ZH) (a1 : ZI) (a2 : List ZB) (k : Nat) : ∀ (n : Nat) (x : Bool) (v : Nat), xe a0 a1 a2 k n x v = Xn a0 a1 a2 k n x v
  | 0, _, _ => rfl
  | n + 1, x, v => by simp only [xe, Xn, wV a0 a1 a2 k n]
theorem Ax (a0 : ZH) (a1 : ZI) (a2 : List ZB) (a3 : ZY) : ∀ (n : Nat) (x : Int) (v : Nat), KU a0 a1 a2 a3 n x v = Xq a0 a1 a2 a3 n x v
  | 0, _, _ => rfl
  | n + 1, x, v => by simp only [KU, Xq, wV, Ax a0 a1 a2 a3 n]
theorem H7 (a0 : ZH) (a1 : ZI) (a2 : List ZB) (a3 : ZY) (h : Sm maxLen a1) : XW a0 a1 a2 a3 = XV a0 a1 a2 a3 := by
  simp only [XW, XV, T7, wC, Ax, Al a0 a1 a2 a3 h (a1.Zp.length + 1) _ 0 (by omega) (Nat.zero_le _)]
@[simp] theorem AX (a0 : List ZB) (a1 : Zs) : ∀ (n : Nat) (v0 : List Zo) (v1 : Nat), Q7 a0 a1 n v0 v1 = JD a0 a1 n v0 v1 := by
  intro n
  induction n with
  | zero => intros; rfl
  | succ n ih => intros; simp [Q7, JD, ih, ByteArray.append_assoc]
@[simp] theorem Nj (a0 : List ZB) (a1 : Zs) : Qb a0 a1 = Qc a0 a1 := by simp [Qb, Qc]
theorem OB (a0 : List Zo) (a1 : Int) : ∀ (n : Nat) (v0 v1 v2 : Int) (i : Nat), (yj a0 a1 n v0 v1 v2 i).2 = ye a0 a1 n v1 v2 i
  | 0, _, _, _, _ => rfl
  | n + 1, v0, v1, v2, i => by
    simp only [yj, ye, kj]
    cases decide ((i : Int) < (a0.length : Int)) with
    | false => rfl
    | true =>
      cases ((nth a0 i).Z1 != a1) with
      | true => exact OB a0 a1 n _ _ _ _
      | false =>
        simp only [cond_true, cond_false]
        rw [show decide ((nth a0 i).YX ≥ 0) = !decide ((nth a0 i).YX < 0) by rw [← decide_not]; simp]
        cases decide ((nth a0 i).YX < 0) with
        | true => exact OB a0 a1 n _ _ _ _
        | false =>
          simp only [cond_false, Bool.not_false, cond_true]
          cases (decide (v0 < 0) || decide ((nth a0 i).YX < v0)) <;> exact OB a0 a1 n _ _ _ _
@[simp] theorem Df (a0 : List Zo) (a1 : Int) : QG a0 a1 = XR a0 a1 := by
  unfold QG XR jJ
  have h := OB a0 a1 (a0.length + 1) (-1) (-1) (-1) 0
  rw [← h]
  simp only [kj]
theorem uF (l : List ZD) : ∀ (n : Nat) (v0 : List ZD) (v1 : Nat) (x y : Int), qL l n v0 v1 x y = zb l n v0 v1 x y
  | 0, _, _, _, _ => rfl
  | n + 1, v0, v1, x, y => by simp only [qL, zb, Ut, kj, uF l n]
theorem vj (l : List ZD) (x : Int) : ∀ (n v : Nat), TD l x n v = kS l x n v
  | 0, _ => rfl
  | n + 1, v => by simp only [TD, kS, vj l x n]
theorem uN (a0 : List ZD) : ∀ (n : Nat) (v0 : List ZD) (v1 : Nat), zQ a0 n v0 v1 = zc a0 n v0 v1
  | 0, _, _ => rfl
  | n + 1, v0, v1 => by
    simp only [zQ, zc, Tg, uF, vj, Vy, uN a0 n]
    cases decide ((v1 : Int) < (a0.length : Int)) <;> cases YF (nth a0 v1) <;> rfl
@[simp] theorem D3 (a0 : List ZD) : XK a0 = Y1 a0 := by simp only [XK, Y1, uN]
theorem sr (a : List ZD) (b c : Int) : Yv a b c = Ze b c a := by
  simp only [Yv, Ze, GZ]
  cases (Q0 b c).2 <;> rfl
@[simp] theorem tJ (a0 : Zs) (a1 : List Zo) : yn a0 a1 = yS a0 a1 := by
  simp only [yn, yS, sr, D3, Df]
@[simp] theorem tI (a0 : ZD) (a1 : ZD) : VB a0 a1 = qB a0 a1 := by simp [VB, qB]
@[simp] theorem Ao (a0 : List ZD) (a1 : ZD) : ∀ (n : Nat) (v0 : Nat), yw a0 a1 n v0 = K6 a0 a1 n v0 := by
  intro n
  induction n with
  | zero => intros; rfl
  | succ n ih => intros; simp [yw, K6, ih, ByteArray.append_assoc]
@[simp] theorem M5 (a0 : List ZD) (a1 : ZD) : z1 a0 a1 = QY a0 a1 := by simp [z1, QY]
@[simp] theorem Fg (a0 : Zs) (a1 : List Zo) (a2 : ZD) : VL a0 a1 a2 = VT a0 a1 a2 := by simp [VL, VT]
theorem R1 (a0 : List Zo) (a1 : Int) : ∀ (n : Nat) (v0 v1 v2 : Int) (i : Nat), ((yj a0 a1 n v0 v1 v2 i).1, (yj a0 a1 n v0 v1 v2 i).2.2) = JS a0 a1 n v0 v2 i
  | 0, _, _, _, _ => rfl
  | n + 1, v0, v1, v2, i => by
    simp only [yj, JS, kj]
    cases decide ((i : Int) < (a0.length : Int)) with
    | false => rfl
    | true =>
      cases ((nth a0 i).Z1 != a1) with
      | true => exact R1 a0 a1 n _ _ _ _
      | false =>
        simp only [cond_true, cond_false]
        cases decide ((nth a0 i).YX < 0) with
        | true => exact R1 a0 a1 n _ _ _ _
        | false =>
          simp only [cond_false]
          cases (decide (v0 < 0) || decide ((nth a0 i).YX < v0)) <;> exact R1 a0 a1 n _ _ _ _
@[simp] theorem GO (a0 : List Zo) (a1 : Int) : KB a0 a1 = yL a0 a1 := by
  unfold KB yL jJ
  have h := R1 a0 a1 (a0.length + 1) (-1) (-1) (-1) 0
  rw [← h]
theorem Sx (s : ZD) : YF s = true ↔ 0 ≤ s.YE ∧ s.YE ≤ s.To ∧ s.To ≤ 10000 := by
  simp [YF, J4, ZS]; omega
@[simp] theorem uG (a0 a1 : ZD) : J5 a0 a1 = QJ a0 a1 := by
  unfold J5 QJ
  simp only [Vy]
  cases h0 : YF a0 with
  | false => rfl
  | true =>
    cases h1 : YF a1 with
    | false => rfl
    | true =>
      rw [Sx] at h0 h1
      simp only [kj, Ut, Bool.not_true, Bool.or_false, Bool.false_or, cond_false]
      generalize hf : (if a1.YE > a0.YE then a1.YE else a0.YE) = f
      generalize ht : (if a1.To < a0.To then a1.To else a0.To) = t
      have hf' : 0 ≤ f ∧ f ≤ 10000 := by split at hf <;> omega
      have ht' : 0 ≤ t ∧ t ≤ 10000 := by split at ht <;> omega
      unfold XO
      simp only [kj, Ut]
      rw [show (if f > 0 then f else 0) = f by split <;> omega, show (if t < 10000 then t else 10000) = t by split <;> omega]
      by_cases hft : f ≤ t
      · rw [show decide (f > t) = false by simp; omega, show YF (ZD.mk f t) = true from (Sx _).2 ⟨hf'.1, hft, ht'.2⟩]; rfl
      · rw [show decide (f > t) = true by simp; omega, show YF (ZD.mk f t) = false by
          cases hs : YF (ZD.mk f t) with
          | false => rfl
          | true => rw [Sx] at hs; exact absurd hs.2.1 hft]
        rfl
@[simp] theorem uu (a0 : List ZD) (a1 : List ZD) (v1_1 : Nat) : ∀ (n : Nat) (v0 : List ZD) (v1 : Nat), qe a0 a1 v1_1 n v0 v1 = KF a0 a1 v1_1 n v0 v1 := by
  intro n
  induction n with
  | zero => intros; rfl
  | succ n ih => intros; simp [qe, KF, ih, ByteArray.append_assoc]
@[simp] theorem ua (a0 : List ZD) (a1 : List ZD) : ∀ (n : Nat) (v0 : List ZD) (v1 : Nat), ka a0 a1 n v0 v1 = qQ a0 a1 n v0 v1 := by
  intro n
  induction n with
  | zero => intros; rfl
  | succ n ih => intros; simp [ka, qQ, ih, ByteArray.append_assoc]
@[simp] theorem Ds (a0 : List ZD) (a1 : List ZD) : Wu a0 a1 = j7 a0 a1 := by simp [Wu, j7]
theorem Fp (c d : ZD) (h : YF d = false) : j7 [c] [d] = [] := by
  have hm : (QJ c d).2 = false := by unfold QJ; rw [h]; cases YF c <;> rfl
  have h2 : KF [c] [d] 0 2 [] 0 = [] := by
    show (bif true then (bif (QJ c d).2 then _ else KF [c] [d] 0 1 [] 1) else []) = []
    rw [hm]; rfl
  show Y1 (qQ [c] [d] 1 (KF [c] [d] 0 2 [] 0) 1) = []
  rw [h2]; rfl
@[simp] theorem uJ (a0 : Zs) (a1 : List Zo) : zY a0 a1 = zV a0 a1 := by
  simp only [zY, zV, GO, Ds, Fa]
  generalize yL a1 a0.Z1 = g
  unfold XO
  simp only [kj, Ut]
  by_cases h1 : g < 0
  · have hs : YF (ZD.mk 0 g) = false := by
      cases hc : YF (ZD.mk 0 g) with
      | false => rfl
      | true => rw [Sx] at hc; simp at hc; omega
    rw [Fp _ _ hs]
    rw [show decide ((if (0 : Int) > 0 then (0 : Int) else 0) > (if g < 10000 then g else 10000)) = true by simp; omega]
    rfl
  · by_cases h2 : g > 10000
    · have hs : YF (ZD.mk 0 g) = false := by
        cases hc : YF (ZD.mk 0 g) with
        | false => rfl
        | true => rw [Sx] at hc; simp at hc; omega
      rw [Fp _ _ hs, show decide (g > 10000) = true by simpa using h2, Bool.or_true]; rfl
    · rw [show decide (g > 10000) = false by simpa using h2, show (if g < 10000 then g else 10000) = g by split <;> omega, show decide ((if (0 : Int) > 0 then (0 : Int) else 0) > g) = false by simp; omega]
      rfl
@[simp] theorem LK (a0 : Zs) (a1 : List Zo) (a2 : ZD) : jR a0 a1 a2 = jA a0 a1 a2 := by simp [jR, jA]
@[simp] theorem Ap (a0 : List ZB) : ∀ (n : Nat) (v0 : List Zr) (v1 : Nat), Js a0 n v0 v1 = Je a0 n v0 v1 := by
  intro n
  induction n with
  | zero => intros; rfl
  | succ n ih => intros; simp [Js, Je, ih, ByteArray.append_assoc]
@[simp] theorem Lk (a0 : List ZB) : z3 a0 = zs a0 := by simp [z3, zs]
@[simp] theorem uy (a0 : Zr) : kX a0 = kb a0 := by simp [kX, kb]
@[simp] theorem wz (a0 : Zr) : Qh a0 = QX a0 := by simp [Qh, QX]
@[simp] theorem wB (a0 : List Zy) (a1 : Zr) : ya a0 a1 = yz a0 a1 := by simp [ya, yz]
@[simp] theorem Bm (a0 : List Zy) (a1 : List Zr) (a2 : Int) (a3 : Int) : ∀ (n : Nat) (v0 : List ZD) (v1 : Nat), QW a0 a1 a2 a3 n v0 v1 = QS a0 a1 a2 a3 n v0 v1 := by
  intro n
  induction n with
  | zero => intros; rfl
  | succ n ih => intros; simp [QW, QS, ih, ByteArray.append_assoc]
@[simp] theorem Oq (a0 : List Zy) (a1 : List Zr) (a2 : Int) (a3 : Int) : Jk a0 a1 a2 a3 = Qk a0 a1 a2 a3 := by simp [Jk, Qk]
theorem CY (l : List ZD) (s : ZD) (h : QY l s = true) : YF s = true := by
  unfold QY at h
  obtain ⟨i, _, _, h3⟩ := (PG (L := K6 l s) (len := (Y1 l).length) (c := fun v => qB s (nth (Y1 l) v)) (fun _ => rfl) (fun _ _ => rfl) ((Y1 l).length + 1) 0 (by omega)).1 h
  unfold qB at h3
  simp only [Bool.and_eq_true] at h3
  exact h3.1.1.1
@[simp] theorem IE (a0 : List Zy) (a1 : List Zr) (a2 a3 : Int) (a4 : ZD) : jM a0 a1 a2 a3 a4 = jT a0 a1 a2 a3 a4 := by
  simp only [jM, jT, Vy, M5, Oq]
  cases (a2 == 0) with
  | false => rfl
  | true =>
    simp only [cond_true, Bool.true_and]
    cases hc : QY (Qk a0 a1 a2 a3) a4 with
    | false => simp
    | true => rw [CY _ _ hc]; rfl
theorem Of (a0 : ZH) (a1 : ZI) (a2 : List (List Int)) (a3 : Int) (a4 : ZY) (h : Sm maxLen a1) : y2 a0 a1 a2 a3 a4 = yX a0 a1 a2 a3 a4 := by
  unfold y2 yX jl
  simp only [OW, NX, T7, PQ, NT a0 a1 a2 h, VO a0 a1 a2 _ h, H7 a0 a1 _ a4 h, Ox, HH, Da, Fg, Nj, LK, IE, Lk]
  cases jk a0 with
  | false => rfl
  | true =>
    cases Kf a4 with
    | false => rfl
    | true =>
      cases decide (a3 < 0) with
      | true => rfl
      | false =>
        cases (a3 != a4.Yo) with
        | true => rfl
        | false =>
          cases hk : decide (Yg a0.Yb a4.Key < 0) with
          | true => rfl
          | false =>
            cases JW a0.Yb a4 with
            | false => rfl
            | true =>
              rw [show JJ a0 a4.Key = zI a0.Methods (nth a0.Yb (Yg a0.Yb a4.Key).toNat).Method by unfold JJ; rw [hk]; rfl]
              rfl
theorem Bz (a0 : ZH) (a1 : ZI) (a2 : Zd) (a3 : ZY) (h : Sm maxLen a1) : NG a0 a1 a2 a3 = OT a0 a1 a2 a3 := by
  simp only [NG, OT, P6, I4, Of a0 a1 _ _ a3 h]
theorem IZ (a0 : ZH) (a1 : Zt) (h : Sm maxLen a1) : ki a0 a1 = kR a0 a1 := by
  simp only [ki, kR, OJ]
  refine Bz _ _ _ _ ⟨⟨Nat.le_of_ble_eq_true rfl, fun x hx => ?_⟩, ⟨Nat.zero_le _, fun x hx => by cases hx⟩⟩
  rcases List.mem_cons.1 hx with rfl | hx
  · exact Zt.Y8 h
  · cases hx
@[simp] theorem NY (a0 : Zi) (a1 : Int) (h : Sm maxLen a0) : Qf a0 a1 = KZ a0 a1 := by
  simp only [Qf, KZ, Cz]
  rw [IZ _ _ (Zx (Zc.Ra (Zx (Zi.V8 h))))]
@[simp] theorem SX (a0 : Zi) (h : Sm maxLen a0) : XE a0 = Y5 a0 := by
  rw [Vp, UL, W5, List.flatMap_assoc]
  simp only [NY a0 _ h]
@[simp] theorem MP (a0 : Zi) (h : Sm maxLen a0) : xg a0 = xm a0 := by
  have hl : ∀ n v i, J1 a0 n v i = J0 a0 n v i := by
    intro n
    induction n with
    | zero => intros; rfl
    | succ n ih => intro v i; simp [J1, J0, ih, SX a0 h]
  simp only [xg, xm, hl, SX a0 h]
@[simp] theorem tq (a0 : Zi) (h : Sm maxLen a0) : Uu a0 = TU a0 := by
  simp [Uu, TU, MP a0 h]
end Go.Mo
