/- The models of the program and of the reference agree. No condition. -/
import Derived.Test.YthjkhlcbpfnobaaGreatL
namespace Go.Mo
open Go.Vm
set_option linter.unusedSimpArgs false
set_option linter.unusedVariables false
theorem cond_neg (x : Int) {α : Type} (a b : α) : (bif decide (x < 0) then a else b) = (bif decide (0 <= x) then b else a) := by
  by_cases h : x < 0
  · rw [show decide (x < 0) = true by simpa using h, show decide (0 <= x) = false by simpa using h]; rfl
  · rw [show decide (x < 0) = false by simpa using h, show decide (0 <= x) = true by simp; omega]; rfl
/-- a loop that looks whether one of the places is bad -/
theorem Dm {L : Nat -> Nat -> Sum Bool Unit} {len : Nat} {c : Nat -> Bool} (h0 : ∀ v, L 0 v = .inr ()) (hs : ∀ n v, L (n + 1) v = (bif decide ((v : Int) < (len : Int)) then (bif c v then .inl false else L n (v + 1)) else .inr ())) :
    ∀ n v, len < n + v -> (L n v = .inr () /\ ∀ i, v <= i -> i < len -> c i = false) \/ (L n v = .inl false /\ ∃ i, v <= i /\ i < len /\ c i = true)
  | 0, v, h => .inl ⟨h0 v, fun i h1 h2 => by omega⟩
  | n + 1, v, h => by
    rw [hs]
    by_cases hv : v < len
    · rw [show decide ((v : Int) < (len : Int)) = true by simpa using hv]
      cases hc : c v with
      | true => exact .inr ⟨rfl, v, Nat.le_refl _, hv, hc⟩
      | false =>
        rcases Dm h0 hs n (v + 1) (by omega) with ⟨e, k⟩ | ⟨e, i, k1, k2, k3⟩
        · refine .inl ⟨e, fun i h1 h2 => ?_⟩
          rcases Nat.eq_or_lt_of_le h1 with rfl | h1
          · exact hc
          · exact k i h1 h2
        · exact .inr ⟨e, i, by omega, k2, k3⟩
    · rw [show decide ((v : Int) < (len : Int)) = false by simpa using hv]
      exact .inl ⟨rfl, fun i h1 h2 => by omega⟩
/-- a loop that looks for the first place -/
theorem Kd {β : Type} {L : Nat -> Nat -> Sum β Unit} {len : Nat} {c : Nat -> Bool} {r : Nat -> β} (h0 : ∀ v, L 0 v = .inr ()) (hs : ∀ n v, L (n + 1) v = (bif decide ((v : Int) < (len : Int)) then (bif c v then .inl (r v) else L n (v + 1)) else .inr ())) :
    ∀ n v, len < n + v -> (L n v = .inr () /\ ∀ i, v <= i -> i < len -> c i = false) \/ (∃ i, L n v = .inl (r i) /\ v <= i /\ i < len /\ c i = true /\ ∀ k, v <= k -> k < i -> c k = false)
  | 0, v, h => .inl ⟨h0 v, fun i h1 h2 => by omega⟩
  | n + 1, v, h => by
    rw [hs]
    by_cases hv : v < len
    · rw [show decide ((v : Int) < (len : Int)) = true by simpa using hv]
      cases hc : c v with
      | true => exact .inr ⟨v, rfl, Nat.le_refl _, hv, hc, fun k h1 h2 => by omega⟩
      | false =>
        rcases Kd h0 hs n (v + 1) (by omega) with ⟨e, k⟩ | ⟨i, e, k1, k2, k3, k4⟩
        · refine .inl ⟨e, fun i h1 h2 => ?_⟩
          rcases Nat.eq_or_lt_of_le h1 with rfl | h1
          · exact hc
          · exact k i h1 h2
        · refine .inr ⟨i, e, by omega, k2, k3, fun k h1 h2 => ?_⟩
          rcases Nat.eq_or_lt_of_le h1 with rfl | h1
          · exact hc
          · exact k4 k h1 h2
    · rw [show decide ((v : Int) < (len : Int)) = false by simpa using hv]
      exact .inl ⟨rfl, fun i h1 h2 => by omega⟩
/-- the same, as a Boolean -/
theorem Xx {L : Nat -> Nat -> Sum Bool Unit} {len : Nat} {c : Nat -> Bool} (h0 : ∀ v, L 0 v = .inr ()) (hs : ∀ n v, L (n + 1) v = (bif decide ((v : Int) < (len : Int)) then (bif c v then .inl false else L n (v + 1)) else .inr ())) (n v : Nat) (h : len < n + v) (X : Bool) :
    (match L n v with | .inl r => r | .inr _ => X) = true ↔ (∀ i, v <= i -> i < len -> c i = false) /\ X = true := by
  rcases Dm h0 hs n v h with ⟨e, k⟩ | ⟨e, i, k1, k2, k3⟩
  · rw [e]; simp only; exact ⟨fun hx => ⟨k, hx⟩, fun hx => hx.2⟩
  · rw [e]; simp only
    constructor
    · intro hx; cases hx
    · intro hx; rw [hx.1 i k1 k2] at k3; cases k3
theorem RS {L : Nat -> Nat -> Sum Bool Unit} {len : Nat} {c : Nat -> Bool} (h0 : ∀ v, L 0 v = .inr ()) (hs : ∀ n v, L (n + 1) v = (bif decide ((v : Int) < (len : Int)) then (bif c v then .inl true else L n (v + 1)) else .inr ())) (n v : Nat) (h : len < n + v) :
    (match L n v with | .inl r => r | .inr _ => false) = true ↔ ∃ i, v <= i /\ i < len /\ c i = true := by
  rcases Kd (r := fun _ => true) h0 hs n v h with ⟨e, k⟩ | ⟨i, e, k1, k2, k3, k4⟩
  · rw [e]; simp only
    constructor
    · intro hx; cases hx
    · rintro ⟨i, h1, h2, h3⟩; rw [k i h1 h2] at h3; cases h3
  · rw [e]; exact ⟨fun _ => ⟨i, k1, k2, k3⟩, fun _ => rfl⟩
theorem DU {α : Type} [Inhabited α] {l : List α} {i n : Nat} (h : i < n) : nth (l.take n) i = nth l i := by
  unfold nth; simp [List.getD_eq_getElem?_getD, List.getElem?_take, h]
theorem qj {α β : Type} [Inhabited α] [Inhabited β] {f : α -> β} {l : List α} {i : Nat} (h : i < l.length) : nth (l.map f) i = f (nth l i) := by
  simp [nth, List.getD_eq_getElem?_getD, List.getElem?_eq_getElem h]
@[simp] theorem sD (a0 a1 : Int) : qM a0 a1 = if a1 < a0 then a1 else a0 := by
  unfold qM; by_cases h : a1 < a0 <;> simp [h]
@[simp] theorem W2 (a0 a1 a2 : Int) : Yg a0 a1 a2 = Zc a0 a1 a2 := rfl
@[simp] theorem Ap (a0 : ZJ) (a1 : Int) : ∀ (n : Nat) (v0 : Nat), qG a0 a1 n v0 = Qc a0 a1 n v0 := by
  intro n
  induction n with
  | zero => intros; rfl
  | succ n ih => intros; simp [qG, Qc, ih, ByteArray.append_assoc]
@[simp] theorem Hw (a0 : ZJ) (a1 : Int) : Y8 a0 a1 = Zm a0 a1 := by simp [Y8, Zm]
@[simp] theorem vd (a0 : ZG) (a1 : Int) : ∀ (n : Nat) (v0 : Nat), xS a0 a1 n v0 = Jl a0 a1 n v0 := by
  intro n
  induction n with
  | zero => intros; rfl
  | succ n ih => intros; simp [xS, Jl, ih, ByteArray.append_assoc]
@[simp] theorem Sb (a0 : ZG) (a1 : Int) : ZO a0 a1 = ZF a0 a1 := by simp [ZO, ZF]
@[simp] theorem B0 (a0 : ZS) : QX a0 = Y2 a0 := by
  simp only [QX, Y2, W2]
  cases (((a0.YV.length : Int) == 0) || (!(Zc (nth a0.YV 0) 101 105))) <;> simp
@[simp] theorem HN (a0 : ZS) : Zt a0 = XE a0 := by simp [Zt, XE]
@[simp] theorem Aq (a0 : List Yb) (a1 : Int) : ∀ (n : Nat) (v0 : Nat), qD a0 a1 n v0 = yP a0 a1 n v0 := by
  intro n
  induction n with
  | zero => intros; rfl
  | succ n ih => intros; simp [qD, yP, ih, ByteArray.append_assoc]
@[simp] theorem Hv (a0 : List Yb) (a1 : Int) : YP a0 a1 = Xn a0 a1 := by simp [YP, Xn]
@[simp] theorem vP (a0 : List Yp) (a1 : Int) : ∀ (n : Nat) (v0 : Nat), q9 a0 a1 n v0 = jC a0 a1 n v0 := by
  intro n
  induction n with
  | zero => intros; rfl
  | succ n ih => intros; simp [q9, jC, ih, ByteArray.append_assoc]
@[simp] theorem Wm (a0 : List Yp) (a1 : Int) : YA a0 a1 = Zu a0 a1 := by simp [YA, Zu]
@[simp] theorem Bw (a0 : List Z5) (a1 : Int) : ∀ (n : Nat) (v0 : Nat), zl a0 a1 n v0 = zh a0 a1 n v0 := by
  intro n
  induction n with
  | zero => intros; rfl
  | succ n ih => intros; simp [zl, zh, ih, ByteArray.append_assoc]
@[simp] theorem Au (a0 : List Z5) (a1 : Int) : Xt a0 a1 = K7 a0 a1 := by simp [Xt, K7]
@[simp] theorem uB (a0 : List Z5) (a1 : Int) : TC a0 a1 = Ky a0 a1 := by
  unfold TC Ky; rw [cond_neg]; simp
@[simp] theorem GD (a0 : ZW) (a1 : Int) : kD a0 a1 = QF a0 a1 := by
  unfold kD QF JH
  by_cases h : Zu a0.Zo a1 < 0
  · have : ¬ 0 <= Zu a0.Zo a1 := by omega
    simp [this]
  · simp [h]
@[simp] theorem Aj (a0 : Zr) : Jp a0 = JN a0 := by simp [Jp, JN]
@[simp] theorem tq (a0 : Int) (a1 : Int) : DB a0 a1 = DR a0 a1 := by simp [DB, DR]
@[simp] theorem u4 (a0 : List Int) : ∀ (n : Nat) (v0 : Int) (v1 : Nat), SD a0 n v0 v1 = RP a0 n v0 v1 := by
  intro n
  induction n with
  | zero => intros; rfl
  | succ n ih => intros; simp [SD, RP, ih, ByteArray.append_assoc]
@[simp] theorem th (a0 : List Int) : Nl a0 = NN a0 := by simp [Nl, NN]
@[simp] theorem wA (a0 : Int) (a1 : List Int) : yG a0 a1 = WL a0 a1 := by simp [yG, WL]
@[simp] theorem vc (a0 : Yp) (a1 : List Int) : xR a0 a1 = Vs a0 a1 := by simp [xR, Vs]
@[simp] theorem uz (a0 : Int) : WG a0 = JL a0 := rfl
@[simp] theorem vY (a0 : Zr) : kQ a0 = Vn a0 := by simp [kQ, Vn]
@[simp] theorem Ld (a0 : List Yp) (a1 : Zr) : XB a0 a1 = YH a0 a1 := by
  by_cases h : Zu a0 a1.Z6 < 0 <;> simp [XB, YH, J0, h]
theorem Nj {a0 : List Yp} {a1 : Zr} (h : (YH a0 a1).2 = true) : 0 <= Zu a0 a1.Z6 := by
  have := Zd (a0 := a0) (a1 := a1) (by simpa using h)
  simpa using this
@[simp] theorem Nb (a0 : Zr) : Xc a0 = Yl a0 := by simp [Xc, Yl]
@[simp] theorem j7 (a0 a1 : List Int) : K5 a0 a1 = decide (a0 = a1) := Mc (F := kj a0 a1) (c := fun i => (nth a0 i) != (nth a1 i)) (fun i => by simp [bne, Bool.beq_eq_decide_eq]) (fun _ => rfl) (fun _ _ => rfl)
@[simp] theorem vM (a0 a1 : List Int) : V8 a0 a1 = decide (a0 = a1) := Mc (F := kd a0 a1) (c := fun i => (nth a0 i) != (nth a1 i)) (fun i => by simp [bne, Bool.beq_eq_decide_eq]) (fun _ => rfl) (fun _ _ => rfl)
@[simp] theorem kN (a0 a1 : ZS) : XM a0 a1 = decide (a0 = a1) := by
  obtain ⟨t, p, s⟩ := a0; obtain ⟨t', p', s'⟩ := a1
  by_cases h1 : t = t' <;> by_cases h2 : p = p' <;> by_cases h3 : s = s' <;> simp_all [XM]
@[simp] theorem Ac (a0 a1 : ZS) : y2 a0 a1 = decide (a0 = a1) := by
  obtain ⟨t, p, s⟩ := a0; obtain ⟨t', p', s'⟩ := a1
  by_cases h1 : t = t' <;> by_cases h2 : p = p' <;> by_cases h3 : s = s' <;> simp_all [y2]
theorem Ty (a0 : ZQ) {k : Nat} (hk : k < a0.ZM.length) : decide (yH a0 (nth a0.ZM k) < (k : Int)) = Qz (a0.ZM.take k) (nth a0.ZM k) := by
  rw [Bool.eq_iff_iff]
  have hi : Qz (a0.ZM.take k) (nth a0.ZM k) = true ↔ _ := RS (L := jW (a0.ZM.take k) (nth a0.ZM k)) (fun _ => rfl) (fun _ _ => rfl) _ 0 (by omega)
  rw [hi]
  unfold yH
  have hl : (a0.ZM.take k).length = k := by simp; omega
  rw [hl]
  rcases Kd (L := yz a0 (nth a0.ZM k)) (r := fun i => (i : Int)) (fun _ => rfl) (fun _ _ => rfl) (a0.ZM.length + 1) 0 (by omega) with ⟨e, p⟩ | ⟨i, e, p1, p2, p3, p4⟩
  · have := p k (Nat.zero_le _) hk
    simp at this
  · rw [e]
    simp only [decide_eq_true_eq]
    constructor
    · intro h
      exact ⟨i, Nat.zero_le _, by omega, by rw [DU (by omega)]; simpa using p3⟩
    · rintro ⟨j, _, hj, hc⟩
      rw [DU hj] at hc
      rcases Nat.lt_or_ge j i with h | h
      · have := p4 j (Nat.zero_le _) h; simp at this hc; exact absurd hc this
      · omega
@[simp] theorem vZ (a0 : ZQ) : yf a0 = Ye a0 := by
  rw [Bool.eq_iff_iff]
  have hs : yf a0 = true ↔ _ := (Xx (L := xu a0) (fun _ => rfl) (fun _ _ => rfl) (a0.ZM.length + 1) 0 (by omega) _).trans (and_congr_right fun _ => Xx (L := xx a0) (fun _ => rfl) (fun _ _ => rfl) (a0.ZR.length + 1) 0 (by omega) _)
  rw [hs]
  unfold Ye
  have hi : ∀ b : Bool, (bif b then false else (match yb a0 (a0.ZM.length + 1) 0 with | .inl r1 => r1 | .inr _ => (match yN a0 (a0.ZR.length + 1) 0 with | .inl r2 => r2 | .inr _ => true))) = true ↔ b = false /\ _ := fun b => by
    cases b
    · exact ((Xx (L := yb a0) (fun _ => rfl) (fun _ _ => rfl) (a0.ZM.length + 1) 0 (by omega) _).trans (and_congr_right fun _ => Xx (L := yN a0) (fun _ => rfl) (fun _ _ => rfl) (a0.ZR.length + 1) 0 (by omega) true)).trans (by simp only [true_and, and_true]; exact Iff.rfl)
    · simp
  refine Iff.trans ?_ (hi _).symm
  simp only [W2, Bool.or_eq_false_iff, Bool.not_eq_false', Bool.and_eq_true, Bool.not_eq_eq_eq_not, Bool.not_false]
  constructor
  · rintro ⟨h1, h2, h3, h4⟩
    exact ⟨⟨h3, by simpa using h4⟩, fun i hz hi => by rw [<- Ty a0 hi]; exact h1 i hz hi, fun i hz hi => by simpa using h2 i hz hi⟩
  · rintro ⟨⟨h3, h4⟩, h1, h2⟩
    exact ⟨fun i hz hi => by rw [Ty a0 hi]; exact h1 i hz hi, fun i hz hi => by simpa using h2 i hz hi, h3, by simpa using h4⟩
@[simp] theorem vf (a0 : ZQ) (a1 : ZS) : Kl a0 a1 = Xf a0 a1 := by simp [Kl, Xf]
@[simp] theorem Im (a0 : ZJ) (a1 : Int) (a2 : ZS) : QO a0 a1 a2 = Yu a0 a1 a2 := by simp [QO, Yu]
theorem Rf {α : Type} [Inhabited α] (l : List α) (i : Nat) : l.set i (nth l i) = l := by
  rcases Nat.lt_or_ge i l.length with h | h
  · simp [nth, List.getD_eq_getElem?_getD, List.getElem?_eq_getElem h]
  · exact List.set_eq_of_length_le h
theorem L0 {a0 : ZJ} {a1 : Int} {a2 : ZS} (h : (Yu a0 a1 a2).2 = false) : (Yu a0 a1 a2).1 = a0 := by
  unfold Yu at h ⊢
  cases hf : decide (Zm a0 a1 < 0) with
  | true => rfl
  | false =>
    rw [hf] at h
    simp only [cond_false] at h ⊢
    have hp : (Xf (nth a0.ZD (Zm a0 a1).toNat).ZP a2).1 = (nth a0.ZD (Zm a0 a1).toNat).ZP := by
      unfold Xf at h ⊢
      cases hs : (!(Ye (ZQ.mk ((nth a0.ZD (Zm a0 a1).toNat).ZP.ZM ++ ([a2] : List ZS)) (nth a0.ZD (Zm a0 a1).toNat).ZP.ZR))) with
      | true => rfl
      | false => rw [hs] at h; cases h
    rw [hp, show Zj.mk (nth a0.ZD (Zm a0 a1).toNat).Id (nth a0.ZD (Zm a0 a1).toNat).XI (nth a0.ZD (Zm a0 a1).toNat).Doc (nth a0.ZD (Zm a0 a1).toNat).Sig (nth a0.ZD (Zm a0 a1).toNat).ZP = nth a0.ZD (Zm a0 a1).toNat from rfl, Rf]
theorem Ab (a0 : ZG) (i id : Int) (st : Zr) : (bif (YH a0.Frame.Zo st).2 then ((ZG.mk a0.Frame a0.ZZ a0.YQ (a0.ZB.set i.toNat (Yu (nth a0.ZB i.toNat) id (Yl (YH a0.Frame.Zo st).1)).1) a0.YZ a0.YR a0.Next a0.YK), (Yu (nth a0.ZB i.toNat) id (Yl (YH a0.Frame.Zo st).1)).2) else (a0, false)) = Xe a0 i id st := by
  unfold Xe
  cases hm : (YH a0.Frame.Zo st).2 with
  | false => rfl
  | true =>
    cases ha : (Yu (nth a0.ZB i.toNat) id (Yl (YH a0.Frame.Zo st).1)).2 with
    | true => rfl
    | false => rw [L0 ha, Rf]; rfl
theorem GX (l : List Yb) (s : Int) (h : 0 <= Xn l s) : (nth l (Xn l s).toNat).Zn = s := by
  unfold Xn at h ⊢
  rcases Kd (β := Int) (L := yP l s) (len := l.length) (c := fun v => (nth l v).Zn == s) (r := fun v => (v : Int)) (fun _ => rfl) (fun _ _ => rfl) (l.length + 1) 0 (by omega) with ⟨e, _⟩ | ⟨i, e, _, _, hc, _⟩
  · rw [e] at h; simp at h
  · rw [e]; simpa using hc
theorem Ds {a b c : Bool} : ((!(a && b)) || c) = ((!a || !b) || c) := by cases a <;> cases b <;> rfl
@[simp] theorem Ar (a0 : Ze) : KK a0 = zF a0 := by
  rw [Bool.eq_iff_iff]
  have hs : KK a0 = true ↔ _ := (Xx (L := zx a0) (fun _ => rfl) (fun _ _ => rfl) (a0.XJ.length + 1) 0 (by omega) _).trans (and_congr_right fun _ => Xx (L := yE a0) (fun _ => rfl) (fun _ _ => rfl) (a0.Qs.length + 1) 0 (by omega) _)
  rw [hs]
  unfold zF
  have hi : ∀ b : Bool, (bif b then false else (match zk a0 (a0.XJ.length + 1) 0 with | .inl r1 => r1 | .inr _ => true)) = true ↔ b = false /\ _ := fun b => by
    cases b
    · exact (Xx (L := zk a0) (fun _ => rfl) (fun _ _ => rfl) (a0.XJ.length + 1) 0 (by omega) true).trans (by simp only [true_and, and_true]; exact Iff.rfl)
    · simp
  refine Iff.trans ?_ (hi _).symm
  simp only [W2, Bool.or_eq_false_iff, Bool.not_eq_false', Bool.and_eq_true, beq_iff_eq, bne_eq_false_iff_eq, Bool.not_eq_eq_eq_not, Bool.not_false]
  constructor
  · rintro ⟨h1, h2, h3, h4⟩
    exact ⟨⟨h3, h4⟩, fun i _ hi => ⟨h1 i (Nat.zero_le _) hi, h2 i (Nat.zero_le _) (by omega)⟩⟩
  · rintro ⟨⟨h3, h4⟩, h⟩
    exact ⟨fun i _ hi => (h i (Nat.zero_le _) hi).1, fun i _ hi => (h i (Nat.zero_le _) (by omega)).2, h3, h4⟩
@[simp] theorem Hx (a0 : Int) (a1 : List Int) : Kh a0 a1 = Jj a0 a1 := by simp [Kh, Jj]
theorem Oq (a1 : ByteArray) : ∀ (n : Nat) (p l : List Int) (v : Nat), a1.size < n + v -> v <= a1.size -> xk a1 n (p ++ l) v = p ++ xN a1.data.toList n l v := by
  intro n
  induction n with
  | zero =>
    intro p l v h hv
    omega
  | succ n ih =>
    intro p l v h gi
    have hs : a1.size = a1.data.toList.length := (Array.length_toList).symm
    rw [xk, xN, <- hs]
    by_cases hv : v < a1.size
    · rw [show decide ((v : Int) < (a1.size : Int)) = true by simpa using hv]
      simp only [cond_true]
      rw [List.append_assoc, ih p _ (v + 1) (by omega) (by omega)]
      rfl
    · rw [show decide ((v : Int) < (a1.size : Int)) = false by simpa using hv]
      rfl
@[simp] theorem Am (a0 : Int) (a1 : ByteArray) (a2 : Int) : jr a0 a1 a2 = jk a0 a1 a2 := by
  have := Oq a1 (a1.size + 1) [a2] [] 0 (by omega) (by omega)
  simp only [List.append_nil] at this
  simp only [jr, jk, kJ, this, Hx]
  rfl
@[simp] theorem Ag (a0 : Int) (a1 : Ze) : ∀ (n : Nat) (v0 : List Int) (v1 : Nat), qZ a0 a1 n v0 v1 = qU a0 a1 n v0 v1 := by
  intro n
  induction n with
  | zero => intros; rfl
  | succ n ih => intros; simp [qZ, qU, ih, ByteArray.append_assoc]
@[simp] theorem SC (a0 : Int) (a1 : Ze) : JY a0 a1 = XC a0 a1 := by simp [JY, XC]
@[simp] theorem Bu (a0 : ZQ) (a1 : Ze) : ∀ (n : Nat) (v0 : List Int) (v1 : Nat), J1 a0 a1 n v0 v1 = QU a0 a1 n v0 v1 := by
  intro n
  induction n with
  | zero => intros; rfl
  | succ n ih => intros; simp [J1, QU, ih, ByteArray.append_assoc]
@[simp] theorem Al (a0 : ZQ) (a1 : Ze) : Qv a0 a1 = Y3 a0 a1 := by simp [Qv, Y3]
@[simp] theorem Ao (a0 : Int) : jY a0 = jv a0 := by simp [jY, jv]
@[simp] theorem AZ (a0 : Zq) : qc a0 = zc a0 := by simp [qc, zc]
@[simp] theorem BR (a0 : Zq) : QZ a0 = Xu a0 := by simp [QZ, Xu]
@[simp] theorem IT (a0 : Zq) : yJ a0 = Y6 a0 := by simp [yJ, Y6]
@[simp] theorem Af (a0 : ZQ) (a1 : ZS) : ∀ (n : Nat) (v0 : Nat), yz a0 a1 n v0 = KX a0 a1 n v0 := by
  intro n
  induction n with
  | zero => intros; rfl
  | succ n ih => intros; simp [yz, KX, ih, ByteArray.append_assoc]
@[simp] theorem vU (a0 : ZQ) (a1 : ZS) : yH a0 a1 = QD a0 a1 := by simp [yH, QD]
@[simp] theorem Dc (a0 : List Zg) (a1 : Int) : ∀ (n : Nat) (v0 : Nat), KB a0 a1 n v0 = JP a0 a1 n v0 := by
  intro n
  induction n with
  | zero => intros; rfl
  | succ n ih => intros; simp [KB, JP, ih, ByteArray.append_assoc]
@[simp] theorem qv (a0 : List Zg) (a1 : Int) : Zi a0 a1 = ZY a0 a1 := by simp [Zi, ZY]
@[simp] theorem uv (a0 : Zl) : S0 a0 = Ko a0 := by simp [S0, Ko]
@[simp] theorem wq (a0 : Zf) : KS a0 = QQ a0 := by simp [KS, QQ]
@[simp] theorem DE (a1 : ZV) : ∀ (n : Nat) (v0 : List Int) (v1 : Nat), K3 a1 n v0 v1 = zA a1 n v0 v1 := by
  intro n
  induction n with
  | zero => intros; rfl
  | succ n ih => intros; simp [K3, zA, ih, ByteArray.append_assoc]
@[simp] theorem D5 (a1 : ZV) : ∀ (n : Nat) (v0 : List Int) (v1 : Nat), J8 a1 n v0 v1 = J9 a1 n v0 v1 := by
  intro n
  induction n with
  | zero => intros; rfl
  | succ n ih => intros; simp [J8, J9, ih, ByteArray.append_assoc]
@[simp] theorem PY (a0 : Int) (a1 : ZV) : K0 a0 a1 = JX a0 a1 := by simp [K0, JX]
@[simp] theorem CY (a0 : Int) (a1 : List ZS) : ∀ (n : Nat) (v0 : List Int) (v1 : Nat), yA a0 a1 n v0 v1 = zw a0 a1 n v0 v1 := by
  intro n
  induction n with
  | zero => intros; rfl
  | succ n ih => intros; simp [yA, zw, ih, ByteArray.append_assoc]
@[simp] theorem Bl (a0 : Int) (a1 : List ZS) : zn a0 a1 = zt a0 a1 := by simp [zn, zt]
@[simp] theorem Dz (a0 : Int) (a1 : Int) (a2 : List ZS) (a3 : Int) : U8 a0 a1 a2 a3 = WJ a0 a1 a2 a3 := by simp [U8, WJ]
@[simp] theorem ug (a0 : ZQ) (a1 : List Int) (a2 : Int) : WE a0 a1 a2 = jn a0 a1 a2 := by simp [WE, jn]
@[simp] theorem Mw (a0 : Int) (a1 : Int) (a2 : Int) : jd a0 a1 a2 = yR a0 a1 a2 := by simp [jd, yR]
@[simp] theorem RH (a0 : List Yp) (a1 : List Zg) (a2 : Zf) : J4 a0 a1 a2 = XD a0 a1 a2 := by
  simp [J4, XD, J0]
  cases h : decide (Zu a0 (nth a1 (ZY a1 a2.Authority).toNat).Key < 0) <;> simp
@[simp] theorem vg (a0 : Yb) : kT a0 = xg a0 := by simp [kT, xg]
@[simp] theorem uj (a0 : Yb) : RM a0 = Sv a0 := by simp [RM, Sv]
@[simp] theorem vX (a0 : Yb) : zW a0 = zd a0 := by simp [zW, zd]
@[simp] theorem sA (a0 a1 : Int) : KZ a0 a1 = if a1 > a0 then a1 else a0 := by
  unfold KZ; by_cases h : a1 > a0 <;> simp [h]
@[simp] theorem BY (a0 : List Z5) (a1 : Int) : ∀ (n : Nat) (v0 : Int) (v1 : Nat), zy a0 a1 n v0 v1 = zg a0 a1 n v0 v1 := by
  intro n
  induction n with
  | zero => intros; rfl
  | succ n ih => intros; simp [zy, zg, ih, ByteArray.append_assoc]
@[simp] theorem yv (a0 : List Z5) (a1 : Int) : Zp a0 a1 = Zk a0 a1 := by simp [Zp, Zk]
theorem Wv (a0 : List Int) (a1 : Int) : XP a0 a1 = true ↔ ∃ i, 0 <= i /\ i < a0.length /\ (nth a0 i == a1) = true := by
  unfold XP Rc
  rcases Kd (L := V3 a0 a1) (r := fun i => (i : Int)) (fun _ => rfl) (fun _ _ => rfl) (a0.length + 1) 0 (by omega) with ⟨e, p⟩ | ⟨i, e, p1, p2, p3, p4⟩
  · rw [e]
    constructor
    · intro h; simp at h
    · rintro ⟨i, h1, h2, h3⟩; have := p i h1 h2; rw [h3] at this; cases this
  · rw [e]
    exact ⟨fun _ => ⟨i, p1, p2, p3⟩, fun _ => by simp⟩
@[simp] theorem II (a0 : List Int) (a1 : Int) : Rj a0 a1 = XP a0 a1 := by
  rw [Bool.eq_iff_iff, Wv]
  exact RS (L := Rm a0 a1) (fun _ => rfl) (fun _ _ => rfl) (a0.length + 1) 0 (by omega)
@[simp] theorem FV (a0 : ZG) : ∀ (n : Nat) (v0 : List Int) (v1 : Nat), QV a0 n v0 v1 = Xl a0 n v0 v1 := by
  intro n
  induction n with
  | zero => intros; rfl
  | succ n ih => intros; simp [QV, Xl, ih, ByteArray.append_assoc]
@[simp] theorem kA (a0 : ZG) : YJ a0 = Zh a0 := by simp [YJ, Zh]
theorem MM (a0 : ZQ) (a1 : Ze) : Qv a0 a1 = a0.ZR.map (fun c => JY c.Method a1) := by
  have := HH (as := a0.ZR) (fun c => [JY c.Method a1]) (F := fun n i l => J1 a0 a1 n l i) (fun _ _ _ => rfl) (a0.ZR.length + 1) 0 [] (by omega) (Nat.zero_le _)
  unfold Qv
  rw [this, List.drop_zero, Lz]; rfl
theorem RE {α : Type} [Inhabited α] (l : List α) (x : α) : nth (l ++ [x]) l.length = x := by simp [nth]
theorem Cf {α : Type} [Inhabited α] (l : List α) (x : α) {i : Nat} (h : i < l.length) : nth (l ++ [x]) i = nth l i := by simp [nth, List.getD_eq_getElem?_getD, List.getElem?_append_left h]
theorem E5 (x : Zj) (a1 : Int) (h : Sm maxLen x) (r : ZV) (hr : r = ZV.mk (x.ZP.ZM.length : Int) a1 0 [] []) :
    WE (ZQ.mk x.ZP.ZM (x.ZP.ZR ++ [r])) (Qv (ZQ.mk x.ZP.ZM (x.ZP.ZR ++ [r])) x.Doc) (W (((x.ZP.ZR ++ [r]).length : Int) - 1)) = QK x a1 := by
  have hl : x.ZP.ZR.length <= maxLen := XN (ZQ.yq (Zj.XS h))
  have hm : maxLen = 9223372036854775807 := by decide
  have e1 : W (((x.ZP.ZR ++ [r]).length : Int) - 1) = (x.ZP.ZR.length : Int) := by
    rw [List.length_append, List.length_singleton, show ((x.ZP.ZR.length + 1 : Nat) : Int) - 1 = (x.ZP.ZR.length : Int) by omega, X9]; omega
  have e2 : nth (x.ZP.ZR ++ [r]) x.ZP.ZR.length = r := RE _ _
  have e3 : nth ((x.ZP.ZR ++ [r]).map (fun c => XC c.Method x.Doc)) x.ZP.ZR.length = XC r.Method x.Doc := by rw [List.map_append]; have := RE (x.ZP.ZR.map (fun c => XC c.Method x.Doc)) (XC r.Method x.Doc); rw [List.length_map] at this; exact this
  have e4 : r.Count = (x.ZP.ZM.length : Int) := by rw [hr]
  have e5 : r.Method = a1 := by rw [hr]
  unfold WE QK
  rw [e1, MM]
  simp only [Int.toNat_natCast, e1, e2, e3, e4, e5, W2, Zc, List.length_map, bne_self_eq_false, Int.le_refl, decide_true, Bool.and_true, Int.natCast_nonneg, Bool.not_true, Bool.or_false, cond_false, List.take_length, Dz, SC, PY]
  by_cases hz : 0 < x.ZP.ZR.length
  · have e6 : W ((x.ZP.ZR.length : Int) - 1) = ((x.ZP.ZR.length - 1 : Nat) : Int) := by rw [Nu _ (by omega)]; omega
    rw [e6, Int.toNat_natCast, Cf _ _ (by omega)]
  · have : decide ((x.ZP.ZR.length : Int) > 0) = false := decide_eq_false (by omega)
    rw [this, YW, YW]
@[simp] theorem T3 (a0 : ZQ) (a1 : ZV) : X6 a0 a1 = YL a0 a1 := by simp [X6, YL]
theorem BK (a0 : ZJ) (a1 : Int) (h : Sm maxLen a0) : YM a0 a1 = a0.ZD.map (fun x => QK x a1) := by
  have := HH (as := a0.ZD) (fun x => [WE (ZQ.mk x.ZP.ZM (x.ZP.ZR ++ [ZV.mk (x.ZP.ZM.length : Int) a1 0 [] []])) (Qv (ZQ.mk x.ZP.ZM (x.ZP.ZR ++ [ZV.mk (x.ZP.ZM.length : Int) a1 0 [] []])) x.Doc) (W (((x.ZP.ZR ++ [ZV.mk (x.ZP.ZM.length : Int) a1 0 [] []]).length : Int) - 1))]) (F := fun n i l => Jr a0 a1 n l i) (fun _ _ _ => rfl) (a0.ZD.length + 1) 0 [] (by omega) (Nat.zero_le _)
  unfold YM
  rw [this, List.drop_zero, Lz]
  exact List.map_congr_left (fun x hx => E5 x a1 ((ZJ.XQ h).2 x hx) _ rfl)
theorem wG {α β : Type} [Inhabited α] [Inhabited β] (f : α -> β) {l : List α} {i : Nat} (h : i < l.length) : nth (l.map f) i = f (nth l i) := by simp [nth, List.getD_eq_getElem?_getD, List.getElem?_map, List.getElem?_eq_getElem h]
theorem G7 (a0 : ZG) (a1 a2 : Int) (e : nth (YM (nth a0.ZB (ZF a0 a1).1.toNat) (Zk a0.Frame.Methods a0.Frame.Now)) (ZF a0 a1).2.toNat = QK (nth (nth a0.ZB (ZF a0 a1).1.toNat).ZD (ZF a0 a1).2.toNat) (Zk a0.Frame.Methods a0.Frame.Now)) :
    ∀ n v0 v1, QC a0 a1 a2 n v0 v1 = Ya a0 a1 a2 n v0 v1
  | 0, _, _ => rfl
  | n + 1, v0, v1 => by simp only [QC, Ya, G7 a0 a1 a2 e n, kA, RH, Sb, yv, e]
@[simp] theorem V6 (a0 : ZG) (a1 a2 : Int) (h : Sm maxLen a0) : Qp a0 a1 a2 = ZN a0 a1 a2 := by
  unfold Qp ZN
  simp only [Sb, yv, II, kA, T3]
  have hb : ∀ p q r s : Bool, (((p || q) || r) || s) = (((r || p) || q) || s) := by decide
  rw [hb]
  by_cases hi : (ZF a0 a1).1 < 0
  · rw [decide_eq_true hi]; simp
  · obtain ⟨h1, h2, h3⟩ := QH a0 a1 (by omega)
    have e : nth (YM (nth a0.ZB (ZF a0 a1).1.toNat) (Zk a0.Frame.Methods a0.Frame.Now)) (ZF a0 a1).2.toNat = QK (nth (nth a0.ZB (ZF a0 a1).1.toNat).ZD (ZF a0 a1).2.toNat) (Zk a0.Frame.Methods a0.Frame.Now) := by
      rw [BK _ _ (Z4 (ZG.Yq h)), wG _ h3]
    rw [G7 a0 a1 a2 e, e]
@[simp] theorem ur (a0 : Zj) : SW a0 = Xp a0 := by simp [SW, Xp]
@[simp] theorem B6 (a0 : ZJ) : ∀ (n : Nat) (v0 : Nat), qa a0 n v0 = xA a0 n v0 := by
  intro n
  induction n with
  | zero => intros; rfl
  | succ n ih => intros; simp [qa, xA, ih, ByteArray.append_assoc]
@[simp] theorem Sh (a0 : ZJ) : QW a0 = Z1 a0 := by simp [QW, Z1]
@[simp] theorem Rz (a0 : ZG) (a1 : Int) : YE a0 a1 = xK a0 a1 := by simp [YE, xK]
@[simp] theorem SM (a0 : ZG) (a1 : Int) : Ke a0 a1 = Yw a0 a1 := by simp [Ke, Yw]
theorem MQ (a0 : ZJ) (a1 : Int) (h : Sm maxLen a0) : ∀ n l i, Jr a0 a1 n l i = kn a0 a1 n l i
  | 0, _, _ => rfl
  | n + 1, l, i => by simp only [Jr, kn, MQ a0 a1 h n, E5 (nth a0.ZD i) a1 (Z4 (ZJ.XQ h)) _ rfl]
@[simp] theorem SU (a0 : ZJ) (a1 : Int) (h : Sm maxLen a0) : YM a0 a1 = QP a0 a1 := by
  simp only [YM, QP, MQ a0 a1 h]
theorem OB (a0 : Int) (a1 : List Int) : ∀ n v i, xq a0 a1 n v i = xV a0 a1 n v i
  | 0, _, _ => rfl
  | n + 1, v, i => by simp only [xq, xV, OB a0 a1 n, Mw]
@[simp] theorem Cw (a0 : Int) (a1 : List Int) : kb a0 a1 = xv a0 a1 := by simp only [kb, xv, OB]
@[simp] theorem As (a0 : Int) : ∀ (n : Nat) (v0 : List Int), j5 a0 n v0 = Wu a0 n v0 := by
  intro n
  induction n with
  | zero => intros; rfl
  | succ n ih => intros; simp [j5, Wu, ih, ByteArray.append_assoc]
@[simp] theorem R4 (a0 : Int) (a1 : List Int) : Kg a0 a1 = Te a0 a1 := by simp [Kg, Te]
@[simp] theorem Fj (a0 : ZJ) (a1 : Int) (h : Sm maxLen a0) : z3 a0 a1 = Qf a0 a1 := by
  simp only [z3, Qf, SU a0 a1 h, R4]
theorem Tt (a0 : Int) : ∀ n i o l, KQ a0 n i o l = xr a0 n l i o
  | 0, _, _, _ => rfl
  | n + 1, i, o, l => by simp only [KQ, xr, Tt a0 n, Cw]
@[simp] theorem H5 (a0 : Int) (a1 : List Int) (a2 : Int) : Kf a0 a1 a2 = Jm a0 a1 a2 := by
  simp only [Kf, Jm, Tt, W2]
  rw [Bool.or_comm]
theorem Py (a0 : ZJ) (a1 : Int) (a2 : List Zf) (n v : Nat) (l : List Zj) : Xg a0 a1 a2 (n + 1) false v l = (false, l) := by
  simp only [Xg, Bool.and_false, YW]
theorem Gs (a0 : ZJ) (a1 : Int) (a2 : List Zf) (h : Sm maxLen a0) : ∀ n v l, a0.ZD.length < n + v -> v <= a0.ZD.length -> (∃ z, Xi a0 a1 a2 n v l = .inr z /\ Xg a0 a1 a2 n true v l = (true, z)) \/ (Xi a0 a1 a2 n v l = .inl (a0, false) /\ (Xg a0 a1 a2 n true v l).1 = false)
  | 0, v, l, h1, h2 => by omega
  | n + 1, v, l, h1, h2 => by
    simp only [Xg, Xi, Bool.and_true, Qf, SU a0 a1 h, R4, H5, T3]
    by_cases hi : v < a0.ZD.length
    · rw [show decide ((v : Int) < (a0.ZD.length : Int)) = true by simpa using hi, Yf, Yf]
      cases hb : (YL (nth a0.ZD v).ZP (ZV.mk ((nth a0.ZD v).ZP.ZM.length : Int) a1 (Te a1 (QP a0 a1)) (Jm a1 (QP a0 a1) (v : Int)) a2)).2
      · obtain ⟨m, rfl⟩ : ∃ m, n = m + 1 := ⟨n - 1, by omega⟩
        rw [Py]
        exact .inr ⟨rfl, rfl⟩
      · exact Gs a0 a1 a2 h n (v + 1) _ (by omega) hi
    · rw [show decide ((v : Int) < (a0.ZD.length : Int)) = false by simpa using hi, YW, YW]
      exact .inl ⟨l, rfl, rfl⟩
@[simp] theorem NJ (a0 : ZJ) (a1 : Int) (a2 : List Zf) (h : Sm maxLen a0) : X3 a0 a1 a2 = Ym a0 a1 a2 := by
  unfold X3 Ym
  simp only [Sh]
  by_cases hl : 0 < a0.ZD.length
  · have e1 : decide ((a0.ZD.length : Int) > 0) = true := decide_eq_true (by omega)
    have e2 : ((a0.ZD.length : Int) == 0) = false := beq_eq_false_iff_ne.2 (by omega)
    rw [e1, e2]
    cases Z1 a0
    · rw [Bool.false_and, Py]; rfl
    · rcases Gs a0 a1 a2 h (a0.ZD.length + 1) 0 a0.ZD (by omega) (Nat.zero_le _) with ⟨z, q1, q2⟩ | ⟨q1, q2⟩
      · rw [Bool.true_and, q1, q2]; rfl
      · rw [Bool.true_and, q1]
        generalize Xg a0 a1 a2 (a0.ZD.length + 1) true 0 a0.ZD = p at q2 ⊢
        obtain ⟨p1, p2⟩ := p
        simp only at q2; subst q2; rfl
  · have e1 : decide ((a0.ZD.length : Int) > 0) = false := decide_eq_false (by omega)
    have e2 : ((a0.ZD.length : Int) == 0) = true := beq_iff_eq.2 (by omega)
    rw [e1, e2, Bool.and_false, Py]; rfl
theorem VX {a : List Zg} {d : Int} (h : 0 <= ZY a d) : (nth a (ZY a d).toNat).Id = d := by
  unfold ZY at h ⊢
  rcases Kd (L := JP a d) (len := a.length) (c := fun i => (nth a i).Id == d) (r := fun i => (i : Int)) (fun _ => rfl) (fun _ _ => rfl) (a.length + 1) 0 (by omega) with ⟨e, _⟩ | ⟨i, e, _, _, k, _⟩
  · rw [e] at h; simp at h
  · rw [e]; simpa using k
def Mt (a0 : ZG) (d : Int) : Bool := !((decide (ZY a0.Frame.ZC d < 0) || decide (ZY a0.Frame.ZC d >= (a0.YZ.length : Int))) || (decide (Zu a0.Frame.Zo (nth a0.Frame.ZC (ZY a0.Frame.ZC d).toNat).Key < 0) || decide ((nth a0.Frame.Zo (Zu a0.Frame.Zo (nth a0.Frame.ZC (ZY a0.Frame.ZC d).toNat).Key).toNat).qK > a0.Frame.Now)))
theorem TL (a0 : ZG) (a1 : List Int) : zC a0 a1 = true ↔ (∀ i, 0 <= i -> i < a1.length -> Mt a0 (nth a1 i) = true /\ (0 < i -> nth a1 (i - 1) < nth a1 i)) /\ 0 < a1.length := by
  have := Xx (L := xI a0 a1) (len := a1.length) (c := fun v => (((decide ((Zi a0.Frame.ZC (nth a1 v)) < 0)) || (decide ((Zi a0.Frame.ZC (nth a1 v)) >= (a0.YZ.length : Int)))) || ((decide ((v : Int) > 0)) && (decide ((nth a1 (v - 1)) >= (nth a1 v))))) || ((decide ((YA a0.Frame.Zo (nth a0.Frame.ZC (Zi a0.Frame.ZC (nth a1 v)).toNat).Key) < 0)) || (decide ((nth a0.Frame.Zo (YA a0.Frame.Zo (nth a0.Frame.ZC (Zi a0.Frame.ZC (nth a1 v)).toNat).Key).toNat).qK > a0.Frame.Now))))
    (fun _ => rfl) (fun n v => by
      simp only [xI]
      cases (((decide ((Zi a0.Frame.ZC (nth a1 v)) < 0)) || (decide ((Zi a0.Frame.ZC (nth a1 v)) >= (a0.YZ.length : Int)))) || ((decide ((v : Int) > 0)) && (decide ((nth a1 (v - 1)) >= (nth a1 v))))) <;> rfl) (a1.length + 1) 0 (by omega) (decide ((a1.length : Int) > 0))
  unfold zC
  refine Iff.trans this ?_
  constructor
  · rintro ⟨h1, h2⟩
    refine ⟨fun i h0 hi => ?_, by simpa using h2⟩
    have := h1 i h0 hi
    simp only [qv, Wm, Bool.or_eq_false_iff, Bool.and_eq_false_iff, decide_eq_false_iff_not] at this
    obtain ⟨⟨⟨q1, q2⟩, q3⟩, q4, q5⟩ := this
    refine ⟨?_, fun h => ?_⟩
    · simp only [Mt, Bool.not_eq_true', Bool.or_eq_false_iff, decide_eq_false_iff_not]; exact ⟨⟨q1, q2⟩, q4, q5⟩
    · rcases q3 with q3 | q3 <;> omega
  · rintro ⟨h1, h2⟩
    refine ⟨fun i h0 hi => ?_, by simpa using h2⟩
    obtain ⟨q, q3⟩ := h1 i h0 hi
    simp only [Mt, Bool.not_eq_true', Bool.or_eq_false_iff, decide_eq_false_iff_not] at q
    simp only [qv, Wm, Bool.or_eq_false_iff, Bool.and_eq_false_iff, decide_eq_false_iff_not]
    refine ⟨⟨q.1, ?_⟩, q.2⟩
    by_cases hz : 0 < i
    · right; have := q3 hz; omega
    · left; omega
theorem I0 (a1 : List Int) : XO a1 = true ↔ ∀ i, 0 < i -> i < a1.length -> nth a1 (i - 1) < nth a1 i := by
  have := Xx (L := qR a1) (len := a1.length) (c := fun v => decide ((nth a1 (v - 1)) >= (nth a1 v))) (fun _ => rfl) (fun _ _ => rfl) (a1.length + 1) 1 (by omega) true
  unfold XO
  refine Iff.trans this ?_
  simp only [decide_eq_false_iff_not, and_true]
  exact ⟨fun h i h0 hi => by have := h i h0 hi; omega, fun h i h0 hi => by have := h i h0 hi; omega⟩
theorem RY {a1 : List Int} (h : ∀ i, 0 < i -> i < a1.length -> nth a1 (i - 1) < nth a1 i) : ∀ d v, 0 < d -> v + d < a1.length -> nth a1 v < nth a1 (v + d)
  | 0, _, h0, _ => by omega
  | 1, v, _, hv => h (v + 1) (by omega) hv
  | d + 2, v, _, hv => by
    have h1 := RY h (d + 1) v (by omega) (by omega)
    have h2 := h (v + (d + 2)) (by omega) hv
    rw [show v + (d + 2) - 1 = v + (d + 1) by omega] at h2
    omega
theorem Ay (w : Int) : qM 10000 (KZ 0 w) = (if (if w < 10000 then w else 10000) > 0 then (if w < 10000 then w else 10000) else 0) := by
  unfold qM KZ
  by_cases h1 : w > 0
  · rw [show decide (w > 0) = true by simpa using h1, Yf]
    by_cases h2 : w < 10000
    · rw [show decide (w < 10000) = true by simpa using h2, Yf, if_pos h2, if_pos h1]
    · rw [show decide (w < 10000) = false by simpa using h2, YW, if_neg h2]; rfl
  · rw [show decide (w > 0) = false by simpa using h1, YW]
    rw [if_pos (show w < 10000 by omega), if_neg h1]; rfl
theorem C3 {α : Type} [Inhabited α] (l : List α) (x : α) {i j : Nat} (h : i ≠ j) : nth (l.set i x) j = nth l j := by simp [nth, List.getD_eq_getElem?_getD, List.getElem?_set_ne h]
theorem Na (a0 : ZG) (a1 : Int) (a2 : List Int) (a3 : Int) : ∀ n l v q, a2.length < n + v -> v <= a2.length -> (∃ k, v <= k /\ k < a2.length /\ Mt a0 (nth a2 k) = false) -> XT a0 a1 a2 a3 n l v q = .inl (a0, false)
  | 0, _, _, _, h1, h2, _ => by omega
  | n + 1, l, v, q, h1, h2, ⟨k, k1, k2, k3⟩ => by
    have hv : v < a2.length := by omega
    simp only [XT]
    rw [show decide ((v : Int) < (a2.length : Int)) = true by simpa using hv, Yf]
    cases hA : ((decide ((ZY a0.Frame.ZC (nth a2 v)) < 0)) || (decide ((ZY a0.Frame.ZC (nth a2 v)) >= (a0.YZ.length : Int))))
    · rw [YW]
      cases hB : ((decide ((Zu a0.Frame.Zo (nth a0.Frame.ZC (ZY a0.Frame.ZC (nth a2 v)).toNat).Key) < 0)) || (decide ((nth a0.Frame.Zo (Zu a0.Frame.Zo (nth a0.Frame.ZC (ZY a0.Frame.ZC (nth a2 v)).toNat).Key).toNat).qK > a0.Frame.Now)))
      · rw [YW]
        have hk : ∃ k, v + 1 <= k /\ k < a2.length /\ Mt a0 (nth a2 k) = false := by
          refine ⟨k, ?_, k2, k3⟩
          rcases Nat.eq_or_lt_of_le k1 with rfl | k1
          · unfold Mt at k3; rw [hA, hB] at k3; simp at k3
          · exact k1
        rw [Na a0 a1 a2 a3 n _ (v + 1) _ (by omega) hv hk, Na a0 a1 a2 a3 n _ (v + 1) _ (by omega) hv hk]
        simp
      · rfl
    · rfl
theorem G6 (c : Bool) (a : ZG × Bool) (x : Sum (ZG × Bool) (List Zf)) (u : List Int) : (bif c then (Sum.inl a : Sum (ZG × Bool) (List Zf × List Int)) else (match x with | .inl r => .inl r | .inr z => .inr (z, u))) = (match (bif c then Sum.inl a else x) with | .inl r => .inl r | .inr z => .inr (z, u)) := by cases c <;> rfl
theorem IN (a0 : ZG) (a1 : Int) (a2 : List Int) (a3 : Int) (h : Sm maxLen a0) (hr : ∀ i, 0 < i -> i < a2.length -> nth a2 (i - 1) < nth a2 i) (po : ∀ k, k < a2.length -> Mt a0 (nth a2 k) = true) : ∀ n l v q, a2.length < n + v -> v <= a2.length -> (∀ k, v <= k -> k < a2.length -> nth q (ZY a0.Frame.ZC (nth a2 k)).toNat = nth a0.YZ (ZY a0.Frame.ZC (nth a2 k)).toNat) ->
    XT a0 a1 a2 a3 n l v q = (match QY a0 a1 a2 a3 n l v with | .inl r => .inl r | .inr z => .inr (z, zS a0 a2 n v q))
  | 0, _, _, _, h1, h2, _ => by omega
  | n + 1, l, v, q, h1, h2, hq => by
    simp only [XT, QY, zS, II, RH, qv, yv, Fj _ _ (Z4 (ZG.Yq h)), Ay]
    by_cases hv : v < a2.length
    · rw [show decide ((v : Int) < (a2.length : Int)) = true by simpa using hv, Yf, Yf, Yf]
      have ho := po v hv
      unfold Mt at ho
      rw [Bool.not_eq_true', Bool.or_eq_false_iff] at ho
      rw [ho.1, ho.2, YW, YW, hq v (Nat.le_refl _) hv]
      have ih := fun l => IN a0 a1 a2 a3 h hr po n l (v + 1) (q.set (ZY a0.Frame.ZC (nth a2 v)).toNat (W (nth a0.YZ (ZY a0.Frame.ZC (nth a2 v)).toNat + 1))) (by omega) hv (fun k k1 k2 => by
        rw [C3, hq k (by omega) k2]
        intro e
        have p1 : 0 <= ZY a0.Frame.ZC (nth a2 v) := by
          have := ho.1; simp only [Bool.or_eq_false_iff, decide_eq_false_iff_not] at this; omega
        have p2 : 0 <= ZY a0.Frame.ZC (nth a2 k) := by
          have := po k k2; unfold Mt at this; simp only [Bool.not_eq_true', Bool.or_eq_false_iff, decide_eq_false_iff_not] at this; omega
        have e1 := VX p1
        have e2 := VX p2
        rw [e, e2] at e1
        have := RY hr (k - v) v (by omega) (by omega)
        rw [show v + (k - v) = k by omega] at this
        omega)
      simp only [ih]
      cases XP a0.YR (nth a2 v) <;> simp only [Yf, YW]
      · exact G6 _ _ _ _
      · exact G6 _ _ _ _
    · rw [show decide ((v : Int) < (a2.length : Int)) = false by simpa using hv, YW, YW, YW]
@[simp] theorem RI (a0 : ZG) (a1 : Int) (a2 : List Int) (a3 : Int) (h : Sm maxLen a0) : XF a0 a1 a2 a3 = JW a0 a1 a2 a3 := by
  unfold XF JW
  simp only [SM, yv, W2]
  cases hg : Yw a0 a1
  · rfl
  cases hb : decide (Zk a0.Frame.Methods a0.Frame.Now < 0)
  rotate_left
  · simp
  cases hi : Zc a3 (-10000) 10000
  · simp
  simp only [Bool.not_true, Bool.false_or, Bool.or_false]
  cases hr : XO a2
  · have : zC a0 a2 = false := by
      cases hs : zC a0 a2 with
      | false => rfl
      | true =>
        have := (TL a0 a2).1 hs
        have h2 := (I0 a2).2 (fun i h0 hi => (this.1 i (Nat.zero_le _) hi).2 h0)
        rw [hr] at h2; cases h2
    rw [this]; rfl
  have hrr := (I0 a2).1 hr
  by_cases hl : 0 < a2.length
  rotate_left
  · have : zC a0 a2 = false := by
      cases hs : zC a0 a2 with
      | false => rfl
      | true => exact absurd ((TL a0 a2).1 hs).2 hl
    have e : ((a2.length : Int) == 0) = true := beq_iff_eq.2 (by omega)
    rw [this, e]; rfl
  have e : ((a2.length : Int) == 0) = false := beq_eq_false_iff_ne.2 (by omega)
  rw [e]
  by_cases po : ∀ k, k < a2.length -> Mt a0 (nth a2 k) = true
  · have hs : zC a0 a2 = true := (TL a0 a2).2 ⟨fun i _ hi => ⟨po i hi, fun h0 => hrr i h0 hi⟩, hl⟩
    rw [hs, IN a0 a1 a2 a3 h hrr po (a2.length + 1) [] 0 a0.YZ (by omega) (Nat.zero_le _) (fun _ _ _ => rfl)]
    simp only [Bool.not_true, Bool.or_false, YW]
    cases QY a0 a1 a2 a3 (a2.length + 1) [] 0 with
    | inl r => rfl
    | inr z => simp only [NJ _ _ _ (Z4 (ZG.Yq h))]
  · have hs : zC a0 a2 = false := by
      cases hs : zC a0 a2 with
      | false => rfl
      | true => exact absurd (fun k hk => (((TL a0 a2).1 hs).1 k (Nat.zero_le _) hk).1) po
    have hx : ∃ k, 0 <= k /\ k < a2.length /\ Mt a0 (nth a2 k) = false := by
      refine Classical.byContradiction fun hn => po fun k hk => ?_
      cases hz : Mt a0 (nth a2 k) with
      | true => rfl
      | false => exact absurd ⟨k, Nat.zero_le _, hk, hz⟩ hn
    rw [hs, Na a0 a1 a2 a3 (a2.length + 1) [] 0 a0.YZ (by omega) (Nat.zero_le _) hx]
    rfl
@[simp] theorem Mx (a0 : List Yp) (a1 : Zq) : KO a0 a1 = zL a0 a1 := by
  by_cases h : Zu a0 a1.Key < 0 <;> simp [KO, zL, J0, h]
@[simp] theorem HJ (a0 : Yb) : jM a0 = ku a0 := by simp [jM, ku]
theorem Ou {l : List Zj} {i : Nat} (h : i < l.length) : l.drop i = nth l i :: l.drop (i + 1) := by
  rw [List.drop_eq_getElem_cons h]; simp [nth, List.getD_eq_getElem?_getD, List.getElem?_eq_getElem h]
theorem um (a0 : ZJ) (a1 : Zj) : ∀ (m i : Nat) (l : List Zj), a0.ZD.length < m + i -> i <= a0.ZD.length -> QR a0 a1 m true i l = (true, l ++ a0.ZD.drop i)
  | 0, i, l, h, hi => by omega
  | m + 1, i, l, h, hi => by
    simp only [QR]
    cases hc : decide ((i : Int) < (a0.ZD.length : Int)) with
    | false =>
      have : ¬ i < a0.ZD.length := by simpa using hc
      simp only [cond_false]; rw [List.drop_eq_nil_of_le (by omega)]; simp
    | true =>
      have pa : i < a0.ZD.length := by simpa using hc
      simp only [cond_true, Bool.not_true, Bool.false_and, cond_false]
      rw [um a0 a1 m (i + 1) _ (by omega) pa, Ou pa]; simp
theorem uq (a0 : ZJ) (a1 : Zj) (pS : ∀ k, k < a0.ZD.length -> (nth a0.ZD k).Id ≠ a1.Id) : ∀ (m i : Nat) (l : List Zj), a0.ZD.length < m + i -> i <= a0.ZD.length ->
    i <= XU a0 a1 m i /\ XU a0 a1 m i <= a0.ZD.length /\
    QR a0 a1 m false i l = (bif decide (XU a0 a1 m i < a0.ZD.length) then (true, l ++ (a0.ZD.take (XU a0 a1 m i)).drop i ++ [a1] ++ a0.ZD.drop (XU a0 a1 m i)) else (false, l ++ a0.ZD.drop i))
  | 0, i, l, h, hi => by omega
  | m + 1, i, l, h, hi => by
    by_cases pa : i < a0.ZD.length
    · have hc : decide ((i : Int) < (a0.ZD.length : Int)) = true := by simpa using pa
      have hn := pS i pa
      by_cases n8 : a1.Id < (nth a0.ZD i).Id
      · have e1 : XU a0 a1 (m + 1) i = i := by
          simp only [XU, hc, show decide ((nth a0.ZD i).Id < a1.Id) = false by simp; omega, Bool.true_and, cond_false]
        rw [e1]
        refine ⟨Nat.le_refl _, by omega, ?_⟩
        simp only [QR, hc, show decide (a1.Id < (nth a0.ZD i).Id) = true by simpa using n8, Bool.not_false, Bool.true_and, cond_true]
        rw [um a0 a1 m (i + 1) _ (by omega) pa, show decide (i < a0.ZD.length) = true by simpa using pa, Ou pa, List.drop_eq_nil_of_le (as := a0.ZD.take i) (by rw [List.length_take]; omega)]
        simp
      · have h2 : (nth a0.ZD i).Id < a1.Id := by omega
        have e1 : XU a0 a1 (m + 1) i = XU a0 a1 m (i + 1) := by
          simp only [XU, hc, show decide ((nth a0.ZD i).Id < a1.Id) = true by simpa using h2, Bool.true_and, cond_true]
        rw [e1]
        obtain ⟨k1, k2, k3⟩ := uq a0 a1 pS m (i + 1) (l ++ [nth a0.ZD i]) (by omega) pa
        refine ⟨by omega, k2, ?_⟩
        simp only [QR, hc, show decide (a1.Id < (nth a0.ZD i).Id) = false by simpa using n8, Bool.not_false, Bool.true_and, cond_true, cond_false]
        rw [k3]
        have ht : (a0.ZD.take (XU a0 a1 m (i + 1))).drop i = nth a0.ZD i :: (a0.ZD.take (XU a0 a1 m (i + 1))).drop (i + 1) := by
          have gU : i < (a0.ZD.take (XU a0 a1 m (i + 1))).length := by simp; omega
          rw [Ou gU]
          congr 1
          simp only [nth, List.getD_eq_getElem?_getD]
          rw [List.getElem?_take_of_lt (by omega)]
        rw [ht, Ou pa]
        cases decide (XU a0 a1 m (i + 1) < a0.ZD.length) <;> simp
    · have hc : decide ((i : Int) < (a0.ZD.length : Int)) = false := by simpa using pa
      have e1 : XU a0 a1 (m + 1) i = i := by simp only [XU, hc, Bool.false_and, cond_false]
      rw [e1]
      refine ⟨Nat.le_refl _, by omega, ?_⟩
      simp only [QR, hc, cond_false]
      rw [show decide (i < a0.ZD.length) = false by simpa using pa, List.drop_eq_nil_of_le (as := a0.ZD.take i) (by rw [List.length_take]; omega)]; simp; omega
theorem M0 {a0 : ZJ} {s : Int} (h : Zm a0 s < 0) : ∀ k, k < a0.ZD.length -> (nth a0.ZD k).Id ≠ s := by
  unfold Zm at h
  intro k hk
  rcases Kd (β := Int) (L := Qc a0 s) (len := a0.ZD.length) (c := fun v => (nth a0.ZD v).Id == s) (r := fun v => (v : Int)) (fun _ => rfl) (fun _ _ => rfl) (a0.ZD.length + 1) 0 (by omega) with ⟨e, h2⟩ | ⟨i, e, _, _, hc, _⟩
  · simpa using h2 k (Nat.zero_le _) hk
  · rw [e] at h; simp at h; omega
@[simp] theorem OT (a0 : ZJ) (a1 : Zj) : JA a0 a1 = YX a0 a1 := by
  simp only [JA, YX, Sh, Hw]
  rw [Bool.or_comm]
  cases hc : (decide (Zm a0 a1.Id >= 0) || !Z1 a0) with
  | true => rfl
  | false =>
    have hf : Zm a0 a1.Id < 0 := by simp at hc; exact hc.1
    obtain ⟨_, k2, k3⟩ := uq a0 a1 (M0 hf) (a0.ZD.length + 1) 0 [] (by omega) (Nat.zero_le _)
    simp only [cond_false]
    rw [k3]
    generalize XU a0 a1 (a0.ZD.length + 1) 0 = z at k2 ⊢
    by_cases hz : z < a0.ZD.length
    · rw [show decide (z < a0.ZD.length) = true by simpa using hz]
      simp
    · rw [show decide (z < a0.ZD.length) = false by simpa using hz]
      have mG : z = a0.ZD.length := by omega
      subst mG
      simp
def Tg (a0 : ZG) (a2 : Int) (a3 : Ze) (a4 : Int) (v : Nat) : Zq × Bool := zL a0.Frame.Zo (Zq.mk a2 (nth a0.ZZ v).Zn (Zk a0.Frame.Methods a0.Frame.Now) (XC (Zk a0.Frame.Methods a0.Frame.Now) a3) 1 a4 0 0 0)
def j9 (a0 : ZG) (a2 : Int) (a3 : Ze) (a4 a5 : Int) (v : Nat) : Zj := Zj.mk a0.Next a5 a3 (Tg a0 a2 a3 a4 v).1 (ZQ.mk ([(Y6 (Tg a0 a2 a3 a4 v).1), (ku (nth a0.ZZ v))] : List ZS) ([] : List ZV))
def kP (a0 : ZG) (a1 : Int) (it : Zj) : ZG := ZG.mk a0.Frame a0.ZZ a0.YQ (a0.ZB.set a1.toNat (YX (nth a0.ZB a1.toNat) it).1) a0.YZ a0.YR (W (a0.Next + 1)) a0.YK
def BA (a0 : ZG) (a1 : Int) (b : Bool) (it : Zj) : ZG × Bool := bif (!b) || !(YX (nth a0.ZB a1.toNat) it).2 then (a0, false) else (kP a0 a1 it, true)
theorem Gn (a0 : ZG) (a1 a2 : Int) (a3 : Ze) (a4 a5 : Int) :
    ∀ (m v : Nat), (match Jo a0 a1 a2 a3 a4 a5 m v with | .inl r1 => r1 | .inr _ => (a0, false)) = (match Js a0 a2 m v with | .inl k => BA a0 a1 (Tg a0 a2 a3 a4 k.toNat).2 (j9 a0 a2 a3 a4 a5 k.toNat) | .inr _ => (a0, false))
  | 0, v => rfl
  | m + 1, v => by
    have ih := Gn a0 a1 a2 a3 a4 a5 m (v + 1)
    simp only [Jo, Js]
    cases decide ((v : Int) < (a0.ZZ.length : Int)) with
    | false => rfl
    | true =>
      simp only [cond_true, bne]
      cases ((nth a0.ZZ v).Key == a2) with
      | false => exact ih
      | true =>
        simp only [cond_true, cond_false, Bool.not_true]
        rw [show ((v : Int)).toNat = v from rfl]
        show (match (bif ((!(Tg a0 a2 a3 a4 v).2) || !(YX (nth a0.ZB a1.toNat) (j9 a0 a2 a3 a4 a5 v)).2) then (Sum.inl (a0, false) : Sum (ZG × Bool) Unit) else .inl (kP a0 a1 (j9 a0 a2 a3 a4 a5 v), true)) with | .inl r1 => r1 | .inr _ => (a0, false)) = BA a0 a1 (Tg a0 a2 a3 a4 v).2 (j9 a0 a2 a3 a4 a5 v)
        unfold BA
        cases ((!(Tg a0 a2 a3 a4 v).2) || !(YX (nth a0.ZB a1.toNat) (j9 a0 a2 a3 a4 a5 v)).2) <;> rfl
theorem Bq (a0 : ZG) (a2 : Int) : ∀ (m v : Nat), Js a0 a2 m v = .inr () \/ ∃ k : Nat, Js a0 a2 m v = .inl (k : Int)
  | 0, v => .inl rfl
  | m + 1, v => by
    have ih := Bq a0 a2 m (v + 1)
    simp only [Js]
    cases decide ((v : Int) < (a0.ZZ.length : Int)) with
    | false => exact .inl rfl
    | true =>
      cases ((nth a0.ZZ v).Key == a2) with
      | false => exact ih
      | true => exact .inr ⟨v, rfl⟩
theorem Fc (a0 : ZG) (a1 : Int) (a2 : Ze) (a3 a4 : Int) : Xh a0 a1 a2 a3 a4 = bif ((decide ((Zk a0.Frame.Methods a0.Frame.Now) < 0)) || (decide ((Xb a0 a1) < 0))) then ((Zj.mk 0 0 (Ze.mk 0 ([] : List ByteArray) ([] : List Int)) (Zq.mk 0 0 0 0 0 0 0 0 0) (ZQ.mk ([] : List ZS) ([] : List ZV))), false) else (j9 a0 a1 a2 a3 a4 (Xb a0 a1).toNat, (Tg a0 a1 a2 a3 (Xb a0 a1).toNat).2) := by
  unfold Xh
  simp only [yv, Mx, SC, IT, HJ]
  rfl
theorem Mk (a0 : ZG) (a1 a2 : Int) (a3 : Ze) (a4 a5 : Int) : Xw a0 a1 a2 a3 a4 a5 = bif ((!(Yw a0 a1)) || (decide ((Zu a0.Frame.Zo a2) < 0))) then (a0, false) else BA a0 a1 (Xh a0 a2 a3 a4 a5).2 (Xh a0 a2 a3 a4 a5).1 := by
  unfold Xw
  cases ((!(Yw a0 a1)) || (decide ((Zu a0.Frame.Zo a2) < 0))) with
  | true => rfl
  | false =>
    rw [Fc]
    simp only [Bool.false_or, cond_false]
    refine Eq.trans (congrArg (fun z => bif decide ((Zk a0.Frame.Methods a0.Frame.Now) < 0) then (a0, false) else z) (Gn a0 a1 a2 a3 a4 a5 (a0.ZZ.length + 1) 0)) ?_
    cases decide ((Zk a0.Frame.Methods a0.Frame.Now) < 0) with
    | true => rfl
    | false =>
      simp only [Bool.false_or, cond_false]
      rcases Bq a0 a2 (a0.ZZ.length + 1) 0 with h | ⟨k, h⟩
      · rw [h, show Xb a0 a2 = -1 by unfold Xb; rw [h]]; rfl
      · rw [h, show Xb a0 a2 = (k : Int) by unfold Xb; rw [h]]
        rw [show decide ((k : Int) < 0) = false by simp only [decide_eq_false_iff_not]; omega]
        rfl
theorem uK (a0 : ZG) (a1 : Int) (b : Bool) (it : Zj) : (bif !b then (a0, false) else (bif !(YX (nth a0.ZB a1.toNat) it).2 then (a0, false) else (kP a0 a1 it, true))) = BA a0 a1 b it := by
  unfold BA
  cases b <;> rfl
@[simp] theorem PK (a0 : ZG) (a1 a2 : Int) (a3 : Ze) (a4 a5 : Int) : YG a0 a1 a2 a3 a4 a5 = KE a0 a1 a2 a3 a4 a5 := by
  unfold YG KE
  simp only [SM, Wm, OT]
  rw [Mk, <- uK]
  cases decide ((Zu a0.Frame.Zo a2) < 0) <;> cases (Yw a0 a1) <;> cases decide ((nth a0.Frame.Zo (Zu a0.Frame.Zo a2).toNat).qK > a0.Frame.Now) <;> rfl
@[simp] theorem Tz (a0 : ZG) (a1 : Int) : Z0 a0 a1 = qA a0 a1 := by
  unfold Z0 qA Yd
  simp only [Sb, HN, Hv, Wm, Ld, Im, Nb]
  cases h1 : ((decide ((ZF a0 a1).1 < 0)) || (decide (((nth (nth a0.ZB (ZF a0 a1).1.toNat).ZD (ZF a0 a1).2.toNat).ZP.ZM.length : Int) < 2))) with
  | true => rfl
  | false =>
    simp only [cond_false]
    generalize XE (nth (nth (nth a0.ZB (ZF a0 a1).1.toNat).ZD (ZF a0 a1).2.toNat).ZP.ZM 1) = p
    rw [Ds, show (!(decide (Xn a0.ZZ p.1.Zn >= 0))) = decide (Xn a0.ZZ p.1.Zn < 0) by rw [<- decide_not]; simp]
    cases h2 : ((!p.2 || decide (Xn a0.ZZ p.1.Zn < 0)) || decide (Xn a0.ZZ p.1.Zn >= (a0.YQ.length : Int))) with
    | true => rfl
    | false =>
      simp only [cond_false]
      have hn : 0 <= Xn a0.ZZ p.1.Zn := by simp at h2; exact h2.1.2
      rw [GX _ _ hn]
      have key : ∀ (n : Nat) (st : Zr), st.Z6 = (nth a0.ZZ n).Z6 ->
          (bif ((!(YH a0.Frame.Zo st).2) || (decide ((nth a0.Frame.Zo (Zu a0.Frame.Zo (nth a0.ZZ n).Z6).toNat).qK > a0.Frame.Now))) then (a0, false) else ((ZG.mk a0.Frame a0.ZZ a0.YQ (a0.ZB.set (ZF a0 a1).1.toNat (Yu (nth a0.ZB (ZF a0 a1).1.toNat) a1 (Yl (YH a0.Frame.Zo st).1)).1) a0.YZ a0.YR a0.Next a0.YK), (Yu (nth a0.ZB (ZF a0 a1).1.toNat) a1 (Yl (YH a0.Frame.Zo st).1)).2)) =
          (bif ((decide ((Zu a0.Frame.Zo (nth a0.ZZ n).Z6) < 0)) || (decide ((nth a0.Frame.Zo (Zu a0.Frame.Zo (nth a0.ZZ n).Z6).toNat).qK > a0.Frame.Now))) then (a0, false) else ((Xe a0 (ZF a0 a1).1 a1 st).1, (Xe a0 (ZF a0 a1).1 a1 st).2)) := by
        intro n st pt
        rw [<- Ab]
        cases hb : decide ((nth a0.Frame.Zo (Zu a0.Frame.Zo (nth a0.ZZ n).Z6).toNat).qK > a0.Frame.Now) with
        | true => simp
        | false =>
          cases hm : (YH a0.Frame.Zo st).2 with
          | false => simp
          | true =>
            have hp := Nj hm
            rw [pt] at hp
            rw [show decide (Zu a0.Frame.Zo (nth a0.ZZ n).Z6 < 0) = false by simp; exact hp]
            rfl
      rw [key _ _ rfl, key _ _ rfl]
      cases hk : ((decide ((Zu a0.Frame.Zo (nth a0.ZZ (Xn a0.ZZ p.1.Zn).toNat).Z6) < 0)) || (decide ((nth a0.Frame.Zo (Zu a0.Frame.Zo (nth a0.ZZ (Xn a0.ZZ p.1.Zn).toNat).Z6).toNat).qK > a0.Frame.Now))) with
      | true => simp
      | false =>
        simp only [cond_false]
        rw [show ∀ x y : Int, decide (x > y) = !decide (x <= y) from fun x y => by rw [<- decide_not]; simp]
        cases decide (nth a0.YQ (Xn a0.ZZ p.1.Zn).toNat <= W (a0.Frame.Now + 1)) <;> rfl
@[simp] theorem RG (a0 : ZG) (a1 a2 : Int) (a3 : Ze) : JZ a0 a1 a2 a3 = yK a0 a1 a2 a3 := by
  unfold JZ yK
  simp only [SM, GD, OT]
  cases hs : QF a0.Frame a2 with
  | false => cases Yw a0 a1 <;> rfl
  | true =>
    have hk : decide ((Zu a0.Frame.Zo a2) < 0) = false := by
      simp only [QF, Bool.and_eq_true, decide_eq_true_eq] at hs
      simp only [decide_eq_false_iff_not]; omega
    rw [Mk, hk]
    cases (Yw a0 a1) with
    | false => rfl
    | true =>
      simp only [Bool.not_true, Bool.or_false, Bool.false_or, cond_false, BA]
      cases (Xh a0 a2 a3 0 10000).2 with
      | false => rfl
      | true =>
        cases (YX (nth a0.ZB a1.toNat) (Xh a0 a2 a3 0 10000).1).2 <;> rfl
end Go.Mo
