/- The models of the program and of the reference agree. No condition. -/
import Derived.Test.YthbcljgpeciofaaGreatL
namespace Go.Mo
open Go.Vm
set_option linter.unusedSimpArgs false
set_option linter.unusedVariables false
/-- a loop that looks whether one of the places is bad -/
theorem GU {L : Nat -> Nat -> Sum Bool Unit} {len : Nat} {c : Nat -> Bool} (h0 : ∀ v, L 0 v = .inr ()) (hs : ∀ n v, L (n + 1) v = (bif decide ((v : Int) < (len : Int)) then (bif c v then .inl false else L n (v + 1)) else .inr ())) :
    ∀ n v, len < n + v -> (L n v = .inr () /\ ∀ i, v <= i -> i < len -> c i = false) \/ (L n v = .inl false /\ ∃ i, v <= i /\ i < len /\ c i = true)
  | 0, v, h => .inl ⟨h0 v, fun i h1 h2 => by omega⟩
  | n + 1, v, h => by
    rw [hs]
    by_cases hv : v < len
    · rw [show decide ((v : Int) < (len : Int)) = true by simpa using hv]
      cases hc : c v with
      | true => exact .inr ⟨rfl, v, Nat.le_refl _, hv, hc⟩
      | false =>
        rcases GU h0 hs n (v + 1) (by omega) with ⟨e, k⟩ | ⟨e, i, k1, k2, k3⟩
        · refine .inl ⟨e, fun i h1 h2 => ?_⟩
          rcases Nat.eq_or_lt_of_le h1 with rfl | h1
          · exact hc
          · exact k i h1 h2
        · exact .inr ⟨e, i, by omega, k2, k3⟩
    · rw [show decide ((v : Int) < (len : Int)) = false by simpa using hv]
      exact .inl ⟨rfl, fun i h1 h2 => by omega⟩
/-- a loop that looks for the first place -/
theorem xJ {β : Type} {L : Nat -> Nat -> Sum β Unit} {len : Nat} {c : Nat -> Bool} {r : Nat -> β} (h0 : ∀ v, L 0 v = .inr ()) (hs : ∀ n v, L (n + 1) v = (bif decide ((v : Int) < (len : Int)) then (bif c v then .inl (r v) else L n (v + 1)) else .inr ())) :
    ∀ n v, len < n + v -> (L n v = .inr () /\ ∀ i, v <= i -> i < len -> c i = false) \/ (∃ i, L n v = .inl (r i) /\ v <= i /\ i < len /\ c i = true /\ ∀ k, v <= k -> k < i -> c k = false)
  | 0, v, h => .inl ⟨h0 v, fun i h1 h2 => by omega⟩
  | n + 1, v, h => by
    rw [hs]
    by_cases hv : v < len
    · rw [show decide ((v : Int) < (len : Int)) = true by simpa using hv]
      cases hc : c v with
      | true => exact .inr ⟨v, rfl, Nat.le_refl _, hv, hc, fun k h1 h2 => by omega⟩
      | false =>
        rcases xJ h0 hs n (v + 1) (by omega) with ⟨e, k⟩ | ⟨i, e, k1, k2, k3, k4⟩
        · refine .inl ⟨e, fun i h1 h2 => ?_⟩
          rcases Nat.eq_or_lt_of_le h1 with rfl | h1
          · exact hc
          · exact k i h1 h2
        · refine .inr ⟨i, e, by omega, k2, k3, fun k h1 h2 => ?_⟩
          rcases Nat.eq_or_lt_of_le h1 with rfl | h1
          · exact hc
          · exact k4 k h1 h2
    · rw [show decide ((v : Int) < (len : Int)) = false by simpa using hv]
      exact .inl ⟨rfl, fun i h1 h2 => by omega⟩
/-- the same, as a Boolean -/
theorem Jb {L : Nat -> Nat -> Sum Bool Unit} {len : Nat} {c : Nat -> Bool} (h0 : ∀ v, L 0 v = .inr ()) (hs : ∀ n v, L (n + 1) v = (bif decide ((v : Int) < (len : Int)) then (bif c v then .inl false else L n (v + 1)) else .inr ())) (n v : Nat) (h : len < n + v) (X : Bool) :
    (match L n v with | .inl r => r | .inr _ => X) = true ↔ (∀ i, v <= i -> i < len -> c i = false) /\ X = true := by
  rcases GU h0 hs n v h with ⟨e, k⟩ | ⟨e, i, k1, k2, k3⟩
  · rw [e]; simp only; exact ⟨fun hx => ⟨k, hx⟩, fun hx => hx.2⟩
  · rw [e]; simp only
    constructor
    · intro hx; cases hx
    · intro hx; rw [hx.1 i k1 k2] at k3; cases k3
theorem Le {L : Nat -> Nat -> Sum Bool Unit} {len : Nat} {c : Nat -> Bool} (h0 : ∀ v, L 0 v = .inr ()) (hs : ∀ n v, L (n + 1) v = (bif decide ((v : Int) < (len : Int)) then (bif c v then .inl true else L n (v + 1)) else .inr ())) (n v : Nat) (h : len < n + v) :
    (match L n v with | .inl r => r | .inr _ => false) = true ↔ ∃ i, v <= i /\ i < len /\ c i = true := by
  rcases xJ (r := fun _ => true) h0 hs n v h with ⟨e, k⟩ | ⟨i, e, k1, k2, k3, k4⟩
  · rw [e]; simp only
    constructor
    · intro hx; cases hx
    · rintro ⟨i, h1, h2, h3⟩; rw [k i h1 h2] at h3; cases h3
  · rw [e]; exact ⟨fun _ => ⟨i, k1, k2, k3⟩, fun _ => rfl⟩
theorem GV {α : Type} [Inhabited α] {l : List α} {i n : Nat} (h : i < n) : nth (l.take n) i = nth l i := by
  unfold nth; simp [List.getD_eq_getElem?_getD, List.getElem?_take, h]
theorem Uw {α β : Type} [Inhabited α] [Inhabited β] {f : α -> β} {l : List α} {i : Nat} (h : i < l.length) : nth (l.map f) i = f (nth l i) := by
  simp [nth, List.getD_eq_getElem?_getD, List.getElem?_eq_getElem h]
@[simp] theorem wG (a0 a1 : Int) : zG a0 a1 = if a1 > a0 then a1 else a0 := by
  unfold zG; by_cases h : a1 > a0 <;> simp [h]
@[simp] theorem wB (a0 a1 : Int) : qo a0 a1 = if a1 < a0 then a1 else a0 := by
  unfold qo; by_cases h : a1 < a0 <;> simp [h]
@[simp] theorem jb (a0 a1 a2 : Int) : Z8 a0 a1 a2 = Za a0 a1 a2 := rfl
@[simp] theorem CL (a0 : List Y4) (a1 : Int) : ∀ (n : Nat) (v0 : Nat), xF a0 a1 n v0 = xD a0 a1 n v0 := by
  intro n
  induction n with
  | zero => intros; rfl
  | succ n ih => intros; simp [xF, xD, ih, ByteArray.append_assoc]
@[simp] theorem jO (a0 : List Y4) (a1 : Int) : Z0 a0 a1 = YB a0 a1 := by simp [Z0, YB]
@[simp] theorem ER (a0 : List YH) (a1 : Int) : ∀ (n : Nat) (v0 : Int) (v1 : Nat), Ke a0 a1 n v0 v1 = Kr a0 a1 n v0 v1 := by
  intro n
  induction n with
  | zero => intros; rfl
  | succ n ih => intros; simp [Ke, Kr, ih, ByteArray.append_assoc]
@[simp] theorem qz (a0 : List YH) (a1 : Int) : Z4 a0 a1 = ZX a0 a1 := by simp [Z4, ZX]
@[simp] theorem Pk (a0 : ZH) (a1 : Int) : Kt a0 a1 = Z6 a0 a1 := by simp [Kt, Z6]
@[simp] theorem DV (a0 : Zd) : Y1 a0 = KI a0 := by
  rw [Bool.eq_iff_iff]
  have hs : Y1 a0 = true ↔ _ := (Jb (L := XT a0) (fun _ => rfl) (fun _ _ => rfl) (a0.YR.length + 1) 0 (by omega) _).trans (and_congr_right fun _ => Jb (L := XN a0) (fun _ => rfl) (fun _ _ => rfl) (a0.XP.length + 1) 0 (by omega) _)
  rw [hs]
  unfold KI
  have hi : ∀ b : Bool, (bif b then false else (match Ks a0 (a0.YR.length + 1) 0 with | .inl r1 => r1 | .inr _ => true)) = true ↔ b = false /\ _ := fun b => by
    cases b
    · exact (Jb (L := Ks a0) (fun _ => rfl) (fun _ _ => rfl) (a0.YR.length + 1) 0 (by omega) true).trans (by simp only [true_and, and_true]; exact Iff.rfl)
    · simp
  refine Iff.trans ?_ (hi _).symm
  simp only [jb, Bool.or_eq_false_iff, Bool.not_eq_false', Bool.and_eq_true, beq_iff_eq, bne_eq_false_iff_eq, Bool.not_eq_eq_eq_not, Bool.not_false]
  constructor
  · rintro ⟨h1, h2, h3, h4⟩
    exact ⟨⟨h3, h4⟩, fun i _ hi => ⟨h1 i (Nat.zero_le _) hi, h2 i (Nat.zero_le _) (by omega)⟩⟩
  · rintro ⟨⟨h3, h4⟩, h⟩
    exact ⟨fun i _ hi => (h i (Nat.zero_le _) hi).1, fun i _ hi => (h i (Nat.zero_le _) (by omega)).2, h3, h4⟩
@[simp] theorem Aq (a0 : Int) (a1 : Int) : Tg a0 a1 = GH a0 a1 := by simp [Tg, GH]
@[simp] theorem Bn (a0 : List Int) : ∀ (n : Nat) (v0 : Int) (v1 : Nat), qh a0 n v0 v1 = Ul a0 n v0 v1 := by
  intro n
  induction n with
  | zero => intros; rfl
  | succ n ih => intros; simp [qh, Ul, ih, ByteArray.append_assoc]
@[simp] theorem Ak (a0 : List Int) : V9 a0 = PC a0 := by simp [V9, PC]
@[simp] theorem Mu (a0 : Int) (a1 : List Int) : Jg a0 a1 = JE a0 a1 := by simp [Jg, JE]
theorem SW (a1 : ByteArray) : ∀ (n : Nat) (p l : List Int) (v : Nat), a1.size < n + v -> v <= a1.size -> zt a1 n (p ++ l) v = p ++ zy a1.data.toList n l v := by
  intro n
  induction n with
  | zero =>
    intro p l v h hv
    omega
  | succ n ih =>
    intro p l v h nQ
    have hs : a1.size = a1.data.toList.length := (Array.length_toList).symm
    rw [zt, zy, <- hs]
    by_cases hv : v < a1.size
    · rw [show decide ((v : Int) < (a1.size : Int)) = true by simpa using hv]
      simp only [cond_true]
      rw [List.append_assoc, ih p _ (v + 1) (by omega) (by omega)]
      rfl
    · rw [show decide ((v : Int) < (a1.size : Int)) = false by simpa using hv]
      rfl
@[simp] theorem DU (a0 : Int) (a1 : ByteArray) (a2 : Int) : xT a0 a1 a2 = xX a0 a1 a2 := by
  have := SW a1 (a1.size + 1) [a2] [] 0 (by omega) (by omega)
  simp only [List.append_nil] at this
  simp only [xT, xX, qH, this, Mu]
  rfl
@[simp] theorem E6 (a0 : Int) (a1 : Zd) : ∀ (n : Nat) (v0 : List Int) (v1 : Nat), yb a0 a1 n v0 v1 = ya a0 a1 n v0 v1 := by
  intro n
  induction n with
  | zero => intros; rfl
  | succ n ih => intros; simp [yb, ya, ih, ByteArray.append_assoc]
@[simp] theorem Ug (a0 : Int) (a1 : Zd) : Qi a0 a1 = YN a0 a1 := by simp [Qi, YN]
@[simp] theorem Fh (a0 : Zm) : Xr a0 = Xf a0 := by simp [Xr, Xf]
@[simp] theorem Dk (a0 : Int) (a1 : List Int) : J0 a0 a1 = qm a0 a1 := by simp [J0, qm]
@[simp] theorem Cp (a0 : Y4) (a1 : List Int) : zu a0 a1 = kE a0 a1 := by simp [zu, kE]
@[simp] theorem Ec (a0 : Zm) : yZ a0 = yX a0 := by simp [yZ, yX]
@[simp] theorem OI (a0 : List Y4) (a1 : Zm) : JJ a0 a1 = Ys a0 a1 := by
  by_cases h : YB a0 a1.Key < 0 <;> simp [JJ, Ys, KD, h]
@[simp] theorem N9 (a0 : Zm) : K2 a0 = X5 a0 := by simp [K2, X5]
@[simp] theorem Ct (a0 : Ye) : KX a0 = KY a0 := by simp [KX, KY]
@[simp] theorem MO (a0 : Ye) : xG a0 = Qh a0 := by simp [xG, Qh]
@[simp] theorem DX (a0 : ZF) (a1 : Int) : ∀ (n : Nat) (v0 : Nat), yN a0 a1 n v0 = KG a0 a1 n v0 := by
  intro n
  induction n with
  | zero => intros; rfl
  | succ n ih => intros; simp [yN, KG, ih, ByteArray.append_assoc]
@[simp] theorem LN (a0 : ZF) (a1 : Int) : Yo a0 a1 = ZU a0 a1 := by simp [Yo, ZU]
@[simp] theorem Bq (a0 : Int) : qq a0 = Kd a0 := rfl
@[simp] theorem V0 (a0 a1 : List Int) : J8 a0 a1 = decide (a0 = a1) := HZ (F := qb a0 a1) (c := fun i => (nth a0 i) != (nth a1 i)) (fun i => by simp [bne, Bool.beq_eq_decide_eq]) (fun _ => rfl) (fun _ _ => rfl)
@[simp] theorem Dw (a0 a1 : List Int) : kP a0 a1 = decide (a0 = a1) := HZ (F := qY a0 a1) (c := fun i => (nth a0 i) != (nth a1 i)) (fun i => by simp [bne, Bool.beq_eq_decide_eq]) (fun _ => rfl) (fun _ _ => rfl)
@[simp] theorem Rz (a0 a1 : Zf) : JQ a0 a1 = decide (a0 = a1) := by
  obtain ⟨t, p, s⟩ := a0; obtain ⟨t', p', s'⟩ := a1
  by_cases h1 : t = t' <;> by_cases h2 : p = p' <;> by_cases h3 : s = s' <;> simp_all [JQ]
@[simp] theorem DH (a0 a1 : Zf) : zQ a0 a1 = decide (a0 = a1) := by
  obtain ⟨t, p, s⟩ := a0; obtain ⟨t', p', s'⟩ := a1
  by_cases h1 : t = t' <;> by_cases h2 : p = p' <;> by_cases h3 : s = s' <;> simp_all [zQ]
theorem VM (a0 : Zi) {k : Nat} (hk : k < a0.ZO.length) : decide (y7 a0 (nth a0.ZO k) < (k : Int)) = jq (a0.ZO.take k) (nth a0.ZO k) := by
  rw [Bool.eq_iff_iff]
  have hi : jq (a0.ZO.take k) (nth a0.ZO k) = true ↔ _ := Le (L := jK (a0.ZO.take k) (nth a0.ZO k)) (fun _ => rfl) (fun _ _ => rfl) _ 0 (by omega)
  rw [hi]
  unfold y7
  have hl : (a0.ZO.take k).length = k := by simp; omega
  rw [hl]
  rcases xJ (L := qf a0 (nth a0.ZO k)) (r := fun i => (i : Int)) (fun _ => rfl) (fun _ _ => rfl) (a0.ZO.length + 1) 0 (by omega) with ⟨e, p⟩ | ⟨i, e, p1, p2, p3, p4⟩
  · have := p k (Nat.zero_le _) hk
    simp at this
  · rw [e]
    simp only [decide_eq_true_eq]
    constructor
    · intro h
      exact ⟨i, Nat.zero_le _, by omega, by rw [GV (by omega)]; simpa using p3⟩
    · rintro ⟨j, _, hj, hc⟩
      rw [GV hj] at hc
      rcases Nat.lt_or_ge j i with h | h
      · have := p4 j (Nat.zero_le _) h; simp at this hc; exact absurd hc this
      · omega
@[simp] theorem Cu (a0 : Zi) : K4 a0 = Xp a0 := by
  rw [Bool.eq_iff_iff]
  have hs : K4 a0 = true ↔ _ := (Jb (L := yI a0) (fun _ => rfl) (fun _ _ => rfl) (a0.ZO.length + 1) 0 (by omega) _).trans (and_congr_right fun _ => Jb (L := yC a0) (fun _ => rfl) (fun _ _ => rfl) (a0.Zj.length + 1) 0 (by omega) _)
  rw [hs]
  unfold Xp
  have hi : ∀ b : Bool, (bif b then false else (match z7 a0 (a0.ZO.length + 1) 0 with | .inl r1 => r1 | .inr _ => (match yK a0 (a0.Zj.length + 1) 0 with | .inl r2 => r2 | .inr _ => true))) = true ↔ b = false /\ _ := fun b => by
    cases b
    · exact ((Jb (L := z7 a0) (fun _ => rfl) (fun _ _ => rfl) (a0.ZO.length + 1) 0 (by omega) _).trans (and_congr_right fun _ => Jb (L := yK a0) (fun _ => rfl) (fun _ _ => rfl) (a0.Zj.length + 1) 0 (by omega) true)).trans (by simp only [true_and, and_true]; exact Iff.rfl)
    · simp
  refine Iff.trans ?_ (hi _).symm
  simp only [jb, Bool.or_eq_false_iff, Bool.not_eq_false', Bool.and_eq_true, Bool.not_eq_eq_eq_not, Bool.not_false]
  constructor
  · rintro ⟨h1, h2, h3, h4⟩
    exact ⟨⟨h3, by simpa using h4⟩, fun i hz hi => by rw [<- VM a0 hi]; exact h1 i hz hi, fun i hz hi => by simpa using h2 i hz hi⟩
  · rintro ⟨⟨h3, h4⟩, h1, h2⟩
    exact ⟨fun i hz hi => by rw [VM a0 hi]; exact h1 i hz hi, fun i hz hi => by simpa using h2 i hz hi, h3, by simpa using h4⟩
@[simp] theorem B5 (a0 : ZZ) : Vu a0 = JF a0 := by simp [Vu, JF]
@[simp] theorem Ep (a0 : ZF) : ∀ (n : Nat) (v0 : Nat), yV a0 n v0 = zR a0 n v0 := by
  intro n
  induction n with
  | zero => intros; rfl
  | succ n ih => intros; simp [yV, zR, ih, ByteArray.append_assoc]
@[simp] theorem UD (a0 : ZF) : Xm a0 = YC a0 := by simp [Xm, YC]
theorem SS {l : List ZZ} {i : Nat} (h : i < l.length) : l.drop i = nth l i :: l.drop (i + 1) := by
  rw [List.drop_eq_getElem_cons h]; simp [nth, List.getD_eq_getElem?_getD, List.getElem?_eq_getElem h]
theorem Bz (a0 : ZF) (a1 : ZZ) : ∀ (m i : Nat) (l : List ZZ), a0.ZC.length < m + i -> i <= a0.ZC.length -> Xq a0 a1 m true i l = (true, l ++ a0.ZC.drop i)
  | 0, i, l, h, hi => by omega
  | m + 1, i, l, h, hi => by
    simp only [Xq]
    cases hc : decide ((i : Int) < (a0.ZC.length : Int)) with
    | false =>
      have : ¬ i < a0.ZC.length := by simpa using hc
      simp only [cond_false]; rw [List.drop_eq_nil_of_le (by omega)]; simp
    | true =>
      have uL : i < a0.ZC.length := by simpa using hc
      simp only [cond_true, Bool.not_true, Bool.false_and, cond_false]
      rw [Bz a0 a1 m (i + 1) _ (by omega) uL, SS uL]; simp
theorem B9 (a0 : ZF) (a1 : ZZ) (uD : ∀ k, k < a0.ZC.length -> (nth a0.ZC k).Id ≠ a1.Id) : ∀ (m i : Nat) (l : List ZZ), a0.ZC.length < m + i -> i <= a0.ZC.length ->
    i <= Yx a0 a1 m i /\ Yx a0 a1 m i <= a0.ZC.length /\
    Xq a0 a1 m false i l = (bif decide (Yx a0 a1 m i < a0.ZC.length) then (true, l ++ (a0.ZC.take (Yx a0 a1 m i)).drop i ++ [a1] ++ a0.ZC.drop (Yx a0 a1 m i)) else (false, l ++ a0.ZC.drop i))
  | 0, i, l, h, hi => by omega
  | m + 1, i, l, h, hi => by
    by_cases uL : i < a0.ZC.length
    · have hc : decide ((i : Int) < (a0.ZC.length : Int)) = true := by simpa using uL
      have hn := uD i uL
      by_cases pg : a1.Id < (nth a0.ZC i).Id
      · have e1 : Yx a0 a1 (m + 1) i = i := by
          simp only [Yx, hc, show decide ((nth a0.ZC i).Id < a1.Id) = false by simp; omega, Bool.true_and, cond_false]
        rw [e1]
        refine ⟨Nat.le_refl _, by omega, ?_⟩
        simp only [Xq, hc, show decide (a1.Id < (nth a0.ZC i).Id) = true by simpa using pg, Bool.not_false, Bool.true_and, cond_true]
        rw [Bz a0 a1 m (i + 1) _ (by omega) uL, show decide (i < a0.ZC.length) = true by simpa using uL, SS uL, List.drop_eq_nil_of_le (as := a0.ZC.take i) (by rw [List.length_take]; omega)]
        simp
      · have h2 : (nth a0.ZC i).Id < a1.Id := by omega
        have e1 : Yx a0 a1 (m + 1) i = Yx a0 a1 m (i + 1) := by
          simp only [Yx, hc, show decide ((nth a0.ZC i).Id < a1.Id) = true by simpa using h2, Bool.true_and, cond_true]
        rw [e1]
        obtain ⟨k1, k2, k3⟩ := B9 a0 a1 uD m (i + 1) (l ++ [nth a0.ZC i]) (by omega) uL
        refine ⟨by omega, k2, ?_⟩
        simp only [Xq, hc, show decide (a1.Id < (nth a0.ZC i).Id) = false by simpa using pg, Bool.not_false, Bool.true_and, cond_true, cond_false]
        rw [k3]
        have ht : (a0.ZC.take (Yx a0 a1 m (i + 1))).drop i = nth a0.ZC i :: (a0.ZC.take (Yx a0 a1 m (i + 1))).drop (i + 1) := by
          have ov : i < (a0.ZC.take (Yx a0 a1 m (i + 1))).length := by simp; omega
          rw [SS ov]
          congr 1
          simp only [nth, List.getD_eq_getElem?_getD]
          rw [List.getElem?_take_of_lt (by omega)]
        rw [ht, SS uL]
        cases decide (Yx a0 a1 m (i + 1) < a0.ZC.length) <;> simp
    · have hc : decide ((i : Int) < (a0.ZC.length : Int)) = false := by simpa using uL
      have e1 : Yx a0 a1 (m + 1) i = i := by simp only [Yx, hc, Bool.false_and, cond_false]
      rw [e1]
      refine ⟨Nat.le_refl _, by omega, ?_⟩
      simp only [Xq, hc, cond_false]
      rw [show decide (i < a0.ZC.length) = false by simpa using uL, List.drop_eq_nil_of_le (as := a0.ZC.take i) (by rw [List.length_take]; omega)]; simp; omega
theorem Pv {a0 : ZF} {s : Int} (h : ZU a0 s < 0) : ∀ k, k < a0.ZC.length -> (nth a0.ZC k).Id ≠ s := by
  unfold ZU at h
  intro k hk
  rcases xJ (β := Int) (L := KG a0 s) (len := a0.ZC.length) (c := fun v => (nth a0.ZC v).Id == s) (r := fun v => (v : Int)) (fun _ => rfl) (fun _ _ => rfl) (a0.ZC.length + 1) 0 (by omega) with ⟨e, h2⟩ | ⟨i, e, _, _, hc, _⟩
  · simpa using h2 k (Nat.zero_le _) hk
  · rw [e] at h; simp at h; omega
@[simp] theorem ID (a0 : ZF) (a1 : ZZ) : Q9 a0 a1 = YI a0 a1 := by
  simp only [Q9, YI, UD, LN]
  rw [Bool.or_comm]
  cases hc : (decide (ZU a0 a1.Id >= 0) || !YC a0) with
  | true => rfl
  | false =>
    have hf : ZU a0 a1.Id < 0 := by simp at hc; exact hc.1
    obtain ⟨_, k2, k3⟩ := B9 a0 a1 (Pv hf) (a0.ZC.length + 1) 0 [] (by omega) (Nat.zero_le _)
    simp only [cond_false]
    rw [k3]
    generalize Yx a0 a1 (a0.ZC.length + 1) 0 = z at k2 ⊢
    by_cases hz : z < a0.ZC.length
    · rw [show decide (z < a0.ZC.length) = true by simpa using hz]
      simp
    · rw [show decide (z < a0.ZC.length) = false by simpa using hz]
      have sn : z = a0.ZC.length := by omega
      subst sn
      simp
def OU (a0 : ZH) (a2 : Int) (a3 : Zd) (a4 : Int) (v : Nat) : Zm × Bool := Ys a0.Frame.Zk (Zm.mk a2 (nth a0.ZR v).ZV (ZX a0.Frame.Methods a0.Frame.Now) (YN (ZX a0.Frame.Methods a0.Frame.Now) a3) 1 a4 0 0 0)
def Tr (a0 : ZH) (a2 : Int) (a3 : Zd) (a4 a5 : Int) (v : Nat) : ZZ := ZZ.mk a0.Next a5 a3 (OU a0 a2 a3 a4 v).1 (Zi.mk ([(X5 (OU a0 a2 a3 a4 v).1), (Qh (nth a0.ZR v))] : List Zf) ([] : List Zc))
def UY (a0 : ZH) (a1 : Int) (it : ZZ) : ZH := ZH.mk a0.Frame a0.ZR a0.Zu (a0.ZA.set a1.toNat (YI (nth a0.ZA a1.toNat) it).1) a0.YG a0.YW (W (a0.Next + 1)) a0.Yk
def En (a0 : ZH) (a1 : Int) (b : Bool) (it : ZZ) : ZH × Bool := bif (!b) || !(YI (nth a0.ZA a1.toNat) it).2 then (a0, false) else (UY a0 a1 it, true)
theorem Lv (a0 : ZH) (a1 a2 : Int) (a3 : Zd) (a4 a5 : Int) :
    ∀ (m v : Nat), (match QP a0 a1 a2 a3 a4 a5 m v with | .inl r1 => r1 | .inr _ => (a0, false)) = (match Qq a0 a2 m v with | .inl k => En a0 a1 (OU a0 a2 a3 a4 k.toNat).2 (Tr a0 a2 a3 a4 a5 k.toNat) | .inr _ => (a0, false))
  | 0, v => rfl
  | m + 1, v => by
    have ih := Lv a0 a1 a2 a3 a4 a5 m (v + 1)
    simp only [QP, Qq]
    cases decide ((v : Int) < (a0.ZR.length : Int)) with
    | false => rfl
    | true =>
      simp only [cond_true, bne]
      cases ((nth a0.ZR v).Key == a2) with
      | false => exact ih
      | true =>
        simp only [cond_true, cond_false, Bool.not_true]
        rw [show ((v : Int)).toNat = v from rfl]
        show (match (bif ((!(OU a0 a2 a3 a4 v).2) || !(YI (nth a0.ZA a1.toNat) (Tr a0 a2 a3 a4 a5 v)).2) then (Sum.inl (a0, false) : Sum (ZH × Bool) Unit) else .inl (UY a0 a1 (Tr a0 a2 a3 a4 a5 v), true)) with | .inl r1 => r1 | .inr _ => (a0, false)) = En a0 a1 (OU a0 a2 a3 a4 v).2 (Tr a0 a2 a3 a4 a5 v)
        unfold En
        cases ((!(OU a0 a2 a3 a4 v).2) || !(YI (nth a0.ZA a1.toNat) (Tr a0 a2 a3 a4 a5 v)).2) <;> rfl
theorem EO (a0 : ZH) (a2 : Int) : ∀ (m v : Nat), Qq a0 a2 m v = .inr () \/ ∃ k : Nat, Qq a0 a2 m v = .inl (k : Int)
  | 0, v => .inl rfl
  | m + 1, v => by
    have ih := EO a0 a2 m (v + 1)
    simp only [Qq]
    cases decide ((v : Int) < (a0.ZR.length : Int)) with
    | false => exact .inl rfl
    | true =>
      cases ((nth a0.ZR v).Key == a2) with
      | false => exact ih
      | true => exact .inr ⟨v, rfl⟩
theorem IS (a0 : ZH) (a1 : Int) (a2 : Zd) (a3 a4 : Int) : Xx a0 a1 a2 a3 a4 = bif ((decide ((ZX a0.Frame.Methods a0.Frame.Now) < 0)) || (decide ((XG a0 a1) < 0))) then ((ZZ.mk 0 0 (Zd.mk 0 ([] : List ByteArray) ([] : List Int)) (Zm.mk 0 0 0 0 0 0 0 0 0) (Zi.mk ([] : List Zf) ([] : List Zc))), false) else (Tr a0 a1 a2 a3 a4 (XG a0 a1).toNat, (OU a0 a1 a2 a3 (XG a0 a1).toNat).2) := by
  unfold Xx
  simp only [qz, OI, Ug, N9, MO]
  rfl
theorem HU (a0 : ZH) (a1 a2 : Int) (a3 : Zd) (a4 a5 : Int) : Qk a0 a1 a2 a3 a4 a5 = bif ((!(Z6 a0 a1)) || (decide ((YB a0.Frame.Zk a2) < 0))) then (a0, false) else En a0 a1 (Xx a0 a2 a3 a4 a5).2 (Xx a0 a2 a3 a4 a5).1 := by
  unfold Qk
  cases ((!(Z6 a0 a1)) || (decide ((YB a0.Frame.Zk a2) < 0))) with
  | true => rfl
  | false =>
    rw [IS]
    simp only [Bool.false_or, cond_false]
    refine Eq.trans (congrArg (fun z => bif decide ((ZX a0.Frame.Methods a0.Frame.Now) < 0) then (a0, false) else z) (Lv a0 a1 a2 a3 a4 a5 (a0.ZR.length + 1) 0)) ?_
    cases decide ((ZX a0.Frame.Methods a0.Frame.Now) < 0) with
    | true => rfl
    | false =>
      simp only [Bool.false_or, cond_false]
      rcases EO a0 a2 (a0.ZR.length + 1) 0 with h | ⟨k, h⟩
      · rw [h, show XG a0 a2 = -1 by unfold XG; rw [h]]; rfl
      · rw [h, show XG a0 a2 = (k : Int) by unfold XG; rw [h]]
        rw [show decide ((k : Int) < 0) = false by simp only [decide_eq_false_iff_not]; omega]
        rfl
theorem C9 (a0 : ZH) (a1 : Int) (b : Bool) (it : ZZ) : (bif !b then (a0, false) else (bif !(YI (nth a0.ZA a1.toNat) it).2 then (a0, false) else (UY a0 a1 it, true))) = En a0 a1 b it := by
  unfold En
  cases b <;> rfl
@[simp] theorem Mf (a0 : ZH) (a1 a2 : Int) (a3 : Zd) (a4 a5 : Int) : Z3 a0 a1 a2 a3 a4 a5 = XK a0 a1 a2 a3 a4 a5 := by
  unfold Z3 XK
  simp only [Pk, jO, ID]
  rw [HU, <- C9]
  cases decide ((YB a0.Frame.Zk a2) < 0) <;> cases (Z6 a0 a1) <;> cases decide ((nth a0.Frame.Zk (YB a0.Frame.Zk a2).toNat).qN > a0.Frame.Now) <;> rfl
@[simp] theorem Da (a0 : Int) : yL a0 = xu a0 := by simp [yL, xu]
@[simp] theorem Co (a0 : Ye) : qD a0 = qL a0 := by simp [qD, qL]
@[simp] theorem Br (a0 : jI) : Vv a0 = Un a0 := by simp [Vv, Un]
@[simp] theorem Bp (a0 : Ye) : Ub a0 = V5 a0 := by simp [Ub, V5]
@[simp] theorem DZ (a0 : List Ye) (a1 : Int) : ∀ (n : Nat) (v0 : Nat), z5 a0 a1 n v0 = zB a0 a1 n v0 := by
  intro n
  induction n with
  | zero => intros; rfl
  | succ n ih => intros; simp [z5, zB, ih, ByteArray.append_assoc]
@[simp] theorem Mt (a0 : List Ye) (a1 : Int) : Zh a0 a1 = XU a0 a1 := by simp [Zh, XU]
theorem Sf (a0 : List Int) (a1 : Int) : Jd a0 a1 = true ↔ ∃ i, 0 <= i /\ i < a0.length /\ (nth a0 i == a1) = true := by
  unfold Jd Uy
  rcases xJ (L := kq a0 a1) (r := fun i => (i : Int)) (fun _ => rfl) (fun _ _ => rfl) (a0.length + 1) 0 (by omega) with ⟨e, p⟩ | ⟨i, e, p1, p2, p3, p4⟩
  · rw [e]
    constructor
    · intro h; simp at h
    · rintro ⟨i, h1, h2, h3⟩; have := p i h1 h2; rw [h3] at this; cases this
  · rw [e]
    exact ⟨fun _ => ⟨i, p1, p2, p3⟩, fun _ => by simp⟩
@[simp] theorem Fl (a0 : List Int) (a1 : Int) : On a0 a1 = Jd a0 a1 := by
  rw [Bool.eq_iff_iff, Sf]
  exact Le (L := Uq a0 a1) (fun _ => rfl) (fun _ _ => rfl) (a0.length + 1) 0 (by omega)
@[simp] theorem Gs (a0 : List Zr) (a1 : Int) : ∀ (n : Nat) (v0 : Nat), Q8 a0 a1 n v0 = QT a0 a1 n v0 := by
  intro n
  induction n with
  | zero => intros; rfl
  | succ n ih => intros; simp [Q8, QT, ih, ByteArray.append_assoc]
@[simp] theorem yw (a0 : List Zr) (a1 : Int) : Zg a0 a1 = ZW a0 a1 := by simp [Zg, ZW]
@[simp] theorem CY (a0 : Zo) : JU a0 = Q4 a0 := by simp [JU, Q4]
@[simp] theorem GK (a1 : Zc) : ∀ (n : Nat) (v0 : List Int) (v1 : Nat), J9 a1 n v0 v1 = KK a1 n v0 v1 := by
  intro n
  induction n with
  | zero => intros; rfl
  | succ n ih => intros; simp [J9, KK, ih, ByteArray.append_assoc]
@[simp] theorem Hf (a1 : Zc) : ∀ (n : Nat) (v0 : List Int) (v1 : Nat), Q7 a1 n v0 v1 = JB a1 n v0 v1 := by
  intro n
  induction n with
  | zero => intros; rfl
  | succ n ih => intros; simp [Q7, JB, ih, ByteArray.append_assoc]
@[simp] theorem Tv (a0 : Int) (a1 : Zc) : Ju a0 a1 = JD a0 a1 := by simp [Ju, JD]
@[simp] theorem G0 (a0 : Int) (a1 : List Zf) : ∀ (n : Nat) (v0 : List Int) (v1 : Nat), Kk a0 a1 n v0 v1 = Kj a0 a1 n v0 v1 := by
  intro n
  induction n with
  | zero => intros; rfl
  | succ n ih => intros; simp [Kk, Kj, ih, ByteArray.append_assoc]
@[simp] theorem F8 (a0 : Int) (a1 : List Zf) : Kf a0 a1 = Qt a0 a1 := by simp [Kf, Qt]
@[simp] theorem Gg (a0 : Int) (a1 : Int) (a2 : List Zf) (a3 : Int) : Wj a0 a1 a2 a3 = WU a0 a1 a2 a3 := by simp [Wj, WU]
theorem Re (a0 : Zi) (a1 : Zd) : JM a0 a1 = a0.Zj.map (fun c => Qi c.Method a1) := by
  have := H0 (as := a0.Zj) (fun c => [Qi c.Method a1]) (F := fun n i l => Kv a0 a1 n l i) (fun _ _ _ => rfl) (a0.Zj.length + 1) 0 [] (by omega) (Nat.zero_le _)
  unfold JM
  rw [this, List.drop_zero, GY]; rfl
theorem GD {α : Type} [Inhabited α] (l : List α) (x : α) : nth (l ++ [x]) l.length = x := by simp [nth]
theorem Fo {α : Type} [Inhabited α] (l : List α) (x : α) {i : Nat} (h : i < l.length) : nth (l ++ [x]) i = nth l i := by simp [nth, List.getD_eq_getElem?_getD, List.getElem?_append_left h]
theorem Dj (x : ZZ) (a1 : Int) (h : Sm maxLen x) (r : Zc) (hr : r = Zc.mk (x.ZM.ZO.length : Int) a1 0 [] []) :
    UP (Zi.mk x.ZM.ZO (x.ZM.Zj ++ [r])) (JM (Zi.mk x.ZM.ZO (x.ZM.Zj ++ [r])) x.Doc) (W (((x.ZM.Zj ++ [r]).length : Int) - 1)) = Wq x a1 := by
  have hl : x.ZM.Zj.length <= maxLen := XZ (Zi.j0 (ZZ.JY h))
  have hm : maxLen = 9223372036854775807 := by decide
  have e1 : W (((x.ZM.Zj ++ [r]).length : Int) - 1) = (x.ZM.Zj.length : Int) := by
    rw [List.length_append, List.length_singleton, show ((x.ZM.Zj.length + 1 : Nat) : Int) - 1 = (x.ZM.Zj.length : Int) by omega, Xc]; omega
  have e2 : nth (x.ZM.Zj ++ [r]) x.ZM.Zj.length = r := GD _ _
  have e3 : nth ((x.ZM.Zj ++ [r]).map (fun c => YN c.Method x.Doc)) x.ZM.Zj.length = YN r.Method x.Doc := by rw [List.map_append]; have := GD (x.ZM.Zj.map (fun c => YN c.Method x.Doc)) (YN r.Method x.Doc); rw [List.length_map] at this; exact this
  have e4 : r.Count = (x.ZM.ZO.length : Int) := by rw [hr]
  have e5 : r.Method = a1 := by rw [hr]
  unfold UP Wq
  rw [e1, Re]
  simp only [Int.toNat_natCast, e1, e2, e3, e4, e5, jb, Za, List.length_map, bne_self_eq_false, Int.le_refl, decide_true, Bool.and_true, Int.natCast_nonneg, Bool.not_true, Bool.or_false, cond_false, List.take_length, Gg, Ug, Tv]
  by_cases hz : 0 < x.ZM.Zj.length
  · have e6 : W ((x.ZM.Zj.length : Int) - 1) = ((x.ZM.Zj.length - 1 : Nat) : Int) := by rw [D1 _ (by omega)]; omega
    rw [e6, Int.toNat_natCast, Fo _ _ (by omega)]
  · have : decide ((x.ZM.Zj.length : Int) > 0) = false := decide_eq_false (by omega)
    rw [this, Y8, Y8]
theorem PS (a0 : ZF) (a1 : Int) (h : Sm maxLen a0) : ∀ n l i, zK a0 a1 n l i = zJ a0 a1 n l i
  | 0, _, _ => rfl
  | n + 1, l, i => by simp only [zK, zJ, PS a0 a1 h n, Dj (nth a0.ZC i) a1 (YU (ZF.Yn h)) _ rfl]
@[simp] theorem UH (a0 : ZF) (a1 : Int) (h : Sm maxLen a0) : Yw a0 a1 = Y6 a0 a1 := by
  simp only [Yw, Y6, PS a0 a1 h]
@[simp] theorem OK (a0 : Int) (a1 : Int) (a2 : Int) : xV a0 a1 a2 = xY a0 a1 a2 := by simp [xV, xY]
theorem SX (a0 : Int) (a1 : List Int) : ∀ n v i, yQ a0 a1 n v i = QZ a0 a1 n v i
  | 0, _, _ => rfl
  | n + 1, v, i => by simp only [yQ, QZ, SX a0 a1 n, OK]
@[simp] theorem FG (a0 : Int) (a1 : List Int) : qa a0 a1 = Qs a0 a1 := by simp only [qa, Qs, SX]
@[simp] theorem DT (a0 : Int) : ∀ (n : Nat) (v0 : List Int), xP a0 n v0 = xW a0 n v0 := by
  intro n
  induction n with
  | zero => intros; rfl
  | succ n ih => intros; simp [xP, xW, ih, ByteArray.append_assoc]
@[simp] theorem Tf (a0 : Int) (a1 : List Int) : Jj a0 a1 = y0 a0 a1 := by simp [Jj, y0]
@[simp] theorem HL (a0 : ZF) (a1 : Int) (h : Sm maxLen a0) : Kq a0 a1 = XR a0 a1 := by
  simp only [Kq, XR, UH a0 a1 h, Tf]
@[simp] theorem Nq (a0 : List Y4) (a1 : List Zr) (a2 : Zo) : KB a0 a1 a2 = JV a0 a1 a2 := by
  simp [KB, JV, KD]
  cases h : decide (YB a0 (nth a1 (ZW a1 a2.Authority).toNat).Key < 0) <;> simp
theorem VN (a0 : Int) : ∀ n i o l, JO a0 n i o l = JN a0 n l i o
  | 0, _, _, _ => rfl
  | n + 1, i, o, l => by simp only [JO, JN, VN a0 n, FG]
@[simp] theorem Mb (a0 : Int) (a1 : List Int) (a2 : Int) : Jk a0 a1 a2 = X3 a0 a1 a2 := by
  simp only [Jk, X3, VN, jb]
  rw [Bool.or_comm]
@[simp] theorem P8 (a0 : Zi) (a1 : Zc) : QY a0 a1 = XF a0 a1 := by simp [QY, XF]
theorem SC (a0 : ZF) (a1 : Int) (a2 : List Zo) (n v : Nat) (l : List ZZ) : XM a0 a1 a2 (n + 1) false v l = (false, l) := by
  simp only [XM, Bool.and_false, Y8]
theorem L7 (a0 : ZF) (a1 : Int) (a2 : List Zo) (h : Sm maxLen a0) : ∀ n v l, a0.ZC.length < n + v -> v <= a0.ZC.length -> (∃ z, XA a0 a1 a2 n v l = .inr z /\ XM a0 a1 a2 n true v l = (true, z)) \/ (XA a0 a1 a2 n v l = .inl (a0, false) /\ (XM a0 a1 a2 n true v l).1 = false)
  | 0, v, l, h1, h2 => by omega
  | n + 1, v, l, h1, h2 => by
    simp only [XM, XA, Bool.and_true, XR, UH a0 a1 h, Tf, Mb, P8]
    by_cases hi : v < a0.ZC.length
    · rw [show decide ((v : Int) < (a0.ZC.length : Int)) = true by simpa using hi, Xh, Xh]
      cases hb : (XF (nth a0.ZC v).ZM (Zc.mk ((nth a0.ZC v).ZM.ZO.length : Int) a1 (y0 a1 (Y6 a0 a1)) (X3 a1 (Y6 a0 a1) (v : Int)) a2)).2
      · obtain ⟨m, rfl⟩ : ∃ m, n = m + 1 := ⟨n - 1, by omega⟩
        rw [SC]
        exact .inr ⟨rfl, rfl⟩
      · exact L7 a0 a1 a2 h n (v + 1) _ (by omega) hi
    · rw [show decide ((v : Int) < (a0.ZC.length : Int)) = false by simpa using hi, Y8, Y8]
      exact .inl ⟨l, rfl, rfl⟩
@[simp] theorem Rm (a0 : ZF) (a1 : Int) (a2 : List Zo) (h : Sm maxLen a0) : XV a0 a1 a2 = Yl a0 a1 a2 := by
  unfold XV Yl
  simp only [UD]
  by_cases hl : 0 < a0.ZC.length
  · have e1 : decide ((a0.ZC.length : Int) > 0) = true := decide_eq_true (by omega)
    have e2 : ((a0.ZC.length : Int) == 0) = false := beq_eq_false_iff_ne.2 (by omega)
    rw [e1, e2]
    cases YC a0
    · rw [Bool.false_and, SC]; rfl
    · rcases L7 a0 a1 a2 h (a0.ZC.length + 1) 0 a0.ZC (by omega) (Nat.zero_le _) with ⟨z, q1, q2⟩ | ⟨q1, q2⟩
      · rw [Bool.true_and, q1, q2]; rfl
      · rw [Bool.true_and, q1]
        generalize XM a0 a1 a2 (a0.ZC.length + 1) true 0 a0.ZC = p at q2 ⊢
        obtain ⟨p1, p2⟩ := p
        simp only at q2; subst q2; rfl
  · have e1 : decide ((a0.ZC.length : Int) > 0) = false := decide_eq_false (by omega)
    have e2 : ((a0.ZC.length : Int) == 0) = true := beq_iff_eq.2 (by omega)
    rw [e1, e2, Bool.and_false, SC]; rfl
theorem jl {a : List Zr} {d : Int} (h : 0 <= ZW a d) : (nth a (ZW a d).toNat).Id = d := by
  unfold ZW at h ⊢
  rcases xJ (L := QT a d) (len := a.length) (c := fun i => (nth a i).Id == d) (r := fun i => (i : Int)) (fun _ => rfl) (fun _ _ => rfl) (a.length + 1) 0 (by omega) with ⟨e, _⟩ | ⟨i, e, _, _, k, _⟩
  · rw [e] at h; simp at h
  · rw [e]; simpa using k
def Ps (a0 : ZH) (d : Int) : Bool := !((decide (ZW a0.Frame.ZD d < 0) || decide (ZW a0.Frame.ZD d >= (a0.YG.length : Int))) || (decide (YB a0.Frame.Zk (nth a0.Frame.ZD (ZW a0.Frame.ZD d).toNat).Key < 0) || decide ((nth a0.Frame.Zk (YB a0.Frame.Zk (nth a0.Frame.ZD (ZW a0.Frame.ZD d).toNat).Key).toNat).qN > a0.Frame.Now)))
theorem Wu (a0 : ZH) (a1 : List Int) : J4 a0 a1 = true ↔ (∀ i, 0 <= i -> i < a1.length -> Ps a0 (nth a1 i) = true /\ (0 < i -> nth a1 (i - 1) < nth a1 i)) /\ 0 < a1.length := by
  have := Jb (L := zp a0 a1) (len := a1.length) (c := fun v => (((decide ((Zg a0.Frame.ZD (nth a1 v)) < 0)) || (decide ((Zg a0.Frame.ZD (nth a1 v)) >= (a0.YG.length : Int)))) || ((decide ((v : Int) > 0)) && (decide ((nth a1 (v - 1)) >= (nth a1 v))))) || ((decide ((Z0 a0.Frame.Zk (nth a0.Frame.ZD (Zg a0.Frame.ZD (nth a1 v)).toNat).Key) < 0)) || (decide ((nth a0.Frame.Zk (Z0 a0.Frame.Zk (nth a0.Frame.ZD (Zg a0.Frame.ZD (nth a1 v)).toNat).Key).toNat).qN > a0.Frame.Now))))
    (fun _ => rfl) (fun n v => by
      simp only [zp]
      cases (((decide ((Zg a0.Frame.ZD (nth a1 v)) < 0)) || (decide ((Zg a0.Frame.ZD (nth a1 v)) >= (a0.YG.length : Int)))) || ((decide ((v : Int) > 0)) && (decide ((nth a1 (v - 1)) >= (nth a1 v))))) <;> rfl) (a1.length + 1) 0 (by omega) (decide ((a1.length : Int) > 0))
  unfold J4
  refine Iff.trans this ?_
  constructor
  · rintro ⟨h1, h2⟩
    refine ⟨fun i h0 hi => ?_, by simpa using h2⟩
    have := h1 i h0 hi
    simp only [yw, jO, Bool.or_eq_false_iff, Bool.and_eq_false_iff, decide_eq_false_iff_not] at this
    obtain ⟨⟨⟨q1, q2⟩, q3⟩, q4, q5⟩ := this
    refine ⟨?_, fun h => ?_⟩
    · simp only [Ps, Bool.not_eq_true', Bool.or_eq_false_iff, decide_eq_false_iff_not]; exact ⟨⟨q1, q2⟩, q4, q5⟩
    · rcases q3 with q3 | q3 <;> omega
  · rintro ⟨h1, h2⟩
    refine ⟨fun i h0 hi => ?_, by simpa using h2⟩
    obtain ⟨q, q3⟩ := h1 i h0 hi
    simp only [Ps, Bool.not_eq_true', Bool.or_eq_false_iff, decide_eq_false_iff_not] at q
    simp only [yw, jO, Bool.or_eq_false_iff, Bool.and_eq_false_iff, decide_eq_false_iff_not]
    refine ⟨⟨q.1, ?_⟩, q.2⟩
    by_cases hz : 0 < i
    · right; have := q3 hz; omega
    · left; omega
theorem Nw (a1 : List Int) : Qg a1 = true ↔ ∀ i, 0 < i -> i < a1.length -> nth a1 (i - 1) < nth a1 i := by
  have := Jb (L := qQ a1) (len := a1.length) (c := fun v => decide ((nth a1 (v - 1)) >= (nth a1 v))) (fun _ => rfl) (fun _ _ => rfl) (a1.length + 1) 1 (by omega) true
  unfold Qg
  refine Iff.trans this ?_
  simp only [decide_eq_false_iff_not, and_true]
  exact ⟨fun h i h0 hi => by have := h i h0 hi; omega, fun h i h0 hi => by have := h i h0 hi; omega⟩
theorem R0 {a1 : List Int} (h : ∀ i, 0 < i -> i < a1.length -> nth a1 (i - 1) < nth a1 i) : ∀ d v, 0 < d -> v + d < a1.length -> nth a1 v < nth a1 (v + d)
  | 0, _, h0, _ => by omega
  | 1, v, _, hv => h (v + 1) (by omega) hv
  | d + 2, v, _, hv => by
    have h1 := R0 h (d + 1) v (by omega) (by omega)
    have h2 := h (v + (d + 2)) (by omega) hv
    rw [show v + (d + 2) - 1 = v + (d + 1) by omega] at h2
    omega
theorem CM (w : Int) : qo 10000 (zG 0 w) = (if (if w < 10000 then w else 10000) > 0 then (if w < 10000 then w else 10000) else 0) := by
  unfold qo zG
  by_cases h1 : w > 0
  · rw [show decide (w > 0) = true by simpa using h1, Xh]
    by_cases h2 : w < 10000
    · rw [show decide (w < 10000) = true by simpa using h2, Xh, if_pos h2, if_pos h1]
    · rw [show decide (w < 10000) = false by simpa using h2, Y8, if_neg h2]; rfl
  · rw [show decide (w > 0) = false by simpa using h1, Y8]
    rw [if_pos (show w < 10000 by omega), if_neg h1]; rfl
theorem Fa {α : Type} [Inhabited α] (l : List α) (x : α) {i j : Nat} (h : i ≠ j) : nth (l.set i x) j = nth l j := by simp [nth, List.getD_eq_getElem?_getD, List.getElem?_set_ne h]
theorem R1 (a0 : ZH) (a1 : Int) (a2 : List Int) (a3 : Int) : ∀ n l v q, a2.length < n + v -> v <= a2.length -> (∃ k, v <= k /\ k < a2.length /\ Ps a0 (nth a2 k) = false) -> Ya a0 a1 a2 a3 n l v q = .inl (a0, false)
  | 0, _, _, _, h1, h2, _ => by omega
  | n + 1, l, v, q, h1, h2, ⟨k, k1, k2, k3⟩ => by
    have hv : v < a2.length := by omega
    simp only [Ya]
    rw [show decide ((v : Int) < (a2.length : Int)) = true by simpa using hv, Xh]
    cases hA : ((decide ((ZW a0.Frame.ZD (nth a2 v)) < 0)) || (decide ((ZW a0.Frame.ZD (nth a2 v)) >= (a0.YG.length : Int))))
    · rw [Y8]
      cases hB : ((decide ((YB a0.Frame.Zk (nth a0.Frame.ZD (ZW a0.Frame.ZD (nth a2 v)).toNat).Key) < 0)) || (decide ((nth a0.Frame.Zk (YB a0.Frame.Zk (nth a0.Frame.ZD (ZW a0.Frame.ZD (nth a2 v)).toNat).Key).toNat).qN > a0.Frame.Now)))
      · rw [Y8]
        have hk : ∃ k, v + 1 <= k /\ k < a2.length /\ Ps a0 (nth a2 k) = false := by
          refine ⟨k, ?_, k2, k3⟩
          rcases Nat.eq_or_lt_of_le k1 with rfl | k1
          · unfold Ps at k3; rw [hA, hB] at k3; simp at k3
          · exact k1
        rw [R1 a0 a1 a2 a3 n _ (v + 1) _ (by omega) hv hk, R1 a0 a1 a2 a3 n _ (v + 1) _ (by omega) hv hk]
        simp
      · rfl
    · rfl
theorem Lq (c : Bool) (a : ZH × Bool) (x : Sum (ZH × Bool) (List Zo)) (u : List Int) : (bif c then (Sum.inl a : Sum (ZH × Bool) (List Zo × List Int)) else (match x with | .inl r => .inl r | .inr z => .inr (z, u))) = (match (bif c then Sum.inl a else x) with | .inl r => .inl r | .inr z => .inr (z, u)) := by cases c <;> rfl
theorem NP (a0 : ZH) (a1 : Int) (a2 : List Int) (a3 : Int) (h : Sm maxLen a0) (hr : ∀ i, 0 < i -> i < a2.length -> nth a2 (i - 1) < nth a2 i) (uW : ∀ k, k < a2.length -> Ps a0 (nth a2 k) = true) : ∀ n l v q, a2.length < n + v -> v <= a2.length -> (∀ k, v <= k -> k < a2.length -> nth q (ZW a0.Frame.ZD (nth a2 k)).toNat = nth a0.YG (ZW a0.Frame.ZD (nth a2 k)).toNat) ->
    Ya a0 a1 a2 a3 n l v q = (match Xs a0 a1 a2 a3 n l v with | .inl r => .inl r | .inr z => .inr (z, KL a0 a2 n v q))
  | 0, _, _, _, h1, h2, _ => by omega
  | n + 1, l, v, q, h1, h2, hq => by
    simp only [Ya, Xs, KL, Fl, Nq, yw, qz, HL _ _ (YU (ZH.YX h)), CM]
    by_cases hv : v < a2.length
    · rw [show decide ((v : Int) < (a2.length : Int)) = true by simpa using hv, Xh, Xh, Xh]
      have ho := uW v hv
      unfold Ps at ho
      rw [Bool.not_eq_true', Bool.or_eq_false_iff] at ho
      rw [ho.1, ho.2, Y8, Y8, hq v (Nat.le_refl _) hv]
      have ih := fun l => NP a0 a1 a2 a3 h hr uW n l (v + 1) (q.set (ZW a0.Frame.ZD (nth a2 v)).toNat (W (nth a0.YG (ZW a0.Frame.ZD (nth a2 v)).toNat + 1))) (by omega) hv (fun k k1 k2 => by
        rw [Fa, hq k (by omega) k2]
        intro e
        have p1 : 0 <= ZW a0.Frame.ZD (nth a2 v) := by
          have := ho.1; simp only [Bool.or_eq_false_iff, decide_eq_false_iff_not] at this; omega
        have p2 : 0 <= ZW a0.Frame.ZD (nth a2 k) := by
          have := uW k k2; unfold Ps at this; simp only [Bool.not_eq_true', Bool.or_eq_false_iff, decide_eq_false_iff_not] at this; omega
        have e1 := jl p1
        have e2 := jl p2
        rw [e, e2] at e1
        have := R0 hr (k - v) v (by omega) (by omega)
        rw [show v + (k - v) = k by omega] at this
        omega)
      simp only [ih]
      cases Jd a0.YW (nth a2 v) <;> simp only [Xh, Y8]
      · exact Lq _ _ _ _
      · exact Lq _ _ _ _
    · rw [show decide ((v : Int) < (a2.length : Int)) = false by simpa using hv, Y8, Y8, Y8]
@[simp] theorem NH (a0 : ZH) (a1 : Int) (a2 : List Int) (a3 : Int) (h : Sm maxLen a0) : Yu a0 a1 a2 a3 = YV a0 a1 a2 a3 := by
  unfold Yu YV
  simp only [Pk, qz, jb]
  cases hg : Z6 a0 a1
  · rfl
  cases hb : decide (ZX a0.Frame.Methods a0.Frame.Now < 0)
  rotate_left
  · simp
  cases hi : Za a3 (-10000) 10000
  · simp
  simp only [Bool.not_true, Bool.false_or, Bool.or_false]
  cases hr : Qg a2
  · have : J4 a0 a2 = false := by
      cases hs : J4 a0 a2 with
      | false => rfl
      | true =>
        have := (Wu a0 a2).1 hs
        have h2 := (Nw a2).2 (fun i h0 hi => (this.1 i (Nat.zero_le _) hi).2 h0)
        rw [hr] at h2; cases h2
    rw [this]; rfl
  have ft := (Nw a2).1 hr
  by_cases hl : 0 < a2.length
  rotate_left
  · have : J4 a0 a2 = false := by
      cases hs : J4 a0 a2 with
      | false => rfl
      | true => exact absurd ((Wu a0 a2).1 hs).2 hl
    have e : ((a2.length : Int) == 0) = true := beq_iff_eq.2 (by omega)
    rw [this, e]; rfl
  have e : ((a2.length : Int) == 0) = false := beq_eq_false_iff_ne.2 (by omega)
  rw [e]
  by_cases uW : ∀ k, k < a2.length -> Ps a0 (nth a2 k) = true
  · have hs : J4 a0 a2 = true := (Wu a0 a2).2 ⟨fun i _ hi => ⟨uW i hi, fun h0 => ft i h0 hi⟩, hl⟩
    rw [hs, NP a0 a1 a2 a3 h ft uW (a2.length + 1) [] 0 a0.YG (by omega) (Nat.zero_le _) (fun _ _ _ => rfl)]
    simp only [Bool.not_true, Bool.or_false, Y8]
    cases Xs a0 a1 a2 a3 (a2.length + 1) [] 0 with
    | inl r => rfl
    | inr z => simp only [Rm _ _ _ (YU (ZH.YX h))]
  · have hs : J4 a0 a2 = false := by
      cases hs : J4 a0 a2 with
      | false => rfl
      | true => exact absurd (fun k hk => (((Wu a0 a2).1 hs).1 k (Nat.zero_le _) hk).1) uW
    have hx : ∃ k, 0 <= k /\ k < a2.length /\ Ps a0 (nth a2 k) = false := by
      refine Classical.byContradiction fun hn => uW fun k hk => ?_
      cases hz : Ps a0 (nth a2 k) with
      | true => rfl
      | false => exact absurd ⟨k, Nat.zero_le _, hk, hz⟩ hn
    rw [hs, R1 a0 a1 a2 a3 (a2.length + 1) [] 0 a0.YG (by omega) (Nat.zero_le _) hx]
    rfl
@[simp] theorem Cq (a0 : ZH) (a1 : Int) : ∀ (n : Nat) (v0 : Nat), zf a0 a1 n v0 = zj a0 a1 n v0 := by
  intro n
  induction n with
  | zero => intros; rfl
  | succ n ih => intros; simp [zf, zj, ih, ByteArray.append_assoc]
@[simp] theorem Hg (a0 : ZH) (a1 : Int) : ZG a0 a1 = Yi a0 a1 := by simp [ZG, Yi]
@[simp] theorem DN (a0 : Zf) : Xu a0 = Xt a0 := by
  simp only [Xu, Xt, jb]
  cases (((a0.Y0.length : Int) == 0) || (!(Za (nth a0.Y0 0) 101 105))) <;> simp
@[simp] theorem Ow (a0 : Zf) : ZL a0 = JT a0 := by simp [ZL, JT]
@[simp] theorem Db (a0 : Zp) : Qn a0 = QQ a0 := by simp [Qn, QQ]
@[simp] theorem Cr (a0 : Zp) : qJ a0 = ji a0 := by simp [qJ, ji]
@[simp] theorem OX (a0 : List Y4) (a1 : Zp) : Zq a0 a1 = YQ a0 a1 := by
  by_cases h : YB a0 a1.Zn < 0 <;> simp [Zq, YQ, KD, h]
theorem PI {a0 : List Y4} {a1 : Zp} (h : (YQ a0 a1).2 = true) : 0 <= YB a0 a1.Zn := by
  have := ZI (a0 := a0) (a1 := a1) (by simpa using h)
  simpa using this
@[simp] theorem Rk (a0 : Zp) : Z2 a0 = Yr a0 := by simp [Z2, Yr]
@[simp] theorem Cv (a0 : Zi) (a1 : Zf) : Jc a0 a1 = Xo a0 a1 := by simp [Jc, Xo]
@[simp] theorem Oo (a0 : ZF) (a1 : Int) (a2 : Zf) : Yf a0 a1 a2 = Yv a0 a1 a2 := by simp [Yf, Yv]
theorem EA {α : Type} [Inhabited α] (l : List α) (i : Nat) : l.set i (nth l i) = l := by
  rcases Nat.lt_or_ge i l.length with h | h
  · simp [nth, List.getD_eq_getElem?_getD, List.getElem?_eq_getElem h]
  · exact List.set_eq_of_length_le h
theorem Nr {a0 : ZF} {a1 : Int} {a2 : Zf} (h : (Yv a0 a1 a2).2 = false) : (Yv a0 a1 a2).1 = a0 := by
  unfold Yv at h ⊢
  cases hf : decide (ZU a0 a1 < 0) with
  | true => rfl
  | false =>
    rw [hf] at h
    simp only [cond_false] at h ⊢
    have hp : (Xo (nth a0.ZC (ZU a0 a1).toNat).ZM a2).1 = (nth a0.ZC (ZU a0 a1).toNat).ZM := by
      unfold Xo at h ⊢
      cases hs : (!(Xp (Zi.mk ((nth a0.ZC (ZU a0 a1).toNat).ZM.ZO ++ ([a2] : List Zf)) (nth a0.ZC (ZU a0 a1).toNat).ZM.Zj))) with
      | true => rfl
      | false => rw [hs] at h; cases h
    rw [hp, show ZZ.mk (nth a0.ZC (ZU a0 a1).toNat).Id (nth a0.ZC (ZU a0 a1).toNat).Y9 (nth a0.ZC (ZU a0 a1).toNat).Doc (nth a0.ZC (ZU a0 a1).toNat).Sig (nth a0.ZC (ZU a0 a1).toNat).ZM = nth a0.ZC (ZU a0 a1).toNat from rfl, EA]
theorem DK (a0 : ZH) (i id : Int) (st : Zp) : (bif (YQ a0.Frame.Zk st).2 then ((ZH.mk a0.Frame a0.ZR a0.Zu (a0.ZA.set i.toNat (Yv (nth a0.ZA i.toNat) id (Yr (YQ a0.Frame.Zk st).1)).1) a0.YG a0.YW a0.Next a0.Yk), (Yv (nth a0.ZA i.toNat) id (Yr (YQ a0.Frame.Zk st).1)).2) else (a0, false)) = QG a0 i id st := by
  unfold QG
  cases hm : (YQ a0.Frame.Zk st).2 with
  | false => rfl
  | true =>
    cases ha : (Yv (nth a0.ZA i.toNat) id (Yr (YQ a0.Frame.Zk st).1)).2 with
    | true => rfl
    | false => rw [Nr ha, EA]; rfl
theorem Mm (l : List Ye) (s : Int) (h : 0 <= XU l s) : (nth l (XU l s).toNat).ZV = s := by
  unfold XU at h ⊢
  rcases xJ (β := Int) (L := zB l s) (len := l.length) (c := fun v => (nth l v).ZV == s) (r := fun v => (v : Int)) (fun _ => rfl) (fun _ _ => rfl) (l.length + 1) 0 (by omega) with ⟨e, _⟩ | ⟨i, e, _, _, hc, _⟩
  · rw [e] at h; simp at h
  · rw [e]; simpa using hc
theorem HT {a b c : Bool} : ((!(a && b)) || c) = ((!a || !b) || c) := by cases a <;> cases b <;> rfl
@[simp] theorem OW (a0 : ZH) (a1 : Int) : Zw a0 a1 = Qb a0 a1 := by
  unfold Zw Qb YK
  simp only [Hg, Ow, Mt, jO, OX, Oo, Rk]
  cases h1 : ((decide ((Yi a0 a1).1 < 0)) || (decide (((nth (nth a0.ZA (Yi a0 a1).1.toNat).ZC (Yi a0 a1).2.toNat).ZM.ZO.length : Int) < 2))) with
  | true => rfl
  | false =>
    simp only [cond_false]
    generalize JT (nth (nth (nth a0.ZA (Yi a0 a1).1.toNat).ZC (Yi a0 a1).2.toNat).ZM.ZO 1) = p
    rw [HT, show (!(decide (XU a0.ZR p.1.ZV >= 0))) = decide (XU a0.ZR p.1.ZV < 0) by rw [<- decide_not]; simp]
    cases h2 : ((!p.2 || decide (XU a0.ZR p.1.ZV < 0)) || decide (XU a0.ZR p.1.ZV >= (a0.Zu.length : Int))) with
    | true => rfl
    | false =>
      simp only [cond_false]
      have hn : 0 <= XU a0.ZR p.1.ZV := by simp at h2; exact h2.1.2
      rw [Mm _ _ hn]
      have key : ∀ (n : Nat) (st : Zp), st.Zn = (nth a0.ZR n).Zn ->
          (bif ((!(YQ a0.Frame.Zk st).2) || (decide ((nth a0.Frame.Zk (YB a0.Frame.Zk (nth a0.ZR n).Zn).toNat).qN > a0.Frame.Now))) then (a0, false) else ((ZH.mk a0.Frame a0.ZR a0.Zu (a0.ZA.set (Yi a0 a1).1.toNat (Yv (nth a0.ZA (Yi a0 a1).1.toNat) a1 (Yr (YQ a0.Frame.Zk st).1)).1) a0.YG a0.YW a0.Next a0.Yk), (Yv (nth a0.ZA (Yi a0 a1).1.toNat) a1 (Yr (YQ a0.Frame.Zk st).1)).2)) =
          (bif ((decide ((YB a0.Frame.Zk (nth a0.ZR n).Zn) < 0)) || (decide ((nth a0.Frame.Zk (YB a0.Frame.Zk (nth a0.ZR n).Zn).toNat).qN > a0.Frame.Now))) then (a0, false) else ((QG a0 (Yi a0 a1).1 a1 st).1, (QG a0 (Yi a0 a1).1 a1 st).2)) := by
        intro n st uf
        rw [<- DK]
        cases hb : decide ((nth a0.Frame.Zk (YB a0.Frame.Zk (nth a0.ZR n).Zn).toNat).qN > a0.Frame.Now) with
        | true => simp
        | false =>
          cases hm : (YQ a0.Frame.Zk st).2 with
          | false => simp
          | true =>
            have hp := PI hm
            rw [uf] at hp
            rw [show decide (YB a0.Frame.Zk (nth a0.ZR n).Zn < 0) = false by simp; exact hp]
            rfl
      rw [key _ _ rfl, key _ _ rfl]
      cases hk : ((decide ((YB a0.Frame.Zk (nth a0.ZR (XU a0.ZR p.1.ZV).toNat).Zn) < 0)) || (decide ((nth a0.Frame.Zk (YB a0.Frame.Zk (nth a0.ZR (XU a0.ZR p.1.ZV).toNat).Zn).toNat).qN > a0.Frame.Now))) with
      | true => simp
      | false =>
        simp only [cond_false]
        rw [show ∀ x y : Int, decide (x > y) = !decide (x <= y) from fun x y => by rw [<- decide_not]; simp]
        cases decide (nth a0.Zu (XU a0.ZR p.1.ZV).toNat <= W (a0.Frame.Now + 1)) <;> rfl
@[simp] theorem VK (a0 : ZH) (a1 : Int) : KA a0 a1 = Z7 a0 a1 := by simp [KA, Z7]
@[simp] theorem M0 (a0 : ZH) (a1 : Int) : Z9 a0 a1 = jn a0 a1 := by simp [Z9, jn]
end Go.Mo
