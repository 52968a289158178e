/- The plain law of FnAudited: each item has one of three verdicts; the counts add up. No condition. -/
import Derived.Test.YtnldgbpopofnoaaGreatL
namespace Go.Mo
open Go.Vm
set_option linter.unusedSimpArgs false
set_option linter.unusedVariables false
theorem E2 (f : Ze) (x : Zk) : (zS f x).Code = 1 \/ (zS f x).Code = 2 \/ (zS f x).Code = 3 := by
  unfold zS OZ
  generalize Ja (J9 x) x.Doc = g
  generalize yf x.Sig.Method x.Doc = d
  generalize J9 x = e
  have ho : ∀ r, (qW r).Code = 1 \/ (qW r).Code = 2 \/ (qW r).Code = 3 := fun r => by unfold qW; exact .inr (.inr rfl)
  have hi : ∀ r, (zZ r).Code = 1 \/ (zZ r).Code = 2 \/ (zZ r).Code = 3 := fun r => by unfold zZ; exact .inr (.inl rfl)
  unfold ym
  refine ZW (p := fun v : Y0 => v.Code = 1 \/ v.Code = 2 \/ v.Code = 3) (ho _) ?_
  refine ZW (p := fun v : Y0 => v.Code = 1 \/ v.Code = 2 \/ v.Code = 3) (hi _) ?_
  refine ZW (p := fun v : Y0 => v.Code = 1 \/ v.Code = 2 \/ v.Code = 3) (ho _) ?_
  refine ZW (p := fun v : Y0 => v.Code = 1 \/ v.Code = 2 \/ v.Code = 3) (hi _) ?_
  refine ZW (p := fun v : Y0 => v.Code = 1 \/ v.Code = 2 \/ v.Code = 3) (ho _) ?_
  refine ZW (p := fun v : Y0 => v.Code = 1 \/ v.Code = 2 \/ v.Code = 3) (hi _) ?_
  refine ZW (p := fun v : Y0 => v.Code = 1 \/ v.Code = 2 \/ v.Code = 3) (ho _) ?_
  refine ZW (p := fun v : Y0 => v.Code = 1 \/ v.Code = 2 \/ v.Code = 3) (ho _) ?_
  refine ZW (p := fun v : Y0 => v.Code = 1 \/ v.Code = 2 \/ v.Code = 3) (ho _) ?_
  refine ZW (p := fun v : Y0 => v.Code = 1 \/ v.Code = 2 \/ v.Code = 3) (.inr (.inl rfl)) ?_
  refine ZW (p := fun v : Y0 => v.Code = 1 \/ v.Code = 2 \/ v.Code = 3) (.inr (.inr rfl)) ?_
  exact ZW (p := fun v : Y0 => v.Code = 1 \/ v.Code = 2 \/ v.Code = 3) (.inr (.inr rfl)) (.inl rfl)
theorem Pb (w : ZN) : ∀ (n : Nat) (acc : List Zk) (v : Nat), w.ZB.length < n + v -> v <= w.ZB.length -> ye w n acc v = acc ++ (w.ZB.drop v).flatMap (·.ZE)
  | 0, acc, v, h, hv => by omega
  | n + 1, acc, v, h, hv => by
    rw [ye]
    by_cases wO : v < w.ZB.length
    · rw [decide_eq_true (show (v : Int) < (w.ZB.length : Int) by omega), Kx, Pb w n _ (v + 1) (by omega) wO, Tr wO, List.drop_eq_getElem_cons wO, List.flatMap_cons, List.append_assoc]
    · rw [decide_eq_false (show ¬ (v : Int) < (w.ZB.length : Int) by omega), KS, List.drop_eq_nil_of_le (by omega)]
      simp
theorem LR (w : ZN) : Z5 w = w.ZB.flatMap (·.ZE) := by
  have h := Pb w (w.ZB.length + 1) [] 0 (by omega) (Nat.zero_le _)
  rw [List.drop_zero, List.nil_append] at h
  exact h
theorem Ex (w : ZN) (x : Zk) (hx : x ∈ Z5 w) : ¬ (QI w x.Id).1 < 0 := by
  rw [LR, List.mem_flatMap] at hx
  obtain ⟨a, ha, hx⟩ := hx
  have mH : ∀ (n v : Nat), a.ZE.length < n + v -> (∃ i, v <= i /\ i < a.ZE.length /\ (nth a.ZE i).Id = x.Id) -> ∃ r, zl a x.Id n v = .inl r /\ 0 <= r := by
    intro n
    induction n with
    | zero => intro v h ⟨i, h1, h2, _⟩; omega
    | succ n ih =>
      intro v h ⟨i, h1, h2, h3⟩
      rw [zl, decide_eq_true (show (v : Int) < (a.ZE.length : Int) by omega), Kx]
      by_cases e : ((nth a.ZE v).Id == x.Id) = true
      · rw [e, Kx]; exact ⟨_, rfl, by omega⟩
      · rw [Bool.eq_false_iff.2 e, KS]
        refine ih (v + 1) (by omega) ⟨i, ?_, h2, h3⟩
        rcases Nat.lt_or_eq_of_le h1 with h4 | h4
        · exact h4
        · subst h4; exact absurd (by rw [h3]; exact beq_self_eq_true _) e
  have fK : 0 <= Qq a x.Id := by
    obtain ⟨i, hi, fI⟩ := List.getElem_of_mem hx
    obtain ⟨r, hr, h0⟩ := mH (a.ZE.length + 1) 0 (by omega) ⟨i, Nat.zero_le _, hi, by rw [Tr hi, fI]⟩
    unfold Qq
    rw [hr]
    exact h0
  have pI : ∀ (n v : Nat), w.ZB.length < n + v -> (∃ i, v <= i /\ i < w.ZB.length /\ 0 <= Qq (nth w.ZB i) x.Id) -> ∃ r, K8 w x.Id n v = .inl r /\ 0 <= r.1 := by
    intro n
    induction n with
    | zero => intro v h ⟨i, h1, h2, _⟩; omega
    | succ n ih =>
      intro v h ⟨i, h1, h2, h3⟩
      rw [K8, decide_eq_true (show (v : Int) < (w.ZB.length : Int) by omega), Kx]
      by_cases e : 0 <= Qq (nth w.ZB v) x.Id
      · rw [decide_eq_true (show Qq (nth w.ZB v) x.Id >= 0 from e), Kx]; exact ⟨_, rfl, by show (0 : Int) <= (v : Int); omega⟩
      · rw [decide_eq_false (show ¬ Qq (nth w.ZB v) x.Id >= 0 from e), KS]
        refine ih (v + 1) (by omega) ⟨i, ?_, h2, h3⟩
        rcases Nat.lt_or_eq_of_le h1 with h4 | h4
        · exact h4
        · subst h4; exact absurd h3 e
  obtain ⟨i, hi, fJ⟩ := List.getElem_of_mem ha
  obtain ⟨r, hr, h0⟩ := pI (w.ZB.length + 1) 0 (by omega) ⟨i, Nat.zero_le _, hi, by rw [Tr hi, fJ]; exact fK⟩
  unfold QI
  rw [hr]
  show ¬ r.1 < 0
  omega
theorem HU (w : ZN) (x : Zk) (hx : x ∈ Z5 w) : (XO w x.Id).Code = 1 \/ (XO w x.Id).Code = 2 \/ (XO w x.Id).Code = 3 := by
  unfold XO
  rw [decide_eq_false (Ex w x hx), KS]
  exact E2 _ _
theorem Dx (x y : Int) : W (W x + y) = W (x + y) := by simp only [XT]; omega
def xK (w : ZN) (c : Int) (l : List Zk) : Nat := l.countP fun x => (XO w x.Id).Code == c
theorem UY (w : ZN) (c : Int) : ∀ (n : Nat) (k : Int) (v : Nat), (Z5 w).length < n + v -> v <= (Z5 w).length -> Qo w c n (W k) v = W (k + (xK w c ((Z5 w).drop v) : Nat))
  | 0, k, v, h, hv => by omega
  | n + 1, k, v, h, hv => by
    rw [Qo]
    by_cases wO : v < (Z5 w).length
    · rw [decide_eq_true (show (v : Int) < ((Z5 w).length : Int) by omega), Kx, Tr wO, List.drop_eq_getElem_cons wO]
      unfold xK
      rw [List.countP_cons]
      cases hc : (XO w (Z5 w)[v].Id).Code == c with
      | true =>
        rw [Kx, Dx, UY w c n _ (v + 1) (by omega) wO]
        unfold xK
        rw [if_pos rfl]
        congr 1
        omega
      | false =>
        rw [KS, UY w c n _ (v + 1) (by omega) wO]
        unfold xK
        rw [if_neg (by decide)]
        rfl
    · rw [decide_eq_false (show ¬ (v : Int) < ((Z5 w).length : Int) by omega), KS, List.drop_eq_nil_of_le (by omega)]
      show W k = W (k + ((0 : Nat) : Int))
      rw [show k + ((0 : Nat) : Int) = k by omega]
theorem Rq (w : ZN) (c : Int) : Qr w c = W (xK w c (Z5 w) : Nat) := by
  have h := UY w c ((Z5 w).length + 1) 0 0 (by omega) (Nat.zero_le _)
  rw [show W 0 = 0 by decide, List.drop_zero, Int.zero_add] at h
  exact h
theorem Lu (w : ZN) : ∀ l : List Zk, (∀ x ∈ l, x ∈ Z5 w) -> xK w 1 l + xK w 2 l + xK w 3 l = l.length
  | [], _ => rfl
  | x :: l, h => by
    have ih := Lu w l (fun y hy => h y (List.mem_cons_of_mem _ hy))
    unfold xK at ih ⊢
    rw [List.countP_cons, List.countP_cons, List.countP_cons, List.length_cons]
    rcases HU w x (h x List.mem_cons_self) with e | e | e <;> rw [e] <;> simp <;> omega
theorem Ub (w : ZN) : ∀ (n : Nat) (acc : List Int) (v : Nat), (Z5 w).length < n + v -> v <= (Z5 w).length -> (JN w n acc v).length = acc.length + xK w 1 ((Z5 w).drop v)
  | 0, acc, v, h, hv => by omega
  | n + 1, acc, v, h, hv => by
    rw [JN]
    by_cases wO : v < (Z5 w).length
    · rw [decide_eq_true (show (v : Int) < ((Z5 w).length : Int) by omega), Kx, Tr wO, List.drop_eq_getElem_cons wO]
      unfold xK
      rw [List.countP_cons]
      cases hc : (XO w (Z5 w)[v].Id).Code == 1 with
      | true =>
        rw [Kx, Ub w n _ (v + 1) (by omega) wO, List.length_append, List.length_singleton]
        unfold xK
        rw [if_pos rfl]
        omega
      | false =>
        rw [KS, Ub w n _ (v + 1) (by omega) wO]
        unfold xK
        rw [if_neg (by decide)]
        rfl
    · rw [decide_eq_false (show ¬ (v : Int) < ((Z5 w).length : Int) by omega), KS, List.drop_eq_nil_of_le (by omega)]
      rfl
theorem FW (w : ZN) : (Y2 w).length = xK w 1 (Z5 w) := by
  have h := Ub w ((Z5 w).length + 1) [] 0 (by omega) (Nat.zero_le _)
  rw [List.drop_zero, List.length_nil, Nat.zero_add] at h
  exact h
theorem DE (a0 : List UInt8) : ∀ (n : Nat) (k : Int) (v : Nat), (Zv a0).ZB.length < n + v -> v <= (Zv a0).ZB.length -> yA a0 n (W k) v = W (k + ((((Zv a0).ZB.drop v).flatMap (·.ZE)).length : Nat))
  | 0, k, v, h, hv => by omega
  | n + 1, k, v, h, hv => by
    rw [yA]
    by_cases wO : v < (Zv a0).ZB.length
    · rw [decide_eq_true (show (v : Int) < ((Zv a0).ZB.length : Int) by omega), Kx, Dx, DE a0 n _ (v + 1) (by omega) wO, Tr wO, List.drop_eq_getElem_cons wO, List.flatMap_cons, List.length_append]
      congr 1
      omega
    · rw [decide_eq_false (show ¬ (v : Int) < ((Zv a0).ZB.length : Int) by omega), KS, List.drop_eq_nil_of_le (by omega)]
      show W k = W (k + ((0 : Nat) : Int))
      rw [show k + ((0 : Nat) : Int) = k by omega]
theorem Fz (w : ZN) : (decide (jH w = (⟨#[]⟩ : ByteArray)) == ((jF w) && (((Kr w).length : Int) == 0))) = true := by
  unfold jH
  generalize (Kr w).length = n
  cases jF w with
  | false => rfl
  | true =>
    match n with
    | 0 => rfl
    | n + 1 =>
      rw [decide_eq_true (show ((n + 1 : Nat) : Int) > 0 by omega), Bool.not_true, KS, Kx, show (((n + 1 : Nat) : Int) == 0) = false by simp; omega]
      rfl
theorem Hu (n : Nat) : ∀ (l : List ZJ), (∀ a ∈ l, a.ZE.length <= n) -> (l.flatMap (·.ZE)).length <= l.length * n
  | [], _ => Nat.zero_le _
  | a :: l, h => by
    rw [List.flatMap_cons, List.length_append, List.length_cons, Nat.add_mul, Nat.one_mul]
    have h1 := h a List.mem_cons_self
    have h2 := Hu n l (fun b hb => h b (List.mem_cons_of_mem _ hb))
    omega
theorem Dp (x y z n : Nat) (h : x + y + z = n) (hn : n <= 1099511627776) : (W (W (W (x : Int) + W (y : Int)) + W (z : Int)) == W (n : Int)) = true /\ ((x : Int) == W (x : Int)) = true := by
  simp only [beq_iff_eq, XT]
  omega
theorem R8 (a0 : List UInt8) : qL a0 = true := by
  have hs : (Z5 (Zv a0)).length <= 1099511627776 := by
    have k := ZN.YQ (Ye (n := 100) (a0 := a0) (Nat.le_refl _))
    have k2 := Hu 100 (Zv a0).ZB (fun a ha => Yb (ZJ.Y4 (k.2 a ha)))
    have k3 := k.1
    rw [Us]
    omega
  unfold qL
  cases H5 a0 with
  | true => rfl
  | false =>
    have h1 := DE a0 ((Zv a0).ZB.length + 1) 0 0 (by omega) (Nat.zero_le _)
    rw [show W 0 = 0 by decide, List.drop_zero, Int.zero_add, <- LR] at h1
    have h2 := Lu (Zv a0) _ (fun x hx => hx)
    rw [KS, h1]
    simp only
    rw [Fz, Bool.not_true, KS, Rq, Rq, Rq, FW]
    rw [Bool.and_eq_true]
    exact Dp _ _ _ _ h2 hs
end Go.Mo
