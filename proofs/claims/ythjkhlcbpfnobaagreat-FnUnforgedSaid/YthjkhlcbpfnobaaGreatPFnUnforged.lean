/- The plain law of FnUnforged: no forged signature is judged valid, at no time. No condition. -/
import Derived.Test.YthjkhlcbpfnobaaGreatE
namespace Go.Mo
open Go.Vm
set_option linter.unusedSimpArgs false
set_option linter.unusedVariables false
variable {w a0 z w' : ZF} {P : ZF × Bool -> Prop} {b id i k t n fF o q nx a1 a2 m a4 a5 : Int} {a A : ZD} {s : ZU} {x y : ZQ} {f fr : ZX} {l : List Zj} {ids fo gu sq : List Int} {d a3 : ZN} {T : Nat -> Int} {r : ZZ} {Q : Nat -> List Zj -> List Int -> Prop} {st : Zn} {keys : List Yw} {v k0 j : Nat} {p : ZT} {e : Zs} {ce : List YX}
theorem NW (a0 : ZF) (k : Nat) : ∀ (n : Nat) (l : List Int) (v : Nat), zx a0 k n l v ≠ .inl true := by
  intro n
  induction n with
  | zero => intro l v h; cases h
  | succ n ih =>
    intro l v h
    rw [zx] at h
    generalize decide ((v : Int) < ((nth a0.ZA k).ZC.length : Int)) = c at h
    cases c with
    | false => cases h
    | true =>
      simp only [cond_true] at h
      generalize (QG l (nth (nth a0.ZA k).ZC v).Id || decide ((nth (nth a0.ZA k).ZC v).Id >= a0.Next)) = c at h
      cases c with
      | true => cases h
      | false => exact ih _ _ h
theorem Na (a0 : ZF) : ∀ (n : Nat) (l : List Int) (v : Nat), yz a0 n l v ≠ .inl true := by
  intro n
  induction n with
  | zero => intro l v h; cases h
  | succ n ih =>
    intro l v h
    rw [yz] at h
    generalize decide ((v : Int) < (a0.ZA.length : Int)) = c at h
    cases c with
    | false => cases h
    | true =>
      simp only [cond_true] at h
      generalize (!Yi (nth a0.ZA v) || (nth a0.ZA v).Id != (v : Int)) = c at h
      cases c with
      | true => cases h
      | false =>
        simp only [cond_false] at h
        cases hh : zx a0 v ((nth a0.ZA v).ZC.length + 1) l 0 with
        | inl r =>
          rw [hh] at h; simp only at h
          cases h; exact NW _ _ _ _ _ hh
        | inr z => rw [hh] at h; exact ih _ _ h
theorem vk (s : Sum Bool Unit) (X : Bool) : s ≠ .inl true -> ((match s with | .inl r => r | .inr _ => X) = true ↔ s = .inr () /\ X = true) := by
  intro h
  cases s with
  | inl r => cases r with
    | true => exact absurd rfl h
    | false => simp
  | inr u => simp
def qn (l : List ZD) : List Int := l.flatMap (fun a => a.ZC.map (·.Id))
def TC (nx : Int) (l m : List Int) : Prop := (∀ x ∈ m, x ∉ l /\ x < nx) /\ m.Nodup
theorem Cc (l : List Int) (x : Int) : QG l x = true ↔ x ∈ l := by
  rw [N1]
  constructor
  · rintro ⟨i, _, h, e⟩
    rw [beq_iff_eq, QS h] at e
    rw [<- e]; exact List.getElem_mem h
  · intro h
    obtain ⟨i, hi, e⟩ := List.mem_iff_getElem.1 h
    exact ⟨i, Nat.zero_le _, hi, by rw [beq_iff_eq, QS hi, e]⟩
theorem Sf {x : Int} {l m : List Int} : TC nx l (x :: m) ↔ (x ∉ l /\ x < nx) /\ TC nx (l ++ [x]) m := by
  unfold TC
  grind
theorem Re (nx : Int) (l : List Int) : TC nx l [] := ⟨fun x h => zA6, List.nodup_nil⟩
theorem Bg {l m k : List Int} : TC nx l (m ++ k) ↔ TC nx l m /\ TC nx (l ++ m) k := by
  induction m generalizing l with
  | nil => rw [List.nil_append, List.append_nil]; exact ⟨fun h => ⟨Re _ _, h⟩, fun h => h.2⟩
  | cons x m ih =>
    rw [List.cons_append, Sf, Sf, ih, List.append_assoc]
    grind
theorem pO (w : ZF) (k : Nat) : ∀ (n : Nat) (l : List Int) (v : Nat), (nth w.ZA k).ZC.length < n + v -> v <= (nth w.ZA k).ZC.length ->
    (zx w k n l v = .inr (l ++ ((nth w.ZA k).ZC.drop v).map (·.Id)) /\ TC w.Next l (((nth w.ZA k).ZC.drop v).map (·.Id))) \/ (zx w k n l v = .inl false /\ ¬ TC w.Next l (((nth w.ZA k).ZC.drop v).map (·.Id)))
  | 0, l, v, h, hv => zAA
  | n + 1, l, v, h, hv => by
    rw [zx]
    by_cases lH : v < (nth w.ZA k).ZC.length
    · rw [decide_eq_true (show (v : Int) < ((nth w.ZA k).ZC.length : Int) by omega), Xd, List.drop_eq_getElem_cons lH, List.map_cons, QS lH, Sf]
      generalize hx : ((nth w.ZA k).ZC[v]).Id = x
      cases hc : (QG l x || decide (x >= w.Next)) with
      | true =>
        rw [Xd]
        refine .inr ⟨rfl, fun hg => ?_⟩
        rcases Bool.or_eq_true _ _ ▸ hc with h1 | h1
        · exact hg.1.1 ((Cc _ _).1 h1)
        · have := of_decide_eq_true h1; have := hg.1.2; omega
      | false =>
        rw [Xa]
        rw [Bool.or_eq_false_iff] at hc
        have hn : x ∉ l /\ x < w.Next := ⟨fun hm => (by rw [(Cc _ _).2 hm] at hc; cases hc.1), (by have := of_decide_eq_false hc.2; omega)⟩
        rcases pO w k n (l ++ [x]) (v + 1) zAA lH with ⟨e, hg⟩ | ⟨e, hg⟩
        · exact .inl ⟨by rw [e, List.append_assoc]; rfl, hn, hg⟩
        · exact .inr ⟨e, fun h => hg h.2⟩
    · rw [decide_eq_false (show ¬ (v : Int) < ((nth w.ZA k).ZC.length : Int) by omega), Xa, List.drop_eq_nil_of_le zAA, List.map_nil, List.append_nil]
      exact .inl ⟨rfl, Re _ _⟩
theorem pI (w : ZF) : ∀ (n : Nat) (l : List Int) (v : Nat), w.ZA.length < n + v -> v <= w.ZA.length ->
    (yz w n l v = .inr () ↔ (∀ i, v <= i -> i < w.ZA.length -> Yi (nth w.ZA i) = true /\ (nth w.ZA i).Id = (i : Int)) /\ TC w.Next l (qn (w.ZA.drop v)))
  | 0, l, v, h, hv => zAA
  | n + 1, l, v, h, hv => by
    rw [yz]
    by_cases lH : v < w.ZA.length
    · rw [decide_eq_true (show (v : Int) < (w.ZA.length : Int) by omega), Xd]
      have e1 : qn (w.ZA.drop v) = (nth w.ZA v).ZC.map (·.Id) ++ qn (w.ZA.drop (v + 1)) := by
        rw [List.drop_eq_getElem_cons lH, QS lH]; rfl
      rw [e1, Bg]
      cases hc : (!Yi (nth w.ZA v) || (nth w.ZA v).Id != (v : Int)) with
      | true =>
        grind
      | false =>
        rw [Xa]
        simp only [Bool.or_eq_false_iff, Bool.not_eq_false', bne_eq_false_iff_eq] at hc
        rcases pO w v ((nth w.ZA v).ZC.length + 1) l 0 zAA (Nat.zero_le _) with ⟨e, hg⟩ | ⟨e, hg⟩
        · rw [e]
          rw [List.drop_zero] at hg ⊢
          refine (pI w n _ (v + 1) zAA lH).trans ⟨fun h => ⟨fun i h1 h2 => ?_, hg, h.2⟩, fun h => ⟨fun i h1 h2 => h.1 i zAA h2, h.2.2⟩⟩
          grind
        · grind
    · rw [decide_eq_false (show ¬ (v : Int) < (w.ZA.length : Int) by omega), Xa, List.drop_eq_nil_of_le zAA]
      exact ⟨fun _ => ⟨fun i h1 h2 => zAA, Re _ _⟩, fun _ => rfl⟩
structure PlW (w : ZF) : Prop where
  fr : xV w.Frame = true
  en : w.Zx.length = w.ZY.length
  ar : 1 <= w.ZA.length /\ w.ZA.length <= 4
  sl : w.Yt.length = w.Frame.ZB.length
  ll : (w.YO.length : Int) <= w.Frame.XT
  nx : 1 <= w.Next
  lr : QV w.YO = true
  fo : QV w.YE = true
  ce : ∀ i, i < w.ZY.length -> Wi w.Frame.Zo (nth w.ZY i) = true /\ Xp w.ZY (nth w.ZY i).Zd = (i : Int) /\ ZS (nth w.Zx i) (-1) 10001 = true
  ok : ∀ i, i < w.ZA.length -> Yi (nth w.ZA i) = true /\ (nth w.ZA i).Id = (i : Int)
  nd : (qn w.ZA).Nodup
  lt : ∀ x ∈ qn w.ZA, x < w.Next
  sq : ∀ i, i < w.Yt.length -> 0 <= nth w.Yt i
  lf : ∀ i, i < w.YO.length -> 0 <= ZV w.Frame.ZB (nth w.YO i)
theorem Bj (w : ZF) : Vj w = true ↔ PlW w := by
  unfold Vj
  have hi : ∀ b : Bool, (bif b then false else (match Wd w (w.ZY.length + 1) 0 with | .inl r1 => r1 | .inr _ => (match yz w (w.ZA.length + 1) ([] : List Int) 0 with | .inl r2 => r2 | .inr _ => (match Ws w (w.Yt.length + 1) 0 with | .inl r4 => r4 | .inr _ => (match Wt w (w.YO.length + 1) 0 with | .inl r5 => r5 | .inr _ => true))))) = true ↔ b = false /\ _ := fun b => by
    cases b
    · exact ((Jy (L := Wd w) (fun _ => rfl) (fun _ _ => rfl) (w.ZY.length + 1) 0 zAA _).trans (and_congr_right fun _ => (vk _ _ (Na w (w.ZA.length + 1) [] 0)).trans (and_congr_right fun _ => (Jy (L := Ws w) (fun _ => rfl) (fun _ _ => rfl) (w.Yt.length + 1) 0 zAA _).trans (and_congr_right fun _ => Jy (L := Wt w) (fun _ => rfl) (fun _ _ => rfl) (w.YO.length + 1) 0 zAA _)))).trans ⟨fun h => ⟨rfl, h⟩, fun h => h.2⟩
    · exact ⟨fun h => zA6, fun h => (by cases h.1)⟩
  refine (hi _).trans ?_
  rw [pI w (w.ZA.length + 1) [] 0 zAA (Nat.zero_le _), List.drop_zero]
  simp only [Bool.or_eq_false_iff, Bool.not_eq_false', beq_iff_eq, bne_eq_false_iff_eq, decide_eq_false_iff_not, ZS, Bool.and_eq_true, decide_eq_true_eq]
  constructor
  · rintro ⟨⟨⟨⟨⟨⟨⟨⟨h1, h2⟩, h3⟩, h4⟩, h5⟩, h6⟩, h7⟩, h8⟩, h9, ⟨ev, h11, h12⟩, h13, h14, _⟩
    exact ⟨h1, zAA, zAA, zAA, zAA, zAA, h7, h8, fun i hi => ⟨(h9 i (Nat.zero_le _) hi).1.1, (h9 i (Nat.zero_le _) hi).1.2, by have := (h9 i (Nat.zero_le _) hi).2; simpa [ZS] using this⟩, fun i hi => ev i (Nat.zero_le _) hi, h12, fun x hx => (h11 x hx).2, fun i hi => by have := h13 i (Nat.zero_le _) hi; omega, fun i hi => by have := h14 i (Nat.zero_le _) hi; omega⟩
  · intro h
    refine ⟨⟨⟨⟨⟨⟨⟨⟨h.fr, by have := h.en; omega⟩, by have := h.ar; omega⟩, by have := h.sl; omega⟩, by have := h.ll; omega⟩, by have := h.nx; omega⟩, h.lr⟩, h.fo⟩, fun i _ hi => ⟨⟨(h.ce i hi).1, (h.ce i hi).2.1⟩, by have := (h.ce i hi).2.2; simpa [ZS] using this⟩, ⟨fun i _ hi => h.ok i hi, fun x hx => ⟨fun hn => (by cases hn), h.lt x hx⟩, h.nd⟩, fun i _ hi => by have := h.sq i hi; omega, fun i _ hi => by have := h.lf i hi; omega, trivial⟩
/- archives -/
theorem Ko {α : Type} [Inhabited α] (l : List α) (i j : Nat) (x : α) : nth (l.set i x) j = if i = j /\ j < l.length then x else nth l j := by
  simp only [nth, List.getD_eq_getElem?_getD, List.getElem?_set]
  grind
structure PlA (a : ZD) : Prop where
  it : ∀ x ∈ a.ZC, Jv x = true
  as : (a.ZC.map (·.Id)).Pairwise (· < ·)
  id : 0 <= a.Id /\ a.Id <= 99
  ln : a.ZC.length <= 8
theorem VS (a : ZD) : Yi a = true ↔ PlA a := by
  unfold Yi
  refine (Jy (L := xg a) (fun _ => rfl) (fun _ _ => rfl) (a.ZC.length + 1) 0 zAA _).trans ?_
  simp only [Bool.or_eq_false_iff, Bool.not_eq_false', Bool.and_eq_false_imp, decide_eq_true_eq, decide_eq_false_iff_not, ZS, Bool.and_eq_true]
  constructor
  · rintro ⟨h1, ⟨h2, h3⟩, h4⟩
    refine ⟨fun x hx => ?_, ?_, ⟨h2, h3⟩, zAA⟩
    · obtain ⟨i, hi, e⟩ := List.mem_iff_getElem.1 hx
      have := (h1 i (Nat.zero_le _) hi).1
      rw [QS hi, e] at this
      exact this
    · have hc : ∀ i, 0 < i -> i < (a.ZC.map (·.Id)).length -> nth (a.ZC.map (·.Id)) (i - 1) < nth (a.ZC.map (·.Id)) i := fun i h0 hi => by
        rw [List.length_map] at hi
        rw [Pg zAA, Pg hi]
        have := (h1 i (Nat.zero_le _) hi).2 zAA
        omega
      rw [List.pairwise_iff_getElem]
      intro i j hi hj dq
      have := PX hc (j - i) i zAA zAA
      rw [show i + (j - i) = j by omega, QS hi, QS hj] at this
      exact this
  · intro h
    refine ⟨fun i _ hi => ⟨h.it _ (by rw [QS hi]; exact List.getElem_mem hi), fun h0 => ?_⟩, h.id, by have := h.ln; omega⟩
    have := List.pairwise_iff_getElem.1 h.as (i - 1) i (by rw [List.length_map]; omega) (by rw [List.length_map]; exact hi) zAA
    rw [List.getElem_map, List.getElem_map] at this
    rw [QS (show i - 1 < a.ZC.length by omega), QS hi]
    omega
theorem LX (a : ZD) (l : List ZD) : qn (a :: l) = a.ZC.map (·.Id) ++ qn l := rfl
theorem G4 (l m : List ZD) : qn (l ++ m) = qn l ++ qn m := List.flatMap_append
theorem SA (l : List ZD) (i : Nat) (h : i < l.length) : ∃ A B, qn l = A ++ ((nth l i).ZC.map (·.Id) ++ B) /\ ∀ a, qn (l.set i a) = A ++ (a.ZC.map (·.Id) ++ B) := by
  refine ⟨qn (l.take i), qn (l.drop (i + 1)), ?_, fun a => ?_⟩
  · rw [<- LX, <- G4, QS h, <- List.drop_eq_getElem_cons h, List.take_append_drop]
  · rw [<- LX, <- G4, List.set_eq_take_append_cons_drop, if_pos h]
theorem Gw {l : List ZD} {i : Nat} (e : (a.ZC.map (·.Id)).Sublist ((nth l i).ZC.map (·.Id))) : (qn (l.set i a)).Sublist (qn l) := by
  by_cases h : i < l.length
  · obtain ⟨A, B, h1, h2⟩ := SA l i h
    grind
  · rw [List.set_eq_of_length_le zAA]
    exact List.Sublist.refl _
theorem FE {l : List ZD} {i : Nat} {x : Int} (h : i < l.length) (e : (a.ZC.map (·.Id)).Perm (x :: (nth l i).ZC.map (·.Id))) : (qn (l.set i a)).Perm (x :: qn l) := by
  obtain ⟨A, B, h1, h2⟩ := SA l i h
  grind
/- the arrangement of a world stays -/
theorem RU (h : PlW w) {i : Nat} (ha : Yi a = true) (e9 : a.Id = (i : Int)) : ∀ j, j < (w.ZA.set i a).length -> Yi (nth (w.ZA.set i a) j) = true /\ (nth (w.ZA.set i a) j).Id = (j : Int) := fun j hj => by
  rw [List.length_set] at hj
  rw [Ko]
  split
  · rename_i hc; rw [<- hc.1]; exact ⟨ha, e9⟩
  · exact h.ok j hj
theorem AU (h : PlW w) {i : Nat} (ha : Yi a = true) (e9 : a.Id = (i : Int)) (e : (a.ZC.map (·.Id)).Sublist ((nth w.ZA i).ZC.map (·.Id))) (hl : sq.length = w.Yt.length) (hs : ∀ j, j < sq.length -> 0 <= nth sq j) : PlW (ZF.mk w.Frame w.ZY w.Zx (w.ZA.set i a) sq w.YO w.Next w.YE) :=
  ⟨h.fr, h.en, by rw [List.length_set]; exact h.ar, hl.trans h.sl, h.ll, h.nx, h.lr, h.fo, h.ce, RU h ha e9, h.nd.sublist (Gw e), fun x hx => h.lt x ((Gw e).subset hx), hs, h.lf⟩
theorem rK (h : PlW w) {i : Nat} (ha : Yi a = true) (e9 : a.Id = (i : Int)) (e : a.ZC.map (·.Id) = (nth w.ZA i).ZC.map (·.Id)) : PlW (ZF.mk w.Frame w.ZY w.Zx (w.ZA.set i a) w.Yt w.YO w.Next w.YE) :=
  AU h ha e9 (by rw [e]; exact List.Sublist.refl _) rfl h.sq
/- the steps, case by case -/
theorem VB (x a b : Int) : ZS x a b = true ↔ a <= x /\ x <= b := by
  simp only [ZS, Bool.and_eq_true, decide_eq_true_eq]
theorem Od (h : xV f = true) : 0 <= f.Now /\ f.Now <= 10000 := by
  simp only [xV, Kq, Bool.and_eq_true, VB] at h
  exact h.2
theorem Dl (h : xV f = true) (h0 : 0 <= t) (h1 : t <= 10000) : xV (ZX.mk f.Zo f.ZB f.Methods f.XT t) = true := by
  simp only [xV, Kq, Bool.and_eq_true, VB] at h ⊢
  exact ⟨h.1, h0, h1⟩
theorem ya (h : YC w i = true) (hl : w.ZA.length <= 9223372036854775807) : 0 <= i /\ i.toNat < w.ZA.length := by
  unfold YC at h
  rw [VB] at h
  simp only [Y9] at h
  omega
theorem w9 (h0 : P (w, false)) (h1 : 0 <= n -> n <= 100 -> W (w.Frame.Now + n) <= 10000 -> P (ZF.mk (ZX.mk w.Frame.Zo w.Frame.ZB w.Frame.Methods w.Frame.XT (W (w.Frame.Now + n))) w.ZY w.Zx w.ZA w.Yt w.YO w.Next w.YE, true)) : P (YA w n) := by
  unfold YA
  refine Z4 (p := P) (fun _ => h0) (fun h => ?_)
  simp only [Bool.or_eq_false_iff, Bool.not_eq_false', VB, decide_eq_false_iff_not] at h
  exact h1 h.1.1 h.1.2 zAA
theorem OH {P : ZF × Bool -> Prop} {a0 : ZF} {a1 a2 : Int} {a3 : ZN} {a4 a5 : Int} (h0 : P (a0, false)) (h1 : ∀ v, v < a0.ZY.length -> (nth a0.ZY v).Key = a2 -> (RE a0 a2 a3 a4 v).2 = true -> (YQ (nth a0.ZA a1.toNat) (S5 a0 a2 a3 a4 a5 v)).2 = true -> P (RA a0 a1 (S5 a0 a2 a3 a4 a5 v), true)) :
    ∀ (m v : Nat) (r : ZF × Bool), Qv a0 a1 a2 a3 a4 a5 m v = .inl r -> P r
  | 0, v, r, h => zA6
  | m + 1, v, r, h => by
    simp only [Qv] at h
    by_cases hv : v < a0.ZY.length
    · rw [decide_eq_true (show (v : Int) < (a0.ZY.length : Int) by omega), Xd] at h
      cases hk : ((nth a0.ZY v).Key != a2) with
      | true => rw [hk, Xd] at h; exact OH h0 h1 m (v + 1) r h
      | false =>
        rw [hk, Xa] at h
        have hk : (nth a0.ZY v).Key = a2 := by simpa using hk
        change (bif ((!(RE a0 a2 a3 a4 v).2) || !(YQ (nth a0.ZA a1.toNat) (S5 a0 a2 a3 a4 a5 v)).2) then (Sum.inl (a0, false) : Sum (ZF × Bool) Unit) else .inl (RA a0 a1 (S5 a0 a2 a3 a4 a5 v), true)) = .inl r at h
        grind
    · grind
theorem LZ (h0 : P (a0, false)) (h1 : YC a0 a1 = true -> 0 <= Zt a0.Frame.Zo a2 -> 0 <= ZO a0.Frame.Methods a0.Frame.Now -> ∀ v, v < a0.ZY.length -> (nth a0.ZY v).Key = a2 -> (RE a0 a2 a3 a4 v).2 = true -> (YQ (nth a0.ZA a1.toNat) (S5 a0 a2 a3 a4 a5 v)).2 = true -> P (RA a0 a1 (S5 a0 a2 a3 a4 a5 v), true)) : P (XJ a0 a1 a2 a3 a4 a5) := by
  unfold XJ
  refine Z4 (p := P) (fun _ => h0) (fun h => ?_)
  simp only [Bool.or_eq_false_iff, Bool.not_eq_false', decide_eq_false_iff_not] at h
  cases e : Qv a0 a1 a2 a3 a4 a5 (a0.ZY.length + 1) 0 with
  | inl r => exact OH h0 (h1 h.1.1 zAA zAA) _ _ r e
  | inr _ => exact h0
theorem wY (h0 : P (a0, false)) (h1 : YC a0 a1 = true -> 0 <= Zt a0.Frame.Zo a2 -> (nth a0.Frame.Zo (Zt a0.Frame.Zo a2).toNat).VI <= a0.Frame.Now -> 0 <= ZO a0.Frame.Methods a0.Frame.Now -> ∀ v, v < a0.ZY.length -> (nth a0.ZY v).Key = a2 -> (RE a0 a2 a3 a4 v).2 = true -> (YQ (nth a0.ZA a1.toNat) (S5 a0 a2 a3 a4 a5 v)).2 = true -> P (RA a0 a1 (S5 a0 a2 a3 a4 a5 v), true)) : P (JY a0 a1 a2 a3 a4 a5) := by
  unfold JY
  refine Z4 (p := P) (fun _ => h0) (fun h => ?_)
  simp only [Bool.or_eq_false_iff, decide_eq_false_iff_not] at h
  exact LZ (P := P) h0 (fun k1 k2 k3 => h1 k1 k2 zAA k3)
theorem B6 (h0 : P (a0, false)) (h1 : QW a0.Frame a2 = true -> YC a0 a1 = true -> 0 <= Zt a0.Frame.Zo a2 -> 0 <= ZO a0.Frame.Methods a0.Frame.Now -> ∀ v, v < a0.ZY.length -> (nth a0.ZY v).Key = a2 -> (RE a0 a2 a3 0 v).2 = true -> (YQ (nth a0.ZA a1.toNat) (S5 a0 a2 a3 0 10000 v)).2 = true -> P (ZF.mk a0.Frame a0.ZY a0.Zx (a0.ZA.set a1.toNat (YQ (nth a0.ZA a1.toNat) (S5 a0 a2 a3 0 10000 v)).1) a0.Yt a0.YO (W (a0.Next + 1)) (a0.YE ++ [a0.Next]), true)) : P (JI a0 a1 a2 a3) := by
  unfold JI
  refine Z4 (p := P) (fun _ => h0) (fun h => ?_)
  rw [Bool.not_eq_false'] at h
  exact LZ (P := fun r => P (bif r.2 then (ZF.mk r.1.Frame r.1.ZY r.1.Zx r.1.ZA r.1.Yt r.1.YO r.1.Next (r.1.YE ++ ([a0.Next] : List Int)), r.2) else (r.1, r.2))) h0 (fun k1 k2 k3 v k4 k5 k6 k7 => h1 h k1 k2 k3 v k4 k5 k6 k7)
theorem UL (h : (YQ a x).2 = true) : ZW a x.Id < 0 /\ Yi a = true /\ Yi (YQ a x).1 = true /\ ∃ k, (YQ a x).1 = ZD.mk a.Id ((a.ZC.take k ++ [x]) ++ a.ZC.drop k) := by
  unfold YQ at h ⊢
  grind
theorem Rs (h : (YQ a x).2 = true) : ((YQ a x).1.ZC.map (·.Id)).Perm (x.Id :: a.ZC.map (·.Id)) := by
  obtain ⟨_, _, _, k, e⟩ := UL h
  rw [e]
  show (((a.ZC.take k ++ [x]) ++ a.ZC.drop k).map (·.Id)).Perm _
  rw [List.append_assoc, List.map_append, List.singleton_append, List.map_cons]
  refine List.perm_middle.trans ?_
  rw [<- List.map_append, List.take_append_drop]
theorem Lt (h0 : P (w, false)) (h1 : (YL w.Frame.Zo st).2 = true -> 0 <= ZW (nth w.ZA i.toNat) id -> (JD (nth (nth w.ZA i.toNat).ZC (ZW (nth w.ZA i.toNat) id).toNat).ZK (XK (YL w.Frame.Zo st).1)).2 = true -> P (ZF.mk w.Frame w.ZY w.Zx (w.ZA.set i.toNat (Xc (nth w.ZA i.toNat) id (XK (YL w.Frame.Zo st).1)).1) w.Yt w.YO w.Next w.YE, true)) : P (Qb w i id st) := by
  unfold Qb
  refine Z4 (p := P) (fun _ => h0) (fun h => ?_)
  simp only [Bool.or_eq_false_iff, Bool.not_eq_false'] at h
  obtain ⟨h2, h3⟩ := h
  unfold Xc at h3
  grind
/- renewing -/
def plN (w : ZF) (ids : List Int) (v : Nat) : Nat := (ZV w.Frame.ZB (nth ids v)).toNat
def CU (w : ZF) (i : Int) (ids : List Int) (v : Nat) (t : Int) : Zj × Bool := Xb w.Frame.Zo w.Frame.ZB (Zj.mk (nth ids v) (nth w.Yt (plN w ids v)) t (QH (nth w.ZA i.toNat) (ZO w.Frame.Methods w.Frame.Now)) 0)
def uk (w : ZF) (fF : Int) : Int := (if (if (W (w.Frame.Now + fF)) < 10000 then (W (w.Frame.Now + fF)) else 10000) > 0 then (if (W (w.Frame.Now + fF)) < 10000 then (W (w.Frame.Now + fF)) else 10000) else 0)
structure oy (w : ZF) (i : Int) (ids : List Int) (fF : Int) (v : Nat) (t : Int) : Prop where
  au : 0 <= ZV w.Frame.ZB (nth ids v)
  lt : plN w ids v < w.Yt.length
  ky : 0 <= Zt w.Frame.Zo (nth w.Frame.ZB (plN w ids v)).Key
  bo : (nth w.Frame.Zo (Zt w.Frame.Zo (nth w.Frame.ZB (plN w ids v)).Key).toNat).VI <= w.Frame.Now
  ok : (CU w i ids v t).2 = true
  tm : (QG w.YO (nth ids v) = true /\ t = uk w fF) \/ (QG w.YO (nth ids v) = false /\ t = w.Frame.Now)
theorem HV {P : Nat -> List Zj -> List Int -> Prop} {w : ZF} {i : Int} {ids : List Int} {fF : Int} (hs : ∀ v l q t, v < ids.length -> oy w i ids fF v t -> P v l q -> P (v + 1) (l ++ [(CU w i ids v t).1]) (q.set (plN w ids v) (W (nth q (plN w ids v) + 1)))) :
    ∀ (m : Nat) (l : List Zj) (v : Nat) (q : List Int), ids.length < m + v -> v <= ids.length -> P v l q -> (∀ r, XY w i ids fF m l v q = .inl r -> r = (w, false)) /\ ∀ z, XY w i ids fF m l v q = .inr z -> P ids.length z.1 z.2
  | 0, l, v, q, h, hv, _ => zAA
  | m + 1, l, v, q, h, hv, hp => by
    rw [XY]
    let p := fun x : Sum (ZF × Bool) (List Zj × List Int) => (∀ r, x = .inl r -> r = (w, false)) /\ ∀ z, x = .inr z -> P ids.length z.1 z.2
    have bad : p (.inl (w, false)) := ⟨fun r h => zBk, fun z h => zA6⟩
    refine Z4 (p := p) (fun hc => ?_) (fun hc => ⟨fun r h => zA6, fun z h => (by cases h; have hc : ¬ v < ids.length := (by simpa using hc); have e : v = ids.length := (by omega); rw [<- e]; exact hp)⟩)
    have hc : v < ids.length := zBG
    refine Z4 (p := p) (fun _ => bad) (fun h1 => ?_)
    refine Z4 (p := p) (fun _ => bad) (fun h2 => ?_)
    simp only [Bool.or_eq_false_iff, decide_eq_false_iff_not] at h1 h2
    have go : ∀ t, ((QG w.YO (nth ids v) = true /\ t = uk w fF) \/ (QG w.YO (nth ids v) = false /\ t = w.Frame.Now)) -> (CU w i ids v t).2 = true -> p (XY w i ids fF m (l ++ [(CU w i ids v t).1]) (v + 1) (q.set (plN w ids v) (W (nth q (plN w ids v) + 1)))) := fun t ht hk =>
      HV hs m _ (v + 1) _ zAA hc (hs v l q t hc ⟨zAA, by unfold plN; omega, by unfold plN; omega, by unfold plN; omega, hk, ht⟩ hp)
    refine Z4 (p := p) (fun h3 => ?_) (fun h3 => ?_)
    · refine Z4 (p := p) (fun _ => bad) (fun h4 => ?_)
      rw [Bool.not_eq_false'] at h4
      exact go (uk w fF) (.inl ⟨h3, rfl⟩) h4
    · refine Z4 (p := p) (fun _ => bad) (fun h4 => ?_)
      rw [Bool.not_eq_false'] at h4
      exact go w.Frame.Now (.inr ⟨h3, rfl⟩) h4
theorem BX (h0 : P (w, false)) (q0 : Q 0 [] w.Yt) (hs : ∀ v l q t, v < ids.length -> oy w i ids fF v t -> Q v l q -> Q (v + 1) (l ++ [(CU w i ids v t).1]) (q.set (plN w ids v) (W (nth q (plN w ids v) + 1))))
    (h1 : YC w i = true -> 0 <= ZO w.Frame.Methods w.Frame.Now -> QV ids = true -> ids ≠ [] -> ∀ l q, Q ids.length l q -> (XB (nth w.ZA i.toNat) (ZO w.Frame.Methods w.Frame.Now) l).2 = true -> P (ZF.mk w.Frame w.ZY w.Zx (w.ZA.set i.toNat (XB (nth w.ZA i.toNat) (ZO w.Frame.Methods w.Frame.Now) l).1) q w.YO w.Next w.YE, true)) : P (Ym w i ids fF) := by
  have k := HV hs (ids.length + 1) [] 0 w.Yt zAA (Nat.zero_le _) q0
  unfold Ym
  refine Z4 (p := P) (fun _ => h0) (fun h => ?_)
  simp only [Bool.or_eq_false_iff, Bool.not_eq_false', decide_eq_false_iff_not, beq_eq_false_iff_ne] at h
  obtain ⟨⟨⟨⟨k1, k2⟩, k3⟩, k4⟩, k5⟩ := h
  generalize XY w i ids fF (ids.length + 1) [] 0 w.Yt = s at k ⊢
  cases s with
  | inl r => rw [k.1 r rfl]; exact h0
  | inr z =>
    obtain ⟨l, q⟩ := z
    refine Z4 (p := P) (fun _ => h0) (fun h2 => ?_)
    rw [Bool.not_eq_false'] at h2
    exact h1 k1 zAA k3 (fun e => k4 (by rw [e]; rfl)) l q (k.2 _ rfl) h2
theorem TJ (h : (Yz s r).2 = true) : (Yz s r).1 = ZU.mk s.ZJ (s.ZP ++ [r]) /\ Xy (ZU.mk s.ZJ (s.ZP ++ [r])) = true := by
  unfold Yz at h ⊢
  grind
theorem Ly (h : (JD s p).2 = true) : (JD s p).1 = ZU.mk (s.ZJ ++ [p]) s.ZP /\ Xy (ZU.mk (s.ZJ ++ [p]) s.ZP) = true := by
  unfold JD at h ⊢
  grind
/- a sealed archive: each item has one renewal more -/
def ou (a : ZD) (m : Int) (l : List Zj) (v : Nat) : ZZ := ZZ.mk ((nth a.ZC v).ZK.ZJ.length : Int) m (QH a m) (JC m (Xf a m) (v : Int)) l
def Ag (a : ZD) (m : Int) (l : List Zj) (v : Nat) : ZQ := ZQ.mk (nth a.ZC v).Id (nth a.ZC v).Y8 (nth a.ZC v).Doc (nth a.ZC v).Sig (ZU.mk (nth a.ZC v).ZK.ZJ ((nth a.ZC v).ZK.ZP ++ [ou a m l v]))
theorem E0 (a : ZD) (m : Int) (l : List Zj) : ∀ (n v : Nat) (q : List ZQ), a.ZC.length < n + v -> v <= a.ZC.length -> q.length = a.ZC.length -> (∀ k, k < a.ZC.length -> nth q k = if k < v then Ag a m l k else nth a.ZC k) ->
    (∀ r, Xr a m l n v q = .inl r -> r = (a, false)) /\ ∀ z, Xr a m l n v q = .inr z -> z.length = a.ZC.length /\ ∀ k, k < a.ZC.length -> nth z k = Ag a m l k
  | 0, v, q, h, hv, _, _ => zAA
  | n + 1, v, q, h, hv, hl, hq => by
    rw [Xr]
    by_cases lH : v < a.ZC.length
    · rw [decide_eq_true (show (v : Int) < (a.ZC.length : Int) by omega), Xd]
      cases hc : (Yz (nth a.ZC v).ZK (ou a m l v)).2 with
      | false =>
        rw [show (Yz (nth a.ZC v).ZK (ZZ.mk ((nth a.ZC v).ZK.ZJ.length : Int) m (QH a m) (JC m (Xf a m) (v : Int)) l)).2 = false from hc, Bool.not_false, Xd]
        grind
      | true =>
        rw [show (Yz (nth a.ZC v).ZK (ZZ.mk ((nth a.ZC v).ZK.ZJ.length : Int) m (QH a m) (JC m (Xf a m) (v : Int)) l)).2 = true from hc, Bool.not_true, Xa]
        refine E0 a m l n (v + 1) _ zAA lH (by rw [List.length_set]; exact hl) (fun k hk => ?_)
        rw [Ko]
        split
        · rename_i he
          obtain ⟨rfl, _⟩ := he
          rw [if_pos (Nat.lt_succ_self _), hq v hk, if_neg (Nat.lt_irrefl _), show (Yz (nth a.ZC v).ZK (ZZ.mk ((nth a.ZC v).ZK.ZJ.length : Int) m (QH a m) (JC m (Xf a m) (v : Int)) l)).1 = _ from (TJ hc).1]
          rfl
        · grind
    · grind
theorem Ca (h : (XB a m l).2 = true) : Yi a = true /\ Yi (XB a m l).1 = true /\ (XB a m l).1.Id = a.Id /\ (XB a m l).1.ZC.length = a.ZC.length /\ ∀ k, k < a.ZC.length -> nth (XB a m l).1.ZC k = Ag a m l k := by
  have k := E0 a m l (a.ZC.length + 1) 0 a.ZC zAA (Nat.zero_le _) rfl (fun k _ => by rw [if_neg (Nat.not_lt_zero _)])
  unfold XB at h ⊢
  grind
theorem u9 {α : Type} [Inhabited α] {l m : List α} (hl : l.length = m.length) (h : ∀ i, i < l.length -> nth l i = nth m i) : l = m := by
  apply List.ext_getElem hl
  intro i h1 h2
  have := h i h1
  rwa [QS h1, QS h2] at this
theorem BY (h : (XB a m l).2 = true) : (XB a m l).1.ZC.map (·.Id) = a.ZC.map (·.Id) := by
  obtain ⟨_, _, _, h1, h2⟩ := Ca h
  refine u9 (by rw [List.length_map, List.length_map, h1]) (fun i hi => ?_)
  rw [List.length_map, h1] at hi
  rw [Pg (by rw [h1]; exact hi), Pg hi, h2 i hi]
  rfl
/- worlds stay worlds -/
/- what no step changes -/
def plC (w : ZF) : List Yw × List Zf × List Z8 × Int × List YX × List Int := (w.Frame.Zo, w.Frame.ZB, w.Frame.Methods, w.Frame.XT, w.ZY, w.YO)
structure PlI (b : Int) (x : ZF) : Prop where
  w : PlW x
  sb : ∀ i, i < x.Yt.length -> nth x.Yt i <= b
  fo : ∀ y ∈ x.YE, y < x.Next
  c : plC x = plC (QD 0) \/ plC x = plC (QD 1)
theorem Bp (h : PlI b w) : w.ZY = ji := by
  rcases h.c with h | h <;> exact congrArg (fun x => x.2.2.2.2.1) h
theorem pE (h : PlI b w) : w.Zx.length = 3 := by
  rw [h.w.en, Bp h]; rfl
theorem CJ {a : Int} (h : PlI a w) (hb : a <= b) : PlI b w := ⟨h.w, fun i hi => Int.le_trans (h.sb i hi) hb, h.fo, h.c⟩
theorem wy (h : PlI b w) : PlI b (YA w n).1 := by
  have k := Od h.w.fr
  refine w9 (P := fun r => PlI b r.1) h (fun h1 h2 h3 => ?_)
  have k2 : 0 <= W (w.Frame.Now + n) := zBB
  exact ⟨⟨Dl h.w.fr k2 h3, h.w.en, h.w.ar, h.w.sl, h.w.ll, h.w.nx, h.w.lr, h.w.fo, h.w.ce, h.w.ok, h.w.nd, h.w.lt, h.w.sq, h.w.lf⟩, h.sb, h.fo, h.c⟩
theorem HI (h : PlW w) {i : Nat} (hi : i < w.ZA.length) (hx : x.Id = w.Next) (ha : (YQ (nth w.ZA i) x).2 = true) (hf : QV fo = true) :
    W (w.Next + 1) = w.Next + 1 /\ PlW (ZF.mk w.Frame w.ZY w.Zx (w.ZA.set i (YQ (nth w.ZA i) x).1) w.Yt w.YO (w.Next + 1) fo) := by
  obtain ⟨_, h2, h3, k, e⟩ := UL ha
  have e9 : (YQ (nth w.ZA i) x).1.Id = (i : Int) := by rw [e]; exact (h.ok i hi).2
  have hm : x ∈ (YQ (nth w.ZA i) x).1.ZC := by rw [e]; exact List.mem_append.2 (.inl (List.mem_append.2 (.inr (List.mem_singleton.2 rfl))))
  have hit := ((VS _).1 h3).it x hm
  have hn : w.Next <= 999 := by
    unfold Jv at hit
    simp only [Bool.and_eq_true, VB] at hit
    omega
  have h0 := h.nx
  have hp := FE hi (Rs ha)
  rw [hx] at hp
  refine ⟨by simp only [Y9]; omega, ⟨h.fr, h.en, by rw [List.length_set]; exact h.ar, h.sl, h.ll, by show 1 <= w.Next + 1; omega, h.lr, hf, h.ce, RU h h3 e9, ?_, ?_, h.sq, h.lf⟩⟩
  · refine hp.nodup_iff.2 (List.nodup_cons.2 ⟨fun hc => ?_, h.nd⟩)
    have := h.lt _ hc; omega
  · intro y hy
    show y < w.Next + 1
    rcases List.mem_cons.1 (hp.mem_iff.1 hy) with rfl | hy
    · omega
    · have := h.lt y hy; omega
theorem rF {e : Int} (h : PlI b w) : PlI b (JY w i k d o e).1 /\ ((JY w i k d o e).2 = true -> (JY w i k d o e).1.Next = w.Next + 1) := by
  have hl := h.w.ar
  refine wY (P := fun r => PlI b r.1 /\ (r.2 = true -> r.1.Next = w.Next + 1)) ⟨h, fun k => (by cases k)⟩ (fun h1 _ _ _ v _ _ _ h7 => ?_)
  obtain ⟨h8, h9⟩ := ya h1 zAA
  obtain ⟨e1, hw⟩ := HI h.w h9 rfl h7 h.w.fo
  unfold RA
  rw [e1]
  exact ⟨⟨hw, h.sb, fun x hx => by have := h.fo x hx; show x < w.Next + 1; omega, h.c⟩, fun _ => rfl⟩
theorem qR {α : Type} [Inhabited α] (l m : List α) (i : Nat) : nth (l ++ m) i = if i < l.length then nth l i else nth m (i - l.length) := by
  simp only [nth, List.getD_eq_getElem?_getD, List.getElem?_append]
  split <;> rfl
theorem E7 (a1 : List Int) : QV a1 = true ↔ ∀ i, 0 < i -> i < a1.length -> nth a1 (i - 1) < nth a1 i := by
  have := Jy (L := qv a1) (len := a1.length) (c := fun v => decide ((nth a1 (v - 1)) >= (nth a1 v))) (fun _ => rfl) (fun _ _ => rfl) (a1.length + 1) 1 zAA true
  unfold QV
  grind
theorem Fl {l : List Int} {x : Int} (h : QV l = true) (hx : ∀ y ∈ l, y < x) : QV (l ++ [x]) = true := by
  rw [E7] at h ⊢
  intro i h0 hi
  rw [List.length_append, List.length_singleton] at hi
  rw [qR, qR]
  by_cases h1 : i < l.length
  · rw [if_pos zAA, if_pos h1]; exact h i h0 h1
  · rw [if_pos zAA, if_neg h1, show i - l.length = 0 by omega]
    exact hx _ (by rw [QS zAA]; exact List.getElem_mem _)
theorem tY (h : PlI b w) : PlI b (JI w i k d).1 := by
  have hl := h.w.ar
  refine B6 (P := fun r => PlI b r.1) h (fun _ h1 _ _ v _ _ _ h7 => ?_)
  obtain ⟨h8, h9⟩ := ya h1 zAA
  obtain ⟨e1, hw⟩ := HI h.w h9 rfl h7 (Fl h.w.fo h.fo)
  rw [e1]
  refine ⟨hw, h.sb, fun x hx => ?_, h.c⟩
  show x < w.Next + 1
  rcases List.mem_append.1 hx with hx | hx
  · have := h.fo x hx; omega
  · rw [List.mem_singleton.1 hx]; omega
/- an item whose strand changes -/
theorem rY (h : Jv x = true) (hs : Xy s = true) (h0 : nth s.ZJ 0 = nth x.ZK.ZJ 0) : Jv (ZQ.mk x.Id x.Y8 x.Doc x.Sig s) = true := by
  unfold Jv at h ⊢
  grind
theorem Ez (h : Jv x = true) : 0 < x.ZK.ZJ.length := by
  unfold Jv Xy at h
  simp only [Bool.and_eq_true] at h
  have h1 := h.1.2
  cases hc : ((!(ZS (x.ZK.ZJ.length : Int) 1 12)) || (decide ((x.ZK.ZP.length : Int) > 8))) with
  | true => rw [hc, Xd] at h1; cases h1
  | false =>
    simp only [Bool.or_eq_false_iff, Bool.not_eq_false', VB] at hc
    omega
theorem CZ {k : Nat} (h : Yi a = true) (hy : Jv y = true) (e9 : y.Id = (nth a.ZC k).Id) : Yi (ZD.mk a.Id (a.ZC.set k y)) = true /\ (a.ZC.set k y).map (·.Id) = a.ZC.map (·.Id) := by
  have e : (a.ZC.set k y).map (·.Id) = a.ZC.map (·.Id) := by
    refine u9 zAF (fun i hi => ?_)
    rw [List.length_map, List.length_set] at hi
    rw [Pg (by rw [List.length_set]; exact hi), Pg hi, Ko]
    split
    · rename_i hc; rw [e9, hc.1]
    · rfl
  have h := (VS a).1 h
  refine ⟨(VS _).2 ⟨fun x hx => ?_, by rw [e]; exact h.as, h.id, by rw [List.length_set]; exact h.ln⟩, e⟩
  rcases List.mem_or_eq_of_mem_set hx with hx | rfl
  · exact h.it x hx
  · exact hy
theorem Lr (h : PlW w) {i k : Nat} (hi : i < w.ZA.length) (hk : k < (nth w.ZA i).ZC.length) (hs : Xy s = true) (h0 : nth s.ZJ 0 = nth (nth (nth w.ZA i).ZC k).ZK.ZJ 0) :
    PlW (ZF.mk w.Frame w.ZY w.Zx (w.ZA.set i (ZD.mk (nth w.ZA i).Id ((nth w.ZA i).ZC.set k (ZQ.mk (nth (nth w.ZA i).ZC k).Id (nth (nth w.ZA i).ZC k).Y8 (nth (nth w.ZA i).ZC k).Doc (nth (nth w.ZA i).ZC k).Sig s)))) w.Yt w.YO w.Next w.YE) := by
  have h1 := h.ok i hi
  have h2 : Jv (nth (nth w.ZA i).ZC k) = true := ((VS _).1 h1.1).it _ (by rw [QS hk]; exact List.getElem_mem hk)
  obtain ⟨h3, h4⟩ := CZ (k := k) h1.1 (rY h2 hs h0) rfl
  exact rK h h3 h1.2 h4
theorem jl {x : Int} (h : 0 <= ZW a x) : (ZW a x).toNat < a.ZC.length /\ (nth a.ZC (ZW a x).toNat).Id = x := by
  unfold ZW at h ⊢
  rcases xb (L := zl a x) (r := fun i => (i : Int)) (fun _ => rfl) (fun _ _ => rfl) (a.ZC.length + 1) 0 zAA with ⟨e, p⟩ | ⟨i, e, p1, p2, p3, p4⟩
  · rw [e] at h; simp at h
  · rw [e]
    exact ⟨by simpa using p2, by simpa using p3⟩
theorem Og (h : PlW w) {i k : Nat} (hi : i < w.ZA.length) (hk : k < (nth w.ZA i).ZC.length) : Jv (nth (nth w.ZA i).ZC k) = true :=
  ((VS _).1 (h.ok i hi).1).it _ (by rw [QS hk]; exact List.getElem_mem hk)
theorem RY (h : PlI b w) (h0 : 0 <= i) (hi : i < (w.ZA.length : Int)) : PlI b (Qb w i id st).1 := by
  refine Lt (P := fun r => PlI b r.1) h (fun _ h2 h3 => ?_)
  obtain ⟨e, hs⟩ := Ly h3
  obtain ⟨hk, _⟩ := jl h2
  have hG : i.toNat < w.ZA.length := zAA
  have hp := Ez (Og h.w hG hk)
  have k := Lr (s := _) h.w hG hk hs (by
    show nth (_ ++ [_]) 0 = _
    rw [qR, if_pos hp])
  rw [<- e] at k
  have e2 : (Xc (nth w.ZA i.toNat) id (XK (YL w.Frame.Zo st).1)).1 = ZD.mk (nth w.ZA i.toNat).Id ((nth w.ZA i.toNat).ZC.set (ZW (nth w.ZA i.toNat) id).toNat (ZQ.mk (nth (nth w.ZA i.toNat).ZC (ZW (nth w.ZA i.toNat) id).toNat).Id (nth (nth w.ZA i.toNat).ZC (ZW (nth w.ZA i.toNat) id).toNat).Y8 (nth (nth w.ZA i.toNat).ZC (ZW (nth w.ZA i.toNat) id).toNat).Doc (nth (nth w.ZA i.toNat).ZC (ZW (nth w.ZA i.toNat) id).toNat).Sig (JD (nth (nth w.ZA i.toNat).ZC (ZW (nth w.ZA i.toNat) id).toNat).ZK (XK (YL w.Frame.Zo st).1)).1)) := by
    unfold Xc
    rw [decide_eq_false zAA, Xa]
  rw [e2]
  exact ⟨k, h.sb, h.fo, h.c⟩
theorem uM (h : PlI b w) : PlI b (Qy w id).1 := by
  unfold Qy
  refine Z4 (p := fun r : ZF × Bool => PlI b r.1) (fun _ => h) (fun hc => ?_)
  refine Z4 (p := fun r : ZF × Bool => PlI b r.1) (fun _ => h) (fun _ => ?_)
  simp only [Bool.or_eq_false_iff, Bool.not_eq_false'] at hc
  have k := Qd w id hc.1
  exact Zi (p := fun r : ZF × Bool => PlI b r.1) (RY h k.1 k.2.1) (RY h k.1 k.2.1)
theorem ss (h : PlI b w) : PlI b (J6 w id t).1 := by
  unfold J6
  refine Z4 (p := fun r : ZF × Bool => PlI b r.1) (fun _ => h) (fun hc => ?_)
  simp only [Bool.or_eq_false_iff, Bool.not_eq_false'] at hc
  have k := Qd w id hc.1
  exact RY h k.1 k.2.1
theorem uO (h : PlI b w) : PlI b (QJ w k).1 /\ ((QJ w k).2 = true -> 0 <= k /\ k.toNat < w.Zx.length /\ nth (QJ w k).1.Zx k.toNat = W (w.Frame.Now + 1)) := by
  have h0 := Od h.w.fr
  have hb := pE h
  unfold QJ
  refine Z4 (p := fun r : ZF × Bool => PlI b r.1 /\ (r.2 = true -> 0 <= k /\ k.toNat < w.Zx.length /\ nth r.1.Zx k.toNat = W (w.Frame.Now + 1))) (fun _ => ⟨h, fun h => zA6⟩) (fun hc => ?_)
  simp only [Bool.or_eq_false_iff, Bool.not_eq_false', VB] at hc
  have e : W ((w.Zx.length : Int) - 1) = w.Zx.length - 1 := zBB
  rw [e] at hc
  refine ⟨⟨⟨h.w.fr, by rw [List.length_set]; exact h.w.en, h.w.ar, h.w.sl, h.w.ll, h.w.nx, h.w.lr, h.w.fo, fun i hi => ?_, h.w.ok, h.w.nd, h.w.lt, h.w.sq, h.w.lf⟩, h.sb, h.fo, h.c⟩, fun _ => ⟨hc.1.1, zAA, ?_⟩⟩
  · have := h.w.ce i hi
    refine ⟨this.1, this.2.1, ?_⟩
    show ZS (nth (w.Zx.set k.toNat _) i) (-1) 10001 = true
    rw [Ko]
    split
    · rw [VB]; simp only [Y9]; omega
    · exact this.2.2
  · show nth (w.Zx.set k.toNat _) k.toNat = _
    rw [Ko, if_pos ⟨rfl, zAA⟩]
theorem BD (h : PlI b w) (hn : (ids.length : Int) <= n) (hb : b + n <= 4611686018427387904) : PlI (b + n) (Ym w i ids fF).1 /\ (Ym w i ids fF).1.Yt.length = w.Yt.length /\ (∀ j, j < w.Yt.length -> nth w.Yt j <= nth (Ym w i ids fF).1.Yt j) := by
  have hl := h.w.ar
  refine BX (P := fun r => PlI (b + n) r.1 /\ r.1.Yt.length = w.Yt.length /\ (∀ j, j < w.Yt.length -> nth w.Yt j <= nth r.1.Yt j)) (Q := fun v _ q => q.length = w.Yt.length /\ ∀ j, j < w.Yt.length -> nth w.Yt j <= nth q j /\ nth q j <= nth w.Yt j + v) ⟨CJ h zAA, rfl, fun j _ => Int.le_refl _⟩ ⟨rfl, fun j _ => ⟨Int.le_refl _, zAF⟩⟩ (fun v l q t hv _ hq => ⟨by rw [List.length_set]; exact hq.1, fun j hj => ?_⟩) (fun h1 _ _ _ l q hq hk => ?_)
  · have z := hq.2 j hj
    rw [Ko]
    split
    · rename_i hc
      have k1 := h.w.sq j hj
      have k2 := h.sb j hj
      rw [hc.1]
      have e : W (nth q j + 1) = nth q j + 1 := zBB
      rw [e]
      omega
    · omega
  · obtain ⟨h8, h9⟩ := ya h1 zAA
    obtain ⟨_, k1, k2, _, _⟩ := Ca hk
    have k3 := BY hk
    have hs : ∀ j, j < q.length -> 0 <= nth q j := fun j hj => by rw [hq.1] at hj; have := h.w.sq j hj; have := hq.2 j hj; omega
    refine ⟨⟨AU h.w k1 (by rw [k2]; exact (h.w.ok _ h9).2) (by rw [k3]; exact List.Sublist.refl _) hq.1 hs, fun j hj => ?_, h.fo, h.c⟩, hq.1, fun j hj => (hq.2 j hj).1⟩
    change j < q.length at hj
    rw [hq.1] at hj
    have := hq.2 j hj; have := h.sb j hj
    show nth q j <= b + n
    omega
theorem Le {l : List ZQ} (h : Yi a = true) (hl : l.Sublist a.ZC) : Yi (ZD.mk a.Id l) = true := by
  have h := (VS a).1 h
  exact (VS _).2 ⟨fun x hx => h.it x (hl.subset hx), h.as.sublist (hl.map _), h.id, Nat.le_trans hl.length_le h.ln⟩
theorem wL {l : List ZD} {i : Nat} {x : Int} (h : i < l.length) (e : ((nth l i).ZC.map (·.Id)).Perm (x :: a.ZC.map (·.Id))) : (qn l).Perm (x :: qn (l.set i a)) := by
  obtain ⟨A, B, h1, h2⟩ := SA l i h
  grind
theorem Fc {l : List ZQ} {k : Nat} {x : Int} (hk : k < l.length) (hx : (nth l k).Id = x) : (l.map (·.Id)).Perm (x :: (l.eraseIdx k).map (·.Id)) := by
  have e : l.map (·.Id) = (l.take k).map (·.Id) ++ x :: (l.drop (k + 1)).map (·.Id) := by
    rw [<- hx, QS hk, <- List.map_cons (f := fun x : ZQ => x.Id), <- List.map_append, <- List.drop_eq_getElem_cons hk, List.take_append_drop]
  grind
theorem vF (hl : a.ZC.length <= 1048576) (h : (X9 a id).2 = true) : 0 <= ZW a id /\ (X9 a id).1 = ZD.mk a.Id (a.ZC.eraseIdx (ZW a id).toNat) := by
  unfold X9 at h ⊢
  cases hc : decide ((ZW a id) < 0) with
  | true => rw [hc, Xd] at h; cases h
  | false =>
    have hc := of_decide_eq_false hc
    have k := jl (a := a) (x := id) zAA
    rw [Xa]
    refine ⟨zAA, ?_⟩
    rw [List.eraseIdx_eq_take_drop_succ, show (W (ZW a id + 1)).toNat = (ZW a id).toNat + 1 by simp only [Y9]; omega]
theorem CL {b : ZD} (h : (Y0 a b [id] m).2.2 = true) : 0 <= ZW a id /\ (X9 a id).2 = true /\ (YQ b (nth a.ZC (ZW a id).toNat)).2 = true /\ (Y0 a b [id] m).1 = (X9 a id).1 /\ (Y0 a b [id] m).2.1 = (YQ b (nth a.ZC (ZW a id).toNat)).1 := by
  have hmp : ZW a id < 0 -> (Y1 a b.Id [id] m).2 = false := fun hc => by
    simp [Y1, Qm, hc, nth]
  have hmq : ¬ ZW a id < 0 -> Y1 a b.Id [id] m = (YZ.mk a.Id b.Id [nth a.ZC (ZW a id).toNat] (QO m [nth a.ZC (ZW a id).toNat]), true) := fun hc => by
    simp [Y1, Qm, hc, nth]
  by_cases hc : ZW a id < 0
  · unfold Y0 at h
    grind
  · have e := hmq hc
    generalize hx : nth a.ZC (ZW a id).toNat = x at e ⊢
    unfold Y0 at h ⊢
    rw [e] at h ⊢
    dsimp only at h ⊢
    rw [Bool.not_true, Bool.false_or] at h ⊢
    have dt : (XE b (YZ.mk a.Id b.Id [x] (QO m [x])) m).2 = true -> (YQ b x).2 = true /\ (XE b (YZ.mk a.Id b.Id [x] (QO m [x])) m).1 = (YQ b x).1 := fun hq => by
      unfold XE at hq ⊢
      cases hd : ((!(Qp (YZ.mk a.Id b.Id [x] (QO m [x])) m)) || (b.Id != b.Id)) with
      | true => dsimp only at hq; rw [hd, Xd] at hq; cases hq
      | false =>
        dsimp only at hq ⊢
        rw [hd, Xa] at hq
        rw [Xa]
        cases hz : (YQ b x).2 with
        | false => simp [X8, hz, nth] at hq
        | true => refine ⟨rfl, ?_⟩; simp [X8, hz, nth]
    cases h2 : (XE b (YZ.mk a.Id b.Id [x] (QO m [x])) m).2 with
    | false => rw [h2, Bool.not_false, Xd] at h; cases h
    | true =>
      obtain ⟨k1, k2⟩ := dt h2
      rw [h2, Bool.not_true, Xa] at h
      rw [Bool.not_true, Xa, k2]
      cases hz : (X9 a id).2 with
      | false => simp [QT, hz, nth] at h
      | true => refine ⟨zAA, rfl, k1, ?_, ?_⟩ <;> simp [QT, hz, nth]
theorem vM (h0 : P (w, false)) (h1 : YC w i = true -> YC w k = true -> i ≠ k -> 0 <= ZW (nth w.ZA i.toNat) id -> (X9 (nth w.ZA i.toNat) id).2 = true -> (YQ (nth w.ZA k.toNat) (nth (nth w.ZA i.toNat).ZC (ZW (nth w.ZA i.toNat) id).toNat)).2 = true -> P (ZF.mk w.Frame w.ZY w.Zx ((w.ZA.set i.toNat (X9 (nth w.ZA i.toNat) id).1).set k.toNat (YQ (nth w.ZA k.toNat) (nth (nth w.ZA i.toNat).ZC (ZW (nth w.ZA i.toNat) id).toNat)).1) w.Yt w.YO w.Next w.YE, true)) : P (J8 w i k id) := by
  unfold J8
  refine Z4 (p := P) (fun _ => h0) (fun h => ?_)
  simp only [Bool.or_eq_false_iff, Bool.not_eq_false', beq_eq_false_iff_ne] at h
  cases hm : (Y0 (nth w.ZA i.toNat) (nth w.ZA k.toNat) ([id] : List Int) (ZO w.Frame.Methods w.Frame.Now)).2.2 with
  | false => rw [Xa]; exact h0
  | true =>
    obtain ⟨k1, k2, k3, k4, k5⟩ := CL hm
    rw [Xd, k4, k5]
    exact h1 h.1.1.1 h.1.1.2 h.1.2 k1 k2 k3
theorem rO (h : PlI b w) : PlI b (J8 w i k id).1 := by
  have hl := h.w.ar
  refine vM (P := fun r => PlI b r.1) h (fun h1 h2 h3 h4 h5 h6 => ?_)
  obtain ⟨i0, i1⟩ := ya h1 zAA
  obtain ⟨k0, k1⟩ := ya h2 zAA
  have ai := h.w.ok _ i1
  have ak := h.w.ok _ k1
  have hln := ((VS _).1 ai.1).ln
  obtain ⟨_, e⟩ := vF zAA h5
  obtain ⟨f1, f2⟩ := jl h4
  obtain ⟨_, _, g1, _, g2⟩ := UL h6
  have g3 := Rs h6
  rw [f2] at g3
  rw [e]
  have lA : i.toNat ≠ k.toNat := zAA
  have p1 : (qn w.ZA).Perm (id :: qn (w.ZA.set i.toNat (ZD.mk (nth w.ZA i.toNat).Id ((nth w.ZA i.toNat).ZC.eraseIdx (ZW (nth w.ZA i.toNat) id).toNat)))) := by
    refine wL i1 ?_
    exact Fc f1 f2
  have p2 := FE (l := w.ZA.set i.toNat (ZD.mk (nth w.ZA i.toNat).Id ((nth w.ZA i.toNat).ZC.eraseIdx (ZW (nth w.ZA i.toNat) id).toNat))) (i := k.toNat) (a := (YQ (nth w.ZA k.toNat) (nth (nth w.ZA i.toNat).ZC (ZW (nth w.ZA i.toNat) id).toNat)).1) (x := id) (by rw [List.length_set]; exact k1) (by rw [Ko, if_neg (fun hc => lA hc.1)]; exact g3)
  have p := p2.trans p1.symm
  have hA : ∀ j, j < (w.ZA.set i.toNat (ZD.mk (nth w.ZA i.toNat).Id ((nth w.ZA i.toNat).ZC.eraseIdx (ZW (nth w.ZA i.toNat) id).toNat))).length -> _ := RU h.w (Le ai.1 (List.eraseIdx_sublist _ _)) ai.2
  refine ⟨⟨h.w.fr, h.w.en, by rw [List.length_set, List.length_set]; exact h.w.ar, h.w.sl, h.w.ll, h.w.nx, h.w.lr, h.w.fo, h.w.ce, fun j hj => ?_, p.nodup_iff.2 h.w.nd, fun x hx => h.w.lt x (p.mem_iff.1 hx), h.w.sq, h.w.lf⟩, h.sb, h.fo, h.c⟩
  rw [List.length_set] at hj
  show Yi (nth (List.set _ k.toNat _ : List ZD) j) = true /\ (nth (List.set _ k.toNat _ : List ZD) j).Id = _
  rw [Ko]
  grind
theorem Rx (a : ZD) (t : Int) : ∀ (n v : Nat) (l : List ZQ), a.ZC.length < n + v -> v <= a.ZC.length -> QP a t n v l = l ++ (a.ZC.drop v).filter (fun x => decide (x.Y8 >= t))
  | 0, v, l, h, hv => zAA
  | n + 1, v, l, h, hl => by
    rw [QP]
    by_cases hv : v < a.ZC.length
    · rw [decide_eq_true (show (v : Int) < (a.ZC.length : Int) by omega), Xd, List.drop_eq_getElem_cons hv, List.filter_cons, QS hv]
      cases hk : decide (a.ZC[v].Y8 >= t) with
      | true => rw [Xd, Rx a t n _ _ zAA hv, List.append_assoc]; rfl
      | false => rw [Xa, Rx a t n _ _ zAA hv]; rfl
    · grind
theorem Eb (h0 : P (w, false)) (h1 : YC w i = true -> P (ZF.mk w.Frame w.ZY w.Zx (w.ZA.set i.toNat (ZD.mk (nth w.ZA i.toNat).Id ((nth w.ZA i.toNat).ZC.filter (fun x => decide (x.Y8 >= w.Frame.Now))))) w.Yt w.YO w.Next w.YE, true)) : P (Qw w i) := by
  unfold Qw
  refine Z4 (p := P) (fun _ => h0) (fun h => ?_)
  rw [Bool.not_eq_false'] at h
  unfold Ky
  rw [Rx _ _ _ _ _ zAA (Nat.zero_le _), List.drop_zero, List.nil_append]
  exact h1 h
theorem vp (h : PlI b w) : PlI b (Qw w i).1 := by
  have hl := h.w.ar
  refine Eb (P := fun r => PlI b r.1) h (fun h1 => ?_)
  obtain ⟨i0, i1⟩ := ya h1 zAA
  have ai := h.w.ok _ i1
  exact ⟨AU h.w (Le ai.1 List.filter_sublist) ai.2 (List.filter_sublist.map _) rfl h.w.sq, h.sb, h.fo, h.c⟩
theorem Er {w : ZF} {id t : Int} : ∀ (n v : Nat) (l : List Zj) (r : ZF × Bool), XG w id t n v l = .inl r -> r = (w, false)
  | 0, v, l, r, h => zA6
  | n + 1, v, l, r, h => by
    rw [XG] at h
    revert h
    refine Zi (p := fun x : Sum (ZF × Bool) (List Zj) => x = .inl r -> r = (w, false)) ?_ (fun h => by cases h)
    exact Zi (p := fun x : Sum (ZF × Bool) (List Zj) => x = .inl r -> r = (w, false)) (fun h => by cases h; rfl) (fun h => Er n _ _ r h)
def Cx (w : ZF) (id : Int) (l : List Zj) : ZZ := ZZ.mk ((nth (nth w.ZA (ZL w id).1.toNat).ZC (ZL w id).2.toNat).ZK.ZJ.length : Int) (ZO w.Frame.Methods w.Frame.Now) (Qx (nth (nth w.ZA (ZL w id).1.toNat).ZC (ZL w id).2.toNat) (ZO w.Frame.Methods w.Frame.Now)) [] l
theorem wq (h0 : P (w, false)) (h1 : QG w.YE id = true -> 0 <= (ZL w id).1 -> 0 <= ZO w.Frame.Methods w.Frame.Now -> Zm w ≠ [] -> ∀ l, XG w id t ((Zm w).length + 1) 0 [] = .inr l -> (Yz (nth (nth w.ZA (ZL w id).1.toNat).ZC (ZL w id).2.toNat).ZK (Cx w id l)).2 = true -> P (ZF.mk w.Frame w.ZY w.Zx (w.ZA.set (ZL w id).1.toNat (ZD.mk (nth w.ZA (ZL w id).1.toNat).Id ((nth w.ZA (ZL w id).1.toNat).ZC.set (ZL w id).2.toNat (ZQ.mk (nth (nth w.ZA (ZL w id).1.toNat).ZC (ZL w id).2.toNat).Id (nth (nth w.ZA (ZL w id).1.toNat).ZC (ZL w id).2.toNat).Y8 (nth (nth w.ZA (ZL w id).1.toNat).ZC (ZL w id).2.toNat).Doc (nth (nth w.ZA (ZL w id).1.toNat).ZC (ZL w id).2.toNat).Sig (ZU.mk (nth (nth w.ZA (ZL w id).1.toNat).ZC (ZL w id).2.toNat).ZK.ZJ ((nth (nth w.ZA (ZL w id).1.toNat).ZC (ZL w id).2.toNat).ZK.ZP ++ [Cx w id l])))))) w.Yt w.YO w.Next w.YE, true)) : P (Xs w id t) := by
  unfold Xs
  refine Z4 (p := P) (fun _ => h0) (fun h => ?_)
  simp only [Bool.or_eq_false_iff, Bool.not_eq_false', decide_eq_false_iff_not, beq_eq_false_iff_ne] at h
  have e := fun r => Er (w := w) (id := id) (t := t) ((Zm w).length + 1) 0 [] r
  have h1 := h1 h.1.1.1 zAA zAA (fun e => h.2 (by rw [e]; rfl))
  generalize XG w id t ((Zm w).length + 1) 0 [] = s at e h1 ⊢
  cases s with
  | inl r => rw [e r rfl]; exact h0
  | inr l =>
    have h1 := h1 l rfl
    cases ha : (Yz (nth (nth w.ZA (ZL w id).1.toNat).ZC (ZL w id).2.toNat).ZK (Cx w id l)).2 with
    | true =>
      have h2 := h1 ha
      have e1 := (TJ ha).1
      unfold Cx at ha e1
      dsimp only
      rw [ha, e1]
      exact h2
    | false =>
      have e1 : (Yz (nth (nth w.ZA (ZL w id).1.toNat).ZC (ZL w id).2.toNat).ZK (Cx w id l)).1 = (nth (nth w.ZA (ZL w id).1.toNat).ZC (ZL w id).2.toNat).ZK := by
        unfold Yz at ha ⊢
        grind
      unfold Cx at ha e1
      dsimp only
      rw [ha, e1]
      rw [show ZQ.mk (nth (nth w.ZA (ZL w id).1.toNat).ZC (ZL w id).2.toNat).Id (nth (nth w.ZA (ZL w id).1.toNat).ZC (ZL w id).2.toNat).Y8 (nth (nth w.ZA (ZL w id).1.toNat).ZC (ZL w id).2.toNat).Doc (nth (nth w.ZA (ZL w id).1.toNat).ZC (ZL w id).2.toNat).Sig (nth (nth w.ZA (ZL w id).1.toNat).ZC (ZL w id).2.toNat).ZK = nth (nth w.ZA (ZL w id).1.toNat).ZC (ZL w id).2.toNat from rfl, HJ, show ZD.mk (nth w.ZA (ZL w id).1.toNat).Id (nth w.ZA (ZL w id).1.toNat).ZC = nth w.ZA (ZL w id).1.toNat from rfl, HJ]
      exact h0
theorem sw (h : PlI b w) : PlI b (Xs w id t).1 := by
  refine wq (P := fun r => PlI b r.1) h (fun _ h2 _ _ l _ h5 => ?_)
  obtain ⟨k1, k2, k3⟩ := QM w id h2
  obtain ⟨_, k4⟩ := TJ h5
  exact ⟨Lr h.w k1 k3 k4 rfl, h.sb, h.fo, h.c⟩
theorem Vo (n : Int) : QD n = QD 0 \/ QD n = QD 1 := by
  have e : Wn 1 (xn 0 n) = Wn 1 (xn 0 0) \/ Wn 1 (xn 0 n) = Wn 1 (xn 0 1) := by
    by_cases h : n > 0
    · right
      have e1 : xn 0 n = n := by unfold xn; simp only [h, decide_true, Xd]
      have e2 : ¬ n < 1 := zAA
      rw [e1]
      unfold Wn
      simp only [e2, decide_false, Xa]
      rfl
    · left
      have e1 : xn 0 n = 0 := by unfold xn; simp only [h, decide_false, Xa]
      rw [e1]
      rfl
  rcases e with e | e
  · left; unfold QD; rw [e]
  · right; unfold QD; rw [e]
theorem oS (x : Int) : PlI 0 (QD x) := by
  have h1 : Vj (QD x) = true := by rcases Vo x with h | h <;> rw [h] <;> decide +kernel
  refine ⟨(Bj _).1 h1, ?_, ?_, by rcases Vo x with h | h <;> rw [h] <;> simp⟩
  · rcases Vo x with h | h <;> rw [h] <;> decide +kernel
  · rcases Vo x with h | h <;> rw [h] <;> decide +kernel
/- events -/
theorem B9 (h0 : P (w, false)) (h1 : e.Kind = 1 -> P (YA w e.A)) (h2 : e.Kind = 2 -> P (JY w e.A e.B e.Doc e.C e.D)) (h3 : e.Kind = 3 -> P (Qy w e.A)) (h4 : e.Kind = 4 -> P (QJ w e.A)) (h5 : e.Kind = 5 -> P (Ym w e.A e.Ids e.B)) (h6 : e.Kind = 6 -> P (J8 w e.A e.B e.C)) (h7 : e.Kind = 7 -> P (Qw w e.A)) (h8 : e.Kind = 8 -> P (JI w e.A e.B e.Doc)) (h9 : e.Kind = 9 -> P (Xs w e.A e.B)) (ev : e.Kind = 10 -> P (J6 w e.A e.B)) : P (Yg w e) := by
  unfold Yg
  refine Z4 (p := P) (fun h => h1 zBd) (fun _ => ?_)
  grind
theorem tu (h : PlI b w) (hn : (e.Ids.length : Int) <= n) (hb : b + n <= 4611686018427387904) : PlI (b + n) (Yg w e).1 := by
  have hm := CJ (b := b + n) h zAA
  exact B9 (P := fun r => PlI (b + n) r.1) hm (fun _ => wy hm) (fun _ => (rF hm).1) (fun _ => uM hm) (fun _ => (uO hm).1) (fun _ => (BD h hn hb).1) (fun _ => rO hm) (fun _ => vp hm) (fun _ => tY hm) (fun _ => sw hm) (fun _ => ss hm)
def plU (w : ZF) := (w.Frame.Zo, w.Frame.ZB, w.Frame.Methods, w.Frame.XT, w.Frame.Now, w.ZY, w.Zx, w.ZA, w.Yt, w.YO, w.Next, w.YE)
theorem PO (h : Xy s = true) : (1 <= s.ZJ.length /\ s.ZJ.length <= 12) /\ s.ZP.length <= 8 /\ (∀ i, i < s.ZJ.length -> Km (s.ZJ.take i) (nth s.ZJ i) = false) /\ ∀ k, k < s.ZP.length -> (1 <= (nth s.ZP k).Count /\ (nth s.ZP k).Count <= s.ZJ.length) /\ (0 < k -> (nth s.ZP (k - 1)).Count <= (nth s.ZP k).Count) := by
  unfold Xy at h
  cases hc : ((!(ZS (s.ZJ.length : Int) 1 12)) || (decide ((s.ZP.length : Int) > 8))) with
  | true => rw [hc, Xd] at h; cases h
  | false =>
    rw [hc, Xa] at h
    have k1 := (Jy (L := xG s) (fun _ => rfl) (fun _ _ => rfl) (s.ZJ.length + 1) 0 zAA _).1 h
    have k2 := ((Jy (L := y7 s) (fun _ => rfl) (fun _ _ => rfl) (s.ZP.length + 1) 0 zAA true).1 k1.2).1
    simp only [Bool.or_eq_false_iff, Bool.not_eq_false', VB, decide_eq_false_iff_not] at hc
    refine ⟨⟨zAA, zAA⟩, zAA, fun i hi => k1.1 i (Nat.zero_le _) hi, fun k hk => ?_⟩
    have z := k2 k (Nat.zero_le _) hk
    simp only [Bool.or_eq_false_iff, Bool.not_eq_false', VB, Bool.and_eq_false_imp, decide_eq_true_eq, decide_eq_false_iff_not] at z
    exact ⟨z.1, fun h0 => by have := z.2 zAA; omega⟩
theorem L2 (h : Jv x = true) : Xy x.ZK = true := by
  unfold Jv at h
  simp only [Bool.and_eq_true] at h
  exact h.1.2
theorem rk (f : ZX) (x : ZQ) (q : ZT) : Yr f (QB x) (Qq (QB x) x.Doc) q = if zz f x.ZK (QN x.ZK x.Doc) q < f.Now then zz f x.ZK (QN x.ZK x.Doc) q else f.Now := by
  simp [Yr, zt, QB, Qq, Ke, nth]
theorem OG {l : List Zg} (h : ∀ t, JQ l t q = false) : (Jk l q).2 = false := by
  have key : ∀ n v x y, (Jp l q n false v x y).1 = false := by
    intro n
    induction n with
    | zero => intro v x y; rfl
    | succ n ih =>
      intro v x y
      rw [Jp]
      grind
  have := key 10002 0 0 0
  unfold Jk
  grind
theorem TV (a : List Zf) (l : List Zj) : ∀ (n : Nat) (acc : List Zg) (v : Nat), l.length < n + v -> v <= l.length ->
    (∀ r, zu a l n acc v = .inl r -> r.2 = false) /\ ∀ z, zu a l n acc v = .inr z -> z = acc ++ (l.drop v).map (fun s => (Xm a s).1) /\ ∀ j, v <= j -> j < l.length -> (Xm a (nth l j)).2 = true
  | 0, acc, v, h, hv => zAA
  | n + 1, acc, v, h, hv => by
    rw [zu]
    by_cases lH : v < l.length
    · rw [decide_eq_true (show (v : Int) < (l.length : Int) by omega), Xd]
      cases hc : (Xm a (nth l v)).2 with
      | false =>
        grind
      | true =>
        rw [Bool.not_true, Xa]
        obtain ⟨k1, k2⟩ := TV a l n (acc ++ [(Xm a (nth l v)).1]) (v + 1) zAA lH
        refine ⟨k1, fun z hz => ?_⟩
        obtain ⟨k3, k4⟩ := k2 z hz
        refine ⟨?_, fun j h1 h2 => ?_⟩
        · rw [k3, List.drop_eq_getElem_cons lH, List.map_cons, QS lH, List.append_assoc]; rfl
        · grind
    · grind
theorem CK {a : List Zf} (hl : r.YH.length <= 1000) (h : (r.YH.length : Int) <= q) : (Y3 a r q).2 = false := by
  show (QZ a r.YH q).2 = false
  obtain ⟨k1, k2⟩ := TV a r.YH (r.YH.length + 1) [] 0 zAA (Nat.zero_le _)
  unfold QZ
  generalize zu a r.YH (r.YH.length + 1) [] 0 = s at k1 k2 ⊢
  cases s with
  | inl x => exact k1 x rfl
  | inr z =>
    have hz := (k2 z rfl).1
    refine OG fun t => ?_
    have e : z.length = r.YH.length := by rw [hz]; simp
    unfold JQ
    have : ZS q 0 (W ((z.length : Int) - 1)) = false := by
      rw [Bool.eq_false_iff]
      intro hc
      rw [VB] at hc
      rw [e, show W ((r.YH.length : Int) - 1) = r.YH.length - 1 by simp only [Y9]; omega] at hc
      omega
    rw [this]; rfl
theorem tr {a : List Zf} {m : List Z8} {T : Int} (hT : 0 <= T) (hj : j < r.YH.length) (h : 0 <= Zt keys (X0 a (nth r.YH j)) -> zY m (nth keys (Zt keys (X0 a (nth r.YH j))).toNat).Method <= T) : Js keys a m r <= T := by
  have key : ∀ n b v, r.YH.length < n + v -> v <= r.YH.length -> (b <= T \/ v <= j) -> (match yg keys a m r n b v with | .inl r1 => r1 | .inr z => z) <= T := by
    intro n
    induction n with
    | zero => intro b v h1 h2; omega
    | succ n ih =>
      intro b v h1 h2 h3
      rw [yg]
      grind
  exact key _ _ _ zAA (Nat.zero_le _) (.inr (Nat.zero_le _))
theorem Nn (h : PlI b w) : w.Frame.Zo = yL /\ w.Frame.ZB = YK /\ w.Frame.Methods = WC /\ ((w.Frame.XT = 0 /\ w.YO = []) \/ (w.Frame.XT = 1 /\ w.YO = [1])) := by
  rcases h.c with e | e
  · exact ⟨congrArg (·.1) e, congrArg (·.2.1) e, congrArg (·.2.2.1) e, .inl ⟨congrArg (·.2.2.2.1) e, congrArg (·.2.2.2.2.2) e⟩⟩
  · exact ⟨congrArg (·.1) e, congrArg (·.2.1) e, congrArg (·.2.2.1) e, .inr ⟨congrArg (·.2.2.2.1) e, congrArg (·.2.2.2.2.2) e⟩⟩
theorem Om (w : ZF) : ∀ (n : Nat) (l : List Int) (v : Nat), w.Frame.ZB.length < n + v -> v <= w.Frame.ZB.length -> Xv w n l v = l ++ ((w.Frame.ZB.drop v).filter (fun a => QG w.YO a.Id || QW w.Frame a.Key)).map (·.Id)
  | 0, l, v, h, hv => zAA
  | n + 1, l, v, h, hv => by
    rw [Xv]
    by_cases lH : v < w.Frame.ZB.length
    · rw [decide_eq_true (show (v : Int) < (w.Frame.ZB.length : Int) by omega), Xd, List.drop_eq_getElem_cons lH, List.filter_cons, QS lH]
      cases hk : (QG w.YO (w.Frame.ZB[v]).Id || QW w.Frame (w.Frame.ZB[v]).Key) with
      | true => rw [Xd, Om w n _ _ zAA lH, List.append_assoc]; rfl
      | false => rw [Xa, Om w n _ _ zAA lH]; rfl
    · grind
theorem B5 (w : ZF) : Zm w = (w.Frame.ZB.filter (fun a => QG w.YO a.Id || QW w.Frame a.Key)).map (·.Id) := by
  have h := Om w (w.Frame.ZB.length + 1) [] 0 zAA (Nat.zero_le _)
  rw [List.drop_zero, List.nil_append] at h
  exact h
theorem O8 {k : List Yw} {a : List Zf} {s : Zj} (h : (Xb k a s).2 = true) : (0 <= ZV a s.Authority /\ 0 <= s.Seq /\ Kq s.Time = true) /\ (Xb k a s).1 = Zj.mk s.Authority s.Seq s.Time s.QK (zM k (nth a (ZV a s.Authority).toNat).Key (Jc s)).1 := by
  revert h
  unfold Xb
  grind
theorem DB {w : ZF} {id t : Int} : ∀ (n v : Nat) (l z : List Zj), (Zm w).length < n + v -> v <= (Zm w).length -> XG w id t n v l = .inr z -> z.map (·.Authority) = l.map (·.Authority) ++ (Zm w).drop v
  | 0, v, l, z, hn, hv, h => zAA
  | n + 1, v, l, z, hn, hv, h => by
    rw [XG] at h
    by_cases lH : v < (Zm w).length
    · rw [decide_eq_true (show (v : Int) < ((Zm w).length : Int) by omega), Xd] at h
      revert h
      refine Z4 (p := fun x : Sum (ZF × Bool) (List Zj) => x = .inr z -> z.map (·.Authority) = l.map (·.Authority) ++ (Zm w).drop v) (fun _ h => by cases h) (fun hc h => ?_)
      rw [Bool.not_eq_false'] at hc
      have k := DB n (v + 1) _ z zAA lH h
      rw [k, List.map_append, (O8 hc).2, List.drop_eq_getElem_cons lH, List.append_assoc]
      simp [QS lH]
    · grind
theorem rR : ∀ a ∈ YK, 0 <= ZV YK a.Id /\ (nth YK (ZV YK a.Id).toNat).Key = a.Key := zAE
theorem Bo (h : PlI b w) (hl : XG w id t ((Zm w).length + 1) 0 [] = .inr l) (ls : l.length <= 1000) : (∀ T, w.Frame.Now <= T -> Js w.Frame.Zo w.Frame.ZB w.Frame.Methods (Cx w id l) <= T) \/ (Y3 w.Frame.ZB (Cx w id l) w.Frame.XT).2 = false := by
  have e := DB _ _ _ _ zAA (Nat.zero_le _) hl
  rw [List.drop_zero, List.map_nil, List.nil_append] at e
  obtain ⟨c1, c2, c3, c4⟩ := Nn h
  by_cases ld : ∃ a ∈ w.Frame.ZB, QW w.Frame a.Key = true
  · left
    obtain ⟨a, ha, hs⟩ := ld
    intro T hT
    have h0 := Od h.w.fr
    have hm : a.Id ∈ l.map (·.Authority) := by
      rw [e, B5]
      grind
    obtain ⟨s, iQ, lK⟩ := List.mem_map.1 hm
    obtain ⟨j, hj, aB⟩ := List.mem_iff_getElem.1 iQ
    have hk : X0 w.Frame.ZB (nth l j) = a.Key := by
      rw [QS hj, aB]
      unfold X0
      rw [lK]
      rw [c2] at ha ⊢
      have z := rR a ha
      rw [decide_eq_true z.1, Xd, z.2]
    refine tr (j := j) zAA hj ?_
    show 0 <= Zt w.Frame.Zo (X0 w.Frame.ZB (nth l j)) -> zY w.Frame.Methods (nth w.Frame.Zo (Zt w.Frame.Zo (X0 w.Frame.ZB (nth l j))).toNat).Method <= T
    rw [hk]
    intro hf
    unfold QW X4 at hs
    grind
  · right
    refine CK (by exact ls) ?_
    show (l.length : Int) <= w.Frame.XT
    have el : l.length = (w.Frame.ZB.filter (fun a => QG w.YO a.Id)).length := by
      have e2 := congrArg List.length e
      rw [List.length_map, B5, List.length_map] at e2
      rw [e2]
      congr 1
      refine List.filter_congr fun a ha => ?_
      grind
    rw [el, c2]
    rcases c4 with ⟨c4, c5⟩ | ⟨c4, c5⟩ <;> rw [c4, c5] <;> decide
/- histories: a renewal that was made at time T does not reach below T, or it is broken by then -/
def tX (f : ZX) (r : ZZ) (T : Int) : Prop := (Y3 f.ZB r f.XT).2 = false \/ T <= (Y3 f.ZB r f.XT).1.To \/ Js f.Zo f.ZB f.Methods r <= T
theorem Ef {f : ZX} {s : ZU} {gu : List Int} (hl : s.ZP.length <= 1000) : ∀ n v, v < n -> v <= s.ZP.length -> K4 f s gu n v <= v /\ ∀ k, K4 f s gu n v <= k -> k < v -> (Y3 f.ZB (nth s.ZP k) f.XT).2 = true /\ zk f s k = true
  | 0, v, h, _ => zAA
  | n + 1, v, h, hv => by
    rw [K4]
    by_cases h0 : 0 < v
    · rw [decide_eq_true (show (v : Int) > 0 by omega), Xd, show W ((v : Int) - 1) = ((v - 1 : Nat) : Int) by simp only [Y9]; omega]
      refine Z4 (p := fun z : Nat => z <= v /\ ∀ k, z <= k -> k < v -> (Y3 f.ZB (nth s.ZP k) f.XT).2 = true /\ zk f s k = true) (fun _ => ⟨Nat.le_refl _, fun k h1 h2 => zAA⟩) (fun hc => ?_)
      obtain ⟨k1, k2⟩ := Ef (f := f) (gu := gu) hl n (v - 1) zAA zAA
      refine ⟨zAA, fun k h1 h2 => ?_⟩
      by_cases hk : k = v - 1
      · subst hk
        simp only [Bool.or_eq_false_iff, Bool.not_eq_false'] at hc
        exact ⟨hc.1.1, hc.2⟩
      · exact k2 k h1 zAA
    · grind
theorem Ci (f : ZX) (gu : List Int) (hl : s.ZP.length <= 1000) : ∃ k0 : Nat, z5 f s gu = (k0 : Int) /\ k0 <= s.ZP.length /\ ∀ k, k0 <= k -> k < s.ZP.length -> (Y3 f.ZB (nth s.ZP k) f.XT).2 = true /\ zk f s k = true := by
  obtain ⟨h1, h2⟩ := Ef (f := f) (gu := gu) hl (s.ZP.length + 1) s.ZP.length zAA (Nat.le_refl _)
  exact ⟨_, rfl, h1, h2⟩
theorem wg {k : Nat} (hl : s.ZP.length <= 1000) (hk : k < s.ZP.length) (h : zk f s k = true) : (k + 1 = s.ZP.length -> f.Now < Js f.Zo f.ZB f.Methods (nth s.ZP k)) /\ (k + 1 < s.ZP.length -> (Y3 f.ZB (nth s.ZP (k + 1)) f.XT).1.To < Js f.Zo f.ZB f.Methods (nth s.ZP k)) := by
  revert h
  unfold zk
  have e : W ((s.ZP.length : Int) - 1) = s.ZP.length - 1 := zBB
  have e2 : W ((k : Int) + 1) = ((k + 1 : Nat) : Int) := zBB
  rw [e, e2]
  have hr : ZS (k) 0 (s.ZP.length - 1) = true := (VB _ _ _).2 zAA
  rw [hr, Bool.not_true, Xa, Int.toNat_natCast, Int.toNat_natCast]
  by_cases hc : k + 1 = s.ZP.length
  · grind
  · rw [show ((k : Int) == s.ZP.length - 1) = false by rw [beq_eq_false_iff_ne]; omega, Xa]
    intro h
    rw [Bool.and_eq_true] at h
    exact ⟨fun h2 => absurd h2 hc, fun _ => of_decide_eq_true h.2⟩
structure HsT (f : ZX) (C : List ZZ) (T : Nat -> Int) : Prop where
  mo : ∀ k, k + 1 < C.length -> T k <= T (k + 1)
  nw : ∀ k, k < C.length -> T k <= f.Now
  ok : ∀ k, k < C.length -> tX f (nth C k) (T k)
theorem pM {f : ZX} {s : ZU} {T : Nat -> Int} (h : HsT f s.ZP T) (hl : s.ZP.length <= 1000) {k0 : Nat} (hk : ∀ k, k0 <= k -> k < s.ZP.length -> (Y3 f.ZB (nth s.ZP k) f.XT).2 = true /\ zk f s k = true) : ∀ d k, k + d + 1 = s.ZP.length -> k0 <= k -> T k <= (Y3 f.ZB (nth s.ZP k) f.XT).1.To
  | 0, k, hd, h0 => by
    obtain ⟨h1, h2⟩ := hk k h0 zAA
    have h3 := (wg hl zAA h2).1 zAA
    have h4 := h.nw k zAA
    rcases h.ok k zAA with h5 | h5 | h5
    · rw [h1] at h5; cases h5
    · exact h5
    · omega
  | d + 1, k, hd, h0 => by
    obtain ⟨h1, h2⟩ := hk k h0 zAA
    have h3 := (wg hl zAA h2).2 zAA
    have h4 := pM h hl hk d (k + 1) zAA zAA
    have h6 := h.mo k zAA
    rcases h.ok k zAA with h5 | h5 | h5
    · rw [h1] at h5; cases h5
    · exact h5
    · omega
theorem O1 {f : ZX} {s : ZU} {i : Int} (hl : s.ZP.length <= 1000) : ∀ (n : Nat) (b : Int) (k : Nat), s.ZP.length < n + k -> k <= s.ZP.length -> zf f s i n b k <= b /\ (∀ j, k <= j -> j < s.ZP.length -> i < (nth s.ZP j).Count -> zf f s i n b k <= (Y3 f.ZB (nth s.ZP j) f.XT).1.To) /\ (zf f s i n b k = b \/ ∃ j, k <= j /\ j < s.ZP.length /\ i < (nth s.ZP j).Count /\ zf f s i n b k = (Y3 f.ZB (nth s.ZP j) f.XT).1.To)
  | 0, b, k, h, hk => zAA
  | n + 1, b, k, h, hk => by
    rw [zf]
    by_cases hc : k < s.ZP.length
    · rw [decide_eq_true (show (k : Int) < s.ZP.length by omega), Xd, Int.toNat_natCast, show W ((k : Int) + 1) = ((k + 1 : Nat) : Int) by simp only [Y9]; omega]
      by_cases hi : i < (nth s.ZP k).Count
      · rw [decide_eq_true (show (nth s.ZP k).Count > i by omega), Xd]
        have e : (Jr f (nth s.ZP k)).1.To = (Y3 f.ZB (nth s.ZP k) f.XT).1.To := rfl
        rw [e]
        generalize hb : (if (Y3 f.ZB (nth s.ZP k) f.XT).1.To < b then (Y3 f.ZB (nth s.ZP k) f.XT).1.To else b) = b'
        obtain ⟨k1, k2, k3⟩ := O1 (f := f) (i := i) hl n b' (k + 1) zAA hc
        grind
      · rw [decide_eq_false (show ¬ (nth s.ZP k).Count > i by omega), Xa]
        obtain ⟨k1, k2, k3⟩ := O1 (f := f) (i := i) hl n b (k + 1) zAA hc
        grind
    · grind
theorem BH (hl : s.ZP.length <= 1000) (h0 : z5 f s gu = (k0 : Int)) (hk : k0 <= s.ZP.length) : xW f s gu i <= f.Now /\ (∀ j, k0 <= j -> j < s.ZP.length -> i < (nth s.ZP j).Count -> xW f s gu i <= (Y3 f.ZB (nth s.ZP j) f.XT).1.To) /\ (xW f s gu i = f.Now \/ ∃ j, k0 <= j /\ j < s.ZP.length /\ i < (nth s.ZP j).Count /\ xW f s gu i = (Y3 f.ZB (nth s.ZP j) f.XT).1.To) := by
  unfold xW
  rw [h0]
  exact O1 hl _ _ _ zAA hk
theorem py {l : List ZT} : Km l p = true ↔ p ∈ l := by
  unfold Km
  refine (Mr (L := kN l p) (len := l.length) (c := fun v => KG (nth l v) p) (fun _ => rfl) (fun _ _ => rfl) (l.length + 1) 0 zAA).trans ?_
  constructor
  · rintro ⟨i, _, h, e⟩
    rw [yQ, decide_eq_true_eq, QS h] at e
    rw [<- e]; exact List.getElem_mem h
  · intro h
    obtain ⟨i, hi, e⟩ := List.mem_iff_getElem.1 h
    exact ⟨i, Nat.zero_le _, hi, by rw [yQ, decide_eq_true_eq, QS hi, e]⟩
theorem s4 (h : Xy s = true) {i : Nat} (hi : i < s.ZJ.length) : ze s (nth s.ZJ i) = (i : Int) := by
  have hd := (PO h).2.2.1
  unfold ze
  rcases xb (L := xd s (nth s.ZJ i)) (r := fun i => (i : Int)) (len := s.ZJ.length) (c := fun v => KG (nth s.ZJ v) (nth s.ZJ i)) (fun _ => rfl) (fun _ _ => rfl) (s.ZJ.length + 1) 0 zAA with ⟨e, k⟩ | ⟨j, e, _, k2, k3, k4⟩
  · have := k i (Nat.zero_le _) hi
    rw [yQ] at this
    simp at this
  · rw [e]
    have : j = i := by
      rcases Nat.lt_trichotomy j i with lH | heq | dg
      · have h1 := hd i hi
        rw [yQ, decide_eq_true_eq] at k3
        have h2 : Km (s.ZJ.take i) (nth s.ZJ i) = true := py.2 (by
          rw [<- k3, QS k2]
          exact List.mem_take_iff_getElem.2 ⟨j, zAA, rfl⟩)
        rw [h1] at h2; cases h2
      · exact heq
      · have := k4 i (Nat.zero_le _) dg
        rw [yQ] at this
        simp at this
    rw [this]
theorem oh (hs : Xy x.ZK = true) {i : Nat} (hi : i < x.ZK.ZJ.length) : Yr f (QB x) (Qq (QB x) x.Doc) (nth x.ZK.ZJ i) = xW f x.ZK (QN x.ZK x.Doc) i := by
  rw [rk]
  have hl := (PO hs).2.1
  obtain ⟨k0, h0, h1, _⟩ := Ci f (QN x.ZK x.Doc) (s := x.ZK) zAA
  have hb := (BH (i := (i : Int)) zAA h0 h1).1
  have e : zz f x.ZK (QN x.ZK x.Doc) (nth x.ZK.ZJ i) = xW f x.ZK (QN x.ZK x.Doc) i := by
    unfold zz
    rw [s4 hs hi, decide_eq_false zAA, Xa]
  rw [e]
  split <;> omega
/- a status piece that was put there at time t -/
def HsS (w : ZF) (p : ZT) (t : Int) : Prop := ∃ st : Zn, p = XK st /\ (0 <= st.kU /\ st.kU <= 10000 /\ st.Zx <= 10001) /\ ((st.kU = t /\ ((st.Zx = -1 /\ (nth w.Zx (st.Zd - 1).toNat = -1 \/ t + 1 <= nth w.Zx (st.Zd - 1).toNat)) \/ (0 <= st.Zx /\ st.Zx = nth w.Zx (st.Zd - 1).toNat))) \/ (st.Zx = -1 /\ X4 w.Frame st.Z1 <= t))
structure HsI (w : ZF) (x : ZQ) (P T : Nat -> Int) : Prop where
  t : HsT w.Frame x.ZK.ZP T
  pn : ∀ i, i < x.ZK.ZJ.length -> P i <= w.Frame.Now
  pt : ∀ (k i : Nat), k < x.ZK.ZP.length -> i < x.ZK.ZJ.length -> (i : Int) < (nth x.ZK.ZP k).Count -> P i <= T k
  p0 : nth x.ZK.ZJ 0 = Yu x.Sig
  p1 : ∃ c, nth x.ZK.ZJ 1 = Jf c
  p2 : 2 <= x.ZK.ZJ.length
  st : ∀ i, 2 <= i -> i < x.ZK.ZJ.length -> HsS w (nth x.ZK.ZJ i) (P i)
  fo : x.Id ∈ w.YE -> X4 w.Frame x.Sig.Key <= P 0
/- what became of an item since time n -/
structure HsX (n : Int) (x y : ZQ) (T : Nat -> Int) : Prop where
  d : y.Doc = x.Doc
  s : y.Sig = x.Sig
  p : x.ZK.ZJ <+: y.ZK.ZJ
  c : x.ZK.ZP <+: y.ZK.ZP
  t : ∀ k, x.ZK.ZP.length <= k -> k < y.ZK.ZP.length -> n <= T k
def Gt (w : ZF) (x : ZQ) : Prop := ∃ i, i < w.ZA.length /\ x ∈ (nth w.ZA i).ZC
def HsG (a w : ZF) (y : ZQ) : Prop := ∃ P T, HsI w y P T /\ ∀ x, Gt a x -> x.Id = y.Id -> HsX a.Frame.Now x y T
structure HsW (a w : ZF) : Prop where
  nx : a.Next <= w.Next
  nw : a.Frame.Now <= w.Frame.Now
  li : w.Frame.XT = a.Frame.XT
  al : ∀ x, Gt a x -> x.Id < a.Next
  g : ∀ y, Gt w y -> HsG a w y
structure oC (w w' : ZF) : Prop where
  k : w'.Frame.Zo = w.Frame.Zo
  a : w'.Frame.ZB = w.Frame.ZB
  m : w'.Frame.Methods = w.Frame.Methods
  l : w'.Frame.XT = w.Frame.XT
  n : w.Frame.Now <= w'.Frame.Now
  e : ∀ j, nth w'.Zx j = nth w.Zx j \/ (nth w.Zx j = -1 /\ w.Frame.Now + 1 <= nth w'.Zx j)
theorem E2 (w : ZF) (A : List ZD) (q f : List Int) (n : Int) : oC w (ZF.mk w.Frame w.ZY w.Zx A q w.YO n f) := ⟨rfl, rfl, rfl, rfl, Int.le_refl _, fun _ => .inl rfl⟩
theorem s7 {P : Nat -> Int} (h : HsI w x P T) (hl : oC w w') (hf : x.Id ∈ w'.YE -> x.Id ∈ w.YE) : HsI w' x P T := by
  have hb : ∀ k, X4 w'.Frame k = X4 w.Frame k := fun k => by unfold X4; rw [hl.k, hl.m]
  refine ⟨⟨h.t.mo, fun k hk => Int.le_trans (h.t.nw k hk) hl.n, fun k hk => ?_⟩, fun i hi => Int.le_trans (h.pn i hi) hl.n, h.pt, h.p0, h.p1, h.p2, fun i h2 hi => ?_, fun hx => by rw [hb]; exact h.fo (hf hx)⟩
  · have := h.t.ok k hk
    unfold tX at this ⊢
    rw [hl.k, hl.a, hl.m, hl.l]
    exact this
  · obtain ⟨st, e, hr, hc⟩ := h.st i h2 hi
    have hp := h.pn i hi
    refine ⟨st, e, hr, ?_⟩
    rw [hb]
    have he := hl.e (st.Zd - 1).toNat
    grind
theorem Ur {a : ZF} (h : HsW a w) (hl : oC w w') (hn : w.Next <= w'.Next) (hy : ∀ y, Gt w' y -> (HsG a w y /\ (y.Id ∈ w'.YE -> y.Id ∈ w.YE)) \/ HsG a w' y) : HsW a w' := by
  refine ⟨Int.le_trans h.nx hn, Int.le_trans h.nw hl.n, hl.l.trans h.li, h.al, fun y k => ?_⟩
  rcases hy y k with ⟨⟨P, T, h1, h2⟩, h3⟩ | h1
  · exact ⟨P, T, s7 h1 hl h3, h2⟩
  · exact h1
theorem Hv {en ly : List Int} {i : Nat} (h : Gt (ZF.mk fr ce en (w.ZA.set i A) sq ly nx fo) y) : (i < w.ZA.length /\ y ∈ A.ZC) \/ Gt w y := by
  obtain ⟨j, h1, h2⟩ := h
  dsimp only at h1 h2
  rw [List.length_set] at h1
  rw [Ko] at h2
  split at h2
  · rename_i hc; left; exact ⟨zAA, h2⟩
  · right; exact ⟨j, h1, h2⟩
theorem vO {a : ZF} (h : HsW a w) (hy : HsG a w y) (hr : tX w.Frame r w.Frame.Now) : HsG a w (ZQ.mk y.Id y.Y8 y.Doc y.Sig (ZU.mk y.ZK.ZJ (y.ZK.ZP ++ [r]))) := by
  obtain ⟨P, T, h1, h2⟩ := hy
  have hlen : (y.ZK.ZP ++ [r]).length = y.ZK.ZP.length + 1 := by rw [List.length_append, List.length_singleton]
  refine ⟨P, fun k => if k < y.ZK.ZP.length then T k else w.Frame.Now, ⟨⟨fun k hk => ?_, fun k hk => ?_, fun k hk => ?_⟩, h1.pn, fun k i hk hi hc => ?_, h1.p0, h1.p1, h1.p2, h1.st, h1.fo⟩, fun x hx he => ?_⟩
  · dsimp only at hk ⊢
    rw [hlen] at hk
    rw [if_pos (show k < y.ZK.ZP.length by omega)]
    split
    · exact h1.t.mo k zAA
    · exact h1.t.nw k zAA
  · dsimp only at hk ⊢
    split
    · exact h1.t.nw k zAA
    · exact Int.le_refl _
  · dsimp only at hk ⊢
    rw [hlen] at hk
    rw [qR]
    split
    · exact h1.t.ok k zAA
    · rw [show k - y.ZK.ZP.length = 0 by omega]; exact hr
  · dsimp only at hk hi hc ⊢
    rw [hlen] at hk
    rw [qR] at hc
    split
    · rename_i lH; rw [if_pos lH] at hc; exact h1.pt k i lH hi hc
    · exact h1.pn i hi
  · have k := h2 x hx he
    refine ⟨k.d, k.s, k.p, k.c.trans (List.prefix_append _ _), fun j h3 h4 => ?_⟩
    dsimp only at h4 ⊢
    split
    · exact k.t j h3 zAA
    · exact h.nw
theorem rH {a : ZF} (h : HsW a w) (hy : HsG a w y) (hs : Xy y.ZK = true) (hp : HsS w p w.Frame.Now) : HsG a w (ZQ.mk y.Id y.Y8 y.Doc y.Sig (ZU.mk (y.ZK.ZJ ++ [p]) y.ZK.ZP)) := by
  obtain ⟨P, T, h1, h2⟩ := hy
  have hlen : (y.ZK.ZJ ++ [p]).length = y.ZK.ZJ.length + 1 := by rw [List.length_append, List.length_singleton]
  have h3 := h1.p2
  have hcnt := (PO hs).2.2.2
  refine ⟨fun k => if k < y.ZK.ZJ.length then P k else w.Frame.Now, T, ⟨h1.t, fun i hi => ?_, fun k i hk hi hc => ?_, ?_, ?_, ?_, fun i hi hj => ?_, fun hx => ?_⟩, fun x hx he => ?_⟩
  · split
    · exact h1.pn i zAA
    · exact Int.le_refl _
  · dsimp only at hk hi hc ⊢
    have := (hcnt k hk).1
    rw [if_pos zAA]
    exact h1.pt k i hk zAA hc
  · show nth (y.ZK.ZJ ++ [p]) 0 = _
    rw [qR, if_pos zAA]; exact h1.p0
  · show ∃ c, nth (y.ZK.ZJ ++ [p]) 1 = _
    rw [qR, if_pos zAA]; exact h1.p1
  · show 2 <= (y.ZK.ZJ ++ [p]).length; omega
  · dsimp only at hj ⊢
    rw [hlen] at hj
    rw [qR]
    split
    · exact h1.st i hi zAA
    · rw [show i - y.ZK.ZJ.length = 0 by omega]; exact hp
  · show _ <= (if 0 < y.ZK.ZJ.length then P 0 else w.Frame.Now)
    rw [if_pos zAA]; exact h1.fo hx
  · have k := h2 x hx he
    exact ⟨k.d, k.s, k.p.trans (List.prefix_append _ _), k.c, k.t⟩
theorem G2 {i k : Nat} (hi : i < w.ZA.length) (hk : k < (nth w.ZA i).ZC.length) : Gt w (nth (nth w.ZA i).ZC k) := ⟨i, hi, by rw [QS hk]; exact List.getElem_mem hk⟩
theorem ov (hw : PlI b w) (h : Gt w x) : x.Id < w.Next := by
  obtain ⟨i, hi, hx⟩ := h
  refine hw.w.lt _ (List.mem_flatMap.2 ⟨nth w.ZA i, by rw [QS hi]; exact List.getElem_mem hi, List.mem_map.2 ⟨x, hx, rfl⟩⟩)
/- the steps -/
theorem wa {a : ZF} (hw : PlI b w) (h : HsW a w) : HsW a (YA w n).1 := by
  have k := Od hw.w.fr
  refine w9 (P := fun r => HsW a r.1) h (fun h1 h2 h3 => ?_)
  have e : W (w.Frame.Now + n) = w.Frame.Now + n := zBB
  refine Ur h ⟨rfl, rfl, rfl, rfl, by show w.Frame.Now <= W (w.Frame.Now + n); omega, fun _ => .inl rfl⟩ (Int.le_refl _) (fun y hy => .inl ⟨h.g y hy, id⟩)
theorem sP (h : (RE w k d o v).2 = true) : (RE w k d o v).1.Key = k := by
  revert h
  unfold RE XM
  grind
theorem oI {a : ZF} {e : Int} (h : HsW a w) (hs : (RE w k d o v).2 = true) (fo : List Int) (A : List ZD) (n : Int) (hf : w.Next ∈ fo -> X4 w.Frame k <= w.Frame.Now) : HsG a (ZF.mk w.Frame w.ZY w.Zx A w.Yt w.YO n fo) (S5 w k d o e v) := by
  refine ⟨fun _ => w.Frame.Now, fun _ => w.Frame.Now, ⟨⟨fun k hk => (by cases hk), fun k hk => (by cases hk), fun k hk => (by cases hk)⟩, fun _ _ => Int.le_refl _, fun k i hk => (by cases hk), rfl, ⟨_, rfl⟩, Nat.le_refl _, fun i h1 h2 => ?_, fun hx => ?_⟩, fun x hx he => ?_⟩
  · change i < 2 at h2; omega
  · show X4 w.Frame (RE w k d o v).1.Key <= _
    rw [sP hs]; exact hf hx
  · have h1 := h.al x hx
    have h2 := h.nx
    change x.Id = w.Next at he
    omega
theorem tK {a : ZF} (hw : PlI b w) (h : HsW a w) {e : Int} (hs : (RE w k d o v).2 = true) (ha : (YQ (nth w.ZA i.toNat) (S5 w k d o e v)).2 = true) (hn : w.Next <= n) (hf : ∀ x ∈ fo, x ∈ w.YE \/ x = w.Next /\ X4 w.Frame k <= w.Frame.Now) : HsW a (ZF.mk w.Frame w.ZY w.Zx (w.ZA.set i.toNat (YQ (nth w.ZA i.toNat) (S5 w k d o e v)).1) w.Yt w.YO n fo) := by
  refine Ur h (E2 w _ _ _ _) hn (fun y hy => ?_)
  have old : Gt w y -> (HsG a w y /\ (y.Id ∈ fo -> y.Id ∈ w.YE)) := fun hy => ⟨h.g y hy, fun hx => (hf _ hx).elim id (fun hc => by have := ov hw hy; omega)⟩
  rcases Hv hy with ⟨hi, hy⟩ | hy
  · obtain ⟨_, _, _, j, e2⟩ := UL ha
    rw [e2] at hy
    change y ∈ (List.take j (nth w.ZA i.toNat).ZC ++ [_]) ++ List.drop j (nth w.ZA i.toNat).ZC at hy
    rcases List.mem_append.1 hy with hy | hy
    · rcases List.mem_append.1 hy with hy | hy
      · exact .inl (old ⟨_, hi, List.mem_of_mem_take hy⟩)
      · rw [List.mem_singleton.1 hy]
        refine .inr (oI h hs fo _ _ (fun hx => ?_))
        rcases hf _ hx with h1 | h1
        · have := hw.fo _ h1; omega
        · exact h1.2
    · exact .inl (old ⟨_, hi, List.mem_of_mem_drop hy⟩)
  · exact .inl (old hy)
theorem rz {a : ZF} {e : Int} (hw : PlI b w) (h : HsW a w) : HsW a (JY w i k d o e).1 := by
  have hl := hw.w.ar
  refine wY (P := fun r => HsW a r.1) h (fun h1 _ _ _ v _ _ h6 h7 => ?_)
  obtain ⟨e1, _⟩ := HI hw.w (ya h1 zAA).2 rfl h7 hw.w.fo
  exact tK hw h h6 h7 zAA (fun x hx => .inl hx)
theorem u7 {a : ZF} (hw : PlI b w) (h : HsW a w) : HsW a (JI w i k d).1 := by
  have hl := hw.w.ar
  refine B6 (P := fun r => HsW a r.1) h (fun h0 h1 _ _ v _ _ h6 h7 => ?_)
  obtain ⟨e1, _⟩ := HI hw.w (ya h1 zAA).2 rfl h7 hw.w.fo
  refine tK hw h h6 h7 zAA (fun x hx => ?_)
  rcases List.mem_append.1 hx with hx | hx
  · exact .inl hx
  · right
    refine ⟨List.mem_singleton.1 hx, ?_⟩
    unfold QW at h0
    grind
theorem PC {a : ZF} (hw : PlI b w) (h : HsW a w) (hi : i.toNat < w.ZA.length) (hp : (YL w.Frame.Zo st).2 = true -> HsS w (XK (YL w.Frame.Zo st).1) w.Frame.Now) : HsW a (Qb w i id st).1 := by
  refine Lt (P := fun r => HsW a r.1) h (fun h1 h2 h3 => ?_)
  obtain ⟨e, hs⟩ := Ly h3
  obtain ⟨hk, _⟩ := jl h2
  refine Ur h (E2 w _ _ _ _) (Int.le_refl _) (fun y hy => .inl ⟨?_, fun hx => hx⟩)
  rcases Hv hy with ⟨_, hy⟩ | hy
  · unfold Xc at hy
    rw [decide_eq_false zAA, Xa] at hy
    change y ∈ (nth w.ZA i.toNat).ZC.set _ _ at hy
    rcases List.mem_or_eq_of_mem_set hy with hy | rfl
    · exact h.g y ⟨_, hi, hy⟩
    · rw [e]
      exact rH h (h.g _ (G2 hi hk)) (L2 (Og hw.w hi hk)) (hp h1)
  · exact h.g y hy
theorem MY (h : (YL keys st).2 = true) : ((YL keys st).1.Zd = st.Zd /\ (YL keys st).1.kU = st.kU /\ (YL keys st).1.Zx = st.Zx /\ (YL keys st).1.Z1 = st.Z1) /\ 0 <= st.kU /\ st.kU <= 10000 /\ -1 <= st.Zx /\ st.Zx <= 10001 := by
  revert h
  unfold YL
  refine Z4 (p := fun r : Zn × Bool => r.2 = true -> (r.1.Zd = st.Zd /\ r.1.kU = st.kU /\ r.1.Zx = st.Zx /\ r.1.Z1 = st.Z1) /\ 0 <= st.kU /\ st.kU <= 10000 /\ -1 <= st.Zx /\ st.Zx <= 10001) (fun _ h => by cases h) (fun hc _ => ⟨⟨rfl, rfl, rfl, rfl⟩, ?_⟩)
  simp only [Bool.or_eq_false_iff, Bool.not_eq_false', kg, Kq, Bool.and_eq_true, VB] at hc
  have h1 := hc.1.1.1.2
  have h2 := hc.1.1.2
  rw [show W (st.kU + 1) = st.kU + 1 by simp only [Y9]; omega] at h2
  omega
theorem vV : ∀ n, n < 3 -> ((nth ji n).Zd - 1).toNat = n := by decide +kernel
theorem v5 {a : ZF} (hw : PlI b w) (h : HsW a w) : HsW a (Qy w id).1 := by
  have hn := Od hw.w.fr
  unfold Qy
  refine Z4 (p := fun r : ZF × Bool => HsW a r.1) (fun _ => h) (fun hc => ?_)
  refine Z4 (p := fun r : ZF × Bool => HsW a r.1) (fun _ => h) (fun _ => ?_)
  simp only [Bool.or_eq_false_iff, Bool.not_eq_false'] at hc
  have k := Qd w id hc.1
  have hl : w.ZY.length = 3 := by rw [<- hw.w.en]; exact pE hw
  have es : ((nth w.ZY (YI w id).2.1.toNat).Zd - 1).toNat = (YI w id).2.1.toNat := by
    rw [Bp hw]; exact vV _ zAA
  have er := (hw.w.ce (YI w id).2.1.toNat zAA).2.2
  rw [VB] at er
  have e1 : W (w.Frame.Now + 1) = w.Frame.Now + 1 := zBB
  refine Z4 (p := fun r : ZF × Bool => HsW a r.1) (fun hg => ?_) (fun hg => ?_)
  · have hg := of_decide_eq_true hg
    refine PC hw h zAA (fun hm => ?_)
    obtain ⟨⟨m1, m2, m3, m4⟩, m5, m6, m7, m8⟩ := MY hm
    refine ⟨_, rfl, by rw [m2, m3]; exact ⟨m5, m6, m8⟩, .inl ⟨m2, .inl ⟨m3, .inr ?_⟩⟩⟩
    rw [m1, es]; omega
  · have hg := of_decide_eq_false hg
    refine PC hw h zAA (fun hm => ?_)
    obtain ⟨⟨m1, m2, m3, m4⟩, m5, m6, m7, m8⟩ := MY hm
    refine ⟨_, rfl, by rw [m2, m3]; exact ⟨m5, m6, m8⟩, .inl ⟨m2, ?_⟩⟩
    grind
theorem re {a : ZF} (hw : PlI b w) (h : HsW a w) : HsW a (J6 w id t).1 := by
  unfold J6
  refine Z4 (p := fun r : ZF × Bool => HsW a r.1) (fun _ => h) (fun hc => ?_)
  simp only [Bool.or_eq_false_iff, Bool.not_eq_false'] at hc
  have k := Qd w id hc.1
  have hs := hc.2
  unfold QW at hs
  simp only [Bool.and_eq_true, decide_eq_true_eq] at hs
  refine PC hw h zAA (fun hm => ?_)
  obtain ⟨⟨m1, m2, m3, m4⟩, m5, m6, m7, m8⟩ := MY hm
  refine ⟨_, rfl, by rw [m2, m3]; exact ⟨m5, m6, m8⟩, .inr ⟨m3, ?_⟩⟩
  rw [m4]; exact hs.2
theorem uB {a : ZF} (hw : PlI b w) (h : HsW a w) : HsW a (QJ w k).1 := by
  have hn := Od hw.w.fr
  unfold QJ
  refine Z4 (p := fun r : ZF × Bool => HsW a r.1) (fun _ => h) (fun hc => ?_)
  simp only [Bool.or_eq_false_iff, bne_eq_false_iff_eq] at hc
  have e1 : W (w.Frame.Now + 1) = w.Frame.Now + 1 := zBB
  refine Ur h ⟨rfl, rfl, rfl, rfl, Int.le_refl _, fun j => ?_⟩ (Int.le_refl _) (fun y hy => .inl ⟨h.g y hy, fun hx => hx⟩)
  show nth (w.Zx.set k.toNat (W (w.Frame.Now + 1))) j = _ \/ _ /\ _ <= nth (w.Zx.set k.toNat (W (w.Frame.Now + 1))) j
  rw [Ko]
  grind
theorem rG {a : ZF} (hw : PlI b w) (h : HsW a w) : HsW a (J8 w i k id).1 := by
  have hl := hw.w.ar
  refine vM (P := fun r => HsW a r.1) h (fun h1 h2 h3 h4 h5 h6 => ?_)
  obtain ⟨i0, i1⟩ := ya h1 zAA
  obtain ⟨k0, k1⟩ := ya h2 zAA
  have hln := ((VS _).1 (hw.w.ok _ i1).1).ln
  obtain ⟨_, e⟩ := vF zAA h5
  obtain ⟨f1, f2⟩ := jl h4
  obtain ⟨_, _, g1, j, g2⟩ := UL h6
  have old : ∀ y, Gt w y -> HsG a w y /\ (y.Id ∈ w.YE -> y.Id ∈ w.YE) := fun y hy => ⟨h.g y hy, fun hx => hx⟩
  refine Ur h (E2 w _ _ _ _) (Int.le_refl _) (fun y hy => .inl (old y ?_))
  obtain ⟨n, n1, n2⟩ := hy
  change n < ((w.ZA.set i.toNat _).set k.toNat _).length at n1
  change y ∈ (nth ((w.ZA.set i.toNat (X9 (nth w.ZA i.toNat) id).1).set k.toNat _) n).ZC at n2
  rw [List.length_set, List.length_set] at n1
  rw [Ko] at n2
  split at n2
  · rw [g2] at n2
    change y ∈ (List.take j (nth w.ZA k.toNat).ZC ++ [_]) ++ List.drop j (nth w.ZA k.toNat).ZC at n2
    rcases List.mem_append.1 n2 with hy | hy
    · rcases List.mem_append.1 hy with hy | hy
      · exact ⟨_, k1, List.mem_of_mem_take hy⟩
      · rw [List.mem_singleton.1 hy]; exact G2 i1 f1
    · exact ⟨_, k1, List.mem_of_mem_drop hy⟩
  · rw [Ko] at n2
    split at n2
    · rw [e] at n2
      exact ⟨_, i1, List.mem_of_mem_eraseIdx n2⟩
    · exact ⟨n, n1, n2⟩
theorem vR {a : ZF} (hw : PlI b w) (h : HsW a w) : HsW a (Qw w i).1 := by
  have hl := hw.w.ar
  refine Eb (P := fun r => HsW a r.1) h (fun h1 => ?_)
  refine Ur h (E2 w _ _ _ _) (Int.le_refl _) (fun y hy => .inl ⟨h.g y ?_, fun hx => hx⟩)
  rcases Hv hy with ⟨hi, hy⟩ | hy
  · exact ⟨_, hi, (List.mem_filter.1 hy).1⟩
  · exact hy
theorem s9 {a : ZF} (hw : PlI b w) (h : HsW a w) : HsW a (Xs w id t).1 := by
  refine wq (P := fun r => HsW a r.1) h (fun _ h2 _ _ l h5 h6 => ?_)
  obtain ⟨k1, k2, k3⟩ := QM w id h2
  have hl := (qu (a0 := w) (a1 := id) (a2 := t) ((Zm w).length + 1) 0 []).2 l h5
  have hf := Jl w
  have ha : w.Frame.ZB.length = 4 := by rw [(Nn hw).2.1]; rfl
  rw [List.length_nil] at hl
  have hb := Bo hw h5 zAA
  refine Ur h (E2 w _ _ _ _) (Int.le_refl _) (fun y hy => .inl ⟨?_, fun hx => hx⟩)
  rcases Hv hy with ⟨_, hy⟩ | hy
  · change y ∈ (nth w.ZA (ZL w id).1.toNat).ZC.set _ _ at hy
    rcases List.mem_or_eq_of_mem_set hy with hy | rfl
    · exact h.g y ⟨_, k1, hy⟩
    · refine vO h (h.g _ (G2 k1 k3)) ?_
      rcases hb with hb | hb
      · exact .inr (.inr (hb _ (Int.le_refl _)))
      · exact .inl hb
  · exact h.g y hy
/- honest renewals -/
theorem OS (l : List Zg) (t : Int) (hl : l.length <= 1000) : ∀ (n v : Nat) (c : Int), l.length < n + v -> v <= l.length -> 0 <= c -> c <= v -> ju l t n c v = c + ((l.drop v).countP (fun s => QQ s && ZS t s.X5 s.To) : Nat)
  | 0, v, c, h, hv, _, _ => zAA
  | n + 1, v, c, h, hv, h0, h1 => by
    rw [ju]
    by_cases lH : v < l.length
    · rw [decide_eq_true (show (v : Int) < (l.length : Int) by omega), Xd, List.drop_eq_getElem_cons lH, List.countP_cons, QS lH]
      cases hc : (QQ l[v] && ZS t (l[v]).X5 (l[v]).To) with
      | true =>
        rw [Xd, show W (c + 1) = c + 1 by simp only [Y9]; omega, OS l t hl n (v + 1) (c + 1) zAA lH zAA zAA, if_pos rfl]
        omega
      | false =>
        rw [Xa, OS l t hl n (v + 1) c zAA lH zAA zAA, if_neg zAE]
        omega
    · grind
theorem uw (l : List Zg) (t : Int) (hl : l.length <= 1000) : PZ l t = (l.countP (fun s => QQ s && ZS t s.X5 s.To) : Nat) := by
  have := OS l t hl (l.length + 1) 0 0 zAA (Nat.zero_le _) zAA zAA
  rw [List.drop_zero, Int.zero_add] at this
  exact this
theorem Oy {l : List Zg} {q t : Int} (h0 : 0 <= t) (h1 : t <= 10000) (h : JQ l t q = true) : ∀ (n v : Nat) (f : Bool) (x y : Int), 10001 < n + v -> v <= 10001 -> (t < v -> t <= y) -> t <= (Jp l q n f v x y).2.2
  | 0, v, f, x, y, hn, hv, hy => zAA
  | n + 1, v, f, x, y, hn, hv, hy => by
    rw [Jp]
    by_cases lH : v <= 10000
    · rw [decide_eq_true (show (v : Int) <= 10000 by omega), Xd]
      cases hc : JQ l (v : Int) q with
      | true =>
        rw [Xd]
        have go := fun f x => Oy h0 h1 h n (v + 1) f x (v : Int) zAA zAA (fun k => zAA)
        grind
      | false =>
        rw [Xa]
        refine Oy h0 h1 h n (v + 1) f x y zAA zAA (fun k => ?_)
        grind
    · grind
theorem tS {l : List Zg} (h0 : 0 <= t) (h1 : t <= 10000) (h : JQ l t q = true) : t <= (Jk l q).1.To := by
  have := Oy h0 h1 h 10002 0 false 0 0 zAA zAA (fun k => zAA)
  unfold Jk
  grind
theorem tH : ∀ i : Nat, 0 <= (nth YK i).Error /\ (nth YK i).Error <= 100 := by
  intro i
  by_cases h : i < 4
  · have : ∀ i, i < 4 -> 0 <= (nth YK i).Error /\ (nth YK i).Error <= 100 := by decide +kernel
    exact this i h
  · have e : nth YK i = default := by
      have hl : YK.length <= i := by show 4 <= i; omega
      simp [nth, List.getD_eq_getElem?_getD, List.getElem?_eq_none hl]
    rw [e]; decide
theorem Da {s : Zj} (h0 : 0 <= n) (h1 : n <= 10000) (ht : s.Time = n) (h : (Xm YK s).2 = true) : (QQ (Xm YK s).1 && ZS n (Xm YK s).1.X5 (Xm YK s).1.To) = true := by
  revert h
  unfold Xm
  refine Z4 (p := fun z : Zg × Bool => z.2 = true -> (QQ z.1 && ZS n z.1.X5 z.1.To) = true) (fun _ h => by cases h) (fun hc => ?_)
  have he := tH (ZV YK s.Authority).toNat
  generalize (nth YK (ZV YK s.Authority).toNat).Error = e at he
  rw [ht]
  unfold yA
  dsimp only
  rw [show W (n - e) = n - e by simp only [Y9]; omega, show W (n + e) = n + e by simp only [Y9]; omega]
  refine Z4 (p := fun z : Zg × Bool => z.2 = true -> (QQ z.1 && ZS n z.1.X5 z.1.To) = true) (fun _ h => by cases h) (fun hc h => ?_)
  simp only [Bool.or_eq_false_iff, Bool.not_eq_false'] at hc
  rw [hc.2, Bool.true_and, VB]
  grind
theorem rb (h : (l.map (·.Authority)).Pairwise (· < ·)) (p : Zj -> Bool) (hp : ∀ s ∈ l, p s = true -> s.Authority = 1) : (l.filter p).length <= 1 := by
  have h1 : ((l.filter p).map (·.Authority)).Pairwise (· < ·) := h.sublist (List.filter_sublist.map _)
  have h2 : ∀ s ∈ l.filter p, s.Authority = 1 := fun s hs => by
    rw [List.mem_filter] at hs
    exact hp s hs.1 hs.2
  generalize l.filter p = m at h1 h2
  match m with
  | [] => simp
  | [x] => simp
  | x :: y :: m =>
    exfalso
    rw [List.map_cons, List.map_cons, List.pairwise_cons] at h1
    have := h1.1 y.Authority List.mem_cons_self
    grind
theorem vT (hw : PlI b w) (hl : l.length <= 1000) (h : (l.map (·.Authority)).Pairwise (· < ·)) (ht : ∀ s ∈ l, QG w.YO s.Authority = true \/ s.Time = w.Frame.Now) (hr : r.YH = l) : tX w.Frame r w.Frame.Now := by
  obtain ⟨n0, n1⟩ := Od hw.w.fr
  obtain ⟨_, c2, _, c4⟩ := Nn hw
  obtain ⟨k1, k2⟩ := TV w.Frame.ZB l (l.length + 1) [] 0 zAA (Nat.zero_le _)
  have key : (QZ w.Frame.ZB l w.Frame.XT).2 = false \/ w.Frame.Now <= (QZ w.Frame.ZB l w.Frame.XT).1.To := by
    unfold QZ
    generalize zu w.Frame.ZB l (l.length + 1) [] 0 = s at k1 k2 ⊢
    cases s with
    | inl x => exact .inl (k1 x rfl)
    | inr z =>
      obtain ⟨k3, k4⟩ := k2 z rfl
      rw [List.drop_zero, List.nil_append] at k3
      have hz : z.length = l.length := by rw [k3, List.length_map]
      show (Jk z w.Frame.XT).2 = false \/ w.Frame.Now <= (Jk z w.Frame.XT).1.To
      by_cases hsup : ∀ t, JQ z t w.Frame.XT = false
      · exact .inl (OG hsup)
      · right
        have hex : ∃ t, JQ z t w.Frame.XT = true := by
          grind
        obtain ⟨t, hq⟩ := hex
        refine tS n0 n1 ?_
        unfold JQ at hq ⊢
        rw [Bool.and_eq_true] at hq ⊢
        refine ⟨hq.1, decide_eq_true ?_⟩
        have hq1 := hq.1
        rw [VB, hz, show W ((l.length : Int) - 1) = l.length - 1 by simp only [Y9]; omega] at hq1
        rw [uw z _ zAA, hz, show W ((l.length : Int) - w.Frame.XT) = l.length - w.Frame.XT by simp only [Y9]; omega, k3, List.countP_map]
        have e1 := List.length_eq_countP_add_countP ((fun s => QQ s && ZS w.Frame.Now s.X5 s.To) ∘ fun s => (Xm w.Frame.ZB s).1) (l := l)
        have e2 : ∀ s ∈ l, ¬ ((fun s => QQ s && ZS w.Frame.Now s.X5 s.To) ∘ fun s => (Xm w.Frame.ZB s).1) s = true -> QG w.YO s.Authority = true := fun s hs hn => by
          rcases ht s hs with h1 | h1
          · exact h1
          · exfalso
            apply hn
            obtain ⟨j, hj, aB⟩ := List.mem_iff_getElem.1 hs
            have hk := k4 j (Nat.zero_le _) hj
            rw [QS hj, aB, c2] at hk
            show (QQ (Xm w.Frame.ZB s).1 && ZS w.Frame.Now (Xm w.Frame.ZB s).1.X5 (Xm w.Frame.ZB s).1.To) = true
            rw [c2]
            exact Da n0 n1 h1 hk
        generalize ((fun s => QQ s && ZS w.Frame.Now s.X5 s.To) ∘ fun s => (Xm w.Frame.ZB s).1) = p at e1 e2 ⊢
        have e3 : (l.countP (fun a => decide ¬ p a = true) : Int) <= w.Frame.XT := by
          rw [List.countP_eq_length_filter]
          rcases c4 with ⟨c4, c5⟩ | ⟨c4, c5⟩
          · have : l.filter (fun a => decide ¬ p a = true) = [] := List.filter_eq_nil_iff.2 (fun s hs hn => by
              have := e2 s hs (of_decide_eq_true hn)
              rw [c5] at this
              cases this)
            rw [this, c4]; decide
          · have := rb h (fun a => decide ¬ p a = true) (fun s hs hn => by
              have := e2 s hs (of_decide_eq_true hn)
              rw [c5, Cc] at this
              exact List.mem_singleton.1 this)
            rw [c4]; omega
        omega
  unfold tX
  show (QZ w.Frame.ZB r.YH w.Frame.XT).2 = false \/ w.Frame.Now <= (QZ w.Frame.ZB r.YH w.Frame.XT).1.To \/ _
  grind
theorem BO {a : ZF} (hw : PlI b w) (h : HsW a w) (hi : ids.length <= 1000) : HsW a (Ym w i ids fF).1 := by
  have hl := hw.w.ar
  refine BX (P := fun r => HsW a r.1) (Q := fun v l _ => l.length = v /\ l.map (·.Authority) = ids.take v /\ ∀ s ∈ l, QG w.YO s.Authority = true \/ s.Time = w.Frame.Now) h ⟨rfl, rfl, fun s hs => (by cases hs)⟩ (fun v l q t hv hp hq => ?_) (fun h1 _ h3 _ l q hq hk => ?_)
  · obtain ⟨q1, q2, q3⟩ := hq
    have e := (O8 hp.ok).2
    have ea : (CU w i ids v t).1.Authority = nth ids v := by unfold CU; rw [e]
    have et : (CU w i ids v t).1.Time = t := by unfold CU; rw [e]
    refine ⟨by rw [List.length_append, List.length_singleton, q1], ?_, fun s hs => ?_⟩
    · rw [List.map_append, List.map_singleton, q2, ea, List.take_succ_eq_append_getElem hv, QS hv]
    · rcases List.mem_append.1 hs with hs | hs
      · exact q3 s hs
      · rw [List.mem_singleton.1 hs, ea, et]
        rcases hp.tm with h5 | h5
        · exact .inl h5.1
        · exact .inr h5.2
  · obtain ⟨q1, q2, q3⟩ := hq
    obtain ⟨h8, h9⟩ := ya h1 zAA
    obtain ⟨_, _, _, g3, g4⟩ := Ca hk
    rw [List.take_length] at q2
    have hrise : (l.map (·.Authority)).Pairwise (· < ·) := by
      rw [q2, List.pairwise_iff_getElem]
      intro x y hx hy fc
      have := PX ((E7 ids).1 h3) (y - x) x zAA zAA
      rw [show x + (y - x) = y by omega, QS hx, QS hy] at this
      exact this
    refine Ur h (E2 w _ _ _ _) (Int.le_refl _) (fun y hy => .inl ⟨?_, fun hx => hx⟩)
    rcases Hv hy with ⟨_, hy⟩ | hy
    · obtain ⟨j, hj, e⟩ := List.mem_iff_getElem.1 hy
      rw [g3] at hj
      have e2 := g4 j hj
      rw [QS (by rw [g3]; exact hj), e] at e2
      rw [e2]
      exact vO h (h.g _ (G2 h9 hj)) (vT hw zAA hrise q3 rfl)
    · exact h.g y hy
theorem uv {a : ZF} (hw : PlI b w) (h : HsW a w) (hi : e.Ids.length <= 1000) : HsW a (Yg w e).1 :=
  B9 (P := fun r => HsW a r.1) h (fun _ => wa hw h) (fun _ => rz hw h) (fun _ => v5 hw h) (fun _ => uB hw h) (fun _ => BO hw h hi) (fun _ => rG hw h) (fun _ => vR hw h) (fun _ => u7 hw h) (fun _ => s9 hw h) (fun _ => re hw h)
theorem rC (x : Int) : HsW (QD x) (QD x) := by
  have h : ∀ y, ¬ Gt (QD x) y := by
    have h0 : ∀ k, k = 0 \/ k = 1 -> ∀ i, i < (QD k).ZA.length -> (nth (QD k).ZA i).ZC = [] := by
      intro k hk
      rcases hk with rfl | rfl <;> decide +kernel
    intro y hy
    obtain ⟨i, h1, h2⟩ := hy
    rcases Vo x with e | e <;> rw [e] at h1 h2
    · rw [h0 0 (.inl rfl) i h1] at h2; cases h2
    · rw [h0 1 (.inr rfl) i h1] at h2; cases h2
  exact ⟨Int.le_refl _, Int.le_refl _, rfl, fun y hy => absurd hy (h y), fun y hy => absurd hy (h y)⟩
/- what a piece's bound says -/
theorem oP {P : Nat -> Int} (h : HsI w x P T) (hs : Xy x.ZK = true) {i : Nat} (hi : i < x.ZK.ZJ.length) : P i <= Yr w.Frame (QB x) (Qq (QB x) x.Doc) (nth x.ZK.ZJ i) := by
  have hl := (PO hs).2.1
  rw [oh hs hi]
  obtain ⟨k0, h0, h1, h2⟩ := Ci w.Frame (QN x.ZK x.Doc) (s := x.ZK) zAA
  rcases (BH (i := (i : Int)) zAA h0 h1).2.2 with hb | ⟨j, j1, j2, j3, j4⟩
  · rw [hb]; exact h.pn i hi
  · rw [j4]
    have h3 := pM h.t zAA h2 (x.ZK.ZP.length - 1 - j) j zAA j1
    have h4 := h.pt j i j2 hi j3
    omega
theorem uG {P : Nat -> Int} (h : HsI w x P T) (hx : Jv x = true) (hf : x.Id ∈ w.YE) : (Wh w.Frame x).Code ≠ 1 := by
  have h1 := oP h (L2 hx) (i := 0) (Ez hx)
  rw [h.p0] at h1
  have h2 := h.fo hf
  unfold Wh HK kP
  refine Zi (p := fun v : QF => v.Code ≠ 1) (show (3 : Int) ≠ 1 by decide) ?_
  refine Zi (p := fun v : QF => v.Code ≠ 1) (show (2 : Int) ≠ 1 by decide) ?_
  refine Zi (p := fun v : QF => v.Code ≠ 1) (show (3 : Int) ≠ 1 by decide) ?_
  refine Zi (p := fun v : QF => v.Code ≠ 1) (show (2 : Int) ≠ 1 by decide) ?_
  refine Zi (p := fun v : QF => v.Code ≠ 1) (show (3 : Int) ≠ 1 by decide) ?_
  refine Zi (p := fun v : QF => v.Code ≠ 1) (show (2 : Int) ≠ 1 by decide) ?_
  rw [decide_eq_true (show Yr w.Frame (QB x) (Qq (QB x) x.Doc) (Yu x.Sig) >= X4 w.Frame x.Sig.Key by omega), Bool.true_or, Xd]
  show (3 : Int) ≠ 1
  decide
theorem vn (h : 0 <= (ZL w id).1) : (ZL w id).1.toNat < w.ZA.length /\ (ZL w id).2.toNat < (nth w.ZA (ZL w id).1.toNat).ZC.length /\ (nth (nth w.ZA (ZL w id).1.toNat).ZC (ZL w id).2.toNat).Id = id := by
  obtain ⟨k1, k2, k3⟩ := QM w id h
  refine ⟨k1, k3, ?_⟩
  have e : (ZL w id).2 = ZW (nth w.ZA (ZL w id).1.toNat) id := by
    unfold ZL at h ⊢
    rcases xb (L := qO w id) (r := fun i => ((i : Int), ZW (nth w.ZA i) id)) (len := w.ZA.length) (c := fun i => decide (ZW (nth w.ZA i) id >= 0)) (fun _ => rfl) (fun _ _ => rfl) (w.ZA.length + 1) 0 zAA with ⟨e, k⟩ | ⟨i, e, _⟩
    · rw [e] at h; simp at h
    · rw [e]; simp
  rw [e] at k2 ⊢
  exact (jl k2).2
theorem As {a : ZF} (hw : PlI b w) (h : HsW a w) (hf : id ∈ w.YE) : (Qr w id).Code ≠ 1 := by
  unfold Qr
  refine Z4 (p := fun v : QF => v.Code ≠ 1) (fun _ => (show (0 : Int) ≠ 1 by decide)) (fun hc => ?_)
  have hc := of_decide_eq_false hc
  obtain ⟨k1, k2, k3⟩ := vn (w := w) (id := id) zAA
  obtain ⟨P, T, h1, _⟩ := h.g _ (G2 k1 k2)
  exact uG h1 (Og hw.w k1 k2) (by rw [k3]; exact hf)
theorem Of (w : ZF) : ∀ (n : Nat) (l : List Int) (v : Nat), (∀ x ∈ l, (Qr w x).Code = 1) -> ∀ x ∈ zN w n l v, (Qr w x).Code = 1
  | 0, l, v, h => fun x hx => zBp
  | n + 1, l, v, h => by
    rw [zN]
    refine Zi (p := fun z : List Int => ∀ x ∈ z, (Qr w x).Code = 1) (Z4 (p := fun z : List Int => ∀ x ∈ z, (Qr w x).Code = 1) (fun hc => ?_) (fun _ => Of w n l (v + 1) h)) h
    refine Of w n _ (v + 1) (fun x hx => ?_)
    grind
theorem tD (h : id ∈ XX w) : (Qr w id).Code = 1 :=
  Of w _ [] 0 (fun x hx => by cases hx) id h
theorem CX {a : ZF} (hw : PlI b w) (h : HsW a w) : zC w = [] := by
  have key : ∀ n v, za w n [] v = [] := by
    intro n
    induction n with
    | zero => intro v; rfl
    | succ n ih =>
      intro v
      rw [za]
      refine Z4 (p := fun z : List Int => z = []) (fun hv => ?_) (fun _ => rfl)
      have hv := of_decide_eq_true hv
      have hm : nth (XX w) v ∈ XX w := by
        rw [QS zAA]; exact List.getElem_mem _
      have hn : QG w.YE (nth (XX w) v) = false := by
        rw [Bool.eq_false_iff]
        intro hf
        exact As hw h ((Cc _ _).1 hf) (tD hm)
      rw [hn, Xa]
      exact ih _
  exact key _ _
theorem sJ {a : ZF} (hw : PlI b w) (h : HsW a w) : WL w = (⟨#[]⟩ : ByteArray) := by
  unfold WL
  rw [(Bj w).2 hw.w, CX hw h]
  rfl
/- spans -/
theorem oq {a0 : List UInt8} {z : ZF} (he : Sm 40 (Zb a0).2) : ∀ (n v : Nat) (w : ZF), (Zb a0).2.length < n + v -> v <= (Zb a0).2.length -> PlI (40 * (v : Int)) w -> HsW z w -> Sm (40 + v) w -> ∃ w', qD a0 n v w.Frame.Zo w.Frame.ZB w.Frame.Methods w.Frame.XT w.Frame.Now w.ZY w.Zx w.ZA w.Yt w.YO w.Next w.YE = .inr (plU w') /\ PlI 1600 w' /\ HsW z w'
  | 0, v, w, hn, hv, _, _, _ => zAA
  | n + 1, v, w, hn, hv, h1, h2, h3 => by
    have hlen := YS he
    rw [qD]
    by_cases lH : v < (Zb a0).2.length
    · have hm : nth (Zb a0).2 v ∈ (Zb a0).2 := by rw [QS lH]; exact List.getElem_mem lH
      have hs := he.2 _ hm
      have hi := YS (Zs.Al hs)
      rw [decide_eq_true (show (v : Int) < ((Zb a0).2.length : Int) by omega), Xd]
      generalize nth (Zb a0).2 v = e at hs hi
      have k1 := tu (e := e) (n := 40) h1 zAA zAA
      have k2 := uv (e := e) h1 h2 zAA
      have k3 := Qt (n := 40 + v) zAA h3 (ZM zAA hs) zAA
      have k4 := CX k1 k2
      have k5 := Ic w e (ZM (by unfold maxLen; omega) h3)
      obtain ⟨w', g1, g2, g3⟩ := oq (z := z) he n (v + 1) (Yg w e).1 zAA lH (by rw [show 40 * ((v + 1 : Nat) : Int) = 40 * v + 40 by omega]; exact k1) k2 k3
      refine ⟨w', Eq.trans ?_ g1, g2, g3⟩
      show (bif (!((Yg w e).2 == (xL w e).2)) then _ else (bif (decide (((zC (Yg w e).1).length : Int) > 0)) then _ else _)) = _
      rw [k5, k4, BEq.rfl, Bool.not_true, Xa]
      rfl
    · rw [decide_eq_false (show ¬ (v : Int) < ((Zb a0).2.length : Int) by omega), Xa]
      exact ⟨w, rfl, CJ h1 zAA, h2⟩
theorem ry (f : ZX) : (YG f).length <= f.ZB.length := by
  have key : ∀ n l v, f.ZB.length < n + v -> v <= f.ZB.length -> (X3 f n l v).length <= l.length + (f.ZB.length - v) := by
    intro n
    induction n with
    | zero => intro l v h1 h2; omega
    | succ n ih =>
      intro l v h1 h2
      rw [X3]
      refine Z4 (p := fun z : List Int => z.length <= l.length + (f.ZB.length - v)) (fun hc => ?_) (fun _ => zAA)
      have hc := of_decide_eq_true hc
      have k := ih l (v + 1) zAA zAA
      have k2 := fun x => ih (l ++ [x]) (v + 1) zAA zAA
      refine Zi (p := fun z : List Int => z.length <= l.length + (f.ZB.length - v)) zAA ?_
      refine Zi (p := fun z : List Int => z.length <= l.length + (f.ZB.length - v)) ?_ zAA
      have k2 := k2 (nth f.ZB v).Id
      rw [List.length_append, List.length_singleton] at k2
      omega
  have := key (f.ZB.length + 1) [] 0 zAA (Nat.zero_le _)
  rw [List.length_nil] at this
  exact Nat.le_trans this zAA
theorem nK {z : ZF} : ∀ (n v : Nat) (w : ZF) (b : Int), PlI b w -> b + 10 * n <= 10000 -> HsW z w -> 3 < n + v -> v <= 3 -> ∃ w' b', yq n v w.Frame.Zo w.Frame.ZB w.Frame.Methods w.Frame.XT w.Frame.Now w.ZY w.Zx w.ZA w.Yt w.YO w.Next w.YE = .inr (plU w') /\ PlI b' w' /\ HsW z w'
  | 0, v, w, b, h1, hb, h2, hn, hv => zAA
  | n + 1, v, w, b, h1, hb, h2, hn, hv => by
    rw [yq]
    by_cases lH : v < 3
    · rw [decide_eq_true (show (v : Int) < 3 by omega), Xd]
      have k1 := wy (n := 10) h1
      have k2 := wa (n := 10) h1 h2
      have ha : (YA w 10).1.Frame.ZB.length = 4 := by rw [(Nn k1).2.1]; rfl
      have hp := ry (YA w 10).1.Frame
      have k3 := (BD (i := 0) (ids := YG (YA w 10).1.Frame) (fF := 0) (n := 10) k1 zAA zAA).1
      have k4 := BO (i := 0) (ids := YG (YA w 10).1.Frame) (fF := 0) k1 k2 zAA
      have k5 := CX k3 k4
      obtain ⟨w', b', g1, g2, g3⟩ := nK (z := z) n (v + 1) _ _ k3 zAA k4 zAA zAA
      refine ⟨w', b', Eq.trans ?_ g1, g2, g3⟩
      show (bif (decide (((zC (Ym (YA w 10).1 0 (YG (YA w 10).1.Frame) 0).1).length : Int) > 0)) then _ else _) = _
      rw [k5]
      rfl
    · rw [decide_eq_false (show ¬ (v : Int) < 3 by omega), Xa]
      exact ⟨w, b, rfl, h1, h2⟩
theorem N8 (a0 : List UInt8) : kE a0 = true := by
  have s1 := Z7 (n := 40) (a0 := a0) zAE
  have d1 : PlI 0 (Zb a0).1 := oS _
  have d2 : HsW (Zb a0).1 (Zb a0).1 := rC _
  obtain ⟨w, e1, h1, h2⟩ := oq s1.2 ((Zb a0).2.length + 1) 0 (Zb a0).1 zAA (Nat.zero_le _) d1 d2 s1.1
  obtain ⟨x, b, e2, h3, h4⟩ := nK 4 0 w 1600 h1 zAA h2 zAA zAA
  unfold kE
  refine Zi (p := (· = true)) rfl ?_
  rw [e1]
  show (match yq 4 0 w.Frame.Zo w.Frame.ZB w.Frame.Methods w.Frame.XT w.Frame.Now w.ZY w.Zx w.ZA w.Yt w.YO w.Next w.YE with | .inl r2 => r2 | .inr (ij, fW, z2_2, z2_3, z2_4, z2_5, z2_6, z2_7, z2_8, z2_9, z2_10, z2_11) => (decide ((WL (ZF.mk (ZX.mk ij fW z2_2 z2_3 z2_4) z2_5 z2_6 z2_7 z2_8 z2_9 z2_10 z2_11)) = (⟨#[]⟩ : ByteArray)))) = true
  rw [e2]
  show decide (WL x = (⟨#[]⟩ : ByteArray)) = true
  exact decide_eq_true (sJ h3 h4)
end Go.Mo
