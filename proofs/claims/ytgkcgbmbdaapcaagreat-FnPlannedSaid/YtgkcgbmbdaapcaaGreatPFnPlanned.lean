/- The plain law of FnPlanned: what is due is what needs a renewal, the next due time tells whether there is such an item, and those who can stamp have a key with an owner. No condition. -/
import Derived.Test.YtgkcgbmbdaapcaaGreatL
namespace Go.Mo
open Go.Vm
set_option linter.unusedSimpArgs false
set_option linter.unusedVariables false
/-- a loop that looks whether one of the places is bad -/
theorem xh {L : Nat -> Nat -> Sum Bool Unit} {len : Nat} {c : Nat -> Bool} (h0 : ∀ v, L 0 v = .inr ()) (hs : ∀ n v, L (n + 1) v = (bif decide ((v : Int) < (len : Int)) then (bif c v then .inl false else L n (v + 1)) else .inr ())) :
    ∀ n v, len < n + v -> (L n v = .inr () /\ ∀ i, v <= i -> i < len -> c i = false) \/ (L n v = .inl false /\ ∃ i, v <= i /\ i < len /\ c i = true)
  | 0, v, h => .inl ⟨h0 v, fun i h1 h2 => by omega⟩
  | n + 1, v, h => by
    rw [hs]
    by_cases hv : v < len
    · rw [show decide ((v : Int) < (len : Int)) = true by simpa using hv]
      cases hc : c v with
      | true => exact .inr ⟨rfl, v, Nat.le_refl _, hv, hc⟩
      | false =>
        rcases xh h0 hs n (v + 1) (by omega) with ⟨e, k⟩ | ⟨e, i, k1, k2, k3⟩
        · refine .inl ⟨e, fun i h1 h2 => ?_⟩
          rcases Nat.eq_or_lt_of_le h1 with rfl | h1
          · exact hc
          · exact k i h1 h2
        · exact .inr ⟨e, i, by omega, k2, k3⟩
    · rw [show decide ((v : Int) < (len : Int)) = false by simpa using hv]
      exact .inl ⟨rfl, fun i h1 h2 => by omega⟩
/-- a loop that looks for the first place -/
theorem y0 {β : Type} {L : Nat -> Nat -> Sum β Unit} {len : Nat} {c : Nat -> Bool} {r : Nat -> β} (h0 : ∀ v, L 0 v = .inr ()) (hs : ∀ n v, L (n + 1) v = (bif decide ((v : Int) < (len : Int)) then (bif c v then .inl (r v) else L n (v + 1)) else .inr ())) :
    ∀ n v, len < n + v -> (L n v = .inr () /\ ∀ i, v <= i -> i < len -> c i = false) \/ (∃ i, L n v = .inl (r i) /\ v <= i /\ i < len /\ c i = true /\ ∀ k, v <= k -> k < i -> c k = false)
  | 0, v, h => .inl ⟨h0 v, fun i h1 h2 => by omega⟩
  | n + 1, v, h => by
    rw [hs]
    by_cases hv : v < len
    · rw [show decide ((v : Int) < (len : Int)) = true by simpa using hv]
      cases hc : c v with
      | true => exact .inr ⟨v, rfl, Nat.le_refl _, hv, hc, fun k h1 h2 => by omega⟩
      | false =>
        rcases y0 h0 hs n (v + 1) (by omega) with ⟨e, k⟩ | ⟨i, e, k1, k2, k3, k4⟩
        · refine .inl ⟨e, fun i h1 h2 => ?_⟩
          rcases Nat.eq_or_lt_of_le h1 with rfl | h1
          · exact hc
          · exact k i h1 h2
        · refine .inr ⟨i, e, by omega, k2, k3, fun k h1 h2 => ?_⟩
          rcases Nat.eq_or_lt_of_le h1 with rfl | h1
          · exact hc
          · exact k4 k h1 h2
    · rw [show decide ((v : Int) < (len : Int)) = false by simpa using hv]
      exact .inl ⟨rfl, fun i h1 h2 => by omega⟩
/-- the same, as a Boolean -/
theorem U1 {L : Nat -> Nat -> Sum Bool Unit} {len : Nat} {c : Nat -> Bool} (h0 : ∀ v, L 0 v = .inr ()) (hs : ∀ n v, L (n + 1) v = (bif decide ((v : Int) < (len : Int)) then (bif c v then .inl false else L n (v + 1)) else .inr ())) (n v : Nat) (h : len < n + v) (X : Bool) :
    (match L n v with | .inl r => r | .inr _ => X) = true ↔ (∀ i, v <= i -> i < len -> c i = false) /\ X = true := by
  rcases xh h0 hs n v h with ⟨e, k⟩ | ⟨e, i, k1, k2, k3⟩
  · rw [e]; simp only; exact ⟨fun hx => ⟨k, hx⟩, fun hx => hx.2⟩
  · rw [e]; simp only
    constructor
    · intro hx; cases hx
    · intro hx; rw [hx.1 i k1 k2] at k3; cases k3
theorem Pw {L : Nat -> Nat -> Sum Bool Unit} {len : Nat} {c : Nat -> Bool} (h0 : ∀ v, L 0 v = .inr ()) (hs : ∀ n v, L (n + 1) v = (bif decide ((v : Int) < (len : Int)) then (bif c v then .inl true else L n (v + 1)) else .inr ())) (n v : Nat) (h : len < n + v) :
    (match L n v with | .inl r => r | .inr _ => false) = true ↔ ∃ i, v <= i /\ i < len /\ c i = true := by
  rcases y0 (r := fun _ => true) h0 hs n v h with ⟨e, k⟩ | ⟨i, e, k1, k2, k3, k4⟩
  · rw [e]; simp only
    constructor
    · intro hx; cases hx
    · rintro ⟨i, h1, h2, h3⟩; rw [k i h1 h2] at h3; cases h3
  · rw [e]; exact ⟨fun _ => ⟨i, k1, k2, k3⟩, fun _ => rfl⟩
theorem LG {α : Type} [Inhabited α] (l : List α) (x : α) {i j : Nat} (h : i ≠ j) : nth (l.set i x) j = nth l j := by simp [nth, List.getD_eq_getElem?_getD, List.getElem?_set_ne h]
theorem xi {l : List Za} (h : ∀ i, 0 < i -> i < l.length -> (nth l (i - 1)).Id < (nth l i).Id) : ∀ d i, i + d + 1 < l.length -> (nth l i).Id < (nth l (i + d + 1)).Id
  | 0, i, hi => by have := h (i + 1) (by omega) hi; simpa using this
  | d + 1, i, hi => by
    have h1 := xi h d i (by omega)
    have h2 := h (i + (d + 1) + 1) (by omega) hi
    have e : i + (d + 1) + 1 - 1 = i + d + 1 := by omega
    rw [e] at h2
    omega
theorem Md {l : List Za} (h : ∀ i, 0 < i -> i < l.length -> (nth l (i - 1)).Id < (nth l i).Id) {i j : Nat} (hi : i < l.length) (hj : j < l.length) (e : (nth l i).Id = (nth l j).Id) : i = j := by
  rcases Nat.lt_trichotomy i j with h1 | h1 | h1
  · have := xi h (j - i - 1) i (by omega)
    rw [show i + (j - i - 1) + 1 = j by omega] at this; omega
  · exact h1
  · have := xi h (i - j - 1) j (by omega)
    rw [show j + (i - j - 1) + 1 = i by omega] at this; omega
theorem qH {a : ZH} (h : Xf a = true) : (∀ i, 0 < i -> i < a.ZK.length -> (nth a.ZK (i - 1)).Id < (nth a.ZK i).Id) /\ (∀ i, i < a.ZK.length -> qu (nth a.ZK i) = true) := by
  unfold Xf at h
  have := (U1 (L := z9 a) (len := a.ZK.length) (c := fun v => ((!(qu (nth a.ZK v))) || ((decide ((v : Int) > 0)) && (decide ((nth a.ZK (v - 1)).Id >= (nth a.ZK v).Id))))) (fun _ => rfl) (fun _ _ => rfl) (a.ZK.length + 1) 0 (by omega) _).1 h
  refine ⟨fun i h0 hi => ?_, fun i hi => ?_⟩
  · have h1 := this.1 i (Nat.zero_le _) hi
    simp at h1
    have := h1.2 h0
    omega
  · have h1 := this.1 i (Nat.zero_le _) hi
    simp at h1
    exact h1.1
def XH (a : ZH) : Prop := a.ZK = [] \/ Xf a = true
theorem Ng {a : ZH} {x : Za} (h : XH a) : XH (Qj a x).1 := by
  unfold Qj
  refine Zd (p := fun r : ZH × Bool => XH r.1) h ?_
  generalize Xv a x (a.ZK.length + 1) false 0 [] = z
  obtain ⟨b, l⟩ := z
  refine Zd (p := fun r : ZH × Bool => XH r.1) (yI (p := fun r : ZH × Bool => XH r.1) (fun _ => h) (fun hc => .inr ?_)) (yI (p := fun r : ZH × Bool => XH r.1) (fun _ => h) (fun hc => .inr ?_))
  · simpa using hc
  · simpa using hc
theorem WL : ∀ (m : Nat) (x : Int) (b : List UInt8) (i : Nat) (h y : Int) (l : List Za), XH (ZH.mk y l) -> XH (ZH.mk (XT m x b i h y l).2.2.2.1 (XT m x b i h y l).2.2.2.2)
  | 0, _, _, _, _, _, _, _ => .inl rfl
  | m + 1, x, b, i, h, y, l, hl => by
    rw [XT]
    exact Zd (p := fun r : (List UInt8) × Nat × Int × Int × (List Za) => XH (ZH.mk r.2.2.2.1 r.2.2.2.2)) (WL m _ _ _ _ _ _ (Ng hl)) hl
theorem NL (c : ZI) : XH (YU c).2 := by
  unfold YU
  exact WL 5 _ _ _ _ _ [] (.inl rfl)
theorem U9 {s : ZO} (h : Q8 s = true) : s.ZN.length <= 8 := by
  unfold Q8 at h
  split at h
  · rename_i r e
    rcases xh (L := J4 s) (len := s.ZT.length) (c := fun v => decide (yQ s (nth s.ZT v) < (v : Int))) (fun _ => rfl) (fun _ _ => rfl) (s.ZT.length + 1) 0 (by omega) with ⟨e', _⟩ | ⟨e', _⟩
    · rw [e] at e'; cases e'
    · rw [e] at e'; cases e'; cases h
  · split at h
    · rename_i r e
      rcases xh (L := J7 s) (len := s.ZN.length) (c := fun v => ((!(Z4 (nth s.ZN v).Count 1 (s.ZT.length : Int))) || ((decide ((v : Int) > 0)) && (decide ((nth s.ZN (v - 1)).Count > (nth s.ZN v).Count))))) (fun _ => rfl) (fun _ _ => rfl) (s.ZN.length + 1) 0 (by omega) with ⟨e', _⟩ | ⟨e', _⟩
      · rw [e] at e'; cases e'
      · rw [e] at e'; cases e'; cases h
    · simp only [Bool.and_eq_true, decide_eq_true_eq] at h; omega
theorem PH {a : ZH} (h : XH a) {i : Nat} (hi : i < a.ZK.length) : (nth a.ZK i).YD.ZN.length <= 8 := by
  rcases h with h | h
  · rw [h] at hi; cases hi
  · have := (qH h).2 i hi
    simp only [qu, Bool.and_eq_true] at this
    exact U9 this.1.2
/- what needs a renewal -/
theorem qb (f : ZY) (a : ZH) (m : Int) (x : Int) : ∀ (n v : Nat) (l : List Int), a.ZK.length < n + v -> v <= a.ZK.length -> (x ∈ KD f a m n l v ↔ x ∈ l \/ ∃ i, v <= i /\ i < a.ZK.length /\ Yv f (nth a.ZK i) m = true /\ (nth a.ZK i).Id = x)
  | 0, v, l, h, hv => by omega
  | n + 1, v, l, h, hv => by
    rw [KD]
    by_cases wN : v < a.ZK.length
    · rw [show decide ((v : Int) < (a.ZK.length : Int)) = true by simpa using wN, qU]
      cases hn : Yv f (nth a.ZK v) m with
      | true =>
        rw [qU, qb f a m x n (v + 1) _ (by omega) wN]
        constructor
        · rintro (h1 | ⟨i, h1, h2, h3, h4⟩)
          · rcases List.mem_append.1 h1 with h1 | h1
            · exact .inl h1
            · exact .inr ⟨v, Nat.le_refl _, wN, hn, (List.mem_singleton.1 h1).symm⟩
          · exact .inr ⟨i, by omega, h2, h3, h4⟩
        · rintro (h1 | ⟨i, h1, h2, h3, h4⟩)
          · exact .inl (List.mem_append.2 (.inl h1))
          · by_cases hi : i = v
            · subst hi; exact .inl (List.mem_append.2 (.inr (List.mem_singleton.2 h4.symm)))
            · exact .inr ⟨i, by omega, h2, h3, h4⟩
      | false =>
        rw [zn, qb f a m x n (v + 1) _ (by omega) wN]
        constructor
        · rintro (h1 | ⟨i, h1, h2, h3, h4⟩)
          · exact .inl h1
          · exact .inr ⟨i, by omega, h2, h3, h4⟩
        · rintro (h1 | ⟨i, h1, h2, h3, h4⟩)
          · exact .inl h1
          · by_cases hi : i = v
            · subst hi; rw [hn] at h3; cases h3
            · exact .inr ⟨i, by omega, h2, h3, h4⟩
    · rw [show decide ((v : Int) < (a.ZK.length : Int)) = false by simpa using wN, zn]
      exact ⟨.inl, fun h1 => h1.resolve_right (fun ⟨i, h2, h3, _⟩ => by omega)⟩
theorem kQ (f : ZY) (a : ZH) (m x : Int) : x ∈ XR f a m ↔ ∃ i, i < a.ZK.length /\ Yv f (nth a.ZK i) m = true /\ (nth a.ZK i).Id = x := by
  unfold XR
  have := qb f a m x (a.ZK.length + 1) 0 [] (by omega) (Nat.zero_le _)
  simp only [List.not_mem_nil, false_or, Nat.zero_le, true_and] at this
  exact this
theorem Ux (l : List Int) (x : Int) : Ki l x = true ↔ x ∈ l := by
  unfold Ki
  refine (Pw (L := yq l x) (len := l.length) (c := fun v => ((nth l v) == x)) (fun _ => rfl) (fun _ _ => rfl) (l.length + 1) 0 (by omega)).trans ?_
  constructor
  · rintro ⟨i, _, h1, h2⟩
    have h2 : nth l i = x := by simpa using h2
    rw [<- h2, qX h1]; exact List.getElem_mem h1
  · intro h
    obtain ⟨i, hi, e⟩ := List.mem_iff_getElem.1 h
    exact ⟨i, Nat.zero_le _, hi, by simp [qX hi, e]⟩
/- when a renewal ends -/
def Jf (f : ZY) : Prop := ∀ id, 0 <= KI f id /\ KI f id <= 10002
def RG : Sum Int Int -> Int
  | .inl r => r
  | .inr z => z
def TI (s : Sum Int Int) : Prop := 0 <= RG s /\ RG s <= 10002
theorem WM {f : ZY} (hf : Jf f) (r : ZM) : ∀ (n : Nat) (x : Int) (v : Nat), 0 <= x /\ x <= 10002 -> TI (zd f r n x v)
  | 0, x, v, _ => ⟨Int.le_refl 0, show (0 : Int) <= 10002 by decide⟩
  | n + 1, x, v, h => by
    rw [zd]
    refine Zd (p := TI) (Zd (p := TI) ⟨Int.le_refl 0, show (0 : Int) <= 10002 by decide⟩ (WM hf r n _ (v + 1) ?_)) h
    have := hf (nth f.YE (Zu f.YE (Ys f.ZF (nth r.Z8 v))).toNat).Method
    split <;> assumption
theorem UN {f : ZY} (hf : Jf f) (r : ZM) : 0 <= Jl f r /\ Jl f r <= 10002 := by
  have h := WM hf r (r.Z8.length + 1) (KI f r.Method) 0 (hf _)
  unfold Jl
  cases e : zd f r (r.Z8.length + 1) (KI f r.Method) 0 with
  | inl q => rw [e] at h; exact h
  | inr q => rw [e] at h; exact h
/-- the end of an item: 0 where nothing was renewed -/
def X5 (f : ZY) (x : Za) : Int := bif (Z5 x).2 then Jl f (Z5 x).1 else 0
theorem kp (f : ZY) (a : ZH) : ∀ (n : Nat) (x : Int) (v : Nat), a.ZK.length < n + v -> v <= a.ZK.length -> Y9 f a n x v <= x /\ (∀ i, v <= i -> i < a.ZK.length -> Y9 f a n x v <= X5 f (nth a.ZK i)) /\ (Y9 f a n x v = x \/ ∃ i, v <= i /\ i < a.ZK.length /\ Y9 f a n x v = X5 f (nth a.ZK i))
  | 0, x, v, h, hv => by omega
  | n + 1, x, v, h, hv => by
    rw [Y9]
    by_cases wN : v < a.ZK.length
    · rw [show decide ((v : Int) < (a.ZK.length : Int)) = true by simpa using wN, qU]
      have key : ∀ e, X5 f (nth a.ZK v) = e -> Y9 f a n (if e < x then e else x) (v + 1) <= x /\ (∀ i, v <= i -> i < a.ZK.length -> Y9 f a n (if e < x then e else x) (v + 1) <= X5 f (nth a.ZK i)) /\ (Y9 f a n (if e < x then e else x) (v + 1) = x \/ ∃ i, v <= i /\ i < a.ZK.length /\ Y9 f a n (if e < x then e else x) (v + 1) = X5 f (nth a.ZK i)) := by
        intro e he
        obtain ⟨h1, h2, h3⟩ := kp f a n (if e < x then e else x) (v + 1) (by omega) wN
        have m5 : (if e < x then e else x) <= x /\ (if e < x then e else x) <= e /\ ((if e < x then e else x) = x \/ (if e < x then e else x) = e) := by split <;> omega
        refine ⟨by omega, fun i hi pn => ?_, ?_⟩
        · by_cases hiv : i = v
          · subst hiv; rw [he]; omega
          · exact h2 i (by omega) pn
        · rcases h3 with h3 | ⟨i, h4, h5, h6⟩
          · rcases m5.2.2 with hm | hm
            · exact .inl (by omega)
            · exact .inr ⟨v, Nat.le_refl _, wN, by rw [he]; omega⟩
          · exact .inr ⟨i, by omega, h5, h6⟩
      cases hl : (Z5 (nth a.ZK v)).2 with
      | true => rw [qU]; exact key _ (by unfold X5; rw [hl]; rfl)
      | false => rw [zn]; exact key 0 (by unfold X5; rw [hl]; rfl)
    · rw [show decide ((v : Int) < (a.ZK.length : Int)) = false by simpa using wN, zn]
      exact ⟨Int.le_refl _, fun i h1 h2 => by omega, .inl rfl⟩
theorem Wr {f : ZY} (hf : Jf f) (hn : 0 <= f.Now /\ f.Now <= 100) (x : Za) {m : Int} (hm : 0 <= m) : Yv f x m = true ↔ X5 f x - f.Now <= m := by
  unfold Yv X5
  have h1 := UN hf (Z5 x).1
  have hw : W (Jl f (Z5 x).1 - f.Now) = Jl f (Z5 x).1 - f.Now := by simp only [XJ]; omega
  rw [hw]
  cases (Z5 x).2 with
  | true => simp
  | false => simp; omega
theorem OS {f : ZY} (hf : Jf f) (hn : 0 <= f.Now /\ f.Now <= 100) (a : ZH) {m : Int} (hm : 0 <= m /\ m <= 20) : (decide (W (JL f a - f.Now) <= m) == decide (((XR f a m).length : Int) > 0)) = true := by
  obtain ⟨h1, h2, h3⟩ := kp f a (a.ZK.length + 1) 10001 0 (by omega) (Nat.zero_le _)
  have hN : JL f a = Y9 f a (a.ZK.length + 1) 10001 0 := rfl
  rw [<- hN] at h1 h2 h3
  have gA : 0 <= JL f a := by
    rcases h3 with h3 | ⟨i, _, _, h3⟩
    · rw [h3]; decide
    · rw [h3]; unfold X5
      have := UN hf (Z5 (nth a.ZK i)).1
      exact Zd (p := fun e : Int => 0 <= e) this.1 (Int.le_refl 0)
  have hw : W (JL f a - f.Now) = JL f a - f.Now := by simp only [XJ]; omega
  rw [hw]
  have hlen : ((XR f a m).length : Int) > 0 ↔ ∃ i, i < a.ZK.length /\ X5 f (nth a.ZK i) - f.Now <= m := by
    constructor
    · intro h
      have hp : 0 < (XR f a m).length := by omega
      obtain ⟨i, hi, wu, _⟩ := (kQ f a m _).1 (List.getElem_mem hp)
      exact ⟨i, hi, (Wr hf hn _ hm.1).1 wu⟩
    · rintro ⟨i, hi, hle⟩
      have := (kQ f a m _).2 ⟨i, hi, (Wr hf hn _ hm.1).2 hle, rfl⟩
      have := List.length_pos_of_mem this
      omega
  have : (JL f a - f.Now <= m) ↔ (((XR f a m).length : Int) > 0) := by
    rw [hlen]
    constructor
    · intro h
      rcases h3 with h3 | ⟨i, _, hi, h3⟩
      · omega
      · exact ⟨i, hi, by omega⟩
    · rintro ⟨i, hi, hle⟩
      have := h2 i (Nat.zero_le _) hi
      omega
  simp [this]
/- what is drawn -/
theorem kP {c : ZI} {l : List Int} (h : 0 < l.length) : (ZP c l).2 ∈ l := by
  have h1 := ZQ c (l.length : Int)
  have h2 : (ZA c (l.length : Int)).2.toNat < l.length := by omega
  unfold ZP
  show nth l _ ∈ l
  rw [qX h2]; exact List.getElem_mem h2
def Xk (l : List Zj) : Prop := ∀ m ∈ l, 0 <= m.Ends /\ m.Ends <= 10002
theorem TU {l : List Zj} (h : Xk l) (i : Nat) : 0 <= (nth l i).Ends /\ (nth l i).Ends <= 10002 := by
  by_cases hi : i < l.length
  · rw [qX hi]; exact h _ (List.getElem_mem hi)
  · have : nth l i = default := by unfold nth; simp [Nat.le_of_not_lt hi]
    rw [this]; exact ⟨Int.le_refl 0, show (0 : Int) <= 10002 by decide⟩
theorem SQ {f : ZY} (h : Xk f.Methods) : Jf f := fun id => by
  unfold KI
  exact Zd (p := fun e : Int => 0 <= e /\ e <= 10002) (TU h _) ⟨Int.le_refl 0, show (0 : Int) <= 10002 by decide⟩
theorem Xs : Xk Zb := by
  intro m hm
  simp only [Zb, List.mem_cons, List.not_mem_nil, or_false] at hm
  rcases hm with rfl | rfl | rfl | rfl <;> exact ⟨by decide, by decide⟩
theorem z8 {l : List Zj} {i : Nat} {x : Zj} (h : Xk l) (hx : 0 <= x.Ends /\ x.Ends <= 10002) : Xk (l.set i x) := fun m hm => by
  rcases List.mem_or_eq_of_mem_set hm with hm | rfl
  · exact h m hm
  · exact hx
theorem OU (c : ZI) : Xk (zK c).2 := by
  have hk : ∀ k, 0 <= (nth Zb k).Ends /\ (nth Zb k).Ends <= 10002 := TU Xs
  have hi : ∀ c', 0 <= (ZP c' ([0, 1, 45, 10001, 10002] : List Int)).2 /\ (ZP c' ([0, 1, 45, 10001, 10002] : List Int)).2 <= 10002 := fun c' => by
    have := kP (c := c') (l := ([0, 1, 45, 10001, 10002] : List Int)) (by decide)
    simp only [List.mem_cons, List.not_mem_nil, or_false] at this
    omega
  unfold zK
  repeat' refine Zd (p := fun r : ZI × List Zj => Xk r.2) ?_ ?_
  · exact z8 Xs (hk _)
  · exact z8 Xs (hk _)
  · exact z8 Xs (hi _)
  · exact z8 Xs (hk _)
  · exact fun m hm => Xs m (List.mem_of_mem_take hm)
  · exact Xs
def Yl (ks : List Z3) (l : List ZJ) : Prop := ∀ v k, v < l.length -> k <= v -> (nth l k).Id = (nth l v).Id -> 0 <= Zu ks (nth l v).Key -> 0 <= Zu ks (nth l k).Key
theorem N4 {k v : Nat} (hk : k < 4) (hv : v < 4) (e : (nth ZG k).Id = (nth ZG v).Id) : k = v := by
  have : ∀ k, k < 4 -> ∀ v, v < 4 -> (nth ZG k).Id = (nth ZG v).Id -> k = v := by decide
  exact this k hk v hv e
theorem OK {k : Nat} (hk : k < 4) : 0 <= Zu ZD (nth ZG k).Key := by
  have : ∀ k, k < 4 -> 0 <= Zu ZD (nth ZG k).Key := by decide
  exact this k hk
theorem J8 {ks : List Z3} {l : List ZJ} (hl : l.length = 4) (h : ∀ k, (nth l k).Id = (nth ZG k).Id) : Yl ks l := by
  intro v k hv hk e hf
  rw [h, h] at e
  have := N4 (by omega) (by omega) e
  subst this; exact hf
theorem kc {i : Nat} {x : ZJ} {β : Type} (g : ZJ -> β) (hx : g x = g (nth ZG i)) (k : Nat) : g (nth (ZG.set i x) k) = g (nth ZG k) := by
  by_cases hk : i = k
  · subst hk
    by_cases hi : i < ZG.length
    · rw [O4 hi]; exact hx
    · rw [List.set_eq_of_length_le (by omega)]
  · rw [LG _ _ hk]
theorem PC (c : ZI) : Yl ZD (Jv c).2 := by
  have hl : ∀ (i : Nat) (x : ZJ), (ZG.set i x).length = 4 := fun i x => by rw [List.length_set]; rfl
  unfold Jv
  repeat' refine Zd (p := fun r : ZI × List ZJ => Yl ZD r.2) ?_ ?_
  · intro v k hv hk e hf
    have hlen : v < 4 := by have := hl (ZA c 4).2.toNat (ZJ.mk (ZP (ZA (ZA c 4).1 8).1 ([(-1), 2, 99, 100] : List Int)).2 (nth ZG (ZA c 4).2.toNat).Key (nth ZG (ZA c 4).2.toNat).Error); exact this ▸ hv
    have e2 := kc (i := (ZA c 4).2.toNat) (x := (ZJ.mk (ZP (ZA (ZA c 4).1 8).1 ([(-1), 2, 99, 100] : List Int)).2 (nth ZG (ZA c 4).2.toNat).Key (nth ZG (ZA c 4).2.toNat).Error)) ZJ.Key rfl k
    exact e2 ▸ OK (k := k) (by omega)
  · exact J8 (hl _ _) (fun k => kc ZJ.Id (by rfl) k)
  · exact J8 (hl _ _) (fun k => kc ZJ.Id (by rfl) k)
  · exact J8 rfl (fun k => rfl)
theorem RN (c : ZI) : Xk (Xb c).2.Methods /\ Yl (Xb c).2.YE (Xb c).2.ZF := by
  have h0 : ∀ ks, Yl ks ZG := fun ks => J8 rfl (fun k => rfl)
  have hf : (ZZ c).2.Methods = Zb /\ (ZZ c).2.YE = ZD /\ (ZZ c).2.ZF = ZG := ⟨rfl, rfl, rfl⟩
  unfold Xb
  generalize ZZ c = z at hf ⊢
  obtain ⟨hM, hK, hA⟩ := hf
  generalize (ZA z.1 10) = y
  have h2 := PC y.1
  have h3 := OU y.1
  generalize yy y.1 = x1
  generalize Jv y.1 = x2 at h2 ⊢
  generalize zK y.1 = x3 at h3 ⊢
  have hz : Xk z.2.Methods /\ Yl z.2.YE z.2.ZF := by rw [hM, hA]; exact ⟨Xs, h0 _⟩
  refine Zd (p := fun r : ZI × ZY => Xk r.2.Methods /\ Yl r.2.YE r.2.ZF) ⟨hz.1, ?_⟩ (Zd (p := fun r : ZI × ZY => Xk r.2.Methods /\ Yl r.2.YE r.2.ZF) ⟨hz.1, ?_⟩ (Zd (p := fun r : ZI × ZY => Xk r.2.Methods /\ Yl r.2.YE r.2.ZF) ⟨h3, hz.2⟩ (Zd (p := fun r : ZI × ZY => Xk r.2.Methods /\ Yl r.2.YE r.2.ZF) hz (Zd (p := fun r : ZI × ZY => Xk r.2.Methods /\ Yl r.2.YE r.2.ZF) hz hz))))
  · show Yl x1.2 z.2.ZF
    rw [hA]; exact h0 _
  · show Yl z.2.YE x2.2
    rw [hK]; exact h2
theorem PV (c : ZI) : Jf (Yh c).2 /\ (0 <= (Yh c).2.Now /\ (Yh c).2.Now <= 100) /\ Yl (Yh c).2.YE (Yh c).2.ZF := by
  have key := RN c
  unfold Yh
  generalize Xb c = z at key ⊢
  have := kP (c := z.1) (l := ([0, 20, 45, 60, 100] : List Int)) (by decide)
  generalize ZP z.1 ([0, 20, 45, 60, 100] : List Int) = y at this ⊢
  refine ⟨SQ key.1, ?_, key.2⟩
  show 0 <= y.2 /\ y.2 <= 100
  simp only [List.mem_cons, List.not_mem_nil, or_false] at this
  omega
theorem qa (a0 : List UInt8) : Jf (ZB a0).1 /\ (0 <= (ZB a0).1.Now /\ (ZB a0).1.Now <= 100) /\ Yl (ZB a0).1.YE (ZB a0).1.ZF /\ XH (ZB a0).2.1 /\ (0 <= (ZB a0).2.2 /\ (ZB a0).2.2 <= 20) := by
  have h1 := PV (Z0 a0)
  unfold ZB
  generalize Yh (Z0 a0) = y at h1 ⊢
  have h2 := NL y.1
  generalize YU y.1 = z at h2 ⊢
  have h3 := kP (c := z.1) (l := ([0, 5, 20] : List Int)) (by decide)
  generalize ZP z.1 ([0, 5, 20] : List Int) = q at h3 ⊢
  refine ⟨h1.1, h1.2.1, h1.2.2, h2, ?_⟩
  show 0 <= q.2 /\ q.2 <= 20
  simp only [List.mem_cons, List.not_mem_nil, or_false] at h3
  omega
/- those who can stamp -/
theorem zR (f : ZY) (x : Int) : ∀ (n : Nat) (l : List Int) (v : Nat), x ∈ Y3 f n l v -> x ∈ l \/ ∃ k, k < f.ZF.length /\ (nth f.ZF k).Id = x /\ 0 <= Zu f.YE (nth f.ZF k).Key
  | 0, l, v, h => by cases h
  | n + 1, l, v, h => by
    rw [Y3] at h
    cases hv : decide ((v : Int) < (f.ZF.length : Int)) with
    | false => rw [hv, zn] at h; exact .inl h
    | true =>
      rw [hv, qU] at h
      cases h1 : decide ((Zu f.YE (nth f.ZF v).Key) < 0) with
      | true => rw [h1, qU] at h; exact zR f x n l (v + 1) h
      | false =>
        rw [h1, zn] at h
        generalize (((decide ((nth f.YE (Zu f.YE (nth f.ZF v).Key).toNat).jw <= f.Now)) && (WV f.Methods (nth f.YE (Zu f.YE (nth f.ZF v).Key).toNat).Method f.Now)) && (decide ((KI f (nth f.YE (Zu f.YE (nth f.ZF v).Key).toNat).Method) > f.Now))) = b at h
        cases b with
        | false => rw [zn] at h; exact zR f x n l (v + 1) h
        | true =>
          rw [qU] at h
          rcases zR f x n _ (v + 1) h with h | h
          · rcases List.mem_append.1 h with h | h
            · exact .inl h
            · refine .inr ⟨v, by simpa using hv, (List.mem_singleton.1 h).symm, ?_⟩
              have : ¬ (Zu f.YE (nth f.ZF v).Key < 0) := by simpa using h1
              omega
          · exact .inr h
theorem Uk (l : List ZJ) (x : Int) {k : Nat} (hk : k < l.length) (e : (nth l k).Id = x) : ∃ j : Nat, Zm l x = (j : Int) /\ j <= k /\ (nth l j).Id = x := by
  unfold Zm
  rcases y0 (L := QM l x) (len := l.length) (c := fun v => ((nth l v).Id == x)) (r := fun v => (v : Int)) (fun _ => rfl) (fun _ _ => rfl) (l.length + 1) 0 (by omega) with ⟨_, h⟩ | ⟨j, h1, _, h2, h3, h4⟩
  · have := h k (Nat.zero_le _) hk; rw [e] at this; simp at this
  · rw [h1]
    refine ⟨j, rfl, ?_, by simpa using h3⟩
    rcases Nat.lt_or_ge k j with m0 | m0
    · have := h4 k (Nat.zero_le _) m0; rw [e] at this; simp at this
    · exact m0
theorem Rz {ks : List Z3} (h : JN ks = true) {n : Int} (hf : 0 <= Zu ks n) : 0 <= ze ks n := by
  unfold ze
  rw [show decide (Zu ks n >= 0) = true by simpa using hf, qU]
  unfold JN at h
  have h1 := (U1 (L := qL ks) (len := ks.length) (c := fun v => ((!(UB (nth ks v))) || ((decide ((v : Int) > 0)) && (decide ((nth ks (v - 1)).Number >= (nth ks v).Number))))) (fun _ => rfl) (fun _ _ => rfl) (ks.length + 1) 0 (by omega) _).1 h
  have h2 := J9 ks n
  have h3 := h1.1 (Zu ks n).toNat (Nat.zero_le _) (by omega)
  simp only [Bool.or_eq_false_iff, Bool.not_eq_false'] at h3
  have h4 := h3.1
  simp only [UB, ZU, Bool.and_eq_true, decide_eq_true_eq] at h4
  omega
theorem Sb (a0 : List UInt8) : ∀ n v, KR a0 n v = .inr ()
  | 0, _ => rfl
  | n + 1, v => by
    rw [KR]
    by_cases hv : v < (Zq (ZB a0).1).length
    · rw [show decide ((v : Int) < ((Zq (ZB a0).1).length : Int)) = true by simpa using hv, qU]
      have hA : Yl (ZB a0).1.YE (ZB a0).1.ZF := (qa a0).2.2.1
      have hm : nth (Zq (ZB a0).1) v ∈ Zq (ZB a0).1 := by rw [qX hv]; exact List.getElem_mem hv
      rcases zR _ _ _ [] 0 hm with hm | ⟨k, h1, h2, h3⟩
      · cases hm
      · obtain ⟨j, e1, e2, e3⟩ := Uk _ _ h1 h2
        have h4 := hA k j h1 e2 (by rw [e3]; exact h2.symm) h3
        rw [e1]
        have h5 : ((decide ((j : Int) < 0)) || ((decide ((ze (ZB a0).1.YE (nth (ZB a0).1.ZF (j : Int).toNat).Key) < 0)) && (JN (ZB a0).1.YE))) = false := by
          rw [Int.toNat_natCast]
          cases hk : JN (ZB a0).1.YE with
          | false => first | (simp; done) | (simp; omega)
          | true =>
            have := Rz hk h4
            simp; omega
        rw [h5, zn]
        exact Sb a0 n (v + 1)
    · rw [show decide ((v : Int) < ((Zq (ZB a0).1).length : Int)) = false by simpa using hv, zn]
theorem ND (f : ZY) (x : Za) (h : x.YD.ZN.length <= 8) : (yB f x == ((decide ((x.YD.ZN.length : Int) > 0)) && (yK f x.YD (W ((x.YD.ZN.length : Int) - 1))))) = true := by
  unfold yB Z5 yK
  have hw : W ((x.YD.ZN.length : Int) - 1) = (x.YD.ZN.length : Int) - 1 := by simp only [XJ]; omega
  rw [hw]
  by_cases h0 : x.YD.ZN.length = 0
  · simp [h0]
  · have h1 : ((x.YD.ZN.length : Int) == 0) = false := by simp; exact fun e => h0 (by rw [e]; rfl)
    have h2 : ZU ((x.YD.ZN.length : Int) - 1) 0 ((x.YD.ZN.length : Int) - 1) = true := by simp [ZU]; omega
    have h3 : ((x.YD.ZN.length : Int) - 1).toNat = x.YD.ZN.length - 1 := by omega
    have h4 : decide ((x.YD.ZN.length : Int) > 0) = true := by simp; omega
    rw [h1, h2, h3, h4]
    simp
theorem Mh {a b : Bool} (h : a = true ↔ b = true) : (a == b) = true := by
  cases a <;> cases b <;> simp_all
theorem RC (a0 : List UInt8) : ∀ n v, KV a0 n v = .inr ()
  | 0, _ => rfl
  | n + 1, v => by
    rw [KV]
    by_cases hv : v < (ZB a0).2.1.ZK.length
    · rw [show decide ((v : Int) < ((ZB a0).2.1.ZK.length : Int)) = true by simpa using hv, qU]
      have hP : XH (ZB a0).2.1 := (qa a0).2.2.2.1
      have m7 : ∀ i, 0 < i -> i < (ZB a0).2.1.ZK.length -> (nth (ZB a0).2.1.ZK (i - 1)).Id < (nth (ZB a0).2.1.ZK i).Id := by
        rcases hP with h | h
        · intro i _ hi; rw [h] at hi; cases hi
        · exact (qH h).1
      have h1 : (Ki (XR (ZB a0).1 (ZB a0).2.1 (ZB a0).2.2) (nth (ZB a0).2.1.ZK v).Id == Yv (ZB a0).1 (nth (ZB a0).2.1.ZK v) (ZB a0).2.2) = true := by
        have : Ki (XR (ZB a0).1 (ZB a0).2.1 (ZB a0).2.2) (nth (ZB a0).2.1.ZK v).Id = true ↔ Yv (ZB a0).1 (nth (ZB a0).2.1.ZK v) (ZB a0).2.2 = true := by
          rw [Ux, kQ]
          constructor
          · rintro ⟨i, h1, h2, h3⟩
            have := Md m7 h1 hv h3
            subst this; exact h2
          · intro h; exact ⟨v, hv, h, rfl⟩
        exact Mh this
      have h2 := ND (ZB a0).1 (nth (ZB a0).2.1.ZK v) (PH hP hv)
      rw [h1, h2]
      simp only [Bool.not_true, zn]
      exact RC a0 n (v + 1)
    · rw [show decide ((v : Int) < ((ZB a0).2.1.ZK.length : Int)) = false by simpa using hv, zn]
theorem Uw (a0 : List UInt8) : yN a0 = true := by
  unfold yN
  cases Ti a0 with
  | true => rfl
  | false =>
    rw [zn, RC]
    simp only
    obtain ⟨hE, hN, _, _, hm⟩ := qa a0
    have h1 := OS (f := (ZB a0).1) hE hN (ZB a0).2.1 hm
    rw [h1]
    simp only [Bool.not_true, Bool.and_false, zn]
    rw [Sb]
end Go.Mo
