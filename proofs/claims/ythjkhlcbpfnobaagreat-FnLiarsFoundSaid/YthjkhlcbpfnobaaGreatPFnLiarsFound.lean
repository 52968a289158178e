/- The plain law of FnLiarsFound: without thieves only authorities that uw contradict themselves. No condition. -/
import Derived.Test.YthjkhlcbpfnobaaGreatL
namespace Go.Mo
open Go.Vm
set_option linter.unusedSimpArgs false
set_option linter.unusedVariables false
/-- a loop that looks whether one of the places is bad -/
theorem MH {L : Nat -> Nat -> Sum Bool Unit} {len : Nat} {c : Nat -> Bool} (h0 : ∀ v, L 0 v = .inr ()) (hs : ∀ n v, L (n + 1) v = (bif decide ((v : Int) < (len : Int)) then (bif c v then .inl false else L n (v + 1)) else .inr ())) :
    ∀ n v, len < n + v -> (L n v = .inr () /\ ∀ i, v <= i -> i < len -> c i = false) \/ (L n v = .inl false /\ ∃ i, v <= i /\ i < len /\ c i = true)
  | 0, v, h => .inl ⟨h0 v, fun i h1 h2 => by omega⟩
  | n + 1, v, h => by
    rw [hs]
    by_cases hv : v < len
    · rw [show decide ((v : Int) < (len : Int)) = true by simpa using hv]
      cases hc : c v with
      | true => exact .inr ⟨rfl, v, Nat.le_refl _, hv, hc⟩
      | false =>
        rcases MH h0 hs n (v + 1) (by omega) with ⟨e, k⟩ | ⟨e, i, k1, k2, k3⟩
        · refine .inl ⟨e, fun i h1 h2 => ?_⟩
          rcases Nat.eq_or_lt_of_le h1 with rfl | h1
          · exact hc
          · exact k i h1 h2
        · exact .inr ⟨e, i, by omega, k2, k3⟩
    · rw [show decide ((v : Int) < (len : Int)) = false by simpa using hv]
      exact .inl ⟨rfl, fun i h1 h2 => by omega⟩
/-- a loop that looks for the first place -/
theorem kg {β : Type} {L : Nat -> Nat -> Sum β Unit} {len : Nat} {c : Nat -> Bool} {r : Nat -> β} (h0 : ∀ v, L 0 v = .inr ()) (hs : ∀ n v, L (n + 1) v = (bif decide ((v : Int) < (len : Int)) then (bif c v then .inl (r v) else L n (v + 1)) else .inr ())) :
    ∀ n v, len < n + v -> (L n v = .inr () /\ ∀ i, v <= i -> i < len -> c i = false) \/ (∃ i, L n v = .inl (r i) /\ v <= i /\ i < len /\ c i = true /\ ∀ k, v <= k -> k < i -> c k = false)
  | 0, v, h => .inl ⟨h0 v, fun i h1 h2 => by omega⟩
  | n + 1, v, h => by
    rw [hs]
    by_cases hv : v < len
    · rw [show decide ((v : Int) < (len : Int)) = true by simpa using hv]
      cases hc : c v with
      | true => exact .inr ⟨v, rfl, Nat.le_refl _, hv, hc, fun k h1 h2 => by omega⟩
      | false =>
        rcases kg h0 hs n (v + 1) (by omega) with ⟨e, k⟩ | ⟨i, e, k1, k2, k3, k4⟩
        · refine .inl ⟨e, fun i h1 h2 => ?_⟩
          rcases Nat.eq_or_lt_of_le h1 with rfl | h1
          · exact hc
          · exact k i h1 h2
        · refine .inr ⟨i, e, by omega, k2, k3, fun k h1 h2 => ?_⟩
          rcases Nat.eq_or_lt_of_le h1 with rfl | h1
          · exact hc
          · exact k4 k h1 h2
    · rw [show decide ((v : Int) < (len : Int)) = false by simpa using hv]
      exact .inl ⟨rfl, fun i h1 h2 => by omega⟩
/-- the same, as a Boolean -/
theorem y0 {L : Nat -> Nat -> Sum Bool Unit} {len : Nat} {c : Nat -> Bool} (h0 : ∀ v, L 0 v = .inr ()) (hs : ∀ n v, L (n + 1) v = (bif decide ((v : Int) < (len : Int)) then (bif c v then .inl false else L n (v + 1)) else .inr ())) (n v : Nat) (h : len < n + v) (X : Bool) :
    (match L n v with | .inl r => r | .inr _ => X) = true ↔ (∀ i, v <= i -> i < len -> c i = false) /\ X = true := by
  rcases MH h0 hs n v h with ⟨e, k⟩ | ⟨e, i, k1, k2, k3⟩
  · rw [e]; simp only; exact ⟨fun hx => ⟨k, hx⟩, fun hx => hx.2⟩
  · rw [e]; simp only
    constructor
    · intro hx; cases hx
    · intro hx; rw [hx.1 i k1 k2] at k3; cases k3
theorem IA {L : Nat -> Nat -> Sum Bool Unit} {len : Nat} {c : Nat -> Bool} (h0 : ∀ v, L 0 v = .inr ()) (hs : ∀ n v, L (n + 1) v = (bif decide ((v : Int) < (len : Int)) then (bif c v then .inl true else L n (v + 1)) else .inr ())) (n v : Nat) (h : len < n + v) :
    (match L n v with | .inl r => r | .inr _ => false) = true ↔ ∃ i, v <= i /\ i < len /\ c i = true := by
  rcases kg (r := fun _ => true) h0 hs n v h with ⟨e, k⟩ | ⟨i, e, k1, k2, k3, k4⟩
  · rw [e]; simp only
    constructor
    · intro hx; cases hx
    · rintro ⟨i, h1, h2, h3⟩; rw [k i h1 h2] at h3; cases h3
  · rw [e]; exact ⟨fun _ => ⟨i, k1, k2, k3⟩, fun _ => rfl⟩
theorem km {α β : Type} [Inhabited α] [Inhabited β] {f : α -> β} {l : List α} {i : Nat} (h : i < l.length) : nth (l.map f) i = f (nth l i) := by
  simp [nth, List.getD_eq_getElem?_getD, List.getElem?_eq_getElem h]
theorem VL (a0 : List Int) (a1 : Int) : Y6 a0 a1 = true ↔ ∃ i, 0 <= i /\ i < a0.length /\ (nth a0 i == a1) = true := by
  unfold Y6 kn
  rcases kg (L := qE a0 a1) (r := fun i => (i : Int)) (fun _ => rfl) (fun _ _ => rfl) (a0.length + 1) 0 (by omega) with ⟨e, p⟩ | ⟨i, e, p1, p2, p3, p4⟩
  · rw [e]
    constructor
    · intro h; simp at h
    · rintro ⟨i, h1, h2, h3⟩; have := p i h1 h2; rw [h3] at this; cases this
  · rw [e]
    exact ⟨fun _ => ⟨i, p1, p2, p3⟩, fun _ => by simp⟩
theorem Vj (a0 : ZE) (k : Nat) : ∀ (n : Nat) (l : List Int) (v : Nat), Jl a0 k n l v ≠ .inl true := by
  intro n
  induction n with
  | zero => intro l v h; cases h
  | succ n ih =>
    intro l v h
    rw [Jl] at h
    generalize decide ((v : Int) < ((nth a0.ZA k).ZF.length : Int)) = c at h
    cases c with
    | false => cases h
    | true =>
      simp only [cond_true] at h
      generalize (Y6 l (nth (nth a0.ZA k).ZF v).Id || decide ((nth (nth a0.ZA k).ZF v).Id >= a0.Next)) = c at h
      cases c with
      | true => cases h
      | false => exact ih _ _ h
theorem Vr (a0 : ZE) : ∀ (n : Nat) (l : List Int) (v : Nat), KH a0 n l v ≠ .inl true := by
  intro n
  induction n with
  | zero => intro l v h; cases h
  | succ n ih =>
    intro l v h
    rw [KH] at h
    generalize decide ((v : Int) < (a0.ZA.length : Int)) = c at h
    cases c with
    | false => cases h
    | true =>
      simp only [cond_true] at h
      generalize (!Zz (nth a0.ZA v) || (nth a0.ZA v).Id != (v : Int)) = c at h
      cases c with
      | true => cases h
      | false =>
        simp only [cond_false] at h
        cases hh : Jl a0 v ((nth a0.ZA v).ZF.length + 1) l 0 with
        | inl r =>
          rw [hh] at h; simp only at h
          cases h; exact Vj _ _ _ _ _ hh
        | inr z => rw [hh] at h; exact ih _ _ h
theorem IS (s : Sum Bool Unit) (X : Bool) : s ≠ .inl true -> ((match s with | .inl r => r | .inr _ => X) = true ↔ s = .inr () /\ X = true) := by
  intro h
  cases s with
  | inl r => cases r with
    | true => exact absurd rfl h
    | false => simp
  | inr u => simp
theorem Lj {α : Type} [Inhabited α] (l : List α) (i : Nat) : l.set i (nth l i) = l := by
  rcases Nat.lt_or_ge i l.length with h | h
  · simp [nth, List.getD_eq_getElem?_getD, List.getElem?_eq_getElem h]
  · exact List.set_eq_of_length_le h
def MN (a0 : ZE) (a2 : Int) (a3 : ZP) (a4 : Int) (v : Nat) : Zr × Bool := YU a0.Frame.Z9 (Zr.mk a2 (nth a0.Zb v).YD (ZJ a0.Frame.Methods a0.Frame.Now) (YH (ZJ a0.Frame.Methods a0.Frame.Now) a3) 1 a4 0 0 0)
def Sc (a0 : ZE) (a2 : Int) (a3 : ZP) (a4 a5 : Int) (v : Nat) : ZS := ZS.mk a0.Next a5 a3 (MN a0 a2 a3 a4 v).1 (Zf.mk ([(X4 (MN a0 a2 a3 a4 v).1), (Qg (nth a0.Zb v))] : List Zl) ([] : List Za))
def Rb (a0 : ZE) (a1 : Int) (it : ZS) : ZE := ZE.mk a0.Frame a0.Zb a0.YC (a0.ZA.set a1.toNat (Z0 (nth a0.ZA a1.toNat) it).1) a0.YP a0.YN (W (a0.Next + 1)) a0.YE
theorem Pj {a1 : List Int} (h : ∀ i, 0 < i -> i < a1.length -> nth a1 (i - 1) < nth a1 i) : ∀ d v, 0 < d -> v + d < a1.length -> nth a1 v < nth a1 (v + d)
  | 0, _, h0, _ => by omega
  | 1, v, _, hv => h (v + 1) (by omega) hv
  | d + 2, v, _, hv => by
    have h1 := Pj h (d + 1) v (by omega) (by omega)
    have h2 := h (v + (d + 2)) (by omega) hv
    rw [show v + (d + 2) - 1 = v + (d + 1) by omega] at h2
    omega
def Kp (l : List ZD) : List Int := l.flatMap (fun a => a.ZF.map (·.Id))
def qT (nx : Int) (l m : List Int) : Prop := (∀ x ∈ m, x ∉ l /\ x < nx) /\ m.Nodup
theorem HG (l : List Int) (x : Int) : Y6 l x = true ↔ x ∈ l := by
  rw [VL]
  constructor
  · rintro ⟨i, _, h, e⟩
    rw [beq_iff_eq, Qq h] at e
    rw [<- e]; exact List.getElem_mem h
  · intro h
    obtain ⟨i, hi, e⟩ := List.mem_iff_getElem.1 h
    exact ⟨i, Nat.zero_le _, hi, by rw [beq_iff_eq, Qq hi, e]⟩
theorem jM {nx x : Int} {l m : List Int} : qT nx l (x :: m) ↔ (x ∉ l /\ x < nx) /\ qT nx (l ++ [x]) m := by
  unfold qT
  rw [List.nodup_cons]
  constructor
  · rintro ⟨h1, h2, h3⟩
    refine ⟨h1 x List.mem_cons_self, fun y hy => ⟨fun hm => ?_, (h1 y (List.mem_cons_of_mem _ hy)).2⟩, h3⟩
    rcases List.mem_append.1 hm with hm | hm
    · exact (h1 y (List.mem_cons_of_mem _ hy)).1 hm
    · rw [List.mem_singleton.1 hm] at hy; exact h2 hy
  · rintro ⟨h1, h2, h3⟩
    refine ⟨fun y hy => ?_, fun hx => (h2 x hx).1 (List.mem_append.2 (.inr (List.mem_singleton.2 rfl))), h3⟩
    rcases List.mem_cons.1 hy with rfl | hy
    · exact h1
    · exact ⟨fun hm => (h2 y hy).1 (List.mem_append.2 (.inl hm)), (h2 y hy).2⟩
theorem ke (nx : Int) (l : List Int) : qT nx l [] := ⟨fun x h => (by cases h), List.nodup_nil⟩
theorem ND {nx : Int} {l m k : List Int} : qT nx l (m ++ k) ↔ qT nx l m /\ qT nx (l ++ m) k := by
  induction m generalizing l with
  | nil => rw [List.nil_append, List.append_nil]; exact ⟨fun h => ⟨ke _ _, h⟩, fun h => h.2⟩
  | cons x m ih =>
    rw [List.cons_append, jM, jM, ih, List.append_assoc]
    exact ⟨fun h => ⟨⟨h.1, h.2.1⟩, h.2.2⟩, fun h => ⟨h.1.1, h.1.2, h.2⟩⟩
theorem FX (w : ZE) (k : Nat) : ∀ (n : Nat) (l : List Int) (v : Nat), (nth w.ZA k).ZF.length < n + v -> v <= (nth w.ZA k).ZF.length ->
    (Jl w k n l v = .inr (l ++ ((nth w.ZA k).ZF.drop v).map (·.Id)) /\ qT w.Next l (((nth w.ZA k).ZF.drop v).map (·.Id))) \/ (Jl w k n l v = .inl false /\ ¬ qT w.Next l (((nth w.ZA k).ZF.drop v).map (·.Id)))
  | 0, l, v, h, hv => by omega
  | n + 1, l, v, h, hv => by
    rw [Jl]
    by_cases wO : v < (nth w.ZA k).ZF.length
    · rw [decide_eq_true (show (v : Int) < ((nth w.ZA k).ZF.length : Int) by omega), Yf, List.drop_eq_getElem_cons wO, List.map_cons, Qq wO, jM]
      generalize hx : ((nth w.ZA k).ZF[v]).Id = x
      cases hc : (Y6 l x || decide (x >= w.Next)) with
      | true =>
        rw [Yf]
        refine .inr ⟨rfl, fun hg => ?_⟩
        rcases Bool.or_eq_true _ _ ▸ hc with h1 | h1
        · exact hg.1.1 ((HG _ _).1 h1)
        · have := of_decide_eq_true h1; have := hg.1.2; omega
      | false =>
        rw [YT]
        rw [Bool.or_eq_false_iff] at hc
        have hn : x ∉ l /\ x < w.Next := ⟨fun hm => (by rw [(HG _ _).2 hm] at hc; cases hc.1), (by have := of_decide_eq_false hc.2; omega)⟩
        rcases FX w k n (l ++ [x]) (v + 1) (by omega) wO with ⟨e, hg⟩ | ⟨e, hg⟩
        · exact .inl ⟨by rw [e, List.append_assoc]; rfl, hn, hg⟩
        · exact .inr ⟨e, fun h => hg h.2⟩
    · rw [decide_eq_false (show ¬ (v : Int) < ((nth w.ZA k).ZF.length : Int) by omega), YT, List.drop_eq_nil_of_le (by omega), List.map_nil, List.append_nil]
      exact .inl ⟨rfl, ke _ _⟩
theorem FJ (w : ZE) : ∀ (n : Nat) (l : List Int) (v : Nat), w.ZA.length < n + v -> v <= w.ZA.length ->
    (KH w n l v = .inr () ↔ (∀ i, v <= i -> i < w.ZA.length -> Zz (nth w.ZA i) = true /\ (nth w.ZA i).Id = (i : Int)) /\ qT w.Next l (Kp (w.ZA.drop v)))
  | 0, l, v, h, hv => by omega
  | n + 1, l, v, h, hv => by
    rw [KH]
    by_cases wO : v < w.ZA.length
    · rw [decide_eq_true (show (v : Int) < (w.ZA.length : Int) by omega), Yf]
      have e1 : Kp (w.ZA.drop v) = (nth w.ZA v).ZF.map (·.Id) ++ Kp (w.ZA.drop (v + 1)) := by
        rw [List.drop_eq_getElem_cons wO, Qq wO]; rfl
      rw [e1, ND]
      cases hc : (!Zz (nth w.ZA v) || (nth w.ZA v).Id != (v : Int)) with
      | true =>
        rw [Yf]
        refine ⟨fun h => (by cases h), fun h => ?_⟩
        obtain ⟨h1, h2⟩ := h.1 v (Nat.le_refl _) wO
        rw [h1, h2] at hc
        simp at hc
      | false =>
        rw [YT]
        simp only [Bool.or_eq_false_iff, Bool.not_eq_false', bne_eq_false_iff_eq] at hc
        rcases FX w v ((nth w.ZA v).ZF.length + 1) l 0 (by omega) (Nat.zero_le _) with ⟨e, hg⟩ | ⟨e, hg⟩
        · rw [e]
          rw [List.drop_zero] at hg ⊢
          refine (FJ w n _ (v + 1) (by omega) wO).trans ⟨fun h => ⟨fun i h1 h2 => ?_, hg, h.2⟩, fun h => ⟨fun i h1 h2 => h.1 i (by omega) h2, h.2.2⟩⟩
          rcases Nat.eq_or_lt_of_le h1 with rfl | h1
          · exact hc
          · exact h.1 i h1 h2
        · rw [e]
          rw [List.drop_zero] at hg
          exact ⟨fun h => (by cases h), fun h => absurd h.2.1 hg⟩
    · rw [decide_eq_false (show ¬ (v : Int) < (w.ZA.length : Int) by omega), YT, List.drop_eq_nil_of_le (by omega)]
      exact ⟨fun _ => ⟨fun i h1 h2 => by omega, ke _ _⟩, fun _ => rfl⟩
structure PlW (w : ZE) : Prop where
  fr : z8 w.Frame = true
  en : w.YC.length = w.Zb.length
  ar : 1 <= w.ZA.length /\ w.ZA.length <= 4
  sl : w.YP.length = w.Frame.ZG.length
  ll : (w.YN.length : Int) <= w.Frame.zm
  nx : 1 <= w.Next
  lr : Xp w.YN = true
  fo : Xp w.YE = true
  ce : ∀ i, i < w.Zb.length -> Uw w.Frame.Z9 (nth w.Zb i) = true /\ K2 w.Zb (nth w.Zb i).YD = (i : Int) /\ ZO (nth w.YC i) (-1) 10001 = true
  ok : ∀ i, i < w.ZA.length -> Zz (nth w.ZA i) = true /\ (nth w.ZA i).Id = (i : Int)
  nd : (Kp w.ZA).Nodup
  lt : ∀ x ∈ Kp w.ZA, x < w.Next
  sq : ∀ i, i < w.YP.length -> 0 <= nth w.YP i
  lf : ∀ i, i < w.YN.length -> 0 <= ZN w.Frame.ZG (nth w.YN i)
theorem HW (w : ZE) : UT w = true ↔ PlW w := by
  unfold UT
  have hi : ∀ b : Bool, (bif b then false else (match xe w (w.Zb.length + 1) 0 with | .inl r1 => r1 | .inr _ => (match KH w (w.ZA.length + 1) ([] : List Int) 0 with | .inl r2 => r2 | .inr _ => (match xh w (w.YP.length + 1) 0 with | .inl r4 => r4 | .inr _ => (match qH w (w.YN.length + 1) 0 with | .inl r5 => r5 | .inr _ => true))))) = true ↔ b = false /\ _ := fun b => by
    cases b
    · exact ((y0 (L := xe w) (fun _ => rfl) (fun _ _ => rfl) (w.Zb.length + 1) 0 (by omega) _).trans (and_congr_right fun _ => (IS _ _ (Vr w (w.ZA.length + 1) [] 0)).trans (and_congr_right fun _ => (y0 (L := xh w) (fun _ => rfl) (fun _ _ => rfl) (w.YP.length + 1) 0 (by omega) _).trans (and_congr_right fun _ => y0 (L := qH w) (fun _ => rfl) (fun _ _ => rfl) (w.YN.length + 1) 0 (by omega) _)))).trans ⟨fun h => ⟨rfl, h⟩, fun h => h.2⟩
    · exact ⟨fun h => (by cases h), fun h => (by cases h.1)⟩
  refine (hi _).trans ?_
  rw [FJ w (w.ZA.length + 1) [] 0 (by omega) (Nat.zero_le _), List.drop_zero]
  simp only [Bool.or_eq_false_iff, Bool.not_eq_false', beq_iff_eq, bne_eq_false_iff_eq, decide_eq_false_iff_not, ZO, Bool.and_eq_true, decide_eq_true_eq]
  constructor
  · rintro ⟨⟨⟨⟨⟨⟨⟨⟨h1, h2⟩, h3⟩, h4⟩, h5⟩, h6⟩, h7⟩, h8⟩, h9, ⟨tg, nk, lS⟩, hO, gZ, _⟩
    exact ⟨h1, by omega, by omega, by omega, by omega, by omega, h7, h8, fun i hi => ⟨(h9 i (Nat.zero_le _) hi).1.1, (h9 i (Nat.zero_le _) hi).1.2, by have := (h9 i (Nat.zero_le _) hi).2; simpa [ZO] using this⟩, fun i hi => tg i (Nat.zero_le _) hi, lS, fun x hx => (nk x hx).2, fun i hi => by have := hO i (Nat.zero_le _) hi; omega, fun i hi => by have := gZ i (Nat.zero_le _) hi; omega⟩
  · intro h
    refine ⟨⟨⟨⟨⟨⟨⟨⟨h.fr, by have := h.en; omega⟩, by have := h.ar; omega⟩, by have := h.sl; omega⟩, by have := h.ll; omega⟩, by have := h.nx; omega⟩, h.lr⟩, h.fo⟩, fun i _ hi => ⟨⟨(h.ce i hi).1, (h.ce i hi).2.1⟩, by have := (h.ce i hi).2.2; simpa [ZO] using this⟩, ⟨fun i _ hi => h.ok i hi, fun x hx => ⟨fun hn => (by cases hn), h.lt x hx⟩, h.nd⟩, fun i _ hi => by have := h.sq i hi; omega, fun i _ hi => by have := h.lf i hi; omega, trivial⟩
/- archives -/
theorem Qu {α : Type} [Inhabited α] (l : List α) (i j : Nat) (x : α) : nth (l.set i x) j = if i = j /\ j < l.length then x else nth l j := by
  simp only [nth, List.getD_eq_getElem?_getD, List.getElem?_set]
  by_cases h : i = j
  · subst h
    by_cases h2 : i < l.length
    · simp [h2]
    · simp [h2]
  · simp [h]
structure PlA (a : ZD) : Prop where
  it : ∀ x ∈ a.ZF, Q8 x = true
  as : (a.ZF.map (·.Id)).Pairwise (· < ·)
  id : 0 <= a.Id /\ a.Id <= 99
  ln : a.ZF.length <= 8
theorem ye (a : ZD) : Zz a = true ↔ PlA a := by
  unfold Zz
  refine (y0 (L := yD a) (fun _ => rfl) (fun _ _ => rfl) (a.ZF.length + 1) 0 (by omega) _).trans ?_
  simp only [Bool.or_eq_false_iff, Bool.not_eq_false', Bool.and_eq_false_imp, decide_eq_true_eq, decide_eq_false_iff_not, ZO, Bool.and_eq_true]
  constructor
  · rintro ⟨h1, ⟨h2, h3⟩, h4⟩
    refine ⟨fun x hx => ?_, ?_, ⟨h2, h3⟩, by omega⟩
    · obtain ⟨i, hi, e⟩ := List.mem_iff_getElem.1 hx
      have := (h1 i (Nat.zero_le _) hi).1
      rw [Qq hi, e] at this
      exact this
    · have hc : ∀ i, 0 < i -> i < (a.ZF.map (·.Id)).length -> nth (a.ZF.map (·.Id)) (i - 1) < nth (a.ZF.map (·.Id)) i := fun i h0 hi => by
        rw [List.length_map] at hi
        rw [km (by omega), km hi]
        have := (h1 i (Nat.zero_le _) hi).2 (by omega)
        omega
      rw [List.pairwise_iff_getElem]
      intro i j hi hj rP
      have := Pj hc (j - i) i (by omega) (by omega)
      rw [show i + (j - i) = j by omega, Qq hi, Qq hj] at this
      exact this
  · intro h
    refine ⟨fun i _ hi => ⟨h.it _ (by rw [Qq hi]; exact List.getElem_mem hi), fun h0 => ?_⟩, h.id, by have := h.ln; omega⟩
    have := List.pairwise_iff_getElem.1 h.as (i - 1) i (by rw [List.length_map]; omega) (by rw [List.length_map]; exact hi) (by omega)
    rw [List.getElem_map, List.getElem_map] at this
    rw [Qq (show i - 1 < a.ZF.length by omega), Qq hi]
    omega
theorem U4 (a : ZD) (l : List ZD) : Kp (a :: l) = a.ZF.map (·.Id) ++ Kp l := rfl
theorem Sl (l m : List ZD) : Kp (l ++ m) = Kp l ++ Kp m := List.flatMap_append
theorem qy (l : List ZD) (i : Nat) (h : i < l.length) : ∃ A B, Kp l = A ++ ((nth l i).ZF.map (·.Id) ++ B) /\ ∀ a, Kp (l.set i a) = A ++ (a.ZF.map (·.Id) ++ B) := by
  refine ⟨Kp (l.take i), Kp (l.drop (i + 1)), ?_, fun a => ?_⟩
  · rw [<- U4, <- Sl, Qq h, <- List.drop_eq_getElem_cons h, List.take_append_drop]
  · rw [<- U4, <- Sl, List.set_eq_take_append_cons_drop, if_pos h]
theorem SM {l : List ZD} {i : Nat} {a : ZD} (e : (a.ZF.map (·.Id)).Sublist ((nth l i).ZF.map (·.Id))) : (Kp (l.set i a)).Sublist (Kp l) := by
  by_cases h : i < l.length
  · obtain ⟨A, B, h1, h2⟩ := qy l i h
    rw [h2, h1]
    exact (List.Sublist.refl A).append (e.append (List.Sublist.refl B))
  · rw [List.set_eq_of_length_le (by omega)]
    exact List.Sublist.refl _
theorem Sb {l : List ZD} {i : Nat} {a : ZD} {x : Int} (h : i < l.length) (e : (a.ZF.map (·.Id)).Perm (x :: (nth l i).ZF.map (·.Id))) : (Kp (l.set i a)).Perm (x :: Kp l) := by
  obtain ⟨A, B, h1, h2⟩ := qy l i h
  rw [h2, h1]
  refine List.Perm.trans (List.Perm.append_left A (List.Perm.append_right B e)) ?_
  rw [List.cons_append]
  exact List.perm_middle
/- the arrangement of a world stays -/
theorem kB {w : ZE} (h : PlW w) {i : Nat} {a : ZD} (ha : Zz a = true) (rO : a.Id = (i : Int)) : ∀ j, j < (w.ZA.set i a).length -> Zz (nth (w.ZA.set i a) j) = true /\ (nth (w.ZA.set i a) j).Id = (j : Int) := fun j hj => by
  rw [List.length_set] at hj
  rw [Qu]
  split
  · rename_i hc; rw [<- hc.1]; exact ⟨ha, rO⟩
  · exact h.ok j hj
theorem LN {w : ZE} (h : PlW w) {i : Nat} {a : ZD} (ha : Zz a = true) (rO : a.Id = (i : Int)) (e : (a.ZF.map (·.Id)).Sublist ((nth w.ZA i).ZF.map (·.Id))) {sq : List Int} (hl : sq.length = w.YP.length) (hs : ∀ j, j < sq.length -> 0 <= nth sq j) : PlW (ZE.mk w.Frame w.Zb w.YC (w.ZA.set i a) sq w.YN w.Next w.YE) :=
  ⟨h.fr, h.en, by rw [List.length_set]; exact h.ar, hl.trans h.sl, h.ll, h.nx, h.lr, h.fo, h.ce, kB h ha rO, h.nd.sublist (SM e), fun x hx => h.lt x ((SM e).subset hx), hs, h.lf⟩
theorem GZ {w : ZE} (h : PlW w) {i : Nat} {a : ZD} (ha : Zz a = true) (rO : a.Id = (i : Int)) (e : a.ZF.map (·.Id) = (nth w.ZA i).ZF.map (·.Id)) : PlW (ZE.mk w.Frame w.Zb w.YC (w.ZA.set i a) w.YP w.YN w.Next w.YE) :=
  LN h ha rO (by rw [e]; exact List.Sublist.refl _) rfl h.sq
/- the steps, case by case -/
theorem Vx (x a b : Int) : ZO x a b = true ↔ a <= x /\ x <= b := by
  simp only [ZO, Bool.and_eq_true, decide_eq_true_eq]
theorem LU {f : Z2} (h : z8 f = true) : 0 <= f.Now /\ f.Now <= 10000 := by
  simp only [z8, Qp, Bool.and_eq_true, Vx] at h
  exact h.2
theorem Oe {f : Z2} (h : z8 f = true) {t : Int} (h0 : 0 <= t) (h1 : t <= 10000) : z8 (Z2.mk f.Z9 f.ZG f.Methods f.zm t) = true := by
  simp only [z8, Qp, Bool.and_eq_true, Vx] at h ⊢
  exact ⟨h.1, h0, h1⟩
theorem Jb {w : ZE} {i : Int} (h : Z1 w i = true) (hl : w.ZA.length <= 9223372036854775807) : 0 <= i /\ i.toNat < w.ZA.length := by
  unfold Z1 at h
  rw [Vx] at h
  simp only [XR] at h
  omega
theorem Lr {P : ZE × Bool -> Prop} {w : ZE} {n : Int} (h0 : P (w, false)) (h1 : 0 <= n -> n <= 100 -> W (w.Frame.Now + n) <= 10000 -> P (ZE.mk (Z2.mk w.Frame.Z9 w.Frame.ZG w.Frame.Methods w.Frame.zm (W (w.Frame.Now + n))) w.Zb w.YC w.ZA w.YP w.YN w.Next w.YE, true)) : P (QS w n) := by
  unfold QS
  refine Zd (p := P) (fun _ => h0) (fun h => ?_)
  simp only [Bool.or_eq_false_iff, Bool.not_eq_false', Vx, decide_eq_false_iff_not] at h
  exact h1 h.1.1 h.1.2 (by omega)
theorem WX {P : ZE × Bool -> Prop} {a0 : ZE} {a1 a2 : Int} {a3 : ZP} {a4 a5 : Int} (h0 : P (a0, false)) (h1 : ∀ v, v < a0.Zb.length -> (nth a0.Zb v).Key = a2 -> (MN a0 a2 a3 a4 v).2 = true -> (Z0 (nth a0.ZA a1.toNat) (Sc a0 a2 a3 a4 a5 v)).2 = true -> P (Rb a0 a1 (Sc a0 a2 a3 a4 a5 v), true)) :
    ∀ (m v : Nat) (r : ZE × Bool), Y3 a0 a1 a2 a3 a4 a5 m v = .inl r -> P r
  | 0, v, r, h => by cases h
  | m + 1, v, r, h => by
    simp only [Y3] at h
    by_cases hv : v < a0.Zb.length
    · rw [decide_eq_true (show (v : Int) < (a0.Zb.length : Int) by omega), Yf] at h
      cases hk : ((nth a0.Zb v).Key != a2) with
      | true => rw [hk, Yf] at h; exact WX h0 h1 m (v + 1) r h
      | false =>
        rw [hk, YT] at h
        have hk : (nth a0.Zb v).Key = a2 := by simpa using hk
        change (bif ((!(MN a0 a2 a3 a4 v).2) || !(Z0 (nth a0.ZA a1.toNat) (Sc a0 a2 a3 a4 a5 v)).2) then (Sum.inl (a0, false) : Sum (ZE × Bool) Unit) else .inl (Rb a0 a1 (Sc a0 a2 a3 a4 a5 v), true)) = .inl r at h
        cases hs : ((!(MN a0 a2 a3 a4 v).2) || !(Z0 (nth a0.ZA a1.toNat) (Sc a0 a2 a3 a4 a5 v)).2) with
        | true => rw [hs, Yf] at h; cases h; exact h0
        | false =>
          rw [hs, YT] at h; cases h
          simp only [Bool.or_eq_false_iff, Bool.not_eq_false'] at hs
          exact h1 v hv hk hs.1 hs.2
    · rw [decide_eq_false (show ¬ (v : Int) < (a0.Zb.length : Int) by omega), YT] at h
      cases h
theorem Ut {P : ZE × Bool -> Prop} {a0 : ZE} {a1 a2 : Int} {a3 : ZP} {a4 a5 : Int} (h0 : P (a0, false)) (h1 : Z1 a0 a1 = true -> 0 <= YM a0.Frame.Z9 a2 -> 0 <= ZJ a0.Frame.Methods a0.Frame.Now -> ∀ v, v < a0.Zb.length -> (nth a0.Zb v).Key = a2 -> (MN a0 a2 a3 a4 v).2 = true -> (Z0 (nth a0.ZA a1.toNat) (Sc a0 a2 a3 a4 a5 v)).2 = true -> P (Rb a0 a1 (Sc a0 a2 a3 a4 a5 v), true)) : P (YF a0 a1 a2 a3 a4 a5) := by
  unfold YF
  refine Zd (p := P) (fun _ => h0) (fun h => ?_)
  simp only [Bool.or_eq_false_iff, Bool.not_eq_false', decide_eq_false_iff_not] at h
  cases e : Y3 a0 a1 a2 a3 a4 a5 (a0.Zb.length + 1) 0 with
  | inl r => exact WX h0 (h1 h.1.1 (by omega) (by omega)) _ _ r e
  | inr _ => exact h0
theorem Lp {P : ZE × Bool -> Prop} {a0 : ZE} {a1 a2 : Int} {a3 : ZP} {a4 a5 : Int} (h0 : P (a0, false)) (h1 : Z1 a0 a1 = true -> 0 <= YM a0.Frame.Z9 a2 -> (nth a0.Frame.Z9 (YM a0.Frame.Z9 a2).toNat).NU <= a0.Frame.Now -> 0 <= ZJ a0.Frame.Methods a0.Frame.Now -> ∀ v, v < a0.Zb.length -> (nth a0.Zb v).Key = a2 -> (MN a0 a2 a3 a4 v).2 = true -> (Z0 (nth a0.ZA a1.toNat) (Sc a0 a2 a3 a4 a5 v)).2 = true -> P (Rb a0 a1 (Sc a0 a2 a3 a4 a5 v), true)) : P (Xu a0 a1 a2 a3 a4 a5) := by
  unfold Xu
  refine Zd (p := P) (fun _ => h0) (fun h => ?_)
  simp only [Bool.or_eq_false_iff, decide_eq_false_iff_not] at h
  exact Ut (P := P) h0 (fun k1 k2 k3 => h1 k1 k2 (by omega) k3)
theorem Ha {P : ZE × Bool -> Prop} {a0 : ZE} {a1 a2 : Int} {a3 : ZP} (h0 : P (a0, false)) (h1 : zq a0.Frame a2 = true -> Z1 a0 a1 = true -> 0 <= YM a0.Frame.Z9 a2 -> 0 <= ZJ a0.Frame.Methods a0.Frame.Now -> ∀ v, v < a0.Zb.length -> (nth a0.Zb v).Key = a2 -> (MN a0 a2 a3 0 v).2 = true -> (Z0 (nth a0.ZA a1.toNat) (Sc a0 a2 a3 0 10000 v)).2 = true -> P (ZE.mk a0.Frame a0.Zb a0.YC (a0.ZA.set a1.toNat (Z0 (nth a0.ZA a1.toNat) (Sc a0 a2 a3 0 10000 v)).1) a0.YP a0.YN (W (a0.Next + 1)) (a0.YE ++ [a0.Next]), true)) : P (X3 a0 a1 a2 a3) := by
  unfold X3
  refine Zd (p := P) (fun _ => h0) (fun h => ?_)
  rw [Bool.not_eq_false'] at h
  exact Ut (P := fun r => P (bif r.2 then (ZE.mk r.1.Frame r.1.Zb r.1.YC r.1.ZA r.1.YP r.1.YN r.1.Next (r.1.YE ++ ([a0.Next] : List Int)), r.2) else (r.1, r.2))) h0 (fun k1 k2 k3 v k4 k5 k6 k7 => h1 h k1 k2 k3 v k4 k5 k6 k7)
theorem jU {a : ZD} {x : ZS} (h : (Z0 a x).2 = true) : ZM a x.Id < 0 /\ Zz a = true /\ Zz (Z0 a x).1 = true /\ ∃ k, (Z0 a x).1 = ZD.mk a.Id ((a.ZF.take k ++ [x]) ++ a.ZF.drop k) := by
  unfold Z0 at h ⊢
  cases h1 : ((decide ((ZM a x.Id) >= 0)) || (!(Zz a))) with
  | true => rw [h1, Yf] at h; cases h
  | false =>
    rw [h1, YT] at h
    rw [YT]
    simp only [Bool.or_eq_false_iff, Bool.not_eq_false', decide_eq_false_iff_not] at h1
    generalize yN a x (a.ZF.length + 1) 0 = k at h ⊢
    dsimp only at h ⊢
    cases h2 : Zz (ZD.mk a.Id (((a.ZF.take k) ++ ([x] : List ZS)) ++ (a.ZF.drop k))) with
    | false => rw [h2, Bool.not_false, Yf] at h; cases h
    | true =>
      rw [Bool.not_true, YT]
      exact ⟨by omega, h1.2, h2, k, rfl⟩
theorem j9 {a : ZD} {x : ZS} (h : (Z0 a x).2 = true) : ((Z0 a x).1.ZF.map (·.Id)).Perm (x.Id :: a.ZF.map (·.Id)) := by
  obtain ⟨_, _, _, k, e⟩ := jU h
  rw [e]
  show (((a.ZF.take k ++ [x]) ++ a.ZF.drop k).map (·.Id)).Perm _
  rw [List.append_assoc, List.map_append, List.singleton_append, List.map_cons]
  refine List.perm_middle.trans ?_
  rw [<- List.map_append, List.take_append_drop]
theorem U7 {P : ZE × Bool -> Prop} {w : ZE} {i id : Int} {st : Yb} (h0 : P (w, false)) (h1 : (Y5 w.Frame.Z9 st).2 = true -> 0 <= ZM (nth w.ZA i.toNat) id -> (X8 (nth (nth w.ZA i.toNat).ZF (ZM (nth w.ZA i.toNat) id).toNat).Zc (XJ (Y5 w.Frame.Z9 st).1)).2 = true -> P (ZE.mk w.Frame w.Zb w.YC (w.ZA.set i.toNat (Xq (nth w.ZA i.toNat) id (XJ (Y5 w.Frame.Z9 st).1)).1) w.YP w.YN w.Next w.YE, true)) : P (XU w i id st) := by
  unfold XU
  refine Zd (p := P) (fun _ => h0) (fun h => ?_)
  simp only [Bool.or_eq_false_iff, Bool.not_eq_false'] at h
  obtain ⟨h2, h3⟩ := h
  unfold Xq at h3
  cases h4 : decide ((ZM (nth w.ZA i.toNat) id) < 0) with
  | true => rw [h4, Yf] at h3; cases h3
  | false =>
    rw [h4, YT] at h3
    exact h1 h2 (by have := of_decide_eq_false h4; omega) h3
/- renewing -/
def plN (w : ZE) (ids : List Int) (v : Nat) : Nat := (ZN w.Frame.ZG (nth ids v)).toNat
def Hp (w : ZE) (i : Int) (ids : List Int) (v : Nat) (t : Int) : ZQ × Bool := YW w.Frame.Z9 w.Frame.ZG (ZQ.mk (nth ids v) (nth w.YP (plN w ids v)) t (Y1 (nth w.ZA i.toNat) (ZJ w.Frame.Methods w.Frame.Now)) 0)
def HE (w : ZE) (uw : Int) : Int := (if (if (W (w.Frame.Now + uw)) < 10000 then (W (w.Frame.Now + uw)) else 10000) > 0 then (if (W (w.Frame.Now + uw)) < 10000 then (W (w.Frame.Now + uw)) else 10000) else 0)
structure EO (w : ZE) (i : Int) (ids : List Int) (uw : Int) (v : Nat) (t : Int) : Prop where
  au : 0 <= ZN w.Frame.ZG (nth ids v)
  lt : plN w ids v < w.YP.length
  ky : 0 <= YM w.Frame.Z9 (nth w.Frame.ZG (plN w ids v)).Key
  bo : (nth w.Frame.Z9 (YM w.Frame.Z9 (nth w.Frame.ZG (plN w ids v)).Key).toNat).NU <= w.Frame.Now
  ok : (Hp w i ids v t).2 = true
  tm : (Y6 w.YN (nth ids v) = true /\ t = HE w uw) \/ (Y6 w.YN (nth ids v) = false /\ t = w.Frame.Now)
theorem T5 {P : Nat -> List ZQ -> List Int -> Prop} {w : ZE} {i : Int} {ids : List Int} {uw : Int} (hs : ∀ v l q t, v < ids.length -> EO w i ids uw v t -> P v l q -> P (v + 1) (l ++ [(Hp w i ids v t).1]) (q.set (plN w ids v) (W (nth q (plN w ids v) + 1)))) :
    ∀ (m : Nat) (l : List ZQ) (v : Nat) (q : List Int), ids.length < m + v -> v <= ids.length -> P v l q -> (∀ r, Ys w i ids uw m l v q = .inl r -> r = (w, false)) /\ ∀ z, Ys w i ids uw m l v q = .inr z -> P ids.length z.1 z.2
  | 0, l, v, q, h, hv, _ => by omega
  | m + 1, l, v, q, h, hv, hp => by
    rw [Ys]
    let p := fun x : Sum (ZE × Bool) (List ZQ × List Int) => (∀ r, x = .inl r -> r = (w, false)) /\ ∀ z, x = .inr z -> P ids.length z.1 z.2
    have bad : p (.inl (w, false)) := ⟨fun r h => (by cases h; rfl), fun z h => (by cases h)⟩
    refine Zd (p := p) (fun hc => ?_) (fun hc => ⟨fun r h => (by cases h), fun z h => (by cases h; have hc : ¬ v < ids.length := (by simpa using hc); have e : v = ids.length := (by omega); rw [<- e]; exact hp)⟩)
    have hc : v < ids.length := by simpa using hc
    refine Zd (p := p) (fun _ => bad) (fun h1 => ?_)
    refine Zd (p := p) (fun _ => bad) (fun h2 => ?_)
    simp only [Bool.or_eq_false_iff, decide_eq_false_iff_not] at h1 h2
    have go : ∀ t, ((Y6 w.YN (nth ids v) = true /\ t = HE w uw) \/ (Y6 w.YN (nth ids v) = false /\ t = w.Frame.Now)) -> (Hp w i ids v t).2 = true -> p (Ys w i ids uw m (l ++ [(Hp w i ids v t).1]) (v + 1) (q.set (plN w ids v) (W (nth q (plN w ids v) + 1)))) := fun t ht hk =>
      T5 hs m _ (v + 1) _ (by omega) hc (hs v l q t hc ⟨by omega, by unfold plN; omega, by unfold plN; omega, by unfold plN; omega, hk, ht⟩ hp)
    refine Zd (p := p) (fun h3 => ?_) (fun h3 => ?_)
    · refine Zd (p := p) (fun _ => bad) (fun h4 => ?_)
      rw [Bool.not_eq_false'] at h4
      exact go (HE w uw) (.inl ⟨h3, rfl⟩) h4
    · refine Zd (p := p) (fun _ => bad) (fun h4 => ?_)
      rw [Bool.not_eq_false'] at h4
      exact go w.Frame.Now (.inr ⟨h3, rfl⟩) h4
theorem NX {P : ZE × Bool -> Prop} {Q : Nat -> List ZQ -> List Int -> Prop} {w : ZE} {i : Int} {ids : List Int} {uw : Int} (h0 : P (w, false)) (q0 : Q 0 [] w.YP) (hs : ∀ v l q t, v < ids.length -> EO w i ids uw v t -> Q v l q -> Q (v + 1) (l ++ [(Hp w i ids v t).1]) (q.set (plN w ids v) (W (nth q (plN w ids v) + 1))))
    (h1 : Z1 w i = true -> 0 <= ZJ w.Frame.Methods w.Frame.Now -> Xp ids = true -> ids ≠ [] -> ∀ l q, Q ids.length l q -> (YI (nth w.ZA i.toNat) (ZJ w.Frame.Methods w.Frame.Now) l).2 = true -> P (ZE.mk w.Frame w.Zb w.YC (w.ZA.set i.toNat (YI (nth w.ZA i.toNat) (ZJ w.Frame.Methods w.Frame.Now) l).1) q w.YN w.Next w.YE, true)) : P (XG w i ids uw) := by
  have k := T5 hs (ids.length + 1) [] 0 w.YP (by omega) (Nat.zero_le _) q0
  unfold XG
  refine Zd (p := P) (fun _ => h0) (fun h => ?_)
  simp only [Bool.or_eq_false_iff, Bool.not_eq_false', decide_eq_false_iff_not, beq_eq_false_iff_ne] at h
  obtain ⟨⟨⟨⟨k1, k2⟩, k3⟩, k4⟩, k5⟩ := h
  generalize Ys w i ids uw (ids.length + 1) [] 0 w.YP = s at k ⊢
  cases s with
  | inl r => rw [k.1 r rfl]; exact h0
  | inr z =>
    obtain ⟨l, q⟩ := z
    refine Zd (p := P) (fun _ => h0) (fun h2 => ?_)
    rw [Bool.not_eq_false'] at h2
    exact h1 k1 (by omega) k3 (fun e => k4 (by rw [e]; rfl)) l q (k.2 _ rfl) h2
theorem qQ {s : Zf} {r : Za} (h : (YG s r).2 = true) : (YG s r).1 = Zf.mk s.Zp (s.Zn ++ [r]) /\ Xv (Zf.mk s.Zp (s.Zn ++ [r])) = true := by
  unfold YG at h ⊢
  cases h2 : Xv (Zf.mk s.Zp (s.Zn ++ ([r] : List Za))) with
  | false => rw [h2, Bool.not_false, Yf] at h; cases h
  | true => exact ⟨rfl, rfl⟩
theorem TG {s : Zf} {p : Zl} (h : (X8 s p).2 = true) : (X8 s p).1 = Zf.mk (s.Zp ++ [p]) s.Zn /\ Xv (Zf.mk (s.Zp ++ [p]) s.Zn) = true := by
  unfold X8 at h ⊢
  cases h2 : Xv (Zf.mk (s.Zp ++ ([p] : List Zl)) s.Zn) with
  | false => rw [h2, Bool.not_false, Yf] at h; cases h
  | true => exact ⟨rfl, rfl⟩
/- a sealed archive: each item has one renewal more -/
def Fm (a : ZD) (m : Int) (l : List ZQ) (v : Nat) : Za := Za.mk ((nth a.ZF v).Zc.Zp.length : Int) m (Y1 a m) (QA m (Y0 a m) (v : Int)) l
def MU (a : ZD) (m : Int) (l : List ZQ) (v : Nat) : ZS := ZS.mk (nth a.ZF v).Id (nth a.ZF v).YQ (nth a.ZF v).Doc (nth a.ZF v).Sig (Zf.mk (nth a.ZF v).Zc.Zp ((nth a.ZF v).Zc.Zn ++ [Fm a m l v]))
theorem P6 (a : ZD) (m : Int) (l : List ZQ) : ∀ (n v : Nat) (q : List ZS), a.ZF.length < n + v -> v <= a.ZF.length -> q.length = a.ZF.length -> (∀ k, k < a.ZF.length -> nth q k = if k < v then MU a m l k else nth a.ZF k) ->
    (∀ r, Y9 a m l n v q = .inl r -> r = (a, false)) /\ ∀ z, Y9 a m l n v q = .inr z -> z.length = a.ZF.length /\ ∀ k, k < a.ZF.length -> nth z k = MU a m l k
  | 0, v, q, h, hv, _, _ => by omega
  | n + 1, v, q, h, hv, hl, hq => by
    rw [Y9]
    by_cases wO : v < a.ZF.length
    · rw [decide_eq_true (show (v : Int) < (a.ZF.length : Int) by omega), Yf]
      cases hc : (YG (nth a.ZF v).Zc (Fm a m l v)).2 with
      | false =>
        rw [show (YG (nth a.ZF v).Zc (Za.mk ((nth a.ZF v).Zc.Zp.length : Int) m (Y1 a m) (QA m (Y0 a m) (v : Int)) l)).2 = false from hc, Bool.not_false, Yf]
        exact ⟨fun r h => (by cases h; rfl), fun z h => (by cases h)⟩
      | true =>
        rw [show (YG (nth a.ZF v).Zc (Za.mk ((nth a.ZF v).Zc.Zp.length : Int) m (Y1 a m) (QA m (Y0 a m) (v : Int)) l)).2 = true from hc, Bool.not_true, YT]
        refine P6 a m l n (v + 1) _ (by omega) wO (by rw [List.length_set]; exact hl) (fun k hk => ?_)
        rw [Qu]
        split
        · rename_i he
          obtain ⟨rfl, _⟩ := he
          rw [if_pos (Nat.lt_succ_self _), hq v hk, if_neg (Nat.lt_irrefl _), show (YG (nth a.ZF v).Zc (Za.mk ((nth a.ZF v).Zc.Zp.length : Int) m (Y1 a m) (QA m (Y0 a m) (v : Int)) l)).1 = _ from (qQ hc).1]
          rfl
        · rename_i he
          have wB : v ≠ k := fun e => he ⟨e, by omega⟩
          rw [hq k hk]
          by_cases h2 : k < v
          · rw [if_pos h2, if_pos (by omega)]
          · rw [if_neg h2, if_neg (by omega)]
    · rw [decide_eq_false (show ¬ (v : Int) < (a.ZF.length : Int) by omega), YT]
      exact ⟨fun r h => (by cases h), fun z h => (by cases h; exact ⟨hl, fun k hk => by rw [hq k hk, if_pos (by omega)]⟩)⟩
theorem On {a : ZD} {m : Int} {l : List ZQ} (h : (YI a m l).2 = true) : Zz a = true /\ Zz (YI a m l).1 = true /\ (YI a m l).1.Id = a.Id /\ (YI a m l).1.ZF.length = a.ZF.length /\ ∀ k, k < a.ZF.length -> nth (YI a m l).1.ZF k = MU a m l k := by
  have k := P6 a m l (a.ZF.length + 1) 0 a.ZF (by omega) (Nat.zero_le _) rfl (fun k _ => by rw [if_neg (Nat.not_lt_zero _)])
  unfold YI at h ⊢
  cases h1 : (((a.ZF.length : Int) == 0) || (!(Zz a))) with
  | true => rw [h1, Yf] at h; cases h
  | false =>
    rw [h1, YT] at h
    rw [YT]
    simp only [Bool.or_eq_false_iff, Bool.not_eq_false'] at h1
    generalize Y9 a m l (a.ZF.length + 1) 0 a.ZF = s at h k ⊢
    cases s with
    | inl r => rw [k.1 r rfl] at h; cases h
    | inr z =>
      dsimp only at h ⊢
      cases h2 : Zz (ZD.mk a.Id z) with
      | false => rw [h2, Bool.not_false, Yf] at h; cases h
      | true =>
        rw [Bool.not_true, YT]
        exact ⟨h1.2, h2, rfl, k.2 z rfl⟩
theorem GH {α : Type} [Inhabited α] {l m : List α} (hl : l.length = m.length) (h : ∀ i, i < l.length -> nth l i = nth m i) : l = m := by
  apply List.ext_getElem hl
  intro i h1 h2
  have := h i h1
  rwa [Qq h1, Qq h2] at this
theorem NA {a : ZD} {m : Int} {l : List ZQ} (h : (YI a m l).2 = true) : (YI a m l).1.ZF.map (·.Id) = a.ZF.map (·.Id) := by
  obtain ⟨_, _, _, h1, h2⟩ := On h
  refine GH (by rw [List.length_map, List.length_map, h1]) (fun i hi => ?_)
  rw [List.length_map, h1] at hi
  rw [km (by rw [h1]; exact hi), km hi, h2 i hi]
  rfl
/- worlds stay worlds -/
/- what no step changes -/
def plC (w : ZE) : List Yq × List ZZ × List YJ × Int × List Ym × List Int := (w.Frame.Z9, w.Frame.ZG, w.Frame.Methods, w.Frame.zm, w.Zb, w.YN)
structure PlI (b : Int) (x : ZE) : Prop where
  w : PlW x
  sb : ∀ i, i < x.YP.length -> nth x.YP i <= b
  fo : ∀ y ∈ x.YE, y < x.Next
  c : plC x = plC (Yl 0) \/ plC x = plC (Yl 1)
theorem HH {b : Int} {w : ZE} (h : PlI b w) : w.Zb = z5 := by
  rcases h.c with h | h <;> exact congrArg (fun x => x.2.2.2.2.1) h
theorem EM {b : Int} {w : ZE} (h : PlI b w) : w.YC.length = 3 := by
  rw [h.w.en, HH h]; rfl
theorem Lu {a b : Int} {w : ZE} (h : PlI a w) (hb : a <= b) : PlI b w := ⟨h.w, fun i hi => Int.le_trans (h.sb i hi) hb, h.fo, h.c⟩
theorem G0 {w : ZE} {b n : Int} (h : PlI b w) : PlI b (QS w n).1 := by
  have k := LU h.w.fr
  refine Lr (P := fun r => PlI b r.1) h (fun h1 h2 h3 => ?_)
  have k2 : 0 <= W (w.Frame.Now + n) := by simp only [XR]; omega
  exact ⟨⟨Oe h.w.fr k2 h3, h.w.en, h.w.ar, h.w.sl, h.w.ll, h.w.nx, h.w.lr, h.w.fo, h.w.ce, h.w.ok, h.w.nd, h.w.lt, h.w.sq, h.w.lf⟩, h.sb, h.fo, h.c⟩
theorem LY {w : ZE} (h : PlW w) {i : Nat} {x : ZS} (hi : i < w.ZA.length) (hx : x.Id = w.Next) (ha : (Z0 (nth w.ZA i) x).2 = true) {fo : List Int} (hf : Xp fo = true) :
    W (w.Next + 1) = w.Next + 1 /\ PlW (ZE.mk w.Frame w.Zb w.YC (w.ZA.set i (Z0 (nth w.ZA i) x).1) w.YP w.YN (w.Next + 1) fo) := by
  obtain ⟨_, h2, h3, k, e⟩ := jU ha
  have rO : (Z0 (nth w.ZA i) x).1.Id = (i : Int) := by rw [e]; exact (h.ok i hi).2
  have hm : x ∈ (Z0 (nth w.ZA i) x).1.ZF := by rw [e]; exact List.mem_append.2 (.inl (List.mem_append.2 (.inr (List.mem_singleton.2 rfl))))
  have m5 := ((ye _).1 h3).it x hm
  have hn : w.Next <= 999 := by
    unfold Q8 at m5
    simp only [Bool.and_eq_true, Vx] at m5
    omega
  have h0 := h.nx
  have hp := Sb hi (j9 ha)
  rw [hx] at hp
  refine ⟨by simp only [XR]; omega, ⟨h.fr, h.en, by rw [List.length_set]; exact h.ar, h.sl, h.ll, by show 1 <= w.Next + 1; omega, h.lr, hf, h.ce, kB h h3 rO, ?_, ?_, h.sq, h.lf⟩⟩
  · refine hp.nodup_iff.2 (List.nodup_cons.2 ⟨fun hc => ?_, h.nd⟩)
    have := h.lt _ hc; omega
  · intro y hy
    show y < w.Next + 1
    rcases List.mem_cons.1 (hp.mem_iff.1 hy) with rfl | hy
    · omega
    · have := h.lt y hy; omega
theorem FE {w : ZE} {b i k : Int} {d : ZP} {o e : Int} (h : PlI b w) : PlI b (Xu w i k d o e).1 /\ ((Xu w i k d o e).2 = true -> (Xu w i k d o e).1.Next = w.Next + 1) := by
  have hl := h.w.ar
  refine Lp (P := fun r => PlI b r.1 /\ (r.2 = true -> r.1.Next = w.Next + 1)) ⟨h, fun k => (by cases k)⟩ (fun h1 _ _ _ v _ _ _ h7 => ?_)
  obtain ⟨h8, h9⟩ := Jb h1 (by omega)
  obtain ⟨e1, hw⟩ := LY h.w h9 rfl h7 h.w.fo
  unfold Rb
  rw [e1]
  exact ⟨⟨hw, h.sb, fun x hx => by have := h.fo x hx; show x < w.Next + 1; omega, h.c⟩, fun _ => rfl⟩
theorem Wh {α : Type} [Inhabited α] (l m : List α) (i : Nat) : nth (l ++ m) i = if i < l.length then nth l i else nth m (i - l.length) := by
  simp only [nth, List.getD_eq_getElem?_getD, List.getElem?_append]
  split <;> rfl
theorem L8 (a1 : List Int) : Xp a1 = true ↔ ∀ i, 0 < i -> i < a1.length -> nth a1 (i - 1) < nth a1 i := by
  have := y0 (L := yE a1) (len := a1.length) (c := fun v => decide ((nth a1 (v - 1)) >= (nth a1 v))) (fun _ => rfl) (fun _ _ => rfl) (a1.length + 1) 1 (by omega) true
  unfold Xp
  refine Iff.trans this ?_
  simp only [decide_eq_false_iff_not, and_true]
  exact ⟨fun h i h0 hi => by have := h i h0 hi; omega, fun h i h0 hi => by have := h i h0 hi; omega⟩
theorem Rz {l : List Int} {x : Int} (h : Xp l = true) (hx : ∀ y ∈ l, y < x) : Xp (l ++ [x]) = true := by
  rw [L8] at h ⊢
  intro i h0 hi
  rw [List.length_append, List.length_singleton] at hi
  rw [Wh, Wh]
  by_cases h1 : i < l.length
  · rw [if_pos (by omega), if_pos h1]; exact h i h0 h1
  · rw [if_pos (by omega), if_neg h1, show i - l.length = 0 by omega]
    exact hx _ (by rw [Qq (by omega)]; exact List.getElem_mem _)
theorem HO {w : ZE} {b i k : Int} {d : ZP} (h : PlI b w) : PlI b (X3 w i k d).1 := by
  have hl := h.w.ar
  refine Ha (P := fun r => PlI b r.1) h (fun _ h1 _ _ v _ _ _ h7 => ?_)
  obtain ⟨h8, h9⟩ := Jb h1 (by omega)
  obtain ⟨e1, hw⟩ := LY h.w h9 rfl h7 (Rz h.w.fo h.fo)
  rw [e1]
  refine ⟨hw, h.sb, fun x hx => ?_, h.c⟩
  show x < w.Next + 1
  rcases List.mem_append.1 hx with hx | hx
  · have := h.fo x hx; omega
  · rw [List.mem_singleton.1 hx]; omega
/- an item whose strand changes -/
theorem Gw {x : ZS} {s : Zf} (h : Q8 x = true) (hs : Xv s = true) (h0 : nth s.Zp 0 = nth x.Zc.Zp 0) : Q8 (ZS.mk x.Id x.YQ x.Doc x.Sig s) = true := by
  unfold Q8 at h ⊢
  simp only [Bool.and_eq_true] at h ⊢
  exact ⟨⟨h.1.1, hs⟩, by rw [h0]; exact h.2⟩
theorem IE {x : ZS} (h : Q8 x = true) : 0 < x.Zc.Zp.length := by
  unfold Q8 Xv at h
  simp only [Bool.and_eq_true] at h
  have h1 := h.1.2
  cases hc : ((!(ZO (x.Zc.Zp.length : Int) 1 12)) || (decide ((x.Zc.Zn.length : Int) > 8))) with
  | true => rw [hc, Yf] at h1; cases h1
  | false =>
    simp only [Bool.or_eq_false_iff, Bool.not_eq_false', Vx] at hc
    omega
theorem Oi {a : ZD} {k : Nat} {y : ZS} (h : Zz a = true) (hy : Q8 y = true) (rO : y.Id = (nth a.ZF k).Id) : Zz (ZD.mk a.Id (a.ZF.set k y)) = true /\ (a.ZF.set k y).map (·.Id) = a.ZF.map (·.Id) := by
  have e : (a.ZF.set k y).map (·.Id) = a.ZF.map (·.Id) := by
    refine GH (by simp) (fun i hi => ?_)
    rw [List.length_map, List.length_set] at hi
    rw [km (by rw [List.length_set]; exact hi), km hi, Qu]
    split
    · rename_i hc; rw [rO, hc.1]
    · rfl
  have h := (ye a).1 h
  refine ⟨(ye _).2 ⟨fun x hx => ?_, by rw [e]; exact h.as, h.id, by rw [List.length_set]; exact h.ln⟩, e⟩
  rcases List.mem_or_eq_of_mem_set hx with hx | rfl
  · exact h.it x hx
  · exact hy
theorem TA {w : ZE} (h : PlW w) {i k : Nat} (hi : i < w.ZA.length) (hk : k < (nth w.ZA i).ZF.length) {s : Zf} (hs : Xv s = true) (h0 : nth s.Zp 0 = nth (nth (nth w.ZA i).ZF k).Zc.Zp 0) :
    PlW (ZE.mk w.Frame w.Zb w.YC (w.ZA.set i (ZD.mk (nth w.ZA i).Id ((nth w.ZA i).ZF.set k (ZS.mk (nth (nth w.ZA i).ZF k).Id (nth (nth w.ZA i).ZF k).YQ (nth (nth w.ZA i).ZF k).Doc (nth (nth w.ZA i).ZF k).Sig s)))) w.YP w.YN w.Next w.YE) := by
  have h1 := h.ok i hi
  have h2 : Q8 (nth (nth w.ZA i).ZF k) = true := ((ye _).1 h1.1).it _ (by rw [Qq hk]; exact List.getElem_mem hk)
  obtain ⟨h3, h4⟩ := Oi (k := k) h1.1 (Gw h2 hs h0) rfl
  exact GZ h h3 h1.2 h4
theorem yK {a : ZD} {x : Int} (h : 0 <= ZM a x) : (ZM a x).toNat < a.ZF.length /\ (nth a.ZF (ZM a x).toNat).Id = x := by
  unfold ZM at h ⊢
  rcases kg (L := zW a x) (r := fun i => (i : Int)) (fun _ => rfl) (fun _ _ => rfl) (a.ZF.length + 1) 0 (by omega) with ⟨e, p⟩ | ⟨i, e, p1, p2, p3, p4⟩
  · rw [e] at h; simp at h
  · rw [e]
    exact ⟨by simpa using p2, by simpa using p3⟩
theorem MZ {w : ZE} (h : PlW w) {i k : Nat} (hi : i < w.ZA.length) (hk : k < (nth w.ZA i).ZF.length) : Q8 (nth (nth w.ZA i).ZF k) = true :=
  ((ye _).1 (h.ok i hi).1).it _ (by rw [Qq hk]; exact List.getElem_mem hk)
theorem kV {w : ZE} {b i id : Int} {st : Yb} (h : PlI b w) (h0 : 0 <= i) (hi : i < (w.ZA.length : Int)) : PlI b (XU w i id st).1 := by
  refine U7 (P := fun r => PlI b r.1) h (fun _ h2 h3 => ?_)
  obtain ⟨e, hs⟩ := TG h3
  obtain ⟨hk, _⟩ := yK h2
  have vc : i.toNat < w.ZA.length := by omega
  have hp := IE (MZ h.w vc hk)
  have k := TA (s := _) h.w vc hk hs (by
    show nth (_ ++ [_]) 0 = _
    rw [Wh, if_pos hp])
  rw [<- e] at k
  have e2 : (Xq (nth w.ZA i.toNat) id (XJ (Y5 w.Frame.Z9 st).1)).1 = ZD.mk (nth w.ZA i.toNat).Id ((nth w.ZA i.toNat).ZF.set (ZM (nth w.ZA i.toNat) id).toNat (ZS.mk (nth (nth w.ZA i.toNat).ZF (ZM (nth w.ZA i.toNat) id).toNat).Id (nth (nth w.ZA i.toNat).ZF (ZM (nth w.ZA i.toNat) id).toNat).YQ (nth (nth w.ZA i.toNat).ZF (ZM (nth w.ZA i.toNat) id).toNat).Doc (nth (nth w.ZA i.toNat).ZF (ZM (nth w.ZA i.toNat) id).toNat).Sig (X8 (nth (nth w.ZA i.toNat).ZF (ZM (nth w.ZA i.toNat) id).toNat).Zc (XJ (Y5 w.Frame.Z9 st).1)).1)) := by
    unfold Xq
    rw [decide_eq_false (by omega), YT]
  rw [e2]
  exact ⟨k, h.sb, h.fo, h.c⟩
theorem IH {w : ZE} {b id : Int} (h : PlI b w) : PlI b (Xf w id).1 := by
  unfold Xf
  refine Zd (p := fun r : ZE × Bool => PlI b r.1) (fun _ => h) (fun hc => ?_)
  refine Zd (p := fun r : ZE × Bool => PlI b r.1) (fun _ => h) (fun _ => ?_)
  simp only [Bool.or_eq_false_iff, Bool.not_eq_false'] at hc
  have k := Yh w id hc.1
  exact ZL (p := fun r : ZE × Bool => PlI b r.1) (kV h k.1 k.2.1) (kV h k.1 k.2.1)
theorem Gi {w : ZE} {b id t : Int} (h : PlI b w) : PlI b (JK w id t).1 := by
  unfold JK
  refine Zd (p := fun r : ZE × Bool => PlI b r.1) (fun _ => h) (fun hc => ?_)
  simp only [Bool.or_eq_false_iff, Bool.not_eq_false'] at hc
  have k := Yh w id hc.1
  exact kV h k.1 k.2.1
theorem IF {w : ZE} {b k : Int} (h : PlI b w) : PlI b (XE w k).1 /\ ((XE w k).2 = true -> 0 <= k /\ k.toNat < w.YC.length /\ nth (XE w k).1.YC k.toNat = W (w.Frame.Now + 1)) := by
  have h0 := LU h.w.fr
  have hb := EM h
  unfold XE
  refine Zd (p := fun r : ZE × Bool => PlI b r.1 /\ (r.2 = true -> 0 <= k /\ k.toNat < w.YC.length /\ nth r.1.YC k.toNat = W (w.Frame.Now + 1))) (fun _ => ⟨h, fun h => (by cases h)⟩) (fun hc => ?_)
  simp only [Bool.or_eq_false_iff, Bool.not_eq_false', Vx] at hc
  have e : W ((w.YC.length : Int) - 1) = w.YC.length - 1 := by simp only [XR]; omega
  rw [e] at hc
  refine ⟨⟨⟨h.w.fr, by rw [List.length_set]; exact h.w.en, h.w.ar, h.w.sl, h.w.ll, h.w.nx, h.w.lr, h.w.fo, fun i hi => ?_, h.w.ok, h.w.nd, h.w.lt, h.w.sq, h.w.lf⟩, h.sb, h.fo, h.c⟩, fun _ => ⟨hc.1.1, by omega, ?_⟩⟩
  · have := h.w.ce i hi
    refine ⟨this.1, this.2.1, ?_⟩
    show ZO (nth (w.YC.set k.toNat _) i) (-1) 10001 = true
    rw [Qu]
    split
    · rw [Vx]; simp only [XR]; omega
    · exact this.2.2
  · show nth (w.YC.set k.toNat _) k.toNat = _
    rw [Qu, if_pos ⟨rfl, by omega⟩]
theorem HZ {w : ZE} {b i : Int} {ids : List Int} {uw n : Int} (h : PlI b w) (hn : (ids.length : Int) <= n) (hb : b + n <= 4611686018427387904) : PlI (b + n) (XG w i ids uw).1 /\ (XG w i ids uw).1.YP.length = w.YP.length /\ (∀ j, j < w.YP.length -> nth w.YP j <= nth (XG w i ids uw).1.YP j) := by
  have hl := h.w.ar
  refine NX (P := fun r => PlI (b + n) r.1 /\ r.1.YP.length = w.YP.length /\ (∀ j, j < w.YP.length -> nth w.YP j <= nth r.1.YP j)) (Q := fun v _ q => q.length = w.YP.length /\ ∀ j, j < w.YP.length -> nth w.YP j <= nth q j /\ nth q j <= nth w.YP j + v) ⟨Lu h (by omega), rfl, fun j _ => Int.le_refl _⟩ ⟨rfl, fun j _ => ⟨Int.le_refl _, by simp⟩⟩ (fun v l q t hv _ hq => ⟨by rw [List.length_set]; exact hq.1, fun j hj => ?_⟩) (fun h1 _ _ _ l q hq hk => ?_)
  · have z := hq.2 j hj
    rw [Qu]
    split
    · rename_i hc
      have k1 := h.w.sq j hj
      have k2 := h.sb j hj
      rw [hc.1]
      have e : W (nth q j + 1) = nth q j + 1 := by simp only [XR]; omega
      rw [e]
      omega
    · omega
  · obtain ⟨h8, h9⟩ := Jb h1 (by omega)
    obtain ⟨_, k1, k2, _, _⟩ := On hk
    have k3 := NA hk
    have hs : ∀ j, j < q.length -> 0 <= nth q j := fun j hj => by rw [hq.1] at hj; have := h.w.sq j hj; have := hq.2 j hj; omega
    refine ⟨⟨LN h.w k1 (by rw [k2]; exact (h.w.ok _ h9).2) (by rw [k3]; exact List.Sublist.refl _) hq.1 hs, fun j hj => ?_, h.fo, h.c⟩, hq.1, fun j hj => (hq.2 j hj).1⟩
    change j < q.length at hj
    rw [hq.1] at hj
    have := hq.2 j hj; have := h.sb j hj
    show nth q j <= b + n
    omega
theorem U3 {a : ZD} {l : List ZS} (h : Zz a = true) (hl : l.Sublist a.ZF) : Zz (ZD.mk a.Id l) = true := by
  have h := (ye a).1 h
  exact (ye _).2 ⟨fun x hx => h.it x (hl.subset hx), h.as.sublist (hl.map _), h.id, Nat.le_trans hl.length_le h.ln⟩
theorem Mj {l : List ZD} {i : Nat} {a : ZD} {x : Int} (h : i < l.length) (e : ((nth l i).ZF.map (·.Id)).Perm (x :: a.ZF.map (·.Id))) : (Kp l).Perm (x :: Kp (l.set i a)) := by
  obtain ⟨A, B, h1, h2⟩ := qy l i h
  rw [h2, h1]
  refine List.Perm.trans (List.Perm.append_left A (List.Perm.append_right B e)) ?_
  rw [List.cons_append]
  exact List.perm_middle
theorem PU {l : List ZS} {k : Nat} {x : Int} (hk : k < l.length) (hx : (nth l k).Id = x) : (l.map (·.Id)).Perm (x :: (l.eraseIdx k).map (·.Id)) := by
  have e : l.map (·.Id) = (l.take k).map (·.Id) ++ x :: (l.drop (k + 1)).map (·.Id) := by
    rw [<- hx, Qq hk, <- List.map_cons (f := fun x : ZS => x.Id), <- List.map_append, <- List.drop_eq_getElem_cons hk, List.take_append_drop]
  rw [e, List.eraseIdx_eq_take_drop_succ, List.map_append]
  exact List.perm_middle
theorem Lz {a : ZD} {id : Int} (hl : a.ZF.length <= 1048576) (h : (XT a id).2 = true) : 0 <= ZM a id /\ (XT a id).1 = ZD.mk a.Id (a.ZF.eraseIdx (ZM a id).toNat) := by
  unfold XT at h ⊢
  cases hc : decide ((ZM a id) < 0) with
  | true => rw [hc, Yf] at h; cases h
  | false =>
    have hc := of_decide_eq_false hc
    have k := yK (a := a) (x := id) (by omega)
    rw [YT]
    refine ⟨by omega, ?_⟩
    rw [List.eraseIdx_eq_take_drop_succ, show (W (ZM a id + 1)).toNat = (ZM a id).toNat + 1 by simp only [XR]; omega]
theorem Oo {a b : ZD} {id m : Int} (h : (YO a b [id] m).2.2 = true) : 0 <= ZM a id /\ (XT a id).2 = true /\ (Z0 b (nth a.ZF (ZM a id).toNat)).2 = true /\ (YO a b [id] m).1 = (XT a id).1 /\ (YO a b [id] m).2.1 = (Z0 b (nth a.ZF (ZM a id).toNat)).1 := by
  have ga : ZM a id < 0 -> (YV a b.Id [id] m).2 = false := fun hc => by
    simp [YV, XX, hc, nth]
  have gb : ¬ ZM a id < 0 -> YV a b.Id [id] m = (Yg.mk a.Id b.Id [nth a.ZF (ZM a id).toNat] (Xh m [nth a.ZF (ZM a id).toNat]), true) := fun hc => by
    simp [YV, XX, hc, nth]
  by_cases hc : ZM a id < 0
  · unfold YO at h
    rw [ga hc, Bool.not_false, Bool.true_or, Yf] at h
    cases h
  · have e := gb hc
    generalize hx : nth a.ZF (ZM a id).toNat = x at e ⊢
    unfold YO at h ⊢
    rw [e] at h ⊢
    dsimp only at h ⊢
    rw [Bool.not_true, Bool.false_or] at h ⊢
    have rQ : (Yd b (Yg.mk a.Id b.Id [x] (Xh m [x])) m).2 = true -> (Z0 b x).2 = true /\ (Yd b (Yg.mk a.Id b.Id [x] (Xh m [x])) m).1 = (Z0 b x).1 := fun hq => by
      unfold Yd at hq ⊢
      cases hd : ((!(J9 (Yg.mk a.Id b.Id [x] (Xh m [x])) m)) || (b.Id != b.Id)) with
      | true => dsimp only at hq; rw [hd, Yf] at hq; cases hq
      | false =>
        dsimp only at hq ⊢
        rw [hd, YT] at hq
        rw [YT]
        cases hz : (Z0 b x).2 with
        | false => simp [XP, hz, nth] at hq
        | true => refine ⟨rfl, ?_⟩; simp [XP, hz, nth]
    cases h2 : (Yd b (Yg.mk a.Id b.Id [x] (Xh m [x])) m).2 with
    | false => rw [h2, Bool.not_false, Yf] at h; cases h
    | true =>
      obtain ⟨k1, k2⟩ := rQ h2
      rw [h2, Bool.not_true, YT] at h
      rw [Bool.not_true, YT, k2]
      cases hz : (XT a id).2 with
      | false => simp [QH, hz, nth] at h
      | true => refine ⟨by omega, rfl, k1, ?_, ?_⟩ <;> simp [QH, hz, nth]
theorem Lv {P : ZE × Bool -> Prop} {w : ZE} {i k id : Int} (h0 : P (w, false)) (h1 : Z1 w i = true -> Z1 w k = true -> i ≠ k -> 0 <= ZM (nth w.ZA i.toNat) id -> (XT (nth w.ZA i.toNat) id).2 = true -> (Z0 (nth w.ZA k.toNat) (nth (nth w.ZA i.toNat).ZF (ZM (nth w.ZA i.toNat) id).toNat)).2 = true -> P (ZE.mk w.Frame w.Zb w.YC ((w.ZA.set i.toNat (XT (nth w.ZA i.toNat) id).1).set k.toNat (Z0 (nth w.ZA k.toNat) (nth (nth w.ZA i.toNat).ZF (ZM (nth w.ZA i.toNat) id).toNat)).1) w.YP w.YN w.Next w.YE, true)) : P (QV w i k id) := by
  unfold QV
  refine Zd (p := P) (fun _ => h0) (fun h => ?_)
  simp only [Bool.or_eq_false_iff, Bool.not_eq_false', beq_eq_false_iff_ne] at h
  cases hm : (YO (nth w.ZA i.toNat) (nth w.ZA k.toNat) ([id] : List Int) (ZJ w.Frame.Methods w.Frame.Now)).2.2 with
  | false => rw [YT]; exact h0
  | true =>
    obtain ⟨k1, k2, k3, k4, k5⟩ := Oo hm
    rw [Yf, k4, k5]
    exact h1 h.1.1.1 h.1.1.2 h.1.2 k1 k2 k3
theorem FH {w : ZE} {b i k id : Int} (h : PlI b w) : PlI b (QV w i k id).1 := by
  have hl := h.w.ar
  refine Lv (P := fun r => PlI b r.1) h (fun h1 h2 h3 h4 h5 h6 => ?_)
  obtain ⟨i0, i1⟩ := Jb h1 (by omega)
  obtain ⟨k0, k1⟩ := Jb h2 (by omega)
  have ai := h.w.ok _ i1
  have ak := h.w.ok _ k1
  have gd := ((ye _).1 ai.1).ln
  obtain ⟨_, e⟩ := Lz (by omega) h5
  obtain ⟨f1, f2⟩ := yK h4
  obtain ⟨_, _, g1, _, g2⟩ := jU h6
  have g3 := j9 h6
  rw [f2] at g3
  rw [e]
  have wB : i.toNat ≠ k.toNat := by omega
  have p1 : (Kp w.ZA).Perm (id :: Kp (w.ZA.set i.toNat (ZD.mk (nth w.ZA i.toNat).Id ((nth w.ZA i.toNat).ZF.eraseIdx (ZM (nth w.ZA i.toNat) id).toNat)))) := by
    refine Mj i1 ?_
    exact PU f1 f2
  have p2 := Sb (l := w.ZA.set i.toNat (ZD.mk (nth w.ZA i.toNat).Id ((nth w.ZA i.toNat).ZF.eraseIdx (ZM (nth w.ZA i.toNat) id).toNat))) (i := k.toNat) (a := (Z0 (nth w.ZA k.toNat) (nth (nth w.ZA i.toNat).ZF (ZM (nth w.ZA i.toNat) id).toNat)).1) (x := id) (by rw [List.length_set]; exact k1) (by rw [Qu, if_neg (fun hc => wB hc.1)]; exact g3)
  have p := p2.trans p1.symm
  have hA : ∀ j, j < (w.ZA.set i.toNat (ZD.mk (nth w.ZA i.toNat).Id ((nth w.ZA i.toNat).ZF.eraseIdx (ZM (nth w.ZA i.toNat) id).toNat))).length -> _ := kB h.w (U3 ai.1 (List.eraseIdx_sublist _ _)) ai.2
  refine ⟨⟨h.w.fr, h.w.en, by rw [List.length_set, List.length_set]; exact h.w.ar, h.w.sl, h.w.ll, h.w.nx, h.w.lr, h.w.fo, h.w.ce, fun j hj => ?_, p.nodup_iff.2 h.w.nd, fun x hx => h.w.lt x (p.mem_iff.1 hx), h.w.sq, h.w.lf⟩, h.sb, h.fo, h.c⟩
  rw [List.length_set] at hj
  show Zz (nth (List.set _ k.toNat _ : List ZD) j) = true /\ (nth (List.set _ k.toNat _ : List ZD) j).Id = _
  rw [Qu]
  split
  · rename_i hc; refine ⟨g1, ?_⟩; rw [g2, <- hc.1]; exact ak.2
  · exact hA j hj
theorem kG (a : ZD) (t : Int) : ∀ (n v : Nat) (l : List ZS), a.ZF.length < n + v -> v <= a.ZF.length -> Xc a t n v l = l ++ (a.ZF.drop v).filter (fun x => decide (x.YQ >= t))
  | 0, v, l, h, hv => by omega
  | n + 1, v, l, h, hl => by
    rw [Xc]
    by_cases hv : v < a.ZF.length
    · rw [decide_eq_true (show (v : Int) < (a.ZF.length : Int) by omega), Yf, List.drop_eq_getElem_cons hv, List.filter_cons, Qq hv]
      cases hk : decide (a.ZF[v].YQ >= t) with
      | true => rw [Yf, kG a t n _ _ (by omega) hv, List.append_assoc]; rfl
      | false => rw [YT, kG a t n _ _ (by omega) hv]; rfl
    · rw [decide_eq_false (show ¬ (v : Int) < (a.ZF.length : Int) by omega), YT, List.drop_eq_nil_of_le (by omega)]
      simp
theorem Pc {P : ZE × Bool -> Prop} {w : ZE} {i : Int} (h0 : P (w, false)) (h1 : Z1 w i = true -> P (ZE.mk w.Frame w.Zb w.YC (w.ZA.set i.toNat (ZD.mk (nth w.ZA i.toNat).Id ((nth w.ZA i.toNat).ZF.filter (fun x => decide (x.YQ >= w.Frame.Now))))) w.YP w.YN w.Next w.YE, true)) : P (Xi w i) := by
  unfold Xi
  refine Zd (p := P) (fun _ => h0) (fun h => ?_)
  rw [Bool.not_eq_false'] at h
  unfold Q7
  rw [kG _ _ _ _ _ (by omega) (Nat.zero_le _), List.drop_zero, List.nil_append]
  exact h1 h
theorem IP {w : ZE} {b i : Int} (h : PlI b w) : PlI b (Xi w i).1 := by
  have hl := h.w.ar
  refine Pc (P := fun r => PlI b r.1) h (fun h1 => ?_)
  obtain ⟨i0, i1⟩ := Jb h1 (by omega)
  have ai := h.w.ok _ i1
  exact ⟨LN h.w (U3 ai.1 List.filter_sublist) ai.2 (List.filter_sublist.map _) rfl h.w.sq, h.sb, h.fo, h.c⟩
theorem P3 {w : ZE} {id t : Int} : ∀ (n v : Nat) (l : List ZQ) (r : ZE × Bool), Yo w id t n v l = .inl r -> r = (w, false)
  | 0, v, l, r, h => by cases h
  | n + 1, v, l, r, h => by
    rw [Yo] at h
    revert h
    refine ZL (p := fun x : Sum (ZE × Bool) (List ZQ) => x = .inl r -> r = (w, false)) ?_ (fun h => by cases h)
    exact ZL (p := fun x : Sum (ZE × Bool) (List ZQ) => x = .inl r -> r = (w, false)) (fun h => by cases h; rfl) (fun h => P3 n _ _ r h)
def Ia (w : ZE) (id : Int) (l : List ZQ) : Za := Za.mk ((nth (nth w.ZA (ZK w id).1.toNat).ZF (ZK w id).2.toNat).Zc.Zp.length : Int) (ZJ w.Frame.Methods w.Frame.Now) (QR (nth (nth w.ZA (ZK w id).1.toNat).ZF (ZK w id).2.toNat) (ZJ w.Frame.Methods w.Frame.Now)) [] l
theorem G6 {P : ZE × Bool -> Prop} {w : ZE} {id t : Int} (h0 : P (w, false)) (h1 : Y6 w.YE id = true -> 0 <= (ZK w id).1 -> 0 <= ZJ w.Frame.Methods w.Frame.Now -> ZY w ≠ [] -> ∀ l, Yo w id t ((ZY w).length + 1) 0 [] = .inr l -> (YG (nth (nth w.ZA (ZK w id).1.toNat).ZF (ZK w id).2.toNat).Zc (Ia w id l)).2 = true -> P (ZE.mk w.Frame w.Zb w.YC (w.ZA.set (ZK w id).1.toNat (ZD.mk (nth w.ZA (ZK w id).1.toNat).Id ((nth w.ZA (ZK w id).1.toNat).ZF.set (ZK w id).2.toNat (ZS.mk (nth (nth w.ZA (ZK w id).1.toNat).ZF (ZK w id).2.toNat).Id (nth (nth w.ZA (ZK w id).1.toNat).ZF (ZK w id).2.toNat).YQ (nth (nth w.ZA (ZK w id).1.toNat).ZF (ZK w id).2.toNat).Doc (nth (nth w.ZA (ZK w id).1.toNat).ZF (ZK w id).2.toNat).Sig (Zf.mk (nth (nth w.ZA (ZK w id).1.toNat).ZF (ZK w id).2.toNat).Zc.Zp ((nth (nth w.ZA (ZK w id).1.toNat).ZF (ZK w id).2.toNat).Zc.Zn ++ [Ia w id l])))))) w.YP w.YN w.Next w.YE, true)) : P (Y8 w id t) := by
  unfold Y8
  refine Zd (p := P) (fun _ => h0) (fun h => ?_)
  simp only [Bool.or_eq_false_iff, Bool.not_eq_false', decide_eq_false_iff_not, beq_eq_false_iff_ne] at h
  have e := fun r => P3 (w := w) (id := id) (t := t) ((ZY w).length + 1) 0 [] r
  have h1 := h1 h.1.1.1 (by omega) (by omega) (fun e => h.2 (by rw [e]; rfl))
  generalize Yo w id t ((ZY w).length + 1) 0 [] = s at e h1 ⊢
  cases s with
  | inl r => rw [e r rfl]; exact h0
  | inr l =>
    have h1 := h1 l rfl
    cases ha : (YG (nth (nth w.ZA (ZK w id).1.toNat).ZF (ZK w id).2.toNat).Zc (Ia w id l)).2 with
    | true =>
      have h2 := h1 ha
      have e1 := (qQ ha).1
      unfold Ia at ha e1
      dsimp only
      rw [ha, e1]
      exact h2
    | false =>
      have e1 : (YG (nth (nth w.ZA (ZK w id).1.toNat).ZF (ZK w id).2.toNat).Zc (Ia w id l)).1 = (nth (nth w.ZA (ZK w id).1.toNat).ZF (ZK w id).2.toNat).Zc := by
        unfold YG at ha ⊢
        revert ha
        exact ZL (p := fun z : Zf × Bool => z.2 = false -> z.1 = _) (fun _ => rfl) (fun h => by cases h)
      unfold Ia at ha e1
      dsimp only
      rw [ha, e1]
      rw [show ZS.mk (nth (nth w.ZA (ZK w id).1.toNat).ZF (ZK w id).2.toNat).Id (nth (nth w.ZA (ZK w id).1.toNat).ZF (ZK w id).2.toNat).YQ (nth (nth w.ZA (ZK w id).1.toNat).ZF (ZK w id).2.toNat).Doc (nth (nth w.ZA (ZK w id).1.toNat).ZF (ZK w id).2.toNat).Sig (nth (nth w.ZA (ZK w id).1.toNat).ZF (ZK w id).2.toNat).Zc = nth (nth w.ZA (ZK w id).1.toNat).ZF (ZK w id).2.toNat from rfl, Lj, show ZD.mk (nth w.ZA (ZK w id).1.toNat).Id (nth w.ZA (ZK w id).1.toNat).ZF = nth w.ZA (ZK w id).1.toNat from rfl, Lj]
      exact h0
theorem G8 {w : ZE} {b id t : Int} (h : PlI b w) : PlI b (Y8 w id t).1 := by
  refine G6 (P := fun r => PlI b r.1) h (fun _ h2 _ _ l _ h5 => ?_)
  obtain ⟨k1, k2, k3⟩ := Qd w id h2
  obtain ⟨_, k4⟩ := qQ h5
  exact ⟨TA h.w k1 k3 k4 rfl, h.sb, h.fo, h.c⟩
theorem jH (n : Int) : Yl n = Yl 0 \/ Yl n = Yl 1 := by
  have e : WN 1 (yb 0 n) = WN 1 (yb 0 0) \/ WN 1 (yb 0 n) = WN 1 (yb 0 1) := by
    by_cases h : n > 0
    · right
      have e1 : yb 0 n = n := by unfold yb; simp only [h, decide_true, Yf]
      have e2 : ¬ n < 1 := by omega
      rw [e1]
      unfold WN
      simp only [e2, decide_false, YT]
      rfl
    · left
      have e1 : yb 0 n = 0 := by unfold yb; simp only [h, decide_false, YT]
      rw [e1]
      rfl
  rcases e with e | e
  · left; unfold Yl; rw [e]
  · right; unfold Yl; rw [e]
theorem EH (x : Int) : PlI 0 (Yl x) := by
  have h1 : UT (Yl x) = true := by rcases jH x with h | h <;> rw [h] <;> decide +kernel
  refine ⟨(HW _).1 h1, ?_, ?_, by rcases jH x with h | h <;> rw [h] <;> simp⟩
  · rcases jH x with h | h <;> rw [h] <;> decide +kernel
  · rcases jH x with h | h <;> rw [h] <;> decide +kernel
/- events -/
theorem N9 {P : ZE × Bool -> Prop} {w : ZE} {e : ZR} (h0 : P (w, false)) (h1 : e.Kind = 1 -> P (QS w e.A)) (h2 : e.Kind = 2 -> P (Xu w e.A e.B e.Doc e.C e.D)) (h3 : e.Kind = 3 -> P (Xf w e.A)) (h4 : e.Kind = 4 -> P (XE w e.A)) (h5 : e.Kind = 5 -> P (XG w e.A e.Ids e.B)) (h6 : e.Kind = 6 -> P (QV w e.A e.B e.C)) (h7 : e.Kind = 7 -> P (Xi w e.A)) (h8 : e.Kind = 8 -> P (X3 w e.A e.B e.Doc)) (h9 : e.Kind = 9 -> P (Y8 w e.A e.B)) (tg : e.Kind = 10 -> P (JK w e.A e.B)) : P (Z6 w e) := by
  unfold Z6
  refine Zd (p := P) (fun h => h1 (by simpa using h)) (fun _ => ?_)
  refine Zd (p := P) (fun h => h2 (by simpa using h)) (fun _ => ?_)
  refine Zd (p := P) (fun h => h3 (by simpa using h)) (fun _ => ?_)
  refine Zd (p := P) (fun h => h4 (by simpa using h)) (fun _ => ?_)
  refine Zd (p := P) (fun h => h5 (by simpa using h)) (fun _ => ?_)
  refine Zd (p := P) (fun h => h6 (by simpa using h)) (fun _ => ?_)
  refine Zd (p := P) (fun h => h7 (by simpa using h)) (fun _ => ?_)
  refine Zd (p := P) (fun h => h8 (by simpa using h)) (fun _ => ?_)
  refine Zd (p := P) (fun h => h9 (by simpa using h)) (fun _ => ?_)
  exact Zd (p := P) (fun h => tg (by simpa using h)) (fun _ => h0)
theorem GK {w : ZE} {e : ZR} {b n : Int} (h : PlI b w) (hn : (e.Ids.length : Int) <= n) (hb : b + n <= 4611686018427387904) : PlI (b + n) (Z6 w e).1 := by
  have hm := Lu (b := b + n) h (by omega)
  exact N9 (P := fun r => PlI (b + n) r.1) hm (fun _ => G0 hm) (fun _ => (FE hm).1) (fun _ => IH hm) (fun _ => (IF hm).1) (fun _ => (HZ h hn hb).1) (fun _ => FH hm) (fun _ => IP hm) (fun _ => HO hm) (fun _ => G8 hm) (fun _ => Gi hm)
def plU (w : ZE) := (w.Frame.Z9, w.Frame.ZG, w.Frame.Methods, w.Frame.zm, w.Frame.Now, w.Zb, w.YC, w.ZA, w.YP, w.YN, w.Next, w.YE)
def OI (w : ZE) (l : List ZR) : ZE := l.foldl (fun w e => (Z6 w e).1) w
theorem MJ (l : List ZR) : ∀ (n v : Nat) (w : ZE), l.length < n + v -> v <= l.length -> QD l n v w.Frame.Z9 w.Frame.ZG w.Frame.Methods w.Frame.zm w.Frame.Now w.Zb w.YC w.ZA w.YP w.YN w.Next w.YE = plU (OI w (l.drop v))
  | 0, v, w, h, hv => by omega
  | n + 1, v, w, h, hv => by
    rw [QD]
    by_cases wO : v < l.length
    · rw [decide_eq_true (show (v : Int) < (l.length : Int) by omega), Yf, List.drop_eq_getElem_cons wO]
      have k := MJ l n (v + 1) (Z6 w (nth l v)).1 (by omega) wO
      rw [show OI w (l[v] :: l.drop (v + 1)) = OI (Z6 w (nth l v)).1 (l.drop (v + 1)) by rw [Qq wO]; rfl, <- k]
    · rw [decide_eq_false (show ¬ (v : Int) < (l.length : Int) by omega), YT, List.drop_eq_nil_of_le (by omega)]
      rfl
theorem Fz (w : ZE) (l : List ZR) : ZU w l = OI w l := by
  unfold ZU
  rw [MJ l (l.length + 1) 0 w (by omega) (Nat.zero_le _)]
  rfl
theorem VT {k : List Yq} {a : List ZZ} {s : ZQ} (h : (YW k a s).2 = true) : (0 <= ZN a s.Authority /\ 0 <= s.Seq /\ Qp s.Time = true) /\ (YW k a s).1 = ZQ.mk s.Authority s.Seq s.Time s.XL (Q9 k (nth a (ZN a s.Authority).toNat).Key (X5 s)).1 := by
  revert h
  unfold YW
  refine Zd (p := fun r : ZQ × Bool => r.2 = true -> (0 <= ZN a s.Authority /\ 0 <= s.Seq /\ Qp s.Time = true) /\ r.1 = ZQ.mk s.Authority s.Seq s.Time s.XL (Q9 k (nth a (ZN a s.Authority).toNat).Key (X5 s)).1) (fun _ h => by cases h) (fun hc => ?_)
  refine Zd (p := fun r : ZQ × Bool => r.2 = true -> (0 <= ZN a s.Authority /\ 0 <= s.Seq /\ Qp s.Time = true) /\ r.1 = ZQ.mk s.Authority s.Seq s.Time s.XL (Q9 k (nth a (ZN a s.Authority).toNat).Key (X5 s)).1) (fun _ h => by cases h) (fun _ _ => ?_)
  simp only [Bool.or_eq_false_iff, Bool.not_eq_false', decide_eq_false_iff_not] at hc
  exact ⟨⟨by omega, by omega, hc.2⟩, rfl⟩
theorem IY (l : List ZR) : xW l = Ky l := by
  have h : ∀ n v, zh l n v = Ke l n v := by
    intro n
    induction n with
    | zero => intro v; rfl
    | succ n ih => intro v; rw [zh, Ke, ih]; rfl
  unfold xW Ky
  rw [h]
theorem GF {l : List ZR} (h : Ky l = true) : ∀ e ∈ l, e.Kind ≠ 8 /\ e.Kind ≠ 9 /\ e.Kind ≠ 10 := by
  have k := ((y0 (L := Ke l) (fun _ => rfl) (fun _ _ => rfl) (l.length + 1) 0 (by omega) true).1 h).1
  intro e he
  obtain ⟨i, hi, rfl⟩ := List.mem_iff_getElem.1 he
  have z := k i (Nat.zero_le _) hi
  rw [Qq hi] at z
  refine ⟨?_, ?_, ?_⟩ <;> (intro hk; rw [hk] at z; exact absurd z (by decide))
/- the stamps of a world -/
def lfA (a : ZD) (s : ZQ) : Prop := ∃ x ∈ a.ZF, ∃ r ∈ x.Zc.Zn, s ∈ r.Y7
def lfL (l : List ZD) (s : ZQ) : Prop := ∃ a ∈ l, lfA a s
theorem jz {α : Type} [Inhabited α] {l : List α} {i : Nat} (h : i < l.length) : nth l i ∈ l := by rw [Qq h]; exact List.getElem_mem h
theorem Uc {l : List ZD} {i : Nat} {a : ZD} {s : ZQ} (h : lfL (l.set i a) s) : lfL l s \/ lfA a s := by
  obtain ⟨b, hb, hs⟩ := h
  rcases List.mem_or_eq_of_mem_set hb with hb | rfl
  · exact .inl ⟨b, hb, hs⟩
  · exact .inr hs
theorem P2 {l : List ZD} {i : Nat} {s : ZQ} (hi : i < l.length) (h : lfA (nth l i) s) : lfL l s := ⟨_, jz hi, h⟩
theorem Oc {l : List ZD} {i k : Nat} {s : ZQ} (hi : i < l.length) (hk : k < (nth l i).ZF.length) (h : ∃ r ∈ (nth (nth l i).ZF k).Zc.Zn, s ∈ r.Y7) : lfL l s := P2 hi ⟨_, jz hk, h⟩
structure LfI (w : ZE) : Prop where
  old : ∀ s, lfL w.ZA s -> Y6 w.YN s.Authority = false -> s.Seq < nth w.YP (ZN w.Frame.ZG s.Authority).toNat /\ s.Time <= w.Frame.Now
  two : ∀ s t, lfL w.ZA s -> lfL w.ZA t -> s.Authority = t.Authority -> Y6 w.YN s.Authority = false -> (s.Seq = t.Seq -> s = t) /\ (s.Seq < t.Seq -> s.Time <= t.Time)
  no : w.YE = []
theorem ki {w z : ZE} (h : LfI w) (hs : ∀ s, lfL z.ZA s -> lfL w.ZA s) (e1 : z.YN = w.YN) (e2 : z.Frame.ZG = w.Frame.ZG) (e3 : z.YP = w.YP) (e4 : w.Frame.Now <= z.Frame.Now) (e5 : z.YE = w.YE) : LfI z := by
  refine ⟨fun s h1 h2 => ?_, fun s t h1 h2 h3 h4 => ?_, by rw [e5]; exact h.no⟩
  · rw [e1] at h2
    have := h.old s (hs s h1) h2
    rw [e2, e3]
    exact ⟨this.1, by omega⟩
  · rw [e1] at h4
    exact h.two s t (hs s h1) (hs t h2) h3 h4
theorem HY {a : ZD} {x : ZS} {s : ZQ} (h : (Z0 a x).2 = true) (hs : lfA (Z0 a x).1 s) : lfA a s \/ ∃ r ∈ x.Zc.Zn, s ∈ r.Y7 := by
  obtain ⟨_, _, _, k, e⟩ := jU h
  rw [e] at hs
  obtain ⟨y, hy, hr⟩ := hs
  simp only [List.mem_append, List.mem_singleton] at hy
  rcases hy with (hy | rfl) | hy
  · exact .inl ⟨y, List.mem_of_mem_take hy, hr⟩
  · exact .inr hr
  · exact .inl ⟨y, List.mem_of_mem_drop hy, hr⟩
theorem Gp {w : ZE} {b n : Int} (hw : PlI b w) (h : LfI w) : LfI (QS w n).1 := by
  have k := LU hw.w.fr
  refine Lr (P := fun r => LfI r.1) h (fun h1 h2 h3 => ?_)
  exact ki h (fun s hs => hs) rfl rfl rfl (by show w.Frame.Now <= W (w.Frame.Now + n); simp only [XR] at *; omega) rfl
theorem Gh {w : ZE} {b i k : Int} {d : ZP} {o e : Int} (hw : PlI b w) (h : LfI w) : LfI (Xu w i k d o e).1 := by
  have hl := hw.w.ar
  refine Lp (P := fun r => LfI r.1) h (fun h1 _ _ _ v _ _ _ h7 => ?_)
  obtain ⟨h8, h9⟩ := Jb h1 (by omega)
  refine ki h (fun s hs => ?_) rfl rfl rfl (Int.le_refl _) rfl
  rcases Uc hs with hs | hs
  · exact hs
  · rcases HY h7 hs with hs | ⟨r, hr, _⟩
    · exact P2 h9 hs
    · cases hr
theorem Ur {w : ZE} {i id : Int} {st : Yb} (h : LfI w) (h0 : 0 <= i) (hi : i < (w.ZA.length : Int)) : LfI (XU w i id st).1 := by
  refine U7 (P := fun r => LfI r.1) h (fun _ h2 h3 => ?_)
  obtain ⟨e, _⟩ := TG h3
  obtain ⟨hk, _⟩ := yK h2
  have vc : i.toNat < w.ZA.length := by omega
  refine ki h (fun s hs => ?_) rfl rfl rfl (Int.le_refl _) rfl
  rcases Uc hs with hs | hs
  · exact hs
  · unfold Xq at hs
    rw [decide_eq_false (by omega), YT] at hs
    obtain ⟨y, hy, hr⟩ := hs
    rcases List.mem_or_eq_of_mem_set hy with hy | rfl
    · exact P2 vc ⟨y, hy, hr⟩
    · refine Oc vc hk ?_
      dsimp only at hr
      rw [e] at hr
      exact hr
theorem Iu {w : ZE} {id : Int} (h : LfI w) : LfI (Xf w id).1 := by
  unfold Xf
  refine Zd (p := fun r : ZE × Bool => LfI r.1) (fun _ => h) (fun hc => ?_)
  refine Zd (p := fun r : ZE × Bool => LfI r.1) (fun _ => h) (fun _ => ?_)
  simp only [Bool.or_eq_false_iff, Bool.not_eq_false'] at hc
  have k := Yh w id hc.1
  exact ZL (p := fun r : ZE × Bool => LfI r.1) (Ur h k.1 k.2.1) (Ur h k.1 k.2.1)
theorem L6 {w : ZE} {k : Int} (h : LfI w) : LfI (XE w k).1 := by
  unfold XE
  exact ZL (p := fun r : ZE × Bool => LfI r.1) h (ki h (fun s hs => hs) rfl rfl rfl (Int.le_refl _) rfl)
theorem Gc {w : ZE} {b i k id : Int} (hw : PlI b w) (h : LfI w) : LfI (QV w i k id).1 := by
  have hl := hw.w.ar
  refine Lv (P := fun r => LfI r.1) h (fun h1 h2 h3 h4 h5 h6 => ?_)
  obtain ⟨i0, i1⟩ := Jb h1 (by omega)
  obtain ⟨k0, k1⟩ := Jb h2 (by omega)
  have gd := ((ye _).1 (hw.w.ok _ i1).1).ln
  obtain ⟨_, e⟩ := Lz (by omega) h5
  refine ki h (fun s hs => ?_) rfl rfl rfl (Int.le_refl _) rfl
  rcases Uc hs with hs | hs
  · rcases Uc hs with hs | hs
    · exact hs
    · rw [e] at hs
      obtain ⟨y, hy, hr⟩ := hs
      exact P2 i1 ⟨y, (List.eraseIdx_sublist _ _).subset hy, hr⟩
  · rcases HY h6 hs with hs | hs
    · exact P2 k1 hs
    · exact Oc i1 (yK h4).1 hs
theorem IT {w : ZE} {b i : Int} (hw : PlI b w) (h : LfI w) : LfI (Xi w i).1 := by
  have hl := hw.w.ar
  refine Pc (P := fun r => LfI r.1) h (fun h1 => ?_)
  obtain ⟨i0, i1⟩ := Jb h1 (by omega)
  refine ki h (fun s hs => ?_) rfl rfl rfl (Int.le_refl _) rfl
  rcases Uc hs with hs | hs
  · exact hs
  · obtain ⟨y, hy, hr⟩ := hs
    exact P2 i1 ⟨y, (List.filter_sublist).subset hy, hr⟩
/- a stamp that is made now -/
def lfS (w : ZE) (i : Int) (A t : Int) : ZQ × Bool := YW w.Frame.Z9 w.Frame.ZG (ZQ.mk A (nth w.YP (ZN w.Frame.ZG A).toNat) t (Y1 (nth w.ZA i.toNat) (ZJ w.Frame.Methods w.Frame.Now)) 0)
def FT (w : ZE) (i : Int) (s : ZQ) : Prop := ∃ A t, s = (lfS w i A t).1 /\ (lfS w i A t).2 = true /\ (Y6 w.YN A = false -> t = w.Frame.Now)
theorem RY {w : ZE} {i : Int} {s : ZQ} (h : FT w i s) : s.Seq = nth w.YP (ZN w.Frame.ZG s.Authority).toNat /\ (Y6 w.YN s.Authority = false -> s.Time = w.Frame.Now /\ s = (lfS w i s.Authority w.Frame.Now).1) := by
  obtain ⟨A, t, e, hk, ht⟩ := h
  have e2 := (VT hk).2
  have ea : s.Authority = A := by rw [e]; unfold lfS; rw [e2]
  have es : s.Seq = nth w.YP (ZN w.Frame.ZG A).toNat := by rw [e]; unfold lfS; rw [e2]
  refine ⟨by rw [ea]; exact es, fun hl => ?_⟩
  rw [ea] at hl
  have := ht hl
  subst this
  exact ⟨by rw [e]; unfold lfS; rw [e2], by rw [ea]; exact e⟩
theorem HU {w : ZE} {b i : Int} {ids : List Int} {uw n : Int} (hw : PlI b w) (h : LfI w) (hn : (ids.length : Int) <= n) (hb : b + n <= 4611686018427387904) : LfI (XG w i ids uw).1 := by
  have hl := hw.w.ar
  refine NX (P := fun r => LfI r.1) (Q := fun v l q => (q.length = w.YP.length /\ ∀ j, j < w.YP.length -> nth w.YP j <= nth q j /\ nth q j <= nth w.YP j + v) /\ (∀ j, w.YP.length <= j -> nth q j = nth w.YP j) /\ ∀ s ∈ l, FT w i s /\ nth w.YP (ZN w.Frame.ZG s.Authority).toNat < nth q (ZN w.Frame.ZG s.Authority).toNat) h ⟨⟨rfl, fun j _ => ⟨Int.le_refl _, by simp⟩⟩, fun j _ => rfl, fun s hs => by cases hs⟩ (fun v l q t hv hp hq => ?_) (fun h1 _ _ _ l q hq hk => ?_)
  · obtain ⟨⟨q1, q2⟩, q3, q4⟩ := hq
    have rR : ∀ j, j < w.YP.length -> nth q j <= nth (q.set (plN w ids v) (W (nth q (plN w ids v) + 1))) j /\ nth (q.set (plN w ids v) (W (nth q (plN w ids v) + 1))) j <= nth q j + 1 /\ (plN w ids v = j -> nth q j < nth (q.set (plN w ids v) (W (nth q (plN w ids v) + 1))) j) := fun j hj => by
      have z := q2 j hj
      rw [Qu]
      split
      · rename_i hc
        have k1 := hw.w.sq j hj
        have k2 := hw.sb j hj
        rw [hc.1]
        have e : W (nth q j + 1) = nth q j + 1 := by simp only [XR]; omega
        rw [e]
        omega
      · rename_i hc
        exact ⟨Int.le_refl _, by omega, fun e => absurd ⟨e, by omega⟩ hc⟩
    refine ⟨⟨by rw [List.length_set]; exact q1, fun j hj => ?_⟩, fun j hj => ?_, fun s hs => ?_⟩
    · have := rR j hj; have := q2 j hj; omega
    · rw [Qu, if_neg (by omega)]; exact q3 j hj
    · rcases List.mem_append.1 hs with hs | hs
      · obtain ⟨k1, k2⟩ := q4 s hs
        refine ⟨k1, ?_⟩
        by_cases hj : (ZN w.Frame.ZG s.Authority).toNat < w.YP.length
        · have := rR _ hj; omega
        · rw [q3 _ (by omega)] at k2; omega
      · rw [List.mem_singleton] at hs
        have wa : (lfS w i (nth ids v) t).2 = true := hp.ok
        have es : s = (lfS w i (nth ids v) t).1 := hs
        have ea : s.Authority = nth ids v := by rw [es]; unfold lfS; rw [(VT wa).2]
        refine ⟨⟨nth ids v, t, es, wa, fun hl => ?_⟩, ?_⟩
        · rcases hp.tm with ⟨k, _⟩ | ⟨_, k⟩
          · rw [hl] at k; cases k
          · exact k
        · rw [ea]
          have hj : plN w ids v < w.YP.length := hp.lt
          have := (rR (plN w ids v) hj).2.2 rfl
          have := q2 (plN w ids v) hj
          show nth w.YP (plN w ids v) < nth _ (plN w ids v)
          omega
  · obtain ⟨h8, h9⟩ := Jb h1 (by omega)
    obtain ⟨_, _, _, k3, k4⟩ := On hk
    obtain ⟨⟨q1, q2⟩, q3, q4⟩ := hq
    have wb : ∀ s, lfL (w.ZA.set i.toNat (YI (nth w.ZA i.toNat) (ZJ w.Frame.Methods w.Frame.Now) l).1) s -> lfL w.ZA s \/ s ∈ l := fun s hs => by
      rcases Uc hs with hs | ⟨x, hx, r, hr, hs⟩
      · exact .inl hs
      · obtain ⟨j, hj, rfl⟩ := List.mem_iff_getElem.1 hx
        rw [k3] at hj
        rw [<- Qq (by rw [k3]; exact hj), k4 j hj] at hr
        change r ∈ (nth (nth w.ZA i.toNat).ZF j).Zc.Zn ++ [Fm _ _ l j] at hr
        rcases List.mem_append.1 hr with hr | hr
        · exact .inl (Oc h9 hj ⟨r, hr, hs⟩)
        · rw [List.mem_singleton.1 hr] at hs
          exact .inr hs
    have hle : ∀ j, nth w.YP j <= nth q j := fun j => by
      by_cases hj : j < w.YP.length
      · exact (q2 j hj).1
      · rw [q3 j (by omega)]; exact Int.le_refl _
    refine ⟨fun s h1 h2 => ?_, fun s t h1 h2 h3 h4 => ?_, h.no⟩
    · rcases wb s h1 with h1 | h1
      · have z := h.old s h1 h2
        have := hle (ZN w.Frame.ZG s.Authority).toNat
        exact ⟨by show s.Seq < nth q (ZN w.Frame.ZG s.Authority).toNat; omega, z.2⟩
      · obtain ⟨k1, k2⟩ := q4 s h1
        have z := RY k1
        have z2 := z.2 h2
        exact ⟨by show s.Seq < nth q (ZN w.Frame.ZG s.Authority).toNat; omega, by show s.Time <= w.Frame.Now; omega⟩
    · change Y6 w.YN s.Authority = false at h4
      rcases wb s h1 with h1 | h1 <;> rcases wb t h2 with h2 | h2
      · exact h.two s t h1 h2 h3 h4
      · have z1 := h.old s h1 h4
        have z2 := RY (q4 t h2).1
        rw [<- h3] at z2
        have z3 := z2.2 h4
        exact ⟨fun e => by omega, fun _ => by omega⟩
      · rw [h3] at h4
        have z1 := h.old t h2 h4
        have z2 := RY (q4 s h1).1
        rw [h3] at z2
        exact ⟨fun e => by omega, fun e => by omega⟩
      · have z1 := RY (q4 s h1).1
        have z2 := RY (q4 t h2).1
        rw [<- h3] at z2
        exact ⟨fun _ => (z1.2 h4).2.trans (z2.2 h4).2.symm, fun e => by omega⟩
theorem I4 {w : ZE} {e : ZR} {b n : Int} (hw : PlI b w) (h : LfI w) (hn : (e.Ids.length : Int) <= n) (hb : b + n <= 4611686018427387904) (hk : e.Kind ≠ 8 /\ e.Kind ≠ 9 /\ e.Kind ≠ 10) : LfI (Z6 w e).1 :=
  N9 (P := fun r => LfI r.1) h (fun _ => Gp hw h) (fun _ => Gh hw h) (fun _ => Iu h) (fun _ => L6 h) (fun _ => HU hw h hn hb) (fun _ => Gc hw h) (fun _ => IT hw h) (fun e => absurd e hk.1) (fun e => absurd e hk.2.1) (fun e => absurd e hk.2.2)
theorem HA {n : Nat} : ∀ {l : List ZR} {w : ZE} {b : Int}, PlI b w -> LfI w -> (∀ e ∈ l, e.Ids.length <= n) -> (∀ e ∈ l, e.Kind ≠ 8 /\ e.Kind ≠ 9 /\ e.Kind ≠ 10) -> b + n * l.length <= 4611686018427387904 -> LfI (OI w l)
  | [], w, b, _, h, _, _, _ => h
  | e :: l, w, b, hw, h, hl, hk, hb => by
    rw [List.length_cons] at hb
    have e1 : b + (n : Int) * ((l.length + 1 : Nat) : Int) = b + n + n * l.length := by
      rw [Int.natCast_add, Int.mul_add]; omega
    rw [e1] at hb
    have h0 : 0 <= (n : Int) * (l.length : Int) := Int.mul_nonneg (by omega) (by omega)
    have hi := hl e List.mem_cons_self
    exact HA (l := l) (GK (e := e) (n := n) hw (by omega) (by omega)) (I4 (n := n) hw h (by omega) (by omega) (hk e List.mem_cons_self)) (fun x hx => hl x (List.mem_cons_of_mem _ hx)) (fun x hx => hk x (List.mem_cons_of_mem _ hx)) hb
/- all stamps -/
theorem Hc (a : List ZQ) : ∀ (n v : Nat) (l : List ZQ) (s : ZQ), s ∈ Yn a n v l -> s ∈ l \/ s ∈ a
  | 0, v, l, s, h => by cases h
  | n + 1, v, l, s, h => by
    rw [Yn] at h
    by_cases hv : v < a.length
    · rw [decide_eq_true (show (v : Int) < (a.length : Int) by omega), Yf] at h
      revert h
      refine ZL (p := fun r : List ZQ => s ∈ r -> s ∈ l \/ s ∈ a) (fun h => ?_) (fun h => Hc a n (v + 1) _ s h)
      rcases Hc a n (v + 1) _ s h with h | h
      · rcases List.mem_append.1 h with h | h
        · exact .inl h
        · rw [List.mem_singleton.1 h]; exact .inr (jz hv)
      · exact .inr h
    · rw [decide_eq_false (show ¬ (v : Int) < (a.length : Int) by omega), YT] at h
      exact .inl h
theorem HF (e : Z8) (k : Nat) : ∀ (n v : Nat) (l : List ZQ) (s : ZQ), s ∈ Qe e k n v l -> s ∈ l \/ ∃ r ∈ (nth e.Zt k).Zn, s ∈ r.Y7
  | 0, v, l, s, h => by cases h
  | n + 1, v, l, s, h => by
    rw [Qe] at h
    by_cases hv : v < (nth e.Zt k).Zn.length
    · rw [decide_eq_true (show (v : Int) < ((nth e.Zt k).Zn.length : Int) by omega), Yf] at h
      rcases HF e k n (v + 1) _ s h with h | h
      · rcases Hc _ _ _ _ s h with h | h
        · exact .inl h
        · exact .inr ⟨_, jz hv, h⟩
      · exact .inr h
    · rw [decide_eq_false (show ¬ (v : Int) < ((nth e.Zt k).Zn.length : Int) by omega), YT] at h
      exact .inl h
theorem HS (e : Z8) : ∀ (n v : Nat) (l : List ZQ) (s : ZQ), s ∈ QX e n v l -> s ∈ l \/ ∃ t ∈ e.Zt, ∃ r ∈ t.Zn, s ∈ r.Y7
  | 0, v, l, s, h => by cases h
  | n + 1, v, l, s, h => by
    rw [QX] at h
    by_cases hv : v < e.Zt.length
    · rw [decide_eq_true (show (v : Int) < (e.Zt.length : Int) by omega), Yf] at h
      rcases HS e n (v + 1) _ s h with h | h
      · rcases HF e v _ _ _ s h with h | h
        · exact .inl h
        · exact .inr ⟨_, jz hv, h⟩
      · exact .inr h
    · rw [decide_eq_false (show ¬ (v : Int) < (e.Zt.length : Int) by omega), YT] at h
      exact .inl h
theorem H3 {w : ZE} {s : ZQ} (h : s ∈ XB w) : lfL w.ZA s := by
  change s ∈ K0 (Z8.mk (JL w ((XN w).length + 1) 0 []) []) at h
  rw [X1] at h
  have e3 : ∀ l : List ZQ, Js (Z8.mk (Yy w) []) (([] : List (List ZQ)).length + 1) 0 l = l := fun l => by
    rw [List.length_nil, Js]; rfl
  unfold K0 at h
  dsimp only at h
  rw [e3] at h
  rcases HS _ _ _ _ s h with h | ⟨t, ht, r, hr, hs⟩
  · cases h
  · simp only [Yy, List.mem_map, List.mem_flatMap] at ht
    obtain ⟨x, ⟨a, ha, hx⟩, rfl⟩ := ht
    exact ⟨a, ha, x, hx, r, hr, hs⟩
/- who is found -/
def lfC (k : List Yq) (a : List ZZ) (l : List ZQ) (j : Nat) : Prop := ∃ s ∈ l, ∃ t ∈ l, s.Authority = (j : Int) /\ Qh k a s t = true
theorem Hl (k : List Yq) (a : List ZZ) (l : List ZQ) (v : Nat) (hv : v < l.length) : ∀ (n u : Nat) (b : List Bool), (∀ j, nth b j = true -> lfC k a l j) -> ∀ j, nth (K7 k a l v n u b) j = true -> lfC k a l j
  | 0, u, b, _, j, h => by
    have h : nth ([] : List Bool) j = true := h
    simp [nth] at h
  | n + 1, u, b, hb, j, h => by
    rw [K7] at h
    by_cases hu : u < (l.take v).length
    · rw [decide_eq_true (show (u : Int) < ((l.take v).length : Int) by omega), Yf] at h
      cases hc : (ZO (nth l v).Authority 0 99 && Qh k a (nth l v) (nth (l.take v) u)) with
      | false => rw [hc, YT] at h; exact Hl k a l v hv n (u + 1) b hb j h
      | true =>
        rw [hc, Yf] at h
        rw [Bool.and_eq_true, Vx] at hc
        refine Hl k a l v hv n (u + 1) _ (fun j' ue => ?_) j h
        rw [Qu] at ue
        split at ue
        · rename_i sT
          exact ⟨_, jz hv, _, List.mem_of_mem_take (jz hu), by omega, hc.2⟩
        · exact hb j' ue
    · rw [decide_eq_false (show ¬ (u : Int) < ((l.take v).length : Int) by omega), YT] at h
      exact hb j h
theorem FM (k : List Yq) (a : List ZZ) (l : List ZQ) : ∀ (n v : Nat) (b : List Bool), (∀ j, nth b j = true -> lfC k a l j) -> ∀ j, nth (yV k a l n v b) j = true -> lfC k a l j
  | 0, v, b, _, j, h => by
    have h : nth ([] : List Bool) j = true := h
    simp [nth] at h
  | n + 1, v, b, hb, j, h => by
    rw [yV] at h
    by_cases hv : v < l.length
    · rw [decide_eq_true (show (v : Int) < (l.length : Int) by omega), Yf] at h
      exact FM k a l n (v + 1) _ (Hl k a l v hv _ 0 b hb) j h
    · rw [decide_eq_false (show ¬ (v : Int) < (l.length : Int) by omega), YT] at h
      exact hb j h
theorem HC (b : List Bool) : ∀ (n : Nat) (l : List Int) (v : Nat), (∀ x ∈ l, ∃ j : Nat, x = (j : Int) /\ nth b j = true) -> ∀ x ∈ K9 b n l v, ∃ j : Nat, x = (j : Int) /\ nth b j = true
  | 0, l, v, _, x, h => by cases h
  | n + 1, l, v, hl, x, h => by
    rw [K9] at h
    revert h
    refine ZL (p := fun r : List Int => x ∈ r -> ∃ j : Nat, x = (j : Int) /\ nth b j = true) ?_ (fun h => hl x h)
    refine Zd (p := fun r : List Int => x ∈ r -> ∃ j : Nat, x = (j : Int) /\ nth b j = true) (fun hc h => ?_) (fun _ h => HC b n l (v + 1) hl x h)
    refine HC b n _ (v + 1) (fun y hy => ?_) x h
    rcases List.mem_append.1 hy with hy | hy
    · exact hl y hy
    · exact ⟨v, List.mem_singleton.1 hy, hc⟩
theorem H9 {k : List Yq} {a : List ZZ} {l : List ZQ} {x : Int} (h : x ∈ QQ k a l) : ∃ s ∈ l, ∃ t ∈ l, s.Authority = x /\ Qh k a s t = true := by
  unfold QQ at h
  obtain ⟨j, e, hj⟩ := HC _ _ [] 0 (fun y hy => by cases hy) x h
  obtain ⟨s, hs, t, ht, h1, h2⟩ := FM k a l _ 0 (zB 100) (fun j hj => by
    have : nth (zB 100) j = false := by
      simp only [zB, nth, List.getD_eq_getElem?_getD, List.getElem?_replicate]
      split <;> rfl
    rw [this] at hj; cases hj) j hj
  exact ⟨s, hs, t, ht, by rw [h1, e], h2⟩
theorem MM {w : ZE} (h : LfI w) {s t : ZQ} (hs : lfL w.ZA s) (ht : lfL w.ZA t) (hc : Qh w.Frame.Z9 w.Frame.ZG s t = true) : Y6 w.YN s.Authority = true := by
  cases hl : Y6 w.YN s.Authority with
  | true => rfl
  | false =>
    exfalso
    unfold Qh at hc
    cases h0 : (((s.Authority != t.Authority) || (!(Ka w.Frame.Z9 w.Frame.ZG s))) || (!(Ka w.Frame.Z9 w.Frame.ZG t))) with
    | true => rw [h0, Yf] at hc; cases hc
    | false =>
      rw [h0, YT] at hc
      simp only [Bool.or_eq_false_iff, bne_eq_false_iff_eq] at h0
      have k1 := h.two s t hs ht h0.1.1 hl
      have k2 := h.two t s ht hs h0.1.1.symm (by rw [<- h0.1.1]; exact hl)
      cases h1 : decide (s.Seq > t.Seq) with
      | true =>
        rw [h1, Yf] at hc
        have h1 := of_decide_eq_true h1
        simp only [Bool.or_eq_true, Bool.and_eq_true, beq_iff_eq, decide_eq_true_eq] at hc
        rcases hc with hc | hc
        · omega
        · have := k2.2 h1; have := hc.2; omega
      | false =>
        rw [h1, YT] at hc
        have h1 := of_decide_eq_false h1
        rw [Bool.or_eq_true, Bool.and_eq_true, Bool.and_eq_true, decide_eq_true_eq, decide_eq_true_eq] at hc
        rcases hc with ⟨hc, hd⟩ | hc
        · have := k1.1 (by simpa using hc)
          subst this
          simp at hd
        · have := k1.2 hc.1; omega
theorem I3 (x : Int) : LfI (Yl x) := by
  have ha : ∀ s, ¬ lfL (Yl x).ZA s := fun s hs => by
    obtain ⟨a, ha, y, hy, _⟩ := hs
    have e : (Yl x).ZA = [ZD.mk 0 [], ZD.mk 1 []] := by
      unfold Yl
      exact ZL (p := fun w : ZE => w.ZA = [ZD.mk 0 [], ZD.mk 1 []]) rfl rfl
    rw [e] at ha
    simp only [List.mem_cons, List.not_mem_nil, or_false] at ha
    rcases ha with rfl | rfl <;> cases hy
  refine ⟨fun s h => absurd h (ha s), fun s t h => absurd h (ha s), ?_⟩
  unfold Yl
  exact ZL (p := fun w : ZE => w.YE = []) rfl rfl
theorem MG (l : List Int) (x : Int) : xF l x = Y6 l x := by
  rw [Bool.eq_iff_iff, VL]
  unfold xF
  exact IA (L := yq l x) (len := l.length) (c := fun v => ((nth l v) == x)) (fun _ => rfl) (fun _ _ => rfl) (l.length + 1) 0 (by omega)
theorem LW {a0 : List UInt8} (h : ∀ x ∈ QQ (ZU (ZC a0).1 (ZC a0).2).Frame.Z9 (ZU (ZC a0).1 (ZC a0).2).Frame.ZG (XB (ZU (ZC a0).1 (ZC a0).2)), Y6 (ZU (ZC a0).1 (ZC a0).2).YN x = true) : ∀ n v, JZ a0 n v = .inr ()
  | 0, v => rfl
  | n + 1, v => by
    rw [JZ]
    refine Zd (p := (· = Sum.inr ())) (fun hc => ?_) (fun _ => rfl)
    rw [decide_eq_true_eq] at hc
    rw [MG, h _ (jz (by omega)), Bool.not_true, YT]
    exact LW h n (v + 1)
theorem WC (a0 : List UInt8) : KN a0 = true := by
  unfold KN
  refine ZL (p := (· = true)) rfl ?_
  rw [IY]
  refine Zd (p := (· = true)) (fun h => by simp at h) (fun _ => ?_)
  refine Zd (p := (· = true)) (fun _ => rfl) (fun hh => ?_)
  rw [Bool.not_eq_false'] at hh
  have d1 : PlI 0 (ZC a0).1 := EH _
  have s1 := (Qn (n := 40) (a0 := a0) (by decide)).2
  have s2 := XM s1
  have hI : LfI (OI (ZC a0).1 (ZC a0).2) := HA (n := 40) d1 (I3 _) (fun e he => XM (ZR.H0 (s1.2 e he))) (GF hh) (by omega)
  rw [<- Fz] at hI
  rw [LW (fun x hx => ?_)]
  · show (((ZU (ZC a0).1 (ZC a0).2).YE.length : Int) == 0) = true
    rw [hI.no]; rfl
  · obtain ⟨s, hs, t, ht, e, hc⟩ := H9 hx
    rw [<- e]
    exact MM hI (H3 hs) (H3 ht) hc
end Go.Mo
