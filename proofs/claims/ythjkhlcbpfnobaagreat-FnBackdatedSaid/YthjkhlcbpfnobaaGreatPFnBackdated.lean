/- The plain law of FnBackdated: stamps of thieves and liars make nothing older. No condition. -/
import Derived.Test.YthjkhlcbpfnobaaGreatE
namespace Go.Mo
open Go.Vm
set_option linter.unusedSimpArgs false
set_option linter.unusedVariables false
@[simp] theorem jx (a0 a1 : List ByteArray) : xe a0 a1 = decide (a0 = a1) := Mc (F := zm a0 a1) (c := fun i => !decide ((nth a0 i) = (nth a1 i))) (fun i => rfl) (fun _ => rfl) (fun _ _ => rfl)
theorem K1 {α : Type} [DecidableEq α] (a b : α) : (a == b) = decide (a = b) := by by_cases h : a = b <;> simp [h]
@[simp] theorem qN (a0 a1 : Ze) : Jh a0 a1 = decide (a0 = a1) := by
  cases a0; cases a1; simp [Jh, K1, Bool.and_assoc]
theorem N4 (x y : Zf) : ((x.Authority == y.Authority) && ((x.Seq == y.Seq) && ((x.Time == y.Time) && ((x.Yt == y.Yt) && (x.Mark == y.Mark))))) = decide (x = y) := by
  cases x; cases y; simp [K1]
theorem L7 (x y : Xq) : ((x.Yt == y.Yt) && (x.Left == y.Left)) = decide (x = y) := by
  cases x; cases y; simp [K1]
@[simp] theorem kK (a0 a1 : List Zf) : qY a0 a1 = decide (a0 = a1) := Mc (F := yn a0 a1) (c := fun i => !((nth a0 i).Authority == (nth a1 i).Authority && ((nth a0 i).Seq == (nth a1 i).Seq && ((nth a0 i).Time == (nth a1 i).Time && ((nth a0 i).Yt == (nth a1 i).Yt && (nth a0 i).Mark == (nth a1 i).Mark))))) (fun i => by rw [N4]) (fun _ => rfl) (fun _ _ => rfl)
theorem xX {α : Type} {a b : List α} (h : ¬ a.length = b.length) : ((a.length : Int) != (b.length : Int)) = true := by simp; omega
@[simp] theorem qx (a0 a1 : ZV) : Qw a0 a1 = decide (a0 = a1) := by
  unfold Qw
  by_cases hl : a0.Path.length = a1.Path.length
  · rw [zN (F := zO a0 a1) (a := a0.Path) (b := a1.Path) (c := fun i => !((nth a0.Path i).Yt == (nth a1.Path i).Yt && (nth a0.Path i).Left == (nth a1.Path i).Left)) hl (fun i => by rw [L7]) (fun _ => rfl) (fun _ _ => rfl)]
    obtain ⟨t, p, s, u, v⟩ := a0; obtain ⟨t', p', s', u', v'⟩ := a1
    by_cases h1 : t = t' <;> by_cases h2 : p = p' <;> by_cases h3 : s = s' <;> by_cases h4 : u = u' <;> simp_all
  · have : a0 ≠ a1 := fun h => hl (by rw [h])
    simp [this, xX hl]
@[simp] theorem xM (a0 a1 : List ZS) : zE a0 a1 = decide (a0 = a1) := Mc (F := KH a0 a1) (c := fun i => !XM (nth a0 i) (nth a1 i)) (fun i => by simp) (fun _ => rfl) (fun _ _ => rfl)
@[simp] theorem jw (a0 a1 : ZQ) : Kq a0 a1 = decide (a0 = a1) := by
  unfold Kq
  by_cases hl : a0.ZR.length = a1.ZR.length
  · rw [zN (F := zu a0 a1) (a := a0.ZR) (b := a1.ZR) (c := fun i => !Qw (nth a0.ZR i) (nth a1.ZR i)) hl (fun i => by simp) (fun _ => rfl) (fun _ _ => rfl)]
    obtain ⟨t, p⟩ := a0; obtain ⟨t', p'⟩ := a1
    by_cases h1 : t = t' <;> by_cases h2 : p = p' <;> simp_all
  · have : a0 ≠ a1 := fun h => hl (by rw [h])
    simp [this, xX hl]
theorem El (x y : Zq) : ((x.Key == y.Key) && ((x.Zn == y.Zn) && ((x.Method == y.Method) && ((x.Yt == y.Yt) && ((x.xU == y.xU) && ((x.Org == y.Org) && ((x.xQ == y.xQ) && ((x.qX == y.qX) && (x.Mark == y.Mark))))))))) = decide (x = y) := by
  cases x; cases y; simp [K1]
@[simp] theorem Wb (a0 a1 : Zj) : KP a0 a1 = decide (a0 = a1) := by
  unfold KP
  rw [El]
  obtain ⟨t, p, s, u, v⟩ := a0; obtain ⟨t', p', s', u', v'⟩ := a1
  by_cases h1 : t = t' <;> by_cases h2 : p = p' <;> by_cases h3 : s = s' <;> by_cases h4 : u = u' <;> simp_all
@[simp] theorem qq (a0 a1 : ZJ) : Qx a0 a1 = decide (a0 = a1) := by
  unfold Qx
  by_cases hl : a0.ZD.length = a1.ZD.length
  · rw [zN (F := zJ a0 a1) (a := a0.ZD) (b := a1.ZD) (c := fun i => !KP (nth a0.ZD i) (nth a1.ZD i)) hl (fun i => by simp) (fun _ => rfl) (fun _ _ => rfl)]
    obtain ⟨t, p⟩ := a0; obtain ⟨t', p'⟩ := a1
    by_cases h1 : t = t' <;> by_cases h2 : p = p' <;> simp_all
  · have : a0 ≠ a1 := fun h => hl (by rw [h])
    simp [this, xX hl]
theorem EX (x y : Yp) : ((x.Number == y.Number) && ((x.Kr == y.Kr) && ((x.Method == y.Method) && ((x.qK == y.qK) && (x.jc == y.jc))))) = decide (x = y) := by
  cases x; cases y; simp [K1]
theorem IL (x y : Zg) : ((x.Id == y.Id) && ((x.Key == y.Key) && (x.Error == y.Error))) = decide (x = y) := by
  cases x; cases y; simp [K1]
theorem Ir (x y : Z5) : ((x.Id == y.Id) && ((x.Vp == y.Vp) && ((x.Ends == y.Ends) && (x.jO == y.jO)))) = decide (x = y) := by
  cases x; cases y; simp [K1]
theorem Il (x y : Yb) : ((x.Zn == y.Zn) && ((x.Key == y.Key) && ((x.Kr == y.Kr) && ((x.X0 == y.X0) && ((x.To == y.To) && ((x.Z6 == y.Z6) && (x.Mark == y.Mark))))))) = decide (x = y) := by
  cases x; cases y; simp [K1]
@[simp] theorem z8 (a0 a1 : ZW) : zP a0 a1 = decide (a0 = a1) := by
  unfold zP
  by_cases h1 : a0.Zo.length = a1.Zo.length
  · by_cases h2 : a0.ZC.length = a1.ZC.length
    · by_cases h3 : a0.Methods.length = a1.Methods.length
      · rw [zN (F := yo a0 a1) (a := a0.Zo) (b := a1.Zo) (c := fun i => _) h1 (fun i => congrArg (! ·) (EX (nth a0.Zo i) (nth a1.Zo i))) (fun _ => rfl) (fun _ _ => rfl),
          zN (F := yu a0 a1) (a := a0.ZC) (b := a1.ZC) (c := fun i => _) h2 (fun i => congrArg (! ·) (IL (nth a0.ZC i) (nth a1.ZC i))) (fun _ => rfl) (fun _ _ => rfl),
          zN (F := yi a0 a1) (a := a0.Methods) (b := a1.Methods) (c := fun i => _) h3 (fun i => congrArg (! ·) (Ir (nth a0.Methods i) (nth a1.Methods i))) (fun _ => rfl) (fun _ _ => rfl)]
        obtain ⟨t, p, s, u, v⟩ := a0; obtain ⟨t', p', s', u', v'⟩ := a1
        by_cases h4 : t = t' <;> by_cases h5 : p = p' <;> by_cases h6 : s = s' <;> by_cases h7 : u = u' <;> by_cases h8 : v = v' <;> simp_all
      · have : a0 ≠ a1 := fun h => h3 (by rw [h])
        simp [this, xX h3]
    · have : a0 ≠ a1 := fun h => h2 (by rw [h])
      simp [this, xX h2]
  · have : a0 ≠ a1 := fun h => h1 (by rw [h])
    simp [this, xX h1]
@[simp] theorem z5 (a0 a1 : ZG) : JF a0 a1 = decide (a0 = a1) := by
  unfold JF
  by_cases h1 : a0.ZZ.length = a1.ZZ.length
  · by_cases h2 : a0.ZB.length = a1.ZB.length
    · rw [zN (F := yp a0 a1) (a := a0.ZZ) (b := a1.ZZ) (c := fun i => _) h1 (fun i => congrArg (! ·) (Il (nth a0.ZZ i) (nth a1.ZZ i))) (fun _ => rfl) (fun _ _ => rfl),
        zN (F := yj a0 a1) (a := a0.ZB) (b := a1.ZB) (c := fun i => !Qx (nth a0.ZB i) (nth a1.ZB i)) h2 (fun i => by simp) (fun _ => rfl) (fun _ _ => rfl)]
      simp only [z8, j7]
      obtain ⟨f, c, e, a, s, l, n, g⟩ := a0; obtain ⟨f', c', e', a', s', l', n', g'⟩ := a1
      by_cases q1 : f = f'
      · by_cases q2 : c = c'
        · by_cases q3 : e = e'
          · by_cases q4 : a = a' <;> by_cases q5 : s = s' <;> by_cases q6 : l = l' <;> by_cases q7 : n = n' <;> by_cases q8 : g = g' <;> simp_all
          · simp_all
        · simp_all
      · simp_all
    · have : a0 ≠ a1 := fun h => h2 (by rw [h])
      simp [this, xX h2]
  · have : a0 ≠ a1 := fun h => h1 (by rw [h])
    simp [this, xX h1]
theorem jg (a0 : ZG) (k : Nat) : ∀ (n : Nat) (l : List Int) (v : Nat), Qm a0 k n l v ≠ .inl true := by
  intro n
  induction n with
  | zero => intro l v h; cases h
  | succ n ih =>
    intro l v h
    rw [Qm] at h
    generalize decide ((v : Int) < ((nth a0.ZB k).ZD.length : Int)) = c at h
    cases c with
    | false => cases h
    | true =>
      simp only [cond_true] at h
      generalize (XP l (nth (nth a0.ZB k).ZD v).Id || decide ((nth (nth a0.ZB k).ZD v).Id >= a0.Next)) = c at h
      cases c with
      | true => cases h
      | false => exact ih _ _ h
theorem jz (a0 : ZG) : ∀ (n : Nat) (l : List Int) (v : Nat), JV a0 n l v ≠ .inl true := by
  intro n
  induction n with
  | zero => intro l v h; cases h
  | succ n ih =>
    intro l v h
    rw [JV] at h
    generalize decide ((v : Int) < (a0.ZB.length : Int)) = c at h
    cases c with
    | false => cases h
    | true =>
      simp only [cond_true] at h
      generalize (!Z1 (nth a0.ZB v) || (nth a0.ZB v).Id != (v : Int)) = c at h
      cases c with
      | true => cases h
      | false =>
        simp only [cond_false] at h
        cases hh : Qm a0 v ((nth a0.ZB v).ZD.length + 1) l 0 with
        | inl r =>
          rw [hh] at h; simp only at h
          cases h; exact jg _ _ _ _ _ hh
        | inr z => rw [hh] at h; exact ih _ _ h
theorem Nr (s : Sum Bool Unit) (X : Bool) : s ≠ .inl true -> ((match s with | .inl r => r | .inr _ => X) = true ↔ s = .inr () /\ X = true) := by
  intro h
  cases s with
  | inl r => cases r with
    | true => exact absurd rfl h
    | false => simp
  | inr u => simp
def Jc (l : List ZJ) : List Int := l.flatMap (fun a => a.ZD.map (·.Id))
def zY (nx : Int) (l m : List Int) : Prop := (∀ x ∈ m, x ∉ l /\ x < nx) /\ m.Nodup
theorem Lo (l : List Int) (x : Int) : XP l x = true ↔ x ∈ l := by
  rw [Wv]
  constructor
  · rintro ⟨i, _, h, e⟩
    rw [beq_iff_eq, X7 h] at e
    rw [<- e]; exact List.getElem_mem h
  · intro h
    obtain ⟨i, hi, e⟩ := List.mem_iff_getElem.1 h
    exact ⟨i, Nat.zero_le _, hi, by rw [beq_iff_eq, X7 hi, e]⟩
theorem yQ {nx x : Int} {l m : List Int} : zY nx l (x :: m) ↔ (x ∉ l /\ x < nx) /\ zY nx (l ++ [x]) m := by
  unfold zY
  rw [List.nodup_cons]
  constructor
  · rintro ⟨h1, h2, h3⟩
    refine ⟨h1 x List.mem_cons_self, fun y hy => ⟨fun hm => ?_, (h1 y (List.mem_cons_of_mem _ hy)).2⟩, h3⟩
    rcases List.mem_append.1 hm with hm | hm
    · exact (h1 y (List.mem_cons_of_mem _ hy)).1 hm
    · rw [List.mem_singleton.1 hm] at hy; exact h2 hy
  · rintro ⟨h1, h2, h3⟩
    refine ⟨fun y hy => ?_, fun hx => (h2 x hx).1 (List.mem_append.2 (.inr (List.mem_singleton.2 rfl))), h3⟩
    rcases List.mem_cons.1 hy with rfl | hy
    · exact h1
    · exact ⟨fun hm => (h2 y hy).1 (List.mem_append.2 (.inl hm)), (h2 y hy).2⟩
theorem xh (nx : Int) (l : List Int) : zY nx l [] := ⟨fun x h => (by cases h), List.nodup_nil⟩
theorem RQ {nx : Int} {l m k : List Int} : zY nx l (m ++ k) ↔ zY nx l m /\ zY nx (l ++ m) k := by
  induction m generalizing l with
  | nil => rw [List.nil_append, List.append_nil]; exact ⟨fun h => ⟨xh _ _, h⟩, fun h => h.2⟩
  | cons x m ih =>
    rw [List.cons_append, yQ, yQ, ih, List.append_assoc]
    exact ⟨fun h => ⟨⟨h.1, h.2.1⟩, h.2.2⟩, fun h => ⟨h.1.1, h.1.2, h.2⟩⟩
theorem E3 (w : ZG) (k : Nat) : ∀ (n : Nat) (l : List Int) (v : Nat), (nth w.ZB k).ZD.length < n + v -> v <= (nth w.ZB k).ZD.length ->
    (Qm w k n l v = .inr (l ++ ((nth w.ZB k).ZD.drop v).map (·.Id)) /\ zY w.Next l (((nth w.ZB k).ZD.drop v).map (·.Id))) \/ (Qm w k n l v = .inl false /\ ¬ zY w.Next l (((nth w.ZB k).ZD.drop v).map (·.Id)))
  | 0, l, v, h, hv => by omega
  | n + 1, l, v, h, hv => by
    rw [Qm]
    by_cases pa : v < (nth w.ZB k).ZD.length
    · rw [decide_eq_true (show (v : Int) < ((nth w.ZB k).ZD.length : Int) by omega), Yf, List.drop_eq_getElem_cons pa, List.map_cons, X7 pa, yQ]
      generalize hx : ((nth w.ZB k).ZD[v]).Id = x
      cases hc : (XP l x || decide (x >= w.Next)) with
      | true =>
        rw [Yf]
        refine .inr ⟨rfl, fun hg => ?_⟩
        rcases Bool.or_eq_true _ _ ▸ hc with h1 | h1
        · exact hg.1.1 ((Lo _ _).1 h1)
        · have := of_decide_eq_true h1; have := hg.1.2; omega
      | false =>
        rw [YW]
        rw [Bool.or_eq_false_iff] at hc
        have hn : x ∉ l /\ x < w.Next := ⟨fun hm => (by rw [(Lo _ _).2 hm] at hc; cases hc.1), (by have := of_decide_eq_false hc.2; omega)⟩
        rcases E3 w k n (l ++ [x]) (v + 1) (by omega) pa with ⟨e, hg⟩ | ⟨e, hg⟩
        · exact .inl ⟨by rw [e, List.append_assoc]; rfl, hn, hg⟩
        · exact .inr ⟨e, fun h => hg h.2⟩
    · rw [decide_eq_false (show ¬ (v : Int) < ((nth w.ZB k).ZD.length : Int) by omega), YW, List.drop_eq_nil_of_le (by omega), List.map_nil, List.append_nil]
      exact .inl ⟨rfl, xh _ _⟩
theorem DL (w : ZG) : ∀ (n : Nat) (l : List Int) (v : Nat), w.ZB.length < n + v -> v <= w.ZB.length ->
    (JV w n l v = .inr () ↔ (∀ i, v <= i -> i < w.ZB.length -> Z1 (nth w.ZB i) = true /\ (nth w.ZB i).Id = (i : Int)) /\ zY w.Next l (Jc (w.ZB.drop v)))
  | 0, l, v, h, hv => by omega
  | n + 1, l, v, h, hv => by
    rw [JV]
    by_cases pa : v < w.ZB.length
    · rw [decide_eq_true (show (v : Int) < (w.ZB.length : Int) by omega), Yf]
      have e1 : Jc (w.ZB.drop v) = (nth w.ZB v).ZD.map (·.Id) ++ Jc (w.ZB.drop (v + 1)) := by
        rw [List.drop_eq_getElem_cons pa, X7 pa]; rfl
      rw [e1, RQ]
      cases hc : (!Z1 (nth w.ZB v) || (nth w.ZB v).Id != (v : Int)) with
      | true =>
        rw [Yf]
        refine ⟨fun h => (by cases h), fun h => ?_⟩
        obtain ⟨h1, h2⟩ := h.1 v (Nat.le_refl _) pa
        rw [h1, h2] at hc
        simp at hc
      | false =>
        rw [YW]
        simp only [Bool.or_eq_false_iff, Bool.not_eq_false', bne_eq_false_iff_eq] at hc
        rcases E3 w v ((nth w.ZB v).ZD.length + 1) l 0 (by omega) (Nat.zero_le _) with ⟨e, hg⟩ | ⟨e, hg⟩
        · rw [e]
          rw [List.drop_zero] at hg ⊢
          refine (DL w n _ (v + 1) (by omega) pa).trans ⟨fun h => ⟨fun i h1 h2 => ?_, hg, h.2⟩, fun h => ⟨fun i h1 h2 => h.1 i (by omega) h2, h.2.2⟩⟩
          rcases Nat.eq_or_lt_of_le h1 with rfl | h1
          · exact hc
          · exact h.1 i h1 h2
        · rw [e]
          rw [List.drop_zero] at hg
          exact ⟨fun h => (by cases h), fun h => absurd h.2.1 hg⟩
    · rw [decide_eq_false (show ¬ (v : Int) < (w.ZB.length : Int) by omega), YW, List.drop_eq_nil_of_le (by omega)]
      exact ⟨fun _ => ⟨fun i h1 h2 => by omega, xh _ _⟩, fun _ => rfl⟩
structure PlW (w : ZG) : Prop where
  fr : JQ w.Frame = true
  en : w.YQ.length = w.ZZ.length
  ar : 1 <= w.ZB.length /\ w.ZB.length <= 4
  sl : w.YZ.length = w.Frame.ZC.length
  ll : (w.YR.length : Int) <= w.Frame.X8
  nx : 1 <= w.Next
  lr : XO w.YR = true
  fo : XO w.YK = true
  ce : ∀ i, i < w.ZZ.length -> jE w.Frame.Zo (nth w.ZZ i) = true /\ Xn w.ZZ (nth w.ZZ i).Zn = (i : Int) /\ Zc (nth w.YQ i) (-1) 10001 = true
  ok : ∀ i, i < w.ZB.length -> Z1 (nth w.ZB i) = true /\ (nth w.ZB i).Id = (i : Int)
  nd : (Jc w.ZB).Nodup
  lt : ∀ x ∈ Jc w.ZB, x < w.Next
  sq : ∀ i, i < w.YZ.length -> 0 <= nth w.YZ i
  lf : ∀ i, i < w.YR.length -> 0 <= ZY w.Frame.ZC (nth w.YR i)
theorem HF (w : ZG) : W0 w = true ↔ PlW w := by
  unfold W0
  have hi : ∀ b : Bool, (bif b then false else (match jF w (w.ZZ.length + 1) 0 with | .inl r1 => r1 | .inr _ => (match JV w (w.ZB.length + 1) ([] : List Int) 0 with | .inl r2 => r2 | .inr _ => (match jD w (w.YZ.length + 1) 0 with | .inl r4 => r4 | .inr _ => (match jA w (w.YR.length + 1) 0 with | .inl r5 => r5 | .inr _ => true))))) = true ↔ b = false /\ _ := fun b => by
    cases b
    · exact ((Xx (L := jF w) (fun _ => rfl) (fun _ _ => rfl) (w.ZZ.length + 1) 0 (by omega) _).trans (and_congr_right fun _ => (Nr _ _ (jz w (w.ZB.length + 1) [] 0)).trans (and_congr_right fun _ => (Xx (L := jD w) (fun _ => rfl) (fun _ _ => rfl) (w.YZ.length + 1) 0 (by omega) _).trans (and_congr_right fun _ => Xx (L := jA w) (fun _ => rfl) (fun _ _ => rfl) (w.YR.length + 1) 0 (by omega) _)))).trans ⟨fun h => ⟨rfl, h⟩, fun h => h.2⟩
    · exact ⟨fun h => (by cases h), fun h => (by cases h.1)⟩
  refine (hi _).trans ?_
  rw [DL w (w.ZB.length + 1) [] 0 (by omega) (Nat.zero_le _), List.drop_zero]
  simp only [Bool.or_eq_false_iff, Bool.not_eq_false', beq_iff_eq, bne_eq_false_iff_eq, decide_eq_false_iff_not, Zc, Bool.and_eq_true, decide_eq_true_eq]
  constructor
  · rintro ⟨⟨⟨⟨⟨⟨⟨⟨h1, h2⟩, h3⟩, h4⟩, h5⟩, h6⟩, h7⟩, h8⟩, h9, ⟨ia, bA, bB⟩, aL, aM, _⟩
    exact ⟨h1, by omega, by omega, by omega, by omega, by omega, h7, h8, fun i hi => ⟨(h9 i (Nat.zero_le _) hi).1.1, (h9 i (Nat.zero_le _) hi).1.2, by have := (h9 i (Nat.zero_le _) hi).2; simpa [Zc] using this⟩, fun i hi => ia i (Nat.zero_le _) hi, bB, fun x hx => (bA x hx).2, fun i hi => by have := aL i (Nat.zero_le _) hi; omega, fun i hi => by have := aM i (Nat.zero_le _) hi; omega⟩
  · intro h
    refine ⟨⟨⟨⟨⟨⟨⟨⟨h.fr, by have := h.en; omega⟩, by have := h.ar; omega⟩, by have := h.sl; omega⟩, by have := h.ll; omega⟩, by have := h.nx; omega⟩, h.lr⟩, h.fo⟩, fun i _ hi => ⟨⟨(h.ce i hi).1, (h.ce i hi).2.1⟩, by have := (h.ce i hi).2.2; simpa [Zc] using this⟩, ⟨fun i _ hi => h.ok i hi, fun x hx => ⟨fun hn => (by cases hn), h.lt x hx⟩, h.nd⟩, fun i _ hi => by have := h.sq i hi; omega, fun i _ hi => by have := h.lf i hi; omega, trivial⟩
/- archives -/
theorem Ji {α : Type} [Inhabited α] (l : List α) (i j : Nat) (x : α) : nth (l.set i x) j = if i = j /\ j < l.length then x else nth l j := by
  simp only [nth, List.getD_eq_getElem?_getD, List.getElem?_set]
  by_cases h : i = j
  · subst h
    by_cases h2 : i < l.length
    · simp [h2]
    · simp [h2]
  · simp [h]
structure PlA (a : ZJ) : Prop where
  it : ∀ x ∈ a.ZD, Xp x = true
  as : (a.ZD.map (·.Id)).Pairwise (· < ·)
  id : 0 <= a.Id /\ a.Id <= 99
  ln : a.ZD.length <= 8
theorem jV (a : ZJ) : Z1 a = true ↔ PlA a := by
  unfold Z1
  refine (Xx (L := xA a) (fun _ => rfl) (fun _ _ => rfl) (a.ZD.length + 1) 0 (by omega) _).trans ?_
  simp only [Bool.or_eq_false_iff, Bool.not_eq_false', Bool.and_eq_false_imp, decide_eq_true_eq, decide_eq_false_iff_not, Zc, Bool.and_eq_true]
  constructor
  · rintro ⟨h1, ⟨h2, h3⟩, h4⟩
    refine ⟨fun x hx => ?_, ?_, ⟨h2, h3⟩, by omega⟩
    · obtain ⟨i, hi, e⟩ := List.mem_iff_getElem.1 hx
      have := (h1 i (Nat.zero_le _) hi).1
      rw [X7 hi, e] at this
      exact this
    · have hc : ∀ i, 0 < i -> i < (a.ZD.map (·.Id)).length -> nth (a.ZD.map (·.Id)) (i - 1) < nth (a.ZD.map (·.Id)) i := fun i h0 hi => by
        rw [List.length_map] at hi
        rw [qj (by omega), qj hi]
        have := (h1 i (Nat.zero_le _) hi).2 (by omega)
        omega
      rw [List.pairwise_iff_getElem]
      intro i j hi hj iL
      have := RY hc (j - i) i (by omega) (by omega)
      rw [show i + (j - i) = j by omega, X7 hi, X7 hj] at this
      exact this
  · intro h
    refine ⟨fun i _ hi => ⟨h.it _ (by rw [X7 hi]; exact List.getElem_mem hi), fun h0 => ?_⟩, h.id, by have := h.ln; omega⟩
    have := List.pairwise_iff_getElem.1 h.as (i - 1) i (by rw [List.length_map]; omega) (by rw [List.length_map]; exact hi) (by omega)
    rw [List.getElem_map, List.getElem_map] at this
    rw [X7 (show i - 1 < a.ZD.length by omega), X7 hi]
    omega
theorem WC (a : ZJ) (l : List ZJ) : Jc (a :: l) = a.ZD.map (·.Id) ++ Jc l := rfl
theorem W8 (l m : List ZJ) : Jc (l ++ m) = Jc l ++ Jc m := List.flatMap_append
theorem jm (l : List ZJ) (i : Nat) (h : i < l.length) : ∃ A B, Jc l = A ++ ((nth l i).ZD.map (·.Id) ++ B) /\ ∀ a, Jc (l.set i a) = A ++ (a.ZD.map (·.Id) ++ B) := by
  refine ⟨Jc (l.take i), Jc (l.drop (i + 1)), ?_, fun a => ?_⟩
  · rw [<- WC, <- W8, X7 h, <- List.drop_eq_getElem_cons h, List.take_append_drop]
  · rw [<- WC, <- W8, List.set_eq_take_append_cons_drop, if_pos h]
theorem Vg {l : List ZJ} {i : Nat} {a : ZJ} (e : (a.ZD.map (·.Id)).Sublist ((nth l i).ZD.map (·.Id))) : (Jc (l.set i a)).Sublist (Jc l) := by
  by_cases h : i < l.length
  · obtain ⟨A, B, h1, h2⟩ := jm l i h
    rw [h2, h1]
    exact (List.Sublist.refl A).append (e.append (List.Sublist.refl B))
  · rw [List.set_eq_of_length_le (by omega)]
    exact List.Sublist.refl _
theorem Pm {l : List ZJ} {i : Nat} {a : ZJ} {x : Int} (h : i < l.length) (e : (a.ZD.map (·.Id)).Perm (x :: (nth l i).ZD.map (·.Id))) : (Jc (l.set i a)).Perm (x :: Jc l) := by
  obtain ⟨A, B, h1, h2⟩ := jm l i h
  rw [h2, h1]
  refine List.Perm.trans (List.Perm.append_left A (List.Perm.append_right B e)) ?_
  rw [List.cons_append]
  exact List.perm_middle
/- the arrangement of a world stays -/
theorem kr {w : ZG} (h : PlW w) {i : Nat} {a : ZJ} (ha : Z1 a = true) (n8 : a.Id = (i : Int)) : ∀ j, j < (w.ZB.set i a).length -> Z1 (nth (w.ZB.set i a) j) = true /\ (nth (w.ZB.set i a) j).Id = (j : Int) := fun j hj => by
  rw [List.length_set] at hj
  rw [Ji]
  split
  · rename_i hc; rw [<- hc.1]; exact ⟨ha, n8⟩
  · exact h.ok j hj
theorem Iw {w : ZG} (h : PlW w) {i : Nat} {a : ZJ} (ha : Z1 a = true) (n8 : a.Id = (i : Int)) (e : (a.ZD.map (·.Id)).Sublist ((nth w.ZB i).ZD.map (·.Id))) {sq : List Int} (hl : sq.length = w.YZ.length) (hs : ∀ j, j < sq.length -> 0 <= nth sq j) : PlW (ZG.mk w.Frame w.ZZ w.YQ (w.ZB.set i a) sq w.YR w.Next w.YK) :=
  ⟨h.fr, h.en, by rw [List.length_set]; exact h.ar, hl.trans h.sl, h.ll, h.nx, h.lr, h.fo, h.ce, kr h ha n8, h.nd.sublist (Vg e), fun x hx => h.lt x ((Vg e).subset hx), hs, h.lf⟩
theorem Eo {w : ZG} (h : PlW w) {i : Nat} {a : ZJ} (ha : Z1 a = true) (n8 : a.Id = (i : Int)) (e : a.ZD.map (·.Id) = (nth w.ZB i).ZD.map (·.Id)) : PlW (ZG.mk w.Frame w.ZZ w.YQ (w.ZB.set i a) w.YZ w.YR w.Next w.YK) :=
  Iw h ha n8 (by rw [e]; exact List.Sublist.refl _) rfl h.sq
/- the steps, case by case -/
theorem qW (x a b : Int) : Zc x a b = true ↔ a <= x /\ x <= b := by
  simp only [Zc, Bool.and_eq_true, decide_eq_true_eq]
theorem L5 {f : ZW} (h : JQ f = true) : 0 <= f.Now /\ f.Now <= 10000 := by
  simp only [JQ, JL, Bool.and_eq_true, qW] at h
  exact h.2
theorem Tb {f : ZW} (h : JQ f = true) {t : Int} (h0 : 0 <= t) (h1 : t <= 10000) : JQ (ZW.mk f.Zo f.ZC f.Methods f.X8 t) = true := by
  simp only [JQ, JL, Bool.and_eq_true, qW] at h ⊢
  exact ⟨h.1, h0, h1⟩
theorem kR {w : ZG} {i : Int} (h : Yw w i = true) (hl : w.ZB.length <= 9223372036854775807) : 0 <= i /\ i.toNat < w.ZB.length := by
  unfold Yw at h
  rw [qW] at h
  simp only [X9] at h
  omega
theorem EB {P : ZG × Bool -> Prop} {w : ZG} {n : Int} (h0 : P (w, false)) (h1 : 0 <= n -> n <= 100 -> W (w.Frame.Now + n) <= 10000 -> P (ZG.mk (ZW.mk w.Frame.Zo w.Frame.ZC w.Frame.Methods w.Frame.X8 (W (w.Frame.Now + n))) w.ZZ w.YQ w.ZB w.YZ w.YR w.Next w.YK, true)) : P (xK w n) := by
  unfold xK
  refine Z7 (p := P) (fun _ => h0) (fun h => ?_)
  simp only [Bool.or_eq_false_iff, Bool.not_eq_false', qW, decide_eq_false_iff_not] at h
  exact h1 h.1.1 h.1.2 (by omega)
theorem qP {P : ZG × Bool -> Prop} {a0 : ZG} {a1 a2 : Int} {a3 : Ze} {a4 a5 : Int} (h0 : P (a0, false)) (h1 : ∀ v, v < a0.ZZ.length -> (nth a0.ZZ v).Key = a2 -> (Tg a0 a2 a3 a4 v).2 = true -> (YX (nth a0.ZB a1.toNat) (j9 a0 a2 a3 a4 a5 v)).2 = true -> P (kP a0 a1 (j9 a0 a2 a3 a4 a5 v), true)) :
    ∀ (m v : Nat) (r : ZG × Bool), Jo a0 a1 a2 a3 a4 a5 m v = .inl r -> P r
  | 0, v, r, h => by cases h
  | m + 1, v, r, h => by
    simp only [Jo] at h
    by_cases hv : v < a0.ZZ.length
    · rw [decide_eq_true (show (v : Int) < (a0.ZZ.length : Int) by omega), Yf] at h
      cases hk : ((nth a0.ZZ v).Key != a2) with
      | true => rw [hk, Yf] at h; exact qP h0 h1 m (v + 1) r h
      | false =>
        rw [hk, YW] at h
        have hk : (nth a0.ZZ v).Key = a2 := by simpa using hk
        change (bif ((!(Tg a0 a2 a3 a4 v).2) || !(YX (nth a0.ZB a1.toNat) (j9 a0 a2 a3 a4 a5 v)).2) then (Sum.inl (a0, false) : Sum (ZG × Bool) Unit) else .inl (kP a0 a1 (j9 a0 a2 a3 a4 a5 v), true)) = .inl r at h
        cases hs : ((!(Tg a0 a2 a3 a4 v).2) || !(YX (nth a0.ZB a1.toNat) (j9 a0 a2 a3 a4 a5 v)).2) with
        | true => rw [hs, Yf] at h; cases h; exact h0
        | false =>
          rw [hs, YW] at h; cases h
          simp only [Bool.or_eq_false_iff, Bool.not_eq_false'] at hs
          exact h1 v hv hk hs.1 hs.2
    · rw [decide_eq_false (show ¬ (v : Int) < (a0.ZZ.length : Int) by omega), YW] at h
      cases h
theorem kv {P : ZG × Bool -> Prop} {a0 : ZG} {a1 a2 : Int} {a3 : Ze} {a4 a5 : Int} (h0 : P (a0, false)) (h1 : Yw a0 a1 = true -> 0 <= Zu a0.Frame.Zo a2 -> 0 <= Zk a0.Frame.Methods a0.Frame.Now -> ∀ v, v < a0.ZZ.length -> (nth a0.ZZ v).Key = a2 -> (Tg a0 a2 a3 a4 v).2 = true -> (YX (nth a0.ZB a1.toNat) (j9 a0 a2 a3 a4 a5 v)).2 = true -> P (kP a0 a1 (j9 a0 a2 a3 a4 a5 v), true)) : P (Xw a0 a1 a2 a3 a4 a5) := by
  unfold Xw
  refine Z7 (p := P) (fun _ => h0) (fun h => ?_)
  simp only [Bool.or_eq_false_iff, Bool.not_eq_false', decide_eq_false_iff_not] at h
  cases e : Jo a0 a1 a2 a3 a4 a5 (a0.ZZ.length + 1) 0 with
  | inl r => exact qP h0 (h1 h.1.1 (by omega) (by omega)) _ _ r e
  | inr _ => exact h0
theorem Ed {P : ZG × Bool -> Prop} {a0 : ZG} {a1 a2 : Int} {a3 : Ze} {a4 a5 : Int} (h0 : P (a0, false)) (h1 : Yw a0 a1 = true -> 0 <= Zu a0.Frame.Zo a2 -> (nth a0.Frame.Zo (Zu a0.Frame.Zo a2).toNat).qK <= a0.Frame.Now -> 0 <= Zk a0.Frame.Methods a0.Frame.Now -> ∀ v, v < a0.ZZ.length -> (nth a0.ZZ v).Key = a2 -> (Tg a0 a2 a3 a4 v).2 = true -> (YX (nth a0.ZB a1.toNat) (j9 a0 a2 a3 a4 a5 v)).2 = true -> P (kP a0 a1 (j9 a0 a2 a3 a4 a5 v), true)) : P (KE a0 a1 a2 a3 a4 a5) := by
  unfold KE
  refine Z7 (p := P) (fun _ => h0) (fun h => ?_)
  simp only [Bool.or_eq_false_iff, decide_eq_false_iff_not] at h
  exact kv (P := P) h0 (fun k1 k2 k3 => h1 k1 k2 (by omega) k3)
theorem I5 {P : ZG × Bool -> Prop} {a0 : ZG} {a1 a2 : Int} {a3 : Ze} (h0 : P (a0, false)) (h1 : QF a0.Frame a2 = true -> Yw a0 a1 = true -> 0 <= Zu a0.Frame.Zo a2 -> 0 <= Zk a0.Frame.Methods a0.Frame.Now -> ∀ v, v < a0.ZZ.length -> (nth a0.ZZ v).Key = a2 -> (Tg a0 a2 a3 0 v).2 = true -> (YX (nth a0.ZB a1.toNat) (j9 a0 a2 a3 0 10000 v)).2 = true -> P (ZG.mk a0.Frame a0.ZZ a0.YQ (a0.ZB.set a1.toNat (YX (nth a0.ZB a1.toNat) (j9 a0 a2 a3 0 10000 v)).1) a0.YZ a0.YR (W (a0.Next + 1)) (a0.YK ++ [a0.Next]), true)) : P (yK a0 a1 a2 a3) := by
  unfold yK
  refine Z7 (p := P) (fun _ => h0) (fun h => ?_)
  rw [Bool.not_eq_false'] at h
  exact kv (P := fun r => P (bif r.2 then (ZG.mk r.1.Frame r.1.ZZ r.1.YQ r.1.ZB r.1.YZ r.1.YR r.1.Next (r.1.YK ++ ([a0.Next] : List Int)), r.2) else (r.1, r.2))) h0 (fun k1 k2 k3 v k4 k5 k6 k7 => h1 h k1 k2 k3 v k4 k5 k6 k7)
theorem Vo {a : ZJ} {x : Zj} (h : (YX a x).2 = true) : Zm a x.Id < 0 /\ Z1 a = true /\ Z1 (YX a x).1 = true /\ ∃ k, (YX a x).1 = ZJ.mk a.Id ((a.ZD.take k ++ [x]) ++ a.ZD.drop k) := by
  unfold YX at h ⊢
  cases h1 : ((decide ((Zm a x.Id) >= 0)) || (!(Z1 a))) with
  | true => rw [h1, Yf] at h; cases h
  | false =>
    rw [h1, YW] at h
    rw [YW]
    simp only [Bool.or_eq_false_iff, Bool.not_eq_false', decide_eq_false_iff_not] at h1
    generalize XU a x (a.ZD.length + 1) 0 = k at h ⊢
    dsimp only at h ⊢
    cases h2 : Z1 (ZJ.mk a.Id (((a.ZD.take k) ++ ([x] : List Zj)) ++ (a.ZD.drop k))) with
    | false => rw [h2, Bool.not_false, Yf] at h; cases h
    | true =>
      rw [Bool.not_true, YW]
      exact ⟨by omega, h1.2, h2, k, rfl⟩
theorem Vr {a : ZJ} {x : Zj} (h : (YX a x).2 = true) : ((YX a x).1.ZD.map (·.Id)).Perm (x.Id :: a.ZD.map (·.Id)) := by
  obtain ⟨_, _, _, k, e⟩ := Vo h
  rw [e]
  show (((a.ZD.take k ++ [x]) ++ a.ZD.drop k).map (·.Id)).Perm _
  rw [List.append_assoc, List.map_append, List.singleton_append, List.map_cons]
  refine List.perm_middle.trans ?_
  rw [<- List.map_append, List.take_append_drop]
theorem UN {P : ZG × Bool -> Prop} {w : ZG} {i id : Int} {st : Zr} (h0 : P (w, false)) (h1 : (YH w.Frame.Zo st).2 = true -> 0 <= Zm (nth w.ZB i.toNat) id -> (Xf (nth (nth w.ZB i.toNat).ZD (Zm (nth w.ZB i.toNat) id).toNat).ZP (Yl (YH w.Frame.Zo st).1)).2 = true -> P (ZG.mk w.Frame w.ZZ w.YQ (w.ZB.set i.toNat (Yu (nth w.ZB i.toNat) id (Yl (YH w.Frame.Zo st).1)).1) w.YZ w.YR w.Next w.YK, true)) : P (Xe w i id st) := by
  unfold Xe
  refine Z7 (p := P) (fun _ => h0) (fun h => ?_)
  simp only [Bool.or_eq_false_iff, Bool.not_eq_false'] at h
  obtain ⟨h2, h3⟩ := h
  unfold Yu at h3
  cases h4 : decide ((Zm (nth w.ZB i.toNat) id) < 0) with
  | true => rw [h4, Yf] at h3; cases h3
  | false =>
    rw [h4, YW] at h3
    exact h1 h2 (by have := of_decide_eq_false h4; omega) h3
/- renewing -/
def plN (w : ZG) (ids : List Int) (v : Nat) : Nat := (ZY w.Frame.ZC (nth ids v)).toNat
def Lm (w : ZG) (i : Int) (ids : List Int) (v : Nat) (t : Int) : Zf × Bool := XD w.Frame.Zo w.Frame.ZC (Zf.mk (nth ids v) (nth w.YZ (plN w ids v)) t (Qf (nth w.ZB i.toNat) (Zk w.Frame.Methods w.Frame.Now)) 0)
def I9 (w : ZG) (o0 : Int) : Int := (if (if (W (w.Frame.Now + o0)) < 10000 then (W (w.Frame.Now + o0)) else 10000) > 0 then (if (W (w.Frame.Now + o0)) < 10000 then (W (w.Frame.Now + o0)) else 10000) else 0)
structure vN (w : ZG) (i : Int) (ids : List Int) (o0 : Int) (v : Nat) (t : Int) : Prop where
  au : 0 <= ZY w.Frame.ZC (nth ids v)
  lt : plN w ids v < w.YZ.length
  ky : 0 <= Zu w.Frame.Zo (nth w.Frame.ZC (plN w ids v)).Key
  bo : (nth w.Frame.Zo (Zu w.Frame.Zo (nth w.Frame.ZC (plN w ids v)).Key).toNat).qK <= w.Frame.Now
  ok : (Lm w i ids v t).2 = true
  tm : (XP w.YR (nth ids v) = true /\ t = I9 w o0) \/ (XP w.YR (nth ids v) = false /\ t = w.Frame.Now)
theorem VB {P : Nat -> List Zf -> List Int -> Prop} {w : ZG} {i : Int} {ids : List Int} {o0 : Int} (hs : ∀ v l q t, v < ids.length -> vN w i ids o0 v t -> P v l q -> P (v + 1) (l ++ [(Lm w i ids v t).1]) (q.set (plN w ids v) (W (nth q (plN w ids v) + 1)))) :
    ∀ (m : Nat) (l : List Zf) (v : Nat) (q : List Int), ids.length < m + v -> v <= ids.length -> P v l q -> (∀ r, XT w i ids o0 m l v q = .inl r -> r = (w, false)) /\ ∀ z, XT w i ids o0 m l v q = .inr z -> P ids.length z.1 z.2
  | 0, l, v, q, h, hv, _ => by omega
  | m + 1, l, v, q, h, hv, hp => by
    rw [XT]
    let p := fun x : Sum (ZG × Bool) (List Zf × List Int) => (∀ r, x = .inl r -> r = (w, false)) /\ ∀ z, x = .inr z -> P ids.length z.1 z.2
    have bad : p (.inl (w, false)) := ⟨fun r h => (by cases h; rfl), fun z h => (by cases h)⟩
    refine Z7 (p := p) (fun hc => ?_) (fun hc => ⟨fun r h => (by cases h), fun z h => (by cases h; have hc : ¬ v < ids.length := (by simpa using hc); have e : v = ids.length := (by omega); rw [<- e]; exact hp)⟩)
    have hc : v < ids.length := by simpa using hc
    refine Z7 (p := p) (fun _ => bad) (fun h1 => ?_)
    refine Z7 (p := p) (fun _ => bad) (fun h2 => ?_)
    simp only [Bool.or_eq_false_iff, decide_eq_false_iff_not] at h1 h2
    have go : ∀ t, ((XP w.YR (nth ids v) = true /\ t = I9 w o0) \/ (XP w.YR (nth ids v) = false /\ t = w.Frame.Now)) -> (Lm w i ids v t).2 = true -> p (XT w i ids o0 m (l ++ [(Lm w i ids v t).1]) (v + 1) (q.set (plN w ids v) (W (nth q (plN w ids v) + 1)))) := fun t ht hk =>
      VB hs m _ (v + 1) _ (by omega) hc (hs v l q t hc ⟨by omega, by unfold plN; omega, by unfold plN; omega, by unfold plN; omega, hk, ht⟩ hp)
    refine Z7 (p := p) (fun h3 => ?_) (fun h3 => ?_)
    · refine Z7 (p := p) (fun _ => bad) (fun h4 => ?_)
      rw [Bool.not_eq_false'] at h4
      exact go (I9 w o0) (.inl ⟨h3, rfl⟩) h4
    · refine Z7 (p := p) (fun _ => bad) (fun h4 => ?_)
      rw [Bool.not_eq_false'] at h4
      exact go w.Frame.Now (.inr ⟨h3, rfl⟩) h4
theorem Ho {P : ZG × Bool -> Prop} {Q : Nat -> List Zf -> List Int -> Prop} {w : ZG} {i : Int} {ids : List Int} {o0 : Int} (h0 : P (w, false)) (q0 : Q 0 [] w.YZ) (hs : ∀ v l q t, v < ids.length -> vN w i ids o0 v t -> Q v l q -> Q (v + 1) (l ++ [(Lm w i ids v t).1]) (q.set (plN w ids v) (W (nth q (plN w ids v) + 1))))
    (h1 : Yw w i = true -> 0 <= Zk w.Frame.Methods w.Frame.Now -> XO ids = true -> ids ≠ [] -> ∀ l q, Q ids.length l q -> (Ym (nth w.ZB i.toNat) (Zk w.Frame.Methods w.Frame.Now) l).2 = true -> P (ZG.mk w.Frame w.ZZ w.YQ (w.ZB.set i.toNat (Ym (nth w.ZB i.toNat) (Zk w.Frame.Methods w.Frame.Now) l).1) q w.YR w.Next w.YK, true)) : P (JW w i ids o0) := by
  have k := VB hs (ids.length + 1) [] 0 w.YZ (by omega) (Nat.zero_le _) q0
  unfold JW
  refine Z7 (p := P) (fun _ => h0) (fun h => ?_)
  simp only [Bool.or_eq_false_iff, Bool.not_eq_false', decide_eq_false_iff_not, beq_eq_false_iff_ne] at h
  obtain ⟨⟨⟨⟨k1, k2⟩, k3⟩, k4⟩, k5⟩ := h
  generalize XT w i ids o0 (ids.length + 1) [] 0 w.YZ = s at k ⊢
  cases s with
  | inl r => rw [k.1 r rfl]; exact h0
  | inr z =>
    obtain ⟨l, q⟩ := z
    refine Z7 (p := P) (fun _ => h0) (fun h2 => ?_)
    rw [Bool.not_eq_false'] at h2
    exact h1 k1 (by omega) k3 (fun e => k4 (by rw [e]; rfl)) l q (k.2 _ rfl) h2
theorem KV {s : ZQ} {r : ZV} (h : (YL s r).2 = true) : (YL s r).1 = ZQ.mk s.ZM (s.ZR ++ [r]) /\ Ye (ZQ.mk s.ZM (s.ZR ++ [r])) = true := by
  unfold YL at h ⊢
  cases h2 : Ye (ZQ.mk s.ZM (s.ZR ++ ([r] : List ZV))) with
  | false => rw [h2, Bool.not_false, Yf] at h; cases h
  | true => exact ⟨rfl, rfl⟩
theorem UL {s : ZQ} {p : ZS} (h : (Xf s p).2 = true) : (Xf s p).1 = ZQ.mk (s.ZM ++ [p]) s.ZR /\ Ye (ZQ.mk (s.ZM ++ [p]) s.ZR) = true := by
  unfold Xf at h ⊢
  cases h2 : Ye (ZQ.mk (s.ZM ++ ([p] : List ZS)) s.ZR) with
  | false => rw [h2, Bool.not_false, Yf] at h; cases h
  | true => exact ⟨rfl, rfl⟩
/- a sealed archive: each item has one renewal more -/
def wu (a : ZJ) (m : Int) (l : List Zf) (v : Nat) : ZV := ZV.mk ((nth a.ZD v).ZP.ZM.length : Int) m (Qf a m) (Jm m (QP a m) (v : Int)) l
def P4 (a : ZJ) (m : Int) (l : List Zf) (v : Nat) : Zj := Zj.mk (nth a.ZD v).Id (nth a.ZD v).XI (nth a.ZD v).Doc (nth a.ZD v).Sig (ZQ.mk (nth a.ZD v).ZP.ZM ((nth a.ZD v).ZP.ZR ++ [wu a m l v]))
theorem TD (a : ZJ) (m : Int) (l : List Zf) : ∀ (n v : Nat) (q : List Zj), a.ZD.length < n + v -> v <= a.ZD.length -> q.length = a.ZD.length -> (∀ k, k < a.ZD.length -> nth q k = if k < v then P4 a m l k else nth a.ZD k) ->
    (∀ r, Xi a m l n v q = .inl r -> r = (a, false)) /\ ∀ z, Xi a m l n v q = .inr z -> z.length = a.ZD.length /\ ∀ k, k < a.ZD.length -> nth z k = P4 a m l k
  | 0, v, q, h, hv, _, _ => by omega
  | n + 1, v, q, h, hv, hl, hq => by
    rw [Xi]
    by_cases pa : v < a.ZD.length
    · rw [decide_eq_true (show (v : Int) < (a.ZD.length : Int) by omega), Yf]
      cases hc : (YL (nth a.ZD v).ZP (wu a m l v)).2 with
      | false =>
        rw [show (YL (nth a.ZD v).ZP (ZV.mk ((nth a.ZD v).ZP.ZM.length : Int) m (Qf a m) (Jm m (QP a m) (v : Int)) l)).2 = false from hc, Bool.not_false, Yf]
        exact ⟨fun r h => (by cases h; rfl), fun z h => (by cases h)⟩
      | true =>
        rw [show (YL (nth a.ZD v).ZP (ZV.mk ((nth a.ZD v).ZP.ZM.length : Int) m (Qf a m) (Jm m (QP a m) (v : Int)) l)).2 = true from hc, Bool.not_true, YW]
        refine TD a m l n (v + 1) _ (by omega) pa (by rw [List.length_set]; exact hl) (fun k hk => ?_)
        rw [Ji]
        split
        · rename_i he
          obtain ⟨rfl, _⟩ := he
          rw [if_pos (Nat.lt_succ_self _), hq v hk, if_neg (Nat.lt_irrefl _), show (YL (nth a.ZD v).ZP (ZV.mk ((nth a.ZD v).ZP.ZM.length : Int) m (Qf a m) (Jm m (QP a m) (v : Int)) l)).1 = _ from (KV hc).1]
          rfl
        · rename_i he
          have pS : v ≠ k := fun e => he ⟨e, by omega⟩
          rw [hq k hk]
          by_cases h2 : k < v
          · rw [if_pos h2, if_pos (by omega)]
          · rw [if_neg h2, if_neg (by omega)]
    · rw [decide_eq_false (show ¬ (v : Int) < (a.ZD.length : Int) by omega), YW]
      exact ⟨fun r h => (by cases h), fun z h => (by cases h; exact ⟨hl, fun k hk => by rw [hq k hk, if_pos (by omega)]⟩)⟩
theorem O6 {a : ZJ} {m : Int} {l : List Zf} (h : (Ym a m l).2 = true) : Z1 a = true /\ Z1 (Ym a m l).1 = true /\ (Ym a m l).1.Id = a.Id /\ (Ym a m l).1.ZD.length = a.ZD.length /\ ∀ k, k < a.ZD.length -> nth (Ym a m l).1.ZD k = P4 a m l k := by
  have k := TD a m l (a.ZD.length + 1) 0 a.ZD (by omega) (Nat.zero_le _) rfl (fun k _ => by rw [if_neg (Nat.not_lt_zero _)])
  unfold Ym at h ⊢
  cases h1 : (((a.ZD.length : Int) == 0) || (!(Z1 a))) with
  | true => rw [h1, Yf] at h; cases h
  | false =>
    rw [h1, YW] at h
    rw [YW]
    simp only [Bool.or_eq_false_iff, Bool.not_eq_false'] at h1
    generalize Xi a m l (a.ZD.length + 1) 0 a.ZD = s at h k ⊢
    cases s with
    | inl r => rw [k.1 r rfl] at h; cases h
    | inr z =>
      dsimp only at h ⊢
      cases h2 : Z1 (ZJ.mk a.Id z) with
      | false => rw [h2, Bool.not_false, Yf] at h; cases h
      | true =>
        rw [Bool.not_true, YW]
        exact ⟨h1.2, h2, rfl, k.2 z rfl⟩
theorem HV {α : Type} [Inhabited α] {l m : List α} (hl : l.length = m.length) (h : ∀ i, i < l.length -> nth l i = nth m i) : l = m := by
  apply List.ext_getElem hl
  intro i h1 h2
  have := h i h1
  rwa [X7 h1, X7 h2] at this
theorem SL {a : ZJ} {m : Int} {l : List Zf} (h : (Ym a m l).2 = true) : (Ym a m l).1.ZD.map (·.Id) = a.ZD.map (·.Id) := by
  obtain ⟨_, _, _, h1, h2⟩ := O6 h
  refine HV (by rw [List.length_map, List.length_map, h1]) (fun i hi => ?_)
  rw [List.length_map, h1] at hi
  rw [qj (by rw [h1]; exact hi), qj hi, h2 i hi]
  rfl
/- worlds stay worlds -/
/- what no step changes -/
def plC (w : ZG) : List Yp × List Zg × List Z5 × Int × List Yb × List Int := (w.Frame.Zo, w.Frame.ZC, w.Frame.Methods, w.Frame.X8, w.ZZ, w.YR)
structure PlI (b : Int) (x : ZG) : Prop where
  w : PlW x
  sb : ∀ i, i < x.YZ.length -> nth x.YZ i <= b
  fo : ∀ y ∈ x.YK, y < x.Next
  c : plC x = plC (YD 0) \/ plC x = plC (YD 1)
theorem Tk {a b : Int} {w : ZG} (h : PlI a w) (hb : a <= b) : PlI b w := ⟨h.w, fun i hi => Int.le_trans (h.sb i hi) hb, h.fo, h.c⟩
theorem Ez {w : ZG} {b n : Int} (h : PlI b w) : PlI b (xK w n).1 := by
  have k := L5 h.w.fr
  refine EB (P := fun r => PlI b r.1) h (fun h1 h2 h3 => ?_)
  have k2 : 0 <= W (w.Frame.Now + n) := by simp only [X9]; omega
  exact ⟨⟨Tb h.w.fr k2 h3, h.w.en, h.w.ar, h.w.sl, h.w.ll, h.w.nx, h.w.lr, h.w.fo, h.w.ce, h.w.ok, h.w.nd, h.w.lt, h.w.sq, h.w.lf⟩, h.sb, h.fo, h.c⟩
theorem Oc {w : ZG} (h : PlW w) {i : Nat} {x : Zj} (hi : i < w.ZB.length) (hx : x.Id = w.Next) (ha : (YX (nth w.ZB i) x).2 = true) {fo : List Int} (hf : XO fo = true) :
    W (w.Next + 1) = w.Next + 1 /\ PlW (ZG.mk w.Frame w.ZZ w.YQ (w.ZB.set i (YX (nth w.ZB i) x).1) w.YZ w.YR (w.Next + 1) fo) := by
  obtain ⟨_, h2, h3, k, e⟩ := Vo ha
  have n8 : (YX (nth w.ZB i) x).1.Id = (i : Int) := by rw [e]; exact (h.ok i hi).2
  have hm : x ∈ (YX (nth w.ZB i) x).1.ZD := by rw [e]; exact List.mem_append.2 (.inl (List.mem_append.2 (.inr (List.mem_singleton.2 rfl))))
  have du := ((jV _).1 h3).it x hm
  have hn : w.Next <= 999 := by
    unfold Xp at du
    simp only [Bool.and_eq_true, qW] at du
    omega
  have h0 := h.nx
  have hp := Pm hi (Vr ha)
  rw [hx] at hp
  refine ⟨by simp only [X9]; omega, ⟨h.fr, h.en, by rw [List.length_set]; exact h.ar, h.sl, h.ll, by show 1 <= w.Next + 1; omega, h.lr, hf, h.ce, kr h h3 n8, ?_, ?_, h.sq, h.lf⟩⟩
  · refine hp.nodup_iff.2 (List.nodup_cons.2 ⟨fun hc => ?_, h.nd⟩)
    have := h.lt _ hc; omega
  · intro y hy
    show y < w.Next + 1
    rcases List.mem_cons.1 (hp.mem_iff.1 hy) with rfl | hy
    · omega
    · have := h.lt y hy; omega
theorem Fh {w : ZG} {b i k : Int} {d : Ze} {o e : Int} (h : PlI b w) : PlI b (KE w i k d o e).1 /\ ((KE w i k d o e).2 = true -> (KE w i k d o e).1.Next = w.Next + 1) := by
  have hl := h.w.ar
  refine Ed (P := fun r => PlI b r.1 /\ (r.2 = true -> r.1.Next = w.Next + 1)) ⟨h, fun k => (by cases k)⟩ (fun h1 _ _ _ v _ _ _ h7 => ?_)
  obtain ⟨h8, h9⟩ := kR h1 (by omega)
  obtain ⟨e1, hw⟩ := Oc h.w h9 rfl h7 h.w.fo
  unfold kP
  rw [e1]
  exact ⟨⟨hw, h.sb, fun x hx => by have := h.fo x hx; show x < w.Next + 1; omega, h.c⟩, fun _ => rfl⟩
theorem KC {α : Type} [Inhabited α] (l m : List α) (i : Nat) : nth (l ++ m) i = if i < l.length then nth l i else nth m (i - l.length) := by
  simp only [nth, List.getD_eq_getElem?_getD, List.getElem?_append]
  split <;> rfl
theorem MB (a1 : List Int) : XO a1 = true ↔ ∀ i, 0 < i -> i < a1.length -> nth a1 (i - 1) < nth a1 i := by
  have := Xx (L := qR a1) (len := a1.length) (c := fun v => decide ((nth a1 (v - 1)) >= (nth a1 v))) (fun _ => rfl) (fun _ _ => rfl) (a1.length + 1) 1 (by omega) true
  unfold XO
  refine Iff.trans this ?_
  simp only [decide_eq_false_iff_not, and_true]
  exact ⟨fun h i h0 hi => by have := h i h0 hi; omega, fun h i h0 hi => by have := h i h0 hi; omega⟩
theorem Uj {l : List Int} {x : Int} (h : XO l = true) (hx : ∀ y ∈ l, y < x) : XO (l ++ [x]) = true := by
  rw [MB] at h ⊢
  intro i h0 hi
  rw [List.length_append, List.length_singleton] at hi
  rw [KC, KC]
  by_cases h1 : i < l.length
  · rw [if_pos (by omega), if_pos h1]; exact h i h0 h1
  · rw [if_pos (by omega), if_neg h1, show i - l.length = 0 by omega]
    exact hx _ (by rw [X7 (by omega)]; exact List.getElem_mem _)
theorem IW {w : ZG} {b i k : Int} {d : Ze} (h : PlI b w) : PlI b (yK w i k d).1 := by
  have hl := h.w.ar
  refine I5 (P := fun r => PlI b r.1) h (fun _ h1 _ _ v _ _ _ h7 => ?_)
  obtain ⟨h8, h9⟩ := kR h1 (by omega)
  obtain ⟨e1, hw⟩ := Oc h.w h9 rfl h7 (Uj h.w.fo h.fo)
  rw [e1]
  refine ⟨hw, h.sb, fun x hx => ?_, h.c⟩
  show x < w.Next + 1
  rcases List.mem_append.1 hx with hx | hx
  · have := h.fo x hx; omega
  · rw [List.mem_singleton.1 hx]; omega
/- an item whose strand changes -/
theorem Eh {x : Zj} {s : ZQ} (h : Xp x = true) (hs : Ye s = true) (h0 : nth s.ZM 0 = nth x.ZP.ZM 0) : Xp (Zj.mk x.Id x.XI x.Doc x.Sig s) = true := by
  unfold Xp at h ⊢
  simp only [Bool.and_eq_true] at h ⊢
  exact ⟨⟨h.1.1, hs⟩, by rw [h0]; exact h.2⟩
theorem Rk {x : Zj} (h : Xp x = true) : 0 < x.ZP.ZM.length := by
  unfold Xp Ye at h
  simp only [Bool.and_eq_true] at h
  have h1 := h.1.2
  cases hc : ((!(Zc (x.ZP.ZM.length : Int) 1 12)) || (decide ((x.ZP.ZR.length : Int) > 8))) with
  | true => rw [hc, Yf] at h1; cases h1
  | false =>
    simp only [Bool.or_eq_false_iff, Bool.not_eq_false', qW] at hc
    omega
theorem Ta {a : ZJ} {k : Nat} {y : Zj} (h : Z1 a = true) (hy : Xp y = true) (n8 : y.Id = (nth a.ZD k).Id) : Z1 (ZJ.mk a.Id (a.ZD.set k y)) = true /\ (a.ZD.set k y).map (·.Id) = a.ZD.map (·.Id) := by
  have e : (a.ZD.set k y).map (·.Id) = a.ZD.map (·.Id) := by
    refine HV (by simp) (fun i hi => ?_)
    rw [List.length_map, List.length_set] at hi
    rw [qj (by rw [List.length_set]; exact hi), qj hi, Ji]
    split
    · rename_i hc; rw [n8, hc.1]
    · rfl
  have h := (jV a).1 h
  refine ⟨(jV _).2 ⟨fun x hx => ?_, by rw [e]; exact h.as, h.id, by rw [List.length_set]; exact h.ln⟩, e⟩
  rcases List.mem_or_eq_of_mem_set hx with hx | rfl
  · exact h.it x hx
  · exact hy
theorem WK {w : ZG} (h : PlW w) {i k : Nat} (hi : i < w.ZB.length) (hk : k < (nth w.ZB i).ZD.length) {s : ZQ} (hs : Ye s = true) (h0 : nth s.ZM 0 = nth (nth (nth w.ZB i).ZD k).ZP.ZM 0) :
    PlW (ZG.mk w.Frame w.ZZ w.YQ (w.ZB.set i (ZJ.mk (nth w.ZB i).Id ((nth w.ZB i).ZD.set k (Zj.mk (nth (nth w.ZB i).ZD k).Id (nth (nth w.ZB i).ZD k).XI (nth (nth w.ZB i).ZD k).Doc (nth (nth w.ZB i).ZD k).Sig s)))) w.YZ w.YR w.Next w.YK) := by
  have h1 := h.ok i hi
  have h2 : Xp (nth (nth w.ZB i).ZD k) = true := ((jV _).1 h1.1).it _ (by rw [X7 hk]; exact List.getElem_mem hk)
  obtain ⟨h3, h4⟩ := Ta (k := k) h1.1 (Eh h2 hs h0) rfl
  exact Eo h h3 h1.2 h4
theorem V7 {a : ZJ} {x : Int} (h : 0 <= Zm a x) : (Zm a x).toNat < a.ZD.length /\ (nth a.ZD (Zm a x).toNat).Id = x := by
  unfold Zm at h ⊢
  rcases Kd (L := Qc a x) (r := fun i => (i : Int)) (fun _ => rfl) (fun _ _ => rfl) (a.ZD.length + 1) 0 (by omega) with ⟨e, p⟩ | ⟨i, e, p1, p2, p3, p4⟩
  · rw [e] at h; simp at h
  · rw [e]
    exact ⟨by simpa using p2, by simpa using p3⟩
theorem TN {w : ZG} (h : PlW w) {i k : Nat} (hi : i < w.ZB.length) (hk : k < (nth w.ZB i).ZD.length) : Xp (nth (nth w.ZB i).ZD k) = true :=
  ((jV _).1 (h.ok i hi).1).it _ (by rw [X7 hk]; exact List.getElem_mem hk)
theorem WA {w : ZG} {b i id : Int} {st : Zr} (h : PlI b w) (h0 : 0 <= i) (hi : i < (w.ZB.length : Int)) : PlI b (Xe w i id st).1 := by
  refine UN (P := fun r => PlI b r.1) h (fun _ h2 h3 => ?_)
  obtain ⟨e, hs⟩ := UL h3
  obtain ⟨hk, _⟩ := V7 h2
  have o9 : i.toNat < w.ZB.length := by omega
  have hp := Rk (TN h.w o9 hk)
  have k := WK (s := _) h.w o9 hk hs (by
    show nth (_ ++ [_]) 0 = _
    rw [KC, if_pos hp])
  rw [<- e] at k
  have e2 : (Yu (nth w.ZB i.toNat) id (Yl (YH w.Frame.Zo st).1)).1 = ZJ.mk (nth w.ZB i.toNat).Id ((nth w.ZB i.toNat).ZD.set (Zm (nth w.ZB i.toNat) id).toNat (Zj.mk (nth (nth w.ZB i.toNat).ZD (Zm (nth w.ZB i.toNat) id).toNat).Id (nth (nth w.ZB i.toNat).ZD (Zm (nth w.ZB i.toNat) id).toNat).XI (nth (nth w.ZB i.toNat).ZD (Zm (nth w.ZB i.toNat) id).toNat).Doc (nth (nth w.ZB i.toNat).ZD (Zm (nth w.ZB i.toNat) id).toNat).Sig (Xf (nth (nth w.ZB i.toNat).ZD (Zm (nth w.ZB i.toNat) id).toNat).ZP (Yl (YH w.Frame.Zo st).1)).1)) := by
    unfold Yu
    rw [decide_eq_false (by omega), YW]
  rw [e2]
  exact ⟨k, h.sb, h.fo, h.c⟩
theorem N2 {w : ZG} {b id : Int} (h : PlI b w) : PlI b (qA w id).1 := by
  unfold qA
  refine Z7 (p := fun r : ZG × Bool => PlI b r.1) (fun _ => h) (fun hc => ?_)
  refine Z7 (p := fun r : ZG × Bool => PlI b r.1) (fun _ => h) (fun _ => ?_)
  simp only [Bool.or_eq_false_iff, Bool.not_eq_false'] at hc
  have k := xp w id hc.1
  exact Zs (p := fun r : ZG × Bool => PlI b r.1) (WA h k.1 k.2.1) (WA h k.1 k.2.1)
theorem Iu {w : ZG} {b i : Int} {ids : List Int} {o0 n : Int} (h : PlI b w) (hn : (ids.length : Int) <= n) (hb : b + n <= 4611686018427387904) : PlI (b + n) (JW w i ids o0).1 /\ (JW w i ids o0).1.YZ.length = w.YZ.length /\ (∀ j, j < w.YZ.length -> nth w.YZ j <= nth (JW w i ids o0).1.YZ j) := by
  have hl := h.w.ar
  refine Ho (P := fun r => PlI (b + n) r.1 /\ r.1.YZ.length = w.YZ.length /\ (∀ j, j < w.YZ.length -> nth w.YZ j <= nth r.1.YZ j)) (Q := fun v _ q => q.length = w.YZ.length /\ ∀ j, j < w.YZ.length -> nth w.YZ j <= nth q j /\ nth q j <= nth w.YZ j + v) ⟨Tk h (by omega), rfl, fun j _ => Int.le_refl _⟩ ⟨rfl, fun j _ => ⟨Int.le_refl _, by simp⟩⟩ (fun v l q t hv _ hq => ⟨by rw [List.length_set]; exact hq.1, fun j hj => ?_⟩) (fun h1 _ _ _ l q hq hk => ?_)
  · have z := hq.2 j hj
    rw [Ji]
    split
    · rename_i hc
      have k1 := h.w.sq j hj
      have k2 := h.sb j hj
      rw [hc.1]
      have e : W (nth q j + 1) = nth q j + 1 := by simp only [X9]; omega
      rw [e]
      omega
    · omega
  · obtain ⟨h8, h9⟩ := kR h1 (by omega)
    obtain ⟨_, k1, k2, _, _⟩ := O6 hk
    have k3 := SL hk
    have hs : ∀ j, j < q.length -> 0 <= nth q j := fun j hj => by rw [hq.1] at hj; have := h.w.sq j hj; have := hq.2 j hj; omega
    refine ⟨⟨Iw h.w k1 (by rw [k2]; exact (h.w.ok _ h9).2) (by rw [k3]; exact List.Sublist.refl _) hq.1 hs, fun j hj => ?_, h.fo, h.c⟩, hq.1, fun j hj => (hq.2 j hj).1⟩
    change j < q.length at hj
    rw [hq.1] at hj
    have := hq.2 j hj; have := h.sb j hj
    show nth q j <= b + n
    omega
theorem Us {w : ZG} {id t : Int} : ∀ (n v : Nat) (l : List Zf) (r : ZG × Bool), Ya w id t n v l = .inl r -> r = (w, false)
  | 0, v, l, r, h => by cases h
  | n + 1, v, l, r, h => by
    rw [Ya] at h
    revert h
    refine Zs (p := fun x : Sum (ZG × Bool) (List Zf) => x = .inl r -> r = (w, false)) ?_ (fun h => by cases h)
    exact Zs (p := fun x : Sum (ZG × Bool) (List Zf) => x = .inl r -> r = (w, false)) (fun h => by cases h; rfl) (fun h => Us n _ _ r h)
def Pr (w : ZG) (id : Int) (l : List Zf) : ZV := ZV.mk ((nth (nth w.ZB (ZF w id).1.toNat).ZD (ZF w id).2.toNat).ZP.ZM.length : Int) (Zk w.Frame.Methods w.Frame.Now) (QK (nth (nth w.ZB (ZF w id).1.toNat).ZD (ZF w id).2.toNat) (Zk w.Frame.Methods w.Frame.Now)) [] l
theorem Lh {P : ZG × Bool -> Prop} {w : ZG} {id t : Int} (h0 : P (w, false)) (h1 : XP w.YK id = true -> 0 <= (ZF w id).1 -> 0 <= Zk w.Frame.Methods w.Frame.Now -> Zh w ≠ [] -> ∀ l, Ya w id t ((Zh w).length + 1) 0 [] = .inr l -> (YL (nth (nth w.ZB (ZF w id).1.toNat).ZD (ZF w id).2.toNat).ZP (Pr w id l)).2 = true -> P (ZG.mk w.Frame w.ZZ w.YQ (w.ZB.set (ZF w id).1.toNat (ZJ.mk (nth w.ZB (ZF w id).1.toNat).Id ((nth w.ZB (ZF w id).1.toNat).ZD.set (ZF w id).2.toNat (Zj.mk (nth (nth w.ZB (ZF w id).1.toNat).ZD (ZF w id).2.toNat).Id (nth (nth w.ZB (ZF w id).1.toNat).ZD (ZF w id).2.toNat).XI (nth (nth w.ZB (ZF w id).1.toNat).ZD (ZF w id).2.toNat).Doc (nth (nth w.ZB (ZF w id).1.toNat).ZD (ZF w id).2.toNat).Sig (ZQ.mk (nth (nth w.ZB (ZF w id).1.toNat).ZD (ZF w id).2.toNat).ZP.ZM ((nth (nth w.ZB (ZF w id).1.toNat).ZD (ZF w id).2.toNat).ZP.ZR ++ [Pr w id l])))))) w.YZ w.YR w.Next w.YK, true)) : P (ZN w id t) := by
  unfold ZN
  refine Z7 (p := P) (fun _ => h0) (fun h => ?_)
  simp only [Bool.or_eq_false_iff, Bool.not_eq_false', decide_eq_false_iff_not, beq_eq_false_iff_ne] at h
  have e := fun r => Us (w := w) (id := id) (t := t) ((Zh w).length + 1) 0 [] r
  have h1 := h1 h.1.1.1 (by omega) (by omega) (fun e => h.2 (by rw [e]; rfl))
  generalize Ya w id t ((Zh w).length + 1) 0 [] = s at e h1 ⊢
  cases s with
  | inl r => rw [e r rfl]; exact h0
  | inr l =>
    have h1 := h1 l rfl
    cases ha : (YL (nth (nth w.ZB (ZF w id).1.toNat).ZD (ZF w id).2.toNat).ZP (Pr w id l)).2 with
    | true =>
      have h2 := h1 ha
      have e1 := (KV ha).1
      unfold Pr at ha e1
      dsimp only
      rw [ha, e1]
      exact h2
    | false =>
      have e1 : (YL (nth (nth w.ZB (ZF w id).1.toNat).ZD (ZF w id).2.toNat).ZP (Pr w id l)).1 = (nth (nth w.ZB (ZF w id).1.toNat).ZD (ZF w id).2.toNat).ZP := by
        unfold YL at ha ⊢
        revert ha
        exact Zs (p := fun z : ZQ × Bool => z.2 = false -> z.1 = _) (fun _ => rfl) (fun h => by cases h)
      unfold Pr at ha e1
      dsimp only
      rw [ha, e1]
      rw [show Zj.mk (nth (nth w.ZB (ZF w id).1.toNat).ZD (ZF w id).2.toNat).Id (nth (nth w.ZB (ZF w id).1.toNat).ZD (ZF w id).2.toNat).XI (nth (nth w.ZB (ZF w id).1.toNat).ZD (ZF w id).2.toNat).Doc (nth (nth w.ZB (ZF w id).1.toNat).ZD (ZF w id).2.toNat).Sig (nth (nth w.ZB (ZF w id).1.toNat).ZD (ZF w id).2.toNat).ZP = nth (nth w.ZB (ZF w id).1.toNat).ZD (ZF w id).2.toNat from rfl, Rf, show ZJ.mk (nth w.ZB (ZF w id).1.toNat).Id (nth w.ZB (ZF w id).1.toNat).ZD = nth w.ZB (ZF w id).1.toNat from rfl, Rf]
      exact h0
theorem EW {w : ZG} {b id t : Int} (h : PlI b w) : PlI b (ZN w id t).1 := by
  refine Lh (P := fun r => PlI b r.1) h (fun _ h2 _ _ l _ h5 => ?_)
  obtain ⟨k1, k2, k3⟩ := QH w id h2
  obtain ⟨_, k4⟩ := KV h5
  exact ⟨WK h.w k1 k3 k4 rfl, h.sb, h.fo, h.c⟩
theorem yd (n : Int) : YD n = YD 0 \/ YD n = YD 1 := by
  have e : qM 1 (KZ 0 n) = qM 1 (KZ 0 0) \/ qM 1 (KZ 0 n) = qM 1 (KZ 0 1) := by
    by_cases h : n > 0
    · right
      have e1 : KZ 0 n = n := by unfold KZ; simp only [h, decide_true, Yf]
      have e2 : ¬ n < 1 := by omega
      rw [e1]
      unfold qM
      simp only [e2, decide_false, YW]
      rfl
    · left
      have e1 : KZ 0 n = 0 := by unfold KZ; simp only [h, decide_false, YW]
      rw [e1]
      rfl
  rcases e with e | e
  · left; unfold YD; rw [e]
  · right; unfold YD; rw [e]
theorem Ck (x : Int) : PlI 0 (YD x) := by
  have h1 : W0 (YD x) = true := by rcases yd x with h | h <;> rw [h] <;> decide +kernel
  refine ⟨(HF _).1 h1, ?_, ?_, by rcases yd x with h | h <;> rw [h] <;> simp⟩
  · rcases yd x with h | h <;> rw [h] <;> decide +kernel
  · rcases yd x with h | h <;> rw [h] <;> decide +kernel
/- events -/
theorem OF {w : ZG} {b n : Int} (h : PlI b w) : PlI b (YE w n).1 := by rw [Rz]; exact Ez h
theorem Em {w : ZG} {b i k : Int} {d : Ze} {o e : Int} (h : PlI b w) : PlI b (YG w i k d o e).1 := by rw [PK]; exact (Fh h).1
theorem NM {w : ZG} {b id : Int} (h : PlI b w) : PlI b (Z0 w id).1 := by rw [Tz]; exact N2 h
theorem Iy {w : ZG} {b i : Int} {ids : List Int} {o0 n : Int} (h : PlI b w) (hs : Sm maxLen w) (hn : (ids.length : Int) <= n) (hb : b + n <= 4611686018427387904) : PlI (b + n) (XF w i ids o0).1 := by rw [RI _ _ _ _ hs]; exact (Iu h hn hb).1
theorem Sj (a0 : ZU) : PlI 500 (YF a0).2 := by
  obtain ⟨m, h1, h2, h3⟩ := VT (p := fun m w => PlI (100 * (5 - (m : Int))) w /\ m <= 5 /\ Sm (100 - 4 * m) w) (fun x _ _ => ⟨Ck x, Nat.le_refl _, ki (by decide)⟩)
    (fun m w a b k t e c hp => by
      obtain ⟨h1, h2, h3⟩ := hp
      have hc := FN (a := a) (b := b) (k := k) (c := c) (t := t) h3 (by omega)
      have hd := Bi (a := a) (b := b) (k := k) (c := c) (t := t) h3 (by omega)
      have hl := XN hd
      refine ⟨?_, by omega, Za (by omega) (Bo (a := a) (b := b) (k := k) (c := c) (t := t) (e := e) h3 (by omega))⟩
      have k := Iy (i := 0) (o0 := e) (n := 100) (OF (n := t) (NM (id := 1) (Em (i := a) (k := b) (d := (Zb c).2) (o := 0) (e := k) h1))) (Za (by unfold maxLen; omega) hc) (ids := YN (YE (Z0 (YG w a b (Zb c).2 0 k).1 1).1 t).1.Frame) (by omega) (by omega)
      exact Tk k (by omega)) a0
  exact Tk h2 (by omega)
/- strands -/
theorem Up {s : ZQ} (h : Ye s = true) : (1 <= s.ZM.length /\ s.ZM.length <= 12) /\ s.ZR.length <= 8 /\ (∀ i, i < s.ZM.length -> Qz (s.ZM.take i) (nth s.ZM i) = false) /\ ∀ k, k < s.ZR.length -> (1 <= (nth s.ZR k).Count /\ (nth s.ZR k).Count <= s.ZM.length) /\ (0 < k -> (nth s.ZR (k - 1)).Count <= (nth s.ZR k).Count) := by
  unfold Ye at h
  cases hc : ((!(Zc (s.ZM.length : Int) 1 12)) || (decide ((s.ZR.length : Int) > 8))) with
  | true => rw [hc, Yf] at h; cases h
  | false =>
    rw [hc, YW] at h
    have k1 := (Xx (L := yb s) (fun _ => rfl) (fun _ _ => rfl) (s.ZM.length + 1) 0 (by omega) _).1 h
    have k2 := ((Xx (L := yN s) (fun _ => rfl) (fun _ _ => rfl) (s.ZR.length + 1) 0 (by omega) true).1 k1.2).1
    simp only [Bool.or_eq_false_iff, Bool.not_eq_false', qW, decide_eq_false_iff_not] at hc
    refine ⟨⟨by omega, by omega⟩, by omega, fun i hi => k1.1 i (Nat.zero_le _) hi, fun k hk => ?_⟩
    have z := k2 k (Nat.zero_le _) hk
    simp only [Bool.or_eq_false_iff, Bool.not_eq_false', qW, Bool.and_eq_false_imp, decide_eq_true_eq, decide_eq_false_iff_not] at z
    exact ⟨z.1, fun h0 => by have := z.2 (by omega); omega⟩
theorem WD (f : ZW) (s : ZQ) (oS : List Int) : 0 <= Y7 f s oS := by
  unfold Y7
  exact Int.natCast_nonneg _
/- a piece behind all renewals has no bound -/
theorem TO {f : ZW} {s : ZQ} {oS : List Int} {i : Int} (hl : s.ZR.length <= 1000) (h : ∀ k : Nat, Y7 f s oS <= (k : Int) -> k < s.ZR.length -> (nth s.ZR k).Count <= i) : Kz f s oS i = f.Now := by
  have key : ∀ (n : Nat) (k : Int), Y7 f s oS <= k -> (s.ZR.length : Int) < n + k -> (k <= (s.ZR.length : Int) \/ 1 <= n) -> JT f s i n f.Now k = f.Now := by
    have h0 := WD f s oS
    intro n
    induction n with
    | zero =>
      intro k hk hn hz
      omega
    | succ n ih =>
      intro k hk hn _
      rw [JT]
      by_cases hc : k < (s.ZR.length : Int)
      · have e : W (k + 1) = k + 1 := by simp only [X9]; omega
        have eC := h k.toNat (by omega) (by omega)
        rw [decide_eq_true hc, Yf, decide_eq_false (by omega), YW, e]
        exact ih (k + 1) (by omega) (by omega) (.inl (by omega))
      · rw [decide_eq_false hc, YW]
  unfold Kz
  have h0 := WD f s oS
  exact key _ _ (Int.le_refl _) (by omega) (.inr (by omega))
theorem HK {w : ZG} {b i k : Int} {d : Ze} (h : PlI b w) : PlI b (JZ w i k d).1 := by rw [RG]; exact IW h
theorem EJ {w : ZG} {b id t : Int} (h : PlI b w) (hs : Sm maxLen w) : PlI b (Qp w id t).1 := by rw [V6 _ _ _ hs]; exact EW h
theorem S7 (a0 : ZU) : PlI 500 (Xz a0).2 := by
  have s := y6 (a0 := a0) (Nat.le_refl 100)
  have k := Sj a0
  have k1 := fun t => OF (n := t) k
  have s1 := fun t => y9 (a1 := t) s
  have k2 := fun t i j c => HK (i := i) (k := j) (d := (Zb c).2) (k1 t)
  have s2 := fun t i j c => Za (m := maxLen) (by decide) (jX (a1 := i) (a2 := j) (a3 := (Zb c).2) (s1 t) (xW (by decide)) (by decide))
  have k3 := fun t i j c x y => EJ (id := x) (t := y) (k2 t i j c) (s2 t i j c)
  unfold Xz
  refine Zs (p := fun z : ZU × ZG => PlI 500 z.2) ?_ ?_
  · with_reducible exact k3 _ _ _ _ _ _
  · with_reducible exact k1 _
/- renewals -/
theorem GP {l : List Zl} {q : Int} (h : ∀ t, qS l t q = false) : (yU l q).2 = false := by
  have key : ∀ n v x y, (Ju l q n false v x y).1 = false := by
    intro n
    induction n with
    | zero => intro v x y; rfl
    | succ n ih =>
      intro v x y
      rw [Ju]
      refine Zs (p := fun z : Bool × Int × Int => z.1 = false) ?_ rfl
      rw [h, YW]
      exact ih _ _ _
  have := key 10002 0 0 0
  unfold yU
  revert this
  generalize Ju l q 10002 false 0 0 0 = z
  obtain ⟨a, b, c⟩ := z
  exact id
theorem PS (a : List Zg) (l : List Zf) : ∀ (n : Nat) (acc : List Zl) (v : Nat), l.length < n + v -> v <= l.length ->
    (∀ r, yS a l n acc v = .inl r -> r.2 = false) /\ ∀ z, yS a l n acc v = .inr z -> z = acc ++ (l.drop v).map (fun s => (zM a s).1) /\ ∀ j, v <= j -> j < l.length -> (zM a (nth l j)).2 = true
  | 0, acc, v, h, hv => by omega
  | n + 1, acc, v, h, hv => by
    rw [yS]
    by_cases pa : v < l.length
    · rw [decide_eq_true (show (v : Int) < (l.length : Int) by omega), Yf]
      cases hc : (zM a (nth l v)).2 with
      | false =>
        rw [Bool.not_false, Yf]
        exact ⟨fun r h => (by cases h; rfl), fun z h => (by cases h)⟩
      | true =>
        rw [Bool.not_true, YW]
        obtain ⟨k1, k2⟩ := PS a l n (acc ++ [(zM a (nth l v)).1]) (v + 1) (by omega) pa
        refine ⟨k1, fun z hz => ?_⟩
        obtain ⟨k3, k4⟩ := k2 z hz
        refine ⟨?_, fun j h1 h2 => ?_⟩
        · rw [k3, List.drop_eq_getElem_cons pa, List.map_cons, X7 pa, List.append_assoc]; rfl
        · rcases Nat.eq_or_lt_of_le h1 with rfl | h1
          · exact hc
          · exact k4 j h1 h2
    · rw [decide_eq_false (show ¬ (v : Int) < (l.length : Int) by omega), YW, List.drop_eq_nil_of_le (by omega)]
      exact ⟨fun r h => (by cases h), fun z h => (by cases h; exact ⟨by simp, fun j h1 h2 => by omega⟩)⟩
theorem EO {a : List Zg} {r : ZV} {q : Int} (hl : r.YI.length <= 1000) (h : (r.YI.length : Int) <= q) : (Jq a r q).2 = false := by
  show (Jg a r.YI q).2 = false
  obtain ⟨k1, k2⟩ := PS a r.YI (r.YI.length + 1) [] 0 (by omega) (Nat.zero_le _)
  unfold Jg
  generalize yS a r.YI (r.YI.length + 1) [] 0 = s at k1 k2 ⊢
  cases s with
  | inl x => exact k1 x rfl
  | inr z =>
    have hz := (k2 z rfl).1
    refine GP fun t => ?_
    have e : z.length = r.YI.length := by rw [hz]; simp
    unfold qS
    have : Zc q 0 (W ((z.length : Int) - 1)) = false := by
      rw [Bool.eq_false_iff]
      intro hc
      rw [qW] at hc
      rw [e, show W ((r.YI.length : Int) - 1) = r.YI.length - 1 by simp only [X9]; omega] at hc
      omega
    rw [this]; rfl
theorem vD {keys : List Yp} {a : List Zg} {m : List Z5} {r : ZV} {T : Int} (hT : 0 <= T) {j : Nat} (hj : j < r.YI.length) (h : 0 <= Zu keys (Xd a (nth r.YI j)) -> Ky m (nth keys (Zu keys (Xd a (nth r.YI j))).toNat).Method <= T) : Jz keys a m r <= T := by
  have key : ∀ n b v, r.YI.length < n + v -> v <= r.YI.length -> (b <= T \/ v <= j) -> (match z4 keys a m r n b v with | .inl r1 => r1 | .inr z => z) <= T := by
    intro n
    induction n with
    | zero => intro b v h1 h2; omega
    | succ n ih =>
      intro b v h1 h2 h3
      rw [z4]
      by_cases hv : v < r.YI.length
      · rw [decide_eq_true (show (v : Int) < (r.YI.length : Int) by omega), Yf]
        cases hk : decide ((Zu keys (Xd a (nth r.YI v))) < 0) with
        | true => rw [Yf]; exact hT
        | false =>
          rw [YW]
          refine ih _ (v + 1) (by omega) hv ?_
          have hk := of_decide_eq_false hk
          by_cases hvj : v = j
          · subst hvj
            have := h (by omega)
            left; split <;> omega
          · rcases h3 with h3 | h3
            · left; split <;> omega
            · right; omega
      · rw [decide_eq_false (show ¬ (v : Int) < (r.YI.length : Int) by omega), YW]
        show b <= T
        omega
  exact key _ _ _ (by omega) (Nat.zero_le _) (.inr (Nat.zero_le _))
theorem F0 {f : ZW} {s : ZQ} (h0 : 0 < s.ZR.length) (hl : s.ZR.length <= 1000) (h : Jz f.Zo f.ZC f.Methods (nth s.ZR (s.ZR.length - 1)) <= f.Now) : jL f s (W ((s.ZR.length : Int) - 1)) = false := by
  unfold jL
  refine Z7 (p := (· = false)) (fun _ => rfl) (fun _ => ?_)
  rw [beq_self_eq_true, Yf, show (W ((s.ZR.length : Int) - 1)).toNat = s.ZR.length - 1 by simp only [X9]; omega]
  exact decide_eq_false (by omega)
theorem Ew {f : ZW} {s : ZQ} {oS : List Int} (h0 : 0 < s.ZR.length) (hf : (Jq f.ZC (nth s.ZR (s.ZR.length - 1)) f.X8).2 = false \/ jL f s (W ((s.ZR.length : Int) - 1)) = false) : Y7 f s oS = s.ZR.length := by
  have e : Qq f s oS (s.ZR.length + 1) s.ZR.length = s.ZR.length := by
    rw [Qq, decide_eq_true (by omega), Yf]
    rcases hf with hf | hf
    · rw [show (JJ f (nth s.ZR (s.ZR.length - 1))).2 = false from hf]; rfl
    · rw [hf, Bool.not_false, Bool.or_true, Yf]
  unfold Y7
  rw [e]
theorem DJ {b : Int} {w : ZG} (h : PlI b w) : w.Frame.Zo = yD /\ w.Frame.ZC = Xv /\ w.Frame.Methods = kS /\ ((w.Frame.X8 = 0 /\ w.YR = []) \/ (w.Frame.X8 = 1 /\ w.YR = [1])) := by
  rcases h.c with e | e
  · exact ⟨congrArg (·.1) e, congrArg (·.2.1) e, congrArg (·.2.2.1) e, .inl ⟨congrArg (·.2.2.2.1) e, congrArg (·.2.2.2.2.2) e⟩⟩
  · exact ⟨congrArg (·.1) e, congrArg (·.2.1) e, congrArg (·.2.2.1) e, .inr ⟨congrArg (·.2.2.2.1) e, congrArg (·.2.2.2.2.2) e⟩⟩
theorem Pf (w : ZG) : ∀ (n : Nat) (l : List Int) (v : Nat), w.Frame.ZC.length < n + v -> v <= w.Frame.ZC.length -> Xl w n l v = l ++ ((w.Frame.ZC.drop v).filter (fun a => XP w.YR a.Id || QF w.Frame a.Key)).map (·.Id)
  | 0, l, v, h, hv => by omega
  | n + 1, l, v, h, hv => by
    rw [Xl]
    by_cases pa : v < w.Frame.ZC.length
    · rw [decide_eq_true (show (v : Int) < (w.Frame.ZC.length : Int) by omega), Yf, List.drop_eq_getElem_cons pa, List.filter_cons, X7 pa]
      cases hk : (XP w.YR (w.Frame.ZC[v]).Id || QF w.Frame (w.Frame.ZC[v]).Key) with
      | true => rw [Yf, Pf w n _ _ (by omega) pa, List.append_assoc]; rfl
      | false => rw [YW, Pf w n _ _ (by omega) pa]; rfl
    · rw [decide_eq_false (show ¬ (v : Int) < (w.Frame.ZC.length : Int) by omega), YW, List.drop_eq_nil_of_le (by omega)]
      simp
theorem DF (w : ZG) : Zh w = (w.Frame.ZC.filter (fun a => XP w.YR a.Id || QF w.Frame a.Key)).map (·.Id) := by
  have h := Pf w (w.Frame.ZC.length + 1) [] 0 (by omega) (Nat.zero_le _)
  rw [List.drop_zero, List.nil_append] at h
  exact h
theorem Fk {k : List Yp} {a : List Zg} {s : Zf} (h : (XD k a s).2 = true) : (0 <= ZY a s.Authority /\ 0 <= s.Seq /\ JL s.Time = true) /\ (XD k a s).1 = Zf.mk s.Authority s.Seq s.Time s.Yt (J0 k (nth a (ZY a s.Authority).toNat).Key (QQ s)).1 := by
  revert h
  unfold XD
  refine Z7 (p := fun r : Zf × Bool => r.2 = true -> (0 <= ZY a s.Authority /\ 0 <= s.Seq /\ JL s.Time = true) /\ r.1 = Zf.mk s.Authority s.Seq s.Time s.Yt (J0 k (nth a (ZY a s.Authority).toNat).Key (QQ s)).1) (fun _ h => by cases h) (fun hc => ?_)
  refine Z7 (p := fun r : Zf × Bool => r.2 = true -> (0 <= ZY a s.Authority /\ 0 <= s.Seq /\ JL s.Time = true) /\ r.1 = Zf.mk s.Authority s.Seq s.Time s.Yt (J0 k (nth a (ZY a s.Authority).toNat).Key (QQ s)).1) (fun _ h => by cases h) (fun _ _ => ?_)
  simp only [Bool.or_eq_false_iff, Bool.not_eq_false', decide_eq_false_iff_not] at hc
  exact ⟨⟨by omega, by omega, hc.2⟩, rfl⟩
theorem FU {w : ZG} {id t : Int} : ∀ (n v : Nat) (l z : List Zf), (Zh w).length < n + v -> v <= (Zh w).length -> Ya w id t n v l = .inr z -> z.map (·.Authority) = l.map (·.Authority) ++ (Zh w).drop v
  | 0, v, l, z, hn, hv, h => by omega
  | n + 1, v, l, z, hn, hv, h => by
    rw [Ya] at h
    by_cases pa : v < (Zh w).length
    · rw [decide_eq_true (show (v : Int) < ((Zh w).length : Int) by omega), Yf] at h
      revert h
      refine Z7 (p := fun x : Sum (ZG × Bool) (List Zf) => x = .inr z -> z.map (·.Authority) = l.map (·.Authority) ++ (Zh w).drop v) (fun _ h => by cases h) (fun hc h => ?_)
      rw [Bool.not_eq_false'] at hc
      have k := FU n (v + 1) _ z (by omega) pa h
      rw [k, List.map_append, (Fk hc).2, List.drop_eq_getElem_cons pa, List.append_assoc]
      simp [X7 pa]
    · rw [decide_eq_false (show ¬ (v : Int) < ((Zh w).length : Int) by omega), YW] at h
      cases h
      rw [List.drop_eq_nil_of_le (by omega), List.append_nil]
theorem uN : ∀ a ∈ Xv, 0 <= ZY Xv a.Id /\ (nth Xv (ZY Xv a.Id).toNat).Key = a.Key := by decide
theorem CP {w : ZG} {b id t : Int} {l : List Zf} (h : PlI b w) (hl : Ya w id t ((Zh w).length + 1) 0 [] = .inr l) (ls : l.length <= 1000) : (∀ T, w.Frame.Now <= T -> Jz w.Frame.Zo w.Frame.ZC w.Frame.Methods (Pr w id l) <= T) \/ (Jq w.Frame.ZC (Pr w id l) w.Frame.X8).2 = false := by
  have e := FU _ _ _ _ (by omega) (Nat.zero_le _) hl
  rw [List.drop_zero, List.map_nil, List.nil_append] at e
  obtain ⟨c1, c2, c3, c4⟩ := DJ h
  by_cases pt : ∃ a ∈ w.Frame.ZC, QF w.Frame a.Key = true
  · left
    obtain ⟨a, ha, hs⟩ := pt
    intro T hT
    have h0 := L5 h.w.fr
    have hm : a.Id ∈ l.map (·.Authority) := by
      rw [e, DF]
      exact List.mem_map.2 ⟨a, List.mem_filter.2 ⟨ha, by rw [hs, Bool.or_true]⟩, rfl⟩
    obtain ⟨s, oV, pc⟩ := List.mem_map.1 hm
    obtain ⟨j, hj, ej⟩ := List.mem_iff_getElem.1 oV
    have hk : Xd w.Frame.ZC (nth l j) = a.Key := by
      rw [X7 hj, ej]
      unfold Xd
      rw [pc]
      rw [c2] at ha ⊢
      have z := uN a ha
      rw [decide_eq_true z.1, Yf, z.2]
    refine vD (j := j) (by omega) hj ?_
    show 0 <= Zu w.Frame.Zo (Xd w.Frame.ZC (nth l j)) -> Ky w.Frame.Methods (nth w.Frame.Zo (Zu w.Frame.Zo (Xd w.Frame.ZC (nth l j))).toNat).Method <= T
    rw [hk]
    intro hf
    unfold QF JH at hs
    rw [decide_eq_false (show ¬ Zu w.Frame.Zo a.Key < 0 by omega), YW] at hs
    simp only [Bool.and_eq_true, decide_eq_true_eq] at hs
    omega
  · right
    refine EO (by exact ls) ?_
    show (l.length : Int) <= w.Frame.X8
    have el : l.length = (w.Frame.ZC.filter (fun a => XP w.YR a.Id)).length := by
      have e2 := congrArg List.length e
      rw [List.length_map, DF, List.length_map] at e2
      rw [e2]
      congr 1
      refine List.filter_congr fun a ha => ?_
      cases hk : QF w.Frame a.Key with
      | true => exact absurd ⟨a, ha, hk⟩ pt
      | false => rw [Bool.or_false]
    rw [el, c2]
    rcases c4 with ⟨c4, c5⟩ | ⟨c4, c5⟩ <;> rw [c4, c5] <;> decide
/- histories: a renewal that was made at time T does not reach below T, or it is broken by then -/
theorem D6 (l : List Int) (x : Int) : VS l x = XP l x := by
  rw [Bool.eq_iff_iff, Wv]
  unfold VS
  exact RS (L := Wt l x) (len := l.length) (c := fun v => ((nth l v) == x)) (fun _ => rfl) (fun _ _ => rfl) (l.length + 1) 0 (by omega)
theorem uI {α : Type} [Inhabited α] (l : List α) (x : α) : nth (l ++ [x]) ((l ++ [x]).length - 1) = x := by
  rw [List.length_append, List.length_singleton, Nat.add_sub_cancel, RE]
/- a strand whose last renewal is bad -/
structure FJ (f : ZW) (s : ZQ) : Prop where
  pos : 0 < s.ZR.length
  len : s.ZR.length <= 8
  bad : (∀ T, f.Now <= T -> Jz f.Zo f.ZC f.Methods (nth s.ZR (s.ZR.length - 1)) <= T) \/ (Jq f.ZC (nth s.ZR (s.ZR.length - 1)) f.X8).2 = false
theorem ET {f : ZW} {s : ZQ} (h : FJ f s) {T : Int} (hT : f.Now <= T) (oS : List Int) : Y7 (ZW.mk f.Zo f.ZC f.Methods f.X8 T) s oS = s.ZR.length := by
  refine Ew h.pos ?_
  rcases h.bad with hb | hb
  · right
    have := h.len
    exact F0 h.pos (by omega) (hb T hT)
  · left; exact hb
theorem uU {w : ZG} {id t b : Int} (hw : PlI b w) (hs : Sm maxLen w) : ((ZN w id t).2 = false -> (ZN w id t).1 = w) /\ ((ZN w id t).2 = true -> XP w.YK id = true /\ (ZN w id t).1.Frame = w.Frame /\ FJ w.Frame (nth (nth (ZN w id t).1.ZB (ZF w id).1.toNat).ZD (ZF w id).2.toNat).ZP) := by
  refine Lh (P := fun r => (r.2 = false -> r.1 = w) /\ (r.2 = true -> XP w.YK id = true /\ r.1.Frame = w.Frame /\ FJ w.Frame (nth (nth r.1.ZB (ZF w id).1.toNat).ZD (ZF w id).2.toNat).ZP)) ⟨fun _ => rfl, fun h => by cases h⟩ (fun h1 h2 _ _ l h5 h6 => ⟨fun h => (by cases h), fun _ => ⟨h1, rfl, ?_⟩⟩)
  obtain ⟨k1, k2, k3⟩ := QH w id h2
  have h7 := (Up (KV h6).2).2.1
  have hl := (ze (a0 := w) (a1 := id) (a2 := t) ((Zh w).length + 1) 0 []).2 l h5
  have hf := JK w
  have ha : w.Frame.ZC.length = 4 := by rw [(DJ hw).2.1]; rfl
  rw [List.length_nil] at hl
  have hb := CP hw h5 (by omega)
  show FJ w.Frame (nth (nth (w.ZB.set _ _) _).ZD _).ZP
  rw [Ji, if_pos ⟨rfl, k1⟩]
  dsimp only
  rw [Ji, if_pos ⟨rfl, k3⟩]
  dsimp only at h7 ⊢
  generalize nth (nth w.ZB (ZF w id).1.toNat).ZD (ZF w id).2.toNat = x at h7 ⊢
  refine ⟨?_, h7, ?_⟩
  · show 0 < (x.ZP.ZR ++ [_]).length
    rw [List.length_append, List.length_singleton]; omega
  · dsimp only
    rw [uI]
    exact hb
theorem vV {f : ZW} {s : ZQ} (h : FJ f s) (oS : List Int) : Y7 f s oS = s.ZR.length := ET h (Int.le_refl _) oS
theorem Az {f : ZW} {s : ZQ} (h : FJ f s) (oS : List Int) : Kz f s oS 0 = f.Now := by
  have k : Y7 f s oS = s.ZR.length := ET h (Int.le_refl _) oS
  have := h.len
  exact TO (by omega) (fun k' h1 h2 => by rw [k] at h1; omega)
theorem OA (a0 : List UInt8) : qT a0 = true := by
  have hw : ∀ x : ZG, JF x x = true := fun x => by rw [z5]; simp
  have d1 : PlI 500 (ZA a0).1 := by
    have k := S7 (KN a0)
    unfold ZA
    with_reducible exact k
  obtain ⟨h1, h2⟩ := uU (id := (ZA a0).2.1) (t := (ZA a0).2.2) d1 (Ys (by decide))
  have hn := L5 d1.w.fr
  unfold qT
  refine Zs (p := (· = true)) rfl ?_
  rw [Wf]
  cases hc : (ZN (ZA a0).1 (ZA a0).2.1 (ZA a0).2.2).2 with
  | false => rw [h1 hc, Bool.not_false, Yf, hw]
  | true =>
    obtain ⟨e1, e2, e3⟩ := h2 hc
    have e4 := ET e3 hn.2
    have e5 := fun d => vV e3 d
    rw [Bool.not_true, YW, D6, e1, e2]
    generalize nth (nth (ZN (ZA a0).1 (ZA a0).2.1 (ZA a0).2.2).1.ZB (ZF (ZA a0).1 (ZA a0).2.1).1.toNat).ZD (ZF (ZA a0).1 (ZA a0).2.1).2.toNat = x at e3 e4 e5 ⊢
    rw [Az e3, e4, e5]
    simp
end Go.Mo
