/- The plain law of FnSteps: every step keeps a world valid, numbers of stamps and items only grow, a step that is refused changes nothing. No condition. -/
import Derived.Test.YthbcljgpeciofaaGreatE
namespace Go.Mo
open Go.Vm
set_option linter.unusedSimpArgs false
set_option linter.unusedVariables false
@[simp] theorem S7 (a0 a1 : List ByteArray) : xi a0 a1 = decide (a0 = a1) := HZ (F := yH a0 a1) (c := fun i => !decide ((nth a0 i) = (nth a1 i))) (fun i => rfl) (fun _ => rfl) (fun _ _ => rfl)
theorem km {α : Type} [DecidableEq α] (a b : α) : (a == b) = decide (a = b) := by by_cases h : a = b <;> simp [h]
@[simp] theorem U6 (a0 a1 : Zd) : Ki a0 a1 = decide (a0 = a1) := by
  cases a0; cases a1; simp [Ki, km, Bool.and_assoc]
theorem Ef (x y : Zo) : ((x.Authority == y.Authority) && ((x.Seq == y.Seq) && ((x.Time == y.Time) && ((x.XJ == y.XJ) && (x.Mark == y.Mark))))) = decide (x = y) := by
  cases x; cases y; simp [km]
theorem Dg (x y : X4) : ((x.XJ == y.XJ) && (x.Left == y.Left)) = decide (x = y) := by
  cases x; cases y; simp [km]
@[simp] theorem Ry (a0 a1 : List Zo) : qU a0 a1 = decide (a0 = a1) := HZ (F := yk a0 a1) (c := fun i => !((nth a0 i).Authority == (nth a1 i).Authority && ((nth a0 i).Seq == (nth a1 i).Seq && ((nth a0 i).Time == (nth a1 i).Time && ((nth a0 i).XJ == (nth a1 i).XJ && (nth a0 i).Mark == (nth a1 i).Mark))))) (fun i => by rw [Ef]) (fun _ => rfl) (fun _ _ => rfl)
theorem V1 {α : Type} {a b : List α} (h : ¬ a.length = b.length) : ((a.length : Int) != (b.length : Int)) = true := by simp; omega
@[simp] theorem Tp (a0 a1 : Zc) : Jv a0 a1 = decide (a0 = a1) := by
  unfold Jv
  by_cases hl : a0.Path.length = a1.Path.length
  · rw [jN (F := zX a0 a1) (a := a0.Path) (b := a1.Path) (c := fun i => !((nth a0.Path i).XJ == (nth a1.Path i).XJ && (nth a0.Path i).Left == (nth a1.Path i).Left)) hl (fun i => by rw [Dg]) (fun _ => rfl) (fun _ _ => rfl)]
    obtain ⟨t, p, s, u, v⟩ := a0; obtain ⟨t', p', s', u', v'⟩ := a1
    by_cases h1 : t = t' <;> by_cases h2 : p = p' <;> by_cases h3 : s = s' <;> by_cases h4 : u = u' <;> simp_all
  · have : a0 ≠ a1 := fun h => hl (by rw [h])
    simp [this, V1 hl]
@[simp] theorem UE (a0 a1 : List Zf) : zb a0 a1 = decide (a0 = a1) := HZ (F := KZ a0 a1) (c := fun i => !JQ (nth a0 i) (nth a1 i)) (fun i => by simp) (fun _ => rfl) (fun _ _ => rfl)
@[simp] theorem SV (a0 a1 : Zi) : zl a0 a1 = decide (a0 = a1) := by
  unfold zl
  by_cases hl : a0.Zj.length = a1.Zj.length
  · rw [jN (F := yA a0 a1) (a := a0.Zj) (b := a1.Zj) (c := fun i => !Jv (nth a0.Zj i) (nth a1.Zj i)) hl (fun i => by simp) (fun _ => rfl) (fun _ _ => rfl)]
    obtain ⟨t, p⟩ := a0; obtain ⟨t', p'⟩ := a1
    by_cases h1 : t = t' <;> by_cases h2 : p = p' <;> simp_all
  · have : a0 ≠ a1 := fun h => hl (by rw [h])
    simp [this, V1 hl]
theorem C1 (x y : Zm) : ((x.Key == y.Key) && ((x.ZV == y.ZV) && ((x.Method == y.Method) && ((x.XJ == y.XJ) && ((x.y6 == y.y6) && ((x.Org == y.Org) && ((x.y1 == y.y1) && ((x.j6 == y.j6) && (x.Mark == y.Mark))))))))) = decide (x = y) := by
  cases x; cases y; simp [km]
@[simp] theorem Of (a0 a1 : ZZ) : yE a0 a1 = decide (a0 = a1) := by
  unfold yE
  rw [C1]
  obtain ⟨t, p, s, u, v⟩ := a0; obtain ⟨t', p', s', u', v'⟩ := a1
  by_cases h1 : t = t' <;> by_cases h2 : p = p' <;> by_cases h3 : s = s' <;> by_cases h4 : u = u' <;> simp_all
@[simp] theorem SB (a0 a1 : ZF) : Jy a0 a1 = decide (a0 = a1) := by
  unfold Jy
  by_cases hl : a0.ZC.length = a1.ZC.length
  · rw [jN (F := zZ a0 a1) (a := a0.ZC) (b := a1.ZC) (c := fun i => !yE (nth a0.ZC i) (nth a1.ZC i)) hl (fun i => by simp) (fun _ => rfl) (fun _ _ => rfl)]
    obtain ⟨t, p⟩ := a0; obtain ⟨t', p'⟩ := a1
    by_cases h1 : t = t' <;> by_cases h2 : p = p' <;> simp_all
  · have : a0 ≠ a1 := fun h => hl (by rw [h])
    simp [this, V1 hl]
theorem BO (x y : Y4) : ((x.Number == y.Number) && ((x.zY == y.zY) && ((x.Method == y.Method) && ((x.qN == y.qN) && (x.jC == y.jC))))) = decide (x = y) := by
  cases x; cases y; simp [km]
theorem Dz (x y : Zr) : ((x.Id == y.Id) && ((x.Key == y.Key) && (x.Error == y.Error))) = decide (x = y) := by
  cases x; cases y; simp [km]
theorem Ce (x y : YH) : ((x.Id == y.Id) && ((x.Wn == y.Wn) && ((x.Ends == y.Ends) && (x.WJ == y.WJ)))) = decide (x = y) := by
  cases x; cases y; simp [km]
theorem D2 (x y : Ye) : ((x.ZV == y.ZV) && ((x.Key == y.Key) && ((x.zY == y.zY) && ((x.qA == y.qA) && ((x.To == y.To) && ((x.Zn == y.Zn) && (x.Mark == y.Mark))))))) = decide (x = y) := by
  cases x; cases y; simp [km]
@[simp] theorem WZ (a0 a1 : Zv) : yi a0 a1 = decide (a0 = a1) := by
  unfold yi
  by_cases h1 : a0.Zk.length = a1.Zk.length
  · by_cases h2 : a0.ZD.length = a1.ZD.length
    · by_cases h3 : a0.Methods.length = a1.Methods.length
      · rw [jN (F := yv a0 a1) (a := a0.Zk) (b := a1.Zk) (c := fun i => _) h1 (fun i => congrArg (! ·) (BO (nth a0.Zk i) (nth a1.Zk i))) (fun _ => rfl) (fun _ _ => rfl),
          jN (F := yl a0 a1) (a := a0.ZD) (b := a1.ZD) (c := fun i => _) h2 (fun i => congrArg (! ·) (Dz (nth a0.ZD i) (nth a1.ZD i))) (fun _ => rfl) (fun _ _ => rfl),
          jN (F := yu a0 a1) (a := a0.Methods) (b := a1.Methods) (c := fun i => _) h3 (fun i => congrArg (! ·) (Ce (nth a0.Methods i) (nth a1.Methods i))) (fun _ => rfl) (fun _ _ => rfl)]
        obtain ⟨t, p, s, u, v⟩ := a0; obtain ⟨t', p', s', u', v'⟩ := a1
        by_cases h4 : t = t' <;> by_cases h5 : p = p' <;> by_cases h6 : s = s' <;> by_cases h7 : u = u' <;> by_cases h8 : v = v' <;> simp_all
      · have : a0 ≠ a1 := fun h => h3 (by rw [h])
        simp [this, V1 h3]
    · have : a0 ≠ a1 := fun h => h2 (by rw [h])
      simp [this, V1 h2]
  · have : a0 ≠ a1 := fun h => h1 (by rw [h])
    simp [this, V1 h1]
@[simp] theorem Wm (a0 a1 : ZH) : KT a0 a1 = decide (a0 = a1) := by
  unfold KT
  by_cases h1 : a0.ZR.length = a1.ZR.length
  · by_cases h2 : a0.ZA.length = a1.ZA.length
    · rw [jN (F := ym a0 a1) (a := a0.ZR) (b := a1.ZR) (c := fun i => _) h1 (fun i => congrArg (! ·) (D2 (nth a0.ZR i) (nth a1.ZR i))) (fun _ => rfl) (fun _ _ => rfl),
        jN (F := yo a0 a1) (a := a0.ZA) (b := a1.ZA) (c := fun i => !Jy (nth a0.ZA i) (nth a1.ZA i)) h2 (fun i => by simp) (fun _ => rfl) (fun _ _ => rfl)]
      simp only [WZ, V0]
      obtain ⟨f, c, e, a, s, l, n, g⟩ := a0; obtain ⟨f', c', e', a', s', l', n', g'⟩ := a1
      by_cases q1 : f = f'
      · by_cases q2 : c = c'
        · by_cases q3 : e = e'
          · by_cases q4 : a = a' <;> by_cases q5 : s = s' <;> by_cases q6 : l = l' <;> by_cases q7 : n = n' <;> by_cases q8 : g = g' <;> simp_all
          · simp_all
        · simp_all
      · simp_all
    · have : a0 ≠ a1 := fun h => h2 (by rw [h])
      simp [this, V1 h2]
  · have : a0 ≠ a1 := fun h => h1 (by rw [h])
    simp [this, V1 h1]
theorem Sv (a0 : ZH) (k : Nat) : ∀ (n : Nat) (l : List Int) (v : Nat), J7 a0 k n l v ≠ .inl true := by
  intro n
  induction n with
  | zero => intro l v h; cases h
  | succ n ih =>
    intro l v h
    rw [J7] at h
    generalize decide ((v : Int) < ((nth a0.ZA k).ZC.length : Int)) = c at h
    cases c with
    | false => cases h
    | true =>
      simp only [cond_true] at h
      generalize (Jd l (nth (nth a0.ZA k).ZC v).Id || decide ((nth (nth a0.ZA k).ZC v).Id >= a0.Next)) = c at h
      cases c with
      | true => cases h
      | false => exact ih _ _ h
theorem S3 (a0 : ZH) : ∀ (n : Nat) (l : List Int) (v : Nat), Kz a0 n l v ≠ .inl true := by
  intro n
  induction n with
  | zero => intro l v h; cases h
  | succ n ih =>
    intro l v h
    rw [Kz] at h
    generalize decide ((v : Int) < (a0.ZA.length : Int)) = c at h
    cases c with
    | false => cases h
    | true =>
      simp only [cond_true] at h
      generalize (!YC (nth a0.ZA v) || (nth a0.ZA v).Id != (v : Int)) = c at h
      cases c with
      | true => cases h
      | false =>
        simp only [cond_false] at h
        cases hh : J7 a0 v ((nth a0.ZA v).ZC.length + 1) l 0 with
        | inl r =>
          rw [hh] at h; simp only at h
          cases h; exact Sv _ _ _ _ _ hh
        | inr z => rw [hh] at h; exact ih _ _ h
theorem DC (s : Sum Bool Unit) (X : Bool) : s ≠ .inl true -> ((match s with | .inl r => r | .inr _ => X) = true ↔ s = .inr () /\ X = true) := by
  intro h
  cases s with
  | inl r => cases r with
    | true => exact absurd rfl h
    | false => simp
  | inr u => simp
def yT (l : List ZF) : List Int := l.flatMap (fun a => a.ZC.map (·.Id))
def WO (nx : Int) (l m : List Int) : Prop := (∀ x ∈ m, x ∉ l /\ x < nx) /\ m.Nodup
theorem CA (l : List Int) (x : Int) : Jd l x = true ↔ x ∈ l := by
  rw [Sf]
  constructor
  · rintro ⟨i, _, h, e⟩
    rw [beq_iff_eq, Jr h] at e
    rw [<- e]; exact List.getElem_mem h
  · intro h
    obtain ⟨i, hi, e⟩ := List.mem_iff_getElem.1 h
    exact ⟨i, Nat.zero_le _, hi, by rw [beq_iff_eq, Jr hi, e]⟩
theorem W1 {nx x : Int} {l m : List Int} : WO nx l (x :: m) ↔ (x ∉ l /\ x < nx) /\ WO nx (l ++ [x]) m := by
  unfold WO
  rw [List.nodup_cons]
  constructor
  · rintro ⟨h1, h2, h3⟩
    refine ⟨h1 x List.mem_cons_self, fun y hy => ⟨fun hm => ?_, (h1 y (List.mem_cons_of_mem _ hy)).2⟩, h3⟩
    rcases List.mem_append.1 hm with hm | hm
    · exact (h1 y (List.mem_cons_of_mem _ hy)).1 hm
    · rw [List.mem_singleton.1 hm] at hy; exact h2 hy
  · rintro ⟨h1, h2, h3⟩
    refine ⟨fun y hy => ?_, fun hx => (h2 x hx).1 (List.mem_append.2 (.inr (List.mem_singleton.2 rfl))), h3⟩
    rcases List.mem_cons.1 hy with rfl | hy
    · exact h1
    · exact ⟨fun hm => (h2 y hy).1 (List.mem_append.2 (.inl hm)), (h2 y hy).2⟩
theorem US (nx : Int) (l : List Int) : WO nx l [] := ⟨fun x h => (by cases h), List.nodup_nil⟩
theorem Gr {nx : Int} {l m k : List Int} : WO nx l (m ++ k) ↔ WO nx l m /\ WO nx (l ++ m) k := by
  induction m generalizing l with
  | nil => rw [List.nil_append, List.append_nil]; exact ⟨fun h => ⟨US _ _, h⟩, fun h => h.2⟩
  | cons x m ih =>
    rw [List.cons_append, W1, W1, ih, List.append_assoc]
    exact ⟨fun h => ⟨⟨h.1, h.2.1⟩, h.2.2⟩, fun h => ⟨h.1.1, h.1.2, h.2⟩⟩
theorem Bw (w : ZH) (k : Nat) : ∀ (n : Nat) (l : List Int) (v : Nat), (nth w.ZA k).ZC.length < n + v -> v <= (nth w.ZA k).ZC.length ->
    (J7 w k n l v = .inr (l ++ ((nth w.ZA k).ZC.drop v).map (·.Id)) /\ WO w.Next l (((nth w.ZA k).ZC.drop v).map (·.Id))) \/ (J7 w k n l v = .inl false /\ ¬ WO w.Next l (((nth w.ZA k).ZC.drop v).map (·.Id)))
  | 0, l, v, h, hv => by omega
  | n + 1, l, v, h, hv => by
    rw [J7]
    by_cases uL : v < (nth w.ZA k).ZC.length
    · rw [decide_eq_true (show (v : Int) < ((nth w.ZA k).ZC.length : Int) by omega), Xh, List.drop_eq_getElem_cons uL, List.map_cons, Jr uL, W1]
      generalize hx : ((nth w.ZA k).ZC[v]).Id = x
      cases hc : (Jd l x || decide (x >= w.Next)) with
      | true =>
        rw [Xh]
        refine .inr ⟨rfl, fun hg => ?_⟩
        rcases Bool.or_eq_true _ _ ▸ hc with h1 | h1
        · exact hg.1.1 ((CA _ _).1 h1)
        · have := of_decide_eq_true h1; have := hg.1.2; omega
      | false =>
        rw [Y8]
        rw [Bool.or_eq_false_iff] at hc
        have hn : x ∉ l /\ x < w.Next := ⟨fun hm => (by rw [(CA _ _).2 hm] at hc; cases hc.1), (by have := of_decide_eq_false hc.2; omega)⟩
        rcases Bw w k n (l ++ [x]) (v + 1) (by omega) uL with ⟨e, hg⟩ | ⟨e, hg⟩
        · exact .inl ⟨by rw [e, List.append_assoc]; rfl, hn, hg⟩
        · exact .inr ⟨e, fun h => hg h.2⟩
    · rw [decide_eq_false (show ¬ (v : Int) < ((nth w.ZA k).ZC.length : Int) by omega), Y8, List.drop_eq_nil_of_le (by omega), List.map_nil, List.append_nil]
      exact .inl ⟨rfl, US _ _⟩
theorem B4 (w : ZH) : ∀ (n : Nat) (l : List Int) (v : Nat), w.ZA.length < n + v -> v <= w.ZA.length ->
    (Kz w n l v = .inr () ↔ (∀ i, v <= i -> i < w.ZA.length -> YC (nth w.ZA i) = true /\ (nth w.ZA i).Id = (i : Int)) /\ WO w.Next l (yT (w.ZA.drop v)))
  | 0, l, v, h, hv => by omega
  | n + 1, l, v, h, hv => by
    rw [Kz]
    by_cases uL : v < w.ZA.length
    · rw [decide_eq_true (show (v : Int) < (w.ZA.length : Int) by omega), Xh]
      have e1 : yT (w.ZA.drop v) = (nth w.ZA v).ZC.map (·.Id) ++ yT (w.ZA.drop (v + 1)) := by
        rw [List.drop_eq_getElem_cons uL, Jr uL]; rfl
      rw [e1, Gr]
      cases hc : (!YC (nth w.ZA v) || (nth w.ZA v).Id != (v : Int)) with
      | true =>
        rw [Xh]
        refine ⟨fun h => (by cases h), fun h => ?_⟩
        obtain ⟨h1, h2⟩ := h.1 v (Nat.le_refl _) uL
        rw [h1, h2] at hc
        simp at hc
      | false =>
        rw [Y8]
        simp only [Bool.or_eq_false_iff, Bool.not_eq_false', bne_eq_false_iff_eq] at hc
        rcases Bw w v ((nth w.ZA v).ZC.length + 1) l 0 (by omega) (Nat.zero_le _) with ⟨e, hg⟩ | ⟨e, hg⟩
        · rw [e]
          rw [List.drop_zero] at hg ⊢
          refine (B4 w n _ (v + 1) (by omega) uL).trans ⟨fun h => ⟨fun i h1 h2 => ?_, hg, h.2⟩, fun h => ⟨fun i h1 h2 => h.1 i (by omega) h2, h.2.2⟩⟩
          rcases Nat.eq_or_lt_of_le h1 with rfl | h1
          · exact hc
          · exact h.1 i h1 h2
        · rw [e]
          rw [List.drop_zero] at hg
          exact ⟨fun h => (by cases h), fun h => absurd h.2.1 hg⟩
    · rw [decide_eq_false (show ¬ (v : Int) < (w.ZA.length : Int) by omega), Y8, List.drop_eq_nil_of_le (by omega)]
      exact ⟨fun _ => ⟨fun i h1 h2 => by omega, US _ _⟩, fun _ => rfl⟩
structure PlW (w : ZH) : Prop where
  fr : yR w.Frame = true
  en : w.Zu.length = w.ZR.length
  ar : 1 <= w.ZA.length /\ w.ZA.length <= 4
  sl : w.YG.length = w.Frame.ZD.length
  ll : (w.YW.length : Int) <= w.Frame.Ky
  nx : 1 <= w.Next
  lr : Qg w.YW = true
  fo : Qg w.Yk = true
  ce : ∀ i, i < w.ZR.length -> kW w.Frame.Zk (nth w.ZR i) = true /\ XU w.ZR (nth w.ZR i).ZV = (i : Int) /\ Za (nth w.Zu i) (-1) 10001 = true
  ok : ∀ i, i < w.ZA.length -> YC (nth w.ZA i) = true /\ (nth w.ZA i).Id = (i : Int)
  nd : (yT w.ZA).Nodup
  lt : ∀ x ∈ yT w.ZA, x < w.Next
  sq : ∀ i, i < w.YG.length -> 0 <= nth w.YG i
  lf : ∀ i, i < w.YW.length -> 0 <= ZW w.Frame.ZD (nth w.YW i)
theorem jm (w : ZH) : QM w = true ↔ PlW w := by
  unfold QM
  have hi : ∀ b : Bool, (bif b then false else (match qk w (w.ZR.length + 1) 0 with | .inl r1 => r1 | .inr _ => (match Kz w (w.ZA.length + 1) ([] : List Int) 0 with | .inl r2 => r2 | .inr _ => (match qi w (w.YG.length + 1) 0 with | .inl r4 => r4 | .inr _ => (match qv w (w.YW.length + 1) 0 with | .inl r5 => r5 | .inr _ => true))))) = true ↔ b = false /\ _ := fun b => by
    cases b
    · exact ((Jb (L := qk w) (fun _ => rfl) (fun _ _ => rfl) (w.ZR.length + 1) 0 (by omega) _).trans (and_congr_right fun _ => (DC _ _ (S3 w (w.ZA.length + 1) [] 0)).trans (and_congr_right fun _ => (Jb (L := qi w) (fun _ => rfl) (fun _ _ => rfl) (w.YG.length + 1) 0 (by omega) _).trans (and_congr_right fun _ => Jb (L := qv w) (fun _ => rfl) (fun _ _ => rfl) (w.YW.length + 1) 0 (by omega) _)))).trans ⟨fun h => ⟨rfl, h⟩, fun h => h.2⟩
    · exact ⟨fun h => (by cases h), fun h => (by cases h.1)⟩
  refine (hi _).trans ?_
  rw [B4 w (w.ZA.length + 1) [] 0 (by omega) (Nat.zero_le _), List.drop_zero]
  simp only [Bool.or_eq_false_iff, Bool.not_eq_false', beq_iff_eq, bne_eq_false_iff_eq, decide_eq_false_iff_not, Za, Bool.and_eq_true, decide_eq_true_eq]
  constructor
  · rintro ⟨⟨⟨⟨⟨⟨⟨⟨h1, h2⟩, h3⟩, h4⟩, h5⟩, h6⟩, h7⟩, h8⟩, h9, ⟨ru, nq, lN⟩, gF, gG, _⟩
    exact ⟨h1, by omega, by omega, by omega, by omega, by omega, h7, h8, fun i hi => ⟨(h9 i (Nat.zero_le _) hi).1.1, (h9 i (Nat.zero_le _) hi).1.2, by have := (h9 i (Nat.zero_le _) hi).2; simpa [Za] using this⟩, fun i hi => ru i (Nat.zero_le _) hi, lN, fun x hx => (nq x hx).2, fun i hi => by have := gF i (Nat.zero_le _) hi; omega, fun i hi => by have := gG i (Nat.zero_le _) hi; omega⟩
  · intro h
    refine ⟨⟨⟨⟨⟨⟨⟨⟨h.fr, by have := h.en; omega⟩, by have := h.ar; omega⟩, by have := h.sl; omega⟩, by have := h.ll; omega⟩, by have := h.nx; omega⟩, h.lr⟩, h.fo⟩, fun i _ hi => ⟨⟨(h.ce i hi).1, (h.ce i hi).2.1⟩, by have := (h.ce i hi).2.2; simpa [Za] using this⟩, ⟨fun i _ hi => h.ok i hi, fun x hx => ⟨fun hn => (by cases hn), h.lt x hx⟩, h.nd⟩, fun i _ hi => by have := h.sq i hi; omega, fun i _ hi => by have := h.lf i hi; omega, trivial⟩
/- archives -/
theorem zg {α : Type} [Inhabited α] (l : List α) (i j : Nat) (x : α) : nth (l.set i x) j = if i = j /\ j < l.length then x else nth l j := by
  simp only [nth, List.getD_eq_getElem?_getD, List.getElem?_set]
  by_cases h : i = j
  · subst h
    by_cases h2 : i < l.length
    · simp [h2]
    · simp [h2]
  · simp [h]
structure PlA (a : ZF) : Prop where
  it : ∀ x ∈ a.ZC, JF x = true
  as : (a.ZC.map (·.Id)).Pairwise (· < ·)
  id : 0 <= a.Id /\ a.Id <= 99
  ln : a.ZC.length <= 8
theorem ka (a : ZF) : YC a = true ↔ PlA a := by
  unfold YC
  refine (Jb (L := zR a) (fun _ => rfl) (fun _ _ => rfl) (a.ZC.length + 1) 0 (by omega) _).trans ?_
  simp only [Bool.or_eq_false_iff, Bool.not_eq_false', Bool.and_eq_false_imp, decide_eq_true_eq, decide_eq_false_iff_not, Za, Bool.and_eq_true]
  constructor
  · rintro ⟨h1, ⟨h2, h3⟩, h4⟩
    refine ⟨fun x hx => ?_, ?_, ⟨h2, h3⟩, by omega⟩
    · obtain ⟨i, hi, e⟩ := List.mem_iff_getElem.1 hx
      have := (h1 i (Nat.zero_le _) hi).1
      rw [Jr hi, e] at this
      exact this
    · have hc : ∀ i, 0 < i -> i < (a.ZC.map (·.Id)).length -> nth (a.ZC.map (·.Id)) (i - 1) < nth (a.ZC.map (·.Id)) i := fun i h0 hi => by
        rw [List.length_map] at hi
        rw [Uw (by omega), Uw hi]
        have := (h1 i (Nat.zero_le _) hi).2 (by omega)
        omega
      rw [List.pairwise_iff_getElem]
      intro i j hi hj oQ
      have := R0 hc (j - i) i (by omega) (by omega)
      rw [show i + (j - i) = j by omega, Jr hi, Jr hj] at this
      exact this
  · intro h
    refine ⟨fun i _ hi => ⟨h.it _ (by rw [Jr hi]; exact List.getElem_mem hi), fun h0 => ?_⟩, h.id, by have := h.ln; omega⟩
    have := List.pairwise_iff_getElem.1 h.as (i - 1) i (by rw [List.length_map]; omega) (by rw [List.length_map]; exact hi) (by omega)
    rw [List.getElem_map, List.getElem_map] at this
    rw [Jr (show i - 1 < a.ZC.length by omega), Jr hi]
    omega
theorem Pn (a : ZF) (l : List ZF) : yT (a :: l) = a.ZC.map (·.Id) ++ yT l := rfl
theorem Nb (l m : List ZF) : yT (l ++ m) = yT l ++ yT m := List.flatMap_append
theorem W6 (l : List ZF) (i : Nat) (h : i < l.length) : ∃ A B, yT l = A ++ ((nth l i).ZC.map (·.Id) ++ B) /\ ∀ a, yT (l.set i a) = A ++ (a.ZC.map (·.Id) ++ B) := by
  refine ⟨yT (l.take i), yT (l.drop (i + 1)), ?_, fun a => ?_⟩
  · rw [<- Pn, <- Nb, Jr h, <- List.drop_eq_getElem_cons h, List.take_append_drop]
  · rw [<- Pn, <- Nb, List.set_eq_take_append_cons_drop, if_pos h]
theorem O6 {l : List ZF} {i : Nat} {a : ZF} (e : (a.ZC.map (·.Id)).Sublist ((nth l i).ZC.map (·.Id))) : (yT (l.set i a)).Sublist (yT l) := by
  by_cases h : i < l.length
  · obtain ⟨A, B, h1, h2⟩ := W6 l i h
    rw [h2, h1]
    exact (List.Sublist.refl A).append (e.append (List.Sublist.refl B))
  · rw [List.set_eq_of_length_le (by omega)]
    exact List.Sublist.refl _
theorem NL {l : List ZF} {i : Nat} {a : ZF} {x : Int} (h : i < l.length) (e : (a.ZC.map (·.Id)).Perm (x :: (nth l i).ZC.map (·.Id))) : (yT (l.set i a)).Perm (x :: yT l) := by
  obtain ⟨A, B, h1, h2⟩ := W6 l i h
  rw [h2, h1]
  refine List.Perm.trans (List.Perm.append_left A (List.Perm.append_right B e)) ?_
  rw [List.cons_append]
  exact List.perm_middle
/- the arrangement of a world stays -/
theorem V3 {w : ZH} (h : PlW w) {i : Nat} {a : ZF} (ha : YC a = true) (pg : a.Id = (i : Int)) : ∀ j, j < (w.ZA.set i a).length -> YC (nth (w.ZA.set i a) j) = true /\ (nth (w.ZA.set i a) j).Id = (j : Int) := fun j hj => by
  rw [List.length_set] at hj
  rw [zg]
  split
  · rename_i hc; rw [<- hc.1]; exact ⟨ha, pg⟩
  · exact h.ok j hj
theorem FW {w : ZH} (h : PlW w) {i : Nat} {a : ZF} (ha : YC a = true) (pg : a.Id = (i : Int)) (e : (a.ZC.map (·.Id)).Sublist ((nth w.ZA i).ZC.map (·.Id))) {sq : List Int} (hl : sq.length = w.YG.length) (hs : ∀ j, j < sq.length -> 0 <= nth sq j) : PlW (ZH.mk w.Frame w.ZR w.Zu (w.ZA.set i a) sq w.YW w.Next w.Yk) :=
  ⟨h.fr, h.en, by rw [List.length_set]; exact h.ar, hl.trans h.sl, h.ll, h.nx, h.lr, h.fo, h.ce, V3 h ha pg, h.nd.sublist (O6 e), fun x hx => h.lt x ((O6 e).subset hx), hs, h.lf⟩
theorem BS {w : ZH} (h : PlW w) {i : Nat} {a : ZF} (ha : YC a = true) (pg : a.Id = (i : Int)) (e : a.ZC.map (·.Id) = (nth w.ZA i).ZC.map (·.Id)) : PlW (ZH.mk w.Frame w.ZR w.Zu (w.ZA.set i a) w.YG w.YW w.Next w.Yk) :=
  FW h ha pg (by rw [e]; exact List.Sublist.refl _) rfl h.sq
/- the steps, case by case -/
theorem Pg (x a b : Int) : Za x a b = true ↔ a <= x /\ x <= b := by
  simp only [Za, Bool.and_eq_true, decide_eq_true_eq]
theorem CU {f : Zv} (h : yR f = true) : 0 <= f.Now /\ f.Now <= 10000 := by
  simp only [yR, Kd, Bool.and_eq_true, Pg] at h
  exact h.2
theorem HK {f : Zv} (h : yR f = true) {t : Int} (h0 : 0 <= t) (h1 : t <= 10000) : yR (Zv.mk f.Zk f.ZD f.Methods f.Ky t) = true := by
  simp only [yR, Kd, Bool.and_eq_true, Pg] at h ⊢
  exact ⟨h.1, h0, h1⟩
theorem jZ {w : ZH} {i : Int} (h : Z6 w i = true) (hl : w.ZA.length <= 9223372036854775807) : 0 <= i /\ i.toNat < w.ZA.length := by
  unfold Z6 at h
  rw [Pg] at h
  simp only [Xc] at h
  omega
theorem BY {P : ZH × Bool -> Prop} {w : ZH} {n : Int} (h0 : P (w, false)) (h1 : 0 <= n -> n <= 100 -> W (w.Frame.Now + n) <= 10000 -> P (ZH.mk (Zv.mk w.Frame.Zk w.Frame.ZD w.Frame.Methods w.Frame.Ky (W (w.Frame.Now + n))) w.ZR w.Zu w.ZA w.YG w.YW w.Next w.Yk, true)) : P (jn w n) := by
  unfold jn
  refine Yb (p := P) (fun _ => h0) (fun h => ?_)
  simp only [Bool.or_eq_false_iff, Bool.not_eq_false', Pg, decide_eq_false_iff_not] at h
  exact h1 h.1.1 h.1.2 (by omega)
theorem TH {P : ZH × Bool -> Prop} {a0 : ZH} {a1 a2 : Int} {a3 : Zd} {a4 a5 : Int} (h0 : P (a0, false)) (h1 : ∀ v, v < a0.ZR.length -> (nth a0.ZR v).Key = a2 -> (OU a0 a2 a3 a4 v).2 = true -> (YI (nth a0.ZA a1.toNat) (Tr a0 a2 a3 a4 a5 v)).2 = true -> P (UY a0 a1 (Tr a0 a2 a3 a4 a5 v), true)) :
    ∀ (m v : Nat) (r : ZH × Bool), QP a0 a1 a2 a3 a4 a5 m v = .inl r -> P r
  | 0, v, r, h => by cases h
  | m + 1, v, r, h => by
    simp only [QP] at h
    by_cases hv : v < a0.ZR.length
    · rw [decide_eq_true (show (v : Int) < (a0.ZR.length : Int) by omega), Xh] at h
      cases hk : ((nth a0.ZR v).Key != a2) with
      | true => rw [hk, Xh] at h; exact TH h0 h1 m (v + 1) r h
      | false =>
        rw [hk, Y8] at h
        have hk : (nth a0.ZR v).Key = a2 := by simpa using hk
        change (bif ((!(OU a0 a2 a3 a4 v).2) || !(YI (nth a0.ZA a1.toNat) (Tr a0 a2 a3 a4 a5 v)).2) then (Sum.inl (a0, false) : Sum (ZH × Bool) Unit) else .inl (UY a0 a1 (Tr a0 a2 a3 a4 a5 v), true)) = .inl r at h
        cases hs : ((!(OU a0 a2 a3 a4 v).2) || !(YI (nth a0.ZA a1.toNat) (Tr a0 a2 a3 a4 a5 v)).2) with
        | true => rw [hs, Xh] at h; cases h; exact h0
        | false =>
          rw [hs, Y8] at h; cases h
          simp only [Bool.or_eq_false_iff, Bool.not_eq_false'] at hs
          exact h1 v hv hk hs.1 hs.2
    · rw [decide_eq_false (show ¬ (v : Int) < (a0.ZR.length : Int) by omega), Y8] at h
      cases h
theorem HQ {P : ZH × Bool -> Prop} {a0 : ZH} {a1 a2 : Int} {a3 : Zd} {a4 a5 : Int} (h0 : P (a0, false)) (h1 : Z6 a0 a1 = true -> 0 <= YB a0.Frame.Zk a2 -> 0 <= ZX a0.Frame.Methods a0.Frame.Now -> ∀ v, v < a0.ZR.length -> (nth a0.ZR v).Key = a2 -> (OU a0 a2 a3 a4 v).2 = true -> (YI (nth a0.ZA a1.toNat) (Tr a0 a2 a3 a4 a5 v)).2 = true -> P (UY a0 a1 (Tr a0 a2 a3 a4 a5 v), true)) : P (Qk a0 a1 a2 a3 a4 a5) := by
  unfold Qk
  refine Yb (p := P) (fun _ => h0) (fun h => ?_)
  simp only [Bool.or_eq_false_iff, Bool.not_eq_false', decide_eq_false_iff_not] at h
  cases e : QP a0 a1 a2 a3 a4 a5 (a0.ZR.length + 1) 0 with
  | inl r => exact TH h0 (h1 h.1.1 (by omega) (by omega)) _ _ r e
  | inr _ => exact h0
theorem IL {P : ZH × Bool -> Prop} {a0 : ZH} {a1 a2 : Int} {a3 : Zd} {a4 a5 : Int} (h0 : P (a0, false)) (h1 : Z6 a0 a1 = true -> 0 <= YB a0.Frame.Zk a2 -> (nth a0.Frame.Zk (YB a0.Frame.Zk a2).toNat).qN <= a0.Frame.Now -> 0 <= ZX a0.Frame.Methods a0.Frame.Now -> ∀ v, v < a0.ZR.length -> (nth a0.ZR v).Key = a2 -> (OU a0 a2 a3 a4 v).2 = true -> (YI (nth a0.ZA a1.toNat) (Tr a0 a2 a3 a4 a5 v)).2 = true -> P (UY a0 a1 (Tr a0 a2 a3 a4 a5 v), true)) : P (XK a0 a1 a2 a3 a4 a5) := by
  unfold XK
  refine Yb (p := P) (fun _ => h0) (fun h => ?_)
  simp only [Bool.or_eq_false_iff, decide_eq_false_iff_not] at h
  exact HQ (P := P) h0 (fun k1 k2 k3 => h1 k1 k2 (by omega) k3)
theorem Tq {a : ZF} {x : ZZ} (h : (YI a x).2 = true) : ZU a x.Id < 0 /\ YC a = true /\ YC (YI a x).1 = true /\ ∃ k, (YI a x).1 = ZF.mk a.Id ((a.ZC.take k ++ [x]) ++ a.ZC.drop k) := by
  unfold YI at h ⊢
  cases h1 : ((decide ((ZU a x.Id) >= 0)) || (!(YC a))) with
  | true => rw [h1, Xh] at h; cases h
  | false =>
    rw [h1, Y8] at h
    rw [Y8]
    simp only [Bool.or_eq_false_iff, Bool.not_eq_false', decide_eq_false_iff_not] at h1
    generalize Yx a x (a.ZC.length + 1) 0 = k at h ⊢
    dsimp only at h ⊢
    cases h2 : YC (ZF.mk a.Id (((a.ZC.take k) ++ ([x] : List ZZ)) ++ (a.ZC.drop k))) with
    | false => rw [h2, Bool.not_false, Xh] at h; cases h
    | true =>
      rw [Bool.not_true, Y8]
      exact ⟨by omega, h1.2, h2, k, rfl⟩
theorem Vq {a : ZF} {x : ZZ} (h : (YI a x).2 = true) : ((YI a x).1.ZC.map (·.Id)).Perm (x.Id :: a.ZC.map (·.Id)) := by
  obtain ⟨_, _, _, k, e⟩ := Tq h
  rw [e]
  show (((a.ZC.take k ++ [x]) ++ a.ZC.drop k).map (·.Id)).Perm _
  rw [List.append_assoc, List.map_append, List.singleton_append, List.map_cons]
  refine List.perm_middle.trans ?_
  rw [<- List.map_append, List.take_append_drop]
theorem HY {P : ZH × Bool -> Prop} {w : ZH} {i id : Int} {st : Zp} (h0 : P (w, false)) (h1 : (YQ w.Frame.Zk st).2 = true -> 0 <= ZU (nth w.ZA i.toNat) id -> (Xo (nth (nth w.ZA i.toNat).ZC (ZU (nth w.ZA i.toNat) id).toNat).ZM (Yr (YQ w.Frame.Zk st).1)).2 = true -> P (ZH.mk w.Frame w.ZR w.Zu (w.ZA.set i.toNat (Yv (nth w.ZA i.toNat) id (Yr (YQ w.Frame.Zk st).1)).1) w.YG w.YW w.Next w.Yk, true)) : P (QG w i id st) := by
  unfold QG
  refine Yb (p := P) (fun _ => h0) (fun h => ?_)
  simp only [Bool.or_eq_false_iff, Bool.not_eq_false'] at h
  obtain ⟨h2, h3⟩ := h
  unfold Yv at h3
  cases h4 : decide ((ZU (nth w.ZA i.toNat) id) < 0) with
  | true => rw [h4, Xh] at h3; cases h3
  | false =>
    rw [h4, Y8] at h3
    exact h1 h2 (by have := of_decide_eq_false h4; omega) h3
/- renewing -/
def plN (w : ZH) (ids : List Int) (v : Nat) : Nat := (ZW w.Frame.ZD (nth ids v)).toNat
def CH (w : ZH) (i : Int) (ids : List Int) (v : Nat) (t : Int) : Zo × Bool := JV w.Frame.Zk w.Frame.ZD (Zo.mk (nth ids v) (nth w.YG (plN w ids v)) t (XR (nth w.ZA i.toNat) (ZX w.Frame.Methods w.Frame.Now)) 0)
def Dd (w : ZH) (sk : Int) : Int := (if (if (W (w.Frame.Now + sk)) < 10000 then (W (w.Frame.Now + sk)) else 10000) > 0 then (if (W (w.Frame.Now + sk)) < 10000 then (W (w.Frame.Now + sk)) else 10000) else 0)
structure wM (w : ZH) (i : Int) (ids : List Int) (sk : Int) (v : Nat) (t : Int) : Prop where
  au : 0 <= ZW w.Frame.ZD (nth ids v)
  lt : plN w ids v < w.YG.length
  ky : 0 <= YB w.Frame.Zk (nth w.Frame.ZD (plN w ids v)).Key
  bo : (nth w.Frame.Zk (YB w.Frame.Zk (nth w.Frame.ZD (plN w ids v)).Key).toNat).qN <= w.Frame.Now
  ok : (CH w i ids v t).2 = true
  tm : (Jd w.YW (nth ids v) = true /\ t = Dd w sk) \/ (Jd w.YW (nth ids v) = false /\ t = w.Frame.Now)
theorem Nj {P : Nat -> List Zo -> List Int -> Prop} {w : ZH} {i : Int} {ids : List Int} {sk : Int} (hs : ∀ v l q t, v < ids.length -> wM w i ids sk v t -> P v l q -> P (v + 1) (l ++ [(CH w i ids v t).1]) (q.set (plN w ids v) (W (nth q (plN w ids v) + 1)))) :
    ∀ (m : Nat) (l : List Zo) (v : Nat) (q : List Int), ids.length < m + v -> v <= ids.length -> P v l q -> (∀ r, Ya w i ids sk m l v q = .inl r -> r = (w, false)) /\ ∀ z, Ya w i ids sk m l v q = .inr z -> P ids.length z.1 z.2
  | 0, l, v, q, h, hv, _ => by omega
  | m + 1, l, v, q, h, hv, hp => by
    rw [Ya]
    let p := fun x : Sum (ZH × Bool) (List Zo × List Int) => (∀ r, x = .inl r -> r = (w, false)) /\ ∀ z, x = .inr z -> P ids.length z.1 z.2
    have bad : p (.inl (w, false)) := ⟨fun r h => (by cases h; rfl), fun z h => (by cases h)⟩
    refine Yb (p := p) (fun hc => ?_) (fun hc => ⟨fun r h => (by cases h), fun z h => (by cases h; have hc : ¬ v < ids.length := (by simpa using hc); have e : v = ids.length := (by omega); rw [<- e]; exact hp)⟩)
    have hc : v < ids.length := by simpa using hc
    refine Yb (p := p) (fun _ => bad) (fun h1 => ?_)
    refine Yb (p := p) (fun _ => bad) (fun h2 => ?_)
    simp only [Bool.or_eq_false_iff, decide_eq_false_iff_not] at h1 h2
    have go : ∀ t, ((Jd w.YW (nth ids v) = true /\ t = Dd w sk) \/ (Jd w.YW (nth ids v) = false /\ t = w.Frame.Now)) -> (CH w i ids v t).2 = true -> p (Ya w i ids sk m (l ++ [(CH w i ids v t).1]) (v + 1) (q.set (plN w ids v) (W (nth q (plN w ids v) + 1)))) := fun t ht hk =>
      Nj hs m _ (v + 1) _ (by omega) hc (hs v l q t hc ⟨by omega, by unfold plN; omega, by unfold plN; omega, by unfold plN; omega, hk, ht⟩ hp)
    refine Yb (p := p) (fun h3 => ?_) (fun h3 => ?_)
    · refine Yb (p := p) (fun _ => bad) (fun h4 => ?_)
      rw [Bool.not_eq_false'] at h4
      exact go (Dd w sk) (.inl ⟨h3, rfl⟩) h4
    · refine Yb (p := p) (fun _ => bad) (fun h4 => ?_)
      rw [Bool.not_eq_false'] at h4
      exact go w.Frame.Now (.inr ⟨h3, rfl⟩) h4
theorem GC {P : ZH × Bool -> Prop} {Q : Nat -> List Zo -> List Int -> Prop} {w : ZH} {i : Int} {ids : List Int} {sk : Int} (h0 : P (w, false)) (q0 : Q 0 [] w.YG) (hs : ∀ v l q t, v < ids.length -> wM w i ids sk v t -> Q v l q -> Q (v + 1) (l ++ [(CH w i ids v t).1]) (q.set (plN w ids v) (W (nth q (plN w ids v) + 1))))
    (h1 : Z6 w i = true -> 0 <= ZX w.Frame.Methods w.Frame.Now -> Qg ids = true -> ids ≠ [] -> ∀ l q, Q ids.length l q -> (Yl (nth w.ZA i.toNat) (ZX w.Frame.Methods w.Frame.Now) l).2 = true -> P (ZH.mk w.Frame w.ZR w.Zu (w.ZA.set i.toNat (Yl (nth w.ZA i.toNat) (ZX w.Frame.Methods w.Frame.Now) l).1) q w.YW w.Next w.Yk, true)) : P (YV w i ids sk) := by
  have k := Nj hs (ids.length + 1) [] 0 w.YG (by omega) (Nat.zero_le _) q0
  unfold YV
  refine Yb (p := P) (fun _ => h0) (fun h => ?_)
  simp only [Bool.or_eq_false_iff, Bool.not_eq_false', decide_eq_false_iff_not, beq_eq_false_iff_ne] at h
  obtain ⟨⟨⟨⟨k1, k2⟩, k3⟩, k4⟩, k5⟩ := h
  generalize Ya w i ids sk (ids.length + 1) [] 0 w.YG = s at k ⊢
  cases s with
  | inl r => rw [k.1 r rfl]; exact h0
  | inr z =>
    obtain ⟨l, q⟩ := z
    refine Yb (p := P) (fun _ => h0) (fun h2 => ?_)
    rw [Bool.not_eq_false'] at h2
    exact h1 k1 (by omega) k3 (fun e => k4 (by rw [e]; rfl)) l q (k.2 _ rfl) h2
theorem LK {s : Zi} {r : Zc} (h : (XF s r).2 = true) : (XF s r).1 = Zi.mk s.ZO (s.Zj ++ [r]) /\ Xp (Zi.mk s.ZO (s.Zj ++ [r])) = true := by
  unfold XF at h ⊢
  cases h2 : Xp (Zi.mk s.ZO (s.Zj ++ ([r] : List Zc))) with
  | false => rw [h2, Bool.not_false, Xh] at h; cases h
  | true => exact ⟨rfl, rfl⟩
theorem Gx {s : Zi} {p : Zf} (h : (Xo s p).2 = true) : (Xo s p).1 = Zi.mk (s.ZO ++ [p]) s.Zj /\ Xp (Zi.mk (s.ZO ++ [p]) s.Zj) = true := by
  unfold Xo at h ⊢
  cases h2 : Xp (Zi.mk (s.ZO ++ ([p] : List Zf)) s.Zj) with
  | false => rw [h2, Bool.not_false, Xh] at h; cases h
  | true => exact ⟨rfl, rfl⟩
/- a sealed archive: each item has one renewal more -/
def wC (a : ZF) (m : Int) (l : List Zo) (v : Nat) : Zc := Zc.mk ((nth a.ZC v).ZM.ZO.length : Int) m (XR a m) (X3 m (Y6 a m) (v : Int)) l
def Fv (a : ZF) (m : Int) (l : List Zo) (v : Nat) : ZZ := ZZ.mk (nth a.ZC v).Id (nth a.ZC v).Y9 (nth a.ZC v).Doc (nth a.ZC v).Sig (Zi.mk (nth a.ZC v).ZM.ZO ((nth a.ZC v).ZM.Zj ++ [wC a m l v]))
theorem L6 (a : ZF) (m : Int) (l : List Zo) : ∀ (n v : Nat) (q : List ZZ), a.ZC.length < n + v -> v <= a.ZC.length -> q.length = a.ZC.length -> (∀ k, k < a.ZC.length -> nth q k = if k < v then Fv a m l k else nth a.ZC k) ->
    (∀ r, XA a m l n v q = .inl r -> r = (a, false)) /\ ∀ z, XA a m l n v q = .inr z -> z.length = a.ZC.length /\ ∀ k, k < a.ZC.length -> nth z k = Fv a m l k
  | 0, v, q, h, hv, _, _ => by omega
  | n + 1, v, q, h, hv, hl, hq => by
    rw [XA]
    by_cases uL : v < a.ZC.length
    · rw [decide_eq_true (show (v : Int) < (a.ZC.length : Int) by omega), Xh]
      cases hc : (XF (nth a.ZC v).ZM (wC a m l v)).2 with
      | false =>
        rw [show (XF (nth a.ZC v).ZM (Zc.mk ((nth a.ZC v).ZM.ZO.length : Int) m (XR a m) (X3 m (Y6 a m) (v : Int)) l)).2 = false from hc, Bool.not_false, Xh]
        exact ⟨fun r h => (by cases h; rfl), fun z h => (by cases h)⟩
      | true =>
        rw [show (XF (nth a.ZC v).ZM (Zc.mk ((nth a.ZC v).ZM.ZO.length : Int) m (XR a m) (X3 m (Y6 a m) (v : Int)) l)).2 = true from hc, Bool.not_true, Y8]
        refine L6 a m l n (v + 1) _ (by omega) uL (by rw [List.length_set]; exact hl) (fun k hk => ?_)
        rw [zg]
        split
        · rename_i he
          obtain ⟨rfl, _⟩ := he
          rw [if_pos (Nat.lt_succ_self _), hq v hk, if_neg (Nat.lt_irrefl _), show (XF (nth a.ZC v).ZM (Zc.mk ((nth a.ZC v).ZM.ZO.length : Int) m (XR a m) (X3 m (Y6 a m) (v : Int)) l)).1 = _ from (LK hc).1]
          rfl
        · rename_i he
          have uD : v ≠ k := fun e => he ⟨e, by omega⟩
          rw [hq k hk]
          by_cases h2 : k < v
          · rw [if_pos h2, if_pos (by omega)]
          · rw [if_neg h2, if_neg (by omega)]
    · rw [decide_eq_false (show ¬ (v : Int) < (a.ZC.length : Int) by omega), Y8]
      exact ⟨fun r h => (by cases h), fun z h => (by cases h; exact ⟨hl, fun k hk => by rw [hq k hk, if_pos (by omega)]⟩)⟩
theorem EK {a : ZF} {m : Int} {l : List Zo} (h : (Yl a m l).2 = true) : YC a = true /\ YC (Yl a m l).1 = true /\ (Yl a m l).1.Id = a.Id /\ (Yl a m l).1.ZC.length = a.ZC.length /\ ∀ k, k < a.ZC.length -> nth (Yl a m l).1.ZC k = Fv a m l k := by
  have k := L6 a m l (a.ZC.length + 1) 0 a.ZC (by omega) (Nat.zero_le _) rfl (fun k _ => by rw [if_neg (Nat.not_lt_zero _)])
  unfold Yl at h ⊢
  cases h1 : (((a.ZC.length : Int) == 0) || (!(YC a))) with
  | true => rw [h1, Xh] at h; cases h
  | false =>
    rw [h1, Y8] at h
    rw [Y8]
    simp only [Bool.or_eq_false_iff, Bool.not_eq_false'] at h1
    generalize XA a m l (a.ZC.length + 1) 0 a.ZC = s at h k ⊢
    cases s with
    | inl r => rw [k.1 r rfl] at h; cases h
    | inr z =>
      dsimp only at h ⊢
      cases h2 : YC (ZF.mk a.Id z) with
      | false => rw [h2, Bool.not_false, Xh] at h; cases h
      | true =>
        rw [Bool.not_true, Y8]
        exact ⟨h1.2, h2, rfl, k.2 z rfl⟩
theorem Cb {α : Type} [Inhabited α] {l m : List α} (hl : l.length = m.length) (h : ∀ i, i < l.length -> nth l i = nth m i) : l = m := by
  apply List.ext_getElem hl
  intro i h1 h2
  have := h i h1
  rwa [Jr h1, Jr h2] at this
theorem Ga {a : ZF} {m : Int} {l : List Zo} (h : (Yl a m l).2 = true) : (Yl a m l).1.ZC.map (·.Id) = a.ZC.map (·.Id) := by
  obtain ⟨_, _, _, h1, h2⟩ := EK h
  refine Cb (by rw [List.length_map, List.length_map, h1]) (fun i hi => ?_)
  rw [List.length_map, h1] at hi
  rw [Uw (by rw [h1]; exact hi), Uw hi, h2 i hi]
  rfl
/- worlds stay worlds -/
/- what no step changes -/
def plC (w : ZH) : List Y4 × List Zr × List YH × Int × List Ye × List Int := (w.Frame.Zk, w.Frame.ZD, w.Frame.Methods, w.Frame.Ky, w.ZR, w.YW)
structure PlI (b : Int) (x : ZH) : Prop where
  w : PlW x
  sb : ∀ i, i < x.YG.length -> nth x.YG i <= b
  fo : ∀ y ∈ x.Yk, y < x.Next
  c : plC x = plC (YE 0) \/ plC x = plC (YE 1)
theorem Cl {b : Int} {w : ZH} (h : PlI b w) : w.ZR = qK := by
  rcases h.c with h | h <;> exact congrArg (fun x => x.2.2.2.2.1) h
theorem Au {b : Int} {w : ZH} (h : PlI b w) : w.Zu.length = 3 := by
  rw [h.w.en, Cl h]; rfl
theorem IU {a b : Int} {w : ZH} (h : PlI a w) (hb : a <= b) : PlI b w := ⟨h.w, fun i hi => Int.le_trans (h.sb i hi) hb, h.fo, h.c⟩
theorem BK {w : ZH} {b n : Int} (h : PlI b w) : PlI b (jn w n).1 := by
  have k := CU h.w.fr
  refine BY (P := fun r => PlI b r.1) h (fun h1 h2 h3 => ?_)
  have k2 : 0 <= W (w.Frame.Now + n) := by simp only [Xc]; omega
  exact ⟨⟨HK h.w.fr k2 h3, h.w.en, h.w.ar, h.w.sl, h.w.ll, h.w.nx, h.w.lr, h.w.fo, h.w.ce, h.w.ok, h.w.nd, h.w.lt, h.w.sq, h.w.lf⟩, h.sb, h.fo, h.c⟩
theorem ES {w : ZH} (h : PlW w) {i : Nat} {x : ZZ} (hi : i < w.ZA.length) (hx : x.Id = w.Next) (ha : (YI (nth w.ZA i) x).2 = true) {fo : List Int} (hf : Qg fo = true) :
    W (w.Next + 1) = w.Next + 1 /\ PlW (ZH.mk w.Frame w.ZR w.Zu (w.ZA.set i (YI (nth w.ZA i) x).1) w.YG w.YW (w.Next + 1) fo) := by
  obtain ⟨_, h2, h3, k, e⟩ := Tq ha
  have pg : (YI (nth w.ZA i) x).1.Id = (i : Int) := by rw [e]; exact (h.ok i hi).2
  have hm : x ∈ (YI (nth w.ZA i) x).1.ZC := by rw [e]; exact List.mem_append.2 (.inl (List.mem_append.2 (.inr (List.mem_singleton.2 rfl))))
  have gE := ((ka _).1 h3).it x hm
  have hn : w.Next <= 999 := by
    unfold JF at gE
    simp only [Bool.and_eq_true, Pg] at gE
    omega
  have h0 := h.nx
  have hp := NL hi (Vq ha)
  rw [hx] at hp
  refine ⟨by simp only [Xc]; omega, ⟨h.fr, h.en, by rw [List.length_set]; exact h.ar, h.sl, h.ll, by show 1 <= w.Next + 1; omega, h.lr, hf, h.ce, V3 h h3 pg, ?_, ?_, h.sq, h.lf⟩⟩
  · refine hp.nodup_iff.2 (List.nodup_cons.2 ⟨fun hc => ?_, h.nd⟩)
    have := h.lt _ hc; omega
  · intro y hy
    show y < w.Next + 1
    rcases List.mem_cons.1 (hp.mem_iff.1 hy) with rfl | hy
    · omega
    · have := h.lt y hy; omega
theorem EU {w : ZH} {b i k : Int} {d : Zd} {o e : Int} (h : PlI b w) : PlI b (XK w i k d o e).1 /\ ((XK w i k d o e).2 = true -> (XK w i k d o e).1.Next = w.Next + 1) := by
  have hl := h.w.ar
  refine IL (P := fun r => PlI b r.1 /\ (r.2 = true -> r.1.Next = w.Next + 1)) ⟨h, fun k => (by cases k)⟩ (fun h1 _ _ _ v _ _ _ h7 => ?_)
  obtain ⟨h8, h9⟩ := jZ h1 (by omega)
  obtain ⟨e1, hw⟩ := ES h.w h9 rfl h7 h.w.fo
  unfold UY
  rw [e1]
  exact ⟨⟨hw, h.sb, fun x hx => by have := h.fo x hx; show x < w.Next + 1; omega, h.c⟩, fun _ => rfl⟩
theorem F0 {α : Type} [Inhabited α] (l m : List α) (i : Nat) : nth (l ++ m) i = if i < l.length then nth l i else nth m (i - l.length) := by
  simp only [nth, List.getD_eq_getElem?_getD, List.getElem?_append]
  split <;> rfl
theorem Hr {w : ZH} {b i k : Int} {d : Zd} {o e : Int} (h : PlI b w) (hk : (XK w i k d o e).2 = true) : W (w.Next + 1) = w.Next + 1 := by
  have hl := h.w.ar
  revert hk
  refine IL (P := fun r => r.2 = true -> W (w.Next + 1) = w.Next + 1) (fun k => (by cases k)) (fun h1 _ _ _ v _ _ _ h7 _ => ?_)
  exact (ES h.w (jZ h1 (by omega)).2 rfl h7 h.w.fo).1
theorem C8 {x : ZZ} {s : Zi} (h : JF x = true) (hs : Xp s = true) (h0 : nth s.ZO 0 = nth x.ZM.ZO 0) : JF (ZZ.mk x.Id x.Y9 x.Doc x.Sig s) = true := by
  unfold JF at h ⊢
  simp only [Bool.and_eq_true] at h ⊢
  exact ⟨⟨h.1.1, hs⟩, by rw [h0]; exact h.2⟩
theorem Ea {x : ZZ} (h : JF x = true) : 0 < x.ZM.ZO.length := by
  unfold JF Xp at h
  simp only [Bool.and_eq_true] at h
  have h1 := h.1.2
  cases hc : ((!(Za (x.ZM.ZO.length : Int) 1 12)) || (decide ((x.ZM.Zj.length : Int) > 8))) with
  | true => rw [hc, Xh] at h1; cases h1
  | false =>
    simp only [Bool.or_eq_false_iff, Bool.not_eq_false', Pg] at hc
    omega
theorem I3 {a : ZF} {k : Nat} {y : ZZ} (h : YC a = true) (hy : JF y = true) (pg : y.Id = (nth a.ZC k).Id) : YC (ZF.mk a.Id (a.ZC.set k y)) = true /\ (a.ZC.set k y).map (·.Id) = a.ZC.map (·.Id) := by
  have e : (a.ZC.set k y).map (·.Id) = a.ZC.map (·.Id) := by
    refine Cb (by simp) (fun i hi => ?_)
    rw [List.length_map, List.length_set] at hi
    rw [Uw (by rw [List.length_set]; exact hi), Uw hi, zg]
    split
    · rename_i hc; rw [pg, hc.1]
    · rfl
  have h := (ka a).1 h
  refine ⟨(ka _).2 ⟨fun x hx => ?_, by rw [e]; exact h.as, h.id, by rw [List.length_set]; exact h.ln⟩, e⟩
  rcases List.mem_or_eq_of_mem_set hx with hx | rfl
  · exact h.it x hx
  · exact hy
theorem Gp {w : ZH} (h : PlW w) {i k : Nat} (hi : i < w.ZA.length) (hk : k < (nth w.ZA i).ZC.length) {s : Zi} (hs : Xp s = true) (h0 : nth s.ZO 0 = nth (nth (nth w.ZA i).ZC k).ZM.ZO 0) :
    PlW (ZH.mk w.Frame w.ZR w.Zu (w.ZA.set i (ZF.mk (nth w.ZA i).Id ((nth w.ZA i).ZC.set k (ZZ.mk (nth (nth w.ZA i).ZC k).Id (nth (nth w.ZA i).ZC k).Y9 (nth (nth w.ZA i).ZC k).Doc (nth (nth w.ZA i).ZC k).Sig s)))) w.YG w.YW w.Next w.Yk) := by
  have h1 := h.ok i hi
  have h2 : JF (nth (nth w.ZA i).ZC k) = true := ((ka _).1 h1.1).it _ (by rw [Jr hk]; exact List.getElem_mem hk)
  obtain ⟨h3, h4⟩ := I3 (k := k) h1.1 (C8 h2 hs h0) rfl
  exact BS h h3 h1.2 h4
theorem Vg {a : ZF} {x : Int} (h : 0 <= ZU a x) : (ZU a x).toNat < a.ZC.length /\ (nth a.ZC (ZU a x).toNat).Id = x := by
  unfold ZU at h ⊢
  rcases xJ (L := KG a x) (r := fun i => (i : Int)) (fun _ => rfl) (fun _ _ => rfl) (a.ZC.length + 1) 0 (by omega) with ⟨e, p⟩ | ⟨i, e, p1, p2, p3, p4⟩
  · rw [e] at h; simp at h
  · rw [e]
    exact ⟨by simpa using p2, by simpa using p3⟩
theorem FN {w : ZH} (h : PlW w) {i k : Nat} (hi : i < w.ZA.length) (hk : k < (nth w.ZA i).ZC.length) : JF (nth (nth w.ZA i).ZC k) = true :=
  ((ka _).1 (h.ok i hi).1).it _ (by rw [Jr hk]; exact List.getElem_mem hk)
theorem PK {w : ZH} {b i id : Int} {st : Zp} (h : PlI b w) (h0 : 0 <= i) (hi : i < (w.ZA.length : Int)) : PlI b (QG w i id st).1 := by
  refine HY (P := fun r => PlI b r.1) h (fun _ h2 h3 => ?_)
  obtain ⟨e, hs⟩ := Gx h3
  obtain ⟨hk, _⟩ := Vg h2
  have tZ : i.toNat < w.ZA.length := by omega
  have hp := Ea (FN h.w tZ hk)
  have k := Gp (s := _) h.w tZ hk hs (by
    show nth (_ ++ [_]) 0 = _
    rw [F0, if_pos hp])
  rw [<- e] at k
  have e2 : (Yv (nth w.ZA i.toNat) id (Yr (YQ w.Frame.Zk st).1)).1 = ZF.mk (nth w.ZA i.toNat).Id ((nth w.ZA i.toNat).ZC.set (ZU (nth w.ZA i.toNat) id).toNat (ZZ.mk (nth (nth w.ZA i.toNat).ZC (ZU (nth w.ZA i.toNat) id).toNat).Id (nth (nth w.ZA i.toNat).ZC (ZU (nth w.ZA i.toNat) id).toNat).Y9 (nth (nth w.ZA i.toNat).ZC (ZU (nth w.ZA i.toNat) id).toNat).Doc (nth (nth w.ZA i.toNat).ZC (ZU (nth w.ZA i.toNat) id).toNat).Sig (Xo (nth (nth w.ZA i.toNat).ZC (ZU (nth w.ZA i.toNat) id).toNat).ZM (Yr (YQ w.Frame.Zk st).1)).1)) := by
    unfold Yv
    rw [decide_eq_false (by omega), Y8]
  rw [e2]
  exact ⟨k, h.sb, h.fo, h.c⟩
theorem Ly {w : ZH} {b id : Int} (h : PlI b w) : PlI b (Qb w id).1 := by
  unfold Qb
  refine Yb (p := fun r : ZH × Bool => PlI b r.1) (fun _ => h) (fun hc => ?_)
  refine Yb (p := fun r : ZH × Bool => PlI b r.1) (fun _ => h) (fun _ => ?_)
  simp only [Bool.or_eq_false_iff, Bool.not_eq_false'] at hc
  have k := QX w id hc.1
  exact Ze (p := fun r : ZH × Bool => PlI b r.1) (PK h k.1 k.2.1) (PK h k.1 k.2.1)
theorem Rx {w : ZH} {b k : Int} (h : PlI b w) : PlI b (Z7 w k).1 /\ ((Z7 w k).2 = true -> 0 <= k /\ k.toNat < w.Zu.length /\ nth (Z7 w k).1.Zu k.toNat = W (w.Frame.Now + 1)) := by
  have h0 := CU h.w.fr
  have hb := Au h
  unfold Z7
  refine Yb (p := fun r : ZH × Bool => PlI b r.1 /\ (r.2 = true -> 0 <= k /\ k.toNat < w.Zu.length /\ nth r.1.Zu k.toNat = W (w.Frame.Now + 1))) (fun _ => ⟨h, fun h => (by cases h)⟩) (fun hc => ?_)
  simp only [Bool.or_eq_false_iff, Bool.not_eq_false', Pg] at hc
  have e : W ((w.Zu.length : Int) - 1) = w.Zu.length - 1 := by simp only [Xc]; omega
  rw [e] at hc
  refine ⟨⟨⟨h.w.fr, by rw [List.length_set]; exact h.w.en, h.w.ar, h.w.sl, h.w.ll, h.w.nx, h.w.lr, h.w.fo, fun i hi => ?_, h.w.ok, h.w.nd, h.w.lt, h.w.sq, h.w.lf⟩, h.sb, h.fo, h.c⟩, fun _ => ⟨hc.1.1, by omega, ?_⟩⟩
  · have := h.w.ce i hi
    refine ⟨this.1, this.2.1, ?_⟩
    show Za (nth (w.Zu.set k.toNat _) i) (-1) 10001 = true
    rw [zg]
    split
    · rw [Pg]; simp only [Xc]; omega
    · exact this.2.2
  · show nth (w.Zu.set k.toNat _) k.toNat = _
    rw [zg, if_pos ⟨rfl, by omega⟩]
theorem Gv {w : ZH} {b i : Int} {ids : List Int} {sk n : Int} (h : PlI b w) (hn : (ids.length : Int) <= n) (hb : b + n <= 4611686018427387904) : PlI (b + n) (YV w i ids sk).1 /\ (YV w i ids sk).1.YG.length = w.YG.length /\ (∀ j, j < w.YG.length -> nth w.YG j <= nth (YV w i ids sk).1.YG j) := by
  have hl := h.w.ar
  refine GC (P := fun r => PlI (b + n) r.1 /\ r.1.YG.length = w.YG.length /\ (∀ j, j < w.YG.length -> nth w.YG j <= nth r.1.YG j)) (Q := fun v _ q => q.length = w.YG.length /\ ∀ j, j < w.YG.length -> nth w.YG j <= nth q j /\ nth q j <= nth w.YG j + v) ⟨IU h (by omega), rfl, fun j _ => Int.le_refl _⟩ ⟨rfl, fun j _ => ⟨Int.le_refl _, by simp⟩⟩ (fun v l q t hv _ hq => ⟨by rw [List.length_set]; exact hq.1, fun j hj => ?_⟩) (fun h1 _ _ _ l q hq hk => ?_)
  · have z := hq.2 j hj
    rw [zg]
    split
    · rename_i hc
      have k1 := h.w.sq j hj
      have k2 := h.sb j hj
      rw [hc.1]
      have e : W (nth q j + 1) = nth q j + 1 := by simp only [Xc]; omega
      rw [e]
      omega
    · omega
  · obtain ⟨h8, h9⟩ := jZ h1 (by omega)
    obtain ⟨_, k1, k2, _, _⟩ := EK hk
    have k3 := Ga hk
    have hs : ∀ j, j < q.length -> 0 <= nth q j := fun j hj => by rw [hq.1] at hj; have := h.w.sq j hj; have := hq.2 j hj; omega
    refine ⟨⟨FW h.w k1 (by rw [k2]; exact (h.w.ok _ h9).2) (by rw [k3]; exact List.Sublist.refl _) hq.1 hs, fun j hj => ?_, h.fo, h.c⟩, hq.1, fun j hj => (hq.2 j hj).1⟩
    change j < q.length at hj
    rw [hq.1] at hj
    have := hq.2 j hj; have := h.sb j hj
    show nth q j <= b + n
    omega
theorem Pc {a : ZF} {l : List ZZ} (h : YC a = true) (hl : l.Sublist a.ZC) : YC (ZF.mk a.Id l) = true := by
  have h := (ka a).1 h
  exact (ka _).2 ⟨fun x hx => h.it x (hl.subset hx), h.as.sublist (hl.map _), h.id, Nat.le_trans hl.length_le h.ln⟩
theorem Fi {l : List ZF} {i : Nat} {a : ZF} {x : Int} (h : i < l.length) (e : ((nth l i).ZC.map (·.Id)).Perm (x :: a.ZC.map (·.Id))) : (yT l).Perm (x :: yT (l.set i a)) := by
  obtain ⟨A, B, h1, h2⟩ := W6 l i h
  rw [h2, h1]
  refine List.Perm.trans (List.Perm.append_left A (List.Perm.append_right B e)) ?_
  rw [List.cons_append]
  exact List.perm_middle
theorem LJ {l : List ZZ} {k : Nat} {x : Int} (hk : k < l.length) (hx : (nth l k).Id = x) : (l.map (·.Id)).Perm (x :: (l.eraseIdx k).map (·.Id)) := by
  have e : l.map (·.Id) = (l.take k).map (·.Id) ++ x :: (l.drop (k + 1)).map (·.Id) := by
    rw [<- hx, Jr hk, <- List.map_cons (f := fun x : ZZ => x.Id), <- List.map_append, <- List.drop_eq_getElem_cons hk, List.take_append_drop]
  rw [e, List.eraseIdx_eq_take_drop_succ, List.map_append]
  exact List.perm_middle
theorem Bf {a : ZF} {id : Int} (hl : a.ZC.length <= 1048576) (h : (X2 a id).2 = true) : 0 <= ZU a id /\ (X2 a id).1 = ZF.mk a.Id (a.ZC.eraseIdx (ZU a id).toNat) := by
  unfold X2 at h ⊢
  cases hc : decide ((ZU a id) < 0) with
  | true => rw [hc, Xh] at h; cases h
  | false =>
    have hc := of_decide_eq_false hc
    have k := Vg (a := a) (x := id) (by omega)
    rw [Y8]
    refine ⟨by omega, ?_⟩
    rw [List.eraseIdx_eq_take_drop_succ, show (W (ZU a id + 1)).toNat = (ZU a id).toNat + 1 by simp only [Xc]; omega]
theorem HE {a b : ZF} {id m : Int} (h : (Yt a b [id] m).2.2 = true) : 0 <= ZU a id /\ (X2 a id).2 = true /\ (YI b (nth a.ZC (ZU a id).toNat)).2 = true /\ (Yt a b [id] m).1 = (X2 a id).1 /\ (Yt a b [id] m).2.1 = (YI b (nth a.ZC (ZU a id).toNat)).1 := by
  have cx : ZU a id < 0 -> (Y2 a b.Id [id] m).2 = false := fun hc => by
    simp [Y2, X9, hc, nth]
  have cy : ¬ ZU a id < 0 -> Y2 a b.Id [id] m = (XE.mk a.Id b.Id [nth a.ZC (ZU a id).toNat] (QD m [nth a.ZC (ZU a id).toNat]), true) := fun hc => by
    simp [Y2, X9, hc, nth]
  by_cases hc : ZU a id < 0
  · unfold Yt at h
    rw [cx hc, Bool.not_false, Bool.true_or, Xh] at h
    cases h
  · have e := cy hc
    generalize hx : nth a.ZC (ZU a id).toNat = x at e ⊢
    unfold Yt at h ⊢
    rw [e] at h ⊢
    dsimp only at h ⊢
    rw [Bool.not_true, Bool.false_or] at h ⊢
    have oL : (XD b (XE.mk a.Id b.Id [x] (QD m [x])) m).2 = true -> (YI b x).2 = true /\ (XD b (XE.mk a.Id b.Id [x] (QD m [x])) m).1 = (YI b x).1 := fun hq => by
      unfold XD at hq ⊢
      cases hd : ((!(zI (XE.mk a.Id b.Id [x] (QD m [x])) m)) || (b.Id != b.Id)) with
      | true => dsimp only at hq; rw [hd, Xh] at hq; cases hq
      | false =>
        dsimp only at hq ⊢
        rw [hd, Y8] at hq
        rw [Y8]
        cases hz : (YI b x).2 with
        | false => simp [Xz, hz, nth] at hq
        | true => refine ⟨rfl, ?_⟩; simp [Xz, hz, nth]
    cases h2 : (XD b (XE.mk a.Id b.Id [x] (QD m [x])) m).2 with
    | false => rw [h2, Bool.not_false, Xh] at h; cases h
    | true =>
      obtain ⟨k1, k2⟩ := oL h2
      rw [h2, Bool.not_true, Y8] at h
      rw [Bool.not_true, Y8, k2]
      cases hz : (X2 a id).2 with
      | false => simp [Qo, hz, nth] at h
      | true => refine ⟨by omega, rfl, k1, ?_, ?_⟩ <;> simp [Qo, hz, nth]
theorem BX {P : ZH × Bool -> Prop} {w : ZH} {i k id : Int} (h0 : P (w, false)) (h1 : Z6 w i = true -> Z6 w k = true -> i ≠ k -> 0 <= ZU (nth w.ZA i.toNat) id -> (X2 (nth w.ZA i.toNat) id).2 = true -> (YI (nth w.ZA k.toNat) (nth (nth w.ZA i.toNat).ZC (ZU (nth w.ZA i.toNat) id).toNat)).2 = true -> P (ZH.mk w.Frame w.ZR w.Zu ((w.ZA.set i.toNat (X2 (nth w.ZA i.toNat) id).1).set k.toNat (YI (nth w.ZA k.toNat) (nth (nth w.ZA i.toNat).ZC (ZU (nth w.ZA i.toNat) id).toNat)).1) w.YG w.YW w.Next w.Yk, true)) : P (Je w i k id) := by
  unfold Je
  refine Yb (p := P) (fun _ => h0) (fun h => ?_)
  simp only [Bool.or_eq_false_iff, Bool.not_eq_false', beq_eq_false_iff_ne] at h
  cases hm : (Yt (nth w.ZA i.toNat) (nth w.ZA k.toNat) ([id] : List Int) (ZX w.Frame.Methods w.Frame.Now)).2.2 with
  | false => rw [Y8]; exact h0
  | true =>
    obtain ⟨k1, k2, k3, k4, k5⟩ := HE hm
    rw [Xh, k4, k5]
    exact h1 h.1.1.1 h.1.1.2 h.1.2 k1 k2 k3
theorem BZ {w : ZH} {b i k id : Int} (h : PlI b w) : PlI b (Je w i k id).1 := by
  have hl := h.w.ar
  refine BX (P := fun r => PlI b r.1) h (fun h1 h2 h3 h4 h5 h6 => ?_)
  obtain ⟨i0, i1⟩ := jZ h1 (by omega)
  obtain ⟨k0, k1⟩ := jZ h2 (by omega)
  have ai := h.w.ok _ i1
  have ak := h.w.ok _ k1
  have bl := ((ka _).1 ai.1).ln
  obtain ⟨_, e⟩ := Bf (by omega) h5
  obtain ⟨f1, f2⟩ := Vg h4
  obtain ⟨_, _, g1, _, g2⟩ := Tq h6
  have g3 := Vq h6
  rw [f2] at g3
  rw [e]
  have uD : i.toNat ≠ k.toNat := by omega
  have p1 : (yT w.ZA).Perm (id :: yT (w.ZA.set i.toNat (ZF.mk (nth w.ZA i.toNat).Id ((nth w.ZA i.toNat).ZC.eraseIdx (ZU (nth w.ZA i.toNat) id).toNat)))) := by
    refine Fi i1 ?_
    exact LJ f1 f2
  have p2 := NL (l := w.ZA.set i.toNat (ZF.mk (nth w.ZA i.toNat).Id ((nth w.ZA i.toNat).ZC.eraseIdx (ZU (nth w.ZA i.toNat) id).toNat))) (i := k.toNat) (a := (YI (nth w.ZA k.toNat) (nth (nth w.ZA i.toNat).ZC (ZU (nth w.ZA i.toNat) id).toNat)).1) (x := id) (by rw [List.length_set]; exact k1) (by rw [zg, if_neg (fun hc => uD hc.1)]; exact g3)
  have p := p2.trans p1.symm
  have hA : ∀ j, j < (w.ZA.set i.toNat (ZF.mk (nth w.ZA i.toNat).Id ((nth w.ZA i.toNat).ZC.eraseIdx (ZU (nth w.ZA i.toNat) id).toNat))).length -> _ := V3 h.w (Pc ai.1 (List.eraseIdx_sublist _ _)) ai.2
  refine ⟨⟨h.w.fr, h.w.en, by rw [List.length_set, List.length_set]; exact h.w.ar, h.w.sl, h.w.ll, h.w.nx, h.w.lr, h.w.fo, h.w.ce, fun j hj => ?_, p.nodup_iff.2 h.w.nd, fun x hx => h.w.lt x (p.mem_iff.1 hx), h.w.sq, h.w.lf⟩, h.sb, h.fo, h.c⟩
  rw [List.length_set] at hj
  show YC (nth (List.set _ k.toNat _ : List ZF) j) = true /\ (nth (List.set _ k.toNat _ : List ZF) j).Id = _
  rw [zg]
  split
  · rename_i hc; refine ⟨g1, ?_⟩; rw [g2, <- hc.1]; exact ak.2
  · exact hA j hj
theorem UI (a : ZF) (t : Int) : ∀ (n v : Nat) (l : List ZZ), a.ZC.length < n + v -> v <= a.ZC.length -> X7 a t n v l = l ++ (a.ZC.drop v).filter (fun x => decide (x.Y9 >= t))
  | 0, v, l, h, hv => by omega
  | n + 1, v, l, h, hl => by
    rw [X7]
    by_cases hv : v < a.ZC.length
    · rw [decide_eq_true (show (v : Int) < (a.ZC.length : Int) by omega), Xh, List.drop_eq_getElem_cons hv, List.filter_cons, Jr hv]
      cases hk : decide (a.ZC[v].Y9 >= t) with
      | true => rw [Xh, UI a t n _ _ (by omega) hv, List.append_assoc]; rfl
      | false => rw [Y8, UI a t n _ _ (by omega) hv]; rfl
    · rw [decide_eq_false (show ¬ (v : Int) < (a.ZC.length : Int) by omega), Y8, List.drop_eq_nil_of_le (by omega)]
      simp
theorem E7 {P : ZH × Bool -> Prop} {w : ZH} {i : Int} (h0 : P (w, false)) (h1 : Z6 w i = true -> P (ZH.mk w.Frame w.ZR w.Zu (w.ZA.set i.toNat (ZF.mk (nth w.ZA i.toNat).Id ((nth w.ZA i.toNat).ZC.filter (fun x => decide (x.Y9 >= w.Frame.Now))))) w.YG w.YW w.Next w.Yk, true)) : P (QU w i) := by
  unfold QU
  refine Yb (p := P) (fun _ => h0) (fun h => ?_)
  rw [Bool.not_eq_false'] at h
  unfold KE
  rw [UI _ _ _ _ _ (by omega) (Nat.zero_le _), List.drop_zero, List.nil_append]
  exact h1 h
theorem Ek {w : ZH} {b i : Int} (h : PlI b w) : PlI b (QU w i).1 := by
  have hl := h.w.ar
  refine E7 (P := fun r => PlI b r.1) h (fun h1 => ?_)
  obtain ⟨i0, i1⟩ := jZ h1 (by omega)
  have ai := h.w.ok _ i1
  exact ⟨FW h.w (Pc ai.1 List.filter_sublist) ai.2 (List.filter_sublist.map _) rfl h.w.sq, h.sb, h.fo, h.c⟩
theorem W5 (n : Int) : YE n = YE 0 \/ YE n = YE 1 := by
  have e : qo 1 (zG 0 n) = qo 1 (zG 0 0) \/ qo 1 (zG 0 n) = qo 1 (zG 0 1) := by
    by_cases h : n > 0
    · right
      have e1 : zG 0 n = n := by unfold zG; simp only [h, decide_true, Xh]
      have e2 : ¬ n < 1 := by omega
      rw [e1]
      unfold qo
      simp only [e2, decide_false, Y8]
      rfl
    · left
      have e1 : zG 0 n = 0 := by unfold zG; simp only [h, decide_false, Y8]
      rw [e1]
      rfl
  rcases e with e | e
  · left; unfold YE; rw [e]
  · right; unfold YE; rw [e]
theorem AP (x : Int) : PlI 0 (YE x) := by
  have h1 : QM (YE x) = true := by rcases W5 x with h | h <;> rw [h] <;> decide +kernel
  refine ⟨(jm _).1 h1, ?_, ?_, by rcases W5 x with h | h <;> rw [h] <;> simp⟩
  · rcases W5 x with h | h <;> rw [h] <;> decide +kernel
  · rcases W5 x with h | h <;> rw [h] <;> decide +kernel
/- events -/
theorem Bg {w : ZH} {b n : Int} (h : PlI b w) : PlI b (Z9 w n).1 := by rw [M0]; exact BK h
theorem BW {w : ZH} {b i k : Int} {d : Zd} {o e : Int} (h : PlI b w) : PlI b (Z3 w i k d o e).1 := by rw [Mf]; exact (EU h).1
theorem Eh {w : ZH} {b id : Int} (h : PlI b w) : PlI b (Zw w id).1 := by rw [OW]; exact Ly h
theorem Dy {w : ZH} {b i : Int} {ids : List Int} {sk n : Int} (h : PlI b w) (hs : Sm maxLen w) (hn : (ids.length : Int) <= n) (hb : b + n <= 4611686018427387904) : PlI (b + n) (Yu w i ids sk).1 := by rw [NH _ _ _ _ hs]; exact (Gv h hn hb).1
theorem xI (a0 : ZS) : PlI 500 (Zl a0).2 := by
  obtain ⟨m, h1, h2, h3⟩ := UQ (p := fun m w => PlI (100 * (5 - (m : Int))) w /\ m <= 5 /\ Sm (100 - 4 * m) w) (fun x _ _ => ⟨AP x, Nat.le_refl _, kx (by decide)⟩)
    (fun m w a b k t e c hp => by
      obtain ⟨h1, h2, h3⟩ := hp
      have hc := Hq (a := a) (b := b) (k := k) (c := c) (t := t) h3 (by omega)
      have hd := CQ (a := a) (b := b) (k := k) (c := c) (t := t) h3 (by omega)
      have hl := XZ hd
      refine ⟨?_, by omega, Zb (by omega) (Cg (a := a) (b := b) (k := k) (c := c) (t := t) (e := e) h3 (by omega))⟩
      have k := Dy (i := 0) (sk := e) (n := 100) (Bg (n := t) (Eh (id := 1) (BW (i := a) (k := b) (d := (ZT c).2) (o := 0) (e := k) h1))) (Zb (by unfold maxLen; omega) hc) (ids := Z5 (Z9 (Zw (Z3 w a b (ZT c).2 0 k).1 1).1 t).1.Frame) (by omega) (by omega)
      exact IU k (by omega)) a0
  exact IU h2 (by omega)
/- strands -/
theorem EG {w : ZH} {a0 : List UInt8} (h : ∀ j, j < (ZK a0).1.YG.length -> nth (ZK a0).1.YG j <= nth (YV (ZK a0).1 (ZK a0).2.1 (ZK a0).2.2.1 (ZK a0).2.2.2).1.YG j) : ∀ n v, qw a0 n v = .inr ()
  | 0, v => rfl
  | n + 1, v => by
    rw [qw]
    refine Yb (p := (· = Sum.inr ())) (fun hc => ?_) (fun _ => rfl)
    rw [Bool.and_eq_true, decide_eq_true_eq] at hc
    rw [decide_eq_false (by have := h v (by omega); omega), Y8]
    exact EG (w := w) h n (v + 1)
theorem Ny (a0 : List UInt8) : WY a0 = true := by
  have hw : ∀ x : ZH, KT x x = true := fun x => by rw [Wm]; simp
  have d1 : PlI 500 (ZQ a0).1 := by unfold ZQ; with_reducible exact xI _
  have d2 : PlI 500 (ZK a0).1 := by
    have k := xI (Zz a0)
    unfold ZK
    refine Ze (p := fun z : ZH × Int × (List Int) × Int => PlI 500 z.1) (by with_reducible exact k) (Ze (p := fun z : ZH × Int × (List Int) × Int => PlI 500 z.1) (by with_reducible exact k) (by with_reducible exact k))
  have d3 : PlI 500 (Ym a0).1 := by
    have k := xI (Zz a0)
    have k2 := (Rx (k := 0) k).1
    rw [<- VK] at k2
    unfold Ym
    exact Ze (p := fun z : ZH × Int => PlI 500 z.1) (by with_reducible exact k2) (by with_reducible exact k)
  have d4 : PlI 500 (ZY a0).1 := by
    have k := xI (Zz a0)
    have k2 := (Rx (k := 1) k).1
    rw [<- VK] at k2
    unfold ZY
    exact Ze (p := fun z : ZH × Int => PlI 500 z.1) (by with_reducible exact k2) (by with_reducible exact k)
  have d5 : PlI 500 (Z1 a0).1 := by unfold Z1; with_reducible exact xI _
  have d6 : PlI 500 (YY a0).1 := by unfold YY; with_reducible exact xI _
  have m2 := XZ (Ji (n := 100) (a0 := a0) (Nat.le_refl 100)).2
  have e1 := EU (i := (ZQ a0).2.1) (k := (ZQ a0).2.2.1) (d := (ZQ a0).2.2.2.1) (o := (ZQ a0).2.2.2.2.1) (e := (ZQ a0).2.2.2.2.2) d1
  have e2 := Gv (i := (ZK a0).2.1) (ids := (ZK a0).2.2.1) (sk := (ZK a0).2.2.2) (n := 100) d2 (by omega) (by omega)
  have e3 := Ly (id := (Ym a0).2) d3
  have e4 := Rx (k := (ZY a0).2) d4
  have e5 := BZ (i := (Z1 a0).2.1) (k := (Z1 a0).2.2.1) (id := (Z1 a0).2.2.2) d5
  have e6 := Ek (i := (YY a0).2) d6
  have n1 : (XK (ZQ a0).1 (ZQ a0).2.1 (ZQ a0).2.2.1 (ZQ a0).2.2.2.1 (ZQ a0).2.2.2.2.1 (ZQ a0).2.2.2.2.2).2 = false -> (XK (ZQ a0).1 (ZQ a0).2.1 (ZQ a0).2.2.1 (ZQ a0).2.2.2.1 (ZQ a0).2.2.2.2.1 (ZQ a0).2.2.2.2.2).1 = (ZQ a0).1 := IL (P := fun r => r.2 = false -> r.1 = (ZQ a0).1) (fun _ => rfl) (fun _ _ _ _ _ _ _ _ _ h => by cases h)
  have n2 : (YV (ZK a0).1 (ZK a0).2.1 (ZK a0).2.2.1 (ZK a0).2.2.2).2 = false -> (YV (ZK a0).1 (ZK a0).2.1 (ZK a0).2.2.1 (ZK a0).2.2.2).1 = (ZK a0).1 := GC (P := fun r => r.2 = false -> r.1 = (ZK a0).1) (Q := fun _ _ _ => True) (fun _ => rfl) trivial (fun _ _ _ _ _ _ _ => trivial) (fun _ _ _ _ _ _ _ _ h => by cases h)
  have nx : ∀ x : Int, 1 <= x -> x <= 1000 -> W (x + 1) = x + 1 := fun x h1 h2 => by simp only [Xc]; omega
  unfold WY
  refine Ze (p := (· = true)) rfl ?_
  rw [EG (w := default) e2.2.2]
  have w1 := (jm _).2 e1.1.w
  have w2 := (jm _).2 e2.1.w
  have w3 := (jm _).2 e3.w
  have w4 := (jm _).2 e4.1.w
  have w5 := (jm _).2 e5.w
  have w6 := (jm _).2 e6.w
  rw [w1, w2, w3, w4, w5, w6]
  have e1 := e1.2
  have e4 := e4.2
  have p1 := Hr (i := (ZQ a0).2.1) (k := (ZQ a0).2.2.1) (d := (ZQ a0).2.2.2.1) (o := (ZQ a0).2.2.2.2.1) (e := (ZQ a0).2.2.2.2.2) d1
  generalize XK (ZQ a0).1 (ZQ a0).2.1 (ZQ a0).2.2.1 (ZQ a0).2.2.2.1 (ZQ a0).2.2.2.2.1 (ZQ a0).2.2.2.2.2 = r1 at e1 n1 p1 ⊢
  generalize YV (ZK a0).1 (ZK a0).2.1 (ZK a0).2.2.1 (ZK a0).2.2.2 = r2 at n2 ⊢
  obtain ⟨x1, b1⟩ := r1
  obtain ⟨x2, b2⟩ := r2
  dsimp only at e1 n1 n2 p1 ⊢
  have g : (((!(Z7 (ZY a0).1 (ZY a0).2).2) || (true && ((nth (Z7 (ZY a0).1 (ZY a0).2).1.Zu (ZY a0).2.toNat) == (W ((ZY a0).1.Frame.Now + 1)))))) = true := by
    cases hb : (Z7 (ZY a0).1 (ZY a0).2).2 with
    | false => rfl
    | true => rw [(e4 hb).2.2]; simp
  rw [g]
  cases b1 with
  | true =>
    rw [e1 rfl, p1 rfl]
    cases b2 with
    | true => simp
    | false => rw [n2 rfl, hw]; simp
  | false =>
    rw [n1 rfl, hw]
    cases b2 with
    | true => simp
    | false => rw [n2 rfl, hw]; simp
end Go.Mo
