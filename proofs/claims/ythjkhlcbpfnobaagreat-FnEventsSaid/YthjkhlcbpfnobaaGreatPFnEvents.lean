/- The plain law of FnEvents: events V2 a world valid, a history can be divided anywhere, an event that is refused changes nothing. No condition. -/
import Derived.Test.YthjkhlcbpfnobaaGreatL
namespace Go.Mo
open Go.Vm
set_option linter.unusedSimpArgs false
set_option linter.unusedVariables false
/-- a loop that looks whether one of the places is bad -/
theorem FE {L : Nat -> Nat -> Sum Bool Unit} {len : Nat} {c : Nat -> Bool} (h0 : ∀ v, L 0 v = .inr ()) (hs : ∀ n v, L (n + 1) v = (bif decide ((v : Int) < (len : Int)) then (bif c v then .inl false else L n (v + 1)) else .inr ())) :
    ∀ n v, len < n + v -> (L n v = .inr () /\ ∀ i, v <= i -> i < len -> c i = false) \/ (L n v = .inl false /\ ∃ i, v <= i /\ i < len /\ c i = true)
  | 0, v, h => .inl ⟨h0 v, fun i h1 h2 => by omega⟩
  | n + 1, v, h => by
    rw [hs]
    by_cases hv : v < len
    · rw [show decide ((v : Int) < (len : Int)) = true by simpa using hv]
      cases hc : c v with
      | true => exact .inr ⟨rfl, v, Nat.le_refl _, hv, hc⟩
      | false =>
        rcases FE h0 hs n (v + 1) (by omega) with ⟨e, k⟩ | ⟨e, i, k1, k2, k3⟩
        · refine .inl ⟨e, fun i h1 h2 => ?_⟩
          rcases Nat.eq_or_lt_of_le h1 with rfl | h1
          · exact hc
          · exact k i h1 h2
        · exact .inr ⟨e, i, by omega, k2, k3⟩
    · rw [show decide ((v : Int) < (len : Int)) = false by simpa using hv]
      exact .inl ⟨rfl, fun i h1 h2 => by omega⟩
/-- a loop that looks for the first place -/
theorem Pv {β : Type} {L : Nat -> Nat -> Sum β Unit} {len : Nat} {c : Nat -> Bool} {r : Nat -> β} (h0 : ∀ v, L 0 v = .inr ()) (hs : ∀ n v, L (n + 1) v = (bif decide ((v : Int) < (len : Int)) then (bif c v then .inl (r v) else L n (v + 1)) else .inr ())) :
    ∀ n v, len < n + v -> (L n v = .inr () /\ ∀ i, v <= i -> i < len -> c i = false) \/ (∃ i, L n v = .inl (r i) /\ v <= i /\ i < len /\ c i = true /\ ∀ k, v <= k -> k < i -> c k = false)
  | 0, v, h => .inl ⟨h0 v, fun i h1 h2 => by omega⟩
  | n + 1, v, h => by
    rw [hs]
    by_cases hv : v < len
    · rw [show decide ((v : Int) < (len : Int)) = true by simpa using hv]
      cases hc : c v with
      | true => exact .inr ⟨v, rfl, Nat.le_refl _, hv, hc, fun k h1 h2 => by omega⟩
      | false =>
        rcases Pv h0 hs n (v + 1) (by omega) with ⟨e, k⟩ | ⟨i, e, k1, k2, k3, k4⟩
        · refine .inl ⟨e, fun i h1 h2 => ?_⟩
          rcases Nat.eq_or_lt_of_le h1 with rfl | h1
          · exact hc
          · exact k i h1 h2
        · refine .inr ⟨i, e, by omega, k2, k3, fun k h1 h2 => ?_⟩
          rcases Nat.eq_or_lt_of_le h1 with rfl | h1
          · exact hc
          · exact k4 k h1 h2
    · rw [show decide ((v : Int) < (len : Int)) = false by simpa using hv]
      exact .inl ⟨rfl, fun i h1 h2 => by omega⟩
/-- the same, as a Boolean -/
theorem kF {L : Nat -> Nat -> Sum Bool Unit} {len : Nat} {c : Nat -> Bool} (h0 : ∀ v, L 0 v = .inr ()) (hs : ∀ n v, L (n + 1) v = (bif decide ((v : Int) < (len : Int)) then (bif c v then .inl false else L n (v + 1)) else .inr ())) (n v : Nat) (h : len < n + v) (X : Bool) :
    (match L n v with | .inl r => r | .inr _ => X) = true ↔ (∀ i, v <= i -> i < len -> c i = false) /\ X = true := by
  rcases FE h0 hs n v h with ⟨e, k⟩ | ⟨e, i, k1, k2, k3⟩
  · rw [e]; simp only; exact ⟨fun hx => ⟨k, hx⟩, fun hx => hx.2⟩
  · rw [e]; simp only
    constructor
    · intro hx; cases hx
    · intro hx; rw [hx.1 i k1 k2] at k3; cases k3
theorem Tt {α β : Type} [Inhabited α] [Inhabited β] {f : α -> β} {l : List α} {i : Nat} (h : i < l.length) : nth (l.map f) i = f (nth l i) := by
  simp [nth, List.getD_eq_getElem?_getD, List.getElem?_eq_getElem h]
@[simp] theorem Uq (a0 a1 : List Int) : J8 a0 a1 = decide (a0 = a1) := Er (F := qu a0 a1) (c := fun i => (nth a0 i) != (nth a1 i)) (fun i => by simp [bne, Bool.beq_eq_decide_eq]) (fun _ => rfl) (fun _ _ => rfl)
@[simp] theorem RS (a0 a1 : List ByteArray) : xr a0 a1 = decide (a0 = a1) := Er (F := yj a0 a1) (c := fun i => !decide ((nth a0 i) = (nth a1 i))) (fun i => rfl) (fun _ => rfl) (fun _ _ => rfl)
theorem WT {α : Type} [DecidableEq α] (a b : α) : (a == b) = decide (a = b) := by by_cases h : a = b <;> simp [h]
@[simp] theorem T2 (a0 a1 : ZU) : Ki a0 a1 = decide (a0 = a1) := by
  cases a0; cases a1; simp [Ki, WT, Bool.and_assoc]
@[simp] theorem Pb (a0 a1 : Ze) : Jg a0 a1 = decide (a0 = a1) := by
  obtain ⟨t, p, s⟩ := a0; obtain ⟨t', p', s'⟩ := a1
  by_cases h1 : t = t' <;> by_cases h2 : p = p' <;> by_cases h3 : s = s' <;> simp_all [Jg]
theorem DY (x y : Zp) : ((x.Authority == y.Authority) && ((x.Seq == y.Seq) && ((x.Time == y.Time) && ((x.XJ == y.XJ) && (x.Mark == y.Mark))))) = decide (x = y) := by
  cases x; cases y; simp [WT]
theorem Cp (x y : XY) : ((x.XJ == y.XJ) && (x.Left == y.Left)) = decide (x = y) := by
  cases x; cases y; simp [WT]
@[simp] theorem PO (a0 a1 : List Zp) : jE a0 a1 = decide (a0 = a1) := Er (F := xC a0 a1) (c := fun i => !((nth a0 i).Authority == (nth a1 i).Authority && ((nth a0 i).Seq == (nth a1 i).Seq && ((nth a0 i).Time == (nth a1 i).Time && ((nth a0 i).XJ == (nth a1 i).XJ && (nth a0 i).Mark == (nth a1 i).Mark))))) (fun i => by rw [DY]) (fun _ => rfl) (fun _ _ => rfl)
theorem TM {α : Type} {a b : List α} (h : ¬ a.length = b.length) : ((a.length : Int) != (b.length : Int)) = true := by simp; omega
@[simp] theorem Su (a0 a1 : Zb) : J3 a0 a1 = decide (a0 = a1) := by
  unfold J3
  by_cases hl : a0.Path.length = a1.Path.length
  · rw [jr (F := zh a0 a1) (a := a0.Path) (b := a1.Path) (c := fun i => !((nth a0.Path i).XJ == (nth a1.Path i).XJ && (nth a0.Path i).Left == (nth a1.Path i).Left)) hl (fun i => by rw [Cp]) (fun _ => rfl) (fun _ _ => rfl)]
    obtain ⟨t, p, s, u, v⟩ := a0; obtain ⟨t', p', s', u', v'⟩ := a1
    by_cases h1 : t = t' <;> by_cases h2 : p = p' <;> by_cases h3 : s = s' <;> by_cases h4 : u = u' <;> simp_all
  · have : a0 ≠ a1 := fun h => hl (by rw [h])
    simp [this, TM hl]
@[simp] theorem U6 (a0 a1 : List Ze) : zl a0 a1 = decide (a0 = a1) := Er (F := Kd a0 a1) (c := fun i => !Jg (nth a0 i) (nth a1 i)) (fun i => by simp) (fun _ => rfl) (fun _ _ => rfl)
@[simp] theorem Rn (a0 a1 : Zi) : yB a0 a1 = decide (a0 = a1) := by
  unfold yB
  by_cases hl : a0.Zl.length = a1.Zl.length
  · rw [jr (F := yT a0 a1) (a := a0.Zl) (b := a1.Zl) (c := fun i => !J3 (nth a0.Zl i) (nth a1.Zl i)) hl (fun i => by simp) (fun _ => rfl) (fun _ _ => rfl)]
    obtain ⟨t, p⟩ := a0; obtain ⟨t', p'⟩ := a1
    by_cases h1 : t = t' <;> by_cases h2 : p = p' <;> simp_all
  · have : a0 ≠ a1 := fun h => hl (by rw [h])
    simp [this, TM hl]
theorem BO (x y : Zv) : ((x.Key == y.Key) && ((x.ZQ == y.ZQ) && ((x.Method == y.Method) && ((x.XJ == y.XJ) && ((x.xI == y.xI) && ((x.Org == y.Org) && ((x.xL == y.xL) && ((x.km == y.km) && (x.Mark == y.Mark))))))))) = decide (x = y) := by
  cases x; cases y; simp [WT]
@[simp] theorem NO (a0 a1 : ZV) : yZ a0 a1 = decide (a0 = a1) := by
  unfold yZ
  rw [BO]
  obtain ⟨t, p, s, u, v⟩ := a0; obtain ⟨t', p', s', u', v'⟩ := a1
  by_cases h1 : t = t' <;> by_cases h2 : p = p' <;> by_cases h3 : s = s' <;> by_cases h4 : u = u' <;> simp_all
@[simp] theorem Sn (a0 a1 : ZE) : J2 a0 a1 = decide (a0 = a1) := by
  unfold J2
  by_cases hl : a0.ZC.length = a1.ZC.length
  · rw [jr (F := zk a0 a1) (a := a0.ZC) (b := a1.ZC) (c := fun i => !yZ (nth a0.ZC i) (nth a1.ZC i)) hl (fun i => by simp) (fun _ => rfl) (fun _ _ => rfl)]
    obtain ⟨t, p⟩ := a0; obtain ⟨t', p'⟩ := a1
    by_cases h1 : t = t' <;> by_cases h2 : p = p' <;> simp_all
  · have : a0 ≠ a1 := fun h => hl (by rw [h])
    simp [this, TM hl]
theorem BQ (x y : XD) : ((x.Number == y.Number) && ((x.zf == y.zf) && ((x.Method == y.Method) && ((x.Uj == y.Uj) && (x.ja == y.ja))))) = decide (x = y) := by
  cases x; cases y; simp [WT]
theorem C6 (x y : Zw) : ((x.Id == y.Id) && ((x.Key == y.Key) && (x.Error == y.Error))) = decide (x = y) := by
  cases x; cases y; simp [WT]
theorem Cf (x y : YE) : ((x.Id == y.Id) && ((x.Ua == y.Ua) && ((x.Ends == y.Ends) && (x.kZ == y.kZ)))) = decide (x = y) := by
  cases x; cases y; simp [WT]
theorem CK (x y : Yi) : ((x.ZQ == y.ZQ) && ((x.Key == y.Key) && ((x.zf == y.zf) && ((x.qR == y.qR) && ((x.To == y.To) && ((x.Zm == y.Zm) && (x.Mark == y.Mark))))))) = decide (x = y) := by
  cases x; cases y; simp [WT]
@[simp] theorem VY (a0 a1 : Zu) : yw a0 a1 = decide (a0 = a1) := by
  unfold yw
  by_cases h1 : a0.Zq.length = a1.Zq.length
  · by_cases h2 : a0.ZF.length = a1.ZF.length
    · by_cases h3 : a0.Methods.length = a1.Methods.length
      · rw [jr (F := y6 a0 a1) (a := a0.Zq) (b := a1.Zq) (c := fun i => _) h1 (fun i => congrArg (! ·) (BQ (nth a0.Zq i) (nth a1.Zq i))) (fun _ => rfl) (fun _ _ => rfl),
          jr (F := xA a0 a1) (a := a0.ZF) (b := a1.ZF) (c := fun i => _) h2 (fun i => congrArg (! ·) (C6 (nth a0.ZF i) (nth a1.ZF i))) (fun _ => rfl) (fun _ _ => rfl),
          jr (F := xF a0 a1) (a := a0.Methods) (b := a1.Methods) (c := fun i => _) h3 (fun i => congrArg (! ·) (Cf (nth a0.Methods i) (nth a1.Methods i))) (fun _ => rfl) (fun _ _ => rfl)]
        obtain ⟨t, p, s, u, v⟩ := a0; obtain ⟨t', p', s', u', v'⟩ := a1
        by_cases h4 : t = t' <;> by_cases h5 : p = p' <;> by_cases h6 : s = s' <;> by_cases h7 : u = u' <;> by_cases h8 : v = v' <;> simp_all
      · have : a0 ≠ a1 := fun h => h3 (by rw [h])
        simp [this, TM h3]
    · have : a0 ≠ a1 := fun h => h2 (by rw [h])
      simp [this, TM h2]
  · have : a0 ≠ a1 := fun h => h1 (by rw [h])
    simp [this, TM h1]
@[simp] theorem Vo (a0 a1 : ZG) : QY a0 a1 = decide (a0 = a1) := by
  unfold QY
  by_cases h1 : a0.ZM.length = a1.ZM.length
  · by_cases h2 : a0.ZA.length = a1.ZA.length
    · rw [jr (F := xE a0 a1) (a := a0.ZM) (b := a1.ZM) (c := fun i => _) h1 (fun i => congrArg (! ·) (CK (nth a0.ZM i) (nth a1.ZM i))) (fun _ => rfl) (fun _ _ => rfl),
        jr (F := y5 a0 a1) (a := a0.ZA) (b := a1.ZA) (c := fun i => !J2 (nth a0.ZA i) (nth a1.ZA i)) h2 (fun i => by simp) (fun _ => rfl) (fun _ _ => rfl)]
      simp only [VY, Uq]
      obtain ⟨f, c, e, a, s, l, n, g⟩ := a0; obtain ⟨f', c', e', a', s', l', n', g'⟩ := a1
      by_cases q1 : f = f'
      · by_cases q2 : c = c'
        · by_cases q3 : e = e'
          · by_cases q4 : a = a' <;> by_cases q5 : s = s' <;> by_cases q6 : l = l' <;> by_cases q7 : n = n' <;> by_cases q8 : g = g' <;> simp_all
          · simp_all
        · simp_all
      · simp_all
    · have : a0 ≠ a1 := fun h => h2 (by rw [h])
      simp [this, TM h2]
  · have : a0 ≠ a1 := fun h => h1 (by rw [h])
    simp [this, TM h1]
theorem Hm (a0 : List Int) (a1 : Int) : JP a0 a1 = true ↔ ∃ i, 0 <= i /\ i < a0.length /\ (nth a0 i == a1) = true := by
  unfold JP Ts
  rcases Pv (L := WS a0 a1) (r := fun i => (i : Int)) (fun _ => rfl) (fun _ _ => rfl) (a0.length + 1) 0 (by omega) with ⟨e, p⟩ | ⟨i, e, p1, p2, p3, p4⟩
  · rw [e]
    constructor
    · intro h; simp at h
    · rintro ⟨i, h1, h2, h3⟩; have := p i h1 h2; rw [h3] at this; cases this
  · rw [e]
    exact ⟨fun _ => ⟨i, p1, p2, p3⟩, fun _ => by simp⟩
theorem RU (a0 : ZG) (k : Nat) : ∀ (n : Nat) (l : List Int) (v : Nat), KI a0 k n l v ≠ .inl true := by
  intro n
  induction n with
  | zero => intro l v h; cases h
  | succ n ih =>
    intro l v h
    rw [KI] at h
    generalize decide ((v : Int) < ((nth a0.ZA k).ZC.length : Int)) = c at h
    cases c with
    | false => cases h
    | true =>
      simp only [cond_true] at h
      generalize (JP l (nth (nth a0.ZA k).ZC v).Id || decide ((nth (nth a0.ZA k).ZC v).Id >= a0.Next)) = c at h
      cases c with
      | true => cases h
      | false => exact ih _ _ h
theorem RO (a0 : ZG) : ∀ (n : Nat) (l : List Int) (v : Nat), K0 a0 n l v ≠ .inl true := by
  intro n
  induction n with
  | zero => intro l v h; cases h
  | succ n ih =>
    intro l v h
    rw [K0] at h
    generalize decide ((v : Int) < (a0.ZA.length : Int)) = c at h
    cases c with
    | false => cases h
    | true =>
      simp only [cond_true] at h
      generalize (!YX (nth a0.ZA v) || (nth a0.ZA v).Id != (v : Int)) = c at h
      cases c with
      | true => cases h
      | false =>
        simp only [cond_false] at h
        cases hh : KI a0 v ((nth a0.ZA v).ZC.length + 1) l 0 with
        | inl r =>
          rw [hh] at h; simp only at h
          cases h; exact RU _ _ _ _ _ hh
        | inr z => rw [hh] at h; exact ih _ _ h
theorem DN (s : Sum Bool Unit) (X : Bool) : s ≠ .inl true -> ((match s with | .inl r => r | .inr _ => X) = true ↔ s = .inr () /\ X = true) := by
  intro h
  cases s with
  | inl r => cases r with
    | true => exact absurd rfl h
    | false => simp
  | inr u => simp
theorem Em {α : Type} [Inhabited α] (l : List α) (i : Nat) : l.set i (nth l i) = l := by
  rcases Nat.lt_or_ge i l.length with h | h
  · simp [nth, List.getD_eq_getElem?_getD, List.getElem?_eq_getElem h]
  · exact List.set_eq_of_length_le h
def Gg (a0 : ZG) (a2 : Int) (a3 : ZU) (a4 : Int) (v : Nat) : Zv × Bool := Y8 a0.Frame.Zq (Zv.mk a2 (nth a0.ZM v).ZQ (ZT a0.Frame.Methods a0.Frame.Now) (Yo (ZT a0.Frame.Methods a0.Frame.Now) a3) 1 a4 0 0 0)
def N9 (a0 : ZG) (a2 : Int) (a3 : ZU) (a4 a5 : Int) (v : Nat) : ZV := ZV.mk a0.Next a5 a3 (Gg a0 a2 a3 a4 v).1 (Zi.mk ([(Qo (Gg a0 a2 a3 a4 v).1), (Ja (nth a0.ZM v))] : List Ze) ([] : List Zb))
def Mh (a0 : ZG) (a1 : Int) (it : ZV) : ZG := ZG.mk a0.Frame a0.ZM a0.Zy (a0.ZA.set a1.toNat (Yd (nth a0.ZA a1.toNat) it).1) a0.Yb a0.YO (W (a0.Next + 1)) a0.YF
theorem Iq {a1 : List Int} (h : ∀ i, 0 < i -> i < a1.length -> nth a1 (i - 1) < nth a1 i) : ∀ d v, 0 < d -> v + d < a1.length -> nth a1 v < nth a1 (v + d)
  | 0, _, h0, _ => by omega
  | 1, v, _, hv => h (v + 1) (by omega) hv
  | d + 2, v, _, hv => by
    have h1 := Iq h (d + 1) v (by omega) (by omega)
    have h2 := h (v + (d + 2)) (by omega) hv
    rw [show v + (d + 2) - 1 = v + (d + 1) by omega] at h2
    omega
def yp (l : List ZE) : List Int := l.flatMap (fun a => a.ZC.map (·.Id))
def W4 (nx : Int) (l m : List Int) : Prop := (∀ x ∈ m, x ∉ l /\ x < nx) /\ m.Nodup
theorem Cb (l : List Int) (x : Int) : JP l x = true ↔ x ∈ l := by
  rw [Hm]
  constructor
  · rintro ⟨i, _, h, e⟩
    rw [beq_iff_eq, Jw h] at e
    rw [<- e]; exact List.getElem_mem h
  · intro h
    obtain ⟨i, hi, e⟩ := List.mem_iff_getElem.1 h
    exact ⟨i, Nat.zero_le _, hi, by rw [beq_iff_eq, Jw hi, e]⟩
theorem UE {nx x : Int} {l m : List Int} : W4 nx l (x :: m) ↔ (x ∉ l /\ x < nx) /\ W4 nx (l ++ [x]) m := by
  unfold W4
  rw [List.nodup_cons]
  constructor
  · rintro ⟨h1, h2, h3⟩
    refine ⟨h1 x List.mem_cons_self, fun y hy => ⟨fun hm => ?_, (h1 y (List.mem_cons_of_mem _ hy)).2⟩, h3⟩
    rcases List.mem_append.1 hm with hm | hm
    · exact (h1 y (List.mem_cons_of_mem _ hy)).1 hm
    · rw [List.mem_singleton.1 hm] at hy; exact h2 hy
  · rintro ⟨h1, h2, h3⟩
    refine ⟨fun y hy => ?_, fun hx => (h2 x hx).1 (List.mem_append.2 (.inr (List.mem_singleton.2 rfl))), h3⟩
    rcases List.mem_cons.1 hy with rfl | hy
    · exact h1
    · exact ⟨fun hm => (h2 y hy).1 (List.mem_append.2 (.inl hm)), (h2 y hy).2⟩
theorem Up (nx : Int) (l : List Int) : W4 nx l [] := ⟨fun x h => (by cases h), List.nodup_nil⟩
theorem GZ {nx : Int} {l m k : List Int} : W4 nx l (m ++ k) ↔ W4 nx l m /\ W4 nx (l ++ m) k := by
  induction m generalizing l with
  | nil => rw [List.nil_append, List.append_nil]; exact ⟨fun h => ⟨Up _ _, h⟩, fun h => h.2⟩
  | cons x m ih =>
    rw [List.cons_append, UE, UE, ih, List.append_assoc]
    exact ⟨fun h => ⟨⟨h.1, h.2.1⟩, h.2.2⟩, fun h => ⟨h.1.1, h.1.2, h.2⟩⟩
theorem AD (w : ZG) (k : Nat) : ∀ (n : Nat) (l : List Int) (v : Nat), (nth w.ZA k).ZC.length < n + v -> v <= (nth w.ZA k).ZC.length ->
    (KI w k n l v = .inr (l ++ ((nth w.ZA k).ZC.drop v).map (·.Id)) /\ W4 w.Next l (((nth w.ZA k).ZC.drop v).map (·.Id))) \/ (KI w k n l v = .inl false /\ ¬ W4 w.Next l (((nth w.ZA k).ZC.drop v).map (·.Id)))
  | 0, l, v, h, hv => by omega
  | n + 1, l, v, h, hv => by
    rw [KI]
    by_cases uQ : v < (nth w.ZA k).ZC.length
    · rw [decide_eq_true (show (v : Int) < ((nth w.ZA k).ZC.length : Int) by omega), QM, List.drop_eq_getElem_cons uQ, List.map_cons, Jw uQ, UE]
      generalize hx : ((nth w.ZA k).ZC[v]).Id = x
      cases hc : (JP l x || decide (x >= w.Next)) with
      | true =>
        rw [QM]
        refine .inr ⟨rfl, fun hg => ?_⟩
        rcases Bool.or_eq_true _ _ ▸ hc with h1 | h1
        · exact hg.1.1 ((Cb _ _).1 h1)
        · have := of_decide_eq_true h1; have := hg.1.2; omega
      | false =>
        rw [Xq]
        rw [Bool.or_eq_false_iff] at hc
        have hn : x ∉ l /\ x < w.Next := ⟨fun hm => (by rw [(Cb _ _).2 hm] at hc; cases hc.1), (by have := of_decide_eq_false hc.2; omega)⟩
        rcases AD w k n (l ++ [x]) (v + 1) (by omega) uQ with ⟨e, hg⟩ | ⟨e, hg⟩
        · exact .inl ⟨by rw [e, List.append_assoc]; rfl, hn, hg⟩
        · exact .inr ⟨e, fun h => hg h.2⟩
    · rw [decide_eq_false (show ¬ (v : Int) < ((nth w.ZA k).ZC.length : Int) by omega), Xq, List.drop_eq_nil_of_le (by omega), List.map_nil, List.append_nil]
      exact .inl ⟨rfl, Up _ _⟩
theorem AG (w : ZG) : ∀ (n : Nat) (l : List Int) (v : Nat), w.ZA.length < n + v -> v <= w.ZA.length ->
    (K0 w n l v = .inr () ↔ (∀ i, v <= i -> i < w.ZA.length -> YX (nth w.ZA i) = true /\ (nth w.ZA i).Id = (i : Int)) /\ W4 w.Next l (yp (w.ZA.drop v)))
  | 0, l, v, h, hv => by omega
  | n + 1, l, v, h, hv => by
    rw [K0]
    by_cases uQ : v < w.ZA.length
    · rw [decide_eq_true (show (v : Int) < (w.ZA.length : Int) by omega), QM]
      have e1 : yp (w.ZA.drop v) = (nth w.ZA v).ZC.map (·.Id) ++ yp (w.ZA.drop (v + 1)) := by
        rw [List.drop_eq_getElem_cons uQ, Jw uQ]; rfl
      rw [e1, GZ]
      cases hc : (!YX (nth w.ZA v) || (nth w.ZA v).Id != (v : Int)) with
      | true =>
        rw [QM]
        refine ⟨fun h => (by cases h), fun h => ?_⟩
        obtain ⟨h1, h2⟩ := h.1 v (Nat.le_refl _) uQ
        rw [h1, h2] at hc
        simp at hc
      | false =>
        rw [Xq]
        simp only [Bool.or_eq_false_iff, Bool.not_eq_false', bne_eq_false_iff_eq] at hc
        rcases AD w v ((nth w.ZA v).ZC.length + 1) l 0 (by omega) (Nat.zero_le _) with ⟨e, hg⟩ | ⟨e, hg⟩
        · rw [e]
          rw [List.drop_zero] at hg ⊢
          refine (AG w n _ (v + 1) (by omega) uQ).trans ⟨fun h => ⟨fun i h1 h2 => ?_, hg, h.2⟩, fun h => ⟨fun i h1 h2 => h.1 i (by omega) h2, h.2.2⟩⟩
          rcases Nat.eq_or_lt_of_le h1 with rfl | h1
          · exact hc
          · exact h.1 i h1 h2
        · rw [e]
          rw [List.drop_zero] at hg
          exact ⟨fun h => (by cases h), fun h => absurd h.2.1 hg⟩
    · rw [decide_eq_false (show ¬ (v : Int) < (w.ZA.length : Int) by omega), Xq, List.drop_eq_nil_of_le (by omega)]
      exact ⟨fun _ => ⟨fun i h1 h2 => by omega, Up _ _⟩, fun _ => rfl⟩
structure PlW (w : ZG) : Prop where
  fr : yk w.Frame = true
  en : w.Zy.length = w.ZM.length
  ar : 1 <= w.ZA.length /\ w.ZA.length <= 4
  sl : w.Yb.length = w.Frame.ZF.length
  ll : (w.YO.length : Int) <= w.Frame.KE
  nx : 1 <= w.Next
  lr : QW w.YO = true
  fo : QW w.YF = true
  ce : ∀ i, i < w.ZM.length -> WX w.Frame.Zq (nth w.ZM i) = true /\ xN w.ZM (nth w.ZM i).ZQ = (i : Int) /\ ZZ (nth w.Zy i) (-1) 10001 = true
  ok : ∀ i, i < w.ZA.length -> YX (nth w.ZA i) = true /\ (nth w.ZA i).Id = (i : Int)
  nd : (yp w.ZA).Nodup
  lt : ∀ x ∈ yp w.ZA, x < w.Next
  sq : ∀ i, i < w.Yb.length -> 0 <= nth w.Yb i
  lf : ∀ i, i < w.YO.length -> 0 <= Zo w.Frame.ZF (nth w.YO i)
theorem Gm (w : ZG) : qh w = true ↔ PlW w := by
  unfold qh
  have hi : ∀ b : Bool, (bif b then false else (match jM w (w.ZM.length + 1) 0 with | .inl r1 => r1 | .inr _ => (match K0 w (w.ZA.length + 1) ([] : List Int) 0 with | .inl r2 => r2 | .inr _ => (match jU w (w.Yb.length + 1) 0 with | .inl r4 => r4 | .inr _ => (match jS w (w.YO.length + 1) 0 with | .inl r5 => r5 | .inr _ => true))))) = true ↔ b = false /\ _ := fun b => by
    cases b
    · exact ((kF (L := jM w) (fun _ => rfl) (fun _ _ => rfl) (w.ZM.length + 1) 0 (by omega) _).trans (and_congr_right fun _ => (DN _ _ (RO w (w.ZA.length + 1) [] 0)).trans (and_congr_right fun _ => (kF (L := jU w) (fun _ => rfl) (fun _ _ => rfl) (w.Yb.length + 1) 0 (by omega) _).trans (and_congr_right fun _ => kF (L := jS w) (fun _ => rfl) (fun _ _ => rfl) (w.YO.length + 1) 0 (by omega) _)))).trans ⟨fun h => ⟨rfl, h⟩, fun h => h.2⟩
    · exact ⟨fun h => (by cases h), fun h => (by cases h.1)⟩
  refine (hi _).trans ?_
  rw [AG w (w.ZA.length + 1) [] 0 (by omega) (Nat.zero_le _), List.drop_zero]
  simp only [Bool.or_eq_false_iff, Bool.not_eq_false', beq_iff_eq, bne_eq_false_iff_eq, decide_eq_false_iff_not, ZZ, Bool.and_eq_true, decide_eq_true_eq]
  constructor
  · rintro ⟨⟨⟨⟨⟨⟨⟨⟨h1, h2⟩, h3⟩, h4⟩, h5⟩, h6⟩, h7⟩, h8⟩, h9, ⟨sH, nc, mw⟩, iV, gL, _⟩
    exact ⟨h1, by omega, by omega, by omega, by omega, by omega, h7, h8, fun i hi => ⟨(h9 i (Nat.zero_le _) hi).1.1, (h9 i (Nat.zero_le _) hi).1.2, by have := (h9 i (Nat.zero_le _) hi).2; simpa [ZZ] using this⟩, fun i hi => sH i (Nat.zero_le _) hi, mw, fun x hx => (nc x hx).2, fun i hi => by have := iV i (Nat.zero_le _) hi; omega, fun i hi => by have := gL i (Nat.zero_le _) hi; omega⟩
  · intro h
    refine ⟨⟨⟨⟨⟨⟨⟨⟨h.fr, by have := h.en; omega⟩, by have := h.ar; omega⟩, by have := h.sl; omega⟩, by have := h.ll; omega⟩, by have := h.nx; omega⟩, h.lr⟩, h.fo⟩, fun i _ hi => ⟨⟨(h.ce i hi).1, (h.ce i hi).2.1⟩, by have := (h.ce i hi).2.2; simpa [ZZ] using this⟩, ⟨fun i _ hi => h.ok i hi, fun x hx => ⟨fun hn => (by cases hn), h.lt x hx⟩, h.nd⟩, fun i _ hi => by have := h.sq i hi; omega, fun i _ hi => by have := h.lf i hi; omega, trivial⟩
/- archives -/
theorem yJ {α : Type} [Inhabited α] (l : List α) (i j : Nat) (x : α) : nth (l.set i x) j = if i = j /\ j < l.length then x else nth l j := by
  simp only [nth, List.getD_eq_getElem?_getD, List.getElem?_set]
  by_cases h : i = j
  · subst h
    by_cases h2 : i < l.length
    · simp [h2]
    · simp [h2]
  · simp [h]
structure PlA (a : ZE) : Prop where
  it : ∀ x ∈ a.ZC, KG x = true
  as : (a.ZC.map (·.Id)).Pairwise (· < ·)
  id : 0 <= a.Id /\ a.Id <= 99
  ln : a.ZC.length <= 8
theorem WV (a : ZE) : YX a = true ↔ PlA a := by
  unfold YX
  refine (kF (L := jD a) (fun _ => rfl) (fun _ _ => rfl) (a.ZC.length + 1) 0 (by omega) _).trans ?_
  simp only [Bool.or_eq_false_iff, Bool.not_eq_false', Bool.and_eq_false_imp, decide_eq_true_eq, decide_eq_false_iff_not, ZZ, Bool.and_eq_true]
  constructor
  · rintro ⟨h1, ⟨h2, h3⟩, h4⟩
    refine ⟨fun x hx => ?_, ?_, ⟨h2, h3⟩, by omega⟩
    · obtain ⟨i, hi, e⟩ := List.mem_iff_getElem.1 hx
      have := (h1 i (Nat.zero_le _) hi).1
      rw [Jw hi, e] at this
      exact this
    · have hc : ∀ i, 0 < i -> i < (a.ZC.map (·.Id)).length -> nth (a.ZC.map (·.Id)) (i - 1) < nth (a.ZC.map (·.Id)) i := fun i h0 hi => by
        rw [List.length_map] at hi
        rw [Tt (by omega), Tt hi]
        have := (h1 i (Nat.zero_le _) hi).2 (by omega)
        omega
      rw [List.pairwise_iff_getElem]
      intro i j hi hj oU
      have := Iq hc (j - i) i (by omega) (by omega)
      rw [show i + (j - i) = j by omega, Jw hi, Jw hj] at this
      exact this
  · intro h
    refine ⟨fun i _ hi => ⟨h.it _ (by rw [Jw hi]; exact List.getElem_mem hi), fun h0 => ?_⟩, h.id, by have := h.ln; omega⟩
    have := List.pairwise_iff_getElem.1 h.as (i - 1) i (by rw [List.length_map]; omega) (by rw [List.length_map]; exact hi) (by omega)
    rw [List.getElem_map, List.getElem_map] at this
    rw [Jw (show i - 1 < a.ZC.length by omega), Jw hi]
    omega
theorem ON (a : ZE) (l : List ZE) : yp (a :: l) = a.ZC.map (·.Id) ++ yp l := rfl
theorem Mz (l m : List ZE) : yp (l ++ m) = yp l ++ yp m := List.flatMap_append
theorem UO (l : List ZE) (i : Nat) (h : i < l.length) : ∃ A B, yp l = A ++ ((nth l i).ZC.map (·.Id) ++ B) /\ ∀ a, yp (l.set i a) = A ++ (a.ZC.map (·.Id) ++ B) := by
  refine ⟨yp (l.take i), yp (l.drop (i + 1)), ?_, fun a => ?_⟩
  · rw [<- ON, <- Mz, Jw h, <- List.drop_eq_getElem_cons h, List.take_append_drop]
  · rw [<- ON, <- Mz, List.set_eq_take_append_cons_drop, if_pos h]
theorem Mv {l : List ZE} {i : Nat} {a : ZE} (e : (a.ZC.map (·.Id)).Sublist ((nth l i).ZC.map (·.Id))) : (yp (l.set i a)).Sublist (yp l) := by
  by_cases h : i < l.length
  · obtain ⟨A, B, h1, h2⟩ := UO l i h
    rw [h2, h1]
    exact (List.Sublist.refl A).append (e.append (List.Sublist.refl B))
  · rw [List.set_eq_of_length_le (by omega)]
    exact List.Sublist.refl _
theorem Nv {l : List ZE} {i : Nat} {a : ZE} {x : Int} (h : i < l.length) (e : (a.ZC.map (·.Id)).Perm (x :: (nth l i).ZC.map (·.Id))) : (yp (l.set i a)).Perm (x :: yp l) := by
  obtain ⟨A, B, h1, h2⟩ := UO l i h
  rw [h2, h1]
  refine List.Perm.trans (List.Perm.append_left A (List.Perm.append_right B e)) ?_
  rw [List.cons_append]
  exact List.perm_middle
/- the arrangement of a world stays -/
theorem Tc {w : ZG} (h : PlW w) {i : Nat} {a : ZE} (ha : YX a = true) (oa : a.Id = (i : Int)) : ∀ j, j < (w.ZA.set i a).length -> YX (nth (w.ZA.set i a) j) = true /\ (nth (w.ZA.set i a) j).Id = (j : Int) := fun j hj => by
  rw [List.length_set] at hj
  rw [yJ]
  split
  · rename_i hc; rw [<- hc.1]; exact ⟨ha, oa⟩
  · exact h.ok j hj
theorem F0 {w : ZG} (h : PlW w) {i : Nat} {a : ZE} (ha : YX a = true) (oa : a.Id = (i : Int)) (e : (a.ZC.map (·.Id)).Sublist ((nth w.ZA i).ZC.map (·.Id))) {sq : List Int} (hl : sq.length = w.Yb.length) (hs : ∀ j, j < sq.length -> 0 <= nth sq j) : PlW (ZG.mk w.Frame w.ZM w.Zy (w.ZA.set i a) sq w.YO w.Next w.YF) :=
  ⟨h.fr, h.en, by rw [List.length_set]; exact h.ar, hl.trans h.sl, h.ll, h.nx, h.lr, h.fo, h.ce, Tc h ha oa, h.nd.sublist (Mv e), fun x hx => h.lt x ((Mv e).subset hx), hs, h.lf⟩
theorem B0 {w : ZG} (h : PlW w) {i : Nat} {a : ZE} (ha : YX a = true) (oa : a.Id = (i : Int)) (e : a.ZC.map (·.Id) = (nth w.ZA i).ZC.map (·.Id)) : PlW (ZG.mk w.Frame w.ZM w.Zy (w.ZA.set i a) w.Yb w.YO w.Next w.YF) :=
  F0 h ha oa (by rw [e]; exact List.Sublist.refl _) rfl h.sq
/- the steps, case by case -/
theorem OF (x a b : Int) : ZZ x a b = true ↔ a <= x /\ x <= b := by
  simp only [ZZ, Bool.and_eq_true, decide_eq_true_eq]
theorem CQ {f : Zu} (h : yk f = true) : 0 <= f.Now /\ f.Now <= 10000 := by
  simp only [yk, zP, Bool.and_eq_true, OF] at h
  exact h.2
theorem Hv {f : Zu} (h : yk f = true) {t : Int} (h0 : 0 <= t) (h1 : t <= 10000) : yk (Zu.mk f.Zq f.ZF f.Methods f.KE t) = true := by
  simp only [yk, zP, Bool.and_eq_true, OF] at h ⊢
  exact ⟨h.1, h0, h1⟩
theorem kA {w : ZG} {i : Int} (h : Ya w i = true) (hl : w.ZA.length <= 9223372036854775807) : 0 <= i /\ i.toNat < w.ZA.length := by
  unfold Ya at h
  rw [OF] at h
  simp only [XL] at h
  omega
theorem E5 {P : ZG × Bool -> Prop} {w : ZG} {n : Int} (h0 : P (w, false)) (h1 : 0 <= n -> n <= 100 -> W (w.Frame.Now + n) <= 10000 -> P (ZG.mk (Zu.mk w.Frame.Zq w.Frame.ZF w.Frame.Methods w.Frame.KE (W (w.Frame.Now + n))) w.ZM w.Zy w.ZA w.Yb w.YO w.Next w.YF, true)) : P (KZ w n) := by
  unfold KZ
  refine Z6 (p := P) (fun _ => h0) (fun h => ?_)
  simp only [Bool.or_eq_false_iff, Bool.not_eq_false', OF, decide_eq_false_iff_not] at h
  exact h1 h.1.1 h.1.2 (by omega)
theorem SF {P : ZG × Bool -> Prop} {a0 : ZG} {a1 a2 : Int} {a3 : ZU} {a4 a5 : Int} (h0 : P (a0, false)) (h1 : ∀ v, v < a0.ZM.length -> (nth a0.ZM v).Key = a2 -> (Gg a0 a2 a3 a4 v).2 = true -> (Yd (nth a0.ZA a1.toNat) (N9 a0 a2 a3 a4 a5 v)).2 = true -> P (Mh a0 a1 (N9 a0 a2 a3 a4 a5 v), true)) :
    ∀ (m v : Nat) (r : ZG × Bool), QE a0 a1 a2 a3 a4 a5 m v = .inl r -> P r
  | 0, v, r, h => by cases h
  | m + 1, v, r, h => by
    simp only [QE] at h
    by_cases hv : v < a0.ZM.length
    · rw [decide_eq_true (show (v : Int) < (a0.ZM.length : Int) by omega), QM] at h
      cases hk : ((nth a0.ZM v).Key != a2) with
      | true => rw [hk, QM] at h; exact SF h0 h1 m (v + 1) r h
      | false =>
        rw [hk, Xq] at h
        have hk : (nth a0.ZM v).Key = a2 := by simpa using hk
        change (bif ((!(Gg a0 a2 a3 a4 v).2) || !(Yd (nth a0.ZA a1.toNat) (N9 a0 a2 a3 a4 a5 v)).2) then (Sum.inl (a0, false) : Sum (ZG × Bool) Unit) else .inl (Mh a0 a1 (N9 a0 a2 a3 a4 a5 v), true)) = .inl r at h
        cases hs : ((!(Gg a0 a2 a3 a4 v).2) || !(Yd (nth a0.ZA a1.toNat) (N9 a0 a2 a3 a4 a5 v)).2) with
        | true => rw [hs, QM] at h; cases h; exact h0
        | false =>
          rw [hs, Xq] at h; cases h
          simp only [Bool.or_eq_false_iff, Bool.not_eq_false'] at hs
          exact h1 v hv hk hs.1 hs.2
    · rw [decide_eq_false (show ¬ (v : Int) < (a0.ZM.length : Int) by omega), Xq] at h
      cases h
theorem OP {P : ZG × Bool -> Prop} {a0 : ZG} {a1 a2 : Int} {a3 : ZU} {a4 a5 : Int} (h0 : P (a0, false)) (h1 : Ya a0 a1 = true -> 0 <= Yq a0.Frame.Zq a2 -> 0 <= ZT a0.Frame.Methods a0.Frame.Now -> ∀ v, v < a0.ZM.length -> (nth a0.ZM v).Key = a2 -> (Gg a0 a2 a3 a4 v).2 = true -> (Yd (nth a0.ZA a1.toNat) (N9 a0 a2 a3 a4 a5 v)).2 = true -> P (Mh a0 a1 (N9 a0 a2 a3 a4 a5 v), true)) : P (Yt a0 a1 a2 a3 a4 a5) := by
  unfold Yt
  refine Z6 (p := P) (fun _ => h0) (fun h => ?_)
  simp only [Bool.or_eq_false_iff, Bool.not_eq_false', decide_eq_false_iff_not] at h
  cases e : QE a0 a1 a2 a3 a4 a5 (a0.ZM.length + 1) 0 with
  | inl r => exact SF h0 (h1 h.1.1 (by omega) (by omega)) _ _ r e
  | inr _ => exact h0
theorem Eo {P : ZG × Bool -> Prop} {a0 : ZG} {a1 a2 : Int} {a3 : ZU} {a4 a5 : Int} (h0 : P (a0, false)) (h1 : Ya a0 a1 = true -> 0 <= Yq a0.Frame.Zq a2 -> (nth a0.Frame.Zq (Yq a0.Frame.Zq a2).toNat).Uj <= a0.Frame.Now -> 0 <= ZT a0.Frame.Methods a0.Frame.Now -> ∀ v, v < a0.ZM.length -> (nth a0.ZM v).Key = a2 -> (Gg a0 a2 a3 a4 v).2 = true -> (Yd (nth a0.ZA a1.toNat) (N9 a0 a2 a3 a4 a5 v)).2 = true -> P (Mh a0 a1 (N9 a0 a2 a3 a4 a5 v), true)) : P (JN a0 a1 a2 a3 a4 a5) := by
  unfold JN
  refine Z6 (p := P) (fun _ => h0) (fun h => ?_)
  simp only [Bool.or_eq_false_iff, decide_eq_false_iff_not] at h
  exact OP (P := P) h0 (fun k1 k2 k3 => h1 k1 k2 (by omega) k3)
theorem FQ {P : ZG × Bool -> Prop} {a0 : ZG} {a1 a2 : Int} {a3 : ZU} (h0 : P (a0, false)) (h1 : qk a0.Frame a2 = true -> Ya a0 a1 = true -> 0 <= Yq a0.Frame.Zq a2 -> 0 <= ZT a0.Frame.Methods a0.Frame.Now -> ∀ v, v < a0.ZM.length -> (nth a0.ZM v).Key = a2 -> (Gg a0 a2 a3 0 v).2 = true -> (Yd (nth a0.ZA a1.toNat) (N9 a0 a2 a3 0 10000 v)).2 = true -> P (ZG.mk a0.Frame a0.ZM a0.Zy (a0.ZA.set a1.toNat (Yd (nth a0.ZA a1.toNat) (N9 a0 a2 a3 0 10000 v)).1) a0.Yb a0.YO (W (a0.Next + 1)) (a0.YF ++ [a0.Next]), true)) : P (JI a0 a1 a2 a3) := by
  unfold JI
  refine Z6 (p := P) (fun _ => h0) (fun h => ?_)
  rw [Bool.not_eq_false'] at h
  exact OP (P := fun r => P (bif r.2 then (ZG.mk r.1.Frame r.1.ZM r.1.Zy r.1.ZA r.1.Yb r.1.YO r.1.Next (r.1.YF ++ ([a0.Next] : List Int)), r.2) else (r.1, r.2))) h0 (fun k1 k2 k3 v k4 k5 k6 k7 => h1 h k1 k2 k3 v k4 k5 k6 k7)
theorem S5 {a : ZE} {x : ZV} (h : (Yd a x).2 = true) : Za a x.Id < 0 /\ YX a = true /\ YX (Yd a x).1 = true /\ ∃ k, (Yd a x).1 = ZE.mk a.Id ((a.ZC.take k ++ [x]) ++ a.ZC.drop k) := by
  unfold Yd at h ⊢
  cases h1 : ((decide ((Za a x.Id) >= 0)) || (!(YX a))) with
  | true => rw [h1, QM] at h; cases h
  | false =>
    rw [h1, Xq] at h
    rw [Xq]
    simp only [Bool.or_eq_false_iff, Bool.not_eq_false', decide_eq_false_iff_not] at h1
    generalize jW a x (a.ZC.length + 1) 0 = k at h ⊢
    dsimp only at h ⊢
    cases h2 : YX (ZE.mk a.Id (((a.ZC.take k) ++ ([x] : List ZV)) ++ (a.ZC.drop k))) with
    | false => rw [h2, Bool.not_false, QM] at h; cases h
    | true =>
      rw [Bool.not_true, Xq]
      exact ⟨by omega, h1.2, h2, k, rfl⟩
theorem Ux {a : ZE} {x : ZV} (h : (Yd a x).2 = true) : ((Yd a x).1.ZC.map (·.Id)).Perm (x.Id :: a.ZC.map (·.Id)) := by
  obtain ⟨_, _, _, k, e⟩ := S5 h
  rw [e]
  show (((a.ZC.take k ++ [x]) ++ a.ZC.drop k).map (·.Id)).Perm _
  rw [List.append_assoc, List.map_append, List.singleton_append, List.map_cons]
  refine List.perm_middle.trans ?_
  rw [<- List.map_append, List.take_append_drop]
theorem Of {P : ZG × Bool -> Prop} {w : ZG} {i id : Int} {st : Zn} (h0 : P (w, false)) (h1 : (Xb w.Frame.Zq st).2 = true -> 0 <= Za (nth w.ZA i.toNat) id -> (Qw (nth (nth w.ZA i.toNat).ZC (Za (nth w.ZA i.toNat) id).toNat).ZJ (Xu (Xb w.Frame.Zq st).1)).2 = true -> P (ZG.mk w.Frame w.ZM w.Zy (w.ZA.set i.toNat (Qq (nth w.ZA i.toNat) id (Xu (Xb w.Frame.Zq st).1)).1) w.Yb w.YO w.Next w.YF, true)) : P (Qf w i id st) := by
  unfold Qf
  refine Z6 (p := P) (fun _ => h0) (fun h => ?_)
  simp only [Bool.or_eq_false_iff, Bool.not_eq_false'] at h
  obtain ⟨h2, h3⟩ := h
  unfold Qq at h3
  cases h4 : decide ((Za (nth w.ZA i.toNat) id) < 0) with
  | true => rw [h4, QM] at h3; cases h3
  | false =>
    rw [h4, Xq] at h3
    exact h1 h2 (by have := of_decide_eq_false h4; omega) h3
/- renewing -/
def plN (w : ZG) (ids : List Int) (v : Nat) : Nat := (Zo w.Frame.ZF (nth ids v)).toNat
def D5 (w : ZG) (i : Int) (ids : List Int) (v : Nat) (t : Int) : Zp × Bool := JF w.Frame.Zq w.Frame.ZF (Zp.mk (nth ids v) (nth w.Yb (plN w ids v)) t (Xk (nth w.ZA i.toNat) (ZT w.Frame.Methods w.Frame.Now)) 0)
def Cd (w : ZG) (rl : Int) : Int := (if (if (W (w.Frame.Now + rl)) < 10000 then (W (w.Frame.Now + rl)) else 10000) > 0 then (if (W (w.Frame.Now + rl)) < 10000 then (W (w.Frame.Now + rl)) else 10000) else 0)
structure wS (w : ZG) (i : Int) (ids : List Int) (rl : Int) (v : Nat) (t : Int) : Prop where
  au : 0 <= Zo w.Frame.ZF (nth ids v)
  lt : plN w ids v < w.Yb.length
  ky : 0 <= Yq w.Frame.Zq (nth w.Frame.ZF (plN w ids v)).Key
  bo : (nth w.Frame.Zq (Yq w.Frame.Zq (nth w.Frame.ZF (plN w ids v)).Key).toNat).Uj <= w.Frame.Now
  ok : (D5 w i ids v t).2 = true
  tm : (JP w.YO (nth ids v) = true /\ t = Cd w rl) \/ (JP w.YO (nth ids v) = false /\ t = w.Frame.Now)
theorem MN {P : Nat -> List Zp -> List Int -> Prop} {w : ZG} {i : Int} {ids : List Int} {rl : Int} (hs : ∀ v l q t, v < ids.length -> wS w i ids rl v t -> P v l q -> P (v + 1) (l ++ [(D5 w i ids v t).1]) (q.set (plN w ids v) (W (nth q (plN w ids v) + 1)))) :
    ∀ (m : Nat) (l : List Zp) (v : Nat) (q : List Int), ids.length < m + v -> v <= ids.length -> P v l q -> (∀ r, XW w i ids rl m l v q = .inl r -> r = (w, false)) /\ ∀ z, XW w i ids rl m l v q = .inr z -> P ids.length z.1 z.2
  | 0, l, v, q, h, hv, _ => by omega
  | m + 1, l, v, q, h, hv, hp => by
    rw [XW]
    let p := fun x : Sum (ZG × Bool) (List Zp × List Int) => (∀ r, x = .inl r -> r = (w, false)) /\ ∀ z, x = .inr z -> P ids.length z.1 z.2
    have bad : p (.inl (w, false)) := ⟨fun r h => (by cases h; rfl), fun z h => (by cases h)⟩
    refine Z6 (p := p) (fun hc => ?_) (fun hc => ⟨fun r h => (by cases h), fun z h => (by cases h; have hc : ¬ v < ids.length := (by simpa using hc); have e : v = ids.length := (by omega); rw [<- e]; exact hp)⟩)
    have hc : v < ids.length := by simpa using hc
    refine Z6 (p := p) (fun _ => bad) (fun h1 => ?_)
    refine Z6 (p := p) (fun _ => bad) (fun h2 => ?_)
    simp only [Bool.or_eq_false_iff, decide_eq_false_iff_not] at h1 h2
    have go : ∀ t, ((JP w.YO (nth ids v) = true /\ t = Cd w rl) \/ (JP w.YO (nth ids v) = false /\ t = w.Frame.Now)) -> (D5 w i ids v t).2 = true -> p (XW w i ids rl m (l ++ [(D5 w i ids v t).1]) (v + 1) (q.set (plN w ids v) (W (nth q (plN w ids v) + 1)))) := fun t ht hk =>
      MN hs m _ (v + 1) _ (by omega) hc (hs v l q t hc ⟨by omega, by unfold plN; omega, by unfold plN; omega, by unfold plN; omega, hk, ht⟩ hp)
    refine Z6 (p := p) (fun h3 => ?_) (fun h3 => ?_)
    · refine Z6 (p := p) (fun _ => bad) (fun h4 => ?_)
      rw [Bool.not_eq_false'] at h4
      exact go (Cd w rl) (.inl ⟨h3, rfl⟩) h4
    · refine Z6 (p := p) (fun _ => bad) (fun h4 => ?_)
      rw [Bool.not_eq_false'] at h4
      exact go w.Frame.Now (.inr ⟨h3, rfl⟩) h4
theorem Fa {P : ZG × Bool -> Prop} {Q : Nat -> List Zp -> List Int -> Prop} {w : ZG} {i : Int} {ids : List Int} {rl : Int} (h0 : P (w, false)) (q0 : Q 0 [] w.Yb) (hs : ∀ v l q t, v < ids.length -> wS w i ids rl v t -> Q v l q -> Q (v + 1) (l ++ [(D5 w i ids v t).1]) (q.set (plN w ids v) (W (nth q (plN w ids v) + 1))))
    (h1 : Ya w i = true -> 0 <= ZT w.Frame.Methods w.Frame.Now -> QW ids = true -> ids ≠ [] -> ∀ l q, Q ids.length l q -> (Yw (nth w.ZA i.toNat) (ZT w.Frame.Methods w.Frame.Now) l).2 = true -> P (ZG.mk w.Frame w.ZM w.Zy (w.ZA.set i.toNat (Yw (nth w.ZA i.toNat) (ZT w.Frame.Methods w.Frame.Now) l).1) q w.YO w.Next w.YF, true)) : P (QS w i ids rl) := by
  have k := MN hs (ids.length + 1) [] 0 w.Yb (by omega) (Nat.zero_le _) q0
  unfold QS
  refine Z6 (p := P) (fun _ => h0) (fun h => ?_)
  simp only [Bool.or_eq_false_iff, Bool.not_eq_false', decide_eq_false_iff_not, beq_eq_false_iff_ne] at h
  obtain ⟨⟨⟨⟨k1, k2⟩, k3⟩, k4⟩, k5⟩ := h
  generalize XW w i ids rl (ids.length + 1) [] 0 w.Yb = s at k ⊢
  cases s with
  | inl r => rw [k.1 r rfl]; exact h0
  | inr z =>
    obtain ⟨l, q⟩ := z
    refine Z6 (p := P) (fun _ => h0) (fun h2 => ?_)
    rw [Bool.not_eq_false'] at h2
    exact h1 k1 (by omega) k3 (fun e => k4 (by rw [e]; rfl)) l q (k.2 _ rfl) h2
theorem W3 {s : Zi} {r : Zb} (h : (Ym s r).2 = true) : (Ym s r).1 = Zi.mk s.ZL (s.Zl ++ [r]) /\ Qe (Zi.mk s.ZL (s.Zl ++ [r])) = true := by
  unfold Ym at h ⊢
  cases h2 : Qe (Zi.mk s.ZL (s.Zl ++ ([r] : List Zb))) with
  | false => rw [h2, Bool.not_false, QM] at h; cases h
  | true => exact ⟨rfl, rfl⟩
theorem FY {s : Zi} {p : Ze} (h : (Qw s p).2 = true) : (Qw s p).1 = Zi.mk (s.ZL ++ [p]) s.Zl /\ Qe (Zi.mk (s.ZL ++ [p]) s.Zl) = true := by
  unfold Qw at h ⊢
  cases h2 : Qe (Zi.mk (s.ZL ++ ([p] : List Ze)) s.Zl) with
  | false => rw [h2, Bool.not_false, QM] at h; cases h
  | true => exact ⟨rfl, rfl⟩
/- a sealed archive: each item has one renewal more -/
def wE (a : ZE) (m : Int) (l : List Zp) (v : Nat) : Zb := Zb.mk ((nth a.ZC v).ZJ.ZL.length : Int) m (Xk a m) (Qu m (XZ a m) (v : Int)) l
def F1 (a : ZE) (m : Int) (l : List Zp) (v : Nat) : ZV := ZV.mk (nth a.ZC v).Id (nth a.ZC v).Yr (nth a.ZC v).Doc (nth a.ZC v).Sig (Zi.mk (nth a.ZC v).ZJ.ZL ((nth a.ZC v).ZJ.Zl ++ [wE a m l v]))
theorem HL (a : ZE) (m : Int) (l : List Zp) : ∀ (n v : Nat) (q : List ZV), a.ZC.length < n + v -> v <= a.ZC.length -> q.length = a.ZC.length -> (∀ k, k < a.ZC.length -> nth q k = if k < v then F1 a m l k else nth a.ZC k) ->
    (∀ r, Xg a m l n v q = .inl r -> r = (a, false)) /\ ∀ z, Xg a m l n v q = .inr z -> z.length = a.ZC.length /\ ∀ k, k < a.ZC.length -> nth z k = F1 a m l k
  | 0, v, q, h, hv, _, _ => by omega
  | n + 1, v, q, h, hv, hl, hq => by
    rw [Xg]
    by_cases uQ : v < a.ZC.length
    · rw [decide_eq_true (show (v : Int) < (a.ZC.length : Int) by omega), QM]
      cases hc : (Ym (nth a.ZC v).ZJ (wE a m l v)).2 with
      | false =>
        rw [show (Ym (nth a.ZC v).ZJ (Zb.mk ((nth a.ZC v).ZJ.ZL.length : Int) m (Xk a m) (Qu m (XZ a m) (v : Int)) l)).2 = false from hc, Bool.not_false, QM]
        exact ⟨fun r h => (by cases h; rfl), fun z h => (by cases h)⟩
      | true =>
        rw [show (Ym (nth a.ZC v).ZJ (Zb.mk ((nth a.ZC v).ZJ.ZL.length : Int) m (Xk a m) (Qu m (XZ a m) (v : Int)) l)).2 = true from hc, Bool.not_true, Xq]
        refine HL a m l n (v + 1) _ (by omega) uQ (by rw [List.length_set]; exact hl) (fun k hk => ?_)
        rw [yJ]
        split
        · rename_i he
          obtain ⟨rfl, _⟩ := he
          rw [if_pos (Nat.lt_succ_self _), hq v hk, if_neg (Nat.lt_irrefl _), show (Ym (nth a.ZC v).ZJ (Zb.mk ((nth a.ZC v).ZJ.ZL.length : Int) m (Xk a m) (Qu m (XZ a m) (v : Int)) l)).1 = _ from (W3 hc).1]
          rfl
        · rename_i he
          have uH : v ≠ k := fun e => he ⟨e, by omega⟩
          rw [hq k hk]
          by_cases h2 : k < v
          · rw [if_pos h2, if_pos (by omega)]
          · rw [if_neg h2, if_neg (by omega)]
    · rw [decide_eq_false (show ¬ (v : Int) < (a.ZC.length : Int) by omega), Xq]
      exact ⟨fun r h => (by cases h), fun z h => (by cases h; exact ⟨hl, fun k hk => by rw [hq k hk, if_pos (by omega)]⟩)⟩
theorem E0 {a : ZE} {m : Int} {l : List Zp} (h : (Yw a m l).2 = true) : YX a = true /\ YX (Yw a m l).1 = true /\ (Yw a m l).1.Id = a.Id /\ (Yw a m l).1.ZC.length = a.ZC.length /\ ∀ k, k < a.ZC.length -> nth (Yw a m l).1.ZC k = F1 a m l k := by
  have k := HL a m l (a.ZC.length + 1) 0 a.ZC (by omega) (Nat.zero_le _) rfl (fun k _ => by rw [if_neg (Nat.not_lt_zero _)])
  unfold Yw at h ⊢
  cases h1 : (((a.ZC.length : Int) == 0) || (!(YX a))) with
  | true => rw [h1, QM] at h; cases h
  | false =>
    rw [h1, Xq] at h
    rw [Xq]
    simp only [Bool.or_eq_false_iff, Bool.not_eq_false'] at h1
    generalize Xg a m l (a.ZC.length + 1) 0 a.ZC = s at h k ⊢
    cases s with
    | inl r => rw [k.1 r rfl] at h; cases h
    | inr z =>
      dsimp only at h ⊢
      cases h2 : YX (ZE.mk a.Id z) with
      | false => rw [h2, Bool.not_false, QM] at h; cases h
      | true =>
        rw [Bool.not_true, Xq]
        exact ⟨h1.2, h2, rfl, k.2 z rfl⟩
theorem BA {α : Type} [Inhabited α] {l m : List α} (hl : l.length = m.length) (h : ∀ i, i < l.length -> nth l i = nth m i) : l = m := by
  apply List.ext_getElem hl
  intro i h1 h2
  have := h i h1
  rwa [Jw h1, Jw h2] at this
theorem FT {a : ZE} {m : Int} {l : List Zp} (h : (Yw a m l).2 = true) : (Yw a m l).1.ZC.map (·.Id) = a.ZC.map (·.Id) := by
  obtain ⟨_, _, _, h1, h2⟩ := E0 h
  refine BA (by rw [List.length_map, List.length_map, h1]) (fun i hi => ?_)
  rw [List.length_map, h1] at hi
  rw [Tt (by rw [h1]; exact hi), Tt hi, h2 i hi]
  rfl
/- worlds stay worlds -/
/- what no step changes -/
def plC (w : ZG) : List XD × List Zw × List YE × Int × List Yi × List Int := (w.Frame.Zq, w.Frame.ZF, w.Frame.Methods, w.Frame.KE, w.ZM, w.YO)
structure PlI (b : Int) (x : ZG) : Prop where
  w : PlW x
  sb : ∀ i, i < x.Yb.length -> nth x.Yb i <= b
  fo : ∀ y ∈ x.YF, y < x.Next
  c : plC x = plC (XS 0) \/ plC x = plC (XS 1)
theorem Cw {b : Int} {w : ZG} (h : PlI b w) : w.ZM = qU := by
  rcases h.c with h | h <;> exact congrArg (fun x => x.2.2.2.2.1) h
theorem Aw {b : Int} {w : ZG} (h : PlI b w) : w.Zy.length = 3 := by
  rw [h.w.en, Cw h]; rfl
theorem Hz {a b : Int} {w : ZG} (h : PlI a w) (hb : a <= b) : PlI b w := ⟨h.w, fun i hi => Int.le_trans (h.sb i hi) hb, h.fo, h.c⟩
theorem BH {w : ZG} {b n : Int} (h : PlI b w) : PlI b (KZ w n).1 := by
  have k := CQ h.w.fr
  refine E5 (P := fun r => PlI b r.1) h (fun h1 h2 h3 => ?_)
  have k2 : 0 <= W (w.Frame.Now + n) := by simp only [XL]; omega
  exact ⟨⟨Hv h.w.fr k2 h3, h.w.en, h.w.ar, h.w.sl, h.w.ll, h.w.nx, h.w.lr, h.w.fo, h.w.ce, h.w.ok, h.w.nd, h.w.lt, h.w.sq, h.w.lf⟩, h.sb, h.fo, h.c⟩
theorem Et {w : ZG} (h : PlW w) {i : Nat} {x : ZV} (hi : i < w.ZA.length) (hx : x.Id = w.Next) (ha : (Yd (nth w.ZA i) x).2 = true) {fo : List Int} (hf : QW fo = true) :
    W (w.Next + 1) = w.Next + 1 /\ PlW (ZG.mk w.Frame w.ZM w.Zy (w.ZA.set i (Yd (nth w.ZA i) x).1) w.Yb w.YO (w.Next + 1) fo) := by
  obtain ⟨_, h2, h3, k, e⟩ := S5 ha
  have oa : (Yd (nth w.ZA i) x).1.Id = (i : Int) := by rw [e]; exact (h.ok i hi).2
  have hm : x ∈ (Yd (nth w.ZA i) x).1.ZC := by rw [e]; exact List.mem_append.2 (.inl (List.mem_append.2 (.inr (List.mem_singleton.2 rfl))))
  have gN := ((WV _).1 h3).it x hm
  have hn : w.Next <= 999 := by
    unfold KG at gN
    simp only [Bool.and_eq_true, OF] at gN
    omega
  have h0 := h.nx
  have hp := Nv hi (Ux ha)
  rw [hx] at hp
  refine ⟨by simp only [XL]; omega, ⟨h.fr, h.en, by rw [List.length_set]; exact h.ar, h.sl, h.ll, by show 1 <= w.Next + 1; omega, h.lr, hf, h.ce, Tc h h3 oa, ?_, ?_, h.sq, h.lf⟩⟩
  · refine hp.nodup_iff.2 (List.nodup_cons.2 ⟨fun hc => ?_, h.nd⟩)
    have := h.lt _ hc; omega
  · intro y hy
    show y < w.Next + 1
    rcases List.mem_cons.1 (hp.mem_iff.1 hy) with rfl | hy
    · omega
    · have := h.lt y hy; omega
theorem BX {w : ZG} {b i k : Int} {d : ZU} {o e : Int} (h : PlI b w) : PlI b (JN w i k d o e).1 /\ ((JN w i k d o e).2 = true -> (JN w i k d o e).1.Next = w.Next + 1) := by
  have hl := h.w.ar
  refine Eo (P := fun r => PlI b r.1 /\ (r.2 = true -> r.1.Next = w.Next + 1)) ⟨h, fun k => (by cases k)⟩ (fun h1 _ _ _ v _ _ _ h7 => ?_)
  obtain ⟨h8, h9⟩ := kA h1 (by omega)
  obtain ⟨e1, hw⟩ := Et h.w h9 rfl h7 h.w.fo
  unfold Mh
  rw [e1]
  exact ⟨⟨hw, h.sb, fun x hx => by have := h.fo x hx; show x < w.Next + 1; omega, h.c⟩, fun _ => rfl⟩
theorem RE {α : Type} [Inhabited α] (l m : List α) (i : Nat) : nth (l ++ m) i = if i < l.length then nth l i else nth m (i - l.length) := by
  simp only [nth, List.getD_eq_getElem?_getD, List.getElem?_append]
  split <;> rfl
theorem Dj (a1 : List Int) : QW a1 = true ↔ ∀ i, 0 < i -> i < a1.length -> nth a1 (i - 1) < nth a1 i := by
  have := kF (L := qv a1) (len := a1.length) (c := fun v => decide ((nth a1 (v - 1)) >= (nth a1 v))) (fun _ => rfl) (fun _ _ => rfl) (a1.length + 1) 1 (by omega) true
  unfold QW
  refine Iff.trans this ?_
  simp only [decide_eq_false_iff_not, and_true]
  exact ⟨fun h i h0 hi => by have := h i h0 hi; omega, fun h i h0 hi => by have := h i h0 hi; omega⟩
theorem Lj {l : List Int} {x : Int} (h : QW l = true) (hx : ∀ y ∈ l, y < x) : QW (l ++ [x]) = true := by
  rw [Dj] at h ⊢
  intro i h0 hi
  rw [List.length_append, List.length_singleton] at hi
  rw [RE, RE]
  by_cases h1 : i < l.length
  · rw [if_pos (by omega), if_pos h1]; exact h i h0 h1
  · rw [if_pos (by omega), if_neg h1, show i - l.length = 0 by omega]
    exact hx _ (by rw [Jw (by omega)]; exact List.getElem_mem _)
theorem CR {w : ZG} {b i k : Int} {d : ZU} (h : PlI b w) : PlI b (JI w i k d).1 := by
  have hl := h.w.ar
  refine FQ (P := fun r => PlI b r.1) h (fun _ h1 _ _ v _ _ _ h7 => ?_)
  obtain ⟨h8, h9⟩ := kA h1 (by omega)
  obtain ⟨e1, hw⟩ := Et h.w h9 rfl h7 (Lj h.w.fo h.fo)
  rw [e1]
  refine ⟨hw, h.sb, fun x hx => ?_, h.c⟩
  show x < w.Next + 1
  rcases List.mem_append.1 hx with hx | hx
  · have := h.fo x hx; omega
  · rw [List.mem_singleton.1 hx]; omega
/- an item whose strand changes -/
theorem BT {x : ZV} {s : Zi} (h : KG x = true) (hs : Qe s = true) (h0 : nth s.ZL 0 = nth x.ZJ.ZL 0) : KG (ZV.mk x.Id x.Yr x.Doc x.Sig s) = true := by
  unfold KG at h ⊢
  simp only [Bool.and_eq_true] at h ⊢
  exact ⟨⟨h.1.1, hs⟩, by rw [h0]; exact h.2⟩
theorem DT {x : ZV} (h : KG x = true) : 0 < x.ZJ.ZL.length := by
  unfold KG Qe at h
  simp only [Bool.and_eq_true] at h
  have h1 := h.1.2
  cases hc : ((!(ZZ (x.ZJ.ZL.length : Int) 1 12)) || (decide ((x.ZJ.Zl.length : Int) > 8))) with
  | true => rw [hc, QM] at h1; cases h1
  | false =>
    simp only [Bool.or_eq_false_iff, Bool.not_eq_false', OF] at hc
    omega
theorem HS {a : ZE} {k : Nat} {y : ZV} (h : YX a = true) (hy : KG y = true) (oa : y.Id = (nth a.ZC k).Id) : YX (ZE.mk a.Id (a.ZC.set k y)) = true /\ (a.ZC.set k y).map (·.Id) = a.ZC.map (·.Id) := by
  have e : (a.ZC.set k y).map (·.Id) = a.ZC.map (·.Id) := by
    refine BA (by simp) (fun i hi => ?_)
    rw [List.length_map, List.length_set] at hi
    rw [Tt (by rw [List.length_set]; exact hi), Tt hi, yJ]
    split
    · rename_i hc; rw [oa, hc.1]
    · rfl
  have h := (WV a).1 h
  refine ⟨(WV _).2 ⟨fun x hx => ?_, by rw [e]; exact h.as, h.id, by rw [List.length_set]; exact h.ln⟩, e⟩
  rcases List.mem_or_eq_of_mem_set hx with hx | rfl
  · exact h.it x hx
  · exact hy
theorem OI {w : ZG} (h : PlW w) {i k : Nat} (hi : i < w.ZA.length) (hk : k < (nth w.ZA i).ZC.length) {s : Zi} (hs : Qe s = true) (h0 : nth s.ZL 0 = nth (nth (nth w.ZA i).ZC k).ZJ.ZL 0) :
    PlW (ZG.mk w.Frame w.ZM w.Zy (w.ZA.set i (ZE.mk (nth w.ZA i).Id ((nth w.ZA i).ZC.set k (ZV.mk (nth (nth w.ZA i).ZC k).Id (nth (nth w.ZA i).ZC k).Yr (nth (nth w.ZA i).ZC k).Doc (nth (nth w.ZA i).ZC k).Sig s)))) w.Yb w.YO w.Next w.YF) := by
  have h1 := h.ok i hi
  have h2 : KG (nth (nth w.ZA i).ZC k) = true := ((WV _).1 h1.1).it _ (by rw [Jw hk]; exact List.getElem_mem hk)
  obtain ⟨h3, h4⟩ := HS (k := k) h1.1 (BT h2 hs h0) rfl
  exact B0 h h3 h1.2 h4
theorem U0 {a : ZE} {x : Int} (h : 0 <= Za a x) : (Za a x).toNat < a.ZC.length /\ (nth a.ZC (Za a x).toNat).Id = x := by
  unfold Za at h ⊢
  rcases Pv (L := xq a x) (r := fun i => (i : Int)) (fun _ => rfl) (fun _ _ => rfl) (a.ZC.length + 1) 0 (by omega) with ⟨e, p⟩ | ⟨i, e, p1, p2, p3, p4⟩
  · rw [e] at h; simp at h
  · rw [e]
    exact ⟨by simpa using p2, by simpa using p3⟩
theorem F2 {w : ZG} (h : PlW w) {i k : Nat} (hi : i < w.ZA.length) (hk : k < (nth w.ZA i).ZC.length) : KG (nth (nth w.ZA i).ZC k) = true :=
  ((WV _).1 (h.ok i hi).1).it _ (by rw [Jw hk]; exact List.getElem_mem hk)
theorem TR {w : ZG} {b i id : Int} {st : Zn} (h : PlI b w) (h0 : 0 <= i) (hi : i < (w.ZA.length : Int)) : PlI b (Qf w i id st).1 := by
  refine Of (P := fun r => PlI b r.1) h (fun _ h2 h3 => ?_)
  obtain ⟨e, hs⟩ := FY h3
  obtain ⟨hk, _⟩ := U0 h2
  have tk : i.toNat < w.ZA.length := by omega
  have hp := DT (F2 h.w tk hk)
  have k := OI (s := _) h.w tk hk hs (by
    show nth (_ ++ [_]) 0 = _
    rw [RE, if_pos hp])
  rw [<- e] at k
  have e2 : (Qq (nth w.ZA i.toNat) id (Xu (Xb w.Frame.Zq st).1)).1 = ZE.mk (nth w.ZA i.toNat).Id ((nth w.ZA i.toNat).ZC.set (Za (nth w.ZA i.toNat) id).toNat (ZV.mk (nth (nth w.ZA i.toNat).ZC (Za (nth w.ZA i.toNat) id).toNat).Id (nth (nth w.ZA i.toNat).ZC (Za (nth w.ZA i.toNat) id).toNat).Yr (nth (nth w.ZA i.toNat).ZC (Za (nth w.ZA i.toNat) id).toNat).Doc (nth (nth w.ZA i.toNat).ZC (Za (nth w.ZA i.toNat) id).toNat).Sig (Qw (nth (nth w.ZA i.toNat).ZC (Za (nth w.ZA i.toNat) id).toNat).ZJ (Xu (Xb w.Frame.Zq st).1)).1)) := by
    unfold Qq
    rw [decide_eq_false (by omega), Xq]
  rw [e2]
  exact ⟨k, h.sb, h.fo, h.c⟩
theorem DW {w : ZG} {b id : Int} (h : PlI b w) : PlI b (Qk w id).1 := by
  unfold Qk
  refine Z6 (p := fun r : ZG × Bool => PlI b r.1) (fun _ => h) (fun hc => ?_)
  refine Z6 (p := fun r : ZG × Bool => PlI b r.1) (fun _ => h) (fun _ => ?_)
  simp only [Bool.or_eq_false_iff, Bool.not_eq_false'] at hc
  have k := XQ w id hc.1
  exact ZP (p := fun r : ZG × Bool => PlI b r.1) (TR h k.1 k.2.1) (TR h k.1 k.2.1)
theorem Bv {w : ZG} {b id t : Int} (h : PlI b w) : PlI b (Jo w id t).1 := by
  unfold Jo
  refine Z6 (p := fun r : ZG × Bool => PlI b r.1) (fun _ => h) (fun hc => ?_)
  simp only [Bool.or_eq_false_iff, Bool.not_eq_false'] at hc
  have k := XQ w id hc.1
  exact TR h k.1 k.2.1
theorem DR {w : ZG} {b k : Int} (h : PlI b w) : PlI b (X1 w k).1 /\ ((X1 w k).2 = true -> 0 <= k /\ k.toNat < w.Zy.length /\ nth (X1 w k).1.Zy k.toNat = W (w.Frame.Now + 1)) := by
  have h0 := CQ h.w.fr
  have hb := Aw h
  unfold X1
  refine Z6 (p := fun r : ZG × Bool => PlI b r.1 /\ (r.2 = true -> 0 <= k /\ k.toNat < w.Zy.length /\ nth r.1.Zy k.toNat = W (w.Frame.Now + 1))) (fun _ => ⟨h, fun h => (by cases h)⟩) (fun hc => ?_)
  simp only [Bool.or_eq_false_iff, Bool.not_eq_false', OF] at hc
  have e : W ((w.Zy.length : Int) - 1) = w.Zy.length - 1 := by simp only [XL]; omega
  rw [e] at hc
  refine ⟨⟨⟨h.w.fr, by rw [List.length_set]; exact h.w.en, h.w.ar, h.w.sl, h.w.ll, h.w.nx, h.w.lr, h.w.fo, fun i hi => ?_, h.w.ok, h.w.nd, h.w.lt, h.w.sq, h.w.lf⟩, h.sb, h.fo, h.c⟩, fun _ => ⟨hc.1.1, by omega, ?_⟩⟩
  · have := h.w.ce i hi
    refine ⟨this.1, this.2.1, ?_⟩
    show ZZ (nth (w.Zy.set k.toNat _) i) (-1) 10001 = true
    rw [yJ]
    split
    · rw [OF]; simp only [XL]; omega
    · exact this.2.2
  · show nth (w.Zy.set k.toNat _) k.toNat = _
    rw [yJ, if_pos ⟨rfl, by omega⟩]
theorem Cu {w : ZG} {b i : Int} {ids : List Int} {rl n : Int} (h : PlI b w) (hn : (ids.length : Int) <= n) (hb : b + n <= 4611686018427387904) : PlI (b + n) (QS w i ids rl).1 /\ (QS w i ids rl).1.Yb.length = w.Yb.length /\ (∀ j, j < w.Yb.length -> nth w.Yb j <= nth (QS w i ids rl).1.Yb j) := by
  have hl := h.w.ar
  refine Fa (P := fun r => PlI (b + n) r.1 /\ r.1.Yb.length = w.Yb.length /\ (∀ j, j < w.Yb.length -> nth w.Yb j <= nth r.1.Yb j)) (Q := fun v _ q => q.length = w.Yb.length /\ ∀ j, j < w.Yb.length -> nth w.Yb j <= nth q j /\ nth q j <= nth w.Yb j + v) ⟨Hz h (by omega), rfl, fun j _ => Int.le_refl _⟩ ⟨rfl, fun j _ => ⟨Int.le_refl _, by simp⟩⟩ (fun v l q t hv _ hq => ⟨by rw [List.length_set]; exact hq.1, fun j hj => ?_⟩) (fun h1 _ _ _ l q hq hk => ?_)
  · have z := hq.2 j hj
    rw [yJ]
    split
    · rename_i hc
      have k1 := h.w.sq j hj
      have k2 := h.sb j hj
      rw [hc.1]
      have e : W (nth q j + 1) = nth q j + 1 := by simp only [XL]; omega
      rw [e]
      omega
    · omega
  · obtain ⟨h8, h9⟩ := kA h1 (by omega)
    obtain ⟨_, k1, k2, _, _⟩ := E0 hk
    have k3 := FT hk
    have hs : ∀ j, j < q.length -> 0 <= nth q j := fun j hj => by rw [hq.1] at hj; have := h.w.sq j hj; have := hq.2 j hj; omega
    refine ⟨⟨F0 h.w k1 (by rw [k2]; exact (h.w.ok _ h9).2) (by rw [k3]; exact List.Sublist.refl _) hq.1 hs, fun j hj => ?_, h.fo, h.c⟩, hq.1, fun j hj => (hq.2 j hj).1⟩
    change j < q.length at hj
    rw [hq.1] at hj
    have := hq.2 j hj; have := h.sb j hj
    show nth q j <= b + n
    omega
theorem OH {a : ZE} {l : List ZV} (h : YX a = true) (hl : l.Sublist a.ZC) : YX (ZE.mk a.Id l) = true := by
  have h := (WV a).1 h
  exact (WV _).2 ⟨fun x hx => h.it x (hl.subset hx), h.as.sublist (hl.map _), h.id, Nat.le_trans hl.length_le h.ln⟩
theorem EL {l : List ZE} {i : Nat} {a : ZE} {x : Int} (h : i < l.length) (e : ((nth l i).ZC.map (·.Id)).Perm (x :: a.ZC.map (·.Id))) : (yp l).Perm (x :: yp (l.set i a)) := by
  obtain ⟨A, B, h1, h2⟩ := UO l i h
  rw [h2, h1]
  refine List.Perm.trans (List.Perm.append_left A (List.Perm.append_right B e)) ?_
  rw [List.cons_append]
  exact List.perm_middle
theorem Lq {l : List ZV} {k : Nat} {x : Int} (hk : k < l.length) (hx : (nth l k).Id = x) : (l.map (·.Id)).Perm (x :: (l.eraseIdx k).map (·.Id)) := by
  have e : l.map (·.Id) = (l.take k).map (·.Id) ++ x :: (l.drop (k + 1)).map (·.Id) := by
    rw [<- hx, Jw hk, <- List.map_cons (f := fun x : ZV => x.Id), <- List.map_append, <- List.drop_eq_getElem_cons hk, List.take_append_drop]
  rw [e, List.eraseIdx_eq_take_drop_succ, List.map_append]
  exact List.perm_middle
theorem BI {a : ZE} {id : Int} (hl : a.ZC.length <= 1048576) (h : (X4 a id).2 = true) : 0 <= Za a id /\ (X4 a id).1 = ZE.mk a.Id (a.ZC.eraseIdx (Za a id).toNat) := by
  unfold X4 at h ⊢
  cases hc : decide ((Za a id) < 0) with
  | true => rw [hc, QM] at h; cases h
  | false =>
    have hc := of_decide_eq_false hc
    have k := U0 (a := a) (x := id) (by omega)
    rw [Xq]
    refine ⟨by omega, ?_⟩
    rw [List.eraseIdx_eq_take_drop_succ, show (W (Za a id + 1)).toNat = (Za a id).toNat + 1 by simp only [XL]; omega]
theorem HZ {a b : ZE} {id m : Int} (h : (Yy a b [id] m).2.2 = true) : 0 <= Za a id /\ (X4 a id).2 = true /\ (Yd b (nth a.ZC (Za a id).toNat)).2 = true /\ (Yy a b [id] m).1 = (X4 a id).1 /\ (Yy a b [id] m).2.1 = (Yd b (nth a.ZC (Za a id).toNat)).1 := by
  have di : Za a id < 0 -> (Y9 a b.Id [id] m).2 = false := fun hc => by
    simp [Y9, QA, hc, nth]
  have dk : ¬ Za a id < 0 -> Y9 a b.Id [id] m = (YS.mk a.Id b.Id [nth a.ZC (Za a id).toNat] (QD m [nth a.ZC (Za a id).toNat]), true) := fun hc => by
    simp [Y9, QA, hc, nth]
  by_cases hc : Za a id < 0
  · unfold Yy at h
    rw [di hc, Bool.not_false, Bool.true_or, QM] at h
    cases h
  · have e := dk hc
    generalize hx : nth a.ZC (Za a id).toNat = x at e ⊢
    unfold Yy at h ⊢
    rw [e] at h ⊢
    dsimp only at h ⊢
    rw [Bool.not_true, Bool.false_or] at h ⊢
    have oW : (XH b (YS.mk a.Id b.Id [x] (QD m [x])) m).2 = true -> (Yd b x).2 = true /\ (XH b (YS.mk a.Id b.Id [x] (QD m [x])) m).1 = (Yd b x).1 := fun hq => by
      unfold XH at hq ⊢
      cases hd : ((!(zX (YS.mk a.Id b.Id [x] (QD m [x])) m)) || (b.Id != b.Id)) with
      | true => dsimp only at hq; rw [hd, QM] at hq; cases hq
      | false =>
        dsimp only at hq ⊢
        rw [hd, Xq] at hq
        rw [Xq]
        cases hz : (Yd b x).2 with
        | false => simp [X0, hz, nth] at hq
        | true => refine ⟨rfl, ?_⟩; simp [X0, hz, nth]
    cases h2 : (XH b (YS.mk a.Id b.Id [x] (QD m [x])) m).2 with
    | false => rw [h2, Bool.not_false, QM] at h; cases h
    | true =>
      obtain ⟨k1, k2⟩ := oW h2
      rw [h2, Bool.not_true, Xq] at h
      rw [Bool.not_true, Xq, k2]
      cases hz : (X4 a id).2 with
      | false => simp [Qz, hz, nth] at h
      | true => refine ⟨by omega, rfl, k1, ?_, ?_⟩ <;> simp [Qz, hz, nth]
theorem E2 {P : ZG × Bool -> Prop} {w : ZG} {i k id : Int} (h0 : P (w, false)) (h1 : Ya w i = true -> Ya w k = true -> i ≠ k -> 0 <= Za (nth w.ZA i.toNat) id -> (X4 (nth w.ZA i.toNat) id).2 = true -> (Yd (nth w.ZA k.toNat) (nth (nth w.ZA i.toNat).ZC (Za (nth w.ZA i.toNat) id).toNat)).2 = true -> P (ZG.mk w.Frame w.ZM w.Zy ((w.ZA.set i.toNat (X4 (nth w.ZA i.toNat) id).1).set k.toNat (Yd (nth w.ZA k.toNat) (nth (nth w.ZA i.toNat).ZC (Za (nth w.ZA i.toNat) id).toNat)).1) w.Yb w.YO w.Next w.YF, true)) : P (Kc w i k id) := by
  unfold Kc
  refine Z6 (p := P) (fun _ => h0) (fun h => ?_)
  simp only [Bool.or_eq_false_iff, Bool.not_eq_false', beq_eq_false_iff_ne] at h
  cases hm : (Yy (nth w.ZA i.toNat) (nth w.ZA k.toNat) ([id] : List Int) (ZT w.Frame.Methods w.Frame.Now)).2.2 with
  | false => rw [Xq]; exact h0
  | true =>
    obtain ⟨k1, k2, k3, k4, k5⟩ := HZ hm
    rw [QM, k4, k5]
    exact h1 h.1.1.1 h.1.1.2 h.1.2 k1 k2 k3
theorem BJ {w : ZG} {b i k id : Int} (h : PlI b w) : PlI b (Kc w i k id).1 := by
  have hl := h.w.ar
  refine E2 (P := fun r => PlI b r.1) h (fun h1 h2 h3 h4 h5 h6 => ?_)
  obtain ⟨i0, i1⟩ := kA h1 (by omega)
  obtain ⟨k0, k1⟩ := kA h2 (by omega)
  have ai := h.w.ok _ i1
  have ak := h.w.ok _ k1
  have bQ := ((WV _).1 ai.1).ln
  obtain ⟨_, e⟩ := BI (by omega) h5
  obtain ⟨f1, f2⟩ := U0 h4
  obtain ⟨_, _, g1, _, g2⟩ := S5 h6
  have g3 := Ux h6
  rw [f2] at g3
  rw [e]
  have uH : i.toNat ≠ k.toNat := by omega
  have p1 : (yp w.ZA).Perm (id :: yp (w.ZA.set i.toNat (ZE.mk (nth w.ZA i.toNat).Id ((nth w.ZA i.toNat).ZC.eraseIdx (Za (nth w.ZA i.toNat) id).toNat)))) := by
    refine EL i1 ?_
    exact Lq f1 f2
  have p2 := Nv (l := w.ZA.set i.toNat (ZE.mk (nth w.ZA i.toNat).Id ((nth w.ZA i.toNat).ZC.eraseIdx (Za (nth w.ZA i.toNat) id).toNat))) (i := k.toNat) (a := (Yd (nth w.ZA k.toNat) (nth (nth w.ZA i.toNat).ZC (Za (nth w.ZA i.toNat) id).toNat)).1) (x := id) (by rw [List.length_set]; exact k1) (by rw [yJ, if_neg (fun hc => uH hc.1)]; exact g3)
  have p := p2.trans p1.symm
  have hA : ∀ j, j < (w.ZA.set i.toNat (ZE.mk (nth w.ZA i.toNat).Id ((nth w.ZA i.toNat).ZC.eraseIdx (Za (nth w.ZA i.toNat) id).toNat))).length -> _ := Tc h.w (OH ai.1 (List.eraseIdx_sublist _ _)) ai.2
  refine ⟨⟨h.w.fr, h.w.en, by rw [List.length_set, List.length_set]; exact h.w.ar, h.w.sl, h.w.ll, h.w.nx, h.w.lr, h.w.fo, h.w.ce, fun j hj => ?_, p.nodup_iff.2 h.w.nd, fun x hx => h.w.lt x (p.mem_iff.1 hx), h.w.sq, h.w.lf⟩, h.sb, h.fo, h.c⟩
  rw [List.length_set] at hj
  show YX (nth (List.set _ k.toNat _ : List ZE) j) = true /\ (nth (List.set _ k.toNat _ : List ZE) j).Id = _
  rw [yJ]
  split
  · rename_i hc; refine ⟨g1, ?_⟩; rw [g2, <- hc.1]; exact ak.2
  · exact hA j hj
theorem TB (a : ZE) (t : Int) : ∀ (n v : Nat) (l : List ZV), a.ZC.length < n + v -> v <= a.ZC.length -> X7 a t n v l = l ++ (a.ZC.drop v).filter (fun x => decide (x.Yr >= t))
  | 0, v, l, h, hv => by omega
  | n + 1, v, l, h, hl => by
    rw [X7]
    by_cases hv : v < a.ZC.length
    · rw [decide_eq_true (show (v : Int) < (a.ZC.length : Int) by omega), QM, List.drop_eq_getElem_cons hv, List.filter_cons, Jw hv]
      cases hk : decide (a.ZC[v].Yr >= t) with
      | true => rw [QM, TB a t n _ _ (by omega) hv, List.append_assoc]; rfl
      | false => rw [Xq, TB a t n _ _ (by omega) hv]; rfl
    · rw [decide_eq_false (show ¬ (v : Int) < (a.ZC.length : Int) by omega), Xq, List.drop_eq_nil_of_le (by omega)]
      simp
theorem Ip {P : ZG × Bool -> Prop} {w : ZG} {i : Int} (h0 : P (w, false)) (h1 : Ya w i = true -> P (ZG.mk w.Frame w.ZM w.Zy (w.ZA.set i.toNat (ZE.mk (nth w.ZA i.toNat).Id ((nth w.ZA i.toNat).ZC.filter (fun x => decide (x.Yr >= w.Frame.Now))))) w.Yb w.YO w.Next w.YF, true)) : P (Q9 w i) := by
  unfold Q9
  refine Z6 (p := P) (fun _ => h0) (fun h => ?_)
  rw [Bool.not_eq_false'] at h
  unfold KJ
  rw [TB _ _ _ _ _ (by omega) (Nat.zero_le _), List.drop_zero, List.nil_append]
  exact h1 h
theorem DL {w : ZG} {b i : Int} (h : PlI b w) : PlI b (Q9 w i).1 := by
  have hl := h.w.ar
  refine Ip (P := fun r => PlI b r.1) h (fun h1 => ?_)
  obtain ⟨i0, i1⟩ := kA h1 (by omega)
  have ai := h.w.ok _ i1
  exact ⟨F0 h.w (OH ai.1 List.filter_sublist) ai.2 (List.filter_sublist.map _) rfl h.w.sq, h.sb, h.fo, h.c⟩
theorem HF {w : ZG} {id t : Int} : ∀ (n v : Nat) (l : List Zp) (r : ZG × Bool), XV w id t n v l = .inl r -> r = (w, false)
  | 0, v, l, r, h => by cases h
  | n + 1, v, l, r, h => by
    rw [XV] at h
    revert h
    refine ZP (p := fun x : Sum (ZG × Bool) (List Zp) => x = .inl r -> r = (w, false)) ?_ (fun h => by cases h)
    exact ZP (p := fun x : Sum (ZG × Bool) (List Zp) => x = .inl r -> r = (w, false)) (fun h => by cases h; rfl) (fun h => HF n _ _ r h)
def Dz (w : ZG) (id : Int) (l : List Zp) : Zb := Zb.mk ((nth (nth w.ZA (ZW w id).1.toNat).ZC (ZW w id).2.toNat).ZJ.ZL.length : Int) (ZT w.Frame.Methods w.Frame.Now) (JL (nth (nth w.ZA (ZW w id).1.toNat).ZC (ZW w id).2.toNat) (ZT w.Frame.Methods w.Frame.Now)) [] l
theorem Ew {P : ZG × Bool -> Prop} {w : ZG} {id t : Int} (h0 : P (w, false)) (h1 : JP w.YF id = true -> 0 <= (ZW w id).1 -> 0 <= ZT w.Frame.Methods w.Frame.Now -> Z1 w ≠ [] -> ∀ l, XV w id t ((Z1 w).length + 1) 0 [] = .inr l -> (Ym (nth (nth w.ZA (ZW w id).1.toNat).ZC (ZW w id).2.toNat).ZJ (Dz w id l)).2 = true -> P (ZG.mk w.Frame w.ZM w.Zy (w.ZA.set (ZW w id).1.toNat (ZE.mk (nth w.ZA (ZW w id).1.toNat).Id ((nth w.ZA (ZW w id).1.toNat).ZC.set (ZW w id).2.toNat (ZV.mk (nth (nth w.ZA (ZW w id).1.toNat).ZC (ZW w id).2.toNat).Id (nth (nth w.ZA (ZW w id).1.toNat).ZC (ZW w id).2.toNat).Yr (nth (nth w.ZA (ZW w id).1.toNat).ZC (ZW w id).2.toNat).Doc (nth (nth w.ZA (ZW w id).1.toNat).ZC (ZW w id).2.toNat).Sig (Zi.mk (nth (nth w.ZA (ZW w id).1.toNat).ZC (ZW w id).2.toNat).ZJ.ZL ((nth (nth w.ZA (ZW w id).1.toNat).ZC (ZW w id).2.toNat).ZJ.Zl ++ [Dz w id l])))))) w.Yb w.YO w.Next w.YF, true)) : P (Xr w id t) := by
  unfold Xr
  refine Z6 (p := P) (fun _ => h0) (fun h => ?_)
  simp only [Bool.or_eq_false_iff, Bool.not_eq_false', decide_eq_false_iff_not, beq_eq_false_iff_ne] at h
  have e := fun r => HF (w := w) (id := id) (t := t) ((Z1 w).length + 1) 0 [] r
  have h1 := h1 h.1.1.1 (by omega) (by omega) (fun e => h.2 (by rw [e]; rfl))
  generalize XV w id t ((Z1 w).length + 1) 0 [] = s at e h1 ⊢
  cases s with
  | inl r => rw [e r rfl]; exact h0
  | inr l =>
    have h1 := h1 l rfl
    cases ha : (Ym (nth (nth w.ZA (ZW w id).1.toNat).ZC (ZW w id).2.toNat).ZJ (Dz w id l)).2 with
    | true =>
      have h2 := h1 ha
      have e1 := (W3 ha).1
      unfold Dz at ha e1
      dsimp only
      rw [ha, e1]
      exact h2
    | false =>
      have e1 : (Ym (nth (nth w.ZA (ZW w id).1.toNat).ZC (ZW w id).2.toNat).ZJ (Dz w id l)).1 = (nth (nth w.ZA (ZW w id).1.toNat).ZC (ZW w id).2.toNat).ZJ := by
        unfold Ym at ha ⊢
        revert ha
        exact ZP (p := fun z : Zi × Bool => z.2 = false -> z.1 = _) (fun _ => rfl) (fun h => by cases h)
      unfold Dz at ha e1
      dsimp only
      rw [ha, e1]
      rw [show ZV.mk (nth (nth w.ZA (ZW w id).1.toNat).ZC (ZW w id).2.toNat).Id (nth (nth w.ZA (ZW w id).1.toNat).ZC (ZW w id).2.toNat).Yr (nth (nth w.ZA (ZW w id).1.toNat).ZC (ZW w id).2.toNat).Doc (nth (nth w.ZA (ZW w id).1.toNat).ZC (ZW w id).2.toNat).Sig (nth (nth w.ZA (ZW w id).1.toNat).ZC (ZW w id).2.toNat).ZJ = nth (nth w.ZA (ZW w id).1.toNat).ZC (ZW w id).2.toNat from rfl, Em, show ZE.mk (nth w.ZA (ZW w id).1.toNat).Id (nth w.ZA (ZW w id).1.toNat).ZC = nth w.ZA (ZW w id).1.toNat from rfl, Em]
      exact h0
theorem BN {w : ZG} {b id t : Int} (h : PlI b w) : PlI b (Xr w id t).1 := by
  refine Ew (P := fun r => PlI b r.1) h (fun _ h2 _ _ l _ h5 => ?_)
  obtain ⟨k1, k2, k3⟩ := JU w id h2
  obtain ⟨_, k4⟩ := W3 h5
  exact ⟨OI h.w k1 k3 k4 rfl, h.sb, h.fo, h.c⟩
theorem Vr (n : Int) : XS n = XS 0 \/ XS n = XS 1 := by
  have e : Vl 1 (xV 0 n) = Vl 1 (xV 0 0) \/ Vl 1 (xV 0 n) = Vl 1 (xV 0 1) := by
    by_cases h : n > 0
    · right
      have e1 : xV 0 n = n := by unfold xV; simp only [h, decide_true, QM]
      have e2 : ¬ n < 1 := by omega
      rw [e1]
      unfold Vl
      simp only [e2, decide_false, Xq]
      rfl
    · left
      have e1 : xV 0 n = 0 := by unfold xV; simp only [h, decide_false, Xq]
      rw [e1]
      rfl
  rcases e with e | e
  · left; unfold XS; rw [e]
  · right; unfold XS; rw [e]
theorem Aq (x : Int) : PlI 0 (XS x) := by
  have h1 : qh (XS x) = true := by rcases Vr x with h | h <;> rw [h] <;> decide +kernel
  refine ⟨(Gm _).1 h1, ?_, ?_, by rcases Vr x with h | h <;> rw [h] <;> simp⟩
  · rcases Vr x with h | h <;> rw [h] <;> decide +kernel
  · rcases Vr x with h | h <;> rw [h] <;> decide +kernel
/- events -/
theorem LJ {P : ZG × Bool -> Prop} {w : ZG} {e : Zg} (h0 : P (w, false)) (h1 : e.Kind = 1 -> P (KZ w e.A)) (h2 : e.Kind = 2 -> P (JN w e.A e.B e.Doc e.C e.D)) (h3 : e.Kind = 3 -> P (Qk w e.A)) (h4 : e.Kind = 4 -> P (X1 w e.A)) (h5 : e.Kind = 5 -> P (QS w e.A e.Ids e.B)) (h6 : e.Kind = 6 -> P (Kc w e.A e.B e.C)) (h7 : e.Kind = 7 -> P (Q9 w e.A)) (h8 : e.Kind = 8 -> P (JI w e.A e.B e.Doc)) (h9 : e.Kind = 9 -> P (Xr w e.A e.B)) (sH : e.Kind = 10 -> P (Jo w e.A e.B)) : P (Z4 w e) := by
  unfold Z4
  refine Z6 (p := P) (fun h => h1 (by simpa using h)) (fun _ => ?_)
  refine Z6 (p := P) (fun h => h2 (by simpa using h)) (fun _ => ?_)
  refine Z6 (p := P) (fun h => h3 (by simpa using h)) (fun _ => ?_)
  refine Z6 (p := P) (fun h => h4 (by simpa using h)) (fun _ => ?_)
  refine Z6 (p := P) (fun h => h5 (by simpa using h)) (fun _ => ?_)
  refine Z6 (p := P) (fun h => h6 (by simpa using h)) (fun _ => ?_)
  refine Z6 (p := P) (fun h => h7 (by simpa using h)) (fun _ => ?_)
  refine Z6 (p := P) (fun h => h8 (by simpa using h)) (fun _ => ?_)
  refine Z6 (p := P) (fun h => h9 (by simpa using h)) (fun _ => ?_)
  exact Z6 (p := P) (fun h => sH (by simpa using h)) (fun _ => h0)
theorem Cr {w : ZG} {e : Zg} {b n : Int} (h : PlI b w) (hn : (e.Ids.length : Int) <= n) (hb : b + n <= 4611686018427387904) : PlI (b + n) (Z4 w e).1 := by
  have hm := Hz (b := b + n) h (by omega)
  exact LJ (P := fun r => PlI (b + n) r.1) hm (fun _ => BH hm) (fun _ => (BX hm).1) (fun _ => DW hm) (fun _ => (DR hm).1) (fun _ => (Cu h hn hb).1) (fun _ => BJ hm) (fun _ => DL hm) (fun _ => CR hm) (fun _ => BN hm) (fun _ => Bv hm)
def plU (w : ZG) := (w.Frame.Zq, w.Frame.ZF, w.Frame.Methods, w.Frame.KE, w.Frame.Now, w.ZM, w.Zy, w.ZA, w.Yb, w.YO, w.Next, w.YF)
def Uv (w : ZG) (l : List Zg) : ZG := l.foldl (fun w e => (Z4 w e).1) w
theorem Gz (l : List Zg) : ∀ (n v : Nat) (w : ZG), l.length < n + v -> v <= l.length -> KW l n v w.Frame.Zq w.Frame.ZF w.Frame.Methods w.Frame.KE w.Frame.Now w.ZM w.Zy w.ZA w.Yb w.YO w.Next w.YF = plU (Uv w (l.drop v))
  | 0, v, w, h, hv => by omega
  | n + 1, v, w, h, hv => by
    rw [KW]
    by_cases uQ : v < l.length
    · rw [decide_eq_true (show (v : Int) < (l.length : Int) by omega), QM, List.drop_eq_getElem_cons uQ]
      have k := Gz l n (v + 1) (Z4 w (nth l v)).1 (by omega) uQ
      rw [show Uv w (l[v] :: l.drop (v + 1)) = Uv (Z4 w (nth l v)).1 (l.drop (v + 1)) by rw [Jw uQ]; rfl, <- k]
    · rw [decide_eq_false (show ¬ (v : Int) < (l.length : Int) by omega), Xq, List.drop_eq_nil_of_le (by omega)]
      rfl
theorem Ak (w : ZG) (l : List Zg) : Ys w l = Uv w l := by
  unfold Ys
  rw [Gz l (l.length + 1) 0 w (by omega) (Nat.zero_le _)]
  rfl
theorem F8 (w : ZG) (l m : List Zg) : Uv w (l ++ m) = Uv (Uv w l) m := List.foldl_append
theorem BB {n : Nat} : ∀ {l : List Zg} {w : ZG} {b : Int}, PlI b w -> (∀ e ∈ l, e.Ids.length <= n) -> b + n * l.length <= 4611686018427387904 -> PlI (b + n * l.length) (Uv w l)
  | [], w, b, h, _, _ => Hz h (by simp)
  | e :: l, w, b, h, hl, hb => by
    rw [List.length_cons] at hb ⊢
    have e1 : b + (n : Int) * ((l.length + 1 : Nat) : Int) = b + n + n * l.length := by
      rw [Int.natCast_add, Int.mul_add]; omega
    rw [e1] at hb ⊢
    have h0 : 0 <= (n : Int) * (l.length : Int) := Int.mul_nonneg (by omega) (by omega)
    exact BB (l := l) (Cr (e := e) h (by have := hl e List.mem_cons_self; omega) (by omega)) (fun x hx => hl x (List.mem_cons_of_mem _ hx)) hb
/- drawn worlds -/
theorem wM {w : ZG} {e : Zg} (h : (Z4 w e).2 = false) : (Z4 w e).1 = w := by
  revert h
  let P := fun r : ZG × Bool => r.2 = false -> r.1 = w
  have h0 : P (w, false) := fun _ => rfl
  have ha : ∀ i id st, P (Qf w i id st) := fun i id st => Of (P := P) h0 (fun _ _ _ h => by cases h)
  have h3 : P (Qk w e.A) := by
    unfold Qk
    exact ZP (p := P) h0 (ZP (p := P) h0 (ZP (p := P) (ha _ _ _) (ha _ _ _)))
  have sH : P (Jo w e.A e.B) := by
    unfold Jo
    exact ZP (p := P) h0 (ha _ _ _)
  have h4 : P (X1 w e.A) := by
    unfold X1
    exact ZP (p := P) h0 (fun h => by cases h)
  exact LJ (P := P) h0 (fun _ => E5 (P := P) h0 (fun _ _ _ h => by cases h)) (fun _ => Eo (P := P) h0 (fun _ _ _ _ _ _ _ _ _ h => by cases h)) (fun _ => h3) (fun _ => h4)
    (fun _ => Fa (P := P) (Q := fun _ _ _ => True) h0 trivial (fun _ _ _ _ _ _ _ => trivial) (fun _ _ _ _ _ _ _ _ h => by cases h)) (fun _ => E2 (P := P) h0 (fun _ _ _ _ _ _ h => by cases h)) (fun _ => Ip (P := P) h0 (fun _ h => by cases h)) (fun _ => FQ (P := P) h0 (fun _ _ _ _ _ _ _ _ _ h => by cases h)) (fun _ => Ew (P := P) h0 (fun _ _ _ _ _ _ _ h => by cases h)) (fun _ => sH)
theorem Bn {w : ZG} {e : Zg} (h : (Z4 w e).2 = true) : ¬ zt e.Kind = (⟨#[]⟩ : ByteArray) := by
  revert h
  exact LJ (P := fun r : ZG × Bool => r.2 = true -> ¬ zt e.Kind = (⟨#[]⟩ : ByteArray)) (fun h => by cases h) (fun h _ => by rw [h]; decide) (fun h _ => by rw [h]; decide) (fun h _ => by rw [h]; decide) (fun h _ => by rw [h]; decide) (fun h _ => by rw [h]; decide) (fun h _ => by rw [h]; decide) (fun h _ => by rw [h]; decide) (fun h _ => by rw [h]; decide) (fun h _ => by rw [h]; decide) (fun h _ => by rw [h]; decide)
theorem FL {l : List Zg} (h : ∀ i, i < l.length -> (nth l i).Kind ≠ 8) : ∀ (n : Nat) (c : Int) (v : Nat), l.length < n + v -> v <= l.length -> zR l 8 n c v = c
  | 0, c, v, hn, hl => by omega
  | n + 1, c, v, hn, hl => by
    rw [zR]
    by_cases hv : v < l.length
    · rw [decide_eq_true (show (v : Int) < (l.length : Int) by omega), QM, show ((nth l v).Kind == 8) = false by simpa using h v hv, Xq]
      exact FL h n c (v + 1) (by omega) hv
    · rw [decide_eq_false (show ¬ (v : Int) < (l.length : Int) by omega), Xq]
theorem Io (l : List Zg) : ((yC l 8 == 0) || !qY l) = true := by
  cases h : qY l with
  | false => simp
  | true =>
    have k := (kF (L := j0 l) (fun _ => rfl) (fun _ _ => rfl) (l.length + 1) 0 (by omega) true).1 h
    have e : yC l 8 = 0 := by
      unfold yC
      refine FL (fun i hi hk => ?_) _ _ _ (by omega) (Nat.zero_le _)
      have := k.1 i (Nat.zero_le _) hi
      rw [hk] at this
      exact absurd this (by decide)
    rw [e]; rfl
theorem O4 (a0 : List UInt8) : kY a0 = true := by
  have hw : ∀ x : ZG, QY x x = true := fun x => by rw [Vo]; simp
  have d1 : PlI 0 (ZS a0).1 := Aq _
  have s1 := (Zc (n := 40) (a0 := a0) (by decide)).2
  have s2 := Yk s1
  have w1 := (Gm _).2 (BB (n := 40) (l := (ZS a0).2) d1 (fun e he => Yk (Zg.EE (s1.2 e he))) (by omega)).w
  have hr : ∀ n, Uv (Uv (ZS a0).1 ((ZS a0).2.take n)) ((ZS a0).2.drop n) = Uv (ZS a0).1 (ZS a0).2 := fun n => by
    rw [<- F8, List.take_append_drop]
  have ha := wM (w := (ZY a0).1) (e := (ZY a0).2)
  have hb := Bn (w := (ZY a0).1) (e := (ZY a0).2)
  have hg : (((!(Z4 (ZY a0).1 (ZY a0).2).2) && (!(QY (ZY a0).1 (Z4 (ZY a0).1 (ZY a0).2).1))) || ((Z4 (ZY a0).1 (ZY a0).2).2 && (decide ((zt (ZY a0).2.Kind) = (⟨#[]⟩ : ByteArray))))) = false := by
    cases hc : (Z4 (ZY a0).1 (ZY a0).2).2 with
    | false => rw [ha hc, hw]; rfl
    | true => rw [decide_eq_false (hb hc)]; rfl
  unfold kY
  refine ZP (p := (· = true)) rfl ?_
  rw [hg]
  simp only [Ak, hr, hw, w1, Bool.not_true, Bool.or_false, Xq]
  exact ZP (p := (· = true)) (Io _) (Io _)
end Go.Mo
