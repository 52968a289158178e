/- The models of the program and of the reference agree. No condition. -/
import Derived.Test.YthjkhlcbpfnobaaGreatL
namespace Go.Mo
open Go.Vm
set_option linter.unusedSimpArgs false
set_option linter.unusedVariables false
variable {L : Nat -> Nat -> Sum Bool Unit} {c : Nat -> Bool} {i len k : Nat} {a0 : ZD} {a1 : List Int} {l : List ZQ} {a : List Zf} {a2 : ZT} {s d : Int}
theorem cond_neg (x : Int) {α : Type} (a b : α) : (bif decide (x < 0) then a else b) = (bif decide (0 <= x) then b else a) := by
  grind
/-- a loop that looks whether one of the places is bad -/
theorem Bs {L : Nat -> Nat -> Sum Bool Unit} {len : Nat} {c : Nat -> Bool} (h0 : ∀ v, L 0 v = .inr ()) (hs : ∀ n v, L (n + 1) v = (bif decide ((v : Int) < (len : Int)) then (bif c v then .inl false else L n (v + 1)) else .inr ())) :
    ∀ n v, len < n + v -> (L n v = .inr () /\ ∀ i, v <= i -> i < len -> c i = false) \/ (L n v = .inl false /\ ∃ i, v <= i /\ i < len /\ c i = true)
  | 0, v, h => .inl ⟨h0 v, fun i h1 h2 => zAA⟩
  | n + 1, v, h => by
    rw [hs]
    by_cases hv : v < len
    · rw [show decide ((v : Int) < (len : Int)) = true by simpa using hv]
      cases hc : c v with
      | true => exact .inr ⟨rfl, v, Nat.le_refl _, hv, hc⟩
      | false =>
        rcases Bs h0 hs n (v + 1) zAA with ⟨e, k⟩ | ⟨e, i, k1, k2, k3⟩
        · grind
        · exact .inr ⟨e, i, zAA, k2, k3⟩
    · grind
/-- a loop that looks for the first place -/
theorem xb {β : Type} {L : Nat -> Nat -> Sum β Unit} {len : Nat} {c : Nat -> Bool} {r : Nat -> β} (h0 : ∀ v, L 0 v = .inr ()) (hs : ∀ n v, L (n + 1) v = (bif decide ((v : Int) < (len : Int)) then (bif c v then .inl (r v) else L n (v + 1)) else .inr ())) :
    ∀ n v, len < n + v -> (L n v = .inr () /\ ∀ i, v <= i -> i < len -> c i = false) \/ (∃ i, L n v = .inl (r i) /\ v <= i /\ i < len /\ c i = true /\ ∀ k, v <= k -> k < i -> c k = false)
  | 0, v, h => .inl ⟨h0 v, fun i h1 h2 => zAA⟩
  | n + 1, v, h => by
    rw [hs]
    by_cases hv : v < len
    · rw [show decide ((v : Int) < (len : Int)) = true by simpa using hv]
      cases hc : c v with
      | true => exact .inr ⟨v, rfl, Nat.le_refl _, hv, hc, fun k h1 h2 => zAA⟩
      | false =>
        rcases xb h0 hs n (v + 1) zAA with ⟨e, k⟩ | ⟨i, e, k1, k2, k3, k4⟩
        · grind
        · grind
    · grind
/-- the same, as a Boolean -/
theorem Jy (h0 : ∀ v, L 0 v = .inr ()) (hs : ∀ n v, L (n + 1) v = (bif decide ((v : Int) < (len : Int)) then (bif c v then .inl false else L n (v + 1)) else .inr ())) (n v : Nat) (h : len < n + v) (X : Bool) :
    (match L n v with | .inl r => r | .inr _ => X) = true ↔ (∀ i, v <= i -> i < len -> c i = false) /\ X = true := by
  rcases Bs h0 hs n v h with ⟨e, k⟩ | ⟨e, i, k1, k2, k3⟩
  · grind
  · grind
theorem Mr (h0 : ∀ v, L 0 v = .inr ()) (hs : ∀ n v, L (n + 1) v = (bif decide ((v : Int) < (len : Int)) then (bif c v then .inl true else L n (v + 1)) else .inr ())) (n v : Nat) (h : len < n + v) :
    (match L n v with | .inl r => r | .inr _ => false) = true ↔ ∃ i, v <= i /\ i < len /\ c i = true := by
  rcases xb (r := fun _ => true) h0 hs n v h with ⟨e, k⟩ | ⟨i, e, k1, k2, k3, k4⟩
  · grind
  · rw [e]; exact ⟨fun _ => ⟨i, k1, k2, k3⟩, fun _ => rfl⟩
theorem Bv {α : Type} [Inhabited α] {l : List α} {n : Nat} (h : i < n) : nth (l.take n) i = nth l i := by
  unfold nth; simp [List.getD_eq_getElem?_getD, List.getElem?_take, h]
theorem Pg {α β : Type} [Inhabited α] [Inhabited β] {f : α -> β} {l : List α} (h : i < l.length) : nth (l.map f) i = f (nth l i) := by
  simp [nth, List.getD_eq_getElem?_getD, List.getElem?_eq_getElem h]
@[simp] theorem od (a0 a1 : Int) : Wn a0 a1 = if a1 < a0 then a1 else a0 := by
  unfold Wn; by_cases h : a1 < a0 <;> simp [h]
@[simp] theorem VY (a0 a1 a2 : Int) : YU a0 a1 a2 = ZS a0 a1 a2 := rfl
@[simp] theorem ur (a0 : List Yw) (a1 : Int) : ∀ (n : Nat) (v0 : Nat), jm a0 a1 n v0 = jk a0 a1 n v0 := by
  intro n
  induction n with
  | zero => intros; rfl
  | succ n ih => intros; simp [jm, jk, ih, ByteArray.append_assoc]
@[simp] theorem VD (a0 : List Yw) (a1 : Int) : Yc a0 a1 = Zt a0 a1 := by simp [Yc, Zt]
@[simp] theorem uV (a0 : ZN) : K2 a0 = zh a0 := by
  rw [Bool.eq_iff_iff]
  have hs : K2 a0 = true ↔ _ := (Jy (L := yR a0) (fun _ => rfl) (fun _ _ => rfl) (a0.Xn.length + 1) 0 zAA _).trans (and_congr_right fun _ => Jy (L := yO a0) (fun _ => rfl) (fun _ _ => rfl) (a0.KW.length + 1) 0 zAA _)
  rw [hs]
  unfold zh
  have hi : ∀ b : Bool, (bif b then false else (match qI a0 (a0.Xn.length + 1) 0 with | .inl r1 => r1 | .inr _ => true)) = true ↔ b = false /\ _ := fun b => by
    cases b
    · exact (Jy (L := qI a0) (fun _ => rfl) (fun _ _ => rfl) (a0.Xn.length + 1) 0 zAA true).trans (by simp only [true_and, and_true]; exact Iff.rfl)
    · simp
  refine Iff.trans ?_ (hi _).symm
  simp only [VY, Bool.or_eq_false_iff, Bool.not_eq_false', Bool.and_eq_true, beq_iff_eq, bne_eq_false_iff_eq, Bool.not_eq_eq_eq_not, Bool.not_false]
  grind
@[simp] theorem oV (a0 : Int) (a1 : Int) : BG a0 a1 = Cl a0 a1 := by simp [BG, Cl]
@[simp] theorem pK (a0 : List Int) : ∀ (n : Nat) (v0 : Int) (v1 : Nat), Ry a0 n v0 v1 = Rf a0 n v0 v1 := by
  intro n
  induction n with
  | zero => intros; rfl
  | succ n ih => intros; simp [Ry, Rf, ih, ByteArray.append_assoc]
@[simp] theorem oU (a0 : List Int) : Md a0 = M5 a0 := by simp [Md, M5]
@[simp] theorem sQ (a0 : Int) (a1 : List Int) : yy a0 a1 = Wp a0 a1 := by simp [yy, Wp]
@[simp] theorem sW (a0 : Yw) (a1 : List Int) : xr a0 a1 = Vl a0 a1 := by simp [xr, Vl]
@[simp] theorem sj (a0 : YX) : yH a0 = yD a0 := by simp [yH, yD]
@[simp] theorem pD (a0 : Int) : Wg a0 = Kq a0 := rfl
theorem HJ {α : Type} [Inhabited α] (l : List α) (i : Nat) : l.set i (nth l i) = l := by
  rcases Nat.lt_or_ge i l.length with h | h
  · simp [nth, List.getD_eq_getElem?_getD, List.getElem?_eq_getElem h]
  · exact List.set_eq_of_length_le h
theorem GU {a1 : Int} (h : (Xc a0 a1 a2).2 = false) : (Xc a0 a1 a2).1 = a0 := by
  unfold Xc at h ⊢
  cases hf : decide (ZW a0 a1 < 0) with
  | true => rfl
  | false =>
    rw [hf] at h
    simp only [cond_false] at h ⊢
    have hp : (JD (nth a0.ZC (ZW a0 a1).toNat).ZK a2).1 = (nth a0.ZC (ZW a0 a1).toNat).ZK := by
      unfold JD at h ⊢
      grind
    rw [hp, show ZQ.mk (nth a0.ZC (ZW a0 a1).toNat).Id (nth a0.ZC (ZW a0 a1).toNat).Y8 (nth a0.ZC (ZW a0 a1).toNat).Doc (nth a0.ZC (ZW a0 a1).toNat).Sig (nth a0.ZC (ZW a0 a1).toNat).ZK = nth a0.ZC (ZW a0 a1).toNat from rfl, HJ]
theorem En (a0 : ZF) (i id : Int) (st : Zn) : (bif (YL a0.Frame.Zo st).2 then ((ZF.mk a0.Frame a0.ZY a0.Zx (a0.ZA.set i.toNat (Xc (nth a0.ZA i.toNat) id (XK (YL a0.Frame.Zo st).1)).1) a0.Yt a0.YO a0.Next a0.YE), (Xc (nth a0.ZA i.toNat) id (XK (YL a0.Frame.Zo st).1)).2) else (a0, false)) = Qb a0 i id st := by
  unfold Qb
  cases hm : (YL a0.Frame.Zo st).2 with
  | false => rfl
  | true =>
    cases ha : (Xc (nth a0.ZA i.toNat) id (XK (YL a0.Frame.Zo st).1)).2 with
    | true => rfl
    | false => rw [GU ha, HJ]; rfl
theorem OI (l : List YX) (s : Int) (h : 0 <= Xp l s) : (nth l (Xp l s).toNat).Zd = s := by
  unfold Xp at h ⊢
  rcases xb (β := Int) (L := xJ l s) (len := l.length) (c := fun v => (nth l v).Zd == s) (r := fun v => (v : Int)) (fun _ => rfl) (fun _ _ => rfl) (l.length + 1) 0 zAA with ⟨e, _⟩ | ⟨i, e, _, _, hc, _⟩
  · rw [e] at h; simp at h
  · rw [e]; simpa using hc
theorem Ll {a b c : Bool} : ((!(a && b)) || c) = ((!a || !b) || c) := by cases a <;> cases b <;> rfl
@[simp] theorem sh (a0 : ZF) (a1 : Int) : jR a0 a1 = YA a0 a1 := by simp [jR, YA]
@[simp] theorem WZ (a0 : ZF) (a1 : Int) : JB a0 a1 = YC a0 a1 := by simp [JB, YC]
@[simp] theorem wV (a0 : List Z8) (a1 : Int) : ∀ (n : Nat) (v0 : Int) (v1 : Nat), yh a0 a1 n v0 v1 = yN a0 a1 n v0 v1 := by
  intro n
  induction n with
  | zero => intros; rfl
  | succ n ih => intros; simp [yh, yN, ih, ByteArray.append_assoc]
@[simp] theorem zZ (a0 : List Z8) (a1 : Int) : Zk a0 a1 = ZO a0 a1 := by simp [Zk, ZO]
@[simp] theorem Fo (a0 : Int) (a1 : List Int) : Kp a0 a1 = Jm a0 a1 := by simp [Kp, Jm]
theorem NU (a1 : ByteArray) : ∀ (n : Nat) (p l : List Int) (v : Nat), a1.size < n + v -> v <= a1.size -> xu a1 n (p ++ l) v = p ++ qQ a1.data.toList n l v := by
  intro n
  induction n with
  | zero =>
    intro p l v h hv
    omega
  | succ n ih =>
    intro p l v h bL
    have hs : a1.size = a1.data.toList.length := (Array.length_toList).symm
    rw [xu, qQ, <- hs]
    by_cases hv : v < a1.size
    · rw [show decide ((v : Int) < (a1.size : Int)) = true by simpa using hv]
      simp only [cond_true]
      rw [List.append_assoc, ih p _ (v + 1) zAA zAA]
      rfl
    · grind
@[simp] theorem uX (a0 : Int) (a1 : ByteArray) (a2 : Int) : j8 a0 a1 a2 = kS a0 a1 a2 := by
  have := NU a1 (a1.size + 1) [a2] [] 0 zAA zAA
  simp only [List.append_nil] at this
  simp only [j8, kS, kh, this, Fo]
  rfl
@[simp] theorem vh (a0 : Int) (a1 : ZN) : ∀ (n : Nat) (v0 : List Int) (v1 : Nat), q8 a0 a1 n v0 v1 = jD a0 a1 n v0 v1 := by
  intro n
  induction n with
  | zero => intros; rfl
  | succ n ih => intros; simp [q8, jD, ih, ByteArray.append_assoc]
@[simp] theorem PF (a0 : Int) (a1 : ZN) : JG a0 a1 = Yb a0 a1 := by simp [JG, Yb]
@[simp] theorem vU (a0 : Zl) : q7 a0 = yI a0 := by simp [q7, yI]
@[simp] theorem wS (a0 : Zl) : Qo a0 = Xq a0 := by simp [Qo, Xq]
@[simp] theorem IE (a0 : List Yw) (a1 : Zl) : K0 a0 a1 = XM a0 a1 := by
  by_cases h : Zt a0 a1.Key < 0 <;> simp [K0, XM, zM, h]
@[simp] theorem Gs (a0 : Zl) : yv a0 = Yu a0 := by simp [yv, Yu]
@[simp] theorem GW (a0 : YX) : jt a0 = Jf a0 := by simp [jt, Jf]
def RE (a0 : ZF) (a2 : Int) (a3 : ZN) (a4 : Int) (v : Nat) : Zl × Bool := XM a0.Frame.Zo (Zl.mk a2 (nth a0.ZY v).Zd (ZO a0.Frame.Methods a0.Frame.Now) (Yb (ZO a0.Frame.Methods a0.Frame.Now) a3) 1 a4 0 0 0)
def S5 (a0 : ZF) (a2 : Int) (a3 : ZN) (a4 a5 : Int) (v : Nat) : ZQ := ZQ.mk a0.Next a5 a3 (RE a0 a2 a3 a4 v).1 (ZU.mk ([(Yu (RE a0 a2 a3 a4 v).1), (Jf (nth a0.ZY v))] : List ZT) ([] : List ZZ))
def RA (a0 : ZF) (a1 : Int) (it : ZQ) : ZF := ZF.mk a0.Frame a0.ZY a0.Zx (a0.ZA.set a1.toNat (YQ (nth a0.ZA a1.toNat) it).1) a0.Yt a0.YO (W (a0.Next + 1)) a0.YE
def wH (a0 : ZF) (a1 : Int) (b : Bool) (it : ZQ) : ZF × Bool := bif (!b) || !(YQ (nth a0.ZA a1.toNat) it).2 then (a0, false) else (RA a0 a1 it, true)
theorem Eo (a0 : ZF) (a1 a2 : Int) (a3 : ZN) (a4 a5 : Int) :
    ∀ (m v : Nat), (match Qv a0 a1 a2 a3 a4 a5 m v with | .inl r1 => r1 | .inr _ => (a0, false)) = (match KN a0 a2 m v with | .inl k => wH a0 a1 (RE a0 a2 a3 a4 k.toNat).2 (S5 a0 a2 a3 a4 a5 k.toNat) | .inr _ => (a0, false))
  | 0, v => rfl
  | m + 1, v => by
    have ih := Eo a0 a1 a2 a3 a4 a5 m (v + 1)
    simp only [Qv, KN]
    cases decide ((v : Int) < (a0.ZY.length : Int)) with
    | false => rfl
    | true =>
      simp only [cond_true, bne]
      cases ((nth a0.ZY v).Key == a2) with
      | false => exact ih
      | true =>
        simp only [cond_true, cond_false, Bool.not_true]
        rw [show ((v : Int)).toNat = v from rfl]
        show (match (bif ((!(RE a0 a2 a3 a4 v).2) || !(YQ (nth a0.ZA a1.toNat) (S5 a0 a2 a3 a4 a5 v)).2) then (Sum.inl (a0, false) : Sum (ZF × Bool) Unit) else .inl (RA a0 a1 (S5 a0 a2 a3 a4 a5 v), true)) with | .inl r1 => r1 | .inr _ => (a0, false)) = wH a0 a1 (RE a0 a2 a3 a4 v).2 (S5 a0 a2 a3 a4 a5 v)
        unfold wH
        grind
theorem wo (a0 : ZF) (a2 : Int) : ∀ (m v : Nat), KN a0 a2 m v = .inr () \/ ∃ k : Nat, KN a0 a2 m v = .inl (k : Int)
  | 0, v => .inl rfl
  | m + 1, v => by
    have ih := wo a0 a2 m (v + 1)
    simp only [KN]
    grind
theorem Dd (a0 : ZF) (a1 : Int) (a2 : ZN) (a3 a4 : Int) : QA a0 a1 a2 a3 a4 = bif ((decide ((ZO a0.Frame.Methods a0.Frame.Now) < 0)) || (decide ((Xl a0 a1) < 0))) then ((ZQ.mk 0 0 (ZN.mk 0 ([] : List ByteArray) ([] : List Int)) (Zl.mk 0 0 0 0 0 0 0 0 0) (ZU.mk ([] : List ZT) ([] : List ZZ))), false) else (S5 a0 a1 a2 a3 a4 (Xl a0 a1).toNat, (RE a0 a1 a2 a3 (Xl a0 a1).toNat).2) := by
  unfold QA
  simp only [zZ, IE, PF, Gs, GW]
  rfl
theorem Lw (a0 : ZF) (a1 a2 : Int) (a3 : ZN) (a4 a5 : Int) : XJ a0 a1 a2 a3 a4 a5 = bif ((!(YC a0 a1)) || (decide ((Zt a0.Frame.Zo a2) < 0))) then (a0, false) else wH a0 a1 (QA a0 a2 a3 a4 a5).2 (QA a0 a2 a3 a4 a5).1 := by
  unfold XJ
  cases ((!(YC a0 a1)) || (decide ((Zt a0.Frame.Zo a2) < 0))) with
  | true => rfl
  | false =>
    rw [Dd]
    simp only [Bool.false_or, cond_false]
    refine Eq.trans (congrArg (fun z => bif decide ((ZO a0.Frame.Methods a0.Frame.Now) < 0) then (a0, false) else z) (Eo a0 a1 a2 a3 a4 a5 (a0.ZY.length + 1) 0)) ?_
    cases decide ((ZO a0.Frame.Methods a0.Frame.Now) < 0) with
    | true => rfl
    | false =>
      simp only [Bool.false_or, cond_false]
      rcases wo a0 a2 (a0.ZY.length + 1) 0 with h | ⟨k, h⟩
      · rw [h, show Xl a0 a2 = -1 by unfold Xl; rw [h]]; rfl
      · rw [h, show Xl a0 a2 = (k : Int) by unfold Xl; rw [h]]
        grind
theorem rJ (a0 : ZF) (a1 : Int) (b : Bool) (it : ZQ) : (bif !b then (a0, false) else (bif !(YQ (nth a0.ZA a1.toNat) it).2 then (a0, false) else (RA a0 a1 it, true))) = wH a0 a1 b it := by
  unfold wH
  cases b <;> rfl
@[simp] theorem tF (a0 a1 : List Int) : Uc a0 a1 = decide (a0 = a1) := pW (F := WU a0 a1) (c := fun i => (nth a0 i) != (nth a1 i)) (fun i => by simp [bne, Bool.beq_eq_decide_eq]) (fun _ => rfl) (fun _ _ => rfl)
@[simp] theorem sO (a0 a1 : List Int) : Uo a0 a1 = decide (a0 = a1) := pW (F := WT a0 a1) (c := fun i => (nth a0 i) != (nth a1 i)) (fun i => by simp [bne, Bool.beq_eq_decide_eq]) (fun _ => rfl) (fun _ _ => rfl)
@[simp] theorem yQ (a0 a1 : ZT) : KG a0 a1 = decide (a0 = a1) := by
  obtain ⟨t, p, s⟩ := a0; obtain ⟨t', p', s'⟩ := a1
  by_cases h1 : t = t' <;> by_cases h2 : p = p' <;> by_cases h3 : s = s' <;> simp_all [KG]
@[simp] theorem uD (a0 a1 : ZT) : xa a0 a1 = decide (a0 = a1) := by
  obtain ⟨t, p, s⟩ := a0; obtain ⟨t', p', s'⟩ := a1
  by_cases h1 : t = t' <;> by_cases h2 : p = p' <;> by_cases h3 : s = s' <;> simp_all [xa]
theorem Ss (a0 : ZU) (hk : k < a0.ZJ.length) : decide (qM a0 (nth a0.ZJ k) < (k : Int)) = Km (a0.ZJ.take k) (nth a0.ZJ k) := by
  rw [Bool.eq_iff_iff]
  have hi : Km (a0.ZJ.take k) (nth a0.ZJ k) = true ↔ _ := Mr (L := kN (a0.ZJ.take k) (nth a0.ZJ k)) (fun _ => rfl) (fun _ _ => rfl) _ 0 zAA
  rw [hi]
  unfold qM
  have hl : (a0.ZJ.take k).length = k := zAk
  rw [hl]
  rcases xb (L := xY a0 (nth a0.ZJ k)) (r := fun i => (i : Int)) (fun _ => rfl) (fun _ _ => rfl) (a0.ZJ.length + 1) 0 zAA with ⟨e, p⟩ | ⟨i, e, p1, p2, p3, p4⟩
  · have := p k (Nat.zero_le _) hk
    simp at this
  · rw [e]
    simp only [decide_eq_true_eq]
    constructor
    · intro h
      exact ⟨i, Nat.zero_le _, zAA, by rw [Bv zAA]; simpa using p3⟩
    · rintro ⟨j, _, hj, hc⟩
      rw [Bv hj] at hc
      rcases Nat.lt_or_ge j i with h | h
      · have := p4 j (Nat.zero_le _) h; simp at this hc; exact absurd hc this
      · omega
@[simp] theorem sY (a0 : ZU) : xK a0 = Xy a0 := by
  rw [Bool.eq_iff_iff]
  have hs : xK a0 = true ↔ _ := (Jy (L := qi a0) (fun _ => rfl) (fun _ _ => rfl) (a0.ZJ.length + 1) 0 zAA _).trans (and_congr_right fun _ => Jy (L := ql a0) (fun _ => rfl) (fun _ _ => rfl) (a0.ZP.length + 1) 0 zAA _)
  rw [hs]
  unfold Xy
  have hi : ∀ b : Bool, (bif b then false else (match xG a0 (a0.ZJ.length + 1) 0 with | .inl r1 => r1 | .inr _ => (match y7 a0 (a0.ZP.length + 1) 0 with | .inl r2 => r2 | .inr _ => true))) = true ↔ b = false /\ _ := fun b => by
    cases b
    · exact ((Jy (L := xG a0) (fun _ => rfl) (fun _ _ => rfl) (a0.ZJ.length + 1) 0 zAA _).trans (and_congr_right fun _ => Jy (L := y7 a0) (fun _ => rfl) (fun _ _ => rfl) (a0.ZP.length + 1) 0 zAA true)).trans (by simp only [true_and, and_true]; exact Iff.rfl)
    · simp
  refine Iff.trans ?_ (hi _).symm
  simp only [VY, Bool.or_eq_false_iff, Bool.not_eq_false', Bool.and_eq_true, Bool.not_eq_eq_eq_not, Bool.not_false]
  constructor
  · rintro ⟨h1, h2, h3, h4⟩
    exact ⟨⟨h3, by simpa using h4⟩, fun i hz hi => by rw [<- Ss a0 hi]; exact h1 i hz hi, fun i hz hi => by simpa using h2 i hz hi⟩
  · rintro ⟨⟨h3, h4⟩, h1, h2⟩
    exact ⟨fun i hz hi => by rw [Ss a0 hi]; exact h1 i hz hi, fun i hz hi => by simpa using h2 i hz hi, h3, by simpa using h4⟩
@[simp] theorem pG (a0 : ZQ) : Tx a0 = Jv a0 := by simp [Tx, Jv]
@[simp] theorem vv (a0 : ZD) : ∀ (n : Nat) (v0 : Nat), q9 a0 n v0 = xg a0 n v0 := by
  intro n
  induction n with
  | zero => intros; rfl
  | succ n ih => intros; simp [q9, xg, ih, ByteArray.append_assoc]
@[simp] theorem PA (a0 : ZD) : Jb a0 = Yi a0 := by simp [Jb, Yi]
@[simp] theorem uT (a0 : ZD) (a1 : Int) : ∀ (n : Nat) (v0 : Nat), qS a0 a1 n v0 = zl a0 a1 n v0 := by
  intro n
  induction n with
  | zero => intros; rfl
  | succ n ih => intros; simp [qS, zl, ih, ByteArray.append_assoc]
@[simp] theorem TQ (a0 : ZD) (a1 : Int) : Ys a0 a1 = ZW a0 a1 := by simp [Ys, ZW]
theorem FG (h : i < l.length) : l.drop i = nth l i :: l.drop (i + 1) := by
  rw [List.drop_eq_getElem_cons h]; simp [nth, List.getD_eq_getElem?_getD, List.getElem?_eq_getElem h]
theorem pB (a0 : ZD) (a1 : ZQ) : ∀ (m i : Nat) (l : List ZQ), a0.ZC.length < m + i -> i <= a0.ZC.length -> Qh a0 a1 m true i l = (true, l ++ a0.ZC.drop i)
  | 0, i, l, h, hi => zAA
  | m + 1, i, l, h, hi => by
    simp only [Qh]
    cases hc : decide ((i : Int) < (a0.ZC.length : Int)) with
    | false =>
      grind
    | true =>
      have lH : i < a0.ZC.length := zBG
      simp only [cond_true, Bool.not_true, Bool.false_and, cond_false]
      rw [pB a0 a1 m (i + 1) _ zAA lH, FG lH]; simp
theorem pF (a0 : ZD) (a1 : ZQ) (lA : ∀ k, k < a0.ZC.length -> (nth a0.ZC k).Id ≠ a1.Id) : ∀ (m i : Nat) (l : List ZQ), a0.ZC.length < m + i -> i <= a0.ZC.length ->
    i <= Xt a0 a1 m i /\ Xt a0 a1 m i <= a0.ZC.length /\
    Qh a0 a1 m false i l = (bif decide (Xt a0 a1 m i < a0.ZC.length) then (true, l ++ (a0.ZC.take (Xt a0 a1 m i)).drop i ++ [a1] ++ a0.ZC.drop (Xt a0 a1 m i)) else (false, l ++ a0.ZC.drop i))
  | 0, i, l, h, hi => zAA
  | m + 1, i, l, h, hi => by
    by_cases lH : i < a0.ZC.length
    · have hc : decide ((i : Int) < (a0.ZC.length : Int)) = true := by simpa using lH
      have hn := lA i lH
      by_cases e9 : a1.Id < (nth a0.ZC i).Id
      · have e1 : Xt a0 a1 (m + 1) i = i := by
          simp only [Xt, hc, show decide ((nth a0.ZC i).Id < a1.Id) = false by simp; omega, Bool.true_and, cond_false]
        rw [e1]
        refine ⟨Nat.le_refl _, zAA, ?_⟩
        simp only [Qh, hc, show decide (a1.Id < (nth a0.ZC i).Id) = true by simpa using e9, Bool.not_false, Bool.true_and, cond_true]
        rw [pB a0 a1 m (i + 1) _ zAA lH, show decide (i < a0.ZC.length) = true by simpa using lH, FG lH, List.drop_eq_nil_of_le (as := a0.ZC.take i) zA0]
        simp
      · have h2 : (nth a0.ZC i).Id < a1.Id := zAA
        have e1 : Xt a0 a1 (m + 1) i = Xt a0 a1 m (i + 1) := by
          simp only [Xt, hc, show decide ((nth a0.ZC i).Id < a1.Id) = true by simpa using h2, Bool.true_and, cond_true]
        rw [e1]
        obtain ⟨k1, k2, k3⟩ := pF a0 a1 lA m (i + 1) (l ++ [nth a0.ZC i]) zAA lH
        refine ⟨zAA, k2, ?_⟩
        simp only [Qh, hc, show decide (a1.Id < (nth a0.ZC i).Id) = false by simpa using e9, Bool.not_false, Bool.true_and, cond_true, cond_false]
        rw [k3]
        have ht : (a0.ZC.take (Xt a0 a1 m (i + 1))).drop i = nth a0.ZC i :: (a0.ZC.take (Xt a0 a1 m (i + 1))).drop (i + 1) := by
          have bA : i < (a0.ZC.take (Xt a0 a1 m (i + 1))).length := zAk
          rw [FG bA]
          congr 1
          simp only [nth, List.getD_eq_getElem?_getD]
          rw [List.getElem?_take_of_lt zAA]
        grind
    · have hc : decide ((i : Int) < (a0.ZC.length : Int)) = false := by simpa using lH
      have e1 : Xt a0 a1 (m + 1) i = i := by simp only [Xt, hc, Bool.false_and, cond_false]
      rw [e1]
      refine ⟨Nat.le_refl _, zAA, ?_⟩
      simp only [Qh, hc, cond_false]
      grind
theorem IU (h : ZW a0 s < 0) : ∀ k, k < a0.ZC.length -> (nth a0.ZC k).Id ≠ s := by
  unfold ZW at h
  intro k hk
  rcases xb (β := Int) (L := zl a0 s) (len := a0.ZC.length) (c := fun v => (nth a0.ZC v).Id == s) (r := fun v => (v : Int)) (fun _ => rfl) (fun _ _ => rfl) (a0.ZC.length + 1) 0 zAA with ⟨e, h2⟩ | ⟨i, e, _, _, hc, _⟩
  · simpa using h2 k (Nat.zero_le _) hk
  · rw [e] at h; simp at h; omega
@[simp] theorem SY (a0 : ZD) (a1 : ZQ) : JK a0 a1 = YQ a0 a1 := by
  simp only [JK, YQ, PA, TQ]
  rw [Bool.or_comm]
  cases hc : (decide (ZW a0 a1.Id >= 0) || !Yi a0) with
  | true => rfl
  | false =>
    have hf : ZW a0 a1.Id < 0 := by simp at hc; exact hc.1
    obtain ⟨_, k2, k3⟩ := pF a0 a1 (IU hf) (a0.ZC.length + 1) 0 [] zAA (Nat.zero_le _)
    grind
@[simp] theorem sf (a0 : ZF) (a1 a2 : Int) (a3 : ZN) (a4 a5 : Int) : ja a0 a1 a2 a3 a4 a5 = JY a0 a1 a2 a3 a4 a5 := by
  unfold ja JY
  simp only [WZ, VD, SY]
  rw [Lw, <- rJ]
  cases decide ((Zt a0.Frame.Zo a2) < 0) <;> cases (YC a0 a1) <;> cases decide ((nth a0.Frame.Zo (Zt a0.Frame.Zo a2).toNat).VI > a0.Frame.Now) <;> rfl
@[simp] theorem si (a0 : ZF) (a1 : Int) : ∀ (n : Nat) (v0 : Nat), jc a0 a1 n v0 = qO a0 a1 n v0 := by
  intro n
  induction n with
  | zero => intros; rfl
  | succ n ih => intros; simp [jc, qO, ih, ByteArray.append_assoc]
@[simp] theorem U0 (a0 : ZF) (a1 : Int) : ZG a0 a1 = ZL a0 a1 := by simp [ZG, ZL]
@[simp] theorem uJ (a0 : ZT) : Qs a0 = XC a0 := by
  simp only [Qs, XC, VY]
  grind
@[simp] theorem Ru (a0 : ZT) : Ze a0 = XO a0 := by simp [Ze, XO]
@[simp] theorem ua (a0 : List YX) (a1 : Int) : ∀ (n : Nat) (v0 : Nat), qf a0 a1 n v0 = xJ a0 a1 n v0 := by
  intro n
  induction n with
  | zero => intros; rfl
  | succ n ih => intros; simp [qf, xJ, ih, ByteArray.append_assoc]
@[simp] theorem OD (a0 : List YX) (a1 : Int) : Z3 a0 a1 = Xp a0 a1 := by simp [Z3, Xp]
@[simp] theorem sZ (a0 : Zn) : Vn a0 = kg a0 := by simp [Vn, kg]
@[simp] theorem uf (a0 : Zn) : KJ a0 = Ju a0 := by simp [KJ, Ju]
@[simp] theorem Sp (a0 : List Yw) (a1 : Zn) : Yl a0 a1 = YL a0 a1 := by
  by_cases h : Zt a0 a1.Z1 < 0 <;> simp [Yl, YL, zM, h]
theorem LL {a0 : List Yw} {a1 : Zn} (h : (YL a0 a1).2 = true) : 0 <= Zt a0 a1.Z1 := by
  have := Zc (a0 := a0) (a1 := a1) zBd
  simpa using this
@[simp] theorem Ts (a0 : Zn) : XL a0 = XK a0 := by simp [XL, XK]
@[simp] theorem se (a0 : ZU) (a1 : ZT) : xD a0 a1 = JD a0 a1 := by simp [xD, JD]
@[simp] theorem Rv (a0 : ZD) (a1 : Int) (a2 : ZT) : QE a0 a1 a2 = Xc a0 a1 a2 := by simp [QE, Xc]
@[simp] theorem uU (a0 : ZF) (a1 : Int) : xC a0 a1 = Qy a0 a1 := by
  unfold xC Qy YI
  simp only [U0, Ru, OD, VD, Sp, Rv, Ts]
  cases h1 : ((decide ((ZL a0 a1).1 < 0)) || (decide (((nth (nth a0.ZA (ZL a0 a1).1.toNat).ZC (ZL a0 a1).2.toNat).ZK.ZJ.length : Int) < 2))) with
  | true => rfl
  | false =>
    simp only [cond_false]
    generalize XO (nth (nth (nth a0.ZA (ZL a0 a1).1.toNat).ZC (ZL a0 a1).2.toNat).ZK.ZJ 1) = p
    rw [Ll, show (!(decide (Xp a0.ZY p.1.Zd >= 0))) = decide (Xp a0.ZY p.1.Zd < 0) by rw [<- decide_not]; simp]
    cases h2 : ((!p.2 || decide (Xp a0.ZY p.1.Zd < 0)) || decide (Xp a0.ZY p.1.Zd >= (a0.Zx.length : Int))) with
    | true => rfl
    | false =>
      simp only [cond_false]
      have hn : 0 <= Xp a0.ZY p.1.Zd := by simp at h2; exact h2.1.2
      rw [OI _ _ hn]
      have key : ∀ (n : Nat) (st : Zn), st.Z1 = (nth a0.ZY n).Z1 ->
          (bif ((!(YL a0.Frame.Zo st).2) || (decide ((nth a0.Frame.Zo (Zt a0.Frame.Zo (nth a0.ZY n).Z1).toNat).VI > a0.Frame.Now))) then (a0, false) else ((ZF.mk a0.Frame a0.ZY a0.Zx (a0.ZA.set (ZL a0 a1).1.toNat (Xc (nth a0.ZA (ZL a0 a1).1.toNat) a1 (XK (YL a0.Frame.Zo st).1)).1) a0.Yt a0.YO a0.Next a0.YE), (Xc (nth a0.ZA (ZL a0 a1).1.toNat) a1 (XK (YL a0.Frame.Zo st).1)).2)) =
          (bif ((decide ((Zt a0.Frame.Zo (nth a0.ZY n).Z1) < 0)) || (decide ((nth a0.Frame.Zo (Zt a0.Frame.Zo (nth a0.ZY n).Z1).toNat).VI > a0.Frame.Now))) then (a0, false) else ((Qb a0 (ZL a0 a1).1 a1 st).1, (Qb a0 (ZL a0 a1).1 a1 st).2)) := by
        intro n st ld
        rw [<- En]
        cases hb : decide ((nth a0.Frame.Zo (Zt a0.Frame.Zo (nth a0.ZY n).Z1).toNat).VI > a0.Frame.Now) with
        | true => simp
        | false =>
          cases hm : (YL a0.Frame.Zo st).2 with
          | false => simp
          | true =>
            have hp := LL hm
            rw [ld] at hp
            rw [show decide (Zt a0.Frame.Zo (nth a0.ZY n).Z1 < 0) = false by simp; exact hp]
            rfl
      grind
@[simp] theorem ud (a0 : ZF) (a1 : Int) : y5 a0 a1 = QJ a0 a1 := by simp [y5, QJ]
@[simp] theorem Bz (a0 : List Zf) (a1 : Int) : ∀ (n : Nat) (v0 : Nat), Kc a0 a1 n v0 = Jq a0 a1 n v0 := by
  intro n
  induction n with
  | zero => intros; rfl
  | succ n ih => intros; simp [Kc, Jq, ih, ByteArray.append_assoc]
@[simp] theorem jZ (a0 : List Zf) (a1 : Int) : Zh a0 a1 = ZV a0 a1 := by simp [Zh, ZV]
@[simp] theorem tC (a0 : Zj) : zG a0 = Jc a0 := by simp [zG, Jc]
@[simp] theorem Ck (a1 : ZZ) : ∀ (n : Nat) (v0 : List Int) (v1 : Nat), zi a1 n v0 v1 = zp a1 n v0 v1 := by
  intro n
  induction n with
  | zero => intros; rfl
  | succ n ih => intros; simp [zi, zp, ih, ByteArray.append_assoc]
@[simp] theorem AA (a1 : ZZ) : ∀ (n : Nat) (v0 : List Int) (v1 : Nat), Kd a1 n v0 v1 = Ki a1 n v0 v1 := by
  intro n
  induction n with
  | zero => intros; rfl
  | succ n ih => intros; simp [Kd, Ki, ih, ByteArray.append_assoc]
@[simp] theorem OY (a0 : Int) (a1 : ZZ) : Kl a0 a1 = JU a0 a1 := by simp [Kl, JU]
@[simp] theorem AF (a0 : Int) (a1 : List ZT) : ∀ (n : Nat) (v0 : List Int) (v1 : Nat), yY a0 a1 n v0 v1 = yl a0 a1 n v0 v1 := by
  intro n
  induction n with
  | zero => intros; rfl
  | succ n ih => intros; simp [yY, yl, ih, ByteArray.append_assoc]
@[simp] theorem vN (a0 : Int) (a1 : List ZT) : KZ a0 a1 = KX a0 a1 := by simp [KZ, KX]
@[simp] theorem C7 (a0 : Int) (a1 : Int) (a2 : List ZT) (a3 : Int) : T2 a0 a1 a2 a3 = WX a0 a1 a2 a3 := by simp [T2, WX]
theorem Mf (a0 : ZU) (a1 : ZN) : JT a0 a1 = a0.ZP.map (fun c => JG c.Method a1) := by
  have := R3 (as := a0.ZP) (fun c => [JG c.Method a1]) (F := fun n i l => KP a0 a1 n l i) (fun _ _ _ => rfl) (a0.ZP.length + 1) 0 [] zAA (Nat.zero_le _)
  unfold JT
  rw [this, List.drop_zero, GY]; rfl
theorem Ce {α : Type} [Inhabited α] (l : List α) (x : α) : nth (l ++ [x]) l.length = x := by simp [nth]
theorem Ar {α : Type} [Inhabited α] (l : List α) (x : α) (h : i < l.length) : nth (l ++ [x]) i = nth l i := by simp [nth, List.getD_eq_getElem?_getD, List.getElem?_append_left h]
theorem Cf (x : ZQ) (a1 : Int) (h : Sm maxLen x) (r : ZZ) (hr : r = ZZ.mk (x.ZK.ZJ.length : Int) a1 0 [] []) :
    Wb (ZU.mk x.ZK.ZJ (x.ZK.ZP ++ [r])) (JT (ZU.mk x.ZK.ZJ (x.ZK.ZP ++ [r])) x.Doc) (W (((x.ZK.ZP ++ [r]).length : Int) - 1)) = Qx x a1 := by
  have hl : x.ZK.ZP.length <= maxLen := YS (ZU.zo (ZQ.Xk h))
  have hm : maxLen = 9223372036854775807 := zAE
  have e1 : W (((x.ZK.ZP ++ [r]).length : Int) - 1) = (x.ZK.ZP.length : Int) := by
    rw [List.length_append, List.length_singleton, show ((x.ZK.ZP.length + 1 : Nat) : Int) - 1 = (x.ZK.ZP.length : Int) by omega, Y9]; omega
  have e2 : nth (x.ZK.ZP ++ [r]) x.ZK.ZP.length = r := Ce _ _
  have e3 : nth ((x.ZK.ZP ++ [r]).map (fun c => Yb c.Method x.Doc)) x.ZK.ZP.length = Yb r.Method x.Doc := by rw [List.map_append]; have := Ce (x.ZK.ZP.map (fun c => Yb c.Method x.Doc)) (Yb r.Method x.Doc); rw [List.length_map] at this; exact this
  have e4 : r.Count = (x.ZK.ZJ.length : Int) := by rw [hr]
  have e5 : r.Method = a1 := by rw [hr]
  unfold Wb Qx
  rw [e1, Mf]
  simp only [Int.toNat_natCast, e1, e2, e3, e4, e5, VY, ZS, List.length_map, bne_self_eq_false, Int.le_refl, decide_true, Bool.and_true, Int.natCast_nonneg, Bool.not_true, Bool.or_false, cond_false, List.take_length, C7, PF, OY]
  by_cases hz : 0 < x.ZK.ZP.length
  · have e6 : W ((x.ZK.ZP.length : Int) - 1) = ((x.ZK.ZP.length - 1 : Nat) : Int) := by rw [LJ _ zAA]; omega
    rw [e6, Int.toNat_natCast, Ar _ _ zAA]
  · grind
theorem Lq (a0 : ZD) (a1 : Int) (h : Sm maxLen a0) : ∀ n l i, KI a0 a1 n l i = xi a0 a1 n l i
  | 0, _, _ => rfl
  | n + 1, l, i => by simp only [KI, xi, Lq a0 a1 h n, Cf (nth a0.ZC i) a1 (Zp (ZD.Ye h)) _ rfl]
@[simp] theorem Rt (a0 : ZD) (a1 : Int) (h : Sm maxLen a0) : YJ a0 a1 = Xf a0 a1 := by
  simp only [YJ, Xf, Lq a0 a1 h]
@[simp] theorem Iv (a0 : Int) (a1 : Int) (a2 : Int) : kM a0 a1 a2 = xF a0 a1 a2 := by simp [kM, xF]
theorem NM (a0 : Int) (a1 : List Int) : ∀ n v i, jq a0 a1 n v i = KQ a0 a1 n v i
  | 0, _, _ => rfl
  | n + 1, v, i => by simp only [jq, KQ, NM a0 a1 n, Iv]
@[simp] theorem AR (a0 : Int) (a1 : List Int) : WN a0 a1 = KL a0 a1 := by simp only [WN, KL, NM]
@[simp] theorem ue (a0 : Int) : ∀ (n : Nat) (v0 : List Int), kC a0 n v0 = kA a0 n v0 := by
  intro n
  induction n with
  | zero => intros; rfl
  | succ n ih => intros; simp [kC, kA, ih, ByteArray.append_assoc]
@[simp] theorem TU (a0 : Int) (a1 : List Int) : Kk a0 a1 = jO a0 a1 := by simp [Kk, jO]
@[simp] theorem Dw (a0 : ZD) (a1 : Int) (h : Sm maxLen a0) : yM a0 a1 = QH a0 a1 := by
  simp only [yM, QH, Rt a0 a1 h, TU]
theorem N1 (a0 : List Int) (a1 : Int) : QG a0 a1 = true ↔ ∃ i, 0 <= i /\ i < a0.length /\ (nth a0 i == a1) = true := by
  unfold QG PR
  rcases xb (L := Ug a0 a1) (r := fun i => (i : Int)) (fun _ => rfl) (fun _ _ => rfl) (a0.length + 1) 0 zAA with ⟨e, p⟩ | ⟨i, e, p1, p2, p3, p4⟩
  · grind
  · grind
@[simp] theorem HY (a0 : List Int) (a1 : Int) : PM a0 a1 = QG a0 a1 := by
  rw [Bool.eq_iff_iff, N1]
  exact Mr (L := Pb a0 a1) (fun _ => rfl) (fun _ _ => rfl) (a0.length + 1) 0 zAA
@[simp] theorem RX (a0 : List Yw) (a1 : List Zf) (a2 : Zj) : KR a0 a1 a2 = Xb a0 a1 a2 := by
  simp [KR, Xb, zM]
  grind
theorem Su (a0 : Int) : ∀ n i o l, Kv a0 n i o l = Kt a0 n l i o
  | 0, _, _, _ => rfl
  | n + 1, i, o, l => by simp only [Kv, Kt, Su a0 n, AR]
@[simp] theorem FT (a0 : Int) (a1 : List Int) (a2 : Int) : zL a0 a1 a2 = JC a0 a1 a2 := by
  simp only [zL, JC, Su, VY]
  rw [Bool.or_comm]
@[simp] theorem Sl (a0 : ZU) (a1 : ZZ) : Q0 a0 a1 = Yz a0 a1 := by simp [Q0, Yz]
theorem OR (a0 : ZD) (a1 : Int) (a2 : List Zj) (n v : Nat) (l : List ZQ) : J4 a0 a1 a2 (n + 1) false v l = (false, l) := by
  simp only [J4, Bool.and_false, Xa]
theorem DK (a0 : ZD) (a1 : Int) (a2 : List Zj) (h : Sm maxLen a0) : ∀ n v l, a0.ZC.length < n + v -> v <= a0.ZC.length -> (∃ z, Xr a0 a1 a2 n v l = .inr z /\ J4 a0 a1 a2 n true v l = (true, z)) \/ (Xr a0 a1 a2 n v l = .inl (a0, false) /\ (J4 a0 a1 a2 n true v l).1 = false)
  | 0, v, l, h1, h2 => zAA
  | n + 1, v, l, h1, h2 => by
    simp only [J4, Xr, Bool.and_true, QH, Rt a0 a1 h, TU, FT, Sl]
    by_cases hi : v < a0.ZC.length
    · rw [show decide ((v : Int) < (a0.ZC.length : Int)) = true by simpa using hi, Xd, Xd]
      cases hb : (Yz (nth a0.ZC v).ZK (ZZ.mk ((nth a0.ZC v).ZK.ZJ.length : Int) a1 (jO a1 (Xf a0 a1)) (JC a1 (Xf a0 a1) (v : Int)) a2)).2
      · obtain ⟨m, rfl⟩ : ∃ m, n = m + 1 := ⟨n - 1, zAA⟩
        rw [OR]
        exact .inr ⟨rfl, rfl⟩
      · exact DK a0 a1 a2 h n (v + 1) _ zAA hi
    · grind
@[simp] theorem LV (a0 : ZD) (a1 : Int) (a2 : List Zj) (h : Sm maxLen a0) : Qu a0 a1 a2 = XB a0 a1 a2 := by
  unfold Qu XB
  simp only [PA]
  by_cases hl : 0 < a0.ZC.length
  · have e1 : decide ((a0.ZC.length : Int) > 0) = true := decide_eq_true zAA
    have e2 : ((a0.ZC.length : Int) == 0) = false := beq_eq_false_iff_ne.2 zAA
    rw [e1, e2]
    cases Yi a0
    · rw [Bool.false_and, OR]; rfl
    · rcases DK a0 a1 a2 h (a0.ZC.length + 1) 0 a0.ZC zAA (Nat.zero_le _) with ⟨z, q1, q2⟩ | ⟨q1, q2⟩
      · rw [Bool.true_and, q1, q2]; rfl
      · grind
  · have e1 : decide ((a0.ZC.length : Int) > 0) = false := decide_eq_false zAA
    have e2 : ((a0.ZC.length : Int) == 0) = true := beq_iff_eq.2 zAA
    rw [e1, e2, Bool.and_false, OR]; rfl
theorem Vt (h : 0 <= ZV a d) : (nth a (ZV a d).toNat).Id = d := by
  unfold ZV at h ⊢
  rcases xb (L := Jq a d) (len := a.length) (c := fun i => (nth a i).Id == d) (r := fun i => (i : Int)) (fun _ => rfl) (fun _ _ => rfl) (a.length + 1) 0 zAA with ⟨e, _⟩ | ⟨i, e, _, _, k, _⟩
  · rw [e] at h; simp at h
  · rw [e]; simpa using k
def Ge (a0 : ZF) (d : Int) : Bool := !((decide (ZV a0.Frame.ZB d < 0) || decide (ZV a0.Frame.ZB d >= (a0.Yt.length : Int))) || (decide (Zt a0.Frame.Zo (nth a0.Frame.ZB (ZV a0.Frame.ZB d).toNat).Key < 0) || decide ((nth a0.Frame.Zo (Zt a0.Frame.Zo (nth a0.Frame.ZB (ZV a0.Frame.ZB d).toNat).Key).toNat).VI > a0.Frame.Now)))
theorem SG (a0 : ZF) (a1 : List Int) : zm a0 a1 = true ↔ (∀ i, 0 <= i -> i < a1.length -> Ge a0 (nth a1 i) = true /\ (0 < i -> nth a1 (i - 1) < nth a1 i)) /\ 0 < a1.length := by
  have := Jy (L := jT a0 a1) (len := a1.length) (c := fun v => (((decide ((Zh a0.Frame.ZB (nth a1 v)) < 0)) || (decide ((Zh a0.Frame.ZB (nth a1 v)) >= (a0.Yt.length : Int)))) || ((decide ((v : Int) > 0)) && (decide ((nth a1 (v - 1)) >= (nth a1 v))))) || ((decide ((Yc a0.Frame.Zo (nth a0.Frame.ZB (Zh a0.Frame.ZB (nth a1 v)).toNat).Key) < 0)) || (decide ((nth a0.Frame.Zo (Yc a0.Frame.Zo (nth a0.Frame.ZB (Zh a0.Frame.ZB (nth a1 v)).toNat).Key).toNat).VI > a0.Frame.Now))))
    (fun _ => rfl) (fun n v => by
      simp only [jT]
      cases (((decide ((Zh a0.Frame.ZB (nth a1 v)) < 0)) || (decide ((Zh a0.Frame.ZB (nth a1 v)) >= (a0.Yt.length : Int)))) || ((decide ((v : Int) > 0)) && (decide ((nth a1 (v - 1)) >= (nth a1 v))))) <;> rfl) (a1.length + 1) 0 zAA (decide ((a1.length : Int) > 0))
  unfold zm
  refine Iff.trans this ?_
  constructor
  · rintro ⟨h1, h2⟩
    refine ⟨fun i h0 hi => ?_, by simpa using h2⟩
    have := h1 i h0 hi
    simp only [jZ, VD, Bool.or_eq_false_iff, Bool.and_eq_false_iff, decide_eq_false_iff_not] at this
    obtain ⟨⟨⟨q1, q2⟩, q3⟩, q4, q5⟩ := this
    refine ⟨?_, fun h => ?_⟩
    · simp only [Ge, Bool.not_eq_true', Bool.or_eq_false_iff, decide_eq_false_iff_not]; exact ⟨⟨q1, q2⟩, q4, q5⟩
    · rcases q3 with q3 | q3 <;> omega
  · rintro ⟨h1, h2⟩
    refine ⟨fun i h0 hi => ?_, by simpa using h2⟩
    obtain ⟨q, q3⟩ := h1 i h0 hi
    simp only [Ge, Bool.not_eq_true', Bool.or_eq_false_iff, decide_eq_false_iff_not] at q
    simp only [jZ, VD, Bool.or_eq_false_iff, Bool.and_eq_false_iff, decide_eq_false_iff_not]
    grind
theorem GL (a1 : List Int) : QV a1 = true ↔ ∀ i, 0 < i -> i < a1.length -> nth a1 (i - 1) < nth a1 i := by
  have := Jy (L := qv a1) (len := a1.length) (c := fun v => decide ((nth a1 (v - 1)) >= (nth a1 v))) (fun _ => rfl) (fun _ _ => rfl) (a1.length + 1) 1 zAA true
  unfold QV
  grind
theorem PX {a1 : List Int} (h : ∀ i, 0 < i -> i < a1.length -> nth a1 (i - 1) < nth a1 i) : ∀ d v, 0 < d -> v + d < a1.length -> nth a1 v < nth a1 (v + d)
  | 0, _, h0, _ => zAA
  | 1, v, _, hv => h (v + 1) zAA hv
  | d + 2, v, _, hv => by
    have h1 := PX h (d + 1) v zAA zAA
    grind
theorem ta (w : Int) : Wn 10000 (xn 0 w) = (if (if w < 10000 then w else 10000) > 0 then (if w < 10000 then w else 10000) else 0) := by
  unfold Wn xn
  grind
theorem AY {α : Type} [Inhabited α] (l : List α) (x : α) {j : Nat} (h : i ≠ j) : nth (l.set i x) j = nth l j := by simp [nth, List.getD_eq_getElem?_getD, List.getElem?_set_ne h]
theorem Mp (a0 : ZF) (a1 : Int) (a2 : List Int) (a3 : Int) : ∀ n l v q, a2.length < n + v -> v <= a2.length -> (∃ k, v <= k /\ k < a2.length /\ Ge a0 (nth a2 k) = false) -> XY a0 a1 a2 a3 n l v q = .inl (a0, false)
  | 0, _, _, _, h1, h2, _ => zAA
  | n + 1, l, v, q, h1, h2, ⟨k, k1, k2, k3⟩ => by
    have hv : v < a2.length := zAA
    simp only [XY]
    rw [show decide ((v : Int) < (a2.length : Int)) = true by simpa using hv, Xd]
    cases hA : ((decide ((ZV a0.Frame.ZB (nth a2 v)) < 0)) || (decide ((ZV a0.Frame.ZB (nth a2 v)) >= (a0.Yt.length : Int))))
    · rw [Xa]
      cases hB : ((decide ((Zt a0.Frame.Zo (nth a0.Frame.ZB (ZV a0.Frame.ZB (nth a2 v)).toNat).Key) < 0)) || (decide ((nth a0.Frame.Zo (Zt a0.Frame.Zo (nth a0.Frame.ZB (ZV a0.Frame.ZB (nth a2 v)).toNat).Key).toNat).VI > a0.Frame.Now)))
      · rw [Xa]
        have hk : ∃ k, v + 1 <= k /\ k < a2.length /\ Ge a0 (nth a2 k) = false := by
          refine ⟨k, ?_, k2, k3⟩
          rcases Nat.eq_or_lt_of_le k1 with rfl | k1
          · unfold Ge at k3; rw [hA, hB] at k3; simp at k3
          · exact k1
        rw [Mp a0 a1 a2 a3 n _ (v + 1) _ zAA hv hk, Mp a0 a1 a2 a3 n _ (v + 1) _ zAA hv hk]
        simp
      · rfl
    · rfl
theorem Gl (a0 : ZF) (a1 : Int) (a2 : List Int) (a3 : Int) (h : Sm maxLen a0) (hr : ∀ i, 0 < i -> i < a2.length -> nth a2 (i - 1) < nth a2 i) (lW : ∀ k, k < a2.length -> Ge a0 (nth a2 k) = true) : ∀ n l v q, a2.length < n + v -> v <= a2.length -> (∀ k, v <= k -> k < a2.length -> nth q (ZV a0.Frame.ZB (nth a2 k)).toNat = nth a0.Yt (ZV a0.Frame.ZB (nth a2 k)).toNat) ->
    XY a0 a1 a2 a3 n l v q = (match z9 a0 a1 a2 a3 n l v with | .inl r => .inl r | .inr z => .inr (z, qw a0 a2 n v q))
  | 0, _, _, _, h1, h2, _ => zAA
  | n + 1, l, v, q, h1, h2, hq => by
    simp only [XY, z9, qw, HY, RX, jZ, zZ, Dw _ _ (Zp (ZF.Yn h)), ta]
    by_cases hv : v < a2.length
    · rw [show decide ((v : Int) < (a2.length : Int)) = true by simpa using hv, Xd, Xd, Xd]
      have ho := lW v hv
      unfold Ge at ho
      rw [Bool.not_eq_true', Bool.or_eq_false_iff] at ho
      rw [ho.1, ho.2, Xa, Xa, hq v (Nat.le_refl _) hv]
      have ih := fun l => Gl a0 a1 a2 a3 h hr lW n l (v + 1) (q.set (ZV a0.Frame.ZB (nth a2 v)).toNat (W (nth a0.Yt (ZV a0.Frame.ZB (nth a2 v)).toNat + 1))) zAA hv (fun k k1 k2 => by
        rw [AY, hq k zAA k2]
        intro e
        have p1 : 0 <= ZV a0.Frame.ZB (nth a2 v) := by
          grind
        have p2 : 0 <= ZV a0.Frame.ZB (nth a2 k) := by
          have := lW k k2; unfold Ge at this; simp only [Bool.not_eq_true', Bool.or_eq_false_iff, decide_eq_false_iff_not] at this; omega
        have e1 := Vt p1
        have e2 := Vt p2
        rw [e, e2] at e1
        have := PX hr (k - v) v zAA zAA
        rw [show v + (k - v) = k by omega] at this
        omega)
      grind
    · grind
@[simp] theorem tL (a0 : ZF) (a1 : Int) (a2 : List Int) (a3 : Int) (h : Sm maxLen a0) : xv a0 a1 a2 a3 = Ym a0 a1 a2 a3 := by
  unfold xv Ym
  simp only [WZ, zZ, VY]
  cases hg : YC a0 a1
  · rfl
  cases hb : decide (ZO a0.Frame.Methods a0.Frame.Now < 0)
  rotate_left
  · simp
  cases hi : ZS a3 (-10000) 10000
  · simp
  simp only [Bool.not_true, Bool.false_or, Bool.or_false]
  cases hr : QV a2
  · have : zm a0 a2 = false := by
      cases hs : zm a0 a2 with
      | false => rfl
      | true =>
        have := (SG a0 a2).1 hs
        have h2 := (GL a2).2 (fun i h0 hi => (this.1 i (Nat.zero_le _) hi).2 h0)
        rw [hr] at h2; cases h2
    rw [this]; rfl
  have hrr := (GL a2).1 hr
  by_cases hl : 0 < a2.length
  rotate_left
  · have : zm a0 a2 = false := by
      cases hs : zm a0 a2 with
      | false => rfl
      | true => exact absurd ((SG a0 a2).1 hs).2 hl
    grind
  have e : ((a2.length : Int) == 0) = false := beq_eq_false_iff_ne.2 zAA
  rw [e]
  by_cases lW : ∀ k, k < a2.length -> Ge a0 (nth a2 k) = true
  · have hs : zm a0 a2 = true := (SG a0 a2).2 ⟨fun i _ hi => ⟨lW i hi, fun h0 => hrr i h0 hi⟩, hl⟩
    rw [hs, Gl a0 a1 a2 a3 h hrr lW (a2.length + 1) [] 0 a0.Yt zAA (Nat.zero_le _) (fun _ _ _ => rfl)]
    simp only [Bool.not_true, Bool.or_false, Xa]
    cases z9 a0 a1 a2 a3 (a2.length + 1) [] 0 with
    | inl r => rfl
    | inr z => simp only [LV _ _ _ (Zp (ZF.Yn h))]
  · have hs : zm a0 a2 = false := by
      cases hs : zm a0 a2 with
      | false => rfl
      | true => exact absurd (fun k hk => (((SG a0 a2).1 hs).1 k (Nat.zero_le _) hk).1) lW
    have hx : ∃ k, 0 <= k /\ k < a2.length /\ Ge a0 (nth a2 k) = false := by
      grind
    rw [hs, Mp a0 a1 a2 a3 (a2.length + 1) [] 0 a0.Yt zAA (Nat.zero_le _) hx]
    rfl
@[simp] theorem vB (a0 : Int) (a1 : ZQ) : ∀ (n : Nat) (v0 : List Int) (v1 : Nat), xp a0 a1 n v0 v1 = qC a0 a1 n v0 v1 := by
  intro n
  induction n with
  | zero => intros; rfl
  | succ n ih => intros; simp [xp, qC, ih, ByteArray.append_assoc]
@[simp] theorem Ip (a0 : Int) (a1 : ZQ) : kI a0 a1 = jx a0 a1 := by simp [kI, jx]
theorem Ra (a0 : Int) (a1 : List ZQ) : ∀ n v i, We a0 a1 n v i = zn a0 a1 n v i
  | 0, _, _ => rfl
  | n + 1, v, i => by simp only [We, zn, Ra a0 a1 n, Ip]
@[simp] theorem sr (a0 : Int) (a1 : List ZQ) : VV a0 a1 = QO a0 a1 := by
  simp only [VV, QO, Ra, TU]
@[simp] theorem wX (a0 : ZD) (a2 : List Int) : ∀ (n : Nat) (v0 : Nat) (v1 : List ZQ), Jj a0 a2 n v0 v1 = Qm a0 a2 n v0 v1 := by
  intro n
  induction n with
  | zero => intros; rfl
  | succ n ih => intros; simp [Jj, Qm, ih, ByteArray.append_assoc]
@[simp] theorem Sr (a0 : ZD) (a1 : Int) (a2 : List Int) (a3 : Int) : Xw a0 a1 a2 a3 = Y1 a0 a1 a2 a3 := by simp [Xw, Y1]
@[simp] theorem AM (a0 : YZ) : ∀ (n : Nat) (v0 : Nat), J2 a0 n v0 = J3 a0 n v0 := by
  intro n
  induction n with
  | zero => intros; rfl
  | succ n ih => intros; simp [J2, J3, ih, ByteArray.append_assoc]
@[simp] theorem MZ (a0 : YZ) (a1 : Int) : K9 a0 a1 = Qp a0 a1 := by simp [K9, Qp]
theorem Lc (a1 : YZ) (n v : Nat) (d : Int) (l : List ZQ) : (Je a1 (n + 1) false v d l).1 = false := by
  simp only [Je, Bool.and_false, Xa]
theorem Lk (a0 : ZD) (a1 : YZ) : ∀ n v d l, a1.ZC.length < n + v -> v <= a1.ZC.length ->
    (∃ z, X8 a0 a1 n v d l = .inr z /\ Je a1 n true v d l = (true, z)) \/ (X8 a0 a1 n v d l = .inl (a0, false) /\ (Je a1 n true v d l).1 = false)
  | 0, v, d, l, h1, h2 => zAA
  | n + 1, v, d, l, h1, h2 => by
    simp only [Je, X8, Bool.and_true, SY]
    by_cases hi : v < a1.ZC.length
    · rw [show decide ((v : Int) < (a1.ZC.length : Int)) = true by simpa using hi, Xd, Xd]
      cases hb : (YQ (ZD.mk d l) (nth a1.ZC v)).2
      · obtain ⟨m, rfl⟩ : ∃ m, n = m + 1 := ⟨n - 1, zAA⟩
        exact .inr ⟨rfl, Lc _ _ _ _ _⟩
      · exact Lk a0 a1 n (v + 1) _ _ zAA hi
    · grind
@[simp] theorem Nr (a0 : ZD) (a1 : YZ) (a2 : Int) : Qg a0 a1 a2 = XE a0 a1 a2 := by
  unfold Qg XE
  simp only [MZ]
  have hc : ((!(Qp a1 a2)) || (a1.To != a0.Id)) = !((Qp a1 a2) && (a1.To == a0.Id)) := by
    cases Qp a1 a2 <;> simp [bne]
  rw [hc]
  cases (Qp a1 a2) && (a1.To == a0.Id) with
  | false =>
    have := Lc a1 a1.ZC.length 0 a0.Id a0.ZC
    grind
  | true =>
    rcases Lk a0 a1 (a1.ZC.length + 1) 0 a0.Id a0.ZC zAA (Nat.zero_le _) with ⟨z, h1, h2⟩ | ⟨h1, h2⟩
    · rw [h1, h2]
    · grind
theorem M3 (a0 : ZD) (a1 : Int) (k : Nat) (hk : ZW a0 a1 = (k : Int)) (hkl : k < a0.ZC.length) : ∀ n v l, v <= a0.ZC.length -> a0.ZC.length < n + v ->
    Kx a0 a1 n v l = l ++ (if v <= k then (a0.ZC.take k).drop v ++ a0.ZC.drop (k + 1) else a0.ZC.drop v)
  | 0, v, l, h1, h2 => zAA
  | n + 1, v, l, h1, h2 => by
    rw [Kx]
    simp only [TQ, hk]
    by_cases hv : v < a0.ZC.length
    · rw [show decide ((v : Int) < (a0.ZC.length : Int)) = true by simpa using hv, Xd]
      by_cases hvk : v = k
      · subst hvk
        rw [show ((v : Int) != (v : Int)) = false by simp, Xa, M3 a0 a1 v hk hkl n (v + 1) l hv zAA, if_neg zAA, if_pos (Nat.le_refl _)]
        grind
      · have lA : ((v : Int) != (k : Int)) = true := zAk
        rw [lA, Xd, M3 a0 a1 k hk hkl n (v + 1) _ hv zAA]
        by_cases lH : v < k
        · rw [if_pos zAA, if_pos zAA]
          have ht : (a0.ZC.take k).drop v = nth a0.ZC v :: (a0.ZC.take k).drop (v + 1) := by
            rw [PQ (l := a0.ZC.take k) (i := v) zA0]
            congr 1
            simp [nth, List.getD_eq_getElem?_getD, List.getElem?_take, lH]
          rw [ht]; simp
        · rw [if_neg zAA, if_neg zAA, PQ hv]; simp
    · grind
theorem FM (a0 : ZD) (a1 : Int) (h : Sm maxLen a0) : z6 a0 a1 = X9 a0 a1 := by
  unfold z6 X9
  simp only [TQ]
  by_cases hk : ZW a0 a1 < 0
  · rw [decide_eq_true hk, Xd, Xd]
  · rw [decide_eq_false hk, Xa, Xa]
    have hf := Ji a0 a1
    have hl := YS (ZD.Ye h)
    have hm : maxLen = 9223372036854775807 := zAE
    have w : W ((ZW a0 a1) + 1) = (ZW a0 a1) + 1 := YN zAA zAA
    rw [w, M3 a0 a1 (ZW a0 a1).toNat zAA zAA (a0.ZC.length + 1) 0 [] (Nat.zero_le _) zAA, if_pos (Nat.zero_le _), show ((ZW a0 a1) + 1).toNat = (ZW a0 a1).toNat + 1 by omega]
    simp
theorem Ek (a0 a1 : ZD) (a2 : List Int) (a3 : Int) (n v : Nat) (d : Int) (l : List ZQ) : (K3 a0 a1 a2 a3 (n + 1) false v d l).1 = false := by
  simp only [K3, Bool.and_false, Xa]
theorem Ec (a0 a1 : ZD) (a2 : List Int) (a3 : Int) (hm : (Y1 a0 a1.Id a2 a3).2 = true) : ∀ n v d l, Sm maxLen (ZD.mk d l) -> a2.length < n + v -> v <= a2.length ->
    (∃ z, QT a0 a1 a2 n v d l = .inr z /\ K3 a0 a1 a2 a3 n true v d l = (true, z)) \/ (QT a0 a1 a2 n v d l = .inl (a0, a1, false) /\ (K3 a0 a1 a2 a3 n true v d l).1 = false)
  | 0, v, d, l, _, h1, h2 => zAA
  | n + 1, v, d, l, hs, h1, h2 => by
    simp only [K3, QT, Bool.and_true, Sr, hm, FM _ _ hs]
    by_cases hi : v < a2.length
    · rw [show decide ((v : Int) < (a2.length : Int)) = true by simpa using hi, Xd, Xd]
      cases hb : (X9 (ZD.mk d l) (nth a2 v)).2
      · obtain ⟨m, rfl⟩ : ∃ m, n = m + 1 := ⟨n - 1, zAA⟩
        exact .inr ⟨rfl, Ek _ _ _ _ _ _ _ _⟩
      · exact Ec a0 a1 a2 a3 hm n (v + 1) _ _ (Te zAE hs) zAA hi
    · grind
theorem HW (a0 a1 : ZD) (a2 : List Int) (a3 : Int) (h : Sm maxLen a0) : JF a0 a1 a2 a3 = Y0 a0 a1 a2 a3 := by
  unfold JF Y0
  simp only [Sr, Nr]
  cases hm : (Y1 a0 a1.Id a2 a3).2 with
  | false =>
    grind
  | true =>
    cases ha : (XE a1 (Y1 a0 a1.Id a2 a3).1 a3).2 with
    | false =>
      have := Ek a0 a1 a2 a3 a2.length 0 a0.Id a0.ZC
      grind
    | true =>
      rcases Ec a0 a1 a2 a3 hm (a2.length + 1) 0 a0.Id a0.ZC h zAA (Nat.zero_le _) with ⟨z, h1, h2⟩ | ⟨h1, h2⟩
      · rw [h1, h2]
      · grind
theorem wQ (a0 a1 : ZD) (a2 : List Int) (a3 : Int) (h : (Y0 a0 a1 a2 a3).2.2 = false) : Y0 a0 a1 a2 a3 = (a0, a1, false) := by
  unfold Y0 at h ⊢
  cases hc : ((!(Y1 a0 a1.Id a2 a3).2) || (!(XE a1 (Y1 a0 a1.Id a2 a3).1 a3).2)) with
  | true => rfl
  | false =>
    rw [hc, Xa] at h
    rw [Xa]
    have hk : ∀ n v d l r, QT a0 a1 a2 n v d l = .inl r -> r = (a0, a1, false) := by
      intro n
      induction n with
      | zero => intro v d l r h; cases h
      | succ n ih =>
        intro v d l r h
        rw [QT] at h
        grind
    grind
theorem D5 {α : Type} [Inhabited α] (l : List α) (i : Nat) : l.set i (nth l i) = l := by
  by_cases h : i < l.length
  · have : nth l i = l[i] := by simp [nth, List.getD_eq_getElem?_getD, List.getElem?_eq_getElem h]
    rw [this, List.set_getElem_self]
  · exact List.set_eq_of_length_le zAA
@[simp] theorem sa (a0 : ZF) (a1 a2 a3 : Int) (h : Sm maxLen a0) : jU a0 a1 a2 a3 = J8 a0 a1 a2 a3 := by
  unfold jU J8
  simp only [WZ, zZ, HW _ _ _ _ (Zp (ZF.Yn h))]
  cases ((((!(YC a0 a1)) || (!(YC a0 a2))) || (a1 == a2)) || (decide ((ZO a0.Frame.Methods a0.Frame.Now) < 0))) with
  | true => rfl
  | false =>
    rw [Xa, Xa]
    cases hb : (Y0 (nth a0.ZA a1.toNat) (nth a0.ZA a2.toNat) ([a3] : List Int) (ZO a0.Frame.Methods a0.Frame.Now)).2.2 with
    | true => rfl
    | false =>
      rw [wQ _ _ _ _ hb, Xa]
      simp only [D5]
theorem Et (a0 : ZD) (a1 : Int) : ∀ (m i : Nat) (d : Int) (l : List ZQ), (yX a0 a1 m d i l).2 = QP a0 a1 m i l
  | 0, _, _, _ => rfl
  | m + 1, i, d, l => by
    simp only [yX, QP]
    cases decide ((i : Int) < (a0.ZC.length : Int)) with
    | false => rfl
    | true =>
      simp only [cond_true]
      rw [show decide ((nth a0.ZC i).Y8 >= a1) = !decide ((nth a0.ZC i).Y8 < a1) by rw [<- decide_not]; simp]
      cases decide ((nth a0.ZC i).Y8 < a1) <;> simp [Et a0 a1 m]
theorem LD (a0 : ZD) (a1 : Int) : (qU a0 a1).1 = (Ky a0 a1).1 := by
  unfold qU Ky
  have h := Et a0 a1 (a0.ZC.length + 1) 0 0 []
  grind
@[simp] theorem uW (a0 : ZF) (a1 : Int) : y8 a0 a1 = Qw a0 a1 := by
  simp only [y8, Qw, WZ, LD]
@[simp] theorem vD (a0 : List Z8) (a1 : Int) : ∀ (n : Nat) (v0 : Nat), yp a0 a1 n v0 = yd a0 a1 n v0 := by
  intro n
  induction n with
  | zero => intros; rfl
  | succ n ih => intros; simp [yp, yd, ih, ByteArray.append_assoc]
@[simp] theorem uS (a0 : List Z8) (a1 : Int) : zj a0 a1 = X7 a0 a1 := by simp [zj, X7]
@[simp] theorem rh (a0 : List Z8) (a1 : Int) : Tk a0 a1 = zY a0 a1 := by
  unfold Tk zY; rw [cond_neg]; simp
@[simp] theorem OL (a0 : ZX) (a1 : Int) : jX a0 a1 = QW a0 a1 := by
  unfold jX QW X4
  by_cases h : Zt a0.Zo a1 < 0
  · have : ¬ 0 <= Zt a0.Zo a1 := zAA
    simp [this]
  · simp [h]
@[simp] theorem tE (a0 : ZF) (a1 a2 : Int) (a3 : ZN) : qL a0 a1 a2 a3 = JI a0 a1 a2 a3 := by
  unfold qL JI
  simp only [WZ, OL, SY]
  cases hs : QW a0.Frame a2 with
  | false => cases YC a0 a1 <;> rfl
  | true =>
    have hk : decide ((Zt a0.Frame.Zo a2) < 0) = false := by
      simp only [QW, Bool.and_eq_true, decide_eq_true_eq] at hs
      simp only [decide_eq_false_iff_not]; omega
    rw [Lw, hk]
    cases (YC a0 a1) with
    | false => rfl
    | true =>
      simp only [Bool.not_true, Bool.or_false, Bool.false_or, cond_false, wH]
      cases (QA a0 a2 a3 0 10000).2 with
      | false => rfl
      | true =>
        cases (YQ (nth a0.ZA a1.toNat) (QA a0 a2 a3 0 10000).1).2 <;> rfl
@[simp] theorem Ej (a0 : ZF) : ∀ (n : Nat) (v0 : List Int) (v1 : Nat), Qk a0 n v0 v1 = Xv a0 n v0 v1 := by
  intro n
  induction n with
  | zero => intros; rfl
  | succ n ih => intros; simp [Qk, Xv, ih, ByteArray.append_assoc]
@[simp] theorem kd (a0 : ZF) : Yo a0 = Zm a0 := by simp [Yo, Zm]
theorem AJ (a0 : ZD) (a1 : Int) (h : Sm maxLen a0) : YJ a0 a1 = a0.ZC.map (fun x => Qx x a1) := by
  have := R3 (as := a0.ZC) (fun x => [Wb (ZU.mk x.ZK.ZJ (x.ZK.ZP ++ [ZZ.mk (x.ZK.ZJ.length : Int) a1 0 [] []])) (JT (ZU.mk x.ZK.ZJ (x.ZK.ZP ++ [ZZ.mk (x.ZK.ZJ.length : Int) a1 0 [] []])) x.Doc) (W (((x.ZK.ZP ++ [ZZ.mk (x.ZK.ZJ.length : Int) a1 0 [] []]).length : Int) - 1))]) (F := fun n i l => KI a0 a1 n l i) (fun _ _ _ => rfl) (a0.ZC.length + 1) 0 [] zAA (Nat.zero_le _)
  unfold YJ
  rw [this, List.drop_zero, GY]
  exact List.map_congr_left (fun x hx => Cf x a1 ((ZD.Ye h).2 x hx) _ rfl)
theorem ui {α β : Type} [Inhabited α] [Inhabited β] (f : α -> β) {l : List α} (h : i < l.length) : nth (l.map f) i = f (nth l i) := by simp [nth, List.getD_eq_getElem?_getD, List.getElem?_map, List.getElem?_eq_getElem h]
theorem EW (a0 : ZF) (a1 a2 : Int) (e : nth (YJ (nth a0.ZA (ZL a0 a1).1.toNat) (ZO a0.Frame.Methods a0.Frame.Now)) (ZL a0 a1).2.toNat = Qx (nth (nth a0.ZA (ZL a0 a1).1.toNat).ZC (ZL a0 a1).2.toNat) (ZO a0.Frame.Methods a0.Frame.Now)) :
    ∀ n v0 v1, yW a0 a1 a2 n v0 v1 = XG a0 a1 a2 n v0 v1
  | 0, _, _ => rfl
  | n + 1, v0, v1 => by simp only [yW, XG, EW a0 a1 a2 e n, kd, RX, U0, zZ, e]
@[simp] theorem vC (a0 : ZF) (a1 a2 : Int) (h : Sm maxLen a0) : zS a0 a1 a2 = Xs a0 a1 a2 := by
  unfold zS Xs
  simp only [U0, zZ, HY, kd, Sl]
  have hb : ∀ p q r s : Bool, (((p || q) || r) || s) = (((r || p) || q) || s) := zAE
  rw [hb]
  by_cases hi : (ZL a0 a1).1 < 0
  · rw [decide_eq_true hi]; simp
  · obtain ⟨h1, h2, h3⟩ := QM a0 a1 zAA
    have e : nth (YJ (nth a0.ZA (ZL a0 a1).1.toNat) (ZO a0.Frame.Methods a0.Frame.Now)) (ZL a0 a1).2.toNat = Qx (nth (nth a0.ZA (ZL a0 a1).1.toNat).ZC (ZL a0 a1).2.toNat) (ZO a0.Frame.Methods a0.Frame.Now) := by
      rw [AJ _ _ (Zp (ZF.Yn h)), ui _ h3]
    rw [EW a0 a1 a2 e, e]
@[simp] theorem sV (a0 : ZF) (a1 a2 : Int) : jV a0 a1 a2 = J6 a0 a1 a2 := by
  unfold jV J6 YI
  simp only [U0, Ru, OD, OL, Sp, Rv, Ts]
  cases h1 : ((decide ((ZL a0 a1).1 < 0)) || (decide (((nth (nth a0.ZA (ZL a0 a1).1.toNat).ZC (ZL a0 a1).2.toNat).ZK.ZJ.length : Int) < 2))) with
  | true => rfl
  | false =>
    simp only [cond_false]
    generalize XO (nth (nth (nth a0.ZA (ZL a0 a1).1.toNat).ZC (ZL a0 a1).2.toNat).ZK.ZJ 1) = p
    rw [Ll, show (!(decide (Xp a0.ZY p.1.Zd >= 0))) = decide (Xp a0.ZY p.1.Zd < 0) by rw [<- decide_not]; simp]
    cases h2 : ((!p.2 || decide (Xp a0.ZY p.1.Zd < 0)) || (!(QW a0.Frame (nth a0.ZY (Xp a0.ZY p.1.Zd).toNat).Z1))) with
    | true => rfl
    | false =>
      simp only [cond_false]
      have hn : 0 <= Xp a0.ZY p.1.Zd := by simp at h2; exact h2.1.2
      rw [OI _ _ hn, <- En]
      grind
@[simp] theorem Ic (a0 : ZF) (a1 : Zs) (h : Sm maxLen a0) : xL a0 a1 = Yg a0 a1 := by simp [xL, Yg, h]
@[simp] theorem vH (a0 : ZU) (a1 : ZN) : ∀ (n : Nat) (v0 : List Int) (v1 : Nat), KP a0 a1 n v0 v1 = zR a0 a1 n v0 v1 := by
  intro n
  induction n with
  | zero => intros; rfl
  | succ n ih => intros; simp [KP, zR, ih, ByteArray.append_assoc]
@[simp] theorem uc (a0 : ZU) (a1 : ZN) : JT a0 a1 = QN a0 a1 := by simp [JT, QN]
@[simp] theorem uZ (a0 : Int) : j0 a0 = j6 a0 := by simp [j0, j6]
@[simp] theorem uC (a0 : ZU) (a1 : ZT) : ∀ (n : Nat) (v0 : Nat), xY a0 a1 n v0 = xd a0 a1 n v0 := by
  intro n
  induction n with
  | zero => intros; rfl
  | succ n ih => intros; simp [xY, xd, ih, ByteArray.append_assoc]
@[simp] theorem tq (a0 : ZU) (a1 : ZT) : qM a0 a1 = ze a0 a1 := by simp [qM, ze]
@[simp] theorem pP (a0 : Zg) : PH a0 = QQ a0 := by simp [PH, QQ]
@[simp] theorem pC (a0 : ZU) (a1 : List Int) (a2 : Int) : Wb a0 a1 a2 = Tr a0 a1 a2 := by simp [Wb, Tr]
@[simp] theorem sX (a0 : YX) : kr a0 = qG a0 := by simp [kr, qG]
@[simp] theorem pS (a0 : YX) : Rk a0 = RP a0 := by simp [Rk, RP]
@[simp] theorem o6 (a0 a1 : Int) : xn a0 a1 = if a1 > a0 then a1 else a0 := by
  unfold xn; by_cases h : a1 > a0 <;> simp [h]
end Go.Mo
