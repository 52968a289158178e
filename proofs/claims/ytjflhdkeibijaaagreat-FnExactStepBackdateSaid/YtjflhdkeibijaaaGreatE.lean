/- The models of the program and of the reference agree. No condition. -/
import Derived.Test.YtjflhdkeibijaaaGreatL
namespace Go.Mo
open Go.Vm
set_option linter.unusedSimpArgs false
set_option linter.unusedVariables false
theorem cond_neg (x : Int) {α : Type} (a b : α) : (bif decide (x < 0) then a else b) = (bif decide (0 ≤ x) then b else a) := by
  by_cases h : x < 0
  · rw [show decide (x < 0) = true by simpa using h, show decide (0 ≤ x) = false by simpa using h]; rfl
  · rw [show decide (x < 0) = false by simpa using h, show decide (0 ≤ x) = true by simp; omega]; rfl
/-- a loop that looks whether one of the places is bad -/
theorem It {L : Nat → Nat → Sum Bool Unit} {len : Nat} {c : Nat → Bool} (h0 : ∀ v, L 0 v = .inr ()) (hs : ∀ n v, L (n + 1) v = (bif decide ((v : Int) < (len : Int)) then (bif c v then .inl false else L n (v + 1)) else .inr ())) :
    ∀ n v, len < n + v → (L n v = .inr () ∧ ∀ i, v ≤ i → i < len → c i = false) ∨ (L n v = .inl false ∧ ∃ i, v ≤ i ∧ i < len ∧ c i = true)
  | 0, v, h => .inl ⟨h0 v, fun i h1 h2 => by omega⟩
  | n + 1, v, h => by
    rw [hs]
    by_cases hv : v < len
    · rw [show decide ((v : Int) < (len : Int)) = true by simpa using hv]
      cases hc : c v with
      | true => exact .inr ⟨rfl, v, Nat.le_refl _, hv, hc⟩
      | false =>
        rcases It h0 hs n (v + 1) (by omega) with ⟨e, k⟩ | ⟨e, i, k1, k2, k3⟩
        · refine .inl ⟨e, fun i h1 h2 => ?_⟩
          rcases Nat.eq_or_lt_of_le h1 with rfl | h1
          · exact hc
          · exact k i h1 h2
        · exact .inr ⟨e, i, by omega, k2, k3⟩
    · rw [show decide ((v : Int) < (len : Int)) = false by simpa using hv]
      exact .inl ⟨rfl, fun i h1 h2 => by omega⟩
/-- a loop that looks for the first place -/
theorem Wb {β : Type} {L : Nat → Nat → Sum β Unit} {len : Nat} {c : Nat → Bool} {r : Nat → β} (h0 : ∀ v, L 0 v = .inr ()) (hs : ∀ n v, L (n + 1) v = (bif decide ((v : Int) < (len : Int)) then (bif c v then .inl (r v) else L n (v + 1)) else .inr ())) :
    ∀ n v, len < n + v → (L n v = .inr () ∧ ∀ i, v ≤ i → i < len → c i = false) ∨ (∃ i, L n v = .inl (r i) ∧ v ≤ i ∧ i < len ∧ c i = true ∧ ∀ k, v ≤ k → k < i → c k = false)
  | 0, v, h => .inl ⟨h0 v, fun i h1 h2 => by omega⟩
  | n + 1, v, h => by
    rw [hs]
    by_cases hv : v < len
    · rw [show decide ((v : Int) < (len : Int)) = true by simpa using hv]
      cases hc : c v with
      | true => exact .inr ⟨v, rfl, Nat.le_refl _, hv, hc, fun k h1 h2 => by omega⟩
      | false =>
        rcases Wb h0 hs n (v + 1) (by omega) with ⟨e, k⟩ | ⟨i, e, k1, k2, k3, k4⟩
        · refine .inl ⟨e, fun i h1 h2 => ?_⟩
          rcases Nat.eq_or_lt_of_le h1 with rfl | h1
          · exact hc
          · exact k i h1 h2
        · refine .inr ⟨i, e, by omega, k2, k3, fun k h1 h2 => ?_⟩
          rcases Nat.eq_or_lt_of_le h1 with rfl | h1
          · exact hc
          · exact k4 k h1 h2
    · rw [show decide ((v : Int) < (len : Int)) = false by simpa using hv]
      exact .inl ⟨rfl, fun i h1 h2 => by omega⟩
/-- the same, as a Boolean -/
theorem yE {L : Nat → Nat → Sum Bool Unit} {len : Nat} {c : Nat → Bool} (h0 : ∀ v, L 0 v = .inr ()) (hs : ∀ n v, L (n + 1) v = (bif decide ((v : Int) < (len : Int)) then (bif c v then .inl false else L n (v + 1)) else .inr ())) (n v : Nat) (h : len < n + v) (X : Bool) :
    (match L n v with | .inl r => r | .inr _ => X) = true ↔ (∀ i, v ≤ i → i < len → c i = false) ∧ X = true := by
  rcases It h0 hs n v h with ⟨e, k⟩ | ⟨e, i, k1, k2, k3⟩
  · rw [e]; simp only; exact ⟨fun hx => ⟨k, hx⟩, fun hx => hx.2⟩
  · rw [e]; simp only
    constructor
    · intro hx; cases hx
    · intro hx; rw [hx.1 i k1 k2] at k3; cases k3
theorem NT {L : Nat → Nat → Sum Bool Unit} {len : Nat} {c : Nat → Bool} (h0 : ∀ v, L 0 v = .inr ()) (hs : ∀ n v, L (n + 1) v = (bif decide ((v : Int) < (len : Int)) then (bif c v then .inl true else L n (v + 1)) else .inr ())) (n v : Nat) (h : len < n + v) :
    (match L n v with | .inl r => r | .inr _ => false) = true ↔ ∃ i, v ≤ i ∧ i < len ∧ c i = true := by
  rcases Wb (r := fun _ => true) h0 hs n v h with ⟨e, k⟩ | ⟨i, e, k1, k2, k3, k4⟩
  · rw [e]; simp only
    constructor
    · intro hx; cases hx
    · rintro ⟨i, h1, h2, h3⟩; rw [k i h1 h2] at h3; cases h3
  · rw [e]; exact ⟨fun _ => ⟨i, k1, k2, k3⟩, fun _ => rfl⟩
theorem I4 {α : Type} [Inhabited α] {l : List α} {i n : Nat} (h : i < n) : nth (l.take n) i = nth l i := by
  unfold nth; simp [List.getD_eq_getElem?_getD, List.getElem?_take, h]
@[simp] theorem TP (a0 a1 a2 : Int) : Xe a0 a1 a2 = YZ a0 a1 a2 := rfl
@[simp] theorem FH (a0 : ZH) (a1 : Int) : ∀ (n : Nat) (v0 : Nat), KX a0 a1 n v0 = KY a0 a1 n v0 := by
  intro n
  induction n with
  | zero => intros; rfl
  | succ n ih => intros; simp [KX, KY, ih, ByteArray.append_assoc]
@[simp] theorem EU (a0 : ZH) (a1 : Int) : J4 a0 a1 = KG a0 a1 := by simp [J4, KG]
@[simp] theorem EV (a0 : Zc) (a1 : Int) : ∀ (n : Nat) (v0 : Nat), KB a0 a1 n v0 = KJ a0 a1 n v0 := by
  intro n
  induction n with
  | zero => intros; rfl
  | succ n ih => intros; simp [KB, KJ, ih, ByteArray.append_assoc]
@[simp] theorem Tg (a0 : Zc) (a1 : Int) : ZW a0 a1 = ZN a0 a1 := by simp [ZW, ZN]
@[simp] theorem GG (a0 : List ZU) (a1 : Int) : ∀ (n : Nat) (v0 : Int) (v1 : Nat), JN a0 a1 n v0 v1 = JC a0 a1 n v0 v1 := by
  intro n
  induction n with
  | zero => intros; rfl
  | succ n ih => intros; simp [JN, JC, ih, ByteArray.append_assoc]
@[simp] theorem kR (a0 : List ZU) (a1 : Int) : Z6 a0 a1 = Zz a0 a1 := by simp [Z6, Zz]
theorem Mv (a0 : List Int) (a1 : Int) : xq a0 a1 = true ↔ ∃ i, 0 ≤ i ∧ i < a0.length ∧ (nth a0 i == a1) = true := by
  unfold xq Wm
  rcases Wb (L := qI a0 a1) (r := fun i => (i : Int)) (fun _ => rfl) (fun _ _ => rfl) (a0.length + 1) 0 (by omega) with ⟨e, p⟩ | ⟨i, e, p1, p2, p3, p4⟩
  · rw [e]
    constructor
    · intro h; simp at h
    · rintro ⟨i, h1, h2, h3⟩; have := p i h1 h2; rw [h3] at this; cases this
  · rw [e]
    exact ⟨fun _ => ⟨i, p1, p2, p3⟩, fun _ => by simp⟩
@[simp] theorem HU (a0 : List Int) (a1 : Int) : Vy a0 a1 = xq a0 a1 := by
  rw [Bool.eq_iff_iff, Mv]
  exact NT (L := Wi a0 a1) (fun _ => rfl) (fun _ _ => rfl) (a0.length + 1) 0 (by omega)
@[simp] theorem Fx (a0 : List YD) (a1 : Int) : ∀ (n : Nat) (v0 : Nat), K5 a0 a1 n v0 = zJ a0 a1 n v0 := by
  intro n
  induction n with
  | zero => intros; rfl
  | succ n ih => intros; simp [K5, zJ, ih, ByteArray.append_assoc]
@[simp] theorem Ee (a0 : List YD) (a1 : Int) : QL a0 a1 = XK a0 a1 := by simp [QL, XK]
@[simp] theorem H5 (a0 : List ZU) (a1 : Int) : ∀ (n : Nat) (v0 : Nat), JJ a0 a1 n v0 = JI a0 a1 n v0 := by
  intro n
  induction n with
  | zero => intros; rfl
  | succ n ih => intros; simp [JJ, JI, ih, ByteArray.append_assoc]
@[simp] theorem FF (a0 : List ZU) (a1 : Int) : Qx a0 a1 = Qy a0 a1 := by simp [Qx, Qy]
@[simp] theorem Ej (a0 : List ZU) (a1 : Int) : jh a0 a1 = jN a0 a1 := by
  unfold jh jN; rw [cond_neg]; simp
@[simp] theorem ET (a0 : Z4) (a1 : Int) : qH a0 a1 = xv a0 a1 := by
  unfold qH xv xV
  by_cases h : XK a0.YR a1 < 0
  · have : ¬ 0 ≤ XK a0.YR a1 := by omega
    simp [this]
  · simp [h]
@[simp] theorem Nb (a0 : Zc) : ∀ (n : Nat) (v0 : List Int) (v1 : Nat), Y2 a0 n v0 v1 = Ym a0 n v0 v1 := by
  intro n
  induction n with
  | zero => intros; rfl
  | succ n ih => intros; simp [Y2, Ym, ih, ByteArray.append_assoc]
@[simp] theorem z1 (a0 : Zc) : Z7 a0 = Zo a0 := by simp [Z7, Zo]
theorem kY (a0 : Zc) (h : cn a0 ≤ 33554464) : cn (Zo a0) ≤ 1152921504606846976 := by
  have e := Rl (F := Ym a0) (fun _ _ => rfl) (fun _ _ _ => rfl) (a0.Frame.ZL.length + 1) [] 0
  have k := Hv (c := (cn : ZI → Nat)) (fun _ => Nat.le_of_ble_eq_true rfl) a0.Frame.ZL
  rw [GN]
  simp only [Zc.YP, Z4.YP, XT] at h
  have : (Zo a0).length ≤ 0 + (a0.Frame.ZL.length - 0) := e
  omega
@[simp] theorem Fg (a0 : ZX) : X9 a0 = Xs a0 := by simp [X9, Xs]
@[simp] theorem Cb (a0 : Int) (a1 : Int) : Ls a0 a1 = IK a0 a1 := by simp [Ls, IK]
@[simp] theorem DB (a0 : List Int) : ∀ (n : Nat) (v0 : Int) (v1 : Nat), kZ a0 n v0 v1 = WB a0 n v0 v1 := by
  intro n
  induction n with
  | zero => intros; rfl
  | succ n ih => intros; simp [kZ, WB, ih, ByteArray.append_assoc]
@[simp] theorem CE (a0 : List Int) : U6 a0 = U8 a0 := by simp [U6, U8]
@[simp] theorem OH (a0 : Int) (a1 : List Int) : Q6 a0 a1 = Q8 a0 a1 := by simp [Q6, Q8]
@[simp] theorem IW (a1 : ZF) : ∀ (n : Nat) (v0 : List Int) (v1 : Nat), Qo a1 n v0 v1 = Qk a1 n v0 v1 := by
  intro n
  induction n with
  | zero => intros; rfl
  | succ n ih => intros; simp [Qo, Qk, ih, ByteArray.append_assoc]
@[simp] theorem IN (a1 : ZF) : ∀ (n : Nat) (v0 : List Int) (v1 : Nat), Xz a1 n v0 v1 = Xu a1 n v0 v1 := by
  intro n
  induction n with
  | zero => intros; rfl
  | succ n ih => intros; simp [Xz, Xu, ih, ByteArray.append_assoc]
@[simp] theorem VO (a0 : Int) (a1 : ZF) : X2 a0 a1 = Qe a0 a1 := by simp [X2, Qe]
@[simp] theorem FD (a0 : ZT) : Ji a0 = Jj a0 := by
  rw [Bool.eq_iff_iff]
  have hs : Ji a0 = true ↔ _ := (yE (L := JH a0) (fun _ => rfl) (fun _ _ => rfl) (a0.ZE.length + 1) 0 (by omega) _).trans (and_congr_right fun _ => yE (L := JD a0) (fun _ => rfl) (fun _ _ => rfl) (a0.ZG.length + 1) 0 (by omega) _)
  rw [hs]
  unfold Jj
  have hi : ∀ b : Bool, (bif b then false else (match JA a0 (a0.ZE.length + 1) 0 with | .inl r1 => r1 | .inr _ => true)) = true ↔ b = false ∧ _ := fun b => by
    cases b
    · exact (yE (L := JA a0) (fun _ => rfl) (fun _ _ => rfl) (a0.ZE.length + 1) 0 (by omega) true).trans (by simp only [true_and, and_true]; exact Iff.rfl)
    · simp
  refine Iff.trans ?_ (hi _).symm
  simp only [TP, Bool.or_eq_false_iff, Bool.not_eq_false', Bool.and_eq_true, beq_iff_eq, bne_eq_false_iff_eq, Bool.not_eq_eq_eq_not, Bool.not_false]
  constructor
  · rintro ⟨h1, h2, h3, h4⟩
    exact ⟨⟨h3, h4⟩, fun i _ hi => ⟨h1 i (Nat.zero_le _) hi, h2 i (Nat.zero_le _) (by omega)⟩⟩
  · rintro ⟨⟨h3, h4⟩, h⟩
    exact ⟨fun i _ hi => (h i (Nat.zero_le _) hi).1, fun i _ hi => (h i (Nat.zero_le _) (by omega)).2, h3, h4⟩
theorem Vv (a1 : ByteArray) : ∀ (n : Nat) (p l : List Int) (v : Nat), a1.size < n + v → v ≤ a1.size → KD a1 n (p ++ l) v = p ++ J7 a1.data.toList n l v := by
  intro n
  induction n with
  | zero =>
    intro p l v h hv
    omega
  | succ n ih =>
    intro p l v h hv0
    have hs : a1.size = a1.data.toList.length := (Array.length_toList).symm
    rw [KD, J7, ← hs]
    by_cases hv : v < a1.size
    · rw [show decide ((v : Int) < (a1.size : Int)) = true by simpa using hv]
      simp only [cond_true]
      rw [List.append_assoc, ih p _ (v + 1) (by omega) (by omega)]
      rfl
    · rw [show decide ((v : Int) < (a1.size : Int)) = false by simpa using hv]
      rfl
@[simp] theorem FL (a0 : Int) (a1 : ByteArray) (a2 : Int) : zf a0 a1 a2 = zn a0 a1 a2 := by
  have := Vv a1 (a1.size + 1) [a2] [] 0 (by omega) (by omega)
  simp only [List.append_nil] at this
  simp only [zf, zn, z3, this, OH]
  rfl
@[simp] theorem G5 (a0 : Int) (a1 : ZT) : ∀ (n : Nat) (v0 : List Int) (v1 : Nat), Kg a0 a1 n v0 v1 = Ki a0 a1 n v0 v1 := by
  intro n
  induction n with
  | zero => intros; rfl
  | succ n ih => intros; simp [Kg, Ki, ih, ByteArray.append_assoc]
@[simp] theorem Rb (a0 : Int) (a1 : ZT) : KE a0 a1 = Xd a0 a1 := by simp [KE, Xd]
@[simp] theorem HF (a0 : Int) (a1 : List ZO) : ∀ (n : Nat) (v0 : List Int) (v1 : Nat), JM a0 a1 n v0 v1 = JF a0 a1 n v0 v1 := by
  intro n
  induction n with
  | zero => intros; rfl
  | succ n ih => intros; simp [JM, JF, ih, ByteArray.append_assoc]
@[simp] theorem GR (a0 : Int) (a1 : List ZO) : JG a0 a1 = JK a0 a1 := by simp [JG, JK]
@[simp] theorem I0 (a0 : Int) (a1 : Int) (a2 : List ZO) (a3 : Int) : jZ a0 a1 a2 a3 = jK a0 a1 a2 a3 := by simp [jZ, jK]
theorem TS (a0 : ZY) (a1 : ZT) : Xi a0 a1 = a0.ZV.map (fun c => KE c.Method a1) := by
  have := Pp (as := a0.ZV) (fun c => [KE c.Method a1]) (F := fun n i l => JS a0 a1 n l i) (fun _ _ _ => rfl) (a0.ZV.length + 1) 0 [] (by omega) (Nat.zero_le _)
  unfold Xi
  rw [this, List.drop_zero, Rg]; rfl
theorem Lt {α : Type} [Inhabited α] (l : List α) (x : α) : nth (l ++ [x]) l.length = x := by simp [nth]
theorem HK {α : Type} [Inhabited α] (l : List α) (x : α) {i : Nat} (h : i < l.length) : nth (l ++ [x]) i = nth l i := by simp [nth, List.getD_eq_getElem?_getD, List.getElem?_append_left h]
theorem Fh (x : Zb) (a1 : Int) (h : Sm maxLen x) (r : ZF) (hr : r = ZF.mk (↑x.ZK.ZR.length : Int) a1 0 [] []) :
    jO (ZY.mk x.ZK.ZR (x.ZK.ZV ++ [r])) (Xi (ZY.mk x.ZK.ZR (x.ZK.ZV ++ [r])) x.Doc) (W ((↑(x.ZK.ZV ++ [r]).length : Int) - 1)) = Yy x a1 := by
  have hl : x.ZK.ZV.length ≤ maxLen := JQ (ZY.yp (Zb.zI h))
  have hm : maxLen = 9223372036854775807 := by decide
  have e1 : W ((↑(x.ZK.ZV ++ [r]).length : Int) - 1) = (x.ZK.ZV.length : Int) := by
    rw [List.length_append, List.length_singleton, show ((x.ZK.ZV.length + 1 : Nat) : Int) - 1 = (x.ZK.ZV.length : Int) by omega, WQ]; omega
  have e2 : nth (x.ZK.ZV ++ [r]) x.ZK.ZV.length = r := Lt _ _
  have e3 : nth ((x.ZK.ZV ++ [r]).map (fun c => Xd c.Method x.Doc)) x.ZK.ZV.length = Xd r.Method x.Doc := by rw [List.map_append]; have := Lt (x.ZK.ZV.map (fun c => Xd c.Method x.Doc)) (Xd r.Method x.Doc); rw [List.length_map] at this; exact this
  have e4 : r.Count = (x.ZK.ZR.length : Int) := by rw [hr]
  have e5 : r.Method = a1 := by rw [hr]
  unfold jO Yy
  rw [e1, TS]
  simp only [Int.toNat_natCast, e1, e2, e3, e4, e5, TP, YZ, List.length_map, bne_self_eq_false, Int.le_refl, decide_true, Bool.and_true, Int.natCast_nonneg, Bool.not_true, Bool.or_false, cond_false, List.take_length, I0, Rb, VO]
  by_cases hz : 0 < x.ZK.ZV.length
  · have e6 : W ((x.ZK.ZV.length : Int) - 1) = ((x.ZK.ZV.length - 1 : Nat) : Int) := by rw [F0 _ (by omega)]; omega
    rw [e6, Int.toNat_natCast, HK _ _ (by omega)]
  · have : decide ((x.ZK.ZV.length : Int) > 0) = false := decide_eq_false (by omega)
    rw [this, Yn, Yn]
@[simp] theorem IA (a0 : List ZI) (a1 : Int) : ∀ (n : Nat) (v0 : Nat), Xx a0 a1 n v0 = Xy a0 a1 n v0 := by
  intro n
  induction n with
  | zero => intros; rfl
  | succ n ih => intros; simp [Xx, Xy, ih, ByteArray.append_assoc]
@[simp] theorem Hg (a0 : List ZI) (a1 : Int) : Ya a0 a1 = Yo a0 a1 := by simp [Ya, Yo]
@[simp] theorem DP (a0 : Int) : Uo a0 = US a0 := rfl
@[simp] theorem FW (a0 : Int) (a1 : List Int) : yz a0 a1 = yr a0 a1 := by simp [yz, yr]
@[simp] theorem ER (a0 : YD) (a1 : List Int) : qC a0 a1 = qG a0 a1 := by simp [qC, qG]
@[simp] theorem P1 (a0 : List YD) (a1 : List ZI) (a2 : ZX) : KM a0 a1 a2 = JX a0 a1 a2 := by
  simp [KM, JX, jb]
  cases h : decide (XK a0 (nth a1 (Yo a1 a2.Authority).toNat).Key < 0) <;> simp
@[simp] theorem FT (a0 a1 : List Int) : qf a0 a1 = decide (a0 = a1) := DG (F := yi a0 a1) (c := fun i => (nth a0 i) != (nth a1 i)) (fun i => by simp [bne, Bool.beq_eq_decide_eq]) (fun _ => rfl) (fun _ _ => rfl)
@[simp] theorem EK (a0 a1 : List Int) : qZ a0 a1 = decide (a0 = a1) := DG (F := yR a0 a1) (c := fun i => (nth a0 i) != (nth a1 i)) (fun i => by simp [bne, Bool.beq_eq_decide_eq]) (fun _ => rfl) (fun _ _ => rfl)
@[simp] theorem Ga (a0 a1 : ZO) : Kh a0 a1 = decide (a0 = a1) := by
  obtain ⟨t, p, s⟩ := a0; obtain ⟨t', p', s'⟩ := a1
  by_cases h1 : t = t' <;> by_cases h2 : p = p' <;> by_cases h3 : s = s' <;> simp_all [Kh]
@[simp] theorem Gx (a0 a1 : ZO) : Km a0 a1 = decide (a0 = a1) := by
  obtain ⟨t, p, s⟩ := a0; obtain ⟨t', p', s'⟩ := a1
  by_cases h1 : t = t' <;> by_cases h2 : p = p' <;> by_cases h3 : s = s' <;> simp_all [Km]
theorem kQ (a0 : ZY) {k : Nat} (hk : k < a0.ZR.length) : decide (y1 a0 (nth a0.ZR k) < (k : Int)) = xz (a0.ZR.take k) (nth a0.ZR k) := by
  rw [Bool.eq_iff_iff]
  have hi : xz (a0.ZR.take k) (nth a0.ZR k) = true ↔ _ := NT (L := xb (a0.ZR.take k) (nth a0.ZR k)) (fun _ => rfl) (fun _ _ => rfl) _ 0 (by omega)
  rw [hi]
  unfold y1
  have hl : (a0.ZR.take k).length = k := by simp; omega
  rw [hl]
  rcases Wb (L := yT a0 (nth a0.ZR k)) (r := fun i => (i : Int)) (fun _ => rfl) (fun _ _ => rfl) (a0.ZR.length + 1) 0 (by omega) with ⟨e, p⟩ | ⟨i, e, p1, p2, p3, p4⟩
  · have := p k (Nat.zero_le _) hk
    simp at this
  · rw [e]
    simp only [decide_eq_true_eq]
    constructor
    · intro h
      exact ⟨i, Nat.zero_le _, by omega, by rw [I4 (by omega)]; simpa using p3⟩
    · rintro ⟨j, _, hj, hc⟩
      rw [I4 hj] at hc
      rcases Nat.lt_or_ge j i with h | h
      · have := p4 j (Nat.zero_le _) h; simp at this hc; exact absurd hc this
      · omega
@[simp] theorem ES (a0 : ZY) : qA a0 = qD a0 := by
  rw [Bool.eq_iff_iff]
  have hs : qA a0 = true ↔ _ := (yE (L := xO a0) (fun _ => rfl) (fun _ _ => rfl) (a0.ZR.length + 1) 0 (by omega) _).trans (and_congr_right fun _ => yE (L := xT a0) (fun _ => rfl) (fun _ _ => rfl) (a0.ZV.length + 1) 0 (by omega) _)
  rw [hs]
  unfold qD
  have hi : ∀ b : Bool, (bif b then false else (match zQ a0 (a0.ZR.length + 1) 0 with | .inl r1 => r1 | .inr _ => (match ze a0 (a0.ZV.length + 1) 0 with | .inl r2 => r2 | .inr _ => true))) = true ↔ b = false ∧ _ := fun b => by
    cases b
    · exact ((yE (L := zQ a0) (fun _ => rfl) (fun _ _ => rfl) (a0.ZR.length + 1) 0 (by omega) _).trans (and_congr_right fun _ => yE (L := ze a0) (fun _ => rfl) (fun _ _ => rfl) (a0.ZV.length + 1) 0 (by omega) true)).trans (by simp only [true_and, and_true]; exact Iff.rfl)
    · simp
  refine Iff.trans ?_ (hi _).symm
  simp only [TP, Bool.or_eq_false_iff, Bool.not_eq_false', Bool.and_eq_true, Bool.not_eq_eq_eq_not, Bool.not_false]
  constructor
  · rintro ⟨h1, h2, h3, h4⟩
    exact ⟨⟨h3, by simpa using h4⟩, fun i hz hi => by rw [← kQ a0 hi]; exact h1 i hz hi, fun i hz hi => by simpa using h2 i hz hi⟩
  · rintro ⟨⟨h3, h4⟩, h1, h2⟩
    exact ⟨fun i hz hi => by rw [kQ a0 hi]; exact h1 i hz hi, fun i hz hi => by simpa using h2 i hz hi, h3, by simpa using h4⟩
@[simp] theorem S9 (a0 : ZY) (a1 : ZF) : Xl a0 a1 = XE a0 a1 := by simp [Xl, XE]
theorem HY (a0 : ZH) (a1 : Int) (h : Sm maxLen a0) : Yc a0 a1 = a0.ZS.map (fun x => Yy x a1) := by
  have := Pp (as := a0.ZS) (fun x => [jO (ZY.mk x.ZK.ZR (x.ZK.ZV ++ [ZF.mk (↑x.ZK.ZR.length : Int) a1 0 [] []])) (Xi (ZY.mk x.ZK.ZR (x.ZK.ZV ++ [ZF.mk (↑x.ZK.ZR.length : Int) a1 0 [] []])) x.Doc) (W ((↑(x.ZK.ZV ++ [ZF.mk (↑x.ZK.ZR.length : Int) a1 0 [] []]).length : Int) - 1))]) (F := fun n i l => Jr a0 a1 n l i) (fun _ _ _ => rfl) (a0.ZS.length + 1) 0 [] (by omega) (Nat.zero_le _)
  unfold Yc
  rw [this, List.drop_zero, Rg]
  exact List.map_congr_left (fun x hx => Fh x a1 ((ZH.xk h).2 x hx) _ rfl)
theorem EL {α β : Type} [Inhabited α] [Inhabited β] (f : α → β) {l : List α} {i : Nat} (h : i < l.length) : nth (l.map f) i = f (nth l i) := by simp [nth, List.getD_eq_getElem?_getD, List.getElem?_map, List.getElem?_eq_getElem h]
theorem Na (a0 : Zc) (a1 a2 : Int) (e : nth (Yc (nth a0.ZC (ZN a0 a1).1.toNat) (Zz a0.Frame.Methods a0.Frame.Now)) (ZN a0 a1).2.toNat = Yy (nth (nth a0.ZC (ZN a0 a1).1.toNat).ZS (ZN a0 a1).2.toNat) (Zz a0.Frame.Methods a0.Frame.Now)) :
    ∀ n v0 v1, JP a0 a1 a2 n v0 v1 = Y4 a0 a1 a2 n v0 v1
  | 0, _, _ => rfl
  | n + 1, v0, v1 => by simp only [JP, Y4, Na a0 a1 a2 e n, z1, P1, Tg, kR, e]
@[simp] theorem GB (a0 : Zc) (a1 a2 : Int) (h : Sm maxLen a0) : Yb a0 a1 a2 = Zg a0 a1 a2 := by
  unfold Yb Zg
  simp only [Tg, kR, HU, z1, S9]
  have hb : ∀ p q r s : Bool, (((p || q) || r) || s) = (((r || p) || q) || s) := by decide
  rw [hb]
  by_cases hi : (ZN a0 a1).1 < 0
  · rw [decide_eq_true hi]; simp
  · obtain ⟨h1, h2, h3⟩ := xN a0 a1 (by omega)
    have e : nth (Yc (nth a0.ZC (ZN a0 a1).1.toNat) (Zz a0.Frame.Methods a0.Frame.Now)) (ZN a0 a1).2.toNat = Yy (nth (nth a0.ZC (ZN a0 a1).1.toNat).ZS (ZN a0 a1).2.toNat) (Zz a0.Frame.Methods a0.Frame.Now) := by
      rw [HY _ _ (QU (Zc.zB h)), EL _ h3]
    rw [Na a0 a1 a2 e, e]
theorem GK (a0 : Zc) (a1 a2 : Int) : ∀ n v0 v1, (∀ r, Y4 a0 a1 a2 n v0 v1 = .inl r → r = (a0, false)) ∧ ∀ z, Y4 a0 a1 a2 n v0 v1 = .inr z → z.length ≤ v1.length + n
  | 0, _, _ => ⟨fun r h => (by cases h), fun z h => (by cases h; exact Nat.zero_le _)⟩
  | n + 1, v0, v1 => by
    simp only [Y4]
    let p := fun w : Sum (Zc × Bool) (List ZX) => (∀ r, w = .inl r → r = (a0, false)) ∧ ∀ z, w = .inr z → z.length ≤ v1.length + (n + 1)
    refine jr (p := p) (jr (p := p) ⟨fun r h => (by cases h; rfl), fun z h => (by cases h)⟩ ?_) ⟨fun r h => (by cases h), fun z h => (by cases h; exact Nat.le_add_right _ _)⟩
    obtain ⟨h1, h2⟩ := GK a0 a1 a2 n (v0 + 1) (v1 ++ [(JX a0.Frame.YR a0.Frame.ZL (ZX.mk (nth (Zo a0) v0) 0 a2 (Yy (nth (nth a0.ZC (ZN a0 a1).1.toNat).ZS (ZN a0 a1).2.toNat) (Zz a0.Frame.Methods a0.Frame.Now)) 0)).1])
    exact ⟨h1, fun z hz => by have := h2 z hz; simp at this; omega⟩
theorem V8 (a0 : Zc) (a1 a2 : Int) (h : cn a0 ≤ 33554464) : cn (Zg a0 a1 a2).1 ≤ 1152921504606846976 := by
  unfold Zg
  refine jr (p := fun r : Zc × Bool => cn r.1 ≤ 1152921504606846976) (by show cn a0 ≤ _; omega) ?_
  obtain ⟨k1, k2⟩ := GK a0 a1 a2 ((Zo a0).length + 1) 0 []
  cases hs : Y4 a0 a1 a2 ((Zo a0).length + 1) 0 [] with
  | inl r => rw [k1 r hs]; show cn a0 ≤ _; omega
  | inr z =>
    have hz := k2 z hs
    have hf := kY a0 h
    rw [GN] at hf
    have hfl := X6 a0
    have hau := Hv (c := (cn : ZI → Nat)) (fun _ => Nat.le_of_ble_eq_true rfl) a0.Frame.ZL
    have hA := Mu (cn : ZH → Nat) a0.ZC (ZN a0 a1).1.toNat
    have hI := Mu (cn : Zb → Nat) (nth a0.ZC (ZN a0 a1).1.toNat).ZS (ZN a0 a1).2.toNat
    have hd : cn (default : ZH) = 1 := rfl
    have hd2 : cn (default : Zb) ≤ 100 := Nat.le_of_ble_eq_true rfl
    rw [hd] at hA
    replace hI := Nat.le_trans hI (Nat.add_le_add_left hd2 _)
    simp only [List.length_nil] at hz
    dsimp only
    have ha : ∀ (s : ZY) (r : ZF), cn (XE s r).1 ≤ cn s + cn r := fun s r => by
      refine jr (p := fun q : ZY × Bool => cn q.1 ≤ cn s + cn r) (Nat.le_add_right _ _) ?_
      simp only [ZY.YP, XT, RO, cnL]; omega
    have hb := ha (nth (nth a0.ZC (ZN a0 a1).1.toNat).ZS (ZN a0 a1).2.toNat).ZK (ZF.mk (↑(nth (nth a0.ZC (ZN a0 a1).1.toNat).ZS (ZN a0 a1).2.toNat).ZK.ZR.length : Int) (Zz a0.Frame.Methods a0.Frame.Now) (Yy (nth (nth a0.ZC (ZN a0 a1).1.toNat).ZS (ZN a0 a1).2.toNat) (Zz a0.Frame.Methods a0.Frame.Now)) [] z)
    have e0 : cn ([] : List Zq) = 0 := rfl
    have ez : cn z = 5 * z.length := by rw [XT]; exact Pe (c := (cn : ZX → Nat)) (m := 5) (fun _ => rfl) z
    generalize (XE (nth (nth a0.ZC (ZN a0 a1).1.toNat).ZS (ZN a0 a1).2.toNat).ZK (ZF.mk (↑(nth (nth a0.ZC (ZN a0 a1).1.toNat).ZS (ZN a0 a1).2.toNat).ZK.ZR.length : Int) (Zz a0.Frame.Methods a0.Frame.Now) (Yy (nth (nth a0.ZC (ZN a0 a1).1.toNat).ZS (ZN a0 a1).2.toNat) (Zz a0.Frame.Methods a0.Frame.Now)) [] z)).1 = S at hb ⊢
    have hJ := MI (cn : Zb → Nat) (nth a0.ZC (ZN a0 a1).1.toNat).ZS (ZN a0 a1).2.toNat (Zb.mk (nth (nth a0.ZC (ZN a0 a1).1.toNat).ZS (ZN a0 a1).2.toNat).Id (nth (nth a0.ZC (ZN a0 a1).1.toNat).ZS (ZN a0 a1).2.toNat).Yk (nth (nth a0.ZC (ZN a0 a1).1.toNat).ZS (ZN a0 a1).2.toNat).Doc (nth (nth a0.ZC (ZN a0 a1).1.toNat).ZS (ZN a0 a1).2.toNat).Sig S)
    generalize nth (nth a0.ZC (ZN a0 a1).1.toNat).ZS (ZN a0 a1).2.toNat = X at hI hb hJ ⊢
    have hK := MI (cn : ZH → Nat) a0.ZC (ZN a0 a1).1.toNat (ZH.mk (nth a0.ZC (ZN a0 a1).1.toNat).Id ((nth a0.ZC (ZN a0 a1).1.toNat).ZS.set (ZN a0 a1).2.toNat (Zb.mk X.Id X.Yk X.Doc X.Sig S)))
    generalize nth a0.ZC (ZN a0 a1).1.toNat = Y at hA hI hJ hK ⊢
    simp only [Zc.YP, Z4.YP, ZH.YP, Zb.YP, ZF.YP, XT (x := Y.ZS), XT (x := a0.Frame.ZL), XT (x := a0.ZC), XT (x := Y.ZS.set _ _), XT (x := a0.ZC.set _ _), Y0, List.length_nil, e0] at h hA hI hJ hK hb ⊢
    omega
end Go.Mo
