/- Plain lemmas on the models of the helpers. No condition. -/
import Derived.Test.YtlilcnnajeeigaaGreatM
namespace Go.Mo
open Go.Vm
set_option linter.unusedSimpArgs false
set_option linter.unusedVariables false
theorem zo (a0 : List YJ) (a1 : Int) : Yj a0 a1 < (a0.length : Int) := Tb (F := jf a0 a1) (c := fun J => ((nth a0 J).Number == a1)) (fun _ => rfl) (fun _ _ => rfl) _ _
theorem MY (a0 : ZE) : SA a0 = a0 := rfl
theorem LX (a0 : List ZE) : TA a0 = a0 := by
  have h := ke (F := (ko a0)) (a := a0) (g := (fun x => x)) (fun _ => rfl) (fun _ _ _ => rfl) (a0.length + 1) [] 0 (by omega) (by omega)
  simp only [List.nil_append, List.drop_zero] at h
  unfold TA
  rw [h]
theorem M1 (a0 : ZK) : SS a0 = a0 := rfl
theorem MA (a0 : ZG) : V1 a0 = a0 := by
  have h := ke (F := (fun n v i => jG a0 n i v)) (a := a0.ZJ) (g := (fun x => x)) (fun _ => rfl) (fun _ _ _ => rfl) (a0.ZJ.length + 1) [] 0 (by omega) (by omega)
  simp only [List.nil_append, List.drop_zero] at h
  unfold V1
  rw [h]
theorem qt (a0 : List ZP) (a1 : Int) : Yb a0 a1 < (a0.length : Int) := Tb (F := J4 a0 a1) (c := fun J => ((nth a0 J).Id == a1)) (fun _ => rfl) (fun _ _ => rfl) _ _
theorem Lu (a0 : ZM) : PS a0 = a0 := rfl
theorem Md (a0 : Zp) : SH a0 = a0 := rfl
theorem M7 (a0 : Zf) : V4 a0 = a0 := by
  have h := ke (F := (fun n v i => jR a0 n i v)) (a := a0.Zl) (g := (fun x => x)) (fun _ => rfl) (fun _ _ _ => rfl) (a0.Zl.length + 1) [] 0 (by omega) (by omega)
  simp only [List.nil_append, List.drop_zero] at h
  unfold V4
  rw [h]
theorem Og (a0 : List Int) : Up a0 = a0 := rfl
theorem OT (a0 : ZE) : W4 a0 = a0 := rfl
theorem Rv (a0 : List ZE) : qA a0 = a0 := by
  have h := ke (F := (zz a0)) (a := a0) (g := (fun x => x)) (fun _ => rfl) (fun _ _ _ => rfl) (a0.length + 1) [] 0 (by omega) (by omega)
  simp only [List.nil_append, List.drop_zero] at h
  unfold qA
  rw [h]
theorem Rb (a0 : List ZV) : WH a0 = a0 := rfl
theorem Sh (a0 : ZK) : kI a0 = a0 := rfl
theorem Rn (a0 : ZG) : xr a0 = a0 := by
  have h := ke (F := (fun n v i => zy a0 n i v)) (a := a0.ZJ) (g := (fun x => x)) (fun _ => rfl) (fun _ _ _ => rfl) (a0.ZJ.length + 1) [] 0 (by omega) (by omega)
  simp only [List.nil_append, List.drop_zero] at h
  unfold xr
  rw [h]
theorem yO (a0 : List YJ) (a1 : Int) : Yp a0 a1 < (a0.length : Int) := Tb (F := jd a0 a1) (c := fun J => ((nth a0 J).Number == a1)) (fun _ => rfl) (fun _ _ => rfl) _ _
theorem Je (a0 : List ZP) (a1 : Int) : Zy a0 a1 < (a0.length : Int) := Tb (F := J5 a0 a1) (c := fun J => ((nth a0 J).Id == a1)) (fun _ => rfl) (fun _ _ => rfl) _ _
theorem Rj (a0 : List YV) (a1 : Int) : Kr a0 a1 < (a0.length : Int) := Tb (F := zx a0 a1) (c := fun J => ((nth a0 J).Id == a1)) (fun _ => rfl) (fun _ _ => rfl) _ _
theorem yI : ∀ (n : Nat) (x : Int) (l : List UInt8), (QO n x l).length <= l.length + n
  | 0, x, l => by show (default : List UInt8).length <= _; exact Nat.zero_le _
  | n + 1, x, l => by
    simp only [QO]
    cases decide (x.tmod 10 < 0) <;> simp only [cond_true, cond_false] <;> cases (W (x.tdiv 10) == 0) <;> simp only [cond_true, cond_false]
    · refine Nat.le_trans (yI n _ _) ?_; simp; omega
    · simp
    · refine Nat.le_trans (yI n _ _) ?_; simp; omega
    · simp
theorem YQ (a0 : Int) : (Y3 a0).size <= 24 := by
  unfold Y3
  have h := yI 21 a0 []
  simp only [List.length_nil] at h
  cases decide (a0 < 0) <;> simp <;> omega
theorem UT {n : Nat} {x : YR} (h : 7 <= n) : Sm n (KL x) := ⟨by simp [KL]; omega, fun _ _ => trivial⟩
@[simp] theorem FQ (x : YR) : (KL x).length = 7 := rfl
theorem Od {n : Nat} {x : YR} (h : 7 <= n) : Sm n (zP x) := ⟨by simp [zP]; omega, fun _ _ => trivial⟩
@[simp] theorem G6 (x : YR) : (zP x).length = 7 := rfl
theorem VR {n : Nat} {x : ZV} (h : 5 <= n) : Sm n (Qt x) := ⟨by simp [Qt]; omega, fun _ _ => trivial⟩
@[simp] theorem GX (x : ZV) : (Qt x).length = 5 := rfl
theorem OS {n : Nat} {x : ZV} (h : 5 <= n) : Sm n (QQ x) := ⟨by simp [QQ]; omega, fun _ _ => trivial⟩
@[simp] theorem GY (x : ZV) : (QQ x).length = 5 := rfl
theorem Wl {n : Nat} {x : Zn} (h : 5 <= n) : Sm n (Qv x) := ⟨by simp [Qv]; omega, fun _ _ => trivial⟩
@[simp] theorem Ho (x : Zn) : (Qv x).length = 5 := rfl
theorem qq {n : Nat} {x : ZX} (h : 9 <= n) : Sm n (Xq x) := ⟨by simp [Xq]; omega, fun _ _ => trivial⟩
@[simp] theorem IN (x : ZX) : (Xq x).length = 9 := rfl
theorem qm {n : Nat} {x : ZX} (h : 9 <= n) : Sm n (Xs x) := ⟨by simp [Xs]; omega, fun _ _ => trivial⟩
@[simp] theorem IM (x : ZX) : (Xs x).length = 9 := rfl
theorem km {n : Nat} {x : Zx} (h : 6 <= n) : Sm n (QS x) := ⟨by simp [QS]; omega, fun _ _ => trivial⟩
@[simp] theorem HS (x : Zx) : (QS x).length = 6 := rfl
theorem SE {n : Nat} {x : Zx} (h : 6 <= n) : Sm n (Qy x) := ⟨by simp [Qy]; omega, fun _ _ => trivial⟩
@[simp] theorem Ha (x : Zx) : (Qy x).length = 6 := rfl
theorem PG {a : ZG} (h : zU a = true) : 0 < a.ZO.length := by
  unfold zU at h
  split at h
  · rename_i r e
    have : ∀ n v, ya a n v ≠ .inl true := by
      intro n
      induction n with
      | zero => intro v h; cases h
      | succ n ih =>
        intro v h
        rw [ya] at h
        cases h1 : decide ((v : Int) < (a.ZO.length : Int)) with
        | false => rw [h1] at h; cases h
        | true =>
          rw [h1] at h
          cases h2 : decide (jU a (nth a.ZO v) < (v : Int)) with
          | true => rw [h2] at h; cases h
          | false => rw [h2] at h; exact ih _ h
    subst h; exact absurd e (this _ _)
  · split at h
    · rename_i r e
      have : ∀ n v, yF a n v ≠ .inl true := by
        intro n
        induction n with
        | zero => intro v h; cases h
        | succ n ih =>
          intro v h
          rw [yF] at h
          generalize decide ((v : Int) < (a.ZJ.length : Int)) = c1 at h
          cases c1 with
          | false => cases h
          | true =>
            simp only [cond_true] at h
            generalize (!YE (nth a.ZJ v).Count 1 (a.ZO.length : Int) || decide ((v : Int) > 0) && decide ((nth a.ZJ (v - 1)).Count > (nth a.ZJ v).Count)) = c2 at h
            cases c2 with
            | true => cases h
            | false => exact ih _ h
      subst h; exact absurd e (this _ _)
    · simp only [YE, Bool.and_eq_true, decide_eq_true_eq] at h; omega
theorem Sj {a : ZM} (h : YW a = true) : a.Yh.length = a.Zd.length := by
  unfold YW at h
  split at h
  · rename_i r e
    have : ∀ n v, Yx a n v ≠ .inl true := by
      intro n
      induction n with
      | zero => intro v h; cases h
      | succ n ih =>
        intro v h
        rw [Yx] at h
        generalize decide ((v : Int) < (a.Zd.length : Int)) = c1 at h
        cases c1 with
        | false => cases h
        | true =>
          simp only [cond_true] at h
          generalize decide (((nth a.Zd v).size : Int) > 40) = c2 at h
          cases c2 with
          | true => cases h
          | false => exact ih _ h
    subst h; exact absurd e (this _ _)
  · split at h
    · rename_i r e
      have : ∀ n v, Yt a n v ≠ .inl true := by
        intro n
        induction n with
        | zero => intro v h; cases h
        | succ n ih =>
          intro v h
          rw [Yt] at h
          generalize decide ((v : Int) < (a.Yh.length : Int)) = c1 at h
          cases c1 with
          | false => cases h
          | true =>
            simp only [cond_true] at h
            generalize (!YE (nth a.Yh v) 1 1000000000000) = c2 at h
            cases c2 with
            | true => cases h
            | false => exact ih _ h
      subst h; exact absurd e (this _ _)
    · simp only [Bool.and_eq_true, beq_iff_eq] at h; omega
theorem SJ {a : ZM} (h : zm a = true) : a.Yh.length = a.Zd.length := by
  unfold zm at h
  generalize (match zt a (a.Zd.length + 1) 0 with | .inl r1 => r1 | .inr _ => true) = m at h
  by_cases hh : a.Yh.length = a.Zd.length
  · exact hh
  · rw [show ((a.Yh.length : Int) != (a.Zd.length : Int)) = true by simp; omega] at h
    simp at h
theorem qu {a : Int} {n : Nat} (hn : n <= 9223372036854775807) (h : YE a 0 (W ((n : Int) - 1)) = true) : 0 <= a /\ a < n := by
  rw [PZ n hn] at h
  simp only [YE, Bool.and_eq_true, decide_eq_true_eq] at h; omega
theorem X3 {a : Int} {n : Nat} (hn : n <= 9223372036854775807) (h : ZS a 0 (W ((n : Int) - 1)) = true) : 0 <= a /\ a < n := by
  rw [PZ n hn] at h
  simp only [ZS, Bool.and_eq_true, decide_eq_true_eq] at h; omega
@[simp] theorem Fa (l : List UInt8) : (qM l).length = l.length := by
  have key : ∀ n (acc : List Int) v, l.length < n + v -> v <= l.length -> (xE l n acc v).length = acc.length + (l.length - v) := by
    intro n
    induction n with
    | zero => intro acc v h1 h2; omega
    | succ n ih =>
      intro acc v h1 h2
      rw [xE]
      by_cases hv : v < l.length
      · rw [show decide ((v : Int) < (l.length : Int)) = true by simpa using hv, cond_true, ih _ (v + 1) (by omega) (by omega)]
        simp; omega
      · rw [show decide ((v : Int) < (l.length : Int)) = false by simpa using hv, cond_false]; omega
  have := key (l.length + 1) [] 0 (by omega) (by omega)
  simpa [qM] using this
theorem zA {n : Nat} {a0 : ZG} {a1 : ZM} (h : Sm n a0) : Sm n (Xl a0 a1) := by
  have key : ∀ n (acc : List Int) v, a0.ZJ.length < n + v -> v <= a0.ZJ.length -> (KD a0 a1 n acc v).length = acc.length + (a0.ZJ.length - v) := by
    intro n
    induction n with
    | zero => intro acc v h1 h2; omega
    | succ n ih =>
      intro acc v h1 h2
      rw [KD]
      by_cases hv : v < a0.ZJ.length
      · rw [show decide ((v : Int) < (a0.ZJ.length : Int)) = true by simpa using hv, cond_true, ih _ (v + 1) (by omega) (by omega)]
        simp; omega
      · rw [show decide ((v : Int) < (a0.ZJ.length : Int)) = false by simpa using hv, cond_false]; omega
  have h2 := key (a0.ZJ.length + 1) [] 0 (by omega) (by omega)
  have h3 := Yf (ZG.KB h)
  refine ⟨?_, fun _ _ => trivial⟩
  unfold Xl
  simp only [List.length_nil, Nat.zero_add, Nat.sub_zero] at h2
  rw [h2]; exact h3
theorem Rm {n : Nat} {a0 : ZG} {a1 : ZM} (h : Sm n a0) : Sm n (Ke a0 a1) := by
  have key : ∀ n (acc : List Int) v, a0.ZJ.length < n + v -> v <= a0.ZJ.length -> (KU a0 a1 n acc v).length = acc.length + (a0.ZJ.length - v) := by
    intro n
    induction n with
    | zero => intro acc v h1 h2; omega
    | succ n ih =>
      intro acc v h1 h2
      rw [KU]
      by_cases hv : v < a0.ZJ.length
      · rw [show decide ((v : Int) < (a0.ZJ.length : Int)) = true by simpa using hv, cond_true, ih _ (v + 1) (by omega) (by omega)]
        simp; omega
      · rw [show decide ((v : Int) < (a0.ZJ.length : Int)) = false by simpa using hv, cond_false]; omega
  have h2 := key (a0.ZJ.length + 1) [] 0 (by omega) (by omega)
  have h3 := Yf (ZG.KB h)
  refine ⟨?_, fun _ _ => trivial⟩
  unfold Ke
  simp only [List.length_nil, Nat.zero_add, Nat.sub_zero] at h2
  rw [h2]; exact h3
theorem ZH (a0 : ZE) : (YP a0 = 101 -> a0.Z0.length = 7) /\ (YP a0 = 102 -> a0.Z0.length = 5) /\ (YP a0 = 103 -> a0.Z0.length = 5) /\ (YP a0 = 104 -> a0.Z0.length = 9) /\ (YP a0 = 105 -> a0.Z0.length = 6) := by
  have key : ∀ v : Int, v ≠ 0 -> YP a0 = v -> nth a0.Z0 0 = v /\ (a0.Z0.length : Int) = nth ([7, 5, 5, 9, 6] : List Int) (W (v - 101)).toNat := by
    intro v hv h
    unfold YP at h
    cases c1 : ((((a0.Z0.length : Int) == 0) || (!(ZS (nth a0.Z0 0) 101 105))) || ((a0.Z0.length : Int) != (nth ([7, 5, 5, 9, 6] : List Int) (W ((nth a0.Z0 0) - 101)).toNat)))
    · rw [c1, cond_false] at h
      simp only [Bool.or_eq_false_iff, bne_eq_false_iff_eq] at c1
      exact ⟨h, by rw [<- h]; exact c1.2⟩
    · rw [c1, cond_true] at h; exact absurd h.symm hv
  refine ⟨fun h => ?_, fun h => ?_, fun h => ?_, fun h => ?_, fun h => ?_⟩ <;> (have := (key _ (by decide) h).2; simp [nth, Yw] at this; omega)
theorem jM (a0 : Int) (a1 : List Int) (h : a1.length <= 1048576) : 2 * (jF a0 a1).length = a1.length + a1.length % 2 := by
  have key : ∀ n v i, a1.length + 1 < 2 * n + i -> i <= a1.length + 1 -> i % 2 = 0 -> 2 * (yg a0 a1 n v i).length = 2 * v.length + (a1.length + a1.length % 2 - i) := by
    intro n
    induction n with
    | zero => intro v i h1 h2; omega
    | succ n ih =>
      intro v i h1 h2 h3
      unfold yg
      by_cases hi : i < a1.length
      · rw [show decide ((i : Int) < (a1.length : Int)) = true by simp [hi], cond_true]
        have e : ∀ x, 2 * (yg a0 a1 n (v ++ [x]) (i + 2)).length = 2 * v.length + (a1.length + a1.length % 2 - i) := by
          intro x
          have := ih (v ++ [x]) (i + 2) (by omega) (by omega) (by omega)
          rw [this, List.length_append, List.length_singleton]; omega
        exact ZR (p := fun (r : List Int) => 2 * r.length = 2 * v.length + (a1.length + a1.length % 2 - i)) (e _) (e _)
      · rw [show decide ((i : Int) < (a1.length : Int)) = false by simp; omega, cond_false]; omega
  have := key (a1.length + 1) [] 0 (by omega) (by omega) (by omega)
  unfold jF
  rw [this]; simp
theorem XQ {n : Nat} (h : 10 <= n) : Sm n YU := ⟨h, fun _ _ => trivial⟩
theorem VA {n : Nat} {x : YR} (h : 7 <= n) : Sm n (XD x) := UT h
theorem Xc {n : Nat} {x : Zn} (h : 5 <= n) : Sm n (Xg x) := Wl h
theorem VF {n : Nat} {x : ZX} (h : 9 <= n) : Sm n (Yv x) := qq h
theorem YG {n : Nat} {x : ZX} (h : 9 <= n) : Sm n (Yu x) := qm h
theorem Tg {n : Nat} {x : Zx} (h : 6 <= n) : Sm n (yD x) := km h
theorem Rh {n : Nat} {k : Int} {x : ZV} (h : 5 <= n) : Sm n (qC k x) := VR h
theorem qx {n : Nat} {a0 : Zf} {a1 : Zp} (h : Sm n a0) (hx : Sm n a1) : ∀ (m : Nat) (b : Bool) (i : Nat) (l : List Zp), l.length <= i + (bif b then 1 else 0) -> i <= a0.Zl.length -> (∀ y ∈ l, Sm n y) ->
    (Qr a0 a1 m b i l).2.length <= a0.Zl.length + (bif (Qr a0 a1 m b i l).1 then 1 else 0) /\ ∀ y ∈ (Qr a0 a1 m b i l).2, Sm n y
  | 0, b, i, l, _, _, _ => ⟨Nat.zero_le _, fun y hy => by cases hy⟩
  | m + 1, b, i, l, hl, hi, hs => by
    unfold Qr
    cases hc : decide ((i : Int) < (a0.Zl.length : Int)) with
    | false =>
      simp only [cond_false]
      refine ⟨?_, hs⟩
      have : ¬ ((i : Int) < a0.Zl.length) := by simpa using hc
      omega
    | true =>
      have wN : i < a0.Zl.length := by simpa using hc
      have hn : Sm n (nth a0.Zl i) := Z2 h
      simp only [cond_true]
      cases hd : ((!b) && (decide (a1.Id < (nth a0.Zl i).Id))) with
      | true =>
        have hb : b = false := by cases b <;> simp_all
        subst hb
        simp only [cond_true]
        refine qx h hx m true (i + 1) _ (by simp at hl ⊢; omega) wN (fun y hy => ?_)
        simp only [List.append_assoc, List.mem_append, List.mem_cons, List.not_mem_nil, or_false] at hy
        rcases hy with hy | rfl | rfl
        · exact hs y hy
        · exact hx
        · exact hn
      | false =>
        simp only [cond_false]
        refine qx h hx m b (i + 1) _ (by simp at hl ⊢; omega) wN (fun y hy => ?_)
        simp only [List.mem_append, List.mem_cons, List.not_mem_nil, or_false] at hy
        rcases hy with hy | rfl
        · exact hs y hy
        · exact hn
theorem TH {n : Nat} {a0 : Zf} {a1 : Zp} (h : Sm n a0) (hx : Sm n a1) : Sm (n + 1) (Km a0 a1).1 := by
  have h1 : Sm (n + 1) a0 := ZN (Nat.le_succ n) h
  unfold Km
  cases ((!(JX a0)) || (decide ((We a0 a1.Id) >= 0))) with
  | true => exact h1
  | false =>
    have hz := qx h hx (a0.Zl.length + 1) false 0 [] (Nat.zero_le _) (Nat.zero_le _) (fun y hy => by cases hy)
    have hlen := (Zf.KI h).1
    simp only [cond_false]
    generalize hq : Qr a0 a1 (a0.Zl.length + 1) false 0 [] = z at hz ⊢
    obtain ⟨z0, z1⟩ := z
    cases z0 with
    | false =>
      simp only [Bool.not_false, cond_true]
      cases (!(JX (Zf.mk a0.Id (z1 ++ ([a1] : List Zp))))) with
      | true => exact h1
      | false =>
        refine ⟨by have := hz.1; simp at this ⊢; omega, fun y hy => ?_⟩
        have gZ : y ∈ z1 \/ y = a1 := by simpa using hy
        rcases gZ with hy | rfl
        · exact ZN (Nat.le_succ n) (hz.2 y hy)
        · exact ZN (Nat.le_succ n) hx
    | true =>
      simp only [Bool.not_true, cond_false]
      cases (!(JX (Zf.mk a0.Id z1))) with
      | true => exact h1
      | false => exact ⟨by have := hz.1; simp at this ⊢; omega, fun y hy => ZN (Nat.le_succ n) (hz.2 y hy)⟩
theorem Kp (a0 : Int) : ∀ (m : Nat) (x : Int) (l : List Yl) (y : List Int), (Jc a0 m x l y).length <= l.length + m
  | 0, x, l, y => Nat.zero_le _
  | m + 1, x, l, y => by
    simp only [Jc]
    cases decide ((y.length : Int) > 1) with
    | false => simp
    | true =>
      simp only [cond_true]
      cases ((Int.tmod x 2) == 1) with
      | true => refine Nat.le_trans (Kp a0 m _ _ _) ?_; simp; omega
      | false =>
        simp only [cond_false]
        cases decide ((W (x + 1)) < (y.length : Int)) with
        | true => refine Nat.le_trans (Kp a0 m _ _ _) ?_; simp; omega
        | false => refine Nat.le_trans (Kp a0 m _ _ _) ?_; omega
theorem O1 {n : Nat} {a0 : Int} {a1 : List Int} {a2 : Int} (h : 17 <= n) : Sm n (zH a0 a1 a2) := by
  refine ⟨?_, fun _ _ => trivial⟩
  unfold zH
  cases hc : ((decide ((a1.length : Int) > 16)) || (!(YE a2 0 (W ((a1.length : Int) - 1))))) with
  | true => exact Nat.zero_le _
  | false =>
    have h1 := Kp a0 (a1.length + 1) a2 [] a1
    simp only [Bool.or_eq_false_iff, decide_eq_false_iff_not] at hc
    simp only [cond_false]; simp at h1; omega
theorem ka (a0 : ZW) (a1 : ZG) (a2 : List Int) : ∀ n v, K8 a0 a1 a2 n v <= v
  | 0, _ => Nat.zero_le _
  | n + 1, v => by
    simp only [K8]
    exact ZR (p := fun r => r <= v) (ZR (p := fun r => r <= v) (Nat.le_refl _) (Nat.le_trans (ka a0 a1 a2 n (v - 1)) (Nat.sub_le _ _))) (Nat.le_refl _)
theorem Rp (a0 : ZW) (a1 : ZG) (a2 : List Int) : 0 <= KG a0 a1 a2 /\ KG a0 a1 a2 <= (a1.ZJ.length : Int) := by
  have h := ka a0 a1 a2 (a1.ZJ.length + 1) a1.ZJ.length
  simp only [KG]; omega
theorem zV (a0 : Int) : (Q0 a0).size <= 24 := by
  unfold Q0
  exact ZR (p := fun r : ByteArray => r.size <= 24) (Nat.zero_le _) (Ia (by decide) _)
theorem z9 (a0 : Int) : (Jl a0).size <= 24 := by
  unfold Jl
  exact ZR (p := fun r : ByteArray => r.size <= 24) (Nat.zero_le _) (Ia (by decide) _)
theorem xD (a0 : Xe) : (Jq a0).size <= 200 := by
  have h1 := zV a0.Code
  have h2 := z9 a0.Reason
  have h3 := YQ a0.Span.Ys
  have h4 := YQ a0.Span.To
  have e1 : (⟨#[32]⟩ : ByteArray).size = 1 := rfl
  have e2 : (⟨#[45]⟩ : ByteArray).size = 1 := rfl
  unfold Jq
  refine ZR (p := fun r : ByteArray => r.size <= 200) (Nat.zero_le _) (ZR (p := fun r : ByteArray => r.size <= 200) ?_ ?_) <;> simp only [ByteArray.size_append] <;> omega
theorem xb (a0 : List ZL) : ∀ (n : Nat) (l : List ZL) (i : Nat) (x y : Int), i <= a0.length -> (ze a0 n l i x y).1.length <= l.length + (a0.length - i)
  | 0, _, _, _, _, _ => Nat.zero_le _
  | n + 1, l, i, x, y, hi => by
    simp only [ze]
    by_cases h : i < a0.length
    · rw [show decide ((i : Int) < (a0.length : Int)) = true by simpa using h, cond_true]
      refine ZR (p := fun (r : List ZL × Int × Int) => r.1.length <= l.length + (a0.length - i)) ?_ ?_
      · have := xb a0 n (l ++ [nth a0 i]) (i + 1) x y h
        simp at this; omega
      · exact Nat.le_trans (xb a0 n l (i + 1) _ _ h) (by omega)
    · rw [show decide ((i : Int) < (a0.length : Int)) = false by simpa using h, cond_false]; exact Nat.le_add_right _ _
theorem xf (a0 : List ZL) : ∀ (n : Nat) (l : List ZL) (i : Nat), i <= a0.length -> (zf a0 n l i).length <= l.length + (a0.length - i)
  | 0, _, _, _ => Nat.zero_le _
  | n + 1, l, i, hi => by
    simp only [zf]
    by_cases h : i < a0.length
    · rw [show decide ((i : Int) < (a0.length : Int)) = true by simpa using h, cond_true]
      refine ZR (p := fun (r : List ZL) => r.length <= l.length + (a0.length - i)) (Nat.le_trans (xf a0 n l (i + 1) h) (by omega)) ?_
      have h2 := xb l (l.length + 1) [] 0 (nth a0 i).Ys (nth a0 i).To (Nat.zero_le _)
      refine Nat.le_trans (xf a0 n _ (i + 1) h) ?_
      simp at h2 ⊢
      omega
    · rw [show decide ((i : Int) < (a0.length : Int)) = false by simpa using h, cond_false]; exact Nat.le_add_right _ _
theorem Kl {n : Nat} {a0 : List ZL} (h : Sm n a0) : Sm n (XB a0) :=
  ⟨Nat.le_trans (xf a0 (a0.length + 1) [] 0 (Nat.zero_le _)) (by have := h.1; simp; omega), fun _ _ => trivial⟩
theorem ZB {n : Nat} {a0 a1 : Int} {a2 : List ZL} (h : Sm n a2) : Sm (n + 1) (ZU a0 a1 a2) := by
  unfold ZU
  refine ZR (p := fun r : List ZL => Sm (n + 1) r) ⟨?_, fun _ _ => trivial⟩ (ZN (Nat.le_succ n) h)
  have := h.1
  simp; omega
theorem Oh {n : Nat} {a0 : YR} {a1 : List Zn} (h : 3 <= n) : Sm n (yr a0 a1) := by
  have h0 : Sm 0 ([] : List ZL) := ⟨Nat.zero_le _, fun _ _ => trivial⟩
  unfold yr
  refine ZR (p := fun r : List ZL => Sm n r) (ZR (p := fun r : List ZL => Sm n r) ?_ ?_) (ZR (p := fun r : List ZL => Sm n r) ?_ ?_)
  · exact Kl (ZN h (ZB (ZB (ZB h0))))
  · exact Kl (ZN (by omega) (ZB (ZB h0)))
  · exact Kl (ZN (by omega) (ZB (ZB h0)))
  · exact Kl (ZN (by omega) (ZB h0))
theorem Ib {n : Nat} {c d : ZL} (h : 1 <= n) : Sm n (V7 [c] [d]) := by
  show Sm n (XB (bif (KM c d).2 then [(KM c d).1] else []))
  exact Kl (ZR (p := fun r : List ZL => Sm n r) ⟨h, fun _ _ => trivial⟩ ⟨Nat.zero_le _, fun _ _ => trivial⟩)
theorem PX {n : Nat} {a0 : YR} {a1 : List Zn} (h : 1 <= n) : Sm n (zd a0 a1) := by
  unfold zd
  exact Ib h
theorem U5 {n : Nat} {a0 : List YJ} {a1 : List Zx} {a2 a3 : Int} (h : a1.length <= n) : Sm n (KC a0 a1 a2 a3) :=
  Kl ⟨Nat.le_trans (PI (F := JO a0 a1 a2 a3) (fun _ _ => rfl) (fun _ _ _ => rfl) (a1.length + 1) [] 0) (by simp; omega), fun _ _ => trivial⟩
def Fx (e : Zb) : Nat := cnL (fun s => s.ZO.length) e.ZZ
theorem Hl {l : List ZG} {i : Nat} (h : i < l.length) : cnL (fun s : ZG => s.ZO.length) (l.drop i) = (nth l i).ZO.length + cnL (fun s : ZG => s.ZO.length) (l.drop (i + 1)) := Hw _ h
theorem Z4 {n : Nat} {a0 : List ZE} {a1 : YR} (h : Sm n a0) : Sm n (JC a0 a1) :=
  ⟨Nat.le_trans (PI (F := Ju a0 a1) (fun _ _ => rfl) (fun _ _ _ => rfl) (a0.length + 1) [] 0) (by have := h.1; simp; omega), fun _ _ => trivial⟩
theorem Z9 {n : Nat} {a0 : List ZE} (h : Sm n a0) : Sm n (yQ a0) :=
  ⟨Nat.le_trans (PI (F := KF a0) (fun _ _ => rfl) (fun _ _ _ => rfl) (a0.length + 1) [] 0) (by have := h.1; simp; omega), fun _ _ => trivial⟩
theorem xI {n : Nat} (a0 : Zb) (a1 : ZM) (h : Sm n a0) : ∀ (m : Nat) (l : List (List Int)) (i : Nat), i <= a0.ZZ.length -> Sm n l -> l.length + (a0.ZZ.length - i) <= n -> Sm n (Qu a0 a1 m l i)
  | 0, _, _, _, _, _ => ⟨Nat.zero_le _, fun x hx => by cases hx⟩
  | m + 1, l, i, hi, hl, hk => by
    simp only [Qu]
    by_cases hv : i < a0.ZZ.length
    · rw [show decide ((i : Int) < (a0.ZZ.length : Int)) = true by simpa using hv, cond_true]
      refine xI a0 a1 h m _ (i + 1) hv ⟨by simp; omega, fun x hx => ?_⟩ (by simp; omega)
      rcases List.mem_append.1 hx with hx | hx
      · exact hl.2 x hx
      · rw [List.mem_singleton.1 hx]; exact Rm (Z2 (Zb.Y7 h))
    · rw [show decide ((i : Int) < (a0.ZZ.length : Int)) = false by simpa using hv, cond_false]; exact hl
theorem XX {n : Nat} {a0 : Zb} {a1 : ZM} (h : Sm n a0) : Sm n (Jp a0 a1) :=
  xI a0 a1 h _ [] 0 (Nat.zero_le _) ⟨Nat.zero_le _, fun x hx => by cases hx⟩ (by have z := Yf (Zb.Y7 h); simp; omega)
theorem MM {K z : Nat} {l : List ZE} {p : ZE} (hl : Sm K l) (hp : Sm K p) (hk : l.length + 1 <= K) : Sm K ((l.take z ++ [p]) ++ (l.drop z).take (l.length - z)) /\ ((l.take z ++ [p]) ++ (l.drop z).take (l.length - z)).length <= l.length + 1 := by
  have h : ((l.take z ++ [p]) ++ (l.drop z).take (l.length - z)).length <= l.length + 1 := by simp; omega
  refine ⟨⟨Nat.le_trans h hk, fun x hx => ?_⟩, h⟩
  simp only [List.mem_append, List.mem_singleton] at hx
  rcases hx with (hx | rfl) | hx
  · exact hl.2 x (List.mem_of_mem_take hx)
  · exact hp
  · exact hl.2 x (List.mem_of_mem_drop (List.mem_of_mem_take hx))
theorem Ky {K : Nat} (a0 : ZW) (a1 : Zb) (a2 : List (List Int)) (v : Nat) (h : Sm K a1) : ∀ (n : Nat) (l : List ZE) (i : Nat), i <= (nth a1.ZZ v).ZO.length -> Sm K l -> l.length + ((nth a1.ZZ v).ZO.length - i) <= K -> Sm K (Xz a0 a1 a2 v n l i) /\ (Xz a0 a1 a2 v n l i).length <= l.length + ((nth a1.ZZ v).ZO.length - i)
  | 0, _, _, _, _, _ => ⟨⟨Nat.zero_le _, fun x hx => by cases hx⟩, Nat.zero_le _⟩
  | n + 1, l, i, hi, hl, hk => by
    simp only [Xz]
    by_cases hv : i < (nth a1.ZZ v).ZO.length
    · rw [show decide ((i : Int) < ((nth a1.ZZ v).ZO.length : Int)) = true by simpa using hv, cond_true]
      have hp : Sm K (nth (nth a1.ZZ v).ZO i) := Z2 (ZG.XJ (Z2 (Zb.Y7 h)))
      refine ZR (p := fun (r : List ZE) => Sm K r /\ r.length <= l.length + ((nth a1.ZZ v).ZO.length - i)) ?_ ?_
      · obtain ⟨r1, r2⟩ := Ky a0 a1 a2 v h n l (i + 1) hv hl (by omega)
        exact ⟨r1, by omega⟩
      · obtain ⟨q1, q2⟩ := MM (z := Ka a1 v l i (l.length + 1) 0) hl hp (by omega)
        obtain ⟨r1, r2⟩ := Ky a0 a1 a2 v h n _ (i + 1) hv q1 (by omega)
        exact ⟨r1, by omega⟩
    · rw [show decide ((i : Int) < ((nth a1.ZZ v).ZO.length : Int)) = false by simpa using hv, cond_false]
      exact ⟨hl, Nat.le_add_right _ _⟩
theorem xi {K : Nat} (a0 : ZW) (a1 : Zb) (a2 : List (List Int)) (h : Sm K a1) : ∀ (n : Nat) (l : List ZE) (i : Nat), i <= a1.ZZ.length -> Sm K l -> l.length + cnL (fun s : ZG => s.ZO.length) (a1.ZZ.drop i) <= K -> Sm K (JM a0 a1 a2 n l i)
  | 0, _, _, _, _, _ => ⟨Nat.zero_le _, fun x hx => by cases hx⟩
  | n + 1, l, i, hi, hl, hk => by
    simp only [JM]
    by_cases hv : i < a1.ZZ.length
    · rw [show decide ((i : Int) < (a1.ZZ.length : Int)) = true by simpa using hv, cond_true]
      have hd := Hl hv
      obtain ⟨r1, r2⟩ := Ky a0 a1 a2 i h ((nth a1.ZZ i).ZO.length + 1) l 0 (Nat.zero_le _) hl (by omega)
      exact xi a0 a1 a2 h n _ (i + 1) hv r1 (by omega)
    · rw [show decide ((i : Int) < (a1.ZZ.length : Int)) = false by simpa using hv, cond_false]; exact hl
theorem ZF {K : Nat} {a0 : ZW} {a1 : Zb} {a2 : List (List Int)} (h : Sm K a1) (hp : Fx a1 <= 2097152) (hk : 2097152 <= K) : Sm K (Zc a0 a1 a2) :=
  xi a0 a1 a2 h _ [] 0 (Nat.zero_le _) ⟨Nat.zero_le _, fun x hx => by cases hx⟩ (by rw [List.drop_zero]; simp only [List.length_nil]; exact Nat.le_trans (by rw [Nat.zero_add]; exact hp) hk)
theorem U9 (a0 : ZW) (a1 : Zp) : (Yq a0 a1).size <= 400 := by
  have h1 := YQ a1.Id
  have h2 := YQ a1.Sig.Key
  have h3 := YQ (a1.XM.ZO.length : Int)
  have h4 := YQ (a1.XM.ZJ.length : Int)
  have h5 := xD (zb a0 a1)
  unfold Yq
  simp only [ByteArray.size_append]
  show 1 + _ + 2 + _ + 1 + _ + 1 + _ + 1 + _ <= 400
  omega
theorem L8 (x : Int) : 0 <= Ow .i64 x 255 /\ Ow .i64 x 255 <= 255 := by
  have h : (BitVec.ofInt IntKind.i64.bits x &&& BitVec.ofInt IntKind.i64.bits 255).toNat <= 255 := by
    rw [BitVec.toNat_and]; exact Nat.le_trans Nat.and_le_right (Nat.le_of_ble_eq_true rfl)
  unfold Ow
  rw [YS (by omega) (by omega)]
  omega
theorem Kh (c : ZI) : 0 <= (Zu c).2 /\ (Zu c).2 <= 255 := by
  unfold Zu
  exact ZR (p := fun r : ZI × Int => 0 <= r.2 /\ r.2 <= 255) (L8 _) (L8 _)
theorem YY (c : ZI) (n : Int) : 0 <= (ZA c n).2 /\ (0 < n -> (ZA c n).2 < n) := by
  unfold ZA
  refine jV (p := fun r : ZI × Int => 0 <= r.2 /\ (0 < n -> r.2 < n)) (fun h => ⟨Int.le_refl _, fun h0 => h0⟩) (fun h => ?_)
  have hn : 0 < n := by simp at h; omega
  have h1 := Kh c
  have h2 := Kh (Zu c).1
  have h3 := Kh (Zu (Zu c).1).1
  refine ZR (p := fun r : ZI × Int => 0 <= r.2 /\ (0 < n -> r.2 < n)) ⟨Int.tmod_nonneg _ h1.1, fun _ => Int.tmod_lt_of_pos _ hn⟩ ⟨Int.tmod_nonneg _ ?_, fun _ => Int.tmod_lt_of_pos _ hn⟩
  simp only [Yw]
  omega
theorem N5 (c : ZI) (n : Int) : (ZA c n).2 <= 16777215 := by
  unfold ZA
  have h1 := Kh c
  have h2 := Kh (Zu c).1
  have h3 := Kh (Zu (Zu c).1).1
  refine ZR (p := fun r : ZI × Int => r.2 <= 16777215) (show (0 : Int) <= 16777215 by decide) (jV (p := fun r : ZI × Int => r.2 <= 16777215) (fun h => ?_) (fun h => ?_))
  · have : (Int.tmod (Zu c).2 n).natAbs <= (Zu c).2.natAbs := by rw [Int.natAbs_tmod]; exact Nat.mod_le _ _
    show Int.tmod _ _ <= _
    have h5 := Int.tmod_nonneg n h1.1
    omega
  · show Int.tmod _ _ <= _
    have hw : 0 <= W ((W ((W ((Zu c).2 * 65536)) + (W ((Zu (Zu c).1).2 * 256)))) + (Zu (Zu (Zu c).1).1).2) /\ W ((W ((W ((Zu c).2 * 65536)) + (W ((Zu (Zu c).1).2 * 256)))) + (Zu (Zu (Zu c).1).1).2) <= 16777215 := by
      simp only [Yw]; omega
    have h4 : (Int.tmod (W ((W ((W ((Zu c).2 * 65536)) + (W ((Zu (Zu c).1).2 * 256)))) + (Zu (Zu (Zu c).1).1).2)) n).natAbs <= (W ((W ((W ((Zu c).2 * 65536)) + (W ((Zu (Zu c).1).2 * 256)))) + (Zu (Zu (Zu c).1).1).2)).natAbs := by rw [Int.natAbs_tmod]; exact Nat.mod_le _ _
    have h5 := Int.tmod_nonneg n hw.1
    omega
theorem UN (c : ZI) : (Xi c).2.size <= 11 := by
  unfold Xi Wc
  exact Ia (by decide) _
theorem Xo {n : Nat} (h : 4 <= n) : Sm n YN := ⟨h, fun _ _ => trivial⟩
theorem Ny {n : Nat} (h : 4 <= n) : Sm n Vy := ⟨h, fun _ _ => trivial⟩
theorem xA : Y1.length = 3 := rfl
theorem xB (a0 : Int) (a1 : List ByteArray) (a2 : Int) : ∀ (m v : Nat) (l : List Int), (XF a0 a1 a2 m v l).length <= l.length + m
  | 0, _, _ => Nat.zero_le _
  | m + 1, v, l => by
    rw [XF]
    refine ZR (p := fun r : List Int => r.length <= l.length + (m + 1)) ?_ (by omega)
    have := xB a0 a1 a2 m (v + 1) (l ++ [Lr 1 (KN a2 [a0, v])])
    simp only [List.length_append, List.length_singleton] at this
    omega
theorem TO {n : Nat} {a0 : Int} {a1 : List ByteArray} {a2 : Int} (h : Sm n a1) (hn : a1.length + 1 <= n) : Sm n (XV a0 a1 a2).1 := by
  unfold XV
  have := xB a0 a1 a2 (a1.length + 1) 0 []
  refine ZR (p := fun r : ZM × Bool => Sm n r.1) ⟨Sz.zero n, Sz.zero n⟩ ⟨h, Nat.le_trans this (by simpa using hn), fun _ _ => trivial⟩
theorem kE : ∀ (m : Nat) (l : List ByteArray) (i : Int) (b : List UInt8) (j : Nat) (h : Int), (∀ x ∈ l, x.size <= 11) -> (Xv m l i b j h).1.length <= l.length + m /\ ∀ x ∈ (Xv m l i b j h).1, x.size <= 11
  | 0, _, _, _, _, _, _ => ⟨Nat.zero_le _, fun x hx => by cases hx⟩
  | m + 1, l, i, b, j, h, hl => by
    rw [Xv]
    refine ZR (p := fun r : (List ByteArray) × (List UInt8) × Nat × Int => r.1.length <= l.length + (m + 1) /\ ∀ x ∈ r.1, x.size <= 11) ?_ ⟨by show l.length <= _; omega, hl⟩
    have := kE m (l ++ [(Xi (ZI.mk b j h)).2]) (W (i - 1)) (Xi (ZI.mk b j h)).1.b (Xi (ZI.mk b j h)).1.i (Xi (ZI.mk b j h)).1.h (fun x hx => by
      rcases List.mem_append.1 hx with hx | hx
      · exact hl x hx
      · rw [List.mem_singleton.1 hx]; exact UN _)
    simp only [List.length_append, List.length_singleton] at this
    exact ⟨by omega, this.2⟩
theorem jc {n : Nat} {a0 : ZI} (h : 20 <= n) : Sm n (Zm a0).2 := by
  unfold Zm
  have := kE 5 [] (W (1 + (ZA a0 3).2)) (ZA a0 3).1.b (ZA a0 3).1.i (ZA a0 3).1.h (fun x hx => by cases hx)
  simp only [List.length_nil] at this
  exact TO ⟨by omega, fun x hx => Nat.le_trans (this.2 x hx) (by omega)⟩ (by omega)
theorem xn {n : Nat} {a0 : ZI} (h : 20 <= n) : Sm n (ZY a0).2.2 := jc h
theorem Qo {n : Nat} {a0 : ZI} (h : 20 <= n) : Sm n (JP a0).2 := by
  unfold JP
  refine ZR (p := fun r : ZI × ZE => Sm n r.2) (VA (by omega)) (ZR (p := fun r : ZI × ZE => Sm n r.2) (Xc (by omega)) (ZR (p := fun r : ZI × ZE => Sm n r.2) (Rh (by omega)) (ZR (p := fun r : ZI × ZE => Sm n r.2) (VF (by omega)) (Tg (by omega)))))
theorem jv {n m : Nat} {a0 : ZG} {a1 : ZE} (hn : n + 1 <= m) (h : Sm n a0) (hx : Sm m a1) : Sm m (QC a0 a1).1 := by
  have h1 : Sm m a0 := ZN (by omega) h
  unfold QC
  refine ZR (p := fun r : ZG × Bool => Sm m r.1) h1 ⟨⟨?_, fun y hy => ?_⟩, h1.2⟩
  · have : a0.ZO.length <= n := h.1.1
    simp only [List.length_append, List.length_singleton]; omega
  · rcases List.mem_append.1 hy with hy | hy
    · exact h1.1.2 y hy
    · rw [List.mem_singleton.1 hy]; exact hx
theorem Xp {n m : Nat} {a0 : ZG} {a1 : ZK} (hn : n + 1 <= m) (h : Sm n a0) (hx : Sm m a1) : Sm m (Zz a0 a1).1 := by
  have h1 : Sm m a0 := ZN (by omega) h
  unfold Zz
  refine ZR (p := fun r : ZG × Bool => Sm m r.1) h1 ⟨h1.1, ⟨?_, fun y hy => ?_⟩⟩
  · have : a0.ZJ.length <= n := h.2.1
    simp only [List.length_append, List.length_singleton]; omega
  · rcases List.mem_append.1 hy with hy | hy
    · exact h1.2.2 y hy
    · rw [List.mem_singleton.1 hy]; exact hx
theorem W5 (x : ZX) (c : YR) : Sm 30 (ZG.mk ([(Yv x), (XD c)] : List ZE) ([] : List ZK)) := ⟨⟨by simp, fun y hy => by
    rcases List.mem_cons.1 hy with rfl | hy
    · exact VF (by omega)
    · rw [List.mem_singleton.1 hy]; exact VA (by omega)⟩, Sz.zero 30⟩
theorem S6 (x : ZX) (c : YR) (s : Zn) : Sm 31 (QC (ZG.mk ([(Yv x), (XD c)] : List ZE) ([] : List ZK)) (Xg s)).1 := jv (n := 30) (by omega) (W5 x c) (Xc (by omega))
theorem Kf {n : Nat} (x : ZX) (c : YR) (h : 30 <= n := by decide) : Sm n (ZG.mk ([(Yv x), (XD c)] : List ZE) ([] : List ZK)) := ZN h (W5 x c)
theorem Ks {n : Nat} (x : ZX) (c : YR) (s : Zn) (h : 31 <= n := by decide) : Sm n (QC (ZG.mk ([(Yv x), (XD c)] : List ZE) ([] : List ZK)) (Xg s)).1 := ZN h (S6 x c s)
theorem qg {n : Nat} {a0 : ZI} (h : 50 <= n) : Sm n (Zj a0).2.1 /\ Sm n (Zj a0).2.2.1 := by
  have h0 := W5
  have h1 := S6
  unfold Zj
  refine ZR (p := fun r : ZI × ZG × ZM × ZX => Sm n r.2.1 /\ Sm n r.2.2.1) (ZR (p := fun r : ZI × ZG × ZM × ZX => Sm n r.2.1 /\ Sm n r.2.2.1) ⟨?_, ?_⟩ ⟨?_, ?_⟩) (ZR (p := fun r : ZI × ZG × ZM × ZX => Sm n r.2.1 /\ Sm n r.2.2.1) ⟨?_, ?_⟩ ⟨?_, ?_⟩)
  · exact jv (n := 31) (by omega) (h1 _ _ _) (Qo (by omega))
  · exact xn (by omega)
  · exact ZN (n := 31) (by omega) (h1 _ _ _)
  · exact xn (by omega)
  · exact jv (n := 30) (by omega) (h0 _ _) (Qo (by omega))
  · exact xn (by omega)
  · exact ZN (n := 30) (by omega) (h0 _ _)
  · exact xn (by omega)
theorem Wn {n : Nat} {a0 : ZI} (h : 50 <= n) : Sm n (Zj a0).2.2.1 := (qg h).2
theorem xS (a0 : List YJ) (a1 : List ZP) (a2 a3 : Int) (a4 a6 : List Int) (a7 a8 : Int) : ∀ (m v : Nat) (l : List ZV), (zj a0 a1 a2 a3 a4 a6 a7 a8 m v l).length <= l.length + m
  | 0, _, _ => Nat.zero_le _
  | m + 1, v, l => by
    rw [zj]
    refine ZR (p := fun r : List ZV => r.length <= l.length + (m + 1)) (ZR (p := fun r : List ZV => r.length <= l.length + (m + 1)) ?_ ?_) (by omega)
    · refine Nat.le_trans (xS a0 a1 a2 a3 a4 a6 a7 a8 m (v + 1) _) ?_
      simp only [List.length_append, List.length_singleton]; omega
    · refine Nat.le_trans (xS a0 a1 a2 a3 a4 a6 a7 a8 m (v + 1) _) ?_
      omega
theorem xw {n : Nat} {a0 : List YJ} {a1 : List ZP} {a2 a3 : Int} {a4 : List Int} {a5 : Int} {a6 : List Int} {a7 a8 : Int} (h : 17 <= n) (h6 : a6.length + 1 <= n) : Sm n (zi a0 a1 a2 a3 a4 a5 a6 a7 a8) := by
  unfold zi
  have := xS a0 a1 a2 a3 a4 a6 a7 a8 (a6.length + 1) 0 []
  exact ⟨O1 h, Nat.le_trans this (by simpa using h6), fun _ _ => trivial⟩
theorem UO {n m : Nat} {a0 : ZI} {a1 : ZG} {a2 : ZM} {a3 a4 : Int} (hn : n + 1 <= m) (iM : 17 <= m) (h : Sm n a1) : Sm m (QD a0 a1 a2 a3 a4).2 := by
  unfold QD
  refine ZR (p := fun r : ZI × ZG => Sm m r.2) (ZN (by omega) h) (ZR (p := fun r : ZI × ZG => Sm m r.2) ?_ ?_)
  · exact Xp hn h (xw iM (by simp; omega))
  · exact Xp hn h (xw iM (by simp; omega))
theorem VH (a0 : ZI) : ∀ (m k : Nat) (x y : Int) (b : List UInt8) (i : Nat) (h : Int) (p : List ZE) (c : List ZK), 17 <= k -> Sm k (ZG.mk p c) -> Sm (k + m) (ZG.mk (KT a0 m x y b i h p c).2.2.2.1 (KT a0 m x y b i h p c).2.2.2.2)
  | 0, k, _, _, _, _, _, _, _, _, _ => ⟨Sz.zero _, Sz.zero _⟩
  | m + 1, k, x, y, b, i, h, p, c, hk, hs => by
    rw [KT]
    refine ZR (p := fun r : (List UInt8) × Nat × Int × (List ZE) × (List ZK) => Sm (k + (m + 1)) (ZG.mk r.2.2.2.1 r.2.2.2.2)) ?_ (ZN (by omega) hs)
    rw [show k + (m + 1) = k + 1 + m by omega]
    exact VH a0 m (k + 1) _ _ _ _ _ _ _ (by omega) (UO (n := k) (Nat.le_refl _) (by omega) hs)
theorem N9 {n : Nat} {s : ZG} (h : Sm n s) : Sm n (ZG.mk s.ZO s.ZJ) := h
theorem Mh {n : Nat} {a0 : ZI} (h : 60 <= n) : Sm n (Xn a0).2.1 /\ Sm n (Xn a0).2.2.1 := by
  obtain ⟨h1, hd⟩ := qg (n := 50) (a0 := a0) (by omega)
  have h2 := fun x y b i h => VH a0 5 50 x y b i h (Zj a0).2.1.ZO (Zj a0).2.1.ZJ (by omega) (N9 h1)
  have h3 := ZN (m := n) (by omega) hd
  unfold Xn
  generalize Zj a0 = z at h2 h3 ⊢
  have h4 := h2 (Z3 z.1 ([10, 25, 30] : List Int)).2 (ZA (Z3 z.1 ([10, 25, 30] : List Int)).1 4).2 (ZA (Z3 z.1 ([10, 25, 30] : List Int)).1 4).1.b (ZA (Z3 z.1 ([10, 25, 30] : List Int)).1 4).1.i (ZA (Z3 z.1 ([10, 25, 30] : List Int)).1 4).1.h
  generalize KT a0 5 (Z3 z.1 ([10, 25, 30] : List Int)).2 (ZA (Z3 z.1 ([10, 25, 30] : List Int)).1 4).2 (ZA (Z3 z.1 ([10, 25, 30] : List Int)).1 4).1.b (ZA (Z3 z.1 ([10, 25, 30] : List Int)).1 4).1.i (ZA (Z3 z.1 ([10, 25, 30] : List Int)).1 4).1.h z.2.1.ZO z.2.1.ZJ = q at h4 ⊢
  obtain ⟨q1, q2, q3, q4, q5⟩ := q
  exact ⟨ZN (n := 50 + 5) (by omega) h4, h3⟩
theorem xz {n : Nat} {a0 : ZI} (h : 60 <= n) : Sm n (Xm a0).2 := by
  have h0 := Mh (a0 := a0) h
  unfold Xm
  simp only [Zp.kZ]
  exact ⟨h0.2, h0.1⟩
theorem jN : ∀ (m k : Nat) (x : Int) (b : List UInt8) (i : Nat) (h y : Int) (l : List Zp), 60 <= k -> Sm k (Zf.mk y l) -> Sm (k + m) (Zf.mk (JV m x b i h y l).2.2.2.1 (JV m x b i h y l).2.2.2.2)
  | 0, k, _, _, _, _, _, _, _, _ => Sz.zero (α := List Zp) _
  | m + 1, k, x, b, i, h, y, l, hk, hs => by
    rw [JV]
    refine ZR (p := fun r : (List UInt8) × Nat × Int × Int × (List Zp) => Sm (k + (m + 1)) (Zf.mk r.2.2.2.1 r.2.2.2.2)) ?_ (ZN (n := k) (by omega) hs)
    have := jN m (k + 1) (W (x - 1)) (Xm (ZI.mk b i h)).1.b (Xm (ZI.mk b i h)).1.i (Xm (ZI.mk b i h)).1.h (Km (Zf.mk y l) (Xm (ZI.mk b i h)).2).1.Id (Km (Zf.mk y l) (Xm (ZI.mk b i h)).2).1.Zl (by omega) (TH hs (xz (by omega)))
    rw [show k + (m + 1) = k + 1 + m by omega]
    exact this
theorem Ry {n : Nat} {a0 : ZI} (h : 70 <= n) : Sm n (Kc a0).2 := by
  unfold Kc
  split
  rename_i z1 z2 z3 z4 z5 e
  have h2 := jN 5 60 (ZA (ZA a0 3).1 4).2 (ZA (ZA a0 3).1 4).1.b (ZA (ZA a0 3).1 4).1.i (ZA (ZA a0 3).1 4).1.h (ZA a0 3).2 [] (by omega) (Sz.zero (α := List Zp) _)
  rw [e] at h2
  exact ZN (n := 60 + 5) (by omega) h2
theorem Om {n : Nat} {a0 : ZI} (h : 20 <= n) : Sm n (KZ a0).2 := ⟨XQ (by omega), Xo (by omega), Ny (by omega)⟩
theorem GF (p : Int) : 0 <= RG p 2147483647 /\ RG p 2147483647 < 2147483647 := by
  unfold RG
  rw [show (!(YE 2147483647 1 1000000000000)) = false by decide, cond_false]
  have h1 : (Int.tmod p 2147483647).natAbs < 2147483647 := by rw [Int.natAbs_tmod]; exact Nat.mod_lt _ (by decide)
  have hw : W (Int.tmod p 2147483647 + 2147483647) = Int.tmod p 2147483647 + 2147483647 := by simp only [Yw]; omega
  rw [hw]
  exact ⟨Int.tmod_nonneg _ (by omega), Int.tmod_lt_of_pos _ (by decide)⟩
theorem Tt (a : List Int) : ∀ (n : Nat) (v : Int) (i : Nat), 0 <= v /\ v < 2147483647 -> 0 <= kW a n v i /\ kW a n v i < 2147483647
  | 0, _, _, _ => ⟨Int.le_refl 0, show (0 : Int) < 2147483647 by decide⟩
  | n + 1, v, i, h => by
    rw [kW]
    refine ZR (p := fun r : Int => 0 <= r /\ r < 2147483647) (Tt a n _ (i + 1) ?_) h
    have h1 := GF (nth a i)
    have hw : W ((W ((W (v * 1000003)) + (RG (nth a i) 2147483647))) + 13) = v * 1000003 + RG (nth a i) 2147483647 + 13 := by simp only [Yw]; omega
    rw [hw]
    exact ⟨Int.tmod_nonneg _ (by omega), Int.tmod_lt_of_pos _ (by decide)⟩
theorem OK (a : List Int) : 0 <= SG a /\ SG a < 2147483647 := Tt a (a.length + 1) 11 0 ⟨by decide, by decide⟩
theorem jE : ∀ (m : Nat) (l : List Int) (i : Int) (b : List UInt8) (j : Nat) (h : Int), (Jx m l i b j h).1.length <= l.length + m
  | 0, _, _, _, _, _ => Nat.zero_le _
  | m + 1, l, i, b, j, h => by
    rw [Jx]
    refine ZR (p := fun r : (List Int) × (List UInt8) × Nat × Int => r.1.length <= l.length + (m + 1)) (Nat.le_trans (jE m _ _ _ _ _) ?_) (by show l.length <= _; omega)
    simp only [List.length_append, List.length_singleton]; omega
theorem yN {n : Nat} {a0 : ZI} (h : 10 <= n) : Sm n (YZ a0 4).2 := by
  have h1 := YY a0 4
  have h2 := jE ((ZA a0 4).2.toNat + 2) [] (ZA a0 4).2 (ZA a0 4).1.b (ZA a0 4).1.i (ZA a0 4).1.h
  unfold YZ
  generalize Jx ((ZA a0 4).2.toNat + 2) [] (ZA a0 4).2 (ZA a0 4).1.b (ZA a0 4).1.i (ZA a0 4).1.h = z at h2 ⊢
  obtain ⟨z1, z2, z3, z4⟩ := z
  simp only [List.length_nil] at h2
  refine ⟨?_, fun _ _ => trivial⟩
  show z1.length <= n
  omega
theorem VI : ∀ (m : Nat) (l : List ByteArray) (i : Int) (b : List UInt8) (j : Nat) (h : Int), i < m -> 0 <= i -> i <= 100 -> l.length <= (Xv m l i b j h).1.length /\ (0 < i -> l.length < (Xv m l i b j h).1.length)
  | 0, l, i, b, j, h, hi, _, _ => by omega
  | m + 1, l, i, b, j, h, hi, _, h2 => by
    rw [Xv]
    by_cases hp : i > 0
    · rw [show decide (i > 0) = true by simpa using hp, cond_true]
      have hw : W (i - 1) = i - 1 := by simp only [Yw]; omega
      rw [hw]
      have h3 := VI m (l ++ ([(Xi (ZI.mk b j h)).2] : List ByteArray)) (i - 1) (Xi (ZI.mk b j h)).1.b (Xi (ZI.mk b j h)).1.i (Xi (ZI.mk b j h)).1.h (by omega) (by omega) (by omega)
      have h4 := h3.1
      rw [List.length_append, List.length_singleton] at h4
      exact ⟨by omega, fun _ => by omega⟩
    · rw [show decide (i > 0) = false by simpa using hp, cond_false]
      exact ⟨Nat.le_refl _, fun h => absurd h hp⟩
theorem H2 {x a b : Int} (h1 : a <= x) (h2 : x <= b) : YE x a b = true := by simp [YE]; omega
theorem ye (a0 : Int) (a1 : List ByteArray) (a2 : Int) : ∀ (m v : Nat) (l : List Int), a1.length < m + v -> v <= a1.length -> l.length = v -> (∀ x ∈ l, 1 <= x /\ x <= 1000000000000) -> (XF a0 a1 a2 m v l).length = a1.length /\ ∀ x ∈ XF a0 a1 a2 m v l, 1 <= x /\ x <= 1000000000000
  | 0, v, l, h1, h2, _, _ => by omega
  | m + 1, v, l, h1, h2, h3, h4 => by
    rw [XF]
    by_cases hv : v < a1.length
    · rw [show decide ((v : Int) < (a1.length : Int)) = true by simpa using hv, cond_true]
      refine ye a0 a1 a2 m (v + 1) _ (by omega) hv (by rw [List.length_append, List.length_singleton, h3]) (fun x hx => ?_)
      rcases List.mem_append.1 hx with hx | hx
      · exact h4 x hx
      · rw [List.mem_singleton.1 hx]
        have := OK ((([a2] : List Int) ++ ([a0, (v : Int)] : List Int)) ++ ([a2] : List Int))
        unfold Lr
        refine jV (p := fun r : Int => 1 <= r /\ r <= 1000000000000) (fun hc => ?_) (fun _ => ⟨by decide, by decide⟩)
        simp only [decide_eq_true_eq] at hc
        unfold KN at hc ⊢
        omega
    · rw [show decide ((v : Int) < (a1.length : Int)) = false by simpa using hv, cond_false]
      exact ⟨by omega, h4⟩
theorem RX {d : ZM} (ht : 0 <= d.QF /\ d.QF <= 999) (h1 : 1 <= d.Zd.length /\ d.Zd.length <= 6) (h2 : ∀ x ∈ d.Zd, x.size <= 40) (h3 : d.Yh.length = d.Zd.length) (h4 : ∀ x ∈ d.Yh, 1 <= x /\ x <= 1000000000000) : YW d = true := by
  have k1 : ∀ n v, Yx d n v = .inr () := by
    intro n
    induction n with
    | zero => intro v; rfl
    | succ n ih =>
      intro v
      rw [Yx]
      by_cases hv : v < d.Zd.length
      · have := h2 _ (by rw [SU hv]; exact List.getElem_mem hv : nth d.Zd v ∈ d.Zd)
        rw [show decide (((nth d.Zd v).size : Int) > 40) = false by simp; omega, cond_false, ih]
        cases decide ((v : Int) < (d.Zd.length : Int)) <;> rfl
      · rw [show decide ((v : Int) < (d.Zd.length : Int)) = false by simpa using hv, cond_false]
  have k2 : ∀ n v, Yt d n v = .inr () := by
    intro n
    induction n with
    | zero => intro v; rfl
    | succ n ih =>
      intro v
      rw [Yt]
      by_cases hv : v < d.Yh.length
      · have := h4 _ (by rw [SU hv]; exact List.getElem_mem hv : nth d.Yh v ∈ d.Yh)
        rw [H2 this.1 this.2, Bool.not_true, cond_false, ih]
        cases decide ((v : Int) < (d.Yh.length : Int)) <;> rfl
      · rw [show decide ((v : Int) < (d.Yh.length : Int)) = false by simpa using hv, cond_false]
  unfold YW
  rw [k1, k2]
  simp only [YE, Bool.and_eq_true, decide_eq_true_eq, beq_iff_eq]
  omega
theorem qQ (a0 : ZI) : YW (Zm a0).2 = true := by
  have h0 := YY a0 3
  have hw : W (1 + (ZA a0 3).2) = 1 + (ZA a0 3).2 := by simp only [Yw]; omega
  have h1 := kE 5 [] (W (1 + (ZA a0 3).2)) (ZA a0 3).1.b (ZA a0 3).1.i (ZA a0 3).1.h (fun x hx => by cases hx)
  have h2 := VI 5 [] (W (1 + (ZA a0 3).2)) (ZA a0 3).1.b (ZA a0 3).1.i (ZA a0 3).1.h (by rw [hw]; omega) (by rw [hw]; omega) (by rw [hw]; omega)
  unfold Zm
  generalize Xv 5 [] (W (1 + (ZA a0 3).2)) (ZA a0 3).1.b (ZA a0 3).1.i (ZA a0 3).1.h = z at h1 h2 ⊢
  obtain ⟨z1, z2, z3, z4⟩ := z
  simp only [List.length_nil] at h1 h2
  have h3 := h2.2 (by rw [hw]; omega)
  show YW (XV (ZA (ZI.mk z2 z3 z4) 5).2 z1 11).1 = true
  have ht := YY (ZI.mk z2 z3 z4) 5
  generalize (ZA (ZI.mk z2 z3 z4) 5).2 = t at ht ⊢
  have hv := ye t z1 11 (z1.length + 1) 0 [] (by omega) (Nat.zero_le _) rfl (fun x hx => by cases hx)
  unfold XV
  generalize XF t z1 11 (z1.length + 1) 0 [] = q at hv ⊢
  have hd : YW (ZM.mk t z1 q) = true := RX (d := ZM.mk t z1 q) (by show 0 <= t /\ t <= 999; omega) (by show 1 <= z1.length /\ z1.length <= 6; omega) (fun x hx => Nat.le_trans (h1.2 x hx) (by decide)) hv.1 hv.2
  show YW (bif ((!(YW (ZM.mk t z1 q))) || (!(xk 11))) then ((ZM.mk 0 ([] : List ByteArray) ([] : List Int)), false) else ((ZM.mk t z1 q), true)).1 = true
  rw [hd]
  exact hd
theorem UW (a0 : ZI) : (ZY a0).2.1.Zv = 1 + (ZA (Zm a0).1 3).2 := by
  have h0 := YY (Zm a0).1 3
  have hk := YY (ZA (Zm a0).1 3).1 3
  have hd := qQ a0
  unfold ZY KE Kg
  generalize (ZA (ZA (Zm a0).1 3).1 3) = c at hk ⊢
  generalize hy : (ZA (Zm a0).1 3).2 = n at h0 ⊢
  have w1 : W (11 + n) = 11 + n := by simp only [Yw]; omega
  have w2 : W (1 + n) = 1 + n := by simp only [Yw]; omega
  have w3 : W (1 + c.2) = 1 + c.2 := by simp only [Yw]; omega
  rw [w1, w2, w3]
  have hg : 0 <= QR (1 + n) (Zm a0).2 /\ QR (1 + n) (Zm a0).2 < 2147483647 := by
    unfold QR
    rw [hd]
    exact OK _
  generalize QR (1 + n) (Zm a0).2 = g at hg ⊢
  have hs : K5 (ZX.mk (11 + n) (1 + n) (1 + n) g (1 + c.2) 0 0 0 0) = true := by
    simp only [K5, YE, Bool.and_eq_true, decide_eq_true_eq]
    omega
  have hf : decide (Yj YU (11 + n) < 0) = false := by
    have : n = 0 \/ n = 1 \/ n = 2 := by omega
    rcases this with rfl | rfl | rfl <;> decide
  rw [hs]
  simp only [hf]
  rfl
theorem qy {a0 : ZM} (h : YW a0 = true) : a0.Yh.length = a0.Zd.length := by
  have k1 : ∀ n v r, Yx a0 n v = .inl r -> r = false := by
    intro n
    induction n with
    | zero => intro v r h; cases h
    | succ n ih =>
      intro v r
      rw [Yx]
      let p := fun w : Sum Bool Unit => w = .inl r -> r = false
      exact ZR (p := p) (ZR (p := p) (fun h => by cases h; rfl) (ih _ _)) (fun h => by cases h)
  have k2 : ∀ n v r, Yt a0 n v = .inl r -> r = false := by
    intro n
    induction n with
    | zero => intro v r h; cases h
    | succ n ih =>
      intro v r
      rw [Yt]
      let p := fun w : Sum Bool Unit => w = .inl r -> r = false
      exact ZR (p := p) (ZR (p := p) (fun h => by cases h; rfl) (ih _ _)) (fun h => by cases h)
  unfold YW at h
  cases e1 : Yx a0 (a0.Zd.length + 1) 0 with
  | inl r => rw [e1] at h; have := k1 _ _ r e1; subst this; cases h
  | inr _ =>
    rw [e1] at h
    cases e2 : Yt a0 (a0.Yh.length + 1) 0 with
    | inl r => rw [e2] at h; have := k2 _ _ r e2; subst this; cases h
    | inr _ =>
      rw [e2] at h
      simp only [Bool.and_eq_true, beq_iff_eq] at h
      omega
theorem VE (a0 : List Int) (a1 : ZM) (k : Nat) : ∀ (m : Nat) (l : List Int) (v : Nat), a0.length < m + v -> v <= a0.length -> l.length <= v -> (QW a0 a1 k m l v).length <= a0.length
  | 0, _, v, h, hv, _ => by omega
  | m + 1, l, v, h, hv, hl => by
    rw [QW]
    by_cases wN : v < a0.length
    · rw [decide_eq_true (show (v : Int) < (a0.length : Int) by omega), zS]
      exact VE a0 a1 k m _ (v + 1) (by omega) wN (by simp; omega)
    · rw [decide_eq_false (show ¬ (v : Int) < (a0.length : Int) by omega), Qi]
      omega
theorem qc (a0 : List Int) (a1 : ZM) (a2 : List Int) {n : Nat} (ha : a0.length <= n) (hp : Sm n a1) : ∀ (m v : Nat) (s : List Bool) (p : List ByteArray) (t : List Int) (g : List (List Int)), a1.Zd.length < m + v -> v <= a1.Zd.length -> s.length = v /\ p.length = v /\ t.length = v /\ g.length = v /\ (∀ x ∈ p, Sm n x) /\ (∀ x ∈ g, Sm n x) ->
    (YF a0 a1 a2 m v s p t g).1.length = a1.Zd.length /\ (YF a0 a1 a2 m v s p t g).2.1.length = a1.Zd.length /\ (YF a0 a1 a2 m v s p t g).2.2.1.length = a1.Zd.length /\ (YF a0 a1 a2 m v s p t g).2.2.2.length = a1.Zd.length /\ (∀ x ∈ (YF a0 a1 a2 m v s p t g).2.1, Sm n x) /\ (∀ x ∈ (YF a0 a1 a2 m v s p t g).2.2.2, Sm n x)
  | 0, v, _, _, _, _, h, hv, _ => by omega
  | m + 1, v, s, p, t, g, h, hv, ⟨h1, h2, h3, h4, h5, h6⟩ => by
    rw [YF]
    by_cases wN : v < a1.Zd.length
    · rw [decide_eq_true (show (v : Int) < (a1.Zd.length : Int) by omega), zS]
      cases UA a2 (v : Int) with
      | true =>
        rw [zS]
        have h7 := VE a0 a1 v (a0.length + 1) [] 0 (by omega) (Nat.zero_le _) (Nat.le_refl _)
        refine qc a0 a1 a2 ha hp m (v + 1) _ _ _ _ (by omega) wN ⟨by simp [h1], by simp [h2], by simp [h3], by simp [h4], ?_, ?_⟩
        · exact R7 h5 (all_cons (Nat.zero_le _) all_nil)
        · exact R7 h6 (all_cons ⟨Nat.le_trans h7 ha, fun _ _ => trivial⟩ all_nil)
      | false =>
        rw [Qi]
        refine qc a0 a1 a2 ha hp m (v + 1) _ _ _ _ (by omega) wN ⟨by simp [h1], by simp [h2], by simp [h3], by simp [h4], ?_, ?_⟩
        · exact R7 h5 (all_cons (Z2 (ZM.qb hp)) all_nil)
        · exact R7 h6 (all_cons Ex all_nil)
    · rw [decide_eq_false (show ¬ (v : Int) < (a1.Zd.length : Int) by omega), Qi]
      have e : v = a1.Zd.length := by omega
      exact ⟨h1.trans e, h2.trans e, h3.trans e, h4.trans e, h5, h6⟩
theorem Ww {n : Nat} {a0 : List Int} {a1 : ZM} {a2 : List Int} (h : YW a1 = true) (ha : a0.length <= n) (hp : Sm n a1) :
    Sm n (Yi a0 a1 a2).1 /\ (Yi a0 a1 a2).1.Methods = a0 /\ (Yi a0 a1 a2).1.Shown.length = a1.Zd.length /\ (Yi a0 a1 a2).1.Zd.length = a1.Zd.length /\ (Yi a0 a1 a2).1.Xu.length = a1.Zd.length := by
  have hl := Yf (ZM.qb hp)
  have k := qc a0 a1 a2 ha hp (a1.Zd.length + 1) 0 [] [] [] [] (by omega) (Nat.zero_le _) ⟨rfl, rfl, rfl, rfl, all_nil, all_nil⟩
  unfold Yi
  rw [h, Bool.not_true, Qi]
  generalize YF a0 a1 a2 (a1.Zd.length + 1) 0 [] [] [] [] = z at k ⊢
  obtain ⟨z1, z2, z3, z4⟩ := z
  obtain ⟨k1, k2, k3, k4, k5, k6⟩ := k
  dsimp only at k1 k2 k3 k4 k5 k6 ⊢
  exact ⟨⟨⟨ha, fun _ _ => trivial⟩, ⟨Nat.le_trans (Nat.le_of_eq k1) hl, fun _ _ => trivial⟩, ⟨Nat.le_trans (Nat.le_of_eq k2) hl, k5⟩, ⟨Nat.le_trans (Nat.le_of_eq k3) hl, fun _ _ => trivial⟩, ⟨Nat.le_trans (Nat.le_of_eq k4) hl, k6⟩⟩, rfl, k1, k2, k4⟩
theorem PV (a0 : ZI) : 0 < (Zm a0).2.Zd.length := by
  have h := qQ a0
  unfold YW at h
  cases e1 : Yx (Zm a0).2 ((Zm a0).2.Zd.length + 1) 0 with
  | inl r => cases hz : (Zm a0).2.Zd.length with
    | zero => rw [hz] at e1; rw [Yx, hz, decide_eq_false (by omega), Qi] at e1; cases e1
    | succ _ => omega
  | inr _ =>
    rw [e1] at h
    cases e2 : Yt (Zm a0).2 ((Zm a0).2.Yh.length + 1) 0 with
    | inl r =>
      have k2 : ∀ n v r, Yt (Zm a0).2 n v = .inl r -> r = false := by
        intro n
        induction n with
        | zero => intro v r h; cases h
        | succ n ih =>
          intro v r
          rw [Yt]
          let p := fun w : Sum Bool Unit => w = .inl r -> r = false
          exact ZR (p := p) (ZR (p := p) (fun h => by cases h; rfl) (ih _ _)) (fun h => by cases h)
      rw [e2] at h; have := k2 _ _ r e2; subst this; cases h
    | inr _ =>
      rw [e2] at h
      simp only [Bool.and_eq_true, YE, decide_eq_true_eq] at h
      omega
theorem Kt (a0 : ZI) : Sm 20 (ZT a0).2.1 /\ (ZT a0).2.1.Methods.length = 3 /\ 0 < (ZT a0).2.1.Shown.length /\ 0 < (ZT a0).2.1.Zd.length /\ 0 < (ZT a0).2.1.Xu.length := by
  have hd := qQ a0
  have hp := PV a0
  have hs := jc (a0 := a0) (Nat.le_refl 20)
  unfold ZT
  generalize yz 4 ([] : List Int) 0 (Zm a0).1.b (Zm a0).1.i (Zm a0).1.h = z
  obtain ⟨z1, z2, z3, z4⟩ := z
  dsimp only
  have k := Ww (n := 20) (a0 := [1, 2, 4]) (a2 := z1) hd (by decide) hs
  exact ⟨k.1, by rw [k.2.1]; rfl, by omega, by omega, by omega⟩
theorem RA {n : Nat} {a0 : ZI} (h : 20 <= n) : Sm n (ZT a0).2.1 := ZN h (Kt a0).1
theorem HA {n : Nat} {a0 : ZI} (h : 21 <= n) : Sm n (qE a0).2.1 := by
  have k := RA (a0 := a0) (Nat.le_refl 20)
  have k := ZN (m := n) (by omega) k
  have hl := Yf (Zi.PK (RA (a0 := a0) (Nat.le_refl 20)))
  unfold qE
  generalize ZT a0 = w at k hl ⊢
  obtain ⟨w1, ⟨x1, x2, x3, x4, x5, x6⟩, w3⟩ := w
  obtain ⟨k2, k3, k4, k5, k6⟩ := k
  dsimp only at k2 k3 k4 k5 k6 hl ⊢
  generalize ZA w1 10 = q
  generalize Z3 q.1 ([(-1), 7, 1000] : List Int) = q2
  let p := fun z : ZI × Zi × ZM => Sm n z.2.1
  refine ZR (p := p) ⟨k2, k3, Ml k4 (show 1 <= n by omega), k5, k6⟩ ?_
  refine ZR (p := p) ⟨k2, Ml k3 trivial, k4, k5, k6⟩ ?_
  refine ZR (p := p) ⟨F0 k2, k3, k4, k5, k6⟩ ?_
  refine ZR (p := p) ⟨k2, k3, k4, ⟨?_, fun _ _ => trivial⟩, k6⟩ ?_
  · show (x5 ++ [5]).length <= n
    rw [List.length_append]
    exact Nat.le_trans (Nat.add_le_add_right hl 1) h
  refine ZR (p := p) ⟨k2, k3, k4, k5, k6⟩ ?_
  exact ZR (p := p) (ZR (p := p) ⟨k2, k3, k4, k5, Ml k6 (Ml (Z2 k6) trivial)⟩ ⟨k2, k3, k4, k5, k6⟩) ⟨k2, k3, k4, k5, k6⟩
theorem za {n : Nat} {a0 : List UInt8} (h : 21 <= n) : Sm n (Za a0) := by
  have k := HA (a0 := zE a0) h
  unfold Za Kv
  exact k
theorem zX (a0 : Zi) {n : Nat} (hp : Sm n a0) : ∀ (m : Nat) (b : ByteArray) (v : Nat), a0.Shown.length < m + v -> v <= a0.Shown.length -> (Ym a0 m b v).size <= b.size + (n + 3) * (a0.Shown.length - v)
  | 0, b, v, h, hv => by omega
  | m + 1, b, v, h, hv => by
    rw [Ym]
    by_cases wN : v < a0.Shown.length
    · rw [decide_eq_true (show (v : Int) < (a0.Shown.length : Int) by omega), zS]
      have e : a0.Shown.length - v = (a0.Shown.length - (v + 1)) + 1 := by omega
      have hx : (nth a0.Zd v).size <= n := Z2 (Zi.qb hp)
      rw [e, Nat.mul_succ]
      have s1 : ∀ x : ByteArray, x.size <= n + 3 -> (Ym a0 m (b ++ x) (v + 1)).size <= b.size + ((n + 3) * (a0.Shown.length - (v + 1)) + (n + 3)) := fun x hx => by
        have := zX a0 hp m (b ++ x) (v + 1) (by omega) wN
        rw [ByteArray.size_append] at this
        omega
      let p := fun z : ByteArray => z.size <= b.size + ((n + 3) * (a0.Shown.length - (v + 1)) + (n + 3))
      refine ZR (p := p) (s1 _ (show 2 <= n + 3 by omega)) (ZR (p := p) (s1 _ ?_) (s1 _ (show 3 <= n + 3 by omega)))
      rw [ByteArray.size_append, ByteArray.size_append]
      show 2 + _ + 1 <= _
      omega
    · rw [decide_eq_false (show ¬ (v : Int) < (a0.Shown.length : Int) by omega), Qi]
      omega
theorem Ws {a0 : Zi} {n : Nat} (hp : Sm n a0) : (YC a0).size <= 24 + (n + 3) * n := by
  have h := zX a0 hp (a0.Shown.length + 1) (Y3 a0.QF) 0 (by omega) (Nat.zero_le _)
  have h2 := YQ a0.QF
  have h3 := Nat.mul_le_mul_left (n + 3) (Yf (Zi.Gd hp))
  exact Nat.le_trans h (Nat.add_le_add h2 h3)
theorem Yk {n : Nat} {a0 : List UInt8} (h : 70 <= n) : Sm n (ZQ a0).1 /\ Sm n (ZQ a0).2 := by
  have k1 := Om (n := n) (a0 := zE a0) (by omega)
  have k2 := Ry (n := n) (a0 := (KZ (zE a0)).1) h
  unfold ZQ
  exact ⟨k1, k2⟩
end Go.Mo
