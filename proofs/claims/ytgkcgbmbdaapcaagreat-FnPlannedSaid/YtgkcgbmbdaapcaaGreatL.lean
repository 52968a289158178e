/- Plain lemmas on the models of the helpers. No condition. -/
import Derived.Test.YtgkcgbmbdaapcaaGreatM
namespace Go.Mo
open Go.Vm
set_option linter.unusedSimpArgs false
set_option linter.unusedVariables false
theorem zI (a0 : List Z3) (a1 : Int) : YR a0 a1 < (a0.length : Int) := WZ (F := xq a0 a1) (c := fun J => ((nth a0 J).Number == a1)) (fun _ => rfl) (fun _ _ => rfl) _ _
theorem Oa (a0 : ZS) : TK a0 = a0 := rfl
theorem N3 (a0 : List ZS) : UQ a0 = a0 := by
  have h := We (F := (jS a0)) (a := a0) (g := (fun x => x)) (fun _ => rfl) (fun _ _ _ => rfl) (a0.length + 1) [] 0 (by omega) (by omega)
  simp only [List.nil_append, List.drop_zero] at h
  unfold UQ
  rw [h]
theorem Oq (a0 : ZM) : TC a0 = a0 := rfl
theorem OP (a0 : ZO) : Wa a0 = a0 := by
  have h := We (F := (fun n v i => xx a0 n i v)) (a := a0.ZN) (g := (fun x => x)) (fun _ => rfl) (fun _ _ _ => rfl) (a0.ZN.length + 1) [] 0 (by omega) (by omega)
  simp only [List.nil_append, List.drop_zero] at h
  unfold Wa
  rw [h]
theorem xC (a0 : List ZJ) (a1 : Int) : YL a0 a1 < (a0.length : Int) := WZ (F := JT a0 a1) (c := fun J => ((nth a0 J).Id == a1)) (fun _ => rfl) (fun _ _ => rfl) _ _
theorem Nv (a0 : ZV) : RA a0 = a0 := rfl
theorem NN (a0 : Za) : TB a0 = a0 := rfl
theorem O6 (a0 : ZH) : WW a0 = a0 := by
  have h := We (F := (fun n v i => qM a0 n i v)) (a := a0.ZK) (g := (fun x => x)) (fun _ => rfl) (fun _ _ _ => rfl) (a0.ZK.length + 1) [] 0 (by omega) (by omega)
  simp only [List.nil_append, List.drop_zero] at h
  unfold WW
  rw [h]
theorem KZ (a0 : List Zj) (a1 : Int) : Yq a0 a1 < (a0.length : Int) := WZ (F := zH a0 a1) (c := fun J => ((nth a0 J).Id == a1)) (fun _ => rfl) (fun _ _ => rfl) _ _
theorem Qt (a0 : List ZJ) (a1 : Int) : Zm a0 a1 < (a0.length : Int) := WZ (F := QM a0 a1) (c := fun J => ((nth a0 J).Id == a1)) (fun _ => rfl) (fun _ _ => rfl) _ _
theorem J9 (a0 : List Z3) (a1 : Int) : Zu a0 a1 < (a0.length : Int) := WZ (F := qI a0 a1) (c := fun J => ((nth a0 J).Number == a1)) (fun _ => rfl) (fun _ _ => rfl) _ _
theorem Rr (a0 : ZY) : VW a0 = a0 := rfl
theorem NH (a0 : Zw) : Wc a0 = a0 := by
  have h := We (F := (fun n v i => xw a0 n i v)) (a := a0.ZL) (g := (fun x => x)) (fun _ => rfl) (fun _ _ _ => rfl) (a0.ZL.length + 1) [] 0 (by omega) (by omega)
  simp only [List.nil_append, List.drop_zero] at h
  unfold Wc
  rw [h]
theorem R3 (a0 : ZH) (a1 : Int) : QT a0 a1 < (a0.ZK.length : Int) := WZ (F := Qu a0 a1) (c := fun J => ((nth a0.ZK J).Id == a1)) (fun _ => rfl) (fun _ _ => rfl) _ _
theorem VD {n : Nat} {x : Z1} (h : 7 <= n) : Sm n (Jh x) := ⟨by simp [Jh]; omega, fun _ _ => trivial⟩
@[simp] theorem Hc (x : Z1) : (Jh x).length = 7 := rfl
theorem W4 {n : Nat} {x : Z1} (h : 7 <= n) : Sm n (QU x) := ⟨by simp [QU]; omega, fun _ _ => trivial⟩
@[simp] theorem I0 (x : Z1) : (QU x).length = 7 := rfl
theorem kg {n : Nat} {x : Zf} (h : 5 <= n) : Sm n (QJ x) := ⟨by simp [QJ]; omega, fun _ _ => trivial⟩
@[simp] theorem Ii (x : Zf) : (QJ x).length = 5 := rfl
theorem jt {n : Nat} {x : YY} (h : 5 <= n) : Sm n (QI x) := ⟨by simp [QI]; omega, fun _ _ => trivial⟩
@[simp] theorem IM (x : YY) : (QI x).length = 5 := rfl
theorem xj {n : Nat} {x : Zk} (h : 9 <= n) : Sm n (Xa x) := ⟨by simp [Xa]; omega, fun _ _ => trivial⟩
@[simp] theorem Mk (x : Zk) : (Xa x).length = 9 := rfl
@[simp] theorem Mj (x : Zk) : (Ka x).length = 9 := rfl
theorem qw {n : Nat} {x : Yu} (h : 6 <= n) : Sm n (Xw x) := ⟨by simp [Xw]; omega, fun _ _ => trivial⟩
@[simp] theorem Lf (x : Yu) : (Xw x).length = 6 := rfl
theorem RI {a : ZO} (h : Q8 a = true) : 0 < a.ZT.length := by
  unfold Q8 at h
  split at h
  · rename_i r e
    have : ∀ n v, J4 a n v ≠ .inl true := by
      intro n
      induction n with
      | zero => intro v h; cases h
      | succ n ih =>
        intro v h
        rw [J4] at h
        cases h1 : decide ((v : Int) < (a.ZT.length : Int)) with
        | false => rw [h1] at h; cases h
        | true =>
          rw [h1] at h
          cases h2 : decide (yQ a (nth a.ZT v) < (v : Int)) with
          | true => rw [h2] at h; cases h
          | false => rw [h2] at h; exact ih _ h
    subst h; exact absurd e (this _ _)
  · split at h
    · rename_i r e
      have : ∀ n v, J7 a n v ≠ .inl true := by
        intro n
        induction n with
        | zero => intro v h; cases h
        | succ n ih =>
          intro v h
          rw [J7] at h
          generalize decide ((v : Int) < (a.ZN.length : Int)) = c1 at h
          cases c1 with
          | false => cases h
          | true =>
            simp only [cond_true] at h
            generalize (!Z4 (nth a.ZN v).Count 1 (a.ZT.length : Int) || decide ((v : Int) > 0) && decide ((nth a.ZN (v - 1)).Count > (nth a.ZN v).Count)) = c2 at h
            cases c2 with
            | true => cases h
            | false => exact ih _ h
      subst h; exact absurd e (this _ _)
    · simp only [Z4, Bool.and_eq_true, decide_eq_true_eq] at h; omega
theorem RE {a : ZO} (h : xe a = true) : 0 < a.ZT.length := by
  unfold xe at h
  generalize (match yj a (a.ZT.length + 1) 0 with | .inl r1 => r1 | .inr _ => (match yi a (a.ZN.length + 1) 0 with | .inl r2 => r2 | .inr _ => true)) = m at h
  cases hh : ZU (a.ZT.length : Int) 1 12 with
  | false => rw [hh] at h; simp at h
  | true => simp only [ZU, Bool.and_eq_true, decide_eq_true_eq] at hh; omega
theorem TE {a : ZV} (h : Yp a = true) : a.XB.length = a.YO.length := by
  unfold Yp at h
  split at h
  · rename_i r e
    have : ∀ n v, X2 a n v ≠ .inl true := by
      intro n
      induction n with
      | zero => intro v h; cases h
      | succ n ih =>
        intro v h
        rw [X2] at h
        generalize decide ((v : Int) < (a.YO.length : Int)) = c1 at h
        cases c1 with
        | false => cases h
        | true =>
          simp only [cond_true] at h
          generalize decide (((nth a.YO v).size : Int) > 40) = c2 at h
          cases c2 with
          | true => cases h
          | false => exact ih _ h
    subst h; exact absurd e (this _ _)
  · split at h
    · rename_i r e
      have : ∀ n v, X0 a n v ≠ .inl true := by
        intro n
        induction n with
        | zero => intro v h; cases h
        | succ n ih =>
          intro v h
          rw [X0] at h
          generalize decide ((v : Int) < (a.XB.length : Int)) = c1 at h
          cases c1 with
          | false => cases h
          | true =>
            simp only [cond_true] at h
            generalize (!Z4 (nth a.XB v) 1 1000000000000) = c2 at h
            cases c2 with
            | true => cases h
            | false => exact ih _ h
      subst h; exact absurd e (this _ _)
    · simp only [Bool.and_eq_true, beq_iff_eq] at h; omega
theorem jd (a0 : Zw) (a1 : Int) (h : 0 <= (Yx a0 a1).1) : (Yx a0 a1).1.toNat < a0.ZL.length /\ 0 <= (Yx a0 a1).2 /\ (Yx a0 a1).2.toNat < (nth a0.ZL (Yx a0 a1).1.toNat).ZK.length := by
  have key : ∀ n v r, Qz a0 a1 n v = .inl r -> r.1.toNat < a0.ZL.length /\ 0 <= r.2 /\ r.2.toNat < (nth a0.ZL r.1.toNat).ZK.length := by
    intro n
    induction n with
    | zero => intro v r h; cases h
    | succ n ih =>
      intro v r h
      rw [Qz] at h
      cases h1 : decide ((v : Int) < (a0.ZL.length : Int)) with
      | false => rw [h1] at h; cases h
      | true =>
        rw [h1] at h
        simp only [cond_true] at h
        cases h2 : decide (QT (nth a0.ZL v) a1 >= 0) with
        | false => rw [h2] at h; exact ih _ _ h
        | true =>
          rw [h2] at h; cases h
          simp at h1 h2
          have := R3 (nth a0.ZL v) a1
          simp only [Int.toNat_natCast]
          exact ⟨h1, h2, by omega⟩
  unfold Yx at h ⊢
  cases hh : Qz a0 a1 (a0.ZL.length + 1) 0 with
  | inl r => rw [hh] at h; exact key _ _ r hh
  | inr u => rw [hh] at h; simp at h
theorem xU {a : Int} {n : Nat} (hn : n <= 9223372036854775807) (h : Z4 a 0 (W ((n : Int) - 1)) = true) : 0 <= a /\ a < n := by
  rw [Oy n hn] at h
  simp only [Z4, Bool.and_eq_true, decide_eq_true_eq] at h; omega
theorem Kg {n : Nat} {a0 : ZO} {a1 : ZV} (h : Sm n a0) : Sm n (XS a0 a1) := by
  have key : ∀ n (acc : List Int) v, a0.ZN.length < n + v -> v <= a0.ZN.length -> (Ji a0 a1 n acc v).length = acc.length + (a0.ZN.length - v) := by
    intro n
    induction n with
    | zero => intro acc v h1 h2; omega
    | succ n ih =>
      intro acc v h1 h2
      rw [Ji]
      by_cases hv : v < a0.ZN.length
      · rw [show decide ((v : Int) < (a0.ZN.length : Int)) = true by simpa using hv, cond_true, ih _ (v + 1) (by omega) (by omega)]
        simp; omega
      · rw [show decide ((v : Int) < (a0.ZN.length : Int)) = false by simpa using hv, cond_false]; omega
  have h2 := key (a0.ZN.length + 1) [] 0 (by omega) (by omega)
  have h3 := Je (ZO.V2 h)
  refine ⟨?_, fun _ _ => trivial⟩
  unfold XS
  simp only [List.length_nil, Nat.zero_add, Nat.sub_zero] at h2
  rw [h2]; exact h3
theorem qK (a0 : Int) (a1 : List Int) (h : a1.length <= 1048576) : 2 * (qC a0 a1).length = a1.length + a1.length % 2 := by
  have key : ∀ n v i, a1.length + 1 < 2 * n + i -> i <= a1.length + 1 -> i % 2 = 0 -> 2 * (zi a0 a1 n v i).length = 2 * v.length + (a1.length + a1.length % 2 - i) := by
    intro n
    induction n with
    | zero => intro v i h1 h2; omega
    | succ n ih =>
      intro v i h1 h2 h3
      unfold zi
      by_cases hi : i < a1.length
      · rw [show decide ((i : Int) < (a1.length : Int)) = true by simp [hi], cond_true]
        have e : ∀ x, 2 * (zi a0 a1 n (v ++ [x]) (i + 2)).length = 2 * v.length + (a1.length + a1.length % 2 - i) := by
          intro x
          have := ih (v ++ [x]) (i + 2) (by omega) (by omega) (by omega)
          rw [this, List.length_append, List.length_singleton]; omega
        exact Zd (p := fun (r : List Int) => 2 * r.length = 2 * v.length + (a1.length + a1.length % 2 - i)) (e _) (e _)
      · rw [show decide ((i : Int) < (a1.length : Int)) = false by simp; omega, cond_false]; omega
  have := key (a1.length + 1) [] 0 (by omega) (by omega) (by omega)
  unfold qC
  rw [this]; simp
theorem Yw {n : Nat} (h : 10 <= n) : Sm n ZD := ⟨h, fun _ _ => trivial⟩
theorem RY {n : Nat} (h : 10 <= n) : Sm n Ye := ⟨h, fun _ _ => trivial⟩
theorem kO {n : Nat} {x : Z1} (h : 7 <= n) : Sm n (Yt x) := VD h
theorem XI {n : Nat} {x : YY} (h : 5 <= n) : Sm n (XN x) := jt h
theorem ky {n : Nat} {x : Zk} (h : 9 <= n) : Sm n (Yf x) := xj h
theorem US {n : Nat} {x : Yu} (h : 6 <= n) : Sm n (zJ x) := qw h
theorem Ty {n : Nat} {k : Int} {x : Zf} (h : 5 <= n) : Sm n (yx k x) := kg h
theorem xN {n : Nat} {a0 : ZH} {a1 : Za} (h : Sm n a0) (hx : Sm n a1) : ∀ (m : Nat) (b : Bool) (i : Nat) (l : List Za), l.length <= i + (bif b then 1 else 0) -> i <= a0.ZK.length -> (∀ y ∈ l, Sm n y) ->
    (Xv a0 a1 m b i l).2.length <= a0.ZK.length + (bif (Xv a0 a1 m b i l).1 then 1 else 0) /\ ∀ y ∈ (Xv a0 a1 m b i l).2, Sm n y
  | 0, b, i, l, _, _, _ => ⟨Nat.zero_le _, fun y hy => by cases hy⟩
  | m + 1, b, i, l, hl, hi, hs => by
    unfold Xv
    cases hc : decide ((i : Int) < (a0.ZK.length : Int)) with
    | false =>
      simp only [cond_false]
      refine ⟨?_, hs⟩
      have : ¬ ((i : Int) < a0.ZK.length) := by simpa using hc
      omega
    | true =>
      have wN : i < a0.ZK.length := by simpa using hc
      have hn : Sm n (nth a0.ZK i) := yX h
      simp only [cond_true]
      cases hd : ((!b) && (decide (a1.Id < (nth a0.ZK i).Id))) with
      | true =>
        have hb : b = false := by cases b <;> simp_all
        subst hb
        simp only [cond_true]
        refine xN h hx m true (i + 1) _ (by simp at hl ⊢; omega) wN (fun y hy => ?_)
        simp only [List.append_assoc, List.mem_append, List.mem_cons, List.not_mem_nil, or_false] at hy
        rcases hy with hy | rfl | rfl
        · exact hs y hy
        · exact hx
        · exact hn
      | false =>
        simp only [cond_false]
        refine xN h hx m b (i + 1) _ (by simp at hl ⊢; omega) wN (fun y hy => ?_)
        simp only [List.mem_append, List.mem_cons, List.not_mem_nil, or_false] at hy
        rcases hy with hy | rfl
        · exact hs y hy
        · exact hn
theorem Vp {n : Nat} {a0 : ZH} {a1 : Za} (h : Sm n a0) (hx : Sm n a1) : Sm (n + 1) (Qj a0 a1).1 := by
  have h1 : Sm (n + 1) a0 := ZW (Nat.le_succ n) h
  unfold Qj
  cases ((!(Xf a0)) || (decide ((jH a0 a1.Id) >= 0))) with
  | true => exact h1
  | false =>
    have hz := xN h hx (a0.ZK.length + 1) false 0 [] (Nat.zero_le _) (Nat.zero_le _) (fun y hy => by cases hy)
    have hlen := (ZH.xg h).1
    simp only [cond_false]
    generalize hq : Xv a0 a1 (a0.ZK.length + 1) false 0 [] = z at hz ⊢
    obtain ⟨z0, z1⟩ := z
    cases z0 with
    | false =>
      simp only [Bool.not_false, cond_true]
      cases (!(Xf (ZH.mk a0.Id (z1 ++ ([a1] : List Za))))) with
      | true => exact h1
      | false =>
        refine ⟨by have := hz.1; simp at this ⊢; omega, fun y hy => ?_⟩
        have gU : y ∈ z1 \/ y = a1 := by simpa using hy
        rcases gU with hy | rfl
        · exact ZW (Nat.le_succ n) (hz.2 y hy)
        · exact ZW (Nat.le_succ n) hx
    | true =>
      simp only [Bool.not_true, cond_false]
      cases (!(Xf (ZH.mk a0.Id z1))) with
      | true => exact h1
      | false => exact ⟨by have := hz.1; simp at this ⊢; omega, fun y hy => ZW (Nat.le_succ n) (hz.2 y hy)⟩
theorem J3 (a0 : Int) : ∀ (m : Nat) (x : Int) (l : List Ya) (y : List Int), (JD a0 m x l y).length <= l.length + m
  | 0, x, l, y => Nat.zero_le _
  | m + 1, x, l, y => by
    simp only [JD]
    cases decide ((y.length : Int) > 1) with
    | false => simp
    | true =>
      simp only [cond_true]
      cases ((Int.tmod x 2) == 1) with
      | true => refine Nat.le_trans (J3 a0 m _ _ _) ?_; simp; omega
      | false =>
        simp only [cond_false]
        cases decide ((W (x + 1)) < (y.length : Int)) with
        | true => refine Nat.le_trans (J3 a0 m _ _ _) ?_; simp; omega
        | false => refine Nat.le_trans (J3 a0 m _ _ _) ?_; omega
theorem PE {n : Nat} {a0 : Int} {a1 : List Int} {a2 : Int} (h : 17 <= n) : Sm n (Kk a0 a1 a2) := by
  refine ⟨?_, fun _ _ => trivial⟩
  unfold Kk
  cases hc : ((decide ((a1.length : Int) > 16)) || (!(Z4 a2 0 (W ((a1.length : Int) - 1))))) with
  | true => exact Nat.zero_le _
  | false =>
    have h1 := J3 a0 (a1.length + 1) a2 [] a1
    simp only [Bool.or_eq_false_iff, decide_eq_false_iff_not] at hc
    simp only [cond_false]; simp at h1; omega
theorem MR (x : Int) : 0 <= R9 .i64 x 255 /\ R9 .i64 x 255 <= 255 := by
  have h : (BitVec.ofInt IntKind.i64.bits x &&& BitVec.ofInt IntKind.i64.bits 255).toNat <= 255 := by
    rw [BitVec.toNat_and]; exact Nat.le_trans Nat.and_le_right (Nat.le_of_ble_eq_true rfl)
  unfold R9
  rw [Yi (by omega) (by omega)]
  omega
theorem J6 (c : ZI) : 0 <= (Zo c).2 /\ (Zo c).2 <= 255 := by
  unfold Zo
  exact Zd (p := fun r : ZI × Int => 0 <= r.2 /\ r.2 <= 255) (MR _) (MR _)
theorem ZQ (c : ZI) (n : Int) : 0 <= (ZA c n).2 /\ (0 < n -> (ZA c n).2 < n) := by
  unfold ZA
  refine yI (p := fun r : ZI × Int => 0 <= r.2 /\ (0 < n -> r.2 < n)) (fun h => ⟨Int.le_refl _, fun h0 => h0⟩) (fun h => ?_)
  have hn : 0 < n := by simp at h; omega
  have h1 := J6 c
  have h2 := J6 (Zo c).1
  have h3 := J6 (Zo (Zo c).1).1
  refine Zd (p := fun r : ZI × Int => 0 <= r.2 /\ (0 < n -> r.2 < n)) ⟨Int.tmod_nonneg _ h1.1, fun _ => Int.tmod_lt_of_pos _ hn⟩ ⟨Int.tmod_nonneg _ ?_, fun _ => Int.tmod_lt_of_pos _ hn⟩
  simp only [XJ]
  omega
theorem Ok (c : ZI) (n : Int) : (ZA c n).2 <= 16777215 := by
  unfold ZA
  have h1 := J6 c
  have h2 := J6 (Zo c).1
  have h3 := J6 (Zo (Zo c).1).1
  refine Zd (p := fun r : ZI × Int => r.2 <= 16777215) (show (0 : Int) <= 16777215 by decide) (yI (p := fun r : ZI × Int => r.2 <= 16777215) (fun h => ?_) (fun h => ?_))
  · have : (Int.tmod (Zo c).2 n).natAbs <= (Zo c).2.natAbs := by rw [Int.natAbs_tmod]; exact Nat.mod_le _ _
    show Int.tmod _ _ <= _
    have h5 := Int.tmod_nonneg n h1.1
    omega
  · show Int.tmod _ _ <= _
    have hw : 0 <= W ((W ((W ((Zo c).2 * 65536)) + (W ((Zo (Zo c).1).2 * 256)))) + (Zo (Zo (Zo c).1).1).2) /\ W ((W ((W ((Zo c).2 * 65536)) + (W ((Zo (Zo c).1).2 * 256)))) + (Zo (Zo (Zo c).1).1).2) <= 16777215 := by
      simp only [XJ]; omega
    have h4 : (Int.tmod (W ((W ((W ((Zo c).2 * 65536)) + (W ((Zo (Zo c).1).2 * 256)))) + (Zo (Zo (Zo c).1).1).2)) n).natAbs <= (W ((W ((W ((Zo c).2 * 65536)) + (W ((Zo (Zo c).1).2 * 256)))) + (Zo (Zo (Zo c).1).1).2)).natAbs := by rw [Int.natAbs_tmod]; exact Nat.mod_le _ _
    have h5 := Int.tmod_nonneg n hw.1
    omega
theorem Wy (c : ZI) : (Xg c).2.size <= 11 := by
  unfold Xg Wd
  exact Gl (by decide) _
theorem Y5 {n : Nat} (h : 4 <= n) : Sm n ZG := ⟨h, fun _ _ => trivial⟩
theorem Ub {n : Nat} (h : 4 <= n) : Sm n Zb := ⟨h, fun _ _ => trivial⟩
theorem O2 {n : Nat} (h : 3 <= n) : Sm n YQ := ⟨h, fun _ _ => trivial⟩
theorem z6 : YQ.length = 3 := rfl
theorem yO (a0 : Int) (a1 : List ByteArray) (a2 : Int) : ∀ (m v : Nat) (l : List Int), (Yy a0 a1 a2 m v l).length <= l.length + m
  | 0, _, _ => Nat.zero_le _
  | m + 1, v, l => by
    rw [Yy]
    refine Zd (p := fun r : List Int => r.length <= l.length + (m + 1)) ?_ (by omega)
    have := yO a0 a1 a2 m (v + 1) (l ++ [Vo 1 (Jt a2 [a0, v])])
    simp only [List.length_append, List.length_singleton] at this
    omega
theorem V1 {n : Nat} {a0 : Int} {a1 : List ByteArray} {a2 : Int} (h : Sm n a1) (hn : a1.length + 1 <= n) : Sm n (Xi a0 a1 a2).1 := by
  unfold Xi
  have := yO a0 a1 a2 (a1.length + 1) 0 []
  refine Zd (p := fun r : ZV × Bool => Sm n r.1) ⟨Sz.zero n, Sz.zero n⟩ ⟨h, Nat.le_trans this (by simpa using hn), fun _ _ => trivial⟩
theorem qd : ∀ (m : Nat) (l : List ByteArray) (i : Int) (b : List UInt8) (j : Nat) (h : Int), (∀ x ∈ l, x.size <= 11) -> (QY m l i b j h).1.length <= l.length + m /\ ∀ x ∈ (QY m l i b j h).1, x.size <= 11
  | 0, _, _, _, _, _, _ => ⟨Nat.zero_le _, fun x hx => by cases hx⟩
  | m + 1, l, i, b, j, h, hl => by
    rw [QY]
    refine Zd (p := fun r : (List ByteArray) × (List UInt8) × Nat × Int => r.1.length <= l.length + (m + 1) /\ ∀ x ∈ r.1, x.size <= 11) ?_ ⟨by show l.length <= _; omega, hl⟩
    have := qd m (l ++ [(Xg (ZI.mk b j h)).2]) (W (i - 1)) (Xg (ZI.mk b j h)).1.b (Xg (ZI.mk b j h)).1.i (Xg (ZI.mk b j h)).1.h (fun x hx => by
      rcases List.mem_append.1 hx with hx | hx
      · exact hl x hx
      · rw [List.mem_singleton.1 hx]; exact Wy _)
    simp only [List.length_append, List.length_singleton] at this
    exact ⟨by omega, this.2⟩
theorem Tc {n : Nat} {a0 : ZI} (h : 20 <= n) : Sm n (YM a0).2 := by
  unfold YM
  have := qd 5 [] (W (1 + (ZA a0 3).2)) (ZA a0 3).1.b (ZA a0 3).1.i (ZA a0 3).1.h (fun x hx => by cases hx)
  simp only [List.length_nil] at this
  exact V1 ⟨by omega, fun x hx => Nat.le_trans (this.2 x hx) (by omega)⟩ (by omega)
theorem yn {n : Nat} {a0 : ZI} (h : 20 <= n) : Sm n (ZR a0).2.2 := Tc h
theorem QR {n : Nat} {a0 : ZI} (h : 20 <= n) : Sm n (Qi a0).2 := by
  unfold Qi
  refine Zd (p := fun r : ZI × ZS => Sm n r.2) (kO (by omega)) (Zd (p := fun r : ZI × ZS => Sm n r.2) (XI (by omega)) (Zd (p := fun r : ZI × ZS => Sm n r.2) (Ty (by omega)) (Zd (p := fun r : ZI × ZS => Sm n r.2) (ky (by omega)) (US (by omega)))))
theorem qZ {n m : Nat} {a0 : ZO} {a1 : ZS} (hn : n + 1 <= m) (h : Sm n a0) (hx : Sm m a1) : Sm m (Xm a0 a1).1 := by
  have h1 : Sm m a0 := ZW (by omega) h
  unfold Xm
  refine Zd (p := fun r : ZO × Bool => Sm m r.1) h1 ⟨⟨?_, fun y hy => ?_⟩, h1.2⟩
  · have : a0.ZT.length <= n := h.1.1
    simp only [List.length_append, List.length_singleton]; omega
  · rcases List.mem_append.1 hy with hy | hy
    · exact h1.1.2 y hy
    · rw [List.mem_singleton.1 hy]; exact hx
theorem XZ {n m : Nat} {a0 : ZO} {a1 : ZM} (hn : n + 1 <= m) (h : Sm n a0) (hx : Sm m a1) : Sm m (Zs a0 a1).1 := by
  have h1 : Sm m a0 := ZW (by omega) h
  unfold Zs
  refine Zd (p := fun r : ZO × Bool => Sm m r.1) h1 ⟨h1.1, ⟨?_, fun y hy => ?_⟩⟩
  · have : a0.ZN.length <= n := h.2.1
    simp only [List.length_append, List.length_singleton]; omega
  · rcases List.mem_append.1 hy with hy | hy
    · exact h1.2.2 y hy
    · rw [List.mem_singleton.1 hy]; exact hx
theorem kL (x : Zk) (c : Z1) : Sm 30 (ZO.mk ([(Yf x), (Yt c)] : List ZS) ([] : List ZM)) := ⟨⟨by simp, fun y hy => by
    rcases List.mem_cons.1 hy with rfl | hy
    · exact ky (by omega)
    · rw [List.mem_singleton.1 hy]; exact kO (by omega)⟩, Sz.zero 30⟩
theorem TW (x : Zk) (c : Z1) (s : YY) : Sm 31 (Xm (ZO.mk ([(Yf x), (Yt c)] : List ZS) ([] : List ZM)) (XN s)).1 := qZ (n := 30) (by omega) (kL x c) (XI (by omega))
theorem J0 {n : Nat} (x : Zk) (c : Z1) (h : 30 <= n := by decide) : Sm n (ZO.mk ([(Yf x), (Yt c)] : List ZS) ([] : List ZM)) := ZW h (kL x c)
theorem KG {n : Nat} (x : Zk) (c : Z1) (s : YY) (h : 31 <= n := by decide) : Sm n (Xm (ZO.mk ([(Yf x), (Yt c)] : List ZS) ([] : List ZM)) (XN s)).1 := ZW h (TW x c s)
theorem y6 {n : Nat} {a0 : ZI} (h : 50 <= n) : Sm n (Zi a0).2.1 /\ Sm n (Zi a0).2.2.1 := by
  have h0 := kL
  have h1 := TW
  unfold Zi
  refine Zd (p := fun r : ZI × ZO × ZV × Zk => Sm n r.2.1 /\ Sm n r.2.2.1) (Zd (p := fun r : ZI × ZO × ZV × Zk => Sm n r.2.1 /\ Sm n r.2.2.1) ⟨?_, ?_⟩ ⟨?_, ?_⟩) (Zd (p := fun r : ZI × ZO × ZV × Zk => Sm n r.2.1 /\ Sm n r.2.2.1) ⟨?_, ?_⟩ ⟨?_, ?_⟩)
  · exact qZ (n := 31) (by omega) (h1 _ _ _) (QR (by omega))
  · exact yn (by omega)
  · exact ZW (n := 31) (by omega) (h1 _ _ _)
  · exact yn (by omega)
  · exact qZ (n := 30) (by omega) (h0 _ _) (QR (by omega))
  · exact yn (by omega)
  · exact ZW (n := 30) (by omega) (h0 _ _)
  · exact yn (by omega)
theorem jk {n : Nat} {a0 : ZI} (h : 50 <= n) : Sm n (Zi a0).2.2.1 := (y6 h).2
theorem yU (a0 : List Z3) (a1 : List ZJ) (a2 a3 : Int) (a4 a6 : List Int) (a7 a8 : Int) : ∀ (m v : Nat) (l : List Zf), (Ku a0 a1 a2 a3 a4 a6 a7 a8 m v l).length <= l.length + m
  | 0, _, _ => Nat.zero_le _
  | m + 1, v, l => by
    rw [Ku]
    refine Zd (p := fun r : List Zf => r.length <= l.length + (m + 1)) (Zd (p := fun r : List Zf => r.length <= l.length + (m + 1)) ?_ ?_) (by omega)
    · refine Nat.le_trans (yU a0 a1 a2 a3 a4 a6 a7 a8 m (v + 1) _) ?_
      simp only [List.length_append, List.length_singleton]; omega
    · refine Nat.le_trans (yU a0 a1 a2 a3 a4 a6 a7 a8 m (v + 1) _) ?_
      omega
theorem yv {n : Nat} {a0 : List Z3} {a1 : List ZJ} {a2 a3 : Int} {a4 : List Int} {a5 : Int} {a6 : List Int} {a7 a8 : Int} (h : 17 <= n) (h6 : a6.length + 1 <= n) : Sm n (Kw a0 a1 a2 a3 a4 a5 a6 a7 a8) := by
  unfold Kw
  have := yU a0 a1 a2 a3 a4 a6 a7 a8 (a6.length + 1) 0 []
  exact ⟨PE h, Nat.le_trans this (by simpa using h6), fun _ _ => trivial⟩
theorem W8 {n m : Nat} {a0 : ZI} {a1 : ZO} {a2 : ZV} {a3 a4 : Int} (hn : n + 1 <= m) (iB : 17 <= m) (h : Sm n a1) : Sm m (Xl a0 a1 a2 a3 a4).2 := by
  unfold Xl
  refine Zd (p := fun r : ZI × ZO => Sm m r.2) (ZW (by omega) h) (Zd (p := fun r : ZI × ZO => Sm m r.2) ?_ ?_)
  · exact XZ hn h (yv iB (by simp; omega))
  · exact XZ hn h (yv iB (by simp; omega))
theorem kv (a0 : ZI) : ∀ (m k : Nat) (x y : Int) (b : List UInt8) (i : Nat) (h : Int) (p : List ZS) (c : List ZM), 17 <= k -> Sm k (ZO.mk p c) -> Sm (k + m) (ZO.mk (Jj a0 m x y b i h p c).2.2.2.1 (Jj a0 m x y b i h p c).2.2.2.2)
  | 0, k, _, _, _, _, _, _, _, _, _ => ⟨Sz.zero _, Sz.zero _⟩
  | m + 1, k, x, y, b, i, h, p, c, hk, hs => by
    rw [Jj]
    refine Zd (p := fun r : (List UInt8) × Nat × Int × (List ZS) × (List ZM) => Sm (k + (m + 1)) (ZO.mk r.2.2.2.1 r.2.2.2.2)) ?_ (ZW (by omega) hs)
    rw [show k + (m + 1) = k + 1 + m by omega]
    exact kv a0 m (k + 1) _ _ _ _ _ _ _ (by omega) (W8 (n := k) (Nat.le_refl _) (by omega) hs)
theorem Ot {n : Nat} {s : ZO} (h : Sm n s) : Sm n (ZO.mk s.ZT s.ZN) := h
theorem Ow {n : Nat} {a0 : ZI} (h : 60 <= n) : Sm n (XY a0).2.1 /\ Sm n (XY a0).2.2.1 := by
  obtain ⟨h1, hd⟩ := y6 (n := 50) (a0 := a0) (by omega)
  have h2 := fun x y b i h => kv a0 5 50 x y b i h (Zi a0).2.1.ZT (Zi a0).2.1.ZN (by omega) (Ot h1)
  have h3 := ZW (m := n) (by omega) hd
  unfold XY
  generalize Zi a0 = z at h2 h3 ⊢
  have h4 := h2 (ZP z.1 ([10, 25, 30] : List Int)).2 (ZA (ZP z.1 ([10, 25, 30] : List Int)).1 4).2 (ZA (ZP z.1 ([10, 25, 30] : List Int)).1 4).1.b (ZA (ZP z.1 ([10, 25, 30] : List Int)).1 4).1.i (ZA (ZP z.1 ([10, 25, 30] : List Int)).1 4).1.h
  generalize Jj a0 5 (ZP z.1 ([10, 25, 30] : List Int)).2 (ZA (ZP z.1 ([10, 25, 30] : List Int)).1 4).2 (ZA (ZP z.1 ([10, 25, 30] : List Int)).1 4).1.b (ZA (ZP z.1 ([10, 25, 30] : List Int)).1 4).1.i (ZA (ZP z.1 ([10, 25, 30] : List Int)).1 4).1.h z.2.1.ZT z.2.1.ZN = q at h4 ⊢
  obtain ⟨q1, q2, q3, q4, q5⟩ := q
  exact ⟨ZW (n := 50 + 5) (by omega) h4, h3⟩
theorem yu {n : Nat} {a0 : ZI} (h : 60 <= n) : Sm n (XX a0).2 := by
  have h0 := Ow (a0 := a0) h
  unfold XX
  simp only [Za.zE]
  exact ⟨h0.2, h0.1⟩
theorem xp : ∀ (m k : Nat) (x : Int) (b : List UInt8) (i : Nat) (h y : Int) (l : List Za), 60 <= k -> Sm k (ZH.mk y l) -> Sm (k + m) (ZH.mk (XT m x b i h y l).2.2.2.1 (XT m x b i h y l).2.2.2.2)
  | 0, k, _, _, _, _, _, _, _, _ => Sz.zero (α := List Za) _
  | m + 1, k, x, b, i, h, y, l, hk, hs => by
    rw [XT]
    refine Zd (p := fun r : (List UInt8) × Nat × Int × Int × (List Za) => Sm (k + (m + 1)) (ZH.mk r.2.2.2.1 r.2.2.2.2)) ?_ (ZW (n := k) (by omega) hs)
    have := xp m (k + 1) (W (x - 1)) (XX (ZI.mk b i h)).1.b (XX (ZI.mk b i h)).1.i (XX (ZI.mk b i h)).1.h (Qj (ZH.mk y l) (XX (ZI.mk b i h)).2).1.Id (Qj (ZH.mk y l) (XX (ZI.mk b i h)).2).1.ZK (by omega) (Vp hs (yu (by omega)))
    rw [show k + (m + 1) = k + 1 + m by omega]
    exact this
theorem jr {n : Nat} {a0 : ZI} (h : 70 <= n) : Sm n (YU a0).2 := by
  unfold YU
  split
  rename_i z1 z2 z3 z4 z5 e
  have h2 := xp 5 60 (ZA (ZA a0 3).1 4).2 (ZA (ZA a0 3).1 4).1.b (ZA (ZA a0 3).1 4).1.i (ZA (ZA a0 3).1 4).1.h (ZA a0 3).2 [] (by omega) (Sz.zero (α := List Za) _)
  rw [e] at h2
  exact ZW (n := 60 + 5) (by omega) h2
theorem PB {n : Nat} {a0 : Int} (h : 20 <= n) : Sm n (YW a0) := by
  have hw : ∀ (k : Int) (l : List Int), l.length <= 1 -> Sm n (Zw.mk (ZY.mk ZD ZG Zb k 0) YQ ([(-1), (-1), (-1)] : List Int) ([(ZH.mk 0 ([] : List Za)), (ZH.mk 1 ([] : List Za))] : List ZH) ([0, 0, 0, 0] : List Int) l 1 ([] : List Int)) := fun k l hl => by
    have h1 := Yw (n := n) (by omega)
    have h2 := Y5 (n := n) (by omega)
    have h3 := Ub (n := n) (by omega)
    have h4 := O2 (n := n) (by omega)
    have h5 : Sm n ([(ZH.mk 0 ([] : List Za)), (ZH.mk 1 ([] : List Za))] : List ZH) := ⟨by simp; omega, fun y hy => by
      rcases List.mem_cons.1 hy with rfl | hy
      · exact Sz.zero (α := List Za) _
      · rw [List.mem_singleton.1 hy]; exact Sz.zero (α := List Za) _⟩
    have h6 : ∀ l : List Int, l.length <= 20 -> Sm n l := fun l hl => ⟨by omega, fun _ _ => trivial⟩
    simp only [Zw.zE, ZY.zE]
    simp only [h1, h2, h3, h4, h5, h6 _ (show ([(-1), (-1), (-1)] : List Int).length <= 20 by decide), h6 _ (show ([0, 0, 0, 0] : List Int).length <= 20 by decide), h6 l (by omega), h6 [] (by decide), and_self]
  unfold YW
  exact Zd (p := fun r : Zw => Sm n r) (hw _ _ (by decide)) (hw _ _ (by decide))
theorem W6 {n : Nat} (a0 : Int) (h : 20 <= n) : Sm n (Yb a0) := by
  have h1 : Sm n Ye := ⟨Nat.le_trans (show Ye.length <= 20 by decide) h, fun _ _ => trivial⟩
  have h2 : Sm n (K4 5 0 ([] : List ZJ)) := ⟨Nat.le_trans (show (K4 5 0 ([] : List ZJ)).length <= 20 by decide +kernel) h, fun _ _ => trivial⟩
  have h3 : Sm n YT := ⟨Nat.le_trans (show YT.length <= 20 by decide) h, fun _ _ => trivial⟩
  have h4 : Sm n (zN 4 0 ([] : List Z1)) := ⟨Nat.le_trans (show (zN 4 0 ([] : List Z1)).length <= 20 by decide +kernel) h, fun _ _ => trivial⟩
  have h5 : Sm n ([(ZH.mk 0 ([] : List Za)), (ZH.mk 1 ([] : List Za))] : List ZH) := ⟨by simp; omega, fun y hy => by
      rcases List.mem_cons.1 hy with rfl | hy
      · exact Sz.zero (α := List Za) _
      · rw [List.mem_singleton.1 hy]; exact Sz.zero (α := List Za) _⟩
  have h6 : ∀ l : List Int, l.length <= 20 -> Sm n l := fun l hl => ⟨by omega, fun _ _ => trivial⟩
  unfold Yb
  refine Zd (p := fun r : Zw => Sm n r) ?_ ?_
  all_goals
    simp only [Zw.zE, ZY.zE]
    simp only [h1, h2, h3, h4, h5, h6 _ (show ([(-1), (-1), (-1)] : List Int).length <= 20 by decide), h6 _ (show (List.replicate 4 (0 : Int)).length <= 20 by decide), h6 [1] (by decide), h6 [] (by decide), and_self]
theorem R6 {n : Nat} {a0 : ZI} (h : 80 <= n) : Sm n (Zl a0).2 := by
  have h0 := PB (n := n) (a0 := (ZA a0 2).2) (by omega)
  have h1 := jr (n := n) (a0 := (ZP (ZA a0 2).1 ([0, 20, 45, 100] : List Int)).1) (by omega)
  unfold Zl
  have h2 : Sm n ((YW (ZA a0 2).2).ZL.set 0 (ZH.mk 0 (YU (ZP (ZA a0 2).1 ([0, 20, 45, 100] : List Int)).1).2.ZK)) := Gy (Zw.Tp h0) h1
  simp only [Zw.zE, ZY.zE]
  simp [h2, h0]
theorem LH {n : Nat} {a0 : ZI} (h : 20 <= n) : Sm n (yy a0).2 := by
  unfold yy
  repeat' refine Zd (p := fun r : ZI × List Z3 => Sm n r.2) ?_ ?_
  all_goals exact ⟨by simp [ZD]; omega, fun _ _ => trivial⟩
theorem MT {n : Nat} {a0 : ZI} (h : 20 <= n) : Sm n (Jv a0).2 := by
  unfold Jv
  repeat' refine Zd (p := fun r : ZI × List ZJ => Sm n r.2) ?_ ?_
  all_goals exact ⟨by simp [ZG]; omega, fun _ _ => trivial⟩
theorem M9 {n : Nat} {a0 : ZI} (h : 20 <= n) : Sm n (zK a0).2 := by
  unfold zK
  repeat' refine Zd (p := fun r : ZI × List Zj => Sm n r.2) ?_ ?_
  all_goals exact ⟨by simp [Zb]; omega, fun _ _ => trivial⟩
theorem R0 {n : Nat} {a0 : ZI} (h : 20 <= n) : Sm n (ZZ a0).2 := ⟨Yw (by omega), Y5 (by omega), Ub (by omega)⟩
theorem MS {n : Nat} {a0 : ZI} (h : 20 <= n) : Sm n (Xb a0).2 := by
  have h0 := R0 (n := n) (a0 := a0) h
  have hm : ∀ {K : List Z3} {A : List ZJ} {M : List Zj} {L N : Int}, Sm n K -> Sm n A -> Sm n M -> Sm n (ZY.mk K A M L N) := fun h1 h2 h3 => ⟨h1, h2, h3⟩
  unfold Xb
  generalize ZZ a0 = z at h0 ⊢
  have hK := ZY.OV h0
  have hA := ZY.xb h0
  have hM := ZY.Vg h0
  generalize (ZA z.1 10) = y
  have h1 := LH (a0 := y.1) h
  have h2 := MT (a0 := y.1) h
  have h3 := M9 (a0 := y.1) h
  generalize yy y.1 = x1 at h1 ⊢
  generalize Jv y.1 = x2 at h2 ⊢
  generalize zK y.1 = x3 at h3 ⊢
  refine Zd (p := fun r : ZI × ZY => Sm n r.2) (hm h1 hA hM) (Zd (p := fun r : ZI × ZY => Sm n r.2) (hm hK h2 hM) (Zd (p := fun r : ZI × ZY => Sm n r.2) (hm hK hA h3) (Zd (p := fun r : ZI × ZY => Sm n r.2) (hm hK hA hM) (Zd (p := fun r : ZI × ZY => Sm n r.2) (hm hK hA hM) h0))))
theorem Pc {n : Nat} {a0 : ZI} (h : 20 <= n) : Sm n (Yh a0).2 := by
  have h0 := MS (n := n) (a0 := a0) h
  have hm : ∀ {K : List Z3} {A : List ZJ} {M : List Zj} {L N : Int}, Sm n K -> Sm n A -> Sm n M -> Sm n (ZY.mk K A M L N) := fun h1 h2 h3 => ⟨h1, h2, h3⟩
  unfold Yh
  generalize Xb a0 = z at h0 ⊢
  generalize (ZP z.1 ([0, 20, 45, 60, 100] : List Int)) = y
  exact hm (ZY.OV h0) (ZY.xb h0) (ZY.Vg h0)
theorem QK {n : Nat} {a0 : List UInt8} (h : 70 <= n) : Sm n (ZB a0).1 /\ Sm n (ZB a0).2.1 := by
  have h1 := Pc (n := n) (a0 := Z0 a0) (by omega)
  have h2 := jr (n := n) (a0 := (Yh (Z0 a0)).1) h
  unfold ZB
  generalize Yh (Z0 a0) = y at h1 h2 ⊢
  generalize YU y.1 = z at h2 ⊢
  exact And.intro h1 h2
theorem IH (p : Int) : 0 <= Tt p 2147483647 /\ Tt p 2147483647 < 2147483647 := by
  unfold Tt
  rw [show (!(Z4 2147483647 1 1000000000000)) = false by decide, cond_false]
  have h1 : (Int.tmod p 2147483647).natAbs < 2147483647 := by rw [Int.natAbs_tmod]; exact Nat.mod_lt _ (by decide)
  have hw : W (Int.tmod p 2147483647 + 2147483647) = Int.tmod p 2147483647 + 2147483647 := by simp only [XJ]; omega
  rw [hw]
  exact ⟨Int.tmod_nonneg _ (by omega), Int.tmod_lt_of_pos _ (by decide)⟩
theorem UX (a : List Int) : ∀ (n : Nat) (v : Int) (i : Nat), 0 <= v /\ v < 2147483647 -> 0 <= qy a n v i /\ qy a n v i < 2147483647
  | 0, _, _, _ => ⟨Int.le_refl 0, show (0 : Int) < 2147483647 by decide⟩
  | n + 1, v, i, h => by
    rw [qy]
    refine Zd (p := fun r : Int => 0 <= r /\ r < 2147483647) (UX a n _ (i + 1) ?_) h
    have h1 := IH (nth a i)
    have hw : W ((W ((W (v * 1000003)) + (Tt (nth a i) 2147483647))) + 13) = v * 1000003 + Tt (nth a i) 2147483647 + 13 := by simp only [XJ]; omega
    rw [hw]
    exact ⟨Int.tmod_nonneg _ (by omega), Int.tmod_lt_of_pos _ (by decide)⟩
theorem S9 (a : List Int) : 0 <= Uz a /\ Uz a < 2147483647 := UX a (a.length + 1) 11 0 ⟨by decide, by decide⟩
theorem qO : ∀ (m : Nat) (l : List Int) (i : Int) (b : List UInt8) (j : Nat) (h : Int), (JO m l i b j h).1.length <= l.length + m
  | 0, _, _, _, _, _ => Nat.zero_le _
  | m + 1, l, i, b, j, h => by
    rw [JO]
    refine Zd (p := fun r : (List Int) × (List UInt8) × Nat × Int => r.1.length <= l.length + (m + 1)) (Nat.le_trans (qO m _ _ _ _ _) ?_) (by show l.length <= _; omega)
    simp only [List.length_append, List.length_singleton]; omega
theorem zU {n : Nat} {a0 : ZI} (h : 10 <= n) : Sm n (YH a0 4).2 := by
  have h1 := ZQ a0 4
  have h2 := qO ((ZA a0 4).2.toNat + 2) [] (ZA a0 4).2 (ZA a0 4).1.b (ZA a0 4).1.i (ZA a0 4).1.h
  unfold YH
  generalize JO ((ZA a0 4).2.toNat + 2) [] (ZA a0 4).2 (ZA a0 4).1.b (ZA a0 4).1.i (ZA a0 4).1.h = z at h2 ⊢
  obtain ⟨z1, z2, z3, z4⟩ := z
  simp only [List.length_nil] at h2
  refine ⟨?_, fun _ _ => trivial⟩
  show z1.length <= n
  omega
theorem kn : ∀ (m : Nat) (l : List ByteArray) (i : Int) (b : List UInt8) (j : Nat) (h : Int), i < m -> 0 <= i -> i <= 100 -> l.length <= (QY m l i b j h).1.length /\ (0 < i -> l.length < (QY m l i b j h).1.length)
  | 0, l, i, b, j, h, hi, _, _ => by omega
  | m + 1, l, i, b, j, h, hi, _, h2 => by
    rw [QY]
    by_cases hp : i > 0
    · rw [show decide (i > 0) = true by simpa using hp, cond_true]
      have hw : W (i - 1) = i - 1 := by simp only [XJ]; omega
      rw [hw]
      have h3 := kn m (l ++ ([(Xg (ZI.mk b j h)).2] : List ByteArray)) (i - 1) (Xg (ZI.mk b j h)).1.b (Xg (ZI.mk b j h)).1.i (Xg (ZI.mk b j h)).1.h (by omega) (by omega) (by omega)
      have h4 := h3.1
      rw [List.length_append, List.length_singleton] at h4
      exact ⟨by omega, fun _ => by omega⟩
    · rw [show decide (i > 0) = false by simpa using hp, cond_false]
      exact ⟨Nat.le_refl _, fun h => absurd h hp⟩
theorem ID {x a b : Int} (h1 : a <= x) (h2 : x <= b) : Z4 x a b = true := by simp [Z4]; omega
theorem zW (a0 : Int) (a1 : List ByteArray) (a2 : Int) : ∀ (m v : Nat) (l : List Int), a1.length < m + v -> v <= a1.length -> l.length = v -> (∀ x ∈ l, 1 <= x /\ x <= 1000000000000) -> (Yy a0 a1 a2 m v l).length = a1.length /\ ∀ x ∈ Yy a0 a1 a2 m v l, 1 <= x /\ x <= 1000000000000
  | 0, v, l, h1, h2, _, _ => by omega
  | m + 1, v, l, h1, h2, h3, h4 => by
    rw [Yy]
    by_cases hv : v < a1.length
    · rw [show decide ((v : Int) < (a1.length : Int)) = true by simpa using hv, cond_true]
      refine zW a0 a1 a2 m (v + 1) _ (by omega) hv (by rw [List.length_append, List.length_singleton, h3]) (fun x hx => ?_)
      rcases List.mem_append.1 hx with hx | hx
      · exact h4 x hx
      · rw [List.mem_singleton.1 hx]
        have := S9 ((([a2] : List Int) ++ ([a0, (v : Int)] : List Int)) ++ ([a2] : List Int))
        unfold Vo
        refine yI (p := fun r : Int => 1 <= r /\ r <= 1000000000000) (fun hc => ?_) (fun _ => ⟨by decide, by decide⟩)
        simp only [decide_eq_true_eq] at hc
        unfold Jt at hc ⊢
        omega
    · rw [show decide ((v : Int) < (a1.length : Int)) = false by simpa using hv, cond_false]
      exact ⟨by omega, h4⟩
theorem SF {d : ZV} (ht : 0 <= d.yH /\ d.yH <= 999) (h1 : 1 <= d.YO.length /\ d.YO.length <= 6) (h2 : ∀ x ∈ d.YO, x.size <= 40) (h3 : d.XB.length = d.YO.length) (h4 : ∀ x ∈ d.XB, 1 <= x /\ x <= 1000000000000) : Yp d = true := by
  have k1 : ∀ n v, X2 d n v = .inr () := by
    intro n
    induction n with
    | zero => intro v; rfl
    | succ n ih =>
      intro v
      rw [X2]
      by_cases hv : v < d.YO.length
      · have := h2 _ (by rw [qX hv]; exact List.getElem_mem hv : nth d.YO v ∈ d.YO)
        rw [show decide (((nth d.YO v).size : Int) > 40) = false by simp; omega, cond_false, ih]
        cases decide ((v : Int) < (d.YO.length : Int)) <;> rfl
      · rw [show decide ((v : Int) < (d.YO.length : Int)) = false by simpa using hv, cond_false]
  have k2 : ∀ n v, X0 d n v = .inr () := by
    intro n
    induction n with
    | zero => intro v; rfl
    | succ n ih =>
      intro v
      rw [X0]
      by_cases hv : v < d.XB.length
      · have := h4 _ (by rw [qX hv]; exact List.getElem_mem hv : nth d.XB v ∈ d.XB)
        rw [ID this.1 this.2, Bool.not_true, cond_false, ih]
        cases decide ((v : Int) < (d.XB.length : Int)) <;> rfl
      · rw [show decide ((v : Int) < (d.XB.length : Int)) = false by simpa using hv, cond_false]
  unfold Yp
  rw [k1, k2]
  simp only [Z4, Bool.and_eq_true, decide_eq_true_eq, beq_iff_eq]
  omega
theorem Rh (a0 : ZI) : Yp (YM a0).2 = true := by
  have h0 := ZQ a0 3
  have hw : W (1 + (ZA a0 3).2) = 1 + (ZA a0 3).2 := by simp only [XJ]; omega
  have h1 := qd 5 [] (W (1 + (ZA a0 3).2)) (ZA a0 3).1.b (ZA a0 3).1.i (ZA a0 3).1.h (fun x hx => by cases hx)
  have h2 := kn 5 [] (W (1 + (ZA a0 3).2)) (ZA a0 3).1.b (ZA a0 3).1.i (ZA a0 3).1.h (by rw [hw]; omega) (by rw [hw]; omega) (by rw [hw]; omega)
  unfold YM
  generalize QY 5 [] (W (1 + (ZA a0 3).2)) (ZA a0 3).1.b (ZA a0 3).1.i (ZA a0 3).1.h = z at h1 h2 ⊢
  obtain ⟨z1, z2, z3, z4⟩ := z
  simp only [List.length_nil] at h1 h2
  have h3 := h2.2 (by rw [hw]; omega)
  show Yp (Xi (ZA (ZI.mk z2 z3 z4) 5).2 z1 11).1 = true
  have ht := ZQ (ZI.mk z2 z3 z4) 5
  generalize (ZA (ZI.mk z2 z3 z4) 5).2 = t at ht ⊢
  have hv := zW t z1 11 (z1.length + 1) 0 [] (by omega) (Nat.zero_le _) rfl (fun x hx => by cases hx)
  unfold Xi
  generalize Yy t z1 11 (z1.length + 1) 0 [] = q at hv ⊢
  have hd : Yp (ZV.mk t z1 q) = true := SF (d := ZV.mk t z1 q) (by show 0 <= t /\ t <= 999; omega) (by show 1 <= z1.length /\ z1.length <= 6; omega) (fun x hx => Nat.le_trans (h1.2 x hx) (by decide)) hv.1 hv.2
  show Yp (bif ((!(Yp (ZV.mk t z1 q))) || (!(yg 11))) then ((ZV.mk 0 ([] : List ByteArray) ([] : List Int)), false) else ((ZV.mk t z1 q), true)).1 = true
  rw [hd]
  exact hd
theorem W3 (a0 : ZI) : (ZR a0).2.1.Z9 = 1 + (ZA (YM a0).1 3).2 := by
  have h0 := ZQ (YM a0).1 3
  have hk := ZQ (ZA (YM a0).1 3).1 3
  have hd := Rh a0
  unfold ZR Jd Jy
  generalize (ZA (ZA (YM a0).1 3).1 3) = c at hk ⊢
  generalize hy : (ZA (YM a0).1 3).2 = n at h0 ⊢
  have w1 : W (11 + n) = 11 + n := by simp only [XJ]; omega
  have w2 : W (1 + n) = 1 + n := by simp only [XJ]; omega
  have w3 : W (1 + c.2) = 1 + c.2 := by simp only [XJ]; omega
  rw [w1, w2, w3]
  have hg : 0 <= Xq (1 + n) (YM a0).2 /\ Xq (1 + n) (YM a0).2 < 2147483647 := by
    unfold Xq
    rw [hd]
    exact S9 _
  generalize Xq (1 + n) (YM a0).2 = g at hg ⊢
  have hs : KS (Zk.mk (11 + n) (1 + n) (1 + n) g (1 + c.2) 0 0 0 0) = true := by
    simp only [KS, Z4, Bool.and_eq_true, decide_eq_true_eq]
    omega
  have hf : decide (YR ZD (11 + n) < 0) = false := by
    have : n = 0 \/ n = 1 \/ n = 2 := by omega
    rcases this with rfl | rfl | rfl <;> decide
  rw [hs]
  simp only [hf]
  rfl
theorem jo (n : Int) : (YW n).ZL.length = 2 /\ (YW n).KL.length = 4 /\ (YW n).QB.length = 3 := by
  unfold YW
  exact Zd (p := fun r : Zw => r.ZL.length = 2 /\ r.KL.length = 4 /\ r.QB.length = 3) ⟨rfl, rfl, rfl⟩ ⟨rfl, rfl, rfl⟩
theorem jl (c : ZI) : (Zl c).2.KL.length = 4 /\ (Zl c).2.QB.length = 3 := (jo (ZA c 2).2).2
end Go.Mo
