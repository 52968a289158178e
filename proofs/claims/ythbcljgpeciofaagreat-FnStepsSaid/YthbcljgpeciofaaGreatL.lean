/- Plain lemmas on the models of the helpers. No condition. -/
import Derived.Test.YthbcljgpeciofaaGreatM
namespace Go.Mo
open Go.Vm
set_option linter.unusedSimpArgs false
set_option linter.unusedVariables false
theorem Xk (a0 : List Y4) (a1 : Int) : Z0 a0 a1 < (a0.length : Int) := qT (F := xF a0 a1) (c := fun J => ((nth a0 J).Number == a1)) (fun _ => rfl) (fun _ _ => rfl) _ _
theorem LX (a0 : Zv) : T2 a0 = a0 := rfl
theorem Gl (a0 : Zd) : Oy a0 = a0 := rfl
theorem Iw (a0 : Zf) : Rf a0 = a0 := rfl
theorem Gb (a0 : List Zf) : Se a0 = a0 := by
  have h := xB (F := (Wv a0)) (a := a0) (g := (fun x => x)) (fun _ => rfl) (fun _ _ _ => rfl) (a0.length + 1) [] 0 (by omega) (by omega)
  simp only [List.nil_append, List.drop_zero] at h
  unfold Se
  rw [h]
theorem Ib (a0 : Zc) : R7 a0 = a0 := rfl
theorem IH (a0 : Zi) : Uz a0 = a0 := by
  have h := xB (F := (fun n v i => kX a0 n i v)) (a := a0.Zj) (g := (fun x => x)) (fun _ => rfl) (fun _ _ _ => rfl) (a0.Zj.length + 1) [] 0 (by omega) (by omega)
  simp only [List.nil_append, List.drop_zero] at h
  unfold Uz
  rw [h]
theorem I6 (a0 : ZZ) : Rg a0 = a0 := rfl
theorem IJ (a0 : ZF) : Us a0 = a0 := by
  have h := xB (F := (fun n v i => kc a0 n i v)) (a := a0.ZC) (g := (fun x => x)) (fun _ => rfl) (fun _ _ _ => rfl) (a0.ZC.length + 1) [] 0 (by omega) (by omega)
  simp only [List.nil_append, List.drop_zero] at h
  unfold Us
  rw [h]
theorem Ih (a0 : ZH) : U0 a0 = a0 := by
  have h := xB (F := (fun n v i => kO a0 n i v)) (a := a0.ZA) (g := (fun x => x)) (fun _ => rfl) (fun _ _ _ => rfl) (a0.ZA.length + 1) [] 0 (by omega) (by omega)
  simp only [List.nil_append, List.drop_zero] at h
  unfold U0
  rw [h]
theorem MM (a0 : ZH) (a1 : Int) : XG a0 a1 < (a0.ZR.length : Int) := qT (F := Qq a0 a1) (c := fun J => ((nth a0.ZR J).Key == a1)) (fun _ => rfl) (fun _ _ => rfl) _ _
theorem TF (a0 : ZF) (a1 : Int) : Yo a0 a1 < (a0.ZC.length : Int) := qT (F := yN a0 a1) (c := fun J => ((nth a0.ZC J).Id == a1)) (fun _ => rfl) (fun _ _ => rfl) _ _
theorem qS (a0 : List Ye) (a1 : Int) : Zh a0 a1 < (a0.length : Int) := qT (F := z5 a0 a1) (c := fun J => ((nth a0 J).ZV == a1)) (fun _ => rfl) (fun _ _ => rfl) _ _
theorem q9 (a0 : List YH) (a1 : Int) : QV a0 a1 < (a0.length : Int) := qT (F := xm a0 a1) (c := fun J => ((nth a0 J).Id == a1)) (fun _ => rfl) (fun _ _ => rfl) _ _
theorem QE (a0 : List Zr) (a1 : Int) : Zg a0 a1 < (a0.length : Int) := qT (F := Q8 a0 a1) (c := fun J => ((nth a0 J).Id == a1)) (fun _ => rfl) (fun _ _ => rfl) _ _
theorem xl (a0 : List Y4) (a1 : Int) : YB a0 a1 < (a0.length : Int) := qT (F := xD a0 a1) (c := fun J => ((nth a0 J).Number == a1)) (fun _ => rfl) (fun _ _ => rfl) _ _
theorem NY (a0 : Zv) : Uk a0 = a0 := rfl
theorem LD (a0 : List Int) : Tu a0 = a0 := rfl
theorem RH (a0 : Zd) : kF a0 = a0 := rfl
theorem NJ (a0 : Zf) : Uj a0 = a0 := rfl
theorem Py (a0 : List Zf) : jS a0 = a0 := by
  have h := xB (F := (xp a0)) (a := a0) (g := (fun x => x)) (fun _ => rfl) (fun _ _ _ => rfl) (a0.length + 1) [] 0 (by omega) (by omega)
  simp only [List.nil_append, List.drop_zero] at h
  unfold jS
  rw [h]
theorem Px (a0 : List Zo) : VE a0 = a0 := rfl
theorem Ru (a0 : Zc) : WN a0 = a0 := rfl
theorem P1 (a0 : Zi) : jU a0 = a0 := by
  have h := xB (F := (fun n v i => xO a0 n i v)) (a := a0.Zj) (g := (fun x => x)) (fun _ => rfl) (fun _ _ _ => rfl) (a0.Zj.length + 1) [] 0 (by omega) (by omega)
  simp only [List.nil_append, List.drop_zero] at h
  unfold jU
  rw [h]
theorem Ml (a0 : ZZ) : SA a0 = a0 := rfl
theorem RO (a0 : ZF) : qe a0 = a0 := by
  have h := xB (F := (fun n v i => yq a0 n i v)) (a := a0.ZC) (g := (fun x => x)) (fun _ => rfl) (fun _ _ _ => rfl) (a0.ZC.length + 1) [] 0 (by omega) (by omega)
  simp only [List.nil_append, List.drop_zero] at h
  unfold qe
  rw [h]
theorem O0 (a0 : ZH) : kj a0 = a0 := by
  have h := xB (F := (fun n v i => qX a0 n i v)) (a := a0.ZA) (g := (fun x => x)) (fun _ => rfl) (fun _ _ _ => rfl) (a0.ZA.length + 1) [] 0 (by omega) (by omega)
  simp only [List.nil_append, List.drop_zero] at h
  unfold kj
  rw [h]
theorem Qm (a0 : ZF) (a1 : Int) : ZU a0 a1 < (a0.ZC.length : Int) := qT (F := KG a0 a1) (c := fun J => ((nth a0.ZC J).Id == a1)) (fun _ => rfl) (fun _ _ => rfl) _ _
theorem LL (a0 : List Ye) (a1 : Int) : XU a0 a1 < (a0.length : Int) := qT (F := zB a0 a1) (c := fun J => ((nth a0 J).ZV == a1)) (fun _ => rfl) (fun _ _ => rfl) _ _
theorem XQ (a0 : List Zr) (a1 : Int) : ZW a0 a1 < (a0.length : Int) := qT (F := QT a0 a1) (c := fun J => ((nth a0 J).Id == a1)) (fun _ => rfl) (fun _ _ => rfl) _ _
theorem TS {n : Nat} {x : Ye} (h : 7 <= n) : Sm n (KX x) := ⟨by simp [KX]; omega, fun _ _ => trivial⟩
@[simp] theorem Ds (x : Ye) : (KX x).length = 7 := rfl
theorem TJ {n : Nat} {x : Ye} (h : 7 <= n) : Sm n (KY x) := ⟨by simp [KY]; omega, fun _ _ => trivial⟩
@[simp] theorem CC (x : Ye) : (KY x).length = 7 := rfl
theorem N4 {n : Nat} {x : Zo} (h : 5 <= n) : Sm n (JU x) := ⟨by simp [JU]; omega, fun _ _ => trivial⟩
@[simp] theorem DY (x : Zo) : (JU x).length = 5 := rfl
theorem NA {n : Nat} {x : Zo} (h : 5 <= n) : Sm n (Q4 x) := ⟨by simp [Q4]; omega, fun _ _ => trivial⟩
@[simp] theorem DW (x : Zo) : (Q4 x).length = 5 := rfl
theorem VJ {n : Nat} {x : Zp} (h : 5 <= n) : Sm n (Qn x) := ⟨by simp [Qn]; omega, fun _ _ => trivial⟩
@[simp] theorem Ei (x : Zp) : (Qn x).length = 5 := rfl
theorem VG {n : Nat} {x : Zp} (h : 5 <= n) : Sm n (QQ x) := ⟨by simp [QQ]; omega, fun _ _ => trivial⟩
@[simp] theorem EY (x : Zp) : (QQ x).length = 5 := rfl
theorem jg {n : Nat} {x : Zm} (h : 9 <= n) : Sm n (Xr x) := ⟨by simp [Xr]; omega, fun _ _ => trivial⟩
@[simp] theorem G2 (x : Zm) : (Xr x).length = 9 := rfl
theorem kA {n : Nat} {x : Zm} (h : 9 <= n) : Sm n (Xf x) := ⟨by simp [Xf]; omega, fun _ _ => trivial⟩
@[simp] theorem G1 (x : Zm) : (Xf x).length = 9 := rfl
theorem Ov {a : Zi} (h : K4 a = true) : 0 < a.ZO.length := by
  unfold K4 at h
  split at h
  · rename_i r e
    have : ∀ n v, yI a n v ≠ .inl true := by
      intro n
      induction n with
      | zero => intro v h; cases h
      | succ n ih =>
        intro v h
        rw [yI] at h
        cases h1 : decide ((v : Int) < (a.ZO.length : Int)) with
        | false => rw [h1] at h; cases h
        | true =>
          rw [h1] at h
          cases h2 : decide (y7 a (nth a.ZO v) < (v : Int)) with
          | true => rw [h2] at h; cases h
          | false => rw [h2] at h; exact ih _ h
    subst h; exact absurd e (this _ _)
  · split at h
    · rename_i r e
      have : ∀ n v, yC a n v ≠ .inl true := by
        intro n
        induction n with
        | zero => intro v h; cases h
        | succ n ih =>
          intro v h
          rw [yC] at h
          generalize decide ((v : Int) < (a.Zj.length : Int)) = c1 at h
          cases c1 with
          | false => cases h
          | true =>
            simp only [cond_true] at h
            generalize (!Z8 (nth a.Zj v).Count 1 (a.ZO.length : Int) || decide ((v : Int) > 0) && decide ((nth a.Zj (v - 1)).Count > (nth a.Zj v).Count)) = c2 at h
            cases c2 with
            | true => cases h
            | false => exact ih _ h
      subst h; exact absurd e (this _ _)
    · simp only [Z8, Bool.and_eq_true, decide_eq_true_eq] at h; omega
theorem Nc {a : Zi} (h : Xp a = true) : 0 < a.ZO.length := by
  unfold Xp at h
  generalize (match z7 a (a.ZO.length + 1) 0 with | .inl r1 => r1 | .inr _ => (match yK a (a.Zj.length + 1) 0 with | .inl r2 => r2 | .inr _ => true)) = m at h
  cases hh : Za (a.ZO.length : Int) 1 12 with
  | false => rw [hh] at h; simp at h
  | true => simp only [Za, Bool.and_eq_true, decide_eq_true_eq] at hh; omega
theorem PE {a : Zd} (h : Y1 a = true) : a.XP.length = a.YR.length := by
  unfold Y1 at h
  split at h
  · rename_i r e
    have : ∀ n v, XT a n v ≠ .inl true := by
      intro n
      induction n with
      | zero => intro v h; cases h
      | succ n ih =>
        intro v h
        rw [XT] at h
        generalize decide ((v : Int) < (a.YR.length : Int)) = c1 at h
        cases c1 with
        | false => cases h
        | true =>
          simp only [cond_true] at h
          generalize decide (((nth a.YR v).size : Int) > 40) = c2 at h
          cases c2 with
          | true => cases h
          | false => exact ih _ h
    subst h; exact absurd e (this _ _)
  · split at h
    · rename_i r e
      have : ∀ n v, XN a n v ≠ .inl true := by
        intro n
        induction n with
        | zero => intro v h; cases h
        | succ n ih =>
          intro v h
          rw [XN] at h
          generalize decide ((v : Int) < (a.XP.length : Int)) = c1 at h
          cases c1 with
          | false => cases h
          | true =>
            simp only [cond_true] at h
            generalize (!Z8 (nth a.XP v) 1 1000000000000) = c2 at h
            cases c2 with
            | true => cases h
            | false => exact ih _ h
      subst h; exact absurd e (this _ _)
    · simp only [Bool.and_eq_true, beq_iff_eq] at h; omega
theorem Rc {a : Zd} (h : KI a = true) : a.XP.length = a.YR.length := by
  unfold KI at h
  generalize (match Ks a (a.YR.length + 1) 0 with | .inl r1 => r1 | .inr _ => true) = m at h
  by_cases hh : a.XP.length = a.YR.length
  · exact hh
  · rw [show ((a.XP.length : Int) != (a.YR.length : Int)) = true by simp; omega] at h
    simp at h
theorem Xa (a0 : ZH) (a1 : Int) (h : 0 <= (ZG a0 a1).1) : (ZG a0 a1).1.toNat < a0.ZA.length /\ 0 <= (ZG a0 a1).2 /\ (ZG a0 a1).2.toNat < (nth a0.ZA (ZG a0 a1).1.toNat).ZC.length := by
  have key : ∀ n v r, zf a0 a1 n v = .inl r -> r.1.toNat < a0.ZA.length /\ 0 <= r.2 /\ r.2.toNat < (nth a0.ZA r.1.toNat).ZC.length := by
    intro n
    induction n with
    | zero => intro v r h; cases h
    | succ n ih =>
      intro v r h
      rw [zf] at h
      cases h1 : decide ((v : Int) < (a0.ZA.length : Int)) with
      | false => rw [h1] at h; cases h
      | true =>
        rw [h1] at h
        simp only [cond_true] at h
        cases h2 : decide (Yo (nth a0.ZA v) a1 >= 0) with
        | false => rw [h2] at h; exact ih _ _ h
        | true =>
          rw [h2] at h; cases h
          simp at h1 h2
          have := TF (nth a0.ZA v) a1
          simp only [Int.toNat_natCast]
          exact ⟨h1, h2, by omega⟩
  unfold ZG at h ⊢
  cases hh : zf a0 a1 (a0.ZA.length + 1) 0 with
  | inl r => rw [hh] at h; exact key _ _ r hh
  | inr u => rw [hh] at h; simp at h
theorem xb (a0 : ZH) (a1 : Int) (h : 0 <= (Yi a0 a1).1) : (Yi a0 a1).1.toNat < a0.ZA.length /\ 0 <= (Yi a0 a1).2 /\ (Yi a0 a1).2.toNat < (nth a0.ZA (Yi a0 a1).1.toNat).ZC.length := by
  have key : ∀ n v r, zj a0 a1 n v = .inl r -> r.1.toNat < a0.ZA.length /\ 0 <= r.2 /\ r.2.toNat < (nth a0.ZA r.1.toNat).ZC.length := by
    intro n
    induction n with
    | zero => intro v r h; cases h
    | succ n ih =>
      intro v r h
      rw [zj] at h
      cases h1 : decide ((v : Int) < (a0.ZA.length : Int)) with
      | false => rw [h1] at h; cases h
      | true =>
        rw [h1] at h
        simp only [cond_true] at h
        cases h2 : decide (ZU (nth a0.ZA v) a1 >= 0) with
        | false => rw [h2] at h; exact ih _ _ h
        | true =>
          rw [h2] at h; cases h
          simp at h1 h2
          have := Qm (nth a0.ZA v) a1
          simp only [Int.toNat_natCast]
          exact ⟨h1, h2, by omega⟩
  unfold Yi at h ⊢
  cases hh : zj a0 a1 (a0.ZA.length + 1) 0 with
  | inl r => rw [hh] at h; exact key _ _ r hh
  | inr u => rw [hh] at h; simp at h
theorem j8 {a : Int} {n : Nat} (hn : n <= 9223372036854775807) (h : Z8 a 0 (W ((n : Int) - 1)) = true) : 0 <= a /\ a < n := by
  rw [D1 n hn] at h
  simp only [Z8, Bool.and_eq_true, decide_eq_true_eq] at h; omega
@[simp] theorem Cs (l : List UInt8) : (qH l).length = l.length := by
  have key : ∀ n (acc : List Int) v, l.length < n + v -> v <= l.length -> (zy l n acc v).length = acc.length + (l.length - v) := by
    intro n
    induction n with
    | zero => intro acc v h1 h2; omega
    | succ n ih =>
      intro acc v h1 h2
      rw [zy]
      by_cases hv : v < l.length
      · rw [show decide ((v : Int) < (l.length : Int)) = true by simpa using hv, cond_true, ih _ (v + 1) (by omega) (by omega)]
        simp; omega
      · rw [show decide ((v : Int) < (l.length : Int)) = false by simpa using hv, cond_false]; omega
  have := key (l.length + 1) [] 0 (by omega) (by omega)
  simpa [qH] using this
theorem yp {n : Nat} {a0 : Zi} {a1 : Zd} (h : Sm n a0) : Sm n (JM a0 a1) := by
  have key : ∀ n (acc : List Int) v, a0.Zj.length < n + v -> v <= a0.Zj.length -> (Kv a0 a1 n acc v).length = acc.length + (a0.Zj.length - v) := by
    intro n
    induction n with
    | zero => intro acc v h1 h2; omega
    | succ n ih =>
      intro acc v h1 h2
      rw [Kv]
      by_cases hv : v < a0.Zj.length
      · rw [show decide ((v : Int) < (a0.Zj.length : Int)) = true by simpa using hv, cond_true, ih _ (v + 1) (by omega) (by omega)]
        simp; omega
      · rw [show decide ((v : Int) < (a0.Zj.length : Int)) = false by simpa using hv, cond_false]; omega
  have h2 := key (a0.Zj.length + 1) [] 0 (by omega) (by omega)
  have h3 := XZ (Zi.j0 h)
  refine ⟨?_, fun _ _ => trivial⟩
  unfold JM
  simp only [List.length_nil, Nat.zero_add, Nat.sub_zero] at h2
  rw [h2]; exact h3
theorem XC (a0 : Zf) : (Xu a0 = 101 -> a0.Y0.length = 7) /\ (Xu a0 = 102 -> a0.Y0.length = 5) /\ (Xu a0 = 103 -> a0.Y0.length = 5) /\ (Xu a0 = 104 -> a0.Y0.length = 9) /\ (Xu a0 = 105 -> a0.Y0.length = 6) := by
  have key : ∀ v : Int, v ≠ 0 -> Xu a0 = v -> nth a0.Y0 0 = v /\ (a0.Y0.length : Int) = nth ([7, 5, 5, 9, 6] : List Int) (W (v - 101)).toNat := by
    intro v hv h
    unfold Xu at h
    cases c0 : (((a0.Y0.length : Int) == 0) || (!(Z8 (nth a0.Y0 0) 101 105)))
    · rw [c0, cond_false] at h
      cases c1 : ((a0.Y0.length : Int) != (nth ([7, 5, 5, 9, 6] : List Int) (W ((nth a0.Y0 0) - 101)).toNat))
      · rw [c1, cond_false] at h
        simp only [bne_eq_false_iff_eq] at c1
        exact ⟨h, by rw [<- h]; exact c1⟩
      · rw [c1, cond_true] at h; exact absurd h.symm hv
    · rw [c0, cond_true] at h; exact absurd h.symm hv
  refine ⟨fun h => ?_, fun h => ?_, fun h => ?_, fun h => ?_, fun h => ?_⟩ <;> (have := (key _ (by decide) h).2; simp [nth, Xc] at this; omega)
theorem XB (a0 : Zf) : (Xt a0 = 101 -> a0.Y0.length = 7) /\ (Xt a0 = 102 -> a0.Y0.length = 5) /\ (Xt a0 = 103 -> a0.Y0.length = 5) /\ (Xt a0 = 104 -> a0.Y0.length = 9) /\ (Xt a0 = 105 -> a0.Y0.length = 6) := by
  have key : ∀ v : Int, v ≠ 0 -> Xt a0 = v -> nth a0.Y0 0 = v /\ (a0.Y0.length : Int) = nth ([7, 5, 5, 9, 6] : List Int) (W (v - 101)).toNat := by
    intro v hv h
    unfold Xt at h
    cases c1 : ((((a0.Y0.length : Int) == 0) || (!(Za (nth a0.Y0 0) 101 105))) || ((a0.Y0.length : Int) != (nth ([7, 5, 5, 9, 6] : List Int) (W ((nth a0.Y0 0) - 101)).toNat)))
    · rw [c1, cond_false] at h
      simp only [Bool.or_eq_false_iff, bne_eq_false_iff_eq] at c1
      exact ⟨h, by rw [<- h]; exact c1.2⟩
    · rw [c1, cond_true] at h; exact absurd h.symm hv
  refine ⟨fun h => ?_, fun h => ?_, fun h => ?_, fun h => ?_, fun h => ?_⟩ <;> (have := (key _ (by decide) h).2; simp [nth, Xc] at this; omega)
theorem kQ (a0 : Int) (a1 : List Int) (h : a1.length <= 1048576) : 2 * (qa a0 a1).length = a1.length + a1.length % 2 := by
  have key : ∀ n v i, a1.length + 1 < 2 * n + i -> i <= a1.length + 1 -> i % 2 = 0 -> 2 * (yQ a0 a1 n v i).length = 2 * v.length + (a1.length + a1.length % 2 - i) := by
    intro n
    induction n with
    | zero => intro v i h1 h2; omega
    | succ n ih =>
      intro v i h1 h2 h3
      unfold yQ
      by_cases hi : i < a1.length
      · rw [show decide ((i : Int) < (a1.length : Int)) = true by simp [hi], cond_true]
        have e : ∀ x, 2 * (yQ a0 a1 n (v ++ [x]) (i + 2)).length = 2 * v.length + (a1.length + a1.length % 2 - i) := by
          intro x
          have := ih (v ++ [x]) (i + 2) (by omega) (by omega) (by omega)
          rw [this, List.length_append, List.length_singleton]; omega
        exact Ze (p := fun (r : List Int) => 2 * r.length = 2 * v.length + (a1.length + a1.length % 2 - i)) (e _) (e _)
      · rw [show decide ((i : Int) < (a1.length : Int)) = false by simp; omega, cond_false]; omega
  have := key (a1.length + 1) [] 0 (by omega) (by omega) (by omega)
  unfold qa
  rw [this]; simp
theorem yP (a0 : Int) (a1 : List Int) (h : a1.length <= 1048576) : 2 * (Qs a0 a1).length = a1.length + a1.length % 2 := by
  have key : ∀ n v i, a1.length + 1 < 2 * n + i -> i <= a1.length + 1 -> i % 2 = 0 -> 2 * (QZ a0 a1 n v i).length = 2 * v.length + (a1.length + a1.length % 2 - i) := by
    intro n
    induction n with
    | zero => intro v i h1 h2; omega
    | succ n ih =>
      intro v i h1 h2 h3
      unfold QZ
      by_cases hi : i < a1.length
      · rw [show decide ((i : Int) < (a1.length : Int)) = true by simp [hi], cond_true]
        have e : ∀ x, 2 * (QZ a0 a1 n (v ++ [x]) (i + 2)).length = 2 * v.length + (a1.length + a1.length % 2 - i) := by
          intro x
          have := ih (v ++ [x]) (i + 2) (by omega) (by omega) (by omega)
          rw [this, List.length_append, List.length_singleton]; omega
        exact Ze (p := fun (r : List Int) => 2 * r.length = 2 * v.length + (a1.length + a1.length % 2 - i)) (e _) (e _)
      · rw [show decide ((i : Int) < (a1.length : Int)) = false by simp; omega, cond_false]; omega
  have := key (a1.length + 1) [] 0 (by omega) (by omega) (by omega)
  unfold Qs
  rw [this]; simp
theorem kU {n : Nat} (h : 10 <= n) : Sm n zF := ⟨h, fun _ _ => trivial⟩
theorem xq {n : Nat} {a0 : ZF} {a1 : Int} (h : Sm n a0) : Sm n (Yw a0 a1) := by
  refine ⟨?_, fun _ _ => trivial⟩
  have e := H8 (F := zK a0 a1) (fun _ _ => rfl) (fun _ _ _ => rfl) (a0.ZC.length + 1) [] 0
  have : (Yw a0 a1).length <= 0 + (a0.ZC.length - 0) := e
  have := XZ (show Sm n a0.ZC from h)
  omega
theorem jx {n : Nat} {a0 : ZF} {a1 : Int} (h : Sm n a0) : Sm n (Y6 a0 a1) := by
  refine ⟨?_, fun _ _ => trivial⟩
  have e := H8 (F := zJ a0 a1) (fun _ _ => rfl) (fun _ _ _ => rfl) (a0.ZC.length + 1) [] 0
  have : (Y6 a0 a1).length <= 0 + (a0.ZC.length - 0) := e
  have := XZ (show Sm n a0.ZC from h)
  omega
theorem QX (a0 : ZH) (a1 : Int) (h : (YK a0 a1).2.2 = true) : 0 <= (YK a0 a1).1 /\ (YK a0 a1).1 < (a0.ZA.length : Int) /\ 0 <= (YK a0 a1).2.1 /\ (YK a0 a1).2.1 < (a0.ZR.length : Int) :=
  Yb (p := fun (r : Int × Int × Bool) => r.2.2 = true -> 0 <= r.1 /\ r.1 < (a0.ZA.length : Int) /\ 0 <= r.2.1 /\ r.2.1 < (a0.ZR.length : Int)) (fun _ h => by simp at h) (fun hc h => by
    simp only [Bool.or_eq_false_iff, decide_eq_false_iff_not] at hc
    have f := xb a0 a1 (by omega)
    dsimp only at h ⊢
    rw [Bool.and_eq_true, decide_eq_true_eq] at h
    have h2 := h.2
    exact ⟨by omega, by omega, by omega, LL _ _⟩) h
theorem MF {n : Nat} {x : Ye} (h : 7 <= n) : Sm n (xG x) := TS h
theorem Vn {n : Nat} {x : Ye} (h : 7 <= n) : Sm n (Qh x) := TJ h
theorem Xy {n : Nat} {x : Zp} (h : 5 <= n) : Sm n (Z2 x) := VJ h
theorem Wd {n : Nat} {x : Zp} (h : 5 <= n) : Sm n (Yr x) := VG h
theorem MK {n : Nat} {x : Zm} (h : 9 <= n) : Sm n (K2 x) := jg h
theorem V8 {n : Nat} {x : Zm} (h : 9 <= n) : Sm n (X5 x) := kA h
theorem ZI {a0 : List Y4} {a1 : Zp} (h : (Zq a0 a1).2 = true) : 0 <= Z0 a0 a1.Zn := by
  unfold Zq at h
  cases hc : ((!(qJ a1)) || (decide ((Z0 a0 a1.Zn) < 0))) with
  | true => rw [hc] at h; simp at h
  | false => simp at hc; exact hc.2
theorem xS {n : Nat} {a0 : ZH} {a1 : Int} {a2 : Zd} {a3 a4 : Int} (h : Sm n a2) (hn : 9 <= n) : Sm n (Xx a0 a1 a2 a3 a4).1 := by
  unfold Xx
  cases ((decide ((Z4 a0.Frame.Methods a0.Frame.Now) < 0)) || (decide ((XG a0 a1) < 0))) with
  | true => exact ⟨⟨Ud, Ud⟩, Ud, Ud⟩
  | false =>
    refine ⟨h, ⟨by simp; omega, fun y hy => ?_⟩, Ud⟩
    rcases List.mem_cons.1 hy with rfl | hy
    · exact MK (by omega)
    rcases List.mem_cons.1 hy with rfl | hy
    · exact MF (by omega)
    · cases hy
theorem W4 {n : Nat} {a0 : ZF} {a1 : ZZ} (h : Sm n a0) (hx : Sm (n + 1) a1) : Sm (n + 1) (YI a0 a1).1 := by
  have h1 : Sm (n + 1) a0 := Zb (Nat.le_succ n) h
  unfold YI
  cases ((decide ((ZU a0 a1.Id) >= 0)) || (!(YC a0))) with
  | true => exact h1
  | false =>
    simp only [cond_false]
    generalize Yx a0 a1 (a0.ZC.length + 1) 0 = z
    cases (!(YC (ZF.mk a0.Id (((a0.ZC.take z) ++ ([a1] : List ZZ)) ++ (a0.ZC.drop z))))) with
    | true => exact h1
    | false =>
      refine ⟨by have := ZF.Yn h; have := this.1; simp; omega, fun y hy => ?_⟩
      have iV : y ∈ a0.ZC.take z \/ y = a1 \/ y ∈ a0.ZC.drop z := by simpa using hy
      rcases iV with hy | rfl | hy
      · exact h1.2 y (List.mem_of_mem_take hy)
      · exact hx
      · exact h1.2 y (List.mem_of_mem_drop hy)
theorem kL {n : Nat} {a0 : ZF} {a1 : ZZ} (h : Sm n a0) (hx : Sm n a1) : ∀ (m : Nat) (b : Bool) (i : Nat) (l : List ZZ), l.length <= i + (bif b then 1 else 0) -> i <= a0.ZC.length -> (∀ y ∈ l, Sm n y) ->
    (Xq a0 a1 m b i l).2.length <= a0.ZC.length + (bif (Xq a0 a1 m b i l).1 then 1 else 0) /\ ∀ y ∈ (Xq a0 a1 m b i l).2, Sm n y
  | 0, b, i, l, _, _, _ => ⟨Nat.zero_le _, fun y hy => by cases hy⟩
  | m + 1, b, i, l, hl, hi, hs => by
    unfold Xq
    cases hc : decide ((i : Int) < (a0.ZC.length : Int)) with
    | false =>
      simp only [cond_false]
      refine ⟨?_, hs⟩
      have : ¬ ((i : Int) < a0.ZC.length) := by simpa using hc
      omega
    | true =>
      have uL : i < a0.ZC.length := by simpa using hc
      have hn : Sm n (nth a0.ZC i) := YU h
      simp only [cond_true]
      cases hd : ((!b) && (decide (a1.Id < (nth a0.ZC i).Id))) with
      | true =>
        have hb : b = false := by cases b <;> simp_all
        subst hb
        simp only [cond_true]
        refine kL h hx m true (i + 1) _ (by simp at hl ⊢; omega) uL (fun y hy => ?_)
        simp only [List.append_assoc, List.mem_append, List.mem_cons, List.not_mem_nil, or_false] at hy
        rcases hy with hy | rfl | rfl
        · exact hs y hy
        · exact hx
        · exact hn
      | false =>
        simp only [cond_false]
        refine kL h hx m b (i + 1) _ (by simp at hl ⊢; omega) uL (fun y hy => ?_)
        simp only [List.mem_append, List.mem_cons, List.not_mem_nil, or_false] at hy
        rcases hy with hy | rfl
        · exact hs y hy
        · exact hn
theorem Iv {n : Nat} {a0 : ZF} {a1 : ZZ} (h : Sm n a0) (hx : Sm n a1) : Sm (n + 1) (Q9 a0 a1).1 := by
  have h1 : Sm (n + 1) a0 := Zb (Nat.le_succ n) h
  unfold Q9
  cases ((!(Xm a0)) || (decide ((Yo a0 a1.Id) >= 0))) with
  | true => exact h1
  | false =>
    have hz := kL h hx (a0.ZC.length + 1) false 0 [] (Nat.zero_le _) (Nat.zero_le _) (fun y hy => by cases hy)
    have hlen := (ZF.Yn h).1
    simp only [cond_false]
    generalize hq : Xq a0 a1 (a0.ZC.length + 1) false 0 [] = z at hz ⊢
    obtain ⟨z0, z1⟩ := z
    cases z0 with
    | false =>
      simp only [Bool.not_false, cond_true]
      cases (!(Xm (ZF.mk a0.Id (z1 ++ ([a1] : List ZZ))))) with
      | true => exact h1
      | false =>
        refine ⟨by have := hz.1; simp at this ⊢; omega, fun y hy => ?_⟩
        have iV : y ∈ z1 \/ y = a1 := by simpa using hy
        rcases iV with hy | rfl
        · exact Zb (Nat.le_succ n) (hz.2 y hy)
        · exact Zb (Nat.le_succ n) hx
    | true =>
      simp only [Bool.not_true, cond_false]
      cases (!(Xm (ZF.mk a0.Id z1))) with
      | true => exact h1
      | false => exact ⟨by have := hz.1; simp at this ⊢; omega, fun y hy => Zb (Nat.le_succ n) (hz.2 y hy)⟩
theorem VL {n : Nat} {a0 : ZH} {a1 a2 : Int} {a3 : Zd} {a4 a5 : Int} (h : Sm n a0) (hd : Sm n a3) (hn : 9 <= n) : ∀ (m v : Nat) (r : ZH × Bool), QP a0 a1 a2 a3 a4 a5 m v = .inl r -> Sm (n + 1) r.1
  | 0, v, r, e => by cases e
  | m + 1, v, r, e => by
    have h1 : Sm (n + 1) a0 := Zb (Nat.le_succ n) h
    unfold QP at e
    cases hc : decide ((v : Int) < (a0.ZR.length : Int)) with
    | false => rw [hc] at e; cases e
    | true =>
      rw [hc] at e
      simp only [cond_true] at e
      cases hk : ((nth a0.ZR v).Key != a2) with
      | true => rw [hk] at e; exact VL h hd hn m (v + 1) r e
      | false =>
        rw [hk] at e
        simp only [cond_false] at e
        generalize hq : (ZZ.mk a0.Next a5 a3 (Ys a0.Frame.Zk (Zm.mk a2 (nth a0.ZR v).ZV (ZX a0.Frame.Methods a0.Frame.Now) (YN (ZX a0.Frame.Methods a0.Frame.Now) a3) 1 a4 0 0 0)).1 (Zi.mk ([(X5 (Ys a0.Frame.Zk (Zm.mk a2 (nth a0.ZR v).ZV (ZX a0.Frame.Methods a0.Frame.Now) (YN (ZX a0.Frame.Methods a0.Frame.Now) a3) 1 a4 0 0 0)).1), (Qh (nth a0.ZR v))] : List Zf) ([] : List Zc))) = it at e
        have gE : Sm (n + 1) it := by
          rw [<- hq]
          refine ⟨Zb (Nat.le_succ n) hd, ⟨by simp; omega, fun y hy => ?_⟩, Ud⟩
          rcases List.mem_cons.1 hy with rfl | hy
          · exact V8 (by omega)
          rcases List.mem_cons.1 hy with rfl | hy
          · exact Vn (by omega)
          · cases hy
        clear hq
        cases hb : ((!(Ys a0.Frame.Zk (Zm.mk a2 (nth a0.ZR v).ZV (ZX a0.Frame.Methods a0.Frame.Now) (YN (ZX a0.Frame.Methods a0.Frame.Now) a3) 1 a4 0 0 0)).2) || (!(YI (nth a0.ZA a1.toNat) it).2)) with
        | true => rw [hb] at e; cases e; exact h1
        | false =>
          rw [hb] at e
          cases e
          exact ⟨h1.1, h1.2.1, h1.2.2.1, xM h1.2.2.2.1 (W4 (YU h.2.2.2.1) gE), h1.2.2.2.2.1, h1.2.2.2.2.2.1, h1.2.2.2.2.2.2⟩
theorem yd {n : Nat} {a0 : ZH} {a1 a2 : Int} {a3 : Zd} {a4 a5 : Int} (h : Sm n a0) (hd : Sm n a3) (hn : 9 <= n) : Sm (n + 1) (Qk a0 a1 a2 a3 a4 a5).1 := by
  have h1 : Sm (n + 1) a0 := Zb (Nat.le_succ n) h
  unfold Qk
  cases (((!(Z6 a0 a1)) || (decide ((YB a0.Frame.Zk a2) < 0))) || (decide ((ZX a0.Frame.Methods a0.Frame.Now) < 0))) with
  | true => exact h1
  | false =>
    simp only [cond_false]
    cases he : QP a0 a1 a2 a3 a4 a5 (a0.ZR.length + 1) 0 with
    | inl r => exact VL h hd hn _ _ r he
    | inr _ => exact h1
theorem yB (a0 : Int) : ∀ (m : Nat) (x : Int) (l : List X4) (y : List Int), (JO a0 m x l y).length <= l.length + m
  | 0, x, l, y => Nat.zero_le _
  | m + 1, x, l, y => by
    simp only [JO]
    cases decide ((y.length : Int) > 1) with
    | false => simp
    | true =>
      simp only [cond_true]
      cases ((Int.tmod x 2) == 1) with
      | true => refine Nat.le_trans (yB a0 m _ _ _) ?_; simp; omega
      | false =>
        simp only [cond_false]
        cases decide ((W (x + 1)) < (y.length : Int)) with
        | true => refine Nat.le_trans (yB a0 m _ _ _) ?_; simp; omega
        | false => refine Nat.le_trans (yB a0 m _ _ _) ?_; omega
theorem TR {n : Nat} {a0 : Int} {a1 : List Int} {a2 : Int} (h : 17 <= n) : Sm n (Jk a0 a1 a2) := by
  refine ⟨?_, fun _ _ => trivial⟩
  unfold Jk
  cases hc : ((decide ((a1.length : Int) > 16)) || (!(Z8 a2 0 (W ((a1.length : Int) - 1))))) with
  | true => exact Nat.zero_le _
  | false =>
    have h1 := yB a0 (a1.length + 1) a2 [] a1
    simp only [Bool.or_eq_false_iff, decide_eq_false_iff_not] at hc
    simp only [cond_false]; simp at h1; omega
theorem yJ (a0 : Int) : ∀ (m : Nat) (y : List Int) (x : Int) (l : List X4), (JN a0 m y x l).length <= l.length + m
  | 0, y, x, l => Nat.zero_le _
  | m + 1, y, x, l => by
    simp only [JN]
    cases decide ((y.length : Int) > 1) with
    | false => simp
    | true =>
      simp only [cond_true]
      cases ((Int.tmod x 2) == 1) with
      | true => refine Nat.le_trans (yJ a0 m _ _ _) ?_; simp; omega
      | false =>
        simp only [cond_false]
        cases decide ((W (x + 1)) < (y.length : Int)) with
        | true => refine Nat.le_trans (yJ a0 m _ _ _) ?_; simp; omega
        | false => refine Nat.le_trans (yJ a0 m _ _ _) ?_; omega
theorem TI {n : Nat} {a0 : Int} {a1 : List Int} {a2 : Int} (h : 17 <= n) : Sm n (X3 a0 a1 a2) := by
  refine ⟨?_, fun _ _ => trivial⟩
  unfold X3
  cases hc : ((!(Za a2 0 (W ((a1.length : Int) - 1)))) || (decide ((a1.length : Int) > 16))) with
  | true => exact Nat.zero_le _
  | false =>
    have h1 := yJ a0 (a1.length + 1) a1 a2 []
    simp only [Bool.or_eq_false_iff, decide_eq_false_iff_not] at hc
    simp only [cond_false]; simp at h1; omega
theorem TQ (a0 : ZH) (a1 : List Int) : ∀ (m v : Nat), a1.length < m + v -> (match zp a0 a1 m v with | .inl r => r | .inr _ => true) = true -> ∀ j, v <= j -> j < a1.length -> 0 <= Zg a0.Frame.ZD (nth a1 j) /\ Zg a0.Frame.ZD (nth a1 j) < (a0.YG.length : Int) /\ 0 <= Z0 a0.Frame.Zk (nth a0.Frame.ZD (Zg a0.Frame.ZD (nth a1 j)).toNat).Key
  | 0, v, h, _ => fun j h1 h2 => by omega
  | m + 1, v, h, e => by
    intro j h1 h2
    unfold zp at e
    have hc : decide ((v : Int) < (a1.length : Int)) = true := by simp; omega
    rw [hc] at e
    simp only [cond_true] at e
    revert e
    cases hA : (((decide ((Zg a0.Frame.ZD (nth a1 v)) < 0)) || (decide ((Zg a0.Frame.ZD (nth a1 v)) >= (a0.YG.length : Int)))) || ((decide ((v : Int) > 0)) && (decide ((nth a1 (v - 1)) >= (nth a1 v))))) with
    | true => intro e; simp at e
    | false =>
      simp only [cond_false]
      cases hB : ((decide ((Z0 a0.Frame.Zk (nth a0.Frame.ZD (Zg a0.Frame.ZD (nth a1 v)).toNat).Key) < 0)) || (decide ((nth a0.Frame.Zk (Z0 a0.Frame.Zk (nth a0.Frame.ZD (Zg a0.Frame.ZD (nth a1 v)).toNat).Key).toNat).qN > a0.Frame.Now))) with
      | true => intro e; simp at e
      | false =>
        intro e
        rcases Nat.eq_or_lt_of_le h1 with rfl | h1
        · simp only [Bool.or_eq_false_iff, decide_eq_false_iff_not] at hA hB
          exact ⟨by omega, by omega, by omega⟩
        · exact TQ a0 a1 m (v + 1) (by omega) e j h1 h2
theorem Qf {a0 : ZH} {a1 : List Int} (h : J4 a0 a1 = true) {j : Nat} (hj : j < a1.length) : 0 <= Zg a0.Frame.ZD (nth a1 j) /\ Zg a0.Frame.ZD (nth a1 j) < (a0.YG.length : Int) /\ 0 <= Z0 a0.Frame.Zk (nth a0.Frame.ZD (Zg a0.Frame.ZD (nth a1 j)).toNat).Key := by
  refine TQ a0 a1 (a1.length + 1) 0 (by omega) ?_ j (Nat.zero_le _) hj
  unfold J4 at h
  revert h
  cases zp a0 a1 (a1.length + 1) 0 with
  | inl r => exact fun h => h
  | inr _ => exact fun _ => rfl
theorem Hm (x : Int) : 0 <= LR .i64 x 255 /\ LR .i64 x 255 <= 255 := by
  have h : (BitVec.ofInt IntKind.i64.bits x &&& BitVec.ofInt IntKind.i64.bits 255).toNat <= 255 := by
    rw [BitVec.toNat_and]; exact Nat.le_trans Nat.and_le_right (Nat.le_of_ble_eq_true rfl)
  unfold LR
  rw [Yg (by omega) (by omega)]
  omega
theorem Ww (c : ZS) : 0 <= (Xn c).2 /\ (Xn c).2 <= 255 := by
  unfold Xn
  exact Ze (p := fun r : ZS × Int => 0 <= r.2 /\ r.2 <= 255) (Hm _) (Hm _)
theorem X8 (c : ZS) (n : Int) : 0 <= (ZB c n).2 /\ (0 < n -> (ZB c n).2 < n) := by
  unfold ZB
  refine Yb (p := fun r : ZS × Int => 0 <= r.2 /\ (0 < n -> r.2 < n)) (fun h => ⟨Int.le_refl _, fun h0 => h0⟩) (fun h => ?_)
  have hn : 0 < n := by simp at h; omega
  have h1 := Ww c
  have h2 := Ww (Xn c).1
  have h3 := Ww (Xn (Xn c).1).1
  refine Ze (p := fun r : ZS × Int => 0 <= r.2 /\ (0 < n -> r.2 < n)) ⟨Int.tmod_nonneg _ h1.1, fun _ => Int.tmod_lt_of_pos _ hn⟩ ⟨Int.tmod_nonneg _ ?_, fun _ => Int.tmod_lt_of_pos _ hn⟩
  simp only [Xc]
  omega
theorem Tk (c : ZS) : (Qw c).2.size <= 11 := by
  unfold Qw Uv
  exact Ah (by decide) _
theorem kg (a0 : XE) (a1 : Int) (h : zI a0 a1 = true) : a0.ZC.length <= 8 := by
  unfold zI at h
  have hk : ∀ n v r, Jx a0 n v = .inl r -> r = false := by
    intro n
    induction n with
    | zero => intro v r h; cases h
    | succ n ih =>
      intro v r h
      rw [Jx] at h
      revert h
      exact Ze (p := fun w => w = Sum.inl r -> r = false) (Ze (p := fun w => w = Sum.inl r -> r = false) (fun h => by cases h; rfl) (fun h => ih _ _ h)) (fun h => by cases h)
  cases hh : Jx a0 (a0.ZC.length + 1) 0 with
  | inl r => rw [hh] at h; have := hk _ _ _ hh; subst this; cases h
  | inr u =>
    rw [hh] at h
    simp only [Za, Bool.and_eq_true, decide_eq_true_eq] at h
    omega
theorem xd {n : Nat} {a0 : ZF} {a2 : List Int} (h : Sm n a0) : ∀ (m v : Nat) (l : List ZZ), (∀ x ∈ l, Sm n x) -> l.length <= v -> v <= a2.length ->
    (∀ r, X9 a0 a2 m v l = .inl r -> r = (XE.mk 0 0 [] 0, false)) /\ ∀ z, X9 a0 a2 m v l = .inr z -> z.length <= a2.length /\ ∀ x ∈ z, Sm n x
  | 0, v, l, _, _, _ => ⟨fun r h => (by cases h), fun z h => (by cases h; exact ⟨Nat.zero_le _, fun x hx => (by cases hx)⟩)⟩
  | m + 1, v, l, hs, hl, hv => by
    rw [X9]
    let p := fun w : Sum (XE × Bool) (List ZZ) => (∀ r, w = .inl r -> r = (XE.mk 0 0 [] 0, false)) /\ ∀ z, w = .inr z -> z.length <= a2.length /\ ∀ x ∈ z, Sm n x
    refine Yb (p := p) (fun hc => ?_) (fun _ => ⟨fun r h => (by cases h), fun z h => (by cases h; exact ⟨by omega, hs⟩)⟩)
    have hc : v < a2.length := by simpa using hc
    refine Ze (p := p) ⟨fun r h => (by cases h; rfl), fun z h => (by cases h)⟩ ?_
    refine xd h m (v + 1) _ (fun x hx => ?_) (by simp; omega) hc
    rcases List.mem_append.1 hx with hx | hx
    · exact hs x hx
    · have e := List.mem_singleton.1 hx
      subst e
      exact YU (ZF.Yn h)
theorem jE {n : Nat} {a0 : ZF} {a1 a3 : Int} {a2 : List Int} (h : Sm n a0) (h2 : Sm n a2) : Sm n (Y2 a0 a1 a2 a3).1 := by
  unfold Y2
  obtain ⟨k1, k2⟩ := xd (a2 := a2) h (a2.length + 1) 0 [] (fun x hx => (by cases hx)) (Nat.zero_le _) (Nat.zero_le _)
  have h0 : Sm n (XE.mk 0 0 [] 0) := by simp [XO]
  cases hh : X9 a0 a2 (a2.length + 1) 0 [] with
  | inl r => rw [k1 r hh]; exact h0
  | inr z =>
    obtain ⟨q1, q2⟩ := k2 z hh
    have hz : Sm n z := ⟨by have := XZ h2; omega, q2⟩
    dsimp only
    refine Ze (p := fun w : XE × Bool => Sm n w.1) h0 ?_
    simp [hz]
theorem TU {n : Nat} {a0 : ZF} {a1 : Int} (hb : n <= 9223372036854775807) (h : Sm n a0) : Sm n (X2 a0 a1).1 := by
  unfold X2
  by_cases hk : ZU a0 a1 < 0
  · rw [decide_eq_true hk]; exact h
  · rw [decide_eq_false hk]
    have hi := ZF.Yn h
    have hf := Qm a0 a1
    have hl := XZ hi
    refine ⟨?_, fun y hy => ?_⟩
    · have hm : (a0.ZC.take (ZU a0 a1).toNat ++ (a0.ZC.drop (W ((ZU a0 a1) + 1)).toNat)).length <= n := by
        have w : W ((ZU a0 a1) + 1) = (ZU a0 a1) + 1 := Yg (by omega) (by omega)
        rw [w]; simp; omega
      exact hm
    · have iV : y ∈ a0.ZC.take (ZU a0 a1).toNat \/ y ∈ a0.ZC.drop (W ((ZU a0 a1) + 1)).toNat := List.mem_append.1 hy
      rcases iV with hy | hy
      · exact hi.2 y (List.mem_of_mem_take hy)
      · exact hi.2 y (List.mem_of_mem_drop hy)
theorem OB {n : Nat} {a0 : ZH} {a1 : Int} (h : Sm n a0) : Sm n (Z7 a0 a1).1 := by
  refine Ze (p := fun w : ZH × Bool => Sm n w.1) h ?_
  exact ⟨h.1, h.2.1, xM h.2.2.1 trivial, h.2.2.2⟩
theorem Mv {n : Nat} {a0 : ZH} {a1 a2 : Int} {a3 : Zd} {a4 a5 : Int} (h : Sm n a0) (hd : Sm n a3) (hn : 9 <= n) : Sm (n + 1) (XK a0 a1 a2 a3 a4 a5).1 :=
  Ze (p := fun w : ZH × Bool => Sm (n + 1) w.1) (Zb (Nat.le_succ n) h) (yd h hd hn)
theorem LS {n : Nat} {a0 : Zi} {a1 : Zf} (h : Sm n a0) (hp : Sm (n + 1) a1) : Sm (n + 1) (Xo a0 a1).1 := by
  have h1 : Sm (n + 1) a0 := Zb (Nat.le_succ n) h
  refine Ze (p := fun w : Zi × Bool => Sm (n + 1) w.1) h1 ?_
  refine ⟨⟨?_, fun x hx => ?_⟩, h1.2⟩
  · have := h.1.1; simp; omega
  · rcases List.mem_append.1 hx with hx | hx
    · exact h1.1.2 x hx
    · have e := List.mem_singleton.1 hx; subst e; exact hp
theorem OC {n : Nat} {a0 : Zi} {a1 : Zc} (h : Sm n a0) (hp : Sm (n + 1) a1) : Sm (n + 1) (XF a0 a1).1 := by
  have h1 : Sm (n + 1) a0 := Zb (Nat.le_succ n) h
  refine Ze (p := fun w : Zi × Bool => Sm (n + 1) w.1) h1 ?_
  refine ⟨h1.1, ⟨?_, fun x hx => ?_⟩⟩
  · have := h.2.1; simp; omega
  · rcases List.mem_append.1 hx with hx | hx
    · exact h1.2.2 x hx
    · have e := List.mem_singleton.1 hx; subst e; exact hp
theorem MS {n : Nat} {a0 : ZF} {a1 : Int} {a2 : Zf} (h : Sm n a0) (hp : Sm (n + 1) a2) : Sm (n + 1) (Yv a0 a1 a2).1 := by
  have h1 : Sm (n + 1) a0 := Zb (Nat.le_succ n) h
  refine Ze (p := fun w : ZF × Bool => Sm (n + 1) w.1) h1 ?_
  refine xM (ZF.Yn h1) ?_
  have hi : Sm n (nth a0.ZC (ZU a0 a1).toNat) := YU (ZF.Yn h)
  exact ⟨(Zb (Nat.le_succ n) hi).1, LS hi.2 hp⟩
theorem Oq {n : Nat} {a0 : ZH} {i : Nat} {x : ZF} (h : Sm n a0) (hx : Sm n x) : Sm n (ZH.mk a0.Frame a0.ZR a0.Zu (a0.ZA.set i x) a0.YG a0.YW a0.Next a0.Yk) :=
  ⟨h.1, h.2.1, h.2.2.1, xM h.2.2.2.1 hx, h.2.2.2.2⟩
theorem TK {n : Nat} {a0 : ZH} {a1 a2 : Int} {a3 : Zp} (h : Sm n a0) (hn : 5 <= n) : Sm (n + 1) (QG a0 a1 a2 a3).1 := by
  have h1 : Sm (n + 1) a0 := Zb (Nat.le_succ n) h
  refine Ze (p := fun w : ZH × Bool => Sm (n + 1) w.1) h1 ?_
  exact Oq h1 (MS (YU (ZH.YX h)) (Wd (by omega)))
theorem OH {n : Nat} {a0 : ZH} {a1 : Int} (h : Sm n a0) (hn : 5 <= n) : Sm (n + 1) (Qb a0 a1).1 := by
  have h1 : Sm (n + 1) a0 := Zb (Nat.le_succ n) h
  let p := fun w : ZH × Bool => Sm (n + 1) w.1
  exact Ze (p := p) h1 (Ze (p := p) h1 (Ze (p := p) (TK h hn) (TK h hn)))
theorem OM {n : Nat} {a0 : ZF} {a1 : Int} (h : Sm n a0) : Sm n (KE a0 a1).1 := by
  have hi := ZF.Yn h
  have key : ∀ m v l, (∀ x ∈ l, Sm n x) -> l.length <= v -> v <= a0.ZC.length -> (X7 a0 a1 m v l).length <= a0.ZC.length /\ ∀ x ∈ X7 a0 a1 m v l, Sm n x := by
    intro m
    induction m with
    | zero => intro v l _ _ _; exact ⟨Nat.zero_le _, fun x hx => (by cases hx)⟩
    | succ m ih =>
      intro v l hs hl hv
      rw [X7]
      let p := fun w : List ZZ => w.length <= a0.ZC.length /\ ∀ x ∈ w, Sm n x
      refine Yb (p := p) (fun hc => ?_) (fun _ => ⟨by omega, hs⟩)
      have hc : v < a0.ZC.length := by simpa using hc
      refine Ze (p := p) (ih _ _ (fun x hx => ?_) (by simp; omega) hc) (ih _ _ hs (by omega) hc)
      rcases List.mem_append.1 hx with hx | hx
      · exact hs x hx
      · have e := List.mem_singleton.1 hx
        subst e
        exact YU hi
  obtain ⟨k1, k2⟩ := key (a0.ZC.length + 1) 0 [] (fun x hx => (by cases hx)) (Nat.zero_le _) (Nat.zero_le _)
  have := XZ hi
  exact ⟨by show (X7 a0 a1 (a0.ZC.length + 1) 0 []).length <= n; omega, k2⟩
theorem VO {n : Nat} {a0 : ZH} {a1 : Int} (h : Sm n a0) : Sm n (QU a0 a1).1 :=
  Ze (p := fun w : ZH × Bool => Sm n w.1) h (Oq h (OM (YU (ZH.YX h))))
theorem R2 {n : Nat} {a0 : ZF} {a1 : Int} {a2 : List Zo} (h : Sm n a0) (hp : Sm n a2) (hn : 17 <= n) : Sm (n + 1) (Yl a0 a1 a2).1 := by
  have h1 : Sm (n + 1) a0 := Zb (Nat.le_succ n) h
  have hi := ZF.Yn h
  have key : ∀ m v l, l.length = a0.ZC.length -> (∀ x ∈ l, Sm (n + 1) x) -> (∀ r, XA a0 a1 a2 m v l = .inl r -> r = (a0, false)) /\ ∀ z, XA a0 a1 a2 m v l = .inr z -> z.length <= a0.ZC.length /\ ∀ x ∈ z, Sm (n + 1) x := by
    intro m
    induction m with
    | zero => intro v l _ _; exact ⟨fun r h => (by cases h), fun z h => (by cases h; exact ⟨Nat.zero_le _, fun x hx => (by cases hx)⟩)⟩
    | succ m ih =>
      intro v l hl hs
      rw [XA]
      let p := fun w : Sum (ZF × Bool) (List ZZ) => (∀ r, w = .inl r -> r = (a0, false)) /\ ∀ z, w = .inr z -> z.length <= a0.ZC.length /\ ∀ x ∈ z, Sm (n + 1) x
      refine Ze (p := p) (Ze (p := p) ⟨fun r h => (by cases h; rfl), fun z h => (by cases h)⟩ (ih _ _ (by rw [List.length_set]; exact hl) (fun x hx => ?_))) ⟨fun r h => (by cases h), fun z h => (by cases h; exact ⟨by omega, hs⟩)⟩
      rcases List.mem_or_eq_of_mem_set hx with hx | rfl
      · exact hs x hx
      · have fZ : Sm (n + 1) (nth l v) := by
          by_cases hv : v < l.length
          · have : nth l v = l[v] := by simp [nth, List.getD_eq_getElem?_getD, List.getElem?_eq_getElem hv]
            rw [this]; exact hs _ (List.getElem_mem hv)
          · have : nth l v = default := by simp [nth, List.getD_eq_getElem?_getD, List.getElem?_eq_none (Nat.le_of_not_lt hv)]
            rw [this]; exact Sz.zero _
        have hv : Sm n (nth a0.ZC v) := YU hi
        refine ⟨fZ.1, OC hv.2 ?_⟩
        exact ⟨TI (by omega), Zb (Nat.le_succ n) hp⟩
  unfold Yl
  refine Ze (p := fun w : ZF × Bool => Sm (n + 1) w.1) h1 ?_
  obtain ⟨k1, k2⟩ := key (a0.ZC.length + 1) 0 a0.ZC rfl (fun x hx => Zb (Nat.le_succ n) (hi.2 x hx))
  cases hh : XA a0 a1 a2 (a0.ZC.length + 1) 0 a0.ZC with
  | inl r => rw [k1 r hh]; exact h1
  | inr z =>
    obtain ⟨q1, q2⟩ := k2 z hh
    have := XZ hi
    exact Ze (p := fun w : ZF × Bool => Sm (n + 1) w.1) h1 ⟨by show z.length <= n + 1; omega, q2⟩
theorem Wa {n : Nat} {a0 : ZH} {a1 : Int} {a2 : List Int} {a3 : Int} : ∀ (m : Nat) (l : List Zo) (v : Nat) (q : List Int), l.length <= v -> v <= a2.length ->
    (∀ r, Ya a0 a1 a2 a3 m l v q = .inl r -> r = (a0, false)) /\ ∀ z, Ya a0 a1 a2 a3 m l v q = .inr z -> z.1.length <= a2.length /\ z.2.length <= q.length
  | 0, _, _, _, _, _ => ⟨fun r h => (by cases h), fun z h => (by cases h; exact ⟨Nat.zero_le _, Nat.zero_le _⟩)⟩
  | m + 1, l, v, q, hl, hv => by
    rw [Ya]
    let p := fun w : Sum (ZH × Bool) (List Zo × List Int) => (∀ r, w = .inl r -> r = (a0, false)) /\ ∀ z, w = .inr z -> z.1.length <= a2.length /\ z.2.length <= q.length
    have bad : p (.inl (a0, false)) := ⟨fun r h => (by cases h; rfl), fun z h => (by cases h)⟩
    refine Yb (p := p) (fun hc => ?_) (fun _ => ⟨fun r h => (by cases h), fun z h => (by cases h; exact ⟨Nat.le_trans hl hv, Nat.le_refl _⟩)⟩)
    have hc : v < a2.length := by simpa using hc
    have step : ∀ x i y, p (Ya a0 a1 a2 a3 m (l ++ [x]) (v + 1) (q.set i y)) := fun x i y => by
      obtain ⟨k1, k2⟩ := Wa (n := n) (a0 := a0) (a1 := a1) (a2 := a2) (a3 := a3) m (l ++ [x]) (v + 1) (q.set i y) (by simp; omega) hc
      exact ⟨k1, fun z hz => by have := k2 z hz; rw [List.length_set] at this; exact this⟩
    exact Ze (p := p) bad (Ze (p := p) bad (Ze (p := p) (Ze (p := p) bad (step _ _ _)) (Ze (p := p) bad (step _ _ _))))
theorem Nv {n : Nat} {a0 : ZH} {a1 : Int} {a2 : List Int} {a3 : Int} (h : Sm n a0) (h2 : Sm n a2) (hn : 17 <= n) : Sm (n + 1) (YV a0 a1 a2 a3).1 := by
  have h1 : Sm (n + 1) a0 := Zb (Nat.le_succ n) h
  unfold YV
  refine Ze (p := fun w : ZH × Bool => Sm (n + 1) w.1) h1 ?_
  obtain ⟨k1, k2⟩ := Wa (n := n) (a0 := a0) (a1 := a1) (a2 := a2) (a3 := a3) (a2.length + 1) [] 0 a0.YG (Nat.zero_le _) (Nat.zero_le _)
  cases hh : Ya a0 a1 a2 a3 (a2.length + 1) [] 0 a0.YG with
  | inl r => rw [k1 r hh]; exact h1
  | inr z =>
    obtain ⟨q1, q2⟩ := k2 z hh
    obtain ⟨z0, z1⟩ := z
    have e2 := XZ h2
    have e3 := XZ (ZH.Iu h)
    have hs : Sm n z0 := ⟨by simp only at q1; omega, fun _ _ => trivial⟩
    refine Ze (p := fun w : ZH × Bool => Sm (n + 1) w.1) h1 ?_
    exact ⟨h1.1, h1.2.1, h1.2.2.1, xM h1.2.2.2.1 (R2 (YU (ZH.YX h)) hs hn), ⟨by simp only at q2 ⊢; omega, fun _ _ => trivial⟩, h1.2.2.2.2.2⟩
theorem SU {n : Nat} {a0 : ZF} {a1 : XE} {a2 : Int} (h : Sm n a0) (hp : Sm n a1) : Sm (n + a1.ZC.length) (XD a0 a1 a2).1 := by
  have h1 : Sm (n + a1.ZC.length) a0 := Zb (Nat.le_add_right _ _) h
  have key : ∀ m v d l, Sm (n + v) (ZF.mk d l) -> v <= a1.ZC.length -> (∀ r, Xz a0 a1 m v d l = .inl r -> r = (a0, false)) /\ ∀ z, Xz a0 a1 m v d l = .inr z -> Sm (n + a1.ZC.length) (ZF.mk z.1 z.2) := by
    intro m
    induction m with
    | zero => intro v d l _ _; exact ⟨fun r h => (by cases h), fun z h => (by cases h; exact Ud)⟩
    | succ m ih =>
      intro v d l hs hv
      rw [Xz]
      let p := fun w : Sum (ZF × Bool) (Int × List ZZ) => (∀ r, w = .inl r -> r = (a0, false)) /\ ∀ z, w = .inr z -> Sm (n + a1.ZC.length) (ZF.mk z.1 z.2)
      refine Yb (p := p) (fun hc => ?_) (fun _ => ⟨fun r h => (by cases h), fun z h => (by cases h; exact Zb (Nat.add_le_add_left hv n) hs)⟩)
      have hc : v < a1.ZC.length := by simpa using hc
      exact Ze (p := p) ⟨fun r h => (by cases h; rfl), fun z h => (by cases h)⟩ (ih _ _ _ (W4 hs (Zb (Nat.le_succ_of_le (Nat.le_add_right n v)) (YU (XE.Yn hp)))) hc)
  unfold XD
  refine Ze (p := fun w : ZF × Bool => Sm (n + a1.ZC.length) w.1) h1 ?_
  obtain ⟨k1, k2⟩ := key (a1.ZC.length + 1) 0 a0.Id a0.ZC h (Nat.zero_le _)
  cases hh : Xz a0 a1 (a1.ZC.length + 1) 0 a0.Id a0.ZC with
  | inl r => rw [k1 r hh]; exact h1
  | inr z => exact k2 z hh
theorem R9 {n : Nat} {a0 : ZF} {a1 : Int} {a2 : List Int} {a3 : Int} (h : Sm n a0) : (Y2 a0 a1 a2 a3).1.ZC.length <= a2.length := by
  unfold Y2
  obtain ⟨k1, k2⟩ := xd (a2 := a2) h (a2.length + 1) 0 [] (fun x hx => (by cases hx)) (Nat.zero_le _) (Nat.zero_le _)
  cases hh : X9 a0 a2 (a2.length + 1) 0 [] with
  | inl r => rw [k1 r hh]; exact Nat.zero_le _
  | inr z => exact Ze (p := fun w : XE × Bool => w.1.ZC.length <= a2.length) (Nat.zero_le _) (k2 z hh).1
theorem Nh {n : Nat} {a0 a1 : ZF} {a2 : List Int} {a3 : Int} (hb : n <= 9223372036854775807) (h0 : Sm n a0) (h1 : Sm n a1) (h2 : Sm n a2) : Sm n (Yt a0 a1 a2 a3).1 /\ Sm (n + a2.length) (Yt a0 a1 a2 a3).2.1 := by
  have cN : Sm (n + a2.length) (XD a1 (Y2 a0 a1.Id a2 a3).1 a3).1 :=
    Zb (Nat.add_le_add_left (R9 h0) n) (SU h1 (jE h0 h2))
  have bad : Sm n a0 /\ Sm (n + a2.length) a1 := ⟨h0, Zb (Nat.le_add_right _ _) h1⟩
  have key : ∀ m v d l, Sm n (ZF.mk d l) -> (∀ r, Qo a0 a1 a2 m v d l = .inl r -> r = (a0, a1, false)) /\ ∀ z, Qo a0 a1 a2 m v d l = .inr z -> Sm n (ZF.mk z.1 z.2) := by
    intro m
    induction m with
    | zero => intro v d l _; exact ⟨fun r h => (by cases h), fun z h => (by cases h; exact Ud)⟩
    | succ m ih =>
      intro v d l hs
      rw [Qo]
      let p := fun w : Sum (ZF × ZF × Bool) (Int × List ZZ) => (∀ r, w = .inl r -> r = (a0, a1, false)) /\ ∀ z, w = .inr z -> Sm n (ZF.mk z.1 z.2)
      exact Ze (p := p) (Ze (p := p) ⟨fun r h => (by cases h; rfl), fun z h => (by cases h)⟩ (ih _ _ _ (TU hb hs))) ⟨fun r h => (by cases h), fun z h => (by cases h; exact hs)⟩
  unfold Yt
  let p := fun w : ZF × ZF × Bool => Sm n w.1 /\ Sm (n + a2.length) w.2.1
  refine Ze (p := p) bad ?_
  obtain ⟨k1, k2⟩ := key (a2.length + 1) 0 a0.Id a0.ZC h0
  cases hh : Qo a0 a1 a2 (a2.length + 1) 0 a0.Id a0.ZC with
  | inl r => rw [k1 r hh]; exact bad
  | inr z => exact ⟨k2 z hh, cN⟩
theorem TT {n : Nat} {a0 : ZH} {a1 a2 a3 : Int} (hb : n <= 9223372036854775807) (h : Sm n a0) (hn : 1 <= n) : Sm (n + 1) (Je a0 a1 a2 a3).1 := by
  have h1 : Sm (n + 1) a0 := Zb (Nat.le_succ n) h
  have hm := Nh (a0 := nth a0.ZA a1.toNat) (a1 := nth a0.ZA a2.toNat) (a2 := [a3]) (a3 := ZX a0.Frame.Methods a0.Frame.Now) hb (YU (ZH.YX h)) (YU (ZH.YX h)) ⟨hn, fun _ _ => trivial⟩
  let p := fun w : ZH × Bool => Sm (n + 1) w.1
  exact Ze (p := p) h1 (Ze (p := p) ⟨h1.1, h1.2.1, h1.2.2.1, xM (xM h1.2.2.2.1 (Zb (Nat.le_succ n) hm.1)) hm.2, h1.2.2.2.2⟩ h1)
theorem U2 {n : Nat} (h : 4 <= n) : Sm n Ja := ⟨h, fun _ _ => trivial⟩
theorem Il {n : Nat} (h : 4 <= n) : Sm n jW := ⟨h, fun _ _ => trivial⟩
theorem Ix {n : Nat} (h : 3 <= n) : Sm n qK := ⟨h, fun _ _ => trivial⟩
theorem qj (a0 : Int) (a1 : List ByteArray) (a2 : Int) : ∀ (m v : Nat) (l : List Int), (Xw a0 a1 a2 m v l).length <= l.length + m
  | 0, _, _ => Nat.zero_le _
  | m + 1, v, l => by
    rw [Xw]
    refine Ze (p := fun r : List Int => r.length <= l.length + (m + 1)) ?_ (by omega)
    have := qj a0 a1 a2 m (v + 1) (l ++ [zG 1 (J0 a2 [a0, v])])
    simp only [List.length_append, List.length_singleton] at this
    omega
theorem Sq {n : Nat} {a0 : Int} {a1 : List ByteArray} {a2 : Int} (h : Sm n a1) (hn : a1.length + 1 <= n) : Sm n (Q0 a0 a1 a2).1 := by
  unfold Q0
  have := qj a0 a1 a2 (a1.length + 1) 0 []
  refine Ze (p := fun r : Zd × Bool => Sm n r.1) ⟨Sz.zero n, Sz.zero n⟩ ⟨h, Nat.le_trans this (by simpa using hn), fun _ _ => trivial⟩
theorem WA : ∀ (m : Nat) (l : List ByteArray) (i : Int) (b : List UInt8) (j : Nat) (h : Int), (∀ x ∈ l, x.size <= 11) -> (KW m l i b j h).1.length <= l.length + m /\ ∀ x ∈ (KW m l i b j h).1, x.size <= 11
  | 0, _, _, _, _, _, _ => ⟨Nat.zero_le _, fun x hx => by cases hx⟩
  | m + 1, l, i, b, j, h, hl => by
    rw [KW]
    refine Ze (p := fun r : (List ByteArray) × (List UInt8) × Nat × Int => r.1.length <= l.length + (m + 1) /\ ∀ x ∈ r.1, x.size <= 11) ?_ ⟨by show l.length <= _; omega, hl⟩
    have := WA m (l ++ [(Qw (ZS.mk b j h)).2]) (W (i - 1)) (Qw (ZS.mk b j h)).1.b (Qw (ZS.mk b j h)).1.i (Qw (ZS.mk b j h)).1.h (fun x hx => by
      rcases List.mem_append.1 hx with hx | hx
      · exact hl x hx
      · rw [List.mem_singleton.1 hx]; exact Tk _)
    simp only [List.length_append, List.length_singleton] at this
    exact ⟨by omega, this.2⟩
theorem kr {n : Nat} {a0 : ZS} (h : 20 <= n) : Sm n (ZT a0).2 := by
  unfold ZT
  have := WA 5 [] (W (1 + (ZB a0 3).2)) (ZB a0 3).1.b (ZB a0 3).1.i (ZB a0 3).1.h (fun x hx => by cases hx)
  simp only [List.length_nil] at this
  exact Sq ⟨by omega, fun x hx => Nat.le_trans (this.2 x hx) (by omega)⟩ (by omega)
theorem LY {n m : Nat} {a0 : Zi} {a1 : Zf} (hn : n + 1 <= m) (h : Sm n a0) (hx : Sm m a1) : Sm m (Jc a0 a1).1 := by
  have h1 : Sm m a0 := Zb (by omega) h
  unfold Jc
  refine Ze (p := fun r : Zi × Bool => Sm m r.1) h1 ⟨⟨?_, fun y hy => ?_⟩, h1.2⟩
  · have : a0.ZO.length <= n := h.1.1
    simp only [List.length_append, List.length_singleton]; omega
  · rcases List.mem_append.1 hy with hy | hy
    · exact h1.1.2 y hy
    · rw [List.mem_singleton.1 hy]; exact hx
theorem OG {n m : Nat} {a0 : Zi} {a1 : Zc} (hn : n + 1 <= m) (h : Sm n a0) (hx : Sm m a1) : Sm m (QY a0 a1).1 := by
  have h1 : Sm m a0 := Zb (by omega) h
  unfold QY
  refine Ze (p := fun r : Zi × Bool => Sm m r.1) h1 ⟨h1.1, ⟨?_, fun y hy => ?_⟩⟩
  · have : a0.Zj.length <= n := h.2.1
    simp only [List.length_append, List.length_singleton]; omega
  · rcases List.mem_append.1 hy with hy | hy
    · exact h1.2.2 y hy
    · rw [List.mem_singleton.1 hy]; exact hx
theorem kx {n : Nat} {a0 : Int} (h : 20 <= n) : Sm n (YE a0) := by
  have hw : ∀ (k : Int) (l : List Int), l.length <= 1 -> Sm n (ZH.mk (Zv.mk zF Ja jW k 0) qK ([(-1), (-1), (-1)] : List Int) ([(ZF.mk 0 ([] : List ZZ)), (ZF.mk 1 ([] : List ZZ))] : List ZF) ([0, 0, 0, 0] : List Int) l 1 ([] : List Int)) := fun k l hl => by
    have h1 := kU (n := n) (by omega)
    have h2 := U2 (n := n) (by omega)
    have h3 := Il (n := n) (by omega)
    have h4 := Ix (n := n) (by omega)
    have h5 : Sm n ([(ZF.mk 0 ([] : List ZZ)), (ZF.mk 1 ([] : List ZZ))] : List ZF) := ⟨by simp; omega, fun y hy => by
      rcases List.mem_cons.1 hy with rfl | hy
      · exact Sz.zero (α := List ZZ) _
      · rw [List.mem_singleton.1 hy]; exact Sz.zero (α := List ZZ) _⟩
    have h6 : ∀ l : List Int, l.length <= 20 -> Sm n l := fun l hl => ⟨by omega, fun _ _ => trivial⟩
    simp only [ZH.kY, Zv.kY]
    simp only [h1, h2, h3, h4, h5, h6 _ (show ([(-1), (-1), (-1)] : List Int).length <= 20 by decide), h6 _ (show ([0, 0, 0, 0] : List Int).length <= 20 by decide), h6 l (by omega), h6 [] (by decide), and_self]
  unfold YE
  exact Ze (p := fun r : ZH => Sm n r) (hw _ _ (by decide)) (hw _ _ (by decide))
theorem Et (p : Int) : 0 <= Tg p 2147483647 /\ Tg p 2147483647 < 2147483647 := by
  unfold Tg
  rw [show (!(Z8 2147483647 1 1000000000000)) = false by decide, cond_false]
  have h1 : (Int.tmod p 2147483647).natAbs < 2147483647 := by rw [Int.natAbs_tmod]; exact Nat.mod_lt _ (by decide)
  have hw : W (Int.tmod p 2147483647 + 2147483647) = Int.tmod p 2147483647 + 2147483647 := by simp only [Xc]; omega
  rw [hw]
  exact ⟨Int.tmod_nonneg _ (by omega), Int.tmod_lt_of_pos _ (by decide)⟩
theorem SP (a : List Int) : ∀ (n : Nat) (v : Int) (i : Nat), 0 <= v /\ v < 2147483647 -> 0 <= qh a n v i /\ qh a n v i < 2147483647
  | 0, _, _, _ => ⟨Int.le_refl 0, show (0 : Int) < 2147483647 by decide⟩
  | n + 1, v, i, h => by
    rw [qh]
    refine Ze (p := fun r : Int => 0 <= r /\ r < 2147483647) (SP a n _ (i + 1) ?_) h
    have h1 := Et (nth a i)
    have hw : W ((W ((W (v * 1000003)) + (Tg (nth a i) 2147483647))) + 13) = v * 1000003 + Tg (nth a i) 2147483647 + 13 := by simp only [Xc]; omega
    rw [hw]
    exact ⟨Int.tmod_nonneg _ (by omega), Int.tmod_lt_of_pos _ (by decide)⟩
theorem Fj (a : List Int) : 0 <= V9 a /\ V9 a < 2147483647 := SP a (a.length + 1) 11 0 ⟨by decide, by decide⟩
theorem Vh : ∀ (m : Nat) (l : List ByteArray) (i : Int) (b : List UInt8) (j : Nat) (h : Int), i < m -> 0 <= i -> i <= 100 -> l.length <= (KW m l i b j h).1.length /\ (0 < i -> l.length < (KW m l i b j h).1.length)
  | 0, l, i, b, j, h, hi, _, _ => by omega
  | m + 1, l, i, b, j, h, hi, _, h2 => by
    rw [KW]
    by_cases hp : i > 0
    · rw [show decide (i > 0) = true by simpa using hp, cond_true]
      have hw : W (i - 1) = i - 1 := by simp only [Xc]; omega
      rw [hw]
      have h3 := Vh m (l ++ ([(Qw (ZS.mk b j h)).2] : List ByteArray)) (i - 1) (Qw (ZS.mk b j h)).1.b (Qw (ZS.mk b j h)).1.i (Qw (ZS.mk b j h)).1.h (by omega) (by omega) (by omega)
      have h4 := h3.1
      rw [List.length_append, List.length_singleton] at h4
      exact ⟨by omega, fun _ => by omega⟩
    · rw [show decide (i > 0) = false by simpa using hp, cond_false]
      exact ⟨Nat.le_refl _, fun h => absurd h hp⟩
theorem DP {x a b : Int} (h1 : a <= x) (h2 : x <= b) : Z8 x a b = true := by simp [Z8]; omega
theorem xw (a0 : Int) (a1 : List ByteArray) (a2 : Int) : ∀ (m v : Nat) (l : List Int), a1.length < m + v -> v <= a1.length -> l.length = v -> (∀ x ∈ l, 1 <= x /\ x <= 1000000000000) -> (Xw a0 a1 a2 m v l).length = a1.length /\ ∀ x ∈ Xw a0 a1 a2 m v l, 1 <= x /\ x <= 1000000000000
  | 0, v, l, h1, h2, _, _ => by omega
  | m + 1, v, l, h1, h2, h3, h4 => by
    rw [Xw]
    by_cases hv : v < a1.length
    · rw [show decide ((v : Int) < (a1.length : Int)) = true by simpa using hv, cond_true]
      refine xw a0 a1 a2 m (v + 1) _ (by omega) hv (by rw [List.length_append, List.length_singleton, h3]) (fun x hx => ?_)
      rcases List.mem_append.1 hx with hx | hx
      · exact h4 x hx
      · rw [List.mem_singleton.1 hx]
        have := Fj ((([a2] : List Int) ++ ([a0, (v : Int)] : List Int)) ++ ([a2] : List Int))
        unfold zG
        refine Yb (p := fun r : Int => 1 <= r /\ r <= 1000000000000) (fun hc => ?_) (fun _ => ⟨by decide, by decide⟩)
        simp only [decide_eq_true_eq] at hc
        unfold J0 at hc ⊢
        omega
    · rw [show decide ((v : Int) < (a1.length : Int)) = false by simpa using hv, cond_false]
      exact ⟨by omega, h4⟩
theorem P0 {d : Zd} (ht : 0 <= d.yS /\ d.yS <= 999) (h1 : 1 <= d.YR.length /\ d.YR.length <= 6) (h2 : ∀ x ∈ d.YR, x.size <= 40) (h3 : d.XP.length = d.YR.length) (h4 : ∀ x ∈ d.XP, 1 <= x /\ x <= 1000000000000) : Y1 d = true := by
  have k1 : ∀ n v, XT d n v = .inr () := by
    intro n
    induction n with
    | zero => intro v; rfl
    | succ n ih =>
      intro v
      rw [XT]
      by_cases hv : v < d.YR.length
      · have := h2 _ (by rw [Jr hv]; exact List.getElem_mem hv : nth d.YR v ∈ d.YR)
        rw [show decide (((nth d.YR v).size : Int) > 40) = false by simp; omega, cond_false, ih]
        cases decide ((v : Int) < (d.YR.length : Int)) <;> rfl
      · rw [show decide ((v : Int) < (d.YR.length : Int)) = false by simpa using hv, cond_false]
  have k2 : ∀ n v, XN d n v = .inr () := by
    intro n
    induction n with
    | zero => intro v; rfl
    | succ n ih =>
      intro v
      rw [XN]
      by_cases hv : v < d.XP.length
      · have := h4 _ (by rw [Jr hv]; exact List.getElem_mem hv : nth d.XP v ∈ d.XP)
        rw [DP this.1 this.2, Bool.not_true, cond_false, ih]
        cases decide ((v : Int) < (d.XP.length : Int)) <;> rfl
      · rw [show decide ((v : Int) < (d.XP.length : Int)) = false by simpa using hv, cond_false]
  unfold Y1
  rw [k1, k2]
  simp only [Z8, Bool.and_eq_true, decide_eq_true_eq, beq_iff_eq]
  omega
theorem j9 (a0 : ZS) : Y1 (ZT a0).2 = true := by
  have h0 := X8 a0 3
  have hw : W (1 + (ZB a0 3).2) = 1 + (ZB a0 3).2 := by simp only [Xc]; omega
  have h1 := WA 5 [] (W (1 + (ZB a0 3).2)) (ZB a0 3).1.b (ZB a0 3).1.i (ZB a0 3).1.h (fun x hx => by cases hx)
  have h2 := Vh 5 [] (W (1 + (ZB a0 3).2)) (ZB a0 3).1.b (ZB a0 3).1.i (ZB a0 3).1.h (by rw [hw]; omega) (by rw [hw]; omega) (by rw [hw]; omega)
  unfold ZT
  generalize KW 5 [] (W (1 + (ZB a0 3).2)) (ZB a0 3).1.b (ZB a0 3).1.i (ZB a0 3).1.h = z at h1 h2 ⊢
  obtain ⟨z1, z2, z3, z4⟩ := z
  simp only [List.length_nil] at h1 h2
  have h3 := h2.2 (by rw [hw]; omega)
  show Y1 (Q0 (ZB (ZS.mk z2 z3 z4) 5).2 z1 11).1 = true
  have ht := X8 (ZS.mk z2 z3 z4) 5
  generalize (ZB (ZS.mk z2 z3 z4) 5).2 = t at ht ⊢
  have hv := xw t z1 11 (z1.length + 1) 0 [] (by omega) (Nat.zero_le _) rfl (fun x hx => by cases hx)
  unfold Q0
  generalize Xw t z1 11 (z1.length + 1) 0 [] = q at hv ⊢
  have hd : Y1 (Zd.mk t z1 q) = true := P0 (d := Zd.mk t z1 q) (by show 0 <= t /\ t <= 999; omega) (by show 1 <= z1.length /\ z1.length <= 6; omega) (fun x hx => Nat.le_trans (h1.2 x hx) (by decide)) hv.1 hv.2
  show Y1 (bif ((!(Y1 (Zd.mk t z1 q))) || (!(yL 11))) then ((Zd.mk 0 ([] : List ByteArray) ([] : List Int)), false) else ((Zd.mk t z1 q), true)).1 = true
  rw [hd]
  exact hd
theorem IP {n : Nat} {a0 : ZH} {i : Nat} {x : ZF} (h : Sm n a0) (hx : Sm n x) : Sm n (ZH.mk a0.Frame a0.ZR a0.Zu (a0.ZA.set i x) a0.YG a0.YW a0.Next a0.Yk) :=
  ⟨h.1, h.2.1, h.2.2.1, xM h.2.2.2.1 hx, h.2.2.2.2⟩
theorem MZ {n : Nat} {a0 : ZH} {a1 : Int} (h : Sm n a0) : Sm n (Z9 a0 a1).1 := by
  refine Ze (p := fun w : ZH × Bool => Sm n w.1) h ?_
  exact ⟨h.1, h.2⟩
theorem VP {n : Nat} {a0 : ZH} {a1 : Int} (h : Sm n a0) : Sm n (KA a0 a1).1 := by
  refine Ze (p := fun w : ZH × Bool => Sm n w.1) h ?_
  exact ⟨h.1, h.2.1, xM h.2.2.1 trivial, h.2.2.2⟩
theorem Mh {n : Nat} {a0 : ZH} {a1 a2 : Int} {a3 : Zd} {a4 a5 : Int} (h : Sm n a0) (hd : Sm n a3) (hn : 9 <= n) : Sm (n + 1) (Z3 a0 a1 a2 a3 a4 a5).1 := by
  have h1 : Sm (n + 1) a0 := Zb (Nat.le_succ n) h
  have ha : Sm (n + 1) (Q9 (nth a0.ZA a1.toNat) (Xx a0 a2 a3 a4 a5).1).1 := Iv (YU (ZH.YX h)) (xS hd hn)
  refine Ze (p := fun w : ZH × Bool => Sm (n + 1) w.1) h1 (Ze (p := fun w : ZH × Bool => Sm (n + 1) w.1) h1 (Ze (p := fun w : ZH × Bool => Sm (n + 1) w.1) h1 ?_))
  exact ⟨h1.1, h1.2.1, h1.2.2.1, xM h1.2.2.2.1 ha, h1.2.2.2.2⟩
theorem Oz {n : Nat} {a0 : ZF} {a1 : Int} {a2 : Zf} (h : Sm n a0) (hp : Sm (n + 1) a2) : Sm (n + 1) (Yf a0 a1 a2).1 := by
  have h1 : Sm (n + 1) a0 := Zb (Nat.le_succ n) h
  refine Ze (p := fun w : ZF × Bool => Sm (n + 1) w.1) h1 ?_
  refine xM (ZF.Yn h1) ?_
  have hi : Sm n (nth a0.ZC (Yo a0 a1).toNat) := YU (ZF.Yn h)
  exact ⟨(Zb (Nat.le_succ n) hi).1, LY (Nat.le_refl _) hi.2 hp⟩
theorem OV {n : Nat} {a0 : ZH} {a1 : Int} (h : Sm n a0) (hn : 5 <= n) : Sm (n + 1) (Zw a0 a1).1 := by
  have h1 : Sm (n + 1) a0 := Zb (Nat.le_succ n) h
  let p := fun w : ZH × Bool => Sm (n + 1) w.1
  have k : ∀ i x, Sm (n + 1) (ZH.mk a0.Frame a0.ZR a0.Zu (a0.ZA.set i (Yf (nth a0.ZA i) a1 (Z2 x)).1) a0.YG a0.YW a0.Next a0.Yk) := fun i x =>
    IP h1 (Oz (YU (ZH.YX h)) (Xy (by omega)))
  exact Ze (p := p) h1 (Ze (p := p) h1 (Ze (p := p) (Ze (p := p) h1 (k _ _)) (Ze (p := p) h1 (k _ _))))
theorem RT {n : Nat} {a0 : ZF} {a1 : Int} {a2 : List Zo} (h : Sm n a0) (hp : Sm n a2) (hn : 17 <= n) : Sm (n + 1) (XV a0 a1 a2).1 := by
  have h1 : Sm (n + 1) a0 := Zb (Nat.le_succ n) h
  have hi := ZF.Yn h
  have key : ∀ m b v l, l.length = a0.ZC.length -> (∀ x ∈ l, Sm (n + 1) x) -> (XM a0 a1 a2 m b v l).2.length <= a0.ZC.length /\ ∀ x ∈ (XM a0 a1 a2 m b v l).2, Sm (n + 1) x := by
    intro m
    induction m with
    | zero => intro b v l _ _; exact ⟨Nat.zero_le _, fun x hx => (by cases hx)⟩
    | succ m ih =>
      intro b v l hl hs
      rw [XM]
      let p := fun w : Bool × List ZZ => w.2.length <= a0.ZC.length /\ ∀ x ∈ w.2, Sm (n + 1) x
      refine Ze (p := p) (ih _ _ _ (by rw [List.length_set]; exact hl) (fun x hx => ?_)) ⟨by show l.length <= _; omega, hs⟩
      rcases List.mem_or_eq_of_mem_set hx with hx | rfl
      · exact hs x hx
      · have fZ : Sm (n + 1) (nth l v) := by
          by_cases hv : v < l.length
          · have : nth l v = l[v] := by simp [nth, List.getD_eq_getElem?_getD, List.getElem?_eq_getElem hv]
            rw [this]; exact hs _ (List.getElem_mem hv)
          · have : nth l v = default := by simp [nth, List.getD_eq_getElem?_getD, List.getElem?_eq_none (Nat.le_of_not_lt hv)]
            rw [this]; exact Sz.zero _
        have hv : Sm n (nth a0.ZC v) := YU hi
        refine ⟨fZ.1, OG (Nat.le_refl _) hv.2 ?_⟩
        exact ⟨TR (by omega), Zb (Nat.le_succ n) hp⟩
  have hk := key (a0.ZC.length + 1) ((Xm a0) && (decide ((a0.ZC.length : Int) > 0))) 0 a0.ZC rfl (fun x hx => Zb (Nat.le_succ n) (hi.2 x hx))
  have := XZ hi
  unfold XV
  cases hh : XM a0 a1 a2 (a0.ZC.length + 1) ((Xm a0) && (decide ((a0.ZC.length : Int) > 0))) 0 a0.ZC with
  | mk z0 z1 =>
    rw [hh] at hk
    exact Ze (p := fun w : ZF × Bool => Sm (n + 1) w.1) h1 ⟨by show z1.length <= n + 1; have := hk.1; simp only at this; omega, hk.2⟩
theorem kV {a0 : ZH} {a2 : List Int} : ∀ (m v : Nat) (q : List Int), (KL a0 a2 m v q).length <= q.length
  | 0, _, _ => Nat.zero_le _
  | m + 1, v, q => by
    rw [KL]
    refine Ze (p := fun w : List Int => w.length <= q.length) ?_ (Nat.le_refl _)
    exact Nat.le_trans (kV m (v + 1) _) (by rw [List.length_set]; exact Nat.le_refl _)
theorem Wo {a0 : ZH} {a1 : Int} {a2 : List Int} {a3 : Int} : ∀ (m : Nat) (l : List Zo) (v : Nat), l.length <= v -> v <= a2.length ->
    (∀ r, Xs a0 a1 a2 a3 m l v = .inl r -> r = (a0, false)) /\ ∀ z, Xs a0 a1 a2 a3 m l v = .inr z -> z.length <= a2.length
  | 0, _, _, _, _ => ⟨fun r h => (by cases h), fun z h => (by cases h; exact Nat.zero_le _)⟩
  | m + 1, l, v, hl, hv => by
    rw [Xs]
    let p := fun w : Sum (ZH × Bool) (List Zo) => (∀ r, w = .inl r -> r = (a0, false)) /\ ∀ z, w = .inr z -> z.length <= a2.length
    have bad : p (.inl (a0, false)) := ⟨fun r h => (by cases h; rfl), fun z h => (by cases h)⟩
    refine Yb (p := p) (fun hc => ?_) (fun _ => ⟨fun r h => (by cases h), fun z h => (by cases h; exact Nat.le_trans hl hv)⟩)
    have hc : v < a2.length := by simpa using hc
    have step : ∀ x, p (Xs a0 a1 a2 a3 m (l ++ [x]) (v + 1)) := fun x =>
      Wo m (l ++ [x]) (v + 1) (by simp; omega) hc
    exact Ze (p := p) (Ze (p := p) bad (step _)) (Ze (p := p) bad (step _))
theorem Ou {n : Nat} {a0 : ZH} {a1 : Int} {a2 : List Int} {a3 : Int} (h : Sm n a0) (h2 : Sm n a2) (hn : 17 <= n) : Sm (n + 1) (Yu a0 a1 a2 a3).1 := by
  have h1 : Sm (n + 1) a0 := Zb (Nat.le_succ n) h
  unfold Yu
  refine Ze (p := fun w : ZH × Bool => Sm (n + 1) w.1) h1 ?_
  obtain ⟨k1, k2⟩ := Wo (a0 := a0) (a1 := a1) (a2 := a2) (a3 := a3) (a2.length + 1) [] 0 (Nat.zero_le _) (Nat.zero_le _)
  cases hh : Xs a0 a1 a2 a3 (a2.length + 1) [] 0 with
  | inl r => rw [k1 r hh]; exact h1
  | inr z =>
    have q1 := k2 z hh
    have q2 := kV (a0 := a0) (a2 := a2) (a2.length + 1) 0 a0.YG
    have e2 := XZ h2
    have e3 := XZ (ZH.Iu h)
    have hs : Sm n z := ⟨by omega, fun _ _ => trivial⟩
    refine Ze (p := fun w : ZH × Bool => Sm (n + 1) w.1) h1 ?_
    exact ⟨h1.1, h1.2.1, h1.2.2.1, xM h1.2.2.2.1 (RT (YU (ZH.YX h)) hs hn), ⟨Nat.le_trans q2 (Nat.le_succ_of_le e3), fun _ _ => trivial⟩, h1.2.2.2.2.2⟩
theorem jt {a0 : Zd} (h : Y1 a0 = true) : a0.XP.length = a0.YR.length := by
  have k1 : ∀ n v r, XT a0 n v = .inl r -> r = false := by
    intro n
    induction n with
    | zero => intro v r h; cases h
    | succ n ih =>
      intro v r
      rw [XT]
      let p := fun w : Sum Bool Unit => w = .inl r -> r = false
      exact Ze (p := p) (Ze (p := p) (fun h => by cases h; rfl) (ih _ _)) (fun h => by cases h)
  have k2 : ∀ n v r, XN a0 n v = .inl r -> r = false := by
    intro n
    induction n with
    | zero => intro v r h; cases h
    | succ n ih =>
      intro v r
      rw [XN]
      let p := fun w : Sum Bool Unit => w = .inl r -> r = false
      exact Ze (p := p) (Ze (p := p) (fun h => by cases h; rfl) (ih _ _)) (fun h => by cases h)
  unfold Y1 at h
  cases e1 : XT a0 (a0.YR.length + 1) 0 with
  | inl r => rw [e1] at h; have := k1 _ _ r e1; subst this; cases h
  | inr _ =>
    rw [e1] at h
    cases e2 : XN a0 (a0.XP.length + 1) 0 with
    | inl r => rw [e2] at h; have := k2 _ _ r e2; subst this; cases h
    | inr _ =>
      rw [e2] at h
      simp only [Bool.and_eq_true, beq_iff_eq] at h
      omega
theorem UM (a0 : ZS) : 0 < (ZT a0).2.YR.length := by
  have h := j9 a0
  unfold Y1 at h
  cases e1 : XT (ZT a0).2 ((ZT a0).2.YR.length + 1) 0 with
  | inl r => cases hz : (ZT a0).2.YR.length with
    | zero => rw [hz] at e1; rw [XT, hz, decide_eq_false (by omega), Y8] at e1; cases e1
    | succ _ => omega
  | inr _ =>
    rw [e1] at h
    cases e2 : XN (ZT a0).2 ((ZT a0).2.XP.length + 1) 0 with
    | inl r =>
      have k2 : ∀ n v r, XN (ZT a0).2 n v = .inl r -> r = false := by
        intro n
        induction n with
        | zero => intro v r h; cases h
        | succ n ih =>
          intro v r
          rw [XN]
          let p := fun w : Sum Bool Unit => w = .inl r -> r = false
          exact Ze (p := p) (Ze (p := p) (fun h => by cases h; rfl) (ih _ _)) (fun h => by cases h)
      rw [e2] at h; have := k2 _ _ r e2; subst this; cases h
    | inr _ =>
      rw [e2] at h
      simp only [Bool.and_eq_true, Z8, decide_eq_true_eq] at h
      omega
theorem Ka (a0 : Zv) : ∀ (m : Nat) (l : List Int) (v : Nat), a0.ZD.length < m + v -> v <= a0.ZD.length -> l.length <= v -> (Qe a0 m l v).length <= a0.ZD.length
  | 0, _, v, h, hv, _ => by omega
  | m + 1, l, v, h, hv, hl => by
    rw [Qe]
    by_cases uL : v < a0.ZD.length
    · rw [decide_eq_true (show (v : Int) < (a0.ZD.length : Int) by omega), Xh]
      refine Ze (p := fun z : List Int => z.length <= a0.ZD.length) (Ka a0 m _ (v + 1) (by omega) uL ?_) (Ka a0 m _ (v + 1) (by omega) uL (by omega))
      rw [List.length_append, List.length_singleton]; omega
    · rw [decide_eq_false (show ¬ (v : Int) < (a0.ZD.length : Int) by omega), Y8]
      exact Nat.le_trans hl hv
theorem qn {n : Nat} {a0 : Zv} (h : Sm n a0) : Sm n (Z5 a0) := by
  have k := Ka a0 (a0.ZD.length + 1) [] 0 (by omega) (Nat.zero_le _) (Nat.zero_le _)
  have k2 := XZ (Zv.Jf h)
  unfold Z5
  exact ⟨Nat.le_trans k k2, fun _ _ => trivial⟩
theorem Bo {n : Nat} {w : ZH} {a b k : Int} {c : ZS} (h : Sm n w) (hn : 20 <= n) : Sm (n + 1) (Z3 w a b (ZT c).2 0 k).1 := Mh h (kr hn) (by omega)
theorem AA {n : Nat} {w : ZH} {a b k : Int} {c : ZS} (h : Sm n w) (hn : 20 <= n) : Sm (n + 2) (Zw (Z3 w a b (ZT c).2 0 k).1 1).1 := OV (Bo h hn) (by omega)
theorem Hq {n : Nat} {w : ZH} {a b k t : Int} {c : ZS} (h : Sm n w) (hn : 20 <= n) : Sm (n + 2) (Z9 (Zw (Z3 w a b (ZT c).2 0 k).1 1).1 t).1 := MZ (AA h hn)
theorem CQ {n : Nat} {w : ZH} {a b k t : Int} {c : ZS} (h : Sm n w) (hn : 20 <= n) : Sm (n + 2) (Z5 (Z9 (Zw (Z3 w a b (ZT c).2 0 k).1 1).1 t).1.Frame) := qn (ZH.XY (Hq h hn))
theorem Cg {n : Nat} {w : ZH} {a b k t e : Int} {c : ZS} (h : Sm n w) (hn : 20 <= n) : Sm (n + 3) (Yu (Z9 (Zw (Z3 w a b (ZT c).2 0 k).1 1).1 t).1 0 (Z5 (Z9 (Zw (Z3 w a b (ZT c).2 0 k).1 1).1 t).1.Frame) e).1 := Ou (Hq h hn) (CQ h hn) (by omega)
theorem BD {n : Nat} {w : ZH} (h : Sm n w) : Sm n (ZH.mk (Zv.mk w.Frame.Zk w.Frame.ZD w.Frame.Methods w.Frame.Ky w.Frame.Now) w.ZR w.Zu w.ZA w.YG w.YW w.Next w.Yk) := h
def O3 (w : ZH) (a b k t e : Int) (c : ZS) : ZH := (Yu (Z9 (Zw (Z3 w a b (ZT c).2 0 k).1 1).1 t).1 0 (Z5 (Z9 (Zw (Z3 w a b (ZT c).2 0 k).1 1).1 t).1.Frame) e).1
theorem wO {p : ZH -> Prop} {w : ZH} (h : p w) : p (ZH.mk (Zv.mk w.Frame.Zk w.Frame.ZD w.Frame.Methods w.Frame.Ky w.Frame.Now) w.ZR w.Zu w.ZA w.YG w.YW w.Next w.Yk) := h
theorem wb {m : Nat} {q : Nat -> Prop} (h : ∃ m', m' <= m /\ q m') : ∃ m', m' <= m + 1 /\ q m' := ⟨h.choose, Nat.le_succ_of_le h.choose_spec.1, h.choose_spec.2⟩
theorem Wb {p : Nat -> ZH -> Prop} (hs : ∀ m w a b k t e c, p (m + 1) w -> p m (O3 w a b k t e c)) : ∀ (m : Nat) (k : Int) (b : List UInt8) (i : Nat) (h : Int) (f1 : List Y4) (f2 : List Zr) (f3 : List YH) (f4 f5 : Int) (w1 : List Ye) (w2 : List Int) (w3 : List ZF) (w4 w5 : List Int) (w6 : Int) (w7 : List Int),
    k + 1 <= (m : Int) -> 0 <= k -> m <= 100 -> p m (ZH.mk (Zv.mk f1 f2 f3 f4 f5) w1 w2 w3 w4 w5 w6 w7) ->
    ∃ m', m' <= m /\ p m' (match z8 m k b i h f1 f2 f3 f4 f5 w1 w2 w3 w4 w5 w6 w7 with | (_, _, _, z1_3, z1_4, z1_5, z1_6, z1_7, z1_8, z1_9, z1_10, z1_11, z1_12, z1_13, z1_14) => ZH.mk (Zv.mk z1_3 z1_4 z1_5 z1_6 z1_7) z1_8 z1_9 z1_10 z1_11 z1_12 z1_13 z1_14)
  | 0, k, _, _, _, _, _, _, _, _, _, _, _, _, _, _, _, hk, h0, _, _ => by omega
  | m + 1, k, b, i, h, f1, f2, f3, f4, f5, w1, w2, w3, w4, w5, w6, w7, hk, h0, hm, hp => by
    rw [z8]
    have t := fun a b k t e c => wO (hs m _ a b k t e c hp)
    unfold O3 at t
    by_cases hc : k > 0
    · rw [decide_eq_true hc, Xh]
      have hw : W (k - 1) = k - 1 := by simp only [Xc]; omega
      refine wb (Wb hs m (W (k - 1)) _ _ _ _ _ _ _ _ _ _ _ _ _ _ _ (by omega) (by omega) (by omega) ?_)
      with_reducible exact t _ _ _ _ _ _
    · rw [decide_eq_false hc, Y8]
      exact ⟨m + 1, Nat.le_refl _, hp⟩
theorem UQ {p : Nat -> ZH -> Prop} (hn : ∀ x, 0 <= x -> x < 2 -> p 5 (YE x)) (hs : ∀ m w a b k t e c, p (m + 1) w -> p m (O3 w a b k t e c)) (a0 : ZS) : ∃ m, m <= 5 /\ p m (Zl a0).2 := by
  have z0 := X8 a0 2
  have h0 := hn (ZB a0 2).2 z0.1 (z0.2 (by decide))
  unfold Zl
  generalize YE (ZB a0 2).2 = w at h0 ⊢
  generalize (ZB a0 2).1 = c
  have z := X8 c 3
  have hw : W (1 + (ZB c 3).2) = 1 + (ZB c 3).2 := by simp only [Xc]; omega
  have k := Wb hs 5 (W (1 + (ZB c 3).2)) (ZB c 3).1.b (ZB c 3).1.i (ZB c 3).1.h w.Frame.Zk w.Frame.ZD w.Frame.Methods w.Frame.Ky w.Frame.Now w.ZR w.Zu w.ZA w.YG w.YW w.Next w.Yk (by rw [hw]; omega) (by rw [hw]; omega) (by decide) (wO h0)
  generalize z8 5 (W (1 + (ZB c 3).2)) (ZB c 3).1.b (ZB c 3).1.i (ZB c 3).1.h w.Frame.Zk w.Frame.ZD w.Frame.Methods w.Frame.Ky w.Frame.Now w.ZR w.Zu w.ZA w.YG w.YW w.Next w.Yk = z at k ⊢
  obtain ⟨x1, x2, x3, x4, x5, x6, x7, x8, x9, x10, x11, x12, bT, bU, bV⟩ := z
  exact k
theorem Qp {n : Nat} {a0 : ZS} (h : 100 <= n) : Sm n (Zl a0).2 := by
  obtain ⟨m, h1, h2, h3⟩ := UQ (p := fun m w => m <= 5 /\ Sm (100 - 4 * m) w) (fun x _ _ => ⟨Nat.le_refl _, kx (by decide)⟩)
    (fun m w a b k t e c hp => ⟨by omega, Zb (by omega) (Cg (a := a) (b := b) (k := k) (c := c) (t := t) (e := e) hp.2 (by omega))⟩) a0
  exact Zb (by omega) h3
theorem Fe {n : Nat} {a0 : ZS} (h : 50 <= n) : Sm n (qc a0).2 := by
  have k0 := kr (a0 := a0) (Nat.le_refl 20)
  have k := Zb (m := n) (by omega) k0
  have hl := XZ (Zd.Um k0)
  unfold qc
  generalize ZT a0 = w at k hl ⊢
  obtain ⟨w1, ⟨x1, x2, x3⟩⟩ := w
  obtain ⟨k2, k3⟩ := k
  dsimp only at k2 k3 hl ⊢
  generalize ZB w1 8 = q
  generalize ZB q.1 2 = q1
  generalize ZJ q.1 ([(-1), 999, 1000] : List Int) = q2
  generalize ZJ q.1 ([0, (-1), 1] : List Int) = q3
  let p := fun z : ZS × Zd => Sm n z.2
  refine Ze (p := p) ⟨k2, k3⟩ ?_
  refine Ze (p := p) ⟨⟨?_, BB k2.2 (all_cons (show 1 <= n by omega) all_nil)⟩, k3⟩ ?_
  · show (x2 ++ [_]).length <= n
    rw [List.length_append, List.length_singleton]
    omega
  refine Ze (p := p) ⟨k2, xM k3 trivial⟩ ?_
  refine Ze (p := p) ⟨xM k2 ?_, k3⟩ ⟨k2, k3⟩
  show ByteArray.size _ <= n
  rw [ByteArray.size_extract]
  exact Nat.le_trans (Nat.sub_le _ _) (Nat.le_trans (Nat.min_le_right _ _) (Nat.le_trans (show 41 <= 50 by decide) h))
theorem za {n : Nat} {a0 : List UInt8} (h : 100 <= n) : Sm n (ZQ a0).1 /\ Sm n (ZQ a0).2.2.2.1 := by
  have k := Qp (a0 := Zz a0) h
  have k2 := fun c => Fe (n := n) (a0 := c) (by omega)
  unfold ZQ
  refine ⟨?_, ?_⟩
  · with_reducible exact k
  · with_reducible exact k2 _
theorem Ji {n : Nat} {a0 : List UInt8} (h : 100 <= n) : Sm n (ZK a0).1 /\ Sm n (ZK a0).2.2.1 := by
  have k := Qp (a0 := Zz a0) h
  have k2 := qn (ZH.XY k)
  have k3 : ∀ l : List Int, l.length <= 100 -> Sm n l := fun l hl => ⟨Nat.le_trans hl h, fun _ _ => trivial⟩
  unfold ZK
  generalize Z5 (Zl (Zz a0)).2.Frame = l at k2 ⊢
  generalize Zl (Zz a0) = w at k ⊢
  generalize ZB w.1 6 = q
  let p := fun z : ZH × Int × (List Int) × Int => Sm n z.1 /\ Sm n z.2.2.1
  exact Ze (p := p) ⟨k, k3 _ (show 2 <= 100 by decide)⟩ (Ze (p := p) ⟨k, k3 _ (show 4 <= 100 by decide)⟩ ⟨k, k2⟩)
theorem jH {n : Nat} {a0 : List UInt8} (h : 100 <= n) : Sm n (Ym a0).1 := by
  have k := Qp (a0 := Zz a0) h
  have k2 := VP (a1 := 0) k
  unfold Ym
  exact Ze (p := fun z : ZH × Int => Sm n z.1) k2 k
theorem JH {n : Nat} {a0 : List UInt8} (h : 100 <= n) : Sm n (ZY a0).1 := by
  have k := Qp (a0 := Zz a0) h
  have k2 := VP (a1 := 1) k
  unfold ZY
  exact Ze (p := fun z : ZH × Int => Sm n z.1) k2 k
theorem xQ {n : Nat} {a0 : List UInt8} (h : 100 <= n) : Sm n (Z1 a0).1 := by
  have k := Qp (a0 := Zz a0) h
  unfold Z1
  with_reducible exact k
theorem yU {n : Nat} {a0 : List UInt8} (h : 100 <= n) : Sm n (YY a0).1 := by
  have k := Qp (a0 := Zz a0) h
  unfold YY
  with_reducible exact k
theorem kD {a0 : ZH} {a1 : Int} {a2 : List Int} {a3 : Int} : ∀ (m : Nat) (l : List Zo) (v : Nat) (q : List Int), a2.length < m + v -> v <= a2.length ->
    (∀ r, Ya a0 a1 a2 a3 m l v q = .inl r -> r = (a0, false)) /\ ∀ z, Ya a0 a1 a2 a3 m l v q = .inr z -> z.2.length = q.length
  | 0, _, _, _, _, _ => by omega
  | m + 1, l, v, q, hl, hv => by
    rw [Ya]
    let p := fun w : Sum (ZH × Bool) (List Zo × List Int) => (∀ r, w = .inl r -> r = (a0, false)) /\ ∀ z, w = .inr z -> z.2.length = q.length
    have bad : p (.inl (a0, false)) := ⟨fun r h => (by cases h; rfl), fun z h => (by cases h)⟩
    refine Yb (p := p) (fun hc => ?_) (fun _ => ⟨fun r h => (by cases h), fun z h => (by cases h; rfl)⟩)
    have hc : v < a2.length := by simpa using hc
    have step : ∀ x i y, p (Ya a0 a1 a2 a3 m (l ++ [x]) (v + 1) (q.set i y)) := fun x i y => by
      obtain ⟨k1, k2⟩ := kD (a0 := a0) (a1 := a1) (a2 := a2) (a3 := a3) m (l ++ [x]) (v + 1) (q.set i y) (by omega) hc
      exact ⟨k1, fun z hz => by have := k2 z hz; rw [List.length_set] at this; exact this⟩
    exact Ze (p := p) bad (Ze (p := p) bad (Ze (p := p) (Ze (p := p) bad (step _ _ _)) (Ze (p := p) bad (step _ _ _))))
theorem WR (a0 : ZH) (a1 : Int) (a2 : List Int) (a3 : Int) : (YV a0 a1 a2 a3).1.YG.length = a0.YG.length := by
  unfold YV
  refine Ze (p := fun w : ZH × Bool => w.1.YG.length = a0.YG.length) rfl ?_
  obtain ⟨k1, k2⟩ := kD (a0 := a0) (a1 := a1) (a2 := a2) (a3 := a3) (a2.length + 1) [] 0 a0.YG (by omega) (Nat.zero_le _)
  cases hh : Ya a0 a1 a2 a3 (a2.length + 1) [] 0 a0.YG with
  | inl r => rw [k1 r hh]
  | inr z => exact Ze (p := fun w : ZH × Bool => w.1.YG.length = a0.YG.length) rfl (k2 z hh)
theorem qI {a0 : ZH} {a1 : Int} {n : Nat} (hs : Sm n a0) (hn : n <= 1048576) (h : (Z7 a0 a1).2 = true) : 0 <= a1 /\ a1.toNat < (Z7 a0 a1).1.Zu.length := by
  have k := XZ (ZH.Gi hs)
  revert h
  unfold Z7
  refine Yb (p := fun r : ZH × Bool => r.2 = true -> 0 <= a1 /\ a1.toNat < r.1.Zu.length) (fun _ h => by cases h) (fun hc _ => ?_)
  simp only [Bool.or_eq_false_iff, Bool.not_eq_false', Za, Bool.and_eq_true, decide_eq_true_eq] at hc
  have e : W ((a0.Zu.length : Int) - 1) = a0.Zu.length - 1 := by simp only [Xc]; omega
  rw [e] at hc
  rw [List.length_set]
  omega
end Go.Mo
