/- Plain lemmas on the models of the helpers. No condition. -/
import Derived.Test.YthjkhlcbpfnobaaGreatM
namespace Go.Mo
open Go.Vm
set_option linter.unusedSimpArgs false
set_option linter.unusedVariables false
variable {n K i j : Nat} {a1 a3 a4 a5 a : Int} {a0 w : ZF} {a2 : List Int} {x : YX} {p : Zs -> Prop} {l : List ZD}
theorem KO (a0 : List Yw) (a1 : Int) : Yc a0 a1 < (a0.length : Int) := kX (F := jm a0 a1) (c := fun J => ((nth a0 J).Number == a1)) (fun _ => rfl) (fun _ _ => rfl) _ _
theorem GA (a0 : ZX) : Rb a0 = a0 := rfl
theorem Ff (a0 : List Int) : Ov a0 = a0 := rfl
theorem Nc (a0 : ZN) : Vp a0 = a0 := rfl
theorem H9 (a0 : ZT) : RG a0 = a0 := rfl
theorem I7 (a0 : List ZT) : VO a0 = a0 := by
  have h := jf (F := (kH a0)) (a := a0) (g := (fun x => x)) (fun _ => rfl) (fun _ _ _ => rfl) (a0.length + 1) [] 0 zAA zAA
  simp only [List.nil_append, List.drop_zero] at h
  unfold VO
  rw [h]
theorem HC (a0 : List Zj) : Sc a0 = a0 := rfl
theorem LK (a0 : ZZ) : TP a0 = a0 := rfl
theorem IJ (a0 : ZU) : VK a0 = a0 := by
  have h := jf (F := (fun n v i => kB a0 n i v)) (a := a0.ZP) (g := (fun x => x)) (fun _ => rfl) (fun _ _ _ => rfl) (a0.ZP.length + 1) [] 0 zAA zAA
  simp only [List.nil_append, List.drop_zero] at h
  unfold VK
  rw [h]
theorem F4 (a0 : ZQ) : OW a0 = a0 := rfl
theorem MN (a0 : ZD) : WV a0 = a0 := by
  have h := jf (F := (fun n v i => jL a0 n i v)) (a := a0.ZC) (g := (fun x => x)) (fun _ => rfl) (fun _ _ _ => rfl) (a0.ZC.length + 1) [] 0 zAA zAA
  simp only [List.nil_append, List.drop_zero] at h
  unfold WV
  rw [h]
theorem H3 (a0 : ZF) : Up a0 = a0 := by
  have h := jf (F := (fun n v i => WW a0 n i v)) (a := a0.ZA) (g := (fun x => x)) (fun _ => rfl) (fun _ _ _ => rfl) (a0.ZA.length + 1) [] 0 zAA zAA
  simp only [List.nil_append, List.drop_zero] at h
  unfold Up
  rw [h]
theorem Kw (a0 : List Yw) (a1 : Int) : Zt a0 a1 < (a0.length : Int) := kX (F := jk a0 a1) (c := fun J => ((nth a0 J).Number == a1)) (fun _ => rfl) (fun _ _ => rfl) _ _
theorem Ji (a0 : ZD) (a1 : Int) : ZW a0 a1 < (a0.ZC.length : Int) := kX (F := zl a0 a1) (c := fun J => ((nth a0.ZC J).Id == a1)) (fun _ => rfl) (fun _ _ => rfl) _ _
theorem Fs (a0 : List YX) (a1 : Int) : Xp a0 a1 < (a0.length : Int) := kX (F := xJ a0 a1) (c := fun J => ((nth a0 J).Zd == a1)) (fun _ => rfl) (fun _ _ => rfl) _ _
theorem Qi (a0 : List Zf) (a1 : Int) : ZV a0 a1 < (a0.length : Int) := kX (F := Jq a0 a1) (c := fun J => ((nth a0 J).Id == a1)) (fun _ => rfl) (fun _ _ => rfl) _ _
theorem jF (a0 : List Z8) (a1 : Int) : X7 a0 a1 < (a0.length : Int) := kX (F := yd a0 a1) (c := fun J => ((nth a0 J).Id == a1)) (fun _ => rfl) (fun _ _ => rfl) _ _
theorem Fg (a0 : ZX) : Ou a0 = a0 := rfl
theorem B0 (a0 : ZN) : Hb a0 = a0 := rfl
theorem D0 (a0 : ZT) : LA a0 = a0 := rfl
theorem C2 (a0 : List ZT) : O6 a0 = a0 := by
  have h := jf (F := (SS a0)) (a := a0) (g := (fun x => x)) (fun _ => rfl) (fun _ _ _ => rfl) (a0.length + 1) [] 0 zAA zAA
  simp only [List.nil_append, List.drop_zero] at h
  unfold O6
  rw [h]
theorem Di (a0 : ZZ) : M0 a0 = a0 := rfl
theorem DV (a0 : ZU) : Ph a0 = a0 := by
  have h := jf (F := (fun n v i => Uz a0 n i v)) (a := a0.ZP) (g := (fun x => x)) (fun _ => rfl) (fun _ _ _ => rfl) (a0.ZP.length + 1) [] 0 zAA zAA
  simp only [List.nil_append, List.drop_zero] at h
  unfold Ph
  rw [h]
theorem DX (a0 : ZQ) : LM a0 = a0 := rfl
theorem Df (a0 : ZD) : Pa a0 = a0 := by
  have h := jf (F := (fun n v i => Uy a0 n i v)) (a := a0.ZC) (g := (fun x => x)) (fun _ => rfl) (fun _ _ _ => rfl) (a0.ZC.length + 1) [] 0 zAA zAA
  simp only [List.nil_append, List.drop_zero] at h
  unfold Pa
  rw [h]
theorem Dc (a0 : ZF) : Pf a0 = a0 := by
  have h := jf (F := (fun n v i => UZ a0 n i v)) (a := a0.ZA) (g := (fun x => x)) (fun _ => rfl) (fun _ _ _ => rfl) (a0.ZA.length + 1) [] 0 zAA zAA
  simp only [List.nil_append, List.drop_zero] at h
  unfold Pf
  rw [h]
theorem GN (a0 : ZF) (a1 : Int) : Xl a0 a1 < (a0.ZY.length : Int) := kX (F := KN a0 a1) (c := fun J => ((nth a0.ZY J).Key == a1)) (fun _ => rfl) (fun _ _ => rfl) _ _
theorem Tb (a0 : ZD) (a1 : Int) : Ys a0 a1 < (a0.ZC.length : Int) := kX (F := qS a0 a1) (c := fun J => ((nth a0.ZC J).Id == a1)) (fun _ => rfl) (fun _ _ => rfl) _ _
theorem TO (a0 : List YX) (a1 : Int) : Z3 a0 a1 < (a0.length : Int) := kX (F := qf a0 a1) (c := fun J => ((nth a0 J).Zd == a1)) (fun _ => rfl) (fun _ _ => rfl) _ _
theorem JW (a0 : List Zf) (a1 : Int) : Zh a0 a1 < (a0.length : Int) := kX (F := Kc a0 a1) (c := fun J => ((nth a0 J).Id == a1)) (fun _ => rfl) (fun _ _ => rfl) _ _
theorem II (a0 : List Z8) (a1 : Int) : zj a0 a1 < (a0.length : Int) := kX (F := yp a0 a1) (c := fun J => ((nth a0 J).Id == a1)) (fun _ => rfl) (fun _ _ => rfl) _ _
theorem OQ (h : 7 <= n) : Sm n (yH x) := ⟨by simp [yH]; omega, fun _ _ => trivial⟩
@[simp] theorem sK (x : YX) : (yH x).length = 7 := rfl
theorem P3 (h : 7 <= n) : Sm n (yD x) := ⟨by simp [yD]; omega, fun _ _ => trivial⟩
@[simp] theorem uh (x : YX) : (yD x).length = 7 := rfl
theorem Gj {x : Zj} (h : 5 <= n) : Sm n (zG x) := ⟨by simp [zG]; omega, fun _ _ => trivial⟩
@[simp] theorem ug (x : Zj) : (zG x).length = 5 := rfl
theorem Hy {x : Zj} (h : 5 <= n) : Sm n (Jc x) := ⟨by simp [Jc]; omega, fun _ _ => trivial⟩
@[simp] theorem uY (x : Zj) : (Jc x).length = 5 := rfl
theorem Sw {x : Zn} (h : 5 <= n) : Sm n (KJ x) := ⟨by simp [KJ]; omega, fun _ _ => trivial⟩
@[simp] theorem uA (x : Zn) : (KJ x).length = 5 := rfl
theorem Sx {x : Zn} (h : 5 <= n) : Sm n (Ju x) := ⟨by simp [Ju]; omega, fun _ _ => trivial⟩
@[simp] theorem uF (x : Zn) : (Ju x).length = 5 := rfl
theorem Vw {x : Zl} (h : 9 <= n) : Sm n (Qo x) := ⟨by simp [Qo]; omega, fun _ _ => trivial⟩
@[simp] theorem AG (x : Zl) : (Qo x).length = 9 := rfl
theorem jP {x : Zl} (h : 9 <= n) : Sm n (Xq x) := ⟨by simp [Xq]; omega, fun _ _ => trivial⟩
@[simp] theorem AE (x : Zl) : (Xq x).length = 9 := rfl
theorem Mn {x : XV} (h : 6 <= n) : Sm n (yG x) := ⟨by simp [yG]; omega, fun _ _ => trivial⟩
@[simp] theorem wk (x : XV) : (yG x).length = 6 := rfl
theorem HP {a : ZU} (h : xK a = true) : 0 < a.ZJ.length := by
  unfold xK at h
  split at h
  · rename_i r e
    have : ∀ n v, qi a n v ≠ .inl true := by
      intro n
      induction n with
      | zero => intro v h; cases h
      | succ n ih =>
        intro v h
        rw [qi] at h
        grind
    subst h; exact absurd e (this _ _)
  · split at h
    · rename_i r e
      have : ∀ n v, ql a n v ≠ .inl true := by
        intro n
        induction n with
        | zero => intro v h; cases h
        | succ n ih =>
          intro v h
          rw [ql] at h
          grind
      subst h; exact absurd e (this _ _)
    · simp only [YU, Bool.and_eq_true, decide_eq_true_eq] at h; omega
theorem Gd {a : ZU} (h : Xy a = true) : 0 < a.ZJ.length := by
  unfold Xy at h
  generalize (match xG a (a.ZJ.length + 1) 0 with | .inl r1 => r1 | .inr _ => (match y7 a (a.ZP.length + 1) 0 with | .inl r2 => r2 | .inr _ => true)) = m at h
  cases hh : ZS (a.ZJ.length : Int) 1 12 with
  | false => rw [hh] at h; simp at h
  | true => simp only [ZS, Bool.and_eq_true, decide_eq_true_eq] at hh; omega
theorem LG {a : ZN} (h : K2 a = true) : a.KW.length = a.Xn.length := by
  unfold K2 at h
  split at h
  · rename_i r e
    have : ∀ n v, yR a n v ≠ .inl true := by
      intro n
      induction n with
      | zero => intro v h; cases h
      | succ n ih =>
        intro v h
        rw [yR] at h
        grind
    subst h; exact absurd e (this _ _)
  · split at h
    · rename_i r e
      have : ∀ n v, yO a n v ≠ .inl true := by
        intro n
        induction n with
        | zero => intro v h; cases h
        | succ n ih =>
          intro v h
          rw [yO] at h
          grind
      subst h; exact absurd e (this _ _)
    · simp only [Bool.and_eq_true, beq_iff_eq] at h; omega
theorem LS {a : ZN} (h : zh a = true) : a.KW.length = a.Xn.length := by
  unfold zh at h
  grind
theorem XR (a0 : ZF) (a1 : Int) (h : 0 <= (ZG a0 a1).1) : (ZG a0 a1).1.toNat < a0.ZA.length /\ 0 <= (ZG a0 a1).2 /\ (ZG a0 a1).2.toNat < (nth a0.ZA (ZG a0 a1).1.toNat).ZC.length := by
  have key : ∀ n v r, jc a0 a1 n v = .inl r -> r.1.toNat < a0.ZA.length /\ 0 <= r.2 /\ r.2.toNat < (nth a0.ZA r.1.toNat).ZC.length := by
    intro n
    induction n with
    | zero => intro v r h; cases h
    | succ n ih =>
      intro v r h
      rw [jc] at h
      cases h1 : decide ((v : Int) < (a0.ZA.length : Int)) with
      | false => rw [h1] at h; cases h
      | true =>
        rw [h1] at h
        simp only [cond_true] at h
        cases h2 : decide (Ys (nth a0.ZA v) a1 >= 0) with
        | false => rw [h2] at h; exact ih _ _ h
        | true =>
          rw [h2] at h; cases h
          simp at h1 h2
          have := Tb (nth a0.ZA v) a1
          grind
  unfold ZG at h ⊢
  grind
theorem QM (a0 : ZF) (a1 : Int) (h : 0 <= (ZL a0 a1).1) : (ZL a0 a1).1.toNat < a0.ZA.length /\ 0 <= (ZL a0 a1).2 /\ (ZL a0 a1).2.toNat < (nth a0.ZA (ZL a0 a1).1.toNat).ZC.length := by
  have key : ∀ n v r, qO a0 a1 n v = .inl r -> r.1.toNat < a0.ZA.length /\ 0 <= r.2 /\ r.2.toNat < (nth a0.ZA r.1.toNat).ZC.length := by
    intro n
    induction n with
    | zero => intro v r h; cases h
    | succ n ih =>
      intro v r h
      rw [qO] at h
      cases h1 : decide ((v : Int) < (a0.ZA.length : Int)) with
      | false => rw [h1] at h; cases h
      | true =>
        rw [h1] at h
        simp only [cond_true] at h
        cases h2 : decide (ZW (nth a0.ZA v) a1 >= 0) with
        | false => rw [h2] at h; exact ih _ _ h
        | true =>
          rw [h2] at h; cases h
          simp at h1 h2
          have := Ji (nth a0.ZA v) a1
          grind
  unfold ZL at h ⊢
  grind
theorem UE (hn : n <= 9223372036854775807) (h : YU a 0 (W ((n : Int) - 1)) = true) : 0 <= a /\ a < n := by
  rw [LJ n hn] at h
  simp only [YU, Bool.and_eq_true, decide_eq_true_eq] at h; omega
theorem qy (hn : n <= 9223372036854775807) (h : ZS a 0 (W ((n : Int) - 1)) = true) : 0 <= a /\ a < n := by
  rw [LJ n hn] at h
  simp only [ZS, Bool.and_eq_true, decide_eq_true_eq] at h; omega
@[simp] theorem sc (l : List UInt8) : (kh l).length = l.length := by
  have key : ∀ n (acc : List Int) v, l.length < n + v -> v <= l.length -> (qQ l n acc v).length = acc.length + (l.length - v) := by
    intro n
    induction n with
    | zero => intro acc v h1 h2; omega
    | succ n ih =>
      intro acc v h1 h2
      rw [qQ]
      grind
  have := key (l.length + 1) [] 0 zAA zAA
  simpa [kh] using this
theorem jH {a0 : ZU} {a1 : ZN} (h : Sm n a0) : Sm n (JT a0 a1) := by
  have key : ∀ n (acc : List Int) v, a0.ZP.length < n + v -> v <= a0.ZP.length -> (KP a0 a1 n acc v).length = acc.length + (a0.ZP.length - v) := by
    intro n
    induction n with
    | zero => intro acc v h1 h2; omega
    | succ n ih =>
      intro acc v h1 h2
      rw [KP]
      grind
  have h2 := key (a0.ZP.length + 1) [] 0 zAA zAA
  have h3 := YS (ZU.zo h)
  refine ⟨?_, fun _ _ => trivial⟩
  unfold JT
  grind
theorem I9 {a0 : ZU} {a1 : ZN} (h : Sm n a0) : Sm n (QN a0 a1) := by
  have key : ∀ n (acc : List Int) v, a0.ZP.length < n + v -> v <= a0.ZP.length -> (zR a0 a1 n acc v).length = acc.length + (a0.ZP.length - v) := by
    intro n
    induction n with
    | zero => intro acc v h1 h2; omega
    | succ n ih =>
      intro acc v h1 h2
      rw [zR]
      grind
  have h2 := key (a0.ZP.length + 1) [] 0 zAA zAA
  have h3 := YS (ZU.zo h)
  refine ⟨?_, fun _ _ => trivial⟩
  unfold QN
  grind
theorem Kh (a0 : ZT) : (Qs a0 = 101 -> a0.Yf.length = 7) /\ (Qs a0 = 102 -> a0.Yf.length = 5) /\ (Qs a0 = 103 -> a0.Yf.length = 5) /\ (Qs a0 = 104 -> a0.Yf.length = 9) /\ (Qs a0 = 105 -> a0.Yf.length = 6) := by
  have key : ∀ v : Int, v ≠ 0 -> Qs a0 = v -> nth a0.Yf 0 = v /\ (a0.Yf.length : Int) = nth ([7, 5, 5, 9, 6] : List Int) (W (v - 101)).toNat := by
    intro v hv h
    unfold Qs at h
    grind
  refine ⟨fun h => ?_, fun h => ?_, fun h => ?_, fun h => ?_, fun h => ?_⟩ <;> (have := (key _ zAE h).2; simp [nth, Y9] at this; omega)
theorem Z6 (a0 : ZT) : (XC a0 = 101 -> a0.Yf.length = 7) /\ (XC a0 = 102 -> a0.Yf.length = 5) /\ (XC a0 = 103 -> a0.Yf.length = 5) /\ (XC a0 = 104 -> a0.Yf.length = 9) /\ (XC a0 = 105 -> a0.Yf.length = 6) := by
  have key : ∀ v : Int, v ≠ 0 -> XC a0 = v -> nth a0.Yf 0 = v /\ (a0.Yf.length : Int) = nth ([7, 5, 5, 9, 6] : List Int) (W (v - 101)).toNat := by
    intro v hv h
    unfold XC at h
    grind
  refine ⟨fun h => ?_, fun h => ?_, fun h => ?_, fun h => ?_, fun h => ?_⟩ <;> (have := (key _ zAE h).2; simp [nth, Y9] at this; omega)
theorem U2 (a0 : Int) (a1 : List Int) (h : a1.length <= 1048576) : 2 * (WN a0 a1).length = a1.length + a1.length % 2 := by
  have key : ∀ n v i, a1.length + 1 < 2 * n + i -> i <= a1.length + 1 -> i % 2 = 0 -> 2 * (jq a0 a1 n v i).length = 2 * v.length + (a1.length + a1.length % 2 - i) := by
    intro n
    induction n with
    | zero => intro v i h1 h2; omega
    | succ n ih =>
      intro v i h1 h2 h3
      unfold jq
      grind
  have := key (a1.length + 1) [] 0 zAA zAA zAA
  unfold WN
  rw [this]; simp
theorem qh (a0 : Int) (a1 : List Int) (h : a1.length <= 1048576) : 2 * (KL a0 a1).length = a1.length + a1.length % 2 := by
  have key : ∀ n v i, a1.length + 1 < 2 * n + i -> i <= a1.length + 1 -> i % 2 = 0 -> 2 * (KQ a0 a1 n v i).length = 2 * v.length + (a1.length + a1.length % 2 - i) := by
    intro n
    induction n with
    | zero => intro v i h1 h2; omega
    | succ n ih =>
      intro v i h1 h2 h3
      unfold KQ
      grind
  have := key (a1.length + 1) [] 0 zAA zAA zAA
  unfold KL
  rw [this]; simp
theorem Us (h : 10 <= n) : Sm n yL := ⟨h, fun _ _ => trivial⟩
theorem kT {a0 : ZD} (h : Sm n a0) : Sm n (YJ a0 a1) := by
  refine ⟨?_, fun _ _ => trivial⟩
  have e := Be (F := KI a0 a1) (fun _ _ => rfl) (fun _ _ _ => rfl) (a0.ZC.length + 1) [] 0
  have : (YJ a0 a1).length <= 0 + (a0.ZC.length - 0) := e
  have := YS (show Sm n a0.ZC from h)
  omega
theorem jK (a0 : ZD) (a1 : Int) : (YJ a0 a1).length = a0.ZC.length := by
  have key : ∀ n v i, i <= a0.ZC.length -> a0.ZC.length < n + i -> (KI a0 a1 n v i).length = v.length + (a0.ZC.length - i) := by
    intro n
    induction n with
    | zero => intro v i h0 h; omega
    | succ n ih =>
      intro v i h0 h
      rw [KI]
      grind
  have := key (a0.ZC.length + 1) [] 0 zAA zAA
  exact this.trans zAF
theorem UC {a0 : ZD} (h : Sm n a0) : Sm n (Xf a0 a1) := by
  refine ⟨?_, fun _ _ => trivial⟩
  have e := Be (F := xi a0 a1) (fun _ _ => rfl) (fun _ _ _ => rfl) (a0.ZC.length + 1) [] 0
  have : (Xf a0 a1).length <= 0 + (a0.ZC.length - 0) := e
  have := YS (show Sm n a0.ZC from h)
  omega
theorem Qd (a0 : ZF) (a1 : Int) (h : (YI a0 a1).2.2 = true) : 0 <= (YI a0 a1).1 /\ (YI a0 a1).1 < (a0.ZA.length : Int) /\ 0 <= (YI a0 a1).2.1 /\ (YI a0 a1).2.1 < (a0.ZY.length : Int) :=
  Z4 (p := fun (r : Int × Int × Bool) => r.2.2 = true -> 0 <= r.1 /\ r.1 < (a0.ZA.length : Int) /\ 0 <= r.2.1 /\ r.2.1 < (a0.ZY.length : Int)) (fun _ h => by simp at h) (fun hc h => by
    simp only [Bool.or_eq_false_iff, decide_eq_false_iff_not] at hc
    have f := QM a0 a1 zAA
    dsimp only at h ⊢
    rw [Bool.and_eq_true, decide_eq_true_eq] at h
    have h2 := h.2
    exact ⟨zAA, zAA, zAA, Fs _ _⟩) h
theorem FD (h : 7 <= n) : Sm n (jt x) := OQ h
theorem Rh (h : 7 <= n) : Sm n (Jf x) := P3 h
theorem ki {x : Zn} (h : 5 <= n) : Sm n (XL x) := Sw h
theorem Tn {x : Zn} (h : 5 <= n) : Sm n (XK x) := Sx h
theorem FC {x : Zl} (h : 9 <= n) : Sm n (yv x) := Vw h
theorem Yv {x : Zl} (h : 9 <= n) : Sm n (Yu x) := jP h
theorem Zc {a0 : List Yw} {a1 : Zn} (h : (Yl a0 a1).2 = true) : 0 <= Yc a0 a1.Z1 := by
  unfold Yl at h
  grind
theorem VH {a2 : ZN} (h : Sm n a2) (hn : 9 <= n) : Sm n (QA a0 a1 a2 a3 a4).1 := by
  unfold QA
  cases ((decide ((Zk a0.Frame.Methods a0.Frame.Now) < 0)) || (decide ((Xl a0 a1) < 0))) with
  | true => exact ⟨⟨y9, y9⟩, y9, y9⟩
  | false =>
    refine ⟨h, ⟨by simp; omega, fun y hy => ?_⟩, y9⟩
    rcases List.mem_cons.1 hy with rfl | hy
    · exact FC zAA
    rcases List.mem_cons.1 hy with rfl | hy
    · exact FD zAA
    · cases hy
theorem T9 {a0 : ZD} {a1 : ZQ} (h : Sm n a0) (hx : Sm (n + 1) a1) : Sm (n + 1) (YQ a0 a1).1 := by
  have h1 : Sm (n + 1) a0 := ZM (Nat.le_succ n) h
  unfold YQ
  cases ((decide ((ZW a0 a1.Id) >= 0)) || (!(Yi a0))) with
  | true => exact h1
  | false =>
    simp only [cond_false]
    generalize Xt a0 a1 (a0.ZC.length + 1) 0 = z
    cases (!(Yi (ZD.mk a0.Id (((a0.ZC.take z) ++ ([a1] : List ZQ)) ++ (a0.ZC.drop z))))) with
    | true => exact h1
    | false =>
      refine ⟨by have := ZD.Ye h; have := this.1; simp; omega, fun y hy => ?_⟩
      have hy' : y ∈ a0.ZC.take z \/ y = a1 \/ y ∈ a0.ZC.drop z := by simpa using hy
      rcases hy' with hy | rfl | hy
      · exact h1.2 y (List.mem_of_mem_take hy)
      · exact hx
      · exact h1.2 y (List.mem_of_mem_drop hy)
theorem UJ {n : Nat} {a0 : ZD} {a1 : ZQ} (h : Sm n a0) (hx : Sm n a1) : ∀ (m : Nat) (b : Bool) (i : Nat) (l : List ZQ), l.length <= i + (bif b then 1 else 0) -> i <= a0.ZC.length -> (∀ y ∈ l, Sm n y) ->
    (Qh a0 a1 m b i l).2.length <= a0.ZC.length + (bif (Qh a0 a1 m b i l).1 then 1 else 0) /\ ∀ y ∈ (Qh a0 a1 m b i l).2, Sm n y
  | 0, b, i, l, _, _, _ => ⟨Nat.zero_le _, fun y hy => by cases hy⟩
  | m + 1, b, i, l, hl, hi, hs => by
    unfold Qh
    cases hc : decide ((i : Int) < (a0.ZC.length : Int)) with
    | false =>
      grind
    | true =>
      have lH : i < a0.ZC.length := zBG
      have hn : Sm n (nth a0.ZC i) := Zp h
      simp only [cond_true]
      cases hd : ((!b) && (decide (a1.Id < (nth a0.ZC i).Id))) with
      | true =>
        have hb : b = false := by cases b <;> simp_all
        subst hb
        simp only [cond_true]
        refine UJ h hx m true (i + 1) _ zBi lH (fun y hy => ?_)
        grind
      | false =>
        simp only [cond_false]
        refine UJ h hx m b (i + 1) _ zBi lH (fun y hy => ?_)
        grind
theorem DY {a0 : ZD} {a1 : ZQ} (h : Sm n a0) (hx : Sm n a1) : Sm (n + 1) (JK a0 a1).1 := by
  have h1 : Sm (n + 1) a0 := ZM (Nat.le_succ n) h
  unfold JK
  cases ((!(Jb a0)) || (decide ((Ys a0 a1.Id) >= 0))) with
  | true => exact h1
  | false =>
    have hz := UJ h hx (a0.ZC.length + 1) false 0 [] (Nat.zero_le _) (Nat.zero_le _) (fun y hy => by cases hy)
    have hlen := (ZD.Ye h).1
    simp only [cond_false]
    generalize hq : Qh a0 a1 (a0.ZC.length + 1) false 0 [] = z at hz ⊢
    obtain ⟨z0, z1⟩ := z
    cases z0 with
    | false =>
      simp only [Bool.not_false, cond_true]
      cases (!(Jb (ZD.mk a0.Id (z1 ++ ([a1] : List ZQ))))) with
      | true => exact h1
      | false =>
        refine ⟨by have := hz.1; simp at this ⊢; omega, fun y hy => ?_⟩
        have hy' : y ∈ z1 \/ y = a1 := by simpa using hy
        rcases hy' with hy | rfl
        · exact ZM (Nat.le_succ n) (hz.2 y hy)
        · exact ZM (Nat.le_succ n) hx
    | true =>
      simp only [Bool.not_true, cond_false]
      cases (!(Jb (ZD.mk a0.Id z1))) with
      | true => exact h1
      | false => exact ⟨by have := hz.1; simp at this ⊢; omega, fun y hy => ZM (Nat.le_succ n) (hz.2 y hy)⟩
theorem Si {n : Nat} {a0 : ZF} {a1 a2 : Int} {a3 : ZN} {a4 a5 : Int} (h : Sm n a0) (hd : Sm n a3) (hn : 9 <= n) : ∀ (m v : Nat) (r : ZF × Bool), Qv a0 a1 a2 a3 a4 a5 m v = .inl r -> Sm (n + 1) r.1
  | 0, v, r, e => by cases e
  | m + 1, v, r, e => by
    have h1 : Sm (n + 1) a0 := ZM (Nat.le_succ n) h
    unfold Qv at e
    cases hc : decide ((v : Int) < (a0.ZY.length : Int)) with
    | false => rw [hc] at e; cases e
    | true =>
      rw [hc] at e
      simp only [cond_true] at e
      cases hk : ((nth a0.ZY v).Key != a2) with
      | true => rw [hk] at e; exact Si h hd hn m (v + 1) r e
      | false =>
        rw [hk] at e
        simp only [cond_false] at e
        generalize hq : (ZQ.mk a0.Next a5 a3 (XM a0.Frame.Zo (Zl.mk a2 (nth a0.ZY v).Zd (ZO a0.Frame.Methods a0.Frame.Now) (Yb (ZO a0.Frame.Methods a0.Frame.Now) a3) 1 a4 0 0 0)).1 (ZU.mk ([(Yu (XM a0.Frame.Zo (Zl.mk a2 (nth a0.ZY v).Zd (ZO a0.Frame.Methods a0.Frame.Now) (Yb (ZO a0.Frame.Methods a0.Frame.Now) a3) 1 a4 0 0 0)).1), (Jf (nth a0.ZY v))] : List ZT) ([] : List ZZ))) = it at e
        have hit : Sm (n + 1) it := by
          rw [<- hq]
          refine ⟨ZM (Nat.le_succ n) hd, ⟨by simp; omega, fun y hy => ?_⟩, y9⟩
          rcases List.mem_cons.1 hy with rfl | hy
          · exact Yv zAA
          rcases List.mem_cons.1 hy with rfl | hy
          · exact Rh zAA
          · cases hy
        clear hq
        cases hb : ((!(XM a0.Frame.Zo (Zl.mk a2 (nth a0.ZY v).Zd (ZO a0.Frame.Methods a0.Frame.Now) (Yb (ZO a0.Frame.Methods a0.Frame.Now) a3) 1 a4 0 0 0)).2) || (!(YQ (nth a0.ZA a1.toNat) it).2)) with
        | true => rw [hb] at e; cases e; exact h1
        | false =>
          rw [hb] at e
          cases e
          exact ⟨h1.1, h1.2.1, h1.2.2.1, PD h1.2.2.2.1 (T9 (Zp h.2.2.2.1) hit), h1.2.2.2.2.1, h1.2.2.2.2.2.1, h1.2.2.2.2.2.2⟩
theorem zA {a2 : Int} {a3 : ZN} (h : Sm n a0) (hd : Sm n a3) (hn : 9 <= n) : Sm (n + 1) (XJ a0 a1 a2 a3 a4 a5).1 := by
  have h1 : Sm (n + 1) a0 := ZM (Nat.le_succ n) h
  unfold XJ
  cases (((!(YC a0 a1)) || (decide ((Zt a0.Frame.Zo a2) < 0))) || (decide ((ZO a0.Frame.Methods a0.Frame.Now) < 0))) with
  | true => exact h1
  | false =>
    simp only [cond_false]
    cases he : Qv a0 a1 a2 a3 a4 a5 (a0.ZY.length + 1) 0 with
    | inl r => exact Si h hd hn _ _ r he
    | inr _ => exact h1
theorem qW (a0 : Int) : ∀ (m : Nat) (x : Int) (l : List Xx) (y : List Int), (Kv a0 m x l y).length <= l.length + m
  | 0, x, l, y => Nat.zero_le _
  | m + 1, x, l, y => by
    simp only [Kv]
    cases decide ((y.length : Int) > 1) with
    | false => simp
    | true =>
      simp only [cond_true]
      cases ((Int.tmod x 2) == 1) with
      | true => refine Nat.le_trans (qW a0 m _ _ _) ?_; simp; omega
      | false =>
        simp only [cond_false]
        cases decide ((W (x + 1)) < (y.length : Int)) with
        | true => refine Nat.le_trans (qW a0 m _ _ _) ?_; simp; omega
        | false => refine Nat.le_trans (qW a0 m _ _ _) ?_; omega
theorem FL {a0 : Int} {a1 : List Int} {a2 : Int} (h : 17 <= n) : Sm n (zL a0 a1 a2) := by
  refine ⟨?_, fun _ _ => trivial⟩
  unfold zL
  cases hc : ((decide ((a1.length : Int) > 16)) || (!(YU a2 0 (W ((a1.length : Int) - 1))))) with
  | true => exact Nat.zero_le _
  | false =>
    have h1 := qW a0 (a1.length + 1) a2 [] a1
    grind
theorem qk (a0 : Int) : ∀ (m : Nat) (y : List Int) (x : Int) (l : List Xx), (Kt a0 m y x l).length <= l.length + m
  | 0, y, x, l => Nat.zero_le _
  | m + 1, y, x, l => by
    simp only [Kt]
    cases decide ((y.length : Int) > 1) with
    | false => simp
    | true =>
      simp only [cond_true]
      cases ((Int.tmod x 2) == 1) with
      | true => refine Nat.le_trans (qk a0 m _ _ _) ?_; simp; omega
      | false =>
        simp only [cond_false]
        cases decide ((W (x + 1)) < (y.length : Int)) with
        | true => refine Nat.le_trans (qk a0 m _ _ _) ?_; simp; omega
        | false => refine Nat.le_trans (qk a0 m _ _ _) ?_; omega
theorem Pu {a0 : Int} {a1 : List Int} {a2 : Int} (h : 17 <= n) : Sm n (JC a0 a1 a2) := by
  refine ⟨?_, fun _ _ => trivial⟩
  unfold JC
  cases hc : ((!(ZS a2 0 (W ((a1.length : Int) - 1)))) || (decide ((a1.length : Int) > 16))) with
  | true => exact Nat.zero_le _
  | false =>
    have h1 := qk a0 (a1.length + 1) a1 a2 []
    grind
theorem Pt (a0 : ZF) (a1 : List Int) : ∀ (m v : Nat), a1.length < m + v -> (match jT a0 a1 m v with | .inl r => r | .inr _ => true) = true -> ∀ j, v <= j -> j < a1.length -> 0 <= Zh a0.Frame.ZB (nth a1 j) /\ Zh a0.Frame.ZB (nth a1 j) < (a0.Yt.length : Int) /\ 0 <= Yc a0.Frame.Zo (nth a0.Frame.ZB (Zh a0.Frame.ZB (nth a1 j)).toNat).Key
  | 0, v, h, _ => fun j h1 h2 => zAA
  | m + 1, v, h, e => by
    intro j h1 h2
    unfold jT at e
    have hc : decide ((v : Int) < (a1.length : Int)) = true := zAk
    rw [hc] at e
    simp only [cond_true] at e
    revert e
    cases hA : (((decide ((Zh a0.Frame.ZB (nth a1 v)) < 0)) || (decide ((Zh a0.Frame.ZB (nth a1 v)) >= (a0.Yt.length : Int)))) || ((decide ((v : Int) > 0)) && (decide ((nth a1 (v - 1)) >= (nth a1 v))))) with
    | true => intro e; simp at e
    | false =>
      simp only [cond_false]
      cases hB : ((decide ((Yc a0.Frame.Zo (nth a0.Frame.ZB (Zh a0.Frame.ZB (nth a1 v)).toNat).Key) < 0)) || (decide ((nth a0.Frame.Zo (Yc a0.Frame.Zo (nth a0.Frame.ZB (Zh a0.Frame.ZB (nth a1 v)).toNat).Key).toNat).VI > a0.Frame.Now))) with
      | true => intro e; simp at e
      | false =>
        intro e
        rcases Nat.eq_or_lt_of_le h1 with rfl | h1
        · grind
        · exact Pt a0 a1 m (v + 1) zAA e j h1 h2
theorem J1 {a1 : List Int} (h : zm a0 a1 = true) (hj : j < a1.length) : 0 <= Zh a0.Frame.ZB (nth a1 j) /\ Zh a0.Frame.ZB (nth a1 j) < (a0.Yt.length : Int) /\ 0 <= Yc a0.Frame.Zo (nth a0.Frame.ZB (Zh a0.Frame.ZB (nth a1 j)).toNat).Key := by
  refine Pt a0 a1 (a1.length + 1) 0 zAA ?_ j (Nat.zero_le _) hj
  unfold zm at h
  grind
def itn (l : List ZD) : Nat := cnL (fun a => a.ZC.length) l
theorem BQ (h : i < l.length) : itn (l.drop i) = (nth l i).ZC.length + itn (l.drop (i + 1)) := El _ h
theorem HT (a0 : ZF) : Q6 a0 = a0.ZA.flatMap (·.ZC) := by
  unfold Q6
  have := R3 (as := a0.ZA) (fun a => a.ZC) (F := fun n i l => U7 a0 n l i) (fun _ _ _ => rfl) (a0.ZA.length + 1) 0 [] zAA (Nat.zero_le _)
  simpa using this
theorem OE (a0 : ZF) : (Q6 a0).length = itn a0.ZA := by rw [HT, BN]; rfl
theorem Ht {n : Nat} : ∀ (l : List ZD), (∀ a ∈ l, Sm n a) -> itn l <= l.length * n
  | [], _ => Nat.zero_le _
  | a :: l, h => by
    have h1 : a.ZC.length <= n := YS (ZD.Ye (h a List.mem_cons_self))
    have h2 := Ht l (fun b hb => h b (List.mem_cons_of_mem _ hb))
    show a.ZC.length + itn l <= (l.length + 1) * n
    rw [Nat.add_mul, Nat.one_mul]
    omega
theorem TD (h : Sm n w) : itn w.ZA <= n * n :=
  have k := ZF.Yn h
  Nat.le_trans (Ht w.ZA k.2) (Nat.mul_le_mul_right n k.1)
theorem T1 (a0 : ZX) (a1 : ZU) (a2 : List Int) : ∀ n v, K4 a0 a1 a2 n v <= v
  | 0, _ => Nat.zero_le _
  | n + 1, v => by
    simp only [K4]
    exact Zi (p := fun r => r <= v) (Zi (p := fun r => r <= v) (Nat.le_refl _) (Nat.le_trans (T1 a0 a1 a2 n (v - 1)) (Nat.sub_le _ _))) (Nat.le_refl _)
theorem Il (a0 : ZX) (a1 : ZU) (a2 : List Int) : 0 <= z5 a0 a1 a2 /\ z5 a0 a1 a2 <= (a1.ZP.length : Int) := by
  have h := T1 a0 a1 a2 (a1.ZP.length + 1) a1.ZP.length
  simp only [z5]; omega
theorem Ww (a0 : List Zg) : ∀ (n : Nat) (l : List Zg) (i : Nat) (x y : Int), i <= a0.length -> (jn a0 n l i x y).1.length <= l.length + (a0.length - i)
  | 0, _, _, _, _, _ => Nat.zero_le _
  | n + 1, l, i, x, y, hi => by
    simp only [jn]
    by_cases h : i < a0.length
    · rw [show decide ((i : Int) < (a0.length : Int)) = true by simpa using h, cond_true]
      refine Zi (p := fun (r : List Zg × Int × Int) => r.1.length <= l.length + (a0.length - i)) ?_ ?_
      · have := Ww a0 n (l ++ [nth a0 i]) (i + 1) x y h
        simp at this; omega
      · exact Nat.le_trans (Ww a0 n l (i + 1) _ _ h) zAA
    · grind
theorem W4 (a0 : List Zg) : ∀ (n : Nat) (l : List Zg) (i : Nat), i <= a0.length -> (jj a0 n l i).length <= l.length + (a0.length - i)
  | 0, _, _, _ => Nat.zero_le _
  | n + 1, l, i, hi => by
    simp only [jj]
    by_cases h : i < a0.length
    · rw [show decide ((i : Int) < (a0.length : Int)) = true by simpa using h, cond_true]
      refine Zi (p := fun (r : List Zg) => r.length <= l.length + (a0.length - i)) (Nat.le_trans (W4 a0 n l (i + 1) h) zAA) ?_
      have h2 := Ww l (l.length + 1) [] 0 (nth a0 i).X5 (nth a0 i).To (Nat.zero_le _)
      refine Nat.le_trans (W4 a0 n _ (i + 1) h) ?_
      simp at h2 ⊢
      omega
    · grind
theorem qe {a0 : List Zg} (h : Sm n a0) : Sm n (Qf a0) :=
  ⟨Nat.le_trans (W4 a0 (a0.length + 1) [] 0 (Nat.zero_le _)) (by have := h.1; simp; omega), fun _ _ => trivial⟩
theorem ZI {a0 : Int} {a2 : List Zg} (h : Sm n a2) : Sm (n + 1) (Zr a0 a1 a2) := by
  unfold Zr
  refine Zi (p := fun r : List Zg => Sm (n + 1) r) ⟨?_, fun _ _ => trivial⟩ (ZM (Nat.le_succ n) h)
  have := h.1
  simp; omega
theorem EL {a0 : YX} {a1 : List Zn} (h : 3 <= n) : Sm n (kz a0 a1) := by
  have h0 : Sm 0 ([] : List Zg) := ⟨Nat.zero_le _, fun _ _ => trivial⟩
  unfold kz
  refine Zi (p := fun r : List Zg => Sm n r) (Zi (p := fun r : List Zg => Sm n r) ?_ ?_) (Zi (p := fun r : List Zg => Sm n r) ?_ ?_)
  · exact qe (ZM h (ZI (ZI (ZI h0))))
  · exact qe (ZM zAA (ZI (ZI h0)))
  · exact qe (ZM zAA (ZI (ZI h0)))
  · exact qe (ZM zAA (ZI h0))
theorem wR {c d : Zg} (h : 1 <= n) : Sm n (Pj [c] [d]) := by
  show Sm n (Qf (bif (xw c d).2 then [(xw c d).1] else []))
  exact qe (Zi (p := fun r : List Zg => Sm n r) ⟨h, fun _ _ => trivial⟩ ⟨Nat.zero_le _, fun _ _ => trivial⟩)
theorem G6 {a0 : YX} {a1 : List Zn} (h : 1 <= n) : Sm n (jh a0 a1) := by
  unfold jh
  exact wR h
theorem Nq {a0 : List Yw} {a1 : List XV} {a2 : Int} (h : a1.length <= n) : Sm n (qE a0 a1 a2 a3) :=
  qe ⟨Nat.le_trans (Rq (F := yj a0 a1 a2 a3) (fun _ _ => rfl) (fun _ _ _ => rfl) (a1.length + 1) [] 0) zAk, fun _ _ => trivial⟩
def ru (e : Z0) : Nat := cnL (fun s => s.ZJ.length) e.Zy
theorem wh {l : List ZU} (h : i < l.length) : cnL (fun s : ZU => s.ZJ.length) (l.drop i) = (nth l i).ZJ.length + cnL (fun s : ZU => s.ZJ.length) (l.drop (i + 1)) := El _ h
theorem Yk {a0 : List ZT} {a1 : YX} (h : Sm n a0) : Sm n (yC a0 a1) :=
  ⟨Nat.le_trans (Rq (F := xQ a0 a1) (fun _ _ => rfl) (fun _ _ _ => rfl) (a0.length + 1) [] 0) (by have := h.1; simp; omega), fun _ _ => trivial⟩
theorem Yx {a0 : List ZT} (h : Sm n a0) : Sm n (kG a0) :=
  ⟨Nat.le_trans (Rq (F := x1 a0) (fun _ _ => rfl) (fun _ _ _ => rfl) (a0.length + 1) [] 0) (by have := h.1; simp; omega), fun _ _ => trivial⟩
theorem Wj {n : Nat} (a0 : Z0) (a1 : ZN) (h : Sm n a0) : ∀ (m : Nat) (l : List (List Int)) (i : Nat), i <= a0.Zy.length -> Sm n l -> l.length + (a0.Zy.length - i) <= n -> Sm n (Ke a0 a1 m l i)
  | 0, _, _, _, _, _ => ⟨Nat.zero_le _, fun x hx => by cases hx⟩
  | m + 1, l, i, hi, hl, hk => by
    simp only [Ke]
    by_cases hv : i < a0.Zy.length
    · rw [show decide ((i : Int) < (a0.Zy.length : Int)) = true by simpa using hv, cond_true]
      refine Wj a0 a1 h m _ (i + 1) hv ⟨by simp; omega, fun x hx => ?_⟩ zAk
      rcases List.mem_append.1 hx with hx | hx
      · exact hl.2 x hx
      · rw [List.mem_singleton.1 hx]; exact I9 (Zp (Z0.QY h))
    · grind
theorem JZ {a0 : Z0} {a1 : ZN} (h : Sm n a0) : Sm n (Qq a0 a1) :=
  Wj a0 a1 h _ [] 0 (Nat.zero_le _) ⟨Nat.zero_le _, fun x hx => by cases hx⟩ (by have z := YS (Z0.QY h); simp; omega)
theorem Cb {z : Nat} {l : List ZT} {p : ZT} (hl : Sm K l) (hp : Sm K p) (hk : l.length + 1 <= K) : Sm K ((l.take z ++ [p]) ++ (l.drop z).take (l.length - z)) /\ ((l.take z ++ [p]) ++ (l.drop z).take (l.length - z)).length <= l.length + 1 := by
  have h : ((l.take z ++ [p]) ++ (l.drop z).take (l.length - z)).length <= l.length + 1 := zAk
  refine ⟨⟨Nat.le_trans h hk, fun x hx => ?_⟩, h⟩
  simp only [List.mem_append, List.mem_singleton] at hx
  rcases hx with (hx | rfl) | hx
  · exact hl.2 x (List.mem_of_mem_take hx)
  · exact hp
  · exact hl.2 x (List.mem_of_mem_drop (List.mem_of_mem_take hx))
theorem qt {K : Nat} (a0 : ZX) (a1 : Z0) (a2 : List (List Int)) (v : Nat) (h : Sm K a1) : ∀ (n : Nat) (l : List ZT) (i : Nat), i <= (nth a1.Zy v).ZJ.length -> Sm K l -> l.length + ((nth a1.Zy v).ZJ.length - i) <= K -> Sm K (KB a0 a1 a2 v n l i) /\ (KB a0 a1 a2 v n l i).length <= l.length + ((nth a1.Zy v).ZJ.length - i)
  | 0, _, _, _, _, _ => ⟨⟨Nat.zero_le _, fun x hx => by cases hx⟩, Nat.zero_le _⟩
  | n + 1, l, i, hi, hl, hk => by
    simp only [KB]
    by_cases hv : i < (nth a1.Zy v).ZJ.length
    · rw [show decide ((i : Int) < ((nth a1.Zy v).ZJ.length : Int)) = true by simpa using hv, cond_true]
      have hp : Sm K (nth (nth a1.Zy v).ZJ i) := Zp (ZU.QC (Zp (Z0.QY h)))
      refine Zi (p := fun (r : List ZT) => Sm K r /\ r.length <= l.length + ((nth a1.Zy v).ZJ.length - i)) ?_ ?_
      · obtain ⟨r1, r2⟩ := qt a0 a1 a2 v h n l (i + 1) hv hl zAA
        exact ⟨r1, zAA⟩
      · obtain ⟨q1, q2⟩ := Cb (z := qm a1 v l i (l.length + 1) 0) hl hp zAA
        obtain ⟨r1, r2⟩ := qt a0 a1 a2 v h n _ (i + 1) hv q1 zAA
        exact ⟨r1, zAA⟩
    · grind
theorem VA {K : Nat} (a0 : ZX) (a1 : Z0) (a2 : List (List Int)) (h : Sm K a1) : ∀ (n : Nat) (l : List ZT) (i : Nat), i <= a1.Zy.length -> Sm K l -> l.length + cnL (fun s : ZU => s.ZJ.length) (a1.Zy.drop i) <= K -> Sm K (yf a0 a1 a2 n l i)
  | 0, _, _, _, _, _ => ⟨Nat.zero_le _, fun x hx => by cases hx⟩
  | n + 1, l, i, hi, hl, hk => by
    simp only [yf]
    by_cases hv : i < a1.Zy.length
    · rw [show decide ((i : Int) < (a1.Zy.length : Int)) = true by simpa using hv, cond_true]
      have hd := wh hv
      obtain ⟨r1, r2⟩ := qt a0 a1 a2 i h ((nth a1.Zy i).ZJ.length + 1) l 0 (Nat.zero_le _) hl zAA
      exact VA a0 a1 a2 h n _ (i + 1) hv r1 zAA
    · grind
theorem Za {a0 : ZX} {a1 : Z0} {a2 : List (List Int)} (h : Sm K a1) (hp : ru a1 <= 2097152) (hk : 2097152 <= K) : Sm K (Z2 a0 a1 a2) :=
  VA a0 a1 a2 h _ [] 0 (Nat.zero_le _) ⟨Nat.zero_le _, fun x hx => by cases hx⟩ (by rw [List.drop_zero]; simp only [List.length_nil]; exact Nat.le_trans (by rw [Nat.zero_add]; exact hp) hk)
theorem vW {α β : Type} [Inhabited α] {as : List α} (c : α -> Bool) (g : α -> β) {F : Nat -> Nat -> List β -> List β} (h1 : ∀ n i l, F (n + 1) i l = bif decide ((i : Int) < (as.length : Int)) then (bif c (nth as i) then F n (i + 1) (l ++ [g (nth as i)]) else F n (i + 1) l) else l) (n i : Nat) (l : List β) (h : as.length < n + i) (h2 : i <= as.length) : F n i l = l ++ (as.drop i).flatMap (fun a => bif c a then [g a] else []) :=
  R3 (fun a => bif c a then [g a] else []) (F := F) (fun n i l => by rw [h1]; cases decide ((i : Int) < (as.length : Int)) <;> simp only [Xd, Xa]; cases c (nth as i) <;> simp) n i l h h2
theorem Ea {α β : Type} (f : α -> List β) (h : ∀ x, (f x).length <= 1) : ∀ l : List α, (l.flatMap f).length <= l.length
  | [] => Nat.zero_le _
  | x :: l => by have := Ea f h l; have := h x; simp only [List.flatMap_cons, List.length_append, List.length_cons]; omega
theorem tc {α : Type} (c : Bool) (x : α) : (bif c then [x] else []).length <= 1 := by cases c <;> simp
theorem O9 (a0 : ZF) : XX a0 = (Q6 a0).flatMap (fun x => bif (Qr a0 x.Id).Code == 1 then [x.Id] else []) := by
  have := vW (as := Q6 a0) (fun x => (Qr a0 x.Id).Code == 1) (fun x => x.Id) (F := fun n i l => zN a0 n l i) (fun _ _ _ => rfl) ((Q6 a0).length + 1) 0 [] zAA (Nat.zero_le _)
  unfold XX
  rw [this]; rfl
theorem LB (a0 : ZF) : (XX a0).length <= itn a0.ZA := by
  rw [O9, <- OE]; exact Ea _ (fun x => tc _ _) _
theorem C1 (x : Int) : 0 <= Fb .i64 x 255 /\ Fb .i64 x 255 <= 255 := by
  have h : (BitVec.ofInt IntKind.i64.bits x &&& BitVec.ofInt IntKind.i64.bits 255).toNat <= 255 := by
    rw [BitVec.toNat_and]; exact Nat.le_trans Nat.and_le_right (Nat.le_of_ble_eq_true rfl)
  unfold Fb
  rw [YN zAA zAA]
  omega
theorem qj (c : YD) : 0 <= (YY c).2 /\ (YY c).2 <= 255 := by
  unfold YY
  exact Zi (p := fun r : YD × Int => 0 <= r.2 /\ r.2 <= 255) (C1 _) (C1 _)
theorem Qn (c : YD) (n : Int) : 0 <= (ZH c n).2 /\ (0 < n -> (ZH c n).2 < n) := by
  unfold ZH
  refine Z4 (p := fun r : YD × Int => 0 <= r.2 /\ (0 < n -> r.2 < n)) (fun h => ⟨Int.le_refl _, fun h0 => h0⟩) (fun h => ?_)
  have hn : 0 < n := by simp at h; omega
  have h1 := qj c
  have h2 := qj (YY c).1
  have h3 := qj (YY (YY c).1).1
  refine Zi (p := fun r : YD × Int => 0 <= r.2 /\ (0 < n -> r.2 < n)) ⟨Int.tmod_nonneg _ h1.1, fun _ => Int.tmod_lt_of_pos _ hn⟩ ⟨Int.tmod_nonneg _ ?_, fun _ => Int.tmod_lt_of_pos _ hn⟩
  simp only [Y9]
  omega
theorem MK (c : YD) (n : Int) : (ZH c n).2 <= 16777215 := by
  unfold ZH
  have h1 := qj c
  have h2 := qj (YY c).1
  have h3 := qj (YY (YY c).1).1
  refine Zi (p := fun r : YD × Int => r.2 <= 16777215) (show (0 : Int) <= 16777215 by decide) (Z4 (p := fun r : YD × Int => r.2 <= 16777215) (fun h => ?_) (fun h => ?_))
  · have : (Int.tmod (YY c).2 n).natAbs <= (YY c).2.natAbs := by rw [Int.natAbs_tmod]; exact Nat.mod_le _ _
    grind
  · show Int.tmod _ _ <= _
    have hw : 0 <= W ((W ((W ((YY c).2 * 65536)) + (W ((YY (YY c).1).2 * 256)))) + (YY (YY (YY c).1).1).2) /\ W ((W ((W ((YY c).2 * 65536)) + (W ((YY (YY c).1).2 * 256)))) + (YY (YY (YY c).1).1).2) <= 16777215 := by
      simp only [Y9]; omega
    have h4 : (Int.tmod (W ((W ((W ((YY c).2 * 65536)) + (W ((YY (YY c).1).2 * 256)))) + (YY (YY (YY c).1).1).2)) n).natAbs <= (W ((W ((W ((YY c).2 * 65536)) + (W ((YY (YY c).1).2 * 256)))) + (YY (YY (YY c).1).1).2)).natAbs := by rw [Int.natAbs_tmod]; exact Nat.mod_le _ _
    have h5 := Int.tmod_nonneg n hw.1
    omega
theorem OP (c : YD) : (yV c).2.size <= 11 := by
  unfold yV PY
  exact pg zAE _
theorem Jl (a0 : ZF) : (Zm a0).length <= a0.Frame.ZB.length := by
  have e := Rq (F := Xv a0) (fun _ _ => rfl) (fun _ _ _ => rfl) (a0.Frame.ZB.length + 1) [] 0
  have : (Zm a0).length <= 0 + (a0.Frame.ZB.length - 0) := e
  omega
theorem xP (a0 : ZF) : (Yo a0).length <= a0.Frame.ZB.length := by
  have e := Rq (F := Qk a0) (fun _ _ => rfl) (fun _ _ _ => rfl) (a0.Frame.ZB.length + 1) [] 0
  have : (Yo a0).length <= 0 + (a0.Frame.ZB.length - 0) := e
  omega
theorem Ua (a0 : YZ) (a1 : Int) (h : Qp a0 a1 = true) : a0.ZC.length <= 8 := by
  unfold Qp at h
  have hk : ∀ n v r, J3 a0 n v = .inl r -> r = false := by
    intro n
    induction n with
    | zero => intro v r h; cases h
    | succ n ih =>
      intro v r h
      rw [J3] at h
      grind
  cases hh : J3 a0 (a0.ZC.length + 1) 0 with
  | inl r => rw [hh] at h; have := hk _ _ _ hh; subst this; cases h
  | inr u =>
    rw [hh] at h
    simp only [ZS, Bool.and_eq_true, decide_eq_true_eq] at h
    omega
theorem kY {n : Nat} {a0 : ZD} {a2 : List Int} (h : Sm n a0) : ∀ (m v : Nat) (l : List ZQ), (∀ x ∈ l, Sm n x) -> l.length <= v -> v <= a2.length ->
    (∀ r, Qm a0 a2 m v l = .inl r -> r = (YZ.mk 0 0 [] 0, false)) /\ ∀ z, Qm a0 a2 m v l = .inr z -> z.length <= a2.length /\ ∀ x ∈ z, Sm n x
  | 0, v, l, _, _, _ => ⟨fun r h => zA6, fun z h => zBF⟩
  | m + 1, v, l, hs, hl, hv => by
    rw [Qm]
    let p := fun w : Sum (YZ × Bool) (List ZQ) => (∀ r, w = .inl r -> r = (YZ.mk 0 0 [] 0, false)) /\ ∀ z, w = .inr z -> z.length <= a2.length /\ ∀ x ∈ z, Sm n x
    refine Z4 (p := p) (fun hc => ?_) (fun _ => ⟨fun r h => zA6, fun z h => zBn⟩)
    have hc : v < a2.length := zBG
    refine Zi (p := p) ⟨fun r h => zBk, fun z h => zA6⟩ ?_
    refine kY h m (v + 1) _ (fun x hx => ?_) zAk hc
    rcases List.mem_append.1 hx with hx | hx
    · exact hs x hx
    · have e := List.mem_singleton.1 hx
      subst e
      exact Zp (ZD.Ye h)
theorem Wz {a0 : ZD} (h : Sm n a0) (h2 : Sm n a2) : Sm n (Y1 a0 a1 a2 a3).1 := by
  unfold Y1
  obtain ⟨k1, k2⟩ := kY (a2 := a2) h (a2.length + 1) 0 [] (fun x hx => zBp) (Nat.zero_le _) (Nat.zero_le _)
  have h0 : Sm n (YZ.mk 0 0 [] 0) := by simp [XD]
  cases hh : Qm a0 a2 (a2.length + 1) 0 [] with
  | inl r => rw [k1 r hh]; exact h0
  | inr z =>
    obtain ⟨q1, q2⟩ := k2 z hh
    have hz : Sm n z := ⟨by have := YS h2; omega, q2⟩
    dsimp only
    refine Zi (p := fun w : YZ × Bool => Sm n w.1) h0 ?_
    simp [hz]
theorem Te {a0 : ZD} (hb : n <= 9223372036854775807) (h : Sm n a0) : Sm n (X9 a0 a1).1 := by
  unfold X9
  by_cases hk : ZW a0 a1 < 0
  · rw [decide_eq_true hk]; exact h
  · rw [decide_eq_false hk]
    have hi := ZD.Ye h
    have hf := Ji a0 a1
    have hl := YS hi
    refine ⟨?_, fun y hy => ?_⟩
    · have hm : (a0.ZC.take (ZW a0 a1).toNat ++ (a0.ZC.drop (W ((ZW a0 a1) + 1)).toNat)).length <= n := by
        have w : W ((ZW a0 a1) + 1) = (ZW a0 a1) + 1 := YN zAA zAA
        rw [w]; simp; omega
      exact hm
    · have hy' : y ∈ a0.ZC.take (ZW a0 a1).toNat \/ y ∈ a0.ZC.drop (W ((ZW a0 a1) + 1)).toNat := List.mem_append.1 hy
      rcases hy' with hy | hy
      · exact hi.2 y (List.mem_of_mem_take hy)
      · exact hi.2 y (List.mem_of_mem_drop hy)
theorem Nz (a0 : YZ) (a1 : Int) (h : K9 a0 a1 = true) : a0.ZC.length <= 8 := by
  unfold K9 at h
  have hk : ∀ n v r, J2 a0 n v = .inl r -> r = false := by
    intro n
    induction n with
    | zero => intro v r h; cases h
    | succ n ih =>
      intro v r h
      rw [J2] at h
      grind
  cases hh : J2 a0 (a0.ZC.length + 1) 0 with
  | inl r => rw [hh] at h; have := hk _ _ _ hh; subst this; cases h
  | inr u =>
    rw [hh] at h
    simp only [YU, Bool.and_eq_true, decide_eq_true_eq] at h
    omega
theorem U1 {n : Nat} {a0 : ZD} {a2 : List Int} (h : Sm n a0) : ∀ (m v : Nat) (l : List ZQ), (∀ x ∈ l, Sm n x) -> l.length <= v -> v <= a2.length ->
    (∀ r, Jj a0 a2 m v l = .inl r -> r = (YZ.mk 0 0 [] 0, false)) /\ ∀ z, Jj a0 a2 m v l = .inr z -> z.length <= a2.length /\ ∀ x ∈ z, Sm n x
  | 0, v, l, _, _, _ => ⟨fun r h => zA6, fun z h => zBF⟩
  | m + 1, v, l, hs, hl, hv => by
    rw [Jj]
    let p := fun w : Sum (YZ × Bool) (List ZQ) => (∀ r, w = .inl r -> r = (YZ.mk 0 0 [] 0, false)) /\ ∀ z, w = .inr z -> z.length <= a2.length /\ ∀ x ∈ z, Sm n x
    refine Z4 (p := p) (fun hc => ?_) (fun _ => ⟨fun r h => zA6, fun z h => zBn⟩)
    have hc : v < a2.length := zBG
    refine Zi (p := p) ⟨fun r h => zBk, fun z h => zA6⟩ ?_
    refine U1 h m (v + 1) _ (fun x hx => ?_) zAk hc
    rcases List.mem_append.1 hx with hx | hx
    · exact hs x hx
    · have e := List.mem_singleton.1 hx
      subst e
      exact Zp (ZD.Ye h)
theorem Sg {a0 : ZD} (h : Sm n a0) (h2 : Sm n a2) : Sm n (Xw a0 a1 a2 a3).1 := by
  unfold Xw
  obtain ⟨k1, k2⟩ := U1 (a2 := a2) h (a2.length + 1) 0 [] (fun x hx => zBp) (Nat.zero_le _) (Nat.zero_le _)
  have h0 : Sm n (YZ.mk 0 0 [] 0) := by simp [XD]
  cases hh : Jj a0 a2 (a2.length + 1) 0 [] with
  | inl r => rw [k1 r hh]; exact h0
  | inr z =>
    obtain ⟨q1, q2⟩ := k2 z hh
    have hz : Sm n z := ⟨by have := YS h2; omega, q2⟩
    dsimp only
    refine Zi (p := fun w : YZ × Bool => Sm n w.1) h0 ?_
    simp [hz]
theorem EJ {a0 : ZD} (h : Sm n a0) : Sm n (z6 a0 a1).1 := by
  have hi := ZD.Ye h
  have hl := YS hi
  have key : ∀ m v l, (∀ x ∈ l, Sm n x) -> l.length <= v -> v <= a0.ZC.length -> (Kx a0 a1 m v l).length <= a0.ZC.length /\ ∀ x ∈ Kx a0 a1 m v l, Sm n x := by
    intro m
    induction m with
    | zero => intro v l _ _ _; exact ⟨Nat.zero_le _, fun x hx => zBp⟩
    | succ m ih =>
      intro v l hs hl hv
      rw [Kx]
      let p := fun w : List ZQ => w.length <= a0.ZC.length /\ ∀ x ∈ w, Sm n x
      refine Z4 (p := p) (fun hc => ?_) (fun _ => ⟨zAA, hs⟩)
      have hc : v < a0.ZC.length := zBG
      refine Zi (p := p) (ih _ _ (fun x hx => ?_) zAk hc) (ih _ _ hs zAA hc)
      rcases List.mem_append.1 hx with hx | hx
      · exact hs x hx
      · have e := List.mem_singleton.1 hx
        subst e
        exact Zp hi
  unfold z6
  obtain ⟨k1, k2⟩ := key (a0.ZC.length + 1) 0 [] (fun x hx => zBp) (Nat.zero_le _) (Nat.zero_le _)
  refine Zi (p := fun w : ZD × Bool => Sm n w.1) h ?_
  exact ⟨by dsimp only; omega, k2⟩
theorem Y2 (h : Sm n a0) : Sm n (YA a0 a1).1 := by
  refine Zi (p := fun w : ZF × Bool => Sm n w.1) h ?_
  exact ⟨h.1, h.2⟩
theorem IB (h : Sm n a0) : Sm n (QJ a0 a1).1 := by
  refine Zi (p := fun w : ZF × Bool => Sm n w.1) h ?_
  exact ⟨h.1, h.2.1, PD h.2.2.1 trivial, h.2.2.2⟩
theorem Fj {a2 : Int} {a3 : ZN} (h : Sm n a0) (hd : Sm n a3) (hn : 9 <= n) : Sm (n + 1) (JY a0 a1 a2 a3 a4 a5).1 :=
  Zi (p := fun w : ZF × Bool => Sm (n + 1) w.1) (ZM (Nat.le_succ n) h) (zA h hd hn)
theorem NQ (a0 : ZF) (a1 a2 : Int) (a3 : ZN) (a4 a5 : Int) : (XJ a0 a1 a2 a3 a4 a5).1.YE = a0.YE := by
  have key : ∀ m v r, Qv a0 a1 a2 a3 a4 a5 m v = .inl r -> r.1.YE = a0.YE := by
    intro m
    induction m with
    | zero => intro v r h; cases h
    | succ m ih =>
      intro v r h
      unfold Qv at h
      grind
  unfold XJ
  grind
theorem Gc {a2 : Int} {a3 : ZN} (h : Sm n a0) (hd : Sm n a3) (hn : 9 <= n) : Sm (n + 1) (JI a0 a1 a2 a3).1 := by
  unfold JI
  have hs : Sm (n + 1) (XJ a0 a1 a2 a3 0 10000).1 := zA h hd hn
  refine Zi (p := fun w : ZF × Bool => Sm (n + 1) w.1) (ZM (Nat.le_succ n) h) (Zi (p := fun w : ZF × Bool => Sm (n + 1) w.1) ?_ hs)
  refine ⟨hs.1, hs.2.1, hs.2.2.1, hs.2.2.2.1, hs.2.2.2.2.1, hs.2.2.2.2.2.1, ⟨?_, fun _ _ => trivial⟩⟩
  show (_ ++ [a0.Next]).length <= n + 1
  rw [NQ]
  have := YS (ZF.LR h)
  simp; omega
theorem Fi {a0 : ZU} {a1 : ZT} (h : Sm n a0) (hp : Sm (n + 1) a1) : Sm (n + 1) (JD a0 a1).1 := by
  have h1 : Sm (n + 1) a0 := ZM (Nat.le_succ n) h
  refine Zi (p := fun w : ZU × Bool => Sm (n + 1) w.1) h1 ?_
  refine ⟨⟨?_, fun x hx => ?_⟩, h1.2⟩
  · have := h.1.1; simp; omega
  · rcases List.mem_append.1 hx with hx | hx
    · exact h1.1.2 x hx
    · have e := List.mem_singleton.1 hx; subst e; exact hp
theorem Sv {a0 : ZU} {a1 : ZZ} (h : Sm n a0) (hp : Sm (n + 1) a1) : Sm (n + 1) (Yz a0 a1).1 := by
  have h1 : Sm (n + 1) a0 := ZM (Nat.le_succ n) h
  refine Zi (p := fun w : ZU × Bool => Sm (n + 1) w.1) h1 ?_
  refine ⟨h1.1, ⟨?_, fun x hx => ?_⟩⟩
  · have := h.2.1; simp; omega
  · rcases List.mem_append.1 hx with hx | hx
    · exact h1.2.2 x hx
    · have e := List.mem_singleton.1 hx; subst e; exact hp
theorem Gh {a0 : ZD} {a2 : ZT} (h : Sm n a0) (hp : Sm (n + 1) a2) : Sm (n + 1) (Xc a0 a1 a2).1 := by
  have h1 : Sm (n + 1) a0 := ZM (Nat.le_succ n) h
  refine Zi (p := fun w : ZD × Bool => Sm (n + 1) w.1) h1 ?_
  refine PD (ZD.Ye h1) ?_
  have hi : Sm n (nth a0.ZC (ZW a0 a1).toNat) := Zp (ZD.Ye h)
  exact ⟨(ZM (Nat.le_succ n) hi).1, Fi hi.2 hp⟩
theorem Oj {x : ZD} (h : Sm n a0) (hx : Sm n x) : Sm n (ZF.mk a0.Frame a0.ZY a0.Zx (a0.ZA.set i x) a0.Yt a0.YO a0.Next a0.YE) :=
  ⟨h.1, h.2.1, h.2.2.1, PD h.2.2.2.1 hx, h.2.2.2.2⟩
theorem TN {a2 : Int} {a3 : Zn} (h : Sm n a0) (hn : 5 <= n) : Sm (n + 1) (Qb a0 a1 a2 a3).1 := by
  have h1 : Sm (n + 1) a0 := ZM (Nat.le_succ n) h
  refine Zi (p := fun w : ZF × Bool => Sm (n + 1) w.1) h1 ?_
  exact Oj h1 (Gh (Zp (ZF.Yn h)) (Tn zAA))
theorem L7 (h : Sm n a0) (hn : 5 <= n) : Sm (n + 1) (Qy a0 a1).1 := by
  have h1 : Sm (n + 1) a0 := ZM (Nat.le_succ n) h
  let p := fun w : ZF × Bool => Sm (n + 1) w.1
  exact Zi (p := p) h1 (Zi (p := p) h1 (Zi (p := p) (TN h hn) (TN h hn)))
theorem F6 {a2 : Int} (h : Sm n a0) (hn : 5 <= n) : Sm (n + 1) (J6 a0 a1 a2).1 := by
  have h1 : Sm (n + 1) a0 := ZM (Nat.le_succ n) h
  exact Zi (p := fun w : ZF × Bool => Sm (n + 1) w.1) h1 (TN h hn)
theorem Ir {a0 : ZD} (h : Sm n a0) : Sm n (Ky a0 a1).1 := by
  have hi := ZD.Ye h
  have key : ∀ m v l, (∀ x ∈ l, Sm n x) -> l.length <= v -> v <= a0.ZC.length -> (QP a0 a1 m v l).length <= a0.ZC.length /\ ∀ x ∈ QP a0 a1 m v l, Sm n x := by
    intro m
    induction m with
    | zero => intro v l _ _ _; exact ⟨Nat.zero_le _, fun x hx => zBp⟩
    | succ m ih =>
      intro v l hs hl hv
      rw [QP]
      let p := fun w : List ZQ => w.length <= a0.ZC.length /\ ∀ x ∈ w, Sm n x
      refine Z4 (p := p) (fun hc => ?_) (fun _ => ⟨zAA, hs⟩)
      have hc : v < a0.ZC.length := zBG
      refine Zi (p := p) (ih _ _ (fun x hx => ?_) zAk hc) (ih _ _ hs zAA hc)
      rcases List.mem_append.1 hx with hx | hx
      · exact hs x hx
      · have e := List.mem_singleton.1 hx
        subst e
        exact Zp hi
  obtain ⟨k1, k2⟩ := key (a0.ZC.length + 1) 0 [] (fun x hx => zBp) (Nat.zero_le _) (Nat.zero_le _)
  have := YS hi
  exact ⟨by show (QP a0 a1 (a0.ZC.length + 1) 0 []).length <= n; omega, k2⟩
theorem Is (h : Sm n a0) : Sm n (Qw a0 a1).1 :=
  Zi (p := fun w : ZF × Bool => Sm n w.1) h (Oj h (Ir (Zp (ZF.Yn h))))
theorem Mb {a0 : ZD} {a2 : List Zj} (h : Sm n a0) (hp : Sm n a2) (hn : 17 <= n) : Sm (n + 1) (XB a0 a1 a2).1 := by
  have h1 : Sm (n + 1) a0 := ZM (Nat.le_succ n) h
  have hi := ZD.Ye h
  have key : ∀ m v l, l.length = a0.ZC.length -> (∀ x ∈ l, Sm (n + 1) x) -> (∀ r, Xr a0 a1 a2 m v l = .inl r -> r = (a0, false)) /\ ∀ z, Xr a0 a1 a2 m v l = .inr z -> z.length <= a0.ZC.length /\ ∀ x ∈ z, Sm (n + 1) x := by
    intro m
    induction m with
    | zero => intro v l _ _; exact ⟨fun r h => zA6, fun z h => zBF⟩
    | succ m ih =>
      intro v l hl hs
      rw [Xr]
      let p := fun w : Sum (ZD × Bool) (List ZQ) => (∀ r, w = .inl r -> r = (a0, false)) /\ ∀ z, w = .inr z -> z.length <= a0.ZC.length /\ ∀ x ∈ z, Sm (n + 1) x
      refine Zi (p := p) (Zi (p := p) ⟨fun r h => zBk, fun z h => zA6⟩ (ih _ _ (by rw [List.length_set]; exact hl) (fun x hx => ?_))) ⟨fun r h => zA6, fun z h => zBn⟩
      rcases List.mem_or_eq_of_mem_set hx with hx | rfl
      · exact hs x hx
      · have hx0 : Sm (n + 1) (nth l v) := by
          by_cases hv : v < l.length
          · have : nth l v = l[v] := by simp [nth, List.getD_eq_getElem?_getD, List.getElem?_eq_getElem hv]
            rw [this]; exact hs _ (List.getElem_mem hv)
          · have : nth l v = default := by simp [nth, List.getD_eq_getElem?_getD, List.getElem?_eq_none (Nat.le_of_not_lt hv)]
            rw [this]; exact Sz.zero _
        have hv : Sm n (nth a0.ZC v) := Zp hi
        refine ⟨hx0.1, Sv hv.2 ?_⟩
        exact ⟨Pu zAA, ZM (Nat.le_succ n) hp⟩
  unfold XB
  refine Zi (p := fun w : ZD × Bool => Sm (n + 1) w.1) h1 ?_
  obtain ⟨k1, k2⟩ := key (a0.ZC.length + 1) 0 a0.ZC rfl (fun x hx => ZM (Nat.le_succ n) (hi.2 x hx))
  cases hh : Xr a0 a1 a2 (a0.ZC.length + 1) 0 a0.ZC with
  | inl r => rw [k1 r hh]; exact h1
  | inr z =>
    obtain ⟨q1, q2⟩ := k2 z hh
    have := YS hi
    exact Zi (p := fun w : ZD × Bool => Sm (n + 1) w.1) h1 ⟨by show z.length <= n + 1; omega, q2⟩
theorem Ti {n : Nat} {a0 : ZF} {a1 : Int} {a2 : List Int} {a3 : Int} : ∀ (m : Nat) (l : List Zj) (v : Nat) (q : List Int), l.length <= v -> v <= a2.length ->
    (∀ r, XY a0 a1 a2 a3 m l v q = .inl r -> r = (a0, false)) /\ ∀ z, XY a0 a1 a2 a3 m l v q = .inr z -> z.1.length <= a2.length /\ z.2.length <= q.length
  | 0, _, _, _, _, _ => ⟨fun r h => zA6, fun z h => (by cases h; exact ⟨Nat.zero_le _, Nat.zero_le _⟩)⟩
  | m + 1, l, v, q, hl, hv => by
    rw [XY]
    let p := fun w : Sum (ZF × Bool) (List Zj × List Int) => (∀ r, w = .inl r -> r = (a0, false)) /\ ∀ z, w = .inr z -> z.1.length <= a2.length /\ z.2.length <= q.length
    have bad : p (.inl (a0, false)) := ⟨fun r h => zBk, fun z h => zA6⟩
    refine Z4 (p := p) (fun hc => ?_) (fun _ => ⟨fun r h => zA6, fun z h => (by cases h; exact ⟨Nat.le_trans hl hv, Nat.le_refl _⟩)⟩)
    have hc : v < a2.length := zBG
    have step : ∀ x i y, p (XY a0 a1 a2 a3 m (l ++ [x]) (v + 1) (q.set i y)) := fun x i y => by
      obtain ⟨k1, k2⟩ := Ti (n := n) (a0 := a0) (a1 := a1) (a2 := a2) (a3 := a3) m (l ++ [x]) (v + 1) (q.set i y) zAk hc
      grind
    grind
theorem JL (h : Sm n a0) (h2 : Sm n a2) (hn : 17 <= n) : Sm (n + 1) (Ym a0 a1 a2 a3).1 := by
  have h1 : Sm (n + 1) a0 := ZM (Nat.le_succ n) h
  unfold Ym
  refine Zi (p := fun w : ZF × Bool => Sm (n + 1) w.1) h1 ?_
  obtain ⟨k1, k2⟩ := Ti (n := n) (a0 := a0) (a1 := a1) (a2 := a2) (a3 := a3) (a2.length + 1) [] 0 a0.Yt (Nat.zero_le _) (Nat.zero_le _)
  cases hh : XY a0 a1 a2 a3 (a2.length + 1) [] 0 a0.Yt with
  | inl r => rw [k1 r hh]; exact h1
  | inr z =>
    obtain ⟨q1, q2⟩ := k2 z hh
    obtain ⟨z0, z1⟩ := z
    have e2 := YS h2
    have e3 := YS (ZF.wm h)
    have hs : Sm n z0 := ⟨by simp only at q1; omega, fun _ _ => trivial⟩
    refine Zi (p := fun w : ZF × Bool => Sm (n + 1) w.1) h1 ?_
    exact ⟨h1.1, h1.2.1, h1.2.2.1, PD h1.2.2.2.1 (Mb (Zp (ZF.Yn h)) hs hn), ⟨by simp only at q2 ⊢; omega, fun _ _ => trivial⟩, h1.2.2.2.2.2⟩
theorem N0 {a0 : ZD} {a1 : YZ} {a2 : Int} (h : Sm n a0) (hp : Sm n a1) : Sm (n + a1.ZC.length) (XE a0 a1 a2).1 := by
  have h1 : Sm (n + a1.ZC.length) a0 := ZM (Nat.le_add_right _ _) h
  have key : ∀ m v d l, Sm (n + v) (ZD.mk d l) -> v <= a1.ZC.length -> (∀ r, X8 a0 a1 m v d l = .inl r -> r = (a0, false)) /\ ∀ z, X8 a0 a1 m v d l = .inr z -> Sm (n + a1.ZC.length) (ZD.mk z.1 z.2) := by
    intro m
    induction m with
    | zero => intro v d l _ _; exact ⟨fun r h => zA6, fun z h => (by cases h; exact y9)⟩
    | succ m ih =>
      intro v d l hs hv
      rw [X8]
      let p := fun w : Sum (ZD × Bool) (Int × List ZQ) => (∀ r, w = .inl r -> r = (a0, false)) /\ ∀ z, w = .inr z -> Sm (n + a1.ZC.length) (ZD.mk z.1 z.2)
      refine Z4 (p := p) (fun hc => ?_) (fun _ => ⟨fun r h => zA6, fun z h => (by cases h; exact ZM (Nat.add_le_add_left hv n) hs)⟩)
      have hc : v < a1.ZC.length := zBG
      exact Zi (p := p) ⟨fun r h => zBk, fun z h => zA6⟩ (ih _ _ _ (T9 hs (ZM (Nat.le_succ_of_le (Nat.le_add_right n v)) (Zp (YZ.Ye hp)))) hc)
  unfold XE
  refine Zi (p := fun w : ZD × Bool => Sm (n + a1.ZC.length) w.1) h1 ?_
  obtain ⟨k1, k2⟩ := key (a1.ZC.length + 1) 0 a0.Id a0.ZC h (Nat.zero_le _)
  grind
theorem My {a0 : ZD} (h : Sm n a0) : (Y1 a0 a1 a2 a3).1.ZC.length <= a2.length := by
  unfold Y1
  obtain ⟨k1, k2⟩ := kY (a2 := a2) h (a2.length + 1) 0 [] (fun x hx => zBp) (Nat.zero_le _) (Nat.zero_le _)
  grind
theorem H0 {a0 a1 : ZD} (hb : n <= 9223372036854775807) (h0 : Sm n a0) (h1 : Sm n a1) (h2 : Sm n a2) : Sm n (Y0 a0 a1 a2 a3).1 /\ Sm (n + a2.length) (Y0 a0 a1 a2 a3).2.1 := by
  have hto : Sm (n + a2.length) (XE a1 (Y1 a0 a1.Id a2 a3).1 a3).1 :=
    ZM (Nat.add_le_add_left (My h0) n) (N0 h1 (Wz h0 h2))
  have bad : Sm n a0 /\ Sm (n + a2.length) a1 := ⟨h0, ZM (Nat.le_add_right _ _) h1⟩
  have key : ∀ m v d l, Sm n (ZD.mk d l) -> (∀ r, QT a0 a1 a2 m v d l = .inl r -> r = (a0, a1, false)) /\ ∀ z, QT a0 a1 a2 m v d l = .inr z -> Sm n (ZD.mk z.1 z.2) := by
    intro m
    induction m with
    | zero => intro v d l _; exact ⟨fun r h => zA6, fun z h => (by cases h; exact y9)⟩
    | succ m ih =>
      intro v d l hs
      rw [QT]
      let p := fun w : Sum (ZD × ZD × Bool) (Int × List ZQ) => (∀ r, w = .inl r -> r = (a0, a1, false)) /\ ∀ z, w = .inr z -> Sm n (ZD.mk z.1 z.2)
      exact Zi (p := p) (Zi (p := p) ⟨fun r h => zBk, fun z h => zA6⟩ (ih _ _ _ (Te hb hs))) ⟨fun r h => zA6, fun z h => (by cases h; exact hs)⟩
  unfold Y0
  let p := fun w : ZD × ZD × Bool => Sm n w.1 /\ Sm (n + a2.length) w.2.1
  refine Zi (p := p) bad ?_
  obtain ⟨k1, k2⟩ := key (a2.length + 1) 0 a0.Id a0.ZC h0
  grind
theorem EO {a2 : Int} (hb : n <= 9223372036854775807) (h : Sm n a0) (hn : 1 <= n) : Sm (n + 1) (J8 a0 a1 a2 a3).1 := by
  have h1 : Sm (n + 1) a0 := ZM (Nat.le_succ n) h
  have hm := H0 (a0 := nth a0.ZA a1.toNat) (a1 := nth a0.ZA a2.toNat) (a2 := [a3]) (a3 := ZO a0.Frame.Methods a0.Frame.Now) hb (Zp (ZF.Yn h)) (Zp (ZF.Yn h)) ⟨hn, fun _ _ => trivial⟩
  let p := fun w : ZF × Bool => Sm (n + 1) w.1
  exact Zi (p := p) h1 (Zi (p := p) ⟨h1.1, h1.2.1, h1.2.2.1, PD (PD h1.2.2.2.1 (ZM (Nat.le_succ n) hm.1)) hm.2, h1.2.2.2.2⟩ h1)
theorem qu {a0 : ZF} {a1 a2 : Int} : ∀ (m v : Nat) (l : List Zj), (∀ r, XG a0 a1 a2 m v l = .inl r -> r = (a0, false)) /\ ∀ z, XG a0 a1 a2 m v l = .inr z -> z.length <= l.length + ((Zm a0).length - v)
  | 0, v, l => ⟨fun r h => zA6, fun z h => (by cases h; exact Nat.zero_le _)⟩
  | m + 1, v, l => by
    rw [XG]
    let p := fun w : Sum (ZF × Bool) (List Zj) => (∀ r, w = .inl r -> r = (a0, false)) /\ ∀ z, w = .inr z -> z.length <= l.length + ((Zm a0).length - v)
    refine Z4 (p := p) (fun hc => ?_) (fun _ => ⟨fun r h => zA6, fun z h => (by cases h; exact Nat.le_add_right _ _)⟩)
    have hc : v < (Zm a0).length := zBG
    refine Zi (p := p) ⟨fun r h => zBk, fun z h => zA6⟩ ?_
    obtain ⟨k1, k2⟩ := qu (a0 := a0) (a1 := a1) (a2 := a2) m (v + 1) (l ++ [(Xb a0.Frame.Zo a0.Frame.ZB (Zj.mk (nth (Zm a0) v) 0 a2 (Qx (nth (nth a0.ZA (ZL a0 a1).1.toNat).ZC (ZL a0 a1).2.toNat) (ZO a0.Frame.Methods a0.Frame.Now)) 0)).1])
    grind
theorem NN {a2 : Int} (h : Sm n a0) : Sm (n + 1) (Xs a0 a1 a2).1 := by
  have h1 : Sm (n + 1) a0 := ZM (Nat.le_succ n) h
  unfold Xs
  refine Zi (p := fun w : ZF × Bool => Sm (n + 1) w.1) h1 ?_
  obtain ⟨k1, k2⟩ := qu (a0 := a0) (a1 := a1) (a2 := a2) ((Zm a0).length + 1) 0 []
  cases hh : XG a0 a1 a2 ((Zm a0).length + 1) 0 [] with
  | inl r => rw [k1 r hh]; exact h1
  | inr z =>
    have hz := k2 z hh
    have hf := Jl a0
    have ha := YS (ZX.XN (ZF.Y7 h))
    rw [List.length_nil] at hz
    have hA : Sm n (nth a0.ZA (ZL a0 a1).1.toNat) := Zp (ZF.Yn h)
    have hI : Sm n (nth (nth a0.ZA (ZL a0 a1).1.toNat).ZC (ZL a0 a1).2.toNat) := Zp (ZD.Ye hA)
    refine Oj h1 (PD (ZD.Ye (ZM (Nat.le_succ n) hA)) ⟨(ZM (Nat.le_succ n) hI).1, Sv hI.2 ?_⟩)
    exact ⟨y9, ⟨by show z.length <= n + 1; omega, fun _ _ => trivial⟩⟩
theorem Qt {a1 : Zs} (hb : n <= 9223372036854775807) (h : Sm n a0) (he : Sm n a1) (hn : 17 <= n) : Sm (n + 1) (Yg a0 a1).1 := by
  have h1 : Sm (n + 1) a0 := ZM (Nat.le_succ n) h
  have up : ∀ w : ZF, Sm n w -> Sm (n + 1) w := fun w hw => ZM (Nat.le_succ n) hw
  unfold Yg
  let p := fun w : ZF × Bool => Sm (n + 1) w.1
  exact Zi (p := p) (up _ (Y2 h)) (Zi (p := p) (Fj h he.1 zAA) (Zi (p := p) (L7 h zAA) (Zi (p := p) (up _ (IB h)) (Zi (p := p) (JL h he.2 hn) (Zi (p := p) (EO hb h zAA) (Zi (p := p) (up _ (Is h))
    (Zi (p := p) (Gc h he.1 zAA) (Zi (p := p) (NN h) (Zi (p := p) (F6 h zAA) h1)))))))))
theorem zI (c : YD) : (Zw c).2.length = 10 := by simp [Zw]
theorem Po (h : 4 <= n) : Sm n YK := ⟨h, fun _ _ => trivial⟩
theorem Dx (h : 4 <= n) : Sm n WC := ⟨h, fun _ _ => trivial⟩
theorem D6 (h : 3 <= n) : Sm n ji := ⟨h, fun _ _ => trivial⟩
theorem Wc (a0 : Int) (a1 : List ByteArray) (a2 : Int) : ∀ (m v : Nat) (l : List Int), (yo a0 a1 a2 m v l).length <= l.length + m
  | 0, _, _ => Nat.zero_le _
  | m + 1, v, l => by
    rw [yo]
    refine Zi (p := fun r : List Int => r.length <= l.length + (m + 1)) ?_ zAA
    have := Wc a0 a1 a2 m (v + 1) (l ++ [xn 1 (yy a2 [a0, v])])
    grind
theorem N4 {a0 : Int} {a1 : List ByteArray} {a2 : Int} (h : Sm n a1) (hn : a1.length + 1 <= n) : Sm n (yT a0 a1 a2).1 := by
  unfold yT
  have := Wc a0 a1 a2 (a1.length + 1) 0 []
  refine Zi (p := fun r : ZN × Bool => Sm n r.1) ⟨Sz.zero n, Sz.zero n⟩ ⟨h, Nat.le_trans this (by simpa using hn), fun _ _ => trivial⟩
theorem OA : ∀ (m : Nat) (l : List ByteArray) (i : Int) (b : List UInt8) (j : Nat) (h : Int), (∀ x ∈ l, x.size <= 11) -> (WE m l i b j h).1.length <= l.length + m /\ ∀ x ∈ (WE m l i b j h).1, x.size <= 11
  | 0, _, _, _, _, _, _ => ⟨Nat.zero_le _, fun x hx => by cases hx⟩
  | m + 1, l, i, b, j, h, hl => by
    rw [WE]
    refine Zi (p := fun r : (List ByteArray) × (List UInt8) × Nat × Int => r.1.length <= l.length + (m + 1) /\ ∀ x ∈ r.1, x.size <= 11) ?_ ⟨by show l.length <= _; omega, hl⟩
    have := OA m (l ++ [(yV (YD.mk b j h)).2]) (W (i - 1)) (yV (YD.mk b j h)).1.b (yV (YD.mk b j h)).1.i (yV (YD.mk b j h)).1.h (fun x hx => by
      rcases List.mem_append.1 hx with hx | hx
      · exact hl x hx
      · rw [List.mem_singleton.1 hx]; exact OP _)
    grind
theorem Lz {a0 : YD} (h : 20 <= n) : Sm n (Xu a0).2 := by
  unfold Xu
  have := OA 5 [] (W (1 + (ZH a0 3).2)) (ZH a0 3).1.b (ZH a0 3).1.i (ZH a0 3).1.h (fun x hx => by cases hx)
  simp only [List.length_nil] at this
  exact N4 ⟨zAA, fun x hx => Nat.le_trans (this.2 x hx) zAA⟩ zAA
theorem FX {a0 : Int} (h : 20 <= n) : Sm n (QD a0) := by
  have hw : ∀ (k : Int) (l : List Int), l.length <= 1 -> Sm n (ZF.mk (ZX.mk yL YK WC k 0) ji ([(-1), (-1), (-1)] : List Int) ([(ZD.mk 0 ([] : List ZQ)), (ZD.mk 1 ([] : List ZQ))] : List ZD) ([0, 0, 0, 0] : List Int) l 1 ([] : List Int)) := fun k l hl => by
    have h1 := Us (n := n) zAA
    have h2 := Po (n := n) zAA
    have h3 := Dx (n := n) zAA
    have h4 := D6 (n := n) zAA
    have h5 : Sm n ([(ZD.mk 0 ([] : List ZQ)), (ZD.mk 1 ([] : List ZQ))] : List ZD) := ⟨by simp; omega, fun y hy => by
      rcases List.mem_cons.1 hy with rfl | hy
      · exact Sz.zero (α := List ZQ) _
      · rw [List.mem_singleton.1 hy]; exact Sz.zero (α := List ZQ) _⟩
    have h6 : ∀ l : List Int, l.length <= 20 -> Sm n l := fun l hl => ⟨zAA, fun _ _ => trivial⟩
    simp only [ZF.U8, ZX.U8]
    grind
  unfold QD
  grind
theorem Tg {a0 : YD} (h : 20 <= n) : Sm n (XP a0 a1).2 := by
  have hd : Sm n (ZN.mk 0 ([] : List ByteArray) ([] : List Int)) := ⟨y9, y9⟩
  have hl : ∀ l : List Int, l.length <= 20 -> Sm n l := fun l hl => ⟨zAA, fun _ _ => trivial⟩
  unfold XP
  let p := fun z : YD × Zs => Sm n z.2
  refine Zi (p := p) (Zi (p := p) (Zi (p := p) ?_ ?_) (Zi (p := p) ?_ ?_)) (Zi (p := p) (Zi (p := p) ?_ ?_) (Zi (p := p) ?_ ?_))
  all_goals exact ⟨hd, hl _ (Nat.le_of_ble_eq_true rfl)⟩
theorem IQ {a0 : YD} (h : 20 <= n) : Sm n (Zw a0).2 := by
  have hd : Sm n (ZN.mk 0 ([] : List ByteArray) ([] : List Int)) := ⟨y9, y9⟩
  have e0 : ∀ a b, Sm n (Zs.mk a b 0 0 0 (ZN.mk 0 ([] : List ByteArray) ([] : List Int)) ([] : List Int)) := fun a b => ⟨hd, y9⟩
  refine ⟨by rw [zI]; omega, ?_⟩
  unfold Zw
  exact MC (MC (MC (all_cons (e0 _ _) (all_cons ⟨Lz h, y9⟩ (all_cons (e0 _ _) (all_cons (e0 _ _) all_nil)))) (all_cons (Tg h) (all_cons (e0 _ _) all_nil))) (all_cons (Tg h) (all_cons (e0 _ _) all_nil))) (all_cons (Tg h) (all_cons (e0 _ _) all_nil))
theorem EB {a0 : YD} (h : 20 <= n) : Sm n (Xj a0).2 := by
  have hd : Sm n (ZN.mk 0 ([] : List ByteArray) ([] : List Int)) := ⟨y9, y9⟩
  have hi : Sm n ([1, 2, 3, 4] : List Int) := ⟨Nat.le_trans zAE h, fun _ _ => trivial⟩
  have hx := fun c => Lz (a0 := c) h
  have L : ∀ (c : YD) (k a b e f : Int) (d : ZN) (ids : List Int), Sm n d -> Sm n ids -> Sm n ((c, Zs.mk k a b e f d ids) : YD × Zs).2 := fun _ _ _ _ _ _ _ _ h1 h2 => ⟨h1, h2⟩
  unfold Xj
  generalize ZH a0 16 = q
  iterate 13 (refine Zi (p := fun z : YD × Zs => Sm n z.2) ?_ ?_; (first | with_reducible exact L _ _ _ _ _ _ _ _ hd y9 | with_reducible exact L _ _ _ _ _ _ _ _ (hx _) y9))
  exact L _ _ _ _ _ _ _ _ hd (wx (sk hi))
theorem Uf {p : Zs -> Prop} (hp : ∀ c, p (Xj c).2) : ∀ (m : Nat) (l : List Zs) (k : Int) (b : List UInt8) (i : Nat) (h : Int), (∀ x ∈ l, p x) -> ∀ x ∈ (K8 m l k b i h).1, p x
  | 0, _, _, _, _, _, _ => all_nil
  | m + 1, l, k, b, i, h, hl => by
    rw [K8]
    exact Zi (p := fun z : (List Zs) × (List UInt8) × Nat × Int => ∀ x ∈ z.1, p x) (Uf hp m _ _ _ _ _ (MC hl (all_cons (hp _) all_nil))) hl
theorem U3 {p : Zs -> Prop} (hp : ∀ c, p (Xj c).2) : ∀ (m : Nat) (l : List Zs) (k : Int) (b : List UInt8) (i : Nat) (h : Int), (∀ x ∈ l, p x) -> ∀ x ∈ (zF m l k b i h).1, p x
  | 0, _, _, _, _, _, _ => all_nil
  | m + 1, l, k, b, i, h, hl => by
    rw [zF]
    exact Zi (p := fun z : (List Zs) × (List UInt8) × Nat × Int => ∀ x ∈ z.1, p x) (U3 hp m _ _ _ _ _ (MC hl (all_cons (hp _) all_nil))) hl
theorem UD : ∀ (m : Nat) (l : List Zs) (k : Int) (b : List UInt8) (i : Nat) (h : Int), k <= 16777215 -> (K8 m l k b i h).1.length <= l.length + k.toNat
  | 0, _, _, _, _, _, _ => Nat.zero_le _
  | m + 1, l, k, b, i, h, hk => by
    rw [K8]
    by_cases hc : k > 0
    · rw [decide_eq_true hc, Xd]
      have hw : W (k - 1) = k - 1 := zBB
      have := UD m (l ++ [(Xj (YD.mk b i h)).2]) (W (k - 1)) (Xj (YD.mk b i h)).1.b (Xj (YD.mk b i h)).1.i (Xj (YD.mk b i h)).1.h zAA
      grind
    · rw [decide_eq_false hc, Xa]
      exact Nat.le_add_right _ _
theorem UK : ∀ (m : Nat) (l : List Zs) (k : Int) (b : List UInt8) (i : Nat) (h : Int), k <= 16777215 -> (zF m l k b i h).1.length <= l.length + k.toNat
  | 0, _, _, _, _, _, _ => Nat.zero_le _
  | m + 1, l, k, b, i, h, hk => by
    rw [zF]
    by_cases hc : k > 0
    · rw [decide_eq_true hc, Xd]
      have hw : W (k - 1) = k - 1 := zBB
      have := UK m (l ++ [(Xj (YD.mk b i h)).2]) (W (k - 1)) (Xj (YD.mk b i h)).1.b (Xj (YD.mk b i h)).1.i (Xj (YD.mk b i h)).1.h zAA
      grind
    · rw [decide_eq_false hc, Xa]
      exact Nat.le_add_right _ _
theorem GR {a0 : YD} (h : 40 <= n) (h0 : 0 < a1) (h1 : a1 <= 20) : Sm n (je a0 a1).2 := by
  have hp := fun c => EB (n := n) (a0 := c) zAA
  have hc := IQ (n := n) (a0 := (YB a0 2).1) zAA
  have hl := zI (YB a0 2).1
  unfold je
  generalize YB a0 2 = q at hc hl ⊢
  generalize Zw q.1 = r at hc hl ⊢
  generalize ZH r.1 (W ((r.2.length : Int) + 1)) = t
  have z1 := Qn t.1 a1
  have z2 := Qn q.1 a1
  generalize ZH t.1 a1 = u at z1 ⊢
  generalize ZH q.1 a1 = v at z2 ⊢
  have k1 := Uf hp (u.2.toNat + 2) (r.2.take t.2.toNat) u.2 u.1.b u.1.i u.1.h (wx hc).2
  have k2 := UD (u.2.toNat + 2) (r.2.take t.2.toNat) u.2 u.1.b u.1.i u.1.h zAA
  have k3 := U3 hp (v.2.toNat + 2) [] v.2 v.1.b v.1.i v.1.h all_nil
  have k4 := UK (v.2.toNat + 2) [] v.2 v.1.b v.1.i v.1.h zAA
  rw [List.length_take, hl] at k2
  rw [List.length_nil] at k4
  generalize K8 (u.2.toNat + 2) (r.2.take t.2.toNat) u.2 u.1.b u.1.i u.1.h = y at k1 k2 ⊢
  generalize zF (v.2.toNat + 2) [] v.2 v.1.b v.1.i v.1.h = z at k3 k4 ⊢
  obtain ⟨y1, y2, y3, y4⟩ := y
  obtain ⟨w1, w2, w3, w4⟩ := z
  dsimp only at k1 k2 k3 k4 ⊢
  have k5 : y1.length <= n := zAA
  have k6 : w1.length <= n := zAA
  exact Zi (p := fun z : YD × (List Zs) => Sm n z.2) ⟨k5, k1⟩ ⟨k6, k3⟩
theorem Z7 {a0 : List UInt8} (h : 40 <= n) : Sm n (Zb a0).1 /\ Sm n (Zb a0).2 := by
  have k := FX (n := n) (a0 := (ZH (VE a0) 2).2) zAA
  have k2 := GR (n := n) (a0 := (ZH (VE a0) 2).1) (a1 := 12) h zAE zAE
  unfold Zb
  grind
theorem Kg (a0 : ZX) : ∀ (m : Nat) (l : List Int) (v : Nat), a0.ZB.length < m + v -> v <= a0.ZB.length -> l.length <= v -> (X3 a0 m l v).length <= a0.ZB.length
  | 0, l, v, h, hv, hl => zAA
  | m + 1, l, v, h, hv, hl => by
    rw [X3]
    refine Z4 (p := fun z : List Int => z.length <= a0.ZB.length) (fun hc => ?_) (fun _ => zAA)
    have lH : v < a0.ZB.length := zBG
    refine Zi (p := fun z : List Int => z.length <= a0.ZB.length) (Kg a0 m _ (v + 1) zAA lH zAA) ?_
    refine Zi (p := fun z : List Int => z.length <= a0.ZB.length) (Kg a0 m _ (v + 1) zAA lH (by rw [List.length_append, List.length_singleton]; omega)) (Kg a0 m _ (v + 1) zAA lH zAA)
theorem S8 (a0 : ZX) : (YG a0).length <= a0.ZB.length :=
  Kg a0 (a0.ZB.length + 1) [] 0 zAA (Nat.zero_le _) (Nat.zero_le _)
theorem Xh {a0 : ZX} (h : Sm n a0) : Sm n (YG a0) := by
  have k := S8 a0
  have k2 := YS (ZX.XN h)
  exact ⟨zAA, fun _ _ => trivial⟩
end Go.Mo
