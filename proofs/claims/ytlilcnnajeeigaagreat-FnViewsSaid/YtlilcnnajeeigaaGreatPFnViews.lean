/- The plain law of FnViews: a view of an archive tells every item, and a view of a redacted document has one star for each hidden part. No condition. -/
import Derived.Test.YtlilcnnajeeigaaGreatL
namespace Go.Mo
open Go.Vm
set_option linter.unusedSimpArgs false
set_option linter.unusedVariables false
/- the view of an archive -/
theorem WA (l : List ByteArray) (b : ByteArray) : ∀ (n : Nat) (acc : ByteArray) (v : Nat), l.length < n + v -> v <= l.length -> acc.size <= (XN l b n acc v).size /\ ∀ i, v <= i -> i < l.length -> (nth l i).size <= (XN l b n acc v).size
  | 0, acc, v, h, hv => by omega
  | n + 1, acc, v, h, hv => by
    rw [XN]
    by_cases wN : v < l.length
    · rw [show decide ((v : Int) < (l.length : Int)) = true by simpa using wN, zS]
      have key : ∀ x : ByteArray, acc.size <= x.size -> (nth l v).size <= x.size -> acc.size <= (XN l b n x (v + 1)).size /\ ∀ i, v <= i -> i < l.length -> (nth l i).size <= (XN l b n x (v + 1)).size := by
        intro x h1 h2
        obtain ⟨k1, k2⟩ := WA l b n x (v + 1) (by omega) wN
        refine ⟨Nat.le_trans h1 k1, fun i hi ph => ?_⟩
        by_cases e : i = v
        · subst e; exact Nat.le_trans h2 k1
        · exact k2 i (by omega) ph
      exact ZR (p := fun r : ByteArray => acc.size <= r.size /\ ∀ i, v <= i -> i < l.length -> (nth l i).size <= r.size) (key _ (by simp only [ByteArray.size_append]; omega) (by simp only [ByteArray.size_append]; omega)) (key _ (by simp only [ByteArray.size_append]; omega) (by simp only [ByteArray.size_append]; omega))
    · rw [show decide ((v : Int) < (l.length : Int)) = false by simpa using wN, Qi]
      exact ⟨Nat.le_refl _, fun i h1 h2 => by omega⟩
theorem Px (x b : ByteArray) : Kz [x] b = x := by
  have e : ∀ x : ByteArray, (⟨#[]⟩ : ByteArray) ++ x = x := fun x => ByteArray.empty_append
  show XN [x] b 2 (⟨#[]⟩ : ByteArray) 0 = x
  rw [XN]
  rw [show (bif (decide (((0 : Nat) : Int) < (([x] : List ByteArray).length : Int))) then (bif (decide (((0 : Nat) : Int) > 0)) then XN [x] b 1 (((⟨#[]⟩ : ByteArray) ++ b) ++ (nth [x] 0)) (0 + 1) else XN [x] b 1 ((⟨#[]⟩ : ByteArray) ++ (nth [x] 0)) (0 + 1)) else (⟨#[]⟩ : ByteArray)) = XN [x] b 1 ((⟨#[]⟩ : ByteArray) ++ x) 1 from rfl, e, XN]
  rfl
theorem Tq (l : List ByteArray) (b : ByteArray) : Kz l b = XN l b (l.length + 1) (⟨#[]⟩ : ByteArray) 0 := rfl
theorem TC (f : ZW) (a : Zf) : ∀ (n : Nat) (acc : List ByteArray) (v : Nat), a.Zl.length < n + v -> v <= a.Zl.length -> acc.length = v -> (∀ i, i < v -> nth acc i = Yq f (nth a.Zl i)) ->
    (QB f a n acc v).length = a.Zl.length /\ ∀ i, i < a.Zl.length -> nth (QB f a n acc v) i = Yq f (nth a.Zl i)
  | 0, acc, v, h, hv, _, _ => by omega
  | n + 1, acc, v, h, hv, hl, hi => by
    rw [QB]
    by_cases wN : v < a.Zl.length
    · rw [show decide ((v : Int) < (a.Zl.length : Int)) = true by simpa using wN, zS]
      refine TC f a n _ (v + 1) (by omega) wN (by rw [List.length_append, List.length_singleton, hl]) (fun i h1 => ?_)
      by_cases e : i < v
      · rw [<- hi i e]; unfold nth; rw [List.getD_eq_getElem?_getD, List.getElem?_append_left (by omega), <- List.getD_eq_getElem?_getD]
      · have e : i = v := by omega
        subst e
        unfold nth; rw [List.getD_eq_getElem?_getD, List.getElem?_append_right (by omega), hl]; simp
    · rw [show decide ((v : Int) < (a.Zl.length : Int)) = false by simpa using wN, Qi]
      exact ⟨by omega, fun i h1 => hi i (by omega)⟩
theorem P2 (f : ZW) (a : Zf) : ∃ l : List ByteArray, Yy f a = kc l (⟨#[59, 32]⟩ : ByteArray) /\ l.length = a.Zl.length /\ ∀ i, i < a.Zl.length -> nth l i = Yq f (nth a.Zl i) := by
  have h := TC f a (a.Zl.length + 1) [] 0 (by omega) (Nat.zero_le _) rfl (fun i h => by omega)
  exact ⟨_, rfl, h⟩
theorem HH (f : ZW) (x : Zp) : 2 <= (Yq f x).size := by
  unfold Yq
  have h1 : (⟨#[35]⟩ : ByteArray).size = 1 := rfl
  have h2 : (⟨#[32, 107]⟩ : ByteArray).size = 2 := rfl
  simp only [ByteArray.size_append]
  omega
theorem IX (f : ZW) (a : Zf) : (decide (Yy f a = (⟨#[45]⟩ : ByteArray)) == ((a.Zl.length : Int) == 0)) = true := by
  obtain ⟨l, e, hl, hi⟩ := P2 f a
  rw [e]
  unfold kc
  by_cases h0 : a.Zl.length = 0
  · have e1 : ((l.length : Int) == 0) = true := by rw [hl, h0]; rfl
    have e2 : ((a.Zl.length : Int) == 0) = true := by rw [h0]; rfl
    rw [e1, e2, zS]; simp
  · have e1 : ((l.length : Int) == 0) = false := by rw [hl]; simp; exact fun hh => h0 (by rw [hh]; rfl)
    have e2 : ((a.Zl.length : Int) == 0) = false := by rw [<- hl]; exact e1
    rw [e1, e2, Qi]
    have h1 := (WA l (⟨#[59, 32]⟩ : ByteArray) (l.length + 1) (⟨#[]⟩ : ByteArray) 0 (by omega) (Nat.zero_le _)).2 0 (Nat.le_refl _) (by omega)
    rw [hi 0 (by omega)] at h1
    have h2 := HH f (nth a.Zl 0)
    have h3 : Kz l (⟨#[59, 32]⟩ : ByteArray) ≠ (⟨#[45]⟩ : ByteArray) := by
      intro hh
      have h4 : (Kz l (⟨#[59, 32]⟩ : ByteArray)).size = 1 := by rw [hh]; rfl
      rw [Tq] at h4
      omega
    simp [h3]
theorem IZ : ∀ {l : List ByteArray}, l.length = 1 -> l = [nth l 0]
  | [_], _ => rfl
theorem GP (f : ZW) (a : Zf) (v : Nat) (hv : v < a.Zl.length) : ((decide (((Yq f (nth a.Zl v)).size : Int) > ((Yy f a).size : Int))) || (((a.Zl.length : Int) == 1) && (!decide ((Yq f (nth a.Zl v)) = (Yy f a))))) = false := by
  obtain ⟨l, e, hl, hi⟩ := P2 f a
  have e1 : ((l.length : Int) == 0) = false := by
    simp only [beq_eq_false_iff_ne, ne_eq]; omega
  have e3 : Yy f a = Kz l (⟨#[59, 32]⟩ : ByteArray) := by rw [e]; unfold kc; rw [e1, Qi]
  rw [e3]
  have h1 := (WA l (⟨#[59, 32]⟩ : ByteArray) (l.length + 1) (⟨#[]⟩ : ByteArray) 0 (by omega) (Nat.zero_le _)).2 v (Nat.zero_le _) (by omega)
  rw [hi v hv, <- Tq] at h1
  have h2 : decide (((Yq f (nth a.Zl v)).size : Int) > ((Kz l (⟨#[59, 32]⟩ : ByteArray)).size : Int)) = false := by
    simp only [decide_eq_false_iff_not]; omega
  rw [h2, Bool.false_or]
  by_cases h3 : a.Zl.length = 1
  · have rC : v = 0 := by omega
    subst rC
    have h4 : Kz l (⟨#[59, 32]⟩ : ByteArray) = Yq f (nth a.Zl 0) := by
      rw [IZ (l := l) (by omega), Px, hi 0 hv]
    rw [h4, decide_eq_true rfl]
    simp
  · have : ((a.Zl.length : Int) == 1) = false := by
      simp only [beq_eq_false_iff_ne, ne_eq]; omega
    rw [this]; rfl
theorem Lk (a0 : List UInt8) : ∀ n v, xO a0 n v = .inr ()
  | 0, _ => rfl
  | n + 1, v => by
    rw [xO]
    by_cases hv : v < (ZQ a0).2.Zl.length
    · rw [GP _ _ v hv, Qi, Lk a0 n (v + 1)]
      exact ZR (p := fun r : Sum Bool Unit => r = .inr ()) rfl rfl
    · rw [show decide ((v : Int) < ((ZQ a0).2.Zl.length : Int)) = false from decide_eq_false (by omega), Qi]
/- stars -/
def XL (b : ByteArray) : Nat := b.data.toList.count 42
theorem J0 (a b : ByteArray) : XL (a ++ b) = XL a + XL b := by
  unfold XL
  rw [ByteArray.data_append, Array.toList_append, List.count_append]
theorem HY (x y : Int) : W (W x + y) = W (x + y) := by simp only [Yw]; omega
theorem Hx (b : ByteArray) (v : Nat) (wN : v < b.size) : (((bAt b v) : Int) == 42) = true /\ ((b.data.toList.drop v).count 42) = (b.data.toList.drop (v + 1)).count 42 + 1 \/ (((bAt b v) : Int) == 42) = false /\ ((b.data.toList.drop v).count 42) = (b.data.toList.drop (v + 1)).count 42 := by
  have hlen : v < b.data.toList.length := by rw [Array.length_toList]; exact wN
  have hd : b.data.toList.drop v = b.data.toList[v] :: b.data.toList.drop (v + 1) := List.drop_eq_getElem_cons hlen
  have ov : bAt b v = b.data.toList[v].toNat := by unfold bAt; rw [List.getD_eq_getElem?_getD, List.getElem?_eq_getElem hlen]; rfl
  rw [hd, ov]
  generalize b.data.toList[v] = x
  by_cases h42 : x = 42
  · subst h42
    exact Or.inl ⟨by decide, List.count_cons_self⟩
  · refine Or.inr ⟨?_, List.count_cons_of_ne h42⟩
    simp only [beq_eq_false_iff_ne, ne_eq]
    intro hh
    apply h42
    apply UInt8.toNat_inj.1
    have : (42 : UInt8).toNat = 42 := rfl
    omega
theorem Lw (a0 : List UInt8) : ∀ (n : Nat) (x : Int) (v : Nat), (YC (Za a0)).size < n + v -> v <= (YC (Za a0)).size ->
    KY a0 n (W x) v = W (x + (((YC (Za a0)).data.toList.drop v).count 42 : Nat))
  | 0, x, v, h, hv => by omega
  | n + 1, x, v, h, hv => by
    rw [KY]
    have ih := Lw a0 n
    generalize YC (Za a0) = b at h hv ih ⊢
    by_cases wN : v < b.size
    · rw [show decide ((v : Int) < (b.size : Int)) = true from decide_eq_true (by omega), zS]
      rcases Hx b v wN with ⟨h1, h2⟩ | ⟨h1, h2⟩
      · rw [h1, zS, HY, ih _ _ (by omega) wN, h2]
        show W (x + 1 + ((List.count 42 (List.drop (v + 1) b.data.toList) : Nat) : Int)) = W (x + ((List.count 42 (List.drop (v + 1) b.data.toList) + 1 : Nat) : Int))
        congr 1
        omega
      · rw [h1, Qi, ih _ _ (by omega) wN, h2]
    · rw [show decide ((v : Int) < (b.size : Int)) = false from decide_eq_false (by omega), Qi]
      have : b.data.toList.drop v = [] := List.drop_eq_nil_of_le (by rw [Array.length_toList]; show b.size <= v; omega)
      rw [this, List.count_nil]
      congr 1
      omega
/- what is hidden, and what is shown -/
theorem j6 (r : Zi) : ∀ (n : Nat) (x : Int) (v : Nat), r.Shown.length < n + v -> v <= r.Shown.length -> JR r n (W x) v = W (x + ((r.Shown.drop v).count true : Nat))
  | 0, x, v, h, hv => by omega
  | n + 1, x, v, h, hv => by
    rw [JR]
    by_cases wN : v < r.Shown.length
    · rw [show decide ((v : Int) < (r.Shown.length : Int)) = true by simpa using wN, zS, SU wN, List.drop_eq_getElem_cons wN]
      cases hs : r.Shown[v] with
      | true =>
        rw [zS, HY, j6 r n _ (v + 1) (by omega) wN, List.count_cons_self]
        congr 1
        omega
      | false => rw [Qi, j6 r n _ (v + 1) (by omega) wN, List.count_cons_of_ne (by decide)]
    · rw [show decide ((v : Int) < (r.Shown.length : Int)) = false by simpa using wN, Qi, List.drop_eq_nil_of_le (by omega)]
      simp
theorem jJ (r : Zi) (hp : ∀ i, XL (nth r.Zd i) = 0) : ∀ (n : Nat) (acc : ByteArray) (v : Nat), r.Shown.length < n + v -> v <= r.Shown.length -> XL (Ym r n acc v) = XL acc + (r.Shown.drop v).count false
  | 0, acc, v, h, hv => by omega
  | n + 1, acc, v, h, hv => by
    rw [Ym]
    have c1 : XL (⟨#[32, 42]⟩ : ByteArray) = 1 := by decide
    have c2 : XL (⟨#[32, 91]⟩ : ByteArray) = 0 := by decide
    have c3 : XL (⟨#[93]⟩ : ByteArray) = 0 := by decide
    have c4 : XL (⟨#[32, 91, 93]⟩ : ByteArray) = 0 := by decide
    by_cases wN : v < r.Shown.length
    · rw [show decide ((v : Int) < (r.Shown.length : Int)) = true by simpa using wN, zS, SU wN, List.drop_eq_getElem_cons wN]
      cases hs : r.Shown[v] with
      | false =>
        rw [Bool.not_false, zS, jJ r hp n _ (v + 1) (by omega) wN, J0, c1, List.count_cons_self]
        omega
      | true =>
        rw [Bool.not_true, Qi, List.count_cons_of_ne (by decide)]
        refine ZR (p := fun b : ByteArray => XL b = _) ?_ ?_
        · rw [jJ r hp n _ (v + 1) (by omega) wN, J0, J0, J0, c2, c3, hp]
          omega
        · rw [jJ r hp n _ (v + 1) (by omega) wN, J0, c4]
          omega
    · rw [show decide ((v : Int) < (r.Shown.length : Int)) = false by simpa using wN, Qi, List.drop_eq_nil_of_le (by omega)]
      simp
theorem Sy {x : Int} (h1 : 48 <= x) (h2 : x <= 57) : UInt8.ofInt (W x) ≠ 42 := by
  have hw : W x = x := by simp only [Yw]; omega
  rw [hw]
  have : x = 48 \/ x = 49 \/ x = 50 \/ x = 51 \/ x = 52 \/ x = 53 \/ x = 54 \/ x = 55 \/ x = 56 \/ x = 57 := by omega
  rcases this with rfl | rfl | rfl | rfl | rfl | rfl | rfl | rfl | rfl | rfl <;> decide
theorem VV : ∀ (n : Nat) (x : Int) (l : List UInt8), l.count 42 = 0 -> (QO n x l).count 42 = 0
  | 0, _, _, _ => rfl
  | n + 1, x, l, h => by
    rw [QO]
    have hm : (Int.tmod x 10).natAbs < 10 := by rw [Int.natAbs_tmod]; exact Nat.mod_lt _ (by decide)
    have key : ∀ d, d ≠ (42 : UInt8) -> (([d] : List UInt8) ++ l).count 42 = 0 := fun d hd => by
      rw [List.singleton_append, List.count_cons_of_ne hd]; exact h
    refine jV (p := fun r : List UInt8 => r.count 42 = 0) (fun hc => ?_) (fun hc => ?_)
    · have hc : Int.tmod x 10 < 0 := by simpa using hc
      have hw : W (-(Int.tmod x 10)) = -(Int.tmod x 10) := by simp only [Yw]; omega
      have hd : UInt8.ofInt (W (48 + (W (-(Int.tmod x 10))))) ≠ 42 := by rw [hw]; exact Sy (by omega) (by omega)
      exact ZR (p := fun r : List UInt8 => r.count 42 = 0) (key _ hd) (VV n _ _ (key _ hd))
    · have hc : ¬ Int.tmod x 10 < 0 := by simpa using hc
      have hd : UInt8.ofInt (W (48 + Int.tmod x 10)) ≠ 42 := Sy (by omega) (by omega)
      exact ZR (p := fun r : List UInt8 => r.count 42 = 0) (key _ hd) (VV n _ _ (key _ hd))
theorem GA (x : Int) : XL (Y3 x) = 0 := by
  have h := VV 21 x [] rfl
  unfold Y3
  have e : ∀ l : List UInt8, l.count 42 = 0 -> XL (⟨l.toArray⟩ : ByteArray) = 0 := fun l hl => hl
  refine ZR (p := fun b : ByteArray => XL b = 0) ?_ (e _ h)
  rw [J0, e _ h]
  decide
/- what is drawn has no star -/
def Y9 (l : List ByteArray) : Prop := ∀ x ∈ l, XL x = 0
theorem T3 {l : List ByteArray} (h : Y9 l) (i : Nat) : XL (nth l i) = 0 := by
  by_cases hi : i < l.length
  · rw [SU hi]; exact h _ (List.getElem_mem hi)
  · have : nth l i = default := by unfold nth; rw [List.getD_eq_getElem?_getD, List.getElem?_eq_none (by omega)]; rfl
    rw [this]; rfl
theorem T4 {l : List ByteArray} {x : ByteArray} (h : Y9 l) (hx : XL x = 0) : Y9 (l ++ [x]) := fun y hy => by
  rcases List.mem_append.1 hy with hy | hy
  · exact h y hy
  · rw [List.mem_singleton.1 hy]; exact hx
theorem HG (c : ZI) : XL (Xi c).2 = 0 := by
  unfold Xi Wc
  refine T3 (l := ([(⟨#[]⟩ : ByteArray), (⟨#[97]⟩ : ByteArray), (⟨#[98]⟩ : ByteArray), (⟨#[97, 98]⟩ : ByteArray), (⟨#[121, 101, 115]⟩ : ByteArray), (⟨#[110, 111]⟩ : ByteArray), (⟨#[111, 110, 101, 32, 104, 117, 110, 100, 114, 101, 100]⟩ : ByteArray)] : List ByteArray)) ?_ _
  intro x hx
  simp only [List.mem_cons, List.not_mem_nil, or_false] at hx
  rcases hx with rfl | rfl | rfl | rfl | rfl | rfl | rfl <;> decide
theorem Pu : ∀ (m : Nat) (l : List ByteArray) (i : Int) (b : List UInt8) (j : Nat) (h : Int), Y9 l -> Y9 (Xv m l i b j h).1
  | 0, _, _, _, _, _, _ => fun x hx => by cases hx
  | m + 1, l, i, b, j, h, hl => by
    rw [Xv]
    exact ZR (p := fun r : (List ByteArray) × (List UInt8) × Nat × Int => Y9 r.1) (Pu m _ _ _ _ _ (T4 hl (HG _))) hl
theorem FA (c : ZI) : Y9 (Zm c).2.Zd := by
  have h1 := Pu 5 [] (W (1 + (ZA c 3).2)) (ZA c 3).1.b (ZA c 3).1.i (ZA c 3).1.h (fun x hx => by cases hx)
  unfold Zm
  generalize Xv 5 [] (W (1 + (ZA c 3).2)) (ZA c 3).1.b (ZA c 3).1.i (ZA c 3).1.h = z at h1 ⊢
  obtain ⟨z1, z2, z3, z4⟩ := z
  show Y9 (XV (ZA (ZI.mk z2 z3 z4) 5).2 z1 11).1.Zd
  unfold XV
  exact ZR (p := fun r : ZM × Bool => Y9 r.1.Zd) (fun x hx => by cases hx) h1
theorem yJ (a0 : List Int) (d : ZM) (pg : List Int) (hd : Y9 d.Zd) : ∀ (n v : Nat) (s : List Bool) (p : List ByteArray) (t : List Int) (g : List (List Int)), Y9 p -> Y9 (YF a0 d pg n v s p t g).2.1
  | 0, _, _, _, _, _, _ => fun x hx => by cases hx
  | n + 1, v, s, p, t, g, hp => by
    rw [YF]
    refine ZR (p := fun r : (List Bool) × (List ByteArray) × (List Int) × (List (List Int)) => Y9 r.2.1) (ZR (p := fun r : (List Bool) × (List ByteArray) × (List Int) × (List (List Int)) => Y9 r.2.1) ?_ ?_) hp
    · exact yJ a0 d pg hd n (v + 1) _ _ _ _ (T4 hp rfl)
    · exact yJ a0 d pg hd n (v + 1) _ _ _ _ (T4 hp (T3 hd v))
theorem GV {l : List ByteArray} {x : ByteArray} (h : Y9 l) (hx : XL x = 0) : Y9 (l.set 0 x) := fun y hy => by
  rcases List.mem_or_eq_of_mem_set hy with hy | hy
  · exact h y hy
  · rw [hy]; exact hx
theorem Gb (c : ZI) : Y9 (ZT c).2.1.Zd := by
  have hd := FA c
  unfold ZT
  generalize Zm c = w at hd ⊢
  generalize yz 4 ([] : List Int) 0 w.1.b w.1.i w.1.h = z
  obtain ⟨z1, z2, z3, z4⟩ := z
  show Y9 (Yi ([1, 2, 4] : List Int) w.2 z1).1.Zd
  unfold Yi
  have h1 := yJ ([1, 2, 4] : List Int) w.2 z1 hd (w.2.Zd.length + 1) 0 ([] : List Bool) ([] : List ByteArray) ([] : List Int) ([] : List (List Int)) (fun x hx => by cases hx)
  refine ZR (p := fun r : Zi × Bool => Y9 r.1.Zd) (fun x hx => by cases hx) ?_
  generalize YF ([1, 2, 4] : List Int) w.2 z1 (w.2.Zd.length + 1) 0 ([] : List Bool) ([] : List ByteArray) ([] : List Int) ([] : List (List Int)) = z at h1 ⊢
  obtain ⟨y1, y2, y3, y4⟩ := z
  exact h1
theorem Ht (c : ZI) : Y9 (qE c).2.1.Zd := by
  have h := Gb c
  unfold qE
  generalize ZT c = z at h ⊢
  refine ZR (p := fun r : ZI × Zi × ZM => Y9 r.2.1.Zd) (GV h rfl) ?_
  refine ZR (p := fun r : ZI × Zi × ZM => Y9 r.2.1.Zd) h ?_
  refine ZR (p := fun r : ZI × Zi × ZM => Y9 r.2.1.Zd) h ?_
  refine ZR (p := fun r : ZI × Zi × ZM => Y9 r.2.1.Zd) h ?_
  refine ZR (p := fun r : ZI × Zi × ZM => Y9 r.2.1.Zd) h ?_
  refine ZR (p := fun r : ZI × Zi × ZM => Y9 r.2.1.Zd) ?_ h
  exact ZR (p := fun r : ZI × Zi × ZM => Y9 r.2.1.Zd) h h
theorem Ur : ∀ l : List Bool, l.count true + l.count false = l.length
  | [] => rfl
  | true :: l => by rw [List.count_cons_self, List.count_cons_of_ne (by decide), List.length_cons, <- Ur l]; omega
  | false :: l => by rw [List.count_cons_self, List.count_cons_of_ne (by decide), List.length_cons, <- Ur l]; omega
theorem Lm (r : Zi) (hp : Y9 r.Zd) : XL (YC r) = r.Shown.count false := by
  have h := jJ r (fun i => T3 hp i) (r.Shown.length + 1) (Y3 r.QF) 0 (by omega) (Nat.zero_le _)
  rw [GA, List.drop_zero, Nat.zero_add] at h
  exact h
theorem Lp (r : Zi) : zn r = W (r.Shown.count true : Nat) := by
  have h := j6 r (r.Shown.length + 1) 0 0 (by omega) (Nat.zero_le _)
  rw [show W 0 = 0 by decide, List.drop_zero, Int.zero_add] at h
  exact h
theorem PY (a0 : List UInt8) : kV a0 = true := by
  unfold kV
  cases Le a0 with
  | true => rfl
  | false =>
    rw [Qi, IX, Bool.not_true, Qi, Lk]
    show (KY a0 ((YC (Za a0)).size + 1) 0 0 == (W (((Za a0).Shown.length : Int) - (zn (Za a0))))) = true
    have h1 := Lw a0 ((YC (Za a0)).size + 1) 0 0 (by omega) (Nat.zero_le _)
    rw [show W 0 = 0 by decide, List.drop_zero, Int.zero_add] at h1
    have hp : Y9 (Za a0).Zd := Ht (zE a0)
    have h2 := Lm _ hp
    unfold XL at h2
    rw [h1, h2, Lp, <- Ur]
    simp only [beq_iff_eq, Yw]
    omega
end Go.Mo
