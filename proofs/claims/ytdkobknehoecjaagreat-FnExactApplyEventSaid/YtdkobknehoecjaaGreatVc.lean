/- An abstract machine GQ the model of Go, by value, and that it is sound: part Vc. No condition. -/
import Derived.Test.YtdkobknehoecjaaGreatVf
import Derived.ProofKit
import Derived.OpenShut
import Derived.Below
import Derived.ChangeOld
import Derived.DataReads
import Derived.Carry
namespace Go.Vm
open Go.RowKit
abbrev Ren := List ((Nat × Nat) × Option (Nat × Nat))
def yb : Ren -> Nat -> Nat -> Option (Nat × Nat)
 | [], t, j => some (t, j)
 | (n, o) :: ρ, t, j => if t = n.1 /\ j = n.2 then o else yb ρ t j
def inF : List (Nat × Nat) -> Nat -> Nat -> Bool
 | [], _, _ => false
 | n :: F, t, j => (t == n.1 && j == n.2) || inF F t j
def CU (σ : St) (ρ : Ren) (F : List (Nat × Nat)) : At -> At -> Prop
 | _, .any => True
 | .d x, .d y => x = y
 | .nil _, .nil _ => True
 | .nil s, .d y => y = .sl s []
 | .nil _, .sref t j lo len => yb ρ t j = none /\ lo = 0 /\ len = 0
 | .sref t j lo len, .sref t' j' eC gj => yb ρ t' j' = some (t, j) /\ lo = eC /\ len = gj
 | .sref t j lo len, .d y => inF F t j = true /\ (match σ.ob t j with | .arr _ s rows => y = .sl s (cut rows lo len) | _ => False)
 | .tref t j i c o, .tref t' j' i' c' o' => yb ρ t' j' = some (t, j) /\ i = i' /\ c = c' /\ o = o' /\ (match σ.ob t j with | .arr true _ _ => True | _ => False)
 | .ptr t j i c, .ptr t' j' i' c' => yb ρ t' j' = some (t, j) /\ i = i' /\ c = c'
 | .bptr t c, .bptr t' c' => yb ρ t' 0 = some (t, 0) /\ c = c'
 | .fn f t, .fn f' t' => yb ρ t' 0 = some (t, 0) /\ f = f'
 | .rptr r c, .rptr r' c' => r = r' /\ c = c'
 | _, _ => False
def M7 (σ : St) (ρ : Ren) (F : List (Nat × Nat)) : List At -> List At -> Prop
 | [], [] => True
 | x :: xs, y :: ys => CU σ ρ F x y /\ M7 σ ρ F xs ys
 | _, _ => False
def wkV (σ : St) (ρ : Ren) (F : List (Nat × Nat)) : V -> V -> Prop
 | _, .any => True
 | .one x, .one y => CU σ ρ F x y
 | .agg xs, .agg ys => M7 σ ρ F xs ys
 | .fix u (.one x), .fix u' (.one y) => u = u' /\ CU σ ρ F x y
 | .fix u (.agg xs), .fix u' (.agg ys) => u = u' /\ M7 σ ρ F xs ys
 | .fix _ (.one x), .one y => CU σ ρ F x y
 | .fix _ (.agg xs), .agg ys => M7 σ ρ F xs ys
 | _, _ => False
def CY (σ : St) (ρ : Ren) (F : List (Nat × Nat)) (t' j' : Nat) : Ob -> Prop
 | .none => True
 | .arr q size rows => (match yb ρ t' j' with
  | none => rows = []
  | some (t, j) => inF F t j = false /\ (match σ.ob t j with | .arr p s r => (p = q \/ p = false /\ ∀ x ∈ rows, ∀ y ∈ x, y.scalar = true) /\ s = size /\ r = rows | _ => False))
 | .lit _ _ => False
 | .box cells => (match yb ρ t' j' with
  | none => False
  | some (t, j) => inF F t j = false /\ (match σ.ob t j with | .box cs => M7 σ ρ F cs cells | _ => False))
def vm (σ : St) (ρ : Ren) (F : List (Nat × Nat)) (t : Nat) : List Ob -> Nat -> Prop
 | [], _ => True
 | o :: os, j => CY σ ρ F t j o /\ vm σ ρ F t os (j + 1)
def Pu (σ : St) (ρ : Ren) (F : List (Nat × Nat)) : List Ent -> List Ent -> Nat -> Prop
 | [], [], _ => True
 | e :: es, e' :: dX, t => (wkV σ ρ F e.1 e'.1 /\ vm σ ρ F t e'.2 0) /\ Pu σ ρ F es dX (t + 1)
 | _, _, _ => False
def Ky : Ren -> Nat -> Nat -> Bool
 | [], _, _ => false
 | (n, _) :: ρ, t, j => (t == n.1 && j == n.2) || Ky ρ t j
def WL : Ren -> Nat -> Nat -> Bool
 | [], _, _ => false
 | (_, some o) :: ρ, t, j => (t == o.1 && j == o.2) || WL ρ t j
 | (_, none) :: ρ, t, j => WL ρ t j
def wX (σ' : St) (t j : Nat) : Bool := match σ'.ob t j with | .none => true | _ => false
def VJ (σ' : St) (all : Ren) : Ren -> Bool
 | [] => true
 | (_, some o) :: ρ => !WL ρ o.1 o.2 && (Ky all o.1 o.2 || wX σ' o.1 o.2) && VJ σ' all ρ
 | (_, none) :: ρ => VJ σ' all ρ
theorem Wc : ∀ {ρ : Ren} {t j : Nat}, Ky ρ t j = false -> yb ρ t j = some (t, j)
 | [], _, _, _ => rfl
 | (n, o) :: ρ, t, j, h => by
  simp only [Ky, Bool.or_eq_false_iff, Bool.and_eq_false_iff, beq_eq_false_iff_ne] at h
  simp only [yb]
  rw [if_neg (by rintro ⟨h1, h2⟩; rcases h.1 with h3 | h3 <;> contradiction)]
  exact Wc h.2
theorem U4 : ∀ {ρ : Ren} {t j : Nat} {o : Nat × Nat}, Ky ρ t j = true -> yb ρ t j = some o -> WL ρ o.1 o.2 = true
 | [], _, _, _, h, _ => by simp [Ky] at h
 | (n, o') :: ρ, t, j, o, h, ho => by
  simp only [yb] at ho
  split at ho
  ·subst ho; simp [WL]
  ·rename_i lD
   have h' : Ky ρ t j = true := by
    simp only [Ky, Bool.or_eq_true, Bool.and_eq_true, beq_iff_eq] at h
    rcases h with h | h
    ·exact absurd h lD
    ·exact h
   have := U4 h' ho
   cases o' with
   | none => simpa [WL] using this
   | some o' => simp [WL, this]
theorem DY {σ' : St} {all : Ren} : ∀ {ρ : Ren} {t j t' j' : Nat} {o : Nat × Nat}, VJ σ' all ρ = true -> Ky ρ t j = true -> Ky ρ t' j' = true -> yb ρ t j = some o -> yb ρ t' j' = some o -> (t, j) = (t', j')
 | [], _, _, _, _, _, _, h, _, _, _ => by simp [Ky] at h
 | (n, o') :: ρ, t, j, t', j', o, la, hn, l0, ho, lU => by
  have hokr : VJ σ' all ρ = true := by
   cases o' with
   | none => simpa [VJ] using la
   | some o' => simp only [VJ, Bool.and_eq_true] at la; exact la.2
  simp only [yb] at ho lU
  by_cases h1 : t = n.1 /\ j = n.2
  ·rw [if_pos h1] at ho
   by_cases h2 : t' = n.1 /\ j' = n.2
   ·rw [h1.1, h1.2, h2.1, h2.2]
   ·rw [if_neg h2] at lU
    have h' : Ky ρ t' j' = true := by
     simp only [Ky, Bool.or_eq_true, Bool.and_eq_true, beq_iff_eq] at l0
     exact l0.resolve_left h2
    have hold := U4 h' lU
    subst ho
    simp only [VJ, Bool.and_eq_true, Bool.not_eq_true'] at la
    rw [hold] at la; cases la.1.1
  ·rw [if_neg h1] at ho
   have h : Ky ρ t j = true := by
    simp only [Ky, Bool.or_eq_true, Bool.and_eq_true, beq_iff_eq] at hn
    exact hn.resolve_left h1
   by_cases h2 : t' = n.1 /\ j' = n.2
   ·rw [if_pos h2] at lU
    have hold := U4 h ho
    subst lU
    simp only [VJ, Bool.and_eq_true, Bool.not_eq_true'] at la
    rw [hold] at la; cases la.1.1
   ·rw [if_neg h2] at lU
    have h' : Ky ρ t' j' = true := by
     simp only [Ky, Bool.or_eq_true, Bool.and_eq_true, beq_iff_eq] at l0
     exact l0.resolve_left h2
    exact DY hokr h h' ho lU
theorem TU {σ' : St} {all : Ren} : ∀ {ρ : Ren} {t j : Nat}, VJ σ' all ρ = true -> WL ρ t j = true -> Ky all t j = true \/ σ'.ob t j = .none
 | [], _, _, _, h => by simp [WL] at h
 | (n, o') :: ρ, t, j, la, h => by
  cases o' with
  | none => exact TU (ρ := ρ) (by simpa [VJ] using la) (by simpa [WL] using h)
  | some o =>
   simp only [VJ, Bool.and_eq_true, Bool.or_eq_true] at la
   simp only [WL, Bool.or_eq_true, Bool.and_eq_true, beq_iff_eq] at h
   rcases h with ⟨rfl, rfl⟩ | h
   ·refine la.1.2.imp id fun hf => ?_
    unfold wX at hf; split at hf <;> first | assumption | cases hf
   ·exact TU la.2 h
theorem rn {σ' : St} {ρ : Ren} (la : VJ σ' ρ ρ = true) {t j t' j' : Nat} {o : Nat × Nat} (h1 : σ'.ob t j ≠ .none) (h2 : σ'.ob t' j' ≠ .none) (ho : yb ρ t j = some o) (lU : yb ρ t' j' = some o) : t = t' /\ j = j' := by
 cases hn : Ky ρ t j with
 | true =>
  cases l0 : Ky ρ t' j' with
  | true => have := DY la hn l0 ho lU; cases this; exact ⟨rfl, rfl⟩
  | false =>
   have bn := Wc l0
   rw [bn] at lU; cases lU
   have hold := U4 hn ho
   rcases TU la hold with h | h
   ·rw [l0] at h; cases h
   ·exact absurd h h2
 | false =>
  have bn := Wc hn
  rw [bn] at ho; cases ho
  cases l0 : Ky ρ t' j' with
  | true =>
   have hold := U4 l0 lU
   rcases TU la hold with h | h
   ·rw [hn] at h; cases h
   ·exact absurd h h1
  | false =>
   have hid' := Wc l0
   rw [hid'] at lU; cases lU; exact ⟨rfl, rfl⟩
theorem Pb {σ : St} {ρ : Ren} {F : List (Nat × Nat)} : ∀ {es dX : List Ent} {t : Nat}, Pu σ ρ F es dX t -> es.length = dX.length
 | [], [], _, _ => rfl
 | _ :: _, _ :: _, _, h => by simp [Pb h.2]
 | [], _ :: _, _, h => h.elim
 | _ :: _, [], _, h => h.elim
theorem HS {σ : St} {ρ : Ren} {F : List (Nat × Nat)} : ∀ {es dX : List Ent} {t : Nat}, Pu σ ρ F es dX t -> ∀ (i : Nat), wkV σ ρ F (St.get es i) (St.get dX i) /\ ∀ j, CY σ ρ F (t + i) j (St.ob dX i j)
 | [], [], t, _, i => ⟨by simp [St.get, wkV], fun j => by simp [St.ob, CY]⟩
 | e :: es, e' :: dX, t, h, 0 => by
  refine ⟨h.1.1, fun j => ?_⟩
  have : ∀ (os : List Ob) (k : Nat), vm σ ρ F t os k -> ∀ j, CY σ ρ F t (k + j) (Yr os j) := by
   intro os
   induction os with
   | nil => intro k _ j; simp [Yr, CY]
   | cons o os ih =>
    intro k hk j
    cases j with
    | zero => exact hk.1
    | succ j => have := ih (k + 1) hk.2 j; rw [show k + (j + 1) = k + 1 + j by omega]; simpa [Yr] using this
  have := this e'.2 0 h.1.2 j
  simpa using this
 | e :: es, e' :: dX, t, h, i + 1 => by
  have := HS h.2 i
  rw [show t + (i + 1) = t + 1 + i by omega]
  simpa [St.get, St.ob] using this
 | [], _ :: _, _, h, _ => h.elim
 | _ :: _, [], _, h, _ => h.elim
theorem tS {T : CS} {w : World} {xs : List Value} {ds : List D} {S : Nat -> Prop} (lE : YA (Rd T w) xs ds) (hf : ∀ d ∈ ds, d.scalar = true) : Jo w xs ds S :=
 ⟨lE.length, fun _ _ => False, fun k x d hx hd => by
  obtain ⟨d', lQ, hr⟩ := lE.get k x hx
  rw [hd] at lQ; cases lQ
  exact Rd.own (hf d (List.mem_of_getElem? hd)) hr, fun _ _ hb => hb.elim, fun _ _ _ hb => hb.elim⟩
theorem Xh {σ σ' : St} (ρ : Ren) (F : List (Nat × Nat)) (la : VJ σ' ρ ρ = true) (hs : Pu σ ρ F σ σ' 0) : Wk σ σ' := by
 rintro T0 B a w ⟨X, h, r⟩
 let h' : Nat -> Nat -> Hd := fun t j => match yb ρ t j with | some o => h o.1 o.2 | none => Hd.of (.slice none 0 0)
 let X' : Nat -> Prop := fun b => X b \/ ∃ t j, inF F t j = true /\ σ.ob t j ≠ .none /\ (h t j).u b
 have hlen := Pb hs
 have l8 := HS hs
 have lV : ∀ t j, CY σ ρ F t j (σ'.ob t j) := fun t j => by have := (l8 t).2 j; simpa using this
 have c9 : ∀ b k v, Tof T0 X b k -> w.cell? ⟨b, k, none⟩ = some v -> w.cell? ⟨b, k, none⟩ = some v /\ Tof T0 X' b k := fun b k v hb hc => ⟨hc, hb.imp id .inl⟩
 have fM : ∀ t' j' q size rows, σ'.ob t' j' = .arr q size rows -> (yb ρ t' j' = none /\ rows = []) \/ ∃ t j p, yb ρ t' j' = some (t, j) /\ inF F t j = false /\ σ.ob t j = .arr p size rows /\ (p = q \/ p = false /\ ∀ x ∈ rows, ∀ y ∈ x, y.scalar = true) := by
  intro t' j' q size rows ho
  have := lV t' j'
  rw [ho] at this
  simp only [CY] at this
  split at this
  ·rename_i hn; exact .inl ⟨hn, this⟩
  ·rename_i t j hn
   obtain ⟨hF, this⟩ := this
   split at this
   ·rename_i p s r l3; obtain ⟨hp, rfl, rfl⟩ := this; exact .inr ⟨t, j, p, hn, hF, l3, hp⟩
   ·exact this.elim
 have fy : ∀ t' j' size rows, σ'.ob t' j' ≠ .lit size rows := by
  intro t' j' size rows ho
  have := lV t' j'
  rw [ho] at this; exact this
 have fz : ∀ t' j' cells, σ'.ob t' j' = .box cells -> ∃ t j cs, yb ρ t' j' = some (t, j) /\ inF F t j = false /\ σ.ob t j = .box cs /\ M7 σ ρ F cs cells := by
  intro t' j' cells ho
  have := lV t' j'
  rw [ho] at this
  simp only [CY] at this
  split at this
  ·exact this.elim
  ·rename_i t j hn
   obtain ⟨hF, this⟩ := this
   split at this
   ·rename_i cs l3; exact ⟨t, j, cs, hn, hF, l3, this⟩
   ·exact this.elim
 have at_ : ∀ {x y : At} {v : Value}, CU σ ρ F x y -> YK (Tof T0 X) h σ.ob w x v -> YK (Tof T0 X') h' σ'.ob w y v := by
  intro x y v hw hr
  have h1 := YK.Xy hr
  cases y with
  | any => exact h1
  | d y =>
   cases x with
   | d x => simp only [CU] at hw; subst hw; exact Rd.mono c9 hr
   | nil s => simp only [CU] at hw; subst hw; cases hr; exact .nil _
   | sref t j lo len =>
    simp only [CU] at hw
    obtain ⟨hF, hw⟩ := hw
    split at hw
    ·rename_i q s rows ho
     subst hw
     exact r.vJ ho hr _ (fun b k hb => hb.imp id .inl) (fun b k hb => .inr (.inr ⟨t, j, hF, by rw [ho]; simp, hb⟩))
    ·exact hw.elim
   | _ => exact hw.elim
  | nil s =>
   cases x with
   | nil s' => exact hr
   | _ => exact hw.elim
  | sref t' j' eC gj =>
   cases x with
   | nil s =>
    obtain ⟨hn, rfl, rfl⟩ := hw
    cases hr
    refine ⟨rfl, fun q size rows ho => ?_, fun size rows ho => absurd ho (fy _ _ _ _)⟩
    simp only [h', hn]
    exact ⟨by omega, fun _ _ => rfl, fun _ => rfl, none, 0, rfl, by omega, by simp [maxLen], fun _ => rfl, fun hh => absurd hh (by omega)⟩
   | sref t j lo len =>
    obtain ⟨hn, rfl, rfl⟩ := hw
    refine ⟨h1, fun q size rows ho => ?_, fun size rows ho => absurd ho (fy _ _ _ _)⟩
    rcases fM t' j' q size rows ho with ⟨l0, _⟩ | ⟨t2, j2, p, l0, _, l3, _⟩
    ·rw [hn] at l0; cases l0
    ·rw [hn] at l0; cases l0
     simp only [h', hn]
     exact hr.2.1 p size rows l3
   | _ => exact hw.elim
  | ptr t' j' i' c' =>
   cases x with
   | ptr t j i c =>
    obtain ⟨hn, rfl, rfl⟩ := hw
    refine ⟨h1, fun q size rows ho => ?_⟩
    rcases fM t' j' q size rows ho with ⟨l0, _⟩ | ⟨t2, j2, p, l0, _, l3, _⟩
    ·rw [hn] at l0; cases l0
    ·rw [hn] at l0; cases l0
     simp only [h', hn]
     exact hr.2 p size rows l3
   | _ => exact hw.elim
  | tref t' j' i' c' o' =>
   cases x with
   | tref t j i c o =>
    obtain ⟨hn, rfl, rfl, rfl, hq⟩ := hw
    refine ⟨h1, fun size rows ho => ?_⟩
    rcases fM t' j' true size rows ho with ⟨l0, _⟩ | ⟨t2, j2, p, l0, _, l3, hp⟩
    ·rw [hn] at l0; cases l0
    ·rw [hn] at l0; cases l0
     simp only [h', hn]
     rcases hp with rfl | ⟨rfl, iV⟩
     ·exact hr.2 size rows l3
     ·rw [l3] at hq; exact hq.elim
   | _ => exact hw.elim
  | bptr t' c' =>
   cases x with
   | bptr t c =>
    obtain ⟨hn, rfl⟩ := hw
    refine ⟨h1, fun cells ho => ?_⟩
    obtain ⟨t2, j2, cs, l0, _, l3, _⟩ := fz t' 0 cells ho
    rw [hn] at l0; cases l0
    simp only [h', hn]
    exact hr.2 cs l3
   | _ => exact hw.elim
  | fn f' t' =>
   cases x with
   | fn f t =>
    obtain ⟨hn, rfl⟩ := hw
    refine ⟨h1, fun cells ho => ?_⟩
    obtain ⟨t2, j2, cs, l0, _, l3, _⟩ := fz t' 0 cells ho
    rw [hn] at l0; cases l0
    simp only [h', hn]
    exact hr.2 cs l3
   | _ => exact hw.elim
  | rptr r' c' =>
   cases x with
   | rptr r0 c =>
    obtain ⟨rfl, rfl⟩ := hw
    obtain ⟨b, off, g, e, hk⟩ := hr
    exact ⟨b, off, g, e, fun k d hd => ⟨(hk k d hd).1, (hk k d hd).2.1.imp id .inl, Rd.mono c9 (hk k d hd).2.2⟩⟩
   | _ => exact hw.elim
 have dk : ∀ {xs ys : List At} {vs : List Value}, M7 σ ρ F xs ys -> YA (YK (Tof T0 X) h σ.ob w) xs vs -> YA (YK (Tof T0 X') h' σ'.ob w) ys vs := by
  intro xs
  induction xs with
  | nil => intro ys vs hw hr; cases ys with
   | nil => cases hr; exact .nil
   | cons y ys => exact hw.elim
  | cons x xs ih => intro ys vs hw hr; cases ys with
   | nil => exact hw.elim
   | cons y ys => cases hr with
    | cons h1 hr => exact .cons (at_ hw.1 h1) (ih hw.2 hr)
 have v_ : ∀ {x y : V} {v : Value}, wkV σ ρ F x y -> JD (Tof T0 X) h σ.ob w x v -> JD (Tof T0 X') h' σ'.ob w y v := by
  intro x y v hw hr
  cases y with
  | any => trivial
  | one y => cases x with
   | one x => exact at_ hw hr
   | fix u x => cases x with
    | one x => exact at_ hw hr.2
    | _ => exact hw.elim
   | _ => exact hw.elim
  | agg ys => cases x with
   | agg xs => obtain ⟨cs, e, hr⟩ := hr; exact ⟨cs, e, dk hw hr⟩
   | fix u x => cases x with
    | agg xs => obtain ⟨cs, e, hr⟩ := hr.2; exact ⟨cs, e, dk hw hr⟩
    | _ => exact hw.elim
   | _ => exact hw.elim
  | tup ys => cases x with
   | fix u x => cases x <;> exact hw.elim
   | _ => exact hw.elim
  | cnd g y => cases x with
   | fix u x => cases x <;> exact hw.elim
   | _ => exact hw.elim
  | fix u' y => cases x with
   | fix u x => cases x with
    | one x => cases y with
     | one y => obtain ⟨rfl, hw⟩ := hw; exact ⟨hr.1, at_ hw hr.2⟩
     | _ => exact hw.elim
    | agg xs => cases y with
     | agg ys => obtain ⟨rfl, hw⟩ := hw; obtain ⟨e1, cs, e, hr⟩ := hr; exact ⟨e1, cs, e, dk hw hr⟩
     | _ => exact hw.elim
    | _ => cases y <;> exact hw.elim
   | _ => cases y <;> exact hw.elim
 have lD : ∀ t j, σ'.ob t j ≠ .none -> (yb ρ t j = none /\ ∀ b, ¬ (h' t j).u b) \/ ∃ o, yb ρ t j = some o /\ σ.ob o.1 o.2 ≠ .none /\ inF F o.1 o.2 = false /\ h' t j = h o.1 o.2 := by
  intro t j hn
  cases ho : σ'.ob t j with
  | none => exact absurd ho hn
  | arr q size rows =>
   rcases fM t j q size rows ho with ⟨l0, _⟩ | ⟨t2, j2, p, l0, hF, l3, _⟩
   ·exact .inl ⟨l0, fun b hb => by simp only [h', l0, Hd.of, blk] at hb; cases hb⟩
   ·exact .inr ⟨(t2, j2), l0, by rw [l3]; simp, hF, by simp only [h', l0]⟩
  | lit size rows => exact absurd ho (fy _ _ _ _)
  | box cells =>
   obtain ⟨t2, j2, cs, l0, hF, l3, _⟩ := fz t j cells ho
   exact .inr ⟨(t2, j2), l0, by rw [l3]; simp, hF, by simp only [h', l0]⟩
 refine ⟨X', h', by rw [r.size, hlen], r.defers, r.hB, fun b hb => ?_, r.hT, fun t ht => ?_, fun t j => ?_, fun t j b hn hb => ?_, fun t j b hn hb => ?_, fun t j t' j' b hn l0 hb lM => ?_⟩
 ·rcases hb with hb | ⟨t, j, _, hn, hb⟩
  ·exact r.hX b hb
  ·have := r.own t j b hn hb; exact ⟨this.1, this.2.2⟩
 ·exact v_ (l8 t).1 (r.slot t (by rw [hlen]; exact ht))
 ·cases ho : σ'.ob t j with
  | none => trivial
  | lit size rows => exact absurd ho (fy _ _ _ _)
  | arr q size rows =>
   rcases fM t j q size rows ho with ⟨hn, rfl⟩ | ⟨u, k, p, hn, _, l3, hp⟩
   ·have : h' t j = Hd.of (.slice none 0 0) := by simp only [h', hn]
    rw [this]
    cases q with
    | false => exact ⟨0, [], World.ownsRow_nil w 0 0 size, (by intro q hq; cases hq), .nil⟩
    | true => exact ⟨0, [], World.ownsRow_nil w 0 0 size, (by intro q hq; cases hq), Jo.nil _, fun k x d hx => by simp at hx⟩
   ·have he : h' t j = h u k := by simp only [h', hn]
    rw [he]
    have h0 := r.obj u k
    rw [l3] at h0
    cases p with
    | false =>
     obtain ⟨e, xs, lG, hz, lE⟩ := h0
     cases q with
     | false => exact ⟨e, xs, lG, hz, lE.imp fun _ _ => Rd.mono c9⟩
     | true =>
      rcases hp with hp | ⟨_, iV⟩
      ·cases hp
      ·have ei : ∀ d ∈ rows.flatten, d.scalar = true := fun d hd => by
        obtain ⟨r0, g4, hdr⟩ := List.mem_flatten.1 hd
        exact iV r0 g4 d hdr
       exact ⟨e, xs, lG, hz, tS lE ei, fun k x d _ hd hs => by rw [ei d (List.mem_of_getElem? hd)] at hs; cases hs⟩
    | true =>
     rcases hp with rfl | ⟨hp, _⟩
     ·exact h0
     ·cases hp
  | box cells =>
   obtain ⟨u, k, cs, hn, _, l3, iy⟩ := fz t j cells ho
   have h0 := r.obj u k
   rw [l3] at h0
   obtain ⟨b, vs, e, hv, hh, lE⟩ := h0
   have he : h' t j = h u k := by simp only [h', hn]
   rw [he]
   exact ⟨b, vs, e, hv, hh, dk iy lE⟩
 ·rcases lD t j hn with ⟨hr, _⟩ | ⟨o, hr, dZ, hF, he⟩
  ·simp only [h', hr, Hd.of, blk] at hb; cases hb
  ·rw [he] at hb ⊢; exact r.ub o.1 o.2 b dZ hb
 ·rcases lD t j hn with ⟨_, dZ⟩ | ⟨o, hr, dZ, hF, he⟩
  ·exact absurd hb (dZ b)
  ·rw [he] at hb
   have h0 := r.own o.1 o.2 b dZ hb
   refine ⟨h0.1, ?_, h0.2.2⟩
   rintro (hx | ⟨t2, j2, hF2, hn2, iJ⟩)
   ·exact h0.2.1 hx
   ·obtain ⟨h3, h4⟩ := r.inj o.1 o.2 t2 j2 b dZ hn2 hb iJ
    rw [h3, h4] at hF; rw [hF] at hF2; cases hF2
 ·rcases lD t j hn with ⟨_, dZ⟩ | ⟨o, hr, dZ, _, he⟩
  ·exact absurd hb (dZ b)
  ·rcases lD t' j' l0 with ⟨_, c8⟩ | ⟨o', lp, c8, _, b4⟩
   ·exact absurd lM (c8 b)
   ·rw [he] at hb
    rw [b4] at lM
    obtain ⟨h3, h4⟩ := r.inj o.1 o.2 o'.1 o'.2 b dZ c8 hb lM
    have : o = o' := Prod.ext h3 h4
    subst this
    exact rn la hn l0 hr lp
theorem Xf {σ σ' : St} (hs : Pu σ [] [] σ σ' 0) : Wk σ σ' := Xh [] [] rfl hs
attribute [simp] yb inF CU M7 wkV CY vm Pu Ky WL wX VJ
end Go.Vm
namespace Go.Vm
open Go.RowKit
def Xm (P : Program) (σ : St) : List Operand -> List TypeId -> Prop × Option (List (List D))
 | [], _ => (True, some [])
 | x :: xs, t :: ts => (gOf (look P σ t x) = true /\ (Xm P σ xs ts).1, match (unc (look P σ t x)).Kv σ, (Xm P σ xs ts).2 with | some r, some rs => some (r :: rs) | _, _ => none)
 | _ :: _, [] => (False, none)
theorem kO {P : Program} {σ : St} : ∀ {xs : List Operand} {ts : List TypeId} {rs : List (List D)}, (Xm P σ xs ts).1 -> (Xm P σ xs ts).2 = some rs -> Qp P σ xs ts rs
 | [], _, rs, _, h => by simp [Xm] at h; exact h
 | x :: xs, t :: ts, rs, h1, h => by
  simp only [Xm] at h
  split at h
  ·rename_i r bm hr gi
   cases h
   exact ⟨h1.1, r, bm, hr, kO h1.2 gi, rfl⟩
  ·cases h
 | _ :: _, [], _, h1, _ => h1.elim
attribute [simp] Xm
theorem Is {P : Program} {ops : Array Oper} {bar : Oper -> Bool} {o : Oper} {rest : List Oper} {σ : St} {Q : St -> Prop} {c : Call} {f : FuncId} {d : Nat} {own : Bool} {rows res : List (List D)} (lB : o.op = .call c) (hc : c.callee = .value (.func f)) (hg : o.guard = none) (hd : o.dst = some d)
  (hs : Qz P f own rows res) (lP : (Xm P σ c.args.toList c.argTypes.toList).2 = some rows) (lH : (Xm P σ c.args.toList c.argTypes.toList).1) (lZ : Yn P σ c.args.toList c.argTypes.toList = true \/ KR own res) (h : Ev P ops bar rest (σ.put d (jj res)) Q) : yu P ops bar o rest σ Q :=
 Ao lB hc hg hd (kO lH lP) hs lZ h
theorem ta {P : Program} {ops : Array Oper} {bar : Oper -> Bool} {o : Oper} {rest : List Oper} {σ : St} {Q : St -> Prop} {c : Call} {f : FuncId} {d : Nat} {rows res : List (List D)} (lB : o.op = .call c) (hc : c.callee = .value (.func f)) (hg : o.guard = none) (hd : o.dst = some d)
  (hs : Qz P f true rows res) (lP : (Xm P σ c.args.toList c.argTypes.toList).2 = some rows) (lH : (Xm P σ c.args.toList c.argTypes.toList).1) (lZ : Yn P σ c.args.toList c.argTypes.toList = true \/ KR true res) (hf : σ.fresh d = true) (h : Ev P ops bar rest (σ.new d (VS d res) (yq res.flatten)) Q) : yu P ops bar o rest σ Q :=
 BM lB hc hg hd (kO lH lP) hs lZ hf h
theorem D5 {P : Program} {ops : Array Oper} {bar : Oper -> Bool} {o : Oper} {rest : List Oper} {σ : St} {Q : St -> Prop} {c : Call} {f : FuncId} {d : Nat} {rows res : List (List D)} (qs : List Bool) (lB : o.op = .call c) (hc : c.callee = .value (.func f)) (hg : o.guard = none) (hd : o.dst = some d)
  (hs : Yv P f rows res) (lP : (Xm P σ c.args.toList c.argTypes.toList).2 = some rows) (lH : (Xm P σ c.args.toList c.argTypes.toList).1) (hq : TH qs res.flatten) (hf : σ.fresh d = true) (h : Ev P ops bar rest (σ.new d (VS d res) (YO qs res.flatten)) Q) : yu P ops bar o rest σ Q :=
 wE qs lB hc hg hd (kO lH lP) hs hq hf h
theorem vB {P : Program} {ops : Array Oper} {bar : Oper -> Bool} {o : Oper} {rest : List Oper} {σ : St} {Q : St -> Prop} {c : Call} {f : FuncId} {d j dj : Nat} {want g own : Bool} {rows : List (List D)} {res : List D} (lB : o.op = .call c) (hc : c.callee = .value (.func f)) (hg : o.guard = some (j, want)) (hd : o.dst = some d)
  (ig : (ops[j]?).bind (·.dst) = some dj) (iu : jF want (σ.get dj) = some g) (hs : g = true -> Qz P f own rows [res])
  (lP : (Xm P σ c.args.toList c.argTypes.toList).2 = some rows) (lN : dj < σ.length)
  (lH : g = true -> (Xm P σ c.args.toList c.argTypes.toList).1) (lZ : Yn P σ c.args.toList c.argTypes.toList = true \/ KR own [res]) (h : Ev P ops bar rest (σ.put d (.cnd g (jj [res]))) Q) : yu P ops bar o rest σ Q :=
 wb lB hc hg hd ig lN iu (fun hh => kO (lH hh) lP) hs lZ h
def YX : Nat -> List (Nat × V × List Ob) -> St
 | n, [] => List.replicate n (V.any, [])
 | n, (t, v, os) :: l => (YX n l).new t v os
attribute [simp] YX
end Go.Vm
namespace Go.Vm
open Go.RowKit
def pM (P : Program) (b : Bool) (x y : Code) (Q : Exit -> St -> Prop) (σ : St) : Prop := (b = true -> AWP P x Q σ) /\ (b = false -> AWP P y Q σ)
def pC (P : Program) (c : Code) (Q : Exit -> St -> Prop) (σ : St) : Prop := AWP P (.loop c) Q σ
def pP (P : Program) (id : Nat) (ops : Array Oper) (Q : Exit -> St -> Prop) (σ : St) : Prop := AWP P (.region id ops true) Q σ
def Gp (P : Program) (c : Code) (Q : Exit -> St -> Prop) (σ : St) : Prop := AWP P c Q σ
def Wx (P : Program) : Code -> (Exit -> St -> Prop) -> St -> Prop
 | .seq x y, Q, σ => Wx P x (G8 (Wx P y Q) Q) σ
 | .region _ ⟨l⟩ false, Q, σ => Ev P ⟨l⟩ (fun _ => true) l σ (Q .normal)
 | .region id ops true, Q, σ => pP P id ops Q σ
 | .cond c x y, Q, σ => (match look P σ 0 c with | .one (.d (.bool b)) => pM P b x y Q σ | _ => False)
 | .block id c, Q, σ => Wx P c (RW id Q) σ
 | .loop c, Q, σ => pC P c Q σ
 | .skip, Q, σ => Q .normal σ
 | .exit id, Q, σ => Q (.exit id) σ
 | .ret, Q, σ => Q .ret σ
 | .rangeFunc f ps x y, Q, σ => Gp P (.rangeFunc f ps x y) Q σ
 | .scope c, Q, σ => Gp P (.scope c) Q σ
 | .label l, Q, σ => Gp P (.label l) Q σ
 | .goto l, Q, σ => Gp P (.goto l) Q σ
 | .refuse s, Q, σ => Gp P (.refuse s) Q σ
theorem UO {P : Program} : ∀ {c : Code} {Q : Exit -> St -> Prop} {σ : St}, Wx P c Q σ -> AWP P c Q σ
 | .seq x y, Q, σ, h => by
  rw [Wx] at h
  refine rZ (B7 (fun e σ' hq => ?_) (UO h))
  cases e <;> simp only [G8] at hq ⊢ <;> first | exact UO hq | exact hq
 | .region _ ⟨l⟩ false, Q, σ, h => oQ h
 | .region id ops true, Q, σ, h => h
 | .cond c x y, Q, σ, h => by
  rw [Wx] at h
  split at h
  ·rename_i b hb; exact tZ hb h.1 h.2
  ·exact h.elim
 | .block id c, Q, σ, h => vt (UO (by rw [Wx] at h; exact h))
 | .loop c, Q, σ, h => h
 | .skip, Q, σ, h => tz h
 | .exit id, Q, σ, h => tv h
 | .ret, Q, σ, h => rl h
 | .rangeFunc _ _ _ _, Q, σ, h => h
 | .scope _, Q, σ, h => h
 | .label _, Q, σ, h => h
 | .goto _, Q, σ, h => h
 | .refuse _, Q, σ, h => h
class qK where
 c : Code
class Kx where
 ops : Array Oper
 bar : Oper -> Bool
class zh where
 l : List Oper
class OpI where
 o : Oper
class inductive Fr where
 | fin (Q : Exit -> St -> Prop)
 | sq (y : Code) (k : Fr)
 | blk (id : Nat) (k : Fr)
 | nxt (n : St -> Prop) (k : Fr)
def Fr.run (P : Program) : Fr -> Exit -> St -> Prop
 | .fin Q, e, σ => Q e σ
 | .sq y k, e, σ => G8 (Wx P y (Fr.run P k)) (Fr.run P k) e σ
 | .blk id k, e, σ => RW id (Fr.run P k) e σ
 | .nxt n k, e, σ => G8 n (Fr.run P k) e σ
def WI (P : Program) (σ : St) [c : qK] [k : Fr] : Prop := Wx P c.c (k.run P) σ
def LI (P : Program) (e : Exit) (σ : St) [k : Fr] : Prop := k.run P e σ
def EI (P : Program) (σ : St) [A : Kx] [l : zh] [k : Fr] : Prop := Ev P A.ops A.bar l.l σ (k.run P .normal)
def SI (P : Program) (σ : St) [A : Kx] [o : OpI] [l : zh] [k : Fr] : Prop := yu P A.ops A.bar o.o l.l σ (k.run P .normal)
def CI (P : Program) (b : Bool) (σ : St) [x : qK] [y : qK] [k : Fr] : Prop := pM P b x.c y.c (k.run P) σ
def Ov (P : Program) (σ : St) [c : qK] [k : Fr] : Prop := pC P c.c (k.run P) σ
def DI (P : Program) (id : Nat) (σ : St) [A : Kx] [k : Fr] : Prop := pP P id A.ops (k.run P) σ
section
variable {P : Program} {σ : St} {k : Fr}
theorem p7 {x y : Code} : @WI P σ ⟨.seq x y⟩ k = @WI P σ ⟨x⟩ (.sq y k) := by
 simp only [WI]
 rw [Wx]
 congr 1
theorem uB {id : Nat} {l : List Oper} : @WI P σ ⟨.region id ⟨l⟩ false⟩ k = @EI P σ ⟨⟨l⟩, fun _ => true⟩ ⟨l⟩ k := by simp only [WI, EI, Wx]
theorem r7 {id : Nat} {ops : Array Oper} : @WI P σ ⟨.region id ops true⟩ k = @DI P id σ ⟨ops, fun _ => true⟩ k := by simp only [WI, DI, Wx]
theorem rX {c : Operand} {x y : Code} : @WI P σ ⟨.cond c x y⟩ k = (match look P σ 0 c with | .one (.d (.bool b)) => @CI P b σ ⟨x⟩ ⟨y⟩ k | _ => False) := by simp only [WI, CI, Wx]
theorem tI {id : Nat} {c : Code} : @WI P σ ⟨.block id c⟩ k = @WI P σ ⟨c⟩ (.blk id k) := by
 simp only [WI]
 rw [Wx]
 congr 1
theorem rp {c : Code} : @WI P σ ⟨.loop c⟩ k = @Ov P σ ⟨c⟩ k := by simp only [WI, Ov, Wx]
theorem rW : @WI P σ ⟨.skip⟩ k = @LI P .normal σ k := by simp only [WI, LI, Wx]
theorem s9 {id : Nat} : @WI P σ ⟨.exit id⟩ k = @LI P (.exit id) σ k := by simp only [WI, LI, Wx]
theorem pa : @WI P σ ⟨.ret⟩ k = @LI P .ret σ k := by simp only [WI, LI, Wx]
theorem oI {Q : Exit -> St -> Prop} {e : Exit} : @LI P e σ (.fin Q) = Q e σ := rfl
theorem nT {y : Code} : @LI P .normal σ (.sq y k) = @WI P σ ⟨y⟩ k := rfl
theorem wO {y : Code} {id : Nat} : @LI P (.exit id) σ (.sq y k) = @LI P (.exit id) σ k := rfl
theorem uQ {y : Code} : @LI P .ret σ (.sq y k) = @LI P .ret σ k := rfl
theorem pZ {n : St -> Prop} : @LI P .normal σ (.nxt n k) = n σ := rfl
theorem A6 {n : St -> Prop} {id : Nat} : @LI P (.exit id) σ (.nxt n k) = @LI P (.exit id) σ k := rfl
theorem wT {n : St -> Prop} : @LI P .ret σ (.nxt n k) = @LI P .ret σ k := rfl
theorem pj {id : Nat} : @LI P .normal σ (.blk id k) = @LI P .normal σ k := rfl
theorem vA {id : Nat} : @LI P .ret σ (.blk id k) = @LI P .ret σ k := rfl
theorem AW {id cx : Nat} : @LI P (.exit cx) σ (.blk id k) = if cx = id then @LI P .normal σ k else @LI P (.exit cx) σ k := rfl
theorem oJ {A : Kx} : @EI P σ A ⟨[]⟩ k = @LI P .normal σ k := by simp only [EI, LI, Ev]
theorem sy {A : Kx} {o : Oper} {rest : List Oper} : @EI P σ A ⟨o :: rest⟩ k =
  (if stops P o then @SI P σ A ⟨o⟩ ⟨rest⟩ k else
  match o.guard with
  | none =>
   (match o.dst with
   | some d => (evS P σ o d).1 /\ @EI P (evS P σ o d).2 A ⟨rest⟩ k
   | none => (match o.op with | .store T x y => if pd P σ T x y then @SI P σ A ⟨o⟩ ⟨rest⟩ k else (B3 P σ T x y).1 /\ @EI P (B3 P σ T x y).2 A ⟨rest⟩ k | _ => False))
  | some (j, want) =>
   (match (A.ops[j]?).bind (·.dst), o.dst with
   | some dj, some d => (match jF want (σ.get dj) with
    | some g => (dj < σ.length /\ (g = true -> (evV P σ o.op o.type).1 /\ gOf (evV P σ o.op o.type).2 = true /\ (unc (evV P σ o.op o.type).2).flat = true)) /\ @EI P (σ.put d (.cnd g (unc (evV P σ o.op o.type).2))) A ⟨rest⟩ k
    | none => False)
   | _, _ => False)) := by
 simp only [EI, SI]
 rw [Ev]
 rfl
end
section
variable {P : Program} {σ : St} {k : Fr}
def Nxt {ι : Type} (S : ι -> St) (μ : ι -> Nat) (b : Nat) (σ : St) : Prop := ∃ i', μ i' < b /\ Wk σ (S i')
theorem Il {ι : Type} {S : ι -> St} {μ : ι -> Nat} {b : Nat} (i : ι) (hm : μ i < b) (hw : Wk σ (S i)) : Nxt S μ b σ := ⟨i, hm, hw⟩
theorem SY {c : qK} {ι : Type} (S : ι -> St) (μ : ι -> Nat) (i0 : ι) (h0 : Wk σ (S i0))
  (round : ∀ i, @WI P (S i) c (.nxt (Nxt S μ (μ i)) k)) : @Ov P σ c k :=
 Rt S μ i0 h0 fun i => UO (round i)
theorem u7 {f : FuncId} {fn : Func} {c : Code} (hf : P.funcs[f]? = some fn) (hb : fn.body = some c) (la : MP P f = true) {own : Bool} {args res : List (List D)}
  (hw : @WI P (WQ fn.ntmps args) ⟨c⟩ (.fin (AM P fn own res))) : Qz P f own args res := Cu hf hb la (UO hw)
theorem toStr {A : Kx} {o : OpI} {rest : zh} {S T : TypeId} {x : Operand} {d : Nat} {l : List UInt8} (lB : o.o.op = .convert S T x) (hg : o.o.guard = none) (hd : o.o.dst = some d)
  (h1 : gOf (look P σ S x) = true) (h2 : Ss P S = true) (h3 : Uc P T = true) (h4 : xh σ (unc (look P σ S x)) 1 (KM l)) (h : @EI P (σ.put d (.one (.d (.str ⟨l.toArray⟩)))) A rest k) : @SI P σ A o rest k :=
 wc lB hg hd h1 h2 h3 h4 h
theorem rA {A : Kx} {o : OpI} {rest : zh} {S T : TypeId} {x : Operand} {d : Nat} {s : ByteArray} (lB : o.o.op = .convert S T x) (hg : o.o.guard = none) (hd : o.o.dst = some d)
  (h1 : gOf (look P σ S x) = true) (h2 : Uc P S = true) (h3 : Ss P T = true) (h4 : unc (look P σ S x) = .one (.d (.str s))) (h5 : s.size <= 9223372036854775807) (h : @EI P (σ.put d (.one (.d (.sl 1 (KM s.data.toList))))) A rest k) : @SI P σ A o rest k :=
 CN lB hg hd h1 h2 h3 h4 h5 h
theorem v5 {f : FuncId} {fn : Func} {c : Code} (hf : P.funcs[f]? = some fn) (hb : fn.body = some c) (la : MP P f = true) {args res : List (List D)}
  (hw : @WI P (WQ fn.ntmps args) ⟨c⟩ (.fin (uX P fn res))) : Yv P f args res := EN hf hb la (UO hw)
def D0 (o : Oper) : Bool := match o.op with | .call ⟨.value _, _, _⟩ => false | _ => true
theorem evI {A : Kx} {o : OpI} {l : zh} {d : Nat} (hp : D0 o.o = true) (hg : o.o.guard = none) (hd : o.o.dst = some d) (h : (evS P σ o.o d).1 /\ @EI P (evS P σ o.o d).2 A l k) : @SI P σ A o l k := by
 refine rk (fun c lB f hc => ?_) hg hd h.1 h.2
 obtain ⟨cc, ca, ct⟩ := c
 simp only at hc; subst hc
 simp [D0, lB] at hp
theorem mC {A : Kx} {o : OpI} {l : zh} {d : Nat} {T : TypeId} {n : Nat} {parts : Array (Nat × Operand)} (lB : o.o.op = .buildSlice T n parts) (hg : o.o.guard = none) (hd : o.o.dst = some d)
  (h1 : σ.fresh d = true /\ XK P T = true /\ QF P (ZU P T) = true /\ 0 < P.cellsOf (ZU P T) /\ parts.toList.length = n /\ n * P.cellsOf (ZU P T) <= 16777216) (h2 : (Kw P σ (ZU P T) (P.cellsOf (ZU P T)) parts.toList 0).1)
  (h3 : YS d (Kw P σ (ZU P T) (P.cellsOf (ZU P T)) parts.toList 0).2.flatten = false)
  (h : @EI P (σ.new d (.one (.sref d 0 0 (Kw P σ (ZU P T) (P.cellsOf (ZU P T)) parts.toList 0).2.length)) [.lit (P.cellsOf (ZU P T)) (Kw P σ (ZU P T) (P.cellsOf (ZU P T)) parts.toList 0).2]) A l k) : @SI P σ A o l k := tP lB hg hd h1 h2 h3 h
theorem ra {A : Kx} {o : OpI} {l : zh} {d : Nat} {T : TypeId} {x : Operand} {z : List At} {zr : List D} {n : Nat} (lB : o.o.op = .makeSlice T x x) (hg : o.o.guard = none) (hd : o.o.dst = some d)
  (hz : j5 P 12 (ZU P T) = some z) (hP : zD z = some zr) (bx : Mr z = true) (h1 : σ.fresh d = true /\ XK P T = true /\ QF P (ZU P T) = true /\ 0 < P.cellsOf (ZU P T) /\ (lkI P σ x).1) (hn : (lkI P σ x).2 = (n : Int)) (hb : P.bytesOf (ZU P T) * n <= 281474976710656) (hm : n <= 9223372036854775807)
  (h : @EI P (σ.new d (.one (.sref d 0 0 n)) [.arr true (P.cellsOf (ZU P T)) (List.replicate n zr)]) A l k) : @SI P σ A o l k := u9 lB hg hd hz hP bx h1 hn hb hm h
theorem n9 {A : Kx} {o : OpI} {l : zh} {d : Nat} {x y : Operand} {t : TypeId} {lC news : List (List D)} {l1 l2 : List (Nat × Nat)} {size : Nat} (lB : o.o.op = .call ⟨.builtin .append, #[x, y], #[t, t]⟩) (hg : o.o.guard = none) (hd : o.o.dst = some d) (ln : A.bar o.o = true)
  (l7 : size = P.cellsOf (ZU P t)) (h1 : gOf (look P σ t x) = true /\ gOf (look P σ t y) = true /\ XK P t = true /\ QF P (ZU P t) = true /\ 0 < P.cellsOf (ZU P t))
  (h2 : (W0 σ (unc (look P σ t x)) size).1 /\ (W0 σ (unc (look P σ t x)) size).2 = (lC, l1)) (h3 : (VV σ (unc (look P σ t y)) size).1 /\ (VV σ (unc (look P σ t y)) size).2 = (news, l2))
  (h4 : (l1 ++ l2).Nodup /\ (σ.Zx (l1 ++ l2)).fresh d = true) (h5 : (lC.length + news.length) * P.bytesOf (ZU P t) <= 140737488355328 /\ lC.length + news.length <= 9223372036854775807)
  (h : @EI P ((σ.Zx (l1 ++ l2)).new d (.one (.sref d 0 0 (lC.length + news.length))) [.arr true size (lC ++ news)]) A l k) : @SI P σ A o l k := tk lB hg hd ln l7 h1 h2 h3 h4 h5 h
theorem nq {A : Kx} {o : OpI} {l : zh} {d : Nat} {x y : Operand} {t : TypeId} {rows : List (List D)} {size u j len lo n : Nat} (lB : o.o.op = .call ⟨.builtin .append, #[x, y], #[t, t]⟩) (hg : o.o.guard = none) (hd : o.o.dst = some d) (ln : A.bar o.o = true)
  (l7 : size = P.cellsOf (ZU P t)) (h1 : gOf (look P σ t x) = true /\ gOf (look P σ t y) = true /\ XK P t = true /\ QF P (ZU P t) = true /\ 0 < P.cellsOf (ZU P t))
  (h2 : unc (look P σ t x) = .one (.sref u j 0 len)) (h3 : unc (look P σ t y) = .one (.sref u j lo n)) (ho : σ.ob u j = .arr true size rows) (hle : len <= lo) (fL : lo + n <= rows.length)
  {news : List (List D)} (iE : cut rows lo n = news) (h4 : (σ.Z7 u j .none).fresh d = true) (h5 : (len + n) * P.bytesOf (ZU P t) <= 140737488355328 /\ len + n <= 9223372036854775807)
  (h : @EI P ((σ.Z7 u j .none).new d (.one (.sref d 0 0 ((rows.take len).length + news.length))) [.arr true size (rows.take len ++ news)]) A l k) : @SI P σ A o l k := tL lB hg hd ln l7 h1 h2 h3 ho hle fL iE h4 h5 h
theorem rH {A : Kx} {o : OpI} {l : zh} {d : Nat} {x y : Operand} {t : TypeId} {lC rows news : List (List D)} {l1 : List (Nat × Nat)} {size u j lo n : Nat} (lB : o.o.op = .call ⟨.builtin .append, #[x, y], #[t, t]⟩) (hg : o.o.guard = none) (hd : o.o.dst = some d) (ln : A.bar o.o = true)
  (l7 : size = P.cellsOf (ZU P t)) (h1 : gOf (look P σ t x) = true /\ gOf (look P σ t y) = true /\ XK P t = true /\ QF P (ZU P t) = true /\ 0 < P.cellsOf (ZU P t))
  (h2 : B1 σ (unc (look P σ t x)) size lC l1) (h3 : unc (look P σ t y) = .one (.sref u j lo n)) (ho : σ.ob u j = .arr true size rows) (cy : (u, j) ∉ l1) (hle : lo + n <= rows.length) (iE : cut rows lo n = news)
  (h4 : ((σ.Z7 u j (.arr true size (JY rows lo n))).Zx l1).fresh d = true) (h5 : (lC.length + n) * P.bytesOf (ZU P t) <= 140737488355328 /\ lC.length + n <= 9223372036854775807)
  (h : @EI P (((σ.Z7 u j (.arr true size (JY rows lo n))).Zx l1).new d (.one (.sref d 0 0 (lC.length + news.length))) [.arr true size (lC ++ news)]) A l k) : @SI P σ A o l k := tF lB hg hd ln l7 h1 h2 h3 ho cy hle iE h4 h5 h
theorem r6 {A : Kx} {o : OpI} {l : zh} {T : TypeId} {x y : Operand} {t j i c size : Nat} {rows : List (List D)} {ds : List D} {L : List (Nat × Nat)} (lB : o.o.op = .store T x y) (hg : o.o.guard = none) (hd : o.o.dst = none) (ln : A.bar o.o = true)
  (hx : unc (look P σ 0 x) = .one (.ptr t j i c)) (ho : σ.ob t j = .arr true size rows) (hi : i < rows.length) (h1 : qU P T = true /\ gOf (look P σ 0 x) = true /\ gOf (look P σ T y) = true /\ (unc (look P σ T y)).flat = true)
  (h2 : Q7 σ (unc (look P σ T y)).cells = some ds) (h3 : Qe σ (unc (look P σ T y)).cells) (h4 : Yg (unc (look P σ T y)).cells = L) (h5 : L.Nodup /\ (t, j) ∉ L /\ (σ.Zx L).zl (At.isT t) = false) (h6 : ds.length = P.cellsOf T /\ c + P.cellsOf T <= size)
  (h : @EI P ((σ.Zx L).Z7 t j (.arr true size (rows.set i (place (rowAt rows i) c ds)))) A l k) : @SI P σ A o l k := tB lB hg hd ln hx ho hi h1 h2 h3 h4 h5 h6 h
theorem nz {A : Kx} {o : OpI} {l : zh} {T : TypeId} {x y : Operand} {t j i size : Nat} {rows : List (List D)} {ds : List D} {L : List (Nat × Nat)} (lB : o.o.op = .store T x y) (hg : o.o.guard = none) (hd : o.o.dst = none) (ln : A.bar o.o = true)
  (hx : unc (look P σ 0 x) = .one (.ptr t j i 0)) (ho : σ.ob t j = .arr true size rows) (hi : i < rows.length) (h1 : qU P T = true /\ gOf (look P σ 0 x) = true /\ gOf (look P σ T y) = true /\ (unc (look P σ T y)).flat = true)
  (h2 : Q7 σ (unc (look P σ T y)).cells = some ds) (h3 : Qe σ (unc (look P σ T y)).cells) (h4 : Yg (unc (look P σ T y)).cells = L) (h5 : L.Nodup /\ (t, j) ∉ L /\ (σ.Zx L).zl (At.isT t) = false) (h6 : ds.length = P.cellsOf T /\ P.cellsOf T = size)
  (h : @EI P ((σ.Zx L).Z7 t j (.arr true size (rows.set i ds))) A l k) : @SI P σ A o l k := tQ lB hg hd ln hx ho hi h1 h2 h3 h4 h5 h6 h
theorem oa {A : Kx} {o : OpI} {l : zh} {T : TypeId} {x y : Operand} {t j i c k' q n size : Nat} {s rows : List (List D)} {ds : List D} {L : List (Nat × Nat)} (lB : o.o.op = .store T x y) (hg : o.o.guard = none) (hd : o.o.dst = none) (ln : A.bar o.o = true) {off : Nat}
  (hx : unc (look P σ 0 x) = .one (.tref t j i c (some off))) (eg : off = k' * n + q) (ho : σ.ob t j = .arr true size rows) (hi : i < rows.length) (hc : (rowAt rows i)[c]? = some (.sl n s)) (hk : k' < s.length) (h1 : qU P T = true /\ gOf (look P σ 0 x) = true /\ gOf (look P σ T y) = true /\ (unc (look P σ T y)).flat = true)
  (h2 : Q7 σ (unc (look P σ T y)).cells = some ds) (h3 : Qe σ (unc (look P σ T y)).cells) (h4 : Yg (unc (look P σ T y)).cells = L) (h5 : L.Nodup /\ (t, j) ∉ L) (h6 : ds.length = P.cellsOf T /\ q + P.cellsOf T <= n)
  (h : @EI P ((σ.Zx L).Z7 t j (.arr true size (rows.set i (place (rowAt rows i) c [.sl n (s.set k' (place (rowAt s k') q ds))])))) A l k) : @SI P σ A o l k := tf lB hg hd ln ⟨eg ▸ hx, ho, hi, hc, hk, h1, h2, h3, h4, h5, h6⟩ h
end
attribute [simp] r7 p7 uB rX tI rp rW s9 pa oI nT wO uQ pZ A6 wT pj vA AW oJ sy
end Go.Vm
namespace Go.Vm
open Go.RowKit
def Cells (w : World) : CS := fun b _ => b < w.heap.size
def Reads (w : World) (v : Value) (row : List D) : Prop := ∃ cs, Kr v cs /\ YA (Rd (Cells w) w) cs row
theorem Fx {P : Program} {f : FuncId} {own : Bool} {rows : List (List D)} {lu : List Value} {w : World} (h : Qz P f own rows [[.bool true]]) (hv : YA (Reads w) lu rows) :
  Calls P f lu.toArray w fun e w' => e = .returned (.bool true) /\ Below w.heap.size w w' := by
 refine (h.2 (Cells w) w lu (fun _ _ hb => hb) hv).mono ?_
 rintro e w' ⟨vs, lf, Y, rfl, hb, _, hf, hr, _⟩
 refine ⟨?_, hb⟩
 cases hr with
 | cons h1 hr =>
  cases hr
  cases hf with
  | cons h2 hf =>
   cases hf
   cases h1 with
   | cons h3 h1 =>
    cases h1
    have h4 : ∀ v, xg own (Tof (Cells w) Y) w' v (.bool true) -> Rd (Tof (Cells w) Y) w' v (.bool true) := by
     intro v hv
     unfold xg at hv
     split at hv
     ·exact hv
     ·exact hv
    have h4 := h4 _ h3
    cases h4
    rcases h2 with ⟨v, iy, hvv, _⟩ | ⟨hl, _⟩
    ·cases iy; rw [hvv]; rfl
    ·simp at hl
end Go.Vm
namespace Go.Vm
open Go.RowKit
def T6 (P : Program) : Nat -> TypeId -> Bool
 | 0, _ => false
 | n + 1, t =>
  match P.underlying t with
  | some .bool => true
  | some (.int _) => true
  | some .string => true
  | some (.slice e) => T6 P n e
  | some (.struct fs) => fs.toList.all (fun f => T6 P n f.type) && P.cellsOf t != 1
  | _ => false
def TyR (P : Program) : Nat -> TypeId -> List D -> Prop
 | 0, _, _ => False
 | n + 1, t, row =>
  match P.underlying t with
  | some .bool => ∃ b, row = [.bool b]
  | some (.int k) => ∃ m, row = [.int k m] /\ k.min <= m /\ m <= k.max
  | some .string => ∃ s, row = [.str s] /\ s.size <= maxLen
  | some (.slice e) => ∃ rows, row = [.sl (P.cellsOf e) rows] /\ rows.length <= maxLen /\ ∀ r ∈ rows, TyR P n e r /\ r.length = P.cellsOf e
  | some (.struct fs) => row.length = P.cellsOf t /\ ∀ f ∈ fs.toList, TyR P n f.type (cut row f.offset (P.cellsOf f.type))
  | _ => False
def RM (P : Program) : Nat -> List Field -> Nat -> Bool
 | k, [], n => k == n
 | k, f :: fs, n => f.offset == k && RM P (k + P.cellsOf f.type) fs n
def DV (P : Program) : Nat -> TypeId -> Bool
 | 0, _ => false
 | n + 1, t =>
  match P.underlying t with
  | some .bool => P.cellsOf t == 1
  | some (.int _) => P.cellsOf t == 1
  | some .string => P.cellsOf t == 1
  | some (.slice e) => P.cellsOf t == 1 && DV P n e
  | some (.struct fs) => fs.toList.all (fun f => DV P n f.type) && RM P 0 fs.toList (P.cellsOf t)
  | _ => false
theorem Ox {α β : Type} {f : α -> Option β} : ∀ {l : List α} {m : List β}, l.mapM f = some m -> l.length = m.length /\ ∀ (i : Nat) a, l[i]? = some a -> ∃ b, m[i]? = some b /\ f a = some b
 | [], m, h => by simp at h; subst h; exact ⟨rfl, fun i a ha => by simp at ha⟩
 | x :: l, m, h => by
  simp only [List.mapM_cons, Option.bind_eq_bind, Option.bind_eq_some_iff] at h
  obtain ⟨b, hb, bs, hbs, h⟩ := h
  simp at h; subst h
  obtain ⟨h1, h2⟩ := Ox hbs
  refine ⟨by simp [h1], fun i a ha => ?_⟩
  cases i with
  | zero => simp at ha; subst ha; exact ⟨b, by simp, hb⟩
  | succ i => simpa using h2 i a (by simpa using ha)
theorem uV {w : World} {a : Addr} {n : Nat} {cs : List Value} (h : w.cells? 0 a n = some cs) : cs.length = n /\ ∀ i v, cs[i]? = some v -> w.cell? (a.add i) = some v := by
 unfold World.cells? at h
 simp at h
 obtain ⟨h1, h2⟩ := Ox h
 simp at h1
 refine ⟨h1.symm, fun i v hv => ?_⟩
 have hi : i < n := by have := (List.getElem?_eq_some_iff.1 hv).1; omega
 obtain ⟨b, hb, hf⟩ := h2 i i (by simp [hi])
 rw [hv] at hb; cases hb; exact hf
theorem SB {w : World} {P : Program} {q n : Nat} {cs : List Value} (hl : cs.length = n) : ∀ {fs : List Field} {k : Nat}, RM P k fs n = true -> k <= n ->
  (∀ f ∈ fs, ∃ row, YA (Rd (Cells w) w) (cut cs f.offset (P.cellsOf f.type)) row /\ TyR P q f.type row) ->
  ∃ tail, YA (Rd (Cells w) w) (cs.drop k) tail /\ ∀ (pre : List D), pre.length = k -> ∀ f ∈ fs, TyR P q f.type (cut (pre ++ tail) f.offset (P.cellsOf f.type))
 | [], k, hc, hk, _ => by
  simp only [RM, beq_iff_eq] at hc
  subst hc
  exact ⟨[], by rw [List.drop_eq_nil_of_le (by omega)]; exact .nil, fun _ _ f hf => by cases hf⟩
 | f :: fs, k, hc, hk, h => by
  simp only [RM, Bool.and_eq_true, beq_iff_eq] at hc
  obtain ⟨row, lE, gh⟩ := h f (by simp)
  rw [hc.1] at lE
  have hkn : k + P.cellsOf f.type <= n := by
   clear h lE gh
   have : ∀ (fs : List Field) (k : Nat), RM P k fs n = true -> k <= n := by
    intro fs
    induction fs with
    | nil => intro k hh; simp [RM] at hh; omega
    | cons g gs ih => intro k hh; simp only [RM, Bool.and_eq_true, beq_iff_eq] at hh; have := ih _ hh.2; omega
   exact this _ _ hc.2
  have g5 : row.length = P.cellsOf f.type := by rw [<- lE.length]; simp [cut]; omega
  obtain ⟨tail, htl, eh⟩ := SB hl hc.2 hkn (fun g hg => h g (by simp [hg]))
  refine ⟨row ++ tail, ?_, ?_⟩
  ·have : cs.drop k = cut cs k (P.cellsOf f.type) ++ cs.drop (k + P.cellsOf f.type) := by
    unfold cut
    rw [<- List.drop_drop]
    exact (List.take_append_drop _ _).symm
   rw [this]
   exact lE.append htl
  ·intro pre gR g hg
   rcases List.mem_cons.1 hg with rfl | hg
   ·have : cut (pre ++ (row ++ tail)) g.offset (P.cellsOf g.type) = row := by
     unfold cut
     rw [hc.1, <- gR, List.drop_left, <- g5, List.take_left]
    rw [this]; exact gh
   ·have := eh (pre ++ row) (by rw [List.length_append, gR, g5]) g hg
    rw [<- List.append_assoc]; exact this
section
variable {H : Type} {enc : TypeId × Value -> H} {P : Program} {w : World} {sp : Nat -> Bool} {held : Bool} {fuel : Nat} {t : TypeId} {cs : List Value} {d : DataW H} {ps : List MemPlace}
theorem trod_bool (hu : P.underlying t = some .bool) (h : DataW.trod enc P w 0 sp held fuel t cs = some (d, ps)) : ∃ b, cs = [.bool b] := by
 cases fuel with
 | zero => simp [DataW.trod] at h
 | succ fuel =>
  unfold DataW.trod at h
  rw [hu] at h
  split at h <;> simp_all
theorem trod_int {k : IntKind} (hu : P.underlying t = some (.int k)) (h : DataW.trod enc P w 0 sp held fuel t cs = some (d, ps)) : ∃ m, cs = [.int k m] /\ k.min <= m /\ m <= k.max := by
 cases fuel with
 | zero => simp [DataW.trod] at h
 | succ fuel =>
  unfold DataW.trod at h
  rw [hu] at h
  split at h <;> simp_all [Lit.wf]
theorem sU (hu : P.underlying t = some .string) (h : DataW.trod enc P w 0 sp held fuel t cs = some (d, ps)) : ∃ s, cs = [.string s] /\ s.size <= maxLen := by
 cases fuel with
 | zero => simp [DataW.trod] at h
 | succ fuel =>
  unfold DataW.trod at h
  rw [hu] at h
  split at h <;> simp_all
theorem trod_slice {e : TypeId} (hu : P.underlying t = some (.slice e)) (h : DataW.trod enc P w 0 sp held fuel t cs = some (d, ps)) :
  cs = [.slice none 0 0] \/ ∃ a len cap, cs = [.slice (some a) len cap] /\ len <= cap /\ cap <= maxLen /\
   ∀ i, i < len -> ∃ xs f x, w.cells? 0 (a.add (i * P.cellsOf e)) (P.cellsOf e) = some xs /\ DataW.trod enc P w 0 sp held f e xs = some x := by
 cases fuel with
 | zero => simp [DataW.trod] at h
 | succ fuel =>
  unfold DataW.trod at h
  rw [hu] at h
  split at h <;> first | (simp_all; done) | skip
  rename_i e' a len cap heq
  cases heq
  refine .inr ⟨a, len, cap, rfl, ?_⟩
  simp only at h
  split at h
  ·rename_i hc
   refine ⟨hc.2.1, hc.2.2, fun i hi => ?_⟩
   simp only [Option.bind_eq_some_iff] at h
   obtain ⟨elems, hel, _⟩ := h
   obtain ⟨hl, hg⟩ := Ox hel
   obtain ⟨x, _, hx⟩ := hg i i (by simp [hi])
   obtain ⟨xs, h1, h2⟩ := Option.bind_eq_some_iff.1 hx
   exact ⟨xs, fuel, x, h1, h2⟩
  ·cases h
theorem trod_struct {fs : Array Field} (hu : P.underlying t = some (.struct fs)) (h : DataW.trod enc P w 0 sp held fuel t cs = some (d, ps)) :
  cs.length = P.cellsOf t /\ ∀ f ∈ fs.toList, ∃ q x, DataW.trod enc P w 0 sp held q f.type (cut cs f.offset (P.cellsOf f.type)) = some x := by
 cases fuel with
 | zero => simp [DataW.trod] at h
 | succ fuel =>
  unfold DataW.trod at h
  rw [hu] at h
  split at h <;> first | (simp_all; done) | skip
  rename_i fs' heq
  cases heq
  split at h
  ·rename_i hc
   refine ⟨hc, fun f hf => ?_⟩
   simp only [Option.map_eq_some_iff] at h
   obtain ⟨xs, hx, _⟩ := h
   obtain ⟨_, hg⟩ := Ox hx
   obtain ⟨i, hi⟩ := List.mem_iff_getElem?.1 hf
   obtain ⟨x, _, hx⟩ := hg i f hi
   exact ⟨fuel, x, hx⟩
  ·cases h
end
theorem rz {w : World} {a : Addr} {v : Value} (h : w.cell? a = some v) : a.block < w.heap.size := by
 unfold World.cell? at h
 cases hh : w.heap[a.block]? with
 | none => simp [hh] at h
 | some o => exact (Array.getElem?_eq_some_iff.1 hh).1
theorem uP (a : Addr) (m k : Nat) (h : m <= k) : a.add k = (a.add m).add (k - m) := by
 simp only [Addr.add]
 by_cases h0 : m = 0
 ·subst h0; simp
 ·by_cases h1 : k - m = 0
  ·have : k = m := by omega
   subst this; simp [h0]
  ·have : k ≠ 0 := by omega
   simp only [h0, h1, this, if_false]
   congr 1
   omega
theorem wH {w : World} {P : Program} {n size : Nat} {e : TypeId} {a : Addr} {len cap : Nat} (hlc : len <= cap) (dY : cap <= maxLen)
  (h : ∀ i, i < len -> ∃ xs row, w.cells? 0 (a.add (i * size)) size = some xs /\ YA (Rd (Cells w) w) xs row /\ TyR P n e row) :
  ∃ rows : List (List D), Rd (Cells w) w (.slice (some a) len cap) (.sl size rows) /\ rows.length <= maxLen /\ ∀ r ∈ rows, TyR P n e r /\ r.length = size := by
 have key : ∀ m, m <= len -> ∃ rows : List (List D), rows.length = m /\ (∀ r ∈ rows, TyR P n e r /\ r.length = size) /\
   ∀ k d, rows.flatten[k]? = some d -> ∃ v, w.cell? (a.add k) = some v /\ Rd (Cells w) w v d := by
  intro m
  induction m with
  | zero => intro _; exact ⟨[], rfl, (by intro r hr; cases hr), (by intro k d hk; simp at hk)⟩
  | succ m ih =>
   intro hm
   obtain ⟨rows, hl, ht, hk⟩ := ih (by omega)
   obtain ⟨xs, row, hx, lE, gh⟩ := h m (by omega)
   obtain ⟨cz, hxc⟩ := uV hx
   have g5 : row.length = size := by rw [<- lE.length, cz]
   have iV : rows.flatten.length = m * size := by rw [YQ rows size (fun r hr => (ht r hr).2), hl]
   refine ⟨rows ++ [row], by simp [hl], fun r hr => ?_, fun k d hd => ?_⟩
   ·rcases List.mem_append.1 hr with hr | hr
    ·exact ht r hr
    ·simp at hr; subst hr; exact ⟨gh, g5⟩
   ·rw [List.flatten_append, List.flatten_singleton] at hd
    rcases Nat.lt_or_ge k rows.flatten.length with lN | fb
    ·rw [List.getElem?_append_left lN] at hd
     exact hk k d hd
    ·rw [List.getElem?_append_right fb] at hd
     obtain ⟨v, hv, hr⟩ := lE.get' _ d hd
     refine ⟨v, ?_, hr⟩
     have := hxc _ v hv
     rw [show a.add k = (a.add (m * size)).add (k - rows.flatten.length) by rw [iV]; rw [iV] at fb; exact uP a (m * size) k fb]
     exact this
 obtain ⟨rows, hl, ht, hk⟩ := key len (Nat.le_refl _)
 refine ⟨rows, ?_, by omega, ht⟩
 have cP : rows.flatten ≠ [] -> a.spot = none := by
  intro lD
  obtain ⟨d, tl, bz⟩ := List.exists_cons_of_ne_nil lD
  obtain ⟨v, hv, _⟩ := hk 0 d (by rw [bz]; rfl)
  have := World.cell?_spot hv
  simpa [Addr.add] using this
 refine .sl a len cap size rows (fun k => (w.cell? (a.add k)).getD undef) hl hlc dY (fun r hr => (ht r hr).2) cP (fun k d hd => ?_) (fun k d hd => ?_)
 ·obtain ⟨v, hv, _⟩ := hk k d hd
  have eA : a.spot = none := cP (by intro hh; rw [hh] at hd; simp at hd)
  have he : a.add k = ⟨a.block, a.off + k, none⟩ := by
   obtain ⟨b, o, sp⟩ := a
   simp only at eA
   subst eA
   simp only [Addr.add]
   split
   ·rename_i h0; subst h0; rfl
   ·rfl
  rw [he] at hv ⊢
  rw [hv]
  exact ⟨rfl, rz (a := ⟨a.block, a.off + k, none⟩) hv⟩
 ·obtain ⟨v, hv, hr⟩ := hk k d hd
  simp only [hv, Option.getD_some]; exact hr
theorem OB {H : Type} {enc : TypeId × Value -> H} {P : Program} {w : World} {sp : Nat -> Bool} {held : Bool} : ∀ (n : Nat) {fuel : Nat} {t : TypeId} {cs : List Value} {d : DataW H} {ps : List MemPlace}, T6 P n t = true -> DV P n t = true ->
  DataW.trod enc P w 0 sp held fuel t cs = some (d, ps) -> ∃ row, YA (Rd (Cells w) w) cs row /\ TyR P n t row
 | 0, _, _, _, _, _, h, _, _ => by simp [T6] at h
 | n + 1, fuel, t, cs, d, ps, hp, hl, h => by
  simp only [T6] at hp
  simp only [DV] at hl
  simp only [TyR]
  cases hu : P.underlying t with
  | none => simp [hu] at hp
  | some td =>
   cases td with
   | bool => obtain ⟨b, rfl⟩ := trod_bool hu h; exact ⟨_, .cons (.bool b) .nil, b, rfl⟩
   | int k => obtain ⟨m, rfl, h1, h2⟩ := trod_int hu h; exact ⟨_, .cons (.int k m) .nil, m, rfl, h1, h2⟩
   | string => obtain ⟨s, rfl, h1⟩ := sU hu h; exact ⟨_, .cons (.str s) .nil, s, rfl, h1⟩
   | slice e =>
    simp only [hu] at hp hl
    simp only [Bool.and_eq_true] at hl
    rcases trod_slice hu h with rfl | ⟨a, len, cap, rfl, h1, h2, h3⟩
    ·exact ⟨_, .cons (.nil (P.cellsOf e)) .nil, [], rfl, by simp, by simp⟩
    ·obtain ⟨rows, hr, g5, hrt⟩ := wH (P := P) (n := n) (size := P.cellsOf e) (e := e) h1 h2 (fun i hi => by
      obtain ⟨xs, f, x, hx, ht⟩ := h3 i hi
      obtain ⟨row, lE, gh⟩ := OB n hp hl.2 (d := x.1) (ps := x.2) ht
      exact ⟨xs, row, hx, lE, gh⟩)
     exact ⟨_, .cons hr .nil, rows, rfl, g5, hrt⟩
   | struct fs =>
    simp only [hu] at hp hl
    simp only [Bool.and_eq_true] at hp hl
    obtain ⟨h1, h2⟩ := trod_struct hu h
    obtain ⟨row, lE, eh⟩ := SB (w := w) (P := P) (q := n) h1 hl.2 (Nat.zero_le _) (fun f hf => by
     obtain ⟨q, x, hx⟩ := h2 f hf
     exact OB n (List.all_eq_true.1 hp.1 f hf) (List.all_eq_true.1 hl.1 f hf) (d := x.1) (ps := x.2) hx)
    refine ⟨row, by simpa using lE, ?_, fun f hf => by simpa using eh [] rfl f hf⟩
    have := lE.length
    simp at this
    omega
   | _ => simp [hu] at hp
end Go.Vm
namespace Go.Vm
open Go.RowKit Go.WideShapes Go.ChangeAt Go.ChangeShapes
theorem Eg {H : Type} {enc : TypeId × Value -> H} {P : Program} {w : World} {sp : Nat -> Bool} {held : Bool} {n base : Nat} {t : TypeId} {v : Value} {d : DataW H} {ps : List MemPlace} {r : Reach}
  (hp : T6 P n t = true) (hl : DV P n t = true) (la : Value.okWide P w r base t v) (h : DataW.Trod enc P w 0 sp held t v d ps) : ∃ row, Reads w v row /\ TyR P n t row := by
 obtain ⟨fuel, hf⟩ := h
 obtain ⟨row, lE, gh⟩ := OB n hp hl hf
 refine ⟨row, ⟨v.cells.toList, ?_, lE⟩, gh⟩
 cases n with
 | zero => simp [T6] at hp
 | succ n =>
  simp only [T6] at hp
  cases hu : P.underlying t with
  | none => simp [hu] at hp
  | some td =>
   cases td with
   | bool => obtain ⟨b, rfl⟩ := okWide_bool hu la; exact .inl ⟨_, rfl, rfl, rfl⟩
   | int k => obtain ⟨b, rfl⟩ := okWide_int hu la; exact .inl ⟨_, rfl, rfl, rfl⟩
   | string => obtain ⟨b, rfl⟩ := okWide_string hu la; exact .inl ⟨_, rfl, rfl, rfl⟩
   | slice e => obtain ⟨a, l, c, rfl⟩ := okWide_slice hu la; exact .inl ⟨_, rfl, rfl, rfl⟩
   | struct fs =>
    obtain ⟨cs, rfl, l7⟩ := okWide_struct hu la
    simp [hu] at hp
    exact .inr ⟨by simp [Value.cells, l7, hp.2], by simp [Value.cells]⟩
   | _ => simp [hu] at hp
def E3 (P : Program) (n : Nat) : List TypeId -> List (List D) -> Prop
 | [], [] => True
 | t :: ts, r :: rs => TyR P n t r /\ E3 P n ts rs
 | _, _ => False
def VK (P : Program) (n : Nat) (ts : List TypeId) : Bool := ts.all fun t => T6 P n t && DV P n t && P.readableRec t && decide (t < P.types.size)
theorem DA {H : Type} {enc : TypeId × Value -> H} {P : Program} {w : World} {sp : Nat -> Bool} {held : Bool} {n base : Nat} {r : Reach} : ∀ {ts : List TypeId} {vs : List Value} {ds : List (DataW H)} {ps : List MemPlace}, VK P n ts = true ->
  (∀ (j : Nat) t v, ts[j]? = some t -> vs[j]? = some v -> Value.okWide P w r base t v) -> DataW.TrodAll enc P w 0 sp held ts vs ds ps -> ∃ rows, YA (Reads w) vs rows /\ E3 P n ts rows
 | [], [], [], _, _, _, _ => ⟨[], .nil, trivial⟩
 | t :: ts, v :: vs, d :: ds, _, hp, la, h => by
  obtain ⟨p, q, h1, h2, _⟩ := h
  simp only [VK, List.all_cons, Bool.and_eq_true] at hp
  obtain ⟨row, hr, ht⟩ := Eg hp.1.1.1.1 hp.1.1.1.2 (la 0 t v rfl rfl) h1
  obtain ⟨rows, gi, hts⟩ := DA (by simpa [VK] using hp.2) (fun j t v ht hv => la (j + 1) t v ht hv) h2
  exact ⟨row :: rows, .cons hr gi, ht, hts⟩
 | [], [], _ :: _, _, _, _, h => h.elim
 | [], _ :: _, _, _, _, _, h => by cases ‹List (DataW H)› <;> exact h.elim
 | _ :: _, [], _, _, _, _, h => by cases ‹List (DataW H)› <;> exact h.elim
 | _ :: _, _ :: _, [], _, _, _, h => h.elim
theorem Pq {H : Type} {enc : TypeId × Value -> H} {P : Program} {n : Nat} (gf : laidOutB P = true) {W W' : World} (hb : Below W.heap.size W W') : ∀ {ts : List TypeId} {vs : List Value} {ds : List (DataW H)} {ps : List MemPlace}, VK P n ts = true ->
  DataW.TrodAll enc P W 0 (fun _ => true) true ts vs ds ps -> DataW.TrodAll enc P W' 0 (fun b => decide (b < W.heap.size)) true ts vs ds ps
 | [], [], [], _, _, h => h
 | t :: ts, v :: vs, d :: ds, _, hp, h => by
  obtain ⟨p, q, h1, h2, rfl⟩ := h
  simp only [VK, List.all_cons, Bool.and_eq_true, decide_eq_true_eq] at hp
  have lt0 : ∀ x ∈ p, x.block < W.heap.size := by obtain ⟨m, hm⟩ := h1; exact DataW.trod_lt m _ _ _ hm
  exact ⟨p, q, Below.trod gf hp.1.1.2 hp.1.2 h1 hb lt0, Pq gf hb (by simpa [VK] using hp.2) h2, rfl⟩
 | [], [], _ :: _, _, _, h => h.elim
 | [], _ :: _, _, _, _, h => by cases ‹List (DataW H)› <;> exact h.elim
 | _ :: _, [], _, _, _, h => by cases ‹List (DataW H)› <;> exact h.elim
 | _ :: _, _ :: _, [], _, _, h => h.elim
end Go.Vm
