/- An abstract machine RH the model of Go, by value, and that it is sound: part Vc. No condition. -/
import Derived.Test.YthjkhlcbpfnobaaGreatVf
import Derived.ProofKit
import Derived.OpenShut
import Derived.Below
import Derived.ChangeOld
import Derived.DataReads
import Derived.Carry
set_option linter.unusedVariables false
set_option linter.unusedSimpArgs false
namespace Go.Vm
open Go.RowKit
abbrev Ren := List ((Nat × Nat) × Option (Nat × Nat))
def J3 : Ren -> Nat -> Nat -> Option (Nat × Nat)
 | [], t, j => some (t, j)
 | (n, o) :: ρ, t, j => if t = n.1 /\ j = n.2 then o else J3 ρ t j
def inF : List (Nat × Nat) -> Nat -> Nat -> Bool
 | [], _, _ => false
 | n :: F, t, j => (t == n.1 && j == n.2) || inF F t j
def PC (σ : St) (ρ : Ren) (F : List (Nat × Nat)) : At -> At -> Prop
 | _, .any => True
 | .d x, .d y => x = y
 | .nil _, .nil _ => True
 | .nil s, .d y => y = .sl s []
 | .nil _, .sref t j lo len => J3 ρ t j = none /\ lo = 0 /\ len = 0
 | .sref t j lo len, .sref t' j' rG tN => J3 ρ t' j' = some (t, j) /\ lo = rG /\ len = tN
 | .sref t j lo len, .d y => inF F t j = true /\ (match σ.ob t j with | .arr _ s rows => y = .sl s (cut rows lo len) | _ => False)
 | .tref t j i c o, .tref t' j' i' c' o' => J3 ρ t' j' = some (t, j) /\ i = i' /\ c = c' /\ o = o' /\ (match σ.ob t j with | .arr true _ _ => True | _ => False)
 | .ptr t j i c, .ptr t' j' i' c' => J3 ρ t' j' = some (t, j) /\ i = i' /\ c = c'
 | .bptr t c, .bptr t' c' => J3 ρ t' 0 = some (t, 0) /\ c = c'
 | .fn f t, .fn f' t' => J3 ρ t' 0 = some (t, 0) /\ f = f'
 | .rptr r c, .rptr r' c' => r = r' /\ c = c'
 | _, _ => False
def jr (σ : St) (ρ : Ren) (F : List (Nat × Nat)) : List At -> List At -> Prop
 | [], [] => True
 | x :: xs, y :: ys => PC σ ρ F x y /\ jr σ ρ F xs ys
 | _, _ => False
def wkV (σ : St) (ρ : Ren) (F : List (Nat × Nat)) : V -> V -> Prop
 | _, .any => True
 | .one x, .one y => PC σ ρ F x y
 | .agg xs, .agg ys => jr σ ρ F xs ys
 | .fix u (.one x), .fix u' (.one y) => u = u' /\ PC σ ρ F x y
 | .fix u (.agg xs), .fix u' (.agg ys) => u = u' /\ jr σ ρ F xs ys
 | .fix _ (.one x), .one y => PC σ ρ F x y
 | .fix _ (.agg xs), .agg ys => jr σ ρ F xs ys
 | _, _ => False
def Od (σ : St) (ρ : Ren) (F : List (Nat × Nat)) (t' j' : Nat) : Ob -> Prop
 | .none => True
 | .arr q size rows => (match J3 ρ t' j' with
  | none => rows = []
  | some (t, j) => inF F t j = false /\ (match σ.ob t j with | .arr p s r => (p = q \/ p = false /\ ∀ x ∈ rows, ∀ y ∈ x, y.scalar = true) /\ s = size /\ r = rows | _ => False))
 | .lit _ _ => False
 | .box cells => (match J3 ρ t' j' with
  | none => False
  | some (t, j) => inF F t j = false /\ (match σ.ob t j with | .box cs => jr σ ρ F cs cells | _ => False))
def Lo (σ : St) (ρ : Ren) (F : List (Nat × Nat)) (t : Nat) : List Ob -> Nat -> Prop
 | [], _ => True
 | o :: os, j => Od σ ρ F t j o /\ Lo σ ρ F t os (j + 1)
def kK (σ : St) (ρ : Ren) (F : List (Nat × Nat)) : List Ent -> List Ent -> Nat -> Prop
 | [], [], _ => True
 | e :: es, e' :: pa, t => (wkV σ ρ F e.1 e'.1 /\ Lo σ ρ F t e'.2 0) /\ kK σ ρ F es pa (t + 1)
 | _, _, _ => False
def Qz : Ren -> Nat -> Nat -> Bool
 | [], _, _ => false
 | (n, _) :: ρ, t, j => (t == n.1 && j == n.2) || Qz ρ t j
def yW : Ren -> Nat -> Nat -> Bool
 | [], _, _ => false
 | (_, some o) :: ρ, t, j => (t == o.1 && j == o.2) || yW ρ t j
 | (_, none) :: ρ, t, j => yW ρ t j
def LM (σ' : St) (t j : Nat) : Bool := match σ'.ob t j with | .none => true | _ => false
def xL (σ' : St) (all : Ren) : Ren -> Bool
 | [] => true
 | (_, some o) :: ρ => !yW ρ o.1 o.2 && (Qz all o.1 o.2 || LM σ' o.1 o.2) && xL σ' all ρ
 | (_, none) :: ρ => xL σ' all ρ
theorem yh : ∀ {ρ : Ren} {t j : Nat}, Qz ρ t j = false -> J3 ρ t j = some (t, j)
 | [], _, _, _ => rfl
 | (n, o) :: ρ, t, j, h => by
  simp only [Qz, Bool.or_eq_false_iff, Bool.and_eq_false_iff, beq_eq_false_iff_ne] at h
  simp only [J3]
  rw [if_neg (by rintro ⟨h1, h2⟩; rcases h.1 with h3 | h3 <;> contradiction)]
  exact yh h.2
theorem qo : ∀ {ρ : Ren} {t j : Nat} {o : Nat × Nat}, Qz ρ t j = true -> J3 ρ t j = some o -> yW ρ o.1 o.2 = true
 | [], _, _, _, h, _ => by simp [Qz] at h
 | (n, o') :: ρ, t, j, o, h, ho => by
  simp only [J3] at ho
  split at ho
  ·subst ho; simp [yW]
  ·rename_i wB
   have h' : Qz ρ t j = true := by
    simp only [Qz, Bool.or_eq_true, Bool.and_eq_true, beq_iff_eq] at h
    rcases h with h | h
    ·exact absurd h wB
    ·exact h
   have := qo h' ho
   cases o' with
   | none => simpa [yW] using this
   | some o' => simp [yW, this]
theorem Pm {σ' : St} {all : Ren} : ∀ {ρ : Ren} {t j t' j' : Nat} {o : Nat × Nat}, xL σ' all ρ = true -> Qz ρ t j = true -> Qz ρ t' j' = true -> J3 ρ t j = some o -> J3 ρ t' j' = some o -> (t, j) = (t', j')
 | [], _, _, _, _, _, _, h, _, _, _ => by simp [Qz] at h
 | (n, o') :: ρ, t, j, t', j', o, wa, hn, wz, ho, wZ => by
  have iF : xL σ' all ρ = true := by
   cases o' with
   | none => simpa [xL] using wa
   | some o' => simp only [xL, Bool.and_eq_true] at wa; exact wa.2
  simp only [J3] at ho wZ
  by_cases h1 : t = n.1 /\ j = n.2
  ·rw [if_pos h1] at ho
   by_cases h2 : t' = n.1 /\ j' = n.2
   ·rw [h1.1, h1.2, h2.1, h2.2]
   ·rw [if_neg h2] at wZ
    have h' : Qz ρ t' j' = true := by
     simp only [Qz, Bool.or_eq_true, Bool.and_eq_true, beq_iff_eq] at wz
     exact wz.resolve_left h2
    have hold := qo h' wZ
    subst ho
    simp only [xL, Bool.and_eq_true, Bool.not_eq_true'] at wa
    rw [hold] at wa; cases wa.1.1
  ·rw [if_neg h1] at ho
   have h : Qz ρ t j = true := by
    simp only [Qz, Bool.or_eq_true, Bool.and_eq_true, beq_iff_eq] at hn
    exact hn.resolve_left h1
   by_cases h2 : t' = n.1 /\ j' = n.2
   ·rw [if_pos h2] at wZ
    have hold := qo h ho
    subst wZ
    simp only [xL, Bool.and_eq_true, Bool.not_eq_true'] at wa
    rw [hold] at wa; cases wa.1.1
   ·rw [if_neg h2] at wZ
    have h' : Qz ρ t' j' = true := by
     simp only [Qz, Bool.or_eq_true, Bool.and_eq_true, beq_iff_eq] at wz
     exact wz.resolve_left h2
    exact Pm iF h h' ho wZ
theorem jX {σ' : St} {all : Ren} : ∀ {ρ : Ren} {t j : Nat}, xL σ' all ρ = true -> yW ρ t j = true -> Qz all t j = true \/ σ'.ob t j = .none
 | [], _, _, _, h => by simp [yW] at h
 | (n, o') :: ρ, t, j, wa, h => by
  cases o' with
  | none => exact jX (ρ := ρ) (by simpa [xL] using wa) (by simpa [yW] using h)
  | some o =>
   simp only [xL, Bool.and_eq_true, Bool.or_eq_true] at wa
   simp only [yW, Bool.or_eq_true, Bool.and_eq_true, beq_iff_eq] at h
   rcases h with ⟨rfl, rfl⟩ | h
   ·refine wa.1.2.imp id fun hf => ?_
    unfold LM at hf; split at hf <;> first | assumption | cases hf
   ·exact jX wa.2 h
theorem G7 {σ' : St} {ρ : Ren} (wa : xL σ' ρ ρ = true) {t j t' j' : Nat} {o : Nat × Nat} (h1 : σ'.ob t j ≠ .none) (h2 : σ'.ob t' j' ≠ .none) (ho : J3 ρ t j = some o) (wZ : J3 ρ t' j' = some o) : t = t' /\ j = j' := by
 cases hn : Qz ρ t j with
 | true =>
  cases wz : Qz ρ t' j' with
  | true => have := Pm wa hn wz ho wZ; cases this; exact ⟨rfl, rfl⟩
  | false =>
   have rO := yh wz
   rw [rO] at wZ; cases wZ
   have hold := qo hn ho
   rcases jX wa hold with h | h
   ·rw [wz] at h; cases h
   ·exact absurd h h2
 | false =>
  have rO := yh hn
  rw [rO] at ho; cases ho
  cases wz : Qz ρ t' j' with
  | true =>
   have hold := qo wz wZ
   rcases jX wa hold with h | h
   ·rw [hn] at h; cases h
   ·exact absurd h h1
  | false =>
   have iG := yh wz
   rw [iG] at wZ; cases wZ; exact ⟨rfl, rfl⟩
theorem We {σ : St} {ρ : Ren} {F : List (Nat × Nat)} : ∀ {es pa : List Ent} {t : Nat}, kK σ ρ F es pa t -> es.length = pa.length
 | [], [], _, _ => rfl
 | _ :: _, _ :: _, _, h => by simp [We h.2]
 | [], _ :: _, _, h => h.elim
 | _ :: _, [], _, h => h.elim
theorem SH {σ : St} {ρ : Ren} {F : List (Nat × Nat)} : ∀ {es pa : List Ent} {t : Nat}, kK σ ρ F es pa t -> ∀ (i : Nat), wkV σ ρ F (St.get es i) (St.get pa i) /\ ∀ j, Od σ ρ F (t + i) j (St.ob pa i j)
 | [], [], t, _, i => ⟨by simp [St.get, wkV], fun j => by simp [St.ob, Od]⟩
 | e :: es, e' :: pa, t, h, 0 => by
  refine ⟨h.1.1, fun j => ?_⟩
  have : ∀ (os : List Ob) (k : Nat), Lo σ ρ F t os k -> ∀ j, Od σ ρ F t (k + j) (Zw os j) := by
   intro os
   induction os with
   | nil => intro k _ j; simp [Zw, Od]
   | cons o os ih =>
    intro k hk j
    cases j with
    | zero => exact hk.1
    | succ j => have := ih (k + 1) hk.2 j; rw [show k + (j + 1) = k + 1 + j by omega]; simpa [Zw] using this
  have := this e'.2 0 h.1.2 j
  simpa using this
 | e :: es, e' :: pa, t, h, i + 1 => by
  have := SH h.2 i
  rw [show t + (i + 1) = t + 1 + i by omega]
  simpa [St.get, St.ob] using this
 | [], _ :: _, _, h, _ => h.elim
 | _ :: _, [], _, h, _ => h.elim
theorem Hz {T : CS} {w : World} {xs : List Value} {ds : List D} {S : Nat -> Prop} (wD : Zg (Rd T w) xs ds) (hf : ∀ d ∈ ds, d.scalar = true) : Xz w xs ds S :=
 ⟨wD.length, fun _ _ => False, fun k x d hx hd => by
  obtain ⟨d', wP, hr⟩ := wD.get k x hx
  rw [hd] at wP; cases wP
  exact Rd.own (hf d (List.mem_of_getElem? hd)) hr, fun _ _ hb => hb.elim, fun _ _ _ hb => hb.elim⟩
theorem QB {σ σ' : St} (ρ : Ren) (F : List (Nat × Nat)) (wa : xL σ' ρ ρ = true) (hs : kK σ ρ F σ σ' 0) : Wk σ σ' := by
 rintro T0 B a w ⟨X, h, r⟩
 let h' : Nat -> Nat -> Hd := fun t j => match J3 ρ t j with | some o => h o.1 o.2 | none => Hd.of (.slice none 0 0)
 let X' : Nat -> Prop := fun b => X b \/ ∃ t j, inF F t j = true /\ σ.ob t j ≠ .none /\ (h t j).u b
 have hlen := We hs
 have vO := SH hs
 have wU : ∀ t j, Od σ ρ F t j (σ'.ob t j) := fun t j => by have := (vO t).2 j; simpa using this
 have ri : ∀ b k v, Tof T0 X b k -> w.cell? ⟨b, k, none⟩ = some v -> w.cell? ⟨b, k, none⟩ = some v /\ Tof T0 X' b k := fun b k v hb hc => ⟨hc, hb.imp id .inl⟩
 have sJ : ∀ t' j' q size rows, σ'.ob t' j' = .arr q size rows -> (J3 ρ t' j' = none /\ rows = []) \/ ∃ t j p, J3 ρ t' j' = some (t, j) /\ inF F t j = false /\ σ.ob t j = .arr p size rows /\ (p = q \/ p = false /\ ∀ x ∈ rows, ∀ y ∈ x, y.scalar = true) := by
  intro t' j' q size rows ho
  have := wU t' j'
  rw [ho] at this
  simp only [Od] at this
  split at this
  ·rename_i hn; exact .inl ⟨hn, this⟩
  ·rename_i t j hn
   obtain ⟨hF, this⟩ := this
   split at this
   ·rename_i p s r vE; obtain ⟨hp, rfl, rfl⟩ := this; exact .inr ⟨t, j, p, hn, hF, vE, hp⟩
   ·exact this.elim
 have rD : ∀ t' j' size rows, σ'.ob t' j' ≠ .lit size rows := by
  intro t' j' size rows ho
  have := wU t' j'
  rw [ho] at this; exact this
 have rE : ∀ t' j' cells, σ'.ob t' j' = .box cells -> ∃ t j cs, J3 ρ t' j' = some (t, j) /\ inF F t j = false /\ σ.ob t j = .box cs /\ jr σ ρ F cs cells := by
  intro t' j' cells ho
  have := wU t' j'
  rw [ho] at this
  simp only [Od] at this
  split at this
  ·exact this.elim
  ·rename_i t j hn
   obtain ⟨hF, this⟩ := this
   split at this
   ·rename_i cs vE; exact ⟨t, j, cs, hn, hF, vE, this⟩
   ·exact this.elim
 have at_ : ∀ {x y : At} {v : Value}, PC σ ρ F x y -> Zm (Tof T0 X) h σ.ob w x v -> Zm (Tof T0 X') h' σ'.ob w y v := by
  intro x y v hw hr
  have h1 := Zm.Y4 hr
  cases y with
  | any => exact h1
  | d y =>
   cases x with
   | d x => simp only [PC] at hw; subst hw; exact Rd.mono ri hr
   | nil s => simp only [PC] at hw; subst hw; cases hr; exact .nil _
   | sref t j lo len =>
    simp only [PC] at hw
    obtain ⟨hF, hw⟩ := hw
    split at hw
    ·rename_i q s rows ho
     subst hw
     exact r.Lm ho hr _ (fun b k hb => hb.imp id .inl) (fun b k hb => .inr (.inr ⟨t, j, hF, by rw [ho]; simp, hb⟩))
    ·exact hw.elim
   | _ => exact hw.elim
  | nil s =>
   cases x with
   | nil s' => exact hr
   | _ => exact hw.elim
  | sref t' j' rG tN =>
   cases x with
   | nil s =>
    obtain ⟨hn, rfl, rfl⟩ := hw
    cases hr
    refine ⟨rfl, fun q size rows ho => ?_, fun size rows ho => absurd ho (rD _ _ _ _)⟩
    simp only [h', hn]
    exact ⟨by omega, fun _ _ => rfl, fun _ => rfl, none, 0, rfl, by omega, by simp [maxLen], fun _ => rfl, fun hh => absurd hh (by omega)⟩
   | sref t j lo len =>
    obtain ⟨hn, rfl, rfl⟩ := hw
    refine ⟨h1, fun q size rows ho => ?_, fun size rows ho => absurd ho (rD _ _ _ _)⟩
    rcases sJ t' j' q size rows ho with ⟨wz, _⟩ | ⟨t2, j2, p, wz, _, vE, _⟩
    ·rw [hn] at wz; cases wz
    ·rw [hn] at wz; cases wz
     simp only [h', hn]
     exact hr.2.1 p size rows vE
   | _ => exact hw.elim
  | ptr t' j' i' c' =>
   cases x with
   | ptr t j i c =>
    obtain ⟨hn, rfl, rfl⟩ := hw
    refine ⟨h1, fun q size rows ho => ?_⟩
    rcases sJ t' j' q size rows ho with ⟨wz, _⟩ | ⟨t2, j2, p, wz, _, vE, _⟩
    ·rw [hn] at wz; cases wz
    ·rw [hn] at wz; cases wz
     simp only [h', hn]
     exact hr.2 p size rows vE
   | _ => exact hw.elim
  | tref t' j' i' c' o' =>
   cases x with
   | tref t j i c o =>
    obtain ⟨hn, rfl, rfl, rfl, hq⟩ := hw
    refine ⟨h1, fun size rows ho => ?_⟩
    rcases sJ t' j' true size rows ho with ⟨wz, _⟩ | ⟨t2, j2, p, wz, _, vE, hp⟩
    ·rw [hn] at wz; cases wz
    ·rw [hn] at wz; cases wz
     simp only [h', hn]
     rcases hp with rfl | ⟨rfl, ve⟩
     ·exact hr.2 size rows vE
     ·rw [vE] at hq; exact hq.elim
   | _ => exact hw.elim
  | bptr t' c' =>
   cases x with
   | bptr t c =>
    obtain ⟨hn, rfl⟩ := hw
    refine ⟨h1, fun cells ho => ?_⟩
    obtain ⟨t2, j2, cs, wz, _, vE, _⟩ := rE t' 0 cells ho
    rw [hn] at wz; cases wz
    simp only [h', hn]
    exact hr.2 cs vE
   | _ => exact hw.elim
  | fn f' t' =>
   cases x with
   | fn f t =>
    obtain ⟨hn, rfl⟩ := hw
    refine ⟨h1, fun cells ho => ?_⟩
    obtain ⟨t2, j2, cs, wz, _, vE, _⟩ := rE t' 0 cells ho
    rw [hn] at wz; cases wz
    simp only [h', hn]
    exact hr.2 cs vE
   | _ => exact hw.elim
  | rptr r' c' =>
   cases x with
   | rptr r0 c =>
    obtain ⟨rfl, rfl⟩ := hw
    obtain ⟨b, off, g, e, hk⟩ := hr
    exact ⟨b, off, g, e, fun k d hd => ⟨(hk k d hd).1, (hk k d hd).2.1.imp id .inl, Rd.mono ri (hk k d hd).2.2⟩⟩
   | _ => exact hw.elim
 have pr : ∀ {xs ys : List At} {vs : List Value}, jr σ ρ F xs ys -> Zg (Zm (Tof T0 X) h σ.ob w) xs vs -> Zg (Zm (Tof T0 X') h' σ'.ob w) ys vs := by
  intro xs
  induction xs with
  | nil => intro ys vs hw hr; cases ys with
   | nil => cases hr; exact .nil
   | cons y ys => exact hw.elim
  | cons x xs ih => intro ys vs hw hr; cases ys with
   | nil => exact hw.elim
   | cons y ys => cases hr with
    | cons h1 hr => exact .cons (at_ hw.1 h1) (ih hw.2 hr)
 have v_ : ∀ {x y : V} {v : Value}, wkV σ ρ F x y -> Xe (Tof T0 X) h σ.ob w x v -> Xe (Tof T0 X') h' σ'.ob w y v := by
  intro x y v hw hr
  cases y with
  | any => trivial
  | one y => cases x with
   | one x => exact at_ hw hr
   | fix u x => cases x with
    | one x => exact at_ hw hr.2
    | _ => exact hw.elim
   | _ => exact hw.elim
  | agg ys => cases x with
   | agg xs => obtain ⟨cs, e, hr⟩ := hr; exact ⟨cs, e, pr hw hr⟩
   | fix u x => cases x with
    | agg xs => obtain ⟨cs, e, hr⟩ := hr.2; exact ⟨cs, e, pr hw hr⟩
    | _ => exact hw.elim
   | _ => exact hw.elim
  | tup ys => cases x with
   | fix u x => cases x <;> exact hw.elim
   | _ => exact hw.elim
  | cnd g y => cases x with
   | fix u x => cases x <;> exact hw.elim
   | _ => exact hw.elim
  | fix u' y => cases x with
   | fix u x => cases x with
    | one x => cases y with
     | one y => obtain ⟨rfl, hw⟩ := hw; exact ⟨hr.1, at_ hw hr.2⟩
     | _ => exact hw.elim
    | agg xs => cases y with
     | agg ys => obtain ⟨rfl, hw⟩ := hw; obtain ⟨e1, cs, e, hr⟩ := hr; exact ⟨e1, cs, e, pr hw hr⟩
     | _ => exact hw.elim
    | _ => cases y <;> exact hw.elim
   | _ => cases y <;> exact hw.elim
 have wB : ∀ t j, σ'.ob t j ≠ .none -> (J3 ρ t j = none /\ ∀ b, ¬ (h' t j).u b) \/ ∃ o, J3 ρ t j = some o /\ σ.ob o.1 o.2 ≠ .none /\ inF F o.1 o.2 = false /\ h' t j = h o.1 o.2 := by
  intro t j hn
  cases ho : σ'.ob t j with
  | none => exact absurd ho hn
  | arr q size rows =>
   rcases sJ t j q size rows ho with ⟨wz, _⟩ | ⟨t2, j2, p, wz, hF, vE, _⟩
   ·exact .inl ⟨wz, fun b hb => by simp only [h', wz, Hd.of, blk] at hb; cases hb⟩
   ·exact .inr ⟨(t2, j2), wz, by rw [vE]; simp, hF, by simp only [h', wz]⟩
  | lit size rows => exact absurd ho (rD _ _ _ _)
  | box cells =>
   obtain ⟨t2, j2, cs, wz, hF, vE, _⟩ := rE t j cells ho
   exact .inr ⟨(t2, j2), wz, by rw [vE]; simp, hF, by simp only [h', wz]⟩
 refine ⟨X', h', by rw [r.size, hlen], r.defers, r.hB, fun b hb => ?_, r.hT, fun t ht => ?_, fun t j => ?_, fun t j b hn hb => ?_, fun t j b hn hb => ?_, fun t j t' j' b hn wz hb wM => ?_⟩
 ·rcases hb with hb | ⟨t, j, _, hn, hb⟩
  ·exact r.hX b hb
  ·have := r.own t j b hn hb; exact ⟨this.1, this.2.2⟩
 ·exact v_ (vO t).1 (r.slot t (by rw [hlen]; exact ht))
 ·cases ho : σ'.ob t j with
  | none => trivial
  | lit size rows => exact absurd ho (rD _ _ _ _)
  | arr q size rows =>
   rcases sJ t j q size rows ho with ⟨hn, rfl⟩ | ⟨u, k, p, hn, _, vE, hp⟩
   ·have : h' t j = Hd.of (.slice none 0 0) := by simp only [h', hn]
    rw [this]
    cases q with
    | false => exact ⟨0, [], World.ownsRow_nil w 0 0 size, (by intro q hq; cases hq), .nil⟩
    | true => exact ⟨0, [], World.ownsRow_nil w 0 0 size, (by intro q hq; cases hq), Xz.nil _, fun k x d hx => by simp at hx⟩
   ·have he : h' t j = h u k := by simp only [h', hn]
    rw [he]
    have h0 := r.obj u k
    rw [vE] at h0
    cases p with
    | false =>
     obtain ⟨e, xs, wF, hz, wD⟩ := h0
     cases q with
     | false => exact ⟨e, xs, wF, hz, wD.imp fun _ _ => Rd.mono ri⟩
     | true =>
      rcases hp with hp | ⟨_, ve⟩
      ·cases hp
      ·have pJ : ∀ d ∈ rows.flatten, d.scalar = true := fun d hd => by
        obtain ⟨r0, tG, hdr⟩ := List.mem_flatten.1 hd
        exact ve r0 tG d hdr
       exact ⟨e, xs, wF, hz, Hz wD pJ, fun k x d _ hd hs => by rw [pJ d (List.mem_of_getElem? hd)] at hs; cases hs⟩
    | true =>
     rcases hp with rfl | ⟨hp, _⟩
     ·exact h0
     ·cases hp
  | box cells =>
   obtain ⟨u, k, cs, hn, _, vE, uO⟩ := rE t j cells ho
   have h0 := r.obj u k
   rw [vE] at h0
   obtain ⟨b, vs, e, hv, hh, wD⟩ := h0
   have he : h' t j = h u k := by simp only [h', hn]
   rw [he]
   exact ⟨b, vs, e, hv, hh, pr uO wD⟩
 ·rcases wB t j hn with ⟨hr, _⟩ | ⟨o, hr, sk, hF, he⟩
  ·simp only [h', hr, Hd.of, blk] at hb; cases hb
  ·rw [he] at hb ⊢; exact r.ub o.1 o.2 b sk hb
 ·rcases wB t j hn with ⟨_, sk⟩ | ⟨o, hr, sk, hF, he⟩
  ·exact absurd hb (sk b)
  ·rw [he] at hb
   have h0 := r.own o.1 o.2 b sk hb
   refine ⟨h0.1, ?_, h0.2.2⟩
   rintro (hx | ⟨t2, j2, gC, lF, wk⟩)
   ·exact h0.2.1 hx
   ·obtain ⟨h3, h4⟩ := r.inj o.1 o.2 t2 j2 b sk lF hb wk
    rw [h3, h4] at hF; rw [hF] at gC; cases gC
 ·rcases wB t j hn with ⟨_, sk⟩ | ⟨o, hr, sk, _, he⟩
  ·exact absurd hb (sk b)
  ·rcases wB t' j' wz with ⟨_, ot⟩ | ⟨o', vU, ot, _, nm⟩
   ·exact absurd wM (ot b)
   ·rw [he] at hb
    rw [nm] at wM
    obtain ⟨h3, h4⟩ := r.inj o.1 o.2 o'.1 o'.2 b sk ot hb wM
    have : o = o' := Prod.ext h3 h4
    subst this
    exact G7 wa hn wz hr vU
theorem Qv {σ σ' : St} (hs : kK σ [] [] σ σ' 0) : Wk σ σ' := QB [] [] rfl hs
attribute [simp] J3 inF PC jr wkV Od Lo kK Qz yW LM xL
end Go.Vm
namespace Go.Vm
open Go.RowKit
def Yk (P : Program) (σ : St) : List Operand -> List TypeId -> Prop × Option (List (List D))
 | [], _ => (True, some [])
 | x :: xs, t :: ts => (gOf (look P σ t x) = true /\ (Yk P σ xs ts).1, match (unc (look P σ t x)).Qw σ, (Yk P σ xs ts).2 with | some r, some rs => some (r :: rs) | _, _ => none)
 | _ :: _, [] => (False, none)
theorem zF {P : Program} {σ : St} : ∀ {xs : List Operand} {ts : List TypeId} {rs : List (List D)}, (Yk P σ xs ts).1 -> (Yk P σ xs ts).2 = some rs -> XW P σ xs ts rs
 | [], _, rs, _, h => by simp [Yk] at h; exact h
 | x :: xs, t :: ts, rs, h1, h => by
  simp only [Yk] at h
  split at h
  ·rename_i r nL hr um
   cases h
   exact ⟨h1.1, r, nL, hr, zF h1.2 um, rfl⟩
  ·cases h
 | _ :: _, [], _, h1, _ => h1.elim
attribute [simp] Yk
theorem Of {P : Program} {ops : Array Oper} {bar : Oper -> Bool} {o : Oper} {rest : List Oper} {σ : St} {Q : St -> Prop} {c : Call} {f : FuncId} {d : Nat} {own : Bool} {rows res : List (List D)} (wA : o.op = .call c) (hc : c.callee = .value (.func f)) (hg : o.guard = none) (hd : o.dst = some d)
  (hs : QE P f own rows res) (wY : (Yk P σ c.args.toList c.argTypes.toList).2 = some rows) (wI : (Yk P σ c.args.toList c.argTypes.toList).1) (wb : Z4 P σ c.args.toList c.argTypes.toList = true \/ Jq own res) (h : Ev P ops bar rest (σ.put d (K8 res)) Q) : zk P ops bar o rest σ Q :=
 Nm wA hc hg hd (zF wI wY) hs wb h
theorem OV {P : Program} {ops : Array Oper} {bar : Oper -> Bool} {o : Oper} {rest : List Oper} {σ : St} {Q : St -> Prop} {c : Call} {f : FuncId} {d : Nat} {rows res : List (List D)} (qs : List Bool) (wA : o.op = .call c) (hc : c.callee = .value (.func f)) (hg : o.guard = none) (hd : o.dst = some d)
  (hs : Yx P f rows res) (wY : (Yk P σ c.args.toList c.argTypes.toList).2 = some rows) (wI : (Yk P σ c.args.toList c.argTypes.toList).1) (hq : J0 qs res.flatten) (hf : σ.fresh d = true) (h : Ev P ops bar rest (σ.new d (zu d res) (Zq qs res.flatten)) Q) : zk P ops bar o rest σ Q :=
 LR qs wA hc hg hd (zF wI wY) hs hq hf h
theorem M1 {P : Program} {ops : Array Oper} {bar : Oper -> Bool} {o : Oper} {rest : List Oper} {σ : St} {Q : St -> Prop} {c : Call} {f : FuncId} {d j dj : Nat} {want g own : Bool} {rows : List (List D)} {res : List D} (wA : o.op = .call c) (hc : c.callee = .value (.func f)) (hg : o.guard = some (j, want)) (hd : o.dst = some d)
  (uD : (ops[j]?).bind (·.dst) = some dj) (uN : zX want (σ.get dj) = some g) (hs : g = true -> QE P f own rows [res])
  (wY : (Yk P σ c.args.toList c.argTypes.toList).2 = some rows) (wO : dj < σ.length)
  (wI : g = true -> (Yk P σ c.args.toList c.argTypes.toList).1) (wb : Z4 P σ c.args.toList c.argTypes.toList = true \/ Jq own [res]) (h : Ev P ops bar rest (σ.put d (.cnd g (K8 [res]))) Q) : zk P ops bar o rest σ Q :=
 Md wA hc hg hd uD wO uN (fun hh => zF (wI hh) wY) hs wb h
def XQ : Nat -> List (Nat × V × List Ob) -> St
 | n, [] => List.replicate n (V.any, [])
 | n, (t, v, os) :: l => (XQ n l).new t v os
attribute [simp] XQ
end Go.Vm
namespace Go.Vm
open Go.RowKit
def Fb (P : Program) (b : Bool) (x y : Code) (Q : Exit -> St -> Prop) (σ : St) : Prop := (b = true -> AWP P x Q σ) /\ (b = false -> AWP P y Q σ)
def FV (P : Program) (c : Code) (Q : Exit -> St -> Prop) (σ : St) : Prop := AWP P (.loop c) Q σ
def FR (P : Program) (id : Nat) (ops : Array Oper) (Q : Exit -> St -> Prop) (σ : St) : Prop := AWP P (.region id ops true) Q σ
def RD (P : Program) (c : Code) (Q : Exit -> St -> Prop) (σ : St) : Prop := AWP P c Q σ
def Wx (P : Program) : Code -> (Exit -> St -> Prop) -> St -> Prop
 | .seq x y, Q, σ => Wx P x (SO (Wx P y Q) Q) σ
 | .region _ ⟨l⟩ false, Q, σ => Ev P ⟨l⟩ (fun _ => true) l σ (Q .normal)
 | .region id ops true, Q, σ => FR P id ops Q σ
 | .cond c x y, Q, σ => (match look P σ 0 c with | .one (.d (.bool b)) => Fb P b x y Q σ | _ => False)
 | .block id c, Q, σ => Wx P c (kF id Q) σ
 | .loop c, Q, σ => FV P c Q σ
 | .skip, Q, σ => Q .normal σ
 | .exit id, Q, σ => Q (.exit id) σ
 | .ret, Q, σ => Q .ret σ
 | .rangeFunc f ps x y, Q, σ => RD P (.rangeFunc f ps x y) Q σ
 | .scope c, Q, σ => RD P (.scope c) Q σ
 | .label l, Q, σ => RD P (.label l) Q σ
 | .goto l, Q, σ => RD P (.goto l) Q σ
 | .refuse s, Q, σ => RD P (.refuse s) Q σ
theorem ya {P : Program} : ∀ {c : Code} {Q : Exit -> St -> Prop} {σ : St}, Wx P c Q σ -> AWP P c Q σ
 | .seq x y, Q, σ, h => by
  rw [Wx] at h
  refine Gm (ME (fun e σ' hq => ?_) (ya h))
  cases e <;> simp only [SO] at hq ⊢ <;> first | exact ya hq | exact hq
 | .region _ ⟨l⟩ false, Q, σ, h => Fw h
 | .region id ops true, Q, σ, h => h
 | .cond c x y, Q, σ, h => by
  rw [Wx] at h
  split at h
  ·rename_i b hb; exact HK hb h.1 h.2
  ·exact h.elim
 | .block id c, Q, σ, h => IU (ya (by rw [Wx] at h; exact h))
 | .loop c, Q, σ, h => h
 | .skip, Q, σ, h => Hu h
 | .exit id, Q, σ, h => Hq h
 | .ret, Q, σ, h => Gy h
 | .rangeFunc _ _ _ _, Q, σ, h => h
 | .scope _, Q, σ, h => h
 | .label _, Q, σ, h => h
 | .goto _, Q, σ, h => h
 | .refuse _, Q, σ, h => h
class KO where
 c : Code
class Qo where
 ops : Array Oper
 bar : Oper -> Bool
class JP where
 l : List Oper
class OpI where
 o : Oper
class inductive Fr where
 | fin (Q : Exit -> St -> Prop)
 | sq (y : Code) (k : Fr)
 | blk (id : Nat) (k : Fr)
 | nxt (n : St -> Prop) (k : Fr)
def Fr.run (P : Program) : Fr -> Exit -> St -> Prop
 | .fin Q, e, σ => Q e σ
 | .sq y k, e, σ => SO (Wx P y (Fr.run P k)) (Fr.run P k) e σ
 | .blk id k, e, σ => kF id (Fr.run P k) e σ
 | .nxt n k, e, σ => SO n (Fr.run P k) e σ
def WI (P : Program) (σ : St) [c : KO] [k : Fr] : Prop := Wx P c.c (k.run P) σ
def LI (P : Program) (e : Exit) (σ : St) [k : Fr] : Prop := k.run P e σ
def EI (P : Program) (σ : St) [A : Qo] [l : JP] [k : Fr] : Prop := Ev P A.ops A.bar l.l σ (k.run P .normal)
def SI (P : Program) (σ : St) [A : Qo] [o : OpI] [l : JP] [k : Fr] : Prop := zk P A.ops A.bar o.o l.l σ (k.run P .normal)
def CI (P : Program) (b : Bool) (σ : St) [x : KO] [y : KO] [k : Fr] : Prop := Fb P b x.c y.c (k.run P) σ
def WT (P : Program) (σ : St) [c : KO] [k : Fr] : Prop := FV P c.c (k.run P) σ
def DI (P : Program) (id : Nat) (σ : St) [A : Qo] [k : Fr] : Prop := FR P id A.ops (k.run P) σ
section
variable {P : Program} {σ : St} {k : Fr}
theorem F3 {x y : Code} : @WI P σ ⟨.seq x y⟩ k = @WI P σ ⟨x⟩ (.sq y k) := by
 simp only [WI]
 rw [Wx]
 congr 1
theorem It {id : Nat} {l : List Oper} : @WI P σ ⟨.region id ⟨l⟩ false⟩ k = @EI P σ ⟨⟨l⟩, fun _ => true⟩ ⟨l⟩ k := by simp only [WI, EI, Wx]
theorem G5 {id : Nat} {ops : Array Oper} : @WI P σ ⟨.region id ops true⟩ k = @DI P id σ ⟨ops, fun _ => true⟩ k := by simp only [WI, DI, Wx]
theorem Gr {c : Operand} {x y : Code} : @WI P σ ⟨.cond c x y⟩ k = (match look P σ 0 c with | .one (.d (.bool b)) => @CI P b σ ⟨x⟩ ⟨y⟩ k | _ => False) := by simp only [WI, CI, Wx]
theorem GN {id : Nat} {c : Code} : @WI P σ ⟨.block id c⟩ k = @WI P σ ⟨c⟩ (.blk id k) := by
 simp only [WI]
 rw [Wx]
 congr 1
theorem G9 {c : Code} : @WI P σ ⟨.loop c⟩ k = @WT P σ ⟨c⟩ k := by simp only [WI, WT, Wx]
theorem GU : @WI P σ ⟨.skip⟩ k = @LI P .normal σ k := by simp only [WI, LI, Wx]
theorem GV {id : Nat} : @WI P σ ⟨.exit id⟩ k = @LI P (.exit id) σ k := by simp only [WI, LI, Wx]
theorem F1 : @WI P σ ⟨.ret⟩ k = @LI P .ret σ k := by simp only [WI, LI, Wx]
theorem EA {Q : Exit -> St -> Prop} {e : Exit} : @LI P e σ (.fin Q) = Q e σ := rfl
theorem Ed {y : Code} : @LI P .normal σ (.sq y k) = @WI P σ ⟨y⟩ k := rfl
theorem Mn {y : Code} {id : Nat} : @LI P (.exit id) σ (.sq y k) = @LI P (.exit id) σ k := rfl
theorem Ij {y : Code} : @LI P .ret σ (.sq y k) = @LI P .ret σ k := rfl
theorem Fx {n : St -> Prop} : @LI P .normal σ (.nxt n k) = n σ := rfl
theorem NZ {n : St -> Prop} {id : Nat} : @LI P (.exit id) σ (.nxt n k) = @LI P (.exit id) σ k := rfl
theorem LP {n : St -> Prop} : @LI P .ret σ (.nxt n k) = @LI P .ret σ k := rfl
theorem F0 {id : Nat} : @LI P .normal σ (.blk id k) = @LI P .normal σ k := rfl
theorem Mc {id : Nat} : @LI P .ret σ (.blk id k) = @LI P .ret σ k := rfl
theorem Nu {id oU : Nat} : @LI P (.exit oU) σ (.blk id k) = if oU = id then @LI P .normal σ k else @LI P (.exit oU) σ k := rfl
theorem EF {A : Qo} : @EI P σ A ⟨[]⟩ k = @LI P .normal σ k := by simp only [EI, LI, Ev]
theorem Ge {A : Qo} {o : Oper} {rest : List Oper} : @EI P σ A ⟨o :: rest⟩ k =
  (if stops P A.bar o then @SI P σ A ⟨o⟩ ⟨rest⟩ k else
  match o.guard with
  | none =>
   (match o.dst with
   | some d => (evS P σ o d).1 /\ @EI P (evS P σ o d).2 A ⟨rest⟩ k
   | none => (match o.op with | .store T x y => if F4 P σ T x y then @SI P σ A ⟨o⟩ ⟨rest⟩ k else (Nr P σ T x y).1 /\ @EI P (Nr P σ T x y).2 A ⟨rest⟩ k | _ => False))
  | some (j, want) =>
   (match (A.ops[j]?).bind (·.dst), o.dst with
   | some dj, some d => (match zX want (σ.get dj) with
    | some g => (dj < σ.length /\ (g = true -> (evV P σ o.op o.type).1 /\ gOf (evV P σ o.op o.type).2 = true /\ (unc (evV P σ o.op o.type).2).flat = true)) /\ @EI P (σ.put d (.cnd g (unc (evV P σ o.op o.type).2))) A ⟨rest⟩ k
    | none => False)
   | _, _ => False)) := by
 simp only [EI, SI]
 rw [Ev]
 rfl
end
section
variable {P : Program} {σ : St} {k : Fr}
def Nxt {ι : Type} (S : ι -> St) (μ : ι -> Nat) (b : Nat) (σ : St) : Prop := ∃ i', μ i' < b /\ Wk σ (S i')
theorem Fs {ι : Type} {S : ι -> St} {μ : ι -> Nat} {b : Nat} (i : ι) (hm : μ i < b) (hw : Wk σ (S i)) : Nxt S μ b σ := ⟨i, hm, hw⟩
theorem FW {c : KO} {ι : Type} (S : ι -> St) (μ : ι -> Nat) (i0 : ι) (h0 : Wk σ (S i0))
  (round : ∀ i, @WI P (S i) c (.nxt (Nxt S μ (μ i)) k)) : @WT P σ c k :=
 qh S μ i0 h0 fun i => ya (round i)
theorem HD {f : FuncId} {fn : Func} {c : Code} (hf : P.funcs[f]? = some fn) (hb : fn.body = some c) (wa : qU P f = true) {own : Bool} {args res : List (List D)}
  (hw : @WI P (zg fn.ntmps args) ⟨c⟩ (.fin (NO P fn own res))) : QE P f own args res := Ot hf hb wa (ya hw)
theorem Gs {A : Qo} {o : OpI} {rest : JP} {S T : TypeId} {x : Operand} {d : Nat} {s : ByteArray} (wA : o.o.op = .convert S T x) (hg : o.o.guard = none) (hd : o.o.dst = some d)
  (h1 : gOf (look P σ S x) = true) (h2 : jT P S = true) (h3 : VX P T = true) (h4 : unc (look P σ S x) = .one (.d (.str s))) (h5 : s.size <= 9223372036854775807) (h : @EI P (σ.put d (.one (.d (.sl 1 (JB s.data.toList))))) A rest k) : @SI P σ A o rest k :=
 O2 wA hg hd h1 h2 h3 h4 h5 h
theorem Is {f : FuncId} {fn : Func} {c : Code} (hf : P.funcs[f]? = some fn) (hb : fn.body = some c) (wa : qU P f = true) {args res : List (List D)}
  (hw : @WI P (zg fn.ntmps args) ⟨c⟩ (.fin (IB P fn res))) : Yx P f args res := PK hf hb wa (ya hw)
def OY (o : Oper) : Bool := match o.op with | .call ⟨.value _, _, _⟩ => false | _ => true
theorem evI {A : Qo} {o : OpI} {l : JP} {d : Nat} (hp : OY o.o = true) (hg : o.o.guard = none) (hd : o.o.dst = some d) (h : (evS P σ o.o d).1 /\ @EI P (evS P σ o.o d).2 A l k) : @SI P σ A o l k := by
 refine GX (fun c wA f hc => ?_) hg hd h.1 h.2
 obtain ⟨cc, ca, ct⟩ := c
 simp only at hc; subst hc
 simp [OY, wA] at hp
theorem E1 {A : Qo} {o : OpI} {l : JP} {d : Nat} {T : TypeId} {n : Nat} {parts : Array (Nat × Operand)} (wA : o.o.op = .buildSlice T n parts) (hg : o.o.guard = none) (hd : o.o.dst = some d)
  (h1 : σ.fresh d = true /\ YS P T = true /\ XD P (ZH P T) = true /\ 0 < P.cellsOf (ZH P T) /\ parts.toList.length = n /\ n * P.cellsOf (ZH P T) <= 16777216) (h2 : (Qx P σ (ZH P T) (P.cellsOf (ZH P T)) parts.toList 0).1)
  (h3 : Zs d (Qx P σ (ZH P T) (P.cellsOf (ZH P T)) parts.toList 0).2.flatten = false)
  (h : @EI P (σ.new d (.one (.sref d 0 0 (Qx P σ (ZH P T) (P.cellsOf (ZH P T)) parts.toList 0).2.length)) [.lit (P.cellsOf (ZH P T)) (Qx P σ (ZH P T) (P.cellsOf (ZH P T)) parts.toList 0).2]) A l k) : @SI P σ A o l k := Hr wA hg hd h1 h2 h3 h
theorem E3 {A : Qo} {o : OpI} {l : JP} {d : Nat} {x y : Operand} {t : TypeId} {wC news : List (List D)} {l1 l2 : List (Nat × Nat)} {size : Nat} (wA : o.o.op = .call ⟨.builtin .append, #[x, y], #[t, t]⟩) (hg : o.o.guard = none) (hd : o.o.dst = some d) (wj : A.bar o.o = true)
  (vK : size = P.cellsOf (ZH P t)) (h1 : gOf (look P σ t x) = true /\ gOf (look P σ t y) = true /\ YS P t = true /\ XD P (ZH P t) = true /\ 0 < P.cellsOf (ZH P t))
  (h2 : (xM σ (unc (look P σ t x)) size).1 /\ (xM σ (unc (look P σ t x)) size).2 = (wC, l1)) (h3 : (xC σ (unc (look P σ t y)) size).1 /\ (xC σ (unc (look P σ t y)) size).2 = (news, l2))
  (h4 : (l1 ++ l2).Nodup /\ (σ.ZX (l1 ++ l2)).fresh d = true) (h5 : (wC.length + news.length) * P.bytesOf (ZH P t) <= 140737488355328 /\ wC.length + news.length <= 9223372036854775807)
  (h : @EI P ((σ.ZX (l1 ++ l2)).new d (.one (.sref d 0 0 (wC.length + news.length))) [.arr true size (wC ++ news)]) A l k) : @SI P σ A o l k := H5 wA hg hd wj vK h1 h2 h3 h4 h5 h
theorem DD {A : Qo} {o : OpI} {l : JP} {d : Nat} {x y : Operand} {t : TypeId} {rows : List (List D)} {size u j len lo n : Nat} (wA : o.o.op = .call ⟨.builtin .append, #[x, y], #[t, t]⟩) (hg : o.o.guard = none) (hd : o.o.dst = some d) (wj : A.bar o.o = true)
  (vK : size = P.cellsOf (ZH P t)) (h1 : gOf (look P σ t x) = true /\ gOf (look P σ t y) = true /\ YS P t = true /\ XD P (ZH P t) = true /\ 0 < P.cellsOf (ZH P t))
  (h2 : unc (look P σ t x) = .one (.sref u j 0 len)) (h3 : unc (look P σ t y) = .one (.sref u j lo n)) (ho : σ.ob u j = .arr true size rows) (hle : len <= lo) (te : lo + n <= rows.length)
  {news : List (List D)} (vZ : cut rows lo n = news) (h4 : (σ.ZT u j .none).fresh d = true) (h5 : (len + n) * P.bytesOf (ZH P t) <= 140737488355328 /\ len + n <= 9223372036854775807)
  (h : @EI P ((σ.ZT u j .none).new d (.one (.sref d 0 0 ((rows.take len).length + news.length))) [.arr true size (rows.take len ++ news)]) A l k) : @SI P σ A o l k := HN wA hg hd wj vK h1 h2 h3 ho hle te vZ h4 h5 h
theorem Gg {A : Qo} {o : OpI} {l : JP} {d : Nat} {x y : Operand} {t : TypeId} {wC rows news : List (List D)} {l1 : List (Nat × Nat)} {size u j lo n : Nat} (wA : o.o.op = .call ⟨.builtin .append, #[x, y], #[t, t]⟩) (hg : o.o.guard = none) (hd : o.o.dst = some d) (wj : A.bar o.o = true)
  (vK : size = P.cellsOf (ZH P t)) (h1 : gOf (look P σ t x) = true /\ gOf (look P σ t y) = true /\ YS P t = true /\ XD P (ZH P t) = true /\ 0 < P.cellsOf (ZH P t))
  (h2 : MR σ (unc (look P σ t x)) size wC l1) (h3 : unc (look P σ t y) = .one (.sref u j lo n)) (ho : σ.ob u j = .arr true size rows) (pe : (u, j) ∉ l1) (hle : lo + n <= rows.length) (vZ : cut rows lo n = news)
  (h4 : ((σ.ZT u j (.arr true size (Xy rows lo n))).ZX l1).fresh d = true) (h5 : (wC.length + n) * P.bytesOf (ZH P t) <= 140737488355328 /\ wC.length + n <= 9223372036854775807)
  (h : @EI P (((σ.ZT u j (.arr true size (Xy rows lo n))).ZX l1).new d (.one (.sref d 0 0 (wC.length + news.length))) [.arr true size (wC ++ news)]) A l k) : @SI P σ A o l k := HV wA hg hd wj vK h1 h2 h3 ho pe hle vZ h4 h5 h
theorem Ek {A : Qo} {o : OpI} {l : JP} {T : TypeId} {x y : Operand} {t j i c size : Nat} {rows : List (List D)} {ds : List D} {L : List (Nat × Nat)} (wA : o.o.op = .store T x y) (hg : o.o.guard = none) (hd : o.o.dst = none) (wj : A.bar o.o = true)
  (hx : unc (look P σ 0 x) = .one (.ptr t j i c)) (ho : σ.ob t j = .arr true size rows) (hi : i < rows.length) (h1 : Kg P T = true /\ gOf (look P σ 0 x) = true /\ gOf (look P σ T y) = true /\ (unc (look P σ T y)).flat = true)
  (h2 : X7 σ (unc (look P σ T y)).cells = some ds) (h3 : XF σ (unc (look P σ T y)).cells) (h4 : Z7 (unc (look P σ T y)).cells = L) (h5 : L.Nodup /\ (t, j) ∉ L /\ (σ.ZX L).Jh (At.isT t) = false) (h6 : ds.length = P.cellsOf T /\ c + P.cellsOf T <= size)
  (h : @EI P ((σ.ZX L).ZT t j (.arr true size (rows.set i (place (rowAt rows i) c ds)))) A l k) : @SI P σ A o l k := GJ wA hg hd wj hx ho hi h1 h2 h3 h4 h5 h6 h
theorem E7 {A : Qo} {o : OpI} {l : JP} {T : TypeId} {x y : Operand} {t j i size : Nat} {rows : List (List D)} {ds : List D} {L : List (Nat × Nat)} (wA : o.o.op = .store T x y) (hg : o.o.guard = none) (hd : o.o.dst = none) (wj : A.bar o.o = true)
  (hx : unc (look P σ 0 x) = .one (.ptr t j i 0)) (ho : σ.ob t j = .arr true size rows) (hi : i < rows.length) (h1 : Kg P T = true /\ gOf (look P σ 0 x) = true /\ gOf (look P σ T y) = true /\ (unc (look P σ T y)).flat = true)
  (h2 : X7 σ (unc (look P σ T y)).cells = some ds) (h3 : XF σ (unc (look P σ T y)).cells) (h4 : Z7 (unc (look P σ T y)).cells = L) (h5 : L.Nodup /\ (t, j) ∉ L /\ (σ.ZX L).Jh (At.isT t) = false) (h6 : ds.length = P.cellsOf T /\ P.cellsOf T = size)
  (h : @EI P ((σ.ZX L).ZT t j (.arr true size (rows.set i ds))) A l k) : @SI P σ A o l k := GB wA hg hd wj hx ho hi h1 h2 h3 h4 h5 h6 h
theorem DA {A : Qo} {o : OpI} {l : JP} {T : TypeId} {x y : Operand} {t j i c k' q n size : Nat} {s rows : List (List D)} {ds : List D} {L : List (Nat × Nat)} (wA : o.o.op = .store T x y) (hg : o.o.guard = none) (hd : o.o.dst = none) (wj : A.bar o.o = true) {off : Nat}
  (hx : unc (look P σ 0 x) = .one (.tref t j i c (some off))) (pH : off = k' * n + q) (ho : σ.ob t j = .arr true size rows) (hi : i < rows.length) (hc : (rowAt rows i)[c]? = some (.sl n s)) (hk : k' < s.length) (h1 : Kg P T = true /\ gOf (look P σ 0 x) = true /\ gOf (look P σ T y) = true /\ (unc (look P σ T y)).flat = true)
  (h2 : X7 σ (unc (look P σ T y)).cells = some ds) (h3 : XF σ (unc (look P σ T y)).cells) (h4 : Z7 (unc (look P σ T y)).cells = L) (h5 : L.Nodup /\ (t, j) ∉ L) (h6 : ds.length = P.cellsOf T /\ q + P.cellsOf T <= n)
  (h : @EI P ((σ.ZX L).ZT t j (.arr true size (rows.set i (place (rowAt rows i) c [.sl n (s.set k' (place (rowAt s k') q ds))])))) A l k) : @SI P σ A o l k := I0 wA hg hd wj ⟨pH ▸ hx, ho, hi, hc, hk, h1, h2, h3, h4, h5, h6⟩ h
end
attribute [simp] G5 F3 It Gr GN G9 GU GV F1 EA Ed Mn Ij Fx NZ LP F0 Mc Nu EF Ge
end Go.Vm
namespace Go.Vm
open Go.RowKit
def Cells (w : World) : CS := fun b _ => b < w.heap.size
def Reads (w : World) (v : Value) (row : List D) : Prop := ∃ cs, Je v cs /\ Zg (Rd (Cells w) w) cs row
theorem Rw {P : Program} {f : FuncId} {own : Bool} {rows : List (List D)} {wq : List Value} {w : World} (h : QE P f own rows [[.bool true]]) (hv : Zg (Reads w) wq rows) :
  Calls P f wq.toArray w fun e w' => e = .returned (.bool true) /\ Below w.heap.size w w' := by
 refine (h.2 (Cells w) w wq (fun _ _ hb => hb) hv).mono ?_
 rintro e w' ⟨vs, wh, Y, rfl, hb, _, hf, hr, _⟩
 refine ⟨?_, hb⟩
 cases hr with
 | cons h1 hr =>
  cases hr
  cases hf with
  | cons h2 hf =>
   cases hf
   cases h1 with
   | cons h3 h1 =>
    cases h1
    have h4 : ∀ v, Km own (Tof (Cells w) Y) w' v (.bool true) -> Rd (Tof (Cells w) Y) w' v (.bool true) := by
     intro v hv
     unfold Km at hv
     split at hv
     ·exact hv
     ·exact hv
    have h4 := h4 _ h3
    cases h4
    rcases h2 with ⟨v, uO, fE, _⟩ | ⟨hl, _⟩
    ·cases uO; rw [fE]; rfl
    ·simp at hl
end Go.Vm
namespace Go.Vm
open Go.RowKit
def q9 (P : Program) : Nat -> TypeId -> Bool
 | 0, _ => false
 | n + 1, t =>
  match P.underlying t with
  | some .bool => true
  | some (.int _) => true
  | some .string => true
  | some (.slice e) => q9 P n e
  | some (.struct fs) => fs.toList.all (fun f => q9 P n f.type) && P.cellsOf t != 1
  | _ => false
def TyR (P : Program) : Nat -> TypeId -> List D -> Prop
 | 0, _, _ => False
 | n + 1, t, row =>
  match P.underlying t with
  | some .bool => ∃ b, row = [.bool b]
  | some (.int k) => ∃ m, row = [.int k m] /\ k.min <= m /\ m <= k.max
  | some .string => ∃ s, row = [.str s] /\ s.size <= maxLen
  | some (.slice e) => ∃ rows, row = [.sl (P.cellsOf e) rows] /\ rows.length <= maxLen /\ ∀ r ∈ rows, TyR P n e r /\ r.length = P.cellsOf e
  | some (.struct fs) => row.length = P.cellsOf t /\ ∀ f ∈ fs.toList, TyR P n f.type (cut row f.offset (P.cellsOf f.type))
  | _ => False
def kS (P : Program) : Nat -> List Field -> Nat -> Bool
 | k, [], n => k == n
 | k, f :: fs, n => f.offset == k && kS P (k + P.cellsOf f.type) fs n
def OD (P : Program) : Nat -> TypeId -> Bool
 | 0, _ => false
 | n + 1, t =>
  match P.underlying t with
  | some .bool => P.cellsOf t == 1
  | some (.int _) => P.cellsOf t == 1
  | some .string => P.cellsOf t == 1
  | some (.slice e) => P.cellsOf t == 1 && OD P n e
  | some (.struct fs) => fs.toList.all (fun f => OD P n f.type) && kS P 0 fs.toList (P.cellsOf t)
  | _ => false
theorem V4 {α β : Type} {f : α -> Option β} : ∀ {l : List α} {m : List β}, l.mapM f = some m -> l.length = m.length /\ ∀ (i : Nat) a, l[i]? = some a -> ∃ b, m[i]? = some b /\ f a = some b
 | [], m, h => by simp at h; subst h; exact ⟨rfl, fun i a ha => by simp at ha⟩
 | x :: l, m, h => by
  simp only [List.mapM_cons, Option.bind_eq_bind, Option.bind_eq_some_iff] at h
  obtain ⟨b, hb, bs, iE, h⟩ := h
  simp at h; subst h
  obtain ⟨h1, h2⟩ := V4 iE
  refine ⟨by simp [h1], fun i a ha => ?_⟩
  cases i with
  | zero => simp at ha; subst ha; exact ⟨b, by simp, hb⟩
  | succ i => simpa using h2 i a (by simpa using ha)
theorem IJ {w : World} {a : Addr} {n : Nat} {cs : List Value} (h : w.cells? 0 a n = some cs) : cs.length = n /\ ∀ i v, cs[i]? = some v -> w.cell? (a.add i) = some v := by
 unfold World.cells? at h
 simp at h
 obtain ⟨h1, h2⟩ := V4 h
 simp at h1
 refine ⟨h1.symm, fun i v hv => ?_⟩
 have hi : i < n := by have := (List.getElem?_eq_some_iff.1 hv).1; omega
 obtain ⟨b, hb, hf⟩ := h2 i i (by simp [hi])
 rw [hv] at hb; cases hb; exact hf
theorem jb {w : World} {P : Program} {q n : Nat} {cs : List Value} (hl : cs.length = n) : ∀ {fs : List Field} {k : Nat}, kS P k fs n = true -> k <= n ->
  (∀ f ∈ fs, ∃ row, Zg (Rd (Cells w) w) (cut cs f.offset (P.cellsOf f.type)) row /\ TyR P q f.type row) ->
  ∃ tail, Zg (Rd (Cells w) w) (cs.drop k) tail /\ ∀ (pre : List D), pre.length = k -> ∀ f ∈ fs, TyR P q f.type (cut (pre ++ tail) f.offset (P.cellsOf f.type))
 | [], k, hc, hk, _ => by
  simp only [kS, beq_iff_eq] at hc
  subst hc
  exact ⟨[], by rw [List.drop_eq_nil_of_le (by omega)]; exact .nil, fun _ _ f hf => by cases hf⟩
 | f :: fs, k, hc, hk, h => by
  simp only [kS, Bool.and_eq_true, beq_iff_eq] at hc
  obtain ⟨row, wD, uZ⟩ := h f (by simp)
  rw [hc.1] at wD
  have fF : k + P.cellsOf f.type <= n := by
   clear h wD uZ
   have : ∀ (fs : List Field) (k : Nat), kS P k fs n = true -> k <= n := by
    intro fs
    induction fs with
    | nil => intro k hh; simp [kS] at hh; omega
    | cons g gs ih => intro k hh; simp only [kS, Bool.and_eq_true, beq_iff_eq] at hh; have := ih _ hh.2; omega
   exact this _ _ hc.2
  have sI : row.length = P.cellsOf f.type := by rw [<- wD.length]; simp [cut]; omega
  obtain ⟨tail, rj, pI⟩ := jb hl hc.2 fF (fun g hg => h g (by simp [hg]))
  refine ⟨row ++ tail, ?_, ?_⟩
  ·have : cs.drop k = cut cs k (P.cellsOf f.type) ++ cs.drop (k + P.cellsOf f.type) := by
    unfold cut
    rw [<- List.drop_drop]
    exact (List.take_append_drop _ _).symm
   rw [this]
   exact wD.append rj
  ·intro pre uA g hg
   rcases List.mem_cons.1 hg with rfl | hg
   ·have : cut (pre ++ (row ++ tail)) g.offset (P.cellsOf g.type) = row := by
     unfold cut
     rw [hc.1, <- uA, List.drop_left, <- sI, List.take_left]
    rw [this]; exact uZ
   ·have := pI (pre ++ row) (by rw [List.length_append, uA, sI]) g hg
    rw [<- List.append_assoc]; exact this
section
variable {H : Type} {enc : TypeId × Value -> H} {P : Program} {w : World} {sp : Nat -> Bool} {held : Bool} {fuel : Nat} {t : TypeId} {cs : List Value} {d : DataW H} {ps : List MemPlace}
theorem trod_bool (hu : P.underlying t = some .bool) (h : DataW.trod enc P w 0 sp held fuel t cs = some (d, ps)) : ∃ b, cs = [.bool b] := by
 cases fuel with
 | zero => simp [DataW.trod] at h
 | succ fuel =>
  unfold DataW.trod at h
  rw [hu] at h
  split at h <;> simp_all
theorem trod_int {k : IntKind} (hu : P.underlying t = some (.int k)) (h : DataW.trod enc P w 0 sp held fuel t cs = some (d, ps)) : ∃ m, cs = [.int k m] /\ k.min <= m /\ m <= k.max := by
 cases fuel with
 | zero => simp [DataW.trod] at h
 | succ fuel =>
  unfold DataW.trod at h
  rw [hu] at h
  split at h <;> simp_all [Lit.wf]
theorem HJ (hu : P.underlying t = some .string) (h : DataW.trod enc P w 0 sp held fuel t cs = some (d, ps)) : ∃ s, cs = [.string s] /\ s.size <= maxLen := by
 cases fuel with
 | zero => simp [DataW.trod] at h
 | succ fuel =>
  unfold DataW.trod at h
  rw [hu] at h
  split at h <;> simp_all
theorem trod_slice {e : TypeId} (hu : P.underlying t = some (.slice e)) (h : DataW.trod enc P w 0 sp held fuel t cs = some (d, ps)) :
  cs = [.slice none 0 0] \/ ∃ a len cap, cs = [.slice (some a) len cap] /\ len <= cap /\ cap <= maxLen /\
   ∀ i, i < len -> ∃ xs f x, w.cells? 0 (a.add (i * P.cellsOf e)) (P.cellsOf e) = some xs /\ DataW.trod enc P w 0 sp held f e xs = some x := by
 cases fuel with
 | zero => simp [DataW.trod] at h
 | succ fuel =>
  unfold DataW.trod at h
  rw [hu] at h
  split at h <;> first | (simp_all; done) | skip
  rename_i e' a len cap heq
  cases heq
  refine .inr ⟨a, len, cap, rfl, ?_⟩
  simp only at h
  split at h
  ·rename_i hc
   refine ⟨hc.2.1, hc.2.2, fun i hi => ?_⟩
   simp only [Option.bind_eq_some_iff] at h
   obtain ⟨elems, fA, _⟩ := h
   obtain ⟨hl, hg⟩ := V4 fA
   obtain ⟨x, _, hx⟩ := hg i i (by simp [hi])
   obtain ⟨xs, h1, h2⟩ := Option.bind_eq_some_iff.1 hx
   exact ⟨xs, fuel, x, h1, h2⟩
  ·cases h
theorem trod_struct {fs : Array Field} (hu : P.underlying t = some (.struct fs)) (h : DataW.trod enc P w 0 sp held fuel t cs = some (d, ps)) :
  cs.length = P.cellsOf t /\ ∀ f ∈ fs.toList, ∃ q x, DataW.trod enc P w 0 sp held q f.type (cut cs f.offset (P.cellsOf f.type)) = some x := by
 cases fuel with
 | zero => simp [DataW.trod] at h
 | succ fuel =>
  unfold DataW.trod at h
  rw [hu] at h
  split at h <;> first | (simp_all; done) | skip
  rename_i ec heq
  cases heq
  split at h
  ·rename_i hc
   refine ⟨hc, fun f hf => ?_⟩
   simp only [Option.map_eq_some_iff] at h
   obtain ⟨xs, hx, _⟩ := h
   obtain ⟨_, hg⟩ := V4 hx
   obtain ⟨i, hi⟩ := List.mem_iff_getElem?.1 hf
   obtain ⟨x, _, hx⟩ := hg i f hi
   exact ⟨fuel, x, hx⟩
  ·cases h
end
theorem Gk {w : World} {a : Addr} {v : Value} (h : w.cell? a = some v) : a.block < w.heap.size := by
 unfold World.cell? at h
 cases hh : w.heap[a.block]? with
 | none => simp [hh] at h
 | some o => exact (Array.getElem?_eq_some_iff.1 hh).1
theorem Ir (a : Addr) (m k : Nat) (h : m <= k) : a.add k = (a.add m).add (k - m) := by
 simp only [Addr.add]
 by_cases h0 : m = 0
 ·subst h0; simp
 ·by_cases h1 : k - m = 0
  ·have : k = m := by omega
   subst this; simp [h0]
  ·have : k ≠ 0 := by omega
   simp only [h0, h1, this, if_false]
   congr 1
   omega
theorem LK {w : World} {P : Program} {n size : Nat} {e : TypeId} {a : Addr} {len cap : Nat} (g9 : len <= cap) (pb : cap <= maxLen)
  (h : ∀ i, i < len -> ∃ xs row, w.cells? 0 (a.add (i * size)) size = some xs /\ Zg (Rd (Cells w) w) xs row /\ TyR P n e row) :
  ∃ rows : List (List D), Rd (Cells w) w (.slice (some a) len cap) (.sl size rows) /\ rows.length <= maxLen /\ ∀ r ∈ rows, TyR P n e r /\ r.length = size := by
 have key : ∀ m, m <= len -> ∃ rows : List (List D), rows.length = m /\ (∀ r ∈ rows, TyR P n e r /\ r.length = size) /\
   ∀ k d, rows.flatten[k]? = some d -> ∃ v, w.cell? (a.add k) = some v /\ Rd (Cells w) w v d := by
  intro m
  induction m with
  | zero => intro _; exact ⟨[], rfl, (by intro r hr; cases hr), (by intro k d hk; simp at hk)⟩
  | succ m ih =>
   intro hm
   obtain ⟨rows, hl, ht, hk⟩ := ih (by omega)
   obtain ⟨xs, row, hx, wD, uZ⟩ := h m (by omega)
   obtain ⟨rM, fB⟩ := IJ hx
   have sI : row.length = size := by rw [<- wD.length, rM]
   have ve : rows.flatten.length = m * size := by rw [Zo rows size (fun r hr => (ht r hr).2), hl]
   refine ⟨rows ++ [row], by simp [hl], fun r hr => ?_, fun k d hd => ?_⟩
   ·rcases List.mem_append.1 hr with hr | hr
    ·exact ht r hr
    ·simp at hr; subst hr; exact ⟨uZ, sI⟩
   ·rw [List.flatten_append, List.flatten_singleton] at hd
    rcases Nat.lt_or_ge k rows.flatten.length with wO | tD
    ·rw [List.getElem?_append_left wO] at hd
     exact hk k d hd
    ·rw [List.getElem?_append_right tD] at hd
     obtain ⟨v, hv, hr⟩ := wD.get' _ d hd
     refine ⟨v, ?_, hr⟩
     have := fB _ v hv
     rw [show a.add k = (a.add (m * size)).add (k - rows.flatten.length) by rw [ve]; rw [ve] at tD; exact Ir a (m * size) k tD]
     exact this
 obtain ⟨rows, hl, ht, hk⟩ := key len (Nat.le_refl _)
 refine ⟨rows, ?_, by omega, ht⟩
 have oJ : rows.flatten ≠ [] -> a.spot = none := by
  intro wB
  obtain ⟨d, tl, mP⟩ := List.exists_cons_of_ne_nil wB
  obtain ⟨v, hv, _⟩ := hk 0 d (by rw [mP]; rfl)
  have := World.cell?_spot hv
  simpa [Addr.add] using this
 refine .sl a len cap size rows (fun k => (w.cell? (a.add k)).getD undef) hl g9 pb (fun r hr => (ht r hr).2) oJ (fun k d hd => ?_) (fun k d hd => ?_)
 ·obtain ⟨v, hv, _⟩ := hk k d hd
  have rF : a.spot = none := oJ (by intro hh; rw [hh] at hd; simp at hd)
  have he : a.add k = ⟨a.block, a.off + k, none⟩ := by
   obtain ⟨b, o, sp⟩ := a
   simp only at rF
   subst rF
   simp only [Addr.add]
   split
   ·rename_i h0; subst h0; rfl
   ·rfl
  rw [he] at hv ⊢
  rw [hv]
  exact ⟨rfl, Gk (a := ⟨a.block, a.off + k, none⟩) hv⟩
 ·obtain ⟨v, hv, hr⟩ := hk k d hd
  simp only [hv, Option.getD_some]; exact hr
theorem W1 {H : Type} {enc : TypeId × Value -> H} {P : Program} {w : World} {sp : Nat -> Bool} {held : Bool} : ∀ (n : Nat) {fuel : Nat} {t : TypeId} {cs : List Value} {d : DataW H} {ps : List MemPlace}, q9 P n t = true -> OD P n t = true ->
  DataW.trod enc P w 0 sp held fuel t cs = some (d, ps) -> ∃ row, Zg (Rd (Cells w) w) cs row /\ TyR P n t row
 | 0, _, _, _, _, _, h, _, _ => by simp [q9] at h
 | n + 1, fuel, t, cs, d, ps, hp, hl, h => by
  simp only [q9] at hp
  simp only [OD] at hl
  simp only [TyR]
  cases hu : P.underlying t with
  | none => simp [hu] at hp
  | some td =>
   cases td with
   | bool => obtain ⟨b, rfl⟩ := trod_bool hu h; exact ⟨_, .cons (.bool b) .nil, b, rfl⟩
   | int k => obtain ⟨m, rfl, h1, h2⟩ := trod_int hu h; exact ⟨_, .cons (.int k m) .nil, m, rfl, h1, h2⟩
   | string => obtain ⟨s, rfl, h1⟩ := HJ hu h; exact ⟨_, .cons (.str s) .nil, s, rfl, h1⟩
   | slice e =>
    simp only [hu] at hp hl
    simp only [Bool.and_eq_true] at hl
    rcases trod_slice hu h with rfl | ⟨a, len, cap, rfl, h1, h2, h3⟩
    ·exact ⟨_, .cons (.nil (P.cellsOf e)) .nil, [], rfl, by simp, by simp⟩
    ·obtain ⟨rows, hr, sI, fC⟩ := LK (P := P) (n := n) (size := P.cellsOf e) (e := e) h1 h2 (fun i hi => by
      obtain ⟨xs, f, x, hx, ht⟩ := h3 i hi
      obtain ⟨row, wD, uZ⟩ := W1 n hp hl.2 (d := x.1) (ps := x.2) ht
      exact ⟨xs, row, hx, wD, uZ⟩)
     exact ⟨_, .cons hr .nil, rows, rfl, sI, fC⟩
   | struct fs =>
    simp only [hu] at hp hl
    simp only [Bool.and_eq_true] at hp hl
    obtain ⟨h1, h2⟩ := trod_struct hu h
    obtain ⟨row, wD, pI⟩ := jb (w := w) (P := P) (q := n) h1 hl.2 (Nat.zero_le _) (fun f hf => by
     obtain ⟨q, x, hx⟩ := h2 f hf
     exact W1 n (List.all_eq_true.1 hp.1 f hf) (List.all_eq_true.1 hl.1 f hf) (d := x.1) (ps := x.2) hx)
    refine ⟨row, by simpa using wD, ?_, fun f hf => by simpa using pI [] rfl f hf⟩
    have := wD.length
    simp at this
    omega
   | _ => simp [hu] at hp
end Go.Vm
namespace Go.Vm
open Go.RowKit Go.WideShapes Go.ChangeAt Go.ChangeShapes
theorem Ro {H : Type} {enc : TypeId × Value -> H} {P : Program} {w : World} {sp : Nat -> Bool} {held : Bool} {n base : Nat} {t : TypeId} {v : Value} {d : DataW H} {ps : List MemPlace} {r : Reach}
  (hp : q9 P n t = true) (hl : OD P n t = true) (wa : Value.okWide P w r base t v) (h : DataW.Trod enc P w 0 sp held t v d ps) : ∃ row, Reads w v row /\ TyR P n t row := by
 obtain ⟨fuel, hf⟩ := h
 obtain ⟨row, wD, uZ⟩ := W1 n hp hl hf
 refine ⟨row, ⟨v.cells.toList, ?_, wD⟩, uZ⟩
 cases n with
 | zero => simp [q9] at hp
 | succ n =>
  simp only [q9] at hp
  cases hu : P.underlying t with
  | none => simp [hu] at hp
  | some td =>
   cases td with
   | bool => obtain ⟨b, rfl⟩ := okWide_bool hu wa; exact .inl ⟨_, rfl, rfl, rfl⟩
   | int k => obtain ⟨b, rfl⟩ := okWide_int hu wa; exact .inl ⟨_, rfl, rfl, rfl⟩
   | string => obtain ⟨b, rfl⟩ := okWide_string hu wa; exact .inl ⟨_, rfl, rfl, rfl⟩
   | slice e => obtain ⟨a, l, c, rfl⟩ := okWide_slice hu wa; exact .inl ⟨_, rfl, rfl, rfl⟩
   | struct fs =>
    obtain ⟨cs, rfl, vK⟩ := okWide_struct hu wa
    simp [hu] at hp
    exact .inr ⟨by simp [Value.cells, vK, hp.2], by simp [Value.cells]⟩
   | _ => simp [hu] at hp
def Pu (P : Program) (n : Nat) : List TypeId -> List (List D) -> Prop
 | [], [] => True
 | t :: ts, r :: rs => TyR P n t r /\ Pu P n ts rs
 | _, _ => False
def xG (P : Program) (n : Nat) (ts : List TypeId) : Bool := ts.all fun t => q9 P n t && OD P n t && P.readableRec t && decide (t < P.types.size)
theorem Pf {H : Type} {enc : TypeId × Value -> H} {P : Program} {w : World} {sp : Nat -> Bool} {held : Bool} {n base : Nat} {r : Reach} : ∀ {ts : List TypeId} {vs : List Value} {ds : List (DataW H)} {ps : List MemPlace}, xG P n ts = true ->
  (∀ (j : Nat) t v, ts[j]? = some t -> vs[j]? = some v -> Value.okWide P w r base t v) -> DataW.TrodAll enc P w 0 sp held ts vs ds ps -> ∃ rows, Zg (Reads w) vs rows /\ Pu P n ts rows
 | [], [], [], _, _, _, _ => ⟨[], .nil, trivial⟩
 | t :: ts, v :: vs, d :: ds, _, hp, wa, h => by
  obtain ⟨p, q, h1, h2, _⟩ := h
  simp only [xG, List.all_cons, Bool.and_eq_true] at hp
  obtain ⟨row, hr, ht⟩ := Ro hp.1.1.1.1 hp.1.1.1.2 (wa 0 t v rfl rfl) h1
  obtain ⟨rows, um, fD⟩ := Pf (by simpa [xG] using hp.2) (fun j t v ht hv => wa (j + 1) t v ht hv) h2
  exact ⟨row :: rows, .cons hr um, ht, fD⟩
 | [], [], _ :: _, _, _, _, h => h.elim
 | [], _ :: _, _, _, _, _, h => by cases ‹List (DataW H)› <;> exact h.elim
 | _ :: _, [], _, _, _, _, h => by cases ‹List (DataW H)› <;> exact h.elim
 | _ :: _, _ :: _, [], _, _, _, h => h.elim
theorem WU {H : Type} {enc : TypeId × Value -> H} {P : Program} {n : Nat} (tE : laidOutB P = true) {W W' : World} (hb : Below W.heap.size W W') : ∀ {ts : List TypeId} {vs : List Value} {ds : List (DataW H)} {ps : List MemPlace}, xG P n ts = true ->
  DataW.TrodAll enc P W 0 (fun _ => true) true ts vs ds ps -> DataW.TrodAll enc P W' 0 (fun b => decide (b < W.heap.size)) true ts vs ds ps
 | [], [], [], _, _, h => h
 | t :: ts, v :: vs, d :: ds, _, hp, h => by
  obtain ⟨p, q, h1, h2, rfl⟩ := h
  simp only [xG, List.all_cons, Bool.and_eq_true, decide_eq_true_eq] at hp
  have fG : ∀ x ∈ p, x.block < W.heap.size := by obtain ⟨m, hm⟩ := h1; exact DataW.trod_lt m _ _ _ hm
  exact ⟨p, q, Below.trod tE hp.1.1.2 hp.1.2 h1 hb fG, WU tE hb (by simpa [xG] using hp.2) h2, rfl⟩
 | [], [], _ :: _, _, _, h => h.elim
 | [], _ :: _, _, _, _, h => by cases ‹List (DataW H)› <;> exact h.elim
 | _ :: _, [], _, _, _, h => by cases ‹List (DataW H)› <;> exact h.elim
 | _ :: _, _ :: _, [], _, _, h => h.elim
end Go.Vm
