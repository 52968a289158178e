/- An abstract machine Oe the model of Go, by value, and that it is sound: part Vc. No condition. -/
import Derived.Test.YthjkhlcbpfnobaaGreatVf
import Derived.ProofKit
import Derived.OpenShut
import Derived.Below
import Derived.ChangeOld
import Derived.DataReads
import Derived.Carry
set_option linter.unusedVariables false
set_option linter.unusedSimpArgs false
namespace Go.Vm
open Go.RowKit
abbrev Ren := List ((Nat × Nat) × Option (Nat × Nat))
def yl : Ren -> Nat -> Nat -> Option (Nat × Nat)
 | [], t, j => some (t, j)
 | (n, o) :: ρ, t, j => if t = n.1 /\ j = n.2 then o else yl ρ t j
def inF : List (Nat × Nat) -> Nat -> Nat -> Bool
 | [], _, _ => false
 | n :: F, t, j => (t == n.1 && j == n.2) || inF F t j
def H9 (σ : St) (ρ : Ren) (F : List (Nat × Nat)) : At -> At -> Prop
 | _, .any => True
 | .d x, .d y => x = y
 | .nil _, .nil _ => True
 | .nil s, .d y => y = .sl s []
 | .nil _, .sref t j lo len => yl ρ t j = none /\ lo = 0 /\ len = 0
 | .sref t j lo len, .sref t' j' gn mi => yl ρ t' j' = some (t, j) /\ lo = gn /\ len = mi
 | .sref t j lo len, .d y => inF F t j = true /\ (match σ.ob t j with | .arr _ s rows => y = .sl s (cut rows lo len) | _ => False)
 | .tref t j i c o, .tref t' j' i' c' o' => yl ρ t' j' = some (t, j) /\ i = i' /\ c = c' /\ o = o' /\ (match σ.ob t j with | .arr true _ _ => True | _ => False)
 | .ptr t j i c, .ptr t' j' i' c' => yl ρ t' j' = some (t, j) /\ i = i' /\ c = c'
 | .bptr t c, .bptr t' c' => yl ρ t' 0 = some (t, 0) /\ c = c'
 | .fn f t, .fn f' t' => yl ρ t' 0 = some (t, 0) /\ f = f'
 | .rptr r c, .rptr r' c' => r = r' /\ c = c'
 | _, _ => False
def S6 (σ : St) (ρ : Ren) (F : List (Nat × Nat)) : List At -> List At -> Prop
 | [], [] => True
 | x :: xs, y :: ys => H9 σ ρ F x y /\ S6 σ ρ F xs ys
 | _, _ => False
def wkV (σ : St) (ρ : Ren) (F : List (Nat × Nat)) : V -> V -> Prop
 | _, .any => True
 | .one x, .one y => H9 σ ρ F x y
 | .agg xs, .agg ys => S6 σ ρ F xs ys
 | .fix u (.one x), .fix u' (.one y) => u = u' /\ H9 σ ρ F x y
 | .fix u (.agg xs), .fix u' (.agg ys) => u = u' /\ S6 σ ρ F xs ys
 | .fix _ (.one x), .one y => H9 σ ρ F x y
 | .fix _ (.agg xs), .agg ys => S6 σ ρ F xs ys
 | _, _ => False
def Er (σ : St) (ρ : Ren) (F : List (Nat × Nat)) (t' j' : Nat) : Ob -> Prop
 | .none => True
 | .arr q size rows => (match yl ρ t' j' with
  | none => rows = []
  | some (t, j) => inF F t j = false /\ (match σ.ob t j with | .arr p s r => (p = q \/ p = false /\ ∀ x ∈ rows, ∀ y ∈ x, y.scalar = true) /\ s = size /\ r = rows | _ => False))
 | .lit _ _ => False
 | .box cells => (match yl ρ t' j' with
  | none => False
  | some (t, j) => inF F t j = false /\ (match σ.ob t j with | .box cs => S6 σ ρ F cs cells | _ => False))
def Bp (σ : St) (ρ : Ren) (F : List (Nat × Nat)) (t : Nat) : List Ob -> Nat -> Prop
 | [], _ => True
 | o :: os, j => Er σ ρ F t j o /\ Bp σ ρ F t os (j + 1)
def SF (σ : St) (ρ : Ren) (F : List (Nat × Nat)) : List Ent -> List Ent -> Nat -> Prop
 | [], [], _ => True
 | e :: es, e' :: gm, t => (wkV σ ρ F e.1 e'.1 /\ Bp σ ρ F t e'.2 0) /\ SF σ ρ F es gm (t + 1)
 | _, _, _ => False
def Kw : Ren -> Nat -> Nat -> Bool
 | [], _, _ => false
 | (n, _) :: ρ, t, j => (t == n.1 && j == n.2) || Kw ρ t j
def WW : Ren -> Nat -> Nat -> Bool
 | [], _, _ => false
 | (_, some o) :: ρ, t, j => (t == o.1 && j == o.2) || WW ρ t j
 | (_, none) :: ρ, t, j => WW ρ t j
def C2 (σ' : St) (t j : Nat) : Bool := match σ'.ob t j with | .none => true | _ => false
def VW (σ' : St) (all : Ren) : Ren -> Bool
 | [] => true
 | (_, some o) :: ρ => !WW ρ o.1 o.2 && (Kw all o.1 o.2 || C2 σ' o.1 o.2) && VW σ' all ρ
 | (_, none) :: ρ => VW σ' all ρ
theorem Wy : ∀ {ρ : Ren} {t j : Nat}, Kw ρ t j = false -> yl ρ t j = some (t, j)
 | [], _, _, _ => rfl
 | (n, o) :: ρ, t, j, h => by
  simp only [Kw, Bool.or_eq_false_iff, Bool.and_eq_false_iff, beq_eq_false_iff_ne] at h
  simp only [yl]
  rw [if_neg (by rintro ⟨h1, h2⟩; rcases h.1 with h3 | h3 <;> contradiction)]
  exact Wy h.2
theorem U7 : ∀ {ρ : Ren} {t j : Nat} {o : Nat × Nat}, Kw ρ t j = true -> yl ρ t j = some o -> WW ρ o.1 o.2 = true
 | [], _, _, _, h, _ => by simp [Kw] at h
 | (n, o') :: ρ, t, j, o, h, ho => by
  simp only [yl] at ho
  split at ho
  ·subst ho; simp [WW]
  ·rename_i pS
   have h' : Kw ρ t j = true := by
    simp only [Kw, Bool.or_eq_true, Bool.and_eq_true, beq_iff_eq] at h
    rcases h with h | h
    ·exact absurd h pS
    ·exact h
   have := U7 h' ho
   cases o' with
   | none => simpa [WW] using this
   | some o' => simp [WW, this]
theorem FL {σ' : St} {all : Ren} : ∀ {ρ : Ren} {t j t' j' : Nat} {o : Nat × Nat}, VW σ' all ρ = true -> Kw ρ t j = true -> Kw ρ t' j' = true -> yl ρ t j = some o -> yl ρ t' j' = some o -> (t, j) = (t', j')
 | [], _, _, _, _, _, _, h, _, _, _ => by simp [Kw] at h
 | (n, o') :: ρ, t, j, t', j', o, po, hn, oR, ho, pv => by
  have aJ : VW σ' all ρ = true := by
   cases o' with
   | none => simpa [VW] using po
   | some o' => simp only [VW, Bool.and_eq_true] at po; exact po.2
  simp only [yl] at ho pv
  by_cases h1 : t = n.1 /\ j = n.2
  ·rw [if_pos h1] at ho
   by_cases h2 : t' = n.1 /\ j' = n.2
   ·rw [h1.1, h1.2, h2.1, h2.2]
   ·rw [if_neg h2] at pv
    have h' : Kw ρ t' j' = true := by
     simp only [Kw, Bool.or_eq_true, Bool.and_eq_true, beq_iff_eq] at oR
     exact oR.resolve_left h2
    have hold := U7 h' pv
    subst ho
    simp only [VW, Bool.and_eq_true, Bool.not_eq_true'] at po
    rw [hold] at po; cases po.1.1
  ·rw [if_neg h1] at ho
   have h : Kw ρ t j = true := by
    simp only [Kw, Bool.or_eq_true, Bool.and_eq_true, beq_iff_eq] at hn
    exact hn.resolve_left h1
   by_cases h2 : t' = n.1 /\ j' = n.2
   ·rw [if_pos h2] at pv
    have hold := U7 h ho
    subst pv
    simp only [VW, Bool.and_eq_true, Bool.not_eq_true'] at po
    rw [hold] at po; cases po.1.1
   ·rw [if_neg h2] at pv
    have h' : Kw ρ t' j' = true := by
     simp only [Kw, Bool.or_eq_true, Bool.and_eq_true, beq_iff_eq] at oR
     exact oR.resolve_left h2
    exact FL aJ h h' ho pv
theorem TK {σ' : St} {all : Ren} : ∀ {ρ : Ren} {t j : Nat}, VW σ' all ρ = true -> WW ρ t j = true -> Kw all t j = true \/ σ'.ob t j = .none
 | [], _, _, _, h => by simp [WW] at h
 | (n, o') :: ρ, t, j, po, h => by
  cases o' with
  | none => exact TK (ρ := ρ) (by simpa [VW] using po) (by simpa [WW] using h)
  | some o =>
   simp only [VW, Bool.and_eq_true, Bool.or_eq_true] at po
   simp only [WW, Bool.or_eq_true, Bool.and_eq_true, beq_iff_eq] at h
   rcases h with ⟨rfl, rfl⟩ | h
   ·refine po.1.2.imp id fun hf => ?_
    unfold C2 at hf; split at hf <;> first | assumption | cases hf
   ·exact TK po.2 h
theorem uJ {σ' : St} {ρ : Ren} (po : VW σ' ρ ρ = true) {t j t' j' : Nat} {o : Nat × Nat} (h1 : σ'.ob t j ≠ .none) (h2 : σ'.ob t' j' ≠ .none) (ho : yl ρ t j = some o) (pv : yl ρ t' j' = some o) : t = t' /\ j = j' := by
 cases hn : Kw ρ t j with
 | true =>
  cases oR : Kw ρ t' j' with
  | true => have := FL po hn oR ho pv; cases this; exact ⟨rfl, rfl⟩
  | false =>
   have n8 := Wy oR
   rw [n8] at pv; cases pv
   have hold := U7 hn ho
   rcases TK po hold with h | h
   ·rw [oR] at h; cases h
   ·exact absurd h h2
 | false =>
  have n8 := Wy hn
  rw [n8] at ho; cases ho
  cases oR : Kw ρ t' j' with
  | true =>
   have hold := U7 oR pv
   rcases TK po hold with h | h
   ·rw [hn] at h; cases h
   ·exact absurd h h1
  | false =>
   have aK := Wy oR
   rw [aK] at pv; cases pv; exact ⟨rfl, rfl⟩
theorem PH {σ : St} {ρ : Ren} {F : List (Nat × Nat)} : ∀ {es gm : List Ent} {t : Nat}, SF σ ρ F es gm t -> es.length = gm.length
 | [], [], _, _ => rfl
 | _ :: _, _ :: _, _, h => by simp [PH h.2]
 | [], _ :: _, _, h => h.elim
 | _ :: _, [], _, h => h.elim
theorem IV {σ : St} {ρ : Ren} {F : List (Nat × Nat)} : ∀ {es gm : List Ent} {t : Nat}, SF σ ρ F es gm t -> ∀ (i : Nat), wkV σ ρ F (St.get es i) (St.get gm i) /\ ∀ j, Er σ ρ F (t + i) j (St.ob gm i j)
 | [], [], t, _, i => ⟨by simp [St.get, wkV], fun j => by simp [St.ob, Er]⟩
 | e :: es, e' :: gm, t, h, 0 => by
  refine ⟨h.1.1, fun j => ?_⟩
  have : ∀ (os : List Ob) (k : Nat), Bp σ ρ F t os k -> ∀ j, Er σ ρ F t (k + j) (Yo os j) := by
   intro os
   induction os with
   | nil => intro k _ j; simp [Yo, Er]
   | cons o os ih =>
    intro k hk j
    cases j with
    | zero => exact hk.1
    | succ j => have := ih (k + 1) hk.2 j; rw [show k + (j + 1) = k + 1 + j by omega]; simpa [Yo] using this
  have := this e'.2 0 h.1.2 j
  simpa using this
 | e :: es, e' :: gm, t, h, i + 1 => by
  have := IV h.2 i
  rw [show t + (i + 1) = t + 1 + i by omega]
  simpa [St.get, St.ob] using this
 | [], _ :: _, _, h, _ => h.elim
 | _ :: _, [], _, h, _ => h.elim
theorem vT {T : CS} {w : World} {xs : List Value} {ds : List D} {S : Nat -> Prop} (pV : YB (Rd T w) xs ds) (hf : ∀ d ∈ ds, d.scalar = true) : KM w xs ds S :=
 ⟨pV.length, fun _ _ => False, fun k x d hx hd => by
  obtain ⟨d', pd, hr⟩ := pV.get k x hx
  rw [hd] at pd; cases pd
  exact Rd.own (hf d (List.mem_of_getElem? hd)) hr, fun _ _ hb => hb.elim, fun _ _ _ hb => hb.elim⟩
theorem X1 {σ σ' : St} (ρ : Ren) (F : List (Nat × Nat)) (po : VW σ' ρ ρ = true) (hs : SF σ ρ F σ σ' 0) : Wk σ σ' := by
 rintro T0 B a w ⟨X, h, r⟩
 let h' : Nat -> Nat -> Hd := fun t j => match yl ρ t j with | some o => h o.1 o.2 | none => Hd.of (.slice none 0 0)
 let X' : Nat -> Prop := fun b => X b \/ ∃ t j, inF F t j = true /\ σ.ob t j ≠ .none /\ (h t j).u b
 have hlen := PH hs
 have od := IV hs
 have pr : ∀ t j, Er σ ρ F t j (σ'.ob t j) := fun t j => by have := (od t).2 j; simpa using this
 have hD : ∀ b k v, Tof T0 X b k -> w.cell? ⟨b, k, none⟩ = some v -> w.cell? ⟨b, k, none⟩ = some v /\ Tof T0 X' b k := fun b k v hb hc => ⟨hc, hb.imp id .inl⟩
 have lZ : ∀ t' j' q size rows, σ'.ob t' j' = .arr q size rows -> (yl ρ t' j' = none /\ rows = []) \/ ∃ t j p, yl ρ t' j' = some (t, j) /\ inF F t j = false /\ σ.ob t j = .arr p size rows /\ (p = q \/ p = false /\ ∀ x ∈ rows, ∀ y ∈ x, y.scalar = true) := by
  intro t' j' q size rows ho
  have := pr t' j'
  rw [ho] at this
  simp only [Er] at this
  split at this
  ·rename_i hn; exact .inl ⟨hn, this⟩
  ·rename_i t j hn
   obtain ⟨hF, this⟩ := this
   split at this
   ·rename_i p s r oY; obtain ⟨hp, rfl, rfl⟩ := this; exact .inr ⟨t, j, p, hn, hF, oY, hp⟩
   ·exact this.elim
 have iU : ∀ t' j' size rows, σ'.ob t' j' ≠ .lit size rows := by
  intro t' j' size rows ho
  have := pr t' j'
  rw [ho] at this; exact this
 have iV : ∀ t' j' cells, σ'.ob t' j' = .box cells -> ∃ t j cs, yl ρ t' j' = some (t, j) /\ inF F t j = false /\ σ.ob t j = .box cs /\ S6 σ ρ F cs cells := by
  intro t' j' cells ho
  have := pr t' j'
  rw [ho] at this
  simp only [Er] at this
  split at this
  ·exact this.elim
  ·rename_i t j hn
   obtain ⟨hF, this⟩ := this
   split at this
   ·rename_i cs oY; exact ⟨t, j, cs, hn, hF, oY, this⟩
   ·exact this.elim
 have at_ : ∀ {x y : At} {v : Value}, H9 σ ρ F x y -> YO (Tof T0 X) h σ.ob w x v -> YO (Tof T0 X') h' σ'.ob w y v := by
  intro x y v hw hr
  have h1 := YO.QN hr
  cases y with
  | any => exact h1
  | d y =>
   cases x with
   | d x => simp only [H9] at hw; subst hw; exact Rd.mono hD hr
   | nil s => simp only [H9] at hw; subst hw; cases hr; exact .nil _
   | sref t j lo len =>
    simp only [H9] at hw
    obtain ⟨hF, hw⟩ := hw
    split at hw
    ·rename_i q s rows ho
     subst hw
     exact r.Bf ho hr _ (fun b k hb => hb.imp id .inl) (fun b k hb => .inr (.inr ⟨t, j, hF, by rw [ho]; simp, hb⟩))
    ·exact hw.elim
   | _ => exact hw.elim
  | nil s =>
   cases x with
   | nil s' => exact hr
   | _ => exact hw.elim
  | sref t' j' gn mi =>
   cases x with
   | nil s =>
    obtain ⟨hn, rfl, rfl⟩ := hw
    cases hr
    refine ⟨rfl, fun q size rows ho => ?_, fun size rows ho => absurd ho (iU _ _ _ _)⟩
    simp only [h', hn]
    exact ⟨by omega, fun _ _ => rfl, fun _ => rfl, none, 0, rfl, by omega, by simp [maxLen], fun _ => rfl, fun hh => absurd hh (by omega)⟩
   | sref t j lo len =>
    obtain ⟨hn, rfl, rfl⟩ := hw
    refine ⟨h1, fun q size rows ho => ?_, fun size rows ho => absurd ho (iU _ _ _ _)⟩
    rcases lZ t' j' q size rows ho with ⟨oR, _⟩ | ⟨t2, j2, p, oR, _, oY, _⟩
    ·rw [hn] at oR; cases oR
    ·rw [hn] at oR; cases oR
     simp only [h', hn]
     exact hr.2.1 p size rows oY
   | _ => exact hw.elim
  | ptr t' j' i' c' =>
   cases x with
   | ptr t j i c =>
    obtain ⟨hn, rfl, rfl⟩ := hw
    refine ⟨h1, fun q size rows ho => ?_⟩
    rcases lZ t' j' q size rows ho with ⟨oR, _⟩ | ⟨t2, j2, p, oR, _, oY, _⟩
    ·rw [hn] at oR; cases oR
    ·rw [hn] at oR; cases oR
     simp only [h', hn]
     exact hr.2 p size rows oY
   | _ => exact hw.elim
  | tref t' j' i' c' o' =>
   cases x with
   | tref t j i c o =>
    obtain ⟨hn, rfl, rfl, rfl, hq⟩ := hw
    refine ⟨h1, fun size rows ho => ?_⟩
    rcases lZ t' j' true size rows ho with ⟨oR, _⟩ | ⟨t2, j2, p, oR, _, oY, hp⟩
    ·rw [hn] at oR; cases oR
    ·rw [hn] at oR; cases oR
     simp only [h', hn]
     rcases hp with rfl | ⟨rfl, nJ⟩
     ·exact hr.2 size rows oY
     ·rw [oY] at hq; exact hq.elim
   | _ => exact hw.elim
  | bptr t' c' =>
   cases x with
   | bptr t c =>
    obtain ⟨hn, rfl⟩ := hw
    refine ⟨h1, fun cells ho => ?_⟩
    obtain ⟨t2, j2, cs, oR, _, oY, _⟩ := iV t' 0 cells ho
    rw [hn] at oR; cases oR
    simp only [h', hn]
    exact hr.2 cs oY
   | _ => exact hw.elim
  | fn f' t' =>
   cases x with
   | fn f t =>
    obtain ⟨hn, rfl⟩ := hw
    refine ⟨h1, fun cells ho => ?_⟩
    obtain ⟨t2, j2, cs, oR, _, oY, _⟩ := iV t' 0 cells ho
    rw [hn] at oR; cases oR
    simp only [h', hn]
    exact hr.2 cs oY
   | _ => exact hw.elim
  | rptr r' c' =>
   cases x with
   | rptr r0 c =>
    obtain ⟨rfl, rfl⟩ := hw
    obtain ⟨b, off, g, e, hk⟩ := hr
    exact ⟨b, off, g, e, fun k d hd => ⟨(hk k d hd).1, (hk k d hd).2.1.imp id .inl, Rd.mono hD (hk k d hd).2.2⟩⟩
   | _ => exact hw.elim
 have gz : ∀ {xs ys : List At} {vs : List Value}, S6 σ ρ F xs ys -> YB (YO (Tof T0 X) h σ.ob w) xs vs -> YB (YO (Tof T0 X') h' σ'.ob w) ys vs := by
  intro xs
  induction xs with
  | nil => intro ys vs hw hr; cases ys with
   | nil => cases hr; exact .nil
   | cons y ys => exact hw.elim
  | cons x xs ih => intro ys vs hw hr; cases ys with
   | nil => exact hw.elim
   | cons y ys => cases hr with
    | cons h1 hr => exact .cons (at_ hw.1 h1) (ih hw.2 hr)
 have v_ : ∀ {x y : V} {v : Value}, wkV σ ρ F x y -> Qy (Tof T0 X) h σ.ob w x v -> Qy (Tof T0 X') h' σ'.ob w y v := by
  intro x y v hw hr
  cases y with
  | any => trivial
  | one y => cases x with
   | one x => exact at_ hw hr
   | fix u x => cases x with
    | one x => exact at_ hw hr.2
    | _ => exact hw.elim
   | _ => exact hw.elim
  | agg ys => cases x with
   | agg xs => obtain ⟨cs, e, hr⟩ := hr; exact ⟨cs, e, gz hw hr⟩
   | fix u x => cases x with
    | agg xs => obtain ⟨cs, e, hr⟩ := hr.2; exact ⟨cs, e, gz hw hr⟩
    | _ => exact hw.elim
   | _ => exact hw.elim
  | tup ys => cases x with
   | fix u x => cases x <;> exact hw.elim
   | _ => exact hw.elim
  | cnd g y => cases x with
   | fix u x => cases x <;> exact hw.elim
   | _ => exact hw.elim
  | fix u' y => cases x with
   | fix u x => cases x with
    | one x => cases y with
     | one y => obtain ⟨rfl, hw⟩ := hw; exact ⟨hr.1, at_ hw hr.2⟩
     | _ => exact hw.elim
    | agg xs => cases y with
     | agg ys => obtain ⟨rfl, hw⟩ := hw; obtain ⟨e1, cs, e, hr⟩ := hr; exact ⟨e1, cs, e, gz hw hr⟩
     | _ => exact hw.elim
    | _ => cases y <;> exact hw.elim
   | _ => cases y <;> exact hw.elim
 have pS : ∀ t j, σ'.ob t j ≠ .none -> (yl ρ t j = none /\ ∀ b, ¬ (h' t j).u b) \/ ∃ o, yl ρ t j = some o /\ σ.ob o.1 o.2 ≠ .none /\ inF F o.1 o.2 = false /\ h' t j = h o.1 o.2 := by
  intro t j hn
  cases ho : σ'.ob t j with
  | none => exact absurd ho hn
  | arr q size rows =>
   rcases lZ t j q size rows ho with ⟨oR, _⟩ | ⟨t2, j2, p, oR, hF, oY, _⟩
   ·exact .inl ⟨oR, fun b hb => by simp only [h', oR, Hd.of, blk] at hb; cases hb⟩
   ·exact .inr ⟨(t2, j2), oR, by rw [oY]; simp, hF, by simp only [h', oR]⟩
  | lit size rows => exact absurd ho (iU _ _ _ _)
  | box cells =>
   obtain ⟨t2, j2, cs, oR, hF, oY, _⟩ := iV t j cells ho
   exact .inr ⟨(t2, j2), oR, by rw [oY]; simp, hF, by simp only [h', oR]⟩
 refine ⟨X', h', by rw [r.size, hlen], r.defers, r.hB, fun b hb => ?_, r.hT, fun t ht => ?_, fun t j => ?_, fun t j b hn hb => ?_, fun t j b hn hb => ?_, fun t j t' j' b hn oR hb pj => ?_⟩
 ·rcases hb with hb | ⟨t, j, _, hn, hb⟩
  ·exact r.hX b hb
  ·have := r.own t j b hn hb; exact ⟨this.1, this.2.2⟩
 ·exact v_ (od t).1 (r.slot t (by rw [hlen]; exact ht))
 ·cases ho : σ'.ob t j with
  | none => trivial
  | lit size rows => exact absurd ho (iU _ _ _ _)
  | arr q size rows =>
   rcases lZ t j q size rows ho with ⟨hn, rfl⟩ | ⟨u, k, p, hn, _, oY, hp⟩
   ·have : h' t j = Hd.of (.slice none 0 0) := by simp only [h', hn]
    rw [this]
    cases q with
    | false => exact ⟨0, [], World.ownsRow_nil w 0 0 size, (by intro q hq; cases hq), .nil⟩
    | true => exact ⟨0, [], World.ownsRow_nil w 0 0 size, (by intro q hq; cases hq), KM.nil _, fun k x d hx => by simp at hx⟩
   ·have he : h' t j = h u k := by simp only [h', hn]
    rw [he]
    have h0 := r.obj u k
    rw [oY] at h0
    cases p with
    | false =>
     obtain ⟨e, xs, pY, hz, pV⟩ := h0
     cases q with
     | false => exact ⟨e, xs, pY, hz, pV.imp fun _ _ => Rd.mono hD⟩
     | true =>
      rcases hp with hp | ⟨_, nJ⟩
      ·cases hp
      ·have gQ : ∀ d ∈ rows.flatten, d.scalar = true := fun d hd => by
        obtain ⟨r0, mb, hdr⟩ := List.mem_flatten.1 hd
        exact nJ r0 mb d hdr
       exact ⟨e, xs, pY, hz, vT pV gQ, fun k x d _ hd hs => by rw [gQ d (List.mem_of_getElem? hd)] at hs; cases hs⟩
    | true =>
     rcases hp with rfl | ⟨hp, _⟩
     ·exact h0
     ·cases hp
  | box cells =>
   obtain ⟨u, k, cs, hn, _, oY, ni⟩ := iV t j cells ho
   have h0 := r.obj u k
   rw [oY] at h0
   obtain ⟨b, vs, e, hv, hh, pV⟩ := h0
   have he : h' t j = h u k := by simp only [h', hn]
   rw [he]
   exact ⟨b, vs, e, hv, hh, gz ni pV⟩
 ·rcases pS t j hn with ⟨hr, _⟩ | ⟨o, hr, iC, hF, he⟩
  ·simp only [h', hr, Hd.of, blk] at hb; cases hb
  ·rw [he] at hb ⊢; exact r.ub o.1 o.2 b iC hb
 ·rcases pS t j hn with ⟨_, iC⟩ | ⟨o, hr, iC, hF, he⟩
  ·exact absurd hb (iC b)
  ·rw [he] at hb
   have h0 := r.own o.1 o.2 b iC hb
   refine ⟨h0.1, ?_, h0.2.2⟩
   rintro (hx | ⟨t2, j2, hF2, cz, oK⟩)
   ·exact h0.2.1 hx
   ·obtain ⟨h3, h4⟩ := r.inj o.1 o.2 t2 j2 b iC cz hb oK
    rw [h3, h4] at hF; rw [hF] at hF2; cases hF2
 ·rcases pS t j hn with ⟨_, iC⟩ | ⟨o, hr, iC, _, he⟩
  ·exact absurd hb (iC b)
  ·rcases pS t' j' oR with ⟨_, eA⟩ | ⟨o', oq, eA, _, dI⟩
   ·exact absurd pj (eA b)
   ·rw [he] at hb
    rw [dI] at pj
    obtain ⟨h3, h4⟩ := r.inj o.1 o.2 o'.1 o'.2 b iC eA hb pj
    have : o = o' := Prod.ext h3 h4
    subst this
    exact uJ po hn oR hr oq
theorem Kt {σ σ' : St} (hs : SF σ [] [] σ σ' 0) : Wk σ σ' := X1 [] [] rfl hs
attribute [simp] yl inF H9 S6 wkV Er Bp SF Kw WW C2 VW
end Go.Vm
namespace Go.Vm
open Go.RowKit
def XG (P : Program) (σ : St) : List Operand -> List TypeId -> Prop × Option (List (List D))
 | [], _ => (True, some [])
 | x :: xs, t :: ts => (gOf (look P σ t x) = true /\ (XG P σ xs ts).1, match (unc (look P σ t x)).Ks σ, (XG P σ xs ts).2 with | some r, some rs => some (r :: rs) | _, _ => none)
 | _ :: _, [] => (False, none)
theorem xn {P : Program} {σ : St} : ∀ {xs : List Operand} {ts : List TypeId} {rs : List (List D)}, (XG P σ xs ts).1 -> (XG P σ xs ts).2 = some rs -> Qd P σ xs ts rs
 | [], _, rs, _, h => by simp [XG] at h; exact h
 | x :: xs, t :: ts, rs, h1, h => by
  simp only [XG] at h
  split at h
  ·rename_i r ec hr mE
   cases h
   exact ⟨h1.1, r, ec, hr, xn h1.2 mE, rfl⟩
  ·cases h
 | _ :: _, [], _, h1, _ => h1.elim
attribute [simp] XG
theorem Lf {P : Program} {ops : Array Oper} {bar : Oper -> Bool} {o : Oper} {rest : List Oper} {σ : St} {Q : St -> Prop} {c : Call} {f : FuncId} {d : Nat} {own : Bool} {rows res : List (List D)} (pP : o.op = .call c) (hc : c.callee = .value (.func f)) (hg : o.guard = none) (hd : o.dst = some d)
  (hs : Ql P f own rows res) (pe : (XG P σ c.args.toList c.argTypes.toList).2 = some rows) (pX : (XG P σ c.args.toList c.argTypes.toList).1) (pt : YY P σ c.args.toList c.argTypes.toList = true \/ KA own res) (h : Ev P ops bar rest (σ.put d (qL res)) Q) : j0 P ops bar o rest σ Q :=
 CF pP hc hg hd (xn pX pe) hs pt h
theorem vI {P : Program} {ops : Array Oper} {bar : Oper -> Bool} {o : Oper} {rest : List Oper} {σ : St} {Q : St -> Prop} {c : Call} {f : FuncId} {d : Nat} {rows res : List (List D)} (pP : o.op = .call c) (hc : c.callee = .value (.func f)) (hg : o.guard = none) (hd : o.dst = some d)
  (hs : Ql P f true rows res) (pe : (XG P σ c.args.toList c.argTypes.toList).2 = some rows) (pX : (XG P σ c.args.toList c.argTypes.toList).1) (pt : YY P σ c.args.toList c.argTypes.toList = true \/ KA true res) (hf : σ.fresh d = true) (h : Ev P ops bar rest (σ.new d (jN d res) (xD res.flatten)) Q) : j0 P ops bar o rest σ Q :=
 Ek pP hc hg hd (xn pX pe) hs pt hf h
theorem F7 {P : Program} {ops : Array Oper} {bar : Oper -> Bool} {o : Oper} {rest : List Oper} {σ : St} {Q : St -> Prop} {c : Call} {f : FuncId} {d : Nat} {rows res : List (List D)} (qs : List Bool) (pP : o.op = .call c) (hc : c.callee = .value (.func f)) (hg : o.guard = none) (hd : o.dst = some d)
  (hs : Yx P f rows res) (pe : (XG P σ c.args.toList c.argTypes.toList).2 = some rows) (pX : (XG P σ c.args.toList c.argTypes.toList).1) (hq : yk qs res.flatten) (hf : σ.fresh d = true) (h : Ev P ops bar rest (σ.new d (jN d res) (YS qs res.flatten)) Q) : j0 P ops bar o rest σ Q :=
 Co qs pP hc hg hd (xn pX pe) hs hq hf h
theorem Es {P : Program} {ops : Array Oper} {bar : Oper -> Bool} {o : Oper} {rest : List Oper} {σ : St} {Q : St -> Prop} {c : Call} {f : FuncId} {d j dj : Nat} {want g own : Bool} {rows : List (List D)} {res : List D} (pP : o.op = .call c) (hc : c.callee = .value (.func f)) (hg : o.guard = some (j, want)) (hd : o.dst = some d)
  (nI : (ops[j]?).bind (·.dst) = some dj) (nP : qQ want (σ.get dj) = some g) (hs : g = true -> Ql P f own rows [res])
  (pe : (XG P σ c.args.toList c.argTypes.toList).2 = some rows) (pa : dj < σ.length)
  (pX : g = true -> (XG P σ c.args.toList c.argTypes.toList).1) (pt : YY P σ c.args.toList c.argTypes.toList = true \/ KA own [res]) (h : Ev P ops bar rest (σ.put d (.cnd g (qL [res]))) Q) : j0 P ops bar o rest σ Q :=
 Cr pP hc hg hd nI pa nP (fun hh => xn (pX hh) pe) hs pt h
def Y5 : Nat -> List (Nat × V × List Ob) -> St
 | n, [] => List.replicate n (V.any, [])
 | n, (t, v, os) :: l => (Y5 n l).new t v os
attribute [simp] Y5
end Go.Vm
namespace Go.Vm
open Go.RowKit
def ua (P : Program) (b : Bool) (x y : Code) (Q : Exit -> St -> Prop) (σ : St) : Prop := (b = true -> AWP P x Q σ) /\ (b = false -> AWP P y Q σ)
def uk (P : Program) (c : Code) (Q : Exit -> St -> Prop) (σ : St) : Prop := AWP P (.loop c) Q σ
def uY (P : Program) (id : Nat) (ops : Array Oper) (Q : Exit -> St -> Prop) (σ : St) : Prop := AWP P (.region id ops true) Q σ
def Hn (P : Program) (c : Code) (Q : Exit -> St -> Prop) (σ : St) : Prop := AWP P c Q σ
def Wx (P : Program) : Code -> (Exit -> St -> Prop) -> St -> Prop
 | .seq x y, Q, σ => Wx P x (HC (Wx P y Q) Q) σ
 | .region _ ⟨l⟩ false, Q, σ => Ev P ⟨l⟩ (fun _ => true) l σ (Q .normal)
 | .region id ops true, Q, σ => uY P id ops Q σ
 | .cond c x y, Q, σ => (match look P σ 0 c with | .one (.d (.bool b)) => ua P b x y Q σ | _ => False)
 | .block id c, Q, σ => Wx P c (S8 id Q) σ
 | .loop c, Q, σ => uk P c Q σ
 | .skip, Q, σ => Q .normal σ
 | .exit id, Q, σ => Q (.exit id) σ
 | .ret, Q, σ => Q .ret σ
 | .rangeFunc f ps x y, Q, σ => Hn P (.rangeFunc f ps x y) Q σ
 | .scope c, Q, σ => Hn P (.scope c) Q σ
 | .label l, Q, σ => Hn P (.label l) Q σ
 | .goto l, Q, σ => Hn P (.goto l) Q σ
 | .refuse s, Q, σ => Hn P (.refuse s) Q σ
theorem Vt {P : Program} : ∀ {c : Code} {Q : Exit -> St -> Prop} {σ : St}, Wx P c Q σ -> AWP P c Q σ
 | .seq x y, Q, σ, h => by
  rw [Wx] at h
  refine v8 (DS (fun e σ' hq => ?_) (Vt h))
  cases e <;> simp only [HC] at hq ⊢ <;> first | exact Vt hq | exact hq
 | .region _ ⟨l⟩ false, Q, σ, h => tF h
 | .region id ops true, Q, σ, h => h
 | .cond c x y, Q, σ, h => by
  rw [Wx] at h
  split at h
  ·rename_i b hb; exact vJ hb h.1 h.2
  ·exact h.elim
 | .block id c, Q, σ, h => Ah (Vt (by rw [Wx] at h; exact h))
 | .loop c, Q, σ, h => h
 | .skip, Q, σ, h => vS h
 | .exit id, Q, σ, h => vR h
 | .ret, Q, σ, h => uA h
 | .rangeFunc _ _ _ _, Q, σ, h => h
 | .scope _, Q, σ, h => h
 | .label _, Q, σ, h => h
 | .goto _, Q, σ, h => h
 | .refuse _, Q, σ, h => h
class xF where
 c : Code
class KD where
 ops : Array Oper
 bar : Oper -> Bool
class Km where
 l : List Oper
class OpI where
 o : Oper
class inductive Fr where
 | fin (Q : Exit -> St -> Prop)
 | sq (y : Code) (k : Fr)
 | blk (id : Nat) (k : Fr)
 | nxt (n : St -> Prop) (k : Fr)
def Fr.run (P : Program) : Fr -> Exit -> St -> Prop
 | .fin Q, e, σ => Q e σ
 | .sq y k, e, σ => HC (Wx P y (Fr.run P k)) (Fr.run P k) e σ
 | .blk id k, e, σ => S8 id (Fr.run P k) e σ
 | .nxt n k, e, σ => HC n (Fr.run P k) e σ
def WI (P : Program) (σ : St) [c : xF] [k : Fr] : Prop := Wx P c.c (k.run P) σ
def LI (P : Program) (e : Exit) (σ : St) [k : Fr] : Prop := k.run P e σ
def EI (P : Program) (σ : St) [A : KD] [l : Km] [k : Fr] : Prop := Ev P A.ops A.bar l.l σ (k.run P .normal)
def SI (P : Program) (σ : St) [A : KD] [o : OpI] [l : Km] [k : Fr] : Prop := j0 P A.ops A.bar o.o l.l σ (k.run P .normal)
def CI (P : Program) (b : Bool) (σ : St) [x : xF] [y : xF] [k : Fr] : Prop := ua P b x.c y.c (k.run P) σ
def RO (P : Program) (σ : St) [c : xF] [k : Fr] : Prop := uk P c.c (k.run P) σ
def DI (P : Program) (id : Nat) (σ : St) [A : KD] [k : Fr] : Prop := uY P id A.ops (k.run P) σ
section
variable {P : Program} {σ : St} {k : Fr}
theorem tJ {x y : Code} : @WI P σ ⟨.seq x y⟩ k = @WI P σ ⟨x⟩ (.sq y k) := by
 simp only [WI]
 rw [Wx]
 congr 1
theorem AW {id : Nat} {l : List Oper} : @WI P σ ⟨.region id ⟨l⟩ false⟩ k = @EI P σ ⟨⟨l⟩, fun _ => true⟩ ⟨l⟩ k := by simp only [WI, EI, Wx]
theorem vm {id : Nat} {ops : Array Oper} : @WI P σ ⟨.region id ops true⟩ k = @DI P id σ ⟨ops, fun _ => true⟩ k := by simp only [WI, DI, Wx]
theorem v3 {c : Operand} {x y : Code} : @WI P σ ⟨.cond c x y⟩ k = (match look P σ 0 c with | .one (.d (.bool b)) => @CI P b σ ⟨x⟩ ⟨y⟩ k | _ => False) := by simp only [WI, CI, Wx]
theorem we {id : Nat} {c : Code} : @WI P σ ⟨.block id c⟩ k = @WI P σ ⟨c⟩ (.blk id k) := by
 simp only [WI]
 rw [Wx]
 congr 1
theorem uH {c : Code} : @WI P σ ⟨.loop c⟩ k = @RO P σ ⟨c⟩ k := by simp only [WI, RO, Wx]
theorem uM : @WI P σ ⟨.skip⟩ k = @LI P .normal σ k := by simp only [WI, LI, Wx]
theorem uD {id : Nat} : @WI P σ ⟨.exit id⟩ k = @LI P (.exit id) σ k := by simp only [WI, LI, Wx]
theorem tc : @WI P σ ⟨.ret⟩ k = @LI P .ret σ k := by simp only [WI, LI, Wx]
theorem tO {Q : Exit -> St -> Prop} {e : Exit} : @LI P e σ (.fin Q) = Q e σ := rfl
theorem sB {y : Code} : @LI P .normal σ (.sq y k) = @WI P σ ⟨y⟩ k := rfl
theorem Ct {y : Code} {id : Nat} : @LI P (.exit id) σ (.sq y k) = @LI P (.exit id) σ k := rfl
theorem B8 {y : Code} : @LI P .ret σ (.sq y k) = @LI P .ret σ k := rfl
theorem tV {n : St -> Prop} : @LI P .normal σ (.nxt n k) = n σ := rfl
theorem E7 {n : St -> Prop} {id : Nat} : @LI P (.exit id) σ (.nxt n k) = @LI P (.exit id) σ k := rfl
theorem BB {n : St -> Prop} : @LI P .ret σ (.nxt n k) = @LI P .ret σ k := rfl
theorem tE {id : Nat} : @LI P .normal σ (.blk id k) = @LI P .normal σ k := rfl
theorem BQ {id : Nat} : @LI P .ret σ (.blk id k) = @LI P .ret σ k := rfl
theorem Df {id fY : Nat} : @LI P (.exit fY) σ (.blk id k) = if fY = id then @LI P .normal σ k else @LI P (.exit fY) σ k := rfl
theorem tI {A : KD} : @EI P σ A ⟨[]⟩ k = @LI P .normal σ k := by simp only [EI, LI, Ev]
theorem vt {A : KD} {o : Oper} {rest : List Oper} : @EI P σ A ⟨o :: rest⟩ k =
  (if stops P A.bar o then @SI P σ A ⟨o⟩ ⟨rest⟩ k else
  match o.guard with
  | none =>
   (match o.dst with
   | some d => (evS P σ o d).1 /\ @EI P (evS P σ o d).2 A ⟨rest⟩ k
   | none => (match o.op with | .store T x y => if tL P σ T x y then @SI P σ A ⟨o⟩ ⟨rest⟩ k else (D2 P σ T x y).1 /\ @EI P (D2 P σ T x y).2 A ⟨rest⟩ k | _ => False))
  | some (j, want) =>
   (match (A.ops[j]?).bind (·.dst), o.dst with
   | some dj, some d => (match qQ want (σ.get dj) with
    | some g => (dj < σ.length /\ (g = true -> (evV P σ o.op o.type).1 /\ gOf (evV P σ o.op o.type).2 = true /\ (unc (evV P σ o.op o.type).2).flat = true)) /\ @EI P (σ.put d (.cnd g (unc (evV P σ o.op o.type).2))) A ⟨rest⟩ k
    | none => False)
   | _, _ => False)) := by
 simp only [EI, SI]
 rw [Ev]
 rfl
end
section
variable {P : Program} {σ : St} {k : Fr}
theorem wW {f : FuncId} {fn : Func} {c : Code} (hf : P.funcs[f]? = some fn) (hb : fn.body = some c) (po : Ua P f = true) {own : Bool} {args res : List (List D)}
  (hw : @WI P (jQ fn.ntmps args) ⟨c⟩ (.fin (Dx P fn own res))) : Ql P f own args res := EN hf hb po (Vt hw)
theorem Bn {A : KD} {o : OpI} {l : Km} {c : Call} {f : FuncId} {d j dj : Nat} {want g own : Bool} {rows : List (List D)} {res : List D} (pP : o.o.op = .call c) (hc : c.callee = .value (.func f)) (hg : o.o.guard = some (j, want)) (hd : o.o.dst = some d)
  (nI : (A.ops[j]?).bind (·.dst) = some dj) (nP : qQ want (σ.get dj) = some g) (hs : g = true -> Ql P f own rows [res])
  (pe : (XG P σ c.args.toList c.argTypes.toList).2 = some rows) (pa : dj < σ.length)
  (pX : g = true -> (XG P σ c.args.toList c.argTypes.toList).1) (pt : YY P σ c.args.toList c.argTypes.toList = true \/ KA own [res]) (h : @EI P (σ.put d (.cnd g (qL [res]))) A l k) : @SI P σ A o l k :=
 Es pP hc hg hd nI nP hs pe pa pX pt h
theorem v9 {A : KD} {o : OpI} {rest : Km} {S T : TypeId} {x : Operand} {d : Nat} {s : ByteArray} (pP : o.o.op = .convert S T x) (hg : o.o.guard = none) (hd : o.o.dst = some d)
  (h1 : gOf (look P σ S x) = true) (h2 : TH P S = true) (h3 : OM P T = true) (h4 : unc (look P σ S x) = .one (.d (.str s))) (h5 : s.size <= 9223372036854775807) (h : @EI P (σ.put d (.one (.d (.sl 1 (zK s.data.toList))))) A rest k) : @SI P σ A o rest k :=
 Ep pP hg hd h1 h2 h3 h4 h5 h
theorem AM {f : FuncId} {fn : Func} {c : Code} (hf : P.funcs[f]? = some fn) (hb : fn.body = some c) (po : Ua P f = true) {args res : List (List D)}
  (hw : @WI P (jQ fn.ntmps args) ⟨c⟩ (.fin (AI P fn res))) : Yx P f args res := GL hf hb po (Vt hw)
def F1 (o : Oper) : Bool := match o.op with | .call ⟨.value _, _, _⟩ => false | _ => true
theorem evI {A : KD} {o : OpI} {l : Km} {d : Nat} (hp : F1 o.o = true) (hg : o.o.guard = none) (hd : o.o.dst = some d) (h : (evS P σ o.o d).1 /\ @EI P (evS P σ o.o d).2 A l k) : @SI P σ A o l k := by
 refine vy (fun c pP f hc => ?_) hg hd h.1 h.2
 obtain ⟨cc, ca, ct⟩ := c
 simp only at hc; subst hc
 simp [F1, pP] at hp
theorem s7 {A : KD} {o : OpI} {l : Km} {d : Nat} {T : TypeId} {n : Nat} {parts : Array (Nat × Operand)} (pP : o.o.op = .buildSlice T n parts) (hg : o.o.guard = none) (hd : o.o.dst = some d)
  (h1 : σ.fresh d = true /\ XW P T = true /\ Qg P (ZT P T) = true /\ 0 < P.cellsOf (ZT P T) /\ parts.toList.length = n /\ n * P.cellsOf (ZT P T) <= 16777216) (h2 : (Ku P σ (ZT P T) (P.cellsOf (ZT P T)) parts.toList 0).1)
  (h3 : YU d (Ku P σ (ZT P T) (P.cellsOf (ZT P T)) parts.toList 0).2.flatten = false)
  (h : @EI P (σ.new d (.one (.sref d 0 0 (Ku P σ (ZT P T) (P.cellsOf (ZT P T)) parts.toList 0).2.length)) [.lit (P.cellsOf (ZT P T)) (Ku P σ (ZT P T) (P.cellsOf (ZT P T)) parts.toList 0).2]) A l k) : @SI P σ A o l k := wM pP hg hd h1 h2 h3 h
theorem sy {A : KD} {o : OpI} {l : Km} {d : Nat} {T : TypeId} {n : Nat} {parts : Array (Nat × Operand)} (pP : o.o.op = .buildSlice T n parts) (hg : o.o.guard = none) (hd : o.o.dst = some d)
  (h1 : XW P T = true /\ Qg P (ZT P T) = true /\ 0 < P.cellsOf (ZT P T) /\ parts.toList.length = n /\ n * P.cellsOf (ZT P T) <= 16777216) (h2 : (qo P σ (ZT P T) (P.cellsOf (ZT P T)) parts.toList 0).1)
  (h : @EI P (σ.put d (.one (.d (.sl (P.cellsOf (ZT P T)) (qo P σ (ZT P T) (P.cellsOf (ZT P T)) parts.toList 0).2)))) A l k) : @SI P σ A o l k := wB pP hg hd h1 h2 h
theorem sE {A : KD} {o : OpI} {l : Km} {d : Nat} {x y : Operand} {t : TypeId} {pW news : List (List D)} {l1 l2 : List (Nat × Nat)} {size : Nat} (pP : o.o.op = .call ⟨.builtin .append, #[x, y], #[t, t]⟩) (hg : o.o.guard = none) (hd : o.o.dst = some d) (oQ : A.bar o.o = true)
  (oy : size = P.cellsOf (ZT P t)) (h1 : gOf (look P σ t x) = true /\ gOf (look P σ t y) = true /\ XW P t = true /\ Qg P (ZT P t) = true /\ 0 < P.cellsOf (ZT P t))
  (h2 : (VI σ (unc (look P σ t x)) size).1 /\ (VI σ (unc (look P σ t x)) size).2 = (pW, l1)) (h3 : (VV σ (unc (look P σ t y)) size).1 /\ (VV σ (unc (look P σ t y)) size).2 = (news, l2))
  (h4 : (l1 ++ l2).Nodup /\ (σ.Z9 (l1 ++ l2)).fresh d = true) (h5 : (pW.length + news.length) * P.bytesOf (ZT P t) <= 140737488355328 /\ pW.length + news.length <= 9223372036854775807)
  (h : @EI P ((σ.Z9 (l1 ++ l2)).new d (.one (.sref d 0 0 (pW.length + news.length))) [.arr true size (pW ++ news)]) A l k) : @SI P σ A o l k := vA pP hg hd oQ oy h1 h2 h3 h4 h5 h
theorem tg {A : KD} {o : OpI} {l : Km} {T : TypeId} {x y : Operand} {t j i c size : Nat} {rows : List (List D)} {ds : List D} {L : List (Nat × Nat)} (pP : o.o.op = .store T x y) (hg : o.o.guard = none) (hd : o.o.dst = none) (oQ : A.bar o.o = true)
  (hx : unc (look P σ 0 x) = .one (.ptr t j i c)) (ho : σ.ob t j = .arr true size rows) (hi : i < rows.length) (h1 : xo P T = true /\ gOf (look P σ 0 x) = true /\ gOf (look P σ T y) = true /\ (unc (look P σ T y)).flat = true)
  (h2 : Jd σ (unc (look P σ T y)).cells = some ds) (h3 : QI σ (unc (look P σ T y)).cells) (h4 : Yv (unc (look P σ T y)).cells = L) (h5 : L.Nodup /\ (t, j) ∉ L /\ (σ.Z9 L).zi (At.isT t) = false) (h6 : ds.length = P.cellsOf T /\ c + P.cellsOf T <= size)
  (h : @EI P ((σ.Z9 L).YC t j (.arr true size (rows.set i (place (rowAt rows i) c ds)))) A l k) : @SI P σ A o l k := wY pP hg hd oQ hx ho hi h1 h2 h3 h4 h5 h6 h
theorem sr {A : KD} {o : OpI} {l : Km} {T : TypeId} {x y : Operand} {t j i size : Nat} {rows : List (List D)} {ds : List D} {L : List (Nat × Nat)} (pP : o.o.op = .store T x y) (hg : o.o.guard = none) (hd : o.o.dst = none) (oQ : A.bar o.o = true)
  (hx : unc (look P σ 0 x) = .one (.ptr t j i 0)) (ho : σ.ob t j = .arr true size rows) (hi : i < rows.length) (h1 : xo P T = true /\ gOf (look P σ 0 x) = true /\ gOf (look P σ T y) = true /\ (unc (look P σ T y)).flat = true)
  (h2 : Jd σ (unc (look P σ T y)).cells = some ds) (h3 : QI σ (unc (look P σ T y)).cells) (h4 : Yv (unc (look P σ T y)).cells = L) (h5 : L.Nodup /\ (t, j) ∉ L /\ (σ.Z9 L).zi (At.isT t) = false) (h6 : ds.length = P.cellsOf T /\ P.cellsOf T = size)
  (h : @EI P ((σ.Z9 L).YC t j (.arr true size (rows.set i ds))) A l k) : @SI P σ A o l k := vF pP hg hd oQ hx ho hi h1 h2 h3 h4 h5 h6 h
theorem sQ {A : KD} {o : OpI} {l : Km} {T : TypeId} {x y : Operand} {t j i c k' q n size : Nat} {s rows : List (List D)} {ds : List D} {L : List (Nat × Nat)} (pP : o.o.op = .store T x y) (hg : o.o.guard = none) (hd : o.o.dst = none) (oQ : A.bar o.o = true) {off : Nat}
  (hx : unc (look P σ 0 x) = .one (.tref t j i c (some off))) (gN : off = k' * n + q) (ho : σ.ob t j = .arr true size rows) (hi : i < rows.length) (hc : (rowAt rows i)[c]? = some (.sl n s)) (hk : k' < s.length) (h1 : xo P T = true /\ gOf (look P σ 0 x) = true /\ gOf (look P σ T y) = true /\ (unc (look P σ T y)).flat = true)
  (h2 : Jd σ (unc (look P σ T y)).cells = some ds) (h3 : QI σ (unc (look P σ T y)).cells) (h4 : Yv (unc (look P σ T y)).cells = L) (h5 : L.Nodup /\ (t, j) ∉ L) (h6 : ds.length = P.cellsOf T /\ q + P.cellsOf T <= n)
  (h : @EI P ((σ.Z9 L).YC t j (.arr true size (rows.set i (place (rowAt rows i) c [.sl n (s.set k' (place (rowAt s k') q ds))])))) A l k) : @SI P σ A o l k := wg pP hg hd oQ ⟨gN ▸ hx, ho, hi, hc, hk, h1, h2, h3, h4, h5, h6⟩ h
end
attribute [simp] vm tJ AW v3 we uH uM uD tc tO sB Ct B8 tV E7 BB tE BQ Df tI vt
end Go.Vm
namespace Go.Vm
open Go.RowKit
def Cells (w : World) : CS := fun b _ => b < w.heap.size
def Reads (w : World) (v : Value) (row : List D) : Prop := ∃ cs, yC v cs /\ YB (Rd (Cells w) w) cs row
theorem R6 {P : Program} {f : FuncId} {own : Bool} {rows : List (List D)} {oF : List Value} {w : World} (h : Ql P f own rows [[.bool true]]) (hv : YB (Reads w) oF rows) :
  Calls P f oF.toArray w fun e w' => e = .returned (.bool true) /\ Below w.heap.size w w' := by
 refine (h.2 (Cells w) w oF (fun _ _ hb => hb) hv).mono ?_
 rintro e w' ⟨vs, oB, Y, rfl, hb, _, hf, hr, _⟩
 refine ⟨?_, hb⟩
 cases hr with
 | cons h1 hr =>
  cases hr
  cases hf with
  | cons h2 hf =>
   cases hf
   cases h1 with
   | cons h3 h1 =>
    cases h1
    have h4 : ∀ v, qC own (Tof (Cells w) Y) w' v (.bool true) -> Rd (Tof (Cells w) Y) w' v (.bool true) := by
     intro v hv
     unfold qC at hv
     split at hv
     ·exact hv
     ·exact hv
    have h4 := h4 _ h3
    cases h4
    rcases h2 with ⟨v, ni, hvv, _⟩ | ⟨hl, _⟩
    ·cases ni; rw [hvv]; rfl
    ·simp at hl
end Go.Vm
namespace Go.Vm
open Go.RowKit
def TS (P : Program) : Nat -> TypeId -> Bool
 | 0, _ => false
 | n + 1, t =>
  match P.underlying t with
  | some .bool => true
  | some (.int _) => true
  | some .string => true
  | some (.slice e) => TS P n e
  | some (.struct fs) => fs.toList.all (fun f => TS P n f.type) && P.cellsOf t != 1
  | _ => false
def TyR (P : Program) : Nat -> TypeId -> List D -> Prop
 | 0, _, _ => False
 | n + 1, t, row =>
  match P.underlying t with
  | some .bool => ∃ b, row = [.bool b]
  | some (.int k) => ∃ m, row = [.int k m] /\ k.min <= m /\ m <= k.max
  | some .string => ∃ s, row = [.str s] /\ s.size <= maxLen
  | some (.slice e) => ∃ rows, row = [.sl (P.cellsOf e) rows] /\ rows.length <= maxLen /\ ∀ r ∈ rows, TyR P n e r /\ r.length = P.cellsOf e
  | some (.struct fs) => row.length = P.cellsOf t /\ ∀ f ∈ fs.toList, TyR P n f.type (cut row f.offset (P.cellsOf f.type))
  | _ => False
def SP (P : Program) : Nat -> List Field -> Nat -> Bool
 | k, [], n => k == n
 | k, f :: fs, n => f.offset == k && SP P (k + P.cellsOf f.type) fs n
def Gq (P : Program) : Nat -> TypeId -> Bool
 | 0, _ => false
 | n + 1, t =>
  match P.underlying t with
  | some .bool => P.cellsOf t == 1
  | some (.int _) => P.cellsOf t == 1
  | some .string => P.cellsOf t == 1
  | some (.slice e) => P.cellsOf t == 1 && Gq P n e
  | some (.struct fs) => fs.toList.all (fun f => Gq P n f.type) && SP P 0 fs.toList (P.cellsOf t)
  | _ => false
theorem Ot {α β : Type} {f : α -> Option β} : ∀ {l : List α} {m : List β}, l.mapM f = some m -> l.length = m.length /\ ∀ (i : Nat) a, l[i]? = some a -> ∃ b, m[i]? = some b /\ f a = some b
 | [], m, h => by simp at h; subst h; exact ⟨rfl, fun i a ha => by simp at ha⟩
 | x :: l, m, h => by
  simp only [List.mapM_cons, Option.bind_eq_bind, Option.bind_eq_some_iff] at h
  obtain ⟨b, hb, bs, aH, h⟩ := h
  simp at h; subst h
  obtain ⟨h1, h2⟩ := Ot aH
  refine ⟨by simp [h1], fun i a ha => ?_⟩
  cases i with
  | zero => simp at ha; subst ha; exact ⟨b, by simp, hb⟩
  | succ i => simpa using h2 i a (by simpa using ha)
theorem Ai {w : World} {a : Addr} {n : Nat} {cs : List Value} (h : w.cells? 0 a n = some cs) : cs.length = n /\ ∀ i v, cs[i]? = some v -> w.cell? (a.add i) = some v := by
 unfold World.cells? at h
 simp at h
 obtain ⟨h1, h2⟩ := Ot h
 simp at h1
 refine ⟨h1.symm, fun i v hv => ?_⟩
 have hi : i < n := by have := (List.getElem?_eq_some_iff.1 hv).1; omega
 obtain ⟨b, hb, hf⟩ := h2 i i (by simp [hi])
 rw [hv] at hb; cases hb; exact hf
theorem Ts {w : World} {P : Program} {q n : Nat} {cs : List Value} (hl : cs.length = n) : ∀ {fs : List Field} {k : Nat}, SP P k fs n = true -> k <= n ->
  (∀ f ∈ fs, ∃ row, YB (Rd (Cells w) w) (cut cs f.offset (P.cellsOf f.type)) row /\ TyR P q f.type row) ->
  ∃ tail, YB (Rd (Cells w) w) (cs.drop k) tail /\ ∀ (pre : List D), pre.length = k -> ∀ f ∈ fs, TyR P q f.type (cut (pre ++ tail) f.offset (P.cellsOf f.type))
 | [], k, hc, hk, _ => by
  simp only [SP, beq_iff_eq] at hc
  subst hc
  exact ⟨[], by rw [List.drop_eq_nil_of_le (by omega)]; exact .nil, fun _ _ f hf => by cases hf⟩
 | f :: fs, k, hc, hk, h => by
  simp only [SP, Bool.and_eq_true, beq_iff_eq] at hc
  obtain ⟨row, pV, nZ⟩ := h f (by simp)
  rw [hc.1] at pV
  have hkn : k + P.cellsOf f.type <= n := by
   clear h pV nZ
   have : ∀ (fs : List Field) (k : Nat), SP P k fs n = true -> k <= n := by
    intro fs
    induction fs with
    | nil => intro k hh; simp [SP] at hh; omega
    | cons g gs ih => intro k hh; simp only [SP, Bool.and_eq_true, beq_iff_eq] at hh; have := ih _ hh.2; omega
   exact this _ _ hc.2
  have lY : row.length = P.cellsOf f.type := by rw [<- pV.length]; simp [cut]; omega
  obtain ⟨tail, aI, gO⟩ := Ts hl hc.2 hkn (fun g hg => h g (by simp [hg]))
  refine ⟨row ++ tail, ?_, ?_⟩
  ·have : cs.drop k = cut cs k (P.cellsOf f.type) ++ cs.drop (k + P.cellsOf f.type) := by
    unfold cut
    rw [<- List.drop_drop]
    exact (List.take_append_drop _ _).symm
   rw [this]
   exact pV.append aI
  ·intro pre lI g hg
   rcases List.mem_cons.1 hg with rfl | hg
   ·have : cut (pre ++ (row ++ tail)) g.offset (P.cellsOf g.type) = row := by
     unfold cut
     rw [hc.1, <- lI, List.drop_left, <- lY, List.take_left]
    rw [this]; exact nZ
   ·have := gO (pre ++ row) (by rw [List.length_append, lI, lY]) g hg
    rw [<- List.append_assoc]; exact this
section
variable {H : Type} {enc : TypeId × Value -> H} {P : Program} {w : World} {sp : Nat -> Bool} {held : Bool} {fuel : Nat} {t : TypeId} {cs : List Value} {d : DataW H} {ps : List MemPlace}
theorem trod_bool (hu : P.underlying t = some .bool) (h : DataW.trod enc P w 0 sp held fuel t cs = some (d, ps)) : ∃ b, cs = [.bool b] := by
 cases fuel with
 | zero => simp [DataW.trod] at h
 | succ fuel =>
  unfold DataW.trod at h
  rw [hu] at h
  split at h <;> simp_all
theorem trod_int {k : IntKind} (hu : P.underlying t = some (.int k)) (h : DataW.trod enc P w 0 sp held fuel t cs = some (d, ps)) : ∃ m, cs = [.int k m] /\ k.min <= m /\ m <= k.max := by
 cases fuel with
 | zero => simp [DataW.trod] at h
 | succ fuel =>
  unfold DataW.trod at h
  rw [hu] at h
  split at h <;> simp_all [Lit.wf]
theorem vC (hu : P.underlying t = some .string) (h : DataW.trod enc P w 0 sp held fuel t cs = some (d, ps)) : ∃ s, cs = [.string s] /\ s.size <= maxLen := by
 cases fuel with
 | zero => simp [DataW.trod] at h
 | succ fuel =>
  unfold DataW.trod at h
  rw [hu] at h
  split at h <;> simp_all
theorem trod_slice {e : TypeId} (hu : P.underlying t = some (.slice e)) (h : DataW.trod enc P w 0 sp held fuel t cs = some (d, ps)) :
  cs = [.slice none 0 0] \/ ∃ a len cap, cs = [.slice (some a) len cap] /\ len <= cap /\ cap <= maxLen /\
   ∀ i, i < len -> ∃ xs f x, w.cells? 0 (a.add (i * P.cellsOf e)) (P.cellsOf e) = some xs /\ DataW.trod enc P w 0 sp held f e xs = some x := by
 cases fuel with
 | zero => simp [DataW.trod] at h
 | succ fuel =>
  unfold DataW.trod at h
  rw [hu] at h
  split at h <;> first | (simp_all; done) | skip
  rename_i e' a len cap heq
  cases heq
  refine .inr ⟨a, len, cap, rfl, ?_⟩
  simp only at h
  split at h
  ·rename_i hc
   refine ⟨hc.2.1, hc.2.2, fun i hi => ?_⟩
   simp only [Option.bind_eq_some_iff] at h
   obtain ⟨elems, hel, _⟩ := h
   obtain ⟨hl, hg⟩ := Ot hel
   obtain ⟨x, _, hx⟩ := hg i i (by simp [hi])
   obtain ⟨xs, h1, h2⟩ := Option.bind_eq_some_iff.1 hx
   exact ⟨xs, fuel, x, h1, h2⟩
  ·cases h
theorem trod_struct {fs : Array Field} (hu : P.underlying t = some (.struct fs)) (h : DataW.trod enc P w 0 sp held fuel t cs = some (d, ps)) :
  cs.length = P.cellsOf t /\ ∀ f ∈ fs.toList, ∃ q x, DataW.trod enc P w 0 sp held q f.type (cut cs f.offset (P.cellsOf f.type)) = some x := by
 cases fuel with
 | zero => simp [DataW.trod] at h
 | succ fuel =>
  unfold DataW.trod at h
  rw [hu] at h
  split at h <;> first | (simp_all; done) | skip
  rename_i fs' heq
  cases heq
  split at h
  ·rename_i hc
   refine ⟨hc, fun f hf => ?_⟩
   simp only [Option.map_eq_some_iff] at h
   obtain ⟨xs, hx, _⟩ := h
   obtain ⟨_, hg⟩ := Ot hx
   obtain ⟨i, hi⟩ := List.mem_iff_getElem?.1 hf
   obtain ⟨x, _, hx⟩ := hg i f hi
   exact ⟨fuel, x, hx⟩
  ·cases h
end
theorem vw {w : World} {a : Addr} {v : Value} (h : w.cell? a = some v) : a.block < w.heap.size := by
 unfold World.cell? at h
 cases hh : w.heap[a.block]? with
 | none => simp [hh] at h
 | some o => exact (Array.getElem?_eq_some_iff.1 hh).1
theorem Aa (a : Addr) (m k : Nat) (h : m <= k) : a.add k = (a.add m).add (k - m) := by
 simp only [Addr.add]
 by_cases h0 : m = 0
 ·subst h0; simp
 ·by_cases h1 : k - m = 0
  ·have : k = m := by omega
   subst this; simp [h0]
  ·have : k ≠ 0 := by omega
   simp only [h0, h1, this, if_false]
   congr 1
   omega
theorem BF {w : World} {P : Program} {n size : Nat} {e : TypeId} {a : Addr} {len cap : Nat} (hlc : len <= cap) (fM : cap <= maxLen)
  (h : ∀ i, i < len -> ∃ xs row, w.cells? 0 (a.add (i * size)) size = some xs /\ YB (Rd (Cells w) w) xs row /\ TyR P n e row) :
  ∃ rows : List (List D), Rd (Cells w) w (.slice (some a) len cap) (.sl size rows) /\ rows.length <= maxLen /\ ∀ r ∈ rows, TyR P n e r /\ r.length = size := by
 have key : ∀ m, m <= len -> ∃ rows : List (List D), rows.length = m /\ (∀ r ∈ rows, TyR P n e r /\ r.length = size) /\
   ∀ k d, rows.flatten[k]? = some d -> ∃ v, w.cell? (a.add k) = some v /\ Rd (Cells w) w v d := by
  intro m
  induction m with
  | zero => intro _; exact ⟨[], rfl, (by intro r hr; cases hr), (by intro k d hk; simp at hk)⟩
  | succ m ih =>
   intro hm
   obtain ⟨rows, hl, ht, hk⟩ := ih (by omega)
   obtain ⟨xs, row, hx, pV, nZ⟩ := h m (by omega)
   obtain ⟨gP, hxc⟩ := Ai hx
   have lY : row.length = size := by rw [<- pV.length, gP]
   have nJ : rows.flatten.length = m * size := by rw [Yi rows size (fun r hr => (ht r hr).2), hl]
   refine ⟨rows ++ [row], by simp [hl], fun r hr => ?_, fun k d hd => ?_⟩
   ·rcases List.mem_append.1 hr with hr | hr
    ·exact ht r hr
    ·simp at hr; subst hr; exact ⟨nZ, lY⟩
   ·rw [List.flatten_append, List.flatten_singleton] at hd
    rcases Nat.lt_or_ge k rows.flatten.length with pa | mY
    ·rw [List.getElem?_append_left pa] at hd
     exact hk k d hd
    ·rw [List.getElem?_append_right mY] at hd
     obtain ⟨v, hv, hr⟩ := pV.get' _ d hd
     refine ⟨v, ?_, hr⟩
     have := hxc _ v hv
     rw [show a.add k = (a.add (m * size)).add (k - rows.flatten.length) by rw [nJ]; rw [nJ] at mY; exact Aa a (m * size) k mY]
     exact this
 obtain ⟨rows, hl, ht, hk⟩ := key len (Nat.le_refl _)
 refine ⟨rows, ?_, by omega, ht⟩
 have fN : rows.flatten ≠ [] -> a.spot = none := by
  intro pS
  obtain ⟨d, tl, dt⟩ := List.exists_cons_of_ne_nil pS
  obtain ⟨v, hv, _⟩ := hk 0 d (by rw [dt]; rfl)
  have := World.cell?_spot hv
  simpa [Addr.add] using this
 refine .sl a len cap size rows (fun k => (w.cell? (a.add k)).getD undef) hl hlc fM (fun r hr => (ht r hr).2) fN (fun k d hd => ?_) (fun k d hd => ?_)
 ·obtain ⟨v, hv, _⟩ := hk k d hd
  have iW : a.spot = none := fN (by intro hh; rw [hh] at hd; simp at hd)
  have he : a.add k = ⟨a.block, a.off + k, none⟩ := by
   obtain ⟨b, o, sp⟩ := a
   simp only at iW
   subst iW
   simp only [Addr.add]
   split
   ·rename_i h0; subst h0; rfl
   ·rfl
  rw [he] at hv ⊢
  rw [hv]
  exact ⟨rfl, vw (a := ⟨a.block, a.off + k, none⟩) hv⟩
 ·obtain ⟨v, hv, hr⟩ := hk k d hd
  simp only [hv, Option.getD_some]; exact hr
theorem Po {H : Type} {enc : TypeId × Value -> H} {P : Program} {w : World} {sp : Nat -> Bool} {held : Bool} : ∀ (n : Nat) {fuel : Nat} {t : TypeId} {cs : List Value} {d : DataW H} {ps : List MemPlace}, TS P n t = true -> Gq P n t = true ->
  DataW.trod enc P w 0 sp held fuel t cs = some (d, ps) -> ∃ row, YB (Rd (Cells w) w) cs row /\ TyR P n t row
 | 0, _, _, _, _, _, h, _, _ => by simp [TS] at h
 | n + 1, fuel, t, cs, d, ps, hp, hl, h => by
  simp only [TS] at hp
  simp only [Gq] at hl
  simp only [TyR]
  cases hu : P.underlying t with
  | none => simp [hu] at hp
  | some td =>
   cases td with
   | bool => obtain ⟨b, rfl⟩ := trod_bool hu h; exact ⟨_, .cons (.bool b) .nil, b, rfl⟩
   | int k => obtain ⟨m, rfl, h1, h2⟩ := trod_int hu h; exact ⟨_, .cons (.int k m) .nil, m, rfl, h1, h2⟩
   | string => obtain ⟨s, rfl, h1⟩ := vC hu h; exact ⟨_, .cons (.str s) .nil, s, rfl, h1⟩
   | slice e =>
    simp only [hu] at hp hl
    simp only [Bool.and_eq_true] at hl
    rcases trod_slice hu h with rfl | ⟨a, len, cap, rfl, h1, h2, h3⟩
    ·exact ⟨_, .cons (.nil (P.cellsOf e)) .nil, [], rfl, by simp, by simp⟩
    ·obtain ⟨rows, hr, lY, hrt⟩ := BF (P := P) (n := n) (size := P.cellsOf e) (e := e) h1 h2 (fun i hi => by
      obtain ⟨xs, f, x, hx, ht⟩ := h3 i hi
      obtain ⟨row, pV, nZ⟩ := Po n hp hl.2 (d := x.1) (ps := x.2) ht
      exact ⟨xs, row, hx, pV, nZ⟩)
     exact ⟨_, .cons hr .nil, rows, rfl, lY, hrt⟩
   | struct fs =>
    simp only [hu] at hp hl
    simp only [Bool.and_eq_true] at hp hl
    obtain ⟨h1, h2⟩ := trod_struct hu h
    obtain ⟨row, pV, gO⟩ := Ts (w := w) (P := P) (q := n) h1 hl.2 (Nat.zero_le _) (fun f hf => by
     obtain ⟨q, x, hx⟩ := h2 f hf
     exact Po n (List.all_eq_true.1 hp.1 f hf) (List.all_eq_true.1 hl.1 f hf) (d := x.1) (ps := x.2) hx)
    refine ⟨row, by simpa using pV, ?_, fun f hf => by simpa using gO [] rfl f hf⟩
    have := pV.length
    simp at this
    omega
   | _ => simp [hu] at hp
end Go.Vm
namespace Go.Vm
open Go.RowKit Go.WideShapes Go.ChangeAt Go.ChangeShapes
theorem Gg {H : Type} {enc : TypeId × Value -> H} {P : Program} {w : World} {sp : Nat -> Bool} {held : Bool} {n base : Nat} {t : TypeId} {v : Value} {d : DataW H} {ps : List MemPlace} {r : Reach}
  (hp : TS P n t = true) (hl : Gq P n t = true) (po : Value.okWide P w r base t v) (h : DataW.Trod enc P w 0 sp held t v d ps) : ∃ row, Reads w v row /\ TyR P n t row := by
 obtain ⟨fuel, hf⟩ := h
 obtain ⟨row, pV, nZ⟩ := Po n hp hl hf
 refine ⟨row, ⟨v.cells.toList, ?_, pV⟩, nZ⟩
 cases n with
 | zero => simp [TS] at hp
 | succ n =>
  simp only [TS] at hp
  cases hu : P.underlying t with
  | none => simp [hu] at hp
  | some td =>
   cases td with
   | bool => obtain ⟨b, rfl⟩ := okWide_bool hu po; exact .inl ⟨_, rfl, rfl, rfl⟩
   | int k => obtain ⟨b, rfl⟩ := okWide_int hu po; exact .inl ⟨_, rfl, rfl, rfl⟩
   | string => obtain ⟨b, rfl⟩ := okWide_string hu po; exact .inl ⟨_, rfl, rfl, rfl⟩
   | slice e => obtain ⟨a, l, c, rfl⟩ := okWide_slice hu po; exact .inl ⟨_, rfl, rfl, rfl⟩
   | struct fs =>
    obtain ⟨cs, rfl, oy⟩ := okWide_struct hu po
    simp [hu] at hp
    exact .inr ⟨by simp [Value.cells, oy, hp.2], by simp [Value.cells]⟩
   | _ => simp [hu] at hp
def L9 (P : Program) (n : Nat) : List TypeId -> List (List D) -> Prop
 | [], [] => True
 | t :: ts, r :: rs => TyR P n t r /\ L9 P n ts rs
 | _, _ => False
def WM (P : Program) (n : Nat) (ts : List TypeId) : Bool := ts.all fun t => TS P n t && Gq P n t && P.readableRec t && decide (t < P.types.size)
theorem N7 {H : Type} {enc : TypeId × Value -> H} {P : Program} {w : World} {sp : Nat -> Bool} {held : Bool} {n base : Nat} {r : Reach} : ∀ {ts : List TypeId} {vs : List Value} {ds : List (DataW H)} {ps : List MemPlace}, WM P n ts = true ->
  (∀ (j : Nat) t v, ts[j]? = some t -> vs[j]? = some v -> Value.okWide P w r base t v) -> DataW.TrodAll enc P w 0 sp held ts vs ds ps -> ∃ rows, YB (Reads w) vs rows /\ L9 P n ts rows
 | [], [], [], _, _, _, _ => ⟨[], .nil, trivial⟩
 | t :: ts, v :: vs, d :: ds, _, hp, po, h => by
  obtain ⟨p, q, h1, h2, _⟩ := h
  simp only [WM, List.all_cons, Bool.and_eq_true] at hp
  obtain ⟨row, hr, ht⟩ := Gg hp.1.1.1.1 hp.1.1.1.2 (po 0 t v rfl rfl) h1
  obtain ⟨rows, mE, hts⟩ := N7 (by simpa [WM] using hp.2) (fun j t v ht hv => po (j + 1) t v ht hv) h2
  exact ⟨row :: rows, .cons hr mE, ht, hts⟩
 | [], [], _ :: _, _, _, _, h => h.elim
 | [], _ :: _, _, _, _, _, h => by cases ‹List (DataW H)› <;> exact h.elim
 | _ :: _, [], _, _, _, _, h => by cases ‹List (DataW H)› <;> exact h.elim
 | _ :: _, _ :: _, [], _, _, _, h => h.elim
theorem Ug {H : Type} {enc : TypeId × Value -> H} {P : Program} {n : Nat} (mZ : laidOutB P = true) {W W' : World} (hb : Below W.heap.size W W') : ∀ {ts : List TypeId} {vs : List Value} {ds : List (DataW H)} {ps : List MemPlace}, WM P n ts = true ->
  DataW.TrodAll enc P W 0 (fun _ => true) true ts vs ds ps -> DataW.TrodAll enc P W' 0 (fun b => decide (b < W.heap.size)) true ts vs ds ps
 | [], [], [], _, _, h => h
 | t :: ts, v :: vs, d :: ds, _, hp, h => by
  obtain ⟨p, q, h1, h2, rfl⟩ := h
  simp only [WM, List.all_cons, Bool.and_eq_true, decide_eq_true_eq] at hp
  have lt0 : ∀ x ∈ p, x.block < W.heap.size := by obtain ⟨m, hm⟩ := h1; exact DataW.trod_lt m _ _ _ hm
  exact ⟨p, q, Below.trod mZ hp.1.1.2 hp.1.2 h1 hb lt0, Ug mZ hb (by simpa [WM] using hp.2) h2, rfl⟩
 | [], [], _ :: _, _, _, h => h.elim
 | [], _ :: _, _, _, _, h => by cases ‹List (DataW H)› <;> exact h.elim
 | _ :: _, [], _, _, _, h => by cases ‹List (DataW H)› <;> exact h.elim
 | _ :: _, _ :: _, [], _, _, h => h.elim
end Go.Vm
