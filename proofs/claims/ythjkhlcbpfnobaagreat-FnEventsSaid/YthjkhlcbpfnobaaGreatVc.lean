/- An abstract machine NL the model of Go, by value, and that it is sound: part Vc. No condition. -/
import Derived.Test.YthjkhlcbpfnobaaGreatVf
import Derived.ProofKit
import Derived.OpenShut
import Derived.Below
import Derived.ChangeOld
import Derived.DataReads
import Derived.Carry
set_option linter.unusedVariables false
set_option linter.unusedSimpArgs false
namespace Go.Vm
open Go.RowKit
abbrev Ren := List ((Nat × Nat) × Option (Nat × Nat))
def zK : Ren -> Nat -> Nat -> Option (Nat × Nat)
 | [], t, j => some (t, j)
 | (n, o) :: ρ, t, j => if t = n.1 /\ j = n.2 then o else zK ρ t j
def inF : List (Nat × Nat) -> Nat -> Nat -> Bool
 | [], _, _ => false
 | n :: F, t, j => (t == n.1 && j == n.2) || inF F t j
def ID (σ : St) (ρ : Ren) (F : List (Nat × Nat)) : At -> At -> Prop
 | _, .any => True
 | .d x, .d y => x = y
 | .nil _, .nil _ => True
 | .nil s, .d y => y = .sl s []
 | .nil _, .sref t j lo len => zK ρ t j = none /\ lo = 0 /\ len = 0
 | .sref t j lo len, .sref t' j' oO rk => zK ρ t' j' = some (t, j) /\ lo = oO /\ len = rk
 | .sref t j lo len, .d y => inF F t j = true /\ (match σ.ob t j with | .arr _ s rows => y = .sl s (cut rows lo len) | _ => False)
 | .tref t j i c o, .tref t' j' i' c' o' => zK ρ t' j' = some (t, j) /\ i = i' /\ c = c' /\ o = o' /\ (match σ.ob t j with | .arr true _ _ => True | _ => False)
 | .ptr t j i c, .ptr t' j' i' c' => zK ρ t' j' = some (t, j) /\ i = i' /\ c = c'
 | .bptr t c, .bptr t' c' => zK ρ t' 0 = some (t, 0) /\ c = c'
 | .fn f t, .fn f' t' => zK ρ t' 0 = some (t, 0) /\ f = f'
 | .rptr r c, .rptr r' c' => r = r' /\ c = c'
 | _, _ => False
def TD (σ : St) (ρ : Ren) (F : List (Nat × Nat)) : List At -> List At -> Prop
 | [], [] => True
 | x :: xs, y :: ys => ID σ ρ F x y /\ TD σ ρ F xs ys
 | _, _ => False
def wkV (σ : St) (ρ : Ren) (F : List (Nat × Nat)) : V -> V -> Prop
 | _, .any => True
 | .one x, .one y => ID σ ρ F x y
 | .agg xs, .agg ys => TD σ ρ F xs ys
 | .fix u (.one x), .fix u' (.one y) => u = u' /\ ID σ ρ F x y
 | .fix u (.agg xs), .fix u' (.agg ys) => u = u' /\ TD σ ρ F xs ys
 | .fix _ (.one x), .one y => ID σ ρ F x y
 | .fix _ (.agg xs), .agg ys => TD σ ρ F xs ys
 | _, _ => False
def GO (σ : St) (ρ : Ren) (F : List (Nat × Nat)) (t' j' : Nat) : Ob -> Prop
 | .none => True
 | .arr q size rows => (match zK ρ t' j' with
  | none => rows = []
  | some (t, j) => inF F t j = false /\ (match σ.ob t j with | .arr p s r => (p = q \/ p = false /\ ∀ x ∈ rows, ∀ y ∈ x, y.scalar = true) /\ s = size /\ r = rows | _ => False))
 | .lit _ _ => False
 | .box cells => (match zK ρ t' j' with
  | none => False
  | some (t, j) => inF F t j = false /\ (match σ.ob t j with | .box cs => TD σ ρ F cs cells | _ => False))
def DB (σ : St) (ρ : Ren) (F : List (Nat × Nat)) (t : Nat) : List Ob -> Nat -> Prop
 | [], _ => True
 | o :: os, j => GO σ ρ F t j o /\ DB σ ρ F t os (j + 1)
def Uo (σ : St) (ρ : Ren) (F : List (Nat × Nat)) : List Ent -> List Ent -> Nat -> Prop
 | [], [], _ => True
 | e :: es, e' :: ng, t => (wkV σ ρ F e.1 e'.1 /\ DB σ ρ F t e'.2 0) /\ Uo σ ρ F es ng (t + 1)
 | _, _, _ => False
def Jy : Ren -> Nat -> Nat -> Bool
 | [], _, _ => false
 | (n, _) :: ρ, t, j => (t == n.1 && j == n.2) || Jy ρ t j
def jc : Ren -> Nat -> Nat -> Bool
 | [], _, _ => false
 | (_, some o) :: ρ, t, j => (t == o.1 && j == o.2) || jc ρ t j
 | (_, none) :: ρ, t, j => jc ρ t j
def Eg (σ' : St) (t j : Nat) : Bool := match σ'.ob t j with | .none => true | _ => false
def kh (σ' : St) (all : Ren) : Ren -> Bool
 | [] => true
 | (_, some o) :: ρ => !jc ρ o.1 o.2 && (Jy all o.1 o.2 || Eg σ' o.1 o.2) && kh σ' all ρ
 | (_, none) :: ρ => kh σ' all ρ
theorem ji : ∀ {ρ : Ren} {t j : Nat}, Jy ρ t j = false -> zK ρ t j = some (t, j)
 | [], _, _, _ => rfl
 | (n, o) :: ρ, t, j, h => by
  simp only [Jy, Bool.or_eq_false_iff, Bool.and_eq_false_iff, beq_eq_false_iff_ne] at h
  simp only [zK]
  rw [if_neg (by rintro ⟨h1, h2⟩; rcases h.1 with h3 | h3 <;> contradiction)]
  exact ji h.2
theorem VU : ∀ {ρ : Ren} {t j : Nat} {o : Nat × Nat}, Jy ρ t j = true -> zK ρ t j = some o -> jc ρ o.1 o.2 = true
 | [], _, _, _, h, _ => by simp [Jy] at h
 | (n, o') :: ρ, t, j, o, h, ho => by
  simp only [zK] at ho
  split at ho
  ·subst ho; simp [jc]
  ·rename_i uH
   have h' : Jy ρ t j = true := by
    simp only [Jy, Bool.or_eq_true, Bool.and_eq_true, beq_iff_eq] at h
    rcases h with h | h
    ·exact absurd h uH
    ·exact h
   have := VU h' ho
   cases o' with
   | none => simpa [jc] using this
   | some o' => simp [jc, this]
theorem I4 {σ' : St} {all : Ren} : ∀ {ρ : Ren} {t j t' j' : Nat} {o : Nat × Nat}, kh σ' all ρ = true -> Jy ρ t j = true -> Jy ρ t' j' = true -> zK ρ t j = some o -> zK ρ t' j' = some o -> (t, j) = (t', j')
 | [], _, _, _, _, _, _, h, _, _, _ => by simp [Jy] at h
 | (n, o') :: ρ, t, j, t', j', o, uj, hn, tE, ho, uc => by
  have fH : kh σ' all ρ = true := by
   cases o' with
   | none => simpa [kh] using uj
   | some o' => simp only [kh, Bool.and_eq_true] at uj; exact uj.2
  simp only [zK] at ho uc
  by_cases h1 : t = n.1 /\ j = n.2
  ·rw [if_pos h1] at ho
   by_cases h2 : t' = n.1 /\ j' = n.2
   ·rw [h1.1, h1.2, h2.1, h2.2]
   ·rw [if_neg h2] at uc
    have h' : Jy ρ t' j' = true := by
     simp only [Jy, Bool.or_eq_true, Bool.and_eq_true, beq_iff_eq] at tE
     exact tE.resolve_left h2
    have hold := VU h' uc
    subst ho
    simp only [kh, Bool.and_eq_true, Bool.not_eq_true'] at uj
    rw [hold] at uj; cases uj.1.1
  ·rw [if_neg h1] at ho
   have h : Jy ρ t j = true := by
    simp only [Jy, Bool.or_eq_true, Bool.and_eq_true, beq_iff_eq] at hn
    exact hn.resolve_left h1
   by_cases h2 : t' = n.1 /\ j' = n.2
   ·rw [if_pos h2] at uc
    have hold := VU h ho
    subst uc
    simp only [kh, Bool.and_eq_true, Bool.not_eq_true'] at uj
    rw [hold] at uj; cases uj.1.1
   ·rw [if_neg h2] at uc
    have h' : Jy ρ t' j' = true := by
     simp only [Jy, Bool.or_eq_true, Bool.and_eq_true, beq_iff_eq] at tE
     exact tE.resolve_left h2
    exact I4 fH h h' ho uc
theorem Vq {σ' : St} {all : Ren} : ∀ {ρ : Ren} {t j : Nat}, kh σ' all ρ = true -> jc ρ t j = true -> Jy all t j = true \/ σ'.ob t j = .none
 | [], _, _, _, h => by simp [jc] at h
 | (n, o') :: ρ, t, j, uj, h => by
  cases o' with
  | none => exact Vq (ρ := ρ) (by simpa [kh] using uj) (by simpa [jc] using h)
  | some o =>
   simp only [kh, Bool.and_eq_true, Bool.or_eq_true] at uj
   simp only [jc, Bool.or_eq_true, Bool.and_eq_true, beq_iff_eq] at h
   rcases h with ⟨rfl, rfl⟩ | h
   ·refine uj.1.2.imp id fun hf => ?_
    unfold Eg at hf; split at hf <;> first | assumption | cases hf
   ·exact Vq uj.2 h
theorem BV {σ' : St} {ρ : Ren} (uj : kh σ' ρ ρ = true) {t j t' j' : Nat} {o : Nat × Nat} (h1 : σ'.ob t j ≠ .none) (h2 : σ'.ob t' j' ≠ .none) (ho : zK ρ t j = some o) (uc : zK ρ t' j' = some o) : t = t' /\ j = j' := by
 cases hn : Jy ρ t j with
 | true =>
  cases tE : Jy ρ t' j' with
  | true => have := I4 uj hn tE ho uc; cases this; exact ⟨rfl, rfl⟩
  | false =>
   have oa := ji tE
   rw [oa] at uc; cases uc
   have hold := VU hn ho
   rcases Vq uj hold with h | h
   ·rw [tE] at h; cases h
   ·exact absurd h h2
 | false =>
  have oa := ji hn
  rw [oa] at ho; cases ho
  cases tE : Jy ρ t' j' with
  | true =>
   have hold := VU tE uc
   rcases Vq uj hold with h | h
   ·rw [hn] at h; cases h
   ·exact absurd h h1
  | false =>
   have fI := ji tE
   rw [fI] at uc; cases uc; exact ⟨rfl, rfl⟩
theorem SU {σ : St} {ρ : Ren} {F : List (Nat × Nat)} : ∀ {es ng : List Ent} {t : Nat}, Uo σ ρ F es ng t -> es.length = ng.length
 | [], [], _, _ => rfl
 | _ :: _, _ :: _, _, h => by simp [SU h.2]
 | [], _ :: _, _, h => h.elim
 | _ :: _, [], _, h => h.elim
theorem MX {σ : St} {ρ : Ren} {F : List (Nat × Nat)} : ∀ {es ng : List Ent} {t : Nat}, Uo σ ρ F es ng t -> ∀ (i : Nat), wkV σ ρ F (St.get es i) (St.get ng i) /\ ∀ j, GO σ ρ F (t + i) j (St.ob ng i j)
 | [], [], t, _, i => ⟨by simp [St.get, wkV], fun j => by simp [St.ob, GO]⟩
 | e :: es, e' :: ng, t, h, 0 => by
  refine ⟨h.1.1, fun j => ?_⟩
  have : ∀ (os : List Ob) (k : Nat), DB σ ρ F t os k -> ∀ j, GO σ ρ F t (k + j) (YU os j) := by
   intro os
   induction os with
   | nil => intro k _ j; simp [YU, GO]
   | cons o os ih =>
    intro k hk j
    cases j with
    | zero => exact hk.1
    | succ j => have := ih (k + 1) hk.2 j; rw [show k + (j + 1) = k + 1 + j by omega]; simpa [YU] using this
  have := this e'.2 0 h.1.2 j
  simpa using this
 | e :: es, e' :: ng, t, h, i + 1 => by
  have := MX h.2 i
  rw [show t + (i + 1) = t + 1 + i by omega]
  simpa [St.get, St.ob] using this
 | [], _ :: _, _, h, _ => h.elim
 | _ :: _, [], _, h, _ => h.elim
theorem Cj {T : CS} {w : World} {xs : List Value} {ds : List D} {S : Nat -> Prop} (uJ : Z5 (Rd T w) xs ds) (hf : ∀ d ∈ ds, d.scalar = true) : Qt w xs ds S :=
 ⟨uJ.length, fun _ _ => False, fun k x d hx hd => by
  obtain ⟨d', uU, hr⟩ := uJ.get k x hx
  rw [hd] at uU; cases uU
  exact Rd.own (hf d (List.mem_of_getElem? hd)) hr, fun _ _ hb => hb.elim, fun _ _ _ hb => hb.elim⟩
theorem XA {σ σ' : St} (ρ : Ren) (F : List (Nat × Nat)) (uj : kh σ' ρ ρ = true) (hs : Uo σ ρ F σ σ' 0) : Wk σ σ' := by
 rintro T0 B a w ⟨X, h, r⟩
 let h' : Nat -> Nat -> Hd := fun t j => match zK ρ t j with | some o => h o.1 o.2 | none => Hd.of (.slice none 0 0)
 let X' : Nat -> Prop := fun b => X b \/ ∃ t j, inF F t j = true /\ σ.ob t j ≠ .none /\ (h t j).u b
 have hlen := SU hs
 have tT := MX hs
 have ua : ∀ t j, GO σ ρ F t j (σ'.ob t j) := fun t j => by have := (tT t).2 j; simpa using this
 have oo : ∀ b k v, Tof T0 X b k -> w.cell? ⟨b, k, none⟩ = some v -> w.cell? ⟨b, k, none⟩ = some v /\ Tof T0 X' b k := fun b k v hb hc => ⟨hc, hb.imp id .inl⟩
 have pT : ∀ t' j' q size rows, σ'.ob t' j' = .arr q size rows -> (zK ρ t' j' = none /\ rows = []) \/ ∃ t j p, zK ρ t' j' = some (t, j) /\ inF F t j = false /\ σ.ob t j = .arr p size rows /\ (p = q \/ p = false /\ ∀ x ∈ rows, ∀ y ∈ x, y.scalar = true) := by
  intro t' j' q size rows ho
  have := ua t' j'
  rw [ho] at this
  simp only [GO] at this
  split at this
  ·rename_i hn; exact .inl ⟨hn, this⟩
  ·rename_i t j hn
   obtain ⟨hF, this⟩ := this
   split at this
   ·rename_i p s r tH; obtain ⟨hp, rfl, rfl⟩ := this; exact .inr ⟨t, j, p, hn, hF, tH, hp⟩
   ·exact this.elim
 have oL : ∀ t' j' size rows, σ'.ob t' j' ≠ .lit size rows := by
  intro t' j' size rows ho
  have := ua t' j'
  rw [ho] at this; exact this
 have oM : ∀ t' j' cells, σ'.ob t' j' = .box cells -> ∃ t j cs, zK ρ t' j' = some (t, j) /\ inF F t j = false /\ σ.ob t j = .box cs /\ TD σ ρ F cs cells := by
  intro t' j' cells ho
  have := ua t' j'
  rw [ho] at this
  simp only [GO] at this
  split at this
  ·exact this.elim
  ·rename_i t j hn
   obtain ⟨hF, this⟩ := this
   split at this
   ·rename_i cs tH; exact ⟨t, j, cs, hn, hF, tH, this⟩
   ·exact this.elim
 have at_ : ∀ {x y : At} {v : Value}, ID σ ρ F x y -> YH (Tof T0 X) h σ.ob w x v -> YH (Tof T0 X') h' σ'.ob w y v := by
  intro x y v hw hr
  have h1 := YH.Xc hr
  cases y with
  | any => exact h1
  | d y =>
   cases x with
   | d x => simp only [ID] at hw; subst hw; exact Rd.mono oo hr
   | nil s => simp only [ID] at hw; subst hw; cases hr; exact .nil _
   | sref t j lo len =>
    simp only [ID] at hw
    obtain ⟨hF, hw⟩ := hw
    split at hw
    ·rename_i q s rows ho
     subst hw
     exact r.E9 ho hr _ (fun b k hb => hb.imp id .inl) (fun b k hb => .inr (.inr ⟨t, j, hF, by rw [ho]; simp, hb⟩))
    ·exact hw.elim
   | _ => exact hw.elim
  | nil s =>
   cases x with
   | nil s' => exact hr
   | _ => exact hw.elim
  | sref t' j' oO rk =>
   cases x with
   | nil s =>
    obtain ⟨hn, rfl, rfl⟩ := hw
    cases hr
    refine ⟨rfl, fun q size rows ho => ?_, fun size rows ho => absurd ho (oL _ _ _ _)⟩
    simp only [h', hn]
    exact ⟨by omega, fun _ _ => rfl, fun _ => rfl, none, 0, rfl, by omega, by simp [maxLen], fun _ => rfl, fun hh => absurd hh (by omega)⟩
   | sref t j lo len =>
    obtain ⟨hn, rfl, rfl⟩ := hw
    refine ⟨h1, fun q size rows ho => ?_, fun size rows ho => absurd ho (oL _ _ _ _)⟩
    rcases pT t' j' q size rows ho with ⟨tE, _⟩ | ⟨t2, j2, p, tE, _, tH, _⟩
    ·rw [hn] at tE; cases tE
    ·rw [hn] at tE; cases tE
     simp only [h', hn]
     exact hr.2.1 p size rows tH
   | _ => exact hw.elim
  | ptr t' j' i' c' =>
   cases x with
   | ptr t j i c =>
    obtain ⟨hn, rfl, rfl⟩ := hw
    refine ⟨h1, fun q size rows ho => ?_⟩
    rcases pT t' j' q size rows ho with ⟨tE, _⟩ | ⟨t2, j2, p, tE, _, tH, _⟩
    ·rw [hn] at tE; cases tE
    ·rw [hn] at tE; cases tE
     simp only [h', hn]
     exact hr.2 p size rows tH
   | _ => exact hw.elim
  | tref t' j' i' c' o' =>
   cases x with
   | tref t j i c o =>
    obtain ⟨hn, rfl, rfl, rfl, hq⟩ := hw
    refine ⟨h1, fun size rows ho => ?_⟩
    rcases pT t' j' true size rows ho with ⟨tE, _⟩ | ⟨t2, j2, p, tE, _, tH, hp⟩
    ·rw [hn] at tE; cases tE
    ·rw [hn] at tE; cases tE
     simp only [h', hn]
     rcases hp with rfl | ⟨rfl, tb⟩
     ·exact hr.2 size rows tH
     ·rw [tH] at hq; exact hq.elim
   | _ => exact hw.elim
  | bptr t' c' =>
   cases x with
   | bptr t c =>
    obtain ⟨hn, rfl⟩ := hw
    refine ⟨h1, fun cells ho => ?_⟩
    obtain ⟨t2, j2, cs, tE, _, tH, _⟩ := oM t' 0 cells ho
    rw [hn] at tE; cases tE
    simp only [h', hn]
    exact hr.2 cs tH
   | _ => exact hw.elim
  | fn f' t' =>
   cases x with
   | fn f t =>
    obtain ⟨hn, rfl⟩ := hw
    refine ⟨h1, fun cells ho => ?_⟩
    obtain ⟨t2, j2, cs, tE, _, tH, _⟩ := oM t' 0 cells ho
    rw [hn] at tE; cases tE
    simp only [h', hn]
    exact hr.2 cs tH
   | _ => exact hw.elim
  | rptr r' c' =>
   cases x with
   | rptr r0 c =>
    obtain ⟨rfl, rfl⟩ := hw
    obtain ⟨b, off, g, e, hk⟩ := hr
    exact ⟨b, off, g, e, fun k d hd => ⟨(hk k d hd).1, (hk k d hd).2.1.imp id .inl, Rd.mono oo (hk k d hd).2.2⟩⟩
   | _ => exact hw.elim
 have nv : ∀ {xs ys : List At} {vs : List Value}, TD σ ρ F xs ys -> Z5 (YH (Tof T0 X) h σ.ob w) xs vs -> Z5 (YH (Tof T0 X') h' σ'.ob w) ys vs := by
  intro xs
  induction xs with
  | nil => intro ys vs hw hr; cases ys with
   | nil => cases hr; exact .nil
   | cons y ys => exact hw.elim
  | cons x xs ih => intro ys vs hw hr; cases ys with
   | nil => exact hw.elim
   | cons y ys => cases hr with
    | cons h1 hr => exact .cons (at_ hw.1 h1) (ih hw.2 hr)
 have v_ : ∀ {x y : V} {v : Value}, wkV σ ρ F x y -> QK (Tof T0 X) h σ.ob w x v -> QK (Tof T0 X') h' σ'.ob w y v := by
  intro x y v hw hr
  cases y with
  | any => trivial
  | one y => cases x with
   | one x => exact at_ hw hr
   | fix u x => cases x with
    | one x => exact at_ hw hr.2
    | _ => exact hw.elim
   | _ => exact hw.elim
  | agg ys => cases x with
   | agg xs => obtain ⟨cs, e, hr⟩ := hr; exact ⟨cs, e, nv hw hr⟩
   | fix u x => cases x with
    | agg xs => obtain ⟨cs, e, hr⟩ := hr.2; exact ⟨cs, e, nv hw hr⟩
    | _ => exact hw.elim
   | _ => exact hw.elim
  | tup ys => cases x with
   | fix u x => cases x <;> exact hw.elim
   | _ => exact hw.elim
  | cnd g y => cases x with
   | fix u x => cases x <;> exact hw.elim
   | _ => exact hw.elim
  | fix u' y => cases x with
   | fix u x => cases x with
    | one x => cases y with
     | one y => obtain ⟨rfl, hw⟩ := hw; exact ⟨hr.1, at_ hw hr.2⟩
     | _ => exact hw.elim
    | agg xs => cases y with
     | agg ys => obtain ⟨rfl, hw⟩ := hw; obtain ⟨e1, cs, e, hr⟩ := hr; exact ⟨e1, cs, e, nv hw hr⟩
     | _ => exact hw.elim
    | _ => cases y <;> exact hw.elim
   | _ => cases y <;> exact hw.elim
 have uH : ∀ t j, σ'.ob t j ≠ .none -> (zK ρ t j = none /\ ∀ b, ¬ (h' t j).u b) \/ ∃ o, zK ρ t j = some o /\ σ.ob o.1 o.2 ≠ .none /\ inF F o.1 o.2 = false /\ h' t j = h o.1 o.2 := by
  intro t j hn
  cases ho : σ'.ob t j with
  | none => exact absurd ho hn
  | arr q size rows =>
   rcases pT t j q size rows ho with ⟨tE, _⟩ | ⟨t2, j2, p, tE, hF, tH, _⟩
   ·exact .inl ⟨tE, fun b hb => by simp only [h', tE, Hd.of, blk] at hb; cases hb⟩
   ·exact .inr ⟨(t2, j2), tE, by rw [tH]; simp, hF, by simp only [h', tE]⟩
  | lit size rows => exact absurd ho (oL _ _ _ _)
  | box cells =>
   obtain ⟨t2, j2, cs, tE, hF, tH, _⟩ := oM t j cells ho
   exact .inr ⟨(t2, j2), tE, by rw [tH]; simp, hF, by simp only [h', tE]⟩
 refine ⟨X', h', by rw [r.size, hlen], r.defers, r.hB, fun b hb => ?_, r.hT, fun t ht => ?_, fun t j => ?_, fun t j b hn hb => ?_, fun t j b hn hb => ?_, fun t j t' j' b hn tE hb uP => ?_⟩
 ·rcases hb with hb | ⟨t, j, _, hn, hb⟩
  ·exact r.hX b hb
  ·have := r.own t j b hn hb; exact ⟨this.1, this.2.2⟩
 ·exact v_ (tT t).1 (r.slot t (by rw [hlen]; exact ht))
 ·cases ho : σ'.ob t j with
  | none => trivial
  | lit size rows => exact absurd ho (oL _ _ _ _)
  | arr q size rows =>
   rcases pT t j q size rows ho with ⟨hn, rfl⟩ | ⟨u, k, p, hn, _, tH, hp⟩
   ·have : h' t j = Hd.of (.slice none 0 0) := by simp only [h', hn]
    rw [this]
    cases q with
    | false => exact ⟨0, [], World.ownsRow_nil w 0 0 size, (by intro q hq; cases hq), .nil⟩
    | true => exact ⟨0, [], World.ownsRow_nil w 0 0 size, (by intro q hq; cases hq), Qt.nil _, fun k x d hx => by simp at hx⟩
   ·have he : h' t j = h u k := by simp only [h', hn]
    rw [he]
    have h0 := r.obj u k
    rw [tH] at h0
    cases p with
    | false =>
     obtain ⟨e, xs, uK, hz, uJ⟩ := h0
     cases q with
     | false => exact ⟨e, xs, uK, hz, uJ.imp fun _ _ => Rd.mono oo⟩
     | true =>
      rcases hp with hp | ⟨_, tb⟩
      ·cases hp
      ·have nK : ∀ d ∈ rows.flatten, d.scalar = true := fun d hd => by
        obtain ⟨r0, rY, hdr⟩ := List.mem_flatten.1 hd
        exact tb r0 rY d hdr
       exact ⟨e, xs, uK, hz, Cj uJ nK, fun k x d _ hd hs => by rw [nK d (List.mem_of_getElem? hd)] at hs; cases hs⟩
    | true =>
     rcases hp with rfl | ⟨hp, _⟩
     ·exact h0
     ·cases hp
  | box cells =>
   obtain ⟨u, k, cs, hn, _, tH, sU⟩ := oM t j cells ho
   have h0 := r.obj u k
   rw [tH] at h0
   obtain ⟨b, vs, e, hv, hh, uJ⟩ := h0
   have he : h' t j = h u k := by simp only [h', hn]
   rw [he]
   exact ⟨b, vs, e, hv, hh, nv sU uJ⟩
 ·rcases uH t j hn with ⟨hr, _⟩ | ⟨o, hr, px, hF, he⟩
  ·simp only [h', hr, Hd.of, blk] at hb; cases hb
  ·rw [he] at hb ⊢; exact r.ub o.1 o.2 b px hb
 ·rcases uH t j hn with ⟨_, px⟩ | ⟨o, hr, px, hF, he⟩
  ·exact absurd hb (px b)
  ·rw [he] at hb
   have h0 := r.own o.1 o.2 b px hb
   refine ⟨h0.1, ?_, h0.2.2⟩
   rintro (hx | ⟨t2, j2, eV, gM, tA⟩)
   ·exact h0.2.1 hx
   ·obtain ⟨h3, h4⟩ := r.inj o.1 o.2 t2 j2 b px gM hb tA
    rw [h3, h4] at hF; rw [hF] at eV; cases eV
 ·rcases uH t j hn with ⟨_, px⟩ | ⟨o, hr, px, _, he⟩
  ·exact absurd hb (px b)
  ·rcases uH t' j' tE with ⟨_, mz⟩ | ⟨o', tS, mz, _, lv⟩
   ·exact absurd uP (mz b)
   ·rw [he] at hb
    rw [lv] at uP
    obtain ⟨h3, h4⟩ := r.inj o.1 o.2 o'.1 o'.2 b px mz hb uP
    have : o = o' := Prod.ext h3 h4
    subst this
    exact BV uj hn tE hr tS
theorem KB {σ σ' : St} (hs : Uo σ [] [] σ σ' 0) : Wk σ σ' := XA [] [] rfl hs
attribute [simp] zK inF ID TD wkV GO DB Uo Jy jc Eg kh
end Go.Vm
namespace Go.Vm
open Go.RowKit
def Y7 (P : Program) (σ : St) : List Operand -> List TypeId -> Prop × Option (List (List D))
 | [], _ => (True, some [])
 | x :: xs, t :: ts => (gOf (look P σ t x) = true /\ (Y7 P σ xs ts).1, match (unc (look P σ t x)).Jt σ, (Y7 P σ xs ts).2 with | some r, some rs => some (r :: rs) | _, _ => none)
 | _ :: _, [] => (False, none)
theorem xY {P : Program} {σ : St} : ∀ {xs : List Operand} {ts : List TypeId} {rs : List (List D)}, (Y7 P σ xs ts).1 -> (Y7 P σ xs ts).2 = some rs -> QF P σ xs ts rs
 | [], _, rs, _, h => by simp [Y7] at h; exact h
 | x :: xs, t :: ts, rs, h1, h => by
  simp only [Y7] at h
  split at h
  ·rename_i r lN hr s5
   cases h
   exact ⟨h1.1, r, lN, hr, xY h1.2 s5, rfl⟩
  ·cases h
 | _ :: _, [], _, h1, _ => h1.elim
attribute [simp] Y7
theorem Nr {P : Program} {ops : Array Oper} {bar : Oper -> Bool} {o : Oper} {rest : List Oper} {σ : St} {Q : St -> Prop} {c : Call} {f : FuncId} {d : Nat} {own : Bool} {rows res : List (List D)} (uE : o.op = .call c) (hc : c.callee = .value (.func f)) (hg : o.guard = none) (hd : o.dst = some d)
  (hs : QH P f own rows res) (uV : (Y7 P σ c.args.toList c.argTypes.toList).2 = some rows) (uL : (Y7 P σ c.args.toList c.argTypes.toList).1) (uk : YZ P σ c.args.toList c.argTypes.toList = true \/ JQ own res) (h : Ev P ops bar rest (σ.put d (yu res)) Q) : xU P ops bar o rest σ Q :=
 FR uE hc hg hd (xY uL uV) hs uk h
theorem Ca {P : Program} {ops : Array Oper} {bar : Oper -> Bool} {o : Oper} {rest : List Oper} {σ : St} {Q : St -> Prop} {c : Call} {f : FuncId} {d : Nat} {rows res : List (List D)} (uE : o.op = .call c) (hc : c.callee = .value (.func f)) (hg : o.guard = none) (hd : o.dst = some d)
  (hs : QH P f true rows res) (uV : (Y7 P σ c.args.toList c.argTypes.toList).2 = some rows) (uL : (Y7 P σ c.args.toList c.argTypes.toList).1) (uk : YZ P σ c.args.toList c.argTypes.toList = true \/ JQ true res) (hf : σ.fresh d = true) (h : Ev P ops bar rest (σ.new d (xa d res) (zd res.flatten)) Q) : xU P ops bar o rest σ Q :=
 Hr uE hc hg hd (xY uL uV) hs uk hf h
theorem GP {P : Program} {ops : Array Oper} {bar : Oper -> Bool} {o : Oper} {rest : List Oper} {σ : St} {Q : St -> Prop} {c : Call} {f : FuncId} {d : Nat} {rows res : List (List D)} (qs : List Bool) (uE : o.op = .call c) (hc : c.callee = .value (.func f)) (hg : o.guard = none) (hd : o.dst = some d)
  (hs : YR P f rows res) (uV : (Y7 P σ c.args.toList c.argTypes.toList).2 = some rows) (uL : (Y7 P σ c.args.toList c.argTypes.toList).1) (hq : qI qs res.flatten) (hf : σ.fresh d = true) (h : Ev P ops bar rest (σ.new d (xa d res) (Yh qs res.flatten)) Q) : xU P ops bar o rest σ Q :=
 F6 qs uE hc hg hd (xY uL uV) hs hq hf h
theorem Fs {P : Program} {ops : Array Oper} {bar : Oper -> Bool} {o : Oper} {rest : List Oper} {σ : St} {Q : St -> Prop} {c : Call} {f : FuncId} {d j dj : Nat} {want g own : Bool} {rows : List (List D)} {res : List D} (uE : o.op = .call c) (hc : c.callee = .value (.func f)) (hg : o.guard = some (j, want)) (hd : o.dst = some d)
  (sD : (ops[j]?).bind (·.dst) = some dj) (sK : xZ want (σ.get dj) = some g) (hs : g = true -> QH P f own rows [res])
  (uV : (Y7 P σ c.args.toList c.argTypes.toList).2 = some rows) (uQ : dj < σ.length)
  (uL : g = true -> (Y7 P σ c.args.toList c.argTypes.toList).1) (uk : YZ P σ c.args.toList c.argTypes.toList = true \/ JQ own [res]) (h : Ev P ops bar rest (σ.put d (.cnd g (yu [res]))) Q) : xU P ops bar o rest σ Q :=
 F4 uE hc hg hd sD uQ sK (fun hh => xY (uL hh) uV) hs uk h
def Yn : Nat -> List (Nat × V × List Ob) -> St
 | n, [] => List.replicate n (V.any, [])
 | n, (t, v, os) :: l => (Yn n l).new t v os
attribute [simp] Yn
end Go.Vm
namespace Go.Vm
open Go.RowKit
def B8 (P : Program) (b : Bool) (x y : Code) (Q : Exit -> St -> Prop) (σ : St) : Prop := (b = true -> AWP P x Q σ) /\ (b = false -> AWP P y Q σ)
def AJ (P : Program) (c : Code) (Q : Exit -> St -> Prop) (σ : St) : Prop := AWP P (.loop c) Q σ
def AA (P : Program) (id : Nat) (ops : Array Oper) (Q : Exit -> St -> Prop) (σ : St) : Prop := AWP P (.region id ops true) Q σ
def LL (P : Program) (c : Code) (Q : Exit -> St -> Prop) (σ : St) : Prop := AWP P c Q σ
def Wx (P : Program) : Code -> (Exit -> St -> Prop) -> St -> Prop
 | .seq x y, Q, σ => Wx P x (Ms (Wx P y Q) Q) σ
 | .region _ ⟨l⟩ false, Q, σ => Ev P ⟨l⟩ (fun _ => true) l σ (Q .normal)
 | .region id ops true, Q, σ => AA P id ops Q σ
 | .cond c x y, Q, σ => (match look P σ 0 c with | .one (.d (.bool b)) => B8 P b x y Q σ | _ => False)
 | .block id c, Q, σ => Wx P c (Uw id Q) σ
 | .loop c, Q, σ => AJ P c Q σ
 | .skip, Q, σ => Q .normal σ
 | .exit id, Q, σ => Q (.exit id) σ
 | .ret, Q, σ => Q .ret σ
 | .rangeFunc f ps x y, Q, σ => LL P (.rangeFunc f ps x y) Q σ
 | .scope c, Q, σ => LL P (.scope c) Q σ
 | .label l, Q, σ => LL P (.label l) Q σ
 | .goto l, Q, σ => LL P (.goto l) Q σ
 | .refuse s, Q, σ => LL P (.refuse s) Q σ
theorem VL {P : Program} : ∀ {c : Code} {Q : Exit -> St -> Prop} {σ : St}, Wx P c Q σ -> AWP P c Q σ
 | .seq x y, Q, σ, h => by
  rw [Wx] at h
  refine Bf (FC (fun e σ' hq => ?_) (VL h))
  cases e <;> simp only [Ms] at hq ⊢ <;> first | exact VL hq | exact hq
 | .region _ ⟨l⟩ false, Q, σ, h => AY h
 | .region id ops true, Q, σ, h => h
 | .cond c x y, Q, σ, h => by
  rw [Wx] at h
  split at h
  ·rename_i b hb; exact C1 hb h.1 h.2
  ·exact h.elim
 | .block id c, Q, σ, h => DF (VL (by rw [Wx] at h; exact h))
 | .loop c, Q, σ, h => h
 | .skip, Q, σ, h => CP h
 | .exit id, Q, σ, h => C8 h
 | .ret, Q, σ, h => BZ h
 | .rangeFunc _ _ _ _, Q, σ, h => h
 | .scope _, Q, σ, h => h
 | .label _, Q, σ, h => h
 | .goto _, Q, σ, h => h
 | .refuse _, Q, σ, h => h
class yo where
 c : Code
class Jj where
 ops : Array Oper
 bar : Oper -> Bool
class KH where
 l : List Oper
class OpI where
 o : Oper
class inductive Fr where
 | fin (Q : Exit -> St -> Prop)
 | sq (y : Code) (k : Fr)
 | blk (id : Nat) (k : Fr)
 | nxt (n : St -> Prop) (k : Fr)
def Fr.run (P : Program) : Fr -> Exit -> St -> Prop
 | .fin Q, e, σ => Q e σ
 | .sq y k, e, σ => Ms (Wx P y (Fr.run P k)) (Fr.run P k) e σ
 | .blk id k, e, σ => Uw id (Fr.run P k) e σ
 | .nxt n k, e, σ => Ms n (Fr.run P k) e σ
def WI (P : Program) (σ : St) [c : yo] [k : Fr] : Prop := Wx P c.c (k.run P) σ
def LI (P : Program) (e : Exit) (σ : St) [k : Fr] : Prop := k.run P e σ
def EI (P : Program) (σ : St) [A : Jj] [l : KH] [k : Fr] : Prop := Ev P A.ops A.bar l.l σ (k.run P .normal)
def SI (P : Program) (σ : St) [A : Jj] [o : OpI] [l : KH] [k : Fr] : Prop := xU P A.ops A.bar o.o l.l σ (k.run P .normal)
def CI (P : Program) (b : Bool) (σ : St) [x : yo] [y : yo] [k : Fr] : Prop := B8 P b x.c y.c (k.run P) σ
def SC (P : Program) (σ : St) [c : yo] [k : Fr] : Prop := AJ P c.c (k.run P) σ
def DI (P : Program) (id : Nat) (σ : St) [A : Jj] [k : Fr] : Prop := AA P id A.ops (k.run P) σ
section
variable {P : Program} {σ : St} {k : Fr}
theorem AW {x y : Code} : @WI P σ ⟨.seq x y⟩ k = @WI P σ ⟨x⟩ (.sq y k) := by
 simp only [WI]
 rw [Wx]
 congr 1
theorem Di {id : Nat} {l : List Oper} : @WI P σ ⟨.region id ⟨l⟩ false⟩ k = @EI P σ ⟨⟨l⟩, fun _ => true⟩ ⟨l⟩ k := by simp only [WI, EI, Wx]
theorem Bt {id : Nat} {ops : Array Oper} : @WI P σ ⟨.region id ops true⟩ k = @DI P id σ ⟨ops, fun _ => true⟩ k := by simp only [WI, DI, Wx]
theorem Bb {c : Operand} {x y : Code} : @WI P σ ⟨.cond c x y⟩ k = (match look P σ 0 c with | .one (.d (.bool b)) => @CI P b σ ⟨x⟩ ⟨y⟩ k | _ => False) := by simp only [WI, CI, Wx]
theorem CE {id : Nat} {c : Code} : @WI P σ ⟨.block id c⟩ k = @WI P σ ⟨c⟩ (.blk id k) := by
 simp only [WI]
 rw [Wx]
 congr 1
theorem Ba {c : Code} : @WI P σ ⟨.loop c⟩ k = @SC P σ ⟨c⟩ k := by simp only [WI, SC, Wx]
theorem BF : @WI P σ ⟨.skip⟩ k = @LI P .normal σ k := by simp only [WI, LI, Wx]
theorem Bh {id : Nat} : @WI P σ ⟨.exit id⟩ k = @LI P (.exit id) σ k := by simp only [WI, LI, Wx]
theorem Au : @WI P σ ⟨.ret⟩ k = @LI P .ret σ k := by simp only [WI, LI, Wx]
theorem AL {Q : Exit -> St -> Prop} {e : Exit} : @LI P e σ (.fin Q) = Q e σ := rfl
theorem wX {y : Code} : @LI P .normal σ (.sq y k) = @WI P σ ⟨y⟩ k := rfl
theorem EN {y : Code} {id : Nat} : @LI P (.exit id) σ (.sq y k) = @LI P (.exit id) σ k := rfl
theorem Du {y : Code} : @LI P .ret σ (.sq y k) = @LI P .ret σ k := rfl
theorem AN {n : St -> Prop} : @LI P .normal σ (.nxt n k) = n σ := rfl
theorem Fo {n : St -> Prop} {id : Nat} : @LI P (.exit id) σ (.nxt n k) = @LI P (.exit id) σ k := rfl
theorem Fu {n : St -> Prop} : @LI P .ret σ (.nxt n k) = @LI P .ret σ k := rfl
theorem Ab {id : Nat} : @LI P .normal σ (.blk id k) = @LI P .normal σ k := rfl
theorem Fx {id : Nat} : @LI P .ret σ (.blk id k) = @LI P .ret σ k := rfl
theorem Gu {id mb : Nat} : @LI P (.exit mb) σ (.blk id k) = if mb = id then @LI P .normal σ k else @LI P (.exit mb) σ k := rfl
theorem AV {A : Jj} : @EI P σ A ⟨[]⟩ k = @LI P .normal σ k := by simp only [EI, LI, Ev]
theorem B2 {A : Jj} {o : Oper} {rest : List Oper} : @EI P σ A ⟨o :: rest⟩ k =
  (if stops P A.bar o then @SI P σ A ⟨o⟩ ⟨rest⟩ k else
  match o.guard with
  | none =>
   (match o.dst with
   | some d => (evS P σ o d).1 /\ @EI P (evS P σ o d).2 A ⟨rest⟩ k
   | none => (match o.op with | .store T x y => if AS P σ T x y then @SI P σ A ⟨o⟩ ⟨rest⟩ k else (Ge P σ T x y).1 /\ @EI P (Ge P σ T x y).2 A ⟨rest⟩ k | _ => False))
  | some (j, want) =>
   (match (A.ops[j]?).bind (·.dst), o.dst with
   | some dj, some d => (match xZ want (σ.get dj) with
    | some g => (dj < σ.length /\ (g = true -> (evV P σ o.op o.type).1 /\ gOf (evV P σ o.op o.type).2 = true /\ (unc (evV P σ o.op o.type).2).flat = true)) /\ @EI P (σ.put d (.cnd g (unc (evV P σ o.op o.type).2))) A ⟨rest⟩ k
    | none => False)
   | _, _ => False)) := by
 simp only [EI, SI]
 rw [Ev]
 rfl
end
section
variable {P : Program} {σ : St} {k : Fr}
theorem C2 {f : FuncId} {fn : Func} {c : Code} (hf : P.funcs[f]? = some fn) (hb : fn.body = some c) (uj : T1 P f = true) {own : Bool} {args res : List (List D)}
  (hw : @WI P (xl fn.ntmps args) ⟨c⟩ (.fin (GR P fn own res))) : QH P f own args res := HP hf hb uj (VL hw)
theorem BK {A : Jj} {o : OpI} {rest : KH} {S T : TypeId} {x : Operand} {d : Nat} {s : ByteArray} (uE : o.o.op = .convert S T x) (hg : o.o.guard = none) (hd : o.o.dst = some d)
  (h1 : gOf (look P σ S x) = true) (h2 : UQ P S = true) (h3 : R0 P T = true) (h4 : unc (look P σ S x) = .one (.d (.str s))) (h5 : s.size <= 9223372036854775807) (h : @EI P (σ.put d (.one (.d (.sl 1 (J6 s.data.toList))))) A rest k) : @SI P σ A o rest k :=
 Ho uE hg hd h1 h2 h3 h4 h5 h
theorem Dr {f : FuncId} {fn : Func} {c : Code} (hf : P.funcs[f]? = some fn) (hb : fn.body = some c) (uj : T1 P f = true) {args res : List (List D)}
  (hw : @WI P (xl fn.ntmps args) ⟨c⟩ (.fin (DH P fn res))) : YR P f args res := Lp hf hb uj (VL hw)
def H0 (o : Oper) : Bool := match o.op with | .call ⟨.value _, _, _⟩ => false | _ => true
theorem evI {A : Jj} {o : OpI} {l : KH} {d : Nat} (hp : H0 o.o = true) (hg : o.o.guard = none) (hd : o.o.dst = some d) (h : (evS P σ o.o d).1 /\ @EI P (evS P σ o.o d).2 A l k) : @SI P σ A o l k := by
 refine Bl (fun c uE f hc => ?_) hg hd h.1 h.2
 obtain ⟨cc, ca, ct⟩ := c
 simp only at hc; subst hc
 simp [H0, uE] at hp
theorem wz {A : Jj} {o : OpI} {l : KH} {d : Nat} {T : TypeId} {n : Nat} {parts : Array (Nat × Operand)} (uE : o.o.op = .buildSlice T n parts) (hg : o.o.guard = none) (hd : o.o.dst = some d)
  (h1 : σ.fresh d = true /\ Y2 P T = true /\ Xn P (ZR P T) = true /\ 0 < P.cellsOf (ZR P T) /\ parts.toList.length = n /\ n * P.cellsOf (ZR P T) <= 16777216) (h2 : (Jv P σ (ZR P T) (P.cellsOf (ZR P T)) parts.toList 0).1)
  (h3 : YN d (Jv P σ (ZR P T) (P.cellsOf (ZR P T)) parts.toList 0).2.flatten = false)
  (h : @EI P (σ.new d (.one (.sref d 0 0 (Jv P σ (ZR P T) (P.cellsOf (ZR P T)) parts.toList 0).2.length)) [.lit (P.cellsOf (ZR P T)) (Jv P σ (ZR P T) (P.cellsOf (ZR P T)) parts.toList 0).2]) A l k) : @SI P σ A o l k := C4 uE hg hd h1 h2 h3 h
theorem wy {A : Jj} {o : OpI} {l : KH} {d : Nat} {x y : Operand} {t : TypeId} {uG news : List (List D)} {l1 l2 : List (Nat × Nat)} {size : Nat} (uE : o.o.op = .call ⟨.builtin .append, #[x, y], #[t, t]⟩) (hg : o.o.guard = none) (hd : o.o.dst = some d) (uy : A.bar o.o = true)
  (tM : size = P.cellsOf (ZR P t)) (h1 : gOf (look P σ t x) = true /\ gOf (look P σ t y) = true /\ Y2 P t = true /\ Xn P (ZR P t) = true /\ 0 < P.cellsOf (ZR P t))
  (h2 : (kT σ (unc (look P σ t x)) size).1 /\ (kT σ (unc (look P σ t x)) size).2 = (uG, l1)) (h3 : (kb σ (unc (look P σ t y)) size).1 /\ (kb σ (unc (look P σ t y)) size).2 = (news, l2))
  (h4 : (l1 ++ l2).Nodup /\ (σ.Zz (l1 ++ l2)).fresh d = true) (h5 : (uG.length + news.length) * P.bytesOf (ZR P t) <= 140737488355328 /\ uG.length + news.length <= 9223372036854775807)
  (h : @EI P ((σ.Zz (l1 ++ l2)).new d (.one (.sref d 0 0 (uG.length + news.length))) [.arr true size (uG ++ news)]) A l k) : @SI P σ A o l k := CT uE hg hd uy tM h1 h2 h3 h4 h5 h
theorem w8 {A : Jj} {o : OpI} {l : KH} {d : Nat} {x y : Operand} {t : TypeId} {rows : List (List D)} {size u j len lo n : Nat} (uE : o.o.op = .call ⟨.builtin .append, #[x, y], #[t, t]⟩) (hg : o.o.guard = none) (hd : o.o.dst = some d) (uy : A.bar o.o = true)
  (tM : size = P.cellsOf (ZR P t)) (h1 : gOf (look P σ t x) = true /\ gOf (look P σ t y) = true /\ Y2 P t = true /\ Xn P (ZR P t) = true /\ 0 < P.cellsOf (ZR P t))
  (h2 : unc (look P σ t x) = .one (.sref u j 0 len)) (h3 : unc (look P σ t y) = .one (.sref u j lo n)) (ho : σ.ob u j = .arr true size rows) (hle : len <= lo) (pB : lo + n <= rows.length)
  {news : List (List D)} (tZ : cut rows lo n = news) (h4 : (σ.Zs u j .none).fresh d = true) (h5 : (len + n) * P.bytesOf (ZR P t) <= 140737488355328 /\ len + n <= 9223372036854775807)
  (h : @EI P ((σ.Zs u j .none).new d (.one (.sref d 0 0 ((rows.take len).length + news.length))) [.arr true size (rows.take len ++ news)]) A l k) : @SI P σ A o l k := CX uE hg hd uy tM h1 h2 h3 ho hle pB tZ h4 h5 h
theorem Bo {A : Jj} {o : OpI} {l : KH} {d : Nat} {x y : Operand} {t : TypeId} {uG rows news : List (List D)} {l1 : List (Nat × Nat)} {size u j lo n : Nat} (uE : o.o.op = .call ⟨.builtin .append, #[x, y], #[t, t]⟩) (hg : o.o.guard = none) (hd : o.o.dst = some d) (uy : A.bar o.o = true)
  (tM : size = P.cellsOf (ZR P t)) (h1 : gOf (look P σ t x) = true /\ gOf (look P σ t y) = true /\ Y2 P t = true /\ Xn P (ZR P t) = true /\ 0 < P.cellsOf (ZR P t))
  (h2 : Fm σ (unc (look P σ t x)) size uG l1) (h3 : unc (look P σ t y) = .one (.sref u j lo n)) (ho : σ.ob u j = .arr true size rows) (mX : (u, j) ∉ l1) (hle : lo + n <= rows.length) (tZ : cut rows lo n = news)
  (h4 : ((σ.Zs u j (.arr true size (Qd rows lo n))).Zz l1).fresh d = true) (h5 : (uG.length + n) * P.bytesOf (ZR P t) <= 140737488355328 /\ uG.length + n <= 9223372036854775807)
  (h : @EI P (((σ.Zs u j (.arr true size (Qd rows lo n))).Zz l1).new d (.one (.sref d 0 0 (uG.length + news.length))) [.arr true size (uG ++ news)]) A l k) : @SI P σ A o l k := CO uE hg hd uy tM h1 h2 h3 ho mX hle tZ h4 h5 h
theorem Bz {A : Jj} {o : OpI} {l : KH} {T : TypeId} {x y : Operand} {t j i c size : Nat} {rows : List (List D)} {ds : List D} {L : List (Nat × Nat)} (uE : o.o.op = .store T x y) (hg : o.o.guard = none) (hd : o.o.dst = none) (uy : A.bar o.o = true)
  (hx : unc (look P σ 0 x) = .one (.ptr t j i c)) (ho : σ.ob t j = .arr true size rows) (hi : i < rows.length) (h1 : yW P T = true /\ gOf (look P σ 0 x) = true /\ gOf (look P σ T y) = true /\ (unc (look P σ T y)).flat = true)
  (h2 : JO σ (unc (look P σ T y)).cells = some ds) (h3 : QG σ (unc (look P σ T y)).cells) (h4 : XE (unc (look P σ T y)).cells = L) (h5 : L.Nodup /\ (t, j) ∉ L /\ (σ.Zz L).zb (At.isT t) = false) (h6 : ds.length = P.cellsOf T /\ c + P.cellsOf T <= size)
  (h : @EI P ((σ.Zz L).Zs t j (.arr true size (rows.set i (place (rowAt rows i) c ds)))) A l k) : @SI P σ A o l k := CY uE hg hd uy hx ho hi h1 h2 h3 h4 h5 h6 h
theorem w7 {A : Jj} {o : OpI} {l : KH} {T : TypeId} {x y : Operand} {t j i size : Nat} {rows : List (List D)} {ds : List D} {L : List (Nat × Nat)} (uE : o.o.op = .store T x y) (hg : o.o.guard = none) (hd : o.o.dst = none) (uy : A.bar o.o = true)
  (hx : unc (look P σ 0 x) = .one (.ptr t j i 0)) (ho : σ.ob t j = .arr true size rows) (hi : i < rows.length) (h1 : yW P T = true /\ gOf (look P σ 0 x) = true /\ gOf (look P σ T y) = true /\ (unc (look P σ T y)).flat = true)
  (h2 : JO σ (unc (look P σ T y)).cells = some ds) (h3 : QG σ (unc (look P σ T y)).cells) (h4 : XE (unc (look P σ T y)).cells = L) (h5 : L.Nodup /\ (t, j) ∉ L /\ (σ.Zz L).zb (At.isT t) = false) (h6 : ds.length = P.cellsOf T /\ P.cellsOf T = size)
  (h : @EI P ((σ.Zz L).Zs t j (.arr true size (rows.set i ds))) A l k) : @SI P σ A o l k := CB uE hg hd uy hx ho hi h1 h2 h3 h4 h5 h6 h
theorem wR {A : Jj} {o : OpI} {l : KH} {T : TypeId} {x y : Operand} {t j i c k' q n size : Nat} {s rows : List (List D)} {ds : List D} {L : List (Nat × Nat)} (uE : o.o.op = .store T x y) (hg : o.o.guard = none) (hd : o.o.dst = none) (uy : A.bar o.o = true) {off : Nat}
  (hx : unc (look P σ 0 x) = .one (.tref t j i c (some off))) (nI : off = k' * n + q) (ho : σ.ob t j = .arr true size rows) (hi : i < rows.length) (hc : (rowAt rows i)[c]? = some (.sl n s)) (hk : k' < s.length) (h1 : yW P T = true /\ gOf (look P σ 0 x) = true /\ gOf (look P σ T y) = true /\ (unc (look P σ T y)).flat = true)
  (h2 : JO σ (unc (look P σ T y)).cells = some ds) (h3 : QG σ (unc (look P σ T y)).cells) (h4 : XE (unc (look P σ T y)).cells = L) (h5 : L.Nodup /\ (t, j) ∉ L) (h6 : ds.length = P.cellsOf T /\ q + P.cellsOf T <= n)
  (h : @EI P ((σ.Zz L).Zs t j (.arr true size (rows.set i (place (rowAt rows i) c [.sl n (s.set k' (place (rowAt s k') q ds))])))) A l k) : @SI P σ A o l k := CM uE hg hd uy ⟨nI ▸ hx, ho, hi, hc, hk, h1, h2, h3, h4, h5, h6⟩ h
end
attribute [simp] Bt AW Di Bb CE Ba BF Bh Au AL wX EN Du AN Fo Fu Ab Fx Gu AV B2
end Go.Vm
namespace Go.Vm
open Go.RowKit
def Cells (w : World) : CS := fun b _ => b < w.heap.size
def Reads (w : World) (v : Value) (row : List D) : Prop := ∃ cs, Kk v cs /\ Z5 (Rd (Cells w) w) cs row
theorem L6 {P : Program} {f : FuncId} {own : Bool} {rows : List (List D)} {u6 : List Value} {w : World} (h : QH P f own rows [[.bool true]]) (hv : Z5 (Reads w) u6 rows) :
  Calls P f u6.toArray w fun e w' => e = .returned (.bool true) /\ Below w.heap.size w w' := by
 refine (h.2 (Cells w) w u6 (fun _ _ hb => hb) hv).mono ?_
 rintro e w' ⟨vs, uq, Y, rfl, hb, _, hf, hr, _⟩
 refine ⟨?_, hb⟩
 cases hr with
 | cons h1 hr =>
  cases hr
  cases hf with
  | cons h2 hf =>
   cases hf
   cases h1 with
   | cons h3 h1 =>
    cases h1
    have h4 : ∀ v, yO own (Tof (Cells w) Y) w' v (.bool true) -> Rd (Tof (Cells w) Y) w' v (.bool true) := by
     intro v hv
     unfold yO at hv
     split at hv
     ·exact hv
     ·exact hv
    have h4 := h4 _ h3
    cases h4
    rcases h2 with ⟨v, sU, dc, _⟩ | ⟨hl, _⟩
    ·cases sU; rw [dc]; rfl
    ·simp at hl
end Go.Vm
namespace Go.Vm
open Go.RowKit
def UN (P : Program) : Nat -> TypeId -> Bool
 | 0, _ => false
 | n + 1, t =>
  match P.underlying t with
  | some .bool => true
  | some (.int _) => true
  | some .string => true
  | some (.slice e) => UN P n e
  | some (.struct fs) => fs.toList.all (fun f => UN P n f.type) && P.cellsOf t != 1
  | _ => false
def TyR (P : Program) : Nat -> TypeId -> List D -> Prop
 | 0, _, _ => False
 | n + 1, t, row =>
  match P.underlying t with
  | some .bool => ∃ b, row = [.bool b]
  | some (.int k) => ∃ m, row = [.int k m] /\ k.min <= m /\ m <= k.max
  | some .string => ∃ s, row = [.str s] /\ s.size <= maxLen
  | some (.slice e) => ∃ rows, row = [.sl (P.cellsOf e) rows] /\ rows.length <= maxLen /\ ∀ r ∈ rows, TyR P n e r /\ r.length = P.cellsOf e
  | some (.struct fs) => row.length = P.cellsOf t /\ ∀ f ∈ fs.toList, TyR P n f.type (cut row f.offset (P.cellsOf f.type))
  | _ => False
def Us (P : Program) : Nat -> List Field -> Nat -> Bool
 | k, [], n => k == n
 | k, f :: fs, n => f.offset == k && Us P (k + P.cellsOf f.type) fs n
def I0 (P : Program) : Nat -> TypeId -> Bool
 | 0, _ => false
 | n + 1, t =>
  match P.underlying t with
  | some .bool => P.cellsOf t == 1
  | some (.int _) => P.cellsOf t == 1
  | some .string => P.cellsOf t == 1
  | some (.slice e) => P.cellsOf t == 1 && I0 P n e
  | some (.struct fs) => fs.toList.all (fun f => I0 P n f.type) && Us P 0 fs.toList (P.cellsOf t)
  | _ => false
theorem Rq {α β : Type} {f : α -> Option β} : ∀ {l : List α} {m : List β}, l.mapM f = some m -> l.length = m.length /\ ∀ (i : Nat) a, l[i]? = some a -> ∃ b, m[i]? = some b /\ f a = some b
 | [], m, h => by simp at h; subst h; exact ⟨rfl, fun i a ha => by simp at ha⟩
 | x :: l, m, h => by
  simp only [List.mapM_cons, Option.bind_eq_bind, Option.bind_eq_some_iff] at h
  obtain ⟨b, hb, bs, fG, h⟩ := h
  simp at h; subst h
  obtain ⟨h1, h2⟩ := Rq fG
  refine ⟨by simp [h1], fun i a ha => ?_⟩
  cases i with
  | zero => simp at ha; subst ha; exact ⟨b, by simp, hb⟩
  | succ i => simpa using h2 i a (by simpa using ha)
theorem DV {w : World} {a : Addr} {n : Nat} {cs : List Value} (h : w.cells? 0 a n = some cs) : cs.length = n /\ ∀ i v, cs[i]? = some v -> w.cell? (a.add i) = some v := by
 unfold World.cells? at h
 simp at h
 obtain ⟨h1, h2⟩ := Rq h
 simp at h1
 refine ⟨h1.symm, fun i v hv => ?_⟩
 have hi : i < n := by have := (List.getElem?_eq_some_iff.1 hv).1; omega
 obtain ⟨b, hb, hf⟩ := h2 i i (by simp [hi])
 rw [hv] at hb; cases hb; exact hf
theorem UU {w : World} {P : Program} {q n : Nat} {cs : List Value} (hl : cs.length = n) : ∀ {fs : List Field} {k : Nat}, Us P k fs n = true -> k <= n ->
  (∀ f ∈ fs, ∃ row, Z5 (Rd (Cells w) w) (cut cs f.offset (P.cellsOf f.type)) row /\ TyR P q f.type row) ->
  ∃ tail, Z5 (Rd (Cells w) w) (cs.drop k) tail /\ ∀ (pre : List D), pre.length = k -> ∀ f ∈ fs, TyR P q f.type (cut (pre ++ tail) f.offset (P.cellsOf f.type))
 | [], k, hc, hk, _ => by
  simp only [Us, beq_iff_eq] at hc
  subst hc
  exact ⟨[], by rw [List.drop_eq_nil_of_le (by omega)]; exact .nil, fun _ _ f hf => by cases hf⟩
 | f :: fs, k, hc, hk, h => by
  simp only [Us, Bool.and_eq_true, beq_iff_eq] at hc
  obtain ⟨row, uJ, sh⟩ := h f (by simp)
  rw [hc.1] at uJ
  have dg : k + P.cellsOf f.type <= n := by
   clear h uJ sh
   have : ∀ (fs : List Field) (k : Nat), Us P k fs n = true -> k <= n := by
    intro fs
    induction fs with
    | nil => intro k hh; simp [Us] at hh; omega
    | cons g gs ih => intro k hh; simp only [Us, Bool.and_eq_true, beq_iff_eq] at hh; have := ih _ hh.2; omega
   exact this _ _ hc.2
  have pS : row.length = P.cellsOf f.type := by rw [<- uJ.length]; simp [cut]; omega
  obtain ⟨tail, oq, nJ⟩ := UU hl hc.2 dg (fun g hg => h g (by simp [hg]))
  refine ⟨row ++ tail, ?_, ?_⟩
  ·have : cs.drop k = cut cs k (P.cellsOf f.type) ++ cs.drop (k + P.cellsOf f.type) := by
    unfold cut
    rw [<- List.drop_drop]
    exact (List.take_append_drop _ _).symm
   rw [this]
   exact uJ.append oq
  ·intro pre sF g hg
   rcases List.mem_cons.1 hg with rfl | hg
   ·have : cut (pre ++ (row ++ tail)) g.offset (P.cellsOf g.type) = row := by
     unfold cut
     rw [hc.1, <- sF, List.drop_left, <- pS, List.take_left]
    rw [this]; exact sh
   ·have := nJ (pre ++ row) (by rw [List.length_append, sF, pS]) g hg
    rw [<- List.append_assoc]; exact this
section
variable {H : Type} {enc : TypeId × Value -> H} {P : Program} {w : World} {sp : Nat -> Bool} {held : Bool} {fuel : Nat} {t : TypeId} {cs : List Value} {d : DataW H} {ps : List MemPlace}
theorem trod_bool (hu : P.underlying t = some .bool) (h : DataW.trod enc P w 0 sp held fuel t cs = some (d, ps)) : ∃ b, cs = [.bool b] := by
 cases fuel with
 | zero => simp [DataW.trod] at h
 | succ fuel =>
  unfold DataW.trod at h
  rw [hu] at h
  split at h <;> simp_all
theorem trod_int {k : IntKind} (hu : P.underlying t = some (.int k)) (h : DataW.trod enc P w 0 sp held fuel t cs = some (d, ps)) : ∃ m, cs = [.int k m] /\ k.min <= m /\ m <= k.max := by
 cases fuel with
 | zero => simp [DataW.trod] at h
 | succ fuel =>
  unfold DataW.trod at h
  rw [hu] at h
  split at h <;> simp_all [Lit.wf]
theorem C3 (hu : P.underlying t = some .string) (h : DataW.trod enc P w 0 sp held fuel t cs = some (d, ps)) : ∃ s, cs = [.string s] /\ s.size <= maxLen := by
 cases fuel with
 | zero => simp [DataW.trod] at h
 | succ fuel =>
  unfold DataW.trod at h
  rw [hu] at h
  split at h <;> simp_all
theorem trod_slice {e : TypeId} (hu : P.underlying t = some (.slice e)) (h : DataW.trod enc P w 0 sp held fuel t cs = some (d, ps)) :
  cs = [.slice none 0 0] \/ ∃ a len cap, cs = [.slice (some a) len cap] /\ len <= cap /\ cap <= maxLen /\
   ∀ i, i < len -> ∃ xs f x, w.cells? 0 (a.add (i * P.cellsOf e)) (P.cellsOf e) = some xs /\ DataW.trod enc P w 0 sp held f e xs = some x := by
 cases fuel with
 | zero => simp [DataW.trod] at h
 | succ fuel =>
  unfold DataW.trod at h
  rw [hu] at h
  split at h <;> first | (simp_all; done) | skip
  rename_i e' a len cap heq
  cases heq
  refine .inr ⟨a, len, cap, rfl, ?_⟩
  simp only at h
  split at h
  ·rename_i hc
   refine ⟨hc.2.1, hc.2.2, fun i hi => ?_⟩
   simp only [Option.bind_eq_some_iff] at h
   obtain ⟨elems, dY, _⟩ := h
   obtain ⟨hl, hg⟩ := Rq dY
   obtain ⟨x, _, hx⟩ := hg i i (by simp [hi])
   obtain ⟨xs, h1, h2⟩ := Option.bind_eq_some_iff.1 hx
   exact ⟨xs, fuel, x, h1, h2⟩
  ·cases h
theorem trod_struct {fs : Array Field} (hu : P.underlying t = some (.struct fs)) (h : DataW.trod enc P w 0 sp held fuel t cs = some (d, ps)) :
  cs.length = P.cellsOf t /\ ∀ f ∈ fs.toList, ∃ q x, DataW.trod enc P w 0 sp held q f.type (cut cs f.offset (P.cellsOf f.type)) = some x := by
 cases fuel with
 | zero => simp [DataW.trod] at h
 | succ fuel =>
  unfold DataW.trod at h
  rw [hu] at h
  split at h <;> first | (simp_all; done) | skip
  rename_i bP heq
  cases heq
  split at h
  ·rename_i hc
   refine ⟨hc, fun f hf => ?_⟩
   simp only [Option.map_eq_some_iff] at h
   obtain ⟨xs, hx, _⟩ := h
   obtain ⟨_, hg⟩ := Rq hx
   obtain ⟨i, hi⟩ := List.mem_iff_getElem?.1 hf
   obtain ⟨x, _, hx⟩ := hg i f hi
   exact ⟨fuel, x, hx⟩
  ·cases h
end
theorem BG {w : World} {a : Addr} {v : Value} (h : w.cell? a = some v) : a.block < w.heap.size := by
 unfold World.cell? at h
 cases hh : w.heap[a.block]? with
 | none => simp [hh] at h
 | some o => exact (Array.getElem?_eq_some_iff.1 hh).1
theorem DK (a : Addr) (m k : Nat) (h : m <= k) : a.add k = (a.add m).add (k - m) := by
 simp only [Addr.add]
 by_cases h0 : m = 0
 ·subst h0; simp
 ·by_cases h1 : k - m = 0
  ·have : k = m := by omega
   subst this; simp [h0]
  ·have : k ≠ 0 := by omega
   simp only [h0, h1, this, if_false]
   congr 1
   omega
theorem EK {w : World} {P : Program} {n size : Nat} {e : TypeId} {a : Addr} {len cap : Nat} (dX : len <= cap) (nh : cap <= maxLen)
  (h : ∀ i, i < len -> ∃ xs row, w.cells? 0 (a.add (i * size)) size = some xs /\ Z5 (Rd (Cells w) w) xs row /\ TyR P n e row) :
  ∃ rows : List (List D), Rd (Cells w) w (.slice (some a) len cap) (.sl size rows) /\ rows.length <= maxLen /\ ∀ r ∈ rows, TyR P n e r /\ r.length = size := by
 have key : ∀ m, m <= len -> ∃ rows : List (List D), rows.length = m /\ (∀ r ∈ rows, TyR P n e r /\ r.length = size) /\
   ∀ k d, rows.flatten[k]? = some d -> ∃ v, w.cell? (a.add k) = some v /\ Rd (Cells w) w v d := by
  intro m
  induction m with
  | zero => intro _; exact ⟨[], rfl, (by intro r hr; cases hr), (by intro k d hk; simp at hk)⟩
  | succ m ih =>
   intro hm
   obtain ⟨rows, hl, ht, hk⟩ := ih (by omega)
   obtain ⟨xs, row, hx, uJ, sh⟩ := h m (by omega)
   obtain ⟨oR, dZ⟩ := DV hx
   have pS : row.length = size := by rw [<- uJ.length, oR]
   have tb : rows.flatten.length = m * size := by rw [YI rows size (fun r hr => (ht r hr).2), hl]
   refine ⟨rows ++ [row], by simp [hl], fun r hr => ?_, fun k d hd => ?_⟩
   ·rcases List.mem_append.1 hr with hr | hr
    ·exact ht r hr
    ·simp at hr; subst hr; exact ⟨sh, pS⟩
   ·rw [List.flatten_append, List.flatten_singleton] at hd
    rcases Nat.lt_or_ge k rows.flatten.length with uQ | r6
    ·rw [List.getElem?_append_left uQ] at hd
     exact hk k d hd
    ·rw [List.getElem?_append_right r6] at hd
     obtain ⟨v, hv, hr⟩ := uJ.get' _ d hd
     refine ⟨v, ?_, hr⟩
     have := dZ _ v hv
     rw [show a.add k = (a.add (m * size)).add (k - rows.flatten.length) by rw [tb]; rw [tb] at r6; exact DK a (m * size) k r6]
     exact this
 obtain ⟨rows, hl, ht, hk⟩ := key len (Nat.le_refl _)
 refine ⟨rows, ?_, by omega, ht⟩
 have mL : rows.flatten ≠ [] -> a.spot = none := by
  intro uH
  obtain ⟨d, tl, iX⟩ := List.exists_cons_of_ne_nil uH
  obtain ⟨v, hv, _⟩ := hk 0 d (by rw [iX]; rfl)
  have := World.cell?_spot hv
  simpa [Addr.add] using this
 refine .sl a len cap size rows (fun k => (w.cell? (a.add k)).getD undef) hl dX nh (fun r hr => (ht r hr).2) mL (fun k d hd => ?_) (fun k d hd => ?_)
 ·obtain ⟨v, hv, _⟩ := hk k d hd
  have oN : a.spot = none := mL (by intro hh; rw [hh] at hd; simp at hd)
  have he : a.add k = ⟨a.block, a.off + k, none⟩ := by
   obtain ⟨b, o, sp⟩ := a
   simp only at oN
   subst oN
   simp only [Addr.add]
   split
   ·rename_i h0; subst h0; rfl
   ·rfl
  rw [he] at hv ⊢
  rw [hv]
  exact ⟨rfl, BG (a := ⟨a.block, a.off + k, none⟩) hv⟩
 ·obtain ⟨v, hv, hr⟩ := hk k d hd
  simp only [hv, Option.getD_some]; exact hr
theorem S0 {H : Type} {enc : TypeId × Value -> H} {P : Program} {w : World} {sp : Nat -> Bool} {held : Bool} : ∀ (n : Nat) {fuel : Nat} {t : TypeId} {cs : List Value} {d : DataW H} {ps : List MemPlace}, UN P n t = true -> I0 P n t = true ->
  DataW.trod enc P w 0 sp held fuel t cs = some (d, ps) -> ∃ row, Z5 (Rd (Cells w) w) cs row /\ TyR P n t row
 | 0, _, _, _, _, _, h, _, _ => by simp [UN] at h
 | n + 1, fuel, t, cs, d, ps, hp, hl, h => by
  simp only [UN] at hp
  simp only [I0] at hl
  simp only [TyR]
  cases hu : P.underlying t with
  | none => simp [hu] at hp
  | some td =>
   cases td with
   | bool => obtain ⟨b, rfl⟩ := trod_bool hu h; exact ⟨_, .cons (.bool b) .nil, b, rfl⟩
   | int k => obtain ⟨m, rfl, h1, h2⟩ := trod_int hu h; exact ⟨_, .cons (.int k m) .nil, m, rfl, h1, h2⟩
   | string => obtain ⟨s, rfl, h1⟩ := C3 hu h; exact ⟨_, .cons (.str s) .nil, s, rfl, h1⟩
   | slice e =>
    simp only [hu] at hp hl
    simp only [Bool.and_eq_true] at hl
    rcases trod_slice hu h with rfl | ⟨a, len, cap, rfl, h1, h2, h3⟩
    ·exact ⟨_, .cons (.nil (P.cellsOf e)) .nil, [], rfl, by simp, by simp⟩
    ·obtain ⟨rows, hr, pS, da⟩ := EK (P := P) (n := n) (size := P.cellsOf e) (e := e) h1 h2 (fun i hi => by
      obtain ⟨xs, f, x, hx, ht⟩ := h3 i hi
      obtain ⟨row, uJ, sh⟩ := S0 n hp hl.2 (d := x.1) (ps := x.2) ht
      exact ⟨xs, row, hx, uJ, sh⟩)
     exact ⟨_, .cons hr .nil, rows, rfl, pS, da⟩
   | struct fs =>
    simp only [hu] at hp hl
    simp only [Bool.and_eq_true] at hp hl
    obtain ⟨h1, h2⟩ := trod_struct hu h
    obtain ⟨row, uJ, nJ⟩ := UU (w := w) (P := P) (q := n) h1 hl.2 (Nat.zero_le _) (fun f hf => by
     obtain ⟨q, x, hx⟩ := h2 f hf
     exact S0 n (List.all_eq_true.1 hp.1 f hf) (List.all_eq_true.1 hl.1 f hf) (d := x.1) (ps := x.2) hx)
    refine ⟨row, by simpa using uJ, ?_, fun f hf => by simpa using nJ [] rfl f hf⟩
    have := uJ.length
    simp at this
    omega
   | _ => simp [hu] at hp
end Go.Vm
namespace Go.Vm
open Go.RowKit Go.WideShapes Go.ChangeAt Go.ChangeShapes
theorem IP {H : Type} {enc : TypeId × Value -> H} {P : Program} {w : World} {sp : Nat -> Bool} {held : Bool} {n base : Nat} {t : TypeId} {v : Value} {d : DataW H} {ps : List MemPlace} {r : Reach}
  (hp : UN P n t = true) (hl : I0 P n t = true) (uj : Value.okWide P w r base t v) (h : DataW.Trod enc P w 0 sp held t v d ps) : ∃ row, Reads w v row /\ TyR P n t row := by
 obtain ⟨fuel, hf⟩ := h
 obtain ⟨row, uJ, sh⟩ := S0 n hp hl hf
 refine ⟨row, ⟨v.cells.toList, ?_, uJ⟩, sh⟩
 cases n with
 | zero => simp [UN] at hp
 | succ n =>
  simp only [UN] at hp
  cases hu : P.underlying t with
  | none => simp [hu] at hp
  | some td =>
   cases td with
   | bool => obtain ⟨b, rfl⟩ := okWide_bool hu uj; exact .inl ⟨_, rfl, rfl, rfl⟩
   | int k => obtain ⟨b, rfl⟩ := okWide_int hu uj; exact .inl ⟨_, rfl, rfl, rfl⟩
   | string => obtain ⟨b, rfl⟩ := okWide_string hu uj; exact .inl ⟨_, rfl, rfl, rfl⟩
   | slice e => obtain ⟨a, l, c, rfl⟩ := okWide_slice hu uj; exact .inl ⟨_, rfl, rfl, rfl⟩
   | struct fs =>
    obtain ⟨cs, rfl, tM⟩ := okWide_struct hu uj
    simp [hu] at hp
    exact .inr ⟨by simp [Value.cells, tM, hp.2], by simp [Value.cells]⟩
   | _ => simp [hu] at hp
def Iy (P : Program) (n : Nat) : List TypeId -> List (List D) -> Prop
 | [], [] => True
 | t :: ts, r :: rs => TyR P n t r /\ Iy P n ts rs
 | _, _ => False
def kq (P : Program) (n : Nat) (ts : List TypeId) : Bool := ts.all fun t => UN P n t && I0 P n t && P.readableRec t && decide (t < P.types.size)
theorem I3 {H : Type} {enc : TypeId × Value -> H} {P : Program} {w : World} {sp : Nat -> Bool} {held : Bool} {n base : Nat} {r : Reach} : ∀ {ts : List TypeId} {vs : List Value} {ds : List (DataW H)} {ps : List MemPlace}, kq P n ts = true ->
  (∀ (j : Nat) t v, ts[j]? = some t -> vs[j]? = some v -> Value.okWide P w r base t v) -> DataW.TrodAll enc P w 0 sp held ts vs ds ps -> ∃ rows, Z5 (Reads w) vs rows /\ Iy P n ts rows
 | [], [], [], _, _, _, _ => ⟨[], .nil, trivial⟩
 | t :: ts, v :: vs, d :: ds, _, hp, uj, h => by
  obtain ⟨p, q, h1, h2, _⟩ := h
  simp only [kq, List.all_cons, Bool.and_eq_true] at hp
  obtain ⟨row, hr, ht⟩ := IP hp.1.1.1.1 hp.1.1.1.2 (uj 0 t v rfl rfl) h1
  obtain ⟨rows, s5, db⟩ := I3 (by simpa [kq] using hp.2) (fun j t v ht hv => uj (j + 1) t v ht hv) h2
  exact ⟨row :: rows, .cons hr s5, ht, db⟩
 | [], [], _ :: _, _, _, _, h => h.elim
 | [], _ :: _, _, _, _, _, h => by cases ‹List (DataW H)› <;> exact h.elim
 | _ :: _, [], _, _, _, _, h => by cases ‹List (DataW H)› <;> exact h.elim
 | _ :: _, _ :: _, [], _, _, _, h => h.elim
theorem SS {H : Type} {enc : TypeId × Value -> H} {P : Program} {n : Nat} (rW : laidOutB P = true) {W W' : World} (hb : Below W.heap.size W W') : ∀ {ts : List TypeId} {vs : List Value} {ds : List (DataW H)} {ps : List MemPlace}, kq P n ts = true ->
  DataW.TrodAll enc P W 0 (fun _ => true) true ts vs ds ps -> DataW.TrodAll enc P W' 0 (fun b => decide (b < W.heap.size)) true ts vs ds ps
 | [], [], [], _, _, h => h
 | t :: ts, v :: vs, d :: ds, _, hp, h => by
  obtain ⟨p, q, h1, h2, rfl⟩ := h
  simp only [kq, List.all_cons, Bool.and_eq_true, decide_eq_true_eq] at hp
  have dh : ∀ x ∈ p, x.block < W.heap.size := by obtain ⟨m, hm⟩ := h1; exact DataW.trod_lt m _ _ _ hm
  exact ⟨p, q, Below.trod rW hp.1.1.2 hp.1.2 h1 hb dh, SS rW hb (by simpa [kq] using hp.2) h2, rfl⟩
 | [], [], _ :: _, _, _, h => h.elim
 | [], _ :: _, _, _, _, h => by cases ‹List (DataW H)› <;> exact h.elim
 | _ :: _, [], _, _, _, h => by cases ‹List (DataW H)› <;> exact h.elim
 | _ :: _, _ :: _, [], _, _, h => h.elim
end Go.Vm
