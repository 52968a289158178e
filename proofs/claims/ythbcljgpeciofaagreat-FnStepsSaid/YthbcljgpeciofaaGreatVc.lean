/- An abstract machine NW the model of Go, by value, and that it is sound: part Vc. No condition. -/
import Derived.Test.YthbcljgpeciofaaGreatVf
import Derived.ProofKit
import Derived.OpenShut
import Derived.Below
import Derived.ChangeOld
import Derived.DataReads
import Derived.Carry
set_option linter.unusedVariables false
set_option linter.unusedSimpArgs false
namespace Go.Vm
open Go.RowKit
abbrev Ren := List ((Nat × Nat) × Option (Nat × Nat))
def zE : Ren -> Nat -> Nat -> Option (Nat × Nat)
 | [], t, j => some (t, j)
 | (n, o) :: ρ, t, j => if t = n.1 /\ j = n.2 then o else zE ρ t j
def inF : List (Nat × Nat) -> Nat -> Nat -> Bool
 | [], _, _ => false
 | n :: F, t, j => (t == n.1 && j == n.2) || inF F t j
def HH (σ : St) (ρ : Ren) (F : List (Nat × Nat)) : At -> At -> Prop
 | _, .any => True
 | .d x, .d y => x = y
 | .nil _, .nil _ => True
 | .nil s, .d y => y = .sl s []
 | .nil _, .sref t j lo len => zE ρ t j = none /\ lo = 0 /\ len = 0
 | .sref t j lo len, .sref t' j' p9 rT => zE ρ t' j' = some (t, j) /\ lo = p9 /\ len = rT
 | .sref t j lo len, .d y => inF F t j = true /\ (match σ.ob t j with | .arr _ s rows => y = .sl s (cut rows lo len) | _ => False)
 | .tref t j i c o, .tref t' j' i' c' o' => zE ρ t' j' = some (t, j) /\ i = i' /\ c = c' /\ o = o' /\ (match σ.ob t j with | .arr true _ _ => True | _ => False)
 | .ptr t j i c, .ptr t' j' i' c' => zE ρ t' j' = some (t, j) /\ i = i' /\ c = c'
 | .bptr t c, .bptr t' c' => zE ρ t' 0 = some (t, 0) /\ c = c'
 | .fn f t, .fn f' t' => zE ρ t' 0 = some (t, 0) /\ f = f'
 | .rptr r c, .rptr r' c' => r = r' /\ c = c'
 | _, _ => False
def Pr (σ : St) (ρ : Ren) (F : List (Nat × Nat)) : List At -> List At -> Prop
 | [], [] => True
 | x :: xs, y :: ys => HH σ ρ F x y /\ Pr σ ρ F xs ys
 | _, _ => False
def wkV (σ : St) (ρ : Ren) (F : List (Nat × Nat)) : V -> V -> Prop
 | _, .any => True
 | .one x, .one y => HH σ ρ F x y
 | .agg xs, .agg ys => Pr σ ρ F xs ys
 | .fix u (.one x), .fix u' (.one y) => u = u' /\ HH σ ρ F x y
 | .fix u (.agg xs), .fix u' (.agg ys) => u = u' /\ Pr σ ρ F xs ys
 | .fix _ (.one x), .one y => HH σ ρ F x y
 | .fix _ (.agg xs), .agg ys => Pr σ ρ F xs ys
 | _, _ => False
def HF (σ : St) (ρ : Ren) (F : List (Nat × Nat)) (t' j' : Nat) : Ob -> Prop
 | .none => True
 | .arr q size rows => (match zE ρ t' j' with
  | none => rows = []
  | some (t, j) => inF F t j = false /\ (match σ.ob t j with | .arr p s r => (p = q \/ p = false /\ ∀ x ∈ rows, ∀ y ∈ x, y.scalar = true) /\ s = size /\ r = rows | _ => False))
 | .lit _ _ => False
 | .box cells => (match zE ρ t' j' with
  | none => False
  | some (t, j) => inF F t j = false /\ (match σ.ob t j with | .box cs => Pr σ ρ F cs cells | _ => False))
def EL (σ : St) (ρ : Ren) (F : List (Nat × Nat)) (t : Nat) : List Ob -> Nat -> Prop
 | [], _ => True
 | o :: os, j => HF σ ρ F t j o /\ EL σ ρ F t os (j + 1)
def V2 (σ : St) (ρ : Ren) (F : List (Nat × Nat)) : List Ent -> List Ent -> Nat -> Prop
 | [], [], _ => True
 | e :: es, e' :: nY, t => (wkV σ ρ F e.1 e'.1 /\ EL σ ρ F t e'.2 0) /\ V2 σ ρ F es nY (t + 1)
 | _, _, _ => False
def Jq : Ren -> Nat -> Nat -> Bool
 | [], _, _ => false
 | (n, _) :: ρ, t, j => (t == n.1 && j == n.2) || Jq ρ t j
def jF : Ren -> Nat -> Nat -> Bool
 | [], _, _ => false
 | (_, some o) :: ρ, t, j => (t == o.1 && j == o.2) || jF ρ t j
 | (_, none) :: ρ, t, j => jF ρ t j
def FO (σ' : St) (t j : Nat) : Bool := match σ'.ob t j with | .none => true | _ => false
def jk (σ' : St) (all : Ren) : Ren -> Bool
 | [] => true
 | (_, some o) :: ρ => !jF ρ o.1 o.2 && (Jq all o.1 o.2 || FO σ' o.1 o.2) && jk σ' all ρ
 | (_, none) :: ρ => jk σ' all ρ
theorem jQ : ∀ {ρ : Ren} {t j : Nat}, Jq ρ t j = false -> zE ρ t j = some (t, j)
 | [], _, _, _ => rfl
 | (n, o) :: ρ, t, j, h => by
  simp only [Jq, Bool.or_eq_false_iff, Bool.and_eq_false_iff, beq_eq_false_iff_ne] at h
  simp only [zE]
  rw [if_neg (by rintro ⟨h1, h2⟩; rcases h.1 with h3 | h3 <;> contradiction)]
  exact jQ h.2
theorem Wf : ∀ {ρ : Ren} {t j : Nat} {o : Nat × Nat}, Jq ρ t j = true -> zE ρ t j = some o -> jF ρ o.1 o.2 = true
 | [], _, _, _, h, _ => by simp [Jq] at h
 | (n, o') :: ρ, t, j, o, h, ho => by
  simp only [zE] at ho
  split at ho
  ·subst ho; simp [jF]
  ·rename_i uD
   have h' : Jq ρ t j = true := by
    simp only [Jq, Bool.or_eq_true, Bool.and_eq_true, beq_iff_eq] at h
    rcases h with h | h
    ·exact absurd h uD
    ·exact h
   have := Wf h' ho
   cases o' with
   | none => simpa [jF] using this
   | some o' => simp [jF, this]
theorem Lp {σ' : St} {all : Ren} : ∀ {ρ : Ren} {t j t' j' : Nat} {o : Nat × Nat}, jk σ' all ρ = true -> Jq ρ t j = true -> Jq ρ t' j' = true -> zE ρ t j = some o -> zE ρ t' j' = some o -> (t, j) = (t', j')
 | [], _, _, _, _, _, _, h, _, _, _ => by simp [Jq] at h
 | (n, o') :: ρ, t, j, t', j', o, uW, hn, u7, ho, uV => by
  have fl : jk σ' all ρ = true := by
   cases o' with
   | none => simpa [jk] using uW
   | some o' => simp only [jk, Bool.and_eq_true] at uW; exact uW.2
  simp only [zE] at ho uV
  by_cases h1 : t = n.1 /\ j = n.2
  ·rw [if_pos h1] at ho
   by_cases h2 : t' = n.1 /\ j' = n.2
   ·rw [h1.1, h1.2, h2.1, h2.2]
   ·rw [if_neg h2] at uV
    have h' : Jq ρ t' j' = true := by
     simp only [Jq, Bool.or_eq_true, Bool.and_eq_true, beq_iff_eq] at u7
     exact u7.resolve_left h2
    have hold := Wf h' uV
    subst ho
    simp only [jk, Bool.and_eq_true, Bool.not_eq_true'] at uW
    rw [hold] at uW; cases uW.1.1
  ·rw [if_neg h1] at ho
   have h : Jq ρ t j = true := by
    simp only [Jq, Bool.or_eq_true, Bool.and_eq_true, beq_iff_eq] at hn
    exact hn.resolve_left h1
   by_cases h2 : t' = n.1 /\ j' = n.2
   ·rw [if_pos h2] at uV
    have hold := Wf h ho
    subst uV
    simp only [jk, Bool.and_eq_true, Bool.not_eq_true'] at uW
    rw [hold] at uW; cases uW.1.1
   ·rw [if_neg h2] at uV
    have h' : Jq ρ t' j' = true := by
     simp only [Jq, Bool.or_eq_true, Bool.and_eq_true, beq_iff_eq] at u7
     exact u7.resolve_left h2
    exact Lp fl h h' ho uV
theorem W7 {σ' : St} {all : Ren} : ∀ {ρ : Ren} {t j : Nat}, jk σ' all ρ = true -> jF ρ t j = true -> Jq all t j = true \/ σ'.ob t j = .none
 | [], _, _, _, h => by simp [jF] at h
 | (n, o') :: ρ, t, j, uW, h => by
  cases o' with
  | none => exact W7 (ρ := ρ) (by simpa [jk] using uW) (by simpa [jF] using h)
  | some o =>
   simp only [jk, Bool.and_eq_true, Bool.or_eq_true] at uW
   simp only [jF, Bool.or_eq_true, Bool.and_eq_true, beq_iff_eq] at h
   rcases h with ⟨rfl, rfl⟩ | h
   ·refine uW.1.2.imp id fun hf => ?_
    unfold FO at hf; split at hf <;> first | assumption | cases hf
   ·exact W7 uW.2 h
theorem Bb {σ' : St} {ρ : Ren} (uW : jk σ' ρ ρ = true) {t j t' j' : Nat} {o : Nat × Nat} (h1 : σ'.ob t j ≠ .none) (h2 : σ'.ob t' j' ≠ .none) (ho : zE ρ t j = some o) (uV : zE ρ t' j' = some o) : t = t' /\ j = j' := by
 cases hn : Jq ρ t j with
 | true =>
  cases u7 : Jq ρ t' j' with
  | true => have := Lp uW hn u7 ho uV; cases this; exact ⟨rfl, rfl⟩
  | false =>
   have pg := jQ u7
   rw [pg] at uV; cases uV
   have hold := Wf hn ho
   rcases W7 uW hold with h | h
   ·rw [u7] at h; cases h
   ·exact absurd h h2
 | false =>
  have pg := jQ hn
  rw [pg] at ho; cases ho
  cases u7 : Jq ρ t' j' with
  | true =>
   have hold := Wf u7 uV
   rcases W7 uW hold with h | h
   ·rw [hn] at h; cases h
   ·exact absurd h h1
  | false =>
   have fm := jQ u7
   rw [fm] at uV; cases uV; exact ⟨rfl, rfl⟩
theorem Tb {σ : St} {ρ : Ren} {F : List (Nat × Nat)} : ∀ {es nY : List Ent} {t : Nat}, V2 σ ρ F es nY t -> es.length = nY.length
 | [], [], _, _ => rfl
 | _ :: _, _ :: _, _, h => by simp [Tb h.2]
 | [], _ :: _, _, h => h.elim
 | _ :: _, [], _, h => h.elim
theorem MW {σ : St} {ρ : Ren} {F : List (Nat × Nat)} : ∀ {es nY : List Ent} {t : Nat}, V2 σ ρ F es nY t -> ∀ (i : Nat), wkV σ ρ F (St.get es i) (St.get nY i) /\ ∀ j, HF σ ρ F (t + i) j (St.ob nY i j)
 | [], [], t, _, i => ⟨by simp [St.get, wkV], fun j => by simp [St.ob, HF]⟩
 | e :: es, e' :: nY, t, h, 0 => by
  refine ⟨h.1.1, fun j => ?_⟩
  have : ∀ (os : List Ob) (k : Nat), EL σ ρ F t os k -> ∀ j, HF σ ρ F t (k + j) (YS os j) := by
   intro os
   induction os with
   | nil => intro k _ j; simp [YS, HF]
   | cons o os ih =>
    intro k hk j
    cases j with
    | zero => exact hk.1
    | succ j => have := ih (k + 1) hk.2 j; rw [show k + (j + 1) = k + 1 + j by omega]; simpa [YS] using this
  have := this e'.2 0 h.1.2 j
  simpa using this
 | e :: es, e' :: nY, t, h, i + 1 => by
  have := MW h.2 i
  rw [show t + (i + 1) = t + 1 + i by omega]
  simpa [St.get, St.ob] using this
 | [], _ :: _, _, h, _ => h.elim
 | _ :: _, [], _, h, _ => h.elim
theorem CO {T : CS} {w : World} {xs : List Value} {ds : List D} {S : Nat -> Prop} (uF : Zy (Rd T w) xs ds) (hf : ∀ d ∈ ds, d.scalar = true) : JG w xs ds S :=
 ⟨uF.length, fun _ _ => False, fun k x d hx hd => by
  obtain ⟨d', uM, hr⟩ := uF.get k x hx
  rw [hd] at uM; cases uM
  exact Rd.own (hf d (List.mem_of_getElem? hd)) hr, fun _ _ hb => hb.elim, fun _ _ _ hb => hb.elim⟩
theorem XI {σ σ' : St} (ρ : Ren) (F : List (Nat × Nat)) (uW : jk σ' ρ ρ = true) (hs : V2 σ ρ F σ σ' 0) : Wk σ σ' := by
 rintro T0 B a w ⟨X, h, r⟩
 let h' : Nat -> Nat -> Hd := fun t j => match zE ρ t j with | some o => h o.1 o.2 | none => Hd.of (.slice none 0 0)
 let X' : Nat -> Prop := fun b => X b \/ ∃ t j, inF F t j = true /\ σ.ob t j ≠ .none /\ (h t j).u b
 have hlen := Tb hs
 have tO := MW hs
 have uX : ∀ t j, HF σ ρ F t j (σ'.ob t j) := fun t j => by have := (tO t).2 j; simpa using this
 have oa : ∀ b k v, Tof T0 X b k -> w.cell? ⟨b, k, none⟩ = some v -> w.cell? ⟨b, k, none⟩ = some v /\ Tof T0 X' b k := fun b k v hb hc => ⟨hc, hb.imp id .inl⟩
 have pZ : ∀ t' j' q size rows, σ'.ob t' j' = .arr q size rows -> (zE ρ t' j' = none /\ rows = []) \/ ∃ t j p, zE ρ t' j' = some (t, j) /\ inF F t j = false /\ σ.ob t j = .arr p size rows /\ (p = q \/ p = false /\ ∀ x ∈ rows, ∀ y ∈ x, y.scalar = true) := by
  intro t' j' q size rows ho
  have := uX t' j'
  rw [ho] at this
  simp only [HF] at this
  split at this
  ·rename_i hn; exact .inl ⟨hn, this⟩
  ·rename_i t j hn
   obtain ⟨hF, this⟩ := this
   split at this
   ·rename_i p s r tA; obtain ⟨hp, rfl, rfl⟩ := this; exact .inr ⟨t, j, p, hn, hF, tA, hp⟩
   ·exact this.elim
 have oI : ∀ t' j' size rows, σ'.ob t' j' ≠ .lit size rows := by
  intro t' j' size rows ho
  have := uX t' j'
  rw [ho] at this; exact this
 have oJ : ∀ t' j' cells, σ'.ob t' j' = .box cells -> ∃ t j cs, zE ρ t' j' = some (t, j) /\ inF F t j = false /\ σ.ob t j = .box cs /\ Pr σ ρ F cs cells := by
  intro t' j' cells ho
  have := uX t' j'
  rw [ho] at this
  simp only [HF] at this
  split at this
  ·exact this.elim
  ·rename_i t j hn
   obtain ⟨hF, this⟩ := this
   split at this
   ·rename_i cs tA; exact ⟨t, j, cs, hn, hF, tA, this⟩
   ·exact this.elim
 have at_ : ∀ {x y : At} {v : Value}, HH σ ρ F x y -> YD (Tof T0 X) h σ.ob w x v -> YD (Tof T0 X') h' σ'.ob w y v := by
  intro x y v hw hr
  have h1 := YD.Xg hr
  cases y with
  | any => exact h1
  | d y =>
   cases x with
   | d x => simp only [HH] at hw; subst hw; exact Rd.mono oa hr
   | nil s => simp only [HH] at hw; subst hw; cases hr; exact .nil _
   | sref t j lo len =>
    simp only [HH] at hw
    obtain ⟨hF, hw⟩ := hw
    split at hw
    ·rename_i q s rows ho
     subst hw
     exact r.EM ho hr _ (fun b k hb => hb.imp id .inl) (fun b k hb => .inr (.inr ⟨t, j, hF, by rw [ho]; simp, hb⟩))
    ·exact hw.elim
   | _ => exact hw.elim
  | nil s =>
   cases x with
   | nil s' => exact hr
   | _ => exact hw.elim
  | sref t' j' p9 rT =>
   cases x with
   | nil s =>
    obtain ⟨hn, rfl, rfl⟩ := hw
    cases hr
    refine ⟨rfl, fun q size rows ho => ?_, fun size rows ho => absurd ho (oI _ _ _ _)⟩
    simp only [h', hn]
    exact ⟨by omega, fun _ _ => rfl, fun _ => rfl, none, 0, rfl, by omega, by simp [maxLen], fun _ => rfl, fun hh => absurd hh (by omega)⟩
   | sref t j lo len =>
    obtain ⟨hn, rfl, rfl⟩ := hw
    refine ⟨h1, fun q size rows ho => ?_, fun size rows ho => absurd ho (oI _ _ _ _)⟩
    rcases pZ t' j' q size rows ho with ⟨u7, _⟩ | ⟨t2, j2, p, u7, _, tA, _⟩
    ·rw [hn] at u7; cases u7
    ·rw [hn] at u7; cases u7
     simp only [h', hn]
     exact hr.2.1 p size rows tA
   | _ => exact hw.elim
  | ptr t' j' i' c' =>
   cases x with
   | ptr t j i c =>
    obtain ⟨hn, rfl, rfl⟩ := hw
    refine ⟨h1, fun q size rows ho => ?_⟩
    rcases pZ t' j' q size rows ho with ⟨u7, _⟩ | ⟨t2, j2, p, u7, _, tA, _⟩
    ·rw [hn] at u7; cases u7
    ·rw [hn] at u7; cases u7
     simp only [h', hn]
     exact hr.2 p size rows tA
   | _ => exact hw.elim
  | tref t' j' i' c' o' =>
   cases x with
   | tref t j i c o =>
    obtain ⟨hn, rfl, rfl, rfl, hq⟩ := hw
    refine ⟨h1, fun size rows ho => ?_⟩
    rcases pZ t' j' true size rows ho with ⟨u7, _⟩ | ⟨t2, j2, p, u7, _, tA, hp⟩
    ·rw [hn] at u7; cases u7
    ·rw [hn] at u7; cases u7
     simp only [h', hn]
     rcases hp with rfl | ⟨rfl, tg⟩
     ·exact hr.2 size rows tA
     ·rw [tA] at hq; exact hq.elim
   | _ => exact hw.elim
  | bptr t' c' =>
   cases x with
   | bptr t c =>
    obtain ⟨hn, rfl⟩ := hw
    refine ⟨h1, fun cells ho => ?_⟩
    obtain ⟨t2, j2, cs, u7, _, tA, _⟩ := oJ t' 0 cells ho
    rw [hn] at u7; cases u7
    simp only [h', hn]
    exact hr.2 cs tA
   | _ => exact hw.elim
  | fn f' t' =>
   cases x with
   | fn f t =>
    obtain ⟨hn, rfl⟩ := hw
    refine ⟨h1, fun cells ho => ?_⟩
    obtain ⟨t2, j2, cs, u7, _, tA, _⟩ := oJ t' 0 cells ho
    rw [hn] at u7; cases u7
    simp only [h', hn]
    exact hr.2 cs tA
   | _ => exact hw.elim
  | rptr r' c' =>
   cases x with
   | rptr r0 c =>
    obtain ⟨rfl, rfl⟩ := hw
    obtain ⟨b, off, g, e, hk⟩ := hr
    exact ⟨b, off, g, e, fun k d hd => ⟨(hk k d hd).1, (hk k d hd).2.1.imp id .inl, Rd.mono oa (hk k d hd).2.2⟩⟩
   | _ => exact hw.elim
 have nu : ∀ {xs ys : List At} {vs : List Value}, Pr σ ρ F xs ys -> Zy (YD (Tof T0 X) h σ.ob w) xs vs -> Zy (YD (Tof T0 X') h' σ'.ob w) ys vs := by
  intro xs
  induction xs with
  | nil => intro ys vs hw hr; cases ys with
   | nil => cases hr; exact .nil
   | cons y ys => exact hw.elim
  | cons x xs ih => intro ys vs hw hr; cases ys with
   | nil => exact hw.elim
   | cons y ys => cases hr with
    | cons h1 hr => exact .cons (at_ hw.1 h1) (ih hw.2 hr)
 have v_ : ∀ {x y : V} {v : Value}, wkV σ ρ F x y -> QI (Tof T0 X) h σ.ob w x v -> QI (Tof T0 X') h' σ'.ob w y v := by
  intro x y v hw hr
  cases y with
  | any => trivial
  | one y => cases x with
   | one x => exact at_ hw hr
   | fix u x => cases x with
    | one x => exact at_ hw hr.2
    | _ => exact hw.elim
   | _ => exact hw.elim
  | agg ys => cases x with
   | agg xs => obtain ⟨cs, e, hr⟩ := hr; exact ⟨cs, e, nu hw hr⟩
   | fix u x => cases x with
    | agg xs => obtain ⟨cs, e, hr⟩ := hr.2; exact ⟨cs, e, nu hw hr⟩
    | _ => exact hw.elim
   | _ => exact hw.elim
  | tup ys => cases x with
   | fix u x => cases x <;> exact hw.elim
   | _ => exact hw.elim
  | cnd g y => cases x with
   | fix u x => cases x <;> exact hw.elim
   | _ => exact hw.elim
  | fix u' y => cases x with
   | fix u x => cases x with
    | one x => cases y with
     | one y => obtain ⟨rfl, hw⟩ := hw; exact ⟨hr.1, at_ hw hr.2⟩
     | _ => exact hw.elim
    | agg xs => cases y with
     | agg ys => obtain ⟨rfl, hw⟩ := hw; obtain ⟨e1, cs, e, hr⟩ := hr; exact ⟨e1, cs, e, nu hw hr⟩
     | _ => exact hw.elim
    | _ => cases y <;> exact hw.elim
   | _ => cases y <;> exact hw.elim
 have uD : ∀ t j, σ'.ob t j ≠ .none -> (zE ρ t j = none /\ ∀ b, ¬ (h' t j).u b) \/ ∃ o, zE ρ t j = some o /\ σ.ob o.1 o.2 ≠ .none /\ inF F o.1 o.2 = false /\ h' t j = h o.1 o.2 := by
  intro t j hn
  cases ho : σ'.ob t j with
  | none => exact absurd ho hn
  | arr q size rows =>
   rcases pZ t j q size rows ho with ⟨u7, _⟩ | ⟨t2, j2, p, u7, hF, tA, _⟩
   ·exact .inl ⟨u7, fun b hb => by simp only [h', u7, Hd.of, blk] at hb; cases hb⟩
   ·exact .inr ⟨(t2, j2), u7, by rw [tA]; simp, hF, by simp only [h', u7]⟩
  | lit size rows => exact absurd ho (oI _ _ _ _)
  | box cells =>
   obtain ⟨t2, j2, cs, u7, hF, tA, _⟩ := oJ t j cells ho
   exact .inr ⟨(t2, j2), u7, by rw [tA]; simp, hF, by simp only [h', u7]⟩
 refine ⟨X', h', by rw [r.size, hlen], r.defers, r.hB, fun b hb => ?_, r.hT, fun t ht => ?_, fun t j => ?_, fun t j b hn hb => ?_, fun t j b hn hb => ?_, fun t j t' j' b hn u7 hb uS => ?_⟩
 ·rcases hb with hb | ⟨t, j, _, hn, hb⟩
  ·exact r.hX b hb
  ·have := r.own t j b hn hb; exact ⟨this.1, this.2.2⟩
 ·exact v_ (tO t).1 (r.slot t (by rw [hlen]; exact ht))
 ·cases ho : σ'.ob t j with
  | none => trivial
  | lit size rows => exact absurd ho (oI _ _ _ _)
  | arr q size rows =>
   rcases pZ t j q size rows ho with ⟨hn, rfl⟩ | ⟨u, k, p, hn, _, tA, hp⟩
   ·have : h' t j = Hd.of (.slice none 0 0) := by simp only [h', hn]
    rw [this]
    cases q with
    | false => exact ⟨0, [], World.ownsRow_nil w 0 0 size, (by intro q hq; cases hq), .nil⟩
    | true => exact ⟨0, [], World.ownsRow_nil w 0 0 size, (by intro q hq; cases hq), JG.nil _, fun k x d hx => by simp at hx⟩
   ·have he : h' t j = h u k := by simp only [h', hn]
    rw [he]
    have h0 := r.obj u k
    rw [tA] at h0
    cases p with
    | false =>
     obtain ⟨e, xs, uG, hz, uF⟩ := h0
     cases q with
     | false => exact ⟨e, xs, uG, hz, uF.imp fun _ _ => Rd.mono oa⟩
     | true =>
      rcases hp with hp | ⟨_, tg⟩
      ·cases hp
      ·have oh : ∀ d ∈ rows.flatten, d.scalar = true := fun d hd => by
        obtain ⟨r0, rO, hdr⟩ := List.mem_flatten.1 hd
        exact tg r0 rO d hdr
       exact ⟨e, xs, uG, hz, CO uF oh, fun k x d _ hd hs => by rw [oh d (List.mem_of_getElem? hd)] at hs; cases hs⟩
    | true =>
     rcases hp with rfl | ⟨hp, _⟩
     ·exact h0
     ·cases hp
  | box cells =>
   obtain ⟨u, k, cs, hn, _, tA, sY⟩ := oJ t j cells ho
   have h0 := r.obj u k
   rw [tA] at h0
   obtain ⟨b, vs, e, hv, hh, uF⟩ := h0
   have he : h' t j = h u k := by simp only [h', hn]
   rw [he]
   exact ⟨b, vs, e, hv, hh, nu sY uF⟩
 ·rcases uD t j hn with ⟨hr, _⟩ | ⟨o, hr, pz, hF, he⟩
  ·simp only [h', hr, Hd.of, blk] at hb; cases hb
  ·rw [he] at hb ⊢; exact r.ub o.1 o.2 b pz hb
 ·rcases uD t j hn with ⟨_, pz⟩ | ⟨o, hr, pz, hF, he⟩
  ·exact absurd hb (pz b)
  ·rw [he] at hb
   have h0 := r.own o.1 o.2 b pz hb
   refine ⟨h0.1, ?_, h0.2.2⟩
   rintro (hx | ⟨t2, j2, ed, hP, u4⟩)
   ·exact h0.2.1 hx
   ·obtain ⟨h3, h4⟩ := r.inj o.1 o.2 t2 j2 b pz hP hb u4
    rw [h3, h4] at hF; rw [hF] at ed; cases ed
 ·rcases uD t j hn with ⟨_, pz⟩ | ⟨o, hr, pz, _, he⟩
  ·exact absurd hb (pz b)
  ·rcases uD t' j' u7 with ⟨_, m9⟩ | ⟨o', th, m9, _, l6⟩
   ·exact absurd uS (m9 b)
   ·rw [he] at hb
    rw [l6] at uS
    obtain ⟨h3, h4⟩ := r.inj o.1 o.2 o'.1 o'.2 b pz m9 hb uS
    have : o = o' := Prod.ext h3 h4
    subst this
    exact Bb uW hn u7 hr th
theorem z9 {σ σ' : St} (hs : V2 σ [] [] σ σ' 0) : Wk σ σ' := XI [] [] rfl hs
attribute [simp] zE inF HH Pr wkV HF EL V2 Jq jF FO jk
end Go.Vm
namespace Go.Vm
open Go.RowKit
def Y5 (P : Program) (σ : St) : List Operand -> List TypeId -> Prop × Option (List (List D))
 | [], _ => (True, some [])
 | x :: xs, t :: ts => (gOf (look P σ t x) = true /\ (Y5 P σ xs ts).1, match (unc (look P σ t x)).Jm σ, (Y5 P σ xs ts).2 with | some r, some rs => some (r :: rs) | _, _ => none)
 | _ :: _, [] => (False, none)
theorem xC {P : Program} {σ : St} : ∀ {xs : List Operand} {ts : List TypeId} {rs : List (List D)}, (Y5 P σ xs ts).1 -> (Y5 P σ xs ts).2 = some rs -> QC P σ xs ts rs
 | [], _, rs, _, h => by simp [Y5] at h; exact h
 | x :: xs, t :: ts, rs, h1, h => by
  simp only [Y5] at h
  split at h
  ·rename_i r lA hr sc
   cases h
   exact ⟨h1.1, r, lA, hr, xC h1.2 sc, rfl⟩
  ·cases h
 | _ :: _, [], _, h1, _ => h1.elim
attribute [simp] Y5
theorem Og {P : Program} {ops : Array Oper} {bar : Oper -> Bool} {o : Oper} {rest : List Oper} {σ : St} {Q : St -> Prop} {c : Call} {f : FuncId} {d : Nat} {own : Bool} {rows res : List (List D)} (uA : o.op = .call c) (hc : c.callee = .value (.func f)) (hg : o.guard = none) (hd : o.dst = some d)
  (hs : QB P f own rows res) (uN : (Y5 P σ c.args.toList c.argTypes.toList).2 = some rows) (uH : (Y5 P σ c.args.toList c.argTypes.toList).1) (uf : YM P σ c.args.toList c.argTypes.toList = true \/ JI own res) (h : Ev P ops bar rest (σ.put d (ye res)) Q) : xH P ops bar o rest σ Q :=
 H3 uA hc hg hd (xC uH uN) hs uf h
theorem CB {P : Program} {ops : Array Oper} {bar : Oper -> Bool} {o : Oper} {rest : List Oper} {σ : St} {Q : St -> Prop} {c : Call} {f : FuncId} {d : Nat} {rows res : List (List D)} (uA : o.op = .call c) (hc : c.callee = .value (.func f)) (hg : o.guard = none) (hd : o.dst = some d)
  (hs : QB P f true rows res) (uN : (Y5 P σ c.args.toList c.argTypes.toList).2 = some rows) (uH : (Y5 P σ c.args.toList c.argTypes.toList).1) (uf : YM P σ c.args.toList c.argTypes.toList = true \/ JI true res) (hf : σ.fresh d = true) (h : Ev P ops bar rest (σ.new d (xL d res) (zW res.flatten)) Q) : xH P ops bar o rest σ Q :=
 Ig uA hc hg hd (xC uH uN) hs uf hf h
theorem IN {P : Program} {ops : Array Oper} {bar : Oper -> Bool} {o : Oper} {rest : List Oper} {σ : St} {Q : St -> Prop} {c : Call} {f : FuncId} {d : Nat} {rows res : List (List D)} (qs : List Bool) (uA : o.op = .call c) (hc : c.callee = .value (.func f)) (hg : o.guard = none) (hd : o.dst = some d)
  (hs : YP P f rows res) (uN : (Y5 P σ c.args.toList c.argTypes.toList).2 = some rows) (uH : (Y5 P σ c.args.toList c.argTypes.toList).1) (hq : xk qs res.flatten) (hf : σ.fresh d = true) (h : Ev P ops bar rest (σ.new d (xL d res) (Yc qs res.flatten)) Q) : xH P ops bar o rest σ Q :=
 Fb qs uA hc hg hd (xC uH uN) hs hq hf h
theorem Fy {P : Program} {ops : Array Oper} {bar : Oper -> Bool} {o : Oper} {rest : List Oper} {σ : St} {Q : St -> Prop} {c : Call} {f : FuncId} {d j dj : Nat} {want g own : Bool} {rows : List (List D)} {res : List D} (uA : o.op = .call c) (hc : c.callee = .value (.func f)) (hg : o.guard = some (j, want)) (hd : o.dst = some d)
  (tx : (ops[j]?).bind (·.dst) = some dj) (sE : y8 want (σ.get dj) = some g) (hs : g = true -> QB P f own rows [res])
  (uN : (Y5 P σ c.args.toList c.argTypes.toList).2 = some rows) (uL : dj < σ.length)
  (uH : g = true -> (Y5 P σ c.args.toList c.argTypes.toList).1) (uf : YM P σ c.args.toList c.argTypes.toList = true \/ JI own [res]) (h : Ev P ops bar rest (σ.put d (.cnd g (ye [res]))) Q) : xH P ops bar o rest σ Q :=
 FY uA hc hg hd tx uL sE (fun hh => xC (uH hh) uN) hs uf h
def Yy : Nat -> List (Nat × V × List Ob) -> St
 | n, [] => List.replicate n (V.any, [])
 | n, (t, v, os) :: l => (Yy n l).new t v os
attribute [simp] Yy
end Go.Vm
namespace Go.Vm
open Go.RowKit
def B8 (P : Program) (b : Bool) (x y : Code) (Q : Exit -> St -> Prop) (σ : St) : Prop := (b = true -> AWP P x Q σ) /\ (b = false -> AWP P y Q σ)
def B3 (P : Program) (c : Code) (Q : Exit -> St -> Prop) (σ : St) : Prop := AWP P (.loop c) Q σ
def B0 (P : Program) (id : Nat) (ops : Array Oper) (Q : Exit -> St -> Prop) (σ : St) : Prop := AWP P (.region id ops true) Q σ
def MR (P : Program) (c : Code) (Q : Exit -> St -> Prop) (σ : St) : Prop := AWP P c Q σ
def Wx (P : Program) : Code -> (Exit -> St -> Prop) -> St -> Prop
 | .seq x y, Q, σ => Wx P x (MB (Wx P y Q) Q) σ
 | .region _ ⟨l⟩ false, Q, σ => Ev P ⟨l⟩ (fun _ => true) l σ (Q .normal)
 | .region id ops true, Q, σ => B0 P id ops Q σ
 | .cond c x y, Q, σ => (match look P σ 0 c with | .one (.d (.bool b)) => B8 P b x y Q σ | _ => False)
 | .block id c, Q, σ => Wx P c (VZ id Q) σ
 | .loop c, Q, σ => B3 P c Q σ
 | .skip, Q, σ => Q .normal σ
 | .exit id, Q, σ => Q (.exit id) σ
 | .ret, Q, σ => Q .ret σ
 | .rangeFunc f ps x y, Q, σ => MR P (.rangeFunc f ps x y) Q σ
 | .scope c, Q, σ => MR P (.scope c) Q σ
 | .label l, Q, σ => MR P (.label l) Q σ
 | .goto l, Q, σ => MR P (.goto l) Q σ
 | .refuse s, Q, σ => MR P (.refuse s) Q σ
theorem kv {P : Program} : ∀ {c : Code} {Q : Exit -> St -> Prop} {σ : St}, Wx P c Q σ -> AWP P c Q σ
 | .seq x y, Q, σ, h => by
  rw [Wx] at h
  refine BU (GP (fun e σ' hq => ?_) (kv h))
  cases e <;> simp only [MB] at hq ⊢ <;> first | exact kv hq | exact hq
 | .region _ ⟨l⟩ false, Q, σ, h => AY h
 | .region id ops true, Q, σ, h => h
 | .cond c x y, Q, σ, h => by
  rw [Wx] at h
  split at h
  ·rename_i b hb; exact Dt hb h.1 h.2
  ·exact h.elim
 | .block id c, Q, σ, h => DS (kv (by rw [Wx] at h; exact h))
 | .loop c, Q, σ, h => h
 | .skip, Q, σ, h => D4 h
 | .exit id, Q, σ, h => D9 h
 | .ret, Q, σ, h => Bc h
 | .rangeFunc _ _ _ _, Q, σ, h => h
 | .scope _, Q, σ, h => h
 | .label _, Q, σ, h => h
 | .goto _, Q, σ, h => h
 | .refuse _, Q, σ, h => h
class yg where
 c : Code
class JP where
 ops : Array Oper
 bar : Oper -> Bool
class Js where
 l : List Oper
class OpI where
 o : Oper
class inductive Fr where
 | fin (Q : Exit -> St -> Prop)
 | sq (y : Code) (k : Fr)
 | blk (id : Nat) (k : Fr)
 | nxt (n : St -> Prop) (k : Fr)
def Fr.run (P : Program) : Fr -> Exit -> St -> Prop
 | .fin Q, e, σ => Q e σ
 | .sq y k, e, σ => MB (Wx P y (Fr.run P k)) (Fr.run P k) e σ
 | .blk id k, e, σ => VZ id (Fr.run P k) e σ
 | .nxt n k, e, σ => MB n (Fr.run P k) e σ
def WI (P : Program) (σ : St) [c : yg] [k : Fr] : Prop := Wx P c.c (k.run P) σ
def LI (P : Program) (e : Exit) (σ : St) [k : Fr] : Prop := k.run P e σ
def EI (P : Program) (σ : St) [A : JP] [l : Js] [k : Fr] : Prop := Ev P A.ops A.bar l.l σ (k.run P .normal)
def SI (P : Program) (σ : St) [A : JP] [o : OpI] [l : Js] [k : Fr] : Prop := xH P A.ops A.bar o.o l.l σ (k.run P .normal)
def CI (P : Program) (b : Bool) (σ : St) [x : yg] [y : yg] [k : Fr] : Prop := B8 P b x.c y.c (k.run P) σ
def S4 (P : Program) (σ : St) [c : yg] [k : Fr] : Prop := B3 P c.c (k.run P) σ
def DI (P : Program) (id : Nat) (σ : St) [A : JP] [k : Fr] : Prop := B0 P id A.ops (k.run P) σ
section
variable {P : Program} {σ : St} {k : Fr}
theorem AF {x y : Code} : @WI P σ ⟨.seq x y⟩ k = @WI P σ ⟨x⟩ (.sq y k) := by
 simp only [WI]
 rw [Wx]
 congr 1
theorem El {id : Nat} {l : List Oper} : @WI P σ ⟨.region id ⟨l⟩ false⟩ k = @EI P σ ⟨⟨l⟩, fun _ => true⟩ ⟨l⟩ k := by simp only [WI, EI, Wx]
theorem BN {id : Nat} {ops : Array Oper} : @WI P σ ⟨.region id ops true⟩ k = @DI P id σ ⟨ops, fun _ => true⟩ k := by simp only [WI, DI, Wx]
theorem BC {c : Operand} {x y : Code} : @WI P σ ⟨.cond c x y⟩ k = (match look P σ 0 c with | .one (.d (.bool b)) => @CI P b σ ⟨x⟩ ⟨y⟩ k | _ => False) := by simp only [WI, CI, Wx]
theorem Dc {id : Nat} {c : Code} : @WI P σ ⟨.block id c⟩ k = @WI P σ ⟨c⟩ (.blk id k) := by
 simp only [WI]
 rw [Wx]
 congr 1
theorem Cz {c : Code} : @WI P σ ⟨.loop c⟩ k = @S4 P σ ⟨c⟩ k := by simp only [WI, S4, Wx]
theorem BT : @WI P σ ⟨.skip⟩ k = @LI P .normal σ k := by simp only [WI, LI, Wx]
theorem Be {id : Nat} : @WI P σ ⟨.exit id⟩ k = @LI P (.exit id) σ k := by simp only [WI, LI, Wx]
theorem Ab : @WI P σ ⟨.ret⟩ k = @LI P .ret σ k := by simp only [WI, LI, Wx]
theorem Ac {Q : Exit -> St -> Prop} {e : Exit} : @LI P e σ (.fin Q) = Q e σ := rfl
theorem wJ {y : Code} : @LI P .normal σ (.sq y k) = @WI P σ ⟨y⟩ k := rfl
theorem FT {y : Code} {id : Nat} : @LI P (.exit id) σ (.sq y k) = @LI P (.exit id) σ k := rfl
theorem E5 {y : Code} : @LI P .ret σ (.sq y k) = @LI P .ret σ k := rfl
theorem AX {n : St -> Prop} : @LI P .normal σ (.nxt n k) = n σ := rfl
theorem GN {n : St -> Prop} {id : Nat} : @LI P (.exit id) σ (.nxt n k) = @LI P (.exit id) σ k := rfl
theorem G3 {n : St -> Prop} : @LI P .ret σ (.nxt n k) = @LI P .ret σ k := rfl
theorem AL {id : Nat} : @LI P .normal σ (.blk id k) = @LI P .normal σ k := rfl
theorem FL {id : Nat} : @LI P .ret σ (.blk id k) = @LI P .ret σ k := rfl
theorem GA {id m3 : Nat} : @LI P (.exit m3) σ (.blk id k) = if m3 = id then @LI P .normal σ k else @LI P (.exit m3) σ k := rfl
theorem Aj {A : JP} : @EI P σ A ⟨[]⟩ k = @LI P .normal σ k := by simp only [EI, LI, Ev]
theorem Bj {A : JP} {o : Oper} {rest : List Oper} : @EI P σ A ⟨o :: rest⟩ k =
  (if stops P A.bar o then @SI P σ A ⟨o⟩ ⟨rest⟩ k else
  match o.guard with
  | none =>
   (match o.dst with
   | some d => (evS P σ o d).1 /\ @EI P (evS P σ o d).2 A ⟨rest⟩ k
   | none => (match o.op with | .store T x y => if AW P σ T x y then @SI P σ A ⟨o⟩ ⟨rest⟩ k else (Gh P σ T x y).1 /\ @EI P (Gh P σ T x y).2 A ⟨rest⟩ k | _ => False))
  | some (j, want) =>
   (match (A.ops[j]?).bind (·.dst), o.dst with
   | some dj, some d => (match y8 want (σ.get dj) with
    | some g => (dj < σ.length /\ (g = true -> (evV P σ o.op o.type).1 /\ gOf (evV P σ o.op o.type).2 = true /\ (unc (evV P σ o.op o.type).2).flat = true)) /\ @EI P (σ.put d (.cnd g (unc (evV P σ o.op o.type).2))) A ⟨rest⟩ k
    | none => False)
   | _, _ => False)) := by
 simp only [EI, SI]
 rw [Ev]
 rfl
end
section
variable {P : Program} {σ : St} {k : Fr}
theorem Di {f : FuncId} {fn : Func} {c : Code} (hf : P.funcs[f]? = some fn) (hb : fn.body = some c) (uW : U5 P f = true) {own : Bool} {args res : List (List D)}
  (hw : @WI P (xn fn.ntmps args) ⟨c⟩ (.fin (He P fn own res))) : QB P f own args res := Iy hf hb uW (kv hw)
theorem BG {A : JP} {o : OpI} {rest : Js} {S T : TypeId} {x : Operand} {d : Nat} {s : ByteArray} (uA : o.o.op = .convert S T x) (hg : o.o.guard = none) (hd : o.o.dst = some d)
  (h1 : gOf (look P σ S x) = true) (h2 : W8 P S = true) (h3 : Sl P T = true) (h4 : unc (look P σ S x) = .one (.d (.str s))) (h5 : s.size <= 9223372036854775807) (h : @EI P (σ.put d (.one (.d (.sl 1 (J1 s.data.toList))))) A rest k) : @SI P σ A o rest k :=
 HD uA hg hd h1 h2 h3 h4 h5 h
theorem EX {f : FuncId} {fn : Func} {c : Code} (hf : P.funcs[f]? = some fn) (hb : fn.body = some c) (uW : U5 P f = true) {args res : List (List D)}
  (hw : @WI P (xn fn.ntmps args) ⟨c⟩ (.fin (E8 P fn res))) : YP P f args res := M4 hf hb uW (kv hw)
def Iq (o : Oper) : Bool := match o.op with | .call ⟨.value _, _, _⟩ => false | _ => true
theorem evI {A : JP} {o : OpI} {l : Js} {d : Nat} (hp : Iq o.o = true) (hg : o.o.guard = none) (hd : o.o.dst = some d) (h : (evS P σ o.o d).1 /\ @EI P (evS P σ o.o d).2 A l k) : @SI P σ A o l k := by
 refine C7 (fun c uA f hc => ?_) hg hd h.1 h.2
 obtain ⟨cc, ca, ct⟩ := c
 simp only at hc; subst hc
 simp [Iq, uA] at hp
theorem wo {A : JP} {o : OpI} {l : Js} {d : Nat} {T : TypeId} {n : Nat} {parts : Array (Nat × Operand)} (uA : o.o.op = .buildSlice T n parts) (hg : o.o.guard = none) (hd : o.o.dst = some d)
  (h1 : σ.fresh d = true /\ Yq P T = true /\ XX P (ZP P T) = true /\ 0 < P.cellsOf (ZP P T) /\ parts.toList.length = n /\ n * P.cellsOf (ZP P T) <= 16777216) (h2 : (Jn P σ (ZP P T) (P.cellsOf (ZP P T)) parts.toList 0).1)
  (h3 : YF d (Jn P σ (ZP P T) (P.cellsOf (ZP P T)) parts.toList 0).2.flatten = false)
  (h : @EI P (σ.new d (.one (.sref d 0 0 (Jn P σ (ZP P T) (P.cellsOf (ZP P T)) parts.toList 0).2.length)) [.lit (P.cellsOf (ZP P T)) (Jn P σ (ZP P T) (P.cellsOf (ZP P T)) parts.toList 0).2]) A l k) : @SI P σ A o l k := Cd uA hg hd h1 h2 h3 h
theorem wk {A : JP} {o : OpI} {l : Js} {d : Nat} {T : TypeId} {n : Nat} {parts : Array (Nat × Operand)} (uA : o.o.op = .buildSlice T n parts) (hg : o.o.guard = none) (hd : o.o.dst = some d)
  (h1 : Yq P T = true /\ XX P (ZP P T) = true /\ 0 < P.cellsOf (ZP P T) /\ parts.toList.length = n /\ n * P.cellsOf (ZP P T) <= 16777216) (h2 : (yx P σ (ZP P T) (P.cellsOf (ZP P T)) parts.toList 0).1)
  (h : @EI P (σ.put d (.one (.d (.sl (P.cellsOf (ZP P T)) (yx P σ (ZP P T) (P.cellsOf (ZP P T)) parts.toList 0).2)))) A l k) : @SI P σ A o l k := Dq uA hg hd h1 h2 h
theorem wy {A : JP} {o : OpI} {l : Js} {d : Nat} {x y : Operand} {t : TypeId} {uC news : List (List D)} {l1 l2 : List (Nat × Nat)} {size : Nat} (uA : o.o.op = .call ⟨.builtin .append, #[x, y], #[t, t]⟩) (hg : o.o.guard = none) (hd : o.o.dst = some d) (uv : A.bar o.o = true)
  (tG : size = P.cellsOf (ZP P t)) (h1 : gOf (look P σ t x) = true /\ gOf (look P σ t y) = true /\ Yq P t = true /\ XX P (ZP P t) = true /\ 0 < P.cellsOf (ZP P t))
  (h2 : (jo σ (unc (look P σ t x)) size).1 /\ (jo σ (unc (look P σ t x)) size).2 = (uC, l1)) (h3 : (js σ (unc (look P σ t y)) size).1 /\ (js σ (unc (look P σ t y)) size).2 = (news, l2))
  (h4 : (l1 ++ l2).Nodup /\ (σ.Zx (l1 ++ l2)).fresh d = true) (h5 : (uC.length + news.length) * P.bytesOf (ZP P t) <= 140737488355328 /\ uC.length + news.length <= 9223372036854775807)
  (h : @EI P ((σ.Zx (l1 ++ l2)).new d (.one (.sref d 0 0 (uC.length + news.length))) [.arr true size (uC ++ news)]) A l k) : @SI P σ A o l k := CR uA hg hd uv tG h1 h2 h3 h4 h5 h
theorem wc {A : JP} {o : OpI} {l : Js} {d : Nat} {x y : Operand} {t : TypeId} {rows : List (List D)} {size u j len lo n : Nat} (uA : o.o.op = .call ⟨.builtin .append, #[x, y], #[t, t]⟩) (hg : o.o.guard = none) (hd : o.o.dst = some d) (uv : A.bar o.o = true)
  (tG : size = P.cellsOf (ZP P t)) (h1 : gOf (look P σ t x) = true /\ gOf (look P σ t y) = true /\ Yq P t = true /\ XX P (ZP P t) = true /\ 0 < P.cellsOf (ZP P t))
  (h2 : unc (look P σ t x) = .one (.sref u j 0 len)) (h3 : unc (look P σ t y) = .one (.sref u j lo n)) (ho : σ.ob u j = .arr true size rows) (hle : len <= lo) (pN : lo + n <= rows.length)
  {news : List (List D)} (tS : cut rows lo n = news) (h4 : (σ.Zs u j .none).fresh d = true) (h5 : (len + n) * P.bytesOf (ZP P t) <= 140737488355328 /\ len + n <= 9223372036854775807)
  (h : @EI P ((σ.Zs u j .none).new d (.one (.sref d 0 0 ((rows.take len).length + news.length))) [.arr true size (rows.take len ++ news)]) A l k) : @SI P σ A o l k := Dr uA hg hd uv tG h1 h2 h3 ho hle pN tS h4 h5 h
theorem C4 {A : JP} {o : OpI} {l : Js} {d : Nat} {x y : Operand} {t : TypeId} {uC rows news : List (List D)} {l1 : List (Nat × Nat)} {size u j lo n : Nat} (uA : o.o.op = .call ⟨.builtin .append, #[x, y], #[t, t]⟩) (hg : o.o.guard = none) (hd : o.o.dst = some d) (uv : A.bar o.o = true)
  (tG : size = P.cellsOf (ZP P t)) (h1 : gOf (look P σ t x) = true /\ gOf (look P σ t y) = true /\ Yq P t = true /\ XX P (ZP P t) = true /\ 0 < P.cellsOf (ZP P t))
  (h2 : GJ σ (unc (look P σ t x)) size uC l1) (h3 : unc (look P σ t y) = .one (.sref u j lo n)) (ho : σ.ob u j = .arr true size rows) (mU : (u, j) ∉ l1) (hle : lo + n <= rows.length) (tS : cut rows lo n = news)
  (h4 : ((σ.Zs u j (.arr true size (QS rows lo n))).Zx l1).fresh d = true) (h5 : (uC.length + n) * P.bytesOf (ZP P t) <= 140737488355328 /\ uC.length + n <= 9223372036854775807)
  (h : @EI P (((σ.Zs u j (.arr true size (QS rows lo n))).Zx l1).new d (.one (.sref d 0 0 (uC.length + news.length))) [.arr true size (uC ++ news)]) A l k) : @SI P σ A o l k := Dp uA hg hd uv tG h1 h2 h3 ho mU hle tS h4 h5 h
theorem C5 {A : JP} {o : OpI} {l : Js} {T : TypeId} {x y : Operand} {t j i c size : Nat} {rows : List (List D)} {ds : List D} {L : List (Nat × Nat)} (uA : o.o.op = .store T x y) (hg : o.o.guard = none) (hd : o.o.dst = none) (uv : A.bar o.o = true)
  (hx : unc (look P σ 0 x) = .one (.ptr t j i c)) (ho : σ.ob t j = .arr true size rows) (hi : i < rows.length) (h1 : yf P T = true /\ gOf (look P σ 0 x) = true /\ gOf (look P σ T y) = true /\ (unc (look P σ T y)).flat = true)
  (h2 : Jl σ (unc (look P σ T y)).cells = some ds) (h3 : QR σ (unc (look P σ T y)).cells) (h4 : XL (unc (look P σ T y)).cells = L) (h5 : L.Nodup /\ (t, j) ∉ L /\ (σ.Zx L).zT (At.isT t) = false) (h6 : ds.length = P.cellsOf T /\ c + P.cellsOf T <= size)
  (h : @EI P ((σ.Zx L).Zs t j (.arr true size (rows.set i (place (rowAt rows i) c ds)))) A l k) : @SI P σ A o l k := CF uA hg hd uv hx ho hi h1 h2 h3 h4 h5 h6 h
theorem wg {A : JP} {o : OpI} {l : Js} {T : TypeId} {x y : Operand} {t j i size : Nat} {rows : List (List D)} {ds : List D} {L : List (Nat × Nat)} (uA : o.o.op = .store T x y) (hg : o.o.guard = none) (hd : o.o.dst = none) (uv : A.bar o.o = true)
  (hx : unc (look P σ 0 x) = .one (.ptr t j i 0)) (ho : σ.ob t j = .arr true size rows) (hi : i < rows.length) (h1 : yf P T = true /\ gOf (look P σ 0 x) = true /\ gOf (look P σ T y) = true /\ (unc (look P σ T y)).flat = true)
  (h2 : Jl σ (unc (look P σ T y)).cells = some ds) (h3 : QR σ (unc (look P σ T y)).cells) (h4 : XL (unc (look P σ T y)).cells = L) (h5 : L.Nodup /\ (t, j) ∉ L /\ (σ.Zx L).zT (At.isT t) = false) (h6 : ds.length = P.cellsOf T /\ P.cellsOf T = size)
  (h : @EI P ((σ.Zx L).Zs t j (.arr true size (rows.set i ds))) A l k) : @SI P σ A o l k := Dh uA hg hd uv hx ho hi h1 h2 h3 h4 h5 h6 h
end
attribute [simp] BN AF El BC Dc Cz BT Be Ab Ac wJ FT E5 AX GN G3 AL FL GA Aj Bj
end Go.Vm
namespace Go.Vm
open Go.RowKit
def Cells (w : World) : CS := fun b _ => b < w.heap.size
def Reads (w : World) (v : Value) (row : List D) : Prop := ∃ cs, Ku v cs /\ Zy (Rd (Cells w) w) cs row
theorem Mk {P : Program} {f : FuncId} {own : Bool} {rows : List (List D)} {uu : List Value} {w : World} (h : QB P f own rows [[.bool true]]) (hv : Zy (Reads w) uu rows) :
  Calls P f uu.toArray w fun e w' => e = .returned (.bool true) /\ Below w.heap.size w w' := by
 refine (h.2 (Cells w) w uu (fun _ _ hb => hb) hv).mono ?_
 rintro e w' ⟨vs, uj, Y, rfl, hb, _, hf, hr, _⟩
 refine ⟨?_, hb⟩
 cases hr with
 | cons h1 hr =>
  cases hr
  cases hf with
  | cons h2 hf =>
   cases hf
   cases h1 with
   | cons h3 h1 =>
    cases h1
    have h4 : ∀ v, yO own (Tof (Cells w) Y) w' v (.bool true) -> Rd (Tof (Cells w) Y) w' v (.bool true) := by
     intro v hv
     unfold yO at hv
     split at hv
     ·exact hv
     ·exact hv
    have h4 := h4 _ h3
    cases h4
    rcases h2 with ⟨v, sY, cu, _⟩ | ⟨hl, _⟩
    ·cases sY; rw [cu]; rfl
    ·simp at hl
end Go.Vm
namespace Go.Vm
open Go.RowKit
def VF (P : Program) : Nat -> TypeId -> Bool
 | 0, _ => false
 | n + 1, t =>
  match P.underlying t with
  | some .bool => true
  | some (.int _) => true
  | some .string => true
  | some (.slice e) => VF P n e
  | some (.struct fs) => fs.toList.all (fun f => VF P n f.type) && P.cellsOf t != 1
  | _ => false
def TyR (P : Program) : Nat -> TypeId -> List D -> Prop
 | 0, _, _ => False
 | n + 1, t, row =>
  match P.underlying t with
  | some .bool => ∃ b, row = [.bool b]
  | some (.int k) => ∃ m, row = [.int k m] /\ k.min <= m /\ m <= k.max
  | some .string => ∃ s, row = [.str s] /\ s.size <= maxLen
  | some (.slice e) => ∃ rows, row = [.sl (P.cellsOf e) rows] /\ rows.length <= maxLen /\ ∀ r ∈ rows, TyR P n e r /\ r.length = P.cellsOf e
  | some (.struct fs) => row.length = P.cellsOf t /\ ∀ f ∈ fs.toList, TyR P n f.type (cut row f.offset (P.cellsOf f.type))
  | _ => False
def Ui (P : Program) : Nat -> List Field -> Nat -> Bool
 | k, [], n => k == n
 | k, f :: fs, n => f.offset == k && Ui P (k + P.cellsOf f.type) fs n
def Lm (P : Program) : Nat -> TypeId -> Bool
 | 0, _ => false
 | n + 1, t =>
  match P.underlying t with
  | some .bool => P.cellsOf t == 1
  | some (.int _) => P.cellsOf t == 1
  | some .string => P.cellsOf t == 1
  | some (.slice e) => P.cellsOf t == 1 && Lm P n e
  | some (.struct fs) => fs.toList.all (fun f => Lm P n f.type) && Ui P 0 fs.toList (P.cellsOf t)
  | _ => false
theorem SO {α β : Type} {f : α -> Option β} : ∀ {l : List α} {m : List β}, l.mapM f = some m -> l.length = m.length /\ ∀ (i : Nat) a, l[i]? = some a -> ∃ b, m[i]? = some b /\ f a = some b
 | [], m, h => by simp at h; subst h; exact ⟨rfl, fun i a ha => by simp at ha⟩
 | x :: l, m, h => by
  simp only [List.mapM_cons, Option.bind_eq_bind, Option.bind_eq_some_iff] at h
  obtain ⟨b, hb, bs, gJ, h⟩ := h
  simp at h; subst h
  obtain ⟨h1, h2⟩ := SO gJ
  refine ⟨by simp [h1], fun i a ha => ?_⟩
  cases i with
  | zero => simp at ha; subst ha; exact ⟨b, by simp, hb⟩
  | succ i => simpa using h2 i a (by simpa using ha)
theorem Ee {w : World} {a : Addr} {n : Nat} {cs : List Value} (h : w.cells? 0 a n = some cs) : cs.length = n /\ ∀ i v, cs[i]? = some v -> w.cell? (a.add i) = some v := by
 unfold World.cells? at h
 simp at h
 obtain ⟨h1, h2⟩ := SO h
 simp at h1
 refine ⟨h1.symm, fun i v hv => ?_⟩
 have hi : i < n := by have := (List.getElem?_eq_some_iff.1 hv).1; omega
 obtain ⟨b, hb, hf⟩ := h2 i i (by simp [hi])
 rw [hv] at hb; cases hb; exact hf
theorem VI {w : World} {P : Program} {q n : Nat} {cs : List Value} (hl : cs.length = n) : ∀ {fs : List Field} {k : Nat}, Ui P k fs n = true -> k <= n ->
  (∀ f ∈ fs, ∃ row, Zy (Rd (Cells w) w) (cut cs f.offset (P.cellsOf f.type)) row /\ TyR P q f.type row) ->
  ∃ tail, Zy (Rd (Cells w) w) (cs.drop k) tail /\ ∀ (pre : List D), pre.length = k -> ∀ f ∈ fs, TyR P q f.type (cut (pre ++ tail) f.offset (P.cellsOf f.type))
 | [], k, hc, hk, _ => by
  simp only [Ui, beq_iff_eq] at hc
  subst hc
  exact ⟨[], by rw [List.drop_eq_nil_of_le (by omega)]; exact .nil, fun _ _ f hf => by cases hf⟩
 | f :: fs, k, hc, hk, h => by
  simp only [Ui, Bool.and_eq_true, beq_iff_eq] at hc
  obtain ⟨row, uF, sT⟩ := h f (by simp)
  rw [hc.1] at uF
  have cv : k + P.cellsOf f.type <= n := by
   clear h uF sT
   have : ∀ (fs : List Field) (k : Nat), Ui P k fs n = true -> k <= n := by
    intro fs
    induction fs with
    | nil => intro k hh; simp [Ui] at hh; omega
    | cons g gs ih => intro k hh; simp only [Ui, Bool.and_eq_true, beq_iff_eq] at hh; have := ih _ hh.2; omega
   exact this _ _ hc.2
  have oY : row.length = P.cellsOf f.type := by rw [<- uF.length]; simp [cut]; omega
  obtain ⟨tail, gi, nP⟩ := VI hl hc.2 cv (fun g hg => h g (by simp [hg]))
  refine ⟨row ++ tail, ?_, ?_⟩
  ·have : cs.drop k = cut cs k (P.cellsOf f.type) ++ cs.drop (k + P.cellsOf f.type) := by
    unfold cut
    rw [<- List.drop_drop]
    exact (List.take_append_drop _ _).symm
   rw [this]
   exact uF.append gi
  ·intro pre sy g hg
   rcases List.mem_cons.1 hg with rfl | hg
   ·have : cut (pre ++ (row ++ tail)) g.offset (P.cellsOf g.type) = row := by
     unfold cut
     rw [hc.1, <- sy, List.drop_left, <- oY, List.take_left]
    rw [this]; exact sT
   ·have := nP (pre ++ row) (by rw [List.length_append, sy, oY]) g hg
    rw [<- List.append_assoc]; exact this
section
variable {H : Type} {enc : TypeId × Value -> H} {P : Program} {w : World} {sp : Nat -> Bool} {held : Bool} {fuel : Nat} {t : TypeId} {cs : List Value} {d : DataW H} {ps : List MemPlace}
theorem trod_bool (hu : P.underlying t = some .bool) (h : DataW.trod enc P w 0 sp held fuel t cs = some (d, ps)) : ∃ b, cs = [.bool b] := by
 cases fuel with
 | zero => simp [DataW.trod] at h
 | succ fuel =>
  unfold DataW.trod at h
  rw [hu] at h
  split at h <;> simp_all
theorem trod_int {k : IntKind} (hu : P.underlying t = some (.int k)) (h : DataW.trod enc P w 0 sp held fuel t cs = some (d, ps)) : ∃ m, cs = [.int k m] /\ k.min <= m /\ m <= k.max := by
 cases fuel with
 | zero => simp [DataW.trod] at h
 | succ fuel =>
  unfold DataW.trod at h
  rw [hu] at h
  split at h <;> simp_all [Lit.wf]
theorem Ca (hu : P.underlying t = some .string) (h : DataW.trod enc P w 0 sp held fuel t cs = some (d, ps)) : ∃ s, cs = [.string s] /\ s.size <= maxLen := by
 cases fuel with
 | zero => simp [DataW.trod] at h
 | succ fuel =>
  unfold DataW.trod at h
  rw [hu] at h
  split at h <;> simp_all
theorem trod_slice {e : TypeId} (hu : P.underlying t = some (.slice e)) (h : DataW.trod enc P w 0 sp held fuel t cs = some (d, ps)) :
  cs = [.slice none 0 0] \/ ∃ a len cap, cs = [.slice (some a) len cap] /\ len <= cap /\ cap <= maxLen /\
   ∀ i, i < len -> ∃ xs f x, w.cells? 0 (a.add (i * P.cellsOf e)) (P.cellsOf e) = some xs /\ DataW.trod enc P w 0 sp held f e xs = some x := by
 cases fuel with
 | zero => simp [DataW.trod] at h
 | succ fuel =>
  unfold DataW.trod at h
  rw [hu] at h
  split at h <;> first | (simp_all; done) | skip
  rename_i e' a len cap heq
  cases heq
  refine .inr ⟨a, len, cap, rfl, ?_⟩
  simp only at h
  split at h
  ·rename_i hc
   refine ⟨hc.2.1, hc.2.2, fun i hi => ?_⟩
   simp only [Option.bind_eq_some_iff] at h
   obtain ⟨elems, cm, _⟩ := h
   obtain ⟨hl, hg⟩ := SO cm
   obtain ⟨x, _, hx⟩ := hg i i (by simp [hi])
   obtain ⟨xs, h1, h2⟩ := Option.bind_eq_some_iff.1 hx
   exact ⟨xs, fuel, x, h1, h2⟩
  ·cases h
theorem trod_struct {fs : Array Field} (hu : P.underlying t = some (.struct fs)) (h : DataW.trod enc P w 0 sp held fuel t cs = some (d, ps)) :
  cs.length = P.cellsOf t /\ ∀ f ∈ fs.toList, ∃ q x, DataW.trod enc P w 0 sp held q f.type (cut cs f.offset (P.cellsOf f.type)) = some x := by
 cases fuel with
 | zero => simp [DataW.trod] at h
 | succ fuel =>
  unfold DataW.trod at h
  rw [hu] at h
  split at h <;> first | (simp_all; done) | skip
  rename_i bk heq
  cases heq
  split at h
  ·rename_i hc
   refine ⟨hc, fun f hf => ?_⟩
   simp only [Option.map_eq_some_iff] at h
   obtain ⟨xs, hx, _⟩ := h
   obtain ⟨_, hg⟩ := SO hx
   obtain ⟨i, hi⟩ := List.mem_iff_getElem?.1 hf
   obtain ⟨x, _, hx⟩ := hg i f hi
   exact ⟨fuel, x, hx⟩
  ·cases h
end
theorem BQ {w : World} {a : Addr} {v : Value} (h : w.cell? a = some v) : a.block < w.heap.size := by
 unfold World.cell? at h
 cases hh : w.heap[a.block]? with
 | none => simp [hh] at h
 | some o => exact (Array.getElem?_eq_some_iff.1 hh).1
theorem DD (a : Addr) (m k : Nat) (h : m <= k) : a.add k = (a.add m).add (k - m) := by
 simp only [Addr.add]
 by_cases h0 : m = 0
 ·subst h0; simp
 ·by_cases h1 : k - m = 0
  ·have : k = m := by omega
   subst this; simp [h0]
  ·have : k ≠ 0 := by omega
   simp only [h0, h1, this, if_false]
   congr 1
   omega
theorem G4 {w : World} {P : Program} {n size : Nat} {e : TypeId} {a : Addr} {len cap : Nat} (ck : len <= cap) (nR : cap <= maxLen)
  (h : ∀ i, i < len -> ∃ xs row, w.cells? 0 (a.add (i * size)) size = some xs /\ Zy (Rd (Cells w) w) xs row /\ TyR P n e row) :
  ∃ rows : List (List D), Rd (Cells w) w (.slice (some a) len cap) (.sl size rows) /\ rows.length <= maxLen /\ ∀ r ∈ rows, TyR P n e r /\ r.length = size := by
 have key : ∀ m, m <= len -> ∃ rows : List (List D), rows.length = m /\ (∀ r ∈ rows, TyR P n e r /\ r.length = size) /\
   ∀ k d, rows.flatten[k]? = some d -> ∃ v, w.cell? (a.add k) = some v /\ Rd (Cells w) w v d := by
  intro m
  induction m with
  | zero => intro _; exact ⟨[], rfl, (by intro r hr; cases hr), (by intro k d hk; simp at hk)⟩
  | succ m ih =>
   intro hm
   obtain ⟨rows, hl, ht, hk⟩ := ih (by omega)
   obtain ⟨xs, row, hx, uF, sT⟩ := h m (by omega)
   obtain ⟨oo, cp⟩ := Ee hx
   have oY : row.length = size := by rw [<- uF.length, oo]
   have tg : rows.flatten.length = m * size := by rw [YA rows size (fun r hr => (ht r hr).2), hl]
   refine ⟨rows ++ [row], by simp [hl], fun r hr => ?_, fun k d hd => ?_⟩
   ·rcases List.mem_append.1 hr with hr | hr
    ·exact ht r hr
    ·simp at hr; subst hr; exact ⟨sT, oY⟩
   ·rw [List.flatten_append, List.flatten_singleton] at hd
    rcases Nat.lt_or_ge k rows.flatten.length with uL | pA
    ·rw [List.getElem?_append_left uL] at hd
     exact hk k d hd
    ·rw [List.getElem?_append_right pA] at hd
     obtain ⟨v, hv, hr⟩ := uF.get' _ d hd
     refine ⟨v, ?_, hr⟩
     have := cp _ v hv
     rw [show a.add k = (a.add (m * size)).add (k - rows.flatten.length) by rw [tg]; rw [tg] at pA; exact DD a (m * size) k pA]
     exact this
 obtain ⟨rows, hl, ht, hk⟩ := key len (Nat.le_refl _)
 refine ⟨rows, ?_, by omega, ht⟩
 have mL : rows.flatten ≠ [] -> a.spot = none := by
  intro uD
  obtain ⟨d, tl, hC⟩ := List.exists_cons_of_ne_nil uD
  obtain ⟨v, hv, _⟩ := hk 0 d (by rw [hC]; rfl)
  have := World.cell?_spot hv
  simpa [Addr.add] using this
 refine .sl a len cap size rows (fun k => (w.cell? (a.add k)).getD undef) hl ck nR (fun r hr => (ht r hr).2) mL (fun k d hd => ?_) (fun k d hd => ?_)
 ·obtain ⟨v, hv, _⟩ := hk k d hd
  have p8 : a.spot = none := mL (by intro hh; rw [hh] at hd; simp at hd)
  have he : a.add k = ⟨a.block, a.off + k, none⟩ := by
   obtain ⟨b, o, sp⟩ := a
   simp only at p8
   subst p8
   simp only [Addr.add]
   split
   ·rename_i h0; subst h0; rfl
   ·rfl
  rw [he] at hv ⊢
  rw [hv]
  exact ⟨rfl, BQ (a := ⟨a.block, a.off + k, none⟩) hv⟩
 ·obtain ⟨v, hv, hr⟩ := hk k d hd
  simp only [hv, Option.getD_some]; exact hr
theorem SG {H : Type} {enc : TypeId × Value -> H} {P : Program} {w : World} {sp : Nat -> Bool} {held : Bool} : ∀ (n : Nat) {fuel : Nat} {t : TypeId} {cs : List Value} {d : DataW H} {ps : List MemPlace}, VF P n t = true -> Lm P n t = true ->
  DataW.trod enc P w 0 sp held fuel t cs = some (d, ps) -> ∃ row, Zy (Rd (Cells w) w) cs row /\ TyR P n t row
 | 0, _, _, _, _, _, h, _, _ => by simp [VF] at h
 | n + 1, fuel, t, cs, d, ps, hp, hl, h => by
  simp only [VF] at hp
  simp only [Lm] at hl
  simp only [TyR]
  cases hu : P.underlying t with
  | none => simp [hu] at hp
  | some td =>
   cases td with
   | bool => obtain ⟨b, rfl⟩ := trod_bool hu h; exact ⟨_, .cons (.bool b) .nil, b, rfl⟩
   | int k => obtain ⟨m, rfl, h1, h2⟩ := trod_int hu h; exact ⟨_, .cons (.int k m) .nil, m, rfl, h1, h2⟩
   | string => obtain ⟨s, rfl, h1⟩ := Ca hu h; exact ⟨_, .cons (.str s) .nil, s, rfl, h1⟩
   | slice e =>
    simp only [hu] at hp hl
    simp only [Bool.and_eq_true] at hl
    rcases trod_slice hu h with rfl | ⟨a, len, cap, rfl, h1, h2, h3⟩
    ·exact ⟨_, .cons (.nil (P.cellsOf e)) .nil, [], rfl, by simp, by simp⟩
    ·obtain ⟨rows, hr, oY, cq⟩ := G4 (P := P) (n := n) (size := P.cellsOf e) (e := e) h1 h2 (fun i hi => by
      obtain ⟨xs, f, x, hx, ht⟩ := h3 i hi
      obtain ⟨row, uF, sT⟩ := SG n hp hl.2 (d := x.1) (ps := x.2) ht
      exact ⟨xs, row, hx, uF, sT⟩)
     exact ⟨_, .cons hr .nil, rows, rfl, oY, cq⟩
   | struct fs =>
    simp only [hu] at hp hl
    simp only [Bool.and_eq_true] at hp hl
    obtain ⟨h1, h2⟩ := trod_struct hu h
    obtain ⟨row, uF, nP⟩ := VI (w := w) (P := P) (q := n) h1 hl.2 (Nat.zero_le _) (fun f hf => by
     obtain ⟨q, x, hx⟩ := h2 f hf
     exact SG n (List.all_eq_true.1 hp.1 f hf) (List.all_eq_true.1 hl.1 f hf) (d := x.1) (ps := x.2) hx)
    refine ⟨row, by simpa using uF, ?_, fun f hf => by simpa using nP [] rfl f hf⟩
    have := uF.length
    simp at this
    omega
   | _ => simp [hu] at hp
end Go.Vm
namespace Go.Vm
open Go.RowKit Go.WideShapes Go.ChangeAt Go.ChangeShapes
theorem LC {H : Type} {enc : TypeId × Value -> H} {P : Program} {w : World} {sp : Nat -> Bool} {held : Bool} {n base : Nat} {t : TypeId} {v : Value} {d : DataW H} {ps : List MemPlace} {r : Reach}
  (hp : VF P n t = true) (hl : Lm P n t = true) (uW : Value.okWide P w r base t v) (h : DataW.Trod enc P w 0 sp held t v d ps) : ∃ row, Reads w v row /\ TyR P n t row := by
 obtain ⟨fuel, hf⟩ := h
 obtain ⟨row, uF, sT⟩ := SG n hp hl hf
 refine ⟨row, ⟨v.cells.toList, ?_, uF⟩, sT⟩
 cases n with
 | zero => simp [VF] at hp
 | succ n =>
  simp only [VF] at hp
  cases hu : P.underlying t with
  | none => simp [hu] at hp
  | some td =>
   cases td with
   | bool => obtain ⟨b, rfl⟩ := okWide_bool hu uW; exact .inl ⟨_, rfl, rfl, rfl⟩
   | int k => obtain ⟨b, rfl⟩ := okWide_int hu uW; exact .inl ⟨_, rfl, rfl, rfl⟩
   | string => obtain ⟨b, rfl⟩ := okWide_string hu uW; exact .inl ⟨_, rfl, rfl, rfl⟩
   | slice e => obtain ⟨a, l, c, rfl⟩ := okWide_slice hu uW; exact .inl ⟨_, rfl, rfl, rfl⟩
   | struct fs =>
    obtain ⟨cs, rfl, tG⟩ := okWide_struct hu uW
    simp [hu] at hp
    exact .inr ⟨by simp [Value.cells, tG, hp.2], by simp [Value.cells]⟩
   | _ => simp [hu] at hp
def L5 (P : Program) (n : Nat) : List TypeId -> List (List D) -> Prop
 | [], [] => True
 | t :: ts, r :: rs => TyR P n t r /\ L5 P n ts rs
 | _, _ => False
def jz (P : Program) (n : Nat) (ts : List TypeId) : Bool := ts.all fun t => VF P n t && Lm P n t && P.readableRec t && decide (t < P.types.size)
theorem L2 {H : Type} {enc : TypeId × Value -> H} {P : Program} {w : World} {sp : Nat -> Bool} {held : Bool} {n base : Nat} {r : Reach} : ∀ {ts : List TypeId} {vs : List Value} {ds : List (DataW H)} {ps : List MemPlace}, jz P n ts = true ->
  (∀ (j : Nat) t v, ts[j]? = some t -> vs[j]? = some v -> Value.okWide P w r base t v) -> DataW.TrodAll enc P w 0 sp held ts vs ds ps -> ∃ rows, Zy (Reads w) vs rows /\ L5 P n ts rows
 | [], [], [], _, _, _, _ => ⟨[], .nil, trivial⟩
 | t :: ts, v :: vs, d :: ds, _, hp, uW, h => by
  obtain ⟨p, q, h1, h2, _⟩ := h
  simp only [jz, List.all_cons, Bool.and_eq_true] at hp
  obtain ⟨row, hr, ht⟩ := LC hp.1.1.1.1 hp.1.1.1.2 (uW 0 t v rfl rfl) h1
  obtain ⟨rows, sc, cr⟩ := L2 (by simpa [jz] using hp.2) (fun j t v ht hv => uW (j + 1) t v ht hv) h2
  exact ⟨row :: rows, .cons hr sc, ht, cr⟩
 | [], [], _ :: _, _, _, _, h => h.elim
 | [], _ :: _, _, _, _, _, h => by cases ‹List (DataW H)› <;> exact h.elim
 | _ :: _, [], _, _, _, _, h => by cases ‹List (DataW H)› <;> exact h.elim
 | _ :: _, _ :: _, [], _, _, _, h => h.elim
theorem TN {H : Type} {enc : TypeId × Value -> H} {P : Program} {n : Nat} (rF : laidOutB P = true) {W W' : World} (hb : Below W.heap.size W W') : ∀ {ts : List TypeId} {vs : List Value} {ds : List (DataW H)} {ps : List MemPlace}, jz P n ts = true ->
  DataW.TrodAll enc P W 0 (fun _ => true) true ts vs ds ps -> DataW.TrodAll enc P W' 0 (fun b => decide (b < W.heap.size)) true ts vs ds ps
 | [], [], [], _, _, h => h
 | t :: ts, v :: vs, d :: ds, _, hp, h => by
  obtain ⟨p, q, h1, h2, rfl⟩ := h
  simp only [jz, List.all_cons, Bool.and_eq_true, decide_eq_true_eq] at hp
  have cw : ∀ x ∈ p, x.block < W.heap.size := by obtain ⟨m, hm⟩ := h1; exact DataW.trod_lt m _ _ _ hm
  exact ⟨p, q, Below.trod rF hp.1.1.2 hp.1.2 h1 hb cw, TN rF hb (by simpa [jz] using hp.2) h2, rfl⟩
 | [], [], _ :: _, _, _, h => h.elim
 | [], _ :: _, _, _, _, h => by cases ‹List (DataW H)› <;> exact h.elim
 | _ :: _, [], _, _, _, h => by cases ‹List (DataW H)› <;> exact h.elim
 | _ :: _, _ :: _, [], _, _, h => h.elim
end Go.Vm
