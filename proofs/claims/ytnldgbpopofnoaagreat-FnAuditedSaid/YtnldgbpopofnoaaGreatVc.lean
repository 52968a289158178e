/- An abstract machine OB the model of Go, by value, and that it is sound: part Vc. No condition. -/
import Derived.Test.YtnldgbpopofnoaaGreatVf
import Derived.ProofKit
import Derived.OpenShut
import Derived.Below
import Derived.ChangeOld
import Derived.DataReads
import Derived.Carry
set_option linter.unusedVariables false
set_option linter.unusedSimpArgs false
namespace Go.Vm
open Go.RowKit
abbrev Ren := List ((Nat × Nat) × Option (Nat × Nat))
def Ki : Ren -> Nat -> Nat -> Option (Nat × Nat)
 | [], t, j => some (t, j)
 | (n, o) :: ρ, t, j => if t = n.1 /\ j = n.2 then o else Ki ρ t j
def inF : List (Nat × Nat) -> Nat -> Nat -> Bool
 | [], _, _ => false
 | n :: F, t, j => (t == n.1 && j == n.2) || inF F t j
def L4 (σ : St) (ρ : Ren) (F : List (Nat × Nat)) : At -> At -> Prop
 | _, .any => True
 | .d x, .d y => x = y
 | .nil _, .nil _ => True
 | .nil s, .d y => y = .sl s []
 | .nil _, .sref t j lo len => Ki ρ t j = none /\ lo = 0 /\ len = 0
 | .sref t j lo len, .sref t' j' pM tH => Ki ρ t' j' = some (t, j) /\ lo = pM /\ len = tH
 | .sref t j lo len, .d y => inF F t j = true /\ (match σ.ob t j with | .arr _ s rows => y = .sl s (cut rows lo len) | _ => False)
 | .tref t j i c o, .tref t' j' i' c' o' => Ki ρ t' j' = some (t, j) /\ i = i' /\ c = c' /\ o = o' /\ (match σ.ob t j with | .arr true _ _ => True | _ => False)
 | .ptr t j i c, .ptr t' j' i' c' => Ki ρ t' j' = some (t, j) /\ i = i' /\ c = c'
 | .bptr t c, .bptr t' c' => Ki ρ t' 0 = some (t, 0) /\ c = c'
 | .fn f t, .fn f' t' => Ki ρ t' 0 = some (t, 0) /\ f = f'
 | .rptr r c, .rptr r' c' => r = r' /\ c = c'
 | _, _ => False
def PJ (σ : St) (ρ : Ren) (F : List (Nat × Nat)) : List At -> List At -> Prop
 | [], [] => True
 | x :: xs, y :: ys => L4 σ ρ F x y /\ PJ σ ρ F xs ys
 | _, _ => False
def wkV (σ : St) (ρ : Ren) (F : List (Nat × Nat)) : V -> V -> Prop
 | _, .any => True
 | .one x, .one y => L4 σ ρ F x y
 | .agg xs, .agg ys => PJ σ ρ F xs ys
 | .fix u (.one x), .fix u' (.one y) => u = u' /\ L4 σ ρ F x y
 | .fix u (.agg xs), .fix u' (.agg ys) => u = u' /\ PJ σ ρ F xs ys
 | .fix _ (.one x), .one y => L4 σ ρ F x y
 | .fix _ (.agg xs), .agg ys => PJ σ ρ F xs ys
 | _, _ => False
def L9 (σ : St) (ρ : Ren) (F : List (Nat × Nat)) (t' j' : Nat) : Ob -> Prop
 | .none => True
 | .arr q size rows => (match Ki ρ t' j' with
  | none => rows = []
  | some (t, j) => inF F t j = false /\ (match σ.ob t j with | .arr p s r => (p = q \/ p = false /\ ∀ x ∈ rows, ∀ y ∈ x, y.scalar = true) /\ s = size /\ r = rows | _ => False))
 | .lit _ _ => False
 | .box cells => (match Ki ρ t' j' with
  | none => False
  | some (t, j) => inF F t j = false /\ (match σ.ob t j with | .box cs => PJ σ ρ F cs cells | _ => False))
def G8 (σ : St) (ρ : Ren) (F : List (Nat × Nat)) (t : Nat) : List Ob -> Nat -> Prop
 | [], _ => True
 | o :: os, j => L9 σ ρ F t j o /\ G8 σ ρ F t os (j + 1)
def V6 (σ : St) (ρ : Ren) (F : List (Nat × Nat)) : List Ent -> List Ent -> Nat -> Prop
 | [], [], _ => True
 | e :: es, e' :: pL, t => (wkV σ ρ F e.1 e'.1 /\ G8 σ ρ F t e'.2 0) /\ V6 σ ρ F es pL (t + 1)
 | _, _, _ => False
def JX : Ren -> Nat -> Nat -> Bool
 | [], _, _ => false
 | (n, _) :: ρ, t, j => (t == n.1 && j == n.2) || JX ρ t j
def qS : Ren -> Nat -> Nat -> Bool
 | [], _, _ => false
 | (_, some o) :: ρ, t, j => (t == o.1 && j == o.2) || qS ρ t j
 | (_, none) :: ρ, t, j => qS ρ t j
def Ge (σ' : St) (t j : Nat) : Bool := match σ'.ob t j with | .none => true | _ => false
def jV (σ' : St) (all : Ren) : Ren -> Bool
 | [] => true
 | (_, some o) :: ρ => !qS ρ o.1 o.2 && (JX all o.1 o.2 || Ge σ' o.1 o.2) && jV σ' all ρ
 | (_, none) :: ρ => jV σ' all ρ
theorem qz : ∀ {ρ : Ren} {t j : Nat}, JX ρ t j = false -> Ki ρ t j = some (t, j)
 | [], _, _, _ => rfl
 | (n, o) :: ρ, t, j, h => by
  simp only [JX, Bool.or_eq_false_iff, Bool.and_eq_false_iff, beq_eq_false_iff_ne] at h
  simp only [Ki]
  rw [if_neg (by rintro ⟨h1, h2⟩; rcases h.1 with h3 | h3 <;> contradiction)]
  exact qz h.2
theorem Wg : ∀ {ρ : Ren} {t j : Nat} {o : Nat × Nat}, JX ρ t j = true -> Ki ρ t j = some o -> qS ρ o.1 o.2 = true
 | [], _, _, _, h, _ => by simp [JX] at h
 | (n, o') :: ρ, t, j, o, h, ho => by
  simp only [Ki] at ho
  split at ho
  ·subst ho; simp [qS]
  ·rename_i wE
   have h' : JX ρ t j = true := by
    simp only [JX, Bool.or_eq_true, Bool.and_eq_true, beq_iff_eq] at h
    rcases h with h | h
    ·exact absurd h wE
    ·exact h
   have := Wg h' ho
   cases o' with
   | none => simpa [qS] using this
   | some o' => simp [qS, this]
theorem LW {σ' : St} {all : Ren} : ∀ {ρ : Ren} {t j t' j' : Nat} {o : Nat × Nat}, jV σ' all ρ = true -> JX ρ t j = true -> JX ρ t' j' = true -> Ki ρ t j = some o -> Ki ρ t' j' = some o -> (t, j) = (t', j')
 | [], _, _, _, _, _, _, h, _, _, _ => by simp [JX] at h
 | (n, o') :: ρ, t, j, t', j', o, we, hn, wz, ho, wY => by
  have lh : jV σ' all ρ = true := by
   cases o' with
   | none => simpa [jV] using we
   | some o' => simp only [jV, Bool.and_eq_true] at we; exact we.2
  simp only [Ki] at ho wY
  by_cases h1 : t = n.1 /\ j = n.2
  ·rw [if_pos h1] at ho
   by_cases h2 : t' = n.1 /\ j' = n.2
   ·rw [h1.1, h1.2, h2.1, h2.2]
   ·rw [if_neg h2] at wY
    have h' : JX ρ t' j' = true := by
     simp only [JX, Bool.or_eq_true, Bool.and_eq_true, beq_iff_eq] at wz
     exact wz.resolve_left h2
    have hold := Wg h' wY
    subst ho
    simp only [jV, Bool.and_eq_true, Bool.not_eq_true'] at we
    rw [hold] at we; cases we.1.1
  ·rw [if_neg h1] at ho
   have h : JX ρ t j = true := by
    simp only [JX, Bool.or_eq_true, Bool.and_eq_true, beq_iff_eq] at hn
    exact hn.resolve_left h1
   by_cases h2 : t' = n.1 /\ j' = n.2
   ·rw [if_pos h2] at wY
    have hold := Wg h ho
    subst wY
    simp only [jV, Bool.and_eq_true, Bool.not_eq_true'] at we
    rw [hold] at we; cases we.1.1
   ·rw [if_neg h2] at wY
    have h' : JX ρ t' j' = true := by
     simp only [JX, Bool.or_eq_true, Bool.and_eq_true, beq_iff_eq] at wz
     exact wz.resolve_left h2
    exact LW lh h h' ho wY
theorem VA {σ' : St} {all : Ren} : ∀ {ρ : Ren} {t j : Nat}, jV σ' all ρ = true -> qS ρ t j = true -> JX all t j = true \/ σ'.ob t j = .none
 | [], _, _, _, h => by simp [qS] at h
 | (n, o') :: ρ, t, j, we, h => by
  cases o' with
  | none => exact VA (ρ := ρ) (by simpa [jV] using we) (by simpa [qS] using h)
  | some o =>
   simp only [jV, Bool.and_eq_true, Bool.or_eq_true] at we
   simp only [qS, Bool.or_eq_true, Bool.and_eq_true, beq_iff_eq] at h
   rcases h with ⟨rfl, rfl⟩ | h
   ·refine we.1.2.imp id fun hf => ?_
    unfold Ge at hf; split at hf <;> first | assumption | cases hf
   ·exact VA we.2 h
theorem Dl {σ' : St} {ρ : Ren} (we : jV σ' ρ ρ = true) {t j t' j' : Nat} {o : Nat × Nat} (h1 : σ'.ob t j ≠ .none) (h2 : σ'.ob t' j' ≠ .none) (ho : Ki ρ t j = some o) (wY : Ki ρ t' j' = some o) : t = t' /\ j = j' := by
 cases hn : JX ρ t j with
 | true =>
  cases wz : JX ρ t' j' with
  | true => have := LW we hn wz ho wY; cases this; exact ⟨rfl, rfl⟩
  | false =>
   have lj := qz wz
   rw [lj] at wY; cases wY
   have hold := Wg hn ho
   rcases VA we hold with h | h
   ·rw [wz] at h; cases h
   ·exact absurd h h2
 | false =>
  have lj := qz hn
  rw [lj] at ho; cases ho
  cases wz : JX ρ t' j' with
  | true =>
   have hold := Wg wz wY
   rcases VA we hold with h | h
   ·rw [hn] at h; cases h
   ·exact absurd h h1
  | false =>
   have lk := qz wz
   rw [lk] at wY; cases wY; exact ⟨rfl, rfl⟩
theorem TS {σ : St} {ρ : Ren} {F : List (Nat × Nat)} : ∀ {es pL : List Ent} {t : Nat}, V6 σ ρ F es pL t -> es.length = pL.length
 | [], [], _, _ => rfl
 | _ :: _, _ :: _, _, h => by simp [TS h.2]
 | [], _ :: _, _, h => h.elim
 | _ :: _, [], _, h => h.elim
theorem Of {σ : St} {ρ : Ren} {F : List (Nat × Nat)} : ∀ {es pL : List Ent} {t : Nat}, V6 σ ρ F es pL t -> ∀ (i : Nat), wkV σ ρ F (St.get es i) (St.get pL i) /\ ∀ j, L9 σ ρ F (t + i) j (St.ob pL i j)
 | [], [], t, _, i => ⟨by simp [St.get, wkV], fun j => by simp [St.ob, L9]⟩
 | e :: es, e' :: pL, t, h, 0 => by
  refine ⟨h.1.1, fun j => ?_⟩
  have : ∀ (os : List Ob) (k : Nat), G8 σ ρ F t os k -> ∀ j, L9 σ ρ F t (k + j) (YO os j) := by
   intro os
   induction os with
   | nil => intro k _ j; simp [YO, L9]
   | cons o os ih =>
    intro k hk j
    cases j with
    | zero => exact hk.1
    | succ j => have := ih (k + 1) hk.2 j; rw [show k + (j + 1) = k + 1 + j by omega]; simpa [YO] using this
  have := this e'.2 0 h.1.2 j
  simpa using this
 | e :: es, e' :: pL, t, h, i + 1 => by
  have := Of h.2 i
  rw [show t + (i + 1) = t + 1 + i by omega]
  simpa [St.get, St.ob] using this
 | [], _ :: _, _, h, _ => h.elim
 | _ :: _, [], _, h, _ => h.elim
theorem Ef {T : CS} {w : World} {xs : List Value} {ds : List D} {S : Nat -> Prop} (wG : Z2 (Rd T w) xs ds) (hf : ∀ d ∈ ds, d.scalar = true) : Qt w xs ds S :=
 ⟨wG.length, fun _ _ => False, fun k x d hx hd => by
  obtain ⟨d', wR, hr⟩ := wG.get k x hx
  rw [hd] at wR; cases wR
  exact Rd.own (hf d (List.mem_of_getElem? hd)) hr, fun _ _ hb => hb.elim, fun _ _ _ hb => hb.elim⟩
theorem Y5 {σ σ' : St} (ρ : Ren) (F : List (Nat × Nat)) (we : jV σ' ρ ρ = true) (hs : V6 σ ρ F σ σ' 0) : Wk σ σ' := by
 rintro T0 B a w ⟨X, h, r⟩
 let h' : Nat -> Nat -> Hd := fun t j => match Ki ρ t j with | some o => h o.1 o.2 | none => Hd.of (.slice none 0 0)
 let X' : Nat -> Prop := fun b => X b \/ ∃ t j, inF F t j = true /\ σ.ob t j ≠ .none /\ (h t j).u b
 have hlen := TS hs
 have vK := Of hs
 have wV : ∀ t j, L9 σ ρ F t j (σ'.ob t j) := fun t j => by have := (vK t).2 j; simpa using this
 have rR : ∀ b k v, Tof T0 X b k -> w.cell? ⟨b, k, none⟩ = some v -> w.cell? ⟨b, k, none⟩ = some v /\ Tof T0 X' b k := fun b k v hb hc => ⟨hc, hb.imp id .inl⟩
 have tv : ∀ t' j' q size rows, σ'.ob t' j' = .arr q size rows -> (Ki ρ t' j' = none /\ rows = []) \/ ∃ t j p, Ki ρ t' j' = some (t, j) /\ inF F t j = false /\ σ.ob t j = .arr p size rows /\ (p = q \/ p = false /\ ∀ x ∈ rows, ∀ y ∈ x, y.scalar = true) := by
  intro t' j' q size rows ho
  have := wV t' j'
  rw [ho] at this
  simp only [L9] at this
  split at this
  ·rename_i hn; exact .inl ⟨hn, this⟩
  ·rename_i t j hn
   obtain ⟨hF, this⟩ := this
   split at this
   ·rename_i p s r vC; obtain ⟨hp, rfl, rfl⟩ := this; exact .inr ⟨t, j, p, hn, hF, vC, hp⟩
   ·exact this.elim
 have ss : ∀ t' j' size rows, σ'.ob t' j' ≠ .lit size rows := by
  intro t' j' size rows ho
  have := wV t' j'
  rw [ho] at this; exact this
 have su : ∀ t' j' cells, σ'.ob t' j' = .box cells -> ∃ t j cs, Ki ρ t' j' = some (t, j) /\ inF F t j = false /\ σ.ob t j = .box cs /\ PJ σ ρ F cs cells := by
  intro t' j' cells ho
  have := wV t' j'
  rw [ho] at this
  simp only [L9] at this
  split at this
  ·exact this.elim
  ·rename_i t j hn
   obtain ⟨hF, this⟩ := this
   split at this
   ·rename_i cs vC; exact ⟨t, j, cs, hn, hF, vC, this⟩
   ·exact this.elim
 have at_ : ∀ {x y : At} {v : Value}, L4 σ ρ F x y -> Z7 (Tof T0 X) h σ.ob w x v -> Z7 (Tof T0 X') h' σ'.ob w y v := by
  intro x y v hw hr
  have h1 := Z7.Xa hr
  cases y with
  | any => exact h1
  | d y =>
   cases x with
   | d x => simp only [L4] at hw; subst hw; exact Rd.mono rR hr
   | nil s => simp only [L4] at hw; subst hw; cases hr; exact .nil _
   | sref t j lo len =>
    simp only [L4] at hw
    obtain ⟨hF, hw⟩ := hw
    split at hw
    ·rename_i q s rows ho
     subst hw
     exact r.FC ho hr _ (fun b k hb => hb.imp id .inl) (fun b k hb => .inr (.inr ⟨t, j, hF, by rw [ho]; simp, hb⟩))
    ·exact hw.elim
   | _ => exact hw.elim
  | nil s =>
   cases x with
   | nil s' => exact hr
   | _ => exact hw.elim
  | sref t' j' pM tH =>
   cases x with
   | nil s =>
    obtain ⟨hn, rfl, rfl⟩ := hw
    cases hr
    refine ⟨rfl, fun q size rows ho => ?_, fun size rows ho => absurd ho (ss _ _ _ _)⟩
    simp only [h', hn]
    exact ⟨by omega, fun _ _ => rfl, fun _ => rfl, none, 0, rfl, by omega, by simp [maxLen], fun _ => rfl, fun hh => absurd hh (by omega)⟩
   | sref t j lo len =>
    obtain ⟨hn, rfl, rfl⟩ := hw
    refine ⟨h1, fun q size rows ho => ?_, fun size rows ho => absurd ho (ss _ _ _ _)⟩
    rcases tv t' j' q size rows ho with ⟨wz, _⟩ | ⟨t2, j2, p, wz, _, vC, _⟩
    ·rw [hn] at wz; cases wz
    ·rw [hn] at wz; cases wz
     simp only [h', hn]
     exact hr.2.1 p size rows vC
   | _ => exact hw.elim
  | ptr t' j' i' c' =>
   cases x with
   | ptr t j i c =>
    obtain ⟨hn, rfl, rfl⟩ := hw
    refine ⟨h1, fun q size rows ho => ?_⟩
    rcases tv t' j' q size rows ho with ⟨wz, _⟩ | ⟨t2, j2, p, wz, _, vC, _⟩
    ·rw [hn] at wz; cases wz
    ·rw [hn] at wz; cases wz
     simp only [h', hn]
     exact hr.2 p size rows vC
   | _ => exact hw.elim
  | tref t' j' i' c' o' =>
   cases x with
   | tref t j i c o =>
    obtain ⟨hn, rfl, rfl, rfl, hq⟩ := hw
    refine ⟨h1, fun size rows ho => ?_⟩
    rcases tv t' j' true size rows ho with ⟨wz, _⟩ | ⟨t2, j2, p, wz, _, vC, hp⟩
    ·rw [hn] at wz; cases wz
    ·rw [hn] at wz; cases wz
     simp only [h', hn]
     rcases hp with rfl | ⟨rfl, ve⟩
     ·exact hr.2 size rows vC
     ·rw [vC] at hq; exact hq.elim
   | _ => exact hw.elim
  | bptr t' c' =>
   cases x with
   | bptr t c =>
    obtain ⟨hn, rfl⟩ := hw
    refine ⟨h1, fun cells ho => ?_⟩
    obtain ⟨t2, j2, cs, wz, _, vC, _⟩ := su t' 0 cells ho
    rw [hn] at wz; cases wz
    simp only [h', hn]
    exact hr.2 cs vC
   | _ => exact hw.elim
  | fn f' t' =>
   cases x with
   | fn f t =>
    obtain ⟨hn, rfl⟩ := hw
    refine ⟨h1, fun cells ho => ?_⟩
    obtain ⟨t2, j2, cs, wz, _, vC, _⟩ := su t' 0 cells ho
    rw [hn] at wz; cases wz
    simp only [h', hn]
    exact hr.2 cs vC
   | _ => exact hw.elim
  | rptr r' c' =>
   cases x with
   | rptr r0 c =>
    obtain ⟨rfl, rfl⟩ := hw
    obtain ⟨b, off, g, e, hk⟩ := hr
    exact ⟨b, off, g, e, fun k d hd => ⟨(hk k d hd).1, (hk k d hd).2.1.imp id .inl, Rd.mono rR (hk k d hd).2.2⟩⟩
   | _ => exact hw.elim
 have pU : ∀ {xs ys : List At} {vs : List Value}, PJ σ ρ F xs ys -> Z2 (Z7 (Tof T0 X) h σ.ob w) xs vs -> Z2 (Z7 (Tof T0 X') h' σ'.ob w) ys vs := by
  intro xs
  induction xs with
  | nil => intro ys vs hw hr; cases ys with
   | nil => cases hr; exact .nil
   | cons y ys => exact hw.elim
  | cons x xs ih => intro ys vs hw hr; cases ys with
   | nil => exact hw.elim
   | cons y ys => cases hr with
    | cons h1 hr => exact .cons (at_ hw.1 h1) (ih hw.2 hr)
 have v_ : ∀ {x y : V} {v : Value}, wkV σ ρ F x y -> Xs (Tof T0 X) h σ.ob w x v -> Xs (Tof T0 X') h' σ'.ob w y v := by
  intro x y v hw hr
  cases y with
  | any => trivial
  | one y => cases x with
   | one x => exact at_ hw hr
   | fix u x => cases x with
    | one x => exact at_ hw hr.2
    | _ => exact hw.elim
   | _ => exact hw.elim
  | agg ys => cases x with
   | agg xs => obtain ⟨cs, e, hr⟩ := hr; exact ⟨cs, e, pU hw hr⟩
   | fix u x => cases x with
    | agg xs => obtain ⟨cs, e, hr⟩ := hr.2; exact ⟨cs, e, pU hw hr⟩
    | _ => exact hw.elim
   | _ => exact hw.elim
  | tup ys => cases x with
   | fix u x => cases x <;> exact hw.elim
   | _ => exact hw.elim
  | cnd g y => cases x with
   | fix u x => cases x <;> exact hw.elim
   | _ => exact hw.elim
  | fix u' y => cases x with
   | fix u x => cases x with
    | one x => cases y with
     | one y => obtain ⟨rfl, hw⟩ := hw; exact ⟨hr.1, at_ hw hr.2⟩
     | _ => exact hw.elim
    | agg xs => cases y with
     | agg ys => obtain ⟨rfl, hw⟩ := hw; obtain ⟨e1, cs, e, hr⟩ := hr; exact ⟨e1, cs, e, pU hw hr⟩
     | _ => exact hw.elim
    | _ => cases y <;> exact hw.elim
   | _ => cases y <;> exact hw.elim
 have wE : ∀ t j, σ'.ob t j ≠ .none -> (Ki ρ t j = none /\ ∀ b, ¬ (h' t j).u b) \/ ∃ o, Ki ρ t j = some o /\ σ.ob o.1 o.2 ≠ .none /\ inF F o.1 o.2 = false /\ h' t j = h o.1 o.2 := by
  intro t j hn
  cases ho : σ'.ob t j with
  | none => exact absurd ho hn
  | arr q size rows =>
   rcases tv t j q size rows ho with ⟨wz, _⟩ | ⟨t2, j2, p, wz, hF, vC, _⟩
   ·exact .inl ⟨wz, fun b hb => by simp only [h', wz, Hd.of, blk] at hb; cases hb⟩
   ·exact .inr ⟨(t2, j2), wz, by rw [vC]; simp, hF, by simp only [h', wz]⟩
  | lit size rows => exact absurd ho (ss _ _ _ _)
  | box cells =>
   obtain ⟨t2, j2, cs, wz, hF, vC, _⟩ := su t j cells ho
   exact .inr ⟨(t2, j2), wz, by rw [vC]; simp, hF, by simp only [h', wz]⟩
 refine ⟨X', h', by rw [r.size, hlen], r.defers, r.hB, fun b hb => ?_, r.hT, fun t ht => ?_, fun t j => ?_, fun t j b hn hb => ?_, fun t j b hn hb => ?_, fun t j t' j' b hn wz hb wU => ?_⟩
 ·rcases hb with hb | ⟨t, j, _, hn, hb⟩
  ·exact r.hX b hb
  ·have := r.own t j b hn hb; exact ⟨this.1, this.2.2⟩
 ·exact v_ (vK t).1 (r.slot t (by rw [hlen]; exact ht))
 ·cases ho : σ'.ob t j with
  | none => trivial
  | lit size rows => exact absurd ho (ss _ _ _ _)
  | arr q size rows =>
   rcases tv t j q size rows ho with ⟨hn, rfl⟩ | ⟨u, k, p, hn, _, vC, hp⟩
   ·have : h' t j = Hd.of (.slice none 0 0) := by simp only [h', hn]
    rw [this]
    cases q with
    | false => exact ⟨0, [], World.ownsRow_nil w 0 0 size, (by intro q hq; cases hq), .nil⟩
    | true => exact ⟨0, [], World.ownsRow_nil w 0 0 size, (by intro q hq; cases hq), Qt.nil _, fun k x d hx => by simp at hx⟩
   ·have he : h' t j = h u k := by simp only [h', hn]
    rw [he]
    have h0 := r.obj u k
    rw [vC] at h0
    cases p with
    | false =>
     obtain ⟨e, xs, wJ, hz, wG⟩ := h0
     cases q with
     | false => exact ⟨e, xs, wJ, hz, wG.imp fun _ _ => Rd.mono rR⟩
     | true =>
      rcases hp with hp | ⟨_, ve⟩
      ·cases hp
      ·have ri : ∀ d ∈ rows.flatten, d.scalar = true := fun d hd => by
        obtain ⟨r0, tG, hdr⟩ := List.mem_flatten.1 hd
        exact ve r0 tG d hdr
       exact ⟨e, xs, wJ, hz, Ef wG ri, fun k x d _ hd hs => by rw [ri d (List.mem_of_getElem? hd)] at hs; cases hs⟩
    | true =>
     rcases hp with rfl | ⟨hp, _⟩
     ·exact h0
     ·cases hp
  | box cells =>
   obtain ⟨u, k, cs, hn, _, vC, uI⟩ := su t j cells ho
   have h0 := r.obj u k
   rw [vC] at h0
   obtain ⟨b, vs, e, hv, hh, wG⟩ := h0
   have he : h' t j = h u k := by simp only [h', hn]
   rw [he]
   exact ⟨b, vs, e, hv, hh, pU uI wG⟩
 ·rcases wE t j hn with ⟨hr, _⟩ | ⟨o, hr, sW, hF, he⟩
  ·simp only [h', hr, Hd.of, blk] at hb; cases hb
  ·rw [he] at hb ⊢; exact r.ub o.1 o.2 b sW hb
 ·rcases wE t j hn with ⟨_, sW⟩ | ⟨o, hr, sW, hF, he⟩
  ·exact absurd hb (sW b)
  ·rw [he] at hb
   have h0 := r.own o.1 o.2 b sW hb
   refine ⟨h0.1, ?_, h0.2.2⟩
   rintro (hx | ⟨t2, j2, ir, mu, wm⟩)
   ·exact h0.2.1 hx
   ·obtain ⟨h3, h4⟩ := r.inj o.1 o.2 t2 j2 b sW mu hb wm
    rw [h3, h4] at hF; rw [hF] at ir; cases ir
 ·rcases wE t j hn with ⟨_, sW⟩ | ⟨o, hr, sW, _, he⟩
  ·exact absurd hb (sW b)
  ·rcases wE t' j' wz with ⟨_, oS⟩ | ⟨o', vS, oS, _, nK⟩
   ·exact absurd wU (oS b)
   ·rw [he] at hb
    rw [nK] at wU
    obtain ⟨h3, h4⟩ := r.inj o.1 o.2 o'.1 o'.2 b sW oS hb wU
    have : o = o' := Prod.ext h3 h4
    subst this
    exact Dl we hn wz hr vS
theorem Qx {σ σ' : St} (hs : V6 σ [] [] σ σ' 0) : Wk σ σ' := Y5 [] [] rfl hs
attribute [simp] Ki inF L4 PJ wkV L9 G8 V6 JX qS Ge jV
end Go.Vm
namespace Go.Vm
open Go.RowKit
def Yp (P : Program) (σ : St) : List Operand -> List TypeId -> Prop × Option (List (List D))
 | [], _ => (True, some [])
 | x :: xs, t :: ts => (gOf (look P σ t x) = true /\ (Yp P σ xs ts).1, match (unc (look P σ t x)).JU σ, (Yp P σ xs ts).2 with | some r, some rs => some (r :: rs) | _, _ => none)
 | _ :: _, [] => (False, none)
theorem zk {P : Program} {σ : St} : ∀ {xs : List Operand} {ts : List TypeId} {rs : List (List D)}, (Yp P σ xs ts).1 -> (Yp P σ xs ts).2 = some rs -> Xg P σ xs ts rs
 | [], _, rs, _, h => by simp [Yp] at h; exact h
 | x :: xs, t :: ts, rs, h1, h => by
  simp only [Yp] at h
  split at h
  ·rename_i r nB hr uf
   cases h
   exact ⟨h1.1, r, nB, hr, zk h1.2 uf, rfl⟩
  ·cases h
 | _ :: _, [], _, h1, _ => h1.elim
attribute [simp] Yp
theorem OY {P : Program} {ops : Array Oper} {bar : Oper -> Bool} {o : Oper} {rest : List Oper} {σ : St} {Q : St -> Prop} {c : Call} {f : FuncId} {d : Nat} {own : Bool} {rows res : List (List D)} (wA : o.op = .call c) (hc : c.callee = .value (.func f)) (hg : o.guard = none) (hd : o.dst = some d)
  (hs : Xm P f own rows res) (wP : (Yp P σ c.args.toList c.argTypes.toList).2 = some rows) (wI : (Yp P σ c.args.toList c.argTypes.toList).1) (wb : YI P σ c.args.toList c.argTypes.toList = true \/ Qn own res) (h : Ev P ops bar rest (σ.put d (zx res)) Q) : xP P ops bar o rest σ Q :=
 I3 wA hc hg hd (zk wI wP) hs wb h
theorem En {P : Program} {ops : Array Oper} {bar : Oper -> Bool} {o : Oper} {rest : List Oper} {σ : St} {Q : St -> Prop} {c : Call} {f : FuncId} {d : Nat} {rows res : List (List D)} (wA : o.op = .call c) (hc : c.callee = .value (.func f)) (hg : o.guard = none) (hd : o.dst = some d)
  (hs : Xm P f true rows res) (wP : (Yp P σ c.args.toList c.argTypes.toList).2 = some rows) (wI : (Yp P σ c.args.toList c.argTypes.toList).1) (wb : YI P σ c.args.toList c.argTypes.toList = true \/ Qn true res) (hf : σ.fresh d = true) (h : Ev P ops bar rest (σ.new d (yh d res) (Kv res.flatten)) Q) : xP P ops bar o rest σ Q :=
 Ie wA hc hg hd (zk wI wP) hs wb hf h
theorem IQ {P : Program} {ops : Array Oper} {bar : Oper -> Bool} {o : Oper} {rest : List Oper} {σ : St} {Q : St -> Prop} {c : Call} {f : FuncId} {d : Nat} {rows res : List (List D)} (qs : List Bool) (wA : o.op = .call c) (hc : c.callee = .value (.func f)) (hg : o.guard = none) (hd : o.dst = some d)
  (hs : YN P f rows res) (wP : (Yp P σ c.args.toList c.argTypes.toList).2 = some rows) (wI : (Yp P σ c.args.toList c.argTypes.toList).1) (hq : Ke qs res.flatten) (hf : σ.fresh d = true) (h : Ev P ops bar rest (σ.new d (yh d res) (YC qs res.flatten)) Q) : xP P ops bar o rest σ Q :=
 G2 qs wA hc hg hd (zk wI wP) hs hq hf h
theorem L7 {P : Program} {ops : Array Oper} {bar : Oper -> Bool} {o : Oper} {rest : List Oper} {σ : St} {Q : St -> Prop} {c : Call} {f : FuncId} {d j dj : Nat} {want g own : Bool} {rows : List (List D)} {res : List D} (wA : o.op = .call c) (hc : c.callee = .value (.func f)) (hg : o.guard = some (j, want)) (hd : o.dst = some d)
  (vo : (ops[j]?).bind (·.dst) = some dj) (vx : z6 want (σ.get dj) = some g) (hs : g = true -> Xm P f own rows [res])
  (wP : (Yp P σ c.args.toList c.argTypes.toList).2 = some rows) (wO : dj < σ.length)
  (wI : g = true -> (Yp P σ c.args.toList c.argTypes.toList).1) (wb : YI P σ c.args.toList c.argTypes.toList = true \/ Qn own [res]) (h : Ev P ops bar rest (σ.put d (.cnd g (zx [res]))) Q) : xP P ops bar o rest σ Q :=
 GJ wA hc hg hd vo wO vx (fun hh => zk (wI hh) wP) hs wb h
def Yg : Nat -> List (Nat × V × List Ob) -> St
 | n, [] => List.replicate n (V.any, [])
 | n, (t, v, os) :: l => (Yg n l).new t v os
attribute [simp] Yg
end Go.Vm
namespace Go.Vm
open Go.RowKit
def Dw (P : Program) (b : Bool) (x y : Code) (Q : Exit -> St -> Prop) (σ : St) : Prop := (b = true -> AWP P x Q σ) /\ (b = false -> AWP P y Q σ)
def D0 (P : Program) (c : Code) (Q : Exit -> St -> Prop) (σ : St) : Prop := AWP P (.loop c) Q σ
def Dv (P : Program) (id : Nat) (ops : Array Oper) (Q : Exit -> St -> Prop) (σ : St) : Prop := AWP P (.region id ops true) Q σ
def Nk (P : Program) (c : Code) (Q : Exit -> St -> Prop) (σ : St) : Prop := AWP P c Q σ
def Wx (P : Program) : Code -> (Exit -> St -> Prop) -> St -> Prop
 | .seq x y, Q, σ => Wx P x (Nn (Wx P y Q) Q) σ
 | .region _ ⟨l⟩ false, Q, σ => Ev P ⟨l⟩ (fun _ => true) l σ (Q .normal)
 | .region id ops true, Q, σ => Dv P id ops Q σ
 | .cond c x y, Q, σ => (match look P σ 0 c with | .one (.d (.bool b)) => Dw P b x y Q σ | _ => False)
 | .block id c, Q, σ => Wx P c (Uo id Q) σ
 | .loop c, Q, σ => D0 P c Q σ
 | .skip, Q, σ => Q .normal σ
 | .exit id, Q, σ => Q (.exit id) σ
 | .ret, Q, σ => Q .ret σ
 | .rangeFunc f ps x y, Q, σ => Nk P (.rangeFunc f ps x y) Q σ
 | .scope c, Q, σ => Nk P (.scope c) Q σ
 | .label l, Q, σ => Nk P (.label l) Q σ
 | .goto l, Q, σ => Nk P (.goto l) Q σ
 | .refuse s, Q, σ => Nk P (.refuse s) Q σ
theorem jU {P : Program} : ∀ {c : Code} {Q : Exit -> St -> Prop} {σ : St}, Wx P c Q σ -> AWP P c Q σ
 | .seq x y, Q, σ, h => by
  rw [Wx] at h
  refine DP (H8 (fun e σ' hq => ?_) (jU h))
  cases e <;> simp only [Nn] at hq ⊢ <;> first | exact jU hq | exact hq
 | .region _ ⟨l⟩ false, Q, σ, h => Cb h
 | .region id ops true, Q, σ, h => h
 | .cond c x y, Q, σ, h => by
  rw [Wx] at h
  split at h
  ·rename_i b hb; exact EM hb h.1 h.2
  ·exact h.elim
 | .block id c, Q, σ, h => Ff (jU (by rw [Wx] at h; exact h))
 | .loop c, Q, σ, h => h
 | .skip, Q, σ, h => Eb h
 | .exit id, Q, σ, h => DA h
 | .ret, Q, σ, h => DL h
 | .rangeFunc _ _ _ _, Q, σ, h => h
 | .scope _, Q, σ, h => h
 | .label _, Q, σ, h => h
 | .goto _, Q, σ, h => h
 | .refuse _, Q, σ, h => h
class K0 where
 c : Code
class Qy where
 ops : Array Oper
 bar : Oper -> Bool
class JW where
 l : List Oper
class OpI where
 o : Oper
class inductive Fr where
 | fin (Q : Exit -> St -> Prop)
 | sq (y : Code) (k : Fr)
 | blk (id : Nat) (k : Fr)
 | nxt (n : St -> Prop) (k : Fr)
def Fr.run (P : Program) : Fr -> Exit -> St -> Prop
 | .fin Q, e, σ => Q e σ
 | .sq y k, e, σ => Nn (Wx P y (Fr.run P k)) (Fr.run P k) e σ
 | .blk id k, e, σ => Uo id (Fr.run P k) e σ
 | .nxt n k, e, σ => Nn n (Fr.run P k) e σ
def WI (P : Program) (σ : St) [c : K0] [k : Fr] : Prop := Wx P c.c (k.run P) σ
def LI (P : Program) (e : Exit) (σ : St) [k : Fr] : Prop := k.run P e σ
def EI (P : Program) (σ : St) [A : Qy] [l : JW] [k : Fr] : Prop := Ev P A.ops A.bar l.l σ (k.run P .normal)
def SI (P : Program) (σ : St) [A : Qy] [o : OpI] [l : JW] [k : Fr] : Prop := xP P A.ops A.bar o.o l.l σ (k.run P .normal)
def CI (P : Program) (b : Bool) (σ : St) [x : K0] [y : K0] [k : Fr] : Prop := Dw P b x.c y.c (k.run P) σ
def U1 (P : Program) (σ : St) [c : K0] [k : Fr] : Prop := D0 P c.c (k.run P) σ
def DI (P : Program) (id : Nat) (σ : St) [A : Qy] [k : Fr] : Prop := Dv P id A.ops (k.run P) σ
section
variable {P : Program} {σ : St} {k : Fr}
theorem CG {x y : Code} : @WI P σ ⟨.seq x y⟩ k = @WI P σ ⟨x⟩ (.sq y k) := by
 simp only [WI]
 rw [Wx]
 congr 1
theorem Fq {id : Nat} {l : List Oper} : @WI P σ ⟨.region id ⟨l⟩ false⟩ k = @EI P σ ⟨⟨l⟩, fun _ => true⟩ ⟨l⟩ k := by simp only [WI, EI, Wx]
theorem Dh {id : Nat} {ops : Array Oper} : @WI P σ ⟨.region id ops true⟩ k = @DI P id σ ⟨ops, fun _ => true⟩ k := by simp only [WI, DI, Wx]
theorem DM {c : Operand} {x y : Code} : @WI P σ ⟨.cond c x y⟩ k = (match look P σ 0 c with | .one (.d (.bool b)) => @CI P b σ ⟨x⟩ ⟨y⟩ k | _ => False) := by simp only [WI, CI, Wx]
theorem EH {id : Nat} {c : Code} : @WI P σ ⟨.block id c⟩ k = @WI P σ ⟨c⟩ (.blk id k) := by
 simp only [WI]
 rw [Wx]
 congr 1
theorem DJ {c : Code} : @WI P σ ⟨.loop c⟩ k = @U1 P σ ⟨c⟩ k := by simp only [WI, U1, Wx]
theorem Df : @WI P σ ⟨.skip⟩ k = @LI P .normal σ k := by simp only [WI, LI, Wx]
theorem Dj {id : Nat} : @WI P σ ⟨.exit id⟩ k = @LI P (.exit id) σ k := by simp only [WI, LI, Wx]
theorem CA : @WI P σ ⟨.ret⟩ k = @LI P .ret σ k := by simp only [WI, LI, Wx]
theorem CQ {Q : Exit -> St -> Prop} {e : Exit} : @LI P e σ (.fin Q) = Q e σ := rfl
theorem Cs {y : Code} : @LI P .normal σ (.sq y k) = @WI P σ ⟨y⟩ k := rfl
theorem Gh {y : Code} {id : Nat} : @LI P (.exit id) σ (.sq y k) = @LI P (.exit id) σ k := rfl
theorem Fg {y : Code} : @LI P .ret σ (.sq y k) = @LI P .ret σ k := rfl
theorem D7 {n : St -> Prop} : @LI P .normal σ (.nxt n k) = n σ := rfl
theorem GB {n : St -> Prop} {id : Nat} : @LI P (.exit id) σ (.nxt n k) = @LI P (.exit id) σ k := rfl
theorem Gx {n : St -> Prop} : @LI P .ret σ (.nxt n k) = @LI P .ret σ k := rfl
theorem CO {id : Nat} : @LI P .normal σ (.blk id k) = @LI P .normal σ k := rfl
theorem GQ {id : Nat} : @LI P .ret σ (.blk id k) = @LI P .ret σ k := rfl
theorem H7 {id oR : Nat} : @LI P (.exit oR) σ (.blk id k) = if oR = id then @LI P .normal σ k else @LI P (.exit oR) σ k := rfl
theorem CW {A : Qy} : @EI P σ A ⟨[]⟩ k = @LI P .normal σ k := by simp only [EI, LI, Ev]
theorem DU {A : Qy} {o : Oper} {rest : List Oper} : @EI P σ A ⟨o :: rest⟩ k =
  (if stops P A.bar o then @SI P σ A ⟨o⟩ ⟨rest⟩ k else
  match o.guard with
  | none =>
   (match o.dst with
   | some d => (evS P σ o d).1 /\ @EI P (evS P σ o d).2 A ⟨rest⟩ k
   | none => (match o.op with | .store T x y => if Cc P σ T x y then @SI P σ A ⟨o⟩ ⟨rest⟩ k else (I4 P σ T x y).1 /\ @EI P (I4 P σ T x y).2 A ⟨rest⟩ k | _ => False))
  | some (j, want) =>
   (match (A.ops[j]?).bind (·.dst), o.dst with
   | some dj, some d => (match z6 want (σ.get dj) with
    | some g => (dj < σ.length /\ (g = true -> (evV P σ o.op o.type).1 /\ gOf (evV P σ o.op o.type).2 = true /\ (unc (evV P σ o.op o.type).2).flat = true)) /\ @EI P (σ.put d (.cnd g (unc (evV P σ o.op o.type).2))) A ⟨rest⟩ k
    | none => False)
   | _, _ => False)) := by
 simp only [EI, SI]
 rw [Ev]
 rfl
end
section
variable {P : Program} {σ : St} {k : Fr}
theorem DF {f : FuncId} {fn : Func} {c : Code} (hf : P.funcs[f]? = some fn) (hb : fn.body = some c) (we : WW P f = true) {own : Bool} {args res : List (List D)}
  (hw : @WI P (yu fn.ntmps args) ⟨c⟩ (.fin (I9 P fn own res))) : Xm P f own args res := Ii hf hb we (jU hw)
theorem G5 {A : Qy} {o : OpI} {l : JW} {c : Call} {f : FuncId} {d j dj : Nat} {want g own : Bool} {rows : List (List D)} {res : List D} (wA : o.o.op = .call c) (hc : c.callee = .value (.func f)) (hg : o.o.guard = some (j, want)) (hd : o.o.dst = some d)
  (vo : (A.ops[j]?).bind (·.dst) = some dj) (vx : z6 want (σ.get dj) = some g) (hs : g = true -> Xm P f own rows [res])
  (wP : (Yp P σ c.args.toList c.argTypes.toList).2 = some rows) (wO : dj < σ.length)
  (wI : g = true -> (Yp P σ c.args.toList c.argTypes.toList).1) (wb : YI P σ c.args.toList c.argTypes.toList = true \/ Qn own [res]) (h : @EI P (σ.put d (.cnd g (zx [res]))) A l k) : @SI P σ A o l k :=
 L7 wA hc hg hd vo vx hs wP wO wI wb h
theorem Dd {A : Qy} {o : OpI} {rest : JW} {S T : TypeId} {x : Operand} {d : Nat} {s : ByteArray} (wA : o.o.op = .convert S T x) (hg : o.o.guard = none) (hd : o.o.dst = some d)
  (h1 : gOf (look P σ S x) = true) (h2 : VX P S = true) (h3 : Sc P T = true) (h4 : unc (look P σ S x) = .one (.d (.str s))) (h5 : s.size <= 9223372036854775807) (h : @EI P (σ.put d (.one (.d (.sl 1 (Jn s.data.toList))))) A rest k) : @SI P σ A o rest k :=
 IA wA hg hd h1 h2 h3 h4 h5 h
theorem F5 {f : FuncId} {fn : Func} {c : Code} (hf : P.funcs[f]? = some fn) (hb : fn.body = some c) (we : WW P f = true) {args res : List (List D)}
  (hw : @WI P (yu fn.ntmps args) ⟨c⟩ (.fin (Fs P fn res))) : YN P f args res := Mx hf hb we (jU hw)
def IM (o : Oper) : Bool := match o.op with | .call ⟨.value _, _, _⟩ => false | _ => true
theorem evI {A : Qy} {o : OpI} {l : JW} {d : Nat} (hp : IM o.o = true) (hg : o.o.guard = none) (hd : o.o.dst = some d) (h : (evS P σ o.o d).1 /\ @EI P (evS P σ o.o d).2 A l k) : @SI P σ A o l k := by
 refine DT (fun c wA f hc => ?_) hg hd h.1 h.2
 obtain ⟨cc, ca, ct⟩ := c
 simp only at hc; subst hc
 simp [IM, wA] at hp
theorem BN {A : Qy} {o : OpI} {l : JW} {d : Nat} {T : TypeId} {n : Nat} {parts : Array (Nat × Operand)} (wA : o.o.op = .buildSlice T n parts) (hg : o.o.guard = none) (hd : o.o.dst = some d)
  (h1 : σ.fresh d = true /\ XC P T = true /\ Xy P (ZP P T) = true /\ 0 < P.cellsOf (ZP P T) /\ parts.toList.length = n /\ n * P.cellsOf (ZP P T) <= 16777216) (h2 : (JV P σ (ZP P T) (P.cellsOf (ZP P T)) parts.toList 0).1)
  (h3 : YG d (JV P σ (ZP P T) (P.cellsOf (ZP P T)) parts.toList 0).2.flatten = false)
  (h : @EI P (σ.new d (.one (.sref d 0 0 (JV P σ (ZP P T) (P.cellsOf (ZP P T)) parts.toList 0).2.length)) [.lit (P.cellsOf (ZP P T)) (JV P σ (ZP P T) (P.cellsOf (ZP P T)) parts.toList 0).2]) A l k) : @SI P σ A o l k := E1 wA hg hd h1 h2 h3 h
theorem C5 {A : Qy} {o : OpI} {l : JW} {d : Nat} {x y : Operand} {t : TypeId} {wH news : List (List D)} {l1 l2 : List (Nat × Nat)} {size : Nat} (wA : o.o.op = .call ⟨.builtin .append, #[x, y], #[t, t]⟩) (hg : o.o.guard = none) (hd : o.o.dst = some d) (wy : A.bar o.o = true)
  (vV : size = P.cellsOf (ZP P t)) (h1 : gOf (look P σ t x) = true /\ gOf (look P σ t y) = true /\ XC P t = true /\ Xy P (ZP P t) = true /\ 0 < P.cellsOf (ZP P t))
  (h2 : (ja σ (unc (look P σ t x)) size).1 /\ (ja σ (unc (look P σ t x)) size).2 = (wH, l1)) (h3 : (j0 σ (unc (look P σ t y)) size).1 /\ (j0 σ (unc (look P σ t y)) size).2 = (news, l2))
  (h4 : (l1 ++ l2).Nodup /\ (σ.Z0 (l1 ++ l2)).fresh d = true) (h5 : (wH.length + news.length) * P.bytesOf (ZP P t) <= 140737488355328 /\ wH.length + news.length <= 9223372036854775807)
  (h : @EI P ((σ.Z0 (l1 ++ l2)).new d (.one (.sref d 0 0 (wH.length + news.length))) [.arr true size (wH ++ news)]) A l k) : @SI P σ A o l k := El wA hg hd wy vV h1 h2 h3 h4 h5 h
theorem Ck {A : Qy} {o : OpI} {l : JW} {T : TypeId} {x y : Operand} {t j i c size : Nat} {rows : List (List D)} {ds : List D} {L : List (Nat × Nat)} (wA : o.o.op = .store T x y) (hg : o.o.guard = none) (hd : o.o.dst = none) (wy : A.bar o.o = true)
  (hx : unc (look P σ 0 x) = .one (.ptr t j i c)) (ho : σ.ob t j = .arr true size rows) (hi : i < rows.length) (h1 : zz P T = true /\ gOf (look P σ 0 x) = true /\ gOf (look P σ T y) = true /\ (unc (look P σ T y)).flat = true)
  (h2 : QR σ (unc (look P σ T y)).cells = some ds) (h3 : XS σ (unc (look P σ T y)).cells) (h4 : Ya (unc (look P σ T y)).cells = L) (h5 : L.Nodup /\ (t, j) ∉ L /\ (σ.Z0 L).J5 (At.isT t) = false) (h6 : ds.length = P.cellsOf T /\ c + P.cellsOf T <= size)
  (h : @EI P ((σ.Z0 L).Zt t j (.arr true size (rows.set i (place (rowAt rows i) c ds)))) A l k) : @SI P σ A o l k := EX wA hg hd wy hx ho hi h1 h2 h3 h4 h5 h6 h
theorem BT {A : Qy} {o : OpI} {l : JW} {T : TypeId} {x y : Operand} {t j i size : Nat} {rows : List (List D)} {ds : List D} {L : List (Nat × Nat)} (wA : o.o.op = .store T x y) (hg : o.o.guard = none) (hd : o.o.dst = none) (wy : A.bar o.o = true)
  (hx : unc (look P σ 0 x) = .one (.ptr t j i 0)) (ho : σ.ob t j = .arr true size rows) (hi : i < rows.length) (h1 : zz P T = true /\ gOf (look P σ 0 x) = true /\ gOf (look P σ T y) = true /\ (unc (look P σ T y)).flat = true)
  (h2 : QR σ (unc (look P σ T y)).cells = some ds) (h3 : XS σ (unc (look P σ T y)).cells) (h4 : Ya (unc (look P σ T y)).cells = L) (h5 : L.Nodup /\ (t, j) ∉ L /\ (σ.Z0 L).J5 (At.isT t) = false) (h6 : ds.length = P.cellsOf T /\ P.cellsOf T = size)
  (h : @EI P ((σ.Z0 L).Zt t j (.arr true size (rows.set i ds))) A l k) : @SI P σ A o l k := Ej wA hg hd wy hx ho hi h1 h2 h3 h4 h5 h6 h
theorem BQ {A : Qy} {o : OpI} {l : JW} {T : TypeId} {x y : Operand} {t j i c k' q n size : Nat} {s rows : List (List D)} {ds : List D} {L : List (Nat × Nat)} (wA : o.o.op = .store T x y) (hg : o.o.guard = none) (hd : o.o.dst = none) (wy : A.bar o.o = true) {off : Nat}
  (hx : unc (look P σ 0 x) = .one (.tref t j i c (some off))) (rf : off = k' * n + q) (ho : σ.ob t j = .arr true size rows) (hi : i < rows.length) (hc : (rowAt rows i)[c]? = some (.sl n s)) (hk : k' < s.length) (h1 : zz P T = true /\ gOf (look P σ 0 x) = true /\ gOf (look P σ T y) = true /\ (unc (look P σ T y)).flat = true)
  (h2 : QR σ (unc (look P σ T y)).cells = some ds) (h3 : XS σ (unc (look P σ T y)).cells) (h4 : Ya (unc (look P σ T y)).cells = L) (h5 : L.Nodup /\ (t, j) ∉ L) (h6 : ds.length = P.cellsOf T /\ q + P.cellsOf T <= n)
  (h : @EI P ((σ.Z0 L).Zt t j (.arr true size (rows.set i (place (rowAt rows i) c [.sl n (s.set k' (place (rowAt s k') q ds))])))) A l k) : @SI P σ A o l k := ES wA hg hd wy ⟨rf ▸ hx, ho, hi, hc, hk, h1, h2, h3, h4, h5, h6⟩ h
end
attribute [simp] Dh CG Fq DM EH DJ Df Dj CA CQ Cs Gh Fg D7 GB Gx CO GQ H7 CW DU
end Go.Vm
namespace Go.Vm
open Go.RowKit
def Cells (w : World) : CS := fun b _ => b < w.heap.size
def Reads (w : World) (v : Value) (row : List D) : Prop := ∃ cs, KC v cs /\ Z2 (Rd (Cells w) w) cs row
theorem Mg {P : Program} {f : FuncId} {own : Bool} {rows : List (List D)} {wx : List Value} {w : World} (h : Xm P f own rows [[.bool true]]) (hv : Z2 (Reads w) wx rows) :
  Calls P f wx.toArray w fun e w' => e = .returned (.bool true) /\ Below w.heap.size w w' := by
 refine (h.2 (Cells w) w wx (fun _ _ hb => hb) hv).mono ?_
 rintro e w' ⟨vs, wi, Y, rfl, hb, _, hf, hr, _⟩
 refine ⟨?_, hb⟩
 cases hr with
 | cons h1 hr =>
  cases hr
  cases hf with
  | cons h2 hf =>
   cases hf
   cases h1 with
   | cons h3 h1 =>
    cases h1
    have h4 : ∀ v, zf own (Tof (Cells w) Y) w' v (.bool true) -> Rd (Tof (Cells w) Y) w' v (.bool true) := by
     intro v hv
     unfold zf at hv
     split at hv
     ·exact hv
     ·exact hv
    have h4 := h4 _ h3
    cases h4
    rcases h2 with ⟨v, uI, gj, _⟩ | ⟨hl, _⟩
    ·cases uI; rw [gj]; rfl
    ·simp at hl
end Go.Vm
namespace Go.Vm
open Go.RowKit
def VC (P : Program) : Nat -> TypeId -> Bool
 | 0, _ => false
 | n + 1, t =>
  match P.underlying t with
  | some .bool => true
  | some (.int _) => true
  | some .string => true
  | some (.slice e) => VC P n e
  | some (.struct fs) => fs.toList.all (fun f => VC P n f.type) && P.cellsOf t != 1
  | _ => false
def TyR (P : Program) : Nat -> TypeId -> List D -> Prop
 | 0, _, _ => False
 | n + 1, t, row =>
  match P.underlying t with
  | some .bool => ∃ b, row = [.bool b]
  | some (.int k) => ∃ m, row = [.int k m] /\ k.min <= m /\ m <= k.max
  | some .string => ∃ s, row = [.str s] /\ s.size <= maxLen
  | some (.slice e) => ∃ rows, row = [.sl (P.cellsOf e) rows] /\ rows.length <= maxLen /\ ∀ r ∈ rows, TyR P n e r /\ r.length = P.cellsOf e
  | some (.struct fs) => row.length = P.cellsOf t /\ ∀ f ∈ fs.toList, TyR P n f.type (cut row f.offset (P.cellsOf f.type))
  | _ => False
def V8 (P : Program) : Nat -> List Field -> Nat -> Bool
 | k, [], n => k == n
 | k, f :: fs, n => f.offset == k && V8 P (k + P.cellsOf f.type) fs n
def Lq (P : Program) : Nat -> TypeId -> Bool
 | 0, _ => false
 | n + 1, t =>
  match P.underlying t with
  | some .bool => P.cellsOf t == 1
  | some (.int _) => P.cellsOf t == 1
  | some .string => P.cellsOf t == 1
  | some (.slice e) => P.cellsOf t == 1 && Lq P n e
  | some (.struct fs) => fs.toList.all (fun f => Lq P n f.type) && V8 P 0 fs.toList (P.cellsOf t)
  | _ => false
theorem Sf {α β : Type} {f : α -> Option β} : ∀ {l : List α} {m : List β}, l.mapM f = some m -> l.length = m.length /\ ∀ (i : Nat) a, l[i]? = some a -> ∃ b, m[i]? = some b /\ f a = some b
 | [], m, h => by simp at h; subst h; exact ⟨rfl, fun i a ha => by simp at ha⟩
 | x :: l, m, h => by
  simp only [List.mapM_cons, Option.bind_eq_bind, Option.bind_eq_some_iff] at h
  obtain ⟨b, hb, bs, lg, h⟩ := h
  simp at h; subst h
  obtain ⟨h1, h2⟩ := Sf lg
  refine ⟨by simp [h1], fun i a ha => ?_⟩
  cases i with
  | zero => simp at ha; subst ha; exact ⟨b, by simp, hb⟩
  | succ i => simpa using h2 i a (by simpa using ha)
theorem Fe {w : World} {a : Addr} {n : Nat} {cs : List Value} (h : w.cells? 0 a n = some cs) : cs.length = n /\ ∀ i v, cs[i]? = some v -> w.cell? (a.add i) = some v := by
 unfold World.cells? at h
 simp at h
 obtain ⟨h1, h2⟩ := Sf h
 simp at h1
 refine ⟨h1.symm, fun i v hv => ?_⟩
 have hi : i < n := by have := (List.getElem?_eq_some_iff.1 hv).1; omega
 obtain ⟨b, hb, hf⟩ := h2 i i (by simp [hi])
 rw [hv] at hb; cases hb; exact hf
theorem Vv {w : World} {P : Program} {q n : Nat} {cs : List Value} (hl : cs.length = n) : ∀ {fs : List Field} {k : Nat}, V8 P k fs n = true -> k <= n ->
  (∀ f ∈ fs, ∃ row, Z2 (Rd (Cells w) w) (cut cs f.offset (P.cellsOf f.type)) row /\ TyR P q f.type row) ->
  ∃ tail, Z2 (Rd (Cells w) w) (cs.drop k) tail /\ ∀ (pre : List D), pre.length = k -> ∀ f ∈ fs, TyR P q f.type (cut (pre ++ tail) f.offset (P.cellsOf f.type))
 | [], k, hc, hk, _ => by
  simp only [V8, beq_iff_eq] at hc
  subst hc
  exact ⟨[], by rw [List.drop_eq_nil_of_le (by omega)]; exact .nil, fun _ _ f hf => by cases hf⟩
 | f :: fs, k, hc, hk, h => by
  simp only [V8, Bool.and_eq_true, beq_iff_eq] at hc
  obtain ⟨row, wG, ue⟩ := h f (by simp)
  rw [hc.1] at wG
  have gk : k + P.cellsOf f.type <= n := by
   clear h wG ue
   have : ∀ (fs : List Field) (k : Nat), V8 P k fs n = true -> k <= n := by
    intro fs
    induction fs with
    | nil => intro k hh; simp [V8] at hh; omega
    | cons g gs ih => intro k hh; simp only [V8, Bool.and_eq_true, beq_iff_eq] at hh; have := ih _ hh.2; omega
   exact this _ _ hc.2
  have tu : row.length = P.cellsOf f.type := by rw [<- wG.length]; simp [cut]; omega
  obtain ⟨tail, rQ, rh⟩ := Vv hl hc.2 gk (fun g hg => h g (by simp [hg]))
  refine ⟨row ++ tail, ?_, ?_⟩
  ·have : cs.drop k = cut cs k (P.cellsOf f.type) ++ cs.drop (k + P.cellsOf f.type) := by
    unfold cut
    rw [<- List.drop_drop]
    exact (List.take_append_drop _ _).symm
   rw [this]
   exact wG.append rQ
  ·intro pre uE g hg
   rcases List.mem_cons.1 hg with rfl | hg
   ·have : cut (pre ++ (row ++ tail)) g.offset (P.cellsOf g.type) = row := by
     unfold cut
     rw [hc.1, <- uE, List.drop_left, <- tu, List.take_left]
    rw [this]; exact ue
   ·have := rh (pre ++ row) (by rw [List.length_append, uE, tu]) g hg
    rw [<- List.append_assoc]; exact this
section
variable {H : Type} {enc : TypeId × Value -> H} {P : Program} {w : World} {sp : Nat -> Bool} {held : Bool} {fuel : Nat} {t : TypeId} {cs : List Value} {d : DataW H} {ps : List MemPlace}
theorem trod_bool (hu : P.underlying t = some .bool) (h : DataW.trod enc P w 0 sp held fuel t cs = some (d, ps)) : ∃ b, cs = [.bool b] := by
 cases fuel with
 | zero => simp [DataW.trod] at h
 | succ fuel =>
  unfold DataW.trod at h
  rw [hu] at h
  split at h <;> simp_all
theorem trod_int {k : IntKind} (hu : P.underlying t = some (.int k)) (h : DataW.trod enc P w 0 sp held fuel t cs = some (d, ps)) : ∃ m, cs = [.int k m] /\ k.min <= m /\ m <= k.max := by
 cases fuel with
 | zero => simp [DataW.trod] at h
 | succ fuel =>
  unfold DataW.trod at h
  rw [hu] at h
  split at h <;> simp_all [Lit.wf]
theorem DC (hu : P.underlying t = some .string) (h : DataW.trod enc P w 0 sp held fuel t cs = some (d, ps)) : ∃ s, cs = [.string s] /\ s.size <= maxLen := by
 cases fuel with
 | zero => simp [DataW.trod] at h
 | succ fuel =>
  unfold DataW.trod at h
  rw [hu] at h
  split at h <;> simp_all
theorem trod_slice {e : TypeId} (hu : P.underlying t = some (.slice e)) (h : DataW.trod enc P w 0 sp held fuel t cs = some (d, ps)) :
  cs = [.slice none 0 0] \/ ∃ a len cap, cs = [.slice (some a) len cap] /\ len <= cap /\ cap <= maxLen /\
   ∀ i, i < len -> ∃ xs f x, w.cells? 0 (a.add (i * P.cellsOf e)) (P.cellsOf e) = some xs /\ DataW.trod enc P w 0 sp held f e xs = some x := by
 cases fuel with
 | zero => simp [DataW.trod] at h
 | succ fuel =>
  unfold DataW.trod at h
  rw [hu] at h
  split at h <;> first | (simp_all; done) | skip
  rename_i e' a len cap heq
  cases heq
  refine .inr ⟨a, len, cap, rfl, ?_⟩
  simp only at h
  split at h
  ·rename_i hc
   refine ⟨hc.2.1, hc.2.2, fun i hi => ?_⟩
   simp only [Option.bind_eq_some_iff] at h
   obtain ⟨elems, gd, _⟩ := h
   obtain ⟨hl, hg⟩ := Sf gd
   obtain ⟨x, _, hx⟩ := hg i i (by simp [hi])
   obtain ⟨xs, h1, h2⟩ := Option.bind_eq_some_iff.1 hx
   exact ⟨xs, fuel, x, h1, h2⟩
  ·cases h
theorem trod_struct {fs : Array Field} (hu : P.underlying t = some (.struct fs)) (h : DataW.trod enc P w 0 sp held fuel t cs = some (d, ps)) :
  cs.length = P.cellsOf t /\ ∀ f ∈ fs.toList, ∃ q x, DataW.trod enc P w 0 sp held q f.type (cut cs f.offset (P.cellsOf f.type)) = some x := by
 cases fuel with
 | zero => simp [DataW.trod] at h
 | succ fuel =>
  unfold DataW.trod at h
  rw [hu] at h
  split at h <;> first | (simp_all; done) | skip
  rename_i eU heq
  cases heq
  split at h
  ·rename_i hc
   refine ⟨hc, fun f hf => ?_⟩
   simp only [Option.map_eq_some_iff] at h
   obtain ⟨xs, hx, _⟩ := h
   obtain ⟨_, hg⟩ := Sf hx
   obtain ⟨i, hi⟩ := List.mem_iff_getElem?.1 hf
   obtain ⟨x, _, hx⟩ := hg i f hi
   exact ⟨fuel, x, hx⟩
  ·cases h
end
theorem Da {w : World} {a : Addr} {v : Value} (h : w.cell? a = some v) : a.block < w.heap.size := by
 unfold World.cell? at h
 cases hh : w.heap[a.block]? with
 | none => simp [hh] at h
 | some o => exact (Array.getElem?_eq_some_iff.1 hh).1
theorem Fy (a : Addr) (m k : Nat) (h : m <= k) : a.add k = (a.add m).add (k - m) := by
 simp only [Addr.add]
 by_cases h0 : m = 0
 ·subst h0; simp
 ·by_cases h1 : k - m = 0
  ·have : k = m := by omega
   subst this; simp [h0]
  ·have : k ≠ 0 := by omega
   simp only [h0, h1, this, if_false]
   congr 1
   omega
theorem Gc {w : World} {P : Program} {n size : Nat} {e : TypeId} {a : Addr} {len cap : Nat} (gb : len <= cap) (pt : cap <= maxLen)
  (h : ∀ i, i < len -> ∃ xs row, w.cells? 0 (a.add (i * size)) size = some xs /\ Z2 (Rd (Cells w) w) xs row /\ TyR P n e row) :
  ∃ rows : List (List D), Rd (Cells w) w (.slice (some a) len cap) (.sl size rows) /\ rows.length <= maxLen /\ ∀ r ∈ rows, TyR P n e r /\ r.length = size := by
 have key : ∀ m, m <= len -> ∃ rows : List (List D), rows.length = m /\ (∀ r ∈ rows, TyR P n e r /\ r.length = size) /\
   ∀ k d, rows.flatten[k]? = some d -> ∃ v, w.cell? (a.add k) = some v /\ Rd (Cells w) w v d := by
  intro m
  induction m with
  | zero => intro _; exact ⟨[], rfl, (by intro r hr; cases hr), (by intro k d hk; simp at hk)⟩
  | succ m ih =>
   intro hm
   obtain ⟨rows, hl, ht, hk⟩ := ih (by omega)
   obtain ⟨xs, row, hx, wG, ue⟩ := h m (by omega)
   obtain ⟨pT, gf⟩ := Fe hx
   have tu : row.length = size := by rw [<- wG.length, pT]
   have ve : rows.flatten.length = m * size := by rw [YL rows size (fun r hr => (ht r hr).2), hl]
   refine ⟨rows ++ [row], by simp [hl], fun r hr => ?_, fun k d hd => ?_⟩
   ·rcases List.mem_append.1 hr with hr | hr
    ·exact ht r hr
    ·simp at hr; subst hr; exact ⟨ue, tu⟩
   ·rw [List.flatten_append, List.flatten_singleton] at hd
    rcases Nat.lt_or_ge k rows.flatten.length with wO | u9
    ·rw [List.getElem?_append_left wO] at hd
     exact hk k d hd
    ·rw [List.getElem?_append_right u9] at hd
     obtain ⟨v, hv, hr⟩ := wG.get' _ d hd
     refine ⟨v, ?_, hr⟩
     have := gf _ v hv
     rw [show a.add k = (a.add (m * size)).add (k - rows.flatten.length) by rw [ve]; rw [ve] at u9; exact Fy a (m * size) k u9]
     exact this
 obtain ⟨rows, hl, ht, hk⟩ := key len (Nat.le_refl _)
 refine ⟨rows, ?_, by omega, ht⟩
 have pv : rows.flatten ≠ [] -> a.spot = none := by
  intro wE
  obtain ⟨d, tl, nj⟩ := List.exists_cons_of_ne_nil wE
  obtain ⟨v, hv, _⟩ := hk 0 d (by rw [nj]; rfl)
  have := World.cell?_spot hv
  simpa [Addr.add] using this
 refine .sl a len cap size rows (fun k => (w.cell? (a.add k)).getD undef) hl gb pt (fun r hr => (ht r hr).2) pv (fun k d hd => ?_) (fun k d hd => ?_)
 ·obtain ⟨v, hv, _⟩ := hk k d hd
  have sv : a.spot = none := pv (by intro hh; rw [hh] at hd; simp at hd)
  have he : a.add k = ⟨a.block, a.off + k, none⟩ := by
   obtain ⟨b, o, sp⟩ := a
   simp only at sv
   subst sv
   simp only [Addr.add]
   split
   ·rename_i h0; subst h0; rfl
   ·rfl
  rw [he] at hv ⊢
  rw [hv]
  exact ⟨rfl, Da (a := ⟨a.block, a.off + k, none⟩) hv⟩
 ·obtain ⟨v, hv, hr⟩ := hk k d hd
  simp only [hv, Option.getD_some]; exact hr
theorem Tv {H : Type} {enc : TypeId × Value -> H} {P : Program} {w : World} {sp : Nat -> Bool} {held : Bool} : ∀ (n : Nat) {fuel : Nat} {t : TypeId} {cs : List Value} {d : DataW H} {ps : List MemPlace}, VC P n t = true -> Lq P n t = true ->
  DataW.trod enc P w 0 sp held fuel t cs = some (d, ps) -> ∃ row, Z2 (Rd (Cells w) w) cs row /\ TyR P n t row
 | 0, _, _, _, _, _, h, _, _ => by simp [VC] at h
 | n + 1, fuel, t, cs, d, ps, hp, hl, h => by
  simp only [VC] at hp
  simp only [Lq] at hl
  simp only [TyR]
  cases hu : P.underlying t with
  | none => simp [hu] at hp
  | some td =>
   cases td with
   | bool => obtain ⟨b, rfl⟩ := trod_bool hu h; exact ⟨_, .cons (.bool b) .nil, b, rfl⟩
   | int k => obtain ⟨m, rfl, h1, h2⟩ := trod_int hu h; exact ⟨_, .cons (.int k m) .nil, m, rfl, h1, h2⟩
   | string => obtain ⟨s, rfl, h1⟩ := DC hu h; exact ⟨_, .cons (.str s) .nil, s, rfl, h1⟩
   | slice e =>
    simp only [hu] at hp hl
    simp only [Bool.and_eq_true] at hl
    rcases trod_slice hu h with rfl | ⟨a, len, cap, rfl, h1, h2, h3⟩
    ·exact ⟨_, .cons (.nil (P.cellsOf e)) .nil, [], rfl, by simp, by simp⟩
    ·obtain ⟨rows, hr, tu, gh⟩ := Gc (P := P) (n := n) (size := P.cellsOf e) (e := e) h1 h2 (fun i hi => by
      obtain ⟨xs, f, x, hx, ht⟩ := h3 i hi
      obtain ⟨row, wG, ue⟩ := Tv n hp hl.2 (d := x.1) (ps := x.2) ht
      exact ⟨xs, row, hx, wG, ue⟩)
     exact ⟨_, .cons hr .nil, rows, rfl, tu, gh⟩
   | struct fs =>
    simp only [hu] at hp hl
    simp only [Bool.and_eq_true] at hp hl
    obtain ⟨h1, h2⟩ := trod_struct hu h
    obtain ⟨row, wG, rh⟩ := Vv (w := w) (P := P) (q := n) h1 hl.2 (Nat.zero_le _) (fun f hf => by
     obtain ⟨q, x, hx⟩ := h2 f hf
     exact Tv n (List.all_eq_true.1 hp.1 f hf) (List.all_eq_true.1 hl.1 f hf) (d := x.1) (ps := x.2) hx)
    refine ⟨row, by simpa using wG, ?_, fun f hf => by simpa using rh [] rfl f hf⟩
    have := wG.length
    simp at this
    omega
   | _ => simp [hu] at hp
end Go.Vm
namespace Go.Vm
open Go.RowKit Go.WideShapes Go.ChangeAt Go.ChangeShapes
theorem MN {H : Type} {enc : TypeId × Value -> H} {P : Program} {w : World} {sp : Nat -> Bool} {held : Bool} {n base : Nat} {t : TypeId} {v : Value} {d : DataW H} {ps : List MemPlace} {r : Reach}
  (hp : VC P n t = true) (hl : Lq P n t = true) (we : Value.okWide P w r base t v) (h : DataW.Trod enc P w 0 sp held t v d ps) : ∃ row, Reads w v row /\ TyR P n t row := by
 obtain ⟨fuel, hf⟩ := h
 obtain ⟨row, wG, ue⟩ := Tv n hp hl hf
 refine ⟨row, ⟨v.cells.toList, ?_, wG⟩, ue⟩
 cases n with
 | zero => simp [VC] at hp
 | succ n =>
  simp only [VC] at hp
  cases hu : P.underlying t with
  | none => simp [hu] at hp
  | some td =>
   cases td with
   | bool => obtain ⟨b, rfl⟩ := okWide_bool hu we; exact .inl ⟨_, rfl, rfl, rfl⟩
   | int k => obtain ⟨b, rfl⟩ := okWide_int hu we; exact .inl ⟨_, rfl, rfl, rfl⟩
   | string => obtain ⟨b, rfl⟩ := okWide_string hu we; exact .inl ⟨_, rfl, rfl, rfl⟩
   | slice e => obtain ⟨a, l, c, rfl⟩ := okWide_slice hu we; exact .inl ⟨_, rfl, rfl, rfl⟩
   | struct fs =>
    obtain ⟨cs, rfl, vV⟩ := okWide_struct hu we
    simp [hu] at hp
    exact .inr ⟨by simp [Value.cells, vV, hp.2], by simp [Value.cells]⟩
   | _ => simp [hu] at hp
def Lm (P : Program) (n : Nat) : List TypeId -> List (List D) -> Prop
 | [], [] => True
 | t :: ts, r :: rs => TyR P n t r /\ Lm P n ts rs
 | _, _ => False
def jq (P : Program) (n : Nat) (ts : List TypeId) : Bool := ts.all fun t => VC P n t && Lq P n t && P.readableRec t && decide (t < P.types.size)
theorem LS {H : Type} {enc : TypeId × Value -> H} {P : Program} {w : World} {sp : Nat -> Bool} {held : Bool} {n base : Nat} {r : Reach} : ∀ {ts : List TypeId} {vs : List Value} {ds : List (DataW H)} {ps : List MemPlace}, jq P n ts = true ->
  (∀ (j : Nat) t v, ts[j]? = some t -> vs[j]? = some v -> Value.okWide P w r base t v) -> DataW.TrodAll enc P w 0 sp held ts vs ds ps -> ∃ rows, Z2 (Reads w) vs rows /\ Lm P n ts rows
 | [], [], [], _, _, _, _ => ⟨[], .nil, trivial⟩
 | t :: ts, v :: vs, d :: ds, _, hp, we, h => by
  obtain ⟨p, q, h1, h2, _⟩ := h
  simp only [jq, List.all_cons, Bool.and_eq_true] at hp
  obtain ⟨row, hr, ht⟩ := MN hp.1.1.1.1 hp.1.1.1.2 (we 0 t v rfl rfl) h1
  obtain ⟨rows, uf, gi⟩ := LS (by simpa [jq] using hp.2) (fun j t v ht hv => we (j + 1) t v ht hv) h2
  exact ⟨row :: rows, .cons hr uf, ht, gi⟩
 | [], [], _ :: _, _, _, _, h => h.elim
 | [], _ :: _, _, _, _, _, h => by cases ‹List (DataW H)› <;> exact h.elim
 | _ :: _, [], _, _, _, _, h => by cases ‹List (DataW H)› <;> exact h.elim
 | _ :: _, _ :: _, [], _, _, _, h => h.elim
theorem TR {H : Type} {enc : TypeId × Value -> H} {P : Program} {n : Nat} (u7 : laidOutB P = true) {W W' : World} (hb : Below W.heap.size W W') : ∀ {ts : List TypeId} {vs : List Value} {ds : List (DataW H)} {ps : List MemPlace}, jq P n ts = true ->
  DataW.TrodAll enc P W 0 (fun _ => true) true ts vs ds ps -> DataW.TrodAll enc P W' 0 (fun b => decide (b < W.heap.size)) true ts vs ds ps
 | [], [], [], _, _, h => h
 | t :: ts, v :: vs, d :: ds, _, hp, h => by
  obtain ⟨p, q, h1, h2, rfl⟩ := h
  simp only [jq, List.all_cons, Bool.and_eq_true, decide_eq_true_eq] at hp
  have gl : ∀ x ∈ p, x.block < W.heap.size := by obtain ⟨m, hm⟩ := h1; exact DataW.trod_lt m _ _ _ hm
  exact ⟨p, q, Below.trod u7 hp.1.1.2 hp.1.2 h1 hb gl, TR u7 hb (by simpa [jq] using hp.2) h2, rfl⟩
 | [], [], _ :: _, _, _, h => h.elim
 | [], _ :: _, _, _, _, h => by cases ‹List (DataW H)› <;> exact h.elim
 | _ :: _, [], _, _, _, h => by cases ‹List (DataW H)› <;> exact h.elim
 | _ :: _, _ :: _, [], _, _, h => h.elim
end Go.Vm
