/- An abstract machine ON the model of Go, by value, and that it is sound: part Vc. No condition. -/
import Derived.Test.YtlilcnnajeeigaaGreatVf
import Derived.ProofKit
import Derived.OpenShut
import Derived.Below
import Derived.ChangeOld
import Derived.DataReads
import Derived.Carry
set_option linter.unusedVariables false
set_option linter.unusedSimpArgs false
namespace Go.Vm
open Go.RowKit
abbrev Ren := List ((Nat × Nat) × Option (Nat × Nat))
def Js : Ren -> Nat -> Nat -> Option (Nat × Nat)
 | [], t, j => some (t, j)
 | (n, o) :: ρ, t, j => if t = n.1 /\ j = n.2 then o else Js ρ t j
def inF : List (Nat × Nat) -> Nat -> Nat -> Bool
 | [], _, _ => false
 | n :: F, t, j => (t == n.1 && j == n.2) || inF F t j
def Mw (σ : St) (ρ : Ren) (F : List (Nat × Nat)) : At -> At -> Prop
 | _, .any => True
 | .d x, .d y => x = y
 | .nil _, .nil _ => True
 | .nil s, .d y => y = .sl s []
 | .nil _, .sref t j lo len => Js ρ t j = none /\ lo = 0 /\ len = 0
 | .sref t j lo len, .sref t' j' rm uq => Js ρ t' j' = some (t, j) /\ lo = rm /\ len = uq
 | .sref t j lo len, .d y => inF F t j = true /\ (match σ.ob t j with | .arr _ s rows => y = .sl s (cut rows lo len) | _ => False)
 | .tref t j i c o, .tref t' j' i' c' o' => Js ρ t' j' = some (t, j) /\ i = i' /\ c = c' /\ o = o' /\ (match σ.ob t j with | .arr true _ _ => True | _ => False)
 | .ptr t j i c, .ptr t' j' i' c' => Js ρ t' j' = some (t, j) /\ i = i' /\ c = c'
 | .bptr t c, .bptr t' c' => Js ρ t' 0 = some (t, 0) /\ c = c'
 | .fn f t, .fn f' t' => Js ρ t' 0 = some (t, 0) /\ f = f'
 | .rptr r c, .rptr r' c' => r = r' /\ c = c'
 | _, _ => False
def S8 (σ : St) (ρ : Ren) (F : List (Nat × Nat)) : List At -> List At -> Prop
 | [], [] => True
 | x :: xs, y :: ys => Mw σ ρ F x y /\ S8 σ ρ F xs ys
 | _, _ => False
def wkV (σ : St) (ρ : Ren) (F : List (Nat × Nat)) : V -> V -> Prop
 | _, .any => True
 | .one x, .one y => Mw σ ρ F x y
 | .agg xs, .agg ys => S8 σ ρ F xs ys
 | .fix u (.one x), .fix u' (.one y) => u = u' /\ Mw σ ρ F x y
 | .fix u (.agg xs), .fix u' (.agg ys) => u = u' /\ S8 σ ρ F xs ys
 | .fix _ (.one x), .one y => Mw σ ρ F x y
 | .fix _ (.agg xs), .agg ys => S8 σ ρ F xs ys
 | _, _ => False
def N2 (σ : St) (ρ : Ren) (F : List (Nat × Nat)) (t' j' : Nat) : Ob -> Prop
 | .none => True
 | .arr q size rows => (match Js ρ t' j' with
  | none => rows = []
  | some (t, j) => inF F t j = false /\ (match σ.ob t j with | .arr p s r => (p = q \/ p = false /\ ∀ x ∈ rows, ∀ y ∈ x, y.scalar = true) /\ s = size /\ r = rows | _ => False))
 | .lit _ _ => False
 | .box cells => (match Js ρ t' j' with
  | none => False
  | some (t, j) => inF F t j = false /\ (match σ.ob t j with | .box cs => S8 σ ρ F cs cells | _ => False))
def Hb (σ : St) (ρ : Ren) (F : List (Nat × Nat)) (t : Nat) : List Ob -> Nat -> Prop
 | [], _ => True
 | o :: os, j => N2 σ ρ F t j o /\ Hb σ ρ F t os (j + 1)
def Vj (σ : St) (ρ : Ren) (F : List (Nat × Nat)) : List Ent -> List Ent -> Nat -> Prop
 | [], [], _ => True
 | e :: es, e' :: rl, t => (wkV σ ρ F e.1 e'.1 /\ Hb σ ρ F t e'.2 0) /\ Vj σ ρ F es rl (t + 1)
 | _, _, _ => False
def Qj : Ren -> Nat -> Nat -> Bool
 | [], _, _ => false
 | (n, _) :: ρ, t, j => (t == n.1 && j == n.2) || Qj ρ t j
def xT : Ren -> Nat -> Nat -> Bool
 | [], _, _ => false
 | (_, some o) :: ρ, t, j => (t == o.1 && j == o.2) || xT ρ t j
 | (_, none) :: ρ, t, j => xT ρ t j
def HK (σ' : St) (t j : Nat) : Bool := match σ'.ob t j with | .none => true | _ => false
def qw (σ' : St) (all : Ren) : Ren -> Bool
 | [] => true
 | (_, some o) :: ρ => !xT ρ o.1 o.2 && (Qj all o.1 o.2 || HK σ' o.1 o.2) && qw σ' all ρ
 | (_, none) :: ρ => qw σ' all ρ
theorem xv : ∀ {ρ : Ren} {t j : Nat}, Qj ρ t j = false -> Js ρ t j = some (t, j)
 | [], _, _, _ => rfl
 | (n, o) :: ρ, t, j, h => by
  simp only [Qj, Bool.or_eq_false_iff, Bool.and_eq_false_iff, beq_eq_false_iff_ne] at h
  simp only [Js]
  rw [if_neg (by rintro ⟨h1, h2⟩; rcases h.1 with h3 | h3 <;> contradiction)]
  exact xv h.2
theorem kQ : ∀ {ρ : Ren} {t j : Nat} {o : Nat × Nat}, Qj ρ t j = true -> Js ρ t j = some o -> xT ρ o.1 o.2 = true
 | [], _, _, _, h, _ => by simp [Qj] at h
 | (n, o') :: ρ, t, j, o, h, ho => by
  simp only [Js] at ho
  split at ho
  ·subst ho; simp [xT]
  ·rename_i wC
   have h' : Qj ρ t j = true := by
    simp only [Qj, Bool.or_eq_true, Bool.and_eq_true, beq_iff_eq] at h
    rcases h with h | h
    ·exact absurd h wC
    ·exact h
   have := kQ h' ho
   cases o' with
   | none => simpa [xT] using this
   | some o' => simp [xT, this]
theorem NJ {σ' : St} {all : Ren} : ∀ {ρ : Ren} {t j t' j' : Nat} {o : Nat × Nat}, qw σ' all ρ = true -> Qj ρ t j = true -> Qj ρ t' j' = true -> Js ρ t j = some o -> Js ρ t' j' = some o -> (t, j) = (t', j')
 | [], _, _, _, _, _, _, h, _, _, _ => by simp [Qj] at h
 | (n, o') :: ρ, t, j, t', j', o, wb, hn, wx, ho, wX => by
  have mY : qw σ' all ρ = true := by
   cases o' with
   | none => simpa [qw] using wb
   | some o' => simp only [qw, Bool.and_eq_true] at wb; exact wb.2
  simp only [Js] at ho wX
  by_cases h1 : t = n.1 /\ j = n.2
  ·rw [if_pos h1] at ho
   by_cases h2 : t' = n.1 /\ j' = n.2
   ·rw [h1.1, h1.2, h2.1, h2.2]
   ·rw [if_neg h2] at wX
    have h' : Qj ρ t' j' = true := by
     simp only [Qj, Bool.or_eq_true, Bool.and_eq_true, beq_iff_eq] at wx
     exact wx.resolve_left h2
    have hold := kQ h' wX
    subst ho
    simp only [qw, Bool.and_eq_true, Bool.not_eq_true'] at wb
    rw [hold] at wb; cases wb.1.1
  ·rw [if_neg h1] at ho
   have h : Qj ρ t j = true := by
    simp only [Qj, Bool.or_eq_true, Bool.and_eq_true, beq_iff_eq] at hn
    exact hn.resolve_left h1
   by_cases h2 : t' = n.1 /\ j' = n.2
   ·rw [if_pos h2] at wX
    have hold := kQ h ho
    subst wX
    simp only [qw, Bool.and_eq_true, Bool.not_eq_true'] at wb
    rw [hold] at wb; cases wb.1.1
   ·rw [if_neg h2] at wX
    have h' : Qj ρ t' j' = true := by
     simp only [Qj, Bool.or_eq_true, Bool.and_eq_true, beq_iff_eq] at wx
     exact wx.resolve_left h2
    exact NJ mY h h' ho wX
theorem Wa {σ' : St} {all : Ren} : ∀ {ρ : Ren} {t j : Nat}, qw σ' all ρ = true -> xT ρ t j = true -> Qj all t j = true \/ σ'.ob t j = .none
 | [], _, _, _, h => by simp [xT] at h
 | (n, o') :: ρ, t, j, wb, h => by
  cases o' with
  | none => exact Wa (ρ := ρ) (by simpa [qw] using wb) (by simpa [xT] using h)
  | some o =>
   simp only [qw, Bool.and_eq_true, Bool.or_eq_true] at wb
   simp only [xT, Bool.or_eq_true, Bool.and_eq_true, beq_iff_eq] at h
   rcases h with ⟨rfl, rfl⟩ | h
   ·refine wb.1.2.imp id fun hf => ?_
    unfold HK at hf; split at hf <;> first | assumption | cases hf
   ·exact Wa wb.2 h
theorem Fe {σ' : St} {ρ : Ren} (wb : qw σ' ρ ρ = true) {t j t' j' : Nat} {o : Nat × Nat} (h1 : σ'.ob t j ≠ .none) (h2 : σ'.ob t' j' ≠ .none) (ho : Js ρ t j = some o) (wX : Js ρ t' j' = some o) : t = t' /\ j = j' := by
 cases hn : Qj ρ t j with
 | true =>
  cases wx : Qj ρ t' j' with
  | true => have := NJ wb hn wx ho wX; cases this; exact ⟨rfl, rfl⟩
  | false =>
   have mZ := xv wx
   rw [mZ] at wX; cases wX
   have hold := kQ hn ho
   rcases Wa wb hold with h | h
   ·rw [wx] at h; cases h
   ·exact absurd h h2
 | false =>
  have mZ := xv hn
  rw [mZ] at ho; cases ho
  cases wx : Qj ρ t' j' with
  | true =>
   have hold := kQ wx wX
   rcases Wa wb hold with h | h
   ·rw [hn] at h; cases h
   ·exact absurd h h1
  | false =>
   have ma := xv wx
   rw [ma] at wX; cases wX; exact ⟨rfl, rfl⟩
theorem UY {σ : St} {ρ : Ren} {F : List (Nat × Nat)} : ∀ {es rl : List Ent} {t : Nat}, Vj σ ρ F es rl t -> es.length = rl.length
 | [], [], _, _ => rfl
 | _ :: _, _ :: _, _, h => by simp [UY h.2]
 | [], _ :: _, _, h => h.elim
 | _ :: _, [], _, h => h.elim
theorem Pb {σ : St} {ρ : Ren} {F : List (Nat × Nat)} : ∀ {es rl : List Ent} {t : Nat}, Vj σ ρ F es rl t -> ∀ (i : Nat), wkV σ ρ F (St.get es i) (St.get rl i) /\ ∀ j, N2 σ ρ F (t + i) j (St.ob rl i j)
 | [], [], t, _, i => ⟨by simp [St.get, wkV], fun j => by simp [St.ob, N2]⟩
 | e :: es, e' :: rl, t, h, 0 => by
  refine ⟨h.1.1, fun j => ?_⟩
  have : ∀ (os : List Ob) (k : Nat), Hb σ ρ F t os k -> ∀ j, N2 σ ρ F t (k + j) (YB os j) := by
   intro os
   induction os with
   | nil => intro k _ j; simp [YB, N2]
   | cons o os ih =>
    intro k hk j
    cases j with
    | zero => exact hk.1
    | succ j => have := ih (k + 1) hk.2 j; rw [show k + (j + 1) = k + 1 + j by omega]; simpa [YB] using this
  have := this e'.2 0 h.1.2 j
  simpa using this
 | e :: es, e' :: rl, t, h, i + 1 => by
  have := Pb h.2 i
  rw [show t + (i + 1) = t + 1 + i by omega]
  simpa [St.get, St.ob] using this
 | [], _ :: _, _, h, _ => h.elim
 | _ :: _, [], _, h, _ => h.elim
theorem Gt {T : CS} {w : World} {xs : List Value} {ds : List D} {S : Nat -> Prop} (wG : Zg (Rd T w) xs ds) (hf : ∀ d ∈ ds, d.scalar = true) : QU w xs ds S :=
 ⟨wG.length, fun _ _ => False, fun k x d hx hd => by
  obtain ⟨d', wQ, hr⟩ := wG.get k x hx
  rw [hd] at wQ; cases wQ
  exact Rd.own (hf d (List.mem_of_getElem? hd)) hr, fun _ _ hb => hb.elim, fun _ _ _ hb => hb.elim⟩
theorem Y5 {σ σ' : St} (ρ : Ren) (F : List (Nat × Nat)) (wb : qw σ' ρ ρ = true) (hs : Vj σ ρ F σ σ' 0) : Wk σ σ' := by
 rintro T0 B a w ⟨X, h, r⟩
 let h' : Nat -> Nat -> Hd := fun t j => match Js ρ t j with | some o => h o.1 o.2 | none => Hd.of (.slice none 0 0)
 let X' : Nat -> Prop := fun b => X b \/ ∃ t j, inF F t j = true /\ σ.ob t j ≠ .none /\ (h t j).u b
 have hlen := UY hs
 have vC := Pb hs
 have wY : ∀ t j, N2 σ ρ F t j (σ'.ob t j) := fun t j => by have := (vC t).2 j; simpa using this
 have sr : ∀ b k v, Tof T0 X b k -> w.cell? ⟨b, k, none⟩ = some v -> w.cell? ⟨b, k, none⟩ = some v /\ Tof T0 X' b k := fun b k v hb hc => ⟨hc, hb.imp id .inl⟩
 have tN : ∀ t' j' q size rows, σ'.ob t' j' = .arr q size rows -> (Js ρ t' j' = none /\ rows = []) \/ ∃ t j p, Js ρ t' j' = some (t, j) /\ inF F t j = false /\ σ.ob t j = .arr p size rows /\ (p = q \/ p = false /\ ∀ x ∈ rows, ∀ y ∈ x, y.scalar = true) := by
  intro t' j' q size rows ho
  have := wY t' j'
  rw [ho] at this
  simp only [N2] at this
  split at this
  ·rename_i hn; exact .inl ⟨hn, this⟩
  ·rename_i t j hn
   obtain ⟨hF, this⟩ := this
   split at this
   ·rename_i p s r w6; obtain ⟨hp, rfl, rfl⟩ := this; exact .inr ⟨t, j, p, hn, hF, w6, hp⟩
   ·exact this.elim
 have sI : ∀ t' j' size rows, σ'.ob t' j' ≠ .lit size rows := by
  intro t' j' size rows ho
  have := wY t' j'
  rw [ho] at this; exact this
 have sJ : ∀ t' j' cells, σ'.ob t' j' = .box cells -> ∃ t j cs, Js ρ t' j' = some (t, j) /\ inF F t j = false /\ σ.ob t j = .box cs /\ S8 σ ρ F cs cells := by
  intro t' j' cells ho
  have := wY t' j'
  rw [ho] at this
  simp only [N2] at this
  split at this
  ·exact this.elim
  ·rename_i t j hn
   obtain ⟨hF, this⟩ := this
   split at this
   ·rename_i cs w6; exact ⟨t, j, cs, hn, hF, w6, this⟩
   ·exact this.elim
 have at_ : ∀ {x y : At} {v : Value}, Mw σ ρ F x y -> Zr (Tof T0 X) h σ.ob w x v -> Zr (Tof T0 X') h' σ'.ob w y v := by
  intro x y v hw hr
  have h1 := Zr.XG hr
  cases y with
  | any => exact h1
  | d y =>
   cases x with
   | d x => simp only [Mw] at hw; subst hw; exact Rd.mono sr hr
   | nil s => simp only [Mw] at hw; subst hw; cases hr; exact .nil _
   | sref t j lo len =>
    simp only [Mw] at hw
    obtain ⟨hF, hw⟩ := hw
    split at hw
    ·rename_i q s rows ho
     subst hw
     exact r.HV ho hr _ (fun b k hb => hb.imp id .inl) (fun b k hb => .inr (.inr ⟨t, j, hF, by rw [ho]; simp, hb⟩))
    ·exact hw.elim
   | _ => exact hw.elim
  | nil s =>
   cases x with
   | nil s' => exact hr
   | _ => exact hw.elim
  | sref t' j' rm uq =>
   cases x with
   | nil s =>
    obtain ⟨hn, rfl, rfl⟩ := hw
    cases hr
    refine ⟨rfl, fun q size rows ho => ?_, fun size rows ho => absurd ho (sI _ _ _ _)⟩
    simp only [h', hn]
    exact ⟨by omega, fun _ _ => rfl, fun _ => rfl, none, 0, rfl, by omega, by simp [maxLen], fun _ => rfl, fun hh => absurd hh (by omega)⟩
   | sref t j lo len =>
    obtain ⟨hn, rfl, rfl⟩ := hw
    refine ⟨h1, fun q size rows ho => ?_, fun size rows ho => absurd ho (sI _ _ _ _)⟩
    rcases tN t' j' q size rows ho with ⟨wx, _⟩ | ⟨t2, j2, p, wx, _, w6, _⟩
    ·rw [hn] at wx; cases wx
    ·rw [hn] at wx; cases wx
     simp only [h', hn]
     exact hr.2.1 p size rows w6
   | _ => exact hw.elim
  | ptr t' j' i' c' =>
   cases x with
   | ptr t j i c =>
    obtain ⟨hn, rfl, rfl⟩ := hw
    refine ⟨h1, fun q size rows ho => ?_⟩
    rcases tN t' j' q size rows ho with ⟨wx, _⟩ | ⟨t2, j2, p, wx, _, w6, _⟩
    ·rw [hn] at wx; cases wx
    ·rw [hn] at wx; cases wx
     simp only [h', hn]
     exact hr.2 p size rows w6
   | _ => exact hw.elim
  | tref t' j' i' c' o' =>
   cases x with
   | tref t j i c o =>
    obtain ⟨hn, rfl, rfl, rfl, hq⟩ := hw
    refine ⟨h1, fun size rows ho => ?_⟩
    rcases tN t' j' true size rows ho with ⟨wx, _⟩ | ⟨t2, j2, p, wx, _, w6, hp⟩
    ·rw [hn] at wx; cases wx
    ·rw [hn] at wx; cases wx
     simp only [h', hn]
     rcases hp with rfl | ⟨rfl, vg⟩
     ·exact hr.2 size rows w6
     ·rw [w6] at hq; exact hq.elim
   | _ => exact hw.elim
  | bptr t' c' =>
   cases x with
   | bptr t c =>
    obtain ⟨hn, rfl⟩ := hw
    refine ⟨h1, fun cells ho => ?_⟩
    obtain ⟨t2, j2, cs, wx, _, w6, _⟩ := sJ t' 0 cells ho
    rw [hn] at wx; cases wx
    simp only [h', hn]
    exact hr.2 cs w6
   | _ => exact hw.elim
  | fn f' t' =>
   cases x with
   | fn f t =>
    obtain ⟨hn, rfl⟩ := hw
    refine ⟨h1, fun cells ho => ?_⟩
    obtain ⟨t2, j2, cs, wx, _, w6, _⟩ := sJ t' 0 cells ho
    rw [hn] at wx; cases wx
    simp only [h', hn]
    exact hr.2 cs w6
   | _ => exact hw.elim
  | rptr r' c' =>
   cases x with
   | rptr r0 c =>
    obtain ⟨rfl, rfl⟩ := hw
    obtain ⟨b, off, g, e, hk⟩ := hr
    exact ⟨b, off, g, e, fun k d hd => ⟨(hk k d hd).1, (hk k d hd).2.1.imp id .inl, Rd.mono sr (hk k d hd).2.2⟩⟩
   | _ => exact hw.elim
 have ru : ∀ {xs ys : List At} {vs : List Value}, S8 σ ρ F xs ys -> Zg (Zr (Tof T0 X) h σ.ob w) xs vs -> Zg (Zr (Tof T0 X') h' σ'.ob w) ys vs := by
  intro xs
  induction xs with
  | nil => intro ys vs hw hr; cases ys with
   | nil => cases hr; exact .nil
   | cons y ys => exact hw.elim
  | cons x xs ih => intro ys vs hw hr; cases ys with
   | nil => exact hw.elim
   | cons y ys => cases hr with
    | cons h1 hr => exact .cons (at_ hw.1 h1) (ih hw.2 hr)
 have v_ : ∀ {x y : V} {v : Value}, wkV σ ρ F x y -> XW (Tof T0 X) h σ.ob w x v -> XW (Tof T0 X') h' σ'.ob w y v := by
  intro x y v hw hr
  cases y with
  | any => trivial
  | one y => cases x with
   | one x => exact at_ hw hr
   | fix u x => cases x with
    | one x => exact at_ hw hr.2
    | _ => exact hw.elim
   | _ => exact hw.elim
  | agg ys => cases x with
   | agg xs => obtain ⟨cs, e, hr⟩ := hr; exact ⟨cs, e, ru hw hr⟩
   | fix u x => cases x with
    | agg xs => obtain ⟨cs, e, hr⟩ := hr.2; exact ⟨cs, e, ru hw hr⟩
    | _ => exact hw.elim
   | _ => exact hw.elim
  | tup ys => cases x with
   | fix u x => cases x <;> exact hw.elim
   | _ => exact hw.elim
  | cnd g y => cases x with
   | fix u x => cases x <;> exact hw.elim
   | _ => exact hw.elim
  | fix u' y => cases x with
   | fix u x => cases x with
    | one x => cases y with
     | one y => obtain ⟨rfl, hw⟩ := hw; exact ⟨hr.1, at_ hw hr.2⟩
     | _ => exact hw.elim
    | agg xs => cases y with
     | agg ys => obtain ⟨rfl, hw⟩ := hw; obtain ⟨e1, cs, e, hr⟩ := hr; exact ⟨e1, cs, e, ru hw hr⟩
     | _ => exact hw.elim
    | _ => cases y <;> exact hw.elim
   | _ => cases y <;> exact hw.elim
 have wC : ∀ t j, σ'.ob t j ≠ .none -> (Js ρ t j = none /\ ∀ b, ¬ (h' t j).u b) \/ ∃ o, Js ρ t j = some o /\ σ.ob o.1 o.2 ≠ .none /\ inF F o.1 o.2 = false /\ h' t j = h o.1 o.2 := by
  intro t j hn
  cases ho : σ'.ob t j with
  | none => exact absurd ho hn
  | arr q size rows =>
   rcases tN t j q size rows ho with ⟨wx, _⟩ | ⟨t2, j2, p, wx, hF, w6, _⟩
   ·exact .inl ⟨wx, fun b hb => by simp only [h', wx, Hd.of, blk] at hb; cases hb⟩
   ·exact .inr ⟨(t2, j2), wx, by rw [w6]; simp, hF, by simp only [h', wx]⟩
  | lit size rows => exact absurd ho (sI _ _ _ _)
  | box cells =>
   obtain ⟨t2, j2, cs, wx, hF, w6, _⟩ := sJ t j cells ho
   exact .inr ⟨(t2, j2), wx, by rw [w6]; simp, hF, by simp only [h', wx]⟩
 refine ⟨X', h', by rw [r.size, hlen], r.defers, r.hB, fun b hb => ?_, r.hT, fun t ht => ?_, fun t j => ?_, fun t j b hn hb => ?_, fun t j b hn hb => ?_, fun t j t' j' b hn wx hb wW => ?_⟩
 ·rcases hb with hb | ⟨t, j, _, hn, hb⟩
  ·exact r.hX b hb
  ·have := r.own t j b hn hb; exact ⟨this.1, this.2.2⟩
 ·exact v_ (vC t).1 (r.slot t (by rw [hlen]; exact ht))
 ·cases ho : σ'.ob t j with
  | none => trivial
  | lit size rows => exact absurd ho (sI _ _ _ _)
  | arr q size rows =>
   rcases tN t j q size rows ho with ⟨hn, rfl⟩ | ⟨u, k, p, hn, _, w6, hp⟩
   ·have : h' t j = Hd.of (.slice none 0 0) := by simp only [h', hn]
    rw [this]
    cases q with
    | false => exact ⟨0, [], World.ownsRow_nil w 0 0 size, (by intro q hq; cases hq), .nil⟩
    | true => exact ⟨0, [], World.ownsRow_nil w 0 0 size, (by intro q hq; cases hq), QU.nil _, fun k x d hx => by simp at hx⟩
   ·have he : h' t j = h u k := by simp only [h', hn]
    rw [he]
    have h0 := r.obj u k
    rw [w6] at h0
    cases p with
    | false =>
     obtain ⟨e, xs, wL, hz, wG⟩ := h0
     cases q with
     | false => exact ⟨e, xs, wL, hz, wG.imp fun _ _ => Rd.mono sr⟩
     | true =>
      rcases hp with hp | ⟨_, vg⟩
      ·cases hp
      ·have rA : ∀ d ∈ rows.flatten, d.scalar = true := fun d hd => by
        obtain ⟨r0, uo, hdr⟩ := List.mem_flatten.1 hd
        exact vg r0 uo d hdr
       exact ⟨e, xs, wL, hz, Gt wG rA, fun k x d _ hd hs => by rw [rA d (List.mem_of_getElem? hd)] at hs; cases hs⟩
    | true =>
     rcases hp with rfl | ⟨hp, _⟩
     ·exact h0
     ·cases hp
  | box cells =>
   obtain ⟨u, k, cs, hn, _, w6, uB⟩ := sJ t j cells ho
   have h0 := r.obj u k
   rw [w6] at h0
   obtain ⟨b, vs, e, hv, hh, wG⟩ := h0
   have he : h' t j = h u k := by simp only [h', hn]
   rw [he]
   exact ⟨b, vs, e, hv, hh, ru uB wG⟩
 ·rcases wC t j hn with ⟨hr, _⟩ | ⟨o, hr, tu, hF, he⟩
  ·simp only [h', hr, Hd.of, blk] at hb; cases hb
  ·rw [he] at hb ⊢; exact r.ub o.1 o.2 b tu hb
 ·rcases wC t j hn with ⟨_, tu⟩ | ⟨o, hr, tu, hF, he⟩
  ·exact absurd hb (tu b)
  ·rw [he] at hb
   have h0 := r.own o.1 o.2 b tu hb
   refine ⟨h0.1, ?_, h0.2.2⟩
   rintro (hx | ⟨t2, j2, iA, mG, wo⟩)
   ·exact h0.2.1 hx
   ·obtain ⟨h3, h4⟩ := r.inj o.1 o.2 t2 j2 b tu mG hb wo
    rw [h3, h4] at hF; rw [hF] at iA; cases iA
 ·rcases wC t j hn with ⟨_, tu⟩ | ⟨o, hr, tu, _, he⟩
  ·exact absurd hb (tu b)
  ·rcases wC t' j' wx with ⟨_, pf⟩ | ⟨o', vR, pf, _, ou⟩
   ·exact absurd wW (pf b)
   ·rw [he] at hb
    rw [ou] at wW
    obtain ⟨h3, h4⟩ := r.inj o.1 o.2 o'.1 o'.2 b tu pf hb wW
    have : o = o' := Prod.ext h3 h4
    subst this
    exact Fe wb hn wx hr vR
theorem QA {σ σ' : St} (hs : Vj σ [] [] σ σ' 0) : Wk σ σ' := Y5 [] [] rfl hs
attribute [simp] Js inF Mw S8 wkV N2 Hb Vj Qj xT HK qw
end Go.Vm
namespace Go.Vm
open Go.RowKit
def Yg (P : Program) (σ : St) : List Operand -> List TypeId -> Prop × Option (List (List D))
 | [], _ => (True, some [])
 | x :: xs, t :: ts => (gOf (look P σ t x) = true /\ (Yg P σ xs ts).1, match (unc (look P σ t x)).Qe σ, (Yg P σ xs ts).2 with | some r, some rs => some (r :: rs) | _, _ => none)
 | _ :: _, [] => (False, none)
theorem zk {P : Program} {σ : St} : ∀ {xs : List Operand} {ts : List TypeId} {rs : List (List D)}, (Yg P σ xs ts).1 -> (Yg P σ xs ts).2 = some rs -> XP P σ xs ts rs
 | [], _, rs, _, h => by simp [Yg] at h; exact h
 | x :: xs, t :: ts, rs, h1, h => by
  simp only [Yg] at h
  split at h
  ·rename_i r oW hr uN
   cases h
   exact ⟨h1.1, r, oW, hr, zk h1.2 uN, rfl⟩
  ·cases h
 | _ :: _, [], _, h1, _ => h1.elim
attribute [simp] Yg
theorem R8 {P : Program} {ops : Array Oper} {bar : Oper -> Bool} {o : Oper} {rest : List Oper} {σ : St} {Q : St -> Prop} {c : Call} {f : FuncId} {d : Nat} {own : Bool} {rows res : List (List D)} (wA : o.op = .call c) (hc : c.callee = .value (.func f)) (hg : o.guard = none) (hd : o.dst = some d)
  (hs : Xk P f own rows res) (wU : (Yg P σ c.args.toList c.argTypes.toList).2 = some rows) (wK : (Yg P σ c.args.toList c.argTypes.toList).1) (wa : Z5 P σ c.args.toList c.argTypes.toList = true \/ Qq own res) (h : Ev P ops bar rest (σ.put d (Kx res)) Q) : xg P ops bar o rest σ Q :=
 L7 wA hc hg hd (zk wK wU) hs wa h
theorem FZ {P : Program} {ops : Array Oper} {bar : Oper -> Bool} {o : Oper} {rest : List Oper} {σ : St} {Q : St -> Prop} {c : Call} {f : FuncId} {d : Nat} {rows res : List (List D)} (qs : List Bool) (wA : o.op = .call c) (hc : c.callee = .value (.func f)) (hg : o.guard = none) (hd : o.dst = some d)
  (hs : YD P f rows res) (wU : (Yg P σ c.args.toList c.argTypes.toList).2 = some rows) (wK : (Yg P σ c.args.toList c.argTypes.toList).1) (hq : KQ qs res.flatten) (hf : σ.fresh d = true) (h : Ev P ops bar rest (σ.new d (xZ d res) (Zs qs res.flatten)) Q) : xg P ops bar o rest σ Q :=
 HE qs wA hc hg hd (zk wK wU) hs hq hf h
theorem MH {P : Program} {ops : Array Oper} {bar : Oper -> Bool} {o : Oper} {rest : List Oper} {σ : St} {Q : St -> Prop} {c : Call} {f : FuncId} {d j dj : Nat} {want g own : Bool} {rows : List (List D)} {res : List D} (wA : o.op = .call c) (hc : c.callee = .value (.func f)) (hg : o.guard = some (j, want)) (hd : o.dst = some d)
  (ve : (ops[j]?).bind (·.dst) = some dj) (vp : zg want (σ.get dj) = some g) (hs : g = true -> Xk P f own rows [res])
  (wU : (Yg P σ c.args.toList c.argTypes.toList).2 = some rows) (wN : dj < σ.length)
  (wK : g = true -> (Yg P σ c.args.toList c.argTypes.toList).1) (wa : Z5 P σ c.args.toList c.argTypes.toList = true \/ Qq own [res]) (h : Ev P ops bar rest (σ.put d (.cnd g (Kx [res]))) Q) : xg P ops bar o rest σ Q :=
 Iv wA hc hg hd ve wN vp (fun hh => zk (wK hh) wU) hs wa h
def Yd : Nat -> List (Nat × V × List Ob) -> St
 | n, [] => List.replicate n (V.any, [])
 | n, (t, v, os) :: l => (Yd n l).new t v os
attribute [simp] Yd
end Go.Vm
namespace Go.Vm
open Go.RowKit
def EH (P : Program) (b : Bool) (x y : Code) (Q : Exit -> St -> Prop) (σ : St) : Prop := (b = true -> AWP P x Q σ) /\ (b = false -> AWP P y Q σ)
def EC (P : Program) (c : Code) (Q : Exit -> St -> Prop) (σ : St) : Prop := AWP P (.loop c) Q σ
def EO (P : Program) (id : Nat) (ops : Array Oper) (Q : Exit -> St -> Prop) (σ : St) : Prop := AWP P (.region id ops true) Q σ
def PM (P : Program) (c : Code) (Q : Exit -> St -> Prop) (σ : St) : Prop := AWP P c Q σ
def Wx (P : Program) : Code -> (Exit -> St -> Prop) -> St -> Prop
 | .seq x y, Q, σ => Wx P x (OO (Wx P y Q) Q) σ
 | .region _ ⟨l⟩ false, Q, σ => Ev P ⟨l⟩ (fun _ => true) l σ (Q .normal)
 | .region id ops true, Q, σ => EO P id ops Q σ
 | .cond c x y, Q, σ => (match look P σ 0 c with | .one (.d (.bool b)) => EH P b x y Q σ | _ => False)
 | .block id c, Q, σ => Wx P c (Vg id Q) σ
 | .loop c, Q, σ => EC P c Q σ
 | .skip, Q, σ => Q .normal σ
 | .exit id, Q, σ => Q (.exit id) σ
 | .ret, Q, σ => Q .ret σ
 | .rangeFunc f ps x y, Q, σ => PM P (.rangeFunc f ps x y) Q σ
 | .scope c, Q, σ => PM P (.scope c) Q σ
 | .label l, Q, σ => PM P (.label l) Q σ
 | .goto l, Q, σ => PM P (.goto l) Q σ
 | .refuse s, Q, σ => PM P (.refuse s) Q σ
theorem qi {P : Program} : ∀ {c : Code} {Q : Exit -> St -> Prop} {σ : St}, Wx P c Q σ -> AWP P c Q σ
 | .seq x y, Q, σ, h => by
  rw [Wx] at h
  refine Fp (Lc (fun e σ' hq => ?_) (qi h))
  cases e <;> simp only [OO] at hq ⊢ <;> first | exact qi hq | exact hq
 | .region _ ⟨l⟩ false, Q, σ, h => Er h
 | .region id ops true, Q, σ, h => h
 | .cond c x y, Q, σ, h => by
  rw [Wx] at h
  split at h
  ·rename_i b hb; exact G7 hb h.1 h.2
  ·exact h.elim
 | .block id c, Q, σ, h => GI (qi (by rw [Wx] at h; exact h))
 | .loop c, Q, σ, h => h
 | .skip, Q, σ, h => FG h
 | .exit id, Q, σ, h => FC h
 | .ret, Q, σ, h => Fs h
 | .rangeFunc _ _ _ _, Q, σ, h => h
 | .scope _, Q, σ, h => h
 | .label _, Q, σ, h => h
 | .goto _, Q, σ, h => h
 | .refuse _, Q, σ, h => h
class KS where
 c : Code
class Qh where
 ops : Array Oper
 bar : Oper -> Bool
class JT where
 l : List Oper
class OpI where
 o : Oper
class inductive Fr where
 | fin (Q : Exit -> St -> Prop)
 | sq (y : Code) (k : Fr)
 | blk (id : Nat) (k : Fr)
 | nxt (n : St -> Prop) (k : Fr)
def Fr.run (P : Program) : Fr -> Exit -> St -> Prop
 | .fin Q, e, σ => Q e σ
 | .sq y k, e, σ => OO (Wx P y (Fr.run P k)) (Fr.run P k) e σ
 | .blk id k, e, σ => Vg id (Fr.run P k) e σ
 | .nxt n k, e, σ => OO n (Fr.run P k) e σ
def WI (P : Program) (σ : St) [c : KS] [k : Fr] : Prop := Wx P c.c (k.run P) σ
def LI (P : Program) (e : Exit) (σ : St) [k : Fr] : Prop := k.run P e σ
def EI (P : Program) (σ : St) [A : Qh] [l : JT] [k : Fr] : Prop := Ev P A.ops A.bar l.l σ (k.run P .normal)
def SI (P : Program) (σ : St) [A : Qh] [o : OpI] [l : JT] [k : Fr] : Prop := xg P A.ops A.bar o.o l.l σ (k.run P .normal)
def CI (P : Program) (b : Bool) (σ : St) [x : KS] [y : KS] [k : Fr] : Prop := EH P b x.c y.c (k.run P) σ
def Wi (P : Program) (σ : St) [c : KS] [k : Fr] : Prop := EC P c.c (k.run P) σ
def DI (P : Program) (id : Nat) (σ : St) [A : Qh] [k : Fr] : Prop := EO P id A.ops (k.run P) σ
section
variable {P : Program} {σ : St} {k : Fr}
theorem Eh {x y : Code} : @WI P σ ⟨.seq x y⟩ k = @WI P σ ⟨x⟩ (.sq y k) := by
 simp only [WI]
 rw [Wx]
 congr 1
theorem H3 {id : Nat} {l : List Oper} : @WI P σ ⟨.region id ⟨l⟩ false⟩ k = @EI P σ ⟨⟨l⟩, fun _ => true⟩ ⟨l⟩ k := by simp only [WI, EI, Wx]
theorem F4 {id : Nat} {ops : Array Oper} : @WI P σ ⟨.region id ops true⟩ k = @DI P id σ ⟨ops, fun _ => true⟩ k := by simp only [WI, DI, Wx]
theorem Fk {c : Operand} {x y : Code} : @WI P σ ⟨.cond c x y⟩ k = (match look P σ 0 c with | .one (.d (.bool b)) => @CI P b σ ⟨x⟩ ⟨y⟩ k | _ => False) := by simp only [WI, CI, Wx]
theorem Gm {id : Nat} {c : Code} : @WI P σ ⟨.block id c⟩ k = @WI P σ ⟨c⟩ (.blk id k) := by
 simp only [WI]
 rw [Wx]
 congr 1
theorem Fy {c : Code} : @WI P σ ⟨.loop c⟩ k = @Wi P σ ⟨c⟩ k := by simp only [WI, Wi, Wx]
theorem EA : @WI P σ ⟨.skip⟩ k = @LI P .normal σ k := by simp only [WI, LI, Wx]
theorem Fu {id : Nat} : @WI P σ ⟨.exit id⟩ k = @LI P (.exit id) σ k := by simp only [WI, LI, Wx]
theorem Ez : @WI P σ ⟨.ret⟩ k = @LI P .ret σ k := by simp only [WI, LI, Wx]
theorem En {Q : Exit -> St -> Prop} {e : Exit} : @LI P e σ (.fin Q) = Q e σ := rfl
theorem DH {y : Code} : @LI P .normal σ (.sq y k) = @WI P σ ⟨y⟩ k := rfl
theorem IS {y : Code} {id : Nat} : @LI P (.exit id) σ (.sq y k) = @LI P (.exit id) σ k := rfl
theorem GK {y : Code} : @LI P .ret σ (.sq y k) = @LI P .ret σ k := rfl
theorem Et {n : St -> Prop} : @LI P .normal σ (.nxt n k) = n σ := rfl
theorem La {n : St -> Prop} {id : Nat} : @LI P (.exit id) σ (.nxt n k) = @LI P (.exit id) σ k := rfl
theorem I0 {n : St -> Prop} : @LI P .ret σ (.nxt n k) = @LI P .ret σ k := rfl
theorem Ea {id : Nat} : @LI P .normal σ (.blk id k) = @LI P .normal σ k := rfl
theorem Iw {id : Nat} : @LI P .ret σ (.blk id k) = @LI P .ret σ k := rfl
theorem LY {id pe : Nat} : @LI P (.exit pe) σ (.blk id k) = if pe = id then @LI P .normal σ k else @LI P (.exit pe) σ k := rfl
theorem Ek {A : Qh} : @EI P σ A ⟨[]⟩ k = @LI P .normal σ k := by simp only [EI, LI, Ev]
theorem F1 {A : Qh} {o : Oper} {rest : List Oper} : @EI P σ A ⟨o :: rest⟩ k =
  (if stops P A.bar o then @SI P σ A ⟨o⟩ ⟨rest⟩ k else
  match o.guard with
  | none =>
   (match o.dst with
   | some d => (evS P σ o d).1 /\ @EI P (evS P σ o d).2 A ⟨rest⟩ k
   | none => (match o.op with | .store T x y => if E1 P σ T x y then @SI P σ A ⟨o⟩ ⟨rest⟩ k else (IL P σ T x y).1 /\ @EI P (IL P σ T x y).2 A ⟨rest⟩ k | _ => False))
  | some (j, want) =>
   (match (A.ops[j]?).bind (·.dst), o.dst with
   | some dj, some d => (match zg want (σ.get dj) with
    | some g => (dj < σ.length /\ (g = true -> (evV P σ o.op o.type).1 /\ gOf (evV P σ o.op o.type).2 = true /\ (unc (evV P σ o.op o.type).2).flat = true)) /\ @EI P (σ.put d (.cnd g (unc (evV P σ o.op o.type).2))) A ⟨rest⟩ k
    | none => False)
   | _, _ => False)) := by
 simp only [EI, SI]
 rw [Ev]
 rfl
end
section
variable {P : Program} {σ : St} {k : Fr}
theorem Gf {f : FuncId} {fn : Func} {c : Code} (hf : P.funcs[f]? = some fn) (hb : fn.body = some c) (wb : kJ P f = true) {own : Bool} {args res : List (List D)}
  (hw : @WI P (zq fn.ntmps args) ⟨c⟩ (.fin (L5 P fn own res))) : Xk P f own args res := Mm hf hb wb (qi hw)
theorem HZ {A : Qh} {o : OpI} {l : JT} {c : Call} {f : FuncId} {d j dj : Nat} {want g own : Bool} {rows : List (List D)} {res : List D} (wA : o.o.op = .call c) (hc : c.callee = .value (.func f)) (hg : o.o.guard = some (j, want)) (hd : o.o.dst = some d)
  (ve : (A.ops[j]?).bind (·.dst) = some dj) (vp : zg want (σ.get dj) = some g) (hs : g = true -> Xk P f own rows [res])
  (wU : (Yg P σ c.args.toList c.argTypes.toList).2 = some rows) (wN : dj < σ.length)
  (wK : g = true -> (Yg P σ c.args.toList c.argTypes.toList).1) (wa : Z5 P σ c.args.toList c.argTypes.toList = true \/ Qq own [res]) (h : @EI P (σ.put d (.cnd g (Kx [res]))) A l k) : @SI P σ A o l k :=
 MH wA hc hg hd ve vp hs wU wN wK wa h
theorem toStr {A : Qh} {o : OpI} {rest : JT} {S T : TypeId} {x : Operand} {d : Nat} {l : List UInt8} (wA : o.o.op = .convert S T x) (hg : o.o.guard = none) (hd : o.o.dst = some d)
  (h1 : gOf (look P σ S x) = true) (h2 : VY P S = true) (h3 : j7 P T = true) (h4 : JG σ (unc (look P σ S x)) 1 (QE l)) (h : @EI P (σ.put d (.one (.d (.str ⟨l.toArray⟩)))) A rest k) : @SI P σ A o rest k :=
 Ir wA hg hd h1 h2 h3 h4 h
theorem Fm {A : Qh} {o : OpI} {rest : JT} {S T : TypeId} {x : Operand} {d : Nat} {s : ByteArray} (wA : o.o.op = .convert S T x) (hg : o.o.guard = none) (hd : o.o.dst = some d)
  (h1 : gOf (look P σ S x) = true) (h2 : j7 P S = true) (h3 : VY P T = true) (h4 : unc (look P σ S x) = .one (.d (.str s))) (h5 : s.size <= 9223372036854775807) (h : @EI P (σ.put d (.one (.d (.sl 1 (QE s.data.toList))))) A rest k) : @SI P σ A o rest k :=
 Mk wA hg hd h1 h2 h3 h4 h5 h
theorem GN {f : FuncId} {fn : Func} {c : Code} (hf : P.funcs[f]? = some fn) (hb : fn.body = some c) (wb : kJ P f = true) {args res : List (List D)}
  (hw : @WI P (zq fn.ntmps args) ⟨c⟩ (.fin (FI P fn res))) : YD P f args res := Oj hf hb wb (qi hw)
def Mu (o : Oper) : Bool := match o.op with | .call ⟨.value _, _, _⟩ => false | _ => true
theorem evI {A : Qh} {o : OpI} {l : JT} {d : Nat} (hp : Mu o.o = true) (hg : o.o.guard = none) (hd : o.o.dst = some d) (h : (evS P σ o.o d).1 /\ @EI P (evS P σ o.o d).2 A l k) : @SI P σ A o l k := by
 refine Fl (fun c wA f hc => ?_) hg hd h.1 h.2
 obtain ⟨cc, ca, ct⟩ := c
 simp only at hc; subst hc
 simp [Mu, wA] at hp
theorem Dj {A : Qh} {o : OpI} {l : JT} {d : Nat} {T : TypeId} {n : Nat} {parts : Array (Nat × Operand)} (wA : o.o.op = .buildSlice T n parts) (hg : o.o.guard = none) (hd : o.o.dst = some d)
  (h1 : σ.fresh d = true /\ Ya P T = true /\ XH P (ZD P T) = true /\ 0 < P.cellsOf (ZD P T) /\ parts.toList.length = n /\ n * P.cellsOf (ZD P T) <= 16777216) (h2 : (Qf P σ (ZD P T) (P.cellsOf (ZD P T)) parts.toList 0).1)
  (h3 : Zw d (Qf P σ (ZD P T) (P.cellsOf (ZD P T)) parts.toList 0).2.flatten = false)
  (h : @EI P (σ.new d (.one (.sref d 0 0 (Qf P σ (ZD P T) (P.cellsOf (ZD P T)) parts.toList 0).2.length)) [.lit (P.cellsOf (ZD P T)) (Qf P σ (ZD P T) (P.cellsOf (ZD P T)) parts.toList 0).2]) A l k) : @SI P σ A o l k := FU wA hg hd h1 h2 h3 h
theorem Dq {A : Qh} {o : OpI} {l : JT} {d : Nat} {T : TypeId} {n : Nat} {parts : Array (Nat × Operand)} (wA : o.o.op = .buildSlice T n parts) (hg : o.o.guard = none) (hd : o.o.dst = some d)
  (h1 : Ya P T = true /\ XH P (ZD P T) = true /\ 0 < P.cellsOf (ZD P T) /\ parts.toList.length = n /\ n * P.cellsOf (ZD P T) <= 16777216) (h2 : (zQ P σ (ZD P T) (P.cellsOf (ZD P T)) parts.toList 0).1)
  (h : @EI P (σ.put d (.one (.d (.sl (P.cellsOf (ZD P T)) (zQ P σ (ZD P T) (P.cellsOf (ZD P T)) parts.toList 0).2)))) A l k) : @SI P σ A o l k := Gi wA hg hd h1 h2 h
theorem DP {A : Qh} {o : OpI} {l : JT} {d : Nat} {x y : Operand} {t : TypeId} {wI news : List (List D)} {l1 l2 : List (Nat × Nat)} {size : Nat} (wA : o.o.op = .call ⟨.builtin .append, #[x, y], #[t, t]⟩) (hg : o.o.guard = none) (hd : o.o.dst = some d) (w7 : A.bar o.o = true)
  (vK : size = P.cellsOf (ZD P t)) (h1 : gOf (look P σ t x) = true /\ gOf (look P σ t y) = true /\ Ya P t = true /\ XH P (ZD P t) = true /\ 0 < P.cellsOf (ZD P t))
  (h2 : (qf σ (unc (look P σ t x)) size).1 /\ (qf σ (unc (look P σ t x)) size).2 = (wI, l1)) (h3 : (qN σ (unc (look P σ t y)) size).1 /\ (qN σ (unc (look P σ t y)) size).2 = (news, l2))
  (h4 : (l1 ++ l2).Nodup /\ (σ.Zq (l1 ++ l2)).fresh d = true) (h5 : (wI.length + news.length) * P.bytesOf (ZD P t) <= 140737488355328 /\ wI.length + news.length <= 9223372036854775807)
  (h : @EI P ((σ.Zq (l1 ++ l2)).new d (.one (.sref d 0 0 (wI.length + news.length))) [.arr true size (wI ++ news)]) A l k) : @SI P σ A o l k := G4 wA hg hd w7 vK h1 h2 h3 h4 h5 h
theorem Dt {A : Qh} {o : OpI} {l : JT} {T : TypeId} {x y : Operand} {t j i c k' q n size : Nat} {s rows : List (List D)} {ds : List D} {L : List (Nat × Nat)} (wA : o.o.op = .store T x y) (hg : o.o.guard = none) (hd : o.o.dst = none) (w7 : A.bar o.o = true) {off : Nat}
  (hx : unc (look P σ 0 x) = .one (.tref t j i c (some off))) (s8 : off = k' * n + q) (ho : σ.ob t j = .arr true size rows) (hi : i < rows.length) (hc : (rowAt rows i)[c]? = some (.sl n s)) (hk : k' < s.length) (h1 : ym P T = true /\ gOf (look P σ 0 x) = true /\ gOf (look P σ T y) = true /\ (unc (look P σ T y)).flat = true)
  (h2 : Qd σ (unc (look P σ T y)).cells = some ds) (h3 : Xj σ (unc (look P σ T y)).cells) (h4 : YL (unc (look P σ T y)).cells = L) (h5 : L.Nodup /\ (t, j) ∉ L) (h6 : ds.length = P.cellsOf T /\ q + P.cellsOf T <= n)
  (h : @EI P ((σ.Zq L).Zh t j (.arr true size (rows.set i (place (rowAt rows i) c [.sl n (s.set k' (place (rowAt s k') q ds))])))) A l k) : @SI P σ A o l k := FR wA hg hd w7 ⟨s8 ▸ hx, ho, hi, hc, hk, h1, h2, h3, h4, h5, h6⟩ h
end
attribute [simp] F4 Eh H3 Fk Gm Fy EA Fu Ez En DH IS GK Et La I0 Ea Iw LY Ek F1
end Go.Vm
namespace Go.Vm
open Go.RowKit
def Cells (w : World) : CS := fun b _ => b < w.heap.size
def Reads (w : World) (v : Value) (row : List D) : Prop := ∃ cs, JI v cs /\ Zg (Rd (Cells w) w) cs row
theorem O8 {P : Program} {f : FuncId} {own : Bool} {rows : List (List D)} {wq : List Value} {w : World} (h : Xk P f own rows [[.bool true]]) (hv : Zg (Reads w) wq rows) :
  Calls P f wq.toArray w fun e w' => e = .returned (.bool true) /\ Below w.heap.size w w' := by
 refine (h.2 (Cells w) w wq (fun _ _ hb => hb) hv).mono ?_
 rintro e w' ⟨vs, wc, Y, rfl, hb, _, hf, hr, _⟩
 refine ⟨?_, hb⟩
 cases hr with
 | cons h1 hr =>
  cases hr
  cases hf with
  | cons h2 hf =>
   cases hf
   cases h1 with
   | cons h3 h1 =>
    cases h1
    have h4 : ∀ v, Ki own (Tof (Cells w) Y) w' v (.bool true) -> Rd (Tof (Cells w) Y) w' v (.bool true) := by
     intro v hv
     unfold Ki at hv
     split at hv
     ·exact hv
     ·exact hv
    have h4 := h4 _ h3
    cases h4
    rcases h2 with ⟨v, uB, iw, _⟩ | ⟨hl, _⟩
    ·cases uB; rw [iw]; rfl
    ·simp at hl
end Go.Vm
namespace Go.Vm
open Go.RowKit
def WL (P : Program) : Nat -> TypeId -> Bool
 | 0, _ => false
 | n + 1, t =>
  match P.underlying t with
  | some .bool => true
  | some (.int _) => true
  | some .string => true
  | some (.slice e) => WL P n e
  | some (.struct fs) => fs.toList.all (fun f => WL P n f.type) && P.cellsOf t != 1
  | _ => false
def TyR (P : Program) : Nat -> TypeId -> List D -> Prop
 | 0, _, _ => False
 | n + 1, t, row =>
  match P.underlying t with
  | some .bool => ∃ b, row = [.bool b]
  | some (.int k) => ∃ m, row = [.int k m] /\ k.min <= m /\ m <= k.max
  | some .string => ∃ s, row = [.str s] /\ s.size <= maxLen
  | some (.slice e) => ∃ rows, row = [.sl (P.cellsOf e) rows] /\ rows.length <= maxLen /\ ∀ r ∈ rows, TyR P n e r /\ r.length = P.cellsOf e
  | some (.struct fs) => row.length = P.cellsOf t /\ ∀ f ∈ fs.toList, TyR P n f.type (cut row f.offset (P.cellsOf f.type))
  | _ => False
def Vu (P : Program) : Nat -> List Field -> Nat -> Bool
 | k, [], n => k == n
 | k, f :: fs, n => f.offset == k && Vu P (k + P.cellsOf f.type) fs n
def Ni (P : Program) : Nat -> TypeId -> Bool
 | 0, _ => false
 | n + 1, t =>
  match P.underlying t with
  | some .bool => P.cellsOf t == 1
  | some (.int _) => P.cellsOf t == 1
  | some .string => P.cellsOf t == 1
  | some (.slice e) => P.cellsOf t == 1 && Ni P n e
  | some (.struct fs) => fs.toList.all (fun f => Ni P n f.type) && Vu P 0 fs.toList (P.cellsOf t)
  | _ => false
theorem TE {α β : Type} {f : α -> Option β} : ∀ {l : List α} {m : List β}, l.mapM f = some m -> l.length = m.length /\ ∀ (i : Nat) a, l[i]? = some a -> ∃ b, m[i]? = some b /\ f a = some b
 | [], m, h => by simp at h; subst h; exact ⟨rfl, fun i a ha => by simp at ha⟩
 | x :: l, m, h => by
  simp only [List.mapM_cons, Option.bind_eq_bind, Option.bind_eq_some_iff] at h
  obtain ⟨b, hb, bs, mW, h⟩ := h
  simp at h; subst h
  obtain ⟨h1, h2⟩ := TE mW
  refine ⟨by simp [h1], fun i a ha => ?_⟩
  cases i with
  | zero => simp at ha; subst ha; exact ⟨b, by simp, hb⟩
  | succ i => simpa using h2 i a (by simpa using ha)
theorem GD {w : World} {a : Addr} {n : Nat} {cs : List Value} (h : w.cells? 0 a n = some cs) : cs.length = n /\ ∀ i v, cs[i]? = some v -> w.cell? (a.add i) = some v := by
 unfold World.cells? at h
 simp at h
 obtain ⟨h1, h2⟩ := TE h
 simp at h1
 refine ⟨h1.symm, fun i v hv => ?_⟩
 have hi : i < n := by have := (List.getElem?_eq_some_iff.1 hv).1; omega
 obtain ⟨b, hb, hf⟩ := h2 i i (by simp [hi])
 rw [hv] at hb; cases hb; exact hf
theorem Wp {w : World} {P : Program} {q n : Nat} {cs : List Value} (hl : cs.length = n) : ∀ {fs : List Field} {k : Nat}, Vu P k fs n = true -> k <= n ->
  (∀ f ∈ fs, ∃ row, Zg (Rd (Cells w) w) (cut cs f.offset (P.cellsOf f.type)) row /\ TyR P q f.type row) ->
  ∃ tail, Zg (Rd (Cells w) w) (cs.drop k) tail /\ ∀ (pre : List D), pre.length = k -> ∀ f ∈ fs, TyR P q f.type (cut (pre ++ tail) f.offset (P.cellsOf f.type))
 | [], k, hc, hk, _ => by
  simp only [Vu, beq_iff_eq] at hc
  subst hc
  exact ⟨[], by rw [List.drop_eq_nil_of_le (by omega)]; exact .nil, fun _ _ f hf => by cases hf⟩
 | f :: fs, k, hc, hk, h => by
  simp only [Vu, Bool.and_eq_true, beq_iff_eq] at hc
  obtain ⟨row, wG, uO⟩ := h f (by simp)
  rw [hc.1] at wG
  have iy : k + P.cellsOf f.type <= n := by
   clear h wG uO
   have : ∀ (fs : List Field) (k : Nat), Vu P k fs n = true -> k <= n := by
    intro fs
    induction fs with
    | nil => intro k hh; simp [Vu] at hh; omega
    | cons g gs ih => intro k hh; simp only [Vu, Bool.and_eq_true, beq_iff_eq] at hh; have := ih _ hh.2; omega
   exact this _ _ hc.2
  have tr : row.length = P.cellsOf f.type := by rw [<- wG.length]; simp [cut]; omega
  obtain ⟨tail, mX, s9⟩ := Wp hl hc.2 iy (fun g hg => h g (by simp [hg]))
  refine ⟨row ++ tail, ?_, ?_⟩
  ·have : cs.drop k = cut cs k (P.cellsOf f.type) ++ cs.drop (k + P.cellsOf f.type) := by
    unfold cut
    rw [<- List.drop_drop]
    exact (List.take_append_drop _ _).symm
   rw [this]
   exact wG.append mX
  ·intro pre tE g hg
   rcases List.mem_cons.1 hg with rfl | hg
   ·have : cut (pre ++ (row ++ tail)) g.offset (P.cellsOf g.type) = row := by
     unfold cut
     rw [hc.1, <- tE, List.drop_left, <- tr, List.take_left]
    rw [this]; exact uO
   ·have := s9 (pre ++ row) (by rw [List.length_append, tE, tr]) g hg
    rw [<- List.append_assoc]; exact this
section
variable {H : Type} {enc : TypeId × Value -> H} {P : Program} {w : World} {sp : Nat -> Bool} {held : Bool} {fuel : Nat} {t : TypeId} {cs : List Value} {d : DataW H} {ps : List MemPlace}
theorem trod_bool (hu : P.underlying t = some .bool) (h : DataW.trod enc P w 0 sp held fuel t cs = some (d, ps)) : ∃ b, cs = [.bool b] := by
 cases fuel with
 | zero => simp [DataW.trod] at h
 | succ fuel =>
  unfold DataW.trod at h
  rw [hu] at h
  split at h <;> simp_all
theorem trod_int {k : IntKind} (hu : P.underlying t = some (.int k)) (h : DataW.trod enc P w 0 sp held fuel t cs = some (d, ps)) : ∃ m, cs = [.int k m] /\ k.min <= m /\ m <= k.max := by
 cases fuel with
 | zero => simp [DataW.trod] at h
 | succ fuel =>
  unfold DataW.trod at h
  rw [hu] at h
  split at h <;> simp_all [Lit.wf]
theorem FN (hu : P.underlying t = some .string) (h : DataW.trod enc P w 0 sp held fuel t cs = some (d, ps)) : ∃ s, cs = [.string s] /\ s.size <= maxLen := by
 cases fuel with
 | zero => simp [DataW.trod] at h
 | succ fuel =>
  unfold DataW.trod at h
  rw [hu] at h
  split at h <;> simp_all
theorem trod_slice {e : TypeId} (hu : P.underlying t = some (.slice e)) (h : DataW.trod enc P w 0 sp held fuel t cs = some (d, ps)) :
  cs = [.slice none 0 0] \/ ∃ a len cap, cs = [.slice (some a) len cap] /\ len <= cap /\ cap <= maxLen /\
   ∀ i, i < len -> ∃ xs f x, w.cells? 0 (a.add (i * P.cellsOf e)) (P.cellsOf e) = some xs /\ DataW.trod enc P w 0 sp held f e xs = some x := by
 cases fuel with
 | zero => simp [DataW.trod] at h
 | succ fuel =>
  unfold DataW.trod at h
  rw [hu] at h
  split at h <;> first | (simp_all; done) | skip
  rename_i e' a len cap heq
  cases heq
  refine .inr ⟨a, len, cap, rfl, ?_⟩
  simp only at h
  split at h
  ·rename_i hc
   refine ⟨hc.2.1, hc.2.2, fun i hi => ?_⟩
   simp only [Option.bind_eq_some_iff] at h
   obtain ⟨elems, iq, _⟩ := h
   obtain ⟨hl, hg⟩ := TE iq
   obtain ⟨x, _, hx⟩ := hg i i (by simp [hi])
   obtain ⟨xs, h1, h2⟩ := Option.bind_eq_some_iff.1 hx
   exact ⟨xs, fuel, x, h1, h2⟩
  ·cases h
theorem trod_struct {fs : Array Field} (hu : P.underlying t = some (.struct fs)) (h : DataW.trod enc P w 0 sp held fuel t cs = some (d, ps)) :
  cs.length = P.cellsOf t /\ ∀ f ∈ fs.toList, ∃ q x, DataW.trod enc P w 0 sp held q f.type (cut cs f.offset (P.cellsOf f.type)) = some x := by
 cases fuel with
 | zero => simp [DataW.trod] at h
 | succ fuel =>
  unfold DataW.trod at h
  rw [hu] at h
  split at h <;> first | (simp_all; done) | skip
  rename_i fC heq
  cases heq
  split at h
  ·rename_i hc
   refine ⟨hc, fun f hf => ?_⟩
   simp only [Option.map_eq_some_iff] at h
   obtain ⟨xs, hx, _⟩ := h
   obtain ⟨_, hg⟩ := TE hx
   obtain ⟨i, hi⟩ := List.mem_iff_getElem?.1 hf
   obtain ⟨x, _, hx⟩ := hg i f hi
   exact ⟨fuel, x, hx⟩
  ·cases h
end
theorem Fo {w : World} {a : Addr} {v : Value} (h : w.cell? a = some v) : a.block < w.heap.size := by
 unfold World.cell? at h
 cases hh : w.heap[a.block]? with
 | none => simp [hh] at h
 | some o => exact (Array.getElem?_eq_some_iff.1 hh).1
theorem GU (a : Addr) (m k : Nat) (h : m <= k) : a.add k = (a.add m).add (k - m) := by
 simp only [Addr.add]
 by_cases h0 : m = 0
 ·subst h0; simp
 ·by_cases h1 : k - m = 0
  ·have : k = m := by omega
   subst this; simp [h0]
  ·have : k ≠ 0 := by omega
   simp only [h0, h1, this, if_false]
   congr 1
   omega
theorem I7 {w : World} {P : Program} {n size : Nat} {e : TypeId} {a : Addr} {len cap : Nat} (im : len <= cap) (pL : cap <= maxLen)
  (h : ∀ i, i < len -> ∃ xs row, w.cells? 0 (a.add (i * size)) size = some xs /\ Zg (Rd (Cells w) w) xs row /\ TyR P n e row) :
  ∃ rows : List (List D), Rd (Cells w) w (.slice (some a) len cap) (.sl size rows) /\ rows.length <= maxLen /\ ∀ r ∈ rows, TyR P n e r /\ r.length = size := by
 have key : ∀ m, m <= len -> ∃ rows : List (List D), rows.length = m /\ (∀ r ∈ rows, TyR P n e r /\ r.length = size) /\
   ∀ k d, rows.flatten[k]? = some d -> ∃ v, w.cell? (a.add k) = some v /\ Rd (Cells w) w v d := by
  intro m
  induction m with
  | zero => intro _; exact ⟨[], rfl, (by intro r hr; cases hr), (by intro k d hk; simp at hk)⟩
  | succ m ih =>
   intro hm
   obtain ⟨rows, hl, ht, hk⟩ := ih (by omega)
   obtain ⟨xs, row, hx, wG, uO⟩ := h m (by omega)
   obtain ⟨oq, ir⟩ := GD hx
   have tr : row.length = size := by rw [<- wG.length, oq]
   have vg : rows.flatten.length = m * size := by rw [Z8 rows size (fun r hr => (ht r hr).2), hl]
   refine ⟨rows ++ [row], by simp [hl], fun r hr => ?_, fun k d hd => ?_⟩
   ·rcases List.mem_append.1 hr with hr | hr
    ·exact ht r hr
    ·simp at hr; subst hr; exact ⟨uO, tr⟩
   ·rw [List.flatten_append, List.flatten_singleton] at hd
    rcases Nat.lt_or_ge k rows.flatten.length with wN | uk
    ·rw [List.getElem?_append_left wN] at hd
     exact hk k d hd
    ·rw [List.getElem?_append_right uk] at hd
     obtain ⟨v, hv, hr⟩ := wG.get' _ d hd
     refine ⟨v, ?_, hr⟩
     have := ir _ v hv
     rw [show a.add k = (a.add (m * size)).add (k - rows.flatten.length) by rw [vg]; rw [vg] at uk; exact GU a (m * size) k uk]
     exact this
 obtain ⟨rows, hl, ht, hk⟩ := key len (Nat.le_refl _)
 refine ⟨rows, ?_, by omega, ht⟩
 have pM : rows.flatten ≠ [] -> a.spot = none := by
  intro wC
  obtain ⟨d, tl, ot⟩ := List.exists_cons_of_ne_nil wC
  obtain ⟨v, hv, _⟩ := hk 0 d (by rw [ot]; rfl)
  have := World.cell?_spot hv
  simpa [Addr.add] using this
 refine .sl a len cap size rows (fun k => (w.cell? (a.add k)).getD undef) hl im pL (fun r hr => (ht r hr).2) pM (fun k d hd => ?_) (fun k d hd => ?_)
 ·obtain ⟨v, hv, _⟩ := hk k d hd
  have sK : a.spot = none := pM (by intro hh; rw [hh] at hd; simp at hd)
  have he : a.add k = ⟨a.block, a.off + k, none⟩ := by
   obtain ⟨b, o, sp⟩ := a
   simp only at sK
   subst sK
   simp only [Addr.add]
   split
   ·rename_i h0; subst h0; rfl
   ·rfl
  rw [he] at hv ⊢
  rw [hv]
  exact ⟨rfl, Fo (a := ⟨a.block, a.off + k, none⟩) hv⟩
 ·obtain ⟨v, hv, hr⟩ := hk k d hd
  simp only [hv, Option.getD_some]; exact hr
theorem U0 {H : Type} {enc : TypeId × Value -> H} {P : Program} {w : World} {sp : Nat -> Bool} {held : Bool} : ∀ (n : Nat) {fuel : Nat} {t : TypeId} {cs : List Value} {d : DataW H} {ps : List MemPlace}, WL P n t = true -> Ni P n t = true ->
  DataW.trod enc P w 0 sp held fuel t cs = some (d, ps) -> ∃ row, Zg (Rd (Cells w) w) cs row /\ TyR P n t row
 | 0, _, _, _, _, _, h, _, _ => by simp [WL] at h
 | n + 1, fuel, t, cs, d, ps, hp, hl, h => by
  simp only [WL] at hp
  simp only [Ni] at hl
  simp only [TyR]
  cases hu : P.underlying t with
  | none => simp [hu] at hp
  | some td =>
   cases td with
   | bool => obtain ⟨b, rfl⟩ := trod_bool hu h; exact ⟨_, .cons (.bool b) .nil, b, rfl⟩
   | int k => obtain ⟨m, rfl, h1, h2⟩ := trod_int hu h; exact ⟨_, .cons (.int k m) .nil, m, rfl, h1, h2⟩
   | string => obtain ⟨s, rfl, h1⟩ := FN hu h; exact ⟨_, .cons (.str s) .nil, s, rfl, h1⟩
   | slice e =>
    simp only [hu] at hp hl
    simp only [Bool.and_eq_true] at hl
    rcases trod_slice hu h with rfl | ⟨a, len, cap, rfl, h1, h2, h3⟩
    ·exact ⟨_, .cons (.nil (P.cellsOf e)) .nil, [], rfl, by simp, by simp⟩
    ·obtain ⟨rows, hr, tr, iu⟩ := I7 (P := P) (n := n) (size := P.cellsOf e) (e := e) h1 h2 (fun i hi => by
      obtain ⟨xs, f, x, hx, ht⟩ := h3 i hi
      obtain ⟨row, wG, uO⟩ := U0 n hp hl.2 (d := x.1) (ps := x.2) ht
      exact ⟨xs, row, hx, wG, uO⟩)
     exact ⟨_, .cons hr .nil, rows, rfl, tr, iu⟩
   | struct fs =>
    simp only [hu] at hp hl
    simp only [Bool.and_eq_true] at hp hl
    obtain ⟨h1, h2⟩ := trod_struct hu h
    obtain ⟨row, wG, s9⟩ := Wp (w := w) (P := P) (q := n) h1 hl.2 (Nat.zero_le _) (fun f hf => by
     obtain ⟨q, x, hx⟩ := h2 f hf
     exact U0 n (List.all_eq_true.1 hp.1 f hf) (List.all_eq_true.1 hl.1 f hf) (d := x.1) (ps := x.2) hx)
    refine ⟨row, by simpa using wG, ?_, fun f hf => by simpa using s9 [] rfl f hf⟩
    have := wG.length
    simp at this
    omega
   | _ => simp [hu] at hp
end Go.Vm
namespace Go.Vm
open Go.RowKit Go.WideShapes Go.ChangeAt Go.ChangeShapes
theorem O2 {H : Type} {enc : TypeId × Value -> H} {P : Program} {w : World} {sp : Nat -> Bool} {held : Bool} {n base : Nat} {t : TypeId} {v : Value} {d : DataW H} {ps : List MemPlace} {r : Reach}
  (hp : WL P n t = true) (hl : Ni P n t = true) (wb : Value.okWide P w r base t v) (h : DataW.Trod enc P w 0 sp held t v d ps) : ∃ row, Reads w v row /\ TyR P n t row := by
 obtain ⟨fuel, hf⟩ := h
 obtain ⟨row, wG, uO⟩ := U0 n hp hl hf
 refine ⟨row, ⟨v.cells.toList, ?_, wG⟩, uO⟩
 cases n with
 | zero => simp [WL] at hp
 | succ n =>
  simp only [WL] at hp
  cases hu : P.underlying t with
  | none => simp [hu] at hp
  | some td =>
   cases td with
   | bool => obtain ⟨b, rfl⟩ := okWide_bool hu wb; exact .inl ⟨_, rfl, rfl, rfl⟩
   | int k => obtain ⟨b, rfl⟩ := okWide_int hu wb; exact .inl ⟨_, rfl, rfl, rfl⟩
   | string => obtain ⟨b, rfl⟩ := okWide_string hu wb; exact .inl ⟨_, rfl, rfl, rfl⟩
   | slice e => obtain ⟨a, l, c, rfl⟩ := okWide_slice hu wb; exact .inl ⟨_, rfl, rfl, rfl⟩
   | struct fs =>
    obtain ⟨cs, rfl, vK⟩ := okWide_struct hu wb
    simp [hu] at hp
    exact .inr ⟨by simp [Value.cells, vK, hp.2], by simp [Value.cells]⟩
   | _ => simp [hu] at hp
def Nu (P : Program) (n : Nat) : List TypeId -> List (List D) -> Prop
 | [], [] => True
 | t :: ts, r :: rs => TyR P n t r /\ Nu P n ts rs
 | _, _ => False
def qS (P : Program) (n : Nat) (ts : List TypeId) : Bool := ts.all fun t => WL P n t && Ni P n t && P.readableRec t && decide (t < P.types.size)
theorem NV {H : Type} {enc : TypeId × Value -> H} {P : Program} {w : World} {sp : Nat -> Bool} {held : Bool} {n base : Nat} {r : Reach} : ∀ {ts : List TypeId} {vs : List Value} {ds : List (DataW H)} {ps : List MemPlace}, qS P n ts = true ->
  (∀ (j : Nat) t v, ts[j]? = some t -> vs[j]? = some v -> Value.okWide P w r base t v) -> DataW.TrodAll enc P w 0 sp held ts vs ds ps -> ∃ rows, Zg (Reads w) vs rows /\ Nu P n ts rows
 | [], [], [], _, _, _, _ => ⟨[], .nil, trivial⟩
 | t :: ts, v :: vs, d :: ds, _, hp, wb, h => by
  obtain ⟨p, q, h1, h2, _⟩ := h
  simp only [qS, List.all_cons, Bool.and_eq_true] at hp
  obtain ⟨row, hr, ht⟩ := O2 hp.1.1.1.1 hp.1.1.1.2 (wb 0 t v rfl rfl) h1
  obtain ⟨rows, uN, iv⟩ := NV (by simpa [qS] using hp.2) (fun j t v ht hv => wb (j + 1) t v ht hv) h2
  exact ⟨row :: rows, .cons hr uN, ht, iv⟩
 | [], [], _ :: _, _, _, _, h => h.elim
 | [], _ :: _, _, _, _, _, h => by cases ‹List (DataW H)› <;> exact h.elim
 | _ :: _, [], _, _, _, _, h => by cases ‹List (DataW H)› <;> exact h.elim
 | _ :: _, _ :: _, [], _, _, _, h => h.elim
theorem Ub {H : Type} {enc : TypeId × Value -> H} {P : Program} {n : Nat} (uj : laidOutB P = true) {W W' : World} (hb : Below W.heap.size W W') : ∀ {ts : List TypeId} {vs : List Value} {ds : List (DataW H)} {ps : List MemPlace}, qS P n ts = true ->
  DataW.TrodAll enc P W 0 (fun _ => true) true ts vs ds ps -> DataW.TrodAll enc P W' 0 (fun b => decide (b < W.heap.size)) true ts vs ds ps
 | [], [], [], _, _, h => h
 | t :: ts, v :: vs, d :: ds, _, hp, h => by
  obtain ⟨p, q, h1, h2, rfl⟩ := h
  simp only [qS, List.all_cons, Bool.and_eq_true, decide_eq_true_eq] at hp
  have iz : ∀ x ∈ p, x.block < W.heap.size := by obtain ⟨m, hm⟩ := h1; exact DataW.trod_lt m _ _ _ hm
  exact ⟨p, q, Below.trod uj hp.1.1.2 hp.1.2 h1 hb iz, Ub uj hb (by simpa [qS] using hp.2) h2, rfl⟩
 | [], [], _ :: _, _, _, h => h.elim
 | [], _ :: _, _, _, _, h => by cases ‹List (DataW H)› <;> exact h.elim
 | _ :: _, [], _, _, _, h => by cases ‹List (DataW H)› <;> exact h.elim
 | _ :: _, _ :: _, [], _, _, h => h.elim
end Go.Vm
