/- An abstract machine U3 the model of Go, by value, and that it is sound: part Vc. No condition. -/
import Derived.Test.YtgkcgbmbdaapcaaGreatVf
import Derived.ProofKit
import Derived.OpenShut
import Derived.Below
import Derived.ChangeOld
import Derived.DataReads
import Derived.Carry
set_option linter.unusedVariables false
set_option linter.unusedSimpArgs false
namespace Go.Vm
open Go.RowKit
abbrev Ren := List ((Nat × Nat) × Option (Nat × Nat))
def JH : Ren -> Nat -> Nat -> Option (Nat × Nat)
 | [], t, j => some (t, j)
 | (n, o) :: ρ, t, j => if t = n.1 /\ j = n.2 then o else JH ρ t j
def inF : List (Nat × Nat) -> Nat -> Nat -> Bool
 | [], _, _ => false
 | n :: F, t, j => (t == n.1 && j == n.2) || inF F t j
def OG (σ : St) (ρ : Ren) (F : List (Nat × Nat)) : At -> At -> Prop
 | _, .any => True
 | .d x, .d y => x = y
 | .nil _, .nil _ => True
 | .nil s, .d y => y = .sl s []
 | .nil _, .sref t j lo len => JH ρ t j = none /\ lo = 0 /\ len = 0
 | .sref t j lo len, .sref t' j' rQ ui => JH ρ t' j' = some (t, j) /\ lo = rQ /\ len = ui
 | .sref t j lo len, .d y => inF F t j = true /\ (match σ.ob t j with | .arr _ s rows => y = .sl s (cut rows lo len) | _ => False)
 | .tref t j i c o, .tref t' j' i' c' o' => JH ρ t' j' = some (t, j) /\ i = i' /\ c = c' /\ o = o' /\ (match σ.ob t j with | .arr true _ _ => True | _ => False)
 | .ptr t j i c, .ptr t' j' i' c' => JH ρ t' j' = some (t, j) /\ i = i' /\ c = c'
 | .bptr t c, .bptr t' c' => JH ρ t' 0 = some (t, 0) /\ c = c'
 | .fn f t, .fn f' t' => JH ρ t' 0 = some (t, 0) /\ f = f'
 | .rptr r c, .rptr r' c' => r = r' /\ c = c'
 | _, _ => False
def Td (σ : St) (ρ : Ren) (F : List (Nat × Nat)) : List At -> List At -> Prop
 | [], [] => True
 | x :: xs, y :: ys => OG σ ρ F x y /\ Td σ ρ F xs ys
 | _, _ => False
def wkV (σ : St) (ρ : Ren) (F : List (Nat × Nat)) : V -> V -> Prop
 | _, .any => True
 | .one x, .one y => OG σ ρ F x y
 | .agg xs, .agg ys => Td σ ρ F xs ys
 | .fix u (.one x), .fix u' (.one y) => u = u' /\ OG σ ρ F x y
 | .fix u (.agg xs), .fix u' (.agg ys) => u = u' /\ Td σ ρ F xs ys
 | .fix _ (.one x), .one y => OG σ ρ F x y
 | .fix _ (.agg xs), .agg ys => Td σ ρ F xs ys
 | _, _ => False
def OB (σ : St) (ρ : Ren) (F : List (Nat × Nat)) (t' j' : Nat) : Ob -> Prop
 | .none => True
 | .arr q size rows => (match JH ρ t' j' with
  | none => rows = []
  | some (t, j) => inF F t j = false /\ (match σ.ob t j with | .arr p s r => (p = q \/ p = false /\ ∀ x ∈ rows, ∀ y ∈ x, y.scalar = true) /\ s = size /\ r = rows | _ => False))
 | .lit _ _ => False
 | .box cells => (match JH ρ t' j' with
  | none => False
  | some (t, j) => inF F t j = false /\ (match σ.ob t j with | .box cs => Td σ ρ F cs cells | _ => False))
def Lk (σ : St) (ρ : Ren) (F : List (Nat × Nat)) (t : Nat) : List Ob -> Nat -> Prop
 | [], _ => True
 | o :: os, j => OB σ ρ F t j o /\ Lk σ ρ F t os (j + 1)
def j0 (σ : St) (ρ : Ren) (F : List (Nat × Nat)) : List Ent -> List Ent -> Nat -> Prop
 | [], [], _ => True
 | e :: es, e' :: rT, t => (wkV σ ρ F e.1 e'.1 /\ Lk σ ρ F t e'.2 0) /\ j0 σ ρ F es rT (t + 1)
 | _, _, _ => False
def QC : Ren -> Nat -> Nat -> Bool
 | [], _, _ => false
 | (n, _) :: ρ, t, j => (t == n.1 && j == n.2) || QC ρ t j
def yW : Ren -> Nat -> Nat -> Bool
 | [], _, _ => false
 | (_, some o) :: ρ, t, j => (t == o.1 && j == o.2) || yW ρ t j
 | (_, none) :: ρ, t, j => yW ρ t j
def Mm (σ' : St) (t j : Nat) : Bool := match σ'.ob t j with | .none => true | _ => false
def xZ (σ' : St) (all : Ren) : Ren -> Bool
 | [] => true
 | (_, some o) :: ρ => !yW ρ o.1 o.2 && (QC all o.1 o.2 || Mm σ' o.1 o.2) && xZ σ' all ρ
 | (_, none) :: ρ => xZ σ' all ρ
theorem yh : ∀ {ρ : Ren} {t j : Nat}, QC ρ t j = false -> JH ρ t j = some (t, j)
 | [], _, _, _ => rfl
 | (n, o) :: ρ, t, j, h => by
  simp only [QC, Bool.or_eq_false_iff, Bool.and_eq_false_iff, beq_eq_false_iff_ne] at h
  simp only [JH]
  rw [if_neg (by rintro ⟨h1, h2⟩; rcases h.1 with h3 | h3 <;> contradiction)]
  exact yh h.2
theorem qq : ∀ {ρ : Ren} {t j : Nat} {o : Nat × Nat}, QC ρ t j = true -> JH ρ t j = some o -> yW ρ o.1 o.2 = true
 | [], _, _, _, h, _ => by simp [QC] at h
 | (n, o') :: ρ, t, j, o, h, ho => by
  simp only [JH] at ho
  split at ho
  ·subst ho; simp [yW]
  ·rename_i wD
   have h' : QC ρ t j = true := by
    simp only [QC, Bool.or_eq_true, Bool.and_eq_true, beq_iff_eq] at h
    rcases h with h | h
    ·exact absurd h wD
    ·exact h
   have := qq h' ho
   cases o' with
   | none => simpa [yW] using this
   | some o' => simp [yW, this]
theorem P8 {σ' : St} {all : Ren} : ∀ {ρ : Ren} {t j t' j' : Nat} {o : Nat × Nat}, xZ σ' all ρ = true -> QC ρ t j = true -> QC ρ t' j' = true -> JH ρ t j = some o -> JH ρ t' j' = some o -> (t, j) = (t', j')
 | [], _, _, _, _, _, _, h, _, _, _ => by simp [QC] at h
 | (n, o') :: ρ, t, j, t', j', o, wb, hn, wu, ho, wV => by
  have lX : xZ σ' all ρ = true := by
   cases o' with
   | none => simpa [xZ] using wb
   | some o' => simp only [xZ, Bool.and_eq_true] at wb; exact wb.2
  simp only [JH] at ho wV
  by_cases h1 : t = n.1 /\ j = n.2
  ·rw [if_pos h1] at ho
   by_cases h2 : t' = n.1 /\ j' = n.2
   ·rw [h1.1, h1.2, h2.1, h2.2]
   ·rw [if_neg h2] at wV
    have h' : QC ρ t' j' = true := by
     simp only [QC, Bool.or_eq_true, Bool.and_eq_true, beq_iff_eq] at wu
     exact wu.resolve_left h2
    have hold := qq h' wV
    subst ho
    simp only [xZ, Bool.and_eq_true, Bool.not_eq_true'] at wb
    rw [hold] at wb; cases wb.1.1
  ·rw [if_neg h1] at ho
   have h : QC ρ t j = true := by
    simp only [QC, Bool.or_eq_true, Bool.and_eq_true, beq_iff_eq] at hn
    exact hn.resolve_left h1
   by_cases h2 : t' = n.1 /\ j' = n.2
   ·rw [if_pos h2] at wV
    have hold := qq h ho
    subst wV
    simp only [xZ, Bool.and_eq_true, Bool.not_eq_true'] at wb
    rw [hold] at wb; cases wb.1.1
   ·rw [if_neg h2] at wV
    have h' : QC ρ t' j' = true := by
     simp only [QC, Bool.or_eq_true, Bool.and_eq_true, beq_iff_eq] at wu
     exact wu.resolve_left h2
    exact P8 lX h h' ho wV
theorem jL {σ' : St} {all : Ren} : ∀ {ρ : Ren} {t j : Nat}, xZ σ' all ρ = true -> yW ρ t j = true -> QC all t j = true \/ σ'.ob t j = .none
 | [], _, _, _, h => by simp [yW] at h
 | (n, o') :: ρ, t, j, wb, h => by
  cases o' with
  | none => exact jL (ρ := ρ) (by simpa [xZ] using wb) (by simpa [yW] using h)
  | some o =>
   simp only [xZ, Bool.and_eq_true, Bool.or_eq_true] at wb
   simp only [yW, Bool.or_eq_true, Bool.and_eq_true, beq_iff_eq] at h
   rcases h with ⟨rfl, rfl⟩ | h
   ·refine wb.1.2.imp id fun hf => ?_
    unfold Mm at hf; split at hf <;> first | assumption | cases hf
   ·exact jL wb.2 h
theorem GJ {σ' : St} {ρ : Ren} (wb : xZ σ' ρ ρ = true) {t j t' j' : Nat} {o : Nat × Nat} (h1 : σ'.ob t j ≠ .none) (h2 : σ'.ob t' j' ≠ .none) (ho : JH ρ t j = some o) (wV : JH ρ t' j' = some o) : t = t' /\ j = j' := by
 cases hn : QC ρ t j with
 | true =>
  cases wu : QC ρ t' j' with
  | true => have := P8 wb hn wu ho wV; cases this; exact ⟨rfl, rfl⟩
  | false =>
   have lY := yh wu
   rw [lY] at wV; cases wV
   have hold := qq hn ho
   rcases jL wb hold with h | h
   ·rw [wu] at h; cases h
   ·exact absurd h h2
 | false =>
  have lY := yh hn
  rw [lY] at ho; cases ho
  cases wu : QC ρ t' j' with
  | true =>
   have hold := qq wu wV
   rcases jL wb hold with h | h
   ·rw [hn] at h; cases h
   ·exact absurd h h1
  | false =>
   have lZ := yh wu
   rw [lZ] at wV; cases wV; exact ⟨rfl, rfl⟩
theorem W5 {σ : St} {ρ : Ren} {F : List (Nat × Nat)} : ∀ {es rT : List Ent} {t : Nat}, j0 σ ρ F es rT t -> es.length = rT.length
 | [], [], _, _ => rfl
 | _ :: _, _ :: _, _, h => by simp [W5 h.2]
 | [], _ :: _, _, h => h.elim
 | _ :: _, [], _, h => h.elim
theorem RM {σ : St} {ρ : Ren} {F : List (Nat × Nat)} : ∀ {es rT : List Ent} {t : Nat}, j0 σ ρ F es rT t -> ∀ (i : Nat), wkV σ ρ F (St.get es i) (St.get rT i) /\ ∀ j, OB σ ρ F (t + i) j (St.ob rT i j)
 | [], [], t, _, i => ⟨by simp [St.get, wkV], fun j => by simp [St.ob, OB]⟩
 | e :: es, e' :: rT, t, h, 0 => by
  refine ⟨h.1.1, fun j => ?_⟩
  have : ∀ (os : List Ob) (k : Nat), Lk σ ρ F t os k -> ∀ j, OB σ ρ F t (k + j) (Z2 os j) := by
   intro os
   induction os with
   | nil => intro k _ j; simp [Z2, OB]
   | cons o os ih =>
    intro k hk j
    cases j with
    | zero => exact hk.1
    | succ j => have := ih (k + 1) hk.2 j; rw [show k + (j + 1) = k + 1 + j by omega]; simpa [Z2] using this
  have := this e'.2 0 h.1.2 j
  simpa using this
 | e :: es, e' :: rT, t, h, i + 1 => by
  have := RM h.2 i
  rw [show t + (i + 1) = t + 1 + i by omega]
  simpa [St.get, St.ob] using this
 | [], _ :: _, _, h, _ => h.elim
 | _ :: _, [], _, h, _ => h.elim
theorem I4 {T : CS} {w : World} {xs : List Value} {ds : List D} {S : Nat -> Prop} (wC : Zc (Rd T w) xs ds) (hf : ∀ d ∈ ds, d.scalar = true) : Qh w xs ds S :=
 ⟨wC.length, fun _ _ => False, fun k x d hx hd => by
  obtain ⟨d', wO, hr⟩ := wC.get k x hx
  rw [hd] at wO; cases wO
  exact Rd.own (hf d (List.mem_of_getElem? hd)) hr, fun _ _ hb => hb.elim, fun _ _ _ hb => hb.elim⟩
theorem X1 {σ σ' : St} (ρ : Ren) (F : List (Nat × Nat)) (wb : xZ σ' ρ ρ = true) (hs : j0 σ ρ F σ σ' 0) : Wk σ σ' := by
 rintro T0 B a w ⟨X, h, r⟩
 let h' : Nat -> Nat -> Hd := fun t j => match JH ρ t j with | some o => h o.1 o.2 | none => Hd.of (.slice none 0 0)
 let X' : Nat -> Prop := fun b => X b \/ ∃ t j, inF F t j = true /\ σ.ob t j ≠ .none /\ (h t j).u b
 have hlen := W5 hs
 have vC := RM hs
 have wZ : ∀ t j, OB σ ρ F t j (σ'.ob t j) := fun t j => by have := (vC t).2 j; simpa using this
 have sa : ∀ b k v, Tof T0 X b k -> w.cell? ⟨b, k, none⟩ = some v -> w.cell? ⟨b, k, none⟩ = some v /\ Tof T0 X' b k := fun b k v hb hc => ⟨hc, hb.imp id .inl⟩
 have tS : ∀ t' j' q size rows, σ'.ob t' j' = .arr q size rows -> (JH ρ t' j' = none /\ rows = []) \/ ∃ t j p, JH ρ t' j' = some (t, j) /\ inF F t j = false /\ σ.ob t j = .arr p size rows /\ (p = q \/ p = false /\ ∀ x ∈ rows, ∀ y ∈ x, y.scalar = true) := by
  intro t' j' q size rows ho
  have := wZ t' j'
  rw [ho] at this
  simp only [OB] at this
  split at this
  ·rename_i hn; exact .inl ⟨hn, this⟩
  ·rename_i t j hn
   obtain ⟨hF, this⟩ := this
   split at this
   ·rename_i p s r wy; obtain ⟨hp, rfl, rfl⟩ := this; exact .inr ⟨t, j, p, hn, hF, wy, hp⟩
   ·exact this.elim
 have sJ : ∀ t' j' size rows, σ'.ob t' j' ≠ .lit size rows := by
  intro t' j' size rows ho
  have := wZ t' j'
  rw [ho] at this; exact this
 have sK : ∀ t' j' cells, σ'.ob t' j' = .box cells -> ∃ t j cs, JH ρ t' j' = some (t, j) /\ inF F t j = false /\ σ.ob t j = .box cs /\ Td σ ρ F cs cells := by
  intro t' j' cells ho
  have := wZ t' j'
  rw [ho] at this
  simp only [OB] at this
  split at this
  ·exact this.elim
  ·rename_i t j hn
   obtain ⟨hF, this⟩ := this
   split at this
   ·rename_i cs wy; exact ⟨t, j, cs, hn, hF, wy, this⟩
   ·exact this.elim
 have at_ : ∀ {x y : At} {v : Value}, OG σ ρ F x y -> Zr (Tof T0 X) h σ.ob w x v -> Zr (Tof T0 X') h' σ'.ob w y v := by
  intro x y v hw hr
  have h1 := Zr.Y1 hr
  cases y with
  | any => exact h1
  | d y =>
   cases x with
   | d x => simp only [OG] at hw; subst hw; exact Rd.mono sa hr
   | nil s => simp only [OG] at hw; subst hw; cases hr; exact .nil _
   | sref t j lo len =>
    simp only [OG] at hw
    obtain ⟨hF, hw⟩ := hw
    split at hw
    ·rename_i q s rows ho
     subst hw
     exact r.Lj ho hr _ (fun b k hb => hb.imp id .inl) (fun b k hb => .inr (.inr ⟨t, j, hF, by rw [ho]; simp, hb⟩))
    ·exact hw.elim
   | _ => exact hw.elim
  | nil s =>
   cases x with
   | nil s' => exact hr
   | _ => exact hw.elim
  | sref t' j' rQ ui =>
   cases x with
   | nil s =>
    obtain ⟨hn, rfl, rfl⟩ := hw
    cases hr
    refine ⟨rfl, fun q size rows ho => ?_, fun size rows ho => absurd ho (sJ _ _ _ _)⟩
    simp only [h', hn]
    exact ⟨by omega, fun _ _ => rfl, fun _ => rfl, none, 0, rfl, by omega, by simp [maxLen], fun _ => rfl, fun hh => absurd hh (by omega)⟩
   | sref t j lo len =>
    obtain ⟨hn, rfl, rfl⟩ := hw
    refine ⟨h1, fun q size rows ho => ?_, fun size rows ho => absurd ho (sJ _ _ _ _)⟩
    rcases tS t' j' q size rows ho with ⟨wu, _⟩ | ⟨t2, j2, p, wu, _, wy, _⟩
    ·rw [hn] at wu; cases wu
    ·rw [hn] at wu; cases wu
     simp only [h', hn]
     exact hr.2.1 p size rows wy
   | _ => exact hw.elim
  | ptr t' j' i' c' =>
   cases x with
   | ptr t j i c =>
    obtain ⟨hn, rfl, rfl⟩ := hw
    refine ⟨h1, fun q size rows ho => ?_⟩
    rcases tS t' j' q size rows ho with ⟨wu, _⟩ | ⟨t2, j2, p, wu, _, wy, _⟩
    ·rw [hn] at wu; cases wu
    ·rw [hn] at wu; cases wu
     simp only [h', hn]
     exact hr.2 p size rows wy
   | _ => exact hw.elim
  | tref t' j' i' c' o' =>
   cases x with
   | tref t j i c o =>
    obtain ⟨hn, rfl, rfl, rfl, hq⟩ := hw
    refine ⟨h1, fun size rows ho => ?_⟩
    rcases tS t' j' true size rows ho with ⟨wu, _⟩ | ⟨t2, j2, p, wu, _, wy, hp⟩
    ·rw [hn] at wu; cases wu
    ·rw [hn] at wu; cases wu
     simp only [h', hn]
     rcases hp with rfl | ⟨rfl, vZ⟩
     ·exact hr.2 size rows wy
     ·rw [wy] at hq; exact hq.elim
   | _ => exact hw.elim
  | bptr t' c' =>
   cases x with
   | bptr t c =>
    obtain ⟨hn, rfl⟩ := hw
    refine ⟨h1, fun cells ho => ?_⟩
    obtain ⟨t2, j2, cs, wu, _, wy, _⟩ := sK t' 0 cells ho
    rw [hn] at wu; cases wu
    simp only [h', hn]
    exact hr.2 cs wy
   | _ => exact hw.elim
  | fn f' t' =>
   cases x with
   | fn f t =>
    obtain ⟨hn, rfl⟩ := hw
    refine ⟨h1, fun cells ho => ?_⟩
    obtain ⟨t2, j2, cs, wu, _, wy, _⟩ := sK t' 0 cells ho
    rw [hn] at wu; cases wu
    simp only [h', hn]
    exact hr.2 cs wy
   | _ => exact hw.elim
  | rptr r' c' =>
   cases x with
   | rptr r0 c =>
    obtain ⟨rfl, rfl⟩ := hw
    obtain ⟨b, off, g, e, hk⟩ := hr
    exact ⟨b, off, g, e, fun k d hd => ⟨(hk k d hd).1, (hk k d hd).2.1.imp id .inl, Rd.mono sa (hk k d hd).2.2⟩⟩
   | _ => exact hw.elim
 have ry : ∀ {xs ys : List At} {vs : List Value}, Td σ ρ F xs ys -> Zc (Zr (Tof T0 X) h σ.ob w) xs vs -> Zc (Zr (Tof T0 X') h' σ'.ob w) ys vs := by
  intro xs
  induction xs with
  | nil => intro ys vs hw hr; cases ys with
   | nil => cases hr; exact .nil
   | cons y ys => exact hw.elim
  | cons x xs ih => intro ys vs hw hr; cases ys with
   | nil => exact hw.elim
   | cons y ys => cases hr with
    | cons h1 hr => exact .cons (at_ hw.1 h1) (ih hw.2 hr)
 have v_ : ∀ {x y : V} {v : Value}, wkV σ ρ F x y -> XC (Tof T0 X) h σ.ob w x v -> XC (Tof T0 X') h' σ'.ob w y v := by
  intro x y v hw hr
  cases y with
  | any => trivial
  | one y => cases x with
   | one x => exact at_ hw hr
   | fix u x => cases x with
    | one x => exact at_ hw hr.2
    | _ => exact hw.elim
   | _ => exact hw.elim
  | agg ys => cases x with
   | agg xs => obtain ⟨cs, e, hr⟩ := hr; exact ⟨cs, e, ry hw hr⟩
   | fix u x => cases x with
    | agg xs => obtain ⟨cs, e, hr⟩ := hr.2; exact ⟨cs, e, ry hw hr⟩
    | _ => exact hw.elim
   | _ => exact hw.elim
  | tup ys => cases x with
   | fix u x => cases x <;> exact hw.elim
   | _ => exact hw.elim
  | cnd g y => cases x with
   | fix u x => cases x <;> exact hw.elim
   | _ => exact hw.elim
  | fix u' y => cases x with
   | fix u x => cases x with
    | one x => cases y with
     | one y => obtain ⟨rfl, hw⟩ := hw; exact ⟨hr.1, at_ hw hr.2⟩
     | _ => exact hw.elim
    | agg xs => cases y with
     | agg ys => obtain ⟨rfl, hw⟩ := hw; obtain ⟨e1, cs, e, hr⟩ := hr; exact ⟨e1, cs, e, ry hw hr⟩
     | _ => exact hw.elim
    | _ => cases y <;> exact hw.elim
   | _ => cases y <;> exact hw.elim
 have wD : ∀ t j, σ'.ob t j ≠ .none -> (JH ρ t j = none /\ ∀ b, ¬ (h' t j).u b) \/ ∃ o, JH ρ t j = some o /\ σ.ob o.1 o.2 ≠ .none /\ inF F o.1 o.2 = false /\ h' t j = h o.1 o.2 := by
  intro t j hn
  cases ho : σ'.ob t j with
  | none => exact absurd ho hn
  | arr q size rows =>
   rcases tS t j q size rows ho with ⟨wu, _⟩ | ⟨t2, j2, p, wu, hF, wy, _⟩
   ·exact .inl ⟨wu, fun b hb => by simp only [h', wu, Hd.of, blk] at hb; cases hb⟩
   ·exact .inr ⟨(t2, j2), wu, by rw [wy]; simp, hF, by simp only [h', wu]⟩
  | lit size rows => exact absurd ho (sJ _ _ _ _)
  | box cells =>
   obtain ⟨t2, j2, cs, wu, hF, wy, _⟩ := sK t j cells ho
   exact .inr ⟨(t2, j2), wu, by rw [wy]; simp, hF, by simp only [h', wu]⟩
 refine ⟨X', h', by rw [r.size, hlen], r.defers, r.hB, fun b hb => ?_, r.hT, fun t ht => ?_, fun t j => ?_, fun t j b hn hb => ?_, fun t j b hn hb => ?_, fun t j t' j' b hn wu hb wS => ?_⟩
 ·rcases hb with hb | ⟨t, j, _, hn, hb⟩
  ·exact r.hX b hb
  ·have := r.own t j b hn hb; exact ⟨this.1, this.2.2⟩
 ·exact v_ (vC t).1 (r.slot t (by rw [hlen]; exact ht))
 ·cases ho : σ'.ob t j with
  | none => trivial
  | lit size rows => exact absurd ho (sJ _ _ _ _)
  | arr q size rows =>
   rcases tS t j q size rows ho with ⟨hn, rfl⟩ | ⟨u, k, p, hn, _, wy, hp⟩
   ·have : h' t j = Hd.of (.slice none 0 0) := by simp only [h', hn]
    rw [this]
    cases q with
    | false => exact ⟨0, [], World.ownsRow_nil w 0 0 size, (by intro q hq; cases hq), .nil⟩
    | true => exact ⟨0, [], World.ownsRow_nil w 0 0 size, (by intro q hq; cases hq), Qh.nil _, fun k x d hx => by simp at hx⟩
   ·have he : h' t j = h u k := by simp only [h', hn]
    rw [he]
    have h0 := r.obj u k
    rw [wy] at h0
    cases p with
    | false =>
     obtain ⟨e, xs, wI, hz, wC⟩ := h0
     cases q with
     | false => exact ⟨e, xs, wI, hz, wC.imp fun _ _ => Rd.mono sa⟩
     | true =>
      rcases hp with hp | ⟨_, vZ⟩
      ·cases hp
      ·have rK : ∀ d ∈ rows.flatten, d.scalar = true := fun d hd => by
        obtain ⟨r0, uf, hdr⟩ := List.mem_flatten.1 hd
        exact vZ r0 uf d hdr
       exact ⟨e, xs, wI, hz, I4 wC rK, fun k x d _ hd hs => by rw [rK d (List.mem_of_getElem? hd)] at hs; cases hs⟩
    | true =>
     rcases hp with rfl | ⟨hp, _⟩
     ·exact h0
     ·cases hp
  | box cells =>
   obtain ⟨u, k, cs, hn, _, wy, uH⟩ := sK t j cells ho
   have h0 := r.obj u k
   rw [wy] at h0
   obtain ⟨b, vs, e, hv, hh, wC⟩ := h0
   have he : h' t j = h u k := by simp only [h', hn]
   rw [he]
   exact ⟨b, vs, e, hv, hh, ry uH wC⟩
 ·rcases wD t j hn with ⟨hr, _⟩ | ⟨o, hr, tj, hF, he⟩
  ·simp only [h', hr, Hd.of, blk] at hb; cases hb
  ·rw [he] at hb ⊢; exact r.ub o.1 o.2 b tj hb
 ·rcases wD t j hn with ⟨_, tj⟩ | ⟨o, hr, tj, hF, he⟩
  ·exact absurd hb (tj b)
  ·rw [he] at hb
   have h0 := r.own o.1 o.2 b tj hb
   refine ⟨h0.1, ?_, h0.2.2⟩
   rintro (hx | ⟨t2, j2, iG, nq, wo⟩)
   ·exact h0.2.1 hx
   ·obtain ⟨h3, h4⟩ := r.inj o.1 o.2 t2 j2 b tj nq hb wo
    rw [h3, h4] at hF; rw [hF] at iG; cases iG
 ·rcases wD t j hn with ⟨_, tj⟩ | ⟨o, hr, tj, _, he⟩
  ·exact absurd hb (tj b)
  ·rcases wD t' j' wu with ⟨_, oF⟩ | ⟨o', vU, oF, _, oO⟩
   ·exact absurd wS (oF b)
   ·rw [he] at hb
    rw [oO] at wS
    obtain ⟨h3, h4⟩ := r.inj o.1 o.2 o'.1 o'.2 b tj oF hb wS
    have : o = o' := Prod.ext h3 h4
    subst this
    exact GJ wb hn wu hr vU
theorem Qc {σ σ' : St} (hs : j0 σ [] [] σ σ' 0) : Wk σ σ' := X1 [] [] rfl hs
attribute [simp] JH inF OG Td wkV OB Lk j0 QC yW Mm xZ
end Go.Vm
namespace Go.Vm
open Go.RowKit
def YP (P : Program) (σ : St) : List Operand -> List TypeId -> Prop × Option (List (List D))
 | [], _ => (True, some [])
 | x :: xs, t :: ts => (gOf (look P σ t x) = true /\ (YP P σ xs ts).1, match (unc (look P σ t x)).X6 σ, (YP P σ xs ts).2 with | some r, some rs => some (r :: rs) | _, _ => none)
 | _ :: _, [] => (False, none)
theorem zc {P : Program} {σ : St} : ∀ {xs : List Operand} {ts : List TypeId} {rs : List (List D)}, (YP P σ xs ts).1 -> (YP P σ xs ts).2 = some rs -> XL P σ xs ts rs
 | [], _, rs, _, h => by simp [YP] at h; exact h
 | x :: xs, t :: ts, rs, h1, h => by
  simp only [YP] at h
  split at h
  ·rename_i r oL hr uF
   cases h
   exact ⟨h1.1, r, oL, hr, zc h1.2 uF, rfl⟩
  ·cases h
 | _ :: _, [], _, h1, _ => h1.elim
attribute [simp] YP
theorem SM {P : Program} {ops : Array Oper} {bar : Oper -> Bool} {o : Oper} {rest : List Oper} {σ : St} {Q : St -> Prop} {c : Call} {f : FuncId} {d : Nat} {own : Bool} {rows res : List (List D)} (wA : o.op = .call c) (hc : c.callee = .value (.func f)) (hg : o.guard = none) (hd : o.dst = some d)
  (hs : XP P f own rows res) (wR : (YP P σ c.args.toList c.argTypes.toList).2 = some rows) (wH : (YP P σ c.args.toList c.argTypes.toList).1) (wY : Zz P σ c.args.toList c.argTypes.toList = true \/ QH own res) (h : Ev P ops bar rest (σ.put d (KK res)) Q) : xv P ops bar o rest σ Q :=
 MB wA hc hg hd (zc wH wR) hs wY h
theorem HQ {P : Program} {ops : Array Oper} {bar : Oper -> Bool} {o : Oper} {rest : List Oper} {σ : St} {Q : St -> Prop} {c : Call} {f : FuncId} {d : Nat} {rows res : List (List D)} (qs : List Bool) (wA : o.op = .call c) (hc : c.callee = .value (.func f)) (hg : o.guard = none) (hd : o.dst = some d)
  (hs : YC P f rows res) (wR : (YP P σ c.args.toList c.argTypes.toList).2 = some rows) (wH : (YP P σ c.args.toList c.argTypes.toList).1) (hq : zY qs res.flatten) (hf : σ.fresh d = true) (h : Ev P ops bar rest (σ.new d (yR d res) (Z6 qs res.flatten)) Q) : xv P ops bar o rest σ Q :=
 M5 qs wA hc hg hd (zc wH wR) hs hq hf h
theorem OT {P : Program} {ops : Array Oper} {bar : Oper -> Bool} {o : Oper} {rest : List Oper} {σ : St} {Q : St -> Prop} {c : Call} {f : FuncId} {d j dj : Nat} {want g own : Bool} {rows : List (List D)} {res : List D} (wA : o.op = .call c) (hc : c.callee = .value (.func f)) (hg : o.guard = some (j, want)) (hd : o.dst = some d)
  (vY : (ops[j]?).bind (·.dst) = some dj) (vf : Ks want (σ.get dj) = some g) (hs : g = true -> XP P f own rows [res])
  (wR : (YP P σ c.args.toList c.argTypes.toList).2 = some rows) (wN : dj < σ.length)
  (wH : g = true -> (YP P σ c.args.toList c.argTypes.toList).1) (wY : Zz P σ c.args.toList c.argTypes.toList = true \/ QH own [res]) (h : Ev P ops bar rest (σ.put d (.cnd g (KK [res]))) Q) : xv P ops bar o rest σ Q :=
 LP wA hc hg hd vY wN vf (fun hh => zc (wH hh) wR) hs wY h
def Yd : Nat -> List (Nat × V × List Ob) -> St
 | n, [] => List.replicate n (V.any, [])
 | n, (t, v, os) :: l => (Yd n l).new t v os
attribute [simp] Yd
end Go.Vm
namespace Go.Vm
open Go.RowKit
def GL (P : Program) (b : Bool) (x y : Code) (Q : Exit -> St -> Prop) (σ : St) : Prop := (b = true -> AWP P x Q σ) /\ (b = false -> AWP P y Q σ)
def Ga (P : Program) (c : Code) (Q : Exit -> St -> Prop) (σ : St) : Prop := AWP P (.loop c) Q σ
def GS (P : Program) (id : Nat) (ops : Array Oper) (Q : Exit -> St -> Prop) (σ : St) : Prop := AWP P (.region id ops true) Q σ
def Ra (P : Program) (c : Code) (Q : Exit -> St -> Prop) (σ : St) : Prop := AWP P c Q σ
def Wx (P : Program) : Code -> (Exit -> St -> Prop) -> St -> Prop
 | .seq x y, Q, σ => Wx P x (Sn (Wx P y Q) Q) σ
 | .region _ ⟨l⟩ false, Q, σ => Ev P ⟨l⟩ (fun _ => true) l σ (Q .normal)
 | .region id ops true, Q, σ => GS P id ops Q σ
 | .cond c x y, Q, σ => (match look P σ 0 c with | .one (.d (.bool b)) => GL P b x y Q σ | _ => False)
 | .block id c, Q, σ => Wx P c (WD id Q) σ
 | .loop c, Q, σ => Ga P c Q σ
 | .skip, Q, σ => Q .normal σ
 | .exit id, Q, σ => Q (.exit id) σ
 | .ret, Q, σ => Q .ret σ
 | .rangeFunc f ps x y, Q, σ => Ra P (.rangeFunc f ps x y) Q σ
 | .scope c, Q, σ => Ra P (.scope c) Q σ
 | .label l, Q, σ => Ra P (.label l) Q σ
 | .goto l, Q, σ => Ra P (.goto l) Q σ
 | .refuse s, Q, σ => Ra P (.refuse s) Q σ
theorem qh {P : Program} : ∀ {c : Code} {Q : Exit -> St -> Prop} {σ : St}, Wx P c Q σ -> AWP P c Q σ
 | .seq x y, Q, σ, h => by
  rw [Wx] at h
  refine H4 (MU (fun e σ' hq => ?_) (qh h))
  cases e <;> simp only [Sn] at hq ⊢ <;> first | exact qh hq | exact hq
 | .region _ ⟨l⟩ false, Q, σ, h => Gh h
 | .region id ops true, Q, σ, h => h
 | .cond c x y, Q, σ, h => by
  rw [Wx] at h
  split at h
  ·rename_i b hb; exact I9 hb h.1 h.2
  ·exact h.elim
 | .block id c, Q, σ, h => Ie (qh (by rw [Wx] at h; exact h))
 | .loop c, Q, σ, h => h
 | .skip, Q, σ, h => Iy h
 | .exit id, Q, σ, h => Hk h
 | .ret, Q, σ, h => Hv h
 | .rangeFunc _ _ _ _, Q, σ, h => h
 | .scope _, Q, σ, h => h
 | .label _, Q, σ, h => h
 | .goto _, Q, σ, h => h
 | .refuse _, Q, σ, h => h
class KP where
 c : Code
class QV where
 ops : Array Oper
 bar : Oper -> Bool
class JE where
 l : List Oper
class OpI where
 o : Oper
class inductive Fr where
 | fin (Q : Exit -> St -> Prop)
 | sq (y : Code) (k : Fr)
 | blk (id : Nat) (k : Fr)
 | nxt (n : St -> Prop) (k : Fr)
def Fr.run (P : Program) : Fr -> Exit -> St -> Prop
 | .fin Q, e, σ => Q e σ
 | .sq y k, e, σ => Sn (Wx P y (Fr.run P k)) (Fr.run P k) e σ
 | .blk id k, e, σ => WD id (Fr.run P k) e σ
 | .nxt n k, e, σ => Sn n (Fr.run P k) e σ
def WI (P : Program) (σ : St) [c : KP] [k : Fr] : Prop := Wx P c.c (k.run P) σ
def LI (P : Program) (e : Exit) (σ : St) [k : Fr] : Prop := k.run P e σ
def EI (P : Program) (σ : St) [A : QV] [l : JE] [k : Fr] : Prop := Ev P A.ops A.bar l.l σ (k.run P .normal)
def SI (P : Program) (σ : St) [A : QV] [o : OpI] [l : JE] [k : Fr] : Prop := xv P A.ops A.bar o.o l.l σ (k.run P .normal)
def CI (P : Program) (b : Bool) (σ : St) [x : KP] [y : KP] [k : Fr] : Prop := GL P b x.c y.c (k.run P) σ
def kM (P : Program) (σ : St) [c : KP] [k : Fr] : Prop := Ga P c.c (k.run P) σ
def DI (P : Program) (id : Nat) (σ : St) [A : QV] [k : Fr] : Prop := GS P id A.ops (k.run P) σ
section
variable {P : Program} {σ : St} {k : Fr}
theorem Gg {x y : Code} : @WI P σ ⟨.seq x y⟩ k = @WI P σ ⟨x⟩ (.sq y k) := by
 simp only [WI]
 rw [Wx]
 congr 1
theorem IZ {id : Nat} {l : List Oper} : @WI P σ ⟨.region id ⟨l⟩ false⟩ k = @EI P σ ⟨⟨l⟩, fun _ => true⟩ ⟨l⟩ k := by simp only [WI, EI, Wx]
theorem Hy {id : Nat} {ops : Array Oper} : @WI P σ ⟨.region id ops true⟩ k = @DI P id σ ⟨ops, fun _ => true⟩ k := by simp only [WI, DI, Wx]
theorem H8 {c : Operand} {x y : Code} : @WI P σ ⟨.cond c x y⟩ k = (match look P σ 0 c with | .one (.d (.bool b)) => @CI P b σ ⟨x⟩ ⟨y⟩ k | _ => False) := by simp only [WI, CI, Wx]
theorem Ix {id : Nat} {c : Code} : @WI P σ ⟨.block id c⟩ k = @WI P σ ⟨c⟩ (.blk id k) := by
 simp only [WI]
 rw [Wx]
 congr 1
theorem Ho {c : Code} : @WI P σ ⟨.loop c⟩ k = @kM P σ ⟨c⟩ k := by simp only [WI, kM, Wx]
theorem Hz : @WI P σ ⟨.skip⟩ k = @LI P .normal σ k := by simp only [WI, LI, Wx]
theorem GH {id : Nat} : @WI P σ ⟨.exit id⟩ k = @LI P (.exit id) σ k := by simp only [WI, LI, Wx]
theorem Gc : @WI P σ ⟨.ret⟩ k = @LI P .ret σ k := by simp only [WI, LI, Wx]
theorem Gu {Q : Exit -> St -> Prop} {e : Exit} : @LI P e σ (.fin Q) = Q e σ := rfl
theorem FP {y : Code} : @LI P .normal σ (.sq y k) = @WI P σ ⟨y⟩ k := rfl
theorem M8 {y : Code} {id : Nat} : @LI P (.exit id) σ (.sq y k) = @LI P (.exit id) σ k := rfl
theorem IS {y : Code} : @LI P .ret σ (.sq y k) = @LI P .ret σ k := rfl
theorem Gi {n : St -> Prop} : @LI P .normal σ (.nxt n k) = n σ := rfl
theorem N0 {n : St -> Prop} {id : Nat} : @LI P (.exit id) σ (.nxt n k) = @LI P (.exit id) σ k := rfl
theorem LC {n : St -> Prop} : @LI P .ret σ (.nxt n k) = @LI P .ret σ k := rfl
theorem G2 {id : Nat} : @LI P .normal σ (.blk id k) = @LI P .normal σ k := rfl
theorem LL {id : Nat} : @LI P .ret σ (.blk id k) = @LI P .ret σ k := rfl
theorem Nq {id pk : Nat} : @LI P (.exit pk) σ (.blk id k) = if pk = id then @LI P .normal σ k else @LI P (.exit pk) σ k := rfl
theorem Gp {A : QV} : @EI P σ A ⟨[]⟩ k = @LI P .normal σ k := by simp only [EI, LI, Ev]
theorem H3 {A : QV} {o : Oper} {rest : List Oper} : @EI P σ A ⟨o :: rest⟩ k =
  (if stops P A.bar o then @SI P σ A ⟨o⟩ ⟨rest⟩ k else
  match o.guard with
  | none =>
   (match o.dst with
   | some d => (evS P σ o d).1 /\ @EI P (evS P σ o d).2 A ⟨rest⟩ k
   | none => (match o.op with | .store T x y => if Gb P σ T x y then @SI P σ A ⟨o⟩ ⟨rest⟩ k else (N8 P σ T x y).1 /\ @EI P (N8 P σ T x y).2 A ⟨rest⟩ k | _ => False))
  | some (j, want) =>
   (match (A.ops[j]?).bind (·.dst), o.dst with
   | some dj, some d => (match Ks want (σ.get dj) with
    | some g => (dj < σ.length /\ (g = true -> (evV P σ o.op o.type).1 /\ gOf (evV P σ o.op o.type).2 = true /\ (unc (evV P σ o.op o.type).2).flat = true)) /\ @EI P (σ.put d (.cnd g (unc (evV P σ o.op o.type).2))) A ⟨rest⟩ k
    | none => False)
   | _, _ => False)) := by
 simp only [EI, SI]
 rw [Ev]
 rfl
end
section
variable {P : Program} {σ : St} {k : Fr}
theorem HZ {f : FuncId} {fn : Func} {c : Code} (hf : P.funcs[f]? = some fn) (hb : fn.body = some c) (wb : Wi P f = true) {own : Bool} {args res : List (List D)}
  (hw : @WI P (K7 fn.ntmps args) ⟨c⟩ (.fin (IY P fn own res))) : XP P f own args res := NA hf hb wb (qh hw)
theorem FN {A : QV} {o : OpI} {l : JE} {c : Call} {f : FuncId} {d j dj : Nat} {want g own : Bool} {rows : List (List D)} {res : List D} (wA : o.o.op = .call c) (hc : c.callee = .value (.func f)) (hg : o.o.guard = some (j, want)) (hd : o.o.dst = some d)
  (vY : (A.ops[j]?).bind (·.dst) = some dj) (vf : Ks want (σ.get dj) = some g) (hs : g = true -> XP P f own rows [res])
  (wR : (YP P σ c.args.toList c.argTypes.toList).2 = some rows) (wN : dj < σ.length)
  (wH : g = true -> (YP P σ c.args.toList c.argTypes.toList).1) (wY : Zz P σ c.args.toList c.argTypes.toList = true \/ QH own [res]) (h : @EI P (σ.put d (.cnd g (KK [res]))) A l k) : @SI P σ A o l k :=
 OT wA hc hg hd vY vf hs wR wN wH wY h
theorem IG {f : FuncId} {fn : Func} {c : Code} (hf : P.funcs[f]? = some fn) (hb : fn.body = some c) (wb : Wi P f = true) {args res : List (List D)}
  (hw : @WI P (K7 fn.ntmps args) ⟨c⟩ (.fin (HL P fn res))) : YC P f args res := PQ hf hb wb (qh hw)
def OA (o : Oper) : Bool := match o.op with | .call ⟨.value _, _, _⟩ => false | _ => true
theorem evI {A : QV} {o : OpI} {l : JE} {d : Nat} (hp : OA o.o = true) (hg : o.o.guard = none) (hd : o.o.dst = some d) (h : (evS P σ o.o d).1 /\ @EI P (evS P σ o.o d).2 A l k) : @SI P σ A o l k := by
 refine GF (fun c wA f hc => ?_) hg hd h.1 h.2
 obtain ⟨cc, ca, ct⟩ := c
 simp only at hc; subst hc
 simp [OA, wA] at hp
theorem Fv {A : QV} {o : OpI} {l : JE} {d : Nat} {T : TypeId} {n : Nat} {parts : Array (Nat × Operand)} (wA : o.o.op = .buildSlice T n parts) (hg : o.o.guard = none) (hd : o.o.dst = some d)
  (h1 : σ.fresh d = true /\ YJ P T = true /\ Yz P (ZE P T) = true /\ 0 < P.cellsOf (ZE P T) /\ parts.toList.length = n /\ n * P.cellsOf (ZE P T) <= 16777216) (h2 : (QA P σ (ZE P T) (P.cellsOf (ZE P T)) parts.toList 0).1)
  (h3 : Zp d (QA P σ (ZE P T) (P.cellsOf (ZE P T)) parts.toList 0).2.flatten = false)
  (h : @EI P (σ.new d (.one (.sref d 0 0 (QA P σ (ZE P T) (P.cellsOf (ZE P T)) parts.toList 0).2.length)) [.lit (P.cellsOf (ZE P T)) (QA P σ (ZE P T) (P.cellsOf (ZE P T)) parts.toList 0).2]) A l k) : @SI P σ A o l k := Iq wA hg hd h1 h2 h3 h
theorem Fu {A : QV} {o : OpI} {l : JE} {d : Nat} {T : TypeId} {n : Nat} {parts : Array (Nat × Operand)} (wA : o.o.op = .buildSlice T n parts) (hg : o.o.guard = none) (hd : o.o.dst = some d)
  (h1 : YJ P T = true /\ Yz P (ZE P T) = true /\ 0 < P.cellsOf (ZE P T) /\ parts.toList.length = n /\ n * P.cellsOf (ZE P T) <= 16777216) (h2 : (Kp P σ (ZE P T) (P.cellsOf (ZE P T)) parts.toList 0).1)
  (h : @EI P (σ.put d (.one (.d (.sl (P.cellsOf (ZE P T)) (Kp P σ (ZE P T) (P.cellsOf (ZE P T)) parts.toList 0).2)))) A l k) : @SI P σ A o l k := HY wA hg hd h1 h2 h
theorem Fo {A : QV} {o : OpI} {l : JE} {d : Nat} {x y : Operand} {t : TypeId} {wE news : List (List D)} {l1 l2 : List (Nat × Nat)} {size : Nat} (wA : o.o.op = .call ⟨.builtin .append, #[x, y], #[t, t]⟩) (hg : o.o.guard = none) (hd : o.o.dst = some d) (w6 : A.bar o.o = true)
  (vL : size = P.cellsOf (ZE P t)) (h1 : gOf (look P σ t x) = true /\ gOf (look P σ t y) = true /\ YJ P t = true /\ Yz P (ZE P t) = true /\ 0 < P.cellsOf (ZE P t))
  (h2 : (xY σ (unc (look P σ t x)) size).1 /\ (xY σ (unc (look P σ t x)) size).2 = (wE, l1)) (h3 : (xO σ (unc (look P σ t y)) size).1 /\ (xO σ (unc (look P σ t y)) size).2 = (news, l2))
  (h4 : (l1 ++ l2).Nodup /\ (σ.Zn (l1 ++ l2)).fresh d = true) (h5 : (wE.length + news.length) * P.bytesOf (ZE P t) <= 140737488355328 /\ wE.length + news.length <= 9223372036854775807)
  (h : @EI P ((σ.Zn (l1 ++ l2)).new d (.one (.sref d 0 0 (wE.length + news.length))) [.arr true size (wE ++ news)]) A l k) : @SI P σ A o l k := HN wA hg hd w6 vL h1 h2 h3 h4 h5 h
theorem Fz {A : QV} {o : OpI} {l : JE} {T : TypeId} {x y : Operand} {t j i size : Nat} {rows : List (List D)} {ds : List D} {L : List (Nat × Nat)} (wA : o.o.op = .store T x y) (hg : o.o.guard = none) (hd : o.o.dst = none) (w6 : A.bar o.o = true)
  (hx : unc (look P σ 0 x) = .one (.ptr t j i 0)) (ho : σ.ob t j = .arr true size rows) (hi : i < rows.length) (h1 : K0 P T = true /\ gOf (look P σ 0 x) = true /\ gOf (look P σ T y) = true /\ (unc (look P σ T y)).flat = true)
  (h2 : QG σ (unc (look P σ T y)).cells = some ds) (h3 : Xc σ (unc (look P σ T y)).cells) (h4 : YX (unc (look P σ T y)).cells = L) (h5 : L.Nodup /\ (t, j) ∉ L /\ (σ.Zn L).JX (At.isT t) = false) (h6 : ds.length = P.cellsOf T /\ P.cellsOf T = size)
  (h : @EI P ((σ.Zn L).Ze t j (.arr true size (rows.set i ds))) A l k) : @SI P σ A o l k := HM wA hg hd w6 hx ho hi h1 h2 h3 h4 h5 h6 h
end
attribute [simp] Hy Gg IZ H8 Ix Ho Hz GH Gc Gu FP M8 IS Gi N0 LC G2 LL Nq Gp H3
end Go.Vm
namespace Go.Vm
open Go.RowKit
def Cells (w : World) : CS := fun b _ => b < w.heap.size
def Reads (w : World) (v : Value) (row : List D) : Prop := ∃ cs, Ql v cs /\ Zc (Rd (Cells w) w) cs row
theorem W7 {P : Program} {f : FuncId} {own : Bool} {rows : List (List D)} {wj : List Value} {w : World} (h : XP P f own rows [[.bool true]]) (hv : Zc (Reads w) wj rows) :
  Calls P f wj.toArray w fun e w' => e = .returned (.bool true) /\ Below w.heap.size w w' := by
 refine (h.2 (Cells w) w wj (fun _ _ hb => hb) hv).mono ?_
 rintro e w' ⟨vs, wa, Y, rfl, hb, _, hf, hr, _⟩
 refine ⟨?_, hb⟩
 cases hr with
 | cons h1 hr =>
  cases hr
  cases hf with
  | cons h2 hf =>
   cases hf
   cases h1 with
   | cons h3 h1 =>
    cases h1
    have h4 : ∀ v, KE own (Tof (Cells w) Y) w' v (.bool true) -> Rd (Tof (Cells w) Y) w' v (.bool true) := by
     intro v hv
     unfold KE at hv
     split at hv
     ·exact hv
     ·exact hv
    have h4 := h4 _ h3
    cases h4
    rcases h2 with ⟨v, uH, gr, _⟩ | ⟨hl, _⟩
    ·cases uH; rw [gr]; rfl
    ·simp at hl
end Go.Vm
namespace Go.Vm
open Go.RowKit
def jX (P : Program) : Nat -> TypeId -> Bool
 | 0, _ => false
 | n + 1, t =>
  match P.underlying t with
  | some .bool => true
  | some (.int _) => true
  | some .string => true
  | some (.slice e) => jX P n e
  | some (.struct fs) => fs.toList.all (fun f => jX P n f.type) && P.cellsOf t != 1
  | _ => false
def TyR (P : Program) : Nat -> TypeId -> List D -> Prop
 | 0, _, _ => False
 | n + 1, t, row =>
  match P.underlying t with
  | some .bool => ∃ b, row = [.bool b]
  | some (.int k) => ∃ m, row = [.int k m] /\ k.min <= m /\ m <= k.max
  | some .string => ∃ s, row = [.str s] /\ s.size <= maxLen
  | some (.slice e) => ∃ rows, row = [.sl (P.cellsOf e) rows] /\ rows.length <= maxLen /\ ∀ r ∈ rows, TyR P n e r /\ r.length = P.cellsOf e
  | some (.struct fs) => row.length = P.cellsOf t /\ ∀ f ∈ fs.toList, TyR P n f.type (cut row f.offset (P.cellsOf f.type))
  | _ => False
def ki (P : Program) : Nat -> List Field -> Nat -> Bool
 | k, [], n => k == n
 | k, f :: fs, n => f.offset == k && ki P (k + P.cellsOf f.type) fs n
def P3 (P : Program) : Nat -> TypeId -> Bool
 | 0, _ => false
 | n + 1, t =>
  match P.underlying t with
  | some .bool => P.cellsOf t == 1
  | some (.int _) => P.cellsOf t == 1
  | some .string => P.cellsOf t == 1
  | some (.slice e) => P.cellsOf t == 1 && P3 P n e
  | some (.struct fs) => fs.toList.all (fun f => P3 P n f.type) && ki P 0 fs.toList (P.cellsOf t)
  | _ => false
theorem UA {α β : Type} {f : α -> Option β} : ∀ {l : List α} {m : List β}, l.mapM f = some m -> l.length = m.length /\ ∀ (i : Nat) a, l[i]? = some a -> ∃ b, m[i]? = some b /\ f a = some b
 | [], m, h => by simp at h; subst h; exact ⟨rfl, fun i a ha => by simp at ha⟩
 | x :: l, m, h => by
  simp only [List.mapM_cons, Option.bind_eq_bind, Option.bind_eq_some_iff] at h
  obtain ⟨b, hb, bs, lS, h⟩ := h
  simp at h; subst h
  obtain ⟨h1, h2⟩ := UA lS
  refine ⟨by simp [h1], fun i a ha => ?_⟩
  cases i with
  | zero => simp at ha; subst ha; exact ⟨b, by simp, hb⟩
  | succ i => simpa using h2 i a (by simpa using ha)
theorem IC {w : World} {a : Addr} {n : Nat} {cs : List Value} (h : w.cells? 0 a n = some cs) : cs.length = n /\ ∀ i v, cs[i]? = some v -> w.cell? (a.add i) = some v := by
 unfold World.cells? at h
 simp at h
 obtain ⟨h1, h2⟩ := UA h
 simp at h1
 refine ⟨h1.symm, fun i v hv => ?_⟩
 have hi : i < n := by have := (List.getElem?_eq_some_iff.1 hv).1; omega
 obtain ⟨b, hb, hf⟩ := h2 i i (by simp [hi])
 rw [hv] at hb; cases hb; exact hf
theorem jq {w : World} {P : Program} {q n : Nat} {cs : List Value} (hl : cs.length = n) : ∀ {fs : List Field} {k : Nat}, ki P k fs n = true -> k <= n ->
  (∀ f ∈ fs, ∃ row, Zc (Rd (Cells w) w) (cut cs f.offset (P.cellsOf f.type)) row /\ TyR P q f.type row) ->
  ∃ tail, Zc (Rd (Cells w) w) (cs.drop k) tail /\ ∀ (pre : List D), pre.length = k -> ∀ f ∈ fs, TyR P q f.type (cut (pre ++ tail) f.offset (P.cellsOf f.type))
 | [], k, hc, hk, _ => by
  simp only [ki, beq_iff_eq] at hc
  subst hc
  exact ⟨[], by rw [List.drop_eq_nil_of_le (by omega)]; exact .nil, fun _ _ f hf => by cases hf⟩
 | f :: fs, k, hc, hk, h => by
  simp only [ki, Bool.and_eq_true, beq_iff_eq] at hc
  obtain ⟨row, wC, vy⟩ := h f (by simp)
  rw [hc.1] at wC
  have gu : k + P.cellsOf f.type <= n := by
   clear h wC vy
   have : ∀ (fs : List Field) (k : Nat), ki P k fs n = true -> k <= n := by
    intro fs
    induction fs with
    | nil => intro k hh; simp [ki] at hh; omega
    | cons g gs ih => intro k hh; simp only [ki, Bool.and_eq_true, beq_iff_eq] at hh; have := ih _ hh.2; omega
   exact this _ _ hc.2
  have se : row.length = P.cellsOf f.type := by rw [<- wC.length]; simp [cut]; omega
  obtain ⟨tail, lN, rN⟩ := jq hl hc.2 gu (fun g hg => h g (by simp [hg]))
  refine ⟨row ++ tail, ?_, ?_⟩
  ·have : cs.drop k = cut cs k (P.cellsOf f.type) ++ cs.drop (k + P.cellsOf f.type) := by
    unfold cut
    rw [<- List.drop_drop]
    exact (List.take_append_drop _ _).symm
   rw [this]
   exact wC.append lN
  ·intro pre u4 g hg
   rcases List.mem_cons.1 hg with rfl | hg
   ·have : cut (pre ++ (row ++ tail)) g.offset (P.cellsOf g.type) = row := by
     unfold cut
     rw [hc.1, <- u4, List.drop_left, <- se, List.take_left]
    rw [this]; exact vy
   ·have := rN (pre ++ row) (by rw [List.length_append, u4, se]) g hg
    rw [<- List.append_assoc]; exact this
section
variable {H : Type} {enc : TypeId × Value -> H} {P : Program} {w : World} {sp : Nat -> Bool} {held : Bool} {fuel : Nat} {t : TypeId} {cs : List Value} {d : DataW H} {ps : List MemPlace}
theorem trod_bool (hu : P.underlying t = some .bool) (h : DataW.trod enc P w 0 sp held fuel t cs = some (d, ps)) : ∃ b, cs = [.bool b] := by
 cases fuel with
 | zero => simp [DataW.trod] at h
 | succ fuel =>
  unfold DataW.trod at h
  rw [hu] at h
  split at h <;> simp_all
theorem trod_int {k : IntKind} (hu : P.underlying t = some (.int k)) (h : DataW.trod enc P w 0 sp held fuel t cs = some (d, ps)) : ∃ m, cs = [.int k m] /\ k.min <= m /\ m <= k.max := by
 cases fuel with
 | zero => simp [DataW.trod] at h
 | succ fuel =>
  unfold DataW.trod at h
  rw [hu] at h
  split at h <;> simp_all [Lit.wf]
theorem HO (hu : P.underlying t = some .string) (h : DataW.trod enc P w 0 sp held fuel t cs = some (d, ps)) : ∃ s, cs = [.string s] /\ s.size <= maxLen := by
 cases fuel with
 | zero => simp [DataW.trod] at h
 | succ fuel =>
  unfold DataW.trod at h
  rw [hu] at h
  split at h <;> simp_all
theorem trod_slice {e : TypeId} (hu : P.underlying t = some (.slice e)) (h : DataW.trod enc P w 0 sp held fuel t cs = some (d, ps)) :
  cs = [.slice none 0 0] \/ ∃ a len cap, cs = [.slice (some a) len cap] /\ len <= cap /\ cap <= maxLen /\
   ∀ i, i < len -> ∃ xs f x, w.cells? 0 (a.add (i * P.cellsOf e)) (P.cellsOf e) = some xs /\ DataW.trod enc P w 0 sp held f e xs = some x := by
 cases fuel with
 | zero => simp [DataW.trod] at h
 | succ fuel =>
  unfold DataW.trod at h
  rw [hu] at h
  split at h <;> first | (simp_all; done) | skip
  rename_i e' a len cap heq
  cases heq
  refine .inr ⟨a, len, cap, rfl, ?_⟩
  simp only at h
  split at h
  ·rename_i hc
   refine ⟨hc.2.1, hc.2.2, fun i hi => ?_⟩
   simp only [Option.bind_eq_some_iff] at h
   obtain ⟨elems, gm, _⟩ := h
   obtain ⟨hl, hg⟩ := UA gm
   obtain ⟨x, _, hx⟩ := hg i i (by simp [hi])
   obtain ⟨xs, h1, h2⟩ := Option.bind_eq_some_iff.1 hx
   exact ⟨xs, fuel, x, h1, h2⟩
  ·cases h
theorem trod_struct {fs : Array Field} (hu : P.underlying t = some (.struct fs)) (h : DataW.trod enc P w 0 sp held fuel t cs = some (d, ps)) :
  cs.length = P.cellsOf t /\ ∀ f ∈ fs.toList, ∃ q x, DataW.trod enc P w 0 sp held q f.type (cut cs f.offset (P.cellsOf f.type)) = some x := by
 cases fuel with
 | zero => simp [DataW.trod] at h
 | succ fuel =>
  unfold DataW.trod at h
  rw [hu] at h
  split at h <;> first | (simp_all; done) | skip
  rename_i fK heq
  cases heq
  split at h
  ·rename_i hc
   refine ⟨hc, fun f hf => ?_⟩
   simp only [Option.map_eq_some_iff] at h
   obtain ⟨xs, hx, _⟩ := h
   obtain ⟨_, hg⟩ := UA hx
   obtain ⟨i, hi⟩ := List.mem_iff_getElem?.1 hf
   obtain ⟨x, _, hx⟩ := hg i f hi
   exact ⟨fuel, x, hx⟩
  ·cases h
end
theorem GB {w : World} {a : Addr} {v : Value} (h : w.cell? a = some v) : a.block < w.heap.size := by
 unfold World.cell? at h
 cases hh : w.heap[a.block]? with
 | none => simp [hh] at h
 | some o => exact (Array.getElem?_eq_some_iff.1 hh).1
theorem L9 (a : Addr) (m k : Nat) (h : m <= k) : a.add k = (a.add m).add (k - m) := by
 simp only [Addr.add]
 by_cases h0 : m = 0
 ·subst h0; simp
 ·by_cases h1 : k - m = 0
  ·have : k = m := by omega
   subst this; simp [h0]
  ·have : k ≠ 0 := by omega
   simp only [h0, h1, this, if_false]
   congr 1
   omega
theorem LA {w : World} {P : Program} {n size : Nat} {e : TypeId} {a : Addr} {len cap : Nat} (gl : len <= cap) (pN : cap <= maxLen)
  (h : ∀ i, i < len -> ∃ xs row, w.cells? 0 (a.add (i * size)) size = some xs /\ Zc (Rd (Cells w) w) xs row /\ TyR P n e row) :
  ∃ rows : List (List D), Rd (Cells w) w (.slice (some a) len cap) (.sl size rows) /\ rows.length <= maxLen /\ ∀ r ∈ rows, TyR P n e r /\ r.length = size := by
 have key : ∀ m, m <= len -> ∃ rows : List (List D), rows.length = m /\ (∀ r ∈ rows, TyR P n e r /\ r.length = size) /\
   ∀ k d, rows.flatten[k]? = some d -> ∃ v, w.cell? (a.add k) = some v /\ Rd (Cells w) w v d := by
  intro m
  induction m with
  | zero => intro _; exact ⟨[], rfl, (by intro r hr; cases hr), (by intro k d hk; simp at hk)⟩
  | succ m ih =>
   intro hm
   obtain ⟨rows, hl, ht, hk⟩ := ih (by omega)
   obtain ⟨xs, row, hx, wC, vy⟩ := h m (by omega)
   obtain ⟨p8, gn⟩ := IC hx
   have se : row.length = size := by rw [<- wC.length, p8]
   have vZ : rows.flatten.length = m * size := by rw [Zy rows size (fun r hr => (ht r hr).2), hl]
   refine ⟨rows ++ [row], by simp [hl], fun r hr => ?_, fun k d hd => ?_⟩
   ·rcases List.mem_append.1 hr with hr | hr
    ·exact ht r hr
    ·simp at hr; subst hr; exact ⟨vy, se⟩
   ·rw [List.flatten_append, List.flatten_singleton] at hd
    rcases Nat.lt_or_ge k rows.flatten.length with wN | tA
    ·rw [List.getElem?_append_left wN] at hd
     exact hk k d hd
    ·rw [List.getElem?_append_right tA] at hd
     obtain ⟨v, hv, hr⟩ := wC.get' _ d hd
     refine ⟨v, ?_, hr⟩
     have := gn _ v hv
     rw [show a.add k = (a.add (m * size)).add (k - rows.flatten.length) by rw [vZ]; rw [vZ] at tA; exact L9 a (m * size) k tA]
     exact this
 obtain ⟨rows, hl, ht, hk⟩ := key len (Nat.le_refl _)
 refine ⟨rows, ?_, by omega, ht⟩
 have pP : rows.flatten ≠ [] -> a.spot = none := by
  intro wD
  obtain ⟨d, tl, nd⟩ := List.exists_cons_of_ne_nil wD
  obtain ⟨v, hv, _⟩ := hk 0 d (by rw [nd]; rfl)
  have := World.cell?_spot hv
  simpa [Addr.add] using this
 refine .sl a len cap size rows (fun k => (w.cell? (a.add k)).getD undef) hl gl pN (fun r hr => (ht r hr).2) pP (fun k d hd => ?_) (fun k d hd => ?_)
 ·obtain ⟨v, hv, _⟩ := hk k d hd
  have sI : a.spot = none := pP (by intro hh; rw [hh] at hd; simp at hd)
  have he : a.add k = ⟨a.block, a.off + k, none⟩ := by
   obtain ⟨b, o, sp⟩ := a
   simp only at sI
   subst sI
   simp only [Addr.add]
   split
   ·rename_i h0; subst h0; rfl
   ·rfl
  rw [he] at hv ⊢
  rw [hv]
  exact ⟨rfl, GB (a := ⟨a.block, a.off + k, none⟩) hv⟩
 ·obtain ⟨v, hv, hr⟩ := hk k d hd
  simp only [hv, Option.getD_some]; exact hr
theorem VO {H : Type} {enc : TypeId × Value -> H} {P : Program} {w : World} {sp : Nat -> Bool} {held : Bool} : ∀ (n : Nat) {fuel : Nat} {t : TypeId} {cs : List Value} {d : DataW H} {ps : List MemPlace}, jX P n t = true -> P3 P n t = true ->
  DataW.trod enc P w 0 sp held fuel t cs = some (d, ps) -> ∃ row, Zc (Rd (Cells w) w) cs row /\ TyR P n t row
 | 0, _, _, _, _, _, h, _, _ => by simp [jX] at h
 | n + 1, fuel, t, cs, d, ps, hp, hl, h => by
  simp only [jX] at hp
  simp only [P3] at hl
  simp only [TyR]
  cases hu : P.underlying t with
  | none => simp [hu] at hp
  | some td =>
   cases td with
   | bool => obtain ⟨b, rfl⟩ := trod_bool hu h; exact ⟨_, .cons (.bool b) .nil, b, rfl⟩
   | int k => obtain ⟨m, rfl, h1, h2⟩ := trod_int hu h; exact ⟨_, .cons (.int k m) .nil, m, rfl, h1, h2⟩
   | string => obtain ⟨s, rfl, h1⟩ := HO hu h; exact ⟨_, .cons (.str s) .nil, s, rfl, h1⟩
   | slice e =>
    simp only [hu] at hp hl
    simp only [Bool.and_eq_true] at hl
    rcases trod_slice hu h with rfl | ⟨a, len, cap, rfl, h1, h2, h3⟩
    ·exact ⟨_, .cons (.nil (P.cellsOf e)) .nil, [], rfl, by simp, by simp⟩
    ·obtain ⟨rows, hr, se, gp⟩ := LA (P := P) (n := n) (size := P.cellsOf e) (e := e) h1 h2 (fun i hi => by
      obtain ⟨xs, f, x, hx, ht⟩ := h3 i hi
      obtain ⟨row, wC, vy⟩ := VO n hp hl.2 (d := x.1) (ps := x.2) ht
      exact ⟨xs, row, hx, wC, vy⟩)
     exact ⟨_, .cons hr .nil, rows, rfl, se, gp⟩
   | struct fs =>
    simp only [hu] at hp hl
    simp only [Bool.and_eq_true] at hp hl
    obtain ⟨h1, h2⟩ := trod_struct hu h
    obtain ⟨row, wC, rN⟩ := jq (w := w) (P := P) (q := n) h1 hl.2 (Nat.zero_le _) (fun f hf => by
     obtain ⟨q, x, hx⟩ := h2 f hf
     exact VO n (List.all_eq_true.1 hp.1 f hf) (List.all_eq_true.1 hl.1 f hf) (d := x.1) (ps := x.2) hx)
    refine ⟨row, by simpa using wC, ?_, fun f hf => by simpa using rN [] rfl f hf⟩
    have := wC.length
    simp at this
    omega
   | _ => simp [hu] at hp
end Go.Vm
namespace Go.Vm
open Go.RowKit Go.WideShapes Go.ChangeAt Go.ChangeShapes
theorem Rp {H : Type} {enc : TypeId × Value -> H} {P : Program} {w : World} {sp : Nat -> Bool} {held : Bool} {n base : Nat} {t : TypeId} {v : Value} {d : DataW H} {ps : List MemPlace} {r : Reach}
  (hp : jX P n t = true) (hl : P3 P n t = true) (wb : Value.okWide P w r base t v) (h : DataW.Trod enc P w 0 sp held t v d ps) : ∃ row, Reads w v row /\ TyR P n t row := by
 obtain ⟨fuel, hf⟩ := h
 obtain ⟨row, wC, vy⟩ := VO n hp hl hf
 refine ⟨row, ⟨v.cells.toList, ?_, wC⟩, vy⟩
 cases n with
 | zero => simp [jX] at hp
 | succ n =>
  simp only [jX] at hp
  cases hu : P.underlying t with
  | none => simp [hu] at hp
  | some td =>
   cases td with
   | bool => obtain ⟨b, rfl⟩ := okWide_bool hu wb; exact .inl ⟨_, rfl, rfl, rfl⟩
   | int k => obtain ⟨b, rfl⟩ := okWide_int hu wb; exact .inl ⟨_, rfl, rfl, rfl⟩
   | string => obtain ⟨b, rfl⟩ := okWide_string hu wb; exact .inl ⟨_, rfl, rfl, rfl⟩
   | slice e => obtain ⟨a, l, c, rfl⟩ := okWide_slice hu wb; exact .inl ⟨_, rfl, rfl, rfl⟩
   | struct fs =>
    obtain ⟨cs, rfl, vL⟩ := okWide_struct hu wb
    simp [hu] at hp
    exact .inr ⟨by simp [Value.cells, vL, hp.2], by simp [Value.cells]⟩
   | _ => simp [hu] at hp
def RT (P : Program) (n : Nat) : List TypeId -> List (List D) -> Prop
 | [], [] => True
 | t :: ts, r :: rs => TyR P n t r /\ RT P n ts rs
 | _, _ => False
def yP (P : Program) (n : Nat) (ts : List TypeId) : Bool := ts.all fun t => jX P n t && P3 P n t && P.readableRec t && decide (t < P.types.size)
theorem Un {H : Type} {enc : TypeId × Value -> H} {P : Program} {w : World} {sp : Nat -> Bool} {held : Bool} {n base : Nat} {r : Reach} : ∀ {ts : List TypeId} {vs : List Value} {ds : List (DataW H)} {ps : List MemPlace}, yP P n ts = true ->
  (∀ (j : Nat) t v, ts[j]? = some t -> vs[j]? = some v -> Value.okWide P w r base t v) -> DataW.TrodAll enc P w 0 sp held ts vs ds ps -> ∃ rows, Zc (Reads w) vs rows /\ RT P n ts rows
 | [], [], [], _, _, _, _ => ⟨[], .nil, trivial⟩
 | t :: ts, v :: vs, d :: ds, _, hp, wb, h => by
  obtain ⟨p, q, h1, h2, _⟩ := h
  simp only [yP, List.all_cons, Bool.and_eq_true] at hp
  obtain ⟨row, hr, ht⟩ := Rp hp.1.1.1.1 hp.1.1.1.2 (wb 0 t v rfl rfl) h1
  obtain ⟨rows, uF, gq⟩ := Un (by simpa [yP] using hp.2) (fun j t v ht hv => wb (j + 1) t v ht hv) h2
  exact ⟨row :: rows, .cons hr uF, ht, gq⟩
 | [], [], _ :: _, _, _, _, h => h.elim
 | [], _ :: _, _, _, _, _, h => by cases ‹List (DataW H)› <;> exact h.elim
 | _ :: _, [], _, _, _, _, h => by cases ‹List (DataW H)› <;> exact h.elim
 | _ :: _, _ :: _, [], _, _, _, h => h.elim
theorem qk {H : Type} {enc : TypeId × Value -> H} {P : Program} {n : Nat} (uV : laidOutB P = true) {W W' : World} (hb : Below W.heap.size W W') : ∀ {ts : List TypeId} {vs : List Value} {ds : List (DataW H)} {ps : List MemPlace}, yP P n ts = true ->
  DataW.TrodAll enc P W 0 (fun _ => true) true ts vs ds ps -> DataW.TrodAll enc P W' 0 (fun b => decide (b < W.heap.size)) true ts vs ds ps
 | [], [], [], _, _, h => h
 | t :: ts, v :: vs, d :: ds, _, hp, h => by
  obtain ⟨p, q, h1, h2, rfl⟩ := h
  simp only [yP, List.all_cons, Bool.and_eq_true, decide_eq_true_eq] at hp
  have gv : ∀ x ∈ p, x.block < W.heap.size := by obtain ⟨m, hm⟩ := h1; exact DataW.trod_lt m _ _ _ hm
  exact ⟨p, q, Below.trod uV hp.1.1.2 hp.1.2 h1 hb gv, qk uV hb (by simpa [yP] using hp.2) h2, rfl⟩
 | [], [], _ :: _, _, _, h => h.elim
 | [], _ :: _, _, _, _, h => by cases ‹List (DataW H)› <;> exact h.elim
 | _ :: _, [], _, _, _, h => by cases ‹List (DataW H)› <;> exact h.elim
 | _ :: _, _ :: _, [], _, _, h => h.elim
end Go.Vm
