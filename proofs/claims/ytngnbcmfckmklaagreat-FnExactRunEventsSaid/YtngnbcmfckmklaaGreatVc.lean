/- An abstract machine GP the model of Go, by value, and that it is sound: part Vc. No condition. -/
import Derived.Test.YtngnbcmfckmklaaGreatVf
import Derived.ProofKit
import Derived.OpenShut
import Derived.Below
import Derived.ChangeOld
import Derived.DataReads
import Derived.Carry
namespace Go.Vm
open Go.RowKit
abbrev Ren := List ((Nat × Nat) × Option (Nat × Nat))
def yw : Ren -> Nat -> Nat -> Option (Nat × Nat)
 | [], t, j => some (t, j)
 | (n, o) :: ρ, t, j => if t = n.1 /\ j = n.2 then o else yw ρ t j
def inF : List (Nat × Nat) -> Nat -> Nat -> Bool
 | [], _, _ => false
 | n :: F, t, j => (t == n.1 && j == n.2) || inF F t j
def BB (σ : St) (ρ : Ren) (F : List (Nat × Nat)) : At -> At -> Prop
 | _, .any => True
 | .d x, .d y => x = y
 | .nil _, .nil _ => True
 | .nil s, .d y => y = .sl s []
 | .nil _, .sref t j lo len => yw ρ t j = none /\ lo = 0 /\ len = 0
 | .sref t j lo len, .sref t' j' dv eZ => yw ρ t' j' = some (t, j) /\ lo = dv /\ len = eZ
 | .sref t j lo len, .d y => inF F t j = true /\ (match σ.ob t j with | .arr _ s rows => y = .sl s (cut rows lo len) | _ => False)
 | .tref t j i c o, .tref t' j' i' c' o' => yw ρ t' j' = some (t, j) /\ i = i' /\ c = c' /\ o = o' /\ (match σ.ob t j with | .arr true _ _ => True | _ => False)
 | .ptr t j i c, .ptr t' j' i' c' => yw ρ t' j' = some (t, j) /\ i = i' /\ c = c'
 | .bptr t c, .bptr t' c' => yw ρ t' 0 = some (t, 0) /\ c = c'
 | .fn f t, .fn f' t' => yw ρ t' 0 = some (t, 0) /\ f = f'
 | .rptr r c, .rptr r' c' => r = r' /\ c = c'
 | _, _ => False
def Lz (σ : St) (ρ : Ren) (F : List (Nat × Nat)) : List At -> List At -> Prop
 | [], [] => True
 | x :: xs, y :: ys => BB σ ρ F x y /\ Lz σ ρ F xs ys
 | _, _ => False
def wkV (σ : St) (ρ : Ren) (F : List (Nat × Nat)) : V -> V -> Prop
 | _, .any => True
 | .one x, .one y => BB σ ρ F x y
 | .agg xs, .agg ys => Lz σ ρ F xs ys
 | .fix u (.one x), .fix u' (.one y) => u = u' /\ BB σ ρ F x y
 | .fix u (.agg xs), .fix u' (.agg ys) => u = u' /\ Lz σ ρ F xs ys
 | .fix _ (.one x), .one y => BB σ ρ F x y
 | .fix _ (.agg xs), .agg ys => Lz σ ρ F xs ys
 | _, _ => False
def BP (σ : St) (ρ : Ren) (F : List (Nat × Nat)) (t' j' : Nat) : Ob -> Prop
 | .none => True
 | .arr q size rows => (match yw ρ t' j' with
  | none => rows = []
  | some (t, j) => inF F t j = false /\ (match σ.ob t j with | .arr p s r => (p = q \/ p = false /\ ∀ x ∈ rows, ∀ y ∈ x, y.scalar = true) /\ s = size /\ r = rows | _ => False))
 | .lit _ _ => False
 | .box cells => (match yw ρ t' j' with
  | none => False
  | some (t, j) => inF F t j = false /\ (match σ.ob t j with | .box cs => Lz σ ρ F cs cells | _ => False))
def uh (σ : St) (ρ : Ren) (F : List (Nat × Nat)) (t : Nat) : List Ob -> Nat -> Prop
 | [], _ => True
 | o :: os, j => BP σ ρ F t j o /\ uh σ ρ F t os (j + 1)
def Ox (σ : St) (ρ : Ren) (F : List (Nat × Nat)) : List Ent -> List Ent -> Nat -> Prop
 | [], [], _ => True
 | e :: es, e' :: bf, t => (wkV σ ρ F e.1 e'.1 /\ uh σ ρ F t e'.2 0) /\ Ox σ ρ F es bf (t + 1)
 | _, _, _ => False
def zJ : Ren -> Nat -> Nat -> Bool
 | [], _, _ => false
 | (n, _) :: ρ, t, j => (t == n.1 && j == n.2) || zJ ρ t j
def Wu : Ren -> Nat -> Nat -> Bool
 | [], _, _ => false
 | (_, some o) :: ρ, t, j => (t == o.1 && j == o.2) || Wu ρ t j
 | (_, none) :: ρ, t, j => Wu ρ t j
def vf (σ' : St) (t j : Nat) : Bool := match σ'.ob t j with | .none => true | _ => false
def UD (σ' : St) (all : Ren) : Ren -> Bool
 | [] => true
 | (_, some o) :: ρ => !Wu ρ o.1 o.2 && (zJ all o.1 o.2 || vf σ' o.1 o.2) && UD σ' all ρ
 | (_, none) :: ρ => UD σ' all ρ
theorem VE : ∀ {ρ : Ren} {t j : Nat}, zJ ρ t j = false -> yw ρ t j = some (t, j)
 | [], _, _, _ => rfl
 | (n, o) :: ρ, t, j, h => by
  simp only [zJ, Bool.or_eq_false_iff, Bool.and_eq_false_iff, beq_eq_false_iff_ne] at h
  simp only [yw]
  rw [if_neg (by rintro ⟨h1, h2⟩; rcases h.1 with h3 | h3 <;> contradiction)]
  exact VE h.2
theorem Tp : ∀ {ρ : Ren} {t j : Nat} {o : Nat × Nat}, zJ ρ t j = true -> yw ρ t j = some o -> Wu ρ o.1 o.2 = true
 | [], _, _, _, h, _ => by simp [zJ] at h
 | (n, o') :: ρ, t, j, o, h, ho => by
  simp only [yw] at ho
  split at ho
  ·subst ho; simp [Wu]
  ·rename_i iU
   have h' : zJ ρ t j = true := by
    simp only [zJ, Bool.or_eq_true, Bool.and_eq_true, beq_iff_eq] at h
    rcases h with h | h
    ·exact absurd h iU
    ·exact h
   have := Tp h' ho
   cases o' with
   | none => simpa [Wu] using this
   | some o' => simp [Wu, this]
theorem CG {σ' : St} {all : Ren} : ∀ {ρ : Ren} {t j t' j' : Nat} {o : Nat × Nat}, UD σ' all ρ = true -> zJ ρ t j = true -> zJ ρ t' j' = true -> yw ρ t j = some o -> yw ρ t' j' = some o -> (t, j) = (t', j')
 | [], _, _, _, _, _, _, h, _, _, _ => by simp [zJ] at h
 | (n, o') :: ρ, t, j, t', j', o, hR, hn, gU, ho, hD => by
  have hokr : UD σ' all ρ = true := by
   cases o' with
   | none => simpa [UD] using hR
   | some o' => simp only [UD, Bool.and_eq_true] at hR; exact hR.2
  simp only [yw] at ho hD
  by_cases h1 : t = n.1 /\ j = n.2
  ·rw [if_pos h1] at ho
   by_cases h2 : t' = n.1 /\ j' = n.2
   ·rw [h1.1, h1.2, h2.1, h2.2]
   ·rw [if_neg h2] at hD
    have h' : zJ ρ t' j' = true := by
     simp only [zJ, Bool.or_eq_true, Bool.and_eq_true, beq_iff_eq] at gU
     exact gU.resolve_left h2
    have hold := Tp h' hD
    subst ho
    simp only [UD, Bool.and_eq_true, Bool.not_eq_true'] at hR
    rw [hold] at hR; cases hR.1.1
  ·rw [if_neg h1] at ho
   have h : zJ ρ t j = true := by
    simp only [zJ, Bool.or_eq_true, Bool.and_eq_true, beq_iff_eq] at hn
    exact hn.resolve_left h1
   by_cases h2 : t' = n.1 /\ j' = n.2
   ·rw [if_pos h2] at hD
    have hold := Tp h ho
    subst hD
    simp only [UD, Bool.and_eq_true, Bool.not_eq_true'] at hR
    rw [hold] at hR; cases hR.1.1
   ·rw [if_neg h2] at hD
    have h' : zJ ρ t' j' = true := by
     simp only [zJ, Bool.or_eq_true, Bool.and_eq_true, beq_iff_eq] at gU
     exact gU.resolve_left h2
    exact CG hokr h h' ho hD
theorem Sb {σ' : St} {all : Ren} : ∀ {ρ : Ren} {t j : Nat}, UD σ' all ρ = true -> Wu ρ t j = true -> zJ all t j = true \/ σ'.ob t j = .none
 | [], _, _, _, h => by simp [Wu] at h
 | (n, o') :: ρ, t, j, hR, h => by
  cases o' with
  | none => exact Sb (ρ := ρ) (by simpa [UD] using hR) (by simpa [Wu] using h)
  | some o =>
   simp only [UD, Bool.and_eq_true, Bool.or_eq_true] at hR
   simp only [Wu, Bool.or_eq_true, Bool.and_eq_true, beq_iff_eq] at h
   rcases h with ⟨rfl, rfl⟩ | h
   ·refine hR.1.2.imp id fun hf => ?_
    unfold vf at hf; split at hf <;> first | assumption | cases hf
   ·exact Sb hR.2 h
theorem ph {σ' : St} {ρ : Ren} (hR : UD σ' ρ ρ = true) {t j t' j' : Nat} {o : Nat × Nat} (h1 : σ'.ob t j ≠ .none) (h2 : σ'.ob t' j' ≠ .none) (ho : yw ρ t j = some o) (hD : yw ρ t' j' = some o) : t = t' /\ j = j' := by
 cases hn : zJ ρ t j with
 | true =>
  cases gU : zJ ρ t' j' with
  | true => have := CG hR hn gU ho hD; cases this; exact ⟨rfl, rfl⟩
  | false =>
   have hid := VE gU
   rw [hid] at hD; cases hD
   have hold := Tp hn ho
   rcases Sb hR hold with h | h
   ·rw [gU] at h; cases h
   ·exact absurd h h2
 | false =>
  have hid := VE hn
  rw [hid] at ho; cases ho
  cases gU : zJ ρ t' j' with
  | true =>
   have hold := Tp gU hD
   rcases Sb hR hold with h | h
   ·rw [hn] at h; cases h
   ·exact absurd h h1
  | false =>
   have hid' := VE gU
   rw [hid'] at hD; cases hD; exact ⟨rfl, rfl⟩
theorem OH {σ : St} {ρ : Ren} {F : List (Nat × Nat)} : ∀ {es bf : List Ent} {t : Nat}, Ox σ ρ F es bf t -> es.length = bf.length
 | [], [], _, _ => rfl
 | _ :: _, _ :: _, _, h => by simp [OH h.2]
 | [], _ :: _, _, h => h.elim
 | _ :: _, [], _, h => h.elim
theorem FG {σ : St} {ρ : Ren} {F : List (Nat × Nat)} : ∀ {es bf : List Ent} {t : Nat}, Ox σ ρ F es bf t -> ∀ (i : Nat), wkV σ ρ F (St.get es i) (St.get bf i) /\ ∀ j, BP σ ρ F (t + i) j (St.ob bf i j)
 | [], [], t, _, i => ⟨by simp [St.get, wkV], fun j => by simp [St.ob, BP]⟩
 | e :: es, e' :: bf, t, h, 0 => by
  refine ⟨h.1.1, fun j => ?_⟩
  have : ∀ (os : List Ob) (k : Nat), uh σ ρ F t os k -> ∀ j, BP σ ρ F t (k + j) (Yp os j) := by
   intro os
   induction os with
   | nil => intro k _ j; simp [Yp, BP]
   | cons o os ih =>
    intro k hk j
    cases j with
    | zero => exact hk.1
    | succ j => have := ih (k + 1) hk.2 j; rw [show k + (j + 1) = k + 1 + j by omega]; simpa [Yp] using this
  have := this e'.2 0 h.1.2 j
  simpa using this
 | e :: es, e' :: bf, t, h, i + 1 => by
  have := FG h.2 i
  rw [show t + (i + 1) = t + 1 + i by omega]
  simpa [St.get, St.ob] using this
 | [], _ :: _, _, h, _ => h.elim
 | _ :: _, [], _, h, _ => h.elim
theorem pD {T : CS} {w : World} {xs : List Value} {ds : List D} {S : Nat -> Prop} (iV : Z6 (Rd T w) xs ds) (hf : ∀ d ∈ ds, d.scalar = true) : Jx w xs ds S :=
 ⟨iV.length, fun _ _ => False, fun k x d hx hd => by
  obtain ⟨d', ir, hr⟩ := iV.get k x hx
  rw [hd] at ir; cases ir
  exact Rd.own (hf d (List.mem_of_getElem? hd)) hr, fun _ _ hb => hb.elim, fun _ _ _ hb => hb.elim⟩
theorem Xf {σ σ' : St} (ρ : Ren) (F : List (Nat × Nat)) (hR : UD σ' ρ ρ = true) (hs : Ox σ ρ F σ σ' 0) : Wk σ σ' := by
 rintro T0 B a w ⟨X, h, r⟩
 let h' : Nat -> Nat -> Hd := fun t j => match yw ρ t j with | some o => h o.1 o.2 | none => Hd.of (.slice none 0 0)
 let X' : Nat -> Prop := fun b => X b \/ ∃ t j, inF F t j = true /\ σ.ob t j ≠ .none /\ (h t j).u b
 have hlen := OH hs
 have gY := FG hs
 have hH : ∀ t j, BP σ ρ F t j (σ'.ob t j) := fun t j => by have := (gY t).2 j; simpa using this
 have ax : ∀ b k v, Tof T0 X b k -> w.cell? ⟨b, k, none⟩ = some v -> w.cell? ⟨b, k, none⟩ = some v /\ Tof T0 X' b k := fun b k v hb hc => ⟨hc, hb.imp id .inl⟩
 have dQ : ∀ t' j' q size rows, σ'.ob t' j' = .arr q size rows -> (yw ρ t' j' = none /\ rows = []) \/ ∃ t j p, yw ρ t' j' = some (t, j) /\ inF F t j = false /\ σ.ob t j = .arr p size rows /\ (p = q \/ p = false /\ ∀ x ∈ rows, ∀ y ∈ x, y.scalar = true) := by
  intro t' j' q size rows ho
  have := hH t' j'
  rw [ho] at this
  simp only [BP] at this
  split at this
  ·rename_i hn; exact .inl ⟨hn, this⟩
  ·rename_i t j hn
   obtain ⟨hF, this⟩ := this
   split at this
   ·rename_i p s r gT; obtain ⟨hp, rfl, rfl⟩ := this; exact .inr ⟨t, j, p, hn, hF, gT, hp⟩
   ·exact this.elim
 have cB : ∀ t' j' size rows, σ'.ob t' j' ≠ .lit size rows := by
  intro t' j' size rows ho
  have := hH t' j'
  rw [ho] at this; exact this
 have cE : ∀ t' j' cells, σ'.ob t' j' = .box cells -> ∃ t j cs, yw ρ t' j' = some (t, j) /\ inF F t j = false /\ σ.ob t j = .box cs /\ Lz σ ρ F cs cells := by
  intro t' j' cells ho
  have := hH t' j'
  rw [ho] at this
  simp only [BP] at this
  split at this
  ·exact this.elim
  ·rename_i t j hn
   obtain ⟨hF, this⟩ := this
   split at this
   ·rename_i cs gT; exact ⟨t, j, cs, hn, hF, gT, this⟩
   ·exact this.elim
 have at_ : ∀ {x y : At} {v : Value}, BB σ ρ F x y -> YI (Tof T0 X) h σ.ob w x v -> YI (Tof T0 X') h' σ'.ob w y v := by
  intro x y v hw hr
  have h1 := YI.X4 hr
  cases y with
  | any => exact h1
  | d y =>
   cases x with
   | d x => simp only [BB] at hw; subst hw; exact Rd.mono ax hr
   | nil s => simp only [BB] at hw; subst hw; cases hr; exact .nil _
   | sref t j lo len =>
    simp only [BB] at hw
    obtain ⟨hF, hw⟩ := hw
    split at hw
    ·rename_i q s rows ho
     subst hw
     exact r.ug ho hr _ (fun b k hb => hb.imp id .inl) (fun b k hb => .inr (.inr ⟨t, j, hF, by rw [ho]; simp, hb⟩))
    ·exact hw.elim
   | _ => exact hw.elim
  | nil s =>
   cases x with
   | nil s' => exact hr
   | _ => exact hw.elim
  | sref t' j' dv eZ =>
   cases x with
   | nil s =>
    obtain ⟨hn, rfl, rfl⟩ := hw
    cases hr
    refine ⟨rfl, fun q size rows ho => ?_, fun size rows ho => absurd ho (cB _ _ _ _)⟩
    simp only [h', hn]
    exact ⟨by omega, fun _ _ => rfl, fun _ => rfl, none, 0, rfl, by omega, by simp [maxLen], fun _ => rfl, fun hh => absurd hh (by omega)⟩
   | sref t j lo len =>
    obtain ⟨hn, rfl, rfl⟩ := hw
    refine ⟨h1, fun q size rows ho => ?_, fun size rows ho => absurd ho (cB _ _ _ _)⟩
    rcases dQ t' j' q size rows ho with ⟨gU, _⟩ | ⟨t2, j2, p, gU, _, gT, _⟩
    ·rw [hn] at gU; cases gU
    ·rw [hn] at gU; cases gU
     simp only [h', hn]
     exact hr.2.1 p size rows gT
   | _ => exact hw.elim
  | ptr t' j' i' c' =>
   cases x with
   | ptr t j i c =>
    obtain ⟨hn, rfl, rfl⟩ := hw
    refine ⟨h1, fun q size rows ho => ?_⟩
    rcases dQ t' j' q size rows ho with ⟨gU, _⟩ | ⟨t2, j2, p, gU, _, gT, _⟩
    ·rw [hn] at gU; cases gU
    ·rw [hn] at gU; cases gU
     simp only [h', hn]
     exact hr.2 p size rows gT
   | _ => exact hw.elim
  | tref t' j' i' c' o' =>
   cases x with
   | tref t j i c o =>
    obtain ⟨hn, rfl, rfl, rfl, hq⟩ := hw
    refine ⟨h1, fun size rows ho => ?_⟩
    rcases dQ t' j' true size rows ho with ⟨gU, _⟩ | ⟨t2, j2, p, gU, _, gT, hp⟩
    ·rw [hn] at gU; cases gU
    ·rw [hn] at gU; cases gU
     simp only [h', hn]
     rcases hp with rfl | ⟨rfl, g5⟩
     ·exact hr.2 size rows gT
     ·rw [gT] at hq; exact hq.elim
   | _ => exact hw.elim
  | bptr t' c' =>
   cases x with
   | bptr t c =>
    obtain ⟨hn, rfl⟩ := hw
    refine ⟨h1, fun cells ho => ?_⟩
    obtain ⟨t2, j2, cs, gU, _, gT, _⟩ := cE t' 0 cells ho
    rw [hn] at gU; cases gU
    simp only [h', hn]
    exact hr.2 cs gT
   | _ => exact hw.elim
  | fn f' t' =>
   cases x with
   | fn f t =>
    obtain ⟨hn, rfl⟩ := hw
    refine ⟨h1, fun cells ho => ?_⟩
    obtain ⟨t2, j2, cs, gU, _, gT, _⟩ := cE t' 0 cells ho
    rw [hn] at gU; cases gU
    simp only [h', hn]
    exact hr.2 cs gT
   | _ => exact hw.elim
  | rptr r' c' =>
   cases x with
   | rptr r0 c =>
    obtain ⟨rfl, rfl⟩ := hw
    obtain ⟨b, off, g, e, hk⟩ := hr
    exact ⟨b, off, g, e, fun k d hd => ⟨(hk k d hd).1, (hk k d hd).2.1.imp id .inl, Rd.mono ax (hk k d hd).2.2⟩⟩
   | _ => exact hw.elim
 have aE : ∀ {xs ys : List At} {vs : List Value}, Lz σ ρ F xs ys -> Z6 (YI (Tof T0 X) h σ.ob w) xs vs -> Z6 (YI (Tof T0 X') h' σ'.ob w) ys vs := by
  intro xs
  induction xs with
  | nil => intro ys vs hw hr; cases ys with
   | nil => cases hr; exact .nil
   | cons y ys => exact hw.elim
  | cons x xs ih => intro ys vs hw hr; cases ys with
   | nil => exact hw.elim
   | cons y ys => cases hr with
    | cons h1 hr => exact .cons (at_ hw.1 h1) (ih hw.2 hr)
 have v_ : ∀ {x y : V} {v : Value}, wkV σ ρ F x y -> JN (Tof T0 X) h σ.ob w x v -> JN (Tof T0 X') h' σ'.ob w y v := by
  intro x y v hw hr
  cases y with
  | any => trivial
  | one y => cases x with
   | one x => exact at_ hw hr
   | fix u x => cases x with
    | one x => exact at_ hw hr.2
    | _ => exact hw.elim
   | _ => exact hw.elim
  | agg ys => cases x with
   | agg xs => obtain ⟨cs, e, hr⟩ := hr; exact ⟨cs, e, aE hw hr⟩
   | fix u x => cases x with
    | agg xs => obtain ⟨cs, e, hr⟩ := hr.2; exact ⟨cs, e, aE hw hr⟩
    | _ => exact hw.elim
   | _ => exact hw.elim
  | tup ys => cases x with
   | fix u x => cases x <;> exact hw.elim
   | _ => exact hw.elim
  | cnd g y => cases x with
   | fix u x => cases x <;> exact hw.elim
   | _ => exact hw.elim
  | fix u' y => cases x with
   | fix u x => cases x with
    | one x => cases y with
     | one y => obtain ⟨rfl, hw⟩ := hw; exact ⟨hr.1, at_ hw hr.2⟩
     | _ => exact hw.elim
    | agg xs => cases y with
     | agg ys => obtain ⟨rfl, hw⟩ := hw; obtain ⟨e1, cs, e, hr⟩ := hr; exact ⟨e1, cs, e, aE hw hr⟩
     | _ => exact hw.elim
    | _ => cases y <;> exact hw.elim
   | _ => cases y <;> exact hw.elim
 have iU : ∀ t j, σ'.ob t j ≠ .none -> (yw ρ t j = none /\ ∀ b, ¬ (h' t j).u b) \/ ∃ o, yw ρ t j = some o /\ σ.ob o.1 o.2 ≠ .none /\ inF F o.1 o.2 = false /\ h' t j = h o.1 o.2 := by
  intro t j hn
  cases ho : σ'.ob t j with
  | none => exact absurd ho hn
  | arr q size rows =>
   rcases dQ t j q size rows ho with ⟨gU, _⟩ | ⟨t2, j2, p, gU, hF, gT, _⟩
   ·exact .inl ⟨gU, fun b hb => by simp only [h', gU, Hd.of, blk] at hb; cases hb⟩
   ·exact .inr ⟨(t2, j2), gU, by rw [gT]; simp, hF, by simp only [h', gU]⟩
  | lit size rows => exact absurd ho (cB _ _ _ _)
  | box cells =>
   obtain ⟨t2, j2, cs, gU, hF, gT, _⟩ := cE t j cells ho
   exact .inr ⟨(t2, j2), gU, by rw [gT]; simp, hF, by simp only [h', gU]⟩
 refine ⟨X', h', by rw [r.size, hlen], r.defers, r.hB, fun b hb => ?_, r.hT, fun t ht => ?_, fun t j => ?_, fun t j b hn hb => ?_, fun t j b hn hb => ?_, fun t j t' j' b hn gU hb ig => ?_⟩
 ·rcases hb with hb | ⟨t, j, _, hn, hb⟩
  ·exact r.hX b hb
  ·have := r.own t j b hn hb; exact ⟨this.1, this.2.2⟩
 ·exact v_ (gY t).1 (r.slot t (by rw [hlen]; exact ht))
 ·cases ho : σ'.ob t j with
  | none => trivial
  | lit size rows => exact absurd ho (cB _ _ _ _)
  | arr q size rows =>
   rcases dQ t j q size rows ho with ⟨hn, rfl⟩ | ⟨u, k, p, hn, _, gT, hp⟩
   ·have : h' t j = Hd.of (.slice none 0 0) := by simp only [h', hn]
    rw [this]
    cases q with
    | false => exact ⟨0, [], World.ownsRow_nil w 0 0 size, (by intro q hq; cases hq), .nil⟩
    | true => exact ⟨0, [], World.ownsRow_nil w 0 0 size, (by intro q hq; cases hq), Jx.nil _, fun k x d hx => by simp at hx⟩
   ·have he : h' t j = h u k := by simp only [h', hn]
    rw [he]
    have h0 := r.obj u k
    rw [gT] at h0
    cases p with
    | false =>
     obtain ⟨e, xs, iX, hz, iV⟩ := h0
     cases q with
     | false => exact ⟨e, xs, iX, hz, iV.imp fun _ _ => Rd.mono ax⟩
     | true =>
      rcases hp with hp | ⟨_, g5⟩
      ·cases hp
      ·have cg : ∀ d ∈ rows.flatten, d.scalar = true := fun d hd => by
        obtain ⟨r0, eo, hdr⟩ := List.mem_flatten.1 hd
        exact g5 r0 eo d hdr
       exact ⟨e, xs, iX, hz, pD iV cg, fun k x d _ hd hs => by rw [cg d (List.mem_of_getElem? hd)] at hs; cases hs⟩
    | true =>
     rcases hp with rfl | ⟨hp, _⟩
     ·exact h0
     ·cases hp
  | box cells =>
   obtain ⟨u, k, cs, hn, _, gT, fK⟩ := cE t j cells ho
   have h0 := r.obj u k
   rw [gT] at h0
   obtain ⟨b, vs, e, hv, hh, iV⟩ := h0
   have he : h' t j = h u k := by simp only [h', hn]
   rw [he]
   exact ⟨b, vs, e, hv, hh, aE fK iV⟩
 ·rcases iU t j hn with ⟨hr, _⟩ | ⟨o, hr, bg, hF, he⟩
  ·simp only [h', hr, Hd.of, blk] at hb; cases hb
  ·rw [he] at hb ⊢; exact r.ub o.1 o.2 b bg hb
 ·rcases iU t j hn with ⟨_, bg⟩ | ⟨o, hr, bg, hF, he⟩
  ·exact absurd hb (bg b)
  ·rw [he] at hb
   have h0 := r.own o.1 o.2 b bg hb
   refine ⟨h0.1, ?_, h0.2.2⟩
   rintro (hx | ⟨t2, j2, hF2, hn2, gr⟩)
   ·exact h0.2.1 hx
   ·obtain ⟨h3, h4⟩ := r.inj o.1 o.2 t2 j2 b bg hn2 hb gr
    rw [h3, h4] at hF; rw [hF] at hF2; cases hF2
 ·rcases iU t j hn with ⟨_, bg⟩ | ⟨o, hr, bg, _, he⟩
  ·exact absurd hb (bg b)
  ·rcases iU t' j' gU with ⟨_, hno'⟩ | ⟨o', gL, hno', _, he'⟩
   ·exact absurd ig (hno' b)
   ·rw [he] at hb
    rw [he'] at ig
    obtain ⟨h3, h4⟩ := r.inj o.1 o.2 o'.1 o'.2 b bg hno' hb ig
    have : o = o' := Prod.ext h3 h4
    subst this
    exact ph hR hn gU hr gL
theorem XI {σ σ' : St} (hs : Ox σ [] [] σ σ' 0) : Wk σ σ' := Xf [] [] rfl hs
attribute [simp] yw inF BB Lz wkV BP uh Ox zJ Wu vf UD
end Go.Vm
namespace Go.Vm
open Go.RowKit
def Xp (P : Program) (σ : St) : List Operand -> List TypeId -> Prop × Option (List (List D))
 | [], _ => (True, some [])
 | x :: xs, t :: ts => (gOf (look P σ t x) = true /\ (Xp P σ xs ts).1, match (unc (look P σ t x)).zH σ, (Xp P σ xs ts).2 with | some r, some rs => some (r :: rs) | _, _ => none)
 | _ :: _, [] => (False, none)
theorem kq {P : Program} {σ : St} : ∀ {xs : List Operand} {ts : List TypeId} {rs : List (List D)}, (Xp P σ xs ts).1 -> (Xp P σ xs ts).2 = some rs -> Qs P σ xs ts rs
 | [], _, rs, _, h => by simp [Xp] at h; exact h
 | x :: xs, t :: ts, rs, h1, h => by
  simp only [Xp] at h
  split at h
  ·rename_i r rs' hr eQ
   cases h
   exact ⟨h1.1, r, rs', hr, kq h1.2 eQ, rfl⟩
  ·cases h
 | _ :: _, [], _, h1, _ => h1.elim
attribute [simp] Xp
theorem Hn {P : Program} {ops : Array Oper} {bar : Oper -> Bool} {o : Oper} {rest : List Oper} {σ : St} {Q : St -> Prop} {c : Call} {f : FuncId} {d : Nat} {own : Bool} {rows res : List (List D)} (iS : o.op = .call c) (hc : c.callee = .value (.func f)) (hg : o.guard = none) (hd : o.dst = some d)
  (hs : JC P f own rows res) (iq : (Xp P σ c.args.toList c.argTypes.toList).2 = some rows) (iY : (Xp P σ c.args.toList c.argTypes.toList).1) (hQ : Ym P σ c.args.toList c.argTypes.toList = true \/ Kh own res) (h : Ev P ops bar rest (σ.put d (j4 res)) Q) : xF P ops bar o rest σ Q :=
 Ax iS hc hg hd (kq iY iq) hs hQ h
theorem rm {P : Program} {ops : Array Oper} {bar : Oper -> Bool} {o : Oper} {rest : List Oper} {σ : St} {Q : St -> Prop} {c : Call} {f : FuncId} {d : Nat} {rows res : List (List D)} (iS : o.op = .call c) (hc : c.callee = .value (.func f)) (hg : o.guard = none) (hd : o.dst = some d)
  (hs : JC P f true rows res) (iq : (Xp P σ c.args.toList c.argTypes.toList).2 = some rows) (iY : (Xp P σ c.args.toList c.argTypes.toList).1) (hQ : Ym P σ c.args.toList c.argTypes.toList = true \/ Kh true res) (hf : σ.fresh d = true) (h : Ev P ops bar rest (σ.new d (Vg d res) (xE res.flatten)) Q) : xF P ops bar o rest σ Q :=
 BH iS hc hg hd (kq iY iq) hs hQ hf h
theorem B5 {P : Program} {ops : Array Oper} {bar : Oper -> Bool} {o : Oper} {rest : List Oper} {σ : St} {Q : St -> Prop} {c : Call} {f : FuncId} {d : Nat} {rows res : List (List D)} (qs : List Bool) (iS : o.op = .call c) (hc : c.callee = .value (.func f)) (hg : o.guard = none) (hd : o.dst = some d)
  (hs : Yv P f rows res) (iq : (Xp P σ c.args.toList c.argTypes.toList).2 = some rows) (iY : (Xp P σ c.args.toList c.argTypes.toList).1) (hq : Tu qs res.flatten) (hf : σ.fresh d = true) (h : Ev P ops bar rest (σ.new d (Vg d res) (YM qs res.flatten)) Q) : xF P ops bar o rest σ Q :=
 uX qs iS hc hg hd (kq iY iq) hs hq hf h
theorem uO {P : Program} {ops : Array Oper} {bar : Oper -> Bool} {o : Oper} {rest : List Oper} {σ : St} {Q : St -> Prop} {c : Call} {f : FuncId} {d j dj : Nat} {want g own : Bool} {rows : List (List D)} {res : List D} (iS : o.op = .call c) (hc : c.callee = .value (.func f)) (hg : o.guard = some (j, want)) (hd : o.dst = some d)
  (fD : (ops[j]?).bind (·.dst) = some dj) (fI : jU want (σ.get dj) = some g) (hs : g = true -> JC P f own rows [res])
  (iq : (Xp P σ c.args.toList c.argTypes.toList).2 = some rows) (ij : dj < σ.length)
  (iY : g = true -> (Xp P σ c.args.toList c.argTypes.toList).1) (hQ : Ym P σ c.args.toList c.argTypes.toList = true \/ Kh own [res]) (h : Ev P ops bar rest (σ.put d (.cnd g (j4 [res]))) Q) : xF P ops bar o rest σ Q :=
 v9 iS hc hg hd fD ij fI (fun hh => kq (iY hh) iq) hs hQ h
def YT : Nat -> List (Nat × V × List Ob) -> St
 | n, [] => List.replicate n (V.any, [])
 | n, (t, v, os) :: l => (YT n l).new t v os
attribute [simp] YT
end Go.Vm
namespace Go.Vm
open Go.RowKit
def oh (P : Program) (b : Bool) (x y : Code) (Q : Exit -> St -> Prop) (σ : St) : Prop := (b = true -> AWP P x Q σ) /\ (b = false -> AWP P y Q σ)
def oc (P : Program) (c : Code) (Q : Exit -> St -> Prop) (σ : St) : Prop := AWP P (.loop c) Q σ
def oq (P : Program) (id : Nat) (ops : Array Oper) (Q : Exit -> St -> Prop) (σ : St) : Prop := AWP P (.region id ops true) Q σ
def ER (P : Program) (c : Code) (Q : Exit -> St -> Prop) (σ : St) : Prop := AWP P c Q σ
def Wx (P : Program) : Code -> (Exit -> St -> Prop) -> St -> Prop
 | .seq x y, Q, σ => Wx P x (G6 (Wx P y Q) Q) σ
 | .region _ ⟨l⟩ false, Q, σ => Ev P ⟨l⟩ (fun _ => true) l σ (Q .normal)
 | .region id ops true, Q, σ => oq P id ops Q σ
 | .cond c x y, Q, σ => (match look P σ 0 c with | .one (.d (.bool b)) => oh P b x y Q σ | _ => False)
 | .block id c, Q, σ => Wx P c (Rx id Q) σ
 | .loop c, Q, σ => oc P c Q σ
 | .skip, Q, σ => Q .normal σ
 | .exit id, Q, σ => Q (.exit id) σ
 | .ret, Q, σ => Q .ret σ
 | .rangeFunc f ps x y, Q, σ => ER P (.rangeFunc f ps x y) Q σ
 | .scope c, Q, σ => ER P (.scope c) Q σ
 | .label l, Q, σ => ER P (.label l) Q σ
 | .goto l, Q, σ => ER P (.goto l) Q σ
 | .refuse s, Q, σ => ER P (.refuse s) Q σ
theorem TP {P : Program} : ∀ {c : Code} {Q : Exit -> St -> Prop} {σ : St}, Wx P c Q σ -> AWP P c Q σ
 | .seq x y, Q, σ, h => by
  rw [Wx] at h
  refine oJ (w9 (fun e σ' hq => ?_) (TP h))
  cases e <;> simp only [G6] at hq ⊢ <;> first | exact TP hq | exact hq
 | .region _ ⟨l⟩ false, Q, σ, h => nJ h
 | .region id ops true, Q, σ, h => h
 | .cond c x y, Q, σ, h => by
  rw [Wx] at h
  split at h
  ·rename_i b hb; exact si hb h.1 h.2
  ·exact h.elim
 | .block id c, Q, σ, h => tx (TP (by rw [Wx] at h; exact h))
 | .loop c, Q, σ, h => h
 | .skip, Q, σ, h => rM h
 | .exit id, Q, σ, h => sk h
 | .ret, Q, σ, h => pr h
 | .rangeFunc _ _ _ _, Q, σ, h => h
 | .scope _, Q, σ, h => h
 | .label _, Q, σ, h => h
 | .goto _, Q, σ, h => h
 | .refuse _, Q, σ, h => h
class qU where
 c : Code
class zK where
 ops : Array Oper
 bar : Oper -> Bool
class yC where
 l : List Oper
class OpI where
 o : Oper
class inductive Fr where
 | fin (Q : Exit -> St -> Prop)
 | sq (y : Code) (k : Fr)
 | blk (id : Nat) (k : Fr)
 | nxt (n : St -> Prop) (k : Fr)
def Fr.run (P : Program) : Fr -> Exit -> St -> Prop
 | .fin Q, e, σ => Q e σ
 | .sq y k, e, σ => G6 (Wx P y (Fr.run P k)) (Fr.run P k) e σ
 | .blk id k, e, σ => Rx id (Fr.run P k) e σ
 | .nxt n k, e, σ => G6 n (Fr.run P k) e σ
def WI (P : Program) (σ : St) [c : qU] [k : Fr] : Prop := Wx P c.c (k.run P) σ
def LI (P : Program) (e : Exit) (σ : St) [k : Fr] : Prop := k.run P e σ
def EI (P : Program) (σ : St) [A : zK] [l : yC] [k : Fr] : Prop := Ev P A.ops A.bar l.l σ (k.run P .normal)
def SI (P : Program) (σ : St) [A : zK] [o : OpI] [l : yC] [k : Fr] : Prop := xF P A.ops A.bar o.o l.l σ (k.run P .normal)
def CI (P : Program) (b : Bool) (σ : St) [x : qU] [y : qU] [k : Fr] : Prop := oh P b x.c y.c (k.run P) σ
def OU (P : Program) (σ : St) [c : qU] [k : Fr] : Prop := oc P c.c (k.run P) σ
def DI (P : Program) (id : Nat) (σ : St) [A : zK] [k : Fr] : Prop := oq P id A.ops (k.run P) σ
section
variable {P : Program} {σ : St} {k : Fr}
theorem nc {x y : Code} : @WI P σ ⟨.seq x y⟩ k = @WI P σ ⟨x⟩ (.sq y k) := by
 simp only [WI]
 rw [Wx]
 congr 1
theorem tg {id : Nat} {l : List Oper} : @WI P σ ⟨.region id ⟨l⟩ false⟩ k = @EI P σ ⟨⟨l⟩, fun _ => true⟩ ⟨l⟩ k := by simp only [WI, EI, Wx]
theorem pn {id : Nat} {ops : Array Oper} : @WI P σ ⟨.region id ops true⟩ k = @DI P id σ ⟨ops, fun _ => true⟩ k := by simp only [WI, DI, Wx]
theorem oB {c : Operand} {x y : Code} : @WI P σ ⟨.cond c x y⟩ k = (match look P σ 0 c with | .one (.d (.bool b)) => @CI P b σ ⟨x⟩ ⟨y⟩ k | _ => False) := by simp only [WI, CI, Wx]
theorem r5 {id : Nat} {c : Code} : @WI P σ ⟨.block id c⟩ k = @WI P σ ⟨c⟩ (.blk id k) := by
 simp only [WI]
 rw [Wx]
 congr 1
theorem oC {c : Code} : @WI P σ ⟨.loop c⟩ k = @OU P σ ⟨c⟩ k := by simp only [WI, OU, Wx]
theorem oE : @WI P σ ⟨.skip⟩ k = @LI P .normal σ k := by simp only [WI, LI, Wx]
theorem pg {id : Nat} : @WI P σ ⟨.exit id⟩ k = @LI P (.exit id) σ k := by simp only [WI, LI, Wx]
theorem nf : @WI P σ ⟨.ret⟩ k = @LI P .ret σ k := by simp only [WI, LI, Wx]
theorem nZ {Q : Exit -> St -> Prop} {e : Exit} : @LI P e σ (.fin Q) = Q e σ := rfl
theorem n9 {y : Code} : @LI P .normal σ (.sq y k) = @WI P σ ⟨y⟩ k := rfl
theorem v5 {y : Code} {id : Nat} : @LI P (.exit id) σ (.sq y k) = @LI P (.exit id) σ k := rfl
theorem sB {y : Code} : @LI P .ret σ (.sq y k) = @LI P .ret σ k := rfl
theorem nd {n : St -> Prop} : @LI P .normal σ (.nxt n k) = n σ := rfl
theorem Aj {n : St -> Prop} {id : Nat} : @LI P (.exit id) σ (.nxt n k) = @LI P (.exit id) σ k := rfl
theorem uS {n : St -> Prop} : @LI P .ret σ (.nxt n k) = @LI P .ret σ k := rfl
theorem nS {id : Nat} : @LI P .normal σ (.blk id k) = @LI P .normal σ k := rfl
theorem uG {id : Nat} : @LI P .ret σ (.blk id k) = @LI P .ret σ k := rfl
theorem vG {id az : Nat} : @LI P (.exit az) σ (.blk id k) = if az = id then @LI P .normal σ k else @LI P (.exit az) σ k := rfl
theorem oz {A : zK} : @EI P σ A ⟨[]⟩ k = @LI P .normal σ k := by simp only [EI, LI, Ev]
theorem px {A : zK} {o : Oper} {rest : List Oper} : @EI P σ A ⟨o :: rest⟩ k =
  (if stops P o then @SI P σ A ⟨o⟩ ⟨rest⟩ k else
  match o.guard with
  | none =>
   (match o.dst with
   | some d => (evS P σ o d).1 /\ @EI P (evS P σ o d).2 A ⟨rest⟩ k
   | none => (match o.op with | .store T x y => if ou P σ T x y then @SI P σ A ⟨o⟩ ⟨rest⟩ k else (vC P σ T x y).1 /\ @EI P (vC P σ T x y).2 A ⟨rest⟩ k | _ => False))
  | some (j, want) =>
   (match (A.ops[j]?).bind (·.dst), o.dst with
   | some dj, some d => (match jU want (σ.get dj) with
    | some g => (dj < σ.length /\ (g = true -> (evV P σ o.op o.type).1 /\ gOf (evV P σ o.op o.type).2 = true /\ (unc (evV P σ o.op o.type).2).flat = true)) /\ @EI P (σ.put d (.cnd g (unc (evV P σ o.op o.type).2))) A ⟨rest⟩ k
    | none => False)
   | _, _ => False)) := by
 simp only [EI, SI]
 rw [Ev]
 rfl
end
section
variable {P : Program} {σ : St} {k : Fr}
def Nxt {ι : Type} (S : ι -> St) (μ : ι -> Nat) (b : Nat) (σ : St) : Prop := ∃ i', μ i' < b /\ Wk σ (S i')
theorem LC {ι : Type} {S : ι -> St} {μ : ι -> Nat} {b : Nat} (i : ι) (hm : μ i < b) (hw : Wk σ (S i)) : Nxt S μ b σ := ⟨i, hm, hw⟩
theorem TY {c : qU} {ι : Type} (S : ι -> St) (μ : ι -> Nat) (i0 : ι) (h0 : Wk σ (S i0))
  (round : ∀ i, @WI P (S i) c (.nxt (Nxt S μ (μ i)) k)) : @OU P σ c k :=
 Ts S μ i0 h0 fun i => TP (round i)
theorem sw {f : FuncId} {fn : Func} {c : Code} (hf : P.funcs[f]? = some fn) (hb : fn.body = some c) (hR : LQ P f = true) {own : Bool} {args res : List (List D)}
  (hw : @WI P (Wo fn.ntmps args) ⟨c⟩ (.fin (wu P fn own res))) : JC P f own args res := BJ hf hb hR (TP hw)
theorem toStr {A : zK} {o : OpI} {rest : yC} {S T : TypeId} {x : Operand} {d : Nat} {l : List UInt8} (iS : o.o.op = .convert S T x) (hg : o.o.guard = none) (hd : o.o.dst = some d)
  (h1 : gOf (look P σ S x) = true) (h2 : Pe P S = true) (h3 : U0 P T = true) (h4 : qJ σ (unc (look P σ S x)) 1 (Ka l)) (h : @EI P (σ.put d (.one (.d (.str ⟨l.toArray⟩)))) A rest k) : @SI P σ A o rest k :=
 uK iS hg hd h1 h2 h3 h4 h
theorem pX {A : zK} {o : OpI} {rest : yC} {S T : TypeId} {x : Operand} {d : Nat} {s : ByteArray} (iS : o.o.op = .convert S T x) (hg : o.o.guard = none) (hd : o.o.dst = some d)
  (h1 : gOf (look P σ S x) = true) (h2 : U0 P S = true) (h3 : Pe P T = true) (h4 : unc (look P σ S x) = .one (.d (.str s))) (h5 : s.size <= 9223372036854775807) (h : @EI P (σ.put d (.one (.d (.sl 1 (Ka s.data.toList))))) A rest k) : @SI P σ A o rest k :=
 Bp iS hg hd h1 h2 h3 h4 h5 h
theorem th {f : FuncId} {fn : Func} {c : Code} (hf : P.funcs[f]? = some fn) (hb : fn.body = some c) (hR : LQ P f = true) {args res : List (List D)}
  (hw : @WI P (Wo fn.ntmps args) ⟨c⟩ (.fin (sF P fn res))) : Yv P f args res := Dq hf hb hR (TP hw)
def B8 (o : Oper) : Bool := match o.op with | .call ⟨.value _, _, _⟩ => false | _ => true
theorem evI {A : zK} {o : OpI} {l : yC} {d : Nat} (hp : B8 o.o = true) (hg : o.o.guard = none) (hd : o.o.dst = some d) (h : (evS P σ o.o d).1 /\ @EI P (evS P σ o.o d).2 A l k) : @SI P σ A o l k := by
 refine pw (fun c iS f hc => ?_) hg hd h.1 h.2
 obtain ⟨cc, ca, ct⟩ := c
 simp only at hc; subst hc
 simp [B8, iS] at hp
theorem lQ {A : zK} {o : OpI} {l : yC} {d : Nat} {T : TypeId} {n : Nat} {parts : Array (Nat × Operand)} (iS : o.o.op = .buildSlice T n parts) (hg : o.o.guard = none) (hd : o.o.dst = some d)
  (h1 : σ.fresh d = true /\ XK P T = true /\ QK P (ZQ P T) = true /\ 0 < P.cellsOf (ZQ P T) /\ parts.toList.length = n /\ n * P.cellsOf (ZQ P T) <= 16777216) (h2 : (zI P σ (ZQ P T) (P.cellsOf (ZQ P T)) parts.toList 0).1)
  (h3 : YU d (zI P σ (ZQ P T) (P.cellsOf (ZQ P T)) parts.toList 0).2.flatten = false)
  (h : @EI P (σ.new d (.one (.sref d 0 0 (zI P σ (ZQ P T) (P.cellsOf (ZQ P T)) parts.toList 0).2.length)) [.lit (P.cellsOf (ZQ P T)) (zI P σ (ZQ P T) (P.cellsOf (ZQ P T)) parts.toList 0).2]) A l k) : @SI P σ A o l k := sn iS hg hd h1 h2 h3 h
theorem rA {A : zK} {o : OpI} {l : yC} {d : Nat} {T : TypeId} {x : Operand} {z : List At} {zr : List D} {n : Nat} (iS : o.o.op = .makeSlice T x x) (hg : o.o.guard = none) (hd : o.o.dst = some d)
  (hz : kQ P 12 (ZQ P T) = some z) (fQ : zD z = some zr) (hzf : L6 z = true) (h1 : σ.fresh d = true /\ XK P T = true /\ QK P (ZQ P T) = true /\ 0 < P.cellsOf (ZQ P T) /\ (lkI P σ x).1) (hn : (lkI P σ x).2 = (n : Int)) (hb : P.bytesOf (ZQ P T) * n <= 281474976710656) (hm : n <= 9223372036854775807)
  (h : @EI P (σ.new d (.one (.sref d 0 0 n)) [.arr true (P.cellsOf (ZQ P T)) (List.replicate n zr)]) A l k) : @SI P σ A o l k := rC iS hg hd hz fQ hzf h1 hn hb hm h
theorem lM {A : zK} {o : OpI} {l : yC} {d : Nat} {x y : Operand} {t : TypeId} {iT news : List (List D)} {l1 l2 : List (Nat × Nat)} {size : Nat} (iS : o.o.op = .call ⟨.builtin .append, #[x, y], #[t, t]⟩) (hg : o.o.guard = none) (hd : o.o.dst = some d) (gO : A.bar o.o = true)
  (gX : size = P.cellsOf (ZQ P t)) (h1 : gOf (look P σ t x) = true /\ gOf (look P σ t y) = true /\ XK P t = true /\ QK P (ZQ P t) = true /\ 0 < P.cellsOf (ZQ P t))
  (h2 : (V3 σ (unc (look P σ t x)) size).1 /\ (V3 σ (unc (look P σ t x)) size).2 = (iT, l1)) (h3 : (V1 σ (unc (look P σ t y)) size).1 /\ (V1 σ (unc (look P σ t y)) size).2 = (news, l2))
  (h4 : (l1 ++ l2).Nodup /\ (σ.Zt (l1 ++ l2)).fresh d = true) (h5 : (iT.length + news.length) * P.bytesOf (ZQ P t) <= 140737488355328 /\ iT.length + news.length <= 9223372036854775807)
  (h : @EI P ((σ.Zt (l1 ++ l2)).new d (.one (.sref d 0 0 (iT.length + news.length))) [.arr true size (iT ++ news)]) A l k) : @SI P σ A o l k := rh iS hg hd gO gX h1 h2 h3 h4 h5 h
theorem lN {A : zK} {o : OpI} {l : yC} {d : Nat} {x y : Operand} {t : TypeId} {rows : List (List D)} {size u j len lo n : Nat} (iS : o.o.op = .call ⟨.builtin .append, #[x, y], #[t, t]⟩) (hg : o.o.guard = none) (hd : o.o.dst = some d) (gO : A.bar o.o = true)
  (gX : size = P.cellsOf (ZQ P t)) (h1 : gOf (look P σ t x) = true /\ gOf (look P σ t y) = true /\ XK P t = true /\ QK P (ZQ P t) = true /\ 0 < P.cellsOf (ZQ P t))
  (h2 : unc (look P σ t x) = .one (.sref u j 0 len)) (h3 : unc (look P σ t y) = .one (.sref u j lo n)) (ho : σ.ob u j = .arr true size rows) (hle : len <= lo) (dG : lo + n <= rows.length)
  {news : List (List D)} (gj : cut rows lo n = news) (h4 : (σ.Z5 u j .none).fresh d = true) (h5 : (len + n) * P.bytesOf (ZQ P t) <= 140737488355328 /\ len + n <= 9223372036854775807)
  (h : @EI P ((σ.Z5 u j .none).new d (.one (.sref d 0 0 ((rows.take len).length + news.length))) [.arr true size (rows.take len ++ news)]) A l k) : @SI P σ A o l k := sX iS hg hd gO gX h1 h2 h3 ho hle dG gj h4 h5 h
theorem pd {A : zK} {o : OpI} {l : yC} {d : Nat} {x y : Operand} {t : TypeId} {iT rows news : List (List D)} {l1 : List (Nat × Nat)} {size u j lo n : Nat} (iS : o.o.op = .call ⟨.builtin .append, #[x, y], #[t, t]⟩) (hg : o.o.guard = none) (hd : o.o.dst = some d) (gO : A.bar o.o = true)
  (gX : size = P.cellsOf (ZQ P t)) (h1 : gOf (look P σ t x) = true /\ gOf (look P σ t y) = true /\ XK P t = true /\ QK P (ZQ P t) = true /\ 0 < P.cellsOf (ZQ P t))
  (h2 : wO σ (unc (look P σ t x)) size iT l1) (h3 : unc (look P σ t y) = .one (.sref u j lo n)) (ho : σ.ob u j = .arr true size rows) (au : (u, j) ∉ l1) (hle : lo + n <= rows.length) (gj : cut rows lo n = news)
  (h4 : ((σ.Z5 u j (.arr true size (Ji rows lo n))).Zt l1).fresh d = true) (h5 : (iT.length + n) * P.bytesOf (ZQ P t) <= 140737488355328 /\ iT.length + n <= 9223372036854775807)
  (h : @EI P (((σ.Z5 u j (.arr true size (Ji rows lo n))).Zt l1).new d (.one (.sref d 0 0 (iT.length + news.length))) [.arr true size (iT ++ news)]) A l k) : @SI P σ A o l k := rJ iS hg hd gO gX h1 h2 h3 ho au hle gj h4 h5 h
theorem pc {A : zK} {o : OpI} {l : yC} {T : TypeId} {x y : Operand} {t j i c size : Nat} {rows : List (List D)} {ds : List D} {L : List (Nat × Nat)} (iS : o.o.op = .store T x y) (hg : o.o.guard = none) (hd : o.o.dst = none) (gO : A.bar o.o = true)
  (hx : unc (look P σ 0 x) = .one (.ptr t j i c)) (ho : σ.ob t j = .arr true size rows) (hi : i < rows.length) (h1 : qf P T = true /\ gOf (look P σ 0 x) = true /\ gOf (look P σ T y) = true /\ (unc (look P σ T y)).flat = true)
  (h2 : JF σ (unc (look P σ T y)).cells = some ds) (h3 : Qn σ (unc (look P σ T y)).cells) (h4 : Yh (unc (look P σ T y)).cells = L) (h5 : L.Nodup /\ (t, j) ∉ L /\ (σ.Zt L).yL (At.isT t) = false) (h6 : ds.length = P.cellsOf T /\ c + P.cellsOf T <= size)
  (h : @EI P ((σ.Zt L).Z5 t j (.arr true size (rows.set i (place (rowAt rows i) c ds)))) A l k) : @SI P σ A o l k := pE iS hg hd gO hx ho hi h1 h2 h3 h4 h5 h6 h
theorem lU {A : zK} {o : OpI} {l : yC} {T : TypeId} {x y : Operand} {t j i size : Nat} {rows : List (List D)} {ds : List D} {L : List (Nat × Nat)} (iS : o.o.op = .store T x y) (hg : o.o.guard = none) (hd : o.o.dst = none) (gO : A.bar o.o = true)
  (hx : unc (look P σ 0 x) = .one (.ptr t j i 0)) (ho : σ.ob t j = .arr true size rows) (hi : i < rows.length) (h1 : qf P T = true /\ gOf (look P σ 0 x) = true /\ gOf (look P σ T y) = true /\ (unc (look P σ T y)).flat = true)
  (h2 : JF σ (unc (look P σ T y)).cells = some ds) (h3 : Qn σ (unc (look P σ T y)).cells) (h4 : Yh (unc (look P σ T y)).cells = L) (h5 : L.Nodup /\ (t, j) ∉ L /\ (σ.Zt L).yL (At.isT t) = false) (h6 : ds.length = P.cellsOf T /\ P.cellsOf T = size)
  (h : @EI P ((σ.Zt L).Z5 t j (.arr true size (rows.set i ds))) A l k) : @SI P σ A o l k := rp iS hg hd gO hx ho hi h1 h2 h3 h4 h5 h6 h
theorem mj {A : zK} {o : OpI} {l : yC} {T : TypeId} {x y : Operand} {t j i c k' q n size : Nat} {s rows : List (List D)} {ds : List D} {L : List (Nat × Nat)} (iS : o.o.op = .store T x y) (hg : o.o.guard = none) (hd : o.o.dst = none) (gO : A.bar o.o = true) {off : Nat}
  (hx : unc (look P σ 0 x) = .one (.tref t j i c (some off))) (cj : off = k' * n + q) (ho : σ.ob t j = .arr true size rows) (hi : i < rows.length) (hc : (rowAt rows i)[c]? = some (.sl n s)) (hk : k' < s.length) (h1 : qf P T = true /\ gOf (look P σ 0 x) = true /\ gOf (look P σ T y) = true /\ (unc (look P σ T y)).flat = true)
  (h2 : JF σ (unc (look P σ T y)).cells = some ds) (h3 : Qn σ (unc (look P σ T y)).cells) (h4 : Yh (unc (look P σ T y)).cells = L) (h5 : L.Nodup /\ (t, j) ∉ L) (h6 : ds.length = P.cellsOf T /\ q + P.cellsOf T <= n)
  (h : @EI P ((σ.Zt L).Z5 t j (.arr true size (rows.set i (place (rowAt rows i) c [.sl n (s.set k' (place (rowAt s k') q ds))])))) A l k) : @SI P σ A o l k := rE iS hg hd gO ⟨cj ▸ hx, ho, hi, hc, hk, h1, h2, h3, h4, h5, h6⟩ h
end
attribute [simp] pn nc tg oB r5 oC oE pg nf nZ n9 v5 sB nd Aj uS nS uG vG oz px
end Go.Vm
namespace Go.Vm
open Go.RowKit
def Cells (w : World) : CS := fun b _ => b < w.heap.size
def Reads (w : World) (v : Value) (row : List D) : Prop := ∃ cs, K3 v cs /\ Z6 (Rd (Cells w) w) cs row
theorem Eh {P : Program} {f : FuncId} {own : Bool} {rows : List (List D)} {gQ : List Value} {w : World} (h : JC P f own rows [[.bool true]]) (hv : Z6 (Reads w) gQ rows) :
  Calls P f gQ.toArray w fun e w' => e = .returned (.bool true) /\ Below w.heap.size w w' := by
 refine (h.2 (Cells w) w gQ (fun _ _ hb => hb) hv).mono ?_
 rintro e w' ⟨vs, gA, Y, rfl, hb, _, hf, hr, _⟩
 refine ⟨?_, hb⟩
 cases hr with
 | cons h1 hr =>
  cases hr
  cases hf with
  | cons h2 hf =>
   cases hf
   cases h1 with
   | cons h3 h1 =>
    cases h1
    have h4 : ∀ v, qM own (Tof (Cells w) Y) w' v (.bool true) -> Rd (Tof (Cells w) Y) w' v (.bool true) := by
     intro v hv
     unfold qM at hv
     split at hv
     ·exact hv
     ·exact hv
    have h4 := h4 _ h3
    cases h4
    rcases h2 with ⟨v, fK, hvv, _⟩ | ⟨hl, _⟩
    ·cases fK; rw [hvv]; rfl
    ·simp at hl
end Go.Vm
namespace Go.Vm
open Go.RowKit
def SK (P : Program) : Nat -> TypeId -> Bool
 | 0, _ => false
 | n + 1, t =>
  match P.underlying t with
  | some .bool => true
  | some (.int _) => true
  | some .string => true
  | some (.slice e) => SK P n e
  | some (.struct fs) => fs.toList.all (fun f => SK P n f.type) && P.cellsOf t != 1
  | _ => false
def TyR (P : Program) : Nat -> TypeId -> List D -> Prop
 | 0, _, _ => False
 | n + 1, t, row =>
  match P.underlying t with
  | some .bool => ∃ b, row = [.bool b]
  | some (.int k) => ∃ m, row = [.int k m] /\ k.min <= m /\ m <= k.max
  | some .string => ∃ s, row = [.str s] /\ s.size <= maxLen
  | some (.slice e) => ∃ rows, row = [.sl (P.cellsOf e) rows] /\ rows.length <= maxLen /\ ∀ r ∈ rows, TyR P n e r /\ r.length = P.cellsOf e
  | some (.struct fs) => row.length = P.cellsOf t /\ ∀ f ∈ fs.toList, TyR P n f.type (cut row f.offset (P.cellsOf f.type))
  | _ => False
def Rt (P : Program) : Nat -> List Field -> Nat -> Bool
 | k, [], n => k == n
 | k, f :: fs, n => f.offset == k && Rt P (k + P.cellsOf f.type) fs n
def D9 (P : Program) : Nat -> TypeId -> Bool
 | 0, _ => false
 | n + 1, t =>
  match P.underlying t with
  | some .bool => P.cellsOf t == 1
  | some (.int _) => P.cellsOf t == 1
  | some .string => P.cellsOf t == 1
  | some (.slice e) => P.cellsOf t == 1 && D9 P n e
  | some (.struct fs) => fs.toList.all (fun f => D9 P n f.type) && Rt P 0 fs.toList (P.cellsOf t)
  | _ => false
theorem MZ {α β : Type} {f : α -> Option β} : ∀ {l : List α} {m : List β}, l.mapM f = some m -> l.length = m.length /\ ∀ (i : Nat) a, l[i]? = some a -> ∃ b, m[i]? = some b /\ f a = some b
 | [], m, h => by simp at h; subst h; exact ⟨rfl, fun i a ha => by simp at ha⟩
 | x :: l, m, h => by
  simp only [List.mapM_cons, Option.bind_eq_bind, Option.bind_eq_some_iff] at h
  obtain ⟨b, hb, bs, hbs, h⟩ := h
  simp at h; subst h
  obtain ⟨h1, h2⟩ := MZ hbs
  refine ⟨by simp [h1], fun i a ha => ?_⟩
  cases i with
  | zero => simp at ha; subst ha; exact ⟨b, by simp, hb⟩
  | succ i => simpa using h2 i a (by simpa using ha)
theorem tk {w : World} {a : Addr} {n : Nat} {cs : List Value} (h : w.cells? 0 a n = some cs) : cs.length = n /\ ∀ i v, cs[i]? = some v -> w.cell? (a.add i) = some v := by
 unfold World.cells? at h
 simp at h
 obtain ⟨h1, h2⟩ := MZ h
 simp at h1
 refine ⟨h1.symm, fun i v hv => ?_⟩
 have hi : i < n := by have := (List.getElem?_eq_some_iff.1 hv).1; omega
 obtain ⟨b, hb, hf⟩ := h2 i i (by simp [hi])
 rw [hv] at hb; cases hb; exact hf
theorem RT {w : World} {P : Program} {q n : Nat} {cs : List Value} (hl : cs.length = n) : ∀ {fs : List Field} {k : Nat}, Rt P k fs n = true -> k <= n ->
  (∀ f ∈ fs, ∃ row, Z6 (Rd (Cells w) w) (cut cs f.offset (P.cellsOf f.type)) row /\ TyR P q f.type row) ->
  ∃ tail, Z6 (Rd (Cells w) w) (cs.drop k) tail /\ ∀ (pre : List D), pre.length = k -> ∀ f ∈ fs, TyR P q f.type (cut (pre ++ tail) f.offset (P.cellsOf f.type))
 | [], k, hc, hk, _ => by
  simp only [Rt, beq_iff_eq] at hc
  subst hc
  exact ⟨[], by rw [List.drop_eq_nil_of_le (by omega)]; exact .nil, fun _ _ f hf => by cases hf⟩
 | f :: fs, k, hc, hk, h => by
  simp only [Rt, Bool.and_eq_true, beq_iff_eq] at hc
  obtain ⟨row, iV, eO⟩ := h f (by simp)
  rw [hc.1] at iV
  have hkn : k + P.cellsOf f.type <= n := by
   clear h iV eO
   have : ∀ (fs : List Field) (k : Nat), Rt P k fs n = true -> k <= n := by
    intro fs
    induction fs with
    | nil => intro k hh; simp [Rt] at hh; omega
    | cons g gs ih => intro k hh; simp only [Rt, Bool.and_eq_true, beq_iff_eq] at hh; have := ih _ hh.2; omega
   exact this _ _ hc.2
  have er : row.length = P.cellsOf f.type := by rw [<- iV.length]; simp [cut]; omega
  obtain ⟨tail, htl, bM⟩ := RT hl hc.2 hkn (fun g hg => h g (by simp [hg]))
  refine ⟨row ++ tail, ?_, ?_⟩
  ·have : cs.drop k = cut cs k (P.cellsOf f.type) ++ cs.drop (k + P.cellsOf f.type) := by
    unfold cut
    rw [<- List.drop_drop]
    exact (List.take_append_drop _ _).symm
   rw [this]
   exact iV.append htl
  ·intro pre fv g hg
   rcases List.mem_cons.1 hg with rfl | hg
   ·have : cut (pre ++ (row ++ tail)) g.offset (P.cellsOf g.type) = row := by
     unfold cut
     rw [hc.1, <- fv, List.drop_left, <- er, List.take_left]
    rw [this]; exact eO
   ·have := bM (pre ++ row) (by rw [List.length_append, fv, er]) g hg
    rw [<- List.append_assoc]; exact this
section
variable {H : Type} {enc : TypeId × Value -> H} {P : Program} {w : World} {sp : Nat -> Bool} {held : Bool} {fuel : Nat} {t : TypeId} {cs : List Value} {d : DataW H} {ps : List MemPlace}
theorem trod_bool (hu : P.underlying t = some .bool) (h : DataW.trod enc P w 0 sp held fuel t cs = some (d, ps)) : ∃ b, cs = [.bool b] := by
 cases fuel with
 | zero => simp [DataW.trod] at h
 | succ fuel =>
  unfold DataW.trod at h
  rw [hu] at h
  split at h <;> simp_all
theorem trod_int {k : IntKind} (hu : P.underlying t = some (.int k)) (h : DataW.trod enc P w 0 sp held fuel t cs = some (d, ps)) : ∃ m, cs = [.int k m] /\ k.min <= m /\ m <= k.max := by
 cases fuel with
 | zero => simp [DataW.trod] at h
 | succ fuel =>
  unfold DataW.trod at h
  rw [hu] at h
  split at h <;> simp_all [Lit.wf]
theorem r6 (hu : P.underlying t = some .string) (h : DataW.trod enc P w 0 sp held fuel t cs = some (d, ps)) : ∃ s, cs = [.string s] /\ s.size <= maxLen := by
 cases fuel with
 | zero => simp [DataW.trod] at h
 | succ fuel =>
  unfold DataW.trod at h
  rw [hu] at h
  split at h <;> simp_all
theorem trod_slice {e : TypeId} (hu : P.underlying t = some (.slice e)) (h : DataW.trod enc P w 0 sp held fuel t cs = some (d, ps)) :
  cs = [.slice none 0 0] \/ ∃ a len cap, cs = [.slice (some a) len cap] /\ len <= cap /\ cap <= maxLen /\
   ∀ i, i < len -> ∃ xs f x, w.cells? 0 (a.add (i * P.cellsOf e)) (P.cellsOf e) = some xs /\ DataW.trod enc P w 0 sp held f e xs = some x := by
 cases fuel with
 | zero => simp [DataW.trod] at h
 | succ fuel =>
  unfold DataW.trod at h
  rw [hu] at h
  split at h <;> first | (simp_all; done) | skip
  rename_i e' a len cap heq
  cases heq
  refine .inr ⟨a, len, cap, rfl, ?_⟩
  simp only at h
  split at h
  ·rename_i hc
   refine ⟨hc.2.1, hc.2.2, fun i hi => ?_⟩
   simp only [Option.bind_eq_some_iff] at h
   obtain ⟨elems, hel, _⟩ := h
   obtain ⟨hl, hg⟩ := MZ hel
   obtain ⟨x, _, hx⟩ := hg i i (by simp [hi])
   obtain ⟨xs, h1, h2⟩ := Option.bind_eq_some_iff.1 hx
   exact ⟨xs, fuel, x, h1, h2⟩
  ·cases h
theorem trod_struct {fs : Array Field} (hu : P.underlying t = some (.struct fs)) (h : DataW.trod enc P w 0 sp held fuel t cs = some (d, ps)) :
  cs.length = P.cellsOf t /\ ∀ f ∈ fs.toList, ∃ q x, DataW.trod enc P w 0 sp held q f.type (cut cs f.offset (P.cellsOf f.type)) = some x := by
 cases fuel with
 | zero => simp [DataW.trod] at h
 | succ fuel =>
  unfold DataW.trod at h
  rw [hu] at h
  split at h <;> first | (simp_all; done) | skip
  rename_i fs' heq
  cases heq
  split at h
  ·rename_i hc
   refine ⟨hc, fun f hf => ?_⟩
   simp only [Option.map_eq_some_iff] at h
   obtain ⟨xs, hx, _⟩ := h
   obtain ⟨_, hg⟩ := MZ hx
   obtain ⟨i, hi⟩ := List.mem_iff_getElem?.1 hf
   obtain ⟨x, _, hx⟩ := hg i f hi
   exact ⟨fuel, x, hx⟩
  ·cases h
end
theorem oA {w : World} {a : Addr} {v : Value} (h : w.cell? a = some v) : a.block < w.heap.size := by
 unfold World.cell? at h
 cases hh : w.heap[a.block]? with
 | none => simp [hh] at h
 | some o => exact (Array.getElem?_eq_some_iff.1 hh).1
theorem tL (a : Addr) (m k : Nat) (h : m <= k) : a.add k = (a.add m).add (k - m) := by
 simp only [Addr.add]
 by_cases h0 : m = 0
 ·subst h0; simp
 ·by_cases h1 : k - m = 0
  ·have : k = m := by omega
   subst this; simp [h0]
  ·have : k ≠ 0 := by omega
   simp only [h0, h1, this, if_false]
   congr 1
   omega
theorem vh {w : World} {P : Program} {n size : Nat} {e : TypeId} {a : Addr} {len cap : Nat} (hlc : len <= cap) (bW : cap <= maxLen)
  (h : ∀ i, i < len -> ∃ xs row, w.cells? 0 (a.add (i * size)) size = some xs /\ Z6 (Rd (Cells w) w) xs row /\ TyR P n e row) :
  ∃ rows : List (List D), Rd (Cells w) w (.slice (some a) len cap) (.sl size rows) /\ rows.length <= maxLen /\ ∀ r ∈ rows, TyR P n e r /\ r.length = size := by
 have key : ∀ m, m <= len -> ∃ rows : List (List D), rows.length = m /\ (∀ r ∈ rows, TyR P n e r /\ r.length = size) /\
   ∀ k d, rows.flatten[k]? = some d -> ∃ v, w.cell? (a.add k) = some v /\ Rd (Cells w) w v d := by
  intro m
  induction m with
  | zero => intro _; exact ⟨[], rfl, (by intro r hr; cases hr), (by intro k d hk; simp at hk)⟩
  | succ m ih =>
   intro hm
   obtain ⟨rows, hl, ht, hk⟩ := ih (by omega)
   obtain ⟨xs, row, hx, iV, eO⟩ := h m (by omega)
   obtain ⟨ag, hxc⟩ := tk hx
   have er : row.length = size := by rw [<- iV.length, ag]
   have g5 : rows.flatten.length = m * size := by rw [YQ rows size (fun r hr => (ht r hr).2), hl]
   refine ⟨rows ++ [row], by simp [hl], fun r hr => ?_, fun k d hd => ?_⟩
   ·rcases List.mem_append.1 hr with hr | hr
    ·exact ht r hr
    ·simp at hr; subst hr; exact ⟨eO, er⟩
   ·rw [List.flatten_append, List.flatten_singleton] at hd
    rcases Nat.lt_or_ge k rows.flatten.length with ij | dX
    ·rw [List.getElem?_append_left ij] at hd
     exact hk k d hd
    ·rw [List.getElem?_append_right dX] at hd
     obtain ⟨v, hv, hr⟩ := iV.get' _ d hd
     refine ⟨v, ?_, hr⟩
     have := hxc _ v hv
     rw [show a.add k = (a.add (m * size)).add (k - rows.flatten.length) by rw [g5]; rw [g5] at dX; exact tL a (m * size) k dX]
     exact this
 obtain ⟨rows, hl, ht, hk⟩ := key len (Nat.le_refl _)
 refine ⟨rows, ?_, by omega, ht⟩
 have aZ : rows.flatten ≠ [] -> a.spot = none := by
  intro iU
  obtain ⟨d, tl, hcons⟩ := List.exists_cons_of_ne_nil iU
  obtain ⟨v, hv, _⟩ := hk 0 d (by rw [hcons]; rfl)
  have := World.cell?_spot hv
  simpa [Addr.add] using this
 refine .sl a len cap size rows (fun k => (w.cell? (a.add k)).getD undef) hl hlc bW (fun r hr => (ht r hr).2) aZ (fun k d hd => ?_) (fun k d hd => ?_)
 ·obtain ⟨v, hv, _⟩ := hk k d hd
  have dr : a.spot = none := aZ (by intro hh; rw [hh] at hd; simp at hd)
  have he : a.add k = ⟨a.block, a.off + k, none⟩ := by
   obtain ⟨b, o, sp⟩ := a
   simp only at dr
   subst dr
   simp only [Addr.add]
   split
   ·rename_i h0; subst h0; rfl
   ·rfl
  rw [he] at hv ⊢
  rw [hv]
  exact ⟨rfl, oA (a := ⟨a.block, a.off + k, none⟩) hv⟩
 ·obtain ⟨v, hv, hr⟩ := hk k d hd
  simp only [hv, Option.getD_some]; exact hr
theorem O5 {H : Type} {enc : TypeId × Value -> H} {P : Program} {w : World} {sp : Nat -> Bool} {held : Bool} : ∀ (n : Nat) {fuel : Nat} {t : TypeId} {cs : List Value} {d : DataW H} {ps : List MemPlace}, SK P n t = true -> D9 P n t = true ->
  DataW.trod enc P w 0 sp held fuel t cs = some (d, ps) -> ∃ row, Z6 (Rd (Cells w) w) cs row /\ TyR P n t row
 | 0, _, _, _, _, _, h, _, _ => by simp [SK] at h
 | n + 1, fuel, t, cs, d, ps, hp, hl, h => by
  simp only [SK] at hp
  simp only [D9] at hl
  simp only [TyR]
  cases hu : P.underlying t with
  | none => simp [hu] at hp
  | some td =>
   cases td with
   | bool => obtain ⟨b, rfl⟩ := trod_bool hu h; exact ⟨_, .cons (.bool b) .nil, b, rfl⟩
   | int k => obtain ⟨m, rfl, h1, h2⟩ := trod_int hu h; exact ⟨_, .cons (.int k m) .nil, m, rfl, h1, h2⟩
   | string => obtain ⟨s, rfl, h1⟩ := r6 hu h; exact ⟨_, .cons (.str s) .nil, s, rfl, h1⟩
   | slice e =>
    simp only [hu] at hp hl
    simp only [Bool.and_eq_true] at hl
    rcases trod_slice hu h with rfl | ⟨a, len, cap, rfl, h1, h2, h3⟩
    ·exact ⟨_, .cons (.nil (P.cellsOf e)) .nil, [], rfl, by simp, by simp⟩
    ·obtain ⟨rows, hr, er, hrt⟩ := vh (P := P) (n := n) (size := P.cellsOf e) (e := e) h1 h2 (fun i hi => by
      obtain ⟨xs, f, x, hx, ht⟩ := h3 i hi
      obtain ⟨row, iV, eO⟩ := O5 n hp hl.2 (d := x.1) (ps := x.2) ht
      exact ⟨xs, row, hx, iV, eO⟩)
     exact ⟨_, .cons hr .nil, rows, rfl, er, hrt⟩
   | struct fs =>
    simp only [hu] at hp hl
    simp only [Bool.and_eq_true] at hp hl
    obtain ⟨h1, h2⟩ := trod_struct hu h
    obtain ⟨row, iV, bM⟩ := RT (w := w) (P := P) (q := n) h1 hl.2 (Nat.zero_le _) (fun f hf => by
     obtain ⟨q, x, hx⟩ := h2 f hf
     exact O5 n (List.all_eq_true.1 hp.1 f hf) (List.all_eq_true.1 hl.1 f hf) (d := x.1) (ps := x.2) hx)
    refine ⟨row, by simpa using iV, ?_, fun f hf => by simpa using bM [] rfl f hf⟩
    have := iV.length
    simp at this
    omega
   | _ => simp [hu] at hp
end Go.Vm
namespace Go.Vm
open Go.RowKit Go.WideShapes Go.ChangeAt Go.ChangeShapes
theorem E9 {H : Type} {enc : TypeId × Value -> H} {P : Program} {w : World} {sp : Nat -> Bool} {held : Bool} {n base : Nat} {t : TypeId} {v : Value} {d : DataW H} {ps : List MemPlace} {r : Reach}
  (hp : SK P n t = true) (hl : D9 P n t = true) (hR : Value.okWide P w r base t v) (h : DataW.Trod enc P w 0 sp held t v d ps) : ∃ row, Reads w v row /\ TyR P n t row := by
 obtain ⟨fuel, hf⟩ := h
 obtain ⟨row, iV, eO⟩ := O5 n hp hl hf
 refine ⟨row, ⟨v.cells.toList, ?_, iV⟩, eO⟩
 cases n with
 | zero => simp [SK] at hp
 | succ n =>
  simp only [SK] at hp
  cases hu : P.underlying t with
  | none => simp [hu] at hp
  | some td =>
   cases td with
   | bool => obtain ⟨b, rfl⟩ := okWide_bool hu hR; exact .inl ⟨_, rfl, rfl, rfl⟩
   | int k => obtain ⟨b, rfl⟩ := okWide_int hu hR; exact .inl ⟨_, rfl, rfl, rfl⟩
   | string => obtain ⟨b, rfl⟩ := okWide_string hu hR; exact .inl ⟨_, rfl, rfl, rfl⟩
   | slice e => obtain ⟨a, l, c, rfl⟩ := okWide_slice hu hR; exact .inl ⟨_, rfl, rfl, rfl⟩
   | struct fs =>
    obtain ⟨cs, rfl, gX⟩ := okWide_struct hu hR
    simp [hu] at hp
    exact .inr ⟨by simp [Value.cells, gX, hp.2], by simp [Value.cells]⟩
   | _ => simp [hu] at hp
def CK (P : Program) (n : Nat) : List TypeId -> List (List D) -> Prop
 | [], [] => True
 | t :: ts, r :: rs => TyR P n t r /\ CK P n ts rs
 | _, _ => False
def UB (P : Program) (n : Nat) (ts : List TypeId) : Bool := ts.all fun t => SK P n t && D9 P n t && P.readableRec t && decide (t < P.types.size)
theorem D6 {H : Type} {enc : TypeId × Value -> H} {P : Program} {w : World} {sp : Nat -> Bool} {held : Bool} {n base : Nat} {r : Reach} : ∀ {ts : List TypeId} {vs : List Value} {ds : List (DataW H)} {ps : List MemPlace}, UB P n ts = true ->
  (∀ (j : Nat) t v, ts[j]? = some t -> vs[j]? = some v -> Value.okWide P w r base t v) -> DataW.TrodAll enc P w 0 sp held ts vs ds ps -> ∃ rows, Z6 (Reads w) vs rows /\ CK P n ts rows
 | [], [], [], _, _, _, _ => ⟨[], .nil, trivial⟩
 | t :: ts, v :: vs, d :: ds, _, hp, hR, h => by
  obtain ⟨p, q, h1, h2, _⟩ := h
  simp only [UB, List.all_cons, Bool.and_eq_true] at hp
  obtain ⟨row, hr, ht⟩ := E9 hp.1.1.1.1 hp.1.1.1.2 (hR 0 t v rfl rfl) h1
  obtain ⟨rows, eQ, hts⟩ := D6 (by simpa [UB] using hp.2) (fun j t v ht hv => hR (j + 1) t v ht hv) h2
  exact ⟨row :: rows, .cons hr eQ, ht, hts⟩
 | [], [], _ :: _, _, _, _, h => h.elim
 | [], _ :: _, _, _, _, _, h => by cases ‹List (DataW H)› <;> exact h.elim
 | _ :: _, [], _, _, _, _, h => by cases ‹List (DataW H)› <;> exact h.elim
 | _ :: _, _ :: _, [], _, _, _, h => h.elim
theorem OY {H : Type} {enc : TypeId × Value -> H} {P : Program} {n : Nat} (eN : laidOutB P = true) {W W' : World} (hb : Below W.heap.size W W') : ∀ {ts : List TypeId} {vs : List Value} {ds : List (DataW H)} {ps : List MemPlace}, UB P n ts = true ->
  DataW.TrodAll enc P W 0 (fun _ => true) true ts vs ds ps -> DataW.TrodAll enc P W' 0 (fun b => decide (b < W.heap.size)) true ts vs ds ps
 | [], [], [], _, _, h => h
 | t :: ts, v :: vs, d :: ds, _, hp, h => by
  obtain ⟨p, q, h1, h2, rfl⟩ := h
  simp only [UB, List.all_cons, Bool.and_eq_true, decide_eq_true_eq] at hp
  have lt0 : ∀ x ∈ p, x.block < W.heap.size := by obtain ⟨m, hm⟩ := h1; exact DataW.trod_lt m _ _ _ hm
  exact ⟨p, q, Below.trod eN hp.1.1.2 hp.1.2 h1 hb lt0, OY eN hb (by simpa [UB] using hp.2) h2, rfl⟩
 | [], [], _ :: _, _, _, h => h.elim
 | [], _ :: _, _, _, _, h => by cases ‹List (DataW H)› <;> exact h.elim
 | _ :: _, [], _, _, _, h => by cases ‹List (DataW H)› <;> exact h.elim
 | _ :: _, _ :: _, [], _, _, h => h.elim
end Go.Vm
