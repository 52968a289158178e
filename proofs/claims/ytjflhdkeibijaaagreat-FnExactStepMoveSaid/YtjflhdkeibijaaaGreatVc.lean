/- An abstract machine Oj the model of Go, by value, and that it is sound: part Vc. No condition. -/
import Derived.Test.YtjflhdkeibijaaaGreatVf
import Derived.ProofKit
import Derived.OpenShut
import Derived.Below
import Derived.ChangeOld
import Derived.DataReads
import Derived.Carry
namespace Go.Vm
open Go.RowKit
abbrev Ren := List ((Nat × Nat) × Option (Nat × Nat))
def J6 : Ren → Nat → Nat → Option (Nat × Nat)
 | [], t, j => some (t, j)
 | (n, o) :: ρ, t, j => if t = n.1 ∧ j = n.2 then o else J6 ρ t j
def inF : List (Nat × Nat) → Nat → Nat → Bool
 | [], _, _ => false
 | n :: F, t, j => (t == n.1 && j == n.2) || inF F t j
def LQ (σ : St) (ρ : Ren) (F : List (Nat × Nat)) : At → At → Prop
 | _, .any => True
 | .d x, .d y => x = y
 | .nil _, .nil _ => True
 | .nil s, .d y => y = .sl s []
 | .nil _, .sref t j lo len => J6 ρ t j = none ∧ lo = 0 ∧ len = 0
 | .sref t j lo len, .sref t' j' lo' len' => J6 ρ t' j' = some (t, j) ∧ lo = lo' ∧ len = len'
 | .sref t j lo len, .d y => inF F t j = true ∧ (match σ.ob t j with | .arr _ s rows => y = .sl s (cut rows lo len) | _ => False)
 | .tref t j i c o, .tref t' j' i' c' o' => J6 ρ t' j' = some (t, j) ∧ i = i' ∧ c = c' ∧ o = o' ∧ (match σ.ob t j with | .arr true _ _ => True | _ => False)
 | .ptr t j i c, .ptr t' j' i' c' => J6 ρ t' j' = some (t, j) ∧ i = i' ∧ c = c'
 | .bptr t c, .bptr t' c' => J6 ρ t' 0 = some (t, 0) ∧ c = c'
 | .fn f t, .fn f' t' => J6 ρ t' 0 = some (t, 0) ∧ f = f'
 | .rptr r c, .rptr r' c' => r = r' ∧ c = c'
 | _, _ => False
def Sr (σ : St) (ρ : Ren) (F : List (Nat × Nat)) : List At → List At → Prop
 | [], [] => True
 | x :: xs, y :: ys => LQ σ ρ F x y ∧ Sr σ ρ F xs ys
 | _, _ => False
def wkV (σ : St) (ρ : Ren) (F : List (Nat × Nat)) : V → V → Prop
 | _, .any => True
 | .one x, .one y => LQ σ ρ F x y
 | .agg xs, .agg ys => Sr σ ρ F xs ys
 | .fix u (.one x), .fix u' (.one y) => u = u' ∧ LQ σ ρ F x y
 | .fix u (.agg xs), .fix u' (.agg ys) => u = u' ∧ Sr σ ρ F xs ys
 | .fix _ (.one x), .one y => LQ σ ρ F x y
 | .fix _ (.agg xs), .agg ys => Sr σ ρ F xs ys
 | _, _ => False
def LR (σ : St) (ρ : Ren) (F : List (Nat × Nat)) (t' j' : Nat) : Ob → Prop
 | .none => True
 | .arr q size rows => (match J6 ρ t' j' with
  | none => rows = []
  | some (t, j) => inF F t j = false ∧ (match σ.ob t j with | .arr p s r => (p = q ∨ p = false ∧ ∀ x ∈ rows, ∀ y ∈ x, y.scalar = true) ∧ s = size ∧ r = rows | _ => False))
 | .lit _ _ => False
 | .box cells => (match J6 ρ t' j' with
  | none => False
  | some (t, j) => inF F t j = false ∧ (match σ.ob t j with | .box cs => Sr σ ρ F cs cells | _ => False))
def FR (σ : St) (ρ : Ren) (F : List (Nat × Nat)) (t : Nat) : List Ob → Nat → Prop
 | [], _ => True
 | o :: os, j => LR σ ρ F t j o ∧ FR σ ρ F t os (j + 1)
def TY (σ : St) (ρ : Ren) (F : List (Nat × Nat)) : List Ent → List Ent → Nat → Prop
 | [], [], _ => True
 | e :: es, e' :: es', t => (wkV σ ρ F e.1 e'.1 ∧ FR σ ρ F t e'.2 0) ∧ TY σ ρ F es es' (t + 1)
 | _, _, _ => False
def Qp : Ren → Nat → Nat → Bool
 | [], _, _ => false
 | (n, _) :: ρ, t, j => (t == n.1 && j == n.2) || Qp ρ t j
def xY : Ren → Nat → Nat → Bool
 | [], _, _ => false
 | (_, some o) :: ρ, t, j => (t == o.1 && j == o.2) || xY ρ t j
 | (_, none) :: ρ, t, j => xY ρ t j
def GQ (σ' : St) (t j : Nat) : Bool := match σ'.ob t j with | .none => true | _ => false
def qt (σ' : St) (all : Ren) : Ren → Bool
 | [] => true
 | (_, some o) :: ρ => !xY ρ o.1 o.2 && (Qp all o.1 o.2 || GQ σ' o.1 o.2) && qt σ' all ρ
 | (_, none) :: ρ => qt σ' all ρ
theorem xr : ∀ {ρ : Ren} {t j : Nat}, Qp ρ t j = false → J6 ρ t j = some (t, j)
 | [], _, _, _ => rfl
 | (n, o) :: ρ, t, j, h => by
  simp only [Qp, Bool.or_eq_false_iff, Bool.and_eq_false_iff, beq_eq_false_iff_ne] at h
  simp only [J6]
  rw [if_neg (by rintro ⟨h1, h2⟩; rcases h.1 with h3 | h3 <;> contradiction)]
  exact xr h.2
theorem jh : ∀ {ρ : Ren} {t j : Nat} {o : Nat × Nat}, Qp ρ t j = true → J6 ρ t j = some o → xY ρ o.1 o.2 = true
 | [], _, _, _, h, _ => by simp [Qp] at h
 | (n, o') :: ρ, t, j, o, h, ho => by
  simp only [J6] at ho
  split at ho
  ·subst ho; simp [xY]
  ·rename_i hne
   have h' : Qp ρ t j = true := by
    simp only [Qp, Bool.or_eq_true, Bool.and_eq_true, beq_iff_eq] at h
    rcases h with h | h
    ·exact absurd h hne
    ·exact h
   have := jh h' ho
   cases o' with
   | none => simpa [xY] using this
   | some o' => simp [xY, this]
theorem MY {σ' : St} {all : Ren} : ∀ {ρ : Ren} {t j t' j' : Nat} {o : Nat × Nat}, qt σ' all ρ = true → Qp ρ t j = true → Qp ρ t' j' = true → J6 ρ t j = some o → J6 ρ t' j' = some o → (t, j) = (t', j')
 | [], _, _, _, _, _, _, h, _, _, _ => by simp [Qp] at h
 | (n, o') :: ρ, t, j, t', j', o, hok, hn, hn', ho, ho' => by
  have hokr : qt σ' all ρ = true := by
   cases o' with
   | none => simpa [qt] using hok
   | some o' => simp only [qt, Bool.and_eq_true] at hok; exact hok.2
  simp only [J6] at ho ho'
  by_cases h1 : t = n.1 ∧ j = n.2
  ·rw [if_pos h1] at ho
   by_cases h2 : t' = n.1 ∧ j' = n.2
   ·rw [h1.1, h1.2, h2.1, h2.2]
   ·rw [if_neg h2] at ho'
    have h' : Qp ρ t' j' = true := by
     simp only [Qp, Bool.or_eq_true, Bool.and_eq_true, beq_iff_eq] at hn'
     exact hn'.resolve_left h2
    have hold := jh h' ho'
    subst ho
    simp only [qt, Bool.and_eq_true, Bool.not_eq_true'] at hok
    rw [hold] at hok; cases hok.1.1
  ·rw [if_neg h1] at ho
   have h : Qp ρ t j = true := by
    simp only [Qp, Bool.or_eq_true, Bool.and_eq_true, beq_iff_eq] at hn
    exact hn.resolve_left h1
   by_cases h2 : t' = n.1 ∧ j' = n.2
   ·rw [if_pos h2] at ho'
    have hold := jh h ho
    subst ho'
    simp only [qt, Bool.and_eq_true, Bool.not_eq_true'] at hok
    rw [hold] at hok; cases hok.1.1
   ·rw [if_neg h2] at ho'
    have h' : Qp ρ t' j' = true := by
     simp only [Qp, Bool.or_eq_true, Bool.and_eq_true, beq_iff_eq] at hn'
     exact hn'.resolve_left h2
    exact MY hokr h h' ho ho'
theorem kh {σ' : St} {all : Ren} : ∀ {ρ : Ren} {t j : Nat}, qt σ' all ρ = true → xY ρ t j = true → Qp all t j = true ∨ σ'.ob t j = .none
 | [], _, _, _, h => by simp [xY] at h
 | (n, o') :: ρ, t, j, hok, h => by
  cases o' with
  | none => exact kh (ρ := ρ) (by simpa [qt] using hok) (by simpa [xY] using h)
  | some o =>
   simp only [qt, Bool.and_eq_true, Bool.or_eq_true] at hok
   simp only [xY, Bool.or_eq_true, Bool.and_eq_true, beq_iff_eq] at h
   rcases h with ⟨rfl, rfl⟩ | h
   ·refine hok.1.2.imp id fun hf => ?_
    unfold GQ at hf; split at hf <;> first | assumption | cases hf
   ·exact kh hok.2 h
theorem Dk {σ' : St} {ρ : Ren} (hok : qt σ' ρ ρ = true) {t j t' j' : Nat} {o : Nat × Nat} (h1 : σ'.ob t j ≠ .none) (h2 : σ'.ob t' j' ≠ .none) (ho : J6 ρ t j = some o) (ho' : J6 ρ t' j' = some o) : t = t' ∧ j = j' := by
 cases hn : Qp ρ t j with
 | true =>
  cases hn' : Qp ρ t' j' with
  | true => have := MY hok hn hn' ho ho'; cases this; exact ⟨rfl, rfl⟩
  | false =>
   have hid := xr hn'
   rw [hid] at ho'; cases ho'
   have hold := jh hn ho
   rcases kh hok hold with h | h
   ·rw [hn'] at h; cases h
   ·exact absurd h h2
 | false =>
  have hid := xr hn
  rw [hid] at ho; cases ho
  cases hn' : Qp ρ t' j' with
  | true =>
   have hold := jh hn' ho'
   rcases kh hok hold with h | h
   ·rw [hn] at h; cases h
   ·exact absurd h h1
  | false =>
   have hid' := xr hn'
   rw [hid'] at ho'; cases ho'; exact ⟨rfl, rfl⟩
theorem Vh {σ : St} {ρ : Ren} {F : List (Nat × Nat)} : ∀ {es es' : List Ent} {t : Nat}, TY σ ρ F es es' t → es.length = es'.length
 | [], [], _, _ => rfl
 | _ :: _, _ :: _, _, h => by simp [Vh h.2]
 | [], _ :: _, _, h => h.elim
 | _ :: _, [], _, h => h.elim
theorem Pm {σ : St} {ρ : Ren} {F : List (Nat × Nat)} : ∀ {es es' : List Ent} {t : Nat}, TY σ ρ F es es' t → ∀ (i : Nat), wkV σ ρ F (St.get es i) (St.get es' i) ∧ ∀ j, LR σ ρ F (t + i) j (St.ob es' i j)
 | [], [], t, _, i => ⟨by simp [St.get, wkV], fun j => by simp [St.ob, LR]⟩
 | e :: es, e' :: es', t, h, 0 => by
  refine ⟨h.1.1, fun j => ?_⟩
  have : ∀ (os : List Ob) (k : Nat), FR σ ρ F t os k → ∀ j, LR σ ρ F t (k + j) (YD os j) := by
   intro os
   induction os with
   | nil => intro k _ j; simp [YD, LR]
   | cons o os ih =>
    intro k hk j
    cases j with
    | zero => exact hk.1
    | succ j => have := ih (k + 1) hk.2 j; rw [show k + (j + 1) = k + 1 + j by omega]; simpa [YD] using this
  have := this e'.2 0 h.1.2 j
  simpa using this
 | e :: es, e' :: es', t, h, i + 1 => by
  have := Pm h.2 i
  rw [show t + (i + 1) = t + 1 + i by omega]
  simpa [St.get, St.ob] using this
 | [], _ :: _, _, h, _ => h.elim
 | _ :: _, [], _, h, _ => h.elim
theorem E5 {T : CS} {w : World} {xs : List Value} {ds : List D} {S : Nat → Prop} (hal : Zp (Rd T w) xs ds) (hf : ∀ d ∈ ds, d.scalar = true) : QK w xs ds S :=
 ⟨hal.length, fun _ _ => False, fun k x d hx hd => by
  obtain ⟨d', hd', hr⟩ := hal.get k x hx
  rw [hd] at hd'; cases hd'
  exact Rd.own (hf d (List.mem_of_getElem? hd)) hr, fun _ _ hb => hb.elim, fun _ _ _ hb => hb.elim⟩
theorem YO {σ σ' : St} (ρ : Ren) (F : List (Nat × Nat)) (hok : qt σ' ρ ρ = true) (hs : TY σ ρ F σ σ' 0) : Wk σ σ' := by
 rintro T0 B a w ⟨X, h, r⟩
 let h' : Nat → Nat → Hd := fun t j => match J6 ρ t j with | some o => h o.1 o.2 | none => Hd.of (.slice none 0 0)
 let X' : Nat → Prop := fun b => X b ∨ ∃ t j, inF F t j = true ∧ σ.ob t j ≠ .none ∧ (h t j).u b
 have hlen := Vh hs
 have hget := Pm hs
 have hob : ∀ t j, LR σ ρ F t j (σ'.ob t j) := fun t j => by have := (hget t).2 j; simpa using this
 have hTT : ∀ b k v, Tof T0 X b k → w.cell? ⟨b, k, none⟩ = some v → w.cell? ⟨b, k, none⟩ = some v ∧ Tof T0 X' b k := fun b k v hb hc => ⟨hc, hb.imp id .inl⟩
 have obarr : ∀ t' j' q size rows, σ'.ob t' j' = .arr q size rows → (J6 ρ t' j' = none ∧ rows = []) ∨ ∃ t j p, J6 ρ t' j' = some (t, j) ∧ inF F t j = false ∧ σ.ob t j = .arr p size rows ∧ (p = q ∨ p = false ∧ ∀ x ∈ rows, ∀ y ∈ x, y.scalar = true) := by
  intro t' j' q size rows ho
  have := hob t' j'
  rw [ho] at this
  simp only [LR] at this
  split at this
  ·rename_i hn; exact .inl ⟨hn, this⟩
  ·rename_i t j hn
   obtain ⟨hF, this⟩ := this
   split at this
   ·rename_i p s r hor; obtain ⟨hp, rfl, rfl⟩ := this; exact .inr ⟨t, j, p, hn, hF, hor, hp⟩
   ·exact this.elim
 have oblit : ∀ t' j' size rows, σ'.ob t' j' ≠ .lit size rows := by
  intro t' j' size rows ho
  have := hob t' j'
  rw [ho] at this; exact this
 have obbox : ∀ t' j' cells, σ'.ob t' j' = .box cells → ∃ t j cs, J6 ρ t' j' = some (t, j) ∧ inF F t j = false ∧ σ.ob t j = .box cs ∧ Sr σ ρ F cs cells := by
  intro t' j' cells ho
  have := hob t' j'
  rw [ho] at this
  simp only [LR] at this
  split at this
  ·exact this.elim
  ·rename_i t j hn
   obtain ⟨hF, this⟩ := this
   split at this
   ·rename_i cs hor; exact ⟨t, j, cs, hn, hF, hor, this⟩
   ·exact this.elim
 have at_ : ∀ {x y : At} {v : Value}, LQ σ ρ F x y → Z2 (Tof T0 X) h σ.ob w x v → Z2 (Tof T0 X') h' σ'.ob w y v := by
  intro x y v hw hr
  have h1 := Z2.Yv hr
  cases y with
  | any => exact h1
  | d y =>
   cases x with
   | d x => simp only [LQ] at hw; subst hw; exact Rd.mono hTT hr
   | nil s => simp only [LQ] at hw; subst hw; cases hr; exact .nil _
   | sref t j lo len =>
    simp only [LQ] at hw
    obtain ⟨hF, hw⟩ := hw
    split at hw
    ·rename_i q s rows ho
     subst hw
     exact r.FT ho hr _ (fun b k hb => hb.imp id .inl) (fun b k hb => .inr (.inr ⟨t, j, hF, by rw [ho]; simp, hb⟩))
    ·exact hw.elim
   | _ => exact hw.elim
  | nil s =>
   cases x with
   | nil s' => exact hr
   | _ => exact hw.elim
  | sref t' j' lo' len' =>
   cases x with
   | nil s =>
    obtain ⟨hn, rfl, rfl⟩ := hw
    cases hr
    refine ⟨rfl, fun q size rows ho => ?_, fun size rows ho => absurd ho (oblit _ _ _ _)⟩
    simp only [h', hn]
    exact ⟨by omega, fun _ _ => rfl, fun _ => rfl, none, 0, rfl, by omega, by simp [maxLen], fun _ => rfl, fun hh => absurd hh (by omega)⟩
   | sref t j lo len =>
    obtain ⟨hn, rfl, rfl⟩ := hw
    refine ⟨h1, fun q size rows ho => ?_, fun size rows ho => absurd ho (oblit _ _ _ _)⟩
    rcases obarr t' j' q size rows ho with ⟨hn', _⟩ | ⟨t2, j2, p, hn', _, hor, _⟩
    ·rw [hn] at hn'; cases hn'
    ·rw [hn] at hn'; cases hn'
     simp only [h', hn]
     exact hr.2.1 p size rows hor
   | _ => exact hw.elim
  | ptr t' j' i' c' =>
   cases x with
   | ptr t j i c =>
    obtain ⟨hn, rfl, rfl⟩ := hw
    refine ⟨h1, fun q size rows ho => ?_⟩
    rcases obarr t' j' q size rows ho with ⟨hn', _⟩ | ⟨t2, j2, p, hn', _, hor, _⟩
    ·rw [hn] at hn'; cases hn'
    ·rw [hn] at hn'; cases hn'
     simp only [h', hn]
     exact hr.2 p size rows hor
   | _ => exact hw.elim
  | tref t' j' i' c' o' =>
   cases x with
   | tref t j i c o =>
    obtain ⟨hn, rfl, rfl, rfl, hq⟩ := hw
    refine ⟨h1, fun size rows ho => ?_⟩
    rcases obarr t' j' true size rows ho with ⟨hn', _⟩ | ⟨t2, j2, p, hn', _, hor, hp⟩
    ·rw [hn] at hn'; cases hn'
    ·rw [hn] at hn'; cases hn'
     simp only [h', hn]
     rcases hp with rfl | ⟨rfl, hfl⟩
     ·exact hr.2 size rows hor
     ·rw [hor] at hq; exact hq.elim
   | _ => exact hw.elim
  | bptr t' c' =>
   cases x with
   | bptr t c =>
    obtain ⟨hn, rfl⟩ := hw
    refine ⟨h1, fun cells ho => ?_⟩
    obtain ⟨t2, j2, cs, hn', _, hor, _⟩ := obbox t' 0 cells ho
    rw [hn] at hn'; cases hn'
    simp only [h', hn]
    exact hr.2 cs hor
   | _ => exact hw.elim
  | fn f' t' =>
   cases x with
   | fn f t =>
    obtain ⟨hn, rfl⟩ := hw
    refine ⟨h1, fun cells ho => ?_⟩
    obtain ⟨t2, j2, cs, hn', _, hor, _⟩ := obbox t' 0 cells ho
    rw [hn] at hn'; cases hn'
    simp only [h', hn]
    exact hr.2 cs hor
   | _ => exact hw.elim
  | rptr r' c' =>
   cases x with
   | rptr r0 c =>
    obtain ⟨rfl, rfl⟩ := hw
    obtain ⟨b, off, g, e, hk⟩ := hr
    exact ⟨b, off, g, e, fun k d hd => ⟨(hk k d hd).1, (hk k d hd).2.1.imp id .inl, Rd.mono hTT (hk k d hd).2.2⟩⟩
   | _ => exact hw.elim
 have ats_ : ∀ {xs ys : List At} {vs : List Value}, Sr σ ρ F xs ys → Zp (Z2 (Tof T0 X) h σ.ob w) xs vs → Zp (Z2 (Tof T0 X') h' σ'.ob w) ys vs := by
  intro xs
  induction xs with
  | nil => intro ys vs hw hr; cases ys with
   | nil => cases hr; exact .nil
   | cons y ys => exact hw.elim
  | cons x xs ih => intro ys vs hw hr; cases ys with
   | nil => exact hw.elim
   | cons y ys => cases hr with
    | cons h1 hr => exact .cons (at_ hw.1 h1) (ih hw.2 hr)
 have v_ : ∀ {x y : V} {v : Value}, wkV σ ρ F x y → XZ (Tof T0 X) h σ.ob w x v → XZ (Tof T0 X') h' σ'.ob w y v := by
  intro x y v hw hr
  cases y with
  | any => trivial
  | one y => cases x with
   | one x => exact at_ hw hr
   | fix u x => cases x with
    | one x => exact at_ hw hr.2
    | _ => exact hw.elim
   | _ => exact hw.elim
  | agg ys => cases x with
   | agg xs => obtain ⟨cs, e, hr⟩ := hr; exact ⟨cs, e, ats_ hw hr⟩
   | fix u x => cases x with
    | agg xs => obtain ⟨cs, e, hr⟩ := hr.2; exact ⟨cs, e, ats_ hw hr⟩
    | _ => exact hw.elim
   | _ => exact hw.elim
  | tup ys => cases x with
   | fix u x => cases x <;> exact hw.elim
   | _ => exact hw.elim
  | cnd g y => cases x with
   | fix u x => cases x <;> exact hw.elim
   | _ => exact hw.elim
  | fix u' y => cases x with
   | fix u x => cases x with
    | one x => cases y with
     | one y => obtain ⟨rfl, hw⟩ := hw; exact ⟨hr.1, at_ hw hr.2⟩
     | _ => exact hw.elim
    | agg xs => cases y with
     | agg ys => obtain ⟨rfl, hw⟩ := hw; obtain ⟨e1, cs, e, hr⟩ := hr; exact ⟨e1, cs, e, ats_ hw hr⟩
     | _ => exact hw.elim
    | _ => cases y <;> exact hw.elim
   | _ => cases y <;> exact hw.elim
 have hne : ∀ t j, σ'.ob t j ≠ .none → (J6 ρ t j = none ∧ ∀ b, ¬ (h' t j).u b) ∨ ∃ o, J6 ρ t j = some o ∧ σ.ob o.1 o.2 ≠ .none ∧ inF F o.1 o.2 = false ∧ h' t j = h o.1 o.2 := by
  intro t j hn
  cases ho : σ'.ob t j with
  | none => exact absurd ho hn
  | arr q size rows =>
   rcases obarr t j q size rows ho with ⟨hn', _⟩ | ⟨t2, j2, p, hn', hF, hor, _⟩
   ·exact .inl ⟨hn', fun b hb => by simp only [h', hn', Hd.of, blk] at hb; cases hb⟩
   ·exact .inr ⟨(t2, j2), hn', by rw [hor]; simp, hF, by simp only [h', hn']⟩
  | lit size rows => exact absurd ho (oblit _ _ _ _)
  | box cells =>
   obtain ⟨t2, j2, cs, hn', hF, hor, _⟩ := obbox t j cells ho
   exact .inr ⟨(t2, j2), hn', by rw [hor]; simp, hF, by simp only [h', hn']⟩
 refine ⟨X', h', by rw [r.size, hlen], r.defers, r.hB, fun b hb => ?_, r.hT, fun t ht => ?_, fun t j => ?_, fun t j b hn hb => ?_, fun t j b hn hb => ?_, fun t j t' j' b hn hn' hb hb' => ?_⟩
 ·rcases hb with hb | ⟨t, j, _, hn, hb⟩
  ·exact r.hX b hb
  ·have := r.own t j b hn hb; exact ⟨this.1, this.2.2⟩
 ·exact v_ (hget t).1 (r.slot t (by rw [hlen]; exact ht))
 ·cases ho : σ'.ob t j with
  | none => trivial
  | lit size rows => exact absurd ho (oblit _ _ _ _)
  | arr q size rows =>
   rcases obarr t j q size rows ho with ⟨hn, rfl⟩ | ⟨u, k, p, hn, _, hor, hp⟩
   ·have : h' t j = Hd.of (.slice none 0 0) := by simp only [h', hn]
    rw [this]
    cases q with
    | false => exact ⟨0, [], World.ownsRow_nil w 0 0 size, (by intro q hq; cases hq), .nil⟩
    | true => exact ⟨0, [], World.ownsRow_nil w 0 0 size, (by intro q hq; cases hq), QK.nil _, fun k x d hx => by simp at hx⟩
   ·have he : h' t j = h u k := by simp only [h', hn]
    rw [he]
    have h0 := r.obj u k
    rw [hor] at h0
    cases p with
    | false =>
     obtain ⟨e, xs, hown, hz, hal⟩ := h0
     cases q with
     | false => exact ⟨e, xs, hown, hz, hal.imp fun _ _ => Rd.mono hTT⟩
     | true =>
      rcases hp with hp | ⟨_, hfl⟩
      ·cases hp
      ·have hfl' : ∀ d ∈ rows.flatten, d.scalar = true := fun d hd => by
        obtain ⟨r0, hr0, hdr⟩ := List.mem_flatten.1 hd
        exact hfl r0 hr0 d hdr
       exact ⟨e, xs, hown, hz, E5 hal hfl', fun k x d _ hd hs => by rw [hfl' d (List.mem_of_getElem? hd)] at hs; cases hs⟩
    | true =>
     rcases hp with rfl | ⟨hp, _⟩
     ·exact h0
     ·cases hp
  | box cells =>
   obtain ⟨u, k, cs, hn, _, hor, hcs⟩ := obbox t j cells ho
   have h0 := r.obj u k
   rw [hor] at h0
   obtain ⟨b, vs, e, hv, hh, hal⟩ := h0
   have he : h' t j = h u k := by simp only [h', hn]
   rw [he]
   exact ⟨b, vs, e, hv, hh, ats_ hcs hal⟩
 ·rcases hne t j hn with ⟨hr, _⟩ | ⟨o, hr, hno, hF, he⟩
  ·simp only [h', hr, Hd.of, blk] at hb; cases hb
  ·rw [he] at hb ⊢; exact r.ub o.1 o.2 b hno hb
 ·rcases hne t j hn with ⟨_, hno⟩ | ⟨o, hr, hno, hF, he⟩
  ·exact absurd hb (hno b)
  ·rw [he] at hb
   have h0 := r.own o.1 o.2 b hno hb
   refine ⟨h0.1, ?_, h0.2.2⟩
   rintro (hx | ⟨t2, j2, hF2, hn2, hb2⟩)
   ·exact h0.2.1 hx
   ·obtain ⟨h3, h4⟩ := r.inj o.1 o.2 t2 j2 b hno hn2 hb hb2
    rw [h3, h4] at hF; rw [hF] at hF2; cases hF2
 ·rcases hne t j hn with ⟨_, hno⟩ | ⟨o, hr, hno, _, he⟩
  ·exact absurd hb (hno b)
  ·rcases hne t' j' hn' with ⟨_, hno'⟩ | ⟨o', hr', hno', _, he'⟩
   ·exact absurd hb' (hno' b)
   ·rw [he] at hb
    rw [he'] at hb'
    obtain ⟨h3, h4⟩ := r.inj o.1 o.2 o'.1 o'.2 b hno hno' hb hb'
    have : o = o' := Prod.ext h3 h4
    subst this
    exact Dk hok hn hn' hr hr'
theorem Yi {σ σ' : St} (hs : TY σ [] [] σ σ' 0) : Wk σ σ' := YO [] [] rfl hs
attribute [simp] J6 inF LQ Sr wkV LR FR TY Qp xY GQ qt
end Go.Vm
namespace Go.Vm
open Go.RowKit
def Y6 (P : Program) (σ : St) : List Operand → List TypeId → Prop × Option (List (List D))
 | [], _ => (True, some [])
 | x :: xs, t :: ts => (gOf (look P σ t x) = true ∧ (Y6 P σ xs ts).1, match (unc (look P σ t x)).Qn σ, (Y6 P σ xs ts).2 with | some r, some rs => some (r :: rs) | _, _ => none)
 | _ :: _, [] => (False, none)
theorem qC {P : Program} {σ : St} : ∀ {xs : List Operand} {ts : List TypeId} {rs : List (List D)}, (Y6 P σ xs ts).1 → (Y6 P σ xs ts).2 = some rs → XQ P σ xs ts rs
 | [], _, rs, _, h => by simp [Y6] at h; exact h
 | x :: xs, t :: ts, rs, h1, h => by
  simp only [Y6] at h
  split at h
  ·rename_i r rs' hr hrs
   cases h
   exact ⟨h1.1, r, rs', hr, qC h1.2 hrs, rfl⟩
  ·cases h
 | _ :: _, [], _, h1, _ => h1.elim
attribute [simp] Y6
theorem Rx {P : Program} {ops : Array Oper} {bar : Oper → Bool} {o : Oper} {rest : List Oper} {σ : St} {Q : St → Prop} {c : Call} {f : FuncId} {d : Nat} {own : Bool} {rows res : List (List D)} (hop : o.op = .call c) (hc : c.callee = .value (.func f)) (hg : o.guard = none) (hd : o.dst = some d)
  (hs : X6 P f own rows res) (hrows : (Y6 P σ c.args.toList c.argTypes.toList).2 = some rows) (hargs : (Y6 P σ c.args.toList c.argTypes.toList).1) (hst : YI P σ c.args.toList c.argTypes.toList = true ∨ Jz own res) (h : Ev P ops bar rest (σ.put d (ya res)) Q) : zn P ops bar o rest σ Q :=
 H3 hop hc hg hd (qC hargs hrows) hs hst h
theorem GO {P : Program} {ops : Array Oper} {bar : Oper → Bool} {o : Oper} {rest : List Oper} {σ : St} {Q : St → Prop} {c : Call} {f : FuncId} {d : Nat} {rows res : List (List D)} (qs : List Bool) (hop : o.op = .call c) (hc : c.callee = .value (.func f)) (hg : o.guard = none) (hd : o.dst = some d)
  (hs : Xz P f rows res) (hrows : (Y6 P σ c.args.toList c.argTypes.toList).2 = some rows) (hargs : (Y6 P σ c.args.toList c.argTypes.toList).1) (hq : ks qs res.flatten) (hf : σ.fresh d = true) (h : Ev P ops bar rest (σ.new d (kT d res) (Z3 qs res.flatten)) Q) : zn P ops bar o rest σ Q :=
 GW qs hop hc hg hd (qC hargs hrows) hs hq hf h
theorem DS {P : Program} {ops : Array Oper} {bar : Oper → Bool} {o : Oper} {rest : List Oper} {σ : St} {Q : St → Prop} {c : Call} {f : FuncId} {d j dj : Nat} {want g own : Bool} {rows : List (List D)} {res : List D} (hop : o.op = .call c) (hc : c.callee = .value (.func f)) (hg : o.guard = some (j, want)) (hd : o.dst = some d)
  (hdj : (ops[j]?).bind (·.dst) = some dj) (hgc : xP want (σ.get dj) = some g) (hs : g = true → X6 P f own rows [res])
  (hrows : (Y6 P σ c.args.toList c.argTypes.toList).2 = some rows) (hlt : dj < σ.length)
  (hargs : g = true → (Y6 P σ c.args.toList c.argTypes.toList).1) (hst : YI P σ c.args.toList c.argTypes.toList = true ∨ Jz own [res]) (h : Ev P ops bar rest (σ.put d (.cnd g (ya [res]))) Q) : zn P ops bar o rest σ Q :=
 Ge hop hc hg hd hdj hlt hgc (fun hh => qC (hargs hh) hrows) hs hst h
def YM : Nat → List (Nat × V × List Ob) → St
 | n, [] => List.replicate n (V.any, [])
 | n, (t, v, os) :: l => (YM n l).new t v os
attribute [simp] YM
end Go.Vm
namespace Go.Vm
open Go.RowKit
def CR (P : Program) (b : Bool) (x y : Code) (Q : Exit → St → Prop) (σ : St) : Prop := (b = true → AWP P x Q σ) ∧ (b = false → AWP P y Q σ)
def CV (P : Program) (c : Code) (Q : Exit → St → Prop) (σ : St) : Prop := AWP P (.loop c) Q σ
def Cf (P : Program) (id : Nat) (ops : Array Oper) (Q : Exit → St → Prop) (σ : St) : Prop := AWP P (.region id ops true) Q σ
def PB (P : Program) (c : Code) (Q : Exit → St → Prop) (σ : St) : Prop := AWP P c Q σ
def Wx (P : Program) : Code → (Exit → St → Prop) → St → Prop
 | .seq x y, Q, σ => Wx P x (R7 (Wx P y Q) Q) σ
 | .region _ ⟨l⟩ false, Q, σ => Ev P ⟨l⟩ (fun _ => true) l σ (Q .normal)
 | .region id ops true, Q, σ => Cf P id ops Q σ
 | .cond c x y, Q, σ => (match look P σ 0 c with | .one (.d (.bool b)) => CR P b x y Q σ | _ => False)
 | .block id c, Q, σ => Wx P c (W5 id Q) σ
 | .loop c, Q, σ => CV P c Q σ
 | .skip, Q, σ => Q .normal σ
 | .exit id, Q, σ => Q (.exit id) σ
 | .ret, Q, σ => Q .ret σ
 | .rangeFunc f ps x y, Q, σ => PB P (.rangeFunc f ps x y) Q σ
 | .scope c, Q, σ => PB P (.scope c) Q σ
 | .label l, Q, σ => PB P (.label l) Q σ
 | .goto l, Q, σ => PB P (.goto l) Q σ
 | .refuse s, Q, σ => PB P (.refuse s) Q σ
theorem jU {P : Program} : ∀ {c : Code} {Q : Exit → St → Prop} {σ : St}, Wx P c Q σ → AWP P c Q σ
 | .seq x y, Q, σ, h => by
  rw [Wx] at h
  refine Dl (Hr (fun e σ' hq => ?_) (jU h))
  cases e <;> simp only [R7] at hq ⊢ <;> first | exact jU hq | exact hq
 | .region _ ⟨l⟩ false, Q, σ, h => Co h
 | .region id ops true, Q, σ, h => h
 | .cond c x y, Q, σ, h => by
  rw [Wx] at h
  split at h
  ·rename_i b hb; exact Er hb h.1 h.2
  ·exact h.elim
 | .block id c, Q, σ, h => F7 (jU (by rw [Wx] at h; exact h))
 | .loop c, Q, σ, h => h
 | .skip, Q, σ, h => DA h
 | .exit id, Q, σ, h => Ej h
 | .ret, Q, σ, h => Dz h
 | .rangeFunc _ _ _ _, Q, σ, h => h
 | .scope _, Q, σ, h => h
 | .label _, Q, σ, h => h
 | .goto _, Q, σ, h => h
 | .refuse _, Q, σ, h => h
class zg where
 c : Code
class Kh where
 ops : Array Oper
 bar : Oper → Bool
class zQ where
 l : List Oper
class OpI where
 o : Oper
class inductive Fr where
 | fin (Q : Exit → St → Prop)
 | sq (y : Code) (k : Fr)
 | blk (id : Nat) (k : Fr)
 | nxt (n : St → Prop) (k : Fr)
def Fr.run (P : Program) : Fr → Exit → St → Prop
 | .fin Q, e, σ => Q e σ
 | .sq y k, e, σ => R7 (Wx P y (Fr.run P k)) (Fr.run P k) e σ
 | .blk id k, e, σ => W5 id (Fr.run P k) e σ
 | .nxt n k, e, σ => R7 n (Fr.run P k) e σ
def WI (P : Program) (σ : St) [c : zg] [k : Fr] : Prop := Wx P c.c (k.run P) σ
def LI (P : Program) (e : Exit) (σ : St) [k : Fr] : Prop := k.run P e σ
def EI (P : Program) (σ : St) [A : Kh] [l : zQ] [k : Fr] : Prop := Ev P A.ops A.bar l.l σ (k.run P .normal)
def SI (P : Program) (σ : St) [A : Kh] [o : OpI] [l : zQ] [k : Fr] : Prop := zn P A.ops A.bar o.o l.l σ (k.run P .normal)
def CI (P : Program) (b : Bool) (σ : St) [x : zg] [y : zg] [k : Fr] : Prop := CR P b x.c y.c (k.run P) σ
def TL (P : Program) (σ : St) [c : zg] [k : Fr] : Prop := CV P c.c (k.run P) σ
def DI (P : Program) (id : Nat) (σ : St) [A : Kh] [k : Fr] : Prop := Cf P id A.ops (k.run P) σ
section
variable {P : Program} {σ : St} {k : Fr}
theorem C1 {x y : Code} : @WI P σ ⟨.seq x y⟩ k = @WI P σ ⟨x⟩ (.sq y k) := by
 simp only [WI]
 rw [Wx]
 congr 1
theorem F9 {id : Nat} {l : List Oper} : @WI P σ ⟨.region id ⟨l⟩ false⟩ k = @EI P σ ⟨⟨l⟩, fun _ => true⟩ ⟨l⟩ k := by simp only [WI, EI, Wx]
theorem CA {id : Nat} {ops : Array Oper} : @WI P σ ⟨.region id ops true⟩ k = @DI P id σ ⟨ops, fun _ => true⟩ k := by simp only [WI, DI, Wx]
theorem Di {c : Operand} {x y : Code} : @WI P σ ⟨.cond c x y⟩ k = (match look P σ 0 c with | .one (.d (.bool b)) => @CI P b σ ⟨x⟩ ⟨y⟩ k | _ => False) := by simp only [WI, CI, Wx]
theorem E9 {id : Nat} {c : Code} : @WI P σ ⟨.block id c⟩ k = @WI P σ ⟨c⟩ (.blk id k) := by
 simp only [WI]
 rw [Wx]
 congr 1
theorem Dh {c : Code} : @WI P σ ⟨.loop c⟩ k = @TL P σ ⟨c⟩ k := by simp only [WI, TL, Wx]
theorem D7 : @WI P σ ⟨.skip⟩ k = @LI P .normal σ k := by simp only [WI, LI, Wx]
theorem CC {id : Nat} : @WI P σ ⟨.exit id⟩ k = @LI P (.exit id) σ k := by simp only [WI, LI, Wx]
theorem Cq : @WI P σ ⟨.ret⟩ k = @LI P .ret σ k := by simp only [WI, LI, Wx]
theorem Cx {Q : Exit → St → Prop} {e : Exit} : @LI P e σ (.fin Q) = Q e σ := rfl
theorem Bs {y : Code} : @LI P .normal σ (.sq y k) = @WI P σ ⟨y⟩ k := rfl
theorem G2 {y : Code} {id : Nat} : @LI P (.exit id) σ (.sq y k) = @LI P (.exit id) σ k := rfl
theorem Fg {y : Code} : @LI P .ret σ (.sq y k) = @LI P .ret σ k := rfl
theorem BR {n : St → Prop} : @LI P .normal σ (.nxt n k) = n σ := rfl
theorem H5 {n : St → Prop} {id : Nat} : @LI P (.exit id) σ (.nxt n k) = @LI P (.exit id) σ k := rfl
theorem GH {n : St → Prop} : @LI P .ret σ (.nxt n k) = @LI P .ret σ k := rfl
theorem Cy {id : Nat} : @LI P .normal σ (.blk id k) = @LI P .normal σ k := rfl
theorem Gf {id : Nat} : @LI P .ret σ (.blk id k) = @LI P .ret σ k := rfl
theorem HK {id id' : Nat} : @LI P (.exit id') σ (.blk id k) = if id' = id then @LI P .normal σ k else @LI P (.exit id') σ k := rfl
theorem Cl {A : Kh} : @EI P σ A ⟨[]⟩ k = @LI P .normal σ k := by simp only [EI, LI, Ev]
theorem Ds {A : Kh} {o : Oper} {rest : List Oper} : @EI P σ A ⟨o :: rest⟩ k =
  (if stops P o then @SI P σ A ⟨o⟩ ⟨rest⟩ k else
  match o.guard with
  | none =>
   (match o.dst with
   | some d => (evS P σ o d).1 ∧ @EI P (evS P σ o d).2 A ⟨rest⟩ k
   | none => (match o.op with | .store T x y => if Cm P σ T x y then @SI P σ A ⟨o⟩ ⟨rest⟩ k else (I2 P σ T x y).1 ∧ @EI P (I2 P σ T x y).2 A ⟨rest⟩ k | _ => False))
  | some (j, want) =>
   (match (A.ops[j]?).bind (·.dst), o.dst with
   | some dj, some d => (match xP want (σ.get dj) with
    | some g => (dj < σ.length ∧ (g = true → (evV P σ o.op o.type).1 ∧ gOf (evV P σ o.op o.type).2 = true ∧ (unc (evV P σ o.op o.type).2).flat = true)) ∧ @EI P (σ.put d (.cnd g (unc (evV P σ o.op o.type).2))) A ⟨rest⟩ k
    | none => False)
   | _, _ => False)) := by
 simp only [EI, SI]
 rw [Ev]
 rfl
end
section
variable {P : Program} {σ : St} {k : Fr}
def Nxt {ι : Type} (S : ι → St) (μ : ι → Nat) (b : Nat) (σ : St) : Prop := ∃ i', μ i' < b ∧ Wk σ (S i')
theorem Ro {ι : Type} {S : ι → St} {μ : ι → Nat} {b : Nat} (i : ι) (hm : μ i < b) (hw : Wk σ (S i)) : Nxt S μ b σ := ⟨i, hm, hw⟩
theorem WC {c : zg} {ι : Type} (S : ι → St) (μ : ι → Nat) (i0 : ι) (h0 : Wk σ (S i0))
  (round : ∀ i, @WI P (S i) c (.nxt (Nxt S μ (μ i)) k)) : @TL P σ c k :=
 Wu S μ i0 h0 fun i => jU (round i)
theorem Ef {f : FuncId} {fn : Func} {c : Code} (hf : P.funcs[f]? = some fn) (hb : fn.body = some c) (hok : Ts P f = true) {own : Bool} {args res : List (List D)}
  (hw : @WI P (xa fn.ntmps args) ⟨c⟩ (.fin (I7 P fn own res))) : X6 P f own args res := Lm hf hb hok (jU hw)
theorem toStr {A : Kh} {o : OpI} {rest : zQ} {S T : TypeId} {x : Operand} {d : Nat} {l : List UInt8} (hop : o.o.op = .convert S T x) (hg : o.o.guard = none) (hd : o.o.dst = some d)
  (h1 : gOf (look P σ S x) = true) (h2 : QP P S = true) (h3 : JO P T = true) (h4 : Kr σ (unc (look P σ S x)) 1 (QN l)) (h : @EI P (σ.put d (.one (.d (.str ⟨l.toArray⟩)))) A rest k) : @SI P σ A o rest k :=
 Gh hop hg hd h1 h2 h3 h4 h
theorem Dy {A : Kh} {o : OpI} {rest : zQ} {S T : TypeId} {x : Operand} {d : Nat} {s : ByteArray} (hop : o.o.op = .convert S T x) (hg : o.o.guard = none) (hd : o.o.dst = some d)
  (h1 : gOf (look P σ S x) = true) (h2 : JO P S = true) (h3 : QP P T = true) (h4 : unc (look P σ S x) = .one (.d (.str s))) (h5 : s.size ≤ 9223372036854775807) (h : @EI P (σ.put d (.one (.d (.sl 1 (QN s.data.toList))))) A rest k) : @SI P σ A o rest k :=
 IX hop hg hd h1 h2 h3 h4 h5 h
theorem FV {f : FuncId} {fn : Func} {c : Code} (hf : P.funcs[f]? = some fn) (hb : fn.body = some c) (hok : Ts P f = true) {args res : List (List D)}
  (hw : @WI P (xa fn.ntmps args) ⟨c⟩ (.fin (F0 P fn res))) : Xz P f args res := NY hf hb hok (jU hw)
def IJ (o : Oper) : Bool := match o.op with | .call ⟨.value _, _, _⟩ => false | _ => true
theorem evI {A : Kh} {o : OpI} {l : zQ} {d : Nat} (hp : IJ o.o = true) (hg : o.o.guard = none) (hd : o.o.dst = some d) (h : (evS P σ o.o d).1 ∧ @EI P (evS P σ o.o d).2 A l k) : @SI P σ A o l k := by
 refine Df (fun c hop f hc => ?_) hg hd h.1 h.2
 obtain ⟨cc, ca, ct⟩ := c
 simp only at hc; subst hc
 simp [IJ, hop] at hp
theorem jY {A : Kh} {o : OpI} {l : zQ} {d : Nat} {T : TypeId} {n : Nat} {parts : Array (Nat × Operand)} (hop : o.o.op = .buildSlice T n parts) (hg : o.o.guard = none) (hd : o.o.dst = some d)
  (h1 : σ.fresh d = true ∧ Z9 P T = true ∧ Zl P (ZK P T) = true ∧ 0 < P.cellsOf (ZK P T) ∧ parts.toList.length = n ∧ n * P.cellsOf (ZK P T) ≤ 16777216) (h2 : (Jr P σ (ZK P T) (P.cellsOf (ZK P T)) parts.toList 0).1)
  (h3 : Z7 d (Jr P σ (ZK P T) (P.cellsOf (ZK P T)) parts.toList 0).2.flatten = false)
  (h : @EI P (σ.new d (.one (.sref d 0 0 (Jr P σ (ZK P T) (P.cellsOf (ZK P T)) parts.toList 0).2.length)) [.lit (P.cellsOf (ZK P T)) (Jr P σ (ZK P T) (P.cellsOf (ZK P T)) parts.toList 0).2]) A l k) : @SI P σ A o l k := EY hop hg hd h1 h2 h3 h
theorem D9 {A : Kh} {o : OpI} {l : zQ} {d : Nat} {T : TypeId} {x : Operand} {z : List At} {zr : List D} {n : Nat} (hop : o.o.op = .makeSlice T x x) (hg : o.o.guard = none) (hd : o.o.dst = some d)
  (hz : Yb P 12 (ZK P T) = some z) (hzr : zD z = some zr) (hzf : SL z = true) (h1 : σ.fresh d = true ∧ Z9 P T = true ∧ Zl P (ZK P T) = true ∧ 0 < P.cellsOf (ZK P T) ∧ (lkI P σ x).1) (hn : (lkI P σ x).2 = (n : Int)) (hb : P.bytesOf (ZK P T) * n ≤ 281474976710656) (hm : n ≤ 9223372036854775807)
  (h : @EI P (σ.new d (.one (.sref d 0 0 n)) [.arr true (P.cellsOf (ZK P T)) (List.replicate n zr)]) A l k) : @SI P σ A o l k := Ea hop hg hd hz hzr hzf h1 hn hb hm h
theorem kE {A : Kh} {o : OpI} {l : zQ} {d : Nat} {x y : Operand} {t : TypeId} {olds news : List (List D)} {l1 l2 : List (Nat × Nat)} {size : Nat} (hop : o.o.op = .call ⟨.builtin .append, #[x, y], #[t, t]⟩) (hg : o.o.guard = none) (hd : o.o.dst = some d) (hbar : A.bar o.o = true)
  (hsz : size = P.cellsOf (ZK P t)) (h1 : gOf (look P σ t x) = true ∧ gOf (look P σ t y) = true ∧ Z9 P t = true ∧ Zl P (ZK P t) = true ∧ 0 < P.cellsOf (ZK P t))
  (h2 : (kD σ (unc (look P σ t x)) size).1 ∧ (kD σ (unc (look P σ t x)) size).2 = (olds, l1)) (h3 : (kr σ (unc (look P σ t y)) size).1 ∧ (kr σ (unc (look P σ t y)) size).2 = (news, l2))
  (h4 : (l1 ++ l2).Nodup ∧ (σ.Zn (l1 ++ l2)).fresh d = true) (h5 : (olds.length + news.length) * P.bytesOf (ZK P t) ≤ 140737488355328 ∧ olds.length + news.length ≤ 9223372036854775807)
  (h : @EI P ((σ.Zn (l1 ++ l2)).new d (.one (.sref d 0 0 (olds.length + news.length))) [.arr true size (olds ++ news)]) A l k) : @SI P σ A o l k := DO hop hg hd hbar hsz h1 h2 h3 h4 h5 h
theorem AZ {A : Kh} {o : OpI} {l : zQ} {d : Nat} {x y : Operand} {t : TypeId} {rows : List (List D)} {size u j len lo n : Nat} (hop : o.o.op = .call ⟨.builtin .append, #[x, y], #[t, t]⟩) (hg : o.o.guard = none) (hd : o.o.dst = some d) (hbar : A.bar o.o = true)
  (hsz : size = P.cellsOf (ZK P t)) (h1 : gOf (look P σ t x) = true ∧ gOf (look P σ t y) = true ∧ Z9 P t = true ∧ Zl P (ZK P t) = true ∧ 0 < P.cellsOf (ZK P t))
  (h2 : unc (look P σ t x) = .one (.sref u j 0 len)) (h3 : unc (look P σ t y) = .one (.sref u j lo n)) (ho : σ.ob u j = .arr true size rows) (hle : len ≤ lo) (hle2 : lo + n ≤ rows.length)
  {news : List (List D)} (hnews : cut rows lo n = news) (h4 : (σ.Zt u j .none).fresh d = true) (h5 : (len + n) * P.bytesOf (ZK P t) ≤ 140737488355328 ∧ len + n ≤ 9223372036854775807)
  (h : @EI P ((σ.Zt u j .none).new d (.one (.sref d 0 0 ((rows.take len).length + news.length))) [.arr true size (rows.take len ++ news)]) A l k) : @SI P σ A o l k := EX hop hg hd hbar hsz h1 h2 h3 ho hle hle2 hnews h4 h5 h
theorem Dj {A : Kh} {o : OpI} {l : zQ} {d : Nat} {x y : Operand} {t : TypeId} {olds rows news : List (List D)} {l1 : List (Nat × Nat)} {size u j lo n : Nat} (hop : o.o.op = .call ⟨.builtin .append, #[x, y], #[t, t]⟩) (hg : o.o.guard = none) (hd : o.o.dst = some d) (hbar : A.bar o.o = true)
  (hsz : size = P.cellsOf (ZK P t)) (h1 : gOf (look P σ t x) = true ∧ gOf (look P σ t y) = true ∧ Z9 P t = true ∧ Zl P (ZK P t) = true ∧ 0 < P.cellsOf (ZK P t))
  (h2 : HC σ (unc (look P σ t x)) size olds l1) (h3 : unc (look P σ t y) = .one (.sref u j lo n)) (ho : σ.ob u j = .arr true size rows) (hnm : (u, j) ∉ l1) (hle : lo + n ≤ rows.length) (hnews : cut rows lo n = news)
  (h4 : ((σ.Zt u j (.arr true size (Xm rows lo n))).Zn l1).fresh d = true) (h5 : (olds.length + n) * P.bytesOf (ZK P t) ≤ 140737488355328 ∧ olds.length + n ≤ 9223372036854775807)
  (h : @EI P (((σ.Zt u j (.arr true size (Xm rows lo n))).Zn l1).new d (.one (.sref d 0 0 (olds.length + news.length))) [.arr true size (olds ++ news)]) A l k) : @SI P σ A o l k := E6 hop hg hd hbar hsz h1 h2 h3 ho hnm hle hnews h4 h5 h
theorem Hv {A : Kh} {o : OpI} {l : zQ} {T : TypeId} {x y : Operand} {t j i size : Nat} {rows : List (List D)} {ds : List D} {L : List (Nat × Nat)} (hop : o.o.op = .store T x y) (hg : o.o.guard = none) (hd : o.o.dst = none) (hbar : A.bar o.o = true)
  (hx : unc (look P σ 0 x) = .one (.ptr t j i 0)) (ho : σ.ob t j = .arr true size rows) (hi : i < rows.length) (h1 : Yd P T = true ∧ gOf (look P σ 0 x) = true ∧ gOf (look P σ T y) = true ∧ (unc (look P σ T y)).flat = true)
  (h2 : X1 σ (unc (look P σ T y)).cells = some ds) (h3 : X0 σ (unc (look P σ T y)).cells) (h4 : YF (unc (look P σ T y)).cells = L) (h5 : L.Nodup ∧ (t, j) ∉ L ∧ (σ.Zn L).J9 (At.isT t) = false) (h6 : ds.length = P.cellsOf T ∧ P.cellsOf T = size)
  (h : @EI P ((σ.Zn L).Zt t j (.arr true size (rows.set i ds))) A l k) : @SI P σ A o l k := Ec hop hg hd hbar hx ho hi h1 h2 h3 h4 h5 h6 h
end
attribute [simp] CA C1 F9 Di E9 Dh D7 CC Cq Cx Bs G2 Fg BR H5 GH Cy Gf HK Cl Ds
end Go.Vm
namespace Go.Vm
open Go.RowKit
def Cells (w : World) : CS := fun b _ => b < w.heap.size
def Reads (w : World) (v : Value) (row : List D) : Prop := ∃ cs, Qk v cs ∧ Zp (Rd (Cells w) w) cs row
theorem Nl {P : Program} {f : FuncId} {own : Bool} {rows : List (List D)} {vals : List Value} {w : World} (h : X6 P f own rows [[.bool true]]) (hv : Zp (Reads w) vals rows) :
  Calls P f vals.toArray w fun e w' => e = .returned (.bool true) ∧ Below w.heap.size w w' := by
 refine (h.2 (Cells w) w vals (fun _ _ hb => hb) hv).mono ?_
 rintro e w' ⟨vs, css, Y, rfl, hb, _, hf, hr, _⟩
 refine ⟨?_, hb⟩
 cases hr with
 | cons h1 hr =>
  cases hr
  cases hf with
  | cons h2 hf =>
   cases hf
   cases h1 with
   | cons h3 h1 =>
    cases h1
    have h4 : ∀ v, Ky own (Tof (Cells w) Y) w' v (.bool true) → Rd (Tof (Cells w) Y) w' v (.bool true) := by
     intro v hv
     unfold Ky at hv
     split at hv
     ·exact hv
     ·exact hv
    have h4 := h4 _ h3
    cases h4
    rcases h2 with ⟨v, hcs, hvv, _⟩ | ⟨hl, _⟩
    ·cases hcs; rw [hvv]; rfl
    ·simp at hl
end Go.Vm
namespace Go.Vm
open Go.RowKit
def kG (P : Program) : Nat → TypeId → Bool
 | 0, _ => false
 | n + 1, t =>
  match P.underlying t with
  | some .bool => true
  | some (.int _) => true
  | some .string => true
  | some (.slice e) => kG P n e
  | some (.struct fs) => fs.toList.all (fun f => kG P n f.type) && P.cellsOf t != 1
  | _ => false
def TyR (P : Program) : Nat → TypeId → List D → Prop
 | 0, _, _ => False
 | n + 1, t, row =>
  match P.underlying t with
  | some .bool => ∃ b, row = [.bool b]
  | some (.int k) => ∃ m, row = [.int k m] ∧ k.min ≤ m ∧ m ≤ k.max
  | some .string => ∃ s, row = [.str s] ∧ s.size ≤ maxLen
  | some (.slice e) => ∃ rows, row = [.sl (P.cellsOf e) rows] ∧ rows.length ≤ maxLen ∧ ∀ r ∈ rows, TyR P n e r ∧ r.length = P.cellsOf e
  | some (.struct fs) => row.length = P.cellsOf t ∧ ∀ f ∈ fs.toList, TyR P n f.type (cut row f.offset (P.cellsOf f.type))
  | _ => False
def WM (P : Program) : Nat → List Field → Nat → Bool
 | k, [], n => k == n
 | k, f :: fs, n => f.offset == k && WM P (k + P.cellsOf f.type) fs n
def Mi (P : Program) : Nat → TypeId → Bool
 | 0, _ => false
 | n + 1, t =>
  match P.underlying t with
  | some .bool => P.cellsOf t == 1
  | some (.int _) => P.cellsOf t == 1
  | some .string => P.cellsOf t == 1
  | some (.slice e) => P.cellsOf t == 1 && Mi P n e
  | some (.struct fs) => fs.toList.all (fun f => Mi P n f.type) && WM P 0 fs.toList (P.cellsOf t)
  | _ => false
theorem TC {α β : Type} {f : α → Option β} : ∀ {l : List α} {m : List β}, l.mapM f = some m → l.length = m.length ∧ ∀ (i : Nat) a, l[i]? = some a → ∃ b, m[i]? = some b ∧ f a = some b
 | [], m, h => by simp at h; subst h; exact ⟨rfl, fun i a ha => by simp at ha⟩
 | x :: l, m, h => by
  simp only [List.mapM_cons, Option.bind_eq_bind, Option.bind_eq_some_iff] at h
  obtain ⟨b, hb, bs, hbs, h⟩ := h
  simp at h; subst h
  obtain ⟨h1, h2⟩ := TC hbs
  refine ⟨by simp [h1], fun i a ha => ?_⟩
  cases i with
  | zero => simp at ha; subst ha; exact ⟨b, by simp, hb⟩
  | succ i => simpa using h2 i a (by simpa using ha)
theorem EC {w : World} {a : Addr} {n : Nat} {cs : List Value} (h : w.cells? 0 a n = some cs) : cs.length = n ∧ ∀ i v, cs[i]? = some v → w.cell? (a.add i) = some v := by
 unfold World.cells? at h
 simp at h
 obtain ⟨h1, h2⟩ := TC h
 simp at h1
 refine ⟨h1.symm, fun i v hv => ?_⟩
 have hi : i < n := by have := (List.getElem?_eq_some_iff.1 hv).1; omega
 obtain ⟨b, hb, hf⟩ := h2 i i (by simp [hi])
 rw [hv] at hb; cases hb; exact hf
theorem kx {w : World} {P : Program} {q n : Nat} {cs : List Value} (hl : cs.length = n) : ∀ {fs : List Field} {k : Nat}, WM P k fs n = true → k ≤ n →
  (∀ f ∈ fs, ∃ row, Zp (Rd (Cells w) w) (cut cs f.offset (P.cellsOf f.type)) row ∧ TyR P q f.type row) →
  ∃ tail, Zp (Rd (Cells w) w) (cs.drop k) tail ∧ ∀ (pre : List D), pre.length = k → ∀ f ∈ fs, TyR P q f.type (cut (pre ++ tail) f.offset (P.cellsOf f.type))
 | [], k, hc, hk, _ => by
  simp only [WM, beq_iff_eq] at hc
  subst hc
  exact ⟨[], by rw [List.drop_eq_nil_of_le (by omega)]; exact .nil, fun _ _ f hf => by cases hf⟩
 | f :: fs, k, hc, hk, h => by
  simp only [WM, Bool.and_eq_true, beq_iff_eq] at hc
  obtain ⟨row, hal, hty⟩ := h f (by simp)
  rw [hc.1] at hal
  have hkn : k + P.cellsOf f.type ≤ n := by
   clear h hal hty
   have : ∀ (fs : List Field) (k : Nat), WM P k fs n = true → k ≤ n := by
    intro fs
    induction fs with
    | nil => intro k hh; simp [WM] at hh; omega
    | cons g gs ih => intro k hh; simp only [WM, Bool.and_eq_true, beq_iff_eq] at hh; have := ih _ hh.2; omega
   exact this _ _ hc.2
  have hrl : row.length = P.cellsOf f.type := by rw [← hal.length]; simp [cut]; omega
  obtain ⟨tail, htl, hrest⟩ := kx hl hc.2 hkn (fun g hg => h g (by simp [hg]))
  refine ⟨row ++ tail, ?_, ?_⟩
  ·have : cs.drop k = cut cs k (P.cellsOf f.type) ++ cs.drop (k + P.cellsOf f.type) := by
    unfold cut
    rw [← List.drop_drop]
    exact (List.take_append_drop _ _).symm
   rw [this]
   exact hal.append htl
  ·intro pre hpre g hg
   rcases List.mem_cons.1 hg with rfl | hg
   ·have : cut (pre ++ (row ++ tail)) g.offset (P.cellsOf g.type) = row := by
     unfold cut
     rw [hc.1, ← hpre, List.drop_left, ← hrl, List.take_left]
    rw [this]; exact hty
   ·have := hrest (pre ++ row) (by rw [List.length_append, hpre, hrl]) g hg
    rw [← List.append_assoc]; exact this
section
variable {H : Type} {enc : TypeId × Value → H} {P : Program} {w : World} {sp : Nat → Bool} {held : Bool} {fuel : Nat} {t : TypeId} {cs : List Value} {d : DataW H} {ps : List MemPlace}
theorem trod_bool (hu : P.underlying t = some .bool) (h : DataW.trod enc P w 0 sp held fuel t cs = some (d, ps)) : ∃ b, cs = [.bool b] := by
 cases fuel with
 | zero => simp [DataW.trod] at h
 | succ fuel =>
  unfold DataW.trod at h
  rw [hu] at h
  split at h <;> simp_all
theorem trod_int {k : IntKind} (hu : P.underlying t = some (.int k)) (h : DataW.trod enc P w 0 sp held fuel t cs = some (d, ps)) : ∃ m, cs = [.int k m] ∧ k.min ≤ m ∧ m ≤ k.max := by
 cases fuel with
 | zero => simp [DataW.trod] at h
 | succ fuel =>
  unfold DataW.trod at h
  rw [hu] at h
  split at h <;> simp_all [Lit.wf]
theorem E7 (hu : P.underlying t = some .string) (h : DataW.trod enc P w 0 sp held fuel t cs = some (d, ps)) : ∃ s, cs = [.string s] ∧ s.size ≤ maxLen := by
 cases fuel with
 | zero => simp [DataW.trod] at h
 | succ fuel =>
  unfold DataW.trod at h
  rw [hu] at h
  split at h <;> simp_all
theorem trod_slice {e : TypeId} (hu : P.underlying t = some (.slice e)) (h : DataW.trod enc P w 0 sp held fuel t cs = some (d, ps)) :
  cs = [.slice none 0 0] ∨ ∃ a len cap, cs = [.slice (some a) len cap] ∧ len ≤ cap ∧ cap ≤ maxLen ∧
   ∀ i, i < len → ∃ xs f x, w.cells? 0 (a.add (i * P.cellsOf e)) (P.cellsOf e) = some xs ∧ DataW.trod enc P w 0 sp held f e xs = some x := by
 cases fuel with
 | zero => simp [DataW.trod] at h
 | succ fuel =>
  unfold DataW.trod at h
  rw [hu] at h
  split at h <;> first | (simp_all; done) | skip
  rename_i e' a len cap heq
  cases heq
  refine .inr ⟨a, len, cap, rfl, ?_⟩
  simp only at h
  split at h
  ·rename_i hc
   refine ⟨hc.2.1, hc.2.2, fun i hi => ?_⟩
   simp only [Option.bind_eq_some_iff] at h
   obtain ⟨elems, hel, _⟩ := h
   obtain ⟨hl, hg⟩ := TC hel
   obtain ⟨x, _, hx⟩ := hg i i (by simp [hi])
   obtain ⟨xs, h1, h2⟩ := Option.bind_eq_some_iff.1 hx
   exact ⟨xs, fuel, x, h1, h2⟩
  ·cases h
theorem trod_struct {fs : Array Field} (hu : P.underlying t = some (.struct fs)) (h : DataW.trod enc P w 0 sp held fuel t cs = some (d, ps)) :
  cs.length = P.cellsOf t ∧ ∀ f ∈ fs.toList, ∃ q x, DataW.trod enc P w 0 sp held q f.type (cut cs f.offset (P.cellsOf f.type)) = some x := by
 cases fuel with
 | zero => simp [DataW.trod] at h
 | succ fuel =>
  unfold DataW.trod at h
  rw [hu] at h
  split at h <;> first | (simp_all; done) | skip
  rename_i fs' heq
  cases heq
  split at h
  ·rename_i hc
   refine ⟨hc, fun f hf => ?_⟩
   simp only [Option.map_eq_some_iff] at h
   obtain ⟨xs, hx, _⟩ := h
   obtain ⟨_, hg⟩ := TC hx
   obtain ⟨i, hi⟩ := List.mem_iff_getElem?.1 hf
   obtain ⟨x, _, hx⟩ := hg i f hi
   exact ⟨fuel, x, hx⟩
  ·cases h
end
theorem Dw {w : World} {a : Addr} {v : Value} (h : w.cell? a = some v) : a.block < w.heap.size := by
 unfold World.cell? at h
 cases hh : w.heap[a.block]? with
 | none => simp [hh] at h
 | some o => exact (Array.getElem?_eq_some_iff.1 hh).1
theorem Fx (a : Addr) (m k : Nat) (h : m ≤ k) : a.add k = (a.add m).add (k - m) := by
 simp only [Addr.add]
 by_cases h0 : m = 0
 ·subst h0; simp
 ·by_cases h1 : k - m = 0
  ·have : k = m := by omega
   subst this; simp [h0]
  ·have : k ≠ 0 := by omega
   simp only [h0, h1, this, if_false]
   congr 1
   omega
theorem GV {w : World} {P : Program} {n size : Nat} {e : TypeId} {a : Addr} {len cap : Nat} (hlc : len ≤ cap) (hcm : cap ≤ maxLen)
  (h : ∀ i, i < len → ∃ xs row, w.cells? 0 (a.add (i * size)) size = some xs ∧ Zp (Rd (Cells w) w) xs row ∧ TyR P n e row) :
  ∃ rows : List (List D), Rd (Cells w) w (.slice (some a) len cap) (.sl size rows) ∧ rows.length ≤ maxLen ∧ ∀ r ∈ rows, TyR P n e r ∧ r.length = size := by
 -- the rows as a list, by induction on how many
 have key : ∀ m, m ≤ len → ∃ rows : List (List D), rows.length = m ∧ (∀ r ∈ rows, TyR P n e r ∧ r.length = size) ∧
   ∀ k d, rows.flatten[k]? = some d → ∃ v, w.cell? (a.add k) = some v ∧ Rd (Cells w) w v d := by
  intro m
  induction m with
  | zero => intro _; exact ⟨[], rfl, (by intro r hr; cases hr), (by intro k d hk; simp at hk)⟩
  | succ m ih =>
   intro hm
   obtain ⟨rows, hl, ht, hk⟩ := ih (by omega)
   obtain ⟨xs, row, hx, hal, hty⟩ := h m (by omega)
   obtain ⟨hxl, hxc⟩ := EC hx
   have hrl : row.length = size := by rw [← hal.length, hxl]
   have hfl : rows.flatten.length = m * size := by rw [Z5 rows size (fun r hr => (ht r hr).2), hl]
   refine ⟨rows ++ [row], by simp [hl], fun r hr => ?_, fun k d hd => ?_⟩
   ·rcases List.mem_append.1 hr with hr | hr
    ·exact ht r hr
    ·simp at hr; subst hr; exact ⟨hty, hrl⟩
   ·rw [List.flatten_append, List.flatten_singleton] at hd
    rcases Nat.lt_or_ge k rows.flatten.length with hlt | hge
    ·rw [List.getElem?_append_left hlt] at hd
     exact hk k d hd
    ·rw [List.getElem?_append_right hge] at hd
     obtain ⟨v, hv, hr⟩ := hal.get' _ d hd
     refine ⟨v, ?_, hr⟩
     have := hxc _ v hv
     rw [show a.add k = (a.add (m * size)).add (k - rows.flatten.length) by rw [hfl]; rw [hfl] at hge; exact Fx a (m * size) k hge]
     exact this
 obtain ⟨rows, hl, ht, hk⟩ := key len (Nat.le_refl _)
 refine ⟨rows, ?_, by omega, ht⟩
 have spot0 : rows.flatten ≠ [] → a.spot = none := by
  intro hne
  obtain ⟨d, tl, hcons⟩ := List.exists_cons_of_ne_nil hne
  obtain ⟨v, hv, _⟩ := hk 0 d (by rw [hcons]; rfl)
  have := World.cell?_spot hv
  simpa [Addr.add] using this
 refine .sl a len cap size rows (fun k => (w.cell? (a.add k)).getD undef) hl hlc hcm (fun r hr => (ht r hr).2) spot0 (fun k d hd => ?_) (fun k d hd => ?_)
 ·obtain ⟨v, hv, _⟩ := hk k d hd
  have hsp : a.spot = none := spot0 (by intro hh; rw [hh] at hd; simp at hd)
  have he : a.add k = ⟨a.block, a.off + k, none⟩ := by
   obtain ⟨b, o, sp⟩ := a
   simp only at hsp
   subst hsp
   simp only [Addr.add]
   split
   ·rename_i h0; subst h0; rfl
   ·rfl
  rw [he] at hv ⊢
  rw [hv]
  exact ⟨rfl, Dw (a := ⟨a.block, a.off + k, none⟩) hv⟩
 ·obtain ⟨v, hv, hr⟩ := hk k d hd
  simp only [hv, Option.getD_some]; exact hr
theorem Vw {H : Type} {enc : TypeId × Value → H} {P : Program} {w : World} {sp : Nat → Bool} {held : Bool} : ∀ (n : Nat) {fuel : Nat} {t : TypeId} {cs : List Value} {d : DataW H} {ps : List MemPlace}, kG P n t = true → Mi P n t = true →
  DataW.trod enc P w 0 sp held fuel t cs = some (d, ps) → ∃ row, Zp (Rd (Cells w) w) cs row ∧ TyR P n t row
 | 0, _, _, _, _, _, h, _, _ => by simp [kG] at h
 | n + 1, fuel, t, cs, d, ps, hp, hl, h => by
  simp only [kG] at hp
  simp only [Mi] at hl
  simp only [TyR]
  cases hu : P.underlying t with
  | none => simp [hu] at hp
  | some td =>
   cases td with
   | bool => obtain ⟨b, rfl⟩ := trod_bool hu h; exact ⟨_, .cons (.bool b) .nil, b, rfl⟩
   | int k => obtain ⟨m, rfl, h1, h2⟩ := trod_int hu h; exact ⟨_, .cons (.int k m) .nil, m, rfl, h1, h2⟩
   | string => obtain ⟨s, rfl, h1⟩ := E7 hu h; exact ⟨_, .cons (.str s) .nil, s, rfl, h1⟩
   | slice e =>
    simp only [hu] at hp hl
    simp only [Bool.and_eq_true] at hl
    rcases trod_slice hu h with rfl | ⟨a, len, cap, rfl, h1, h2, h3⟩
    ·exact ⟨_, .cons (.nil (P.cellsOf e)) .nil, [], rfl, by simp, by simp⟩
    ·obtain ⟨rows, hr, hrl, hrt⟩ := GV (P := P) (n := n) (size := P.cellsOf e) (e := e) h1 h2 (fun i hi => by
      obtain ⟨xs, f, x, hx, ht⟩ := h3 i hi
      obtain ⟨row, hal, hty⟩ := Vw n hp hl.2 (d := x.1) (ps := x.2) ht
      exact ⟨xs, row, hx, hal, hty⟩)
     exact ⟨_, .cons hr .nil, rows, rfl, hrl, hrt⟩
   | struct fs =>
    simp only [hu] at hp hl
    simp only [Bool.and_eq_true] at hp hl
    obtain ⟨h1, h2⟩ := trod_struct hu h
    obtain ⟨row, hal, hrest⟩ := kx (w := w) (P := P) (q := n) h1 hl.2 (Nat.zero_le _) (fun f hf => by
     obtain ⟨q, x, hx⟩ := h2 f hf
     exact Vw n (List.all_eq_true.1 hp.1 f hf) (List.all_eq_true.1 hl.1 f hf) (d := x.1) (ps := x.2) hx)
    refine ⟨row, by simpa using hal, ?_, fun f hf => by simpa using hrest [] rfl f hf⟩
    have := hal.length
    simp at this
    omega
   | _ => simp [hu] at hp
end Go.Vm
namespace Go.Vm
open Go.RowKit Go.WideShapes Go.ChangeAt Go.ChangeShapes
theorem NW {H : Type} {enc : TypeId × Value → H} {P : Program} {w : World} {sp : Nat → Bool} {held : Bool} {n base : Nat} {t : TypeId} {v : Value} {d : DataW H} {ps : List MemPlace} {r : Reach}
  (hp : kG P n t = true) (hl : Mi P n t = true) (hok : Value.okWide P w r base t v) (h : DataW.Trod enc P w 0 sp held t v d ps) : ∃ row, Reads w v row ∧ TyR P n t row := by
 obtain ⟨fuel, hf⟩ := h
 obtain ⟨row, hal, hty⟩ := Vw n hp hl hf
 refine ⟨row, ⟨v.cells.toList, ?_, hal⟩, hty⟩
 cases n with
 | zero => simp [kG] at hp
 | succ n =>
  simp only [kG] at hp
  cases hu : P.underlying t with
  | none => simp [hu] at hp
  | some td =>
   cases td with
   | bool => obtain ⟨b, rfl⟩ := okWide_bool hu hok; exact .inl ⟨_, rfl, rfl, rfl⟩
   | int k => obtain ⟨b, rfl⟩ := okWide_int hu hok; exact .inl ⟨_, rfl, rfl, rfl⟩
   | string => obtain ⟨b, rfl⟩ := okWide_string hu hok; exact .inl ⟨_, rfl, rfl, rfl⟩
   | slice e => obtain ⟨a, l, c, rfl⟩ := okWide_slice hu hok; exact .inl ⟨_, rfl, rfl, rfl⟩
   | struct fs =>
    obtain ⟨cs, rfl, hsz⟩ := okWide_struct hu hok
    simp [hu] at hp
    exact .inr ⟨by simp [Value.cells, hsz, hp.2], by simp [Value.cells]⟩
   | _ => simp [hu] at hp
def M1 (P : Program) (n : Nat) : List TypeId → List (List D) → Prop
 | [], [] => True
 | t :: ts, r :: rs => TyR P n t r ∧ M1 P n ts rs
 | _, _ => False
def qX (P : Program) (n : Nat) (ts : List TypeId) : Bool := ts.all fun t => kG P n t && Mi P n t && P.readableRec t && decide (t < P.types.size)
theorem MW {H : Type} {enc : TypeId × Value → H} {P : Program} {w : World} {sp : Nat → Bool} {held : Bool} {n base : Nat} {r : Reach} : ∀ {ts : List TypeId} {vs : List Value} {ds : List (DataW H)} {ps : List MemPlace}, qX P n ts = true →
  (∀ (j : Nat) t v, ts[j]? = some t → vs[j]? = some v → Value.okWide P w r base t v) → DataW.TrodAll enc P w 0 sp held ts vs ds ps → ∃ rows, Zp (Reads w) vs rows ∧ M1 P n ts rows
 | [], [], [], _, _, _, _ => ⟨[], .nil, trivial⟩
 | t :: ts, v :: vs, d :: ds, _, hp, hok, h => by
  obtain ⟨p, q, h1, h2, _⟩ := h
  simp only [qX, List.all_cons, Bool.and_eq_true] at hp
  obtain ⟨row, hr, ht⟩ := NW hp.1.1.1.1 hp.1.1.1.2 (hok 0 t v rfl rfl) h1
  obtain ⟨rows, hrs, hts⟩ := MW (by simpa [qX] using hp.2) (fun j t v ht hv => hok (j + 1) t v ht hv) h2
  exact ⟨row :: rows, .cons hr hrs, ht, hts⟩
 | [], [], _ :: _, _, _, _, h => h.elim
 | [], _ :: _, _, _, _, _, h => by cases ‹List (DataW H)› <;> exact h.elim
 | _ :: _, [], _, _, _, _, h => by cases ‹List (DataW H)› <;> exact h.elim
 | _ :: _, _ :: _, [], _, _, _, h => h.elim
theorem Vi {H : Type} {enc : TypeId × Value → H} {P : Program} {n : Nat} (hlo : laidOutB P = true) {W W' : World} (hb : Below W.heap.size W W') : ∀ {ts : List TypeId} {vs : List Value} {ds : List (DataW H)} {ps : List MemPlace}, qX P n ts = true →
  DataW.TrodAll enc P W 0 (fun _ => true) true ts vs ds ps → DataW.TrodAll enc P W' 0 (fun b => decide (b < W.heap.size)) true ts vs ds ps
 | [], [], [], _, _, h => h
 | t :: ts, v :: vs, d :: ds, _, hp, h => by
  obtain ⟨p, q, h1, h2, rfl⟩ := h
  simp only [qX, List.all_cons, Bool.and_eq_true, decide_eq_true_eq] at hp
  have lt0 : ∀ x ∈ p, x.block < W.heap.size := by obtain ⟨m, hm⟩ := h1; exact DataW.trod_lt m _ _ _ hm
  exact ⟨p, q, Below.trod hlo hp.1.1.2 hp.1.2 h1 hb lt0, Vi hlo hb (by simpa [qX] using hp.2) h2, rfl⟩
 | [], [], _ :: _, _, _, h => h.elim
 | [], _ :: _, _, _, _, h => by cases ‹List (DataW H)› <;> exact h.elim
 | _ :: _, [], _, _, _, h => by cases ‹List (DataW H)› <;> exact h.elim
 | _ :: _, _ :: _, [], _, _, h => h.elim
end Go.Vm
