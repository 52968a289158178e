/- An abstract machine over the model of Go, by value, and that it is sound: part Vc. No condition. -/
import Derived.Test.YtoeokngpoibldaaVb
namespace Go.Vm
open Go.RowKit

/-- new names of objects, each with its old name, or none: born from nil; unnamed ones keep their name -/
abbrev Ren := List ((Nat × Nat) × Option (Nat × Nat))
def renOf : Ren → Nat → Nat → Option (Nat × Nat)
  | [], t, j => some (t, j)
  | (n, o) :: ρ, t, j => if t = n.1 ∧ j = n.2 then o else renOf ρ t j
def inF : List (Nat × Nat) → Nat → Nat → Bool
  | [], _, _ => false
  | n :: F, t, j => (t == n.1 && j == n.2) || inF F t j

def wkAt (σ : St) (ρ : Ren) (F : List (Nat × Nat)) : At → At → Prop
  | _, .any => True
  | .d x, .d y => x = y
  | .nil _, .nil _ => True
  | .nil s, .d y => y = .sl s []
  | .nil _, .sref t j lo len => renOf ρ t j = none ∧ lo = 0 ∧ len = 0
  | .sref t j lo len, .sref t' j' lo' len' => renOf ρ t' j' = some (t, j) ∧ lo = lo' ∧ len = len'
  | .sref t j lo len, .d y => inF F t j = true ∧ (match σ.ob t j with | .arr s rows => y = .sl s (cut rows lo len) | _ => False)
  | .ptr t j i c, .ptr t' j' i' c' => renOf ρ t' j' = some (t, j) ∧ i = i' ∧ c = c'
  | .bptr t c, .bptr t' c' => renOf ρ t' 0 = some (t, 0) ∧ c = c'
  | .rptr r c, .rptr r' c' => r = r' ∧ c = c'
  | _, _ => False
def wkAts (σ : St) (ρ : Ren) (F : List (Nat × Nat)) : List At → List At → Prop
  | [], [] => True
  | x :: xs, y :: ys => wkAt σ ρ F x y ∧ wkAts σ ρ F xs ys
  | _, _ => False
def wkV (σ : St) (ρ : Ren) (F : List (Nat × Nat)) : V → V → Prop
  | _, .any => True
  | .one x, .one y => wkAt σ ρ F x y
  | .agg xs, .agg ys => wkAts σ ρ F xs ys
  | _, _ => False
def wkOb (σ : St) (ρ : Ren) (F : List (Nat × Nat)) (t' j' : Nat) : Ob → Prop
  | .none => True
  | .arr size rows => (match renOf ρ t' j' with
     | none => rows = []
     | some (t, j) => inF F t j = false ∧ (match σ.ob t j with | .arr s r => s = size ∧ r = rows | _ => False))
  | .box cells => (match renOf ρ t' j' with
     | none => False
     | some (t, j) => inF F t j = false ∧ (match σ.ob t j with | .box cs => wkAts σ ρ F cs cells | _ => False))
def wkObs (σ : St) (ρ : Ren) (F : List (Nat × Nat)) (t : Nat) : List Ob → Nat → Prop
  | [], _ => True
  | o :: os, j => wkOb σ ρ F t j o ∧ wkObs σ ρ F t os (j + 1)
def wkEnts (σ : St) (ρ : Ren) (F : List (Nat × Nat)) : List Ent → List Ent → Nat → Prop
  | [], [], _ => True
  | e :: es, e' :: es', t => (wkV σ ρ F e.1 e'.1 ∧ wkObs σ ρ F t e'.2 0) ∧ wkEnts σ ρ F es es' (t + 1)
  | _, _, _ => False
/-- the explicit entries: no old name twice; an old name is itself renamed, or free in the new state -/
def renNew : Ren → Nat → Nat → Bool
  | [], _, _ => false
  | (n, _) :: ρ, t, j => (t == n.1 && j == n.2) || renNew ρ t j
def renOld : Ren → Nat → Nat → Bool
  | [], _, _ => false
  | (_, some o) :: ρ, t, j => (t == o.1 && j == o.2) || renOld ρ t j
  | (_, none) :: ρ, t, j => renOld ρ t j
def obFree (σ' : St) (t j : Nat) : Bool := match σ'.ob t j with | .none => true | _ => false
def renOk (σ' : St) (all : Ren) : Ren → Bool
  | [] => true
  | (_, some o) :: ρ => !renOld ρ o.1 o.2 && (renNew all o.1 o.2 || obFree σ' o.1 o.2) && renOk σ' all ρ
  | (_, none) :: ρ => renOk σ' all ρ

theorem renOf_notNew : ∀ {ρ : Ren} {t j : Nat}, renNew ρ t j = false → renOf ρ t j = some (t, j)
  | [], _, _, _ => rfl
  | (n, o) :: ρ, t, j, h => by
    simp only [renNew, Bool.or_eq_false_iff, Bool.and_eq_false_iff, beq_eq_false_iff_ne] at h
    simp only [renOf]
    rw [if_neg (by rintro ⟨h1, h2⟩; rcases h.1 with h3 | h3 <;> contradiction)]
    exact renOf_notNew h.2
theorem renOf_new : ∀ {ρ : Ren} {t j : Nat} {o : Nat × Nat}, renNew ρ t j = true → renOf ρ t j = some o → renOld ρ o.1 o.2 = true
  | [], _, _, _, h, _ => by simp [renNew] at h
  | (n, o') :: ρ, t, j, o, h, ho => by
    simp only [renOf] at ho
    split at ho
    · subst ho; simp [renOld]
    · rename_i hne
      have h' : renNew ρ t j = true := by
        simp only [renNew, Bool.or_eq_true, Bool.and_eq_true, beq_iff_eq] at h
        rcases h with h | h
        · exact absurd h hne
        · exact h
      have := renOf_new h' ho
      cases o' with
      | none => simpa [renOld] using this
      | some o' => simp [renOld, this]

theorem renOk_inj {σ' : St} {all : Ren} : ∀ {ρ : Ren} {t j t' j' : Nat} {o : Nat × Nat}, renOk σ' all ρ = true → renNew ρ t j = true → renNew ρ t' j' = true → renOf ρ t j = some o → renOf ρ t' j' = some o → (t, j) = (t', j')
  | [], _, _, _, _, _, _, h, _, _, _ => by simp [renNew] at h
  | (n, o') :: ρ, t, j, t', j', o, hok, hn, hn', ho, ho' => by
    have hokr : renOk σ' all ρ = true := by
      cases o' with
      | none => simpa [renOk] using hok
      | some o' => simp only [renOk, Bool.and_eq_true] at hok; exact hok.2
    simp only [renOf] at ho ho'
    by_cases h1 : t = n.1 ∧ j = n.2
    · rw [if_pos h1] at ho
      by_cases h2 : t' = n.1 ∧ j' = n.2
      · rw [h1.1, h1.2, h2.1, h2.2]
      · rw [if_neg h2] at ho'
        have h' : renNew ρ t' j' = true := by
          simp only [renNew, Bool.or_eq_true, Bool.and_eq_true, beq_iff_eq] at hn'
          exact hn'.resolve_left h2
        have hold := renOf_new h' ho'
        subst ho
        simp only [renOk, Bool.and_eq_true, Bool.not_eq_true'] at hok
        rw [hold] at hok; cases hok.1.1
    · rw [if_neg h1] at ho
      have h : renNew ρ t j = true := by
        simp only [renNew, Bool.or_eq_true, Bool.and_eq_true, beq_iff_eq] at hn
        exact hn.resolve_left h1
      by_cases h2 : t' = n.1 ∧ j' = n.2
      · rw [if_pos h2] at ho'
        have hold := renOf_new h ho
        subst ho'
        simp only [renOk, Bool.and_eq_true, Bool.not_eq_true'] at hok
        rw [hold] at hok; cases hok.1.1
      · rw [if_neg h2] at ho'
        have h' : renNew ρ t' j' = true := by
          simp only [renNew, Bool.or_eq_true, Bool.and_eq_true, beq_iff_eq] at hn'
          exact hn'.resolve_left h2
        exact renOk_inj hokr h h' ho ho'
theorem renOk_free {σ' : St} {all : Ren} : ∀ {ρ : Ren} {t j : Nat}, renOk σ' all ρ = true → renOld ρ t j = true → renNew all t j = true ∨ σ'.ob t j = .none
  | [], _, _, _, h => by simp [renOld] at h
  | (n, o') :: ρ, t, j, hok, h => by
    cases o' with
    | none => exact renOk_free (ρ := ρ) (by simpa [renOk] using hok) (by simpa [renOld] using h)
    | some o =>
      simp only [renOk, Bool.and_eq_true, Bool.or_eq_true] at hok
      simp only [renOld, Bool.or_eq_true, Bool.and_eq_true, beq_iff_eq] at h
      rcases h with ⟨rfl, rfl⟩ | h
      · refine hok.1.2.imp id fun hf => ?_
        unfold obFree at hf; split at hf <;> first | assumption | cases hf
      · exact renOk_free hok.2 h

theorem ren_inj {σ' : St} {ρ : Ren} (hok : renOk σ' ρ ρ = true) {t j t' j' : Nat} {o : Nat × Nat} (h1 : σ'.ob t j ≠ .none) (h2 : σ'.ob t' j' ≠ .none) (ho : renOf ρ t j = some o) (ho' : renOf ρ t' j' = some o) : t = t' ∧ j = j' := by
  cases hn : renNew ρ t j with
  | true =>
    cases hn' : renNew ρ t' j' with
    | true => have := renOk_inj hok hn hn' ho ho'; cases this; exact ⟨rfl, rfl⟩
    | false =>
      have hid := renOf_notNew hn'
      rw [hid] at ho'; cases ho'
      have hold := renOf_new hn ho
      rcases renOk_free hok hold with h | h
      · rw [hn'] at h; cases h
      · exact absurd h h2
  | false =>
    have hid := renOf_notNew hn
    rw [hid] at ho; cases ho
    cases hn' : renNew ρ t' j' with
    | true =>
      have hold := renOf_new hn' ho'
      rcases renOk_free hok hold with h | h
      · rw [hn] at h; cases h
      · exact absurd h h1
    | false =>
      have hid' := renOf_notNew hn'
      rw [hid'] at ho'; cases ho'; exact ⟨rfl, rfl⟩

theorem wkEnts_length {σ : St} {ρ : Ren} {F : List (Nat × Nat)} : ∀ {es es' : List Ent} {t : Nat}, wkEnts σ ρ F es es' t → es.length = es'.length
  | [], [], _, _ => rfl
  | _ :: _, _ :: _, _, h => by simp [wkEnts_length h.2]
  | [], _ :: _, _, h => h.elim
  | _ :: _, [], _, h => h.elim
theorem wkEnts_get {σ : St} {ρ : Ren} {F : List (Nat × Nat)} : ∀ {es es' : List Ent} {t : Nat}, wkEnts σ ρ F es es' t → ∀ (i : Nat), wkV σ ρ F (St.get es i) (St.get es' i) ∧ ∀ j, wkOb σ ρ F (t + i) j (St.ob es' i j)
  | [], [], t, _, i => ⟨by simp [St.get, wkV], fun j => by simp [St.ob, wkOb]⟩
  | e :: es, e' :: es', t, h, 0 => by
    refine ⟨h.1.1, fun j => ?_⟩
    have : ∀ (os : List Ob) (k : Nat), wkObs σ ρ F t os k → ∀ j, wkOb σ ρ F t (k + j) (obIn os j) := by
      intro os
      induction os with
      | nil => intro k _ j; simp [obIn, wkOb]
      | cons o os ih =>
        intro k hk j
        cases j with
        | zero => exact hk.1
        | succ j => have := ih (k + 1) hk.2 j; rw [show k + (j + 1) = k + 1 + j by omega]; simpa [obIn] using this
    have := this e'.2 0 h.1.2 j
    simpa using this
  | e :: es, e' :: es', t, h, i + 1 => by
    have := wkEnts_get h.2 i
    rw [show t + (i + 1) = t + 1 + i by omega]
    simpa [St.get, St.ob] using this
  | [], _ :: _, _, h, _ => h.elim
  | _ :: _, [], _, h, _ => h.elim

/-- WEAKENING: by forgetting, renaming and freezing -/
theorem wk_of {σ σ' : St} (ρ : Ren) (F : List (Nat × Nat)) (hok : renOk σ' ρ ρ = true) (hs : wkEnts σ ρ F σ σ' 0) : Wk σ σ' := by
  rintro T0 B a w ⟨X, h, r⟩
  let h' : Nat → Nat → Value := fun t j => match renOf ρ t j with | some o => h o.1 o.2 | none => .slice none 0 0
  let X' : Nat → Prop := fun b => X b ∨ ∃ t j, inF F t j = true ∧ σ.ob t j ≠ .none ∧ blk (h t j) = some b
  have hlen := wkEnts_length hs
  have hget := wkEnts_get hs
  have hob : ∀ t j, wkOb σ ρ F t j (σ'.ob t j) := fun t j => by have := (hget t).2 j; simpa using this
  have hTT : ∀ b k v, Tof T0 X b k → w.cell? ⟨b, k, none⟩ = some v → w.cell? ⟨b, k, none⟩ = some v ∧ Tof T0 X' b k := fun b k v hb hc => ⟨hc, hb.imp id .inl⟩
  have at_ : ∀ {x y : At} {v : Value}, wkAt σ ρ F x y → AtRel (Tof T0 X) h σ.ob w x v → AtRel (Tof T0 X') h' σ'.ob w y v := by
    intro x y v hw hr
    have h1 := AtRel.oneCell hr
    have obarr : ∀ t' j' size rows, σ'.ob t' j' = .arr size rows → (renOf ρ t' j' = none ∧ rows = []) ∨ ∃ t j, renOf ρ t' j' = some (t, j) ∧ σ.ob t j = .arr size rows := by
      intro t' j' size rows ho
      have := hob t' j'
      rw [ho] at this
      simp only [wkOb] at this
      split at this
      · rename_i hn; exact .inl ⟨hn, this⟩
      · rename_i t j hn
        obtain ⟨_, this⟩ := this
        split at this
        · rename_i s r hor; obtain ⟨rfl, rfl⟩ := this; exact .inr ⟨t, j, hn, hor⟩
        · exact this.elim
    have obbox : ∀ t' j' cells, σ'.ob t' j' = .box cells → ∃ t j cs, renOf ρ t' j' = some (t, j) ∧ σ.ob t j = .box cs := by
      intro t' j' cells ho
      have := hob t' j'
      rw [ho] at this
      simp only [wkOb] at this
      split at this
      · exact this.elim
      · rename_i t j hn
        obtain ⟨_, this⟩ := this
        split at this
        · rename_i cs hor; exact ⟨t, j, cs, hn, hor⟩
        · exact this.elim
    cases y with
    | any => exact h1
    | d y =>
      cases x with
      | d x => simp only [wkAt] at hw; subst hw; exact Rd.mono hTT hr
      | nil s => simp only [wkAt] at hw; subst hw; cases hr; exact .nil _
      | sref t j lo len =>
        simp only [wkAt] at hw
        obtain ⟨hF, hw⟩ := hw
        split at hw
        · rename_i s rows ho
          subst hw
          exact r.sref_rd ho hr _ (fun b k hb => hb.imp id .inl) (fun b k hb _ => .inr (.inr ⟨t, j, hF, by rw [ho]; simp, hb⟩))
        · exact hw.elim
      | any => exact hw.elim
      | ptr => exact hw.elim
      | bptr => exact hw.elim
      | rptr => exact hw.elim
    | nil s =>
      cases x with
      | nil s' => exact hr
      | d x => exact hw.elim
      | sref => exact hw.elim
      | any => exact hw.elim
      | ptr => exact hw.elim
      | bptr => exact hw.elim
      | rptr => exact hw.elim
    | sref t' j' lo' len' =>
      cases x with
      | nil s =>
        obtain ⟨hn, rfl, rfl⟩ := hw
        cases hr
        refine ⟨rfl, fun size rows ho => ?_⟩
        simp only [h', hn]
        exact ⟨by omega, fun _ _ => rfl, none, 0, rfl, by omega, by simp [maxLen], fun _ => rfl, fun hh => absurd hh (by omega)⟩
      | sref t j lo len =>
        obtain ⟨hn, rfl, rfl⟩ := hw
        refine ⟨h1, fun size rows ho => ?_⟩
        rcases obarr t' j' size rows ho with ⟨hn', _⟩ | ⟨t2, j2, hn', hor⟩
        · rw [hn] at hn'; cases hn'
        · rw [hn] at hn'; cases hn'
          simp only [h', hn]
          exact hr.2 size rows hor
      | d x => exact hw.elim
      | any => exact hw.elim
      | ptr => exact hw.elim
      | bptr => exact hw.elim
      | rptr => exact hw.elim
    | ptr t' j' i' c' =>
      cases x with
      | ptr t j i c =>
        obtain ⟨hn, rfl, rfl⟩ := hw
        refine ⟨h1, fun size rows ho => ?_⟩
        rcases obarr t' j' size rows ho with ⟨hn', _⟩ | ⟨t2, j2, hn', hor⟩
        · rw [hn] at hn'; cases hn'
        · rw [hn] at hn'; cases hn'
          simp only [h', hn]
          exact hr.2 size rows hor
      | d x => exact hw.elim
      | nil x => exact hw.elim
      | any => exact hw.elim
      | sref => exact hw.elim
      | bptr => exact hw.elim
      | rptr => exact hw.elim
    | bptr t' c' =>
      cases x with
      | bptr t c =>
        obtain ⟨hn, rfl⟩ := hw
        refine ⟨h1, fun cells ho => ?_⟩
        obtain ⟨t2, j2, cs, hn', hor⟩ := obbox t' 0 cells ho
        rw [hn] at hn'; cases hn'
        simp only [h', hn]
        exact hr.2 cs hor
      | d x => exact hw.elim
      | nil x => exact hw.elim
      | any => exact hw.elim
      | sref => exact hw.elim
      | ptr => exact hw.elim
      | rptr => exact hw.elim
    | rptr r' c' =>
      cases x with
      | rptr r0 c =>
        obtain ⟨rfl, rfl⟩ := hw
        obtain ⟨b, off, g, e, hk⟩ := hr
        exact ⟨b, off, g, e, fun k d hd => ⟨(hk k d hd).1, (hk k d hd).2.1.imp id .inl, Rd.mono hTT (hk k d hd).2.2⟩⟩
      | d x => exact hw.elim
      | nil x => exact hw.elim
      | any => exact hw.elim
      | sref => exact hw.elim
      | ptr => exact hw.elim
      | bptr => exact hw.elim
  have ats_ : ∀ {xs ys : List At} {vs : List Value}, wkAts σ ρ F xs ys → All2 (AtRel (Tof T0 X) h σ.ob w) xs vs → All2 (AtRel (Tof T0 X') h' σ'.ob w) ys vs := by
    intro xs
    induction xs with
    | nil => intro ys vs hw hr; cases ys with
      | nil => cases hr; exact .nil
      | cons y ys => exact hw.elim
    | cons x xs ih => intro ys vs hw hr; cases ys with
      | nil => exact hw.elim
      | cons y ys => cases hr with
        | cons h1 hr => exact .cons (at_ hw.1 h1) (ih hw.2 hr)
  have v_ : ∀ {x y : V} {v : Value}, wkV σ ρ F x y → VRel (Tof T0 X) h σ.ob w x v → VRel (Tof T0 X') h' σ'.ob w y v := by
    intro x y v hw hr
    cases y with
    | any => trivial
    | one y => cases x with
      | one x => exact at_ hw hr
      | any => exact hw.elim
      | agg => exact hw.elim
      | tup => exact hw.elim
      | cnd => exact hw.elim
    | agg ys => cases x with
      | agg xs => obtain ⟨cs, e, hr⟩ := hr; exact ⟨cs, e, ats_ hw hr⟩
      | any => exact hw.elim
      | one => exact hw.elim
      | tup => exact hw.elim
      | cnd => exact hw.elim
    | tup ys => cases x <;> exact hw.elim
    | cnd g y => cases x <;> exact hw.elim
  have hne : ∀ t j b, σ'.ob t j ≠ .none → blk (h' t j) = some b → ∃ o, renOf ρ t j = some o ∧ σ.ob o.1 o.2 ≠ .none ∧ inF F o.1 o.2 = false ∧ blk (h o.1 o.2) = some b := by
    intro t j b hn hb
    have := hob t j
    cases hr : renOf ρ t j with
    | none => simp only [h', hr] at hb; cases hb
    | some o =>
      refine ⟨o, rfl, ?_⟩
      simp only [h', hr] at hb
      cases ho : σ'.ob t j with
      | none => exact absurd ho hn
      | arr size rows =>
        rw [ho] at this
        simp only [wkOb, hr] at this
        refine ⟨?_, this.1, hb⟩
        have := this.2
        intro hx; rw [hx] at this; exact this.elim
      | box cells =>
        rw [ho] at this
        simp only [wkOb, hr] at this
        refine ⟨?_, this.1, hb⟩
        have := this.2
        intro hx; rw [hx] at this; exact this.elim
  refine ⟨X', h', by rw [r.size, hlen], r.defers, r.hB, fun b hb => ?_, r.hT, fun t ht => ?_, fun t j => ?_, fun t j b hn hb => ?_, fun t j t' j' b hn hn' hb hb' => ?_⟩
  · rcases hb with hb | ⟨t, j, _, hn, hb⟩
    · exact r.hX b hb
    · have := r.own t j b hn hb; exact ⟨this.1, this.2.2⟩
  · exact v_ (hget t).1 (r.slot t (by rw [hlen]; exact ht))
  · have := hob t j
    cases ho : σ'.ob t j with
    | none => trivial
    | arr size rows =>
      rw [ho] at this
      simp only [wkOb] at this
      split at this
      · rename_i hn
        subst this
        have : h' t j = .slice none 0 0 := by simp only [h', hn]
        rw [this]
        exact ⟨0, [], World.ownsRow_nil w 0 0 size, (by intro q hq; cases hq), .nil⟩
      · rename_i u k hn
        obtain ⟨_, this⟩ := this
        split at this
        · rename_i s rr hor
          obtain ⟨rfl, rfl⟩ := this
          have h0 := r.obj u k
          rw [hor] at h0
          obtain ⟨e, xs, hown, hz, hal⟩ := h0
          have : h' t j = h u k := by simp only [h', hn]
          rw [this]
          exact ⟨e, xs, hown, hz, hal.imp fun _ _ => Rd.mono hTT⟩
        · exact this.elim
    | box cells =>
      rw [ho] at this
      simp only [wkOb] at this
      split at this
      · exact this.elim
      · rename_i u k hn
        obtain ⟨_, this⟩ := this
        split at this
        · rename_i cs hor
          have h0 := r.obj u k
          rw [hor] at h0
          obtain ⟨b, vs, e, hv, hh, hal⟩ := h0
          have he : h' t j = h u k := by simp only [h', hn]
          rw [he]
          exact ⟨b, vs, e, hv, hh, ats_ this hal⟩
        · exact this.elim
  · obtain ⟨o, _, hno, hF, hbo⟩ := hne t j b hn hb
    have h0 := r.own o.1 o.2 b hno hbo
    refine ⟨h0.1, ?_, h0.2.2⟩
    rintro (hx | ⟨t2, j2, hF2, hn2, hb2⟩)
    · exact h0.2.1 hx
    · obtain ⟨h3, h4⟩ := r.inj o.1 o.2 t2 j2 b hno hn2 hbo hb2
      rw [h3, h4] at hF; rw [hF] at hF2; cases hF2
  · obtain ⟨o, hr, hno, _, hbo⟩ := hne t j b hn hb
    obtain ⟨o', hr', hno', _, hbo'⟩ := hne t' j' b hn' hb'
    obtain ⟨h3, h4⟩ := r.inj o.1 o.2 o'.1 o'.2 b hno hno' hbo hbo'
    have : o = o' := Prod.ext h3 h4
    subst this
    exact ren_inj hok hn hn' hr hr'

theorem wk_keep {σ σ' : St} (hs : wkEnts σ [] [] σ σ' 0) : Wk σ σ' := wk_of [] [] rfl hs
attribute [simp] renOf inF wkAt wkAts wkV wkOb wkObs wkEnts renNew renOld obFree renOk
end Go.Vm
namespace Go.Vm
open Go.RowKit

/-- simp works on the state alone, not on the code that is still to come -/
theorem AWP_congr {P : Program} {c : Code} {Q : Exit → St → Prop} {σ σ' : St} (h : σ = σ') : AWP P c Q σ = AWP P c Q σ' := by rw [h]
theorem thenA_congr {n : St → Prop} {Q : Exit → St → Prop} {e : Exit} {σ σ' : St} (h : σ = σ') : thenA n Q e σ = thenA n Q e σ' := by rw [h]
theorem inBlockA_congr {i : Nat} {Q : Exit → St → Prop} {e : Exit} {σ σ' : St} (h : σ = σ') : inBlockA i Q e σ = inBlockA i Q e σ' := by rw [h]
theorem RetR_congr {P : Program} {fn : Func} {own : Bool} {res : List (List D)} {e : Exit} {σ σ' : St} (h : σ = σ') : RetR P fn own res e σ = RetR P fn own res e σ' := by rw [h]
theorem Ev_congr {P : Program} {ops : Array Oper} {l : List Oper} {σ σ' : St} {Q : St → Prop} (h : σ = σ') : Ev P ops l σ Q = Ev P ops l σ' Q := by rw [h]
theorem StopK_congr {P : Program} {ops : Array Oper} {o : Oper} {l : List Oper} {σ σ' : St} {Q : St → Prop} (h : σ = σ') : StopK P ops o l σ Q = StopK P ops o l σ' Q := by rw [h]

def evArgs (P : Program) (σ : St) : List Operand → List TypeId → Prop × Option (List (List D))
  | [], _ => (True, some [])
  | x :: xs, t :: ts => (gOf (look P σ t x) = true ∧ (evArgs P σ xs ts).1, match (unc (look P σ t x)).flatRow σ, (evArgs P σ xs ts).2 with | some r, some rs => some (r :: rs) | _, _ => none)
  | _ :: _, [] => (False, none)
theorem evArgs_ok {P : Program} {σ : St} : ∀ {xs : List Operand} {ts : List TypeId} {rs : List (List D)}, (evArgs P σ xs ts).1 → (evArgs P σ xs ts).2 = some rs → argRows P σ xs ts rs
  | [], _, rs, _, h => by simp [evArgs] at h; exact h
  | x :: xs, t :: ts, rs, h1, h => by
    simp only [evArgs] at h
    split at h
    · rename_i r rs' hr hrs
      cases h
      exact ⟨h1.1, r, rs', hr, evArgs_ok h1.2 hrs, rfl⟩
    · cases h
  | _ :: _, [], _, h1, _ => h1.elim
attribute [simp] evArgs

theorem call_rd {P : Program} {ops : Array Oper} {o : Oper} {rest : List Oper} {σ : St} {Q : St → Prop} {c : Call} {f : FuncId} {d : Nat} {own : Bool} {rows res : List (List D)} (hop : o.op = .call c) (hc : c.callee = .value (.func f)) (hg : o.guard = none) (hd : o.dst = some d)
    (hs : SoundAt P f own rows res) (hrows : (evArgs P σ c.args.toList c.argTypes.toList).2 = some rows) (hargs : (evArgs P σ c.args.toList c.argTypes.toList).1) (hst : argsStable P σ c.args.toList c.argTypes.toList = true ∨ resFlat own res) (h : Ev P ops rest (σ.put d (resVd res)) Q) : StopK P ops o rest σ Q :=
  stop_callRd hop hc hg hd (evArgs_ok hargs hrows) hs hst h
theorem call_own {P : Program} {ops : Array Oper} {o : Oper} {rest : List Oper} {σ : St} {Q : St → Prop} {c : Call} {f : FuncId} {d : Nat} {rows res : List (List D)} (hop : o.op = .call c) (hc : c.callee = .value (.func f)) (hg : o.guard = none) (hd : o.dst = some d)
    (hs : SoundAt P f true rows res) (hrows : (evArgs P σ c.args.toList c.argTypes.toList).2 = some rows) (hargs : (evArgs P σ c.args.toList c.argTypes.toList).1) (hst : argsStable P σ c.args.toList c.argTypes.toList = true ∨ resFlat true res) (hf : σ.fresh d = true) (h : Ev P ops rest (σ.new d (resV d res) (resObs res.flatten)) Q) : StopK P ops o rest σ Q :=
  stop_callOwn hop hc hg hd (evArgs_ok hargs hrows) hs hst hf h
/-- a guarded call: g says whether it is made -/
theorem call_g {P : Program} {ops : Array Oper} {o : Oper} {rest : List Oper} {σ : St} {Q : St → Prop} {c : Call} {f : FuncId} {d j dj : Nat} {want g own : Bool} {rows : List (List D)} {res : List D} (hop : o.op = .call c) (hc : c.callee = .value (.func f)) (hg : o.guard = some (j, want)) (hd : o.dst = some d)
    (hdj : (ops[j]?).bind (·.dst) = some dj) (hgc : gCond want (σ.get dj) = some g) (hs : g = true → SoundAt P f own rows [res])
    (hrows : (evArgs P σ c.args.toList c.argTypes.toList).2 = some rows) (hlt : dj < σ.length)
    (hargs : g = true → (evArgs P σ c.args.toList c.argTypes.toList).1) (hst : argsStable P σ c.args.toList c.argTypes.toList = true ∨ resFlat own [res]) (h : Ev P ops rest (σ.put d (.cnd g (resVd [res]))) Q) : StopK P ops o rest σ Q :=
  stop_callG hop hc hg hd hdj hlt hgc (fun hh => evArgs_ok (hargs hh) hrows) hs hst h

/-- a state of n slots, from those that are told -/
def stOf : Nat → List (Nat × V × List Ob) → St
  | n, [] => List.replicate n (V.any, [])
  | n, (t, v, os) :: l => (stOf n l).new t v os
attribute [simp] stOf
end Go.Vm
namespace Go.Vm
open Go.RowKit

def CondK (P : Program) (b : Bool) (x y : Code) (Q : Exit → St → Prop) (σ : St) : Prop := (b = true → AWP P x Q σ) ∧ (b = false → AWP P y Q σ)
def LoopK (P : Program) (c : Code) (Q : Exit → St → Prop) (σ : St) : Prop := AWP P (.loop c) Q σ
def DrawK (P : Program) (id : Nat) (ops : Array Oper) (Q : Exit → St → Prop) (σ : St) : Prop := AWP P (.region id ops true) Q σ
def OtherK (P : Program) (c : Code) (Q : Exit → St → Prop) (σ : St) : Prop := AWP P c Q σ

/-- the walk of a code, as far as it goes by itself -/
def Wx (P : Program) : Code → (Exit → St → Prop) → St → Prop
  | .seq x y, Q, σ => Wx P x (thenA (Wx P y Q) Q) σ
  | .region _ ⟨l⟩ false, Q, σ => Ev P ⟨l⟩ l σ (Q .normal)
  | .region id ops true, Q, σ => DrawK P id ops Q σ
  | .cond c x y, Q, σ => (match look P σ 0 c with | .one (.d (.bool b)) => CondK P b x y Q σ | _ => False)
  | .block id c, Q, σ => Wx P c (inBlockA id Q) σ
  | .loop c, Q, σ => LoopK P c Q σ
  | .skip, Q, σ => Q .normal σ
  | .exit id, Q, σ => Q (.exit id) σ
  | .ret, Q, σ => Q .ret σ
  | .rangeFunc f ps x y, Q, σ => OtherK P (.rangeFunc f ps x y) Q σ
  | .scope c, Q, σ => OtherK P (.scope c) Q σ
  | .label l, Q, σ => OtherK P (.label l) Q σ
  | .goto l, Q, σ => OtherK P (.goto l) Q σ
  | .refuse s, Q, σ => OtherK P (.refuse s) Q σ

theorem wx_awp {P : Program} : ∀ {c : Code} {Q : Exit → St → Prop} {σ : St}, Wx P c Q σ → AWP P c Q σ
  | .seq x y, Q, σ, h => by
    rw [Wx] at h
    refine awp_seq (awp_mono (fun e σ' hq => ?_) (wx_awp h))
    cases e <;> simp only [thenA] at hq ⊢ <;> first | exact wx_awp hq | exact hq
  | .region _ ⟨l⟩ false, Q, σ, h => awp_ev h
  | .region id ops true, Q, σ, h => h
  | .cond c x y, Q, σ, h => by
    rw [Wx] at h
    split at h
    · rename_i b hb; exact awp_cond hb h.1 h.2
    · exact h.elim
  | .block id c, Q, σ, h => awp_block (wx_awp (by rw [Wx] at h; exact h))
  | .loop c, Q, σ, h => h
  | .skip, Q, σ, h => awp_skip h
  | .exit id, Q, σ, h => awp_exit h
  | .ret, Q, σ, h => awp_ret h
  | .rangeFunc _ _ _ _, Q, σ, h => h
  | .scope _, Q, σ, h => h
  | .label _, Q, σ, h => h
  | .goto _, Q, σ, h => h
  | .refuse _, Q, σ, h => h


/-- what simp does not look into stands in brackets: the code that is still to come -/
class CodeI where
  c : Code
class AllI where
  ops : Array Oper
class OpsI where
  l : List Oper
class OpI where
  o : Oper
class inductive Fr where
  | fin (Q : Exit → St → Prop)
  | sq (y : Code) (k : Fr)
  | blk (id : Nat) (k : Fr)
  | nxt (n : St → Prop) (k : Fr)
def Fr.run (P : Program) : Fr → Exit → St → Prop
  | .fin Q, e, σ => Q e σ
  | .sq y k, e, σ => thenA (Wx P y (Fr.run P k)) (Fr.run P k) e σ
  | .blk id k, e, σ => inBlockA id (Fr.run P k) e σ
  | .nxt n k, e, σ => thenA n (Fr.run P k) e σ

def WI (P : Program) (σ : St) [c : CodeI] [k : Fr] : Prop := Wx P c.c (k.run P) σ
def LI (P : Program) (e : Exit) (σ : St) [k : Fr] : Prop := k.run P e σ
def EI (P : Program) (σ : St) [A : AllI] [l : OpsI] [k : Fr] : Prop := Ev P A.ops l.l σ (k.run P .normal)
/-- the stops -/
def SI (P : Program) (σ : St) [A : AllI] [o : OpI] [l : OpsI] [k : Fr] : Prop := StopK P A.ops o.o l.l σ (k.run P .normal)
def CI (P : Program) (b : Bool) (σ : St) [x : CodeI] [y : CodeI] [k : Fr] : Prop := CondK P b x.c y.c (k.run P) σ
def LoopI (P : Program) (σ : St) [c : CodeI] [k : Fr] : Prop := LoopK P c.c (k.run P) σ
def DI (P : Program) (id : Nat) (σ : St) [A : AllI] [k : Fr] : Prop := DrawK P id A.ops (k.run P) σ
def OI (P : Program) (σ : St) [c : CodeI] [k : Fr] : Prop := OtherK P c.c (k.run P) σ

section
variable {P : Program} {σ : St} {k : Fr}
theorem WI_seq {x y : Code} : @WI P σ ⟨.seq x y⟩ k = @WI P σ ⟨x⟩ (.sq y k) := by
  simp only [WI]
  rw [Wx]
  congr 1
theorem WI_region {id : Nat} {l : List Oper} : @WI P σ ⟨.region id ⟨l⟩ false⟩ k = @EI P σ ⟨⟨l⟩⟩ ⟨l⟩ k := by simp only [WI, EI, Wx]
theorem WI_draw {id : Nat} {ops : Array Oper} : @WI P σ ⟨.region id ops true⟩ k = @DI P id σ ⟨ops⟩ k := by simp only [WI, DI, Wx]
theorem WI_cond {c : Operand} {x y : Code} : @WI P σ ⟨.cond c x y⟩ k = (match look P σ 0 c with | .one (.d (.bool b)) => @CI P b σ ⟨x⟩ ⟨y⟩ k | _ => False) := by simp only [WI, CI, Wx]
theorem WI_block {id : Nat} {c : Code} : @WI P σ ⟨.block id c⟩ k = @WI P σ ⟨c⟩ (.blk id k) := by
  simp only [WI]
  rw [Wx]
  congr 1
theorem WI_loop {c : Code} : @WI P σ ⟨.loop c⟩ k = @LoopI P σ ⟨c⟩ k := by simp only [WI, LoopI, Wx]
theorem WI_skip : @WI P σ ⟨.skip⟩ k = @LI P .normal σ k := by simp only [WI, LI, Wx]
theorem WI_exit {id : Nat} : @WI P σ ⟨.exit id⟩ k = @LI P (.exit id) σ k := by simp only [WI, LI, Wx]
theorem WI_ret : @WI P σ ⟨.ret⟩ k = @LI P .ret σ k := by simp only [WI, LI, Wx]
theorem LI_fin {Q : Exit → St → Prop} {e : Exit} : @LI P e σ (.fin Q) = Q e σ := rfl
theorem LI_sq {y : Code} : @LI P .normal σ (.sq y k) = @WI P σ ⟨y⟩ k := rfl
theorem LI_sq_exit {y : Code} {id : Nat} : @LI P (.exit id) σ (.sq y k) = @LI P (.exit id) σ k := rfl
theorem LI_sq_ret {y : Code} : @LI P .ret σ (.sq y k) = @LI P .ret σ k := rfl
theorem LI_nxt {n : St → Prop} : @LI P .normal σ (.nxt n k) = n σ := rfl
theorem LI_nxt_exit {n : St → Prop} {id : Nat} : @LI P (.exit id) σ (.nxt n k) = @LI P (.exit id) σ k := rfl
theorem LI_nxt_ret {n : St → Prop} : @LI P .ret σ (.nxt n k) = @LI P .ret σ k := rfl
theorem LI_blk {id : Nat} : @LI P .normal σ (.blk id k) = @LI P .normal σ k := rfl
theorem LI_blk_ret {id : Nat} : @LI P .ret σ (.blk id k) = @LI P .ret σ k := rfl
theorem LI_blk_exit {id id' : Nat} : @LI P (.exit id') σ (.blk id k) = if id' = id then @LI P .normal σ k else @LI P (.exit id') σ k := rfl

theorem EI_nil {A : AllI} : @EI P σ A ⟨[]⟩ k = @LI P .normal σ k := by simp only [EI, LI, Ev]
theorem EI_cons {A : AllI} {o : Oper} {rest : List Oper} : @EI P σ A ⟨o :: rest⟩ k =
    (if stops P o then @SI P σ A ⟨o⟩ ⟨rest⟩ k else
    match o.guard with
    | none =>
      (match o.dst with
       | some d => (evS P σ o d).1 ∧ @EI P (evS P σ o d).2 A ⟨rest⟩ k
       | none => (match o.op with | .store T x y => (evSt P σ T x y).1 ∧ @EI P (evSt P σ T x y).2 A ⟨rest⟩ k | _ => False))
    | some (j, want) =>
      (match (A.ops[j]?).bind (·.dst), o.dst with
       | some dj, some d => (match gCond want (σ.get dj) with
         | some g => (dj < σ.length ∧ (g = true → (evV P σ o.op o.type).1 ∧ gOf (evV P σ o.op o.type).2 = true ∧ (unc (evV P σ o.op o.type).2).flat = true)) ∧ @EI P (σ.put d (.cnd g (unc (evV P σ o.op o.type).2))) A ⟨rest⟩ k
         | none => False)
       | _, _ => False)) := by
  simp only [EI, SI]
  rw [Ev]
  rfl
end

section
variable {P : Program} {σ : St} {k : Fr}
theorem condI {b : Bool} {x y : CodeI} (ht : b = true → @WI P σ x k) (hf : b = false → @WI P σ y k) : @CI P b σ x y k :=
  ⟨fun h => wx_awp (ht h), fun h => wx_awp (hf h)⟩
/-- a round's end: the next state of the family, and a lower measure -/
def Nxt {ι : Type} (S : ι → St) (μ : ι → Nat) (b : Nat) (σ : St) : Prop := ∃ i', μ i' < b ∧ Wk σ (S i')
theorem nxtI {ι : Type} {S : ι → St} {μ : ι → Nat} {b : Nat} (i : ι) (hm : μ i < b) (hw : Wk σ (S i)) : Nxt S μ b σ := ⟨i, hm, hw⟩
theorem loopI {c : CodeI} {ι : Type} (S : ι → St) (μ : ι → Nat) (i0 : ι) (h0 : Wk σ (S i0))
    (round : ∀ i, @WI P (S i) c (.nxt (Nxt S μ (μ i)) k)) : @LoopI P σ c k :=
  awp_loop S μ i0 h0 fun i => wx_awp (round i)
theorem sound_of {f : FuncId} {fn : Func} {c : Code} (hf : P.funcs[f]? = some fn) (hb : fn.body = some c) (hok : fnOk P f = true) {own : Bool} {args res : List (List D)}
    (hw : @WI P (initSt fn.ntmps args) ⟨c⟩ (.fin (RetR P fn own res))) : SoundAt P f own args res := sound_of_awp hf hb hok (wx_awp hw)
theorem callRd {A : AllI} {o : OpI} {l : OpsI} {c : Call} {f : FuncId} {d : Nat} {own : Bool} {rows res : List (List D)} (hop : o.o.op = .call c) (hc : c.callee = .value (.func f)) (hg : o.o.guard = none) (hd : o.o.dst = some d)
    (hs : SoundAt P f own rows res) (hrows : (evArgs P σ c.args.toList c.argTypes.toList).2 = some rows) (hargs : (evArgs P σ c.args.toList c.argTypes.toList).1) (hst : argsStable P σ c.args.toList c.argTypes.toList = true ∨ resFlat own res) (h : @EI P (σ.put d (resVd res)) A l k) : @SI P σ A o l k :=
  call_rd hop hc hg hd hs hrows hargs hst h
theorem callOwn {A : AllI} {o : OpI} {l : OpsI} {c : Call} {f : FuncId} {d : Nat} {rows res : List (List D)} (hop : o.o.op = .call c) (hc : c.callee = .value (.func f)) (hg : o.o.guard = none) (hd : o.o.dst = some d)
    (hs : SoundAt P f true rows res) (hrows : (evArgs P σ c.args.toList c.argTypes.toList).2 = some rows) (hargs : (evArgs P σ c.args.toList c.argTypes.toList).1) (hst : argsStable P σ c.args.toList c.argTypes.toList = true ∨ resFlat true res) (hf : σ.fresh d = true) (h : @EI P (σ.new d (resV d res) (resObs res.flatten)) A l k) : @SI P σ A o l k :=
  call_own hop hc hg hd hs hrows hargs hst hf h
theorem callG {A : AllI} {o : OpI} {l : OpsI} {c : Call} {f : FuncId} {d j dj : Nat} {want g own : Bool} {rows : List (List D)} {res : List D} (hop : o.o.op = .call c) (hc : c.callee = .value (.func f)) (hg : o.o.guard = some (j, want)) (hd : o.o.dst = some d)
    (hdj : (A.ops[j]?).bind (·.dst) = some dj) (hgc : gCond want (σ.get dj) = some g) (hs : g = true → SoundAt P f own rows [res])
    (hrows : (evArgs P σ c.args.toList c.argTypes.toList).2 = some rows) (hlt : dj < σ.length)
    (hargs : g = true → (evArgs P σ c.args.toList c.argTypes.toList).1) (hst : argsStable P σ c.args.toList c.argTypes.toList = true ∨ resFlat own [res]) (h : @EI P (σ.put d (.cnd g (resVd [res]))) A l k) : @SI P σ A o l k :=
  call_g hop hc hg hd hdj hgc hs hrows hlt hargs hst h
theorem toStr {A : AllI} {o : OpI} {rest : OpsI} {S T : TypeId} {x : Operand} {d : Nat} {l : List UInt8} (hop : o.o.op = .convert S T x) (hg : o.o.guard = none) (hd : o.o.dst = some d)
    (h1 : gOf (look P σ S x) = true) (h2 : byteT P S = true) (h3 : strT P T = true) (h4 : SrcRows σ (unc (look P σ S x)) 1 (byteRows l)) (h : @EI P (σ.put d (.one (.d (.str ⟨l.toArray⟩)))) A rest k) : @SI P σ A o rest k :=
  stop_toStr hop hg hd h1 h2 h3 h4 h
theorem toBytes {A : AllI} {o : OpI} {rest : OpsI} {S T : TypeId} {x : Operand} {d : Nat} {s : ByteArray} (hop : o.o.op = .convert S T x) (hg : o.o.guard = none) (hd : o.o.dst = some d)
    (h1 : gOf (look P σ S x) = true) (h2 : strT P S = true) (h3 : byteT P T = true) (h4 : unc (look P σ S x) = .one (.d (.str s))) (h5 : s.size ≤ 9223372036854775807) (h : @EI P (σ.put d (.one (.d (.sl 1 (byteRows s.data.toList))))) A rest k) : @SI P σ A o rest k :=
  stop_toBytes hop hg hd h1 h2 h3 h4 h5 h
/-- before a region, a block, any code: the state is told anew -/
theorem weakI {c : CodeI} {σ' : St} (h : Wk σ σ') (hw : @WI P σ' c k) : AWP P c.c (k.run P) σ := awp_weaken h (wx_awp hw)
end
attribute [simp] WI_draw WI_seq WI_region WI_cond WI_block WI_loop WI_skip WI_exit WI_ret LI_fin LI_sq LI_sq_exit LI_sq_ret LI_nxt LI_nxt_exit LI_nxt_ret LI_blk LI_blk_ret LI_blk_exit EI_nil EI_cons
end Go.Vm
namespace Go.Vm
open Go.RowKit

def Cells (w : World) : CS := fun b _ => b < w.heap.size
def Reads (w : World) (v : Value) (row : List D) : Prop := ∃ cs, Formed v cs ∧ All2 (Rd (Cells w) w) cs row

theorem true_of_sound {P : Program} {f : FuncId} {own : Bool} {rows : List (List D)} {vals : List Value} {w : World} (h : SoundAt P f own rows [[.bool true]]) (hv : All2 (Reads w) vals rows) :
    Calls P f vals.toArray w fun e w' => e = .returned (.bool true) ∧ Below w.heap.size w w' := by
  refine (h.2 (Cells w) w vals (fun _ _ hb => hb) hv).mono ?_
  rintro e w' ⟨vs, css, Y, rfl, hb, _, hf, hr, _⟩
  refine ⟨?_, hb⟩
  cases hr with
  | cons h1 hr =>
    cases hr
    cases hf with
    | cons h2 hf =>
      cases hf
      cases h1 with
      | cons h3 h1 =>
        cases h1
        have h4 : ∀ v, CellRel own (Tof (Cells w) Y) w' v (.bool true) → Rd (Tof (Cells w) Y) w' v (.bool true) := by
          intro v hv
          unfold CellRel at hv
          split at hv
          · exact hv
          · exact hv
        have h4 := h4 _ h3
        cases h4
        rcases h2 with ⟨v, hcs, hvv, _⟩ | ⟨hl, _⟩
        · cases hcs; rw [hvv]; rfl
        · simp at hl
theorem reads_int (w : World) (k : IntKind) (n : Int) : Reads w (.int k n) [.int k n] := ⟨[_], .inl ⟨_, rfl, rfl, rfl⟩, .cons (.int _ _) .nil⟩
theorem reads_bool (w : World) (b : Bool) : Reads w (.bool b) [.bool b] := ⟨[_], .inl ⟨_, rfl, rfl, rfl⟩, .cons (.bool _) .nil⟩
theorem reads_str (w : World) (s : ByteArray) : Reads w (.string s) [.str s] := ⟨[_], .inl ⟨_, rfl, rfl, rfl⟩, .cons (.str _) .nil⟩
end Go.Vm
