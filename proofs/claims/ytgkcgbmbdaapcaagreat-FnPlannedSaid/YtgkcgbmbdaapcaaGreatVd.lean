/- An abstract machine U3 the model of Go, by value, and that it is sound: part Vd. No condition. -/
import Derived.Test.YtgkcgbmbdaapcaaGreatVc
import Derived.Orders
set_option linter.unusedVariables false
set_option linter.unusedSimpArgs false
namespace Go.Vm
open Go.RowKit
structure Sub (P : Program) (xs : List Operand) (σ1 σ : St) : Prop where
 len : σ1.length = σ.length
 look : ∀ x ∈ xs, ∀ ty, look P σ1 ty x = look P σ ty x
 ob : ∀ x ∈ xs, ∀ ty u, (Vm.look P σ1 ty x).ref u = true -> ∀ j, σ1.ob u j ≠ .none -> σ.ob u j = σ1.ob u j
theorem Ym {v : V} {x : At} {u : Nat} (h : unc v = .one x) (hx : x.ref u = true) : v.ref u = true := by
 cases v with
 | cnd g y => simp only [unc] at h; subst h; simp only [V.ref, V.UO, Bool.or_eq_true]; exact .inl hx
 | one y => simp only [unc] at h; cases h; exact hx
 | any => simp [unc] at h
 | agg xs => simp [unc] at h
 | tup xs => simp [unc] at h
 | fix g y => simp only [unc] at h; subst h; simp only [V.ref, V.UO, Bool.or_eq_true]; exact .inl hx
theorem VE {v : V} {xs : List At} {u : Nat} (h : unc v = .agg xs) (hx : Zp u xs = true) : v.ref u = true := by
 cases v with
 | cnd g y => simp only [unc] at h; subst h; simp only [V.ref, V.UO, Bool.or_eq_true]; exact .inl hx
 | agg y => simp only [unc] at h; cases h; exact hx
 | any => simp [unc] at h
 | one xs => simp [unc] at h
 | tup xs => simp [unc] at h
 | fix g y => simp only [unc] at h; subst h; simp only [V.ref, V.UO, Bool.or_eq_true]; exact .inl hx
theorem ym {v : V} {u : Nat} (hx : Zp u (unc v).cells = true) : v.ref u = true := by
 cases h : unc v with
 | one x => rw [h] at hx; simp [V.cells, Zp] at hx; exact Ym h hx
 | agg xs => rw [h] at hx; exact VE h hx
 | any => rw [h] at hx; simp [V.cells, Zp] at hx
 | tup xs => rw [h] at hx; simp [V.cells, Zp] at hx
 | cnd g x => rw [h] at hx; simp [V.cells, Zp] at hx
 | fix u x => rw [h] at hx; simp [V.cells, Zp] at hx
section
variable {P : Program} {σ1 σ : St}
theorem Sub.same {xs : List Operand} {x : Operand} {ty : TypeId} {a : At} {u j : Nat} {o : Ob} (h : Sub P xs σ1 σ) (hx : x ∈ xs) (hv : unc (Vm.look P σ ty x) = .one a) (ha : a.ref u = true) (ho : σ1.ob u j = o) (hn : o ≠ .none) : σ.ob u j = o := by
 rw [<- ho]
 refine h.ob x hx ty u ?_ j (by rw [ho]; exact hn)
 rw [h.look x hx ty]
 exact Ym hv ha
theorem Jn {xs : List Operand} {x : Operand} {k : IntKind} {n : Int} (h : Sub P xs σ1 σ) (hx : x ∈ xs) (hl : xk P σ1 x k n) : xk P σ x k n := by
 unfold xk at *
 rw [<- h.look x hx]; exact hl
theorem Pu {xs : List Operand} {df n : Nat} {x : Option Operand} (h : Sub P xs σ1 σ) (hx : ∀ y, x = some y -> y ∈ xs) (hl : bnd P σ1 df x n) : bnd P σ df x n := by
 cases x with
 | none => exact hl
 | some x =>
  simp only [bnd] at *
  rw [<- h.look x (hx x rfl)]; exact hl
theorem UE {T : TypeId} : ∀ {ps : List (Nat × Operand)} {z out : List At}, Sub P (ps.map (·.2)) σ1 σ -> qY P σ1 T ps z out -> qY P σ T ps z out
 | [], _, _, _, h => h
 | (i, x) :: ps, z, out, hs, h => by
  have e := hs.look x (by simp)
  simp only [qY] at h ⊢
  rw [<- e]
  refine ⟨h.1, h.2.1, h.2.2.1, h.2.2.2.1, h.2.2.2.2.1, UE ⟨hs.len, fun y hy => hs.look y (by simp at hy ⊢; exact .inr hy), fun y hy => hs.ob y (by simp at hy ⊢; exact .inr hy)⟩ h.2.2.2.2.2⟩
theorem yC {op : Op} {ty : TypeId} {v : V} (hs : Zt P σ1 op ty v) (h : Sub P op.operands.toList σ1 σ) : Zt P σ op ty v := by
 cases op <;> simp only [Zt] at hs ⊢
 case move x => rw [<- h.look x (by simp [Op.operands])]; exact hs
 case assign x => rw [<- h.look x (by simp [Op.operands])]; exact hs
 case pick c a b =>
  rw [<- h.look c (by simp [Op.operands]), <- h.look a (by simp [Op.operands]), <- h.look b (by simp [Op.operands])]; exact hs
 case load T x =>
  rw [h.look x (by simp [Op.operands])] at hs
  refine ⟨hs.1, hs.2.1, ?_⟩
  have wK := hs.2.2
  split at wK
  ·rename_i t c hx
   obtain ⟨cells, ho, hr⟩ := wK
   exact ⟨cells, h.same (by simp [Op.operands]) hx (by simp [At.ref]) ho (by simp), hr⟩
  ·rename_i t j i c hx
   obtain ⟨q, size, rows, ho, hr⟩ := wK
   exact ⟨q, size, rows, h.same (by simp [Op.operands]) hx (by simp [At.ref]) ho (by simp), hr⟩
  ·exact wK
  ·rename_i t j i c k hx
   obtain ⟨size, rows, s, ho, hr⟩ := wK
   exact ⟨size, rows, s, h.same (by simp [Op.operands]) hx (by simp [At.ref]) ho (by simp), hr⟩
  ·exact wK.elim
 case nilCheck x =>
  rw [h.look x (by simp [Op.operands])] at hs
  refine ⟨hs.1, ?_⟩
  have wK := hs.2
  split at wK
  ·rename_i t c hx
   obtain ⟨⟨cells, ho⟩, hr⟩ := wK
   exact ⟨⟨cells, h.same (by simp [Op.operands]) hx (by simp [At.ref]) ho (by simp)⟩, hr⟩
  ·exact wK.elim
 case fieldAddr T x f =>
  rw [h.look x (by simp [Op.operands])] at hs
  refine ⟨hs.1, hs.2.1, ?_⟩
  have wK := hs.2.2
  split at wK
  ·rename_i t c hx
   obtain ⟨⟨cells, ho⟩, hr⟩ := wK
   exact ⟨⟨cells, h.same (by simp [Op.operands]) hx (by simp [At.ref]) ho (by simp)⟩, hr⟩
  ·rename_i t j i c hx
   obtain ⟨⟨q, size, rows, ho⟩, hr⟩ := wK
   exact ⟨⟨q, size, rows, h.same (by simp [Op.operands]) hx (by simp [At.ref]) ho (by simp)⟩, hr⟩
  ·exact wK
  ·rename_i t j i c k hx
   obtain ⟨⟨size, rows, ho⟩, hr⟩ := wK
   exact ⟨⟨size, rows, h.same (by simp [Op.operands]) hx (by simp [At.ref]) ho (by simp)⟩, hr⟩
  ·exact wK.elim
 case indexAddr T x ix =>
  obtain ⟨k, i, hk, h0, hg, wK⟩ := hs
  rw [h.look x (by simp [Op.operands])] at hg wK
  refine ⟨k, i, Jn h (by simp [Op.operands]) hk, h0, hg, ?_⟩
  split at wK
  ·exact wK
  ·rename_i t j lo len hx
   obtain ⟨h1, h2, ⟨q, rows, ho⟩, hr⟩ := wK
   exact ⟨h1, h2, ⟨q, rows, h.same (by simp [Op.operands]) hx (by simp [At.ref]) ho (by simp)⟩, hr⟩
  ·rename_i t c hx
   obtain ⟨⟨cells, ho⟩, hr⟩ := wK
   exact ⟨⟨cells, h.same (by simp [Op.operands]) hx (by simp [At.ref]) ho (by simp)⟩, hr⟩
  ·rename_i t j m c hx
   obtain ⟨h1, h2, ⟨size, rows, s, ho, hr⟩, hv⟩ := wK
   exact ⟨h1, h2, ⟨size, rows, s, h.same (by simp [Op.operands]) hx (by simp [At.ref]) ho (by simp), hr⟩, hv⟩
  ·exact wK.elim
 case index T x ix =>
  obtain ⟨k, i, hk, h0, hg, wK⟩ := hs
  rw [h.look x (by simp [Op.operands])] at hg wK
  exact ⟨k, i, Jn h (by simp [Op.operands]) hk, h0, hg, wK⟩
 case slice T x lo hi mx =>
  cases mx with
  | some m => exact hs.elim
  | none =>
   simp only at hs ⊢
   rw [h.look x (by simp [Op.operands])] at hs
   refine ⟨hs.1, ?_⟩
   have wK := hs.2
   have b1 : ∀ df n, bnd P σ1 df lo n -> bnd P σ df lo n := fun df n => Pu h (fun y hy => by subst hy; simp [Op.operands])
   have b2 : ∀ df n, bnd P σ1 df hi n -> bnd P σ df hi n := fun df n => Pu h (fun y hy => by subst hy; simp [Op.operands])
   split at wK
   ·obtain ⟨h1, l, hh, h2, h3, hr⟩ := wK
    exact ⟨h1, l, hh, b1 _ _ h2, b2 _ _ h3, hr⟩
   ·obtain ⟨h1, iM, l, hh, h2, h3, hr⟩ := wK
    exact ⟨h1, iM, l, hh, b1 _ _ h2, b2 _ _ h3, hr⟩
   ·rename_i t j o len hx
    obtain ⟨h1, ⟨q, rows, ho⟩, l, hh, h2, h3, hr⟩ := wK
    exact ⟨h1, ⟨q, rows, h.same (by simp [Op.operands]) hx (by simp [At.ref]) ho (by simp)⟩, l, hh, b1 _ _ h2, b2 _ _ h3, hr⟩
   ·exact wK.elim
 case binOp op T x y yt =>
  rw [<- h.look x (by simp [Op.operands]), <- h.look y (by simp [Op.operands])]; exact hs
 case unOp op T x => rw [<- h.look x (by simp [Op.operands])]; exact hs
 case convert S T x => rw [<- h.look x (by simp [Op.operands])]; exact hs
 case extract x i => rw [<- h.look x (by simp [Op.operands])]; exact hs
 case field T x f => rw [<- h.look x (by simp [Op.operands])]; exact hs
 case build T parts =>
  obtain ⟨h1, h2, z, out, h3, h4, h5⟩ := hs
  refine ⟨h1, h2, z, out, h3, UE ?_ h4, h5⟩
  simpa [Op.operands] using h
 case call c =>
  obtain ⟨nh, args, mB⟩ := c
  have hm : ∀ x ∈ args.toList, x ∈ (Op.operands (.call ⟨nh, args, mB⟩)).toList := by
   intro x hx
   simp only [Op.operands, Call.operands]
   cases nh <;> simp at hx ⊢ <;> simp [hx]
  split at hs
  ·rename_i x t hc ha ht
   rw [h.look x (hm x (by rw [ha]; simp))] at hs
   try simp only [hc, ha, ht]
   refine ⟨hs.1, ?_⟩
   have wK := hs.2
   split at wK
   ·exact wK
   ·exact wK
   ·exact wK
   ·rename_i u j lo len hx
    obtain ⟨h1, ⟨q, size, rows, ho⟩ | ⟨size, rows, ho⟩, hr⟩ := wK
    ·exact ⟨h1, .inl ⟨q, size, rows, h.same (hm x (by rw [ha]; simp)) hx (by simp [At.ref]) ho (by simp)⟩, hr⟩
    ·exact ⟨h1, .inr ⟨size, rows, h.same (hm x (by rw [ha]; simp)) hx (by simp [At.ref]) ho (by simp)⟩, hr⟩
   ·rename_i u j i c hx
    obtain ⟨h1, size, rows, n, s, ho, hr⟩ := wK
    exact ⟨h1, size, rows, n, s, h.same (hm x (by rw [ha]; simp)) hx (by simp [At.ref]) ho (by simp), hr⟩
   ·exact wK.elim
  ·rename_i x y hc ha
   try simp only [hc, ha]
   obtain ⟨k, m, n, h1, h2, h3⟩ := hs
   exact ⟨k, m, n, Jn h (hm x (by rw [ha]; simp)) h1, Jn h (hm y (by rw [ha]; simp)) h2, h3⟩
  ·rename_i x y hc ha
   try simp only [hc, ha]
   obtain ⟨k, m, n, h1, h2, h3⟩ := hs
   exact ⟨k, m, n, Jn h (hm x (by rw [ha]; simp)) h1, Jn h (hm y (by rw [ha]; simp)) h2, h3⟩
  ·exact hs.elim
end
end Go.Vm
namespace Go.Vm
open Go.RowKit
def V0 (P : Program) (xs : List Operand) (σ : St) (u : Nat) : Prop :=
 ∃ x ∈ xs, ∃ ty, (look P σ ty x).ref u = true \/ ∃ t cells, (look P σ ty x).ref t = true /\ σ.ob t 0 = .box cells /\ Zp u cells = true
theorem QS {u : Nat} : ∀ {xs : List At}, Zp u xs = true ↔ ∃ x ∈ xs, x.ref u = true
 | [] => by simp [Zp]
 | x :: xs => by simp [Zp, QS]
theorem LO {u : Nat} {xs ys : List At} (h : ∀ x ∈ xs, x ∈ ys) (hx : Zp u xs = true) : Zp u ys = true := by
 obtain ⟨x, h1, h2⟩ := QS.1 hx
 exact QS.2 ⟨x, h x h1, h2⟩
theorem Vh {u a b : Nat} {xs : List At} (hx : Zp u (cut xs a b) = true) : Zp u xs = true :=
 LO (fun _ h => List.mem_of_mem_drop (List.mem_of_mem_take h)) hx
theorem xS {u : Nat} (xs : List D) : Zp u (xs.map .d) = false := by
 induction xs with
 | nil => rfl
 | cons x xs ih => simp [Zp, At.ref, ih]
theorem WY {P : Program} {T : TypeId} {u : Nat} {xs : List At} (h : (ldV P T xs).ref u = true) : Zp u xs = true := by
 unfold ldV at h
 split at h
 ·exact h
 ·split at h
  ·simpa [V.ref, Zp] using h
  ·simp [V.ref] at h
theorem L6 {u o : Nat} {r xs : List At} (h : Zp u (place r o xs) = true) : Zp u r = true \/ Zp u xs = true := by
 obtain ⟨x, h1, h2⟩ := QS.1 h
 simp only [place, List.mem_append] at h1
 rcases h1 with (h1 | h1) | h1
 ·exact .inl (QS.2 ⟨x, List.mem_of_mem_take h1, h2⟩)
 ·exact .inr (QS.2 ⟨x, h1, h2⟩)
 ·exact .inl (QS.2 ⟨x, List.mem_of_mem_drop h1, h2⟩)
theorem Hx {v : V} {u : Nat} (h : (unc v).ref u = true) (hc : ∀ g x, unc v ≠ .cnd g x) (hf : ∀ g x, unc v ≠ .fix g x) : v.ref u = true := by
 cases v with
 | cnd g x =>
  simp only [unc] at h hc hf
  simp only [V.ref, Bool.or_eq_true]
  cases x with
  | tup xs => exact .inr h
  | cnd g y => exact absurd rfl (hc g y)
  | fix g y => exact absurd rfl (hf g y)
  | one x => exact .inl h
  | agg x => exact .inl h
  | any => exact .inl h
 | fix g x =>
  simp only [unc] at h hc hf
  simp only [V.ref, Bool.or_eq_true]
  cases x with
  | tup xs => exact .inr h
  | cnd g y => exact absurd rfl (hc g y)
  | fix g y => exact absurd rfl (hf g y)
  | one x => exact .inl h
  | agg x => exact .inl h
  | any => exact .inl h
 | _ => exact h
theorem RL {u t j i : Nat} : ∀ {c : Nat} {xs : List D}, Zp u (yb t j i c xs) = true -> u = t
 | _, [], h => by simp [yb, Zp] at h
 | c, x :: xs, h => by
  simp only [yb, Zp, Bool.or_eq_true] at h
  rcases h with h | h
  ·cases x <;> simp [At.ref] at h; exact h.symm
  ·exact RL h
theorem M6 {u t j i c : Nat} {q : Bool} {xs : List D} (h : Zp u (jV q t j i c xs) = true) : u = t := by
 cases q with
 | true => exact RL h
 | false => simp only [jV] at h; rw [xS] at h; cases h
theorem MM {op : BinOp} {k : IntKind} {x y : Int} {v : V} (h : Rj op k x y v) (u : Nat) : v.ref u = false := by
 cases op <;> simp only [Rj] at h <;> first | (subst h; rfl) | (obtain ⟨_, rfl⟩ := h; rfl) | exact h.elim
theorem Nb {op : BinOp} {x y : ByteArray} {v : V} (h : Sv op x y v) (u : Nat) : v.ref u = false := by
 cases op <;> simp only [Sv] at h <;> first | (subst h; rfl) | (obtain ⟨_, rfl⟩ := h; rfl) | exact h.elim
theorem NK {op : BinOp} {x y : Bool} {v : V} (h : UC op x y v) (u : Nat) : v.ref u = false := by
 cases op <;> simp only [UC] at h <;> first | (subst h; rfl) | (obtain ⟨_, rfl⟩ := h; rfl) | exact h.elim
theorem Mx {P : Program} {op : BinOp} {T : TypeId} {x y v : V} (h : N2 P op T x y v) (u : Nat) : v.ref u = false := by
 unfold N2 at h
 split at h
 ·exact MM h.2 u
 ·exact Nb h u
 ·exact NK h.2 u
 ·obtain ⟨_, q, _, ⟨_, rfl⟩ | ⟨_, rfl⟩⟩ := h <;> rfl
 ·exact h.elim
theorem P1 {u : Nat} : ∀ {xs : List V} {i : Nat} {v : V}, xs[i]? = some v -> v.UO u = true -> qv u xs = true
 | [], _, _, h, _ => by simp at h
 | x :: xs, 0, v, h, hr => by simp at h; subst h; simp [qv, hr]
 | x :: xs, i + 1, v, h, hr => by simp only [qv, Bool.or_eq_true]; exact .inr (P1 (by simpa using h) hr)
theorem Pv {v : V} (hf : v.flat = true) (u : Nat) : v.ref u = v.UO u := by
 cases v <;> first | rfl | (simp [V.flat] at hf)
theorem RV {P : Program} {σ : St} {T : TypeId} {u : Nat} : ∀ {ps : List (Nat × Operand)} {z out : List At}, qY P σ T ps z out -> Zp u out = true ->
  Zp u z = true \/ ∃ x ∈ ps.map (·.2), ∃ ty, (look P σ ty x).ref u = true
 | [], z, out, h, hr => by simp only [qY] at h; subst h; exact .inl hr
 | (i, x) :: ps, z, out, h, hr => by
  simp only [qY] at h
  rcases RV h.2.2.2.2.2 hr with h1 | ⟨y, hy, ty, h1⟩
  ·rcases L6 h1 with h1 | h1
   ·exact .inl h1
   ·exact .inr ⟨x, by simp, _, ym h1⟩
  ·exact .inr ⟨y, by simp at hy ⊢; exact .inr hy, ty, h1⟩
theorem TH {P : Program} {σ : St} {op : Op} {ty : TypeId} {v : V} {u : Nat} (hs : Zt P σ op ty v) (hr : v.ref u = true) : V0 P op.operands.toList σ u := by
 have gz : ∀ {x : D}, v = .one (.d x) -> False := by intro x e; rw [e] at hr; cases hr
 cases op <;> simp only [Zt] at hs
 case move x => subst hs; exact ⟨x, by simp [Op.operands], ty, .inl hr⟩
 case assign x => subst hs; exact ⟨x, by simp [Op.operands], ty, .inl hr⟩
 case pick c a b => obtain ⟨bc, p, q, _, _, _, _, _, _, rfl⟩ := hs; cases hr
 case load T x =>
  have wK := hs.2.2
  split at wK
  ·rename_i t c hx
   obtain ⟨cells, ho, _, rfl⟩ := wK
   exact ⟨x, by simp [Op.operands], 0, .inr ⟨t, cells, Ym hx (by simp [At.ref]), ho, Vh (WY hr)⟩⟩
  ·rename_i t j i c hx
   obtain ⟨q, size, rows, _, _, _, rfl⟩ := wK
   have := M6 (WY hr)
   exact ⟨x, by simp [Op.operands], 0, .inl (Ym hx (by simp [At.ref, this]))⟩
  ·obtain ⟨_, rfl⟩ := wK
   have := WY hr; rw [xS] at this; cases this
  ·obtain ⟨_, _, _, _, _, _, _, _, _, rfl⟩ := wK
   have := WY hr; rw [xS] at this; cases this
  ·exact wK.elim
 case nilCheck x =>
  have wK := hs.2
  split at wK
  ·rename_i t c hx
   obtain ⟨_, rfl⟩ := wK
   exact ⟨x, by simp [Op.operands], 0, .inl (Ym hx hr)⟩
  ·exact wK.elim
 case fieldAddr T x f =>
  have wK := hs.2.2
  split at wK
  ·rename_i t c hx
   obtain ⟨_, rfl⟩ := wK
   exact ⟨x, by simp [Op.operands], 0, .inl (Ym hx hr)⟩
  ·rename_i t j i c hx
   obtain ⟨_, rfl⟩ := wK
   exact ⟨x, by simp [Op.operands], 0, .inl (Ym hx hr)⟩
  ·subst wK; cases hr
  ·rename_i t j i c k hx
   obtain ⟨_, rfl⟩ := wK
   exact ⟨x, by simp [Op.operands], 0, .inl (Ym hx hr)⟩
  ·exact wK.elim
 case indexAddr T x ix =>
  obtain ⟨k, i, _, _, _, wK⟩ := hs
  split at wK
  ·obtain ⟨_, _, _, _, rfl⟩ := wK; cases hr
  ·rename_i t j lo len hx
   obtain ⟨_, _, _, _, rfl⟩ := wK
   exact ⟨x, by simp [Op.operands], 0, .inl (Ym hx hr)⟩
  ·rename_i t c hx
   obtain ⟨_, _, rfl⟩ := wK
   exact ⟨x, by simp [Op.operands], 0, .inl (Ym hx hr)⟩
  ·rename_i t j m c hx
   obtain ⟨_, _, _, rfl⟩ := wK
   exact ⟨x, by simp [Op.operands], 0, .inl (Ym hx hr)⟩
  ·exact wK.elim
 case index T x ix =>
  obtain ⟨k, i, _, _, _, wK⟩ := hs
  split at wK
  ·obtain ⟨_, _, rfl⟩ := wK; cases hr
  ·rename_i xs hx
   obtain ⟨_, _, _, rfl⟩ := wK
   exact ⟨x, by simp [Op.operands], 0, .inl (VE hx (Vh (WY hr)))⟩
  ·exact wK.elim
 case slice T x lo hi mx =>
  cases mx with
  | some m => exact hs.elim
  | none =>
   simp only at hs
   have wK := hs.2
   split at wK
   ·obtain ⟨_, _, _, _, _, _, _, rfl⟩ := wK; cases hr
   ·obtain ⟨_, _, _, _, _, _, _, _, rfl⟩ := wK; cases hr
   ·rename_i t j o len hx
    obtain ⟨_, _, _, _, _, _, _, _, rfl⟩ := wK
    exact ⟨x, by simp [Op.operands], 0, .inl (Ym hx hr)⟩
   ·exact wK.elim
 case binOp op T x y yt => rw [Mx hs.2.2 u] at hr; cases hr
 case unOp op T x =>
  have wK := hs.2
  split at wK
  ·subst wK; cases hr
  ·subst wK; cases hr
  ·exact wK.elim
 case convert S T x =>
  have wK := hs.2.2
  split at wK
  ·obtain ⟨_, _, rfl⟩ := wK; cases hr
  ·exact wK.elim
 case extract x i =>
  have wK := hs.2
  split at wK
  ·rename_i xs hx
   refine ⟨x, by simp [Op.operands], 0, .inl (Hx ?_ (by rw [hx]; simp) (by rw [hx]; simp))⟩
   rw [hx]
   rw [Pv wK.2] at hr
   exact P1 wK.1 hr
  ·exact wK.elim
 case field T x f =>
  have wK := hs.2.2.2
  split at wK
  ·rename_i xs hx
   obtain ⟨_, rfl⟩ := wK
   exact ⟨x, by simp [Op.operands], 0, .inl (VE hx (Vh (WY hr)))⟩
  ·exact wK.elim
 case build T parts =>
  obtain ⟨_, _, z, out, h3, h4, rfl⟩ := hs
  rcases RV h4 hr with h1 | ⟨x, hx, ld, h1⟩
  ·rw [VP u _ _ _ h3] at h1; cases h1
  ·exact ⟨x, by simpa [Op.operands] using hx, ld, .inl h1⟩
 case call c =>
  split at hs
  ·have wK := hs.2
   split at wK
   ·obtain ⟨_, rfl⟩ := wK; cases hr
   ·obtain ⟨_, rfl⟩ := wK; cases hr
   ·obtain ⟨_, rfl⟩ := wK; cases hr
   ·obtain ⟨_, _, rfl⟩ := wK; cases hr
   ·obtain ⟨_, _, _, _, _, _, _, _, rfl⟩ := wK; cases hr
   ·exact wK.elim
  ·obtain ⟨_, _, _, _, _, rfl⟩ := hs; cases hr
  ·obtain ⟨_, _, _, _, _, rfl⟩ := hs; cases hr
  ·exact hs.elim
end Go.Vm
namespace Go.Vm
open Go.RowKit
inductive Eff where
 | put (v : V)
 | new (v : V) (os : List Ob)
 | drop (t j : Nat) (v : V) (os : List Ob)
def Eff.ap (d : Nat) : Eff -> St -> St
 | .put v, σ => σ.put d v
 | .new v os, σ => σ.new d v os
 | .drop t j v os, σ => (σ.Ze t j .none).new d v os
def Eff.ok (d : Nat) : Eff -> St -> Prop
 | .put _, _ => True
 | .new _ _, σ => σ.fresh d = true
 | .drop t j _ _, σ => (∃ q s r, σ.ob t j = .arr q s r) /\ (σ.Ze t j .none).fresh d = true
def Eff.ref (u : Nat) : Eff -> Bool
 | .put v => v.ref u
 | .new v os => v.ref u || Z7 u os
 | .drop _ _ v os => v.ref u || Z7 u os
def xD (o : Oper) : Bool :=
 match o.op with
 | .call ⟨.builtin .append, ⟨.const _ :: _⟩, _⟩ => false
 | .call ⟨.builtin .append, _, _⟩ => true
 | _ => false
def QQ (o : Oper) : Bool :=
 match o.op with
 | .alloc _ => false
 | .box _ _ => false
 | .buildSlice _ _ _ => false
 | .makeSlice _ _ _ => false
 | .call ⟨.builtin .append, _, _⟩ => false
 | .call ⟨.value _, _, _⟩ => false
 | _ => true
def Q9 (ops : Array Oper) (o : Oper) : List Operand :=
 o.op.operands.toList ++ (match o.guard with | some (j, _) => (match (ops[j]?).bind (·.dst) with | some dj => [.tmp dj] | none => []) | none => [])
section
variable {P : Program} {σ1 σ : St}
theorem Sub.left {xs ys : List Operand} (h : Sub P (xs ++ ys) σ1 σ) : Sub P xs σ1 σ := ⟨h.len, fun x hx => h.look x (by simp [hx]), fun x hx => h.ob x (by simp [hx])⟩
theorem Ol {x : At} {d : D} (h : ∀ u, x.ref u = true -> ∀ j, σ1.ob u j ≠ .none -> σ.ob u j = σ1.ob u j) (hd : Qg σ1 x = some d) : Qg σ x = some d := by
 cases x with
 | sref t j lo len =>
  simp only [Qg] at hd ⊢
  split at hd
  ·rename_i q size rows ho
   rw [h t (by simp [At.ref]) j (by rw [ho]; simp), ho]; exact hd
  ·cases hd
 | _ => exact hd
theorem yJ : ∀ {xs : List At} {r : List D}, (∀ u, Zp u xs = true -> ∀ j, σ1.ob u j ≠ .none -> σ.ob u j = σ1.ob u j) -> rowOf σ1 xs = some r -> rowOf σ xs = some r
 | [], _, _, h => h
 | x :: xs, r, h, hr => by
  simp only [rowOf] at hr ⊢
  split at hr
  ·rename_i d ds h1 h2
   rw [Ol (fun u hu => h u (by rw [Zp, hu]; rfl)) h1, yJ (fun u hu => h u (by rw [Zp, hu, Bool.or_true])) h2]
   exact hr
  ·cases hr
theorem PF {v : V} {r : List D} (h : ∀ u, Zp u v.cells = true -> ∀ j, σ1.ob u j ≠ .none -> σ.ob u j = σ1.ob u j) (hr : v.X6 σ1 = some r) : v.X6 σ = some r := by
 cases v with
 | one x => exact yJ h hr
 | agg xs =>
  match xs, h, hr with
  | [], h, hr => exact yJ h hr
  | [_], _, hr => simp [V.X6] at hr
  | x :: y :: xs, h, hr => exact yJ h hr
 | any => simp [V.X6] at hr
 | tup xs => simp [V.X6] at hr
 | cnd g x => simp [V.X6] at hr
 | fix u x => simp [V.X6] at hr
theorem Sub.cells {xs : List Operand} {x : Operand} (h : Sub P xs σ1 σ) (hx : x ∈ xs) (ty : TypeId) : ∀ u, Zp u (unc (Vm.look P σ1 ty x)).cells = true -> ∀ j, σ1.ob u j ≠ .none -> σ.ob u j = σ1.ob u j :=
 fun u hu j hn => h.ob x hx ty u (ym hu) j hn
theorem z7 : ∀ {xs : List Operand} {ts : List TypeId} {rs : List (List D)}, Sub P xs σ1 σ -> XL P σ1 xs ts rs -> XL P σ xs ts rs
 | [], _, _, _, h => h
 | x :: xs, [], _, _, h => h.elim
 | x :: xs, t :: ts, rs, hs, h => by
  obtain ⟨hg, r, rest, h1, h2, h3⟩ := h
  have e := hs.look x (by simp) t
  refine ⟨by rw [<- e]; exact hg, r, rest, ?_, z7 ⟨hs.len, fun y hy => hs.look y (by simp [hy]), fun y hy => hs.ob y (by simp [hy])⟩ h2, h3⟩
  rw [<- e]
  exact PF (hs.cells (by simp) t) h1
theorem zl : ∀ {xs : List Operand} {ts : List TypeId}, Sub P xs σ1 σ -> Zz P σ xs ts = Zz P σ1 xs ts
 | [], _, _ => by simp [Zz]
 | x :: xs, [], _ => by simp [Zz]
 | x :: xs, t :: ts, hs => by
  simp only [Zz]
  rw [hs.look x (by simp) t, zl ⟨hs.len, fun y hy => hs.look y (by simp [hy]), fun y hy => hs.ob y (by simp [hy])⟩]
theorem km {c : Call} {f : FuncId} {own : Bool} {res : List (List D)} (hs : Sub P c.args.toList σ1 σ) (h : N7 P σ1 c f own res) : N7 P σ c f own res := by
 obtain ⟨rows, h1, h2, h3⟩ := h
 exact ⟨rows, z7 hs h1, h2, by rw [zl hs]; exact h3⟩
theorem kG {T : TypeId} {size : Nat} : ∀ {ps : List (Nat × Operand)} {k : Nat} {rs : List (List D)}, Sub P (ps.map (·.2)) σ1 σ -> UH P σ1 T size ps k rs -> UH P σ T size ps k rs
 | [], _, _, _, h => h
 | (i, x) :: ps, k, rs, hs, h => by
  have e := hs.look x (by simp) T
  obtain ⟨h1, h2, h3, h4, r, rest, h5, h6, h7, h8⟩ := h
  refine ⟨h1, by rw [<- e]; exact h2, by rw [<- e]; exact h3, by rw [<- e]; exact h4, r, rest, ?_, h6, kG ⟨hs.len, fun y hy => hs.look y (by simp at hy ⊢; exact .inr hy), fun y hy => hs.ob y (by simp at hy ⊢; exact .inr hy)⟩ h7, h8⟩
  rw [<- e]
  exact yJ (hs.cells (by simp) T) h5
theorem Tu {T : TypeId} {size : Nat} : ∀ {ps : List (Nat × Operand)} {k : Nat} {rs : List (List At)}, Sub P (ps.map (·.2)) σ1 σ -> UR P σ1 T size ps k rs -> UR P σ T size ps k rs
 | [], _, _, _, h => h
 | (i, x) :: ps, k, rs, hs, h => by
  obtain ⟨h1, h2, h3, h4, rest, h5, h6⟩ := h
  have e := hs.look x (by simp) T
  rw [e] at h2 h3 h4 h6
  exact ⟨h1, h2, h3, h4, rest, Tu ⟨hs.len, fun y hy => hs.look y (by simp at hy ⊢; exact .inr hy), fun y hy => hs.ob y (by simp at hy ⊢; exact .inr hy)⟩ h5, h6⟩
theorem Ps {T : TypeId} {size u : Nat} : ∀ {ps : List (Nat × Operand)} {k : Nat} {rs : List (List At)}, UR P σ T size ps k rs -> Zp u rs.flatten = true -> ∃ x ∈ ps.map (·.2), (Vm.look P σ T x).ref u = true
 | [], _, _, h, hr => by simp only [UR] at h; subst h; simp [Zp] at hr
 | (i, x) :: ps, k, rs, h, hr => by
  obtain ⟨h1, h2, h3, h4, rest, h5, rfl⟩ := h
  rw [List.flatten_cons] at hr
  obtain ⟨z, hz, uE⟩ := QS.1 hr
  rcases List.mem_append.1 hz with hz | hz
  ·exact ⟨x, by simp, ym (QS.2 ⟨z, hz, uE⟩)⟩
  ·obtain ⟨y, hy, iN⟩ := Ps h5 (QS.2 ⟨z, hz, uE⟩)
   exact ⟨y, by simp at hy ⊢; exact .inr hy, iN⟩
theorem Qq (u : Nat) : ∀ (qs : List Bool) (ds : List D), Z7 u (Z6 qs ds) = false
 | qs, [] => by cases qs <;> rfl
 | q :: qs, .sl size rows :: ds => by simp [Z6, Z7, Qq u qs ds]
 | [], .sl size rows :: ds => by simp [Z6, Z7, Qq u [] ds]
 | qs, .int _ _ :: ds => by cases qs <;> simp [Z6, Z7, Qq u _ ds]
 | qs, .bool _ :: ds => by cases qs <;> simp [Z6, Z7, Qq u _ ds]
 | qs, .str _ :: ds => by cases qs <;> simp [Z6, Z7, Qq u _ ds]
 | qs, .unk :: ds => by cases qs <;> simp [Z6, Z7, Qq u _ ds]
theorem qm {xs : List Operand} {x : Operand} {ty : TypeId} {size : Nat} {news : List (List D)} (hs : Sub P xs σ1 σ) (hx : x ∈ xs) (h : zx σ1 (unc (Vm.look P σ1 ty x)) size news) : zx σ (unc (Vm.look P σ ty x)) size news := by
 rw [hs.look x hx] at h
 unfold zx at h ⊢
 split at h
 ·exact h
 ·exact h
 ·rename_i t j lo len hv
  obtain ⟨rows, ho, hr⟩ := h
  exact ⟨rows, hs.same hx hv (by simp [At.ref]) ho (by simp), hr⟩
 ·exact h.elim
theorem IN (u : Nat) (r : List D) : (vOf (r.map At.d)).ref u = false := by
 have := xS (u := u) r
 match r, this with
 | [], _ => rfl
 | [x], _ => rfl
 | x :: y :: r, h => exact h
theorem Ms (u : Nat) (r : List D) : (vOf (r.map At.d)).UO u = false := by
 have := xS (u := u) r
 match r, this with
 | [], _ => rfl
 | [x], _ => rfl
 | x :: y :: r, h => exact h
theorem P2 (u : Nat) (res : List (List D)) : (KK res).ref u = false := by
 have tl : ∀ rs : List (List D), qv u (rs.map fun r => vOf (r.map At.d)) = false := by
  intro rs
  induction rs with
  | nil => rfl
  | cons r rs ih => simp only [List.map_cons, qv, Ms, ih, Bool.or_false]
 match res with
 | [] => rfl
 | [r] => exact IN u r
 | r :: r' :: rs => exact tl (r :: r' :: rs)
theorem Vk {u d : Nat} (hu : u ≠ d) : ∀ (k : Nat) (r : List D), Zp u (xR d k r) = false
 | _, [] => rfl
 | k, x :: r => by cases x <;> simp [xR, Zp, At.ref, Vk hu, Ne.symm hu]
theorem MX {u : Nat} {xs : List At} (h : Zp u xs = false) : (vOf xs).UO u = false := by
 match xs, h with
 | [], _ => rfl
 | [x], h => simpa [vOf, V.UO, Zp] using h
 | x :: y :: xs, h => exact h
theorem RO {u d : Nat} (hu : u ≠ d) (res : List (List D)) : (yR d res).ref u = false := by
 have tl : ∀ (k : Nat) (rs : List (List D)), qv u (Px d k rs) = false := by
  intro k rs
  induction rs generalizing k with
  | nil => rfl
  | cons r rs ih => simp only [Px, qv, MX (Vk hu _ _), ih, Bool.or_false]
 match res with
 | [] => exact tl 0 []
 | [r] =>
  have h1 : (vOf (xR d 0 r)).flat = true := by
   match xR d 0 r with
   | [] => rfl
   | [x] => rfl
   | x :: y :: xs => rfl
  have := MX (Vk hu 0 r)
  rw [<- Pv h1] at this
  exact this
 | r :: r' :: rs => exact tl 0 (r :: r' :: rs)
theorem RQ (u : Nat) : ∀ (ds : List D), Z7 u (Kj ds) = false
 | [] => rfl
 | x :: ds => by cases x <;> simp [Kj, Z7, RQ u ds]
theorem jF (ty : TypeId) (v : Value) (u : Nat) : (cst P ty v).ref u = false := by
 unfold cst
 split <;> first | rfl | skip
 all_goals (repeat' split) <;> first | rfl | skip
end
end Go.Vm
namespace Go.Vm
open Go.RowKit
def RW (P : Program) (ops : Array Oper) (o : Oper) (d : Nat) (σ1 : St) (e : Eff) : Prop :=
 e.ok d σ1 /\ (∀ t j v os, e = .drop t j v os -> xD o = true /\ ∃ x ∈ Q9 ops o, ∃ ty, (look P σ1 ty x).ref t = true) /\
 (QQ o = true \/ o.guard.isSome = true -> ∃ v, e = .put v) /\
 (o.guard = none -> ∀ u, u ≠ d -> e.ref u = true -> V0 P (Q9 ops o) σ1 u) /\
 ∀ σ, Sub P (Q9 ops o) σ1 σ -> e.ok d σ -> YF P ops o σ (e.ap d σ)
section
variable {P : Program} {ops : Array Oper} {o : Oper} {d : Nat} {σ1 σ2 : St}
theorem Vn {xs ys : List Operand} {u : Nat} (h : V0 P xs σ1 u) : V0 P (xs ++ ys) σ1 u := by
 obtain ⟨x, hx, r⟩ := h
 exact ⟨x, by simp [hx], r⟩
theorem qT {σ σ' : St} (hg : o.guard = none) (hd : o.dst = some d) (h : Step P o d σ σ') : YF P ops o σ σ' := by
 unfold YF; simp only [hg, hd]; exact h
theorem Vt {v : V} (hg : o.guard = none) (hd : o.dst = some d) (sf : ∀ u, u ≠ d -> v.ref u = true -> V0 P o.op.operands.toList σ1 u)
  (w9 : ∀ σ, Sub P o.op.operands.toList σ1 σ -> Step P o d σ (σ.put d v)) : RW P ops o d σ1 (.put v) :=
 ⟨trivial, (fun t j v os h => by cases h), fun _ => ⟨v, rfl⟩, fun _ u hu hr => Vn (sf u hu hr), fun σ hs _ => qT hg hd (w9 σ hs.left)⟩
theorem xt {v : V} {os : List Ob} (hg : o.guard = none) (hd : o.dst = some d) (hp : QQ o = false) (wb : σ1.fresh d = true) (sf : ∀ u, u ≠ d -> (v.ref u || Z7 u os) = true -> V0 P o.op.operands.toList σ1 u)
  (w9 : ∀ σ, Sub P o.op.operands.toList σ1 σ -> σ.fresh d = true -> Step P o d σ (σ.new d v os)) : RW P ops o d σ1 (.new v os) :=
 ⟨wb, (fun t j v os h => by cases h), (fun h => h.elim (fun h => by rw [hp] at h; cases h) (fun h => by rw [hg] at h; cases h)), fun _ u hu hr => Vn (sf u hu hr), fun σ hs hf => qT hg hd (w9 σ hs.left hf)⟩
theorem QX {c : Call} {x : Operand} (hx : x ∈ c.args.toList) : x ∈ (Op.operands (.call c)).toList := by
 obtain ⟨nh, args, mB⟩ := c
 simp only [Op.operands, Call.operands]
 cases nh <;> simp at hx ⊢ <;> simp [hx]
theorem Ud {c : Call} {σ : St} (h : Sub P (Op.operands (.call c)).toList σ1 σ) : Sub P c.args.toList σ1 σ :=
 ⟨h.len, fun x hx => h.look x (QX hx), fun x hx => h.ob x (QX hx)⟩
theorem HU (hg : o.guard = none) (hd : o.dst = some d) (hs : Step P o d σ1 σ2) : ∃ e : Eff, σ2 = e.ap d σ1 /\ RW P ops o d σ1 e := by
 have vR : (∃ v, Zt P σ1 o.op o.type v /\ σ2 = σ1.put d v) -> (∀ σ v, Zt P σ o.op o.type v -> Step P o d σ (σ.put d v)) -> ∃ e : Eff, σ2 = e.ap d σ1 /\ RW P ops o d σ1 e := by
  rintro ⟨v, hv, rfl⟩ wY
  exact ⟨.put v, rfl, Vt hg hd (fun u _ hr => TH hv hr) (fun σ wc => wY σ v (yC hv wc))⟩
 have g5 := hs
 unfold Step at hs
 split at hs
 ·rename_i T wA
  obtain ⟨hf, hz, row, wk, rfl⟩ := hs
  refine ⟨.new _ _, rfl, xt hg hd (by simp [QQ, wA]) hf (fun u hu hr => ?_) (fun σ wc tB => ?_)⟩
  ·simp only [V.ref, At.ref, Z7, VP u _ _ _ wk, Bool.or_false, beq_iff_eq] at hr
   exact absurd hr.symm hu
  ·unfold Step; rw [wA]; exact ⟨tB, hz, row, wk, rfl⟩
 ·rename_i T x wA
  obtain ⟨hf, h1, h2, h3, rfl⟩ := hs
  refine ⟨.new _ _, rfl, xt hg hd (by simp [QQ, wA]) hf (fun u hu hr => ?_) (fun σ wc tB => ?_)⟩
  ·simp only [V.ref, At.ref, Z7, Bool.or_false, Bool.or_eq_true, beq_iff_eq] at hr
   rcases hr with hr | hr
   ·exact absurd hr.symm hu
   ·exact ⟨x, by simp [wA, Op.operands], T, .inl (ym hr)⟩
  ·have e := wc.look x (by simp [wA, Op.operands]) T
   unfold Step; rw [wA]
   simp only
   rw [<- e]
   exact ⟨tB, h1, h2, h3, rfl⟩
 ·rename_i T n parts wA
  rcases hs with ⟨hf, h1, h2, h3, h4, h5, ⟨rows, h6, rfl⟩ | ⟨rows, h6, h7, rfl⟩⟩ | ⟨h1, rows, h6, rfl⟩
  ·refine ⟨.new _ _, rfl, xt hg hd (by simp [QQ, wA]) hf (fun u hu hr => ?_) (fun σ wc tB => ?_)⟩
   ·simp only [V.ref, At.ref, Z7, Bool.or_false, beq_iff_eq] at hr
    exact absurd hr.symm hu
   ·unfold Step; rw [wA]
    refine .inl ⟨tB, h1, h2, h3, h4, h5, .inl ⟨rows, kG ?_ h6, rfl⟩⟩
    rw [wA] at wc
    simpa [Op.operands] using wc
  ·refine ⟨.new _ _, rfl, xt hg hd (by simp [QQ, wA]) hf (fun u hu hr => ?_) (fun σ wc tB => ?_)⟩
   ·simp only [V.ref, At.ref, Z7, Bool.or_false, Bool.or_eq_true, beq_iff_eq] at hr
    rcases hr with hr | hr
    ·exact absurd hr.symm hu
    ·obtain ⟨x, hx, iO⟩ := Ps h6 hr
     exact ⟨x, by simpa [wA, Op.operands] using hx, _, .inl iO⟩
   ·unfold Step; rw [wA]
    refine .inl ⟨tB, h1, h2, h3, h4, h5, .inr ⟨rows, Tu ?_ h6, h7, rfl⟩⟩
    rw [wA] at wc
    simpa [Op.operands] using wc
  ·refine ⟨.put _, rfl, Vt hg hd (fun u _ hr => by cases hr) (fun σ wc => ?_)⟩
   unfold Step; rw [wA]
   refine .inr ⟨h1, rows, kG ?_ h6, rfl⟩
   rw [wA] at wc
   simpa [Op.operands] using wc
 ·rename_i T x y wA
  obtain ⟨rfl, hf, h1, h2, h3, q, z, zr, k, n, hq, h4, h5, h6, h7, h8, rfl⟩ := hs
  refine ⟨.new _ _, rfl, xt hg hd (by simp [QQ, wA]) hf (fun u hu hr => ?_) (fun σ wc tB => ?_)⟩
  ·simp only [V.ref, At.ref, Z7, Bool.or_false, beq_iff_eq] at hr
   exact absurd hr.symm hu
  ·unfold Step; rw [wA]
   exact ⟨rfl, tB, h1, h2, h3, q, z, zr, k, n, hq, h4, h5, Jn wc (by simp [wA, Op.operands]) h6, h7, h8, rfl⟩
 ·rename_i c wA
  split at hs
  ·rename_i hc
   obtain ⟨x, y, t, ha, uU, h1, h2, h3, h4, h5, wE, news, σd, h6, h7, h8, h9, rX, rfl⟩ := hs
   have hx : x ∈ o.op.operands.toList := by rw [wA]; exact QX (by rw [ha]; simp)
   have hy : y ∈ o.op.operands.toList := by rw [wA]; exact QX (by rw [ha]; simp)
   have tC : QQ o = false := by
    obtain ⟨cc, ca, ct⟩ := c
    simp only at hc; subst hc
    simp [QQ, wA]
   have refs : ∀ u, u ≠ d -> (V.ref u (.one (.sref d 0 0 (wE.length + news.length))) || Z7 u [.arr false (P.cellsOf (ZE P t)) (wE ++ news)]) = true -> V0 P o.op.operands.toList σ1 u := by
    intro u hu hr
    simp only [V.ref, At.ref, Z7, Bool.or_false, beq_iff_eq] at hr
    exact absurd hr.symm hu
   have g6 := h6
   unfold jj at h6
   split at h6
   ·rename_i s heq
    obtain ⟨rfl, rfl⟩ := h6
    refine ⟨.new _ _, rfl, xt hg hd tC h8 refs (fun σ wc tB => ?_)⟩
    unfold Step; rw [wA]
    simp only [hc]
    refine ⟨x, y, t, ha, uU, ?_, ?_, h3, h4, h5, [], news, σ, ?_, qm wc hy h7, tB, h9, rX, rfl⟩
    ·rw [<- wc.look x hx]; exact h1
    ·rw [<- wc.look y hy]; exact h2
    ·rw [<- wc.look x hx]; unfold jj; rw [heq]; exact ⟨rfl, rfl⟩
   ·rename_i tt j lo len heq
    obtain ⟨rows, ho, uV, hlen, holds, rfl⟩ := h6
    have mJ : (look P σ1 t x).ref tt = true := Ym heq (by simp [At.ref])
    refine ⟨.drop tt j _ _, rfl, ⟨⟨_, _, _, ho⟩, h8⟩, ?_, (fun hh => hh.elim (fun hh => by rw [tC] at hh; cases hh) (fun hh => by rw [hg] at hh; cases hh)), fun _ u hu hr => Vn (refs u hu hr), fun σ wc tB => qT hg hd ?_⟩
    ·intro t' j' v os he
     cases he
     refine ⟨?_, x, by simp only [Q9, List.mem_append]; exact .inl hx, t, mJ⟩
     obtain ⟨cc, ca, ct⟩ := c
     simp only at hc ha; subst hc ha
     cases x with
     | const v => rw [Vm.look, jF] at mJ; cases mJ
     | _ => simp [xD, wA]
    ·have tD := wc.left
     unfold Step; rw [wA]
     simp only [hc]
     have uZ : unc (look P σ t x) = .one (.sref tt j lo len) := by rw [<- tD.look x hx]; exact heq
     refine ⟨x, y, t, ha, uU, ?_, ?_, h3, h4, h5, wE, news, _, ?_, qm tD hy h7, tB.2, h9, rX, rfl⟩
     ·rw [<- tD.look x hx]; exact h1
     ·rw [<- tD.look y hy]; exact h2
     ·unfold jj; rw [uZ]
      exact ⟨rows, tD.same hx uZ (by simp [At.ref]) ho (by simp), uV, hlen, holds, rfl⟩
   ·exact h6.elim
  ·rename_i f hc
   have tC : QQ o = false := by
    obtain ⟨cc, ca, ct⟩ := c
    simp only at hc; subst hc
    simp [QQ, wA]
   rcases hs with ⟨own, res, oR, rfl⟩ | ⟨res, oR, hf, rfl⟩ | ⟨rows, res, qs, ha, iX, hq, hf, rfl⟩
   ·refine ⟨.put _, rfl, Vt hg hd (fun u _ hr => by rw [P2] at hr; cases hr) (fun σ wc => ?_)⟩
    rw [wA] at wc
    unfold Step; rw [wA]
    simp only [hc]
    exact .inl ⟨own, res, km (Ud wc) oR, rfl⟩
   ·refine ⟨.new _ _, rfl, xt hg hd tC hf (fun u hu hr => ?_) (fun σ wc tB => ?_)⟩
    ·rw [RO hu, RQ] at hr; cases hr
    ·rw [wA] at wc
     unfold Step; rw [wA]
     simp only [hc]
     exact .inr (.inl ⟨res, km (Ud wc) oR, tB, rfl⟩)
   ·refine ⟨.new _ _, rfl, xt hg hd tC hf (fun u hu hr => ?_) (fun σ wc tB => ?_)⟩
    ·rw [RO hu, Qq] at hr; cases hr
    ·rw [wA] at wc
     unfold Step; rw [wA]
     simp only [hc]
     exact .inr (.inr ⟨rows, res, qs, z7 (Ud wc) ha, iX, hq, tB, rfl⟩)
  ·rename_i h1 h2
   refine vR hs (fun σ v hv => ?_)
   unfold Step; rw [wA]
   simp only
   exact ⟨v, by rw [wA] at hv; exact hv, rfl⟩
 ·rename_i S T x wA
  rcases hs with hs | ⟨l, h1, h2, h3, h4, rfl⟩ | ⟨s, h1, h2, h3, h4, h5, rfl⟩
  ·refine vR hs (fun σ v hv => ?_)
   unfold Step; rw [wA]
   exact .inl ⟨v, by rw [wA] at hv; exact hv, rfl⟩
  ·refine ⟨.put _, rfl, Vt hg hd (fun u _ hr => by cases hr) (fun σ wc => ?_)⟩
   have hx : x ∈ o.op.operands.toList := by simp [wA, Op.operands]
   unfold Step; rw [wA]
   exact .inr (.inl ⟨l, by rw [<- wc.look x hx]; exact h1, h2, h3, qm wc hx h4, rfl⟩)
  ·refine ⟨.put _, rfl, Vt hg hd (fun u _ hr => by cases hr) (fun σ wc => ?_)⟩
   have hx : x ∈ o.op.operands.toList := by simp [wA, Op.operands]
   unfold Step; rw [wA]
   exact .inr (.inr ⟨s, by rw [<- wc.look x hx]; exact h1, h2, h3, by rw [<- wc.look x hx]; exact h4, h5, rfl⟩)
 ·rename_i n1 n2 n3 n4 n5 n6
  refine vR hs (fun σ v hv => ?_)
  unfold Step
  split
  ·rename_i T wA; exact absurd wA (n1 T)
  ·rename_i T x wA; exact absurd wA (n2 T x)
  ·rename_i T n ps wA; exact absurd wA (n3 T n ps)
  ·rename_i T x y wA; exact absurd wA (n4 T x y)
  ·rename_i c wA; exact absurd wA (n5 c)
  ·rename_i S T x wA; exact absurd wA (n6 S T x)
  ·exact ⟨v, hv, rfl⟩
end
end Go.Vm
namespace Go.Vm
open Go.RowKit
theorem Y0 {σ : St} {d : Nat} : σ.fresh d = true ↔ d < σ.length /\ ∀ t e, σ[t]? = some e -> t ≠ d -> e.1.ref d = false /\ Z7 d e.2 = false := by
 unfold St.fresh
 rw [Bool.and_eq_true, decide_eq_true_eq]
 refine and_congr_right fun _ => ⟨fun h t e he wD => JM h t e he (by omega), fun h => ?_⟩
 have : ∀ (σ : St) (k : Nat), (∀ t e, σ[t]? = some e -> k + t ≠ d -> e.1.ref d = false /\ Z7 d e.2 = false) -> Qn d k σ = true := by
  intro σ
  induction σ with
  | nil => intro k _; rfl
  | cons e σ ih =>
   intro k hk
   simp only [Qn, Bool.and_eq_true, Bool.or_eq_true, beq_iff_eq, Bool.not_eq_true']
   refine ⟨?_, ih (k + 1) fun t e' he wD => hk (t + 1) e' (by simpa using he) (by omega)⟩
   by_cases h0 : k = d
   ·exact .inl h0
   ·exact .inr (hk 0 e (by simp) (by omega))
 exact this σ 0 (fun t e he wD => h t e he (by omega))
theorem RR {σ : St} {t : Nat} {e : Ent} (h : σ[t]? = some e) (j : Nat) : σ.ob t j = Z2 e.2 j := by unfold St.ob; rw [h]
theorem kW {σ : St} {t j : Nat} {o : Ob} (h : σ.ob t j = o) (hn : o ≠ .none) : ∃ e, σ[t]? = some e /\ Z2 e.2 j = o := by
 unfold St.ob at h
 split at h
 ·rename_i e he; exact ⟨e, he, h⟩
 ·exact absurd h.symm hn
theorem VX {u : Nat} : ∀ {os : List Ob} {j : Nat} {cells : List At}, Z2 os j = .box cells -> Zp u cells = true -> Z7 u os = true
 | [], _, _, h, _ => by simp [Z2] at h
 | o :: os, 0, cells, h, hr => by
  have : o = .box cells := h
  subst this
  simp [Z7, hr]
 | o :: os, j + 1, cells, h, hr => by
  have h' : Z2 os j = .box cells := by simpa [Z2] using h
  have := VX h' hr
  cases o <;> simp [Z7, this]
theorem Ja {u s : Nat} {q : Bool} {r : List (List D)} : ∀ {os : List Ob} {j : Nat}, Z2 os j = .arr q s r -> Z7 u (os.set j .none) = Z7 u os
 | [], _, h => by simp [Z2] at h
 | o :: os, 0, h => by
  have : o = .arr q s r := h
  subst this
  simp [Z7]
 | o :: os, j + 1, h => by
  have h' : Z2 os j = .arr q s r := by simpa [Z2] using h
  have := Ja (u := u) h'
  cases o <;> simp [Z7, this]
theorem Ug {σ : St} {d : Nat} (h : Yg σ d = true) {e : Ent} (he : σ[d]? = some e) (u : Nat) : e.1.ref u = false /\ Z7 u e.2 = false := by
 unfold Yg at h
 split at h
 ·rename_i h1; rw [he] at h1; cases h1; exact ⟨rfl, rfl⟩
 ·rename_i h1; rw [he] at h1; cases h1; exact ⟨rfl, rfl⟩
 ·cases h
section
variable {P : Program} {ops : Array Oper} {o x y : Oper} {d dx dy : Nat} {σ σ1 σ2 : St}
theorem za (hd : o.dst = some d) (hs : YF P ops o σ1 σ2) : ∃ e : Eff, σ2 = e.ap d σ1 /\ RW P ops o d σ1 e := by
 unfold YF at hs
 split at hs
 ·rename_i hg
  simp only [hd] at hs
  exact HU hg hd hs
 ·rename_i j want hg
  obtain ⟨dj, d', g, v, vY, wN, wO, vf, hv, rfl⟩ := hs
  rw [hd] at wO; cases wO
  refine ⟨.put (.cnd g v), rfl, trivial, (fun t j v os h => by cases h), fun _ => ⟨_, rfl⟩, (fun h => by rw [hg] at h; cases h), fun σ wc _ => ?_⟩
  have vD : Operand.tmp dj ∈ Q9 ops o := by simp [Q9, hg, vY]
  have vC : σ.get dj = σ1.get dj := (wc.look _ vD 0).symm
  unfold YF
  simp only [hg]
  refine ⟨dj, d, g, v, vY, by rw [<- wc.len]; exact wN, hd, by rw [vC]; exact vf, fun rV => ?_, rfl⟩
  have vx := hv rV
  have tz := wc.left
  unfold TP at vx ⊢
  split at vx
  ·rename_i c wA
   split at vx
   ·rename_i f hc
    obtain ⟨own, res, oR, rfl⟩ := vx
    rw [wA] at tz
    exact ⟨own, res, km (Ud tz) oR, rfl⟩
   ·obtain ⟨v0, h1, h2⟩ := vx
    exact ⟨v0, yC h1 tz, h2⟩
  ·obtain ⟨v0, h1, h2⟩ := vx
   exact ⟨v0, yC h1 tz, h2⟩
theorem Qf (e : Eff) : (e.ap d σ).length = σ.length := by
 cases e <;> simp [Eff.ap, St.XD, St.xM, St.YZ]
theorem Ul (e : Eff) {t : Nat} (wD : t ≠ d) : (e.ap d σ).get t = σ.get t := by
 cases e with
 | put v => simp [Eff.ap, St.QO, wD]
 | new v os => simp [Eff.ap, St.qD, wD]
 | drop a j v os => simp [Eff.ap, St.qD, St.XK, wD]
theorem Ia {t u : Nat} (h : (σ.get t).ref u = true) : ∃ e, σ[t]? = some e /\ e.1.ref u = true := by
 unfold St.get at h
 split at h
 ·rename_i e he; exact ⟨e, he, h⟩
 ·cases h
end
end Go.Vm
namespace Go.Vm
open Go.RowKit
section
variable {P : Program} {ops : Array Oper} {x y : Oper} {dx dy : Nat} {σ σ1 σ2 : St}
theorem QW {d : Nat} (hf : ∀ t e, σ[t]? = some e -> t ≠ d -> e.1.ref d = false) {z : Operand} (hz : z ≠ .tmp d) (ty : TypeId) : (look P σ ty z).ref d = false := by
 cases z with
 | tmp t =>
  have wD : t ≠ d := fun h => hz (by rw [h])
  cases hr : (look P σ ty (.tmp t)).ref d with
  | false => rfl
  | true =>
   obtain ⟨e, he, vU⟩ := Ia (σ := σ) (t := t) hr
   rw [hf t e he wD] at vU; cases vU
 | const v => exact jF ty v d
 | global g => rfl
 | func f => rfl
theorem look_eq {d : Nat} (hg : ∀ t, t ≠ d -> σ1.get t = σ.get t) {z : Operand} (hz : z ≠ .tmp d) (ty : TypeId) : look P σ1 ty z = look P σ ty z := by
 cases z with
 | tmp t => exact hg t (fun h => hz (by rw [h]))
 | const v => rfl
 | global g => rfl
 | func f => rfl
theorem zB {e : Eff} {d : Nat} (h : e.ok d σ) (wD : ∀ v, e ≠ .put v) : ∀ t en, σ[t]? = some en -> t ≠ d -> en.1.ref d = false := by
 intro t en he ht
 cases e with
 | put v => exact absurd rfl (wD v)
 | new v os => exact ((Y0.1 h).2 t en he ht).1
 | drop a j v os =>
  have := (Y0.1 h.2).2 t
  rw [XA] at this
  by_cases sM : t = a
  ·rw [if_pos sM, he] at this
   exact (this _ rfl ht).1
  ·rw [if_neg sM] at this
   exact (this en he ht).1
theorem VU {e : Eff} {d : Nat} (h : e.ok d σ) (wD : ∀ v, e ≠ .put v) : ∀ t en, σ[t]? = some en -> t ≠ d -> Z7 d en.2 = false := by
 intro t en he ht
 cases e with
 | put v => exact absurd rfl (wD v)
 | new v os => exact ((Y0.1 h).2 t en he ht).2
 | drop a j v os =>
  obtain ⟨⟨q, s, r, ho⟩, hf⟩ := h
  have := (Y0.1 hf).2 t
  rw [XA] at this
  by_cases sM : t = a
  ·rw [if_pos sM, he] at this
   have h2 := (this _ rfl ht).2
   subst sM
   rw [RR he] at ho
   rw [Ja ho] at h2
   exact h2
  ·rw [if_neg sM] at this
   exact (this en he ht).2
theorem GQ {e : Eff} {d : Nat} (h : e.ok d σ) (wD : ∀ v, e ≠ .put v) : d < σ.length := by
 cases e with
 | put v => exact absurd rfl (wD v)
 | new v os => exact (Y0.1 h).1
 | drop a j v os => have := (Y0.1 h.2).1; rwa [St.YZ] at this
theorem Lu {e : Eff} {d : Nat} (h : e.ok d σ) {u j : Nat} (hu : (∀ v, e ≠ .put v) -> u ≠ d) (hn : (e.ap d σ).ob u j ≠ .none) : σ.ob u j = (e.ap d σ).ob u j := by
 cases e with
 | put v => simp only [Eff.ap, St.XE]
 | new v os =>
  have := hu (by intro v h; cases h)
  simp only [Eff.ap, St.Xo, this, false_and, if_false]
 | drop a k v os =>
  have sj := hu (by intro v h; cases h)
  obtain ⟨⟨q, s, r, ho⟩, _⟩ := h
  simp only [Eff.ap, St.Xo, sj, false_and, if_false] at hn ⊢
  rw [St.XF σ a k _ u j (by rw [ho]; simp)] at hn ⊢
  split at hn
  ·exact absurd rfl hn
  ·rename_i hh; rw [if_neg hh]
theorem Vw {e : Eff} {d : Nat} (w8 : ∀ t j v os, e ≠ .drop t j v os) {u j : Nat} (hu : (∀ v, e ≠ .put v) -> u ≠ d) : (e.ap d σ).ob u j = σ.ob u j := by
 cases e with
 | put v => simp only [Eff.ap, St.XE]
 | new v os =>
  have := hu (by intro v h; cases h)
  simp only [Eff.ap, St.Xo, this, false_and, if_false]
 | drop a k v os => exact absurd rfl (w8 a k v os)
theorem It {e : Eff} {d t : Nat} {en : Ent} (wb : e.ok d σ) (ht : t ≠ d) (he : (e.ap d σ)[t]? = some en) : ∃ mT, σ[t]? = some mT /\ mT.1 = en.1 /\ ∀ u, Z7 u mT.2 = Z7 u en.2 := by
 cases e with
 | put v => simp only [Eff.ap, zQ, if_neg ht] at he; exact ⟨en, he, rfl, fun _ => rfl⟩
 | new v os => simp only [Eff.ap, Qy, if_neg ht] at he; exact ⟨en, he, rfl, fun _ => rfl⟩
 | drop a j v os =>
  simp only [Eff.ap, Qy, if_neg ht, XA] at he
  split at he
  ·rename_i sM
   subst sM
   obtain ⟨⟨q, s, r, ho⟩, _⟩ := wb
   obtain ⟨e0, ux, vB⟩ := kW ho (by simp)
   rw [ux] at he
   simp at he
   subst he
   exact ⟨e0, ux, rfl, fun u => (Ja vB).symm⟩
  ·exact ⟨en, he, rfl, fun _ => rfl⟩
theorem swap (vX : x.dst = some dx) (vn : y.dst = some dy) (wD : dx ≠ dy) (uo : ∀ z ∈ Q9 ops y, z ≠ .tmp dx) (sL : ∀ z ∈ Q9 ops x, z ≠ .tmp dy) (w8 : xD y = false) (nw : y.guard = none \/ QQ x = true \/ x.guard.isSome = true)
  (wh : Yg σ dx = true) (h1 : YF P ops x σ σ1) (h2 : YF P ops y σ1 σ2) : ∃ σ1', YF P ops y σ σ1' /\ YF P ops x σ1' σ2 := by
 obtain ⟨ex, rfl, tU, tx, oS, _, iP⟩ := za vX h1
 obtain ⟨ey, rfl, iQ, oT, _, mC, iS⟩ := za vn h2
 have oI : ∀ t j v os, ey ≠ .drop t j v os := by
  intro t j v os h
  have := (oT t j v os h).1
  rw [w8] at this; cases this
 have mK : Sub P (Q9 ops y) (ex.ap dx σ) σ := by
  refine ⟨Qf ex, fun z hz ty => look_eq (fun t ht => Ul ex ht) (uo z hz) ty, fun z hz ty u hr j hn => ?_⟩
  refine Lu tU (fun vo hu => ?_) hn
  subst hu
  rw [look_eq (fun t ht => Ul ex ht) (uo z hz) ty, QW (zB tU vo) (uo z hz)] at hr
  cases hr
 have rZ : ey.ok dy σ := by
  cases ey with
  | put v => trivial
  | drop a j v os => exact absurd rfl (oI a j v os)
  | new v os =>
   have hf := Y0.1 iQ
   refine Y0.2 ⟨by rw [<- Qf ex (d := dx)]; exact hf.1, fun t e he ht => ?_⟩
   by_cases r8 : t = dx
   ·subst r8; exact Ug wh he dy
   ·cases ex with
    | put v' => exact hf.2 t e (by simp only [Eff.ap, zQ, if_neg r8]; exact he) ht
    | new v' rO => exact hf.2 t e (by simp only [Eff.ap, Qy, if_neg r8]; exact he) ht
    | drop a j v' rO =>
     obtain ⟨⟨q, s, r, ho⟩, _⟩ := tU
     by_cases sM : t = a
     ·subst sM
      have := hf.2 t (e.1, e.2.set j .none) (by simp only [Eff.ap, Qy, if_neg r8, XA, if_true, he, Option.map_some]) ht
      rw [RR he] at ho
      rw [Ja ho] at this
      exact this
     ·exact hf.2 t e (by simp only [Eff.ap, Qy, if_neg r8, XA, if_neg sM]; exact he) ht
 have oU := iS σ mK rZ
 have oV : Sub P (Q9 ops x) σ (ey.ap dy σ) := by
  refine ⟨(Qf ey).symm, fun z hz ty => (look_eq (fun t ht => Ul ey ht) (sL z hz) ty).symm, fun z hz ty u hr j hn => ?_⟩
  refine Vw oI (fun vo hu => ?_)
  subst hu
  rw [QW (zB rZ vo) (sL z hz)] at hr
  cases hr
 have mL : (∀ v, ex ≠ .put v) -> ey.ref dx = false := by
  intro vo
  have hg : y.guard = none := by
   rcases nw with h | h
   ·exact h
   ·obtain ⟨v, hv⟩ := oS h; exact absurd hv (vo v)
  cases hr : ey.ref dx with
  | false => rfl
  | true =>
   obtain ⟨z, hz, ty, wy⟩ := mC hg dx wD hr
   have hl : look P (ex.ap dx σ) ty z = look P σ ty z := look_eq (fun t ht => Ul ex ht) (uo z hz) ty
   rw [hl] at wy
   rcases wy with wy | ⟨t', cells, ng, ho, hc⟩
   ·rw [QW (zB tU vo) (uo z hz)] at wy; cases wy
   ·have r8 : t' ≠ dx := by
     intro h; subst h
     rw [QW (zB tU vo) (uo z hz)] at ng; cases ng
    have wV : σ.ob t' 0 = .box cells := by rw [Lu tU (fun _ => r8) (by rw [ho]; simp), ho]
    obtain ⟨en, mD, mE⟩ := kW wV (by simp)
    have := VU tU vo t' en mD r8
    rw [VX mE hc] at this; cases this
 have entries : (∀ v, ex ≠ .put v) -> ∀ t e, (ey.ap dy σ)[t]? = some e -> t ≠ dx -> e.1.ref dx = false /\ Z7 dx e.2 = false := by
  intro vo t e he ht
  have hy := mL vo
  by_cases vy : t = dy
  ·subst vy
   cases ey with
   | put v =>
    simp only [Eff.ap, zQ, if_true, Option.map_eq_some_iff] at he
    obtain ⟨e0, ux, rfl⟩ := he
    exact ⟨hy, VU tU vo t e0 ux ht⟩
   | new v os =>
    simp only [Eff.ap, Qy, if_true, Option.map_eq_some_iff] at he
    obtain ⟨e0, ux, rfl⟩ := he
    simp only [Eff.ref, Bool.or_eq_false_iff] at hy
    exact hy
   | drop a j v os => exact absurd rfl (oI a j v os)
  ·obtain ⟨e0, ux, h1, h2⟩ := It rZ vy he
   rw [<- h1, <- h2]
   exact ⟨zB tU vo t e0 ux ht, VU tU vo t e0 ux ht⟩
 have mM : ex.ok dx (ey.ap dy σ) := by
  cases ex with
  | put v => trivial
  | new v os =>
   have vo : ∀ v', Eff.new v os ≠ .put v' := by intro v' h; cases h
   exact Y0.2 ⟨by rw [Qf]; exact GQ tU vo, entries vo⟩
  | drop a j v os =>
   have vo : ∀ v', Eff.drop a j v os ≠ .put v' := by intro v' h; cases h
   obtain ⟨z, hz, ty, hr⟩ := (tx a j v os rfl).2
   obtain ⟨q, s, r, ho⟩ := tU.1
   have wV : (ey.ap dy σ).ob a j = .arr q s r := by rw [<- ho]; exact oV.ob z hz ty a hr j (by rw [ho]; simp)
   refine ⟨⟨q, s, r, wV⟩, Y0.2 ⟨by rw [St.YZ, Qf]; exact GQ tU vo, fun t e he ht => ?_⟩⟩
   rw [XA] at he
   split at he
   ·rename_i sM
    subst sM
    obtain ⟨e0, ux, vB⟩ := kW wV (by simp)
    rw [ux] at he; simp at he; subst he
    have := entries vo t e0 ux ht
    exact ⟨this.1, by rw [Ja vB]; exact this.2⟩
   ·exact entries vo t e he ht
 refine ⟨_, oU, ?_⟩
 have := iP _ oV mM
 have heq : ex.ap dx (ey.ap dy σ) = ey.ap dy (ex.ap dx σ) := by
  apply List.ext_getElem?
  intro t
  have lf := wD
  cases ex with
  | put v =>
   cases ey with
   | put v' => simp only [Eff.ap, zQ]; by_cases h1 : t = dx <;> by_cases h2 : t = dy <;> simp_all
   | new v' rO => simp only [Eff.ap, zQ, Qy]; by_cases h1 : t = dx <;> by_cases h2 : t = dy <;> simp_all
   | drop a j v' rO => exact absurd rfl (oI a j v' rO)
  | new v os =>
   cases ey with
   | put v' => simp only [Eff.ap, zQ, Qy]; by_cases h1 : t = dx <;> by_cases h2 : t = dy <;> simp_all
   | new v' rO => simp only [Eff.ap, Qy]; by_cases h1 : t = dx <;> by_cases h2 : t = dy <;> simp_all
   | drop a j v' rO => exact absurd rfl (oI a j v' rO)
  | drop a j v os =>
   obtain ⟨z, hz, ty, hr⟩ := (tx a j v os rfl).2
   cases ey with
   | put v' =>
    simp only [Eff.ap, zQ, Qy, XA]
    by_cases h1 : t = dx <;> by_cases h2 : t = dy <;> by_cases h3 : t = a <;> simp_all
    all_goals (first | (cases σ[dy]? <;> rfl) | (cases σ[t]? <;> rfl) | (cases σ[a]? <;> rfl))
   | new v' rO =>
    have g7 : a ≠ dy := by
     intro h; subst h
     rw [QW (zB rZ (by intro v h; cases h)) (sL z hz)] at hr; cases hr
    simp only [Eff.ap, Qy, XA]
    by_cases h1 : t = dx <;> by_cases h2 : t = dy <;> by_cases h3 : t = a <;> simp_all
   | drop a' j' v' rO => exact absurd rfl (oI a' j' v' rO)
 rw [<- heq]
 exact this
end
end Go.Vm
namespace Go.Vm
open Go.RowKit
def Ny (ops : Array Oper) (bar : Oper -> Bool) (x y : Oper) : Bool := !bar x && !bar y &&
 (match x.dst, y.dst with
 | some dx, some dy => dx != dy && !(Q9 ops y).any (JI dx) && !(Q9 ops x).any (JI dy) && !xD y && (y.guard.isNone || QQ x || x.guard.isSome)
 | _, _ => false)
def Nc (bar : Oper -> Bool) (x y : Oper) : Bool := !bar x && !bar y && x.guard.isNone && y.guard.isNone &&
 (match x.dst, y.dst, y.op with
 | some dx, none, .store _ p q => (match x.op with | .move _ => true | .assign _ => true | .extract _ _ => true | _ => false) && !JI dx p && !JI dx q
 | _, _, _ => false)
def MK (bar : Oper -> Bool) (x y : Oper) : Bool := !bar x && bar y && x.guard.isNone && jQ y && y.guard.isNone && y.dst.isNone &&
 (match x.dst with
 | some dx => (match x.op with | .move _ => true | .assign _ => true | .extract _ _ => true | _ => false) && yl y dx
 | none => false)
def Wh (PT : List (Nat × Nat)) (σ : St) : Prop := ∀ p ∈ PT, σ.get p.1 = .any \/ ∃ c, unc (σ.get p.1) = .one (.bptr p.2 c)
def ptB (PT : List (Nat × Nat)) (σ : St) : Bool := PT.all fun p => match σ.get p.1 with | .any => true | v => (match unc v with | .one (.bptr b _) => b == p.2 | _ => false)
def UI (ops : Array Oper) (PT : List (Nat × Nat)) : Bool := ops.toList.all fun o => match o.dst with
 | none => true
 | some d => PT.all fun p => p.1 != d || (o.guard.isNone && (match o.op with | .fieldAddr _ (.tmp r) _ => PT.contains (r, p.2) | .move (.tmp r) => PT.contains (r, p.2) | _ => false))
def jy (PT : List (Nat × Nat)) (b : Nat) : Op -> Bool
 | .load _ (.tmp t) => PT.any fun r => r.1 == t && r.2 != b
 | .fieldAddr _ _ _ => true
 | .move _ => true
 | .assign _ => true
 | .extract _ _ => true
 | .binOp _ _ _ _ _ => true
 | .call ⟨.builtin .len, ⟨[_]⟩, ⟨[_]⟩⟩ => true
 | _ => false
def swapT (PT : List (Nat × Nat)) (bar : Oper -> Bool) (x y : Oper) : Bool := !bar x && !bar y && x.guard.isNone && y.guard.isNone &&
 (match x.dst, y.dst, y.op with
 | some dx, none, .store _ (.tmp tp) q => tp != dx && !JI dx q && PT.any fun p => p.1 == tp && jy PT p.2 x.op
 | _, _, _ => false)
def RD (NB : List Nat) (σ : St) : Prop := ∀ t ∈ NB, ∀ b c, unc (σ.get t) ≠ .one (.bptr b c)
def nbB (NB : List Nat) (σ : St) : Bool := NB.all fun t => match unc (σ.get t) with | .one (.bptr _ _) => false | _ => true
def Rl (P : Program) (ops : Array Oper) (NB : List Nat) : Bool := ops.toList.all fun o => match o.dst with
 | none => true
 | some d => NB.all fun t => t != d || (o.guard.isNone && (match o.op with | .indexAddr T _ _ => YJ P T | _ => false))
def Rw (PT : List (Nat × Nat)) (NB : List Nat) (σ : St) : Prop := Wh PT σ /\ RD NB σ
def Nh (PT : List (Nat × Nat)) (NB : List Nat) (bar : Oper -> Bool) (x y : Oper) : Bool := !bar x && bar y && x.guard.isNone && jQ y && y.guard.isNone && y.dst.isNone &&
 (match x.dst, y.op with
 | some dx, .store _ (.tmp tp) q => NB.contains tp && tp != dx && !JI dx q && (match x.op with | .load _ (.tmp t) => PT.any fun r => r.1 == t | .fieldAddr _ (.tmp t) _ => PT.any fun r => r.1 == t | _ => false)
 | _, _ => false)
def LV (PT : List (Nat × Nat)) : Op -> Bool
 | .move _ => true
 | .load _ (.tmp t) => PT.any fun r => r.1 == t
 | .fieldAddr _ (.tmp _) _ => true
 | .slice _ (.tmp _) _ _ none => true
 | _ => false
def N9 (PT : List (Nat × Nat)) (ops : Array Oper) (bar : Oper -> Bool) (x y : Oper) : Bool := bar x && !bar y && xm x && x.guard.isNone && y.guard.isNone && LV PT y.op &&
 (match x.dst, y.dst with
 | some dx, some dy => dx != dy && !(Q9 ops y).any (JI dx) && !(Q9 ops x).any (JI dy)
 | _, _ => false)
def NM (PT : List (Nat × Nat)) (o : Oper) : Option Nat := match o.op with | .call ⟨.value (.func _), ⟨.tmp z :: _⟩, _⟩ => (PT.find? (fun p => p.1 == z)).map (·.2) | _ => none
def FO : Operand -> Bool
 | .const _ => true
 | _ => false
def U0 (PT : List (Nat × Nat)) (y x : Oper) : Bool := (x.op.operands.toList.all FO && !xD x) || (match NM PT y with | some b => jy PT b x.op | none => false)
def Nz (P : Program) (PT : List (Nat × Nat)) (ops : Array Oper) (bar : Oper -> Bool) (x y : Oper) : Bool := x.guard.isNone && y.guard.isNone && Wp bar x && Wp bar y && (match x.dst, y.dst with
 | some dx, some dy => dx != dy && !(Q9 ops y).any (JI dx) && !(Q9 ops x).any (JI dy) && ((!bar x && bar y && JJ P y && U0 PT y x) || (bar x && JJ P x && !bar y && U0 PT x y))
 | _, _ => false)
def UF (o : Oper) (j : Nat) : Bool := o.after.any fun e => e.on == j && Region.binds .any e
def Ws : List Oper -> List Nat -> List Nat
 | [], acc => acc
 | o :: rest, acc => Ws rest (acc ++ [o.after.toList.foldl (fun m e => if Region.binds .any e then m ||| (1 <<< e.on) ||| acc.getD e.on 0 else m) 0])
def Ld (ms : List Nat) (i j : Nat) : Bool := (ms.getD i 0).testBit j
inductive Pre (ops : Array Oper) : Nat -> Nat -> Prop
 | one {i j : Nat} {o : Oper} (ho : ops[i]? = some o) (hp : UF o j = true) : Pre ops i j
 | more {i m j : Nat} {o : Oper} (ho : ops[i]? = some o) (hp : UF o m = true) (h : Pre ops m j) : Pre ops i j
theorem Pp {ops : Array Oper} : ∀ {l : List Oper} {acc : List Nat}, (∀ k o, l[k]? = some o -> ops[acc.length + k]? = some o) -> (∀ i j, (acc.getD i 0).testBit j = true -> Pre ops i j) -> ∀ i j, Ld (Ws l acc) i j = true -> Pre ops i j
 | [], acc, _, ha, i, j, h => ha i j h
 | o :: rest, acc, hl, ha, i, j, h => by
  refine Pp (l := rest) (fun k o' hk => ?_) (fun i j sT => ?_) i j h
  ·have := hl (k + 1) o' (by simpa using hk)
   rw [List.length_append, List.length_singleton, Nat.add_assoc, Nat.add_comm 1 k]; exact this
  ·rw [List.getD_eq_getElem?_getD] at sT
   rcases Nat.lt_trichotomy i acc.length with wN | heq | rV
   ·rw [List.getElem?_append_left wN, <- List.getD_eq_getElem?_getD] at sT
    exact ha i j sT
   ·subst heq
    rw [List.getElem?_append_right (Nat.le_refl _)] at sT
    simp only [Nat.sub_self, List.getElem?_cons_zero, Option.getD_some] at sT
    have ho := hl 0 o (by simp)
    rw [Nat.add_zero] at ho
    have key : ∀ (es : List Edge) (m : Nat), (∀ e ∈ es, e ∈ o.after) -> (∀ j, m.testBit j = true -> Pre ops acc.length j) -> ∀ j, (es.foldl (fun m e => if Region.binds .any e then m ||| (1 <<< e.on) ||| acc.getD e.on 0 else m) m).testBit j = true -> Pre ops acc.length j := by
     intro es
     induction es with
     | nil => intro m _ hm j hj; exact hm j hj
     | cons e es ih =>
      intro m la hm j hj
      refine ih _ (fun e' oO => la e' (by simp [oO])) (fun j hj => ?_) j hj
      by_cases hb : Region.binds .any e = true
      ·simp only [hb, if_true] at hj
       have hp : UF o e.on = true := by
        unfold UF
        rw [<- Array.any_toList]
        exact List.any_eq_true.2 ⟨e, by simpa using la e (by simp), by simp [hb]⟩
       rw [Nat.testBit_or, Nat.testBit_or, Bool.or_eq_true, Bool.or_eq_true] at hj
       rcases hj with (hj | hj) | hj
       ·exact hm j hj
       ·rw [Nat.testBit_shiftLeft] at hj
        simp only [Bool.and_eq_true, decide_eq_true_eq] at hj
        have h1 : j - e.on = 0 := by
         have := hj.2
         rw [show (1 : Nat) = 2 ^ 0 from rfl, Nat.testBit_two_pow] at this
         have h3 : 0 = j - e.on := by simpa using this
         omega
        have : j = e.on := by omega
        subst this
        exact .one ho hp
       ·exact .more ho hp (ha e.on j hj)
      ·simp only [hb, Bool.false_eq_true, if_false] at hj; exact hm j hj
    exact key o.after.toList 0 (fun e he => by simpa using he) (fun j hj => by simp at hj) j sT
   ·rw [List.getElem?_eq_none (by simp; omega)] at sT
    simp at sT
def MQ (ops : Array Oper) (i j : Nat) : Bool := Ld (Ws ops.toList []) i j
theorem Ib {ops : Array Oper} {i j : Nat} (h : MQ ops i j = true) : Pre ops i j :=
 Pp (l := ops.toList) (acc := []) (fun k o hk => by simpa using hk) (fun i j h => by simp at h) i j h
def GN (P : Program) (ops : Array Oper) (bar : Oper -> Bool) (PT : List (Nat × Nat)) (NB : List Nat) (ms : List Nat) (i j : Nat) : Bool := match ops[i]?, ops[j]? with | some oi, some oj => Ld ms i j || Ny ops bar oj oi || Nc bar oj oi || swapT PT bar oj oi || MK bar oj oi || N9 PT ops bar oj oi || Nh PT NB bar oj oi || Nz P PT ops bar oj oi | _, _ => false
def GU (ops : Array Oper) (pos : Nat -> Nat) (i : Nat) : Bool := match ops[i]? with | some o => o.after.all fun e => !Region.binds .any e || (decide (pos e.on < pos i) && decide (e.on < ops.size)) | none => false
def Lr (ops : Array Oper) (j : Nat) : Bool := match ops[j]? with
 | some o => (match o.dst with | some d => (List.range ops.size).all fun k => k == j || (match ops[k]? with | some q => q.dst != some d | none => true) | none => false)
 | none => false
def OJ (ops : Array Oper) (pos : Nat -> Nat) (ms : List Nat) (j : Nat) : Bool := (List.range ops.size).any fun i => decide (pos j < pos i) && !Ld ms i j
def j9 (ops : Array Oper) (pos : Nat -> Nat) (j : Nat) : Bool := OJ ops pos (Ws ops.toList []) j
def N1 (P : Program) (ops : Array Oper) (pos : Nat -> Nat) (bar : Oper -> Bool) (PT : List (Nat × Nat)) (NB : List Nat) (ms : List Nat) : Bool :=
 (List.range ops.size).all fun i => GU ops pos i && ((List.range ops.size).all fun j => !decide (pos j < pos i) || GN P ops bar PT NB ms i j) && (!OJ ops pos ms i || Lr ops i)
def Te (P : Program) (ops : Array Oper) (pos : Nat -> Nat) (bar : Oper -> Bool) : Bool := N1 P ops pos bar [] [] (Ws ops.toList [])
def JY (ops : Array Oper) (pos : Nat -> Nat) (σ : St) : Bool :=
 let ms := Ws ops.toList []
 (List.range ops.size).all fun j => !OJ ops pos ms j || (match (ops[j]?).bind (·.dst) with | some d => Yg σ d | none => false)
theorem y1 {xs : List Operand} {d : Nat} (h : xs.any (JI d) = false) : ∀ z ∈ xs, z ≠ .tmp d := by
 intro z hz he
 subst he
 have := List.any_eq_false.1 h _ hz
 simp [JI] at this
theorem LR {ops : Array Oper} {bar : Oper -> Bool} {x y : Oper} (h : Ny ops bar x y = true) : bar x = false /\ bar y = false /\ ∃ dx dy, x.dst = some dx /\ y.dst = some dy /\ dx ≠ dy /\ (∀ z ∈ Q9 ops y, z ≠ .tmp dx) /\ (∀ z ∈ Q9 ops x, z ≠ .tmp dy) /\ xD y = false /\ (y.guard = none \/ QQ x = true \/ x.guard.isSome = true) := by
 unfold Ny at h
 rw [Bool.and_eq_true, Bool.and_eq_true] at h
 obtain ⟨⟨vQ, wo⟩, h⟩ := h
 refine ⟨by simpa using vQ, by simpa using wo, ?_⟩
 split at h
 ·rename_i dx dy h1 h2
  simp only [Bool.and_eq_true, bne_iff_ne, ne_eq, Bool.not_eq_true', Bool.or_eq_true, Option.isNone_iff_eq_none] at h
  exact ⟨dx, dy, h1, h2, h.1.1.1.1, y1 h.1.1.1.2, y1 h.1.1.2, h.1.2, or_assoc.1 h.2⟩
 ·cases h
theorem Qb {P : Program} {σ : St} {t j : Nat} {o : Ob} {T : TypeId} {x : Operand} : look P (σ.Ze t j o) T x = look P σ T x := by
 cases x with
 | tmp u => simp [look, St.XK]
 | const c => rfl
 | global g => rfl
 | func f => rfl
theorem WS {σ : St} {d : Nat} {v : V} : ∀ (xs : List At), rowOf (σ.put d v) xs = rowOf σ xs
 | [] => rfl
 | x :: xs => by
  have : Qg (σ.put d v) x = Qg σ x := by cases x <;> simp [Qg, St.XE]
  simp only [rowOf, this, WS xs]
theorem Hs {P : Program} {ops : Array Oper} {bar : Oper -> Bool} {x y : Oper} {σ σ1 σ2 : St} (h : Nc bar x y = true) (wx : X8 P ops bar x σ σ1) (wK : X8 P ops bar y σ1 σ2) : ∃ σ1', YF P ops y σ σ1' /\ YF P ops x σ1' σ2 := by
 unfold Nc at h
 simp only [Bool.and_eq_true, Bool.not_eq_true', Option.isNone_iff_eq_none] at h
 obtain ⟨⟨⟨⟨vQ, wo⟩, te⟩, uI⟩, h⟩ := h
 have wx := wx.resolve_right (fun hh => by rw [vQ] at hh; cases hh.1)
 have wK := wK.resolve_right (fun hh => by rw [wo] at hh; cases hh.1)
 split at h
 ·rename_i dx T p q vX vn wA
  simp only [Bool.and_eq_true, Bool.not_eq_true'] at h
  obtain ⟨⟨hv, hp⟩, hq⟩ := h
  unfold YF at wx wK
  simp only [te, vX] at wx
  simp only [uI, vn, wA] at wK
  have e1 : ∃ v, Zt P σ x.op x.type v /\ σ1 = σ.put dx v := by
   unfold Step at wx
   cases hx : x.op <;> rw [hx] at wx hv <;> first | exact wx | (exact Bool.noConfusion hv)
  obtain ⟨v, vx, rfl⟩ := e1
  have vJ : ∀ (t j : Nat) (o : Ob), Zt P (σ.Ze t j o) x.op x.type v := by
   intro t j o
   cases hx : x.op <;> rw [hx] at hv vx <;> first | (exact Bool.noConfusion hv) | (simp only [Zt, Qb] at vx ⊢; exact vx)
  have oW : ∀ (t j : Nat) (o : Ob), YF P ops x (σ.Ze t j o) ((σ.put dx v).Ze t j o) := by
   intro t j o
   unfold YF
   simp only [te, vX]
   have := vJ t j o
   rw [Jw]
   unfold Step
   cases hx : x.op <;> rw [hx] at hv this <;> first | exact ⟨v, this, rfl⟩ | (exact Bool.noConfusion hv)
  unfold Jc at wK
  rw [YG hp, YG hq] at wK
  obtain ⟨k1, k2, k3, k4, wK⟩ := wK
  split at wK
  ·rename_i t c hl
   obtain ⟨cells, c1, c2, c3, rfl⟩ := wK
   rw [St.XE] at c1
   refine ⟨_, ?_, oW _ _ _⟩
   unfold YF Jc
   simp only [uI, vn, wA]
   refine ⟨k1, k2, k3, k4, ?_⟩
   rw [hl]
   exact ⟨cells, c1, c2, c3, rfl⟩
  ·rename_i t j i c hl
   obtain ⟨q', size, rows, ds, c1, c2, c3, c4, c5, c6, c7, rfl⟩ := wK
   rw [St.XE] at c1
   rw [WS] at c3
   refine ⟨_, ?_, oW _ _ _⟩
   unfold YF Jc
   simp only [uI, vn, wA]
   refine ⟨k1, k2, k3, k4, ?_⟩
   rw [hl]
   exact ⟨q', size, rows, ds, c1, c2, c3, c4, c5, c6, c7, rfl⟩
  ·exact wK.elim
 ·cases h
theorem Jg {P : Program} {σ : St} {T : TypeId} {t : Nat} : look P σ T (.tmp t) = σ.get t := rfl
theorem WR {P : Program} {PT : List (Nat × Nat)} {b : Nat} {o : Oper} {op : Op} {d : Nat} {σ σ' : St} (ho : o.op = op) (h : jy PT b op = true) : Step P o d σ σ' ↔ ∃ v, Zt P σ op o.type v /\ σ' = σ.put d v := by
 unfold Step
 rw [ho]
 unfold jy at h
 split at h <;> first | exact Iff.rfl | (exact Bool.noConfusion h)
theorem LB {P : Program} {PT : List (Nat × Nat)} {b : Nat} {op : Op} {ty : TypeId} {v : V} {σ : St} {cells cs : List At} (h : jy PT b op = true) (hp : Wh PT σ) (c1 : σ.ob b 0 = .box cells) (hv : Zt P σ op ty v) : Zt P (σ.Ze b 0 (.box cs)) op ty v := by
 have wD : σ.ob b 0 ≠ .none := by rw [c1]; intro e; cases e
 have ho := fun u i => St.XF σ b 0 (.box cs) u i wD
 have vM : ∀ t j, (∃ q size rows, σ.ob t j = .arr q size rows) -> ∃ q size rows, (σ.Ze b 0 (.box cs)).ob t j = .arr q size rows := by
  rintro t j ⟨q, size, rows, e⟩
  by_cases hh : t = b /\ j = 0
  ·obtain ⟨rfl, rfl⟩ := hh; rw [c1] at e; cases e
  ·exact ⟨q, size, rows, by rw [ho, if_neg hh]; exact e⟩
 have sk : ∀ t j, (∃ size rows, σ.ob t j = .lit size rows) -> ∃ size rows, (σ.Ze b 0 (.box cs)).ob t j = .lit size rows := by
  rintro t j ⟨size, rows, e⟩
  by_cases hh : t = b /\ j = 0
  ·obtain ⟨rfl, rfl⟩ := hh; rw [c1] at e; cases e
  ·exact ⟨size, rows, by rw [ho, if_neg hh]; exact e⟩
 have rW : ∀ t, (∃ cells, σ.ob t 0 = .box cells) -> ∃ cells, (σ.Ze b 0 (.box cs)).ob t 0 = .box cells := by
  rintro t ⟨ce, e⟩
  by_cases hh : t = b
  ·subst hh; exact ⟨cs, by rw [ho, if_pos ⟨rfl, rfl⟩]⟩
  ·exact ⟨ce, by rw [ho, if_neg (fun iJ => hh iJ.1)]; exact e⟩
 unfold jy at h
 split at h
 ·rename_i T t
  simp only [List.any_eq_true, Bool.and_eq_true, beq_iff_eq, bne_iff_ne, ne_eq] at h
  obtain ⟨r, iT, rfl, iU⟩ := h
  simp only [Zt, Qb] at hv ⊢
  refine ⟨hv.1, hv.2.1, ?_⟩
  have hv := hv.2.2
  rw [Jg] at hv ⊢
  rcases hp r iT with e | ⟨c, e⟩
  ·rw [e] at hv; exact hv.elim
  ·rw [e] at hv ⊢
   obtain ⟨ce, e1, e2, e3⟩ := hv
   exact ⟨ce, by rw [ho, if_neg (fun hh => iU hh.1)]; exact e1, e2, e3⟩
 ·simp only [Zt, Qb] at hv ⊢
  refine ⟨hv.1, hv.2.1, ?_⟩
  have hv := hv.2.2
  split at hv
  ·rename_i e; first | exact ⟨rW _ hv.1, hv.2⟩ | (simp only [e]; exact ⟨rW _ hv.1, hv.2⟩)
  ·rename_i e; first | exact ⟨vM _ _ hv.1, hv.2⟩ | (simp only [e]; exact ⟨vM _ _ hv.1, hv.2⟩)
  ·rename_i e; first | exact hv | (simp only [e]; exact hv)
  ·rename_i e
   have hq : ∀ t j, (∃ size rows, σ.ob t j = .arr true size rows) -> ∃ size rows, (σ.Ze b 0 (.box cs)).ob t j = .arr true size rows := by
    rintro t j ⟨size, rows, e⟩
    by_cases hh : t = b /\ j = 0
    ·obtain ⟨rfl, rfl⟩ := hh; rw [c1] at e; cases e
    ·exact ⟨size, rows, by rw [ho, if_neg hh]; exact e⟩
   first | exact ⟨hq _ _ hv.1, hv.2⟩ | (simp only [e]; exact ⟨hq _ _ hv.1, hv.2⟩)
  ·exact hv.elim
 ·simp only [Zt, Qb] at hv ⊢; exact hv
 ·simp only [Zt, Qb] at hv ⊢; exact hv
 ·simp only [Zt, Qb] at hv ⊢; exact hv
 ·simp only [Zt, Qb] at hv ⊢; exact hv
 ·simp only [Zt, Qb] at hv ⊢
  refine ⟨hv.1, ?_⟩
  have hv := hv.2
  split at hv
  ·rename_i e; first | exact hv | (simp only [e]; exact hv)
  ·rename_i e; first | exact hv | (simp only [e]; exact hv)
  ·rename_i e; first | exact hv | (simp only [e]; exact hv)
  ·rename_i e; first | exact ⟨hv.1, hv.2.1.imp (vM _ _) (sk _ _), hv.2.2⟩ | (simp only [e]; exact ⟨hv.1, hv.2.1.imp (vM _ _) (sk _ _), hv.2.2⟩)
  ·rename_i u j i c e
   obtain ⟨g1, size, rows, n, s, g2, g3⟩ := hv
   have g4 : (σ.Ze b 0 (.box cs)).ob u j = .arr true size rows := by
    rw [ho]
    by_cases hh : u = b /\ j = 0
    ·obtain ⟨rfl, rfl⟩ := hh; rw [c1] at g2; cases g2
    ·rw [if_neg hh]; exact g2
   first | exact ⟨g1, size, rows, n, s, g4, g3⟩ | (simp only [e]; exact ⟨g1, size, rows, n, s, g4, g3⟩)
  ·exact hv.elim
 ·exact Bool.noConfusion h
theorem Gw {P : Program} {ops : Array Oper} {bar : Oper -> Bool} {PT : List (Nat × Nat)} {x y : Oper} {σ σ1 σ2 : St} (h : swapT PT bar x y = true) (hp : Wh PT σ) (wx : X8 P ops bar x σ σ1) (wK : X8 P ops bar y σ1 σ2) : ∃ σ1', YF P ops y σ σ1' /\ YF P ops x σ1' σ2 := by
 unfold swapT at h
 simp only [Bool.and_eq_true, Bool.not_eq_true', Option.isNone_iff_eq_none] at h
 obtain ⟨⟨⟨⟨vQ, wo⟩, te⟩, uI⟩, h⟩ := h
 have wx := wx.resolve_right (fun hh => by rw [vQ] at hh; cases hh.1)
 have wK := wK.resolve_right (fun hh => by rw [wo] at hh; cases hh.1)
 split at h
 ·rename_i dx T tp q vX vn wA
  simp only [Bool.and_eq_true, Bool.not_eq_true', List.any_eq_true, beq_iff_eq, bne_iff_ne, ne_eq] at h
  obtain ⟨⟨wD, hq⟩, p, pU, uA, hv⟩ := h
  have wv : JI dx (.tmp tp) = false := by simp [JI, wD]
  unfold YF at wx wK
  simp only [te, vX] at wx
  simp only [uI, vn, wA] at wK
  obtain ⟨v, vx, rfl⟩ := (WR rfl hv).1 wx
  unfold Jc at wK
  rw [YG wv, YG hq, Jg] at wK
  obtain ⟨k1, k2, k3, k4, wK⟩ := wK
  have v3 := hp p pU
  rw [uA] at v3
  rcases v3 with v3 | ⟨c, v3⟩
  ·rw [v3] at wK; exact wK.elim
  ·rw [v3] at wK
   obtain ⟨cells, c1, c2, c3, rfl⟩ := wK
   rw [St.XE] at c1
   refine ⟨σ.Ze p.2 0 (.box (place cells c (unc (look P σ T q)).cells)), ?_, ?_⟩
   ·unfold YF Jc
    simp only [uI, vn, wA]
    refine ⟨k1, by rw [Jg]; exact k2, k3, k4, ?_⟩
    rw [Jg, v3]
    exact ⟨cells, c1, c2, c3, rfl⟩
   ·unfold YF
    simp only [te, vX]
    rw [Jw]
    exact (WR rfl hv).2 ⟨v, LB hv hp c1 vx, rfl⟩
 ·cases h
theorem zP : ∀ (σ : St) (d : Nat), σ.put d (σ.get d) = σ
 | [], _ => rfl
 | e :: σ, 0 => by simp [St.put, St.get]
 | e :: σ, d + 1 => by have := zP σ d; simp only [St.put, St.get, List.getElem?_cons_succ] at this ⊢; rw [this]
theorem UK : ∀ (σ : St) (d : Nat) (v v' : V), (σ.put d v).put d v' = σ.put d v'
 | [], _, _, _ => rfl
 | e :: σ, 0, _, _ => rfl
 | e :: σ, d + 1, v, v' => by simp [St.put, UK σ d v v']
theorem Sr {P : Program} {σ σ' : St} (h : ∀ u, σ'.get u = σ.get u) {T : TypeId} {x : Operand} : look P σ' T x = look P σ T x := by
 cases x with
 | tmp u => exact h u
 | const c => rfl
 | global g => rfl
 | func f => rfl
theorem G3 {P : Program} {ops : Array Oper} {bar : Oper -> Bool} {x y : Oper} {σ σ1 σ2 : St} {d : Nat} (h : MK bar x y = true) (vX : x.dst = some d) (wh : Yg σ d = true) (wx : X8 P ops bar x σ σ1) (wK : X8 P ops bar y σ1 σ2) : ∃ σ1', X8 P ops bar y σ σ1' /\ YF P ops x σ1' σ2 := by
 unfold MK at h
 simp only [vX, Bool.and_eq_true, Bool.not_eq_true', Option.isNone_iff_eq_none] at h
 obtain ⟨⟨⟨⟨⟨⟨vQ, wo⟩, te⟩, wY⟩, uI⟩, vn⟩, hv, hu⟩ := h
 have wx := wx.resolve_right (fun hh => by rw [vQ] at hh; cases hh.1)
 unfold YF at wx
 simp only [te, vX] at wx
 have e1 : ∃ v, Zt P σ x.op x.type v /\ σ1 = σ.put d v := by
  unfold Step at wx
  cases hx : x.op <;> rw [hx] at wx hv <;> first | exact wx | (exact Bool.noConfusion hv)
 obtain ⟨v, vx, rfl⟩ := e1
 have back : ∀ σ', (∀ u, σ'.get u = σ.get u) -> YF P ops x σ' (σ'.put d v) := by
  intro σ' hg
  unfold YF
  simp only [te, vX]
  have : Zt P σ' x.op x.type v := by
   cases hx : x.op <;> rw [hx] at hv vx <;> first | (exact Bool.noConfusion hv) | (simp only [Zt, Sr hg] at vx ⊢; exact vx)
  unfold Step
  cases hx : x.op <;> rw [hx] at hv this <;> first | exact ⟨v, this, rfl⟩ | (exact Bool.noConfusion hv)
 rcases wK with wK | ⟨_, _, _, hk, _⟩
 · -- a plain store
  unfold jQ at wY
  split at wY
  ·rename_i T p q wA
   simp only [yl, wA, Bool.and_eq_true, Bool.not_eq_true'] at hu
   unfold YF at wK
   simp only [uI, vn, wA] at wK
   unfold Jc at wK
   rw [YG hu.1, YG hu.2] at wK
   obtain ⟨k1, k2, k3, k4, wK⟩ := wK
   split at wK
   ·rename_i t c hl
    obtain ⟨cells, c1, c2, c3, rfl⟩ := wK
    rw [St.XE] at c1
    refine ⟨σ.Ze t 0 (.box (place cells c (unc (look P σ T q)).cells)), .inl ?_, ?_⟩
    ·unfold YF Jc
     simp only [uI, vn, wA]
     refine ⟨k1, k2, k3, k4, ?_⟩
     rw [hl]
     exact ⟨cells, c1, c2, c3, rfl⟩
    ·rw [Jw]; exact back _ (fun u => St.XK _ _ _ _ _)
   ·rename_i t j i c hl
    obtain ⟨q', size, rows, ds, c1, c2, c3, c4, c5, c6, c7, rfl⟩ := wK
    rw [St.XE] at c1
    rw [WS] at c3
    refine ⟨σ.Ze t j (.arr q' size (rows.set i (place (rows.getD i []) c ds))), .inl ?_, ?_⟩
    ·unfold YF Jc
     simp only [uI, vn, wA]
     refine ⟨k1, k2, k3, k4, ?_⟩
     rw [hl]
     exact ⟨q', size, rows, ds, c1, c2, c3, c4, c5, c6, c7, rfl⟩
    ·rw [Jw]; exact back _ (fun u => St.XK _ _ _ _ _)
   ·exact wK.elim
  ·cases wY
 ·obtain ⟨⟨uL, vC⟩, wz, rW⟩ := hk wY
  rw [St.XD] at uL
  have tg : U5 (σ.get d) = true := by
   rw [KB] at wh
   unfold St.get
   rcases wh with e | ⟨x', e⟩ <;> rw [e] <;> rfl
  have hq : ∀ l : List (Nat × V), (σ.put d v).X3 ((d, σ.get d) :: l) = σ.X3 l := fun l => by rw [St.X3, UK, zP]
  have h0 := wz [(d, σ.get d)] (fun p hp => by cases List.mem_singleton.1 hp; exact ⟨hu, tg⟩)
  rw [hq []] at h0
  have hlen : d < σ.length := by
   rw [KB] at wh
   rcases wh with e | ⟨x', e⟩ <;> exact (List.getElem?_eq_some_iff.1 e).1
  have sX : ∀ u, (σ2.put d (σ.get d)).get u = σ.get u := fun u => by
   rw [St.QO]
   by_cases sj : u = d /\ d < σ2.length
   ·rw [if_pos sj, sj.1]
   ·rw [if_neg sj, vC, St.QO]
    have pX : ¬ u = d := fun e => sj ⟨e, by rw [uL]; exact hlen⟩
    rw [if_neg (fun hh => pX hh.1)]
  refine ⟨σ2.put d (σ.get d), .inr ⟨wo, h0.1, h0.2, fun _ => ⟨⟨by rw [St.XD]; exact uL, sX⟩, fun l hl => ?_, fun t cells hb => by rw [St.XE]; exact rW t cells (by rw [St.XE]; exact hb)⟩, fun hh => (by rw [O9 wY] at hh; cases hh), fun hh _ => (by rw [NW wY] at hh; cases hh)⟩, ?_⟩
  ·have := wz ((d, σ.get d) :: l) (fun p hp => by
    rcases List.mem_cons.1 hp with rfl | hp
    ·exact ⟨hu, tg⟩
    ·exact hl p hp)
   rw [hq l] at this
   exact this
  ·have := back _ sX
   rw [UK] at this
   have e : σ2.put d v = σ2 := by
    have g1 := vC d
    rw [St.QO, if_pos ⟨rfl, hlen⟩] at g1
    rw [<- g1]; exact zP σ2 d
   rw [e] at this
   exact this
theorem Gq {P : Program} {ops : Array Oper} {bar : Oper -> Bool} {PT : List (Nat × Nat)} {NB : List Nat} {x y : Oper} {σ σ1 σ2 : St} {d : Nat} (h : Nh PT NB bar x y = true) (hp : Wh PT σ) (nx : RD NB σ) (vX : x.dst = some d) (wh : Yg σ d = true) (wx : X8 P ops bar x σ σ1) (wK : X8 P ops bar y σ1 σ2) : ∃ σ1', X8 P ops bar y σ σ1' /\ YF P ops x σ1' σ2 := by
 unfold Nh at h
 simp only [vX, Bool.and_eq_true, Bool.not_eq_true', Option.isNone_iff_eq_none] at h
 obtain ⟨⟨⟨⟨⟨⟨vQ, wo⟩, te⟩, wY⟩, uI⟩, vn⟩, h⟩ := h
 have wx := wx.resolve_right (fun hh => by rw [vQ] at hh; cases hh.1)
 split at h
 ·rename_i dx T tp q n9 wA
  cases n9
  simp only [Bool.and_eq_true, Bool.not_eq_true', bne_iff_ne, ne_eq, List.contains_iff_mem] at h
  obtain ⟨⟨⟨iV, wD⟩, hq⟩, hv⟩ := h
  have wv : JI d (.tmp tp) = false := by simp [JI, wD]
  have hu : yl y d = true := by simp only [yl, wA, wv, hq]; rfl
  unfold YF at wx
  simp only [te, vX] at wx
  have e1 : ∃ v, Zt P σ x.op x.type v /\ σ1 = σ.put d v := by
   unfold Step at wx
   cases hx : x.op <;> rw [hx] at wx hv <;> first | exact wx | (exact Bool.noConfusion hv)
  obtain ⟨v, vx, rfl⟩ := e1
  have back : ∀ σ', (∀ u, σ'.get u = σ.get u) -> (∀ t cells, σ.ob t 0 = .box cells -> σ'.ob t 0 = .box cells) -> YF P ops x σ' (σ'.put d v) := by
   intro σ' hg rW
   unfold YF
   simp only [te, vX]
   have : Zt P σ' x.op x.type v := by
    cases hx : x.op <;> rw [hx] at hv vx <;> try exact Bool.noConfusion hv
    case load T' z =>
     cases z with
     | tmp t =>
      simp only [List.any_eq_true, beq_iff_eq] at hv
      obtain ⟨p, pU, uA⟩ := hv
      simp only [Zt, Sr hg] at vx ⊢
      refine ⟨vx.1, vx.2.1, ?_⟩
      have vJ := vx.2.2
      have v3 := hp p pU
      rw [uA] at v3
      rw [Jg] at vJ ⊢
      rcases v3 with e | ⟨c, e⟩
      ·rw [e] at vJ; exact vJ.elim
      ·rw [e] at vJ ⊢
       obtain ⟨ce, k1, k2⟩ := vJ
       exact ⟨ce, rW _ _ k1, k2⟩
     | _ => exact Bool.noConfusion hv
    case fieldAddr T' z f =>
     cases z with
     | tmp t =>
      simp only [List.any_eq_true, beq_iff_eq] at hv
      obtain ⟨p, pU, uA⟩ := hv
      simp only [Zt, Sr hg] at vx ⊢
      refine ⟨vx.1, vx.2.1, ?_⟩
      have vJ := vx.2.2
      have v3 := hp p pU
      rw [uA] at v3
      rw [Jg] at vJ ⊢
      rcases v3 with e | ⟨c, e⟩
      ·rw [e] at vJ; exact vJ.elim
      ·rw [e] at vJ ⊢
       obtain ⟨⟨ce, k1⟩, k2⟩ := vJ
       exact ⟨⟨ce, rW _ _ k1⟩, k2⟩
     | _ => exact Bool.noConfusion hv
   unfold Step
   cases hx : x.op <;> rw [hx] at hv this <;> first | exact ⟨v, this, rfl⟩ | (exact Bool.noConfusion hv)
  rcases wK with wK | ⟨_, _, _, hk, _⟩
  ·unfold YF at wK
   simp only [uI, vn, wA] at wK
   unfold Jc at wK
   rw [YG wv, YG hq] at wK
   obtain ⟨k1, k2, k3, k4, wK⟩ := wK
   split at wK
   ·rename_i t c hl
    exact absurd hl (nx tp iV t c)
   ·rename_i t j i c hl
    obtain ⟨q', size, rows, ds, c1, c2, c3, c4, c5, c6, c7, rfl⟩ := wK
    rw [St.XE] at c1
    rw [WS] at c3
    refine ⟨σ.Ze t j (.arr q' size (rows.set i (place (rows.getD i []) c ds))), .inl ?_, ?_⟩
    ·unfold YF Jc
     simp only [uI, vn, wA]
     refine ⟨k1, k2, k3, k4, ?_⟩
     rw [hl]
     exact ⟨q', size, rows, ds, c1, c2, c3, c4, c5, c6, c7, rfl⟩
    ·rw [Jw]
     refine back _ (fun u => St.XK _ _ _ _ _) (fun b cells hb => ?_)
     have pY : σ.ob t j ≠ .none := by rw [c1]; simp
     rw [St.XF σ t j _ b 0 pY]
     split
     ·rename_i hc; rw [hc.1, hc.2] at hb; rw [c1] at hb; cases hb
     ·exact hb
   ·exact wK.elim
  ·obtain ⟨⟨uL, vC⟩, wz, rW⟩ := hk wY
   rw [St.XD] at uL
   have tg : U5 (σ.get d) = true := by
    rw [KB] at wh
    unfold St.get
    rcases wh with e | ⟨x', e⟩ <;> rw [e] <;> rfl
   have lg : ∀ l : List (Nat × V), (σ.put d v).X3 ((d, σ.get d) :: l) = σ.X3 l := fun l => by rw [St.X3, UK, zP]
   have h0 := wz [(d, σ.get d)] (fun p hp => by cases List.mem_singleton.1 hp; exact ⟨hu, tg⟩)
   rw [lg []] at h0
   have hlen : d < σ.length := by
    rw [KB] at wh
    rcases wh with e | ⟨x', e⟩ <;> exact (List.getElem?_eq_some_iff.1 e).1
   have sX : ∀ u, (σ2.put d (σ.get d)).get u = σ.get u := fun u => by
    rw [St.QO]
    by_cases sj : u = d /\ d < σ2.length
    ·rw [if_pos sj, sj.1]
    ·rw [if_neg sj, vC, St.QO]
     have pX : ¬ u = d := fun e => sj ⟨e, by rw [uL]; exact hlen⟩
     rw [if_neg (fun hh => pX hh.1)]
   have oX : ∀ t cells, σ.ob t 0 = .box cells -> (σ2.put d (σ.get d)).ob t 0 = .box cells := fun t cells hb => by rw [St.XE]; exact rW t cells (by rw [St.XE]; exact hb)
   refine ⟨σ2.put d (σ.get d), .inr ⟨wo, h0.1, h0.2, fun _ => ⟨⟨by rw [St.XD]; exact uL, sX⟩, fun l hl => ?_, oX⟩, fun hh => (by rw [O9 wY] at hh; cases hh), fun hh _ => (by rw [NW wY] at hh; cases hh)⟩, ?_⟩
   ·have := wz ((d, σ.get d) :: l) (fun p hp => by
     rcases List.mem_cons.1 hp with rfl | hp
     ·exact ⟨hu, tg⟩
     ·exact hl p hp)
    rw [lg l] at this
    exact this
   ·have := back _ sX oX
    rw [UK] at this
    have e : σ2.put d v = σ2 := by
     have g1 := vC d
     rw [St.QO, if_pos ⟨rfl, hlen⟩] at g1
     rw [<- g1]; exact zP σ2 d
    rw [e] at this
    exact this
 ·cases h
theorem Fw {P : Program} {PT : List (Nat × Nat)} {σ σ1 : St} {d : Nat} (vC : ∀ t, t ≠ d -> σ1.get t = σ.get t /\ (σ.get t).ref d = false) (vz : ∀ t j cells, t ≠ d -> σ1.ob t j = .box cells -> σ.ob t j = .box cells /\ Zp d cells = false)
  (vM : ∀ t j q s rows, t ≠ d -> σ1.ob t j = .arr q s rows -> ∃ wP, σ.ob t j = .arr q s wP) (hp : Wh PT σ) {op : Op} {ty : TypeId} {v : V} (tT : LV PT op = true) (uw : ∀ z ∈ op.operands.toList, z ≠ .tmp d) (hv : Zt P σ1 op ty v) : Zt P σ op ty v /\ v.ref d = false := by
 have hl : ∀ (z : Operand) (T : TypeId), z ≠ .tmp d -> look P σ1 T z = look P σ T z := by
  intro z T hz
  cases z with
  | tmp u => exact (vC u (fun e => hz (by rw [e]))).1
  | const c => rfl
  | global g => rfl
  | func f => rfl
 have hr : ∀ (z : Operand) (T : TypeId), z ≠ .tmp d -> (look P σ T z).ref d = false := by
  intro z T hz
  cases z with
  | tmp u => exact (vC u (fun e => hz (by rw [e]))).2
  | const c => exact jF T c d
  | global g => rfl
  | func f => rfl
 have wD : ∀ (z : Operand) (T : TypeId) (x : At), z ≠ .tmp d -> unc (look P σ T z) = .one x -> x.ref d = false := by
  intro z T x hz hu
  cases hx : x.ref d with
  | false => rfl
  | true => have := Ym hu hx; rw [hr z T hz] at this; cases this
 refine ⟨?_, ?_⟩
 ·cases op <;> simp only [LV] at tT <;> try exact Bool.noConfusion tT
  case move x =>
   simp only [Zt] at hv ⊢
   rw [hv, hl x ty (uw x (by simp [Op.operands]))]
  case load T x =>
   cases x with
   | tmp t =>
    have ht : Operand.tmp t ≠ .tmp d := uw _ (by simp [Op.operands])
    simp only [List.any_eq_true, beq_iff_eq] at tT
    obtain ⟨p, pU, uA⟩ := tT
    simp only [Zt] at hv ⊢
    rw [hl _ 0 ht] at hv
    refine ⟨hv.1, hv.2.1, ?_⟩
    have vJ := hv.2.2
    have v3 := hp p pU
    rw [uA] at v3
    rw [Jg] at vJ ⊢
    rcases v3 with e | ⟨c, e⟩
    ·rw [e] at vJ; exact vJ.elim
    ·rw [e] at vJ ⊢
     obtain ⟨ce, e1, e2⟩ := vJ
     have hb : p.2 ≠ d := by
      have := wD (.tmp t) 0 (.bptr p.2 c) ht (by rw [Jg]; exact e)
      simpa [At.ref] using this
     exact ⟨ce, (vz _ _ _ hb e1).1, e2⟩
   | _ => exact Bool.noConfusion tT
  case fieldAddr T x f =>
   cases x with
   | tmp t =>
    have ht : Operand.tmp t ≠ .tmp d := uw _ (by simp [Op.operands])
    simp only [Zt] at hv ⊢
    rw [hl _ 0 ht] at hv
    refine ⟨hv.1, hv.2.1, ?_⟩
    have vJ := hv.2.2
    split at vJ
    ·rename_i t' c e
     have hb : t' ≠ d := by have := wD _ _ _ ht e; simpa [At.ref] using this
     obtain ⟨⟨ce, e1⟩, e2⟩ := vJ
     first | exact ⟨⟨ce, (vz _ _ _ hb e1).1⟩, e2⟩ | (simp only [e]; exact ⟨⟨ce, (vz _ _ _ hb e1).1⟩, e2⟩)
    ·rename_i t' j i c e
     have hb : t' ≠ d := by have := wD _ _ _ ht e; simpa [At.ref] using this
     obtain ⟨⟨q, s, rows, e1⟩, e2⟩ := vJ
     obtain ⟨wP, e3⟩ := vM _ _ _ _ _ hb e1
     first | exact ⟨⟨q, s, wP, e3⟩, e2⟩ | (simp only [e]; exact ⟨⟨q, s, wP, e3⟩, e2⟩)
    ·rename_i rr c e; first | exact vJ | (simp only [e]; exact vJ)
    ·rename_i t' j i c k e
     have hb : t' ≠ d := by have := wD _ _ _ ht e; simpa [At.ref] using this
     obtain ⟨⟨s, rows, e1⟩, e2⟩ := vJ
     obtain ⟨wP, e3⟩ := vM _ _ _ _ _ hb e1
     first | exact ⟨⟨s, wP, e3⟩, e2⟩ | (simp only [e]; exact ⟨⟨s, wP, e3⟩, e2⟩)
    ·exact vJ.elim
   | _ => exact Bool.noConfusion tT
  case slice T x lo hi mx =>
   cases x with
   | tmp t =>
    cases mx with
    | some m => exact Bool.noConfusion tT
    | none =>
     have ht : Operand.tmp t ≠ .tmp d := uw _ (by simp [Op.operands])
     have sY : ∀ (df n : Nat) (z : Option Operand), (∀ y, z = some y -> y ≠ .tmp d) -> bnd P σ1 df z n -> bnd P σ df z n := by
      intro df n z hz h
      cases z with
      | none => exact h
      | some z => simp only [bnd] at h ⊢; rw [hl z 0 (hz z rfl)] at h; exact h
     have uV : ∀ y, lo = some y -> y ≠ .tmp d := fun y e => uw y (by subst e; simp [Op.operands])
     have th : ∀ y, hi = some y -> y ≠ .tmp d := fun y e => uw y (by subst e; simp [Op.operands])
     simp only [Zt] at hv ⊢
     rw [hl _ 0 ht] at hv
     refine ⟨hv.1, ?_⟩
     have vJ := hv.2
     split at vJ
     ·rename_i s e
      obtain ⟨h1, l, h, h2, h3, h4⟩ := vJ
      first | exact ⟨h1, l, h, sY _ _ _ uV h2, sY _ _ _ th h3, h4⟩ | (simp only [e]; exact ⟨h1, l, h, sY _ _ _ uV h2, sY _ _ _ th h3, h4⟩)
     ·rename_i s rows e
      obtain ⟨h1, h0, l, h, h2, h3, h4⟩ := vJ
      first | exact ⟨h1, h0, l, h, sY _ _ _ uV h2, sY _ _ _ th h3, h4⟩ | (simp only [e]; exact ⟨h1, h0, l, h, sY _ _ _ uV h2, sY _ _ _ th h3, h4⟩)
     ·rename_i t' j o len e
      have hb : t' ≠ d := by have := wD _ _ _ ht e; simpa [At.ref] using this
      obtain ⟨h1, ⟨q, rows, e1⟩, l, h, h2, h3, h4⟩ := vJ
      obtain ⟨wP, e3⟩ := vM _ _ _ _ _ hb e1
      first | exact ⟨h1, ⟨q, wP, e3⟩, l, h, sY _ _ _ uV h2, sY _ _ _ th h3, h4⟩ | (simp only [e]; exact ⟨h1, ⟨q, wP, e3⟩, l, h, sY _ _ _ uV h2, sY _ _ _ th h3, h4⟩)
     ·exact vJ.elim
   | _ => exact Bool.noConfusion tT
 ·cases hx : v.ref d with
  | false => rfl
  | true =>
   obtain ⟨z, hz, T, h1⟩ := TH hv hx
   rw [hl z T (uw z hz)] at h1
   rcases h1 with h1 | ⟨t, cells, h1, h2, h3⟩
   ·rw [hr z T (uw z hz)] at h1; cases h1
   ·by_cases pa : t = d
    ·rw [pa, hr z T (uw z hz)] at h1; cases h1
    ·have := (vz t 0 cells pa h2).2
     rw [this] at h3; cases h3
theorem Gk {P : Program} {ops : Array Oper} {bar : Oper -> Bool} {PT : List (Nat × Nat)} {x y : Oper} {σ σ1 σ2 : St} {d : Nat} (h : N9 PT ops bar x y = true) (hp : Wh PT σ) (vX : x.dst = some d) (wh : Yg σ d = true) (wx : X8 P ops bar x σ σ1) (wK : X8 P ops bar y σ1 σ2) : ∃ σ1', X8 P ops bar y σ σ1' /\ X8 P ops bar x σ1' σ2 := by
 unfold N9 at h
 simp only [Bool.and_eq_true, Bool.not_eq_true', Option.isNone_iff_eq_none] at h
 obtain ⟨⟨⟨⟨⟨⟨vQ, wo⟩, sh⟩, te⟩, uI⟩, tT⟩, h⟩ := h
 rw [vX] at h
 cases vn : y.dst with
 | none => rw [vn] at h; cases h
 | some dy =>
  rw [vn] at h
  simp only [Bool.and_eq_true, Bool.not_eq_true', bne_iff_ne, ne_eq] at h
  obtain ⟨⟨wD, uo⟩, sL⟩ := h
  have oY := y1 uo
  have oZ := y1 sL
  have wK := wK.resolve_right (fun hh => by rw [wo] at hh; cases hh.1)
  rcases wx with wx | ⟨_, gx, gy, _, r6, _⟩
  ·have w8 : xD y = false := by
    unfold xD
    cases wA : y.op <;> rw [wA] at tT <;> first | rfl | (exact Bool.noConfusion tT)
   obtain ⟨σ1', hy, hx⟩ := swap vX vn wD oY oZ w8 (.inl uI) wh wx wK
   exact ⟨σ1', .inl hy, .inl hx⟩
  ·obtain ⟨d', wO, hlen, vC, vz, vM, wz⟩ := r6 sh
   rw [vX] at wO; cases wO
   have e2 : ∃ v, Zt P σ1 y.op y.type v /\ σ2 = σ1.put dy v := by
    unfold YF at wK
    simp only [uI, vn] at wK
    unfold Step at wK
    cases wA : y.op <;> rw [wA] at wK tT <;> first | exact wK | (exact Bool.noConfusion tT)
   obtain ⟨v, hv, rfl⟩ := e2
   obtain ⟨rY, pV⟩ := Fw vC vz vM hp tT (fun z hz => oY z (by simp only [Q9, List.mem_append]; exact .inl hz)) hv
   have iY : TT x dy = true := by
    simp only [TT, Bool.not_eq_true']
    refine List.any_eq_false.2 (fun z hz => ?_)
    have := oZ z (by simp only [Q9, List.mem_append]; exact .inl hz)
    cases z <;> simp [JI] at this ⊢
    exact this
   have wb : ∀ p ∈ [(dy, v)], p.1 ≠ d /\ TT x p.1 = true /\ p.2.ref d = false := fun p hp => by
    cases List.mem_singleton.1 hp; exact ⟨fun e => wD e.symm, iY, pV⟩
   have h0 := wz [(dy, v)] wb
   refine ⟨σ.put dy v, .inl ?_, .inr ⟨vQ, h0.1, h0.2, fun hh => (by rw [O9 hh] at sh; cases sh), fun _ => ⟨d, vX, by rw [St.XD, St.XD]; exact hlen, fun t ht => ?_, fun t j cells ht hb => ?_, fun t j q s rows ht hb => ?_, fun l hl => ?_⟩, fun hh _ => (by rw [HD sh] at hh; cases hh)⟩⟩
   ·unfold YF
    simp only [uI, vn]
    unfold Step
    cases wA : y.op <;> rw [wA] at rY tT <;> first | exact ⟨v, rY, rfl⟩ | (exact Bool.noConfusion tT)
   ·have h1 := vC t ht
    rw [St.QO, St.QO, hlen]
    by_cases hc : t = dy /\ dy < σ.length
    ·simp only [if_pos hc]; exact ⟨trivial, pV⟩
    ·simp only [if_neg hc]; exact h1
   ·rw [St.XE] at hb ⊢; exact vz t j cells ht hb
   ·rw [St.XE] at hb ⊢; exact vM t j q s rows ht hb
   ·exact wz ((dy, v) :: l) (fun p hp => by
     rcases List.mem_cons.1 hp with rfl | hp
     ·exact wb _ (by simp)
     ·exact hl p hp)
theorem Lz {σ : St} {t j : Nat} (hn : σ.ob t j ≠ .none) : σ.Ze t j (σ.ob t j) = σ := by
 apply List.ext_getElem?
 intro u
 rw [XA]
 by_cases hu : u = t
 ·subst hu
  obtain ⟨e, he, ho⟩ := kW (σ := σ) (t := u) (j := j) rfl hn
  rw [if_pos rfl, he, Option.map_some]
  have : e.2.set j (σ.ob u j) = e.2 := by
   rw [<- ho]
   apply List.ext_getElem?
   intro k
   rw [List.getElem?_set]
   by_cases hk : j = k
   ·subst hk
    rw [if_pos rfl]
    split
    ·rename_i wN; unfold Z2; rw [List.getElem?_eq_getElem wN]
    ·rename_i wN; exact (List.getElem?_eq_none (by omega)).symm
   ·rw [if_neg hk]
  rw [this]
 ·rw [if_neg hu]
theorem NV (σ : St) (t j : Nat) (o o' : Ob) : (σ.Ze t j o).Ze t j o' = σ.Ze t j o' := by
 apply List.ext_getElem?
 intro u
 rw [XA, XA, XA]
 by_cases hu : u = t
 ·simp only [if_pos hu]
  cases σ[u]? <;> simp
 ·simp only [if_neg hu]
section
variable {P : Program} {ops : Array Oper} {σ : St} {t d dx : Nat} {cells cs : List At} {v : V} {os : Option (List Ob)}
theorem WQ : (Qr t d cs v os σ).length = σ.length := by
 cases os <;> simp [Qr, St.XD, St.xM, St.YZ]
theorem Og {u : Nat} (h : u ≠ d) : (Qr t d cs v os σ).get u = σ.get u := by
 cases os <;> simp [Qr, St.QO, St.qD, St.XK, h]
theorem Ge {u j : Nat} (hb : σ.ob t 0 = .box cells) (hu : os ≠ none -> u ≠ d) : (Qr t d cs v os σ).ob u j = if u = t /\ j = 0 then .box cs else σ.ob u j := by
 have hn : σ.ob t 0 ≠ .none := by rw [hb]; simp
 cases os with
 | none => simp only [Qr, St.XE]; exact St.XF σ t 0 _ u j hn
 | some l =>
  have := hu (by simp)
  simp only [Qr, St.Xo, this, false_and, if_false]
  exact St.XF σ t 0 _ u j hn
theorem TM {u : Nat} : (Qr t d cs v os σ)[u]? = if u = d then (σ[u]?).map (fun e => (v, match os with | some l => l | none => if u = t then e.2.set 0 (.box cs) else e.2)) else if u = t then (σ[u]?).map (fun e => (e.1, e.2.set 0 (.box cs))) else σ[u]? := by
 cases os <;> simp only [Qr, zQ, Qy, XA] <;> by_cases h1 : u = d <;> by_cases h2 : u = t <;> simp [h1, h2] <;> (try subst h1) <;> (try subst h2) <;> (try simp_all) <;> (first | (cases σ[u]? <;> rfl) | (cases σ[t]? <;> rfl) | (cases σ[d]? <;> rfl))
theorem Rk {e : Eff} (w8 : ∀ a j w l, e ≠ .drop a j w l) (h1 : dx ≠ d) (h2 : (∀ w, e ≠ .put w) -> t ≠ dx) : e.ap dx (Qr t d cs v os σ) = Qr t d cs v os (e.ap dx σ) := by
 apply List.ext_getElem?
 intro u
 rw [TM]
 cases e with
 | put w =>
  simp only [Eff.ap, zQ, TM]
  by_cases e1 : u = dx
  ·subst e1
   simp only [if_true, if_neg h1]
   by_cases e2 : u = t <;> simp [e2] <;> (first | (cases σ[u]? <;> rfl) | (cases σ[t]? <;> rfl) | rfl)
  ·simp only [if_neg e1]
 | new w l =>
  have h3 := h2 (by intro w h; cases h)
  simp only [Eff.ap, Qy, TM]
  by_cases e1 : u = dx
  ·subst e1
   simp only [if_true, if_neg h1, if_neg (Ne.symm h3)]
  ·simp only [if_neg e1]
 | drop a j w l => exact absurd rfl (w8 a j w l)
theorem IU {u : Nat} (h : σ.fresh u = true) (uH : Zp u cs = false) (hv : v.ref u = false /\ ∀ l, os = some l -> Z7 u l = false) : (Qr t d cs v os σ).fresh u = true := by
 have hf := Y0.1 h
 refine Y0.2 ⟨by rw [WQ]; exact hf.1, fun k e he hk => ?_⟩
 rw [TM] at he
 have oa : ∀ oG, Z7 u oG = false -> Z7 u (oG.set 0 (.box cs)) = false := by
  intro oG h0
  cases oG with
  | nil => exact h0
  | cons o oG =>
   simp only [List.set_cons_zero]
   cases o <;> simp_all [Z7]
 by_cases h1 : k = d
 ·rw [if_pos h1] at he
  simp only [Option.map_eq_some_iff] at he
  obtain ⟨e0, ux, rfl⟩ := he
  refine ⟨hv.1, ?_⟩
  cases os with
  | some l => exact hv.2 l rfl
  | none =>
   have := (hf.2 k e0 ux hk).2
   simp only
   split
   ·exact oa _ this
   ·exact this
 ·rw [if_neg h1] at he
  split at he
  ·simp only [Option.map_eq_some_iff] at he
   obtain ⟨e0, ux, rfl⟩ := he
   exact ⟨(hf.2 k e0 ux hk).1, oa _ (hf.2 k e0 ux hk).2⟩
  ·exact hf.2 k e he hk
theorem Nw {u : Nat} (hb : σ.ob t 0 = .box cells) (h : (Qr t d cs v os σ).fresh u = true) (wh : Yg σ d = true) (iH : Zp u cells = false) : σ.fresh u = true := by
 have hf := Y0.1 h
 refine Y0.2 ⟨by rw [<- WQ (σ := σ)]; exact hf.1, fun k e he hk => ?_⟩
 by_cases h1 : k = d
 ·rw [h1] at he; exact Ug wh he u
 ·by_cases h2 : k = t
  ·have := hf.2 k (e.1, e.2.set 0 (.box cs)) (by rw [TM, if_neg h1, if_pos h2, he]; rfl) hk
   refine ⟨this.1, ?_⟩
   have h3 := this.2
   rw [h2] at he
   rw [RR he] at hb
   cases nb : e.2 with
   | nil => rfl
   | cons o oG =>
    rw [nb] at hb h3
    have hb : o = .box cells := hb
    subst hb
    simp only [List.set_cons_zero, Z7, Bool.or_eq_false_iff] at h3 ⊢
    exact ⟨iH, h3.2⟩
  ·exact hf.2 k e (by rw [TM, if_neg h1, if_neg h2]; exact he) hk
theorem Mc {PT : List (Nat × Nat)} {x y : Oper} {A : St} {σ2 : St} (hg : x.guard = none) (vX : x.dst = some dx) (wD : dx ≠ d) (rz : ∀ z ∈ Q9 ops x, z ≠ .tmp d) (hb : σ.ob t 0 = .box cells) (w9 : os ≠ none -> (σ.Ze t 0 (.box cs)).fresh d = true)
  (uA : Wh PT σ) (vz : ∀ b, NM PT y = some b -> b = t) (wq : U0 PT y x = true) (hA : A = σ \/ A = Qr t d cs v os σ) (hs : YF P ops x A σ2) :
  ∃ e : Eff, σ2 = e.ap dx A /\ (∀ a j w l, e ≠ .drop a j w l) /\ e.ok dx A /\ ∀ B, (B = σ \/ B = Qr t d cs v os σ) -> e.ok dx B -> YF P ops x B (e.ap dx B) /\ ∀ u, u ≠ dx -> e.ref u = true -> V0 P (Q9 ops x) B u := by
 have wA : Q9 ops x = x.op.operands.toList := by simp [Q9, hg]
 simp only [U0, Bool.or_eq_true, Bool.and_eq_true, Bool.not_eq_true'] at wq
 have oc : A.length = σ.length := by rcases hA with rfl | rfl <;> simp [WQ]
 rcases wq with ⟨hc, w8⟩ | hf
 ·obtain ⟨e, rfl, wb, hdr, _, sf, mF⟩ := za vX hs
  refine ⟨e, rfl, (fun a j w l h => by have := (hdr a j w l h).1; rw [w8] at this; cases this), wb, fun B hB ny => ?_⟩
  have od : B.length = σ.length := by rcases hB with rfl | rfl <;> simp [WQ]
  have hk : ∀ z ∈ Q9 ops x, ∃ c, z = .const c := by
   intro z hz
   rw [wA] at hz
   have := List.all_eq_true.1 hc z hz
   cases z <;> first | exact ⟨_, rfl⟩ | cases this
  have wc : Sub P (Q9 ops x) A B := ⟨by rw [oc, od], fun z hz ty => by obtain ⟨c, rfl⟩ := hk z hz; rfl, fun z hz ty u hr => by obtain ⟨c, rfl⟩ := hk z hz; have h0 := jF (P := P) ty c u; simp only [look] at hr; rw [h0] at hr; cases hr⟩
  have tj : ∀ u, ¬ V0 P (Q9 ops x) A u := by
   rintro u ⟨z, hz, ty, h | ⟨_, _, h, _, _⟩⟩ <;> (obtain ⟨c, rfl⟩ := hk z hz; have h0 := jF (P := P) ty c; simp only [look] at h; rw [h0] at h; cases h)
  exact ⟨mF B wc ny, fun u hu hr => absurd (sf hg u hu hr) (tj u)⟩
 ·split at hf
  ·rename_i b iL
   have mN := vz b iL
   subst mN
   have iZ : Step P x dx A σ2 := by unfold YF at hs; simp only [hg, vX] at hs; exact hs
   obtain ⟨w, hw, rfl⟩ := (WR rfl hf).1 iZ
   refine ⟨.put w, rfl, (fun a j w' l h => by cases h), trivial, fun B hB _ => ?_⟩
   have pZ : ∀ z ∈ x.op.operands.toList, ∀ ty, look P (Qr b d cs v os σ) ty z = look P (σ.Ze b 0 (.box cs)) ty z := fun z hz ty => by
    rw [Qb]; exact look_eq (fun u hu => Og hu) (rz z (by rw [wA]; exact hz)) ty
   have tj : os ≠ none -> ∀ z ∈ x.op.operands.toList, ∀ ty, (look P (σ.Ze b 0 (.box cs)) ty z).ref d = false := fun hn z hz ty =>
    QW (fun t' e he ng => ((Y0.1 (w9 hn)).2 t' e he ng).1) (rz z (by rw [wA]; exact hz)) ty
   have oe : ∀ u, (os ≠ none -> u ≠ d) -> ∀ j, (Qr b d cs v os σ).ob u j = (σ.Ze b 0 (.box cs)).ob u j := fun u hu j => by
    rw [Ge hb hu, St.XF _ _ _ _ _ _ (by rw [hb]; simp)]
   have fw : Zt P (σ.Ze b 0 (.box cs)) x.op x.type w -> Zt P (Qr b d cs v os σ) x.op x.type w := fun hv => yC hv
    ⟨by rw [WQ, St.YZ], fun z hz ty => (pZ z hz ty).symm, fun z hz ty u hr j _ => oe u (fun hn e => by subst e; rw [tj hn z hz ty] at hr; cases hr) j⟩
   have bw : Zt P (Qr b d cs v os σ) x.op x.type w -> Zt P (σ.Ze b 0 (.box cs)) x.op x.type w := fun hv => yC hv
    ⟨by rw [WQ, St.YZ], fun z hz ty => pZ z hz ty, fun z hz ty u hr j _ => (oe u (fun hn e => by subst e; rw [pZ z hz ty, tj hn z hz ty] at hr; cases hr) j).symm⟩
   have mO : Wh PT (σ.Ze b 0 (.box cs)) := fun p hp => by rw [St.XK]; exact uA p hp
   have wo : (σ.Ze b 0 (.box cs)).ob b 0 = .box cs := by rw [St.XF _ _ _ _ _ _ (by rw [hb]; simp), if_pos ⟨rfl, rfl⟩]
   have ur : (σ.Ze b 0 (.box cs)).Ze b 0 (.box cells) = σ := by rw [NV, <- hb]; exact Lz (by rw [hb]; simp)
   have hσ : Zt P σ x.op x.type w := by
    rcases hA with rfl | rfl
    ·exact hw
    ·have := LB (cs := cells) hf mO wo (bw hw)
     rw [ur] at this; exact this
   have lh : Zt P B x.op x.type w := by
    rcases hB with rfl | rfl
    ·exact hσ
    ·exact fw (LB hf uA hb hσ)
   refine ⟨?_, fun u hu hr => ?_⟩
   ·unfold YF; simp only [hg, vX]; exact (WR rfl hf).2 ⟨w, lh, rfl⟩
   ·rw [wA]; exact TH lh hr
  ·cases hf
end
theorem UY {P : Program} {o : Oper} (h : JJ P o = true) : jQ o = false /\ xm o = false := by
 unfold JJ at h
 split at h
 ·rename_i wA; simp [jQ, xm, wA]
 ·cases h
theorem Li {P : Program} {PT : List (Nat × Nat)} {σ : St} {y : Oper} {t : Nat} (uA : Wh PT σ) (h : ∃ z r, (∃ f ts, y.op = .call ⟨.value (.func f), ⟨z :: r⟩, ts⟩) /\ ∃ ty, unc (look P σ ty z) = .one (.bptr t 0)) : ∀ b, NM PT y = some b -> b = t := by
 obtain ⟨z, r, ⟨f, ts, wA⟩, ty, hz⟩ := h
 intro b hb
 unfold NM at hb
 rw [wA] at hb
 cases z with
 | tmp k =>
  simp only [Option.map_eq_some_iff] at hb
  obtain ⟨p, hp, rfl⟩ := hb
  have hk : p.1 = k := by simpa using List.find?_some hp
  have hm := List.mem_of_find?_eq_some hp
  rw [Jg] at hz
  rcases uA p hm with e | ⟨c, e⟩ <;> rw [hk] at e <;> rw [e] at hz <;> simp [unc] at hz
  exact hz.1
 | _ => cases hb
theorem Mt {P : Program} {o : Oper} (h : JJ P o = true) : xD o = false := by
 unfold JJ at h
 split at h
 ·rename_i wA; simp [xD, wA]
 ·cases h
theorem Ta {PT : List (Nat × Nat)} {x y : Oper} (h : U0 PT y x = true) : xD x = false := by
 simp only [U0, Bool.or_eq_true, Bool.and_eq_true, Bool.not_eq_true'] at h
 rcases h with ⟨_, h⟩ | h
 ·exact h
 ·split at h
  ·rename_i b _
   have key : ∀ op, jy PT b op = true -> (match op with | .call ⟨.builtin .append, ⟨.const _ :: _⟩, _⟩ => false | .call ⟨.builtin .append, _, _⟩ => true | _ => false) = false := by
    intro op h
    unfold jy at h
    split at h <;> first | rfl | (exact Bool.noConfusion h)
   exact key _ h
  ·cases h
theorem Gt {P : Program} {ops : Array Oper} {bar : Oper -> Bool} {PT : List (Nat × Nat)} {x y : Oper} {σ σ1 σ2 : St} {d : Nat} (h : Nz P PT ops bar x y = true) (hp : Wh PT σ) (iI : Wh PT σ1) (vX : x.dst = some d) (wh : Yg σ d = true) (wx : X8 P ops bar x σ σ1) (wK : X8 P ops bar y σ1 σ2) : ∃ σ1', X8 P ops bar y σ σ1' /\ X8 P ops bar x σ1' σ2 := by
 unfold Nz at h
 simp only [vX, Bool.and_eq_true, Option.isNone_iff_eq_none] at h
 obtain ⟨⟨⟨⟨te, uI⟩, iW⟩, uy⟩, h⟩ := h
 cases vn : y.dst with
 | none => rw [vn] at h; cases h
 | some dy =>
  rw [vn] at h
  simp only [Bool.and_eq_true, Bool.or_eq_true, Bool.not_eq_true', bne_iff_ne, ne_eq] at h
  obtain ⟨⟨⟨wD, uo⟩, sL⟩, h⟩ := h
  have uo := y1 uo
  have sL := y1 sL
  have sN : Q9 ops y = y.op.operands.toList := by simp [Q9, uI]
  have sO : Q9 ops x = x.op.operands.toList := by simp [Q9, te]
  have og : ∀ j, σ.ob d j = .none := fun j => by
   rw [KB] at wh
   unfold St.ob
   rcases wh with e | ⟨_, e⟩ <;> rw [e] <;> simp [Z2]
  rcases h with ⟨⟨⟨vQ, wo⟩, uq⟩, wq⟩ | ⟨⟨⟨vQ, uq⟩, wo⟩, wq⟩
  ·have wx := wx.resolve_right (fun hh => by rw [vQ] at hh; cases hh.1)
   rcases wK with wK | ⟨_, _, _, _, _, mG⟩
   ·obtain ⟨σ1', hy, hx⟩ := swap vX vn wD uo sL (Mt uq) (.inl uI) wh wx wK
    exact ⟨σ1', .inl hy, .inl hx⟩
   ·obtain ⟨d', t, cells, cs, v, os, wO, hb, hz, uU, pV, w9, rfl, wz⟩ := mG uq uy
    rw [vn] at wO; cases wO
    obtain ⟨ex, rfl, tU, tx, _⟩ := za vX wx
    have mP : ∀ a j w l, ex ≠ .drop a j w l := fun a j w l hh => by have := (tx a j w l hh).1; rw [Ta wq] at this; cases this
    have tV : ∀ z ∈ Q9 ops y, ∀ ty, look P (ex.ap d σ) ty z = look P σ ty z := fun z hz ty => look_eq (fun u hu => Ul ex hu) (uo z hz) ty
    have r9 : ∀ z ∈ Q9 ops y, ∀ ty u, (look P (ex.ap d σ) ty z).ref u = true -> (∀ w, ex ≠ .put w) -> u ≠ d := fun z hz ty u hr vo e => by
     rw [e, tV z hz, QW (zB tU vo) (uo z hz)] at hr; cases hr
    have tW := hz
    obtain ⟨z, r, ⟨f, ts, wA⟩, ty, oH⟩ := hz
    have oJ : z ∈ Q9 ops y := by rw [sN, wA]; exact QX (c := ⟨.value (.func f), ⟨z :: r⟩, ts⟩) (by simp)
    have mQ : (∀ w, ex ≠ .put w) -> t ≠ d := r9 z oJ ty t (Ym oH (by simp [At.ref]))
    have ni : σ.ob t 0 = .box cells := by rw [Lu tU mQ (by rw [hb]; simp), hb]
    have pa : t ≠ d := fun e => by rw [e, og] at ni; cases ni
    have pb : os ≠ none -> (σ.Ze t 0 (.box cs)).fresh dy = true := fun hn => by
     have hf := Y0.1 (w9 hn)
     refine Y0.2 ⟨by have := hf.1; rw [St.YZ] at this ⊢; rwa [Qf] at this, fun k e he hk => ?_⟩
     by_cases hkd : k = d
     ·rw [hkd, XA, if_neg pa.symm] at he
      rw [hkd] at *
      exact Ug wh he dy
     ·refine hf.2 k e ?_ hk
      rw [XA] at he ⊢
      have : (ex.ap d σ)[k]? = σ[k]? := by
       cases ex with
       | put w => simp only [Eff.ap, zQ, if_neg hkd]
       | new w l => simp only [Eff.ap, Qy, if_neg hkd]
       | drop a j w l => exact absurd rfl (mP a j w l)
      rw [this]; exact he
    obtain ⟨e, heq, w8, wb, hB⟩ := Mc (v := v) te vX wD sL ni pb hp (Li iI tW) wq (.inl rfl) wx
    rw [heq] at hb tW w9 wz tV r9 ⊢
    have vE : ∀ z ∈ Q9 ops y, ∀ ty u, (look P (e.ap d σ) ty z).ref u = true -> ∀ j, (e.ap d σ).ob u j ≠ .none -> σ.ob u j = (e.ap d σ).ob u j := fun z hz ty u hr j hn =>
     Lu wb (fun vo hu => by rw [hu, tV z hz, QW (zB wb vo) (uo z hz)] at hr; cases hr) hn
    have h0 := wz σ (Qf e) (fun z hz ty => tV z (by rw [sN]; exact hz) ty) (fun z hz ty u hr j hn => vE z (by rw [sN]; exact hz) ty u hr j hn) pb
    refine ⟨Qr t dy cs v os σ, .inr ⟨wo, h0.1, h0.2, fun hh => (by rw [(UY uq).1] at hh; cases hh), fun hh => (by rw [(UY uq).2] at hh; cases hh), fun _ _ => ?_⟩, .inl ?_⟩
    ·refine ⟨dy, t, cells, cs, v, os, vn, ni, ⟨z, r, ⟨f, ts, wA⟩, ty, by rw [<- tV z oJ, <- heq]; exact oH⟩, uU, pV, pb, rfl, fun σ3 nz pR pS n7 => ?_⟩
     refine wz σ3 (by rw [Qf]; exact nz) (fun z hz ty => by rw [tV z (by rw [sN]; exact hz), pR z hz]) (fun z hz ty u hr j hn => ?_) n7
     have h1 := vE z (by rw [sN]; exact hz) ty u hr j hn
     rw [<- h1]
     exact pS z hz ty u (by rw [<- tV z (by rw [sN]; exact hz)]; exact hr) j (by rw [h1]; exact hn)
    ·rw [<- Rk w8 wD (fun _ => pa)]
     refine (hB _ (.inr rfl) ?_).1
     cases e with
     | put w => trivial
     | new w l => exact IU wb (uU d).2 (pV d (.inr wD))
     | drop a j w l => exact absurd rfl (w8 a j w l)
  ·have wK := wK.resolve_right (fun hh => by rw [wo] at hh; cases hh.1)
   rcases wx with wx | ⟨_, _, _, _, _, mG⟩
   ·obtain ⟨σ1', hy, hx⟩ := swap vX vn wD uo sL (Ta wq) (.inl uI) wh wx wK
    exact ⟨σ1', .inl hy, .inl hx⟩
   ·obtain ⟨d', t, cells, cs, v, os, wO, hb, hz, uU, pV, w9, rfl, wz⟩ := mG uq iW
    rw [vX] at wO; cases wO
    have tW := hz
    obtain ⟨z, r, ⟨f, ts, wA⟩, ty, oH⟩ := hz
    have oJ : z ∈ Q9 ops x := by rw [sO, wA]; exact QX (c := ⟨.value (.func f), ⟨z :: r⟩, ts⟩) (by simp)
    obtain ⟨e, rfl, w8, wb, hB⟩ := Mc uI vn (Ne.symm wD) uo hb w9 hp (Li hp tW) wq (.inr rfl) wK
    have oh : e.ok dy σ := by
     cases e with
     | put w => trivial
     | new w l => exact Nw hb wb wh (uU dy).1
     | drop a j w l => exact absurd rfl (w8 a j w l)
    have tV : ∀ z ∈ Q9 ops x, ∀ ty, look P (e.ap dy σ) ty z = look P σ ty z := fun z hz ty => look_eq (fun u hu => Ul e hu) (sL z hz) ty
    have r9 : ∀ z ∈ Q9 ops x, ∀ ty u, (look P σ ty z).ref u = true -> (∀ w, e ≠ .put w) -> u ≠ dy := fun z hz ty u hr vo he => by
     rw [he, QW (zB oh vo) (sL z hz)] at hr; cases hr
    have vy : (∀ w, e ≠ .put w) -> t ≠ dy := r9 z oJ ty t (Ym oH (by simp [At.ref]))
    have wZ : ∀ z ∈ Q9 ops x, ∀ ty u, (look P σ ty z).ref u = true -> ∀ j, (e.ap dy σ).ob u j = σ.ob u j := fun z hz ty u hr j => Vw w8 (r9 z hz ty u hr)
    have tE := hB σ (.inl rfl) oh
    have oo : os ≠ none -> ((e.ap dy σ).Ze t 0 (.box cs)).fresh d = true := fun hn => by
     have hf := Y0.1 (w9 hn)
     have mR : e.ref d = false := by
      cases hr : e.ref d with
      | false => rfl
      | true =>
       obtain ⟨z', uz, ld, h1 | ⟨t', wG, h1, h2, h3⟩⟩ := tE.2 d wD hr
       ·rw [<- Qb (t := t) (j := 0) (o := .box cs), QW (fun k e0 he hk => (hf.2 k e0 he hk).1) (uo z' uz)] at h1; cases h1
       ·by_cases htt : t' = t
        ·subst htt; rw [hb] at h2; cases h2; rw [(uU d).1] at h3; cases h3
        ·have pa : t' ≠ d := fun e0 => by rw [e0, og] at h2; cases h2
         obtain ⟨en, mD, mE⟩ := kW h2 (by simp)
         have := (hf.2 t' en (by rw [XA, if_neg htt]; exact mD) pa).2
         rw [VX mE h3] at this; cases this
     refine Y0.2 ⟨by have := hf.1; rw [St.YZ] at this ⊢; rwa [Qf], fun k en he hk => ?_⟩
     cases e with
     | put w =>
      simp only [Eff.ap, Jw, zQ] at he
      split at he
      ·simp only [Option.map_eq_some_iff] at he
       obtain ⟨e0, ux, rfl⟩ := he
       exact ⟨mR, (hf.2 k e0 ux hk).2⟩
      ·exact hf.2 k en he hk
     | new w l =>
      have ht := vy (by intro w h; cases h)
      simp only [Eff.ap, XA, Qy] at he
      by_cases hkt : k = t
      ·subst hkt
       simp only [if_true, if_neg ht] at he
       exact hf.2 k en (by rw [XA, if_pos rfl]; exact he) hk
      ·simp only [if_neg hkt] at he
       split at he
       ·simp only [Option.map_eq_some_iff] at he
        obtain ⟨e0, ux, rfl⟩ := he
        simp only [Eff.ref, Bool.or_eq_false_iff] at mR
        exact mR
       ·exact hf.2 k en (by rw [XA, if_neg hkt]; exact he) hk
     | drop a j w l => exact absurd rfl (w8 a j w l)
    have h0 := wz (e.ap dy σ) (Qf e).symm (fun z hz ty => (tV z (by rw [sO]; exact hz) ty).symm) (fun z hz ty u hr j _ => wZ z (by rw [sO]; exact hz) ty u hr j) oo
    have oq : e.ap dy (Qr t d cs v os σ) = Qr t d cs v os (e.ap dy σ) := by
     cases e with
     | put w => exact Rk w8 (Ne.symm wD) (fun hh => absurd rfl (hh w))
     | new w l => exact Rk w8 (Ne.symm wD) vy
     | drop a j w l => exact absurd rfl (w8 a j w l)
    refine ⟨e.ap dy σ, .inl tE.1, .inr ?_⟩
    rw [oq]
    refine ⟨vQ, h0.1, h0.2, fun hh => (by rw [(UY uq).1] at hh; cases hh), fun hh => (by rw [(UY uq).2] at hh; cases hh), fun _ _ => ?_⟩
    refine ⟨d, t, cells, cs, v, os, vX, ?_, ⟨z, r, ⟨f, ts, wA⟩, ty, by rw [tV z oJ]; exact oH⟩, uU, pV, oo, rfl, fun σ3 nz pR pS n7 => ?_⟩
    ·rw [wZ z oJ ty t (Ym oH (by simp [At.ref])) 0]; exact hb
    ·refine wz σ3 (by rw [<- nz, Qf]) (fun z hz ty => by rw [<- pR z hz, tV z (by rw [sO]; exact hz)]) (fun z hz ty u hr j hn => ?_) n7
     have h1 := wZ z (by rw [sO]; exact hz) ty u hr j
     rw [<- h1]
     exact pS z hz ty u (by rw [tV z (by rw [sO]; exact hz)]; exact hr) j (by rw [h1]; exact hn)
theorem Im {PT : List (Nat × Nat)} {σ : St} (h : ptB PT σ = true) : Wh PT σ := by
 intro p hp
 have := List.all_eq_true.1 h p hp
 split at this
 ·rename_i e; exact .inl e
 ·split at this
  ·rename_i b c e
   have hb : b = p.2 := by simpa using this
   subst hb; exact .inr ⟨c, e⟩
  ·cases this
section
variable {P : Program} {ops : Array Oper}
def M1 (P : Program) (ops : Array Oper) (bar : Oper -> Bool) : List Nat -> St -> (St -> Prop) -> Prop
 | [], σ, Q => Q σ
 | i :: rem, σ, Q => ∃ o σ', ops[i]? = some o /\ X8 P ops bar o σ σ' /\ M1 P ops bar rem σ' Q
theorem S5 {o : Oper} {σ σ' : St} {d : Nat} (hs : YF P ops o σ σ') (hd : o.dst ≠ some d) (h : Yg σ d = true) : Yg σ' d = true := by
 cases hdo : o.dst with
 | some d' =>
  have wD : d ≠ d' := fun e => hd (by rw [hdo, e])
  obtain ⟨e, rfl, _⟩ := za hdo hs
  cases e with
  | put v => unfold Yg at *; simp only [Eff.ap, zQ, if_neg wD]; exact h
  | new v os => unfold Yg at *; simp only [Eff.ap, Qy, if_neg wD]; exact h
  | drop a j v os =>
   have := QN (a := a) (j := j) (o := .none) h
   unfold Yg at *; simp only [Eff.ap, Qy, if_neg wD]; exact this
 | none =>
  unfold YF at hs
  split at hs
  ·simp only [hdo] at hs
   split at hs
   ·unfold Jc at hs
    obtain ⟨_, _, _, _, hs⟩ := hs
    split at hs
    ·obtain ⟨_, _, _, _, rfl⟩ := hs; exact QN h
    ·obtain ⟨_, _, _, _, _, _, _, _, _, _, _, rfl⟩ := hs; exact QN h
    ·exact hs.elim
   ·exact hs.elim
  ·obtain ⟨_, _, _, _, _, _, wO, _⟩ := hs
   rw [hdo] at wO; cases wO
theorem Lc {PT : List (Nat × Nat)} {i : Nat} {o : Oper} {σ σ' : St} (rU : UI ops PT = true) (hi : ops[i]? = some o) (hs : YF P ops o σ σ') (h : Wh PT σ) : Wh PT σ' := by
 have hc := List.all_eq_true.1 rU o (by rw [Array.mem_toList_iff]; exact Array.mem_of_getElem? hi)
 cases hdo : o.dst with
 | none =>
  have : ∃ t j ob, σ' = σ.Ze t j ob := by
   unfold YF at hs
   split at hs
   ·simp only [hdo] at hs
    split at hs
    ·unfold Jc at hs
     obtain ⟨_, _, _, _, hs⟩ := hs
     split at hs
     ·obtain ⟨_, _, _, _, rfl⟩ := hs; exact ⟨_, _, _, rfl⟩
     ·obtain ⟨_, _, _, _, _, _, _, _, _, _, _, rfl⟩ := hs; exact ⟨_, _, _, rfl⟩
     ·exact hs.elim
    ·exact hs.elim
   ·obtain ⟨_, _, _, _, _, _, wO, _⟩ := hs
    rw [hdo] at wO; cases wO
  obtain ⟨t, j, ob, rfl⟩ := this
  intro p hp
  rw [St.XK]; exact h p hp
 | some d =>
  intro p hp
  rw [hdo] at hc
  have hc := List.all_eq_true.1 hc p hp
  by_cases sP : p.1 = d
  ·simp only [sP, bne_self_eq_false, Bool.false_or, Bool.and_eq_true, Option.isNone_iff_eq_none] at hc
   obtain ⟨hg, hc⟩ := hc
   split at hc
   ·rename_i T r f wA
    have hr := h (r, p.2) (by simpa using hc)
    unfold YF at hs
    simp only [hg, hdo] at hs
    unfold Step at hs
    rw [wA] at hs
    obtain ⟨v, hv, rfl⟩ := hs
    simp only [Zt] at hv
    have hv := hv.2.2
    rw [Jg] at hv
    rcases hr with e | ⟨c, e⟩
    ·rw [e] at hv; exact hv.elim
    ·rw [e] at hv
     rw [St.QO, sP]
     by_cases hl : d < σ.length
     ·rw [if_pos ⟨rfl, hl⟩]; exact .inr ⟨_, by rw [hv.2]; rfl⟩
     ·rw [if_neg (fun hh => hl hh.2)]; have := h p hp; rw [sP] at this; exact this
   ·rename_i r wA
    have hr := h (r, p.2) (by simpa using hc)
    unfold YF at hs
    simp only [hg, hdo] at hs
    unfold Step at hs
    rw [wA] at hs
    obtain ⟨v, hv, rfl⟩ := hs
    simp only [Zt] at hv
    rw [Jg] at hv
    rw [St.QO, sP]
    by_cases hl : d < σ.length
    ·rw [if_pos ⟨rfl, hl⟩, hv]; exact hr
    ·rw [if_neg (fun hh => hl hh.2)]; have := h p hp; rw [sP] at this; exact this
   ·cases hc
  ·obtain ⟨e, rfl, _⟩ := za hdo hs
   have hg : ∀ σ0 : St, σ0.get p.1 = σ.get p.1 -> (σ0.get p.1 = .any \/ ∃ c, unc (σ0.get p.1) = .one (.bptr p.2 c)) := fun σ0 e => by rw [e]; exact h p hp
   cases e with
   | put v => exact hg _ (by simp only [Eff.ap]; rw [St.QO, if_neg (fun hh => sP hh.1)])
   | new v os => exact hg _ (by simp only [Eff.ap]; rw [St.qD, if_neg (fun hh => sP hh.1)])
   | drop a j v os => exact hg _ (by simp only [Eff.ap]; rw [St.qD, if_neg (fun hh => sP hh.1), St.XK])
theorem SJ {σ : St} : Rw [] [] σ := ⟨fun _ hp => absurd hp List.not_mem_nil, fun _ hp => absurd hp List.not_mem_nil⟩
theorem Hb {NB : List Nat} {σ : St} {d : Nat} {v : V} (h : RD NB σ) (hd : d ∈ NB -> ∀ b c, unc v ≠ .one (.bptr b c)) : RD NB (σ.put d v) := by
 intro t ht b c
 rw [St.QO]
 split
 ·rename_i hc; exact hd (hc.1 ▸ ht) b c
 ·exact h t ht b c
theorem I8 {NB : List Nat} {σ : St} {d : Nat} {v : V} {os : List Ob} (h : RD NB σ) (hd : d ∉ NB) : RD NB (σ.new d v os) := by
 intro t ht b c
 have wD : ¬ (t = d /\ d < σ.length) := fun hc => hd (by rw [<- hc.1]; exact ht)
 rw [St.qD, if_neg wD]
 exact h t ht b c
theorem GD {NB : List Nat} {i : Nat} {o : Oper} {σ σ' : St} (vw : Rl P ops NB = true) (hi : ops[i]? = some o) (hs : YF P ops o σ σ') (h : RD NB σ) : RD NB σ' := by
 have hc := List.all_eq_true.1 vw o (by rw [Array.mem_toList_iff]; exact Array.mem_of_getElem? hi)
 cases hdo : o.dst with
 | none =>
  have : ∃ t j ob, σ' = σ.Ze t j ob := by
   unfold YF at hs
   split at hs
   ·simp only [hdo] at hs
    split at hs
    ·unfold Jc at hs
     obtain ⟨_, _, _, _, hs⟩ := hs
     split at hs
     ·obtain ⟨_, _, _, _, rfl⟩ := hs; exact ⟨_, _, _, rfl⟩
     ·obtain ⟨_, _, _, _, _, _, _, _, _, _, _, rfl⟩ := hs; exact ⟨_, _, _, rfl⟩
     ·exact hs.elim
    ·exact hs.elim
   ·obtain ⟨_, _, _, _, _, _, wO, _⟩ := hs
    rw [hdo] at wO; cases wO
  obtain ⟨t, j, ob, rfl⟩ := this
  intro p hp
  rw [St.XK]; exact h p hp
 | some d =>
  rw [hdo] at hc
  by_cases hd : d ∈ NB
  ·have hc := List.all_eq_true.1 hc d hd
   simp only [bne_self_eq_false, Bool.false_or, Bool.and_eq_true, Option.isNone_iff_eq_none] at hc
   obtain ⟨hg, hc⟩ := hc
   split at hc
   ·rename_i T r ix wA
    unfold YF at hs
    simp only [hg, hdo] at hs
    unfold Step at hs
    rw [wA] at hs
    obtain ⟨v, hv, rfl⟩ := hs
    refine Hb h (fun _ b c => ?_)
    simp only [Zt] at hv
    obtain ⟨_, _, _, _, _, hv⟩ := hv
    split at hv
    ·obtain ⟨_, _, _, _, rfl⟩ := hv; intro e; cases e
    ·obtain ⟨_, _, _, _, rfl⟩ := hv; intro e; cases e
    ·obtain ⟨_, ⟨n, ha, _⟩, _⟩ := hv
     unfold YJ at hc
     unfold Nf at ha
     split at hc
     ·rename_i e he; rw [he] at ha; cases ha
     ·cases hc
    ·obtain ⟨_, _, _, rfl⟩ := hv; intro e; cases e
    ·exact hv.elim
   ·cases hc
  ·obtain ⟨e, rfl, _⟩ := za hdo hs
   cases e with
   | put v => exact Hb h (fun hh => absurd hh hd)
   | new v os => exact I8 h hd
   | drop a j v os =>
    refine I8 (σ := σ.Ze a j .none) (fun t ht b c => ?_) hd
    rw [St.XK]; exact h t ht b c
theorem Gd {NB : List Nat} {σ : St} (h : nbB NB σ = true) : RD NB σ := by
 intro t ht b c e
 have := List.all_eq_true.1 h t ht
 rw [e] at this; cases this
def Oe (ops : Array Oper) (pos : Nat -> Nat) (rem : List Nat) (σ : St) : Prop :=
 ∀ j ∈ rem, j9 ops pos j = true -> Lr ops j = true /\ ∃ o d, ops[j]? = some o /\ o.dst = some d /\ Yg σ d = true
theorem GK {j k : Nat} {oj ok : Oper} {d : Nat} (h : Lr ops j = true) (hj : ops[j]? = some oj) (hd : oj.dst = some d) (hk : ops[k]? = some ok) (wD : k ≠ j) : ok.dst ≠ some d := by
 unfold Lr at h
 simp only [hj, hd] at h
 have wN : k < ops.size := (Array.getElem?_eq_some_iff.1 hk).1
 have := List.all_eq_true.1 h k (List.mem_range.2 wN)
 simp only [hk, Bool.or_eq_true, beq_iff_eq, bne_iff_ne, ne_eq] at this
 exact this.resolve_left wD
theorem Nn {bar : Oper -> Bool} {o : Oper} {σ σ' : St} {d : Nat} (hs : X8 P ops bar o σ σ') (hd : o.dst ≠ some d) (h : Yg σ d = true) : Yg σ' d = true := by
 rcases hs with hs | hs
 ·exact S5 hs hd h
 ·exact hs.2.2.1 d hd h
theorem TX {pos : Nat -> Nat} {bar : Oper -> Bool} {rem pQ : List Nat} {i : Nat} {o : Oper} {σ σ' : St} (hi : ops[i]? = some o) (hs : X8 P ops bar o σ σ') (nf : i ∉ pQ) (wc : ∀ j ∈ pQ, j ∈ rem) (h : Oe ops pos rem σ) : Oe ops pos pQ σ' := by
 intro j hj hl
 obtain ⟨r7, oj, d, h1, h2, h3⟩ := h j (wc j hj) hl
 exact ⟨r7, oj, d, h1, h2, Nn hs (GK r7 h1 h2 hi (fun e => nf (e ▸ hj))) h3⟩
theorem pull {pos : Nat -> Nat} {bar : Oper -> Bool} {PT : List (Nat × Nat)} {NB : List Nat} (v3 : ∀ (i : Nat) (o : Oper) (σ σ' : St), ops[i]? = some o -> X8 P ops bar o σ σ' -> Rw PT NB σ -> Rw PT NB σ') {i : Nat} {post : List Nat} {Q : St -> Prop} {oi : Oper} (hi : ops[i]? = some oi) : ∀ {pre : List Nat} {σ : St}, (pre ++ i :: post).Nodup -> (∀ j ∈ pre, j9 ops pos j = true /\ ∃ oj, ops[j]? = some oj /\ (Ny ops bar oj oi = true \/ Nc bar oj oi = true \/ swapT PT bar oj oi = true \/ MK bar oj oi = true \/ N9 PT ops bar oj oi = true \/ Nh PT NB bar oj oi = true \/ Nz P PT ops bar oj oi = true)) -> Oe ops pos (pre ++ i :: post) σ -> Rw PT NB σ ->
  M1 P ops bar (pre ++ i :: post) σ Q -> ∃ σ', X8 P ops bar oi σ σ' /\ M1 P ops bar (pre ++ post) σ' Q
 | [], σ, _, _, _, _, h => by
  obtain ⟨o, σ', ho, hs, hr⟩ := h
  rw [hi] at ho; cases ho
  exact ⟨σ', hs, hr⟩
 | j :: pre, σ, w8, nj, wh, uA, h => by
  obtain ⟨oj, σ1, hj, wx, hr⟩ := h
  have ot := List.nodup_cons.1 w8
  obtain ⟨σ2, wK, sV⟩ := pull v3 hi (pre := pre) ot.2 (fun k hk => nj k (by simp [hk])) (TX (rem := (j :: pre) ++ i :: post) hj wx ot.1 (fun k hk => by simp only [List.cons_append, List.mem_cons]; exact .inr hk) wh) (v3 j oj σ σ1 hj wx uA) hr
  obtain ⟨hl, gw, uY, tf⟩ := nj j (by simp)
  rw [hj] at uY; cases uY
  rcases tf with tf | tf | tf | tf | tf | tf | tf
  rotate_left
  ·obtain ⟨σ1', hy, hx⟩ := Hs tf wx wK
   exact ⟨σ1', .inl hy, oj, σ2, hj, .inl hx, sV⟩
  ·obtain ⟨σ1', hy, hx⟩ := Gw tf uA.1 wx wK
   exact ⟨σ1', .inl hy, oj, σ2, hj, .inl hx, sV⟩
  ·obtain ⟨_, o', d', wV, wO, wm⟩ := wh j (by simp) hl
   rw [hj] at wV; cases wV
   obtain ⟨σ1', hy, hx⟩ := G3 tf wO wm wx wK
   exact ⟨σ1', hy, oj, σ2, hj, .inl hx, sV⟩
  ·obtain ⟨_, o', d', wV, wO, wm⟩ := wh j (by simp) hl
   rw [hj] at wV; cases wV
   obtain ⟨σ1', hy, hx⟩ := Gk tf uA.1 wO wm wx wK
   exact ⟨σ1', hy, oj, σ2, hj, hx, sV⟩
  ·obtain ⟨_, o', d', wV, wO, wm⟩ := wh j (by simp) hl
   rw [hj] at wV; cases wV
   obtain ⟨σ1', hy, hx⟩ := Gq tf uA.1 uA.2 wO wm wx wK
   exact ⟨σ1', hy, oj, σ2, hj, .inl hx, sV⟩
  ·obtain ⟨_, o', d', wV, wO, wm⟩ := wh j (by simp) hl
   rw [hj] at wV; cases wV
   obtain ⟨σ1', hy, hx⟩ := Gt tf uA.1 (v3 j oj σ σ1 hj wx uA).1 wO wm wx wK
   exact ⟨σ1', hy, oj, σ2, hj, hx, sV⟩
  obtain ⟨vQ, wo, dx, dy, h1, h2, h3, h4, h5, h6, h7⟩ := LR tf
  have wx := wx.resolve_right (fun hh => by rw [vQ] at hh; cases hh.1)
  have wK := wK.resolve_right (fun hh => by rw [wo] at hh; cases hh.1)
  obtain ⟨_, o', d', wV, wO, wm⟩ := wh j (by simp) hl
  rw [hj] at wV; cases wV
  rw [h1] at wO; cases wO
  obtain ⟨σ1', hy, hx⟩ := swap h1 h2 h3 h4 h5 h6 h7 wm wx wK
  exact ⟨σ1', .inl hy, oj, σ2, hj, .inl hx, sV⟩
end
end Go.Vm
namespace Go.Vm
open Go.RowKit
section
variable {P : Program} {ops : Array Oper} {T0 : CS} {B : Nat -> Prop}
theorem V7 {we : Array Bool} {j : Nat} (h1 : we.getD j true = false) (h2 : we.getD j false = true) : False := by
 rw [Array.getD_eq_getD_getElem?] at h1 h2
 cases h : we[j]? with
 | none => rw [h] at h1; simp at h1
 | some b => rw [h] at h1 h2; simp at h1 h2; rw [h1] at h2; cases h2
theorem P6 {pos : Nat -> Nat} {bar : Oper -> Bool} {PT : List (Nat × Nat)} {NB : List Nat} (v3 : ∀ (i : Nat) (o : Oper) (σ σ' : St), ops[i]? = some o -> X8 P ops bar o σ σ' -> Rw PT NB σ -> Rw PT NB σ') (hdr : N1 P ops pos bar PT NB (Ws ops.toList []) = true) {Qa : St -> Prop} {Q : Exit -> Act -> World -> Prop} {w0 : World} (hK : ∀ σ a w, Qa σ -> X7 T0 B σ a w -> Yj B w0 w -> Q .normal a w) :
  ∀ (fuel : Nat) (rem : List Nat) (we : Array Bool) (σ : St) (a : Act) (w : World), rem.length = fuel -> we.size = ops.size -> rem.Pairwise (fun i j => pos i < pos j) -> (∀ i, i ∈ rem ↔ we.getD i true = false) -> (∀ i ∈ rem, i < ops.size) -> (∀ m om, ops[m]? = some om -> m ∉ rem -> ∀ j, UF om j = true -> j ∉ rem) ->
   Oe ops pos rem σ -> Rw PT NB σ -> M1 P ops bar rem σ Qa -> X7 T0 B σ a w -> Yj B w0 w -> wpAny P .any ops Q fuel we a w := by
 have wz := List.all_eq_true.1 hdr
 have first : ∀ (rem : List Nat) (we : Array Bool), we.size = ops.size -> rem.Pairwise (fun i j => pos i < pos j) -> (∀ i, i ∈ rem ↔ we.getD i true = false) -> (∀ i ∈ rem, i < ops.size) -> Region.ready .any ops we = [] -> rem = [] := by
  intro rem we vL pT vD wN oP
  cases rem with
  | nil => rfl
  | cons i rem =>
   exfalso
   have hi := wN i (by simp)
   have hb := wz i (List.mem_range.2 hi)
   simp only [Bool.and_eq_true] at hb
   have ur := hb.1.1
   unfold GU at ur
   rw [Array.getElem?_eq_getElem hi] at ur
   simp only [Array.all_eq_true_iff_forall_mem, decide_eq_true_eq, Bool.and_eq_true, Bool.or_eq_true, Bool.not_eq_true'] at ur
   have : i ∈ Region.ready .any ops we := by
    refine mem_ready.2 ⟨(vD i).1 (by simp), ops[i], Array.getElem?_eq_getElem hi, fun e he n8 => ?_⟩
    have sn := (ur e he).resolve_left (by rw [n8]; simp)
    have sr := sn.1
    have mS := sn.2
    have ua : e.on ∉ i :: rem := by
     intro hm
     rcases List.mem_cons.1 hm with h | h
     ·rw [h] at sr; omega
     ·have := (List.pairwise_cons.1 pT).1 _ h; omega
    have wD : we.getD e.on true ≠ false := fun h => ua ((vD _).2 h)
    have pA : e.on < we.size := by rw [vL]; omega
    rw [Array.getD_eq_getD_getElem?, Array.getElem?_eq_getElem pA] at wD ⊢
    simpa using wD
   rw [oP] at this; cases this
 intro fuel
 induction fuel with
 | zero =>
  intro rem we σ a w hl vL pT vD wN mA wh uA wU vT hb
  have uc : rem = [] := List.eq_nil_of_length_eq_zero hl
  subst uc
  refine ⟨?_, hK σ a w wU vT hb⟩
  cases oP : Region.ready .any ops we with
  | nil => rfl
  | cons i l =>
   have hi : i ∈ Region.ready .any ops we := by rw [oP]; simp
   have := (vD i).2 (mem_ready.1 hi).1
   cases this
 | succ fuel ih =>
  intro rem we σ a w hl vL pT vD wN mA wh uA wU vT hb
  refine ⟨fun oP => ?_, fun i hi => ?_⟩
  ·have := first rem we vL pT vD wN oP
   subst this; simp at hl
  ·obtain ⟨h0, oi, pW, si⟩ := mem_ready.1 hi
   obtain ⟨pre, post, rfl⟩ := List.append_of_mem ((vD i).2 h0)
   have w8 : (pre ++ i :: post).Nodup := pT.imp (fun h e => by rw [e] at h; omega)
   have u4 : ∀ j ∈ pre, pos j < pos i := fun j hj => (List.pairwise_append.1 pT).2.2 j hj i (by simp)
   have ud : i < ops.size := wN i (by simp)
   have lj : ∀ e ∈ oi.after, Region.binds .any e = true -> e.on ∉ pre ++ i :: post := by
    intro e he n8 hm
    exact V7 ((vD e.on).1 hm) (si e he n8)
   have ou : ∀ j, j ∈ pre ++ i :: post -> UF oi j = false := by
    intro j hj
    cases hp : UF oi j with
    | false => rfl
    | true =>
     unfold UF at hp
     rw [<- Array.any_toList] at hp
     obtain ⟨e, he, wo⟩ := List.any_eq_true.1 hp
     rw [Array.mem_toList_iff] at he
     simp only [Bool.and_eq_true, beq_iff_eq] at wo
     exact (V7 ((vD j).1 hj) (by rw [<- wo.1]; exact si e he wo.2)).elim
   have sP : ∀ m j, Pre ops m j -> (∀ om, ops[m]? = some om -> ∀ k, UF om k = true -> k ∉ pre ++ i :: post) -> j ∉ pre ++ i :: post := by
    intro m j hp
    induction hp with
    | one ho hp => intro h; exact h _ ho _ hp
    | more ho hp _ ih =>
     intro h
     exact ih (fun om sU k hk => mA _ om sU (h _ ho _ hp) k hk)
   have vo : ∀ j ∈ pre, MQ ops i j = false := by
    intro j hj
    have ia : j ∈ pre ++ i :: post := by simp [hj]
    cases hq : MQ ops i j with
    | false => rfl
    | true =>
     refine absurd ia (sP i j (Ib hq) (fun om sU k hk iK => ?_))
     rw [pW] at sU; cases sU
     have := ou k iK
     rw [hk] at this; cases this
   have nj : ∀ j ∈ pre, j9 ops pos j = true /\ ∃ oj, ops[j]? = some oj /\ (Ny ops bar oj oi = true \/ Nc bar oj oi = true \/ swapT PT bar oj oi = true \/ MK bar oj oi = true \/ N9 PT ops bar oj oi = true \/ Nh PT NB bar oj oi = true \/ Nz P PT ops bar oj oi = true) := by
    intro j hj
    have lk := u4 j hj
    have pc : j < ops.size := wN j (by simp [hj])
    refine ⟨?_, ops[j], Array.getElem?_eq_getElem pc, ?_⟩
    ·unfold j9 OJ
     refine List.any_eq_true.2 ⟨i, List.mem_range.2 ud, ?_⟩
     have := vo j hj
     unfold MQ at this
     simp only [this, Bool.not_false, Bool.and_true, decide_eq_true_eq]; exact lk
    ·have := wz i (List.mem_range.2 ud)
     simp only [Bool.and_eq_true] at this
     have hp := List.all_eq_true.1 this.1.2 j (List.mem_range.2 pc)
     simp only [lk, decide_true, Bool.not_true, Bool.false_or] at hp
     unfold GN at hp
     rw [pW, Array.getElem?_eq_getElem pc] at hp
     have := vo j hj
     unfold MQ at this
     simpa [this, or_assoc] using hp
   obtain ⟨σ', hs, hr⟩ := pull v3 pW w8 nj wh uA wU
   have nf : i ∉ pre ++ post := by
    have := List.nodup_append.1 w8
    intro hm
    rcases List.mem_append.1 hm with h | h
    ·exact Nat.lt_irrefl _ (u4 i h)
    ·exact (List.nodup_cons.1 this.2.1).1 h
   have sA : ∀ j ∈ pre ++ post, j ∈ pre ++ i :: post := by
    intro j hj
    rcases List.mem_append.1 hj with h | h
    ·simp [h]
    ·simp [h]
   have key : ∀ a' w', X7 T0 B σ' a' w' -> Yj B w w' -> wpAny P .any ops Q fuel (we.setIfInBounds i true) a' w' := by
    intro a' w' oQ wS
    refine ih (pre ++ post) _ σ' a' w' (by simp at hl ⊢; omega) (by simp [vL]) ?_ (fun j => ?_) (fun j hj => wN j (sA j hj)) ?_ (TX pW hs nf sA wh) (v3 i oi σ σ' pW hs uA) hr oQ (hb.trans wS)
    ·exact pT.sublist (List.Sublist.append (List.Sublist.refl pre) (List.sublist_cons_self i post))
    ·by_cases sT : i = j
     ·subst sT
      constructor
      ·intro hm; exact absurd hm nf
      ·intro hm
       rw [Array.getD_eq_getD_getElem?] at hm
       simp [vL, ud] at hm
     ·rw [getD_set_ne true sT, <- vD j]
      simp only [List.mem_append, List.mem_cons]
      constructor
      ·rintro (h | h)
       ·exact .inl h
       ·exact .inr (.inr h)
      ·rintro (h | h | h)
       ·exact .inl h
       ·exact absurd h.symm sT
       ·exact .inr h
    ·intro m om sU hm j lb hj
     by_cases hmi : m = i
     ·subst hmi
      rw [pW] at sU; cases sU
      have := ou j (sA j hj)
      rw [lb] at this; cases this
     ·have ib : m ∉ pre ++ i :: post := by
       intro h
       rcases List.mem_append.1 h with h | h
       ·exact hm (by simp [h])
       ·rcases List.mem_cons.1 h with h | h
        ·exact hmi h
        ·exact hm (by simp [h])
      exact mA m om sU ib j lb (sA j hj)
   have wY := ku hs T0 B a w (wpAny P .any ops Q fuel (we.setIfInBounds i true)) Q vT key
   unfold wpOp
   simp only [pW]
   split
   ·rename_i hw; rw [if_pos hw] at wY; exact .inl wY
   ·rename_i hw; rw [if_neg hw] at wY; exact wY
theorem Pn {σ : St} {a : Act} {w : World} (h : X7 T0 B σ a w) : X7 T0 B σ a { w with drawn := w.drawn + 1 } := by
 obtain ⟨X, hh, r⟩ := h
 exact ⟨X, hh, r.grow (w' := { w with drawn := w.drawn + 1 }) ⟨rfl, rfl, rfl, Nat.le_refl _, fun _ _ _ => rfl⟩ (fun _ hb => hb) (fun _ hb => .inl hb)⟩
theorem Lp {bar : Oper -> Bool} {Q : St -> Prop} : ∀ {n k : Nat} {σ : St}, k + n = ops.size -> OF P ops bar (ops.toList.drop k) σ Q -> M1 P ops bar (List.range' k n) σ Q
 | 0, k, σ, hk, h => by
  rw [List.drop_eq_nil_of_le (by simp; omega)] at h
  exact h
 | n + 1, k, σ, hk, h => by
  have wN : k < ops.toList.length := by simp; omega
  rw [List.drop_eq_getElem_cons wN] at h
  obtain ⟨σ', hs, hr⟩ := h
  rw [List.range'_succ]
  exact ⟨ops.toList[k], σ', by rw [<- Array.getElem?_toList]; exact List.getElem?_eq_getElem wN, hs, Lp (by omega) hr⟩
theorem Up {bar : Oper -> Bool} {PT : List (Nat × Nat)} {NB : List Nat} {id : Nat} {Q : Exit -> St -> Prop} {σ : St} (v3 : ∀ (i : Nat) (o : Oper) (σ σ' : St), ops[i]? = some o -> X8 P ops bar o σ σ' -> Rw PT NB σ -> Rw PT NB σ') (uA : Rw PT NB σ) (hm : P.follows .mixedOrders = true) (hdr : N1 P ops (fun i => i) bar PT NB (Ws ops.toList []) = true) (wh : JY ops (fun i => i) σ = true) (h : OF P ops bar ops.toList σ (Q .normal)) : AWP P (.region id ops true) Q σ := by
 intro T0 B a w vT
 refine wp_region_any hm ?_
 have wz := List.all_eq_true.1 hdr
 refine P6 (T0 := T0) (B := B) (w0 := w) v3 hdr (Qa := Q .normal) (fun σ' a' w' hq hr hb => ⟨σ', hq, hr, hb⟩) ops.size (List.range' 0 ops.size) _ σ a _ (by simp) (by simp) ?_ (fun i => ?_) (fun i hi => by simp [List.mem_range'] at hi; omega) (fun m om sU hm => absurd (by simp only [List.mem_range'_1]; have := (Array.getElem?_eq_some_iff.1 sU).1; omega) hm) ?_ uA (Lp (by omega) (by simpa using h)) (Pn vT) ⟨rfl, rfl, rfl, Nat.le_refl _, fun _ _ => rfl⟩
 ·exact List.pairwise_lt_range'
 ·rw [Array.getD_eq_getD_getElem?, Array.getElem?_replicate]
  simp only [List.mem_range'_1]
  constructor
  ·intro hh; rw [if_pos (by omega)]; rfl
  ·intro hh
   split at hh
   ·omega
   ·cases hh
 ·intro j hj hl
  simp only [List.mem_range'_1] at hj
  have hb := wz j (List.mem_range.2 (by omega))
  simp only [Bool.and_eq_true, Bool.or_eq_true, Bool.not_eq_true'] at hb
  refine ⟨hb.2.resolve_left (by unfold j9 at hl; rw [hl]; simp), ?_⟩
  have hc := List.all_eq_true.1 wh j (List.mem_range.2 (by omega))
  unfold j9 at hl
  simp only [hl, Bool.not_true, Bool.false_or] at hc
  have wN : j < ops.size := by omega
  rw [Array.getElem?_eq_getElem wN] at hc
  simp only [Option.bind_some] at hc
  cases hd : ops[j].dst with
  | none => rw [hd] at hc; cases hc
  | some d => rw [hd] at hc; exact ⟨_, d, Array.getElem?_eq_getElem wN, hd, hc⟩
theorem MO {bar : Oper -> Bool} {id : Nat} {Q : Exit -> St -> Prop} {σ : St} (hm : P.follows .mixedOrders = true) (hdr : Te P ops (fun i => i) bar = true) (wh : JY ops (fun i => i) σ = true) (h : OF P ops bar ops.toList σ (Q .normal)) : AWP P (.region id ops true) Q σ :=
 Up (PT := []) (NB := []) (fun _ _ _ _ _ _ _ => SJ) SJ hm hdr wh h
theorem Ww {id : Nat} {σ : St} {l : List Oper} {br : Oper -> Bool} {k : Fr} (PT : List (Nat × Nat)) (hm : P.follows .mixedOrders = true) (hdr : N1 P ⟨l⟩ (fun i => i) (fun _ => false) PT [] (Ws l []) = true) (wh : JY ⟨l⟩ (fun i => i) σ = true) (rU : UI ⟨l⟩ PT = true) (hp : ptB PT σ = true) (h : @EI P σ ⟨⟨l⟩, fun _ => false⟩ ⟨l⟩ k) : @DI P id σ ⟨⟨l⟩, br⟩ k :=
 Up (bar := fun _ => false) (PT := PT) (NB := []) (fun _ _ _ _ hi hs hq => ⟨Lc rU hi (hs.resolve_right (fun hh => by cases hh.1)) hq.1, fun p hp => by cases hp⟩) ⟨Im hp, fun p hp => by cases hp⟩ hm hdr wh (X4 h)
theorem GR {id : Nat} {σ : St} {l : List Oper} {br : Oper -> Bool} {k : Fr} (hm : P.follows .mixedOrders = true) (hdr : Te P ⟨l⟩ (fun i => i) (fun _ => false) = true) (wh : JY ⟨l⟩ (fun i => i) σ = true) (h : @EI P σ ⟨⟨l⟩, fun _ => false⟩ ⟨l⟩ k) : @DI P id σ ⟨⟨l⟩, br⟩ k :=
 MO hm hdr wh (X4 h)
def Vs (bs : List Nat) (o : Oper) : Bool := match o.dst with | some d => bs.contains d | none => !bs.contains 3000001
theorem Gm {ops : Array Oper} {PT : List (Nat × Nat)} {bar : Oper -> Bool} {i : Nat} {o : Oper} {σ σ' : St} (rU : UI ops PT = true) (r6 : (ops.toList.all fun o => !bar o || jQ o || xm o || (JJ P o && Wp bar o)) = true) (hi : ops[i]? = some o) (hs : X8 P ops bar o σ σ') (h : Wh PT σ) : Wh PT σ' := by
 rcases hs with hs | ⟨hb, _, _, mH, sW, mI⟩
 ·exact Lc rU hi hs h
 ·have vD : o ∈ ops.toList := by rw [Array.mem_toList_iff]; exact Array.mem_of_getElem? hi
  have h1 := List.all_eq_true.1 r6 o vD
  simp only [hb, Bool.not_true, Bool.false_or, Bool.or_eq_true, Bool.and_eq_true] at h1
  rcases h1 with (h1 | h1) | ⟨h1, h1o⟩
  ·obtain ⟨⟨_, hg⟩, _⟩ := mH h1
   intro p hp
   rw [hg]; exact h p hp
  ·obtain ⟨d, hd, _, hg, _⟩ := sW h1
   intro p hp
   have wD : p.1 ≠ d := by
    intro e
    have hc := List.all_eq_true.1 rU o vD
    rw [hd] at hc
    have hc := List.all_eq_true.1 hc p hp
    simp only [e, bne_self_eq_false, Bool.false_or, Bool.and_eq_true] at hc
    have hc := hc.2
    unfold xm at h1
    cases wA : o.op <;> rw [wA] at h1 hc <;> first | (exact Bool.noConfusion h1) | (exact Bool.noConfusion hc)
   rw [(hg p.1 wD).1]; exact h p hp
  ·obtain ⟨d, t, cells, cs, v, os, hd, _, _, _, _, _, rfl, _⟩ := mI h1 h1o
   intro p hp
   have wD : p.1 ≠ d := by
    intro e
    have hc := List.all_eq_true.1 rU o vD
    rw [hd] at hc
    have hc := List.all_eq_true.1 hc p hp
    simp only [e, bne_self_eq_false, Bool.false_or, Bool.and_eq_true] at hc
    have hc := hc.2
    unfold JJ at h1
    cases wA : o.op <;> rw [wA] at h1 hc <;> first | (exact Bool.noConfusion h1) | (exact Bool.noConfusion hc)
   rw [Og wD]; exact h p hp
theorem Gv {ops : Array Oper} {NB : List Nat} {bar : Oper -> Bool} {i : Nat} {o : Oper} {σ σ' : St} (vw : Rl P ops NB = true) (r6 : (ops.toList.all fun o => !bar o || jQ o || xm o || (JJ P o && Wp bar o)) = true) (hi : ops[i]? = some o) (hs : X8 P ops bar o σ σ') (h : RD NB σ) : RD NB σ' := by
 rcases hs with hs | ⟨hb, _, _, mH, sW, mI⟩
 ·exact GD vw hi hs h
 ·have vD : o ∈ ops.toList := by rw [Array.mem_toList_iff]; exact Array.mem_of_getElem? hi
  have h1 := List.all_eq_true.1 r6 o vD
  simp only [hb, Bool.not_true, Bool.false_or, Bool.or_eq_true, Bool.and_eq_true] at h1
  rcases h1 with (h1 | h1) | ⟨h1, h1o⟩
  ·obtain ⟨⟨_, hg⟩, _⟩ := mH h1
   intro p hp
   rw [hg]; exact h p hp
  ·obtain ⟨d, hd, _, hg, _⟩ := sW h1
   intro p hp
   have wD : p ≠ d := by
    intro e
    have hc := List.all_eq_true.1 vw o vD
    rw [hd] at hc
    have hc := List.all_eq_true.1 hc p hp
    simp only [e, bne_self_eq_false, Bool.false_or, Bool.and_eq_true] at hc
    have hc := hc.2
    unfold xm at h1
    cases wA : o.op <;> rw [wA] at h1 hc <;> first | (exact Bool.noConfusion h1) | (exact Bool.noConfusion hc)
   rw [(hg p wD).1]; exact h p hp
  ·obtain ⟨d, t, cells, cs, v, os, hd, _, _, _, _, _, rfl, _⟩ := mI h1 h1o
   intro p hp
   have wD : p ≠ d := by
    intro e
    have hc := List.all_eq_true.1 vw o vD
    rw [hd] at hc
    have hc := List.all_eq_true.1 hc p hp
    simp only [e, bne_self_eq_false, Bool.false_or, Bool.and_eq_true] at hc
    have hc := hc.2
    unfold JJ at h1
    cases wA : o.op <;> rw [wA] at h1 hc <;> first | (exact Bool.noConfusion h1) | (exact Bool.noConfusion hc)
   rw [Og wD]; exact h p hp
theorem jv {id : Nat} {σ : St} {l : List Oper} {br : Oper -> Bool} {k : Fr} (PT : List (Nat × Nat)) (NB bs : List Nat) (hm : P.follows .mixedOrders = true) (hdr : N1 P ⟨l⟩ (fun i => i) (Vs bs) PT NB (Ws l []) = true) (wh : JY ⟨l⟩ (fun i => i) σ = true) (rU : UI ⟨l⟩ PT = true) (hp : ptB PT σ = true) (vw : Rl P ⟨l⟩ NB = true) (nx : nbB NB σ = true) (r6 : (l.all fun o => !Vs bs o || jQ o || xm o || (JJ P o && Wp (Vs bs) o)) = true) (h : @EI P σ ⟨⟨l⟩, Vs bs⟩ ⟨l⟩ k) : @DI P id σ ⟨⟨l⟩, br⟩ k :=
 Up (bar := Vs bs) (PT := PT) (NB := NB) (fun _ _ _ _ hi hs hq => ⟨Gm rU r6 hi hs hq.1, Gv vw r6 hi hs hq.2⟩) ⟨Im hp, Gd nx⟩ hm hdr wh (X4 h)
theorem G7 {id : Nat} {σ : St} {l : List Oper} {br : Oper -> Bool} {k : Fr} (bs : List Nat) (hm : P.follows .mixedOrders = true) (hdr : Vm.Te P ⟨l⟩ (fun i => i) (Vs bs) = true) (wh : JY ⟨l⟩ (fun i => i) σ = true) (h : @EI P σ ⟨⟨l⟩, Vs bs⟩ ⟨l⟩ k) : @DI P id σ ⟨⟨l⟩, br⟩ k :=
 MO hm hdr wh (X4 h)
def pwB (pos : Nat -> Nat) : List Nat -> Bool
 | [] => true
 | i :: r => r.all (fun j => decide (pos i < pos j)) && pwB pos r
theorem Hf {pos : Nat -> Nat} : ∀ {l : List Nat}, pwB pos l = true -> l.Pairwise (fun i j => pos i < pos j)
 | [], _ => .nil
 | i :: r, h => by
  simp only [pwB, Bool.and_eq_true, List.all_eq_true, decide_eq_true_eq] at h
  exact .cons h.1 (Hf h.2)
def posOf : List Nat -> Nat -> Nat
 | [], _ => 0
 | i :: r, k => if i == k then 0 else posOf r k + 1
def GA (n : Nat) (ord : List Nat) : Bool := ord.length == n && pwB (posOf ord) ord && ord.all (fun i => decide (i < n)) && (List.range n).all (fun i => ord.contains i)
@[reducible] def Gn : List Oper -> Nat -> Oper -> Oper
 | [], _, d => d
 | o :: _, 0, _ => o
 | _ :: l, i + 1, d => Gn l i d
@[reducible] def HK (l : List Oper) (d : Oper) : List Nat -> List Oper
 | [] => []
 | i :: r => Gn l i d :: HK l d r
theorem Ns {d : Oper} : ∀ {l : List Oper} {i : Nat}, i < l.length -> l[i]? = some (Gn l i d)
 | [], i, h => by simp at h
 | o :: l, 0, _ => rfl
 | o :: l, i + 1, h => by simpa using Ns (l := l) (i := i) (by simpa using h)
theorem Pl {bar : Oper -> Bool} {Q : St -> Prop} {l : List Oper} {d : Oper} : ∀ {ord : List Nat} {σ : St}, (∀ i ∈ ord, i < l.length) -> OF P l.toArray bar (HK l d ord) σ Q -> M1 P l.toArray bar ord σ Q
 | [], σ, _, h => h
 | i :: r, σ, hi, h => by
  obtain ⟨σ', hs, hr⟩ := h
  exact ⟨_, σ', by rw [List.getElem?_toArray]; exact Ns (hi i (by simp)), hs, Pl (fun j hj => hi j (by simp [hj])) hr⟩
theorem L1 {bar : Oper -> Bool} {id : Nat} {Q : Exit -> St -> Prop} {σ : St} {ord : List Nat} (hm : P.follows .mixedOrders = true) (ho : GA ops.size ord = true) (hdr : Te P ops (posOf ord) bar = true) (wh : JY ops (posOf ord) σ = true) (h : M1 P ops bar ord σ (Q .normal)) : AWP P (.region id ops true) Q σ := by
 intro T0 B a w vT
 refine wp_region_any hm ?_
 have wz := List.all_eq_true.1 hdr
 simp only [GA, Bool.and_eq_true, beq_iff_eq, List.all_eq_true, decide_eq_true_eq, List.mem_range, List.contains_iff_mem] at ho
 obtain ⟨⟨⟨o1, o2⟩, o3⟩, o4⟩ := ho
 refine P6 (T0 := T0) (B := B) (w0 := w) (PT := []) (NB := []) (fun _ _ _ _ _ _ _ => SJ) hdr (Qa := Q .normal) (fun σ' a' w' hq hr hb => ⟨σ', hq, hr, hb⟩) ops.size ord _ σ a _ o1 (by simp) (Hf o2) (fun i => ?_) o3 (fun m om sU hm => absurd (o4 m (Array.getElem?_eq_some_iff.1 sU).1) hm) ?_ SJ h (Pn vT) ⟨rfl, rfl, rfl, Nat.le_refl _, fun _ _ => rfl⟩
 ·rw [Array.getD_eq_getD_getElem?, Array.getElem?_replicate]
  constructor
  ·intro hh; rw [if_pos (o3 i hh)]; rfl
  ·intro hh
   split at hh
   ·rename_i wN; exact o4 i wN
   ·cases hh
 ·intro j hj hl
  have nk := o3 j hj
  have hb := wz j (List.mem_range.2 nk)
  simp only [Bool.and_eq_true, Bool.or_eq_true, Bool.not_eq_true'] at hb
  refine ⟨hb.2.resolve_left (by unfold j9 at hl; rw [hl]; simp), ?_⟩
  have hc := List.all_eq_true.1 wh j (List.mem_range.2 nk)
  unfold j9 at hl
  simp only [hl, Bool.not_true, Bool.false_or] at hc
  rw [Array.getElem?_eq_getElem nk] at hc
  simp only [Option.bind_some] at hc
  cases hd : ops[j].dst with
  | none => rw [hd] at hc; cases hc
  | some d => rw [hd] at hc; exact ⟨_, d, Array.getElem?_eq_getElem nk, hd, hc⟩
theorem P7 {id : Nat} {σ : St} {o : Oper} {l : List Oper} {br : Oper -> Bool} {k : Fr} (ord : List Nat) (hm : P.follows .mixedOrders = true) (ho : GA (o :: l).length ord = true) (hdr : Te P ⟨o :: l⟩ (posOf ord) (fun _ => false) = true) (wh : JY ⟨o :: l⟩ (posOf ord) σ = true)
  (h : @EI P σ ⟨⟨o :: l⟩, fun _ => false⟩ ⟨HK (o :: l) o ord⟩ k) : @DI P id σ ⟨⟨o :: l⟩, br⟩ k := by
 have h2 : ∀ i ∈ ord, i < (o :: l).length := by
  simp only [GA, Bool.and_eq_true, List.all_eq_true, decide_eq_true_eq] at ho
  exact ho.1.2
 exact L1 hm ho hdr wh (Pl h2 (X4 h))
end
end Go.Vm
