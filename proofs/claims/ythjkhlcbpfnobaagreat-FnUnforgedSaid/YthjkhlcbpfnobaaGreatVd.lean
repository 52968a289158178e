/- An abstract machine Mj the model of Go, by value, and that it is sound: part Vd. No condition. -/
import Derived.Test.YthjkhlcbpfnobaaGreatVc
import Derived.Orders
set_option linter.unusedVariables false
set_option linter.unusedSimpArgs false
namespace Go.Vm
open Go.RowKit
variable {σ σ1 σ' σ2 A : St} {P : Program} {d u id t i j size b dx dy : Nat} {v : V} {o y oi : Oper} {x z : Operand} {l : List Oper} {op : BinOp} {k : Fr} {c : Call} {q : Bool} {f : FuncId} {n : Int} {a : Act}
structure Sub (P : Program) (xs : List Operand) (σ1 σ : St) : Prop where
 len : σ1.length = σ.length
 look : ∀ x ∈ xs, ∀ ty, look P σ1 ty x = look P σ ty x
 ob : ∀ x ∈ xs, ∀ ty u, (Vm.look P σ1 ty x).ref u = true -> ∀ j, σ1.ob u j ≠ .none -> σ.ob u j = σ1.ob u j
theorem QX {x : At} (h : unc v = .one x) (hx : x.ref u = true) : v.ref u = true := by
 cases v with
 | cnd g y => simp only [unc] at h; subst h; simp only [V.ref, V.N5, Bool.or_eq_true]; exact .inl hx
 | one y => simp only [unc] at h; cases h; exact hx
 | any => simp [unc] at h
 | agg xs => simp [unc] at h
 | tup xs => simp [unc] at h
 | fix g y => simp only [unc] at h; subst h; simp only [V.ref, V.N5, Bool.or_eq_true]; exact .inl hx
theorem Ow {xs : List At} (h : unc v = .agg xs) (hx : YW u xs = true) : v.ref u = true := by
 cases v with
 | cnd g y => simp only [unc] at h; subst h; simp only [V.ref, V.N5, Bool.or_eq_true]; exact .inl hx
 | agg y => simp only [unc] at h; cases h; exact hx
 | any => simp [unc] at h
 | one xs => simp [unc] at h
 | tup xs => simp [unc] at h
 | fix g y => simp only [unc] at h; subst h; simp only [V.ref, V.N5, Bool.or_eq_true]; exact .inl hx
theorem VU (hx : YW u (unc v).cells = true) : v.ref u = true := by
 cases h : unc v with
 | one x => rw [h] at hx; simp [V.cells, YW] at hx; exact QX h hx
 | agg xs => rw [h] at hx; exact Ow h hx
 | any => rw [h] at hx; simp [V.cells, YW] at hx
 | tup xs => rw [h] at hx; simp [V.cells, YW] at hx
 | cnd g x => rw [h] at hx; simp [V.cells, YW] at hx
 | fix u x => rw [h] at hx; simp [V.cells, YW] at hx
theorem Sub.same {xs : List Operand} {ty : TypeId} {a : At} {o : Ob} (h : Sub P xs σ1 σ) (hx : x ∈ xs) (hv : unc (Vm.look P σ ty x) = .one a) (ha : a.ref u = true) (ho : σ1.ob u j = o) (hn : o ≠ .none) : σ.ob u j = o := by
 rw [<- ho]
 refine h.ob x hx ty u ?_ j (by rw [ho]; exact hn)
 rw [h.look x hx ty]
 exact QX hv ha
theorem qA {xs : List Operand} {k : IntKind} (h : Sub P xs σ1 σ) (hx : x ∈ xs) (hl : Vq P σ1 x k n) : Vq P σ x k n := by
 unfold Vq at *
 rw [<- h.look x hx]; exact hl
theorem EY {xs : List Operand} {df n : Nat} {x : Option Operand} (h : Sub P xs σ1 σ) (hx : ∀ y, x = some y -> y ∈ xs) (hl : bnd P σ1 df x n) : bnd P σ df x n := by
 cases x with
 | none => exact hl
 | some x =>
  simp only [bnd] at *
  rw [<- h.look x (hx x rfl)]; exact hl
theorem Nv {T : TypeId} : ∀ {ps : List (Nat × Operand)} {z out : List At}, Sub P (ps.map (·.2)) σ1 σ -> TW P σ1 T ps z out -> TW P σ T ps z out
 | [], _, _, _, h => h
 | (i, x) :: ps, z, out, hs, h => by
  have e := hs.look x zAF
  simp only [TW] at h ⊢
  rw [<- e]
  refine ⟨h.1, h.2.1, h.2.2.1, h.2.2.2.1, h.2.2.2.2.1, Nv ⟨hs.len, fun y hy => hs.look y zBH, fun y hy => hs.ob y zBH⟩ h.2.2.2.2.2⟩
theorem Wm {op : Op} {ty : TypeId} (hs : Ya P σ1 op ty v) (h : Sub P op.operands.toList σ1 σ) : Ya P σ op ty v := by
 cases op <;> simp only [Ya] at hs ⊢
 case move x => rw [<- h.look x zAa]; exact hs
 case assign x => rw [<- h.look x zAa]; exact hs
 case pick c a b =>
  rw [<- h.look c zAa, <- h.look a zAa, <- h.look b zAa]; exact hs
 case load T x =>
  rw [h.look x zAa] at hs
  refine ⟨hs.1, hs.2.1, ?_⟩
  have lK := hs.2.2
  split at lK
  ·rename_i t c hx
   obtain ⟨cells, ho, hr⟩ := lK
   exact ⟨cells, h.same zAa hx zAs ho zAF, hr⟩
  ·rename_i t j i c hx
   obtain ⟨q, size, rows, ho, hr⟩ := lK
   exact ⟨q, size, rows, h.same zAa hx zAs ho zAF, hr⟩
  ·exact lK
  ·rename_i t j i c k hx
   obtain ⟨size, rows, s, ho, hr⟩ := lK
   exact ⟨size, rows, s, h.same zAa hx zAs ho zAF, hr⟩
  ·exact lK.elim
 case nilCheck x =>
  rw [h.look x zAa] at hs
  refine ⟨hs.1, ?_⟩
  have lK := hs.2
  split at lK
  ·rename_i t c hx
   obtain ⟨⟨cells, ho⟩, hr⟩ := lK
   exact ⟨⟨cells, h.same zAa hx zAs ho zAF⟩, hr⟩
  ·exact lK.elim
 case fieldAddr T x f =>
  rw [h.look x zAa] at hs
  refine ⟨hs.1, hs.2.1, ?_⟩
  have lK := hs.2.2
  split at lK
  ·rename_i t c hx
   obtain ⟨⟨cells, ho⟩, hr⟩ := lK
   exact ⟨⟨cells, h.same zAa hx zAs ho zAF⟩, hr⟩
  ·rename_i t j i c hx
   obtain ⟨⟨q, size, rows, ho⟩, hr⟩ := lK
   exact ⟨⟨q, size, rows, h.same zAa hx zAs ho zAF⟩, hr⟩
  ·exact lK
  ·rename_i t j i c k hx
   obtain ⟨⟨size, rows, ho⟩, hr⟩ := lK
   exact ⟨⟨size, rows, h.same zAa hx zAs ho zAF⟩, hr⟩
  ·exact lK.elim
 case indexAddr T x ix =>
  obtain ⟨k, i, hk, h0, hg, lK⟩ := hs
  rw [h.look x zAa] at hg lK
  refine ⟨k, i, qA h zAa hk, h0, hg, ?_⟩
  split at lK
  ·exact lK
  ·rename_i t j lo len hx
   obtain ⟨h1, h2, ⟨q, rows, ho⟩, hr⟩ := lK
   exact ⟨h1, h2, ⟨q, rows, h.same zAa hx zAs ho zAF⟩, hr⟩
  ·rename_i t c hx
   obtain ⟨⟨cells, ho⟩, hr⟩ := lK
   exact ⟨⟨cells, h.same zAa hx zAs ho zAF⟩, hr⟩
  ·rename_i t j m c hx
   obtain ⟨h1, h2, ⟨size, rows, s, ho, hr⟩, hv⟩ := lK
   exact ⟨h1, h2, ⟨size, rows, s, h.same zAa hx zAs ho zAF, hr⟩, hv⟩
  ·exact lK.elim
 case index T x ix =>
  obtain ⟨k, i, hk, h0, hg, lK⟩ := hs
  rw [h.look x zAa] at hg lK
  exact ⟨k, i, qA h zAa hk, h0, hg, lK⟩
 case slice T x lo hi mx =>
  cases mx with
  | some m => exact hs.elim
  | none =>
   simp only at hs ⊢
   rw [h.look x zAa] at hs
   refine ⟨hs.1, ?_⟩
   have lK := hs.2
   have b1 : ∀ df n, bnd P σ1 df lo n -> bnd P σ df lo n := fun df n => EY h (fun y hy => by subst hy; simp [Op.operands])
   have b2 : ∀ df n, bnd P σ1 df hi n -> bnd P σ df hi n := fun df n => EY h (fun y hy => by subst hy; simp [Op.operands])
   split at lK
   ·obtain ⟨h1, l, hh, h2, h3, hr⟩ := lK
    exact ⟨h1, l, hh, b1 _ _ h2, b2 _ _ h3, hr⟩
   ·obtain ⟨h1, h1', l, hh, h2, h3, hr⟩ := lK
    exact ⟨h1, h1', l, hh, b1 _ _ h2, b2 _ _ h3, hr⟩
   ·rename_i t j o len hx
    obtain ⟨h1, ⟨q, rows, ho⟩, l, hh, h2, h3, hr⟩ := lK
    exact ⟨h1, ⟨q, rows, h.same zAa hx zAs ho zAF⟩, l, hh, b1 _ _ h2, b2 _ _ h3, hr⟩
   ·exact lK.elim
 case binOp op T x y yt =>
  rw [<- h.look x zAa, <- h.look y zAa]; exact hs
 case unOp op T x => rw [<- h.look x zAa]; exact hs
 case convert S T x => rw [<- h.look x zAa]; exact hs
 case extract x i => rw [<- h.look x zAa]; exact hs
 case field T x f => rw [<- h.look x zAa]; exact hs
 case build T parts =>
  obtain ⟨h1, h2, z, out, h3, h4, h5⟩ := hs
  refine ⟨h1, h2, z, out, h3, Nv ?_ h4, h5⟩
  simpa [Op.operands] using h
 case call c =>
  obtain ⟨cal, args, eO⟩ := c
  have hm : ∀ x ∈ args.toList, x ∈ (Op.operands (.call ⟨cal, args, eO⟩)).toList := by
   intro x hx
   simp only [Op.operands, Call.operands]
   cases cal <;> simp at hx ⊢ <;> simp [hx]
  split at hs
  ·rename_i x t hc ha ht
   rw [h.look x (hm x zBW)] at hs
   try simp only [hc, ha, ht]
   refine ⟨hs.1, ?_⟩
   have lK := hs.2
   split at lK
   ·exact lK
   ·exact lK
   ·exact lK
   ·rename_i u j lo len hx
    obtain ⟨h1, ⟨q, size, rows, ho⟩ | ⟨size, rows, ho⟩, hr⟩ := lK
    ·exact ⟨h1, .inl ⟨q, size, rows, h.same (hm x zBW) hx zAs ho zAF⟩, hr⟩
    ·exact ⟨h1, .inr ⟨size, rows, h.same (hm x zBW) hx zAs ho zAF⟩, hr⟩
   ·rename_i u j i c hx
    obtain ⟨h1, size, rows, n, s, ho, hr⟩ := lK
    exact ⟨h1, size, rows, n, s, h.same (hm x zBW) hx zAs ho zAF, hr⟩
   ·exact lK.elim
  ·rename_i x y hc ha
   try simp only [hc, ha]
   obtain ⟨k, m, n, h1, h2, h3⟩ := hs
   exact ⟨k, m, n, qA h (hm x zBW) h1, qA h (hm y zBW) h2, h3⟩
  ·rename_i x y hc ha
   try simp only [hc, ha]
   obtain ⟨k, m, n, h1, h2, h3⟩ := hs
   exact ⟨k, m, n, qA h (hm x zBW) h1, qA h (hm y zBW) h2, h3⟩
  ·exact hs.elim
open Go.RowKit
variable {ys : List Operand} {news res r : List (List D)}
def ME (P : Program) (xs : List Operand) (σ : St) (u : Nat) : Prop :=
 ∃ x ∈ xs, ∃ ty, (look P σ ty x).ref u = true \/ ∃ t cells, (look P σ ty x).ref t = true /\ σ.ob t 0 = .box cells /\ YW u cells = true
theorem z7 {u : Nat} : ∀ {xs : List At}, YW u xs = true ↔ ∃ x ∈ xs, x.ref u = true
 | [] => by simp [YW]
 | x :: xs => by simp [YW, z7]
theorem Af {xs ys : List At} (h : ∀ x ∈ xs, x ∈ ys) (hx : YW u xs = true) : YW u ys = true := by
 obtain ⟨x, h1, h2⟩ := z7.1 hx
 exact z7.2 ⟨x, h x h1, h2⟩
theorem Oi {a : Nat} {xs : List At} (hx : YW u (cut xs a b) = true) : YW u xs = true :=
 Af (fun _ h => List.mem_of_mem_drop (List.mem_of_mem_take h)) hx
theorem UI (xs : List D) : YW u (xs.map .d) = false := by
 induction xs with
 | nil => rfl
 | cons x xs ih => simp [YW, At.ref, ih]
theorem Pk {T : TypeId} {xs : List At} (h : (ldV P T xs).ref u = true) : YW u xs = true := by
 unfold ldV at h
 split at h
 ·exact h
 ·split at h
  ·simpa [V.ref, YW] using h
  ·simp [V.ref] at h
theorem vY {o : Nat} {r xs : List At} (h : YW u (place r o xs) = true) : YW u r = true \/ YW u xs = true := by
 obtain ⟨x, h1, h2⟩ := z7.1 h
 simp only [place, List.mem_append] at h1
 rcases h1 with (h1 | h1) | h1
 ·exact .inl (z7.2 ⟨x, List.mem_of_mem_take h1, h2⟩)
 ·exact .inr (z7.2 ⟨x, h1, h2⟩)
 ·exact .inl (z7.2 ⟨x, List.mem_of_mem_drop h1, h2⟩)
theorem sy (h : (unc v).ref u = true) (hc : ∀ g x, unc v ≠ .cnd g x) (hf : ∀ g x, unc v ≠ .fix g x) : v.ref u = true := by
 cases v with
 | cnd g x =>
  simp only [unc] at h hc hf
  simp only [V.ref, Bool.or_eq_true]
  cases x with
  | tup xs => exact .inr h
  | cnd g y => exact absurd rfl (hc g y)
  | fix g y => exact absurd rfl (hf g y)
  | one x => exact .inl h
  | agg x => exact .inl h
  | any => exact .inl h
 | fix g x =>
  simp only [unc] at h hc hf
  simp only [V.ref, Bool.or_eq_true]
  cases x with
  | tup xs => exact .inr h
  | cnd g y => exact absurd rfl (hc g y)
  | fix g y => exact absurd rfl (hf g y)
  | one x => exact .inl h
  | agg x => exact .inl h
  | any => exact .inl h
 | _ => exact h
theorem GH {u t j i : Nat} : ∀ {c : Nat} {xs : List D}, YW u (W9 t j i c xs) = true -> u = t
 | _, [], h => by simp [W9, YW] at h
 | c, x :: xs, h => by
  simp only [W9, YW, Bool.or_eq_true] at h
  rcases h with h | h
  ·cases x <;> simp [At.ref] at h; exact h.symm
  ·exact GH h
theorem Ah {c : Nat} {xs : List D} (h : YW u (SC q t j i c xs) = true) : u = t := by
 cases q with
 | true => exact GH h
 | false => simp only [SC] at h; rw [UI] at h; cases h
theorem Cd {k : IntKind} {x y : Int} (h : GS op k x y v) (u : Nat) : v.ref u = false := by
 cases op <;> simp only [GS] at h <;> first | (subst h; rfl) | (obtain ⟨_, rfl⟩ := h; rfl) | exact h.elim
theorem C8 {x y : ByteArray} (h : FA op x y v) (u : Nat) : v.ref u = false := by
 cases op <;> simp only [FA] at h <;> first | (subst h; rfl) | (obtain ⟨_, rfl⟩ := h; rfl) | exact h.elim
theorem D7 {x y : Bool} (h : MB op x y v) (u : Nat) : v.ref u = false := by
 cases op <;> simp only [MB] at h <;> first | (subst h; rfl) | (obtain ⟨_, rfl⟩ := h; rfl) | exact h.elim
theorem wB {T : TypeId} {x y : V} (h : BZ P op T x y v) (u : Nat) : v.ref u = false := by
 unfold BZ at h
 split at h
 ·exact Cd h.2 u
 ·exact C8 h u
 ·exact D7 h.2 u
 ·obtain ⟨_, q, _, ⟨_, rfl⟩ | ⟨_, rfl⟩⟩ := h <;> rfl
 ·exact h.elim
theorem E1 {u : Nat} : ∀ {xs : List V} {i : Nat} {v : V}, xs[i]? = some v -> v.N5 u = true -> Tp u xs = true
 | [], _, _, h, _ => by simp at h
 | x :: xs, 0, v, h, hr => by simp at h; subst h; simp [Tp, hr]
 | x :: xs, i + 1, v, h, hr => by simp only [Tp, Bool.or_eq_true]; exact .inr (E1 zBd hr)
theorem E4 (hf : v.flat = true) (u : Nat) : v.ref u = v.N5 u := by
 cases v <;> first | rfl | (simp [V.flat] at hf)
theorem GG {P : Program} {σ : St} {T : TypeId} {u : Nat} : ∀ {ps : List (Nat × Operand)} {z out : List At}, TW P σ T ps z out -> YW u out = true ->
  YW u z = true \/ ∃ x ∈ ps.map (·.2), ∃ ty, (look P σ ty x).ref u = true
 | [], z, out, h, hr => by simp only [TW] at h; subst h; exact .inl hr
 | (i, x) :: ps, z, out, h, hr => by
  simp only [TW] at h
  rcases GG h.2.2.2.2.2 hr with h1 | ⟨y, hy, ty, h1⟩
  ·rcases vY h1 with h1 | h1
   ·exact .inl h1
   ·exact .inr ⟨x, zAF, _, VU h1⟩
  ·exact .inr ⟨y, by simp at hy ⊢; exact .inr hy, ty, h1⟩
theorem M8 {op : Op} {ty : TypeId} (hs : Ya P σ op ty v) (hr : v.ref u = true) : ME P op.operands.toList σ u := by
 have nod : ∀ {x : D}, v = .one (.d x) -> False := by intro x e; rw [e] at hr; cases hr
 cases op <;> simp only [Ya] at hs
 case move x => subst hs; exact ⟨x, by simp [Op.operands], ty, .inl hr⟩
 case assign x => subst hs; exact ⟨x, by simp [Op.operands], ty, .inl hr⟩
 case pick c a b => obtain ⟨bc, p, q, _, _, _, _, _, _, rfl⟩ := hs; cases hr
 case load T x =>
  have lK := hs.2.2
  split at lK
  ·rename_i t c hx
   obtain ⟨cells, ho, _, rfl⟩ := lK
   exact ⟨x, by simp [Op.operands], 0, .inr ⟨t, cells, QX hx zAs, ho, Oi (Pk hr)⟩⟩
  ·rename_i t j i c hx
   obtain ⟨q, size, rows, _, _, _, rfl⟩ := lK
   have := Ah (Pk hr)
   exact ⟨x, by simp [Op.operands], 0, .inl (QX hx (by simp [At.ref, this]))⟩
  ·obtain ⟨_, rfl⟩ := lK
   have := Pk hr; rw [UI] at this; cases this
  ·obtain ⟨_, _, _, _, _, _, _, _, _, rfl⟩ := lK
   have := Pk hr; rw [UI] at this; cases this
  ·exact lK.elim
 case nilCheck x =>
  have lK := hs.2
  split at lK
  ·rename_i t c hx
   obtain ⟨_, rfl⟩ := lK
   exact ⟨x, by simp [Op.operands], 0, .inl (QX hx hr)⟩
  ·exact lK.elim
 case fieldAddr T x f =>
  have lK := hs.2.2
  split at lK
  ·rename_i t c hx
   obtain ⟨_, rfl⟩ := lK
   exact ⟨x, by simp [Op.operands], 0, .inl (QX hx hr)⟩
  ·rename_i t j i c hx
   obtain ⟨_, rfl⟩ := lK
   exact ⟨x, by simp [Op.operands], 0, .inl (QX hx hr)⟩
  ·subst lK; cases hr
  ·rename_i t j i c k hx
   obtain ⟨_, rfl⟩ := lK
   exact ⟨x, by simp [Op.operands], 0, .inl (QX hx hr)⟩
  ·exact lK.elim
 case indexAddr T x ix =>
  obtain ⟨k, i, _, _, _, lK⟩ := hs
  split at lK
  ·obtain ⟨_, _, _, _, rfl⟩ := lK; cases hr
  ·rename_i t j lo len hx
   obtain ⟨_, _, _, _, rfl⟩ := lK
   exact ⟨x, by simp [Op.operands], 0, .inl (QX hx hr)⟩
  ·rename_i t c hx
   obtain ⟨_, _, rfl⟩ := lK
   exact ⟨x, by simp [Op.operands], 0, .inl (QX hx hr)⟩
  ·rename_i t j m c hx
   obtain ⟨_, _, _, rfl⟩ := lK
   exact ⟨x, by simp [Op.operands], 0, .inl (QX hx hr)⟩
  ·exact lK.elim
 case index T x ix =>
  obtain ⟨k, i, _, _, _, lK⟩ := hs
  split at lK
  ·obtain ⟨_, _, rfl⟩ := lK; cases hr
  ·rename_i xs hx
   obtain ⟨_, _, _, rfl⟩ := lK
   exact ⟨x, by simp [Op.operands], 0, .inl (Ow hx (Oi (Pk hr)))⟩
  ·exact lK.elim
 case slice T x lo hi mx =>
  cases mx with
  | some m => exact hs.elim
  | none =>
   simp only at hs
   have lK := hs.2
   split at lK
   ·obtain ⟨_, _, _, _, _, _, _, rfl⟩ := lK; cases hr
   ·obtain ⟨_, _, _, _, _, _, _, _, rfl⟩ := lK; cases hr
   ·rename_i t j o len hx
    obtain ⟨_, _, _, _, _, _, _, _, rfl⟩ := lK
    exact ⟨x, by simp [Op.operands], 0, .inl (QX hx hr)⟩
   ·exact lK.elim
 case binOp op T x y yt => rw [wB hs.2.2 u] at hr; cases hr
 case unOp op T x =>
  have lK := hs.2
  split at lK
  ·subst lK; cases hr
  ·subst lK; cases hr
  ·exact lK.elim
 case convert S T x =>
  have lK := hs.2.2
  split at lK
  ·obtain ⟨_, _, rfl⟩ := lK; cases hr
  ·exact lK.elim
 case extract x i =>
  have lK := hs.2
  split at lK
  ·rename_i xs hx
   refine ⟨x, by simp [Op.operands], 0, .inl (sy ?_ (by rw [hx]; simp) (by rw [hx]; simp))⟩
   rw [hx]
   rw [E4 lK.2] at hr
   exact E1 lK.1 hr
  ·exact lK.elim
 case field T x f =>
  have lK := hs.2.2.2
  split at lK
  ·rename_i xs hx
   obtain ⟨_, rfl⟩ := lK
   exact ⟨x, by simp [Op.operands], 0, .inl (Ow hx (Oi (Pk hr)))⟩
  ·exact lK.elim
 case build T parts =>
  obtain ⟨_, _, z, out, h3, h4, rfl⟩ := hs
  rcases GG h4 hr with h1 | ⟨x, hx, ty', h1⟩
  ·rw [O0 u _ _ _ h3] at h1; cases h1
  ·exact ⟨x, by simpa [Op.operands] using hx, ty', .inl h1⟩
 case call c =>
  split at hs
  ·have lK := hs.2
   split at lK
   ·obtain ⟨_, rfl⟩ := lK; cases hr
   ·obtain ⟨_, rfl⟩ := lK; cases hr
   ·obtain ⟨_, rfl⟩ := lK; cases hr
   ·obtain ⟨_, _, rfl⟩ := lK; cases hr
   ·obtain ⟨_, _, _, _, _, _, _, _, rfl⟩ := lK; cases hr
   ·exact lK.elim
  ·obtain ⟨_, _, _, _, _, rfl⟩ := hs; cases hr
  ·obtain ⟨_, _, _, _, _, rfl⟩ := hs; cases hr
  ·exact hs.elim
open Go.RowKit
inductive Eff where
 | put (v : V)
 | new (v : V) (os : List Ob)
 | drop (t j : Nat) (v : V) (os : List Ob)
variable {e : Eff}
def Eff.ap (d : Nat) : Eff -> St -> St
 | .put v, σ => σ.put d v
 | .new v os, σ => σ.new d v os
 | .drop t j v os, σ => (σ.Zu t j .none).new d v os
def Eff.ok (d : Nat) : Eff -> St -> Prop
 | .put _, _ => True
 | .new _ _, σ => σ.fresh d = true
 | .drop t j _ _, σ => (∃ q s r, σ.ob t j = .arr q s r) /\ (σ.Zu t j .none).fresh d = true
def Eff.ref (u : Nat) : Eff -> Bool
 | .put v => v.ref u
 | .new v os => v.ref u || Y6 u os
 | .drop _ _ v os => v.ref u || Y6 u os
def UP (o : Oper) : Bool :=
 match o.op with
 | .call ⟨.builtin .append, ⟨.const _ :: _⟩, _⟩ => false
 | .call ⟨.builtin .append, _, _⟩ => true
 | _ => false
def z4 (o : Oper) : Bool :=
 match o.op with
 | .alloc _ => false
 | .box _ _ => false
 | .buildSlice _ _ _ => false
 | .makeSlice _ _ _ => false
 | .call ⟨.builtin .append, _, _⟩ => false
 | .call ⟨.value _, _, _⟩ => false
 | _ => true
def xB (ops : Array Oper) (o : Oper) : List Operand :=
 o.op.operands.toList ++ (match o.guard with | some (j, _) => (match (ops[j]?).bind (·.dst) with | some dj => [.tmp dj] | none => []) | none => [])
theorem Sub.left {xs : List Operand} (h : Sub P (xs ++ ys) σ1 σ) : Sub P xs σ1 σ := ⟨h.len, fun x hx => h.look x (by simp [hx]), fun x hx => h.ob x (by simp [hx])⟩
theorem D9 {x : At} {d : D} (h : ∀ u, x.ref u = true -> ∀ j, σ1.ob u j ≠ .none -> σ.ob u j = σ1.ob u j) (hd : yP σ1 x = some d) : yP σ x = some d := by
 cases x with
 | sref t j lo len =>
  simp only [yP] at hd ⊢
  split at hd
  ·rename_i q size rows ho
   rw [h t zAs j zAr, ho]; exact hd
  ·cases hd
 | _ => exact hd
theorem WY : ∀ {xs : List At} {r : List D}, (∀ u, YW u xs = true -> ∀ j, σ1.ob u j ≠ .none -> σ.ob u j = σ1.ob u j) -> rowOf σ1 xs = some r -> rowOf σ xs = some r
 | [], _, _, h => h
 | x :: xs, r, h, hr => by
  simp only [rowOf] at hr ⊢
  split at hr
  ·rename_i d ds h1 h2
   rw [D9 (fun u hu => h u (by rw [YW, hu]; rfl)) h1, WY (fun u hu => h u (by rw [YW, hu, Bool.or_true])) h2]
   exact hr
  ·cases hr
theorem FO {r : List D} (h : ∀ u, YW u v.cells = true -> ∀ j, σ1.ob u j ≠ .none -> σ.ob u j = σ1.ob u j) (hr : v.zT σ1 = some r) : v.zT σ = some r := by
 cases v with
 | one x => exact WY h hr
 | agg xs =>
  match xs, h, hr with
  | [], h, hr => exact WY h hr
  | [_], _, hr => simp [V.zT] at hr
  | x :: y :: xs, h, hr => exact WY h hr
 | any => simp [V.zT] at hr
 | tup xs => simp [V.zT] at hr
 | cnd g x => simp [V.zT] at hr
 | fix u x => simp [V.zT] at hr
theorem Sub.cells {xs : List Operand} (h : Sub P xs σ1 σ) (hx : x ∈ xs) (ty : TypeId) : ∀ u, YW u (unc (Vm.look P σ1 ty x)).cells = true -> ∀ j, σ1.ob u j ≠ .none -> σ.ob u j = σ1.ob u j :=
 fun u hu j hn => h.ob x hx ty u (VU hu) j hn
theorem WO : ∀ {xs : List Operand} {ts : List TypeId} {rs : List (List D)}, Sub P xs σ1 σ -> Qz P σ1 xs ts rs -> Qz P σ xs ts rs
 | [], _, _, _, h => h
 | x :: xs, [], _, _, h => h.elim
 | x :: xs, t :: ts, rs, hs, h => by
  obtain ⟨hg, r, rest, h1, h2, h3⟩ := h
  have e := hs.look x zAF t
  refine ⟨by rw [<- e]; exact hg, r, rest, ?_, WO ⟨hs.len, fun y hy => hs.look y (by simp [hy]), fun y hy => hs.ob y (by simp [hy])⟩ h2, h3⟩
  rw [<- e]
  exact FO (hs.cells zAF t) h1
theorem ks : ∀ {xs : List Operand} {ts : List TypeId}, Sub P xs σ1 σ -> Yd P σ xs ts = Yd P σ1 xs ts
 | [], _, _ => by simp [Yd]
 | x :: xs, [], _ => by simp [Yd]
 | x :: xs, t :: ts, hs => by
  simp only [Yd]
  rw [hs.look x zAF t, ks ⟨hs.len, fun y hy => hs.look y (by simp [hy]), fun y hy => hs.ob y (by simp [hy])⟩]
theorem Ri {own : Bool} (hs : Sub P c.args.toList σ1 σ) (h : Bw P σ1 c f own res) : Bw P σ c f own res := by
 obtain ⟨rows, h1, h2, h3⟩ := h
 exact ⟨rows, WO hs h1, h2, by rw [ks hs]; exact h3⟩
theorem Rl {T : TypeId} {size : Nat} : ∀ {ps : List (Nat × Operand)} {k : Nat} {rs : List (List D)}, Sub P (ps.map (·.2)) σ1 σ -> NA P σ1 T size ps k rs -> NA P σ T size ps k rs
 | [], _, _, _, h => h
 | (i, x) :: ps, k, rs, hs, h => by
  have e := hs.look x zAF T
  obtain ⟨h1, h2, h3, h4, r, rest, h5, h6, h7, h8⟩ := h
  refine ⟨h1, by rw [<- e]; exact h2, by rw [<- e]; exact h3, by rw [<- e]; exact h4, r, rest, ?_, h6, Rl ⟨hs.len, fun y hy => hs.look y zBH, fun y hy => hs.ob y zBH⟩ h7, h8⟩
  rw [<- e]
  exact WY (hs.cells zAF T) h5
theorem L0 {T : TypeId} {size : Nat} : ∀ {ps : List (Nat × Operand)} {k : Nat} {rs : List (List At)}, Sub P (ps.map (·.2)) σ1 σ -> N3 P σ1 T size ps k rs -> N3 P σ T size ps k rs
 | [], _, _, _, h => h
 | (i, x) :: ps, k, rs, hs, h => by
  obtain ⟨h1, h2, h3, h4, rest, h5, h6⟩ := h
  have e := hs.look x zAF T
  rw [e] at h2 h3 h4 h6
  exact ⟨h1, h2, h3, h4, rest, L0 ⟨hs.len, fun y hy => hs.look y zBH, fun y hy => hs.ob y zBH⟩ h5, h6⟩
theorem ET {T : TypeId} {size u : Nat} : ∀ {ps : List (Nat × Operand)} {k : Nat} {rs : List (List At)}, N3 P σ T size ps k rs -> YW u rs.flatten = true -> ∃ x ∈ ps.map (·.2), (Vm.look P σ T x).ref u = true
 | [], _, _, h, hr => by simp only [N3] at h; subst h; simp [YW] at hr
 | (i, x) :: ps, k, rs, h, hr => by
  obtain ⟨h1, h2, h3, h4, rest, h5, rfl⟩ := h
  rw [List.flatten_cons] at hr
  obtain ⟨z, hz, gx⟩ := z7.1 hr
  rcases List.mem_append.1 hz with hz | hz
  ·exact ⟨x, zAF, VU (z7.2 ⟨z, hz, gx⟩)⟩
  ·obtain ⟨y, hy, hyr⟩ := ET h5 (z7.2 ⟨z, hz, gx⟩)
   exact ⟨y, by simp at hy ⊢; exact .inr hy, hyr⟩
theorem yw (u : Nat) : ∀ (qs : List Bool) (ds : List D), Y6 u (YR qs ds) = false
 | qs, [] => by cases qs <;> rfl
 | q :: qs, .sl size rows :: ds => by simp [YR, Y6, yw u qs ds]
 | [], .sl size rows :: ds => by simp [YR, Y6, yw u [] ds]
 | qs, .int _ _ :: ds => zBX
 | qs, .bool _ :: ds => zBX
 | qs, .str _ :: ds => zBX
 | qs, .unk :: ds => zBX
theorem TI {xs : List Operand} {ty : TypeId} (hs : Sub P xs σ1 σ) (hx : x ∈ xs) (h : WS σ1 (unc (Vm.look P σ1 ty x)) size news) : WS σ (unc (Vm.look P σ ty x)) size news := by
 rw [hs.look x hx] at h
 unfold WS at h ⊢
 split at h
 ·exact h
 ·exact h
 ·rename_i t j lo len hv
  obtain ⟨rows, ho, hr⟩ := h
  exact ⟨rows, hs.same hx hv zAs ho zAF, hr⟩
 ·exact h.elim
theorem uP (u : Nat) (r : List D) : (vOf (r.map At.d)).ref u = false := by
 have := UI (u := u) r
 match r, this with
 | [], _ => rfl
 | [x], _ => rfl
 | x :: y :: r, h => exact h
theorem AP (u : Nat) (r : List D) : (vOf (r.map At.d)).N5 u = false := by
 have := UI (u := u) r
 match r, this with
 | [], _ => rfl
 | [x], _ => rfl
 | x :: y :: r, h => exact h
theorem ES (u : Nat) (res : List (List D)) : (qo res).ref u = false := by
 have tl : ∀ rs : List (List D), Tp u (rs.map fun r => vOf (r.map At.d)) = false := by
  intro rs
  induction rs with
  | nil => rfl
  | cons r rs ih => simp only [List.map_cons, Tp, AP, ih, Bool.or_false]
 match res with
 | [] => rfl
 | [r] => exact uP u r
 | r :: r' :: rs => exact tl (r :: r' :: rs)
theorem Oe {u d : Nat} (hu : u ≠ d) : ∀ (k : Nat) (r : List D), YW u (K1 d k r) = false
 | _, [] => rfl
 | k, x :: r => by cases x <;> simp [K1, YW, At.ref, Oe hu, Ne.symm hu]
theorem C0 {xs : List At} (h : YW u xs = false) : (vOf xs).N5 u = false := by
 match xs, h with
 | [], _ => rfl
 | [x], h => simpa [vOf, V.N5, YW] using h
 | x :: y :: xs, h => exact h
theorem Hs (hu : u ≠ d) (res : List (List D)) : (jv d res).ref u = false := by
 have tl : ∀ (k : Nat) (rs : List (List D)), Tp u (EU d k rs) = false := by
  intro k rs
  induction rs generalizing k with
  | nil => rfl
  | cons r rs ih => simp only [EU, Tp, C0 (Oe hu _ _), ih, Bool.or_false]
 match res with
 | [] => exact tl 0 []
 | [r] =>
  have h1 : (vOf (K1 d 0 r)).flat = true := by
   match K1 d 0 r with
   | [] => rfl
   | [x] => rfl
   | x :: y :: xs => rfl
  have := C0 (Oe hu 0 r)
  rw [<- E4 h1] at this
  exact this
 | r :: r' :: rs => exact tl 0 (r :: r' :: rs)
theorem Hj (u : Nat) : ∀ (ds : List D), Y6 u (xm ds) = false
 | [] => rfl
 | x :: ds => by cases x <;> simp [xm, Y6, Hj u ds]
theorem Tv (ty : TypeId) (v : Value) (u : Nat) : (cst P ty v).ref u = false := by
 unfold cst
 split <;> first | rfl | skip
 all_goals (repeat' split) <;> first | rfl | skip
open Go.RowKit
variable {ops : Array Oper} {os : List Ob}
def Hh (P : Program) (ops : Array Oper) (o : Oper) (d : Nat) (σ1 : St) (e : Eff) : Prop :=
 e.ok d σ1 /\ (∀ t j v os, e = .drop t j v os -> UP o = true /\ ∃ x ∈ xB ops o, ∃ ty, (look P σ1 ty x).ref t = true) /\
 (z4 o = true \/ o.guard.isSome = true -> ∃ v, e = .put v) /\
 (o.guard = none -> ∀ u, u ≠ d -> e.ref u = true -> ME P (xB ops o) σ1 u) /\
 ∀ σ, Sub P (xB ops o) σ1 σ -> e.ok d σ -> Xe P ops o σ (e.ap d σ)
theorem OV {xs : List Operand} (h : ME P xs σ1 u) : ME P (xs ++ ys) σ1 u := by
 obtain ⟨x, hx, r⟩ := h
 exact ⟨x, by simp [hx], r⟩
theorem Th (hg : o.guard = none) (hd : o.dst = some d) (h : Step P o d σ σ') : Xe P ops o σ σ' := by
 unfold Xe; simp only [hg, hd]; exact h
theorem NO (hg : o.guard = none) (hd : o.dst = some d) (cW : ∀ u, u ≠ d -> v.ref u = true -> ME P o.op.operands.toList σ1 u)
  (iJ : ∀ σ, Sub P o.op.operands.toList σ1 σ -> Step P o d σ (σ.put d v)) : Hh P ops o d σ1 (.put v) :=
 ⟨trivial, (fun t j v os h => by cases h), fun _ => ⟨v, rfl⟩, fun _ u hu hr => OV (cW u hu hr), fun σ hs _ => Th hg hd (iJ σ hs.left)⟩
theorem Uq (hg : o.guard = none) (hd : o.dst = some d) (hp : z4 o = false) (lW : σ1.fresh d = true) (cW : ∀ u, u ≠ d -> (v.ref u || Y6 u os) = true -> ME P o.op.operands.toList σ1 u)
  (iJ : ∀ σ, Sub P o.op.operands.toList σ1 σ -> σ.fresh d = true -> Step P o d σ (σ.new d v os)) : Hh P ops o d σ1 (.new v os) :=
 ⟨lW, (fun t j v os h => by cases h), (fun h => h.elim (fun h => by rw [hp] at h; cases h) (fun h => by rw [hg] at h; cases h)), fun _ u hu hr => OV (cW u hu hr), fun σ hs hf => Th hg hd (iJ σ hs.left hf)⟩
theorem yF (hx : x ∈ c.args.toList) : x ∈ (Op.operands (.call c)).toList := by
 obtain ⟨cal, args, eO⟩ := c
 simp only [Op.operands, Call.operands]
 cases cal <;> simp at hx ⊢ <;> simp [hx]
theorem MD (h : Sub P (Op.operands (.call c)).toList σ1 σ) : Sub P c.args.toList σ1 σ :=
 ⟨h.len, fun x hx => h.look x (yF hx), fun x hx => h.ob x (yF hx)⟩
theorem tx (hg : o.guard = none) (hd : o.dst = some d) (hs : Step P o d σ1 σ2) : ∃ e : Eff, σ2 = e.ap d σ1 /\ Hh P ops o d σ1 e := by
 have hR : (∃ v, Ya P σ1 o.op o.type v /\ σ2 = σ1.put d v) -> (∀ σ v, Ya P σ o.op o.type v -> Step P o d σ (σ.put d v)) -> ∃ e : Eff, σ2 = e.ap d σ1 /\ Hh P ops o d σ1 e := by
  rintro ⟨v, hv, rfl⟩ ld
  exact ⟨.put v, rfl, NO hg hd (fun u _ hr => M8 hv hr) (fun σ l3 => ld σ v (Wm hv l3))⟩
 have hs0 := hs
 unfold Step at hs
 split at hs
 ·rename_i T my
  obtain ⟨hf, hz, row, lv, rfl⟩ := hs
  refine ⟨.new _ _, rfl, Uq hg hd (by simp [z4, my]) hf (fun u hu hr => ?_) (fun σ l3 eY => ?_)⟩
  ·simp only [V.ref, At.ref, Y6, O0 u _ _ _ lv, Bool.or_false, beq_iff_eq] at hr
   exact absurd hr.symm hu
  ·unfold Step; rw [my]; exact ⟨eY, hz, row, lv, rfl⟩
 ·rename_i T x my
  obtain ⟨hf, h1, h2, h3, rfl⟩ := hs
  refine ⟨.new _ _, rfl, Uq hg hd (by simp [z4, my]) hf (fun u hu hr => ?_) (fun σ l3 eY => ?_)⟩
  ·simp only [V.ref, At.ref, Y6, Bool.or_false, Bool.or_eq_true, beq_iff_eq] at hr
   rcases hr with hr | hr
   ·exact absurd hr.symm hu
   ·exact ⟨x, by simp [my, Op.operands], T, .inl (VU hr)⟩
  ·have e := l3.look x (by simp [my, Op.operands]) T
   unfold Step; rw [my]
   simp only
   rw [<- e]
   exact ⟨eY, h1, h2, h3, rfl⟩
 ·rename_i T n parts my
  rcases hs with ⟨hf, h1, h2, h3, h4, h5, ⟨rows, h6, rfl⟩ | ⟨rows, h6, h7, rfl⟩⟩ | ⟨h1, rows, h6, rfl⟩
  ·refine ⟨.new _ _, rfl, Uq hg hd (by simp [z4, my]) hf (fun u hu hr => ?_) (fun σ l3 eY => ?_)⟩
   ·simp only [V.ref, At.ref, Y6, Bool.or_false, beq_iff_eq] at hr
    exact absurd hr.symm hu
   ·unfold Step; rw [my]
    refine .inl ⟨eY, h1, h2, h3, h4, h5, .inl ⟨rows, Rl ?_ h6, rfl⟩⟩
    rw [my] at l3
    simpa [Op.operands] using l3
  ·refine ⟨.new _ _, rfl, Uq hg hd (by simp [z4, my]) hf (fun u hu hr => ?_) (fun σ l3 eY => ?_)⟩
   ·simp only [V.ref, At.ref, Y6, Bool.or_false, Bool.or_eq_true, beq_iff_eq] at hr
    rcases hr with hr | hr
    ·exact absurd hr.symm hu
    ·obtain ⟨x, hx, hxr⟩ := ET h6 hr
     exact ⟨x, by simpa [my, Op.operands] using hx, _, .inl hxr⟩
   ·unfold Step; rw [my]
    refine .inl ⟨eY, h1, h2, h3, h4, h5, .inr ⟨rows, L0 ?_ h6, h7, rfl⟩⟩
    rw [my] at l3
    simpa [Op.operands] using l3
  ·refine ⟨.put _, rfl, NO hg hd (fun u _ hr => by cases hr) (fun σ l3 => ?_)⟩
   unfold Step; rw [my]
   refine .inr ⟨h1, rows, Rl ?_ h6, rfl⟩
   rw [my] at l3
   simpa [Op.operands] using l3
 ·rename_i T x y my
  obtain ⟨rfl, hf, h1, h2, h3, q, z, zr, k, n, hq, h4, h5, h6, h7, h8, rfl⟩ := hs
  refine ⟨.new _ _, rfl, Uq hg hd (by simp [z4, my]) hf (fun u hu hr => ?_) (fun σ l3 eY => ?_)⟩
  ·simp only [V.ref, At.ref, Y6, Bool.or_false, beq_iff_eq] at hr
   exact absurd hr.symm hu
  ·unfold Step; rw [my]
   exact ⟨rfl, eY, h1, h2, h3, q, z, zr, k, n, hq, h4, h5, qA l3 (by simp [my, Op.operands]) h6, h7, h8, rfl⟩
 ·rename_i c my
  split at hs
  ·rename_i hc
   obtain ⟨x, y, t, ha, fI, h1, h2, h3, h4, h5, lB, news, σd, h6, h7, h8, h9, ev, rfl⟩ := hs
   have hx : x ∈ o.op.operands.toList := by rw [my]; exact yF zBW
   have hy : y ∈ o.op.operands.toList := by rw [my]; exact yF zBW
   have eZ : z4 o = false := by
    obtain ⟨cc, ca, ct⟩ := c
    simp only at hc; subst hc
    simp [z4, my]
   have refs : ∀ u, u ≠ d -> (V.ref u (.one (.sref d 0 0 (lB.length + news.length))) || Y6 u [.arr false (P.cellsOf (ZR P t)) (lB ++ news)]) = true -> ME P o.op.operands.toList σ1 u := by
    intro u hu hr
    simp only [V.ref, At.ref, Y6, Bool.or_false, beq_iff_eq] at hr
    exact absurd hr.symm hu
   have h6' := h6
   unfold SV at h6
   split at h6
   ·rename_i s heq
    obtain ⟨rfl, rfl⟩ := h6
    refine ⟨.new _ _, rfl, Uq hg hd eZ h8 refs (fun σ l3 eY => ?_)⟩
    unfold Step; rw [my]
    simp only [hc]
    refine ⟨x, y, t, ha, fI, ?_, ?_, h3, h4, h5, [], news, σ, ?_, TI l3 hy h7, eY, h9, ev, rfl⟩
    ·rw [<- l3.look x hx]; exact h1
    ·rw [<- l3.look y hy]; exact h2
    ·rw [<- l3.look x hx]; unfold SV; rw [heq]; exact ⟨rfl, rfl⟩
   ·rename_i tt j lo len heq
    obtain ⟨rows, ho, fZ, hlen, holds, rfl⟩ := h6
    have hrx : (look P σ1 t x).ref tt = true := QX heq zAs
    refine ⟨.drop tt j _ _, rfl, ⟨⟨_, _, _, ho⟩, h8⟩, ?_, (fun hh => hh.elim (fun hh => by rw [eZ] at hh; cases hh) (fun hh => by rw [hg] at hh; cases hh)), fun _ u hu hr => OV (refs u hu hr), fun σ l3 eY => Th hg hd ?_⟩
    ·intro t' j' v os he
     cases he
     refine ⟨?_, x, by simp only [xB, List.mem_append]; exact .inl hx, t, hrx⟩
     obtain ⟨cc, ca, ct⟩ := c
     simp only at hc ha; subst hc ha
     cases x with
     | const v => rw [Vm.look, Tv] at hrx; cases hrx
     | _ => simp [UP, my]
    ·have eb := l3.left
     unfold Step; rw [my]
     simp only [hc]
     have fe : unc (look P σ t x) = .one (.sref tt j lo len) := by rw [<- eb.look x hx]; exact heq
     refine ⟨x, y, t, ha, fI, ?_, ?_, h3, h4, h5, lB, news, _, ?_, TI eb hy h7, eY.2, h9, ev, rfl⟩
     ·rw [<- eb.look x hx]; exact h1
     ·rw [<- eb.look y hy]; exact h2
     ·unfold SV; rw [fe]
      exact ⟨rows, eb.same hx fe zAs ho zAF, fZ, hlen, holds, rfl⟩
   ·exact h6.elim
  ·rename_i f hc
   have eZ : z4 o = false := by
    obtain ⟨cc, ca, ct⟩ := c
    simp only at hc; subst hc
    simp [z4, my]
   rcases hs with ⟨own, res, hcr, rfl⟩ | ⟨res, hcr, hf, rfl⟩ | ⟨rows, res, qs, ha, hsd, hq, hf, rfl⟩
   ·refine ⟨.put _, rfl, NO hg hd (fun u _ hr => by rw [ES] at hr; cases hr) (fun σ l3 => ?_)⟩
    rw [my] at l3
    unfold Step; rw [my]
    simp only [hc]
    exact .inl ⟨own, res, Ri (MD l3) hcr, rfl⟩
   ·refine ⟨.new _ _, rfl, Uq hg hd eZ hf (fun u hu hr => ?_) (fun σ l3 eY => ?_)⟩
    ·rw [Hs hu, Hj] at hr; cases hr
    ·rw [my] at l3
     unfold Step; rw [my]
     simp only [hc]
     exact .inr (.inl ⟨res, Ri (MD l3) hcr, eY, rfl⟩)
   ·refine ⟨.new _ _, rfl, Uq hg hd eZ hf (fun u hu hr => ?_) (fun σ l3 eY => ?_)⟩
    ·rw [Hs hu, yw] at hr; cases hr
    ·rw [my] at l3
     unfold Step; rw [my]
     simp only [hc]
     exact .inr (.inr ⟨rows, res, qs, WO (MD l3) ha, hsd, hq, eY, rfl⟩)
  ·rename_i h1 h2
   refine hR hs (fun σ v hv => ?_)
   unfold Step; rw [my]
   simp only
   exact ⟨v, by rw [my] at hv; exact hv, rfl⟩
 ·rename_i S T x my
  rcases hs with hs | ⟨l, h1, h2, h3, h4, rfl⟩ | ⟨s, h1, h2, h3, h4, h5, rfl⟩
  ·refine hR hs (fun σ v hv => ?_)
   unfold Step; rw [my]
   exact .inl ⟨v, by rw [my] at hv; exact hv, rfl⟩
  ·refine ⟨.put _, rfl, NO hg hd (fun u _ hr => by cases hr) (fun σ l3 => ?_)⟩
   have hx : x ∈ o.op.operands.toList := by simp [my, Op.operands]
   unfold Step; rw [my]
   exact .inr (.inl ⟨l, by rw [<- l3.look x hx]; exact h1, h2, h3, TI l3 hx h4, rfl⟩)
  ·refine ⟨.put _, rfl, NO hg hd (fun u _ hr => by cases hr) (fun σ l3 => ?_)⟩
   have hx : x ∈ o.op.operands.toList := by simp [my, Op.operands]
   unfold Step; rw [my]
   exact .inr (.inr ⟨s, by rw [<- l3.look x hx]; exact h1, h2, h3, by rw [<- l3.look x hx]; exact h4, h5, rfl⟩)
 ·rename_i n1 n2 n3 n4 n5 n6
  refine hR hs (fun σ v hv => ?_)
  unfold Step
  split
  ·rename_i T my; exact absurd my (n1 T)
  ·rename_i T x my; exact absurd my (n2 T x)
  ·rename_i T n ps my; exact absurd my (n3 T n ps)
  ·rename_i T x y my; exact absurd my (n4 T x y)
  ·rename_i c my; exact absurd my (n5 c)
  ·rename_i S T x my; exact absurd my (n6 S T x)
  ·exact ⟨v, hv, rfl⟩
open Go.RowKit
theorem Q8 : σ.fresh d = true ↔ d < σ.length /\ ∀ t e, σ[t]? = some e -> t ≠ d -> e.1.ref d = false /\ Y6 d e.2 = false := by
 unfold St.fresh
 rw [Bool.and_eq_true, decide_eq_true_eq]
 refine and_congr_right fun _ => ⟨fun h t e he lA => xZ h t e he zAA, fun h => ?_⟩
 have : ∀ (σ : St) (k : Nat), (∀ t e, σ[t]? = some e -> k + t ≠ d -> e.1.ref d = false /\ Y6 d e.2 = false) -> ym d k σ = true := by
  intro σ
  induction σ with
  | nil => intro k _; rfl
  | cons e σ ih =>
   intro k hk
   simp only [ym, Bool.and_eq_true, Bool.or_eq_true, beq_iff_eq, Bool.not_eq_true']
   refine ⟨?_, ih (k + 1) fun t e' he lA => hk (t + 1) e' (by simpa using he) zAA⟩
   by_cases h0 : k = d
   ·exact .inl h0
   ·exact .inr (hk 0 e zAF zAA)
 exact this σ 0 (fun t e he lA => h t e he zAA)
theorem GC {e : Ent} (h : σ[t]? = some e) (j : Nat) : σ.ob t j = Yj e.2 j := by unfold St.ob; rw [h]
theorem RI {o : Ob} (h : σ.ob t j = o) (hn : o ≠ .none) : ∃ e, σ[t]? = some e /\ Yj e.2 j = o := by
 unfold St.ob at h
 split at h
 ·rename_i e he; exact ⟨e, he, h⟩
 ·exact absurd h.symm hn
theorem O4 {u : Nat} : ∀ {os : List Ob} {j : Nat} {cells : List At}, Yj os j = .box cells -> YW u cells = true -> Y6 u os = true
 | [], _, _, h, _ => by simp [Yj] at h
 | o :: os, 0, cells, h, hr => by
  have : o = .box cells := h
  subst this
  simp [Y6, hr]
 | o :: os, j + 1, cells, h, hr => by
  have h' : Yj os j = .box cells := zBu
  have := O4 h' hr
  cases o <;> simp [Y6, this]
theorem xy {u s : Nat} {q : Bool} {r : List (List D)} : ∀ {os : List Ob} {j : Nat}, Yj os j = .arr q s r -> Y6 u (os.set j .none) = Y6 u os
 | [], _, h => by simp [Yj] at h
 | o :: os, 0, h => by
  have : o = .arr q s r := h
  subst this
  simp [Y6]
 | o :: os, j + 1, h => by
  have h' : Yj os j = .arr q s r := zBu
  have := xy (u := u) h'
  cases o <;> simp [Y6, this]
theorem LU (h : Xi σ d = true) {e : Ent} (he : σ[d]? = some e) (u : Nat) : e.1.ref u = false /\ Y6 u e.2 = false := by
 unfold Xi at h
 split at h
 ·rename_i h1; rw [he] at h1; cases h1; exact ⟨rfl, rfl⟩
 ·rename_i h1; rw [he] at h1; cases h1; exact ⟨rfl, rfl⟩
 ·cases h
section
variable {x : Oper}
theorem WA (hd : o.dst = some d) (hs : Xe P ops o σ1 σ2) : ∃ e : Eff, σ2 = e.ap d σ1 /\ Hh P ops o d σ1 e := by
 unfold Xe at hs
 split at hs
 ·rename_i hg
  simp only [hd] at hs
  exact tx hg hd hs
 ·rename_i j want hg
  obtain ⟨dj, d', g, v, gE, lH, lL, gN, hv, rfl⟩ := hs
  rw [hd] at lL; cases lL
  refine ⟨.put (.cnd g v), rfl, trivial, (fun t j v os h => by cases h), fun _ => ⟨_, rfl⟩, (fun h => by rw [hg] at h; cases h), fun σ l3 _ => ?_⟩
  have iv : Operand.tmp dj ∈ xB ops o := by simp [xB, hg, gE]
  have ic : σ.get dj = σ1.get dj := (l3.look _ iv 0).symm
  unfold Xe
  simp only [hg]
  refine ⟨dj, d, g, v, gE, by rw [<- l3.len]; exact lH, hd, by rw [ic]; exact gN, fun dg => ?_, rfl⟩
  have gi := hv dg
  have dS := l3.left
  unfold MO at gi ⊢
  split at gi
  ·rename_i c my
   split at gi
   ·rename_i f hc
    obtain ⟨own, res, hcr, rfl⟩ := gi
    rw [my] at dS
    exact ⟨own, res, Ri (MD dS) hcr, rfl⟩
   ·obtain ⟨v0, h1, h2⟩ := gi
    exact ⟨v0, Wm h1 dS, h2⟩
  ·obtain ⟨v0, h1, h2⟩ := gi
   exact ⟨v0, Wm h1 dS, h2⟩
theorem yK (e : Eff) : (e.ap d σ).length = σ.length := by
 cases e <;> simp [Eff.ap, St.JV, St.WB, St.XW]
theorem Mq (e : Eff) (lA : t ≠ d) : (e.ap d σ).get t = σ.get t := by
 cases e with
 | put v => simp [Eff.ap, St.zg, lA]
 | new v os => simp [Eff.ap, St.VL, lA]
 | drop a j v os => simp [Eff.ap, St.VL, St.QI, lA]
theorem uL (h : (σ.get t).ref u = true) : ∃ e, σ[t]? = some e /\ e.1.ref u = true := by
 unfold St.get at h
 split at h
 ·rename_i e he; exact ⟨e, he, h⟩
 ·cases h
end
open Go.RowKit
variable {en : Ent}
section
variable {x : Oper}
theorem yB (hf : ∀ t e, σ[t]? = some e -> t ≠ d -> e.1.ref d = false) (hz : z ≠ .tmp d) (ty : TypeId) : (look P σ ty z).ref d = false := by
 cases z with
 | tmp t =>
  have lA : t ≠ d := fun h => hz (by rw [h])
  cases hr : (look P σ ty (.tmp t)).ref d with
  | false => rfl
  | true =>
   obtain ⟨e, he, iu⟩ := uL (σ := σ) (t := t) hr
   rw [hf t e he lA] at iu; cases iu
 | const v => exact Tv ty v d
 | global g => rfl
 | func f => rfl
theorem look_eq (hg : ∀ t, t ≠ d -> σ1.get t = σ.get t) (hz : z ≠ .tmp d) (ty : TypeId) : look P σ1 ty z = look P σ ty z := by
 cases z with
 | tmp t => exact hg t (fun h => hz (by rw [h]))
 | const v => rfl
 | global g => rfl
 | func f => rfl
theorem kF (h : e.ok d σ) (lA : ∀ v, e ≠ .put v) : ∀ t en, σ[t]? = some en -> t ≠ d -> en.1.ref d = false := by
 intro t en he ht
 cases e with
 | put v => exact absurd rfl (lA v)
 | new v os => exact ((Q8.1 h).2 t en he ht).1
 | drop a j v os =>
  have := (Q8.1 h.2).2 t
  rw [JO] at this
  by_cases dr : t = a
  ·rw [if_pos dr, he] at this
   exact (this _ rfl ht).1
  ·rw [if_neg dr] at this
   exact (this en he ht).1
theorem Ot (h : e.ok d σ) (lA : ∀ v, e ≠ .put v) : ∀ t en, σ[t]? = some en -> t ≠ d -> Y6 d en.2 = false := by
 intro t en he ht
 cases e with
 | put v => exact absurd rfl (lA v)
 | new v os => exact ((Q8.1 h).2 t en he ht).2
 | drop a j v os =>
  obtain ⟨⟨q, s, r, ho⟩, hf⟩ := h
  have := (Q8.1 hf).2 t
  rw [JO] at this
  by_cases dr : t = a
  ·rw [if_pos dr, he] at this
   have h2 := (this _ rfl ht).2
   subst dr
   rw [GC he] at ho
   rw [xy ho] at h2
   exact h2
  ·rw [if_neg dr] at this
   exact (this en he ht).2
theorem pZ (h : e.ok d σ) (lA : ∀ v, e ≠ .put v) : d < σ.length := by
 cases e with
 | put v => exact absurd rfl (lA v)
 | new v os => exact (Q8.1 h).1
 | drop a j v os => have := (Q8.1 h.2).1; rwa [St.XW] at this
theorem vK (h : e.ok d σ) (hu : (∀ v, e ≠ .put v) -> u ≠ d) (hn : (e.ap d σ).ob u j ≠ .none) : σ.ob u j = (e.ap d σ).ob u j := by
 cases e with
 | put v => simp only [Eff.ap, St.JX]
 | new v os =>
  have := hu (by intro v h; cases h)
  simp only [Eff.ap, St.Jt, this, false_and, if_false]
 | drop a k v os =>
  have cZ := hu (by intro v h; cases h)
  obtain ⟨⟨q, s, r, ho⟩, _⟩ := h
  simp only [Eff.ap, St.Jt, cZ, false_and, if_false] at hn ⊢
  rw [St.Xo σ a k _ u j zAr] at hn ⊢
  split at hn
  ·exact absurd rfl hn
  ·rename_i hh; rw [if_neg hh]
theorem NC (iV : ∀ t j v os, e ≠ .drop t j v os) (hu : (∀ v, e ≠ .put v) -> u ≠ d) : (e.ap d σ).ob u j = σ.ob u j := by
 cases e with
 | put v => simp only [Eff.ap, St.JX]
 | new v os =>
  have := hu (by intro v h; cases h)
  simp only [Eff.ap, St.Jt, this, false_and, if_false]
 | drop a k v os => exact absurd rfl (iV a k v os)
theorem tA (lW : e.ok d σ) (ht : t ≠ d) (he : (e.ap d σ)[t]? = some en) : ∃ en0, σ[t]? = some en0 /\ en0.1 = en.1 /\ ∀ u, Y6 u en0.2 = Y6 u en.2 := by
 cases e with
 | put v => simp only [Eff.ap, kK, if_neg ht] at he; exact ⟨en, he, rfl, fun _ => rfl⟩
 | new v os => simp only [Eff.ap, xN, if_neg ht] at he; exact ⟨en, he, rfl, fun _ => rfl⟩
 | drop a j v os =>
  simp only [Eff.ap, xN, if_neg ht, JO] at he
  split at he
  ·rename_i dr
   subst dr
   obtain ⟨⟨q, s, r, ho⟩, _⟩ := lW
   obtain ⟨e0, eQ, ia⟩ := RI ho zAF
   rw [eQ] at he
   simp at he
   subst he
   exact ⟨e0, eQ, rfl, fun u => (xy ia).symm⟩
  ·exact ⟨en, he, rfl, fun _ => rfl⟩
theorem swap (gF : x.dst = some dx) (gl : y.dst = some dy) (lA : dx ≠ dy) (fc : ∀ z ∈ xB ops y, z ≠ .tmp dx) (dn : ∀ z ∈ xB ops x, z ≠ .tmp dy) (iV : UP y = false) (hgp : y.guard = none \/ z4 x = true \/ x.guard.isSome = true)
  (lp : Xi σ dx = true) (h1 : Xe P ops x σ σ1) (h2 : Xe P ops y σ1 σ2) : ∃ σ1', Xe P ops y σ σ1' /\ Xe P ops x σ1' σ2 := by
 obtain ⟨ex, rfl, ez, dR, purex, _, frx⟩ := WA gF h1
 obtain ⟨ey, rfl, oky, dropy, _, refy, fry⟩ := WA gl h2
 have hyd : ∀ t j v os, ey ≠ .drop t j v os := by
  intro t j v os h
  have := (dropy t j v os h).1
  rw [iV] at this; cases this
 have suby : Sub P (xB ops y) (ex.ap dx σ) σ := by
  refine ⟨yK ex, fun z hz ty => look_eq (fun t ht => Mq ex ht) (fc z hz) ty, fun z hz ty u hr j hn => ?_⟩
  refine vK ez (fun gU hu => ?_) hn
  subst hu
  rw [look_eq (fun t ht => Mq ex ht) (fc z hz) ty, yB (kF ez gU) (fc z hz)] at hr
  cases hr
 have ba : ey.ok dy σ := by
  cases ey with
  | put v => trivial
  | drop a j v os => exact absurd rfl (hyd a j v os)
  | new v os =>
   have hf := Q8.1 oky
   refine Q8.2 ⟨by rw [<- yK ex (d := dx)]; exact hf.1, fun t e he ht => ?_⟩
   by_cases bz : t = dx
   ·subst bz; exact LU lp he dy
   ·cases ex with
    | put v' => exact hf.2 t e (by simp only [Eff.ap, kK, if_neg bz]; exact he) ht
    | new v' bO => exact hf.2 t e (by simp only [Eff.ap, xN, if_neg bz]; exact he) ht
    | drop a j v' bO =>
     obtain ⟨⟨q, s, r, ho⟩, _⟩ := ez
     by_cases dr : t = a
     ·subst dr
      have := hf.2 t (e.1, e.2.set j .none) (by simp only [Eff.ap, xN, if_neg bz, JO, if_true, he, Option.map_some]) ht
      rw [GC he] at ho
      rw [xy ho] at this
      exact this
     ·exact hf.2 t e (by simp only [Eff.ap, xN, if_neg bz, JO, if_neg dr]; exact he) ht
 have stepy := fry σ suby ba
 have subx : Sub P (xB ops x) σ (ey.ap dy σ) := by
  refine ⟨(yK ey).symm, fun z hz ty => (look_eq (fun t ht => Mq ey ht) (dn z hz) ty).symm, fun z hz ty u hr j hn => ?_⟩
  refine NC hyd (fun gU hu => ?_)
  subst hu
  rw [yB (kF ba gU) (dn z hz)] at hr
  cases hr
 have yref : (∀ v, ex ≠ .put v) -> ey.ref dx = false := by
  intro gU
  have hg : y.guard = none := by
   rcases hgp with h | h
   ·exact h
   ·obtain ⟨v, hv⟩ := purex h; exact absurd hv (gU v)
  cases hr : ey.ref dx with
  | false => rfl
  | true =>
   obtain ⟨z, hz, ty, iU⟩ := refy hg dx lA hr
   have hl : look P (ex.ap dx σ) ty z = look P σ ty z := look_eq (fun t ht => Mq ex ht) (fc z hz) ty
   rw [hl] at iU
   rcases iU with iU | ⟨t', cells, ht', ho, hc⟩
   ·rw [yB (kF ez gU) (fc z hz)] at iU; cases iU
   ·have bz : t' ≠ dx := by
     intro h; subst h
     rw [yB (kF ez gU) (fc z hz)] at ht'; cases ht'
    have lb : σ.ob t' 0 = .box cells := by rw [vK ez (fun _ => bz) zAr, ho]
    obtain ⟨en, hen, hoe⟩ := RI lb zAF
    have := Ot ez gU t' en hen bz
    rw [O4 hoe hc] at this; cases this
 have entries : (∀ v, ex ≠ .put v) -> ∀ t e, (ey.ap dy σ)[t]? = some e -> t ≠ dx -> e.1.ref dx = false /\ Y6 dx e.2 = false := by
  intro gU t e he ht
  have hy := yref gU
  by_cases gv : t = dy
  ·subst gv
   cases ey with
   | put v =>
    simp only [Eff.ap, kK, if_true, Option.map_eq_some_iff] at he
    obtain ⟨e0, eQ, rfl⟩ := he
    exact ⟨hy, Ot ez gU t e0 eQ ht⟩
   | new v os =>
    simp only [Eff.ap, xN, if_true, Option.map_eq_some_iff] at he
    obtain ⟨e0, eQ, rfl⟩ := he
    simp only [Eff.ref, Bool.or_eq_false_iff] at hy
    exact hy
   | drop a j v os => exact absurd rfl (hyd a j v os)
  ·obtain ⟨e0, eQ, h1, h2⟩ := tA ba gv he
   rw [<- h1, <- h2]
   exact ⟨kF ez gU t e0 eQ ht, Ot ez gU t e0 eQ ht⟩
 have okx' : ex.ok dx (ey.ap dy σ) := by
  cases ex with
  | put v => trivial
  | new v os =>
   have gU : ∀ v', Eff.new v os ≠ .put v' := by intro v' h; cases h
   exact Q8.2 ⟨by rw [yK]; exact pZ ez gU, entries gU⟩
  | drop a j v os =>
   have gU : ∀ v', Eff.drop a j v os ≠ .put v' := by intro v' h; cases h
   obtain ⟨z, hz, ty, hr⟩ := (dR a j v os rfl).2
   obtain ⟨q, s, r, ho⟩ := ez.1
   have lb : (ey.ap dy σ).ob a j = .arr q s r := by rw [<- ho]; exact subx.ob z hz ty a hr j zAr
   refine ⟨⟨q, s, r, lb⟩, Q8.2 ⟨by rw [St.XW, yK]; exact pZ ez gU, fun t e he ht => ?_⟩⟩
   rw [JO] at he
   split at he
   ·rename_i dr
    subst dr
    obtain ⟨e0, eQ, ia⟩ := RI lb zAF
    rw [eQ] at he; simp at he; subst he
    have := entries gU t e0 eQ ht
    exact ⟨this.1, by rw [xy ia]; exact this.2⟩
   ·exact entries gU t e he ht
 refine ⟨_, stepy, ?_⟩
 have := frx _ subx okx'
 have heq : ex.ap dx (ey.ap dy σ) = ey.ap dy (ex.ap dx σ) := by
  apply List.ext_getElem?
  intro t
  have hnexy := lA
  cases ex with
  | put v =>
   cases ey with
   | put v' => simp only [Eff.ap, kK]; by_cases h1 : t = dx <;> by_cases h2 : t = dy <;> simp_all
   | new v' bO => simp only [Eff.ap, kK, xN]; by_cases h1 : t = dx <;> by_cases h2 : t = dy <;> simp_all
   | drop a j v' bO => exact absurd rfl (hyd a j v' bO)
  | new v os =>
   cases ey with
   | put v' => simp only [Eff.ap, kK, xN]; by_cases h1 : t = dx <;> by_cases h2 : t = dy <;> simp_all
   | new v' bO => simp only [Eff.ap, xN]; by_cases h1 : t = dx <;> by_cases h2 : t = dy <;> simp_all
   | drop a j v' bO => exact absurd rfl (hyd a j v' bO)
  | drop a j v os =>
   obtain ⟨z, hz, ty, hr⟩ := (dR a j v os rfl).2
   cases ey with
   | put v' =>
    simp only [Eff.ap, kK, xN, JO]
    by_cases h1 : t = dx <;> by_cases h2 : t = dy <;> by_cases h3 : t = a <;> simp_all
    all_goals (first | (cases σ[dy]? <;> rfl) | (cases σ[t]? <;> rfl) | (cases σ[a]? <;> rfl))
   | new v' bO =>
    have hay : a ≠ dy := by
     intro h; subst h
     rw [yB (kF ba (by intro v h; cases h)) (dn z hz)] at hr; cases hr
    simp only [Eff.ap, xN, JO]
    by_cases h1 : t = dx <;> by_cases h2 : t = dy <;> by_cases h3 : t = a <;> simp_all
   | drop a' j' v' bO => exact absurd rfl (hyd a' j' v' bO)
 rw [<- heq]
 exact this
end
open Go.RowKit
variable {PT : List (Nat × Nat)} {bar br : Oper -> Bool} {NB post ord : List Nat} {pos : Nat -> Nat} {Q : Exit -> St -> Prop} {cs : List At} {B : Nat -> Prop} {w0 w : World}
def Bd (ops : Array Oper) (bar : Oper -> Bool) (x y : Oper) : Bool := !bar x && !bar y &&
 (match x.dst, y.dst with
 | some dx, some dy => dx != dy && !(xB ops y).any (xU dx) && !(xB ops x).any (xU dy) && !UP y && (y.guard.isNone || z4 x || x.guard.isSome)
 | _, _ => false)
def Bf (bar : Oper -> Bool) (x y : Oper) : Bool := !bar x && !bar y && x.guard.isNone && y.guard.isNone &&
 (match x.dst, y.dst, y.op with
 | some dx, none, .store _ p q => (match x.op with | .move _ => true | .assign _ => true | .extract _ _ => true | _ => false) && !xU dx p && !xU dx q
 | _, _, _ => false)
def Cm (bar : Oper -> Bool) (x y : Oper) : Bool := !bar x && bar y && x.guard.isNone && Vr y && y.guard.isNone && y.dst.isNone &&
 (match x.dst with
 | some dx => (match x.op with | .move _ => true | .assign _ => true | .extract _ _ => true | _ => false) && VQ y dx
 | none => false)
def Ps (PT : List (Nat × Nat)) (σ : St) : Prop := ∀ p ∈ PT, σ.get p.1 = .any \/ ∃ c, unc (σ.get p.1) = .one (.bptr p.2 c)
def ptB (PT : List (Nat × Nat)) (σ : St) : Bool := PT.all fun p => match σ.get p.1 with | .any => true | v => (match unc v with | .one (.bptr b _) => b == p.2 | _ => false)
def Ng (ops : Array Oper) (PT : List (Nat × Nat)) : Bool := ops.toList.all fun o => match o.dst with
 | none => true
 | some d => PT.all fun p => p.1 != d || (o.guard.isNone && (match o.op with | .fieldAddr _ (.tmp r) _ => PT.contains (r, p.2) | .move (.tmp r) => PT.contains (r, p.2) | _ => false))
def RH (PT : List (Nat × Nat)) (b : Nat) : Op -> Bool
 | .load _ (.tmp t) => PT.any fun r => r.1 == t && r.2 != b
 | .fieldAddr _ _ _ => true
 | .move _ => true
 | .assign _ => true
 | .extract _ _ => true
 | .binOp _ _ _ _ _ => true
 | .call ⟨.builtin .len, ⟨[_]⟩, ⟨[_]⟩⟩ => true
 | _ => false
def swapT (PT : List (Nat × Nat)) (bar : Oper -> Bool) (x y : Oper) : Bool := !bar x && !bar y && x.guard.isNone && y.guard.isNone &&
 (match x.dst, y.dst, y.op with
 | some dx, none, .store _ (.tmp tp) q => tp != dx && !xU dx q && PT.any fun p => p.1 == tp && RH PT p.2 x.op
 | _, _, _ => false)
def Hx (NB : List Nat) (σ : St) : Prop := ∀ t ∈ NB, ∀ b c, unc (σ.get t) ≠ .one (.bptr b c)
def nbB (NB : List Nat) (σ : St) : Bool := NB.all fun t => match unc (σ.get t) with | .one (.bptr _ _) => false | _ => true
def Hw (P : Program) (ops : Array Oper) (NB : List Nat) : Bool := ops.toList.all fun o => match o.dst with
 | none => true
 | some d => NB.all fun t => t != d || (o.guard.isNone && (match o.op with | .indexAddr T _ _ => XZ P T | _ => false))
def Fa (PT : List (Nat × Nat)) (NB : List Nat) (σ : St) : Prop := Ps PT σ /\ Hx NB σ
def BP (PT : List (Nat × Nat)) (NB : List Nat) (bar : Oper -> Bool) (x y : Oper) : Bool := !bar x && bar y && x.guard.isNone && Vr y && y.guard.isNone && y.dst.isNone &&
 (match x.dst, y.op with
 | some dx, .store _ (.tmp tp) q => NB.contains tp && tp != dx && !xU dx q && (match x.op with | .load _ (.tmp t) => PT.any fun r => r.1 == t | .fieldAddr _ (.tmp t) _ => PT.any fun r => r.1 == t | _ => false)
 | _, _ => false)
def wG (PT : List (Nat × Nat)) : Op -> Bool
 | .move _ => true
 | .load _ (.tmp t) => PT.any fun r => r.1 == t
 | .fieldAddr _ (.tmp _) _ => true
 | .slice _ (.tmp _) _ _ none => true
 | _ => false
def Bc (PT : List (Nat × Nat)) (ops : Array Oper) (bar : Oper -> Bool) (x y : Oper) : Bool := bar x && !bar y && kc x && x.guard.isNone && y.guard.isNone && wG PT y.op &&
 (match x.dst, y.dst with
 | some dx, some dy => dx != dy && !(xB ops y).any (xU dx) && !(xB ops x).any (xU dy)
 | _, _ => false)
def DP (PT : List (Nat × Nat)) (o : Oper) : Option Nat := match o.op with | .call ⟨.value (.func _), ⟨.tmp z :: _⟩, _⟩ => (PT.find? (fun p => p.1 == z)).map (·.2) | _ => none
def oe : Operand -> Bool
 | .const _ => true
 | _ => false
def M1 (PT : List (Nat × Nat)) (y x : Oper) : Bool := (x.op.operands.toList.all oe && !UP x) || (match DP PT y with | some b => RH PT b x.op | none => false)
def BI (P : Program) (PT : List (Nat × Nat)) (ops : Array Oper) (bar : Oper -> Bool) (x y : Oper) : Bool := x.guard.isNone && y.guard.isNone && OJ bar x && OJ bar y && (match x.dst, y.dst with
 | some dx, some dy => dx != dy && !(xB ops y).any (xU dx) && !(xB ops x).any (xU dy) && ((!bar x && bar y && KY P y && M1 PT y x) || (bar x && KY P x && !bar y && M1 PT x y))
 | _, _ => false)
def Ny (o : Oper) (j : Nat) : Bool := o.after.any fun e => e.on == j && Region.binds .any e
def P4 : List Oper -> List Nat -> List Nat
 | [], acc => acc
 | o :: rest, acc => P4 rest (acc ++ [o.after.toList.foldl (fun m e => if Region.binds .any e then m ||| (1 <<< e.on) ||| acc.getD e.on 0 else m) 0])
def wj (ms : List Nat) (i j : Nat) : Bool := (ms.getD i 0).testBit j
inductive Pre (ops : Array Oper) : Nat -> Nat -> Prop
 | one {i j : Nat} {o : Oper} (ho : ops[i]? = some o) (hp : Ny o j = true) : Pre ops i j
 | more {i m j : Nat} {o : Oper} (ho : ops[i]? = some o) (hp : Ny o m = true) (h : Pre ops m j) : Pre ops i j
theorem Em {ops : Array Oper} : ∀ {l : List Oper} {acc : List Nat}, (∀ k o, l[k]? = some o -> ops[acc.length + k]? = some o) -> (∀ i j, (acc.getD i 0).testBit j = true -> Pre ops i j) -> ∀ i j, wj (P4 l acc) i j = true -> Pre ops i j
 | [], acc, _, ha, i, j, h => ha i j h
 | o :: rest, acc, hl, ha, i, j, h => by
  refine Em (l := rest) (fun k o' hk => ?_) (fun i j dq => ?_) i j h
  ·have := hl (k + 1) o' (by simpa using hk)
   rw [List.length_append, List.length_singleton, Nat.add_assoc, Nat.add_comm 1 k]; exact this
  ·rw [List.getD_eq_getElem?_getD] at dq
   rcases Nat.lt_trichotomy i acc.length with lH | heq | dg
   ·rw [List.getElem?_append_left lH, <- List.getD_eq_getElem?_getD] at dq
    exact ha i j dq
   ·subst heq
    rw [List.getElem?_append_right (Nat.le_refl _)] at dq
    simp only [Nat.sub_self, List.getElem?_cons_zero, Option.getD_some] at dq
    have ho := hl 0 o zAF
    rw [Nat.add_zero] at ho
    have key : ∀ (es : List Edge) (m : Nat), (∀ e ∈ es, e ∈ o.after) -> (∀ j, m.testBit j = true -> Pre ops acc.length j) -> ∀ j, (es.foldl (fun m e => if Region.binds .any e then m ||| (1 <<< e.on) ||| acc.getD e.on 0 else m) m).testBit j = true -> Pre ops acc.length j := by
     intro es
     induction es with
     | nil => intro m _ hm j hj; exact hm j hj
     | cons e es ih =>
      intro m hes hm j hj
      refine ih _ (fun e' he' => hes e' (by simp [he'])) (fun j hj => ?_) j hj
      by_cases hb : Region.binds .any e = true
      ·simp only [hb, if_true] at hj
       have hp : Ny o e.on = true := by
        unfold Ny
        rw [<- Array.any_toList]
        exact List.any_eq_true.2 ⟨e, by simpa using hes e zAF, by simp [hb]⟩
       rw [Nat.testBit_or, Nat.testBit_or, Bool.or_eq_true, Bool.or_eq_true] at hj
       rcases hj with (hj | hj) | hj
       ·exact hm j hj
       ·rw [Nat.testBit_shiftLeft] at hj
        simp only [Bool.and_eq_true, decide_eq_true_eq] at hj
        have h1 : j - e.on = 0 := by
         have := hj.2
         rw [show (1 : Nat) = 2 ^ 0 from rfl, Nat.testBit_two_pow] at this
         have h3 : 0 = j - e.on := by simpa using this
         omega
        have : j = e.on := zAA
        subst this
        exact .one ho hp
       ·exact .more ho hp (ha e.on j hj)
      ·simp only [hb, Bool.false_eq_true, if_false] at hj; exact hm j hj
    exact key o.after.toList 0 (fun e he => by simpa using he) (fun j hj => by simp at hj) j dq
   ·rw [List.getElem?_eq_none zAk] at dq
    simp at dq
def Bt (ops : Array Oper) (i j : Nat) : Bool := wj (P4 ops.toList []) i j
theorem vr (h : Bt ops i j = true) : Pre ops i j :=
 Em (l := ops.toList) (acc := []) (fun k o hk => by simpa using hk) (fun i j h => by simp at h) i j h
def pN (P : Program) (ops : Array Oper) (bar : Oper -> Bool) (PT : List (Nat × Nat)) (NB : List Nat) (ms : List Nat) (i j : Nat) : Bool := match ops[i]?, ops[j]? with | some oi, some oj => wj ms i j || Bd ops bar oj oi || Bf bar oj oi || swapT PT bar oj oi || Cm bar oj oi || Bc PT ops bar oj oi || BP PT NB bar oj oi || BI P PT ops bar oj oi | _, _ => false
def pQ (ops : Array Oper) (pos : Nat -> Nat) (i : Nat) : Bool := match ops[i]? with | some o => o.after.all fun e => !Region.binds .any e || (decide (pos e.on < pos i) && decide (e.on < ops.size)) | none => false
def wv (ops : Array Oper) (j : Nat) : Bool := match ops[j]? with
 | some o => (match o.dst with | some d => (List.range ops.size).all fun k => k == j || (match ops[k]? with | some q => q.dst != some d | none => true) | none => false)
 | none => false
def Ds (ops : Array Oper) (pos : Nat -> Nat) (ms : List Nat) (j : Nat) : Bool := (List.range ops.size).any fun i => decide (pos j < pos i) && !wj ms i j
def RW (ops : Array Oper) (pos : Nat -> Nat) (j : Nat) : Bool := Ds ops pos (P4 ops.toList []) j
def AD (P : Program) (ops : Array Oper) (pos : Nat -> Nat) (bar : Oper -> Bool) (PT : List (Nat × Nat)) (NB : List Nat) (ms : List Nat) : Bool :=
 (List.range ops.size).all fun i => pQ ops pos i && ((List.range ops.size).all fun j => !decide (pos j < pos i) || pN P ops bar PT NB ms i j) && (!Ds ops pos ms i || wv ops i)
def MF (P : Program) (ops : Array Oper) (pos : Nat -> Nat) (bar : Oper -> Bool) : Bool := AD P ops pos bar [] [] (P4 ops.toList [])
def xR (ops : Array Oper) (pos : Nat -> Nat) (σ : St) : Bool :=
 let ms := P4 ops.toList []
 (List.range ops.size).all fun j => !Ds ops pos ms j || (match (ops[j]?).bind (·.dst) with | some d => Xi σ d | none => false)
theorem VX {xs : List Operand} (h : xs.any (xU d) = false) : ∀ z ∈ xs, z ≠ .tmp d := by
 intro z hz he
 subst he
 have := List.any_eq_false.1 h _ hz
 simp [xU] at this
theorem Ao {x : Oper} (h : Bd ops bar x y = true) : bar x = false /\ bar y = false /\ ∃ dx dy, x.dst = some dx /\ y.dst = some dy /\ dx ≠ dy /\ (∀ z ∈ xB ops y, z ≠ .tmp dx) /\ (∀ z ∈ xB ops x, z ≠ .tmp dy) /\ UP y = false /\ (y.guard = none \/ z4 x = true \/ x.guard.isSome = true) := by
 unfold Bd at h
 rw [Bool.and_eq_true, Bool.and_eq_true] at h
 obtain ⟨⟨ig, l0⟩, h⟩ := h
 refine ⟨by simpa using ig, by simpa using l0, ?_⟩
 split at h
 ·rename_i dx dy h1 h2
  simp only [Bool.and_eq_true, bne_iff_ne, ne_eq, Bool.not_eq_true', Bool.or_eq_true, Option.isNone_iff_eq_none] at h
  exact ⟨dx, dy, h1, h2, h.1.1.1.1, VX h.1.1.1.2, VX h.1.1.2, h.1.2, or_assoc.1 h.2⟩
 ·cases h
theorem yE {o : Ob} {T : TypeId} : look P (σ.Zu t j o) T x = look P σ T x := by
 cases x with
 | tmp u => simp [look, St.QI]
 | const c => rfl
 | global g => rfl
 | func f => rfl
theorem PV {σ : St} {d : Nat} {v : V} : ∀ (xs : List At), rowOf (σ.put d v) xs = rowOf σ xs
 | [] => rfl
 | x :: xs => by
  have : yP (σ.put d v) x = yP σ x := by cases x <;> simp [yP, St.JX]
  simp only [rowOf, this, PV xs]
theorem rM {x : Oper} (h : Bf bar x y = true) (iQ : zU P ops bar x σ σ1) (lK : zU P ops bar y σ1 σ2) : ∃ σ1', Xe P ops y σ σ1' /\ Xe P ops x σ1' σ2 := by
 unfold Bf at h
 simp only [Bool.and_eq_true, Bool.not_eq_true', Option.isNone_iff_eq_none] at h
 obtain ⟨⟨⟨⟨ig, l0⟩, dF⟩, fJ⟩, h⟩ := h
 have iQ := iQ.resolve_right (fun hh => by rw [ig] at hh; cases hh.1)
 have lK := lK.resolve_right (fun hh => by rw [l0] at hh; cases hh.1)
 split at h
 ·rename_i dx T p q gF gl my
  simp only [Bool.and_eq_true, Bool.not_eq_true'] at h
  obtain ⟨⟨hv, hp⟩, hq⟩ := h
  unfold Xe at iQ lK
  simp only [dF, gF] at iQ
  simp only [fJ, gl, my] at lK
  have e1 : ∃ v, Ya P σ x.op x.type v /\ σ1 = σ.put dx v := by
   unfold Step at iQ
   cases hx : x.op <;> rw [hx] at iQ hv <;> first | exact iQ | (exact Bool.noConfusion hv)
  obtain ⟨v, gi, rfl⟩ := e1
  have iW : ∀ (t j : Nat) (o : Ob), Ya P (σ.Zu t j o) x.op x.type v := by
   intro t j o
   cases hx : x.op <;> rw [hx] at hv gi <;> first | (exact Bool.noConfusion hv) | (simp only [Ya, yE] at gi ⊢; exact gi)
  have hx2 : ∀ (t j : Nat) (o : Ob), Xe P ops x (σ.Zu t j o) ((σ.put dx v).Zu t j o) := by
   intro t j o
   unfold Xe
   simp only [dF, gF]
   have := iW t j o
   rw [xh]
   unfold Step
   cases hx : x.op <;> rw [hx] at hv this <;> first | exact ⟨v, this, rfl⟩ | (exact Bool.noConfusion hv)
  unfold qK at lK
  rw [Xg hp, Xg hq] at lK
  obtain ⟨k1, k2, k3, k4, lK⟩ := lK
  split at lK
  ·rename_i t c hl
   obtain ⟨cells, c1, c2, c3, rfl⟩ := lK
   rw [St.JX] at c1
   refine ⟨_, ?_, hx2 _ _ _⟩
   unfold Xe qK
   simp only [fJ, gl, my]
   refine ⟨k1, k2, k3, k4, ?_⟩
   rw [hl]
   exact ⟨cells, c1, c2, c3, rfl⟩
  ·rename_i t j i c hl
   obtain ⟨q', size, rows, ds, c1, c2, c3, c4, c5, c6, c7, rfl⟩ := lK
   rw [St.JX] at c1
   rw [PV] at c3
   refine ⟨_, ?_, hx2 _ _ _⟩
   unfold Xe qK
   simp only [fJ, gl, my]
   refine ⟨k1, k2, k3, k4, ?_⟩
   rw [hl]
   exact ⟨q', size, rows, ds, c1, c2, c3, c4, c5, c6, c7, rfl⟩
  ·exact lK.elim
 ·cases h
theorem qN {T : TypeId} : look P σ T (.tmp t) = σ.get t := rfl
theorem PW {op : Op} (ho : o.op = op) (h : RH PT b op = true) : Step P o d σ σ' ↔ ∃ v, Ya P σ op o.type v /\ σ' = σ.put d v := by
 unfold Step
 rw [ho]
 unfold RH at h
 split at h <;> first | exact Iff.rfl | (exact Bool.noConfusion h)
theorem AK {op : Op} {ty : TypeId} {cells : List At} (h : RH PT b op = true) (hp : Ps PT σ) (c1 : σ.ob b 0 = .box cells) (hv : Ya P σ op ty v) : Ya P (σ.Zu b 0 (.box cs)) op ty v := by
 have lA : σ.ob b 0 ≠ .none := by rw [c1]; intro e; cases e
 have ho := fun u i => St.Xo σ b 0 (.box cs) u i lA
 have hO : ∀ t j, (∃ q size rows, σ.ob t j = .arr q size rows) -> ∃ q size rows, (σ.Zu b 0 (.box cs)).ob t j = .arr q size rows := by
  rintro t j ⟨q, size, rows, e⟩
  by_cases hh : t = b /\ j = 0
  ·obtain ⟨rfl, rfl⟩ := hh; rw [c1] at e; cases e
  ·exact ⟨q, size, rows, by rw [ho, if_neg hh]; exact e⟩
 have cb : ∀ t j, (∃ size rows, σ.ob t j = .lit size rows) -> ∃ size rows, (σ.Zu b 0 (.box cs)).ob t j = .lit size rows := by
  rintro t j ⟨size, rows, e⟩
  by_cases hh : t = b /\ j = 0
  ·obtain ⟨rfl, rfl⟩ := hh; rw [c1] at e; cases e
  ·exact ⟨size, rows, by rw [ho, if_neg hh]; exact e⟩
 have bZ : ∀ t, (∃ cells, σ.ob t 0 = .box cells) -> ∃ cells, (σ.Zu b 0 (.box cs)).ob t 0 = .box cells := by
  rintro t ⟨ce, e⟩
  by_cases hh : t = b
  ·subst hh; exact ⟨cs, by rw [ho, if_pos ⟨rfl, rfl⟩]⟩
  ·exact ⟨ce, by rw [ho, if_neg (fun hh2 => hh hh2.1)]; exact e⟩
 unfold RH at h
 split at h
 ·rename_i T t
  simp only [List.any_eq_true, Bool.and_eq_true, beq_iff_eq, bne_iff_ne, ne_eq] at h
  obtain ⟨r, hrm, rfl, hrb⟩ := h
  simp only [Ya, yE] at hv ⊢
  refine ⟨hv.1, hv.2.1, ?_⟩
  have hv := hv.2.2
  rw [qN] at hv ⊢
  rcases hp r hrm with e | ⟨c, e⟩
  ·rw [e] at hv; exact hv.elim
  ·rw [e] at hv ⊢
   obtain ⟨ce, e1, e2, e3⟩ := hv
   exact ⟨ce, by rw [ho, if_neg (fun hh => hrb hh.1)]; exact e1, e2, e3⟩
 ·simp only [Ya, yE] at hv ⊢
  refine ⟨hv.1, hv.2.1, ?_⟩
  have hv := hv.2.2
  split at hv
  ·rename_i e; first | exact ⟨bZ _ hv.1, hv.2⟩ | (simp only [e]; exact ⟨bZ _ hv.1, hv.2⟩)
  ·rename_i e; first | exact ⟨hO _ _ hv.1, hv.2⟩ | (simp only [e]; exact ⟨hO _ _ hv.1, hv.2⟩)
  ·rename_i e; first | exact hv | (simp only [e]; exact hv)
  ·rename_i e
   have hq : ∀ t j, (∃ size rows, σ.ob t j = .arr true size rows) -> ∃ size rows, (σ.Zu b 0 (.box cs)).ob t j = .arr true size rows := by
    rintro t j ⟨size, rows, e⟩
    by_cases hh : t = b /\ j = 0
    ·obtain ⟨rfl, rfl⟩ := hh; rw [c1] at e; cases e
    ·exact ⟨size, rows, by rw [ho, if_neg hh]; exact e⟩
   first | exact ⟨hq _ _ hv.1, hv.2⟩ | (simp only [e]; exact ⟨hq _ _ hv.1, hv.2⟩)
  ·exact hv.elim
 ·simp only [Ya, yE] at hv ⊢; exact hv
 ·simp only [Ya, yE] at hv ⊢; exact hv
 ·simp only [Ya, yE] at hv ⊢; exact hv
 ·simp only [Ya, yE] at hv ⊢; exact hv
 ·simp only [Ya, yE] at hv ⊢
  refine ⟨hv.1, ?_⟩
  have hv := hv.2
  split at hv
  ·rename_i e; first | exact hv | (simp only [e]; exact hv)
  ·rename_i e; first | exact hv | (simp only [e]; exact hv)
  ·rename_i e; first | exact hv | (simp only [e]; exact hv)
  ·rename_i e; first | exact ⟨hv.1, hv.2.1.imp (hO _ _) (cb _ _), hv.2.2⟩ | (simp only [e]; exact ⟨hv.1, hv.2.1.imp (hO _ _) (cb _ _), hv.2.2⟩)
  ·rename_i u j i c e
   obtain ⟨g1, size, rows, n, s, g2, g3⟩ := hv
   have g4 : (σ.Zu b 0 (.box cs)).ob u j = .arr true size rows := by
    rw [ho]
    by_cases hh : u = b /\ j = 0
    ·obtain ⟨rfl, rfl⟩ := hh; rw [c1] at g2; cases g2
    ·rw [if_neg hh]; exact g2
   first | exact ⟨g1, size, rows, n, s, g4, g3⟩ | (simp only [e]; exact ⟨g1, size, rows, n, s, g4, g3⟩)
  ·exact hv.elim
 ·exact Bool.noConfusion h
theorem px {x : Oper} (h : swapT PT bar x y = true) (hp : Ps PT σ) (iQ : zU P ops bar x σ σ1) (lK : zU P ops bar y σ1 σ2) : ∃ σ1', Xe P ops y σ σ1' /\ Xe P ops x σ1' σ2 := by
 unfold swapT at h
 simp only [Bool.and_eq_true, Bool.not_eq_true', Option.isNone_iff_eq_none] at h
 obtain ⟨⟨⟨⟨ig, l0⟩, dF⟩, fJ⟩, h⟩ := h
 have iQ := iQ.resolve_right (fun hh => by rw [ig] at hh; cases hh.1)
 have lK := lK.resolve_right (fun hh => by rw [l0] at hh; cases hh.1)
 split at h
 ·rename_i dx T tp q gF gl my
  simp only [Bool.and_eq_true, Bool.not_eq_true', List.any_eq_true, beq_iff_eq, bne_iff_ne, ne_eq] at h
  obtain ⟨⟨lA, hq⟩, p, aX, g7, hv⟩ := h
  have l8 : xU dx (.tmp tp) = false := by simp [xU, lA]
  unfold Xe at iQ lK
  simp only [dF, gF] at iQ
  simp only [fJ, gl, my] at lK
  obtain ⟨v, gi, rfl⟩ := (PW rfl hv).1 iQ
  unfold qK at lK
  rw [Xg l8, Xg hq, qN] at lK
  obtain ⟨k1, k2, k3, k4, lK⟩ := lK
  have gz := hp p aX
  rw [g7] at gz
  rcases gz with gz | ⟨c, gz⟩
  ·rw [gz] at lK; exact lK.elim
  ·rw [gz] at lK
   obtain ⟨cells, c1, c2, c3, rfl⟩ := lK
   rw [St.JX] at c1
   refine ⟨σ.Zu p.2 0 (.box (place cells c (unc (look P σ T q)).cells)), ?_, ?_⟩
   ·unfold Xe qK
    simp only [fJ, gl, my]
    refine ⟨k1, by rw [qN]; exact k2, k3, k4, ?_⟩
    rw [qN, gz]
    exact ⟨cells, c1, c2, c3, rfl⟩
   ·unfold Xe
    simp only [dF, gF]
    rw [xh]
    exact (PW rfl hv).2 ⟨v, AK hv hp c1 gi, rfl⟩
 ·cases h
theorem kL : ∀ (σ : St) (d : Nat), σ.put d (σ.get d) = σ
 | [], _ => rfl
 | e :: σ, 0 => by simp [St.put, St.get]
 | e :: σ, d + 1 => by have := kL σ d; simp only [St.put, St.get, List.getElem?_cons_succ] at this ⊢; rw [this]
theorem NR : ∀ (σ : St) (d : Nat) (v v' : V), (σ.put d v).put d v' = σ.put d v'
 | [], _, _, _ => rfl
 | e :: σ, 0, _, _ => rfl
 | e :: σ, d + 1, v, v' => by simp [St.put, NR σ d v v']
theorem Gv (h : ∀ u, σ'.get u = σ.get u) {T : TypeId} : look P σ' T x = look P σ T x := by
 cases x with
 | tmp u => exact h u
 | const c => rfl
 | global g => rfl
 | func f => rfl
theorem po {x : Oper} (h : Cm bar x y = true) (gF : x.dst = some d) (lp : Xi σ d = true) (iQ : zU P ops bar x σ σ1) (lK : zU P ops bar y σ1 σ2) : ∃ σ1', zU P ops bar y σ σ1' /\ Xe P ops x σ1' σ2 := by
 unfold Cm at h
 simp only [gF, Bool.and_eq_true, Bool.not_eq_true', Option.isNone_iff_eq_none] at h
 obtain ⟨⟨⟨⟨⟨⟨ig, l0⟩, dF⟩, ld⟩, fJ⟩, gl⟩, hv, hu⟩ := h
 have iQ := iQ.resolve_right (fun hh => by rw [ig] at hh; cases hh.1)
 unfold Xe at iQ
 simp only [dF, gF] at iQ
 have e1 : ∃ v, Ya P σ x.op x.type v /\ σ1 = σ.put d v := by
  unfold Step at iQ
  cases hx : x.op <;> rw [hx] at iQ hv <;> first | exact iQ | (exact Bool.noConfusion hv)
 obtain ⟨v, gi, rfl⟩ := e1
 have back : ∀ σ', (∀ u, σ'.get u = σ.get u) -> Xe P ops x σ' (σ'.put d v) := by
  intro σ' hg
  unfold Xe
  simp only [dF, gF]
  have : Ya P σ' x.op x.type v := by
   cases hx : x.op <;> rw [hx] at hv gi <;> first | (exact Bool.noConfusion hv) | (simp only [Ya, Gv hg] at gi ⊢; exact gi)
  unfold Step
  cases hx : x.op <;> rw [hx] at hv this <;> first | exact ⟨v, this, rfl⟩ | (exact Bool.noConfusion hv)
 rcases lK with lK | ⟨_, _, _, hk, _⟩
 · -- a plain store
  unfold Vr at ld
  split at ld
  ·rename_i T p q my
   simp only [VQ, my, Bool.and_eq_true, Bool.not_eq_true'] at hu
   unfold Xe at lK
   simp only [fJ, gl, my] at lK
   unfold qK at lK
   rw [Xg hu.1, Xg hu.2] at lK
   obtain ⟨k1, k2, k3, k4, lK⟩ := lK
   split at lK
   ·rename_i t c hl
    obtain ⟨cells, c1, c2, c3, rfl⟩ := lK
    rw [St.JX] at c1
    refine ⟨σ.Zu t 0 (.box (place cells c (unc (look P σ T q)).cells)), .inl ?_, ?_⟩
    ·unfold Xe qK
     simp only [fJ, gl, my]
     refine ⟨k1, k2, k3, k4, ?_⟩
     rw [hl]
     exact ⟨cells, c1, c2, c3, rfl⟩
    ·rw [xh]; exact back _ (fun u => St.QI _ _ _ _ _)
   ·rename_i t j i c hl
    obtain ⟨q', size, rows, ds, c1, c2, c3, c4, c5, c6, c7, rfl⟩ := lK
    rw [St.JX] at c1
    rw [PV] at c3
    refine ⟨σ.Zu t j (.arr q' size (rows.set i (place (rows.getD i []) c ds))), .inl ?_, ?_⟩
    ·unfold Xe qK
     simp only [fJ, gl, my]
     refine ⟨k1, k2, k3, k4, ?_⟩
     rw [hl]
     exact ⟨q', size, rows, ds, c1, c2, c3, c4, c5, c6, c7, rfl⟩
    ·rw [xh]; exact back _ (fun u => St.QI _ _ _ _ _)
   ·exact lK.elim
  ·cases ld
 ·obtain ⟨⟨fO, ic⟩, iX, bZ⟩ := hk ld
  rw [St.JV] at fO
  have dH : M6 (σ.get d) = true := by
   rw [qd] at lp
   unfold St.get
   rcases lp with e | ⟨x', e⟩ <;> rw [e] <;> rfl
  have hq : ∀ l : List (Nat × V), (σ.put d v).Ja ((d, σ.get d) :: l) = σ.Ja l := fun l => by rw [St.Ja, NR, kL]
  have h0 := iX [(d, σ.get d)] (fun p hp => by cases List.mem_singleton.1 hp; exact ⟨hu, dH⟩)
  rw [hq []] at h0
  have hlen : d < σ.length := by
   rw [qd] at lp
   rcases lp with e | ⟨x', e⟩ <;> exact (List.getElem?_eq_some_iff.1 e).1
  have cP : ∀ u, (σ2.put d (σ.get d)).get u = σ.get u := fun u => by
   rw [St.zg]
   by_cases cZ : u = d /\ d < σ2.length
   ·rw [if_pos cZ, cZ.1]
   ·rw [if_neg cZ, ic, St.zg]
    have aZ : ¬ u = d := fun e => cZ ⟨e, by rw [fO]; exact hlen⟩
    rw [if_neg (fun hh => aZ hh.1)]
  refine ⟨σ2.put d (σ.get d), .inr ⟨l0, h0.1, h0.2, fun _ => ⟨⟨by rw [St.JV]; exact fO, cP⟩, fun l hl => ?_, fun t cells hb => by rw [St.JX]; exact bZ t cells (by rw [St.JX]; exact hb)⟩, fun hh => (by rw [Dt ld] at hh; cases hh), fun hh _ => (by rw [BC ld] at hh; cases hh)⟩, ?_⟩
  ·have := iX ((d, σ.get d) :: l) (fun p hp => by
    rcases List.mem_cons.1 hp with rfl | hp
    ·exact ⟨hu, dH⟩
    ·exact hl p hp)
   rw [hq l] at this
   exact this
  ·have := back _ cP
   rw [NR] at this
   have e : σ2.put d v = σ2 := by
    have g1 := ic d
    rw [St.zg, if_pos ⟨rfl, hlen⟩] at g1
    rw [<- g1]; exact kL σ2 d
   rw [e] at this
   exact this
theorem oK {x : Oper} (h : BP PT NB bar x y = true) (hp : Ps PT σ) (hnb : Hx NB σ) (gF : x.dst = some d) (lp : Xi σ d = true) (iQ : zU P ops bar x σ σ1) (lK : zU P ops bar y σ1 σ2) : ∃ σ1', zU P ops bar y σ σ1' /\ Xe P ops x σ1' σ2 := by
 unfold BP at h
 simp only [gF, Bool.and_eq_true, Bool.not_eq_true', Option.isNone_iff_eq_none] at h
 obtain ⟨⟨⟨⟨⟨⟨ig, l0⟩, dF⟩, ld⟩, fJ⟩, gl⟩, h⟩ := h
 have iQ := iQ.resolve_right (fun hh => by rw [ig] at hh; cases hh.1)
 split at h
 ·rename_i dx T tp q hdx' my
  cases hdx'
  simp only [Bool.and_eq_true, Bool.not_eq_true', bne_iff_ne, ne_eq, List.contains_iff_mem] at h
  obtain ⟨⟨⟨htp, lA⟩, hq⟩, hv⟩ := h
  have l8 : xU d (.tmp tp) = false := by simp [xU, lA]
  have hu : VQ y d = true := by simp only [VQ, my, l8, hq]; rfl
  unfold Xe at iQ
  simp only [dF, gF] at iQ
  have e1 : ∃ v, Ya P σ x.op x.type v /\ σ1 = σ.put d v := by
   unfold Step at iQ
   cases hx : x.op <;> rw [hx] at iQ hv <;> first | exact iQ | (exact Bool.noConfusion hv)
  obtain ⟨v, gi, rfl⟩ := e1
  have back : ∀ σ', (∀ u, σ'.get u = σ.get u) -> (∀ t cells, σ.ob t 0 = .box cells -> σ'.ob t 0 = .box cells) -> Xe P ops x σ' (σ'.put d v) := by
   intro σ' hg bZ
   unfold Xe
   simp only [dF, gF]
   have : Ya P σ' x.op x.type v := by
    cases hx : x.op <;> rw [hx] at hv gi <;> try exact Bool.noConfusion hv
    case load T' z =>
     cases z with
     | tmp t =>
      simp only [List.any_eq_true, beq_iff_eq] at hv
      obtain ⟨p, aX, g7⟩ := hv
      simp only [Ya, Gv hg] at gi ⊢
      refine ⟨gi.1, gi.2.1, ?_⟩
      have iW := gi.2.2
      have gz := hp p aX
      rw [g7] at gz
      rw [qN] at iW ⊢
      rcases gz with e | ⟨c, e⟩
      ·rw [e] at iW; exact iW.elim
      ·rw [e] at iW ⊢
       obtain ⟨ce, k1, k2⟩ := iW
       exact ⟨ce, bZ _ _ k1, k2⟩
     | _ => exact Bool.noConfusion hv
    case fieldAddr T' z f =>
     cases z with
     | tmp t =>
      simp only [List.any_eq_true, beq_iff_eq] at hv
      obtain ⟨p, aX, g7⟩ := hv
      simp only [Ya, Gv hg] at gi ⊢
      refine ⟨gi.1, gi.2.1, ?_⟩
      have iW := gi.2.2
      have gz := hp p aX
      rw [g7] at gz
      rw [qN] at iW ⊢
      rcases gz with e | ⟨c, e⟩
      ·rw [e] at iW; exact iW.elim
      ·rw [e] at iW ⊢
       obtain ⟨⟨ce, k1⟩, k2⟩ := iW
       exact ⟨⟨ce, bZ _ _ k1⟩, k2⟩
     | _ => exact Bool.noConfusion hv
   unfold Step
   cases hx : x.op <;> rw [hx] at hv this <;> first | exact ⟨v, this, rfl⟩ | (exact Bool.noConfusion hv)
  rcases lK with lK | ⟨_, _, _, hk, _⟩
  ·unfold Xe at lK
   simp only [fJ, gl, my] at lK
   unfold qK at lK
   rw [Xg l8, Xg hq] at lK
   obtain ⟨k1, k2, k3, k4, lK⟩ := lK
   split at lK
   ·rename_i t c hl
    exact absurd hl (hnb tp htp t c)
   ·rename_i t j i c hl
    obtain ⟨q', size, rows, ds, c1, c2, c3, c4, c5, c6, c7, rfl⟩ := lK
    rw [St.JX] at c1
    rw [PV] at c3
    refine ⟨σ.Zu t j (.arr q' size (rows.set i (place (rows.getD i []) c ds))), .inl ?_, ?_⟩
    ·unfold Xe qK
     simp only [fJ, gl, my]
     refine ⟨k1, k2, k3, k4, ?_⟩
     rw [hl]
     exact ⟨q', size, rows, ds, c1, c2, c3, c4, c5, c6, c7, rfl⟩
    ·rw [xh]
     refine back _ (fun u => St.QI _ _ _ _ _) (fun b cells hb => ?_)
     have fz : σ.ob t j ≠ .none := by rw [c1]; simp
     rw [St.Xo σ t j _ b 0 fz]
     split
     ·rename_i hc; rw [hc.1, hc.2] at hb; rw [c1] at hb; cases hb
     ·exact hb
   ·exact lK.elim
  ·obtain ⟨⟨fO, ic⟩, iX, bZ⟩ := hk ld
   rw [St.JV] at fO
   have dH : M6 (σ.get d) = true := by
    rw [qd] at lp
    unfold St.get
    rcases lp with e | ⟨x', e⟩ <;> rw [e] <;> rfl
   have hqq : ∀ l : List (Nat × V), (σ.put d v).Ja ((d, σ.get d) :: l) = σ.Ja l := fun l => by rw [St.Ja, NR, kL]
   have h0 := iX [(d, σ.get d)] (fun p hp => by cases List.mem_singleton.1 hp; exact ⟨hu, dH⟩)
   rw [hqq []] at h0
   have hlen : d < σ.length := by
    rw [qd] at lp
    rcases lp with e | ⟨x', e⟩ <;> exact (List.getElem?_eq_some_iff.1 e).1
   have cP : ∀ u, (σ2.put d (σ.get d)).get u = σ.get u := fun u => by
    rw [St.zg]
    by_cases cZ : u = d /\ d < σ2.length
    ·rw [if_pos cZ, cZ.1]
    ·rw [if_neg cZ, ic, St.zg]
     have aZ : ¬ u = d := fun e => cZ ⟨e, by rw [fO]; exact hlen⟩
     rw [if_neg (fun hh => aZ hh.1)]
   have hbx' : ∀ t cells, σ.ob t 0 = .box cells -> (σ2.put d (σ.get d)).ob t 0 = .box cells := fun t cells hb => by rw [St.JX]; exact bZ t cells (by rw [St.JX]; exact hb)
   refine ⟨σ2.put d (σ.get d), .inr ⟨l0, h0.1, h0.2, fun _ => ⟨⟨by rw [St.JV]; exact fO, cP⟩, fun l hl => ?_, hbx'⟩, fun hh => (by rw [Dt ld] at hh; cases hh), fun hh _ => (by rw [BC ld] at hh; cases hh)⟩, ?_⟩
   ·have := iX ((d, σ.get d) :: l) (fun p hp => by
     rcases List.mem_cons.1 hp with rfl | hp
     ·exact ⟨hu, dH⟩
     ·exact hl p hp)
    rw [hqq l] at this
    exact this
   ·have := back _ cP hbx'
    rw [NR] at this
    have e : σ2.put d v = σ2 := by
     have g1 := ic d
     rw [St.zg, if_pos ⟨rfl, hlen⟩] at g1
     rw [<- g1]; exact kL σ2 d
    rw [e] at this
    exact this
 ·cases h
theorem nX (ic : ∀ t, t ≠ d -> σ1.get t = σ.get t /\ (σ.get t).ref d = false) (gw : ∀ t j cells, t ≠ d -> σ1.ob t j = .box cells -> σ.ob t j = .box cells /\ YW d cells = false)
  (hO : ∀ t j q s rows, t ≠ d -> σ1.ob t j = .arr q s rows -> ∃ lM, σ.ob t j = .arr q s lM) (hp : Ps PT σ) {op : Op} {ty : TypeId} (ew : wG PT op = true) (eN : ∀ z ∈ op.operands.toList, z ≠ .tmp d) (hv : Ya P σ1 op ty v) : Ya P σ op ty v /\ v.ref d = false := by
 have hl : ∀ (z : Operand) (T : TypeId), z ≠ .tmp d -> look P σ1 T z = look P σ T z := by
  intro z T hz
  cases z with
  | tmp u => exact (ic u (fun e => hz (by rw [e]))).1
  | const c => rfl
  | global g => rfl
  | func f => rfl
 have hr : ∀ (z : Operand) (T : TypeId), z ≠ .tmp d -> (look P σ T z).ref d = false := by
  intro z T hz
  cases z with
  | tmp u => exact (ic u (fun e => hz (by rw [e]))).2
  | const c => exact Tv T c d
  | global g => rfl
  | func f => rfl
 have lA : ∀ (z : Operand) (T : TypeId) (x : At), z ≠ .tmp d -> unc (look P σ T z) = .one x -> x.ref d = false := by
  intro z T x hz hu
  cases hx : x.ref d with
  | false => rfl
  | true => have := QX hu hx; rw [hr z T hz] at this; cases this
 refine ⟨?_, ?_⟩
 ·cases op <;> simp only [wG] at ew <;> try exact Bool.noConfusion ew
  case move x =>
   simp only [Ya] at hv ⊢
   rw [hv, hl x ty (eN x zAa)]
  case load T x =>
   cases x with
   | tmp t =>
    have ht : Operand.tmp t ≠ .tmp d := eN _ zAa
    simp only [List.any_eq_true, beq_iff_eq] at ew
    obtain ⟨p, aX, g7⟩ := ew
    simp only [Ya] at hv ⊢
    rw [hl _ 0 ht] at hv
    refine ⟨hv.1, hv.2.1, ?_⟩
    have iW := hv.2.2
    have gz := hp p aX
    rw [g7] at gz
    rw [qN] at iW ⊢
    rcases gz with e | ⟨c, e⟩
    ·rw [e] at iW; exact iW.elim
    ·rw [e] at iW ⊢
     obtain ⟨ce, e1, e2⟩ := iW
     have hb : p.2 ≠ d := by
      have := lA (.tmp t) 0 (.bptr p.2 c) ht (by rw [qN]; exact e)
      simpa [At.ref] using this
     exact ⟨ce, (gw _ _ _ hb e1).1, e2⟩
   | _ => exact Bool.noConfusion ew
  case fieldAddr T x f =>
   cases x with
   | tmp t =>
    have ht : Operand.tmp t ≠ .tmp d := eN _ zAa
    simp only [Ya] at hv ⊢
    rw [hl _ 0 ht] at hv
    refine ⟨hv.1, hv.2.1, ?_⟩
    have iW := hv.2.2
    split at iW
    ·rename_i t' c e
     have hb : t' ≠ d := zBE
     obtain ⟨⟨ce, e1⟩, e2⟩ := iW
     first | exact ⟨⟨ce, (gw _ _ _ hb e1).1⟩, e2⟩ | (simp only [e]; exact ⟨⟨ce, (gw _ _ _ hb e1).1⟩, e2⟩)
    ·rename_i t' j i c e
     have hb : t' ≠ d := zBE
     obtain ⟨⟨q, s, rows, e1⟩, e2⟩ := iW
     obtain ⟨lM, e3⟩ := hO _ _ _ _ _ hb e1
     first | exact ⟨⟨q, s, lM, e3⟩, e2⟩ | (simp only [e]; exact ⟨⟨q, s, lM, e3⟩, e2⟩)
    ·rename_i rr c e; first | exact iW | (simp only [e]; exact iW)
    ·rename_i t' j i c k e
     have hb : t' ≠ d := zBE
     obtain ⟨⟨s, rows, e1⟩, e2⟩ := iW
     obtain ⟨lM, e3⟩ := hO _ _ _ _ _ hb e1
     first | exact ⟨⟨s, lM, e3⟩, e2⟩ | (simp only [e]; exact ⟨⟨s, lM, e3⟩, e2⟩)
    ·exact iW.elim
   | _ => exact Bool.noConfusion ew
  case slice T x lo hi mx =>
   cases x with
   | tmp t =>
    cases mx with
    | some m => exact Bool.noConfusion ew
    | none =>
     have ht : Operand.tmp t ≠ .tmp d := eN _ zAa
     have cQ : ∀ (df n : Nat) (z : Option Operand), (∀ y, z = some y -> y ≠ .tmp d) -> bnd P σ1 df z n -> bnd P σ df z n := by
      intro df n z hz h
      cases z with
      | none => exact h
      | some z => simp only [bnd] at h ⊢; rw [hl z 0 (hz z rfl)] at h; exact h
     have fZ : ∀ y, lo = some y -> y ≠ .tmp d := fun y e => eN y (by subst e; simp [Op.operands])
     have dI : ∀ y, hi = some y -> y ≠ .tmp d := fun y e => eN y (by subst e; simp [Op.operands])
     simp only [Ya] at hv ⊢
     rw [hl _ 0 ht] at hv
     refine ⟨hv.1, ?_⟩
     have iW := hv.2
     split at iW
     ·rename_i s e
      obtain ⟨h1, l, h, h2, h3, h4⟩ := iW
      first | exact ⟨h1, l, h, cQ _ _ _ fZ h2, cQ _ _ _ dI h3, h4⟩ | (simp only [e]; exact ⟨h1, l, h, cQ _ _ _ fZ h2, cQ _ _ _ dI h3, h4⟩)
     ·rename_i s rows e
      obtain ⟨h1, h0, l, h, h2, h3, h4⟩ := iW
      first | exact ⟨h1, h0, l, h, cQ _ _ _ fZ h2, cQ _ _ _ dI h3, h4⟩ | (simp only [e]; exact ⟨h1, h0, l, h, cQ _ _ _ fZ h2, cQ _ _ _ dI h3, h4⟩)
     ·rename_i t' j o len e
      have hb : t' ≠ d := zBE
      obtain ⟨h1, ⟨q, rows, e1⟩, l, h, h2, h3, h4⟩ := iW
      obtain ⟨lM, e3⟩ := hO _ _ _ _ _ hb e1
      first | exact ⟨h1, ⟨q, lM, e3⟩, l, h, cQ _ _ _ fZ h2, cQ _ _ _ dI h3, h4⟩ | (simp only [e]; exact ⟨h1, ⟨q, lM, e3⟩, l, h, cQ _ _ _ fZ h2, cQ _ _ _ dI h3, h4⟩)
     ·exact iW.elim
   | _ => exact Bool.noConfusion ew
 ·cases hx : v.ref d with
  | false => rfl
  | true =>
   obtain ⟨z, hz, T, h1⟩ := M8 hv hx
   rw [hl z T (eN z hz)] at h1
   rcases h1 with h1 | ⟨t, cells, h1, h2, h3⟩
   ·rw [hr z T (eN z hz)] at h1; cases h1
   ·by_cases ab : t = d
    ·rw [ab, hr z T (eN z hz)] at h1; cases h1
    ·have := (gw t 0 cells ab h2).2
     rw [this] at h3; cases h3
theorem oA {x : Oper} (h : Bc PT ops bar x y = true) (hp : Ps PT σ) (gF : x.dst = some d) (lp : Xi σ d = true) (iQ : zU P ops bar x σ σ1) (lK : zU P ops bar y σ1 σ2) : ∃ σ1', zU P ops bar y σ σ1' /\ zU P ops bar x σ1' σ2 := by
 unfold Bc at h
 simp only [Bool.and_eq_true, Bool.not_eq_true', Option.isNone_iff_eq_none] at h
 obtain ⟨⟨⟨⟨⟨⟨ig, l0⟩, dt⟩, dF⟩, fJ⟩, ew⟩, h⟩ := h
 rw [gF] at h
 cases gl : y.dst with
 | none => rw [gl] at h; cases h
 | some dy =>
  rw [gl] at h
  simp only [Bool.and_eq_true, Bool.not_eq_true', bne_iff_ne, ne_eq] at h
  obtain ⟨⟨lA, fc⟩, dn⟩ := h
  have hxy' := VX fc
  have hyx' := VX dn
  have lK := lK.resolve_right (fun hh => by rw [l0] at hh; cases hh.1)
  rcases iQ with iQ | ⟨_, hss, hck, _, bu, _⟩
  ·have iV : UP y = false := by
    unfold UP
    cases my : y.op <;> rw [my] at ew <;> first | rfl | (exact Bool.noConfusion ew)
   obtain ⟨σ1', hy, hx⟩ := swap gF gl lA hxy' hyx' iV (.inl fJ) lp iQ lK
   exact ⟨σ1', .inl hy, .inl hx⟩
  ·obtain ⟨d', lL, hlen, ic, gw, hO, iX⟩ := bu dt
   rw [gF] at lL; cases lL
   have e2 : ∃ v, Ya P σ1 y.op y.type v /\ σ2 = σ1.put dy v := by
    unfold Xe at lK
    simp only [fJ, gl] at lK
    unfold Step at lK
    cases my : y.op <;> rw [my] at lK ew <;> first | exact lK | (exact Bool.noConfusion ew)
   obtain ⟨v, hv, rfl⟩ := e2
   obtain ⟨bL, di⟩ := nX ic gw hO hp ew (fun z hz => hxy' z (by simp only [xB, List.mem_append]; exact .inl hz)) hv
   have hun : P8 x dy = true := by
    simp only [P8, Bool.not_eq_true']
    refine List.any_eq_false.2 (fun z hz => ?_)
    have := hyx' z (by simp only [xB, List.mem_append]; exact .inl hz)
    cases z <;> simp [xU] at this ⊢
    exact this
   have lW : ∀ p ∈ [(dy, v)], p.1 ≠ d /\ P8 x p.1 = true /\ p.2.ref d = false := fun p hp => by
    cases List.mem_singleton.1 hp; exact ⟨fun e => lA e.symm, hun, di⟩
   have h0 := iX [(dy, v)] lW
   refine ⟨σ.put dy v, .inl ?_, .inr ⟨ig, h0.1, h0.2, fun hh => (by rw [Dt hh] at dt; cases dt), fun _ => ⟨d, gF, by rw [St.JV, St.JV]; exact hlen, fun t ht => ?_, fun t j cells ht hb => ?_, fun t j q s rows ht hb => ?_, fun l hl => ?_⟩, fun hh _ => (by rw [th dt] at hh; cases hh)⟩⟩
   ·unfold Xe
    simp only [fJ, gl]
    unfold Step
    cases my : y.op <;> rw [my] at bL ew <;> first | exact ⟨v, bL, rfl⟩ | (exact Bool.noConfusion ew)
   ·have h1 := ic t ht
    rw [St.zg, St.zg, hlen]
    by_cases hc : t = dy /\ dy < σ.length
    ·simp only [if_pos hc]; exact ⟨trivial, di⟩
    ·simp only [if_neg hc]; exact h1
   ·rw [St.JX] at hb ⊢; exact gw t j cells ht hb
   ·rw [St.JX] at hb ⊢; exact hO t j q s rows ht hb
   ·exact iX ((dy, v) :: l) (fun p hp => by
     rcases List.mem_cons.1 hp with rfl | hp
     ·exact lW _ zAF
     ·exact hl p hp)
theorem uQ (hn : σ.ob t j ≠ .none) : σ.Zu t j (σ.ob t j) = σ := by
 apply List.ext_getElem?
 intro u
 rw [JO]
 by_cases hu : u = t
 ·subst hu
  obtain ⟨e, he, ho⟩ := RI (σ := σ) (t := u) (j := j) rfl hn
  rw [if_pos rfl, he, Option.map_some]
  have : e.2.set j (σ.ob u j) = e.2 := by
   rw [<- ho]
   apply List.ext_getElem?
   intro k
   rw [List.getElem?_set]
   by_cases hk : j = k
   ·subst hk
    rw [if_pos rfl]
    split
    ·rename_i lH; unfold Yj; rw [List.getElem?_eq_getElem lH]
    ·rename_i lH; exact (List.getElem?_eq_none zAA).symm
   ·rw [if_neg hk]
  rw [this]
 ·rw [if_neg hu]
theorem C4 (σ : St) (t j : Nat) (o o' : Ob) : (σ.Zu t j o).Zu t j o' = σ.Zu t j o' := by
 apply List.ext_getElem?
 intro u
 rw [JO, JO, JO]
 by_cases hu : u = t
 ·simp only [if_pos hu]
  cases σ[u]? <;> simp
 ·simp only [if_neg hu]
section
variable {cells : List At} {os : Option (List Ob)}
theorem PS : (yx t d cs v os σ).length = σ.length := by
 cases os <;> simp [yx, St.JV, St.WB, St.XW]
theorem CA (h : u ≠ d) : (yx t d cs v os σ).get u = σ.get u := by
 cases os <;> simp [yx, St.zg, St.VL, St.QI, h]
theorem oL (hb : σ.ob t 0 = .box cells) (hu : os ≠ none -> u ≠ d) : (yx t d cs v os σ).ob u j = if u = t /\ j = 0 then .box cs else σ.ob u j := by
 have hn : σ.ob t 0 ≠ .none := by rw [hb]; simp
 cases os with
 | none => simp only [yx, St.JX]; exact St.Xo σ t 0 _ u j hn
 | some l =>
  have := hu zAF
  simp only [yx, St.Jt, this, false_and, if_false]
  exact St.Xo σ t 0 _ u j hn
theorem MQ : (yx t d cs v os σ)[u]? = if u = d then (σ[u]?).map (fun e => (v, match os with | some l => l | none => if u = t then e.2.set 0 (.box cs) else e.2)) else if u = t then (σ[u]?).map (fun e => (e.1, e.2.set 0 (.box cs))) else σ[u]? := by
 cases os <;> simp only [yx, kK, xN, JO] <;> by_cases h1 : u = d <;> by_cases h2 : u = t <;> simp [h1, h2] <;> (try subst h1) <;> (try subst h2) <;> (try simp_all) <;> (first | (cases σ[u]? <;> rfl) | (cases σ[t]? <;> rfl) | (cases σ[d]? <;> rfl))
theorem H7 (iV : ∀ a j w l, e ≠ .drop a j w l) (h1 : dx ≠ d) (h2 : (∀ w, e ≠ .put w) -> t ≠ dx) : e.ap dx (yx t d cs v os σ) = yx t d cs v os (e.ap dx σ) := by
 apply List.ext_getElem?
 intro u
 rw [MQ]
 cases e with
 | put w =>
  simp only [Eff.ap, kK, MQ]
  by_cases e1 : u = dx
  ·subst e1
   simp only [if_true, if_neg h1]
   by_cases e2 : u = t <;> simp [e2] <;> (first | (cases σ[u]? <;> rfl) | (cases σ[t]? <;> rfl) | rfl)
  ·simp only [if_neg e1]
 | new w l =>
  have h3 := h2 (by intro w h; cases h)
  simp only [Eff.ap, xN, MQ]
  by_cases e1 : u = dx
  ·subst e1
   simp only [if_true, if_neg h1, if_neg (Ne.symm h3)]
  ·simp only [if_neg e1]
 | drop a j w l => exact absurd rfl (iV a j w l)
theorem vj (h : σ.fresh u = true) (ga : YW u cs = false) (hv : v.ref u = false /\ ∀ l, os = some l -> Y6 u l = false) : (yx t d cs v os σ).fresh u = true := by
 have hf := Q8.1 h
 refine Q8.2 ⟨by rw [PS]; exact hf.1, fun k e he hk => ?_⟩
 rw [MQ] at he
 have hset : ∀ os0, Y6 u os0 = false -> Y6 u (os0.set 0 (.box cs)) = false := by
  intro os0 h0
  cases os0 with
  | nil => exact h0
  | cons o os0 =>
   simp only [List.set_cons_zero]
   cases o <;> simp_all [Y6]
 by_cases h1 : k = d
 ·rw [if_pos h1] at he
  simp only [Option.map_eq_some_iff] at he
  obtain ⟨e0, eQ, rfl⟩ := he
  refine ⟨hv.1, ?_⟩
  cases os with
  | some l => exact hv.2 l rfl
  | none =>
   have := (hf.2 k e0 eQ hk).2
   simp only
   split
   ·exact hset _ this
   ·exact this
 ·rw [if_neg h1] at he
  split at he
  ·simp only [Option.map_eq_some_iff] at he
   obtain ⟨e0, eQ, rfl⟩ := he
   exact ⟨(hf.2 k e0 eQ hk).1, hset _ (hf.2 k e0 eQ hk).2⟩
  ·exact hf.2 k e he hk
theorem Ct (hb : σ.ob t 0 = .box cells) (h : (yx t d cs v os σ).fresh u = true) (lp : Xi σ d = true) (hce : YW u cells = false) : σ.fresh u = true := by
 have hf := Q8.1 h
 refine Q8.2 ⟨by rw [<- PS (σ := σ)]; exact hf.1, fun k e he hk => ?_⟩
 by_cases h1 : k = d
 ·rw [h1] at he; exact LU lp he u
 ·by_cases h2 : k = t
  ·have := hf.2 k (e.1, e.2.set 0 (.box cs)) (by rw [MQ, if_neg h1, if_pos h2, he]; rfl) hk
   refine ⟨this.1, ?_⟩
   have h3 := this.2
   rw [h2] at he
   rw [GC he] at hb
   cases hos : e.2 with
   | nil => rfl
   | cons o os0 =>
    rw [hos] at hb h3
    have hb : o = .box cells := hb
    subst hb
    simp only [List.set_cons_zero, Y6, Bool.or_eq_false_iff] at h3 ⊢
    exact ⟨hce, h3.2⟩
  ·exact hf.2 k e (by rw [MQ, if_neg h1, if_neg h2]; exact he) hk
theorem Co {x : Oper} (hg : x.guard = none) (gF : x.dst = some dx) (lA : dx ≠ d) (bt : ∀ z ∈ xB ops x, z ≠ .tmp d) (hb : σ.ob t 0 = .box cells) (iJ : os ≠ none -> (σ.Zu t 0 (.box cs)).fresh d = true)
  (g7 : Ps PT σ) (gw : ∀ b, DP PT y = some b -> b = t) (iI : M1 PT y x = true) (hA : A = σ \/ A = yx t d cs v os σ) (hs : Xe P ops x A σ2) :
  ∃ e : Eff, σ2 = e.ap dx A /\ (∀ a j w l, e ≠ .drop a j w l) /\ e.ok dx A /\ ∀ B, (B = σ \/ B = yx t d cs v os σ) -> e.ok dx B -> Xe P ops x B (e.ap dx B) /\ ∀ u, u ≠ dx -> e.ref u = true -> ME P (xB ops x) B u := by
 have my : xB ops x = x.op.operands.toList := by simp [xB, hg]
 simp only [M1, Bool.or_eq_true, Bool.and_eq_true, Bool.not_eq_true'] at iI
 have hlenA : A.length = σ.length := by rcases hA with rfl | rfl <;> simp [PS]
 rcases iI with ⟨hc, iV⟩ | hf
 ·obtain ⟨e, rfl, lW, hdr, _, cW, hfrm⟩ := WA gF hs
  refine ⟨e, rfl, (fun a j w l h => by have := (hdr a j w l h).1; rw [iV] at this; cases this), lW, fun B hB hokB => ?_⟩
  have hlenB : B.length = σ.length := by rcases hB with rfl | rfl <;> simp [PS]
  have hk : ∀ z ∈ xB ops x, ∃ c, z = .const c := by
   intro z hz
   rw [my] at hz
   have := List.all_eq_true.1 hc z hz
   cases z <;> first | exact ⟨_, rfl⟩ | cases this
  have l3 : Sub P (xB ops x) A B := ⟨by rw [hlenA, hlenB], fun z hz ty => by obtain ⟨c, rfl⟩ := hk z hz; rfl, fun z hz ty u hr => by obtain ⟨c, rfl⟩ := hk z hz; have h0 := Tv (P := P) ty c u; simp only [look] at hr; rw [h0] at hr; cases hr⟩
  have dJ : ∀ u, ¬ ME P (xB ops x) A u := by
   rintro u ⟨z, hz, ty, h | ⟨_, _, h, _, _⟩⟩ <;> (obtain ⟨c, rfl⟩ := hk z hz; have h0 := Tv (P := P) ty c; simp only [look] at h; rw [h0] at h; cases h)
  exact ⟨hfrm B l3 hokB, fun u hu hr => absurd (cW hg u hu hr) (dJ u)⟩
 ·split at hf
  ·rename_i b hcb
   have hbt := gw b hcb
   subst hbt
   have hsA : Step P x dx A σ2 := by unfold Xe at hs; simp only [hg, gF] at hs; exact hs
   obtain ⟨w, hw, rfl⟩ := (PW rfl hf).1 hsA
   refine ⟨.put w, rfl, (fun a j w' l h => by cases h), trivial, fun B hB _ => ?_⟩
   have aa : ∀ z ∈ x.op.operands.toList, ∀ ty, look P (yx b d cs v os σ) ty z = look P (σ.Zu b 0 (.box cs)) ty z := fun z hz ty => by
    rw [yE]; exact look_eq (fun u hu => CA hu) (bt z (by rw [my]; exact hz)) ty
   have dJ : os ≠ none -> ∀ z ∈ x.op.operands.toList, ∀ ty, (look P (σ.Zu b 0 (.box cs)) ty z).ref d = false := fun hn z hz ty =>
    yB (fun t' e he ht' => ((Q8.1 (iJ hn)).2 t' e he ht').1) (bt z (by rw [my]; exact hz)) ty
   have hobe : ∀ u, (os ≠ none -> u ≠ d) -> ∀ j, (yx b d cs v os σ).ob u j = (σ.Zu b 0 (.box cs)).ob u j := fun u hu j => by
    rw [oL hb hu, St.Xo _ _ _ _ _ _ (by rw [hb]; simp)]
   have fw : Ya P (σ.Zu b 0 (.box cs)) x.op x.type w -> Ya P (yx b d cs v os σ) x.op x.type w := fun hv => Wm hv
    ⟨by rw [PS, St.XW], fun z hz ty => (aa z hz ty).symm, fun z hz ty u hr j _ => hobe u (fun hn e => by subst e; rw [dJ hn z hz ty] at hr; cases hr) j⟩
   have bw : Ya P (yx b d cs v os σ) x.op x.type w -> Ya P (σ.Zu b 0 (.box cs)) x.op x.type w := fun hv => Wm hv
    ⟨by rw [PS, St.XW], fun z hz ty => aa z hz ty, fun z hz ty u hr j _ => (hobe u (fun hn e => by subst e; rw [aa z hz ty, dJ hn z hz ty] at hr; cases hr) j).symm⟩
   have hpt2 : Ps PT (σ.Zu b 0 (.box cs)) := fun p hp => by rw [St.QI]; exact g7 p hp
   have l0 : (σ.Zu b 0 (.box cs)).ob b 0 = .box cs := by rw [St.Xo _ _ _ _ _ _ (by rw [hb]; simp), if_pos ⟨rfl, rfl⟩]
   have eC : (σ.Zu b 0 (.box cs)).Zu b 0 (.box cells) = σ := by rw [C4, <- hb]; exact uQ (by rw [hb]; simp)
   have hσ : Ya P σ x.op x.type w := by
    rcases hA with rfl | rfl
    ·exact hw
    ·have := AK (cs := cells) hf hpt2 l0 (bw hw)
     rw [eC] at this; exact this
   have hB' : Ya P B x.op x.type w := by
    rcases hB with rfl | rfl
    ·exact hσ
    ·exact fw (AK hf g7 hb hσ)
   refine ⟨?_, fun u hu hr => ?_⟩
   ·unfold Xe; simp only [hg, gF]; exact (PW rfl hf).2 ⟨w, hB', rfl⟩
   ·rw [my]; exact M8 hB' hr
  ·cases hf
end
theorem MH (h : KY P o = true) : Vr o = false /\ kc o = false := by
 unfold KY at h
 split at h
 ·rename_i my; simp [Vr, kc, my]
 ·cases h
theorem wc (g7 : Ps PT σ) (h : ∃ z r, (∃ f ts, y.op = .call ⟨.value (.func f), ⟨z :: r⟩, ts⟩) /\ ∃ ty, unc (look P σ ty z) = .one (.bptr t 0)) : ∀ b, DP PT y = some b -> b = t := by
 obtain ⟨z, r, ⟨f, ts, my⟩, ty, hz⟩ := h
 intro b hb
 unfold DP at hb
 rw [my] at hb
 cases z with
 | tmp k =>
  simp only [Option.map_eq_some_iff] at hb
  obtain ⟨p, hp, rfl⟩ := hb
  have hk : p.1 = k := by simpa using List.find?_some hp
  have hm := List.mem_of_find?_eq_some hp
  rw [qN] at hz
  rcases g7 p hm with e | ⟨c, e⟩ <;> rw [hk] at e <;> rw [e] at hz <;> simp [unc] at hz
  exact hz.1
 | _ => cases hb
theorem AL (h : KY P o = true) : UP o = false := by
 unfold KY at h
 split at h
 ·rename_i my; simp [UP, my]
 ·cases h
theorem Lg {x : Oper} (h : M1 PT y x = true) : UP x = false := by
 simp only [M1, Bool.or_eq_true, Bool.and_eq_true, Bool.not_eq_true'] at h
 rcases h with ⟨_, h⟩ | h
 ·exact h
 ·split at h
  ·rename_i b _
   have key : ∀ op, RH PT b op = true -> (match op with | .call ⟨.builtin .append, ⟨.const _ :: _⟩, _⟩ => false | .call ⟨.builtin .append, _, _⟩ => true | _ => false) = false := by
    intro op h
    unfold RH at h
    split at h <;> first | rfl | (exact Bool.noConfusion h)
   exact key _ h
  ·cases h
theorem oM {x : Oper} (h : BI P PT ops bar x y = true) (hp : Ps PT σ) (hp1 : Ps PT σ1) (gF : x.dst = some d) (lp : Xi σ d = true) (iQ : zU P ops bar x σ σ1) (lK : zU P ops bar y σ1 σ2) : ∃ σ1', zU P ops bar y σ σ1' /\ zU P ops bar x σ1' σ2 := by
 unfold BI at h
 simp only [gF, Bool.and_eq_true, Option.isNone_iff_eq_none] at h
 obtain ⟨⟨⟨⟨dF, fJ⟩, ho1⟩, gm⟩, h⟩ := h
 cases gl : y.dst with
 | none => rw [gl] at h; cases h
 | some dy =>
  rw [gl] at h
  simp only [Bool.and_eq_true, Bool.or_eq_true, Bool.not_eq_true', bne_iff_ne, ne_eq] at h
  obtain ⟨⟨⟨lA, fc⟩, dn⟩, h⟩ := h
  have fc := VX fc
  have dn := VX dn
  have du : xB ops y = y.op.operands.toList := by simp [xB, fJ]
  have dv : xB ops x = x.op.operands.toList := by simp [xB, dF]
  have hclo : ∀ j, σ.ob d j = .none := fun j => by
   rw [qd] at lp
   unfold St.ob
   rcases lp with e | ⟨_, e⟩ <;> rw [e] <;> simp [Yj]
  rcases h with ⟨⟨⟨ig, l0⟩, eA⟩, iI⟩ | ⟨⟨⟨ig, eA⟩, l0⟩, iI⟩
  ·have iQ := iQ.resolve_right (fun hh => by rw [ig] at hh; cases hh.1)
   rcases lK with lK | ⟨_, _, _, _, _, hbc⟩
   ·obtain ⟨σ1', hy, hx⟩ := swap gF gl lA fc dn (AL eA) (.inl fJ) lp iQ lK
    exact ⟨σ1', .inl hy, .inl hx⟩
   ·obtain ⟨d', t, cells, cs, v, os, lL, hb, hz, fI, di, iJ, rfl, iX⟩ := hbc eA gm
    rw [gl] at lL; cases lL
    obtain ⟨ex, rfl, ez, dR, _⟩ := WA gF iQ
    have hnd0 : ∀ a j w l, ex ≠ .drop a j w l := fun a j w l hh => by have := (dR a j w l hh).1; rw [Lg iI] at this; cases this
    have e7 : ∀ z ∈ xB ops y, ∀ ty, look P (ex.ap d σ) ty z = look P σ ty z := fun z hz ty => look_eq (fun u hu => Mq ex hu) (fc z hz) ty
    have aA : ∀ z ∈ xB ops y, ∀ ty u, (look P (ex.ap d σ) ty z).ref u = true -> (∀ w, ex ≠ .put w) -> u ≠ d := fun z hz ty u hr gU e => by
     rw [e, e7 z hz, yB (kF ez gU) (fc z hz)] at hr; cases hr
    have e8 := hz
    obtain ⟨z, r, ⟨f, ts, my⟩, ty, hzt⟩ := hz
    have hzm : z ∈ xB ops y := by rw [du, my]; exact yF (c := ⟨.value (.func f), ⟨z :: r⟩, ts⟩) zAF
    have htd' : (∀ w, ex ≠ .put w) -> t ≠ d := aA z hzm ty t (QX hzt zAs)
    have hbσ : σ.ob t 0 = .box cells := by rw [vK ez htd' (by rw [hb]; simp), hb]
    have ab : t ≠ d := fun e => by rw [e, hclo] at hbσ; cases hbσ
    have ae : os ≠ none -> (σ.Zu t 0 (.box cs)).fresh dy = true := fun hn => by
     have hf := Q8.1 (iJ hn)
     refine Q8.2 ⟨by have := hf.1; rw [St.XW] at this ⊢; rwa [yK] at this, fun k e he hk => ?_⟩
     by_cases hkd : k = d
     ·rw [hkd, JO, if_neg ab.symm] at he
      rw [hkd] at *
      exact LU lp he dy
     ·refine hf.2 k e ?_ hk
      rw [JO] at he ⊢
      have : (ex.ap d σ)[k]? = σ[k]? := by
       cases ex with
       | put w => simp only [Eff.ap, kK, if_neg hkd]
       | new w l => simp only [Eff.ap, xN, if_neg hkd]
       | drop a j w l => exact absurd rfl (hnd0 a j w l)
      rw [this]; exact he
    obtain ⟨e, heq, iV, lW, hB⟩ := Co (v := v) dF gF lA dn hbσ ae hp (wc hp1 e8) iI (.inl rfl) iQ
    rw [heq] at hb e8 iJ iX e7 aA ⊢
    have iw : ∀ z ∈ xB ops y, ∀ ty u, (look P (e.ap d σ) ty z).ref u = true -> ∀ j, (e.ap d σ).ob u j ≠ .none -> σ.ob u j = (e.ap d σ).ob u j := fun z hz ty u hr j hn =>
     vK lW (fun gU hu => by rw [hu, e7 z hz, yB (kF lW gU) (fc z hz)] at hr; cases hr) hn
    have h0 := iX σ (yK e) (fun z hz ty => e7 z zBr ty) (fun z hz ty u hr j hn => iw z zBr ty u hr j hn) ae
    refine ⟨yx t dy cs v os σ, .inr ⟨l0, h0.1, h0.2, fun hh => (by rw [(MH eA).1] at hh; cases hh), fun hh => (by rw [(MH eA).2] at hh; cases hh), fun _ _ => ?_⟩, .inl ?_⟩
    ·refine ⟨dy, t, cells, cs, v, os, gl, hbσ, ⟨z, r, ⟨f, ts, my⟩, ty, by rw [<- e7 z hzm, <- heq]; exact hzt⟩, fI, di, ae, rfl, fun σ3 hl3 aU aV hf3 => ?_⟩
     refine iX σ3 (by rw [yK]; exact hl3) (fun z hz ty => by rw [e7 z zBr, aU z hz]) (fun z hz ty u hr j hn => ?_) hf3
     have h1 := iw z zBr ty u hr j hn
     rw [<- h1]
     exact aV z hz ty u (by rw [<- e7 z zBr]; exact hr) j (by rw [h1]; exact hn)
    ·rw [<- H7 iV lA (fun _ => ab)]
     refine (hB _ (.inr rfl) ?_).1
     cases e with
     | put w => trivial
     | new w l => exact vj lW (fI d).2 (di d (.inr lA))
     | drop a j w l => exact absurd rfl (iV a j w l)
  ·have lK := lK.resolve_right (fun hh => by rw [l0] at hh; cases hh.1)
   rcases iQ with iQ | ⟨_, _, _, _, _, hbc⟩
   ·obtain ⟨σ1', hy, hx⟩ := swap gF gl lA fc dn (Lg iI) (.inl fJ) lp iQ lK
    exact ⟨σ1', .inl hy, .inl hx⟩
   ·obtain ⟨d', t, cells, cs, v, os, lL, hb, hz, fI, di, iJ, rfl, iX⟩ := hbc eA ho1
    rw [gF] at lL; cases lL
    have e8 := hz
    obtain ⟨z, r, ⟨f, ts, my⟩, ty, hzt⟩ := hz
    have hzm : z ∈ xB ops x := by rw [dv, my]; exact yF (c := ⟨.value (.func f), ⟨z :: r⟩, ts⟩) zAF
    obtain ⟨e, rfl, iV, lW, hB⟩ := Co fJ gl (Ne.symm lA) fc hb iJ hp (wc hp e8) iI (.inr rfl) lK
    have hokσ : e.ok dy σ := by
     cases e with
     | put w => trivial
     | new w l => exact Ct hb lW lp (fI dy).1
     | drop a j w l => exact absurd rfl (iV a j w l)
    have e7 : ∀ z ∈ xB ops x, ∀ ty, look P (e.ap dy σ) ty z = look P σ ty z := fun z hz ty => look_eq (fun u hu => Mq e hu) (dn z hz) ty
    have aA : ∀ z ∈ xB ops x, ∀ ty u, (look P σ ty z).ref u = true -> (∀ w, e ≠ .put w) -> u ≠ dy := fun z hz ty u hr gU he => by
     rw [he, yB (kF hokσ gU) (dn z hz)] at hr; cases hr
    have gv : (∀ w, e ≠ .put w) -> t ≠ dy := aA z hzm ty t (QX hzt zAs)
    have lS : ∀ z ∈ xB ops x, ∀ ty u, (look P σ ty z).ref u = true -> ∀ j, (e.ap dy σ).ob u j = σ.ob u j := fun z hz ty u hr j => NC iV (aA z hz ty u hr)
    have ec := hB σ (.inl rfl) hokσ
    have hfr' : os ≠ none -> ((e.ap dy σ).Zu t 0 (.box cs)).fresh d = true := fun hn => by
     have hf := Q8.1 (iJ hn)
     have her : e.ref d = false := by
      cases hr : e.ref d with
      | false => rfl
      | true =>
       obtain ⟨z', g8, ty', h1 | ⟨t', lI, h1, h2, h3⟩⟩ := ec.2 d lA hr
       ·rw [<- yE (t := t) (j := 0) (o := .box cs), yB (fun k e0 he hk => (hf.2 k e0 he hk).1) (fc z' g8)] at h1; cases h1
       ·by_cases htt : t' = t
        ·subst htt; rw [hb] at h2; cases h2; rw [(fI d).1] at h3; cases h3
        ·have ab : t' ≠ d := fun e0 => by rw [e0, hclo] at h2; cases h2
         obtain ⟨en, hen, hoe⟩ := RI h2 zAF
         have := (hf.2 t' en (by rw [JO, if_neg htt]; exact hen) ab).2
         rw [O4 hoe h3] at this; cases this
     refine Q8.2 ⟨by have := hf.1; rw [St.XW] at this ⊢; rwa [yK], fun k en he hk => ?_⟩
     cases e with
     | put w =>
      simp only [Eff.ap, xh, kK] at he
      split at he
      ·simp only [Option.map_eq_some_iff] at he
       obtain ⟨e0, eQ, rfl⟩ := he
       exact ⟨her, (hf.2 k e0 eQ hk).2⟩
      ·exact hf.2 k en he hk
     | new w l =>
      have ht := gv (by intro w h; cases h)
      simp only [Eff.ap, JO, xN] at he
      by_cases hkt : k = t
      ·subst hkt
       simp only [if_true, if_neg ht] at he
       exact hf.2 k en (by rw [JO, if_pos rfl]; exact he) hk
      ·simp only [if_neg hkt] at he
       split at he
       ·simp only [Option.map_eq_some_iff] at he
        obtain ⟨e0, eQ, rfl⟩ := he
        simp only [Eff.ref, Bool.or_eq_false_iff] at her
        exact her
       ·exact hf.2 k en (by rw [JO, if_neg hkt]; exact he) hk
     | drop a j w l => exact absurd rfl (iV a j w l)
    have h0 := iX (e.ap dy σ) (yK e).symm (fun z hz ty => (e7 z zBs ty).symm) (fun z hz ty u hr j _ => lS z zBs ty u hr j) hfr'
    have hcomm : e.ap dy (yx t d cs v os σ) = yx t d cs v os (e.ap dy σ) := by
     cases e with
     | put w => exact H7 iV (Ne.symm lA) (fun hh => absurd rfl (hh w))
     | new w l => exact H7 iV (Ne.symm lA) gv
     | drop a j w l => exact absurd rfl (iV a j w l)
    refine ⟨e.ap dy σ, .inl ec.1, .inr ?_⟩
    rw [hcomm]
    refine ⟨ig, h0.1, h0.2, fun hh => (by rw [(MH eA).1] at hh; cases hh), fun hh => (by rw [(MH eA).2] at hh; cases hh), fun _ _ => ?_⟩
    refine ⟨d, t, cells, cs, v, os, gF, ?_, ⟨z, r, ⟨f, ts, my⟩, ty, by rw [e7 z hzm]; exact hzt⟩, fI, di, hfr', rfl, fun σ3 hl3 aU aV hf3 => ?_⟩
    ·rw [lS z hzm ty t (QX hzt zAs) 0]; exact hb
    ·refine iX σ3 (by rw [<- hl3, yK]) (fun z hz ty => by rw [<- aU z hz, e7 z zBs]) (fun z hz ty u hr j hn => ?_) hf3
     have h1 := lS z zBs ty u hr j
     rw [<- h1]
     exact aV z hz ty u (by rw [e7 z zBs]; exact hr) j (by rw [h1]; exact hn)
theorem tz (h : ptB PT σ = true) : Ps PT σ := by
 intro p hp
 have := List.all_eq_true.1 h p hp
 split at this
 ·rename_i e; exact .inl e
 ·split at this
  ·rename_i b c e
   have hb : b = p.2 := by simpa using this
   subst hb; exact .inr ⟨c, e⟩
  ·cases this
def AO (P : Program) (ops : Array Oper) (bar : Oper -> Bool) : List Nat -> St -> (St -> Prop) -> Prop
 | [], σ, Q => Q σ
 | i :: rem, σ, Q => ∃ o σ', ops[i]? = some o /\ zU P ops bar o σ σ' /\ AO P ops bar rem σ' Q
theorem Hi (hs : Xe P ops o σ σ') (hd : o.dst ≠ some d) (h : Xi σ d = true) : Xi σ' d = true := by
 cases hdo : o.dst with
 | some d' =>
  have lA : d ≠ d' := fun e => hd (by rw [hdo, e])
  obtain ⟨e, rfl, _⟩ := WA hdo hs
  cases e with
  | put v => unfold Xi at *; simp only [Eff.ap, kK, if_neg lA]; exact h
  | new v os => unfold Xi at *; simp only [Eff.ap, xN, if_neg lA]; exact h
  | drop a j v os =>
   have := Ql (a := a) (j := j) (o := .none) h
   unfold Xi at *; simp only [Eff.ap, xN, if_neg lA]; exact this
 | none =>
  unfold Xe at hs
  split at hs
  ·simp only [hdo] at hs
   split at hs
   ·unfold qK at hs
    obtain ⟨_, _, _, _, hs⟩ := hs
    split at hs
    ·obtain ⟨_, _, _, _, rfl⟩ := hs; exact Ql h
    ·obtain ⟨_, _, _, _, _, _, _, _, _, _, _, rfl⟩ := hs; exact Ql h
    ·exact hs.elim
   ·exact hs.elim
  ·obtain ⟨_, _, _, _, _, _, lL, _⟩ := hs
   rw [hdo] at lL; cases lL
theorem wZ (bY : Ng ops PT = true) (hi : ops[i]? = some o) (hs : Xe P ops o σ σ') (h : Ps PT σ) : Ps PT σ' := by
 have hc := List.all_eq_true.1 bY o (by rw [Array.mem_toList_iff]; exact Array.mem_of_getElem? hi)
 cases hdo : o.dst with
 | none =>
  have : ∃ t j ob, σ' = σ.Zu t j ob := by
   unfold Xe at hs
   split at hs
   ·simp only [hdo] at hs
    split at hs
    ·unfold qK at hs
     obtain ⟨_, _, _, _, hs⟩ := hs
     split at hs
     ·obtain ⟨_, _, _, _, rfl⟩ := hs; exact ⟨_, _, _, rfl⟩
     ·obtain ⟨_, _, _, _, _, _, _, _, _, _, _, rfl⟩ := hs; exact ⟨_, _, _, rfl⟩
     ·exact hs.elim
    ·exact hs.elim
   ·obtain ⟨_, _, _, _, _, _, lL, _⟩ := hs
    rw [hdo] at lL; cases lL
  obtain ⟨t, j, ob, rfl⟩ := this
  intro p hp
  rw [St.QI]; exact h p hp
 | some d =>
  intro p hp
  rw [hdo] at hc
  have hc := List.all_eq_true.1 hc p hp
  by_cases dw : p.1 = d
  ·simp only [dw, bne_self_eq_false, Bool.false_or, Bool.and_eq_true, Option.isNone_iff_eq_none] at hc
   obtain ⟨hg, hc⟩ := hc
   split at hc
   ·rename_i T r f my
    have hr := h (r, p.2) zBG
    unfold Xe at hs
    simp only [hg, hdo] at hs
    unfold Step at hs
    rw [my] at hs
    obtain ⟨v, hv, rfl⟩ := hs
    simp only [Ya] at hv
    have hv := hv.2.2
    rw [qN] at hv
    rcases hr with e | ⟨c, e⟩
    ·rw [e] at hv; exact hv.elim
    ·rw [e] at hv
     rw [St.zg, dw]
     by_cases hl : d < σ.length
     ·rw [if_pos ⟨rfl, hl⟩]; exact .inr ⟨_, by rw [hv.2]; rfl⟩
     ·rw [if_neg (fun hh => hl hh.2)]; have := h p hp; rw [dw] at this; exact this
   ·rename_i r my
    have hr := h (r, p.2) zBG
    unfold Xe at hs
    simp only [hg, hdo] at hs
    unfold Step at hs
    rw [my] at hs
    obtain ⟨v, hv, rfl⟩ := hs
    simp only [Ya] at hv
    rw [qN] at hv
    rw [St.zg, dw]
    by_cases hl : d < σ.length
    ·rw [if_pos ⟨rfl, hl⟩, hv]; exact hr
    ·rw [if_neg (fun hh => hl hh.2)]; have := h p hp; rw [dw] at this; exact this
   ·cases hc
  ·obtain ⟨e, rfl, _⟩ := WA hdo hs
   have hg : ∀ σ0 : St, σ0.get p.1 = σ.get p.1 -> (σ0.get p.1 = .any \/ ∃ c, unc (σ0.get p.1) = .one (.bptr p.2 c)) := fun σ0 e => by rw [e]; exact h p hp
   cases e with
   | put v => exact hg _ (by simp only [Eff.ap]; rw [St.zg, if_neg (fun hh => dw hh.1)])
   | new v os => exact hg _ (by simp only [Eff.ap]; rw [St.VL, if_neg (fun hh => dw hh.1)])
   | drop a j v os => exact hg _ (by simp only [Eff.ap]; rw [St.VL, if_neg (fun hh => dw hh.1), St.QI])
theorem HF : Fa [] [] σ := ⟨fun _ hp => absurd hp List.not_mem_nil, fun _ hp => absurd hp List.not_mem_nil⟩
theorem sS (h : Hx NB σ) (hd : d ∈ NB -> ∀ b c, unc v ≠ .one (.bptr b c)) : Hx NB (σ.put d v) := by
 intro t ht b c
 rw [St.zg]
 split
 ·rename_i hc; exact hd (hc.1 ▸ ht) b c
 ·exact h t ht b c
theorem sC (h : Hx NB σ) (hd : d ∉ NB) : Hx NB (σ.new d v os) := by
 intro t ht b c
 have lA : ¬ (t = d /\ d < σ.length) := fun hc => hd (by rw [<- hc.1]; exact ht)
 rw [St.VL, if_neg lA]
 exact h t ht b c
theorem rf (gh : Hw P ops NB = true) (hi : ops[i]? = some o) (hs : Xe P ops o σ σ') (h : Hx NB σ) : Hx NB σ' := by
 have hc := List.all_eq_true.1 gh o (by rw [Array.mem_toList_iff]; exact Array.mem_of_getElem? hi)
 cases hdo : o.dst with
 | none =>
  have : ∃ t j ob, σ' = σ.Zu t j ob := by
   unfold Xe at hs
   split at hs
   ·simp only [hdo] at hs
    split at hs
    ·unfold qK at hs
     obtain ⟨_, _, _, _, hs⟩ := hs
     split at hs
     ·obtain ⟨_, _, _, _, rfl⟩ := hs; exact ⟨_, _, _, rfl⟩
     ·obtain ⟨_, _, _, _, _, _, _, _, _, _, _, rfl⟩ := hs; exact ⟨_, _, _, rfl⟩
     ·exact hs.elim
    ·exact hs.elim
   ·obtain ⟨_, _, _, _, _, _, lL, _⟩ := hs
    rw [hdo] at lL; cases lL
  obtain ⟨t, j, ob, rfl⟩ := this
  intro p hp
  rw [St.QI]; exact h p hp
 | some d =>
  rw [hdo] at hc
  by_cases hd : d ∈ NB
  ·have hc := List.all_eq_true.1 hc d hd
   simp only [bne_self_eq_false, Bool.false_or, Bool.and_eq_true, Option.isNone_iff_eq_none] at hc
   obtain ⟨hg, hc⟩ := hc
   split at hc
   ·rename_i T r ix my
    unfold Xe at hs
    simp only [hg, hdo] at hs
    unfold Step at hs
    rw [my] at hs
    obtain ⟨v, hv, rfl⟩ := hs
    refine sS h (fun _ b c => ?_)
    simp only [Ya] at hv
    obtain ⟨_, _, _, _, _, hv⟩ := hv
    split at hv
    ·obtain ⟨_, _, _, _, rfl⟩ := hv; intro e; cases e
    ·obtain ⟨_, _, _, _, rfl⟩ := hv; intro e; cases e
    ·obtain ⟨_, ⟨n, ha, _⟩, _⟩ := hv
     unfold XZ at hc
     unfold GV at ha
     split at hc
     ·rename_i e he; rw [he] at ha; cases ha
     ·cases hc
    ·obtain ⟨_, _, _, rfl⟩ := hv; intro e; cases e
    ·exact hv.elim
   ·cases hc
  ·obtain ⟨e, rfl, _⟩ := WA hdo hs
   cases e with
   | put v => exact sS h (fun hh => absurd hh hd)
   | new v os => exact sC h hd
   | drop a j v os =>
    refine sC (σ := σ.Zu a j .none) (fun t ht b c => ?_) hd
    rw [St.QI]; exact h t ht b c
theorem oQ (h : nbB NB σ = true) : Hx NB σ := by
 intro t ht b c e
 have := List.all_eq_true.1 h t ht
 rw [e] at this; cases this
def CH (ops : Array Oper) (pos : Nat -> Nat) (rem : List Nat) (σ : St) : Prop :=
 ∀ j ∈ rem, RW ops pos j = true -> wv ops j = true /\ ∃ o d, ops[j]? = some o /\ o.dst = some d /\ Xi σ d = true
theorem rj {k : Nat} {oj ok : Oper} (h : wv ops j = true) (hj : ops[j]? = some oj) (hd : oj.dst = some d) (hk : ops[k]? = some ok) (lA : k ≠ j) : ok.dst ≠ some d := by
 unfold wv at h
 simp only [hj, hd] at h
 have lH : k < ops.size := (Array.getElem?_eq_some_iff.1 hk).1
 have := List.all_eq_true.1 h k (List.mem_range.2 lH)
 simp only [hk, Bool.or_eq_true, beq_iff_eq, bne_iff_ne, ne_eq] at this
 exact this.resolve_left lA
theorem Bh (hs : zU P ops bar o σ σ') (hd : o.dst ≠ some d) (h : Xi σ d = true) : Xi σ' d = true := by
 rcases hs with hs | hs
 ·exact Hi hs hd h
 ·exact hs.2.2.1 d hd h
theorem L1 {rem aT : List Nat} (hi : ops[i]? = some o) (hs : zU P ops bar o σ σ') (hni : i ∉ aT) (l3 : ∀ j ∈ aT, j ∈ rem) (h : CH ops pos rem σ) : CH ops pos aT σ' := by
 intro j hj hl
 obtain ⟨bx, oj, d, h1, h2, h3⟩ := h j (l3 j hj) hl
 exact ⟨bx, oj, d, h1, h2, Bh hs (rj bx h1 h2 hi (fun e => hni (e ▸ hj))) h3⟩
theorem pull {pos : Nat -> Nat} {bar : Oper -> Bool} {PT : List (Nat × Nat)} {NB : List Nat} (gz : ∀ (i : Nat) (o : Oper) (σ σ' : St), ops[i]? = some o -> zU P ops bar o σ σ' -> Fa PT NB σ -> Fa PT NB σ') {i : Nat} {post : List Nat} {Q : St -> Prop} {oi : Oper} (hi : ops[i]? = some oi) : ∀ {pre : List Nat} {σ : St}, (pre ++ i :: post).Nodup -> (∀ j ∈ pre, RW ops pos j = true /\ ∃ oj, ops[j]? = some oj /\ (Bd ops bar oj oi = true \/ Bf bar oj oi = true \/ swapT PT bar oj oi = true \/ Cm bar oj oi = true \/ Bc PT ops bar oj oi = true \/ BP PT NB bar oj oi = true \/ BI P PT ops bar oj oi = true)) -> CH ops pos (pre ++ i :: post) σ -> Fa PT NB σ ->
  AO P ops bar (pre ++ i :: post) σ Q -> ∃ σ', zU P ops bar oi σ σ' /\ AO P ops bar (pre ++ post) σ' Q
 | [], σ, _, _, _, _, h => by
  obtain ⟨o, σ', ho, hs, hr⟩ := h
  rw [hi] at ho; cases ho
  exact ⟨σ', hs, hr⟩
 | j :: pre, σ, iV, hsw, lp, g7, h => by
  obtain ⟨oj, σ1, hj, iQ, hr⟩ := h
  have hnd' := List.nodup_cons.1 iV
  obtain ⟨σ2, lK, cH⟩ := pull gz hi (pre := pre) hnd'.2 (fun k hk => hsw k (by simp [hk])) (L1 (rem := (j :: pre) ++ i :: post) hj iQ hnd'.1 (fun k hk => by simp only [List.cons_append, List.mem_cons]; exact .inr hk) lp) (gz j oj σ σ1 hj iQ g7) hr
  obtain ⟨hl, oj', fP, dG⟩ := hsw j zAF
  rw [hj] at fP; cases fP
  rcases dG with dG | dG | dG | dG | dG | dG | dG
  rotate_left
  ·obtain ⟨σ1', hy, hx⟩ := rM dG iQ lK
   exact ⟨σ1', .inl hy, oj, σ2, hj, .inl hx, cH⟩
  ·obtain ⟨σ1', hy, hx⟩ := px dG g7.1 iQ lK
   exact ⟨σ1', .inl hy, oj, σ2, hj, .inl hx, cH⟩
  ·obtain ⟨_, o', d', lb, lL, l7⟩ := lp j zAF hl
   rw [hj] at lb; cases lb
   obtain ⟨σ1', hy, hx⟩ := po dG lL l7 iQ lK
   exact ⟨σ1', hy, oj, σ2, hj, .inl hx, cH⟩
  ·obtain ⟨_, o', d', lb, lL, l7⟩ := lp j zAF hl
   rw [hj] at lb; cases lb
   obtain ⟨σ1', hy, hx⟩ := oA dG g7.1 lL l7 iQ lK
   exact ⟨σ1', hy, oj, σ2, hj, hx, cH⟩
  ·obtain ⟨_, o', d', lb, lL, l7⟩ := lp j zAF hl
   rw [hj] at lb; cases lb
   obtain ⟨σ1', hy, hx⟩ := oK dG g7.1 g7.2 lL l7 iQ lK
   exact ⟨σ1', hy, oj, σ2, hj, .inl hx, cH⟩
  ·obtain ⟨_, o', d', lb, lL, l7⟩ := lp j zAF hl
   rw [hj] at lb; cases lb
   obtain ⟨σ1', hy, hx⟩ := oM dG g7.1 (gz j oj σ σ1 hj iQ g7).1 lL l7 iQ lK
   exact ⟨σ1', hy, oj, σ2, hj, hx, cH⟩
  obtain ⟨ig, l0, dx, dy, h1, h2, h3, h4, h5, h6, h7⟩ := Ao dG
  have iQ := iQ.resolve_right (fun hh => by rw [ig] at hh; cases hh.1)
  have lK := lK.resolve_right (fun hh => by rw [l0] at hh; cases hh.1)
  obtain ⟨_, o', d', lb, lL, l7⟩ := lp j zAF hl
  rw [hj] at lb; cases lb
  rw [h1] at lL; cases lL
  obtain ⟨σ1', hy, hx⟩ := swap h1 h2 h3 h4 h5 h6 h7 l7 iQ lK
  exact ⟨σ1', .inl hy, oj, σ2, hj, .inl hx, cH⟩
open Go.RowKit
variable {l5 : Array Bool} {Qa : St -> Prop} {T0 : CS}
theorem Nt (h1 : l5.getD j true = false) (h2 : l5.getD j false = true) : False := by
 rw [Array.getD_eq_getD_getElem?] at h1 h2
 cases h : l5[j]? with
 | none => rw [h] at h1; simp at h1
 | some b => rw [h] at h1 h2; simp at h1 h2; rw [h1] at h2; cases h2
theorem Ee (gz : ∀ (i : Nat) (o : Oper) (σ σ' : St), ops[i]? = some o -> zU P ops bar o σ σ' -> Fa PT NB σ -> Fa PT NB σ') (hdr : AD P ops pos bar PT NB (P4 ops.toList []) = true) {Q : Exit -> Act -> World -> Prop} (hK : ∀ σ a w, Qa σ -> Jz T0 B σ a w -> Y8 B w0 w -> Q .normal a w) :
  ∀ (fuel : Nat) (rem : List Nat) (l5 : Array Bool) (σ : St) (a : Act) (w : World), rem.length = fuel -> l5.size = ops.size -> rem.Pairwise (fun i j => pos i < pos j) -> (∀ i, i ∈ rem ↔ l5.getD i true = false) -> (∀ i ∈ rem, i < ops.size) -> (∀ m om, ops[m]? = some om -> m ∉ rem -> ∀ j, Ny om j = true -> j ∉ rem) ->
   CH ops pos rem σ -> Fa PT NB σ -> AO P ops bar rem σ Qa -> Jz T0 B σ a w -> Y8 B w0 w -> wpAny P .any ops Q fuel l5 a w := by
 have iX := List.all_eq_true.1 hdr
 have first : ∀ (rem : List Nat) (l5 : Array Bool), l5.size = ops.size -> rem.Pairwise (fun i j => pos i < pos j) -> (∀ i, i ∈ rem ↔ l5.getD i true = false) -> (∀ i ∈ rem, i < ops.size) -> Region.ready .any ops l5 = [] -> rem = [] := by
  intro rem l5 iZ aW iv lH hre
  cases rem with
  | nil => rfl
  | cons i rem =>
   exfalso
   have hi := lH i zAF
   have hb := iX i (List.mem_range.2 hi)
   simp only [Bool.and_eq_true] at hb
   have eC := hb.1.1
   unfold pQ at eC
   rw [Array.getElem?_eq_getElem hi] at eC
   simp only [Array.all_eq_true_iff_forall_mem, decide_eq_true_eq, Bool.and_eq_true, Bool.or_eq_true, Bool.not_eq_true'] at eC
   have : i ∈ Region.ready .any ops l5 := by
    refine mem_ready.2 ⟨(iv i).1 zAF, ops[i], Array.getElem?_eq_getElem hi, fun e he hbi => ?_⟩
    have cf := (eC e he).resolve_left (by rw [hbi]; simp)
    have dE := cf.1
    have hlt2 := cf.2
    have ff : e.on ∉ i :: rem := by
     intro hm
     rcases List.mem_cons.1 hm with h | h
     ·rw [h] at dE; omega
     ·have := (List.pairwise_cons.1 aW).1 _ h; omega
    have lA : l5.getD e.on true ≠ false := fun h => ff ((iv _).2 h)
    have bN : e.on < l5.size := by rw [iZ]; omega
    rw [Array.getD_eq_getD_getElem?, Array.getElem?_eq_getElem bN] at lA ⊢
    simpa using lA
   rw [hre] at this; cases this
 intro fuel
 induction fuel with
 | zero =>
  intro rem l5 σ a w hl iZ aW iv lH hdn lp g7 lT gD hb
  have fg : rem = [] := List.eq_nil_of_length_eq_zero hl
  subst fg
  refine ⟨?_, hK σ a w lT gD hb⟩
  cases hre : Region.ready .any ops l5 with
  | nil => rfl
  | cons i l =>
   have hi : i ∈ Region.ready .any ops l5 := by rw [hre]; simp
   have := (iv i).2 (mem_ready.1 hi).1
   cases this
 | succ fuel ih =>
  intro rem l5 σ a w hl iZ aW iv lH hdn lp g7 lT gD hb
  refine ⟨fun hre => ?_, fun i hi => ?_⟩
  ·have := first rem l5 iZ aW iv lH hre
   subst this; simp at hl
  ·obtain ⟨h0, oi, aY, cX⟩ := mem_ready.1 hi
   obtain ⟨pre, post, rfl⟩ := List.append_of_mem ((iv i).2 h0)
   have iV : (pre ++ i :: post).Nodup := aW.imp (fun h e => by rw [e] at h; omega)
   have gO : ∀ j ∈ pre, pos j < pos i := fun j hj => (List.pairwise_append.1 aW).2.2 j hj i zAF
   have fE : i < ops.size := lH i zAF
   have hdone : ∀ e ∈ oi.after, Region.binds .any e = true -> e.on ∉ pre ++ i :: post := by
    intro e he hbi hm
    exact Nt ((iv e.on).1 hm) (cX e he hbi)
   have hnp0 : ∀ j, j ∈ pre ++ i :: post -> Ny oi j = false := by
    intro j hj
    cases hp : Ny oi j with
    | false => rfl
    | true =>
     unfold Ny at hp
     rw [<- Array.any_toList] at hp
     obtain ⟨e, he, l0⟩ := List.any_eq_true.1 hp
     rw [Array.mem_toList_iff] at he
     simp only [Bool.and_eq_true, beq_iff_eq] at l0
     exact (Nt ((iv j).1 hj) (by rw [<- l0.1]; exact cX e he l0.2)).elim
   have dw : ∀ m j, Pre ops m j -> (∀ om, ops[m]? = some om -> ∀ k, Ny om k = true -> k ∉ pre ++ i :: post) -> j ∉ pre ++ i :: post := by
    intro m j hp
    induction hp with
    | one ho hp => intro h; exact h _ ho _ hp
    | more ho hp _ ih =>
     intro h
     exact ih (fun om cN k hk => hdn _ om cN (h _ ho _ hp) k hk)
   have gU : ∀ j ∈ pre, Bt ops i j = false := by
    intro j hj
    have hjr : j ∈ pre ++ i :: post := by simp [hj]
    cases hq : Bt ops i j with
    | false => rfl
    | true =>
     refine absurd hjr (dw i j (vr hq) (fun om cN k hk hkr => ?_))
     rw [aY] at cN; cases cN
     have := hnp0 k hkr
     rw [hk] at this; cases this
   have hsw : ∀ j ∈ pre, RW ops pos j = true /\ ∃ oj, ops[j]? = some oj /\ (Bd ops bar oj oi = true \/ Bf bar oj oi = true \/ swapT PT bar oj oi = true \/ Cm bar oj oi = true \/ Bc PT ops bar oj oi = true \/ BP PT NB bar oj oi = true \/ BI P PT ops bar oj oi = true) := by
    intro j hj
    have hji := gO j hj
    have af : j < ops.size := lH j (by simp [hj])
    refine ⟨?_, ops[j], Array.getElem?_eq_getElem af, ?_⟩
    ·unfold RW Ds
     refine List.any_eq_true.2 ⟨i, List.mem_range.2 fE, ?_⟩
     have := gU j hj
     unfold Bt at this
     simp only [this, Bool.not_false, Bool.and_true, decide_eq_true_eq]; exact hji
    ·have := iX i (List.mem_range.2 fE)
     simp only [Bool.and_eq_true] at this
     have hp := List.all_eq_true.1 this.1.2 j (List.mem_range.2 af)
     simp only [hji, decide_true, Bool.not_true, Bool.false_or] at hp
     unfold pN at hp
     rw [aY, Array.getElem?_eq_getElem af] at hp
     have := gU j hj
     unfold Bt at this
     simpa [this, or_assoc] using hp
   obtain ⟨σ', hs, hr⟩ := pull gz aY iV hsw lp g7 lT
   have hni : i ∉ pre ++ post := by
    have := List.nodup_append.1 iV
    intro hm
    rcases List.mem_append.1 hm with h | h
    ·exact Nat.lt_irrefl _ (gO i h)
    ·exact (List.nodup_cons.1 this.2.1).1 h
   have dT : ∀ j ∈ pre ++ post, j ∈ pre ++ i :: post := by
    intro j hj
    rcases List.mem_append.1 hj with h | h
    ·simp [h]
    ·simp [h]
   have key : ∀ a' w', Jz T0 B σ' a' w' -> Y8 B w w' -> wpAny P .any ops Q fuel (l5.setIfInBounds i true) a' w' := by
    intro a' w' hrel' lP
    refine ih (pre ++ post) _ σ' a' w' zBi (by simp [iZ]) ?_ (fun j => ?_) (fun j hj => lH j (dT j hj)) ?_ (L1 aY hs hni dT lp) (gz i oi σ σ' aY hs g7) hr hrel' (hb.trans lP)
    ·exact aW.sublist (List.Sublist.append (List.Sublist.refl pre) (List.sublist_cons_self i post))
    ·by_cases dq : i = j
     ·subst dq
      constructor
      ·intro hm; exact absurd hm hni
      ·intro hm
       rw [Array.getD_eq_getD_getElem?] at hm
       simp [iZ, fE] at hm
     ·rw [getD_set_ne true dq, <- iv j]
      simp only [List.mem_append, List.mem_cons]
      constructor
      ·rintro (h | h)
       ·exact .inl h
       ·exact .inr (.inr h)
      ·rintro (h | h | h)
       ·exact .inl h
       ·exact absurd h.symm dq
       ·exact .inr h
    ·intro m om cN hm j hpj hj
     by_cases hmi : m = i
     ·subst hmi
      rw [aY] at cN; cases cN
      have := hnp0 j (dT j hj)
      rw [hpj] at this; cases this
     ·have hmr : m ∉ pre ++ i :: post := by
       intro h
       rcases List.mem_append.1 h with h | h
       ·exact hm (by simp [h])
       ·rcases List.mem_cons.1 h with h | h
        ·exact hmi h
        ·exact hm (by simp [h])
      exact hdn m om cN hmr j hpj (dT j hj)
   have ld := R1 hs T0 B a w (wpAny P .any ops Q fuel (l5.setIfInBounds i true)) Q gD key
   unfold wpOp
   simp only [aY]
   split
   ·rename_i hw; rw [if_pos hw] at ld; exact .inl ld
   ·rename_i hw; rw [if_neg hw] at ld; exact ld
theorem EP (h : Jz T0 B σ a w) : Jz T0 B σ a { w with drawn := w.drawn + 1 } := by
 obtain ⟨X, hh, r⟩ := h
 exact ⟨X, hh, r.grow (w' := { w with drawn := w.drawn + 1 }) ⟨rfl, rfl, rfl, Nat.le_refl _, fun _ _ _ => rfl⟩ (fun _ hb => hb) (fun _ hb => .inl hb)⟩
theorem w8 {bar : Oper -> Bool} {Q : St -> Prop} : ∀ {n k : Nat} {σ : St}, k + n = ops.size -> DZ P ops bar (ops.toList.drop k) σ Q -> AO P ops bar (List.range' k n) σ Q
 | 0, k, σ, hk, h => by
  rw [List.drop_eq_nil_of_le zAk] at h
  exact h
 | n + 1, k, σ, hk, h => by
  have lH : k < ops.toList.length := zAk
  rw [List.drop_eq_getElem_cons lH] at h
  obtain ⟨σ', hs, hr⟩ := h
  rw [List.range'_succ]
  exact ⟨ops.toList[k], σ', by rw [<- Array.getElem?_toList]; exact List.getElem?_eq_getElem lH, hs, w8 zAA hr⟩
theorem Ms (gz : ∀ (i : Nat) (o : Oper) (σ σ' : St), ops[i]? = some o -> zU P ops bar o σ σ' -> Fa PT NB σ -> Fa PT NB σ') (g7 : Fa PT NB σ) (hm : P.follows .mixedOrders = true) (hdr : AD P ops (fun i => i) bar PT NB (P4 ops.toList []) = true) (lp : xR ops (fun i => i) σ = true) (h : DZ P ops bar ops.toList σ (Q .normal)) : AWP P (.region id ops true) Q σ := by
 intro T0 B a w gD
 refine wp_region_any hm ?_
 have iX := List.all_eq_true.1 hdr
 refine Ee (T0 := T0) (B := B) (w0 := w) gz hdr (Qa := Q .normal) (fun σ' a' w' hq hr hb => ⟨σ', hq, hr, hb⟩) ops.size (List.range' 0 ops.size) _ σ a _ zAF zAF ?_ (fun i => ?_) (fun i hi => by simp [List.mem_range'] at hi; omega) (fun m om cN hm => absurd (by simp only [List.mem_range'_1]; have := (Array.getElem?_eq_some_iff.1 cN).1; omega) hm) ?_ g7 (w8 zAA zBd) (EP gD) ⟨rfl, rfl, rfl, Nat.le_refl _, fun _ _ => rfl⟩
 ·exact List.pairwise_lt_range'
 ·rw [Array.getD_eq_getD_getElem?, Array.getElem?_replicate]
  simp only [List.mem_range'_1]
  constructor
  ·intro hh; rw [if_pos zAA]; rfl
  ·intro hh
   split at hh
   ·omega
   ·cases hh
 ·intro j hj hl
  simp only [List.mem_range'_1] at hj
  have hb := iX j (List.mem_range.2 zAA)
  simp only [Bool.and_eq_true, Bool.or_eq_true, Bool.not_eq_true'] at hb
  refine ⟨hb.2.resolve_left (by unfold RW at hl; rw [hl]; simp), ?_⟩
  have hc := List.all_eq_true.1 lp j (List.mem_range.2 zAA)
  unfold RW at hl
  simp only [hl, Bool.not_true, Bool.false_or] at hc
  have lH : j < ops.size := zAA
  rw [Array.getElem?_eq_getElem lH] at hc
  simp only [Option.bind_some] at hc
  cases hd : ops[j].dst with
  | none => rw [hd] at hc; cases hc
  | some d => rw [hd] at hc; exact ⟨_, d, Array.getElem?_eq_getElem lH, hd, hc⟩
theorem Bi (hm : P.follows .mixedOrders = true) (hdr : MF P ops (fun i => i) bar = true) (lp : xR ops (fun i => i) σ = true) (h : DZ P ops bar ops.toList σ (Q .normal)) : AWP P (.region id ops true) Q σ :=
 Ms (PT := []) (NB := []) (fun _ _ _ _ _ _ _ => HF) HF hm hdr lp h
theorem sN (PT : List (Nat × Nat)) (hm : P.follows .mixedOrders = true) (hdr : AD P ⟨l⟩ (fun i => i) (fun _ => false) PT [] (P4 l []) = true) (lp : xR ⟨l⟩ (fun i => i) σ = true) (bY : Ng ⟨l⟩ PT = true) (hp : ptB PT σ = true) (h : @EI P σ ⟨⟨l⟩, fun _ => false⟩ ⟨l⟩ k) : @DI P id σ ⟨⟨l⟩, br⟩ k :=
 Ms (bar := fun _ => false) (PT := PT) (NB := []) (fun _ _ _ _ hi hs hq => ⟨wZ bY hi (hs.resolve_right (fun hh => by cases hh.1)) hq.1, fun p hp => by cases hp⟩) ⟨tz hp, fun p hp => by cases hp⟩ hm hdr lp (Jh h)
theorem ux (hm : P.follows .mixedOrders = true) (hdr : MF P ⟨l⟩ (fun i => i) (fun _ => false) = true) (lp : xR ⟨l⟩ (fun i => i) σ = true) (h : @EI P σ ⟨⟨l⟩, fun _ => false⟩ ⟨l⟩ k) : @DI P id σ ⟨⟨l⟩, br⟩ k :=
 Bi hm hdr lp (Jh h)
def MA (bs : List Nat) (o : Oper) : Bool := match o.dst with | some d => bs.contains d | none => !bs.contains 3000001
theorem pz (bY : Ng ops PT = true) (bu : (ops.toList.all fun o => !bar o || Vr o || kc o || (KY P o && OJ bar o)) = true) (hi : ops[i]? = some o) (hs : zU P ops bar o σ σ') (h : Ps PT σ) : Ps PT σ' := by
 rcases hs with hs | ⟨hb, _, _, hk1, cO, hk3⟩
 ·exact wZ bY hi hs h
 ·have iv : o ∈ ops.toList := by rw [Array.mem_toList_iff]; exact Array.mem_of_getElem? hi
  have h1 := List.all_eq_true.1 bu o iv
  simp only [hb, Bool.not_true, Bool.false_or, Bool.or_eq_true, Bool.and_eq_true] at h1
  rcases h1 with (h1 | h1) | ⟨h1, h1o⟩
  ·obtain ⟨⟨_, hg⟩, _⟩ := hk1 h1
   intro p hp
   rw [hg]; exact h p hp
  ·obtain ⟨d, hd, _, hg, _⟩ := cO h1
   intro p hp
   have lA : p.1 ≠ d := by
    intro e
    have hc := List.all_eq_true.1 bY o iv
    rw [hd] at hc
    have hc := List.all_eq_true.1 hc p hp
    simp only [e, bne_self_eq_false, Bool.false_or, Bool.and_eq_true] at hc
    have hc := hc.2
    unfold kc at h1
    cases my : o.op <;> rw [my] at h1 hc <;> first | (exact Bool.noConfusion h1) | (exact Bool.noConfusion hc)
   rw [(hg p.1 lA).1]; exact h p hp
  ·obtain ⟨d, t, cells, cs, v, os, hd, _, _, _, _, _, rfl, _⟩ := hk3 h1 h1o
   intro p hp
   have lA : p.1 ≠ d := by
    intro e
    have hc := List.all_eq_true.1 bY o iv
    rw [hd] at hc
    have hc := List.all_eq_true.1 hc p hp
    simp only [e, bne_self_eq_false, Bool.false_or, Bool.and_eq_true] at hc
    have hc := hc.2
    unfold KY at h1
    cases my : o.op <;> rw [my] at h1 hc <;> first | (exact Bool.noConfusion h1) | (exact Bool.noConfusion hc)
   rw [CA lA]; exact h p hp
theorem p7 (gh : Hw P ops NB = true) (bu : (ops.toList.all fun o => !bar o || Vr o || kc o || (KY P o && OJ bar o)) = true) (hi : ops[i]? = some o) (hs : zU P ops bar o σ σ') (h : Hx NB σ) : Hx NB σ' := by
 rcases hs with hs | ⟨hb, _, _, hk1, cO, hk3⟩
 ·exact rf gh hi hs h
 ·have iv : o ∈ ops.toList := by rw [Array.mem_toList_iff]; exact Array.mem_of_getElem? hi
  have h1 := List.all_eq_true.1 bu o iv
  simp only [hb, Bool.not_true, Bool.false_or, Bool.or_eq_true, Bool.and_eq_true] at h1
  rcases h1 with (h1 | h1) | ⟨h1, h1o⟩
  ·obtain ⟨⟨_, hg⟩, _⟩ := hk1 h1
   intro p hp
   rw [hg]; exact h p hp
  ·obtain ⟨d, hd, _, hg, _⟩ := cO h1
   intro p hp
   have lA : p ≠ d := by
    intro e
    have hc := List.all_eq_true.1 gh o iv
    rw [hd] at hc
    have hc := List.all_eq_true.1 hc p hp
    simp only [e, bne_self_eq_false, Bool.false_or, Bool.and_eq_true] at hc
    have hc := hc.2
    unfold kc at h1
    cases my : o.op <;> rw [my] at h1 hc <;> first | (exact Bool.noConfusion h1) | (exact Bool.noConfusion hc)
   rw [(hg p lA).1]; exact h p hp
  ·obtain ⟨d, t, cells, cs, v, os, hd, _, _, _, _, _, rfl, _⟩ := hk3 h1 h1o
   intro p hp
   have lA : p ≠ d := by
    intro e
    have hc := List.all_eq_true.1 gh o iv
    rw [hd] at hc
    have hc := List.all_eq_true.1 hc p hp
    simp only [e, bne_self_eq_false, Bool.false_or, Bool.and_eq_true] at hc
    have hc := hc.2
    unfold KY at h1
    cases my : o.op <;> rw [my] at h1 hc <;> first | (exact Bool.noConfusion h1) | (exact Bool.noConfusion hc)
   rw [CA lA]; exact h p hp
theorem wW (PT : List (Nat × Nat)) (NB bs : List Nat) (hm : P.follows .mixedOrders = true) (hdr : AD P ⟨l⟩ (fun i => i) (MA bs) PT NB (P4 l []) = true) (lp : xR ⟨l⟩ (fun i => i) σ = true) (bY : Ng ⟨l⟩ PT = true) (hp : ptB PT σ = true) (gh : Hw P ⟨l⟩ NB = true) (hnb : nbB NB σ = true) (bu : (l.all fun o => !MA bs o || Vr o || kc o || (KY P o && OJ (MA bs) o)) = true) (h : @EI P σ ⟨⟨l⟩, MA bs⟩ ⟨l⟩ k) : @DI P id σ ⟨⟨l⟩, br⟩ k :=
 Ms (bar := MA bs) (PT := PT) (NB := NB) (fun _ _ _ _ hi hs hq => ⟨pz bY bu hi hs hq.1, p7 gh bu hi hs hq.2⟩) ⟨tz hp, oQ hnb⟩ hm hdr lp (Jh h)
theorem o9 (bs : List Nat) (hm : P.follows .mixedOrders = true) (hdr : Vm.MF P ⟨l⟩ (fun i => i) (MA bs) = true) (lp : xR ⟨l⟩ (fun i => i) σ = true) (h : @EI P σ ⟨⟨l⟩, MA bs⟩ ⟨l⟩ k) : @DI P id σ ⟨⟨l⟩, br⟩ k :=
 Bi hm hdr lp (Jh h)
def pwB (pos : Nat -> Nat) : List Nat -> Bool
 | [] => true
 | i :: r => r.all (fun j => decide (pos i < pos j)) && pwB pos r
theorem uy {pos : Nat -> Nat} : ∀ {l : List Nat}, pwB pos l = true -> l.Pairwise (fun i j => pos i < pos j)
 | [], _ => .nil
 | i :: r, h => by
  simp only [pwB, Bool.and_eq_true, List.all_eq_true, decide_eq_true_eq] at h
  exact .cons h.1 (uy h.2)
def posOf : List Nat -> Nat -> Nat
 | [], _ => 0
 | i :: r, k => if i == k then 0 else posOf r k + 1
def s5 (n : Nat) (ord : List Nat) : Bool := ord.length == n && pwB (posOf ord) ord && ord.all (fun i => decide (i < n)) && (List.range n).all (fun i => ord.contains i)
@[reducible] def oB : List Oper -> Nat -> Oper -> Oper
 | [], _, d => d
 | o :: _, 0, _ => o
 | _ :: l, i + 1, d => oB l i d
@[reducible] def uq (l : List Oper) (d : Oper) : List Nat -> List Oper
 | [] => []
 | i :: r => oB l i d :: uq l d r
theorem BB {d : Oper} : ∀ {l : List Oper} {i : Nat}, i < l.length -> l[i]? = some (oB l i d)
 | [], i, h => by simp at h
 | o :: l, 0, _ => rfl
 | o :: l, i + 1, h => by simpa using BB (l := l) (i := i) zBd
theorem DH {bar : Oper -> Bool} {Q : St -> Prop} {l : List Oper} {d : Oper} : ∀ {ord : List Nat} {σ : St}, (∀ i ∈ ord, i < l.length) -> DZ P l.toArray bar (uq l d ord) σ Q -> AO P l.toArray bar ord σ Q
 | [], σ, _, h => h
 | i :: r, σ, hi, h => by
  obtain ⟨σ', hs, hr⟩ := h
  exact ⟨_, σ', by rw [List.getElem?_toArray]; exact BB (hi i zAF), hs, DH (fun j hj => hi j (by simp [hj])) hr⟩
theorem vm (hm : P.follows .mixedOrders = true) (ho : s5 ops.size ord = true) (hdr : MF P ops (posOf ord) bar = true) (lp : xR ops (posOf ord) σ = true) (h : AO P ops bar ord σ (Q .normal)) : AWP P (.region id ops true) Q σ := by
 intro T0 B a w gD
 refine wp_region_any hm ?_
 have iX := List.all_eq_true.1 hdr
 simp only [s5, Bool.and_eq_true, beq_iff_eq, List.all_eq_true, decide_eq_true_eq, List.mem_range, List.contains_iff_mem] at ho
 obtain ⟨⟨⟨o1, o2⟩, o3⟩, o4⟩ := ho
 refine Ee (T0 := T0) (B := B) (w0 := w) (PT := []) (NB := []) (fun _ _ _ _ _ _ _ => HF) hdr (Qa := Q .normal) (fun σ' a' w' hq hr hb => ⟨σ', hq, hr, hb⟩) ops.size ord _ σ a _ o1 zAF (uy o2) (fun i => ?_) o3 (fun m om cN hm => absurd (o4 m (Array.getElem?_eq_some_iff.1 cN).1) hm) ?_ HF h (EP gD) ⟨rfl, rfl, rfl, Nat.le_refl _, fun _ _ => rfl⟩
 ·rw [Array.getD_eq_getD_getElem?, Array.getElem?_replicate]
  constructor
  ·intro hh; rw [if_pos (o3 i hh)]; rfl
  ·intro hh
   split at hh
   ·rename_i lH; exact o4 i lH
   ·cases hh
 ·intro j hj hl
  have aB := o3 j hj
  have hb := iX j (List.mem_range.2 aB)
  simp only [Bool.and_eq_true, Bool.or_eq_true, Bool.not_eq_true'] at hb
  refine ⟨hb.2.resolve_left (by unfold RW at hl; rw [hl]; simp), ?_⟩
  have hc := List.all_eq_true.1 lp j (List.mem_range.2 aB)
  unfold RW at hl
  simp only [hl, Bool.not_true, Bool.false_or] at hc
  rw [Array.getElem?_eq_getElem aB] at hc
  simp only [Option.bind_some] at hc
  cases hd : ops[j].dst with
  | none => rw [hd] at hc; cases hc
  | some d => rw [hd] at hc; exact ⟨_, d, Array.getElem?_eq_getElem aB, hd, hc⟩
theorem Hk (ord : List Nat) (hm : P.follows .mixedOrders = true) (ho : s5 (o :: l).length ord = true) (hdr : MF P ⟨o :: l⟩ (posOf ord) (fun _ => false) = true) (lp : xR ⟨o :: l⟩ (posOf ord) σ = true)
  (h : @EI P σ ⟨⟨o :: l⟩, fun _ => false⟩ ⟨uq (o :: l) o ord⟩ k) : @DI P id σ ⟨⟨o :: l⟩, br⟩ k := by
 have h2 : ∀ i ∈ ord, i < (o :: l).length := by
  simp only [s5, Bool.and_eq_true, List.all_eq_true, decide_eq_true_eq] at ho
  exact ho.1.2
 exact vm hm ho hdr lp (DH h2 (Jh h))
end Go.Vm
