/- An abstract machine SD the model of Go, by value, and that it is sound: part Vd. No condition. -/
import Derived.Test.YtjflhdkeibijaaaGreatVc
import Derived.Orders
namespace Go.Vm
open Go.RowKit
structure Sub (P : Program) (xs : List Operand) (σ1 σ : St) : Prop where
 len : σ1.length = σ.length
 look : ∀ x ∈ xs, ∀ ty, look P σ1 ty x = look P σ ty x
 ob : ∀ x ∈ xs, ∀ ty u, (Vm.look P σ1 ty x).ref u = true → ∀ j, σ1.ob u j ≠ .none → σ.ob u j = σ1.ob u j
theorem JW {v : V} {x : At} {u : Nat} (h : unc v = .one x) (hx : x.ref u = true) : v.ref u = true := by
 cases v with
 | cnd g y => simp only [unc] at h; subst h; simp only [V.ref, V.Ti, Bool.or_eq_true]; exact .inl hx
 | one y => simp only [unc] at h; cases h; exact hx
 | any => simp [unc] at h
 | agg xs => simp [unc] at h
 | tup xs => simp [unc] at h
 | fix g y => simp only [unc] at h; subst h; simp only [V.ref, V.Ti, Bool.or_eq_true]; exact .inl hx
theorem Ug {v : V} {xs : List At} {u : Nat} (h : unc v = .agg xs) (hx : YE u xs = true) : v.ref u = true := by
 cases v with
 | cnd g y => simp only [unc] at h; subst h; simp only [V.ref, V.Ti, Bool.or_eq_true]; exact .inl hx
 | agg y => simp only [unc] at h; cases h; exact hx
 | any => simp [unc] at h
 | one xs => simp [unc] at h
 | tup xs => simp [unc] at h
 | fix g y => simp only [unc] at h; subst h; simp only [V.ref, V.Ti, Bool.or_eq_true]; exact .inl hx
theorem qU {v : V} {u : Nat} (hx : YE u (unc v).cells = true) : v.ref u = true := by
 cases h : unc v with
 | one x => rw [h] at hx; simp [V.cells, YE] at hx; exact JW h hx
 | agg xs => rw [h] at hx; exact Ug h hx
 | any => rw [h] at hx; simp [V.cells, YE] at hx
 | tup xs => rw [h] at hx; simp [V.cells, YE] at hx
 | cnd g x => rw [h] at hx; simp [V.cells, YE] at hx
 | fix u x => rw [h] at hx; simp [V.cells, YE] at hx
section
variable {P : Program} {σ1 σ : St}
theorem Sub.same {xs : List Operand} {x : Operand} {ty : TypeId} {a : At} {u j : Nat} {o : Ob} (h : Sub P xs σ1 σ) (hx : x ∈ xs) (hv : unc (Vm.look P σ ty x) = .one a) (ha : a.ref u = true) (ho : σ1.ob u j = o) (hn : o ≠ .none) : σ.ob u j = o := by
 rw [← ho]
 refine h.ob x hx ty u ?_ j (by rw [ho]; exact hn)
 rw [h.look x hx ty]
 exact JW hv ha
theorem KZ {xs : List Operand} {x : Operand} {k : IntKind} {n : Int} (h : Sub P xs σ1 σ) (hx : x ∈ xs) (hl : ql P σ1 x k n) : ql P σ x k n := by
 unfold ql at *
 rw [← h.look x hx]; exact hl
theorem M8 {xs : List Operand} {df n : Nat} {x : Option Operand} (h : Sub P xs σ1 σ) (hx : ∀ y, x = some y → y ∈ xs) (hl : bnd P σ1 df x n) : bnd P σ df x n := by
 cases x with
 | none => exact hl
 | some x =>
  simp only [bnd] at *
  rw [← h.look x (hx x rfl)]; exact hl
theorem TE {T : TypeId} : ∀ {ps : List (Nat × Operand)} {z out : List At}, Sub P (ps.map (·.2)) σ1 σ → j9 P σ1 T ps z out → j9 P σ T ps z out
 | [], _, _, _, h => h
 | (i, x) :: ps, z, out, hs, h => by
  have e := hs.look x (by simp)
  simp only [j9] at h ⊢
  rw [← e]
  refine ⟨h.1, h.2.1, h.2.2.1, h.2.2.2.1, h.2.2.2.2.1, TE ⟨hs.len, fun y hy => hs.look y (by simp at hy ⊢; exact .inr hy), fun y hy => hs.ob y (by simp at hy ⊢; exact .inr hy)⟩ h.2.2.2.2.2⟩
theorem VA {op : Op} {ty : TypeId} {v : V} (hs : YX P σ1 op ty v) (h : Sub P op.operands.toList σ1 σ) : YX P σ op ty v := by
 cases op <;> simp only [YX] at hs ⊢
 case move x => rw [← h.look x (by simp [Op.operands])]; exact hs
 case assign x => rw [← h.look x (by simp [Op.operands])]; exact hs
 case pick c a b =>
  rw [← h.look c (by simp [Op.operands]), ← h.look a (by simp [Op.operands]), ← h.look b (by simp [Op.operands])]; exact hs
 case load T x =>
  rw [h.look x (by simp [Op.operands])] at hs
  refine ⟨hs.1, hs.2.1, ?_⟩
  have hs2 := hs.2.2
  split at hs2
  ·rename_i t c hx
   obtain ⟨cells, ho, hr⟩ := hs2
   exact ⟨cells, h.same (by simp [Op.operands]) hx (by simp [At.ref]) ho (by simp), hr⟩
  ·rename_i t j i c hx
   obtain ⟨q, size, rows, ho, hr⟩ := hs2
   exact ⟨q, size, rows, h.same (by simp [Op.operands]) hx (by simp [At.ref]) ho (by simp), hr⟩
  ·exact hs2
  ·exact hs2.elim
 case fieldAddr T x f =>
  rw [h.look x (by simp [Op.operands])] at hs
  refine ⟨hs.1, hs.2.1, ?_⟩
  have hs2 := hs.2.2
  split at hs2
  ·rename_i t c hx
   obtain ⟨⟨cells, ho⟩, hr⟩ := hs2
   exact ⟨⟨cells, h.same (by simp [Op.operands]) hx (by simp [At.ref]) ho (by simp)⟩, hr⟩
  ·rename_i t j i c hx
   obtain ⟨⟨q, size, rows, ho⟩, hr⟩ := hs2
   exact ⟨⟨q, size, rows, h.same (by simp [Op.operands]) hx (by simp [At.ref]) ho (by simp)⟩, hr⟩
  ·exact hs2
  ·exact hs2.elim
 case indexAddr T x ix =>
  obtain ⟨k, i, hk, h0, hg, hs2⟩ := hs
  rw [h.look x (by simp [Op.operands])] at hg hs2
  refine ⟨k, i, KZ h (by simp [Op.operands]) hk, h0, hg, ?_⟩
  split at hs2
  ·exact hs2
  ·rename_i t j lo len hx
   obtain ⟨h1, h2, ⟨q, rows, ho⟩, hr⟩ := hs2
   exact ⟨h1, h2, ⟨q, rows, h.same (by simp [Op.operands]) hx (by simp [At.ref]) ho (by simp)⟩, hr⟩
  ·rename_i t c hx
   obtain ⟨⟨cells, ho⟩, hr⟩ := hs2
   exact ⟨⟨cells, h.same (by simp [Op.operands]) hx (by simp [At.ref]) ho (by simp)⟩, hr⟩
  ·exact hs2.elim
 case index T x ix =>
  obtain ⟨k, i, hk, h0, hg, hs2⟩ := hs
  rw [h.look x (by simp [Op.operands])] at hg hs2
  exact ⟨k, i, KZ h (by simp [Op.operands]) hk, h0, hg, hs2⟩
 case slice T x lo hi mx =>
  cases mx with
  | some m => exact hs.elim
  | none =>
   simp only at hs ⊢
   rw [h.look x (by simp [Op.operands])] at hs
   refine ⟨hs.1, ?_⟩
   have hs2 := hs.2
   have b1 : ∀ df n, bnd P σ1 df lo n → bnd P σ df lo n := fun df n => M8 h (fun y hy => by subst hy; simp [Op.operands])
   have b2 : ∀ df n, bnd P σ1 df hi n → bnd P σ df hi n := fun df n => M8 h (fun y hy => by subst hy; simp [Op.operands])
   split at hs2
   ·obtain ⟨h1, l, hh, h2, h3, hr⟩ := hs2
    exact ⟨h1, l, hh, b1 _ _ h2, b2 _ _ h3, hr⟩
   ·obtain ⟨h1, h1', l, hh, h2, h3, hr⟩ := hs2
    exact ⟨h1, h1', l, hh, b1 _ _ h2, b2 _ _ h3, hr⟩
   ·rename_i t j o len hx
    obtain ⟨h1, ⟨q, rows, ho⟩, l, hh, h2, h3, hr⟩ := hs2
    exact ⟨h1, ⟨q, rows, h.same (by simp [Op.operands]) hx (by simp [At.ref]) ho (by simp)⟩, l, hh, b1 _ _ h2, b2 _ _ h3, hr⟩
   ·exact hs2.elim
 case binOp op T x y yt =>
  rw [← h.look x (by simp [Op.operands]), ← h.look y (by simp [Op.operands])]; exact hs
 case unOp op T x => rw [← h.look x (by simp [Op.operands])]; exact hs
 case convert S T x => rw [← h.look x (by simp [Op.operands])]; exact hs
 case extract x i => rw [← h.look x (by simp [Op.operands])]; exact hs
 case field T x f => rw [← h.look x (by simp [Op.operands])]; exact hs
 case build T parts =>
  obtain ⟨h1, h2, z, out, h3, h4, h5⟩ := hs
  refine ⟨h1, h2, z, out, h3, TE ?_ h4, h5⟩
  simpa [Op.operands] using h
 case call c =>
  obtain ⟨cal, args, ats⟩ := c
  have hm : ∀ x ∈ args.toList, x ∈ (Op.operands (.call ⟨cal, args, ats⟩)).toList := by
   intro x hx
   simp only [Op.operands, Call.operands]
   cases cal <;> simp at hx ⊢ <;> simp [hx]
  split at hs
  ·rename_i x t hc ha ht
   rw [h.look x (hm x (by rw [ha]; simp))] at hs
   try simp only [hc, ha, ht]
   refine ⟨hs.1, ?_⟩
   have hs2 := hs.2
   split at hs2
   ·exact hs2
   ·exact hs2
   ·exact hs2
   ·rename_i u j lo len hx
    obtain ⟨h1, ⟨q, size, rows, ho⟩ | ⟨size, rows, ho⟩, hr⟩ := hs2
    ·exact ⟨h1, .inl ⟨q, size, rows, h.same (hm x (by rw [ha]; simp)) hx (by simp [At.ref]) ho (by simp)⟩, hr⟩
    ·exact ⟨h1, .inr ⟨size, rows, h.same (hm x (by rw [ha]; simp)) hx (by simp [At.ref]) ho (by simp)⟩, hr⟩
   ·exact hs2.elim
  ·rename_i x y hc ha
   try simp only [hc, ha]
   obtain ⟨k, m, n, h1, h2, h3⟩ := hs
   exact ⟨k, m, n, KZ h (hm x (by rw [ha]; simp)) h1, KZ h (hm y (by rw [ha]; simp)) h2, h3⟩
  ·rename_i x y hc ha
   try simp only [hc, ha]
   obtain ⟨k, m, n, h1, h2, h3⟩ := hs
   exact ⟨k, m, n, KZ h (hm x (by rw [ha]; simp)) h1, KZ h (hm y (by rw [ha]; simp)) h2, h3⟩
  ·exact hs.elim
end
end Go.Vm
namespace Go.Vm
open Go.RowKit
def Oc (P : Program) (xs : List Operand) (σ : St) (u : Nat) : Prop :=
 ∃ x ∈ xs, ∃ ty, (look P σ ty x).ref u = true ∨ ∃ t cells, (look P σ ty x).ref t = true ∧ σ.ob t 0 = .box cells ∧ YE u cells = true
theorem Jc {u : Nat} : ∀ {xs : List At}, YE u xs = true ↔ ∃ x ∈ xs, x.ref u = true
 | [] => by simp [YE]
 | x :: xs => by simp [YE, Jc]
theorem Gi {u : Nat} {xs ys : List At} (h : ∀ x ∈ xs, x ∈ ys) (hx : YE u xs = true) : YE u ys = true := by
 obtain ⟨x, h1, h2⟩ := Jc.1 hx
 exact Jc.2 ⟨x, h x h1, h2⟩
theorem Uj {u a b : Nat} {xs : List At} (hx : YE u (cut xs a b) = true) : YE u xs = true :=
 Gi (fun _ h => List.mem_of_mem_drop (List.mem_of_mem_take h)) hx
theorem TW {u : Nat} (xs : List D) : YE u (xs.map .d) = false := by
 induction xs with
 | nil => rfl
 | cons x xs ih => simp [YE, At.ref, ih]
theorem TK {P : Program} {T : TypeId} {u : Nat} {xs : List At} (h : (ldV P T xs).ref u = true) : YE u xs = true := by
 unfold ldV at h
 split at h
 ·exact h
 ·split at h
  ·simpa [V.ref, YE] using h
  ·simp [V.ref] at h
theorem Ea {u o : Nat} {r xs : List At} (h : YE u (place r o xs) = true) : YE u r = true ∨ YE u xs = true := by
 obtain ⟨x, h1, h2⟩ := Jc.1 h
 simp only [place, List.mem_append] at h1
 rcases h1 with (h1 | h1) | h1
 ·exact .inl (Jc.2 ⟨x, List.mem_of_mem_take h1, h2⟩)
 ·exact .inr (Jc.2 ⟨x, h1, h2⟩)
 ·exact .inl (Jc.2 ⟨x, List.mem_of_mem_drop h1, h2⟩)
theorem CA {v : V} {u : Nat} (h : (unc v).ref u = true) (hc : ∀ g x, unc v ≠ .cnd g x) (hf : ∀ g x, unc v ≠ .fix g x) : v.ref u = true := by
 cases v with
 | cnd g x =>
  simp only [unc] at h hc hf
  simp only [V.ref, Bool.or_eq_true]
  cases x with
  | tup xs => exact .inr h
  | cnd g y => exact absurd rfl (hc g y)
  | fix g y => exact absurd rfl (hf g y)
  | one x => exact .inl h
  | agg x => exact .inl h
  | any => exact .inl h
 | fix g x =>
  simp only [unc] at h hc hf
  simp only [V.ref, Bool.or_eq_true]
  cases x with
  | tup xs => exact .inr h
  | cnd g y => exact absurd rfl (hc g y)
  | fix g y => exact absurd rfl (hf g y)
  | one x => exact .inl h
  | agg x => exact .inl h
  | any => exact .inl h
 | _ => exact h
theorem NP {u t j i : Nat} : ∀ {c : Nat} {xs : List D}, YE u (qC t j i c xs) = true → u = t
 | _, [], h => by simp [qC, YE] at h
 | c, x :: xs, h => by
  simp only [qC, YE, Bool.or_eq_true] at h
  rcases h with h | h
  ·cases x <;> simp [At.ref] at h; exact h.symm
  ·exact NP h
theorem G1 {u t j i c : Nat} {q : Bool} {xs : List D} (h : YE u (Wb q t j i c xs) = true) : u = t := by
 cases q with
 | true => exact NP h
 | false => simp only [Wb] at h; rw [TW] at h; cases h
theorem Hl {op : BinOp} {k : IntKind} {x y : Int} {v : V} (h : Pg op k x y v) (u : Nat) : v.ref u = false := by
 cases op <;> simp only [Pg] at h <;> first | (subst h; rfl) | (obtain ⟨_, rfl⟩ := h; rfl) | exact h.elim
theorem HS {op : BinOp} {x y : ByteArray} {v : V} (h : OJ op x y v) (u : Nat) : v.ref u = false := by
 cases op <;> simp only [OJ] at h <;> first | (subst h; rfl) | (obtain ⟨_, rfl⟩ := h; rfl) | exact h.elim
theorem Ib {op : BinOp} {x y : Bool} {v : V} (h : TR op x y v) (u : Nat) : v.ref u = false := by
 cases op <;> simp only [TR] at h <;> first | (subst h; rfl) | (obtain ⟨_, rfl⟩ := h; rfl) | exact h.elim
theorem FD {P : Program} {op : BinOp} {T : TypeId} {x y v : V} (h : GA P op T x y v) (u : Nat) : v.ref u = false := by
 unfold GA at h
 split at h
 ·exact Hl h.2 u
 ·exact HS h u
 ·exact Ib h.2 u
 ·obtain ⟨_, q, _, ⟨_, rfl⟩ | ⟨_, rfl⟩⟩ := h <;> rfl
 ·exact h.elim
theorem M0 {u : Nat} : ∀ {xs : List V} {i : Nat} {v : V}, xs[i]? = some v → v.Ti u = true → kN u xs = true
 | [], _, _, h, _ => by simp at h
 | x :: xs, 0, v, h, hr => by simp at h; subst h; simp [kN, hr]
 | x :: xs, i + 1, v, h, hr => by simp only [kN, Bool.or_eq_true]; exact .inr (M0 (by simpa using h) hr)
theorem Mn {v : V} (hf : v.flat = true) (u : Nat) : v.ref u = v.Ti u := by
 cases v <;> first | rfl | (simp [V.flat] at hf)
theorem OI {P : Program} {σ : St} {T : TypeId} {u : Nat} : ∀ {ps : List (Nat × Operand)} {z out : List At}, j9 P σ T ps z out → YE u out = true →
  YE u z = true ∨ ∃ x ∈ ps.map (·.2), ∃ ty, (look P σ ty x).ref u = true
 | [], z, out, h, hr => by simp only [j9] at h; subst h; exact .inl hr
 | (i, x) :: ps, z, out, h, hr => by
  simp only [j9] at h
  rcases OI h.2.2.2.2.2 hr with h1 | ⟨y, hy, ty, h1⟩
  ·rcases Ea h1 with h1 | h1
   ·exact .inl h1
   ·exact .inr ⟨x, by simp, _, qU h1⟩
  ·exact .inr ⟨y, by simp at hy ⊢; exact .inr hy, ty, h1⟩
theorem EH {P : Program} {σ : St} {op : Op} {ty : TypeId} {v : V} {u : Nat} (hs : YX P σ op ty v) (hr : v.ref u = true) : Oc P op.operands.toList σ u := by
 have nod : ∀ {x : D}, v = .one (.d x) → False := by intro x e; rw [e] at hr; cases hr
 cases op <;> simp only [YX] at hs
 case move x => subst hs; exact ⟨x, by simp [Op.operands], ty, .inl hr⟩
 case assign x => subst hs; exact ⟨x, by simp [Op.operands], ty, .inl hr⟩
 case pick c a b => obtain ⟨bc, p, q, _, _, _, _, _, _, rfl⟩ := hs; cases hr
 case load T x =>
  have hs2 := hs.2.2
  split at hs2
  ·rename_i t c hx
   obtain ⟨cells, ho, _, rfl⟩ := hs2
   exact ⟨x, by simp [Op.operands], 0, .inr ⟨t, cells, JW hx (by simp [At.ref]), ho, Uj (TK hr)⟩⟩
  ·rename_i t j i c hx
   obtain ⟨q, size, rows, _, _, _, rfl⟩ := hs2
   have := G1 (TK hr)
   exact ⟨x, by simp [Op.operands], 0, .inl (JW hx (by simp [At.ref, this]))⟩
  ·obtain ⟨_, rfl⟩ := hs2
   have := TK hr; rw [TW] at this; cases this
  ·exact hs2.elim
 case fieldAddr T x f =>
  have hs2 := hs.2.2
  split at hs2
  ·rename_i t c hx
   obtain ⟨_, rfl⟩ := hs2
   exact ⟨x, by simp [Op.operands], 0, .inl (JW hx hr)⟩
  ·rename_i t j i c hx
   obtain ⟨_, rfl⟩ := hs2
   exact ⟨x, by simp [Op.operands], 0, .inl (JW hx hr)⟩
  ·subst hs2; cases hr
  ·exact hs2.elim
 case indexAddr T x ix =>
  obtain ⟨k, i, _, _, _, hs2⟩ := hs
  split at hs2
  ·obtain ⟨_, _, _, _, rfl⟩ := hs2; cases hr
  ·rename_i t j lo len hx
   obtain ⟨_, _, _, _, rfl⟩ := hs2
   exact ⟨x, by simp [Op.operands], 0, .inl (JW hx hr)⟩
  ·rename_i t c hx
   obtain ⟨_, _, rfl⟩ := hs2
   exact ⟨x, by simp [Op.operands], 0, .inl (JW hx hr)⟩
  ·exact hs2.elim
 case index T x ix =>
  obtain ⟨k, i, _, _, _, hs2⟩ := hs
  split at hs2
  ·obtain ⟨_, _, rfl⟩ := hs2; cases hr
  ·rename_i xs hx
   obtain ⟨_, _, _, rfl⟩ := hs2
   exact ⟨x, by simp [Op.operands], 0, .inl (Ug hx (Uj (TK hr)))⟩
  ·exact hs2.elim
 case slice T x lo hi mx =>
  cases mx with
  | some m => exact hs.elim
  | none =>
   simp only at hs
   have hs2 := hs.2
   split at hs2
   ·obtain ⟨_, _, _, _, _, _, _, rfl⟩ := hs2; cases hr
   ·obtain ⟨_, _, _, _, _, _, _, _, rfl⟩ := hs2; cases hr
   ·rename_i t j o len hx
    obtain ⟨_, _, _, _, _, _, _, _, rfl⟩ := hs2
    exact ⟨x, by simp [Op.operands], 0, .inl (JW hx hr)⟩
   ·exact hs2.elim
 case binOp op T x y yt => rw [FD hs.2.2 u] at hr; cases hr
 case unOp op T x =>
  have hs2 := hs.2
  split at hs2
  ·subst hs2; cases hr
  ·subst hs2; cases hr
  ·exact hs2.elim
 case convert S T x =>
  have hs2 := hs.2.2
  split at hs2
  ·obtain ⟨_, _, rfl⟩ := hs2; cases hr
  ·exact hs2.elim
 case extract x i =>
  have hs2 := hs.2
  split at hs2
  ·rename_i xs hx
   refine ⟨x, by simp [Op.operands], 0, .inl (CA ?_ (by rw [hx]; simp) (by rw [hx]; simp))⟩
   rw [hx]
   rw [Mn hs2.2] at hr
   exact M0 hs2.1 hr
  ·exact hs2.elim
 case field T x f =>
  have hs2 := hs.2.2.2
  split at hs2
  ·rename_i xs hx
   obtain ⟨_, rfl⟩ := hs2
   exact ⟨x, by simp [Op.operands], 0, .inl (Ug hx (Uj (TK hr)))⟩
  ·exact hs2.elim
 case build T parts =>
  obtain ⟨_, _, z, out, h3, h4, rfl⟩ := hs
  rcases OI h4 hr with h1 | ⟨x, hx, ty', h1⟩
  ·rw [UZ u _ _ _ h3] at h1; cases h1
  ·exact ⟨x, by simpa [Op.operands] using hx, ty', .inl h1⟩
 case call c =>
  split at hs
  ·have hs2 := hs.2
   split at hs2
   ·obtain ⟨_, rfl⟩ := hs2; cases hr
   ·obtain ⟨_, rfl⟩ := hs2; cases hr
   ·obtain ⟨_, rfl⟩ := hs2; cases hr
   ·obtain ⟨_, _, rfl⟩ := hs2; cases hr
   ·exact hs2.elim
  ·obtain ⟨_, _, _, _, _, rfl⟩ := hs; cases hr
  ·obtain ⟨_, _, _, _, _, rfl⟩ := hs; cases hr
  ·exact hs.elim
end Go.Vm
namespace Go.Vm
open Go.RowKit
inductive Eff where
 | put (v : V)
 | new (v : V) (os : List Ob)
 | drop (t j : Nat) (v : V) (os : List Ob)
def Eff.ap (d : Nat) : Eff → St → St
 | .put v, σ => σ.put d v
 | .new v os, σ => σ.new d v os
 | .drop t j v os, σ => (σ.YQ t j .none).new d v os
def Eff.ok (d : Nat) : Eff → St → Prop
 | .put _, _ => True
 | .new _ _, σ => σ.fresh d = true
 | .drop t j _ _, σ => (∃ q s r, σ.ob t j = .arr q s r) ∧ (σ.YQ t j .none).fresh d = true
def Eff.ref (u : Nat) : Eff → Bool
 | .put v => v.ref u
 | .new v os => v.ref u || Yu u os
 | .drop _ _ v os => v.ref u || Yu u os
def NH (o : Oper) : Bool :=
 match o.op with
 | .call ⟨.builtin .append, ⟨.const _ :: _⟩, _⟩ => false
 | .call ⟨.builtin .append, _, _⟩ => true
 | _ => false
def JF (o : Oper) : Bool :=
 match o.op with
 | .alloc _ => false
 | .box _ _ => false
 | .buildSlice _ _ _ => false
 | .makeSlice _ _ _ => false
 | .call ⟨.builtin .append, _, _⟩ => false
 | .call ⟨.value _, _, _⟩ => false
 | _ => true
def TL (ops : Array Oper) (o : Oper) : List Operand :=
 o.op.operands.toList ++ (match o.guard with | some (j, _) => (match (ops[j]?).bind (·.dst) with | some dj => [.tmp dj] | none => []) | none => [])
section
variable {P : Program} {σ1 σ : St}
theorem Sub.left {xs ys : List Operand} (h : Sub P (xs ++ ys) σ1 σ) : Sub P xs σ1 σ := ⟨h.len, fun x hx => h.look x (by simp [hx]), fun x hx => h.ob x (by simp [hx])⟩
theorem L4 {x : At} {d : D} (h : ∀ u, x.ref u = true → ∀ j, σ1.ob u j ≠ .none → σ.ob u j = σ1.ob u j) (hd : Jr σ1 x = some d) : Jr σ x = some d := by
 cases x with
 | sref t j lo len =>
  simp only [Jr] at hd ⊢
  split at hd
  ·rename_i q size rows ho
   rw [h t (by simp [At.ref]) j (by rw [ho]; simp), ho]; exact hd
  ·cases hd
 | _ => exact hd
theorem xj : ∀ {xs : List At} {r : List D}, (∀ u, YE u xs = true → ∀ j, σ1.ob u j ≠ .none → σ.ob u j = σ1.ob u j) → rowOf σ1 xs = some r → rowOf σ xs = some r
 | [], _, _, h => h
 | x :: xs, r, h, hr => by
  simp only [rowOf] at hr ⊢
  split at hr
  ·rename_i d ds h1 h2
   rw [L4 (fun u hu => h u (by rw [YE, hu]; rfl)) h1, xj (fun u hu => h u (by rw [YE, hu, Bool.or_true])) h2]
   exact hr
  ·cases hr
theorem N5 {v : V} {r : List D} (h : ∀ u, YE u v.cells = true → ∀ j, σ1.ob u j ≠ .none → σ.ob u j = σ1.ob u j) (hr : v.Q0 σ1 = some r) : v.Q0 σ = some r := by
 cases v with
 | one x => exact xj h hr
 | agg xs =>
  match xs, h, hr with
  | [], h, hr => exact xj h hr
  | [_], _, hr => simp [V.Q0] at hr
  | x :: y :: xs, h, hr => exact xj h hr
 | any => simp [V.Q0] at hr
 | tup xs => simp [V.Q0] at hr
 | cnd g x => simp [V.Q0] at hr
 | fix u x => simp [V.Q0] at hr
theorem Sub.cells {xs : List Operand} {x : Operand} (h : Sub P xs σ1 σ) (hx : x ∈ xs) (ty : TypeId) : ∀ u, YE u (unc (Vm.look P σ1 ty x)).cells = true → ∀ j, σ1.ob u j ≠ .none → σ.ob u j = σ1.ob u j :=
 fun u hu j hn => h.ob x hx ty u (qU hu) j hn
theorem jw : ∀ {xs : List Operand} {ts : List TypeId} {rs : List (List D)}, Sub P xs σ1 σ → Xg P σ1 xs ts rs → Xg P σ xs ts rs
 | [], _, _, _, h => h
 | x :: xs, [], _, _, h => h.elim
 | x :: xs, t :: ts, rs, hs, h => by
  obtain ⟨hg, r, rest, h1, h2, h3⟩ := h
  have e := hs.look x (by simp) t
  refine ⟨by rw [← e]; exact hg, r, rest, ?_, jw ⟨hs.len, fun y hy => hs.look y (by simp [hy]), fun y hy => hs.ob y (by simp [hy])⟩ h2, h3⟩
  rw [← e]
  exact N5 (hs.cells (by simp) t) h1
theorem kd : ∀ {xs : List Operand} {ts : List TypeId}, Sub P xs σ1 σ → YM P σ xs ts = YM P σ1 xs ts
 | [], _, _ => by simp [YM]
 | x :: xs, [], _ => by simp [YM]
 | x :: xs, t :: ts, hs => by
  simp only [YM]
  rw [hs.look x (by simp) t, kd ⟨hs.len, fun y hy => hs.look y (by simp [hy]), fun y hy => hs.ob y (by simp [hy])⟩]
theorem VX {c : Call} {f : FuncId} {own : Bool} {res : List (List D)} (hs : Sub P c.args.toList σ1 σ) (h : Hq P σ1 c f own res) : Hq P σ c f own res := by
 obtain ⟨rows, h1, h2, h3⟩ := h
 exact ⟨rows, jw hs h1, h2, by rw [kd hs]; exact h3⟩
theorem RG {T : TypeId} {size : Nat} : ∀ {ps : List (Nat × Operand)} {k : Nat} {rs : List (List D)}, Sub P (ps.map (·.2)) σ1 σ → Oi P σ1 T size ps k rs → Oi P σ T size ps k rs
 | [], _, _, _, h => h
 | (i, x) :: ps, k, rs, hs, h => by
  have e := hs.look x (by simp) T
  obtain ⟨h1, h2, h3, h4, r, rest, h5, h6, h7, h8⟩ := h
  refine ⟨h1, by rw [← e]; exact h2, by rw [← e]; exact h3, by rw [← e]; exact h4, r, rest, ?_, h6, RG ⟨hs.len, fun y hy => hs.look y (by simp at hy ⊢; exact .inr hy), fun y hy => hs.ob y (by simp at hy ⊢; exact .inr hy)⟩ h7, h8⟩
  rw [← e]
  exact xj (hs.cells (by simp) T) h5
theorem RB {T : TypeId} {size : Nat} : ∀ {ps : List (Nat × Operand)} {k : Nat} {rs : List (List At)}, Sub P (ps.map (·.2)) σ1 σ → U7 P σ1 T size ps k rs → U7 P σ T size ps k rs
 | [], _, _, _, h => h
 | (i, x) :: ps, k, rs, hs, h => by
  obtain ⟨h1, h2, h3, h4, rest, h5, h6⟩ := h
  have e := hs.look x (by simp) T
  rw [e] at h2 h3 h4 h6
  exact ⟨h1, h2, h3, h4, rest, RB ⟨hs.len, fun y hy => hs.look y (by simp at hy ⊢; exact .inr hy), fun y hy => hs.ob y (by simp at hy ⊢; exact .inr hy)⟩ h5, h6⟩
theorem Mh {T : TypeId} {size u : Nat} : ∀ {ps : List (Nat × Operand)} {k : Nat} {rs : List (List At)}, U7 P σ T size ps k rs → YE u rs.flatten = true → ∃ x ∈ ps.map (·.2), (Vm.look P σ T x).ref u = true
 | [], _, _, h, hr => by simp only [U7] at h; subst h; simp [YE] at hr
 | (i, x) :: ps, k, rs, h, hr => by
  obtain ⟨h1, h2, h3, h4, rest, h5, rfl⟩ := h
  rw [List.flatten_cons] at hr
  obtain ⟨z, hz, hzr⟩ := Jc.1 hr
  rcases List.mem_append.1 hz with hz | hz
  ·exact ⟨x, by simp, qU (Jc.2 ⟨z, hz, hzr⟩)⟩
  ·obtain ⟨y, hy, hyr⟩ := Mh h5 (Jc.2 ⟨z, hz, hzr⟩)
   exact ⟨y, by simp at hy ⊢; exact .inr hy, hyr⟩
theorem z3 (u : Nat) : ∀ (qs : List Bool) (ds : List D), Yu u (YC qs ds) = false
 | qs, [] => by cases qs <;> rfl
 | q :: qs, .sl size rows :: ds => by simp [YC, Yu, z3 u qs ds]
 | [], .sl size rows :: ds => by simp [YC, Yu, z3 u [] ds]
 | qs, .int _ _ :: ds => by cases qs <;> simp [YC, Yu, z3 u _ ds]
 | qs, .bool _ :: ds => by cases qs <;> simp [YC, Yu, z3 u _ ds]
 | qs, .str _ :: ds => by cases qs <;> simp [YC, Yu, z3 u _ ds]
theorem j5 {xs : List Operand} {x : Operand} {ty : TypeId} {size : Nat} {news : List (List D)} (hs : Sub P xs σ1 σ) (hx : x ∈ xs) (h : Kv σ1 (unc (Vm.look P σ1 ty x)) size news) : Kv σ (unc (Vm.look P σ ty x)) size news := by
 rw [hs.look x hx] at h
 unfold Kv at h ⊢
 split at h
 ·exact h
 ·exact h
 ·rename_i t j lo len hv
  obtain ⟨rows, ho, hr⟩ := h
  exact ⟨rows, hs.same hx hv (by simp [At.ref]) ho (by simp), hr⟩
 ·exact h.elim
theorem F1 (u : Nat) (r : List D) : (vOf (r.map At.d)).ref u = false := by
 have := TW (u := u) r
 match r, this with
 | [], _ => rfl
 | [x], _ => rfl
 | x :: y :: r, h => exact h
theorem G9 (u : Nat) (r : List D) : (vOf (r.map At.d)).Ti u = false := by
 have := TW (u := u) r
 match r, this with
 | [], _ => rfl
 | [x], _ => rfl
 | x :: y :: r, h => exact h
theorem EN (u : Nat) (res : List (List D)) : (yP res).ref u = false := by
 have tl : ∀ rs : List (List D), kN u (rs.map fun r => vOf (r.map At.d)) = false := by
  intro rs
  induction rs with
  | nil => rfl
  | cons r rs ih => simp only [List.map_cons, kN, G9, ih, Bool.or_false]
 match res with
 | [] => rfl
 | [r] => exact F1 u r
 | r :: r' :: rs => exact tl (r :: r' :: rs)
theorem Us {u d : Nat} (hu : u ≠ d) : ∀ (k : Nat) (r : List D), YE u (Qh d k r) = false
 | _, [] => rfl
 | k, x :: r => by cases x <;> simp [Qh, YE, At.ref, Us hu, Ne.symm hu]
theorem HZ {u : Nat} {xs : List At} (h : YE u xs = false) : (vOf xs).Ti u = false := by
 match xs, h with
 | [], _ => rfl
 | [x], h => simpa [vOf, V.Ti, YE] using h
 | x :: y :: xs, h => exact h
theorem GR {u d : Nat} (hu : u ≠ d) (res : List (List D)) : (jS d res).ref u = false := by
 have tl : ∀ (k : Nat) (rs : List (List D)), kN u (Mr d k rs) = false := by
  intro k rs
  induction rs generalizing k with
  | nil => rfl
  | cons r rs ih => simp only [Mr, kN, HZ (Us hu _ _), ih, Bool.or_false]
 match res with
 | [] => exact tl 0 []
 | [r] =>
  have h1 : (vOf (Qh d 0 r)).flat = true := by
   match Qh d 0 r with
   | [] => rfl
   | [x] => rfl
   | x :: y :: xs => rfl
  have := HZ (Us hu 0 r)
  rw [← Mn h1] at this
  exact this
 | r :: r' :: rs => exact tl 0 (r :: r' :: rs)
theorem Pe (u : Nat) : ∀ (ds : List D), Yu u (KP ds) = false
 | [] => rfl
 | x :: ds => by cases x <;> simp [KP, Yu, Pe u ds]
theorem Mj (ty : TypeId) (v : Value) (u : Nat) : (cst P ty v).ref u = false := by
 unfold cst
 split <;> first | rfl | skip
 all_goals (repeat' split) <;> first | rfl | skip
end
end Go.Vm
namespace Go.Vm
open Go.RowKit
def OO (P : Program) (ops : Array Oper) (o : Oper) (d : Nat) (σ1 : St) (e : Eff) : Prop :=
 e.ok d σ1 ∧ (∀ t j v os, e = .drop t j v os → NH o = true ∧ ∃ x ∈ TL ops o, ∃ ty, (look P σ1 ty x).ref t = true) ∧
 (JF o = true ∨ o.guard.isSome = true → ∃ v, e = .put v) ∧
 (o.guard = none → ∀ u, u ≠ d → e.ref u = true → Oc P (TL ops o) σ1 u) ∧
 ∀ σ, Sub P (TL ops o) σ1 σ → e.ok d σ → XK P ops o σ (e.ap d σ)
section
variable {P : Program} {ops : Array Oper} {o : Oper} {d : Nat} {σ1 σ2 : St}
theorem Ue {xs ys : List Operand} {u : Nat} (h : Oc P xs σ1 u) : Oc P (xs ++ ys) σ1 u := by
 obtain ⟨x, hx, r⟩ := h
 exact ⟨x, by simp [hx], r⟩
theorem kB {σ σ' : St} (hg : o.guard = none) (hd : o.dst = some d) (h : Step P o d σ σ') : XK P ops o σ σ' := by
 unfold XK; simp only [hg, hd]; exact h
theorem PZ {v : V} (hg : o.guard = none) (hd : o.dst = some d) (href : ∀ u, u ≠ d → v.ref u = true → Oc P o.op.operands.toList σ1 u)
  (hfr : ∀ σ, Sub P o.op.operands.toList σ1 σ → Step P o d σ (σ.put d v)) : OO P ops o d σ1 (.put v) :=
 ⟨trivial, (fun t j v os h => by cases h), fun _ => ⟨v, rfl⟩, fun _ u hu hr => Ue (href u hu hr), fun σ hs _ => kB hg hd (hfr σ hs.left)⟩
theorem jg {v : V} {os : List Ob} (hg : o.guard = none) (hd : o.dst = some d) (hp : JF o = false) (hok : σ1.fresh d = true) (href : ∀ u, u ≠ d → (v.ref u || Yu u os) = true → Oc P o.op.operands.toList σ1 u)
  (hfr : ∀ σ, Sub P o.op.operands.toList σ1 σ → σ.fresh d = true → Step P o d σ (σ.new d v os)) : OO P ops o d σ1 (.new v os) :=
 ⟨hok, (fun t j v os h => by cases h), (fun h => h.elim (fun h => by rw [hp] at h; cases h) (fun h => by rw [hg] at h; cases h)), fun _ u hu hr => Ue (href u hu hr), fun σ hs hf => kB hg hd (hfr σ hs.left hf)⟩
theorem xV {c : Call} {x : Operand} (hx : x ∈ c.args.toList) : x ∈ (Op.operands (.call c)).toList := by
 obtain ⟨cal, args, ats⟩ := c
 simp only [Op.operands, Call.operands]
 cases cal <;> simp at hx ⊢ <;> simp [hx]
theorem TQ {c : Call} {σ : St} (h : Sub P (Op.operands (.call c)).toList σ1 σ) : Sub P c.args.toList σ1 σ :=
 ⟨h.len, fun x hx => h.look x (xV hx), fun x hx => h.ob x (xV hx)⟩
theorem Et (hg : o.guard = none) (hd : o.dst = some d) (hs : Step P o d σ1 σ2) : ∃ e : Eff, σ2 = e.ap d σ1 ∧ OO P ops o d σ1 e := by
 have dflt : (∃ v, YX P σ1 o.op o.type v ∧ σ2 = σ1.put d v) → (∀ σ v, YX P σ o.op o.type v → Step P o d σ (σ.put d v)) → ∃ e : Eff, σ2 = e.ap d σ1 ∧ OO P ops o d σ1 e := by
  rintro ⟨v, hv, rfl⟩ hst
  exact ⟨.put v, rfl, PZ hg hd (fun u _ hr => EH hv hr) (fun σ hsub => hst σ v (VA hv hsub))⟩
 have hs0 := hs
 unfold Step at hs
 split at hs
 ·rename_i T hop
  obtain ⟨hf, hz, row, hrow, rfl⟩ := hs
  refine ⟨.new _ _, rfl, jg hg hd (by simp [JF, hop]) hf (fun u hu hr => ?_) (fun σ hsub hf' => ?_)⟩
  ·simp only [V.ref, At.ref, Yu, UZ u _ _ _ hrow, Bool.or_false, beq_iff_eq] at hr
   exact absurd hr.symm hu
  ·unfold Step; rw [hop]; exact ⟨hf', hz, row, hrow, rfl⟩
 ·rename_i T x hop
  obtain ⟨hf, h1, h2, h3, rfl⟩ := hs
  refine ⟨.new _ _, rfl, jg hg hd (by simp [JF, hop]) hf (fun u hu hr => ?_) (fun σ hsub hf' => ?_)⟩
  ·simp only [V.ref, At.ref, Yu, Bool.or_false, Bool.or_eq_true, beq_iff_eq] at hr
   rcases hr with hr | hr
   ·exact absurd hr.symm hu
   ·exact ⟨x, by simp [hop, Op.operands], T, .inl (qU hr)⟩
  ·have e := hsub.look x (by simp [hop, Op.operands]) T
   unfold Step; rw [hop]
   simp only
   rw [← e]
   exact ⟨hf', h1, h2, h3, rfl⟩
 ·rename_i T n parts hop
  obtain ⟨hf, h1, h2, h3, h4, h5, ⟨rows, h6, rfl⟩ | ⟨rows, h6, h7, rfl⟩⟩ := hs
  ·refine ⟨.new _ _, rfl, jg hg hd (by simp [JF, hop]) hf (fun u hu hr => ?_) (fun σ hsub hf' => ?_)⟩
   ·simp only [V.ref, At.ref, Yu, Bool.or_false, beq_iff_eq] at hr
    exact absurd hr.symm hu
   ·unfold Step; rw [hop]
    refine ⟨hf', h1, h2, h3, h4, h5, .inl ⟨rows, RG ?_ h6, rfl⟩⟩
    rw [hop] at hsub
    simpa [Op.operands] using hsub
  ·refine ⟨.new _ _, rfl, jg hg hd (by simp [JF, hop]) hf (fun u hu hr => ?_) (fun σ hsub hf' => ?_)⟩
   ·simp only [V.ref, At.ref, Yu, Bool.or_false, Bool.or_eq_true, beq_iff_eq] at hr
    rcases hr with hr | hr
    ·exact absurd hr.symm hu
    ·obtain ⟨x, hx, hxr⟩ := Mh h6 hr
     exact ⟨x, by simpa [hop, Op.operands] using hx, _, .inl hxr⟩
   ·unfold Step; rw [hop]
    refine ⟨hf', h1, h2, h3, h4, h5, .inr ⟨rows, RB ?_ h6, h7, rfl⟩⟩
    rw [hop] at hsub
    simpa [Op.operands] using hsub
 ·rename_i T x y hop
  obtain ⟨rfl, hf, h1, h2, h3, q, z, zr, k, n, hq, h4, h5, h6, h7, h8, rfl⟩ := hs
  refine ⟨.new _ _, rfl, jg hg hd (by simp [JF, hop]) hf (fun u hu hr => ?_) (fun σ hsub hf' => ?_)⟩
  ·simp only [V.ref, At.ref, Yu, Bool.or_false, beq_iff_eq] at hr
   exact absurd hr.symm hu
  ·unfold Step; rw [hop]
   exact ⟨rfl, hf', h1, h2, h3, q, z, zr, k, n, hq, h4, h5, KZ hsub (by simp [hop, Op.operands]) h6, h7, h8, rfl⟩
 ·rename_i c hop
  split at hs
  ·rename_i hc
   obtain ⟨x, y, t, ha, hat, h1, h2, h3, h4, h5, olds, news, σd, h6, h7, h8, h9, h10, rfl⟩ := hs
   have hx : x ∈ o.op.operands.toList := by rw [hop]; exact xV (by rw [ha]; simp)
   have hy : y ∈ o.op.operands.toList := by rw [hop]; exact xV (by rw [ha]; simp)
   have hpure : JF o = false := by
    obtain ⟨cc, ca, ct⟩ := c
    simp only at hc; subst hc
    simp [JF, hop]
   have refs : ∀ u, u ≠ d → (V.ref u (.one (.sref d 0 0 (olds.length + news.length))) || Yu u [.arr false (P.cellsOf (ZT P t)) (olds ++ news)]) = true → Oc P o.op.operands.toList σ1 u := by
    intro u hu hr
    simp only [V.ref, At.ref, Yu, Bool.or_false, beq_iff_eq] at hr
    exact absurd hr.symm hu
   have h6' := h6
   unfold WA at h6
   split at h6
   ·rename_i s heq
    obtain ⟨rfl, rfl⟩ := h6
    refine ⟨.new _ _, rfl, jg hg hd hpure h8 refs (fun σ hsub hf' => ?_)⟩
    unfold Step; rw [hop]
    simp only [hc]
    refine ⟨x, y, t, ha, hat, ?_, ?_, h3, h4, h5, [], news, σ, ?_, j5 hsub hy h7, hf', h9, h10, rfl⟩
    ·rw [← hsub.look x hx]; exact h1
    ·rw [← hsub.look y hy]; exact h2
    ·rw [← hsub.look x hx]; unfold WA; rw [heq]; exact ⟨rfl, rfl⟩
   ·rename_i tt j lo len heq
    obtain ⟨ho, hlo, hlen, rfl⟩ := h6
    have hrx : (look P σ1 t x).ref tt = true := JW heq (by simp [At.ref])
    refine ⟨.drop tt j _ _, rfl, ⟨⟨_, _, _, ho⟩, h8⟩, ?_, (fun hh => hh.elim (fun hh => by rw [hpure] at hh; cases hh) (fun hh => by rw [hg] at hh; cases hh)), fun _ u hu hr => Ue (refs u hu hr), fun σ hsub hf' => kB hg hd ?_⟩
    ·intro t' j' v os he
     cases he
     refine ⟨?_, x, by simp only [TL, List.mem_append]; exact .inl hx, t, hrx⟩
     obtain ⟨cc, ca, ct⟩ := c
     simp only at hc ha; subst hc ha
     cases x with
     | const v => rw [Vm.look, Mj] at hrx; cases hrx
     | _ => simp [NH, hop]
    ·have hsub' := hsub.left
     unfold Step; rw [hop]
     simp only [hc]
     have heq' : unc (look P σ t x) = .one (.sref tt j lo len) := by rw [← hsub'.look x hx]; exact heq
     refine ⟨x, y, t, ha, hat, ?_, ?_, h3, h4, h5, olds, news, _, ?_, j5 hsub' hy h7, hf'.2, h9, h10, rfl⟩
     ·rw [← hsub'.look x hx]; exact h1
     ·rw [← hsub'.look y hy]; exact h2
     ·unfold WA; rw [heq']
      exact ⟨hsub'.same hx heq' (by simp [At.ref]) ho (by simp), hlo, hlen, rfl⟩
   ·exact h6.elim
  ·rename_i f hc
   have hpure : JF o = false := by
    obtain ⟨cc, ca, ct⟩ := c
    simp only at hc; subst hc
    simp [JF, hop]
   rcases hs with ⟨own, res, hcr, rfl⟩ | ⟨res, hcr, hf, rfl⟩ | ⟨rows, res, qs, ha, hsd, hq, hf, rfl⟩
   ·refine ⟨.put _, rfl, PZ hg hd (fun u _ hr => by rw [EN] at hr; cases hr) (fun σ hsub => ?_)⟩
    rw [hop] at hsub
    unfold Step; rw [hop]
    simp only [hc]
    exact .inl ⟨own, res, VX (TQ hsub) hcr, rfl⟩
   ·refine ⟨.new _ _, rfl, jg hg hd hpure hf (fun u hu hr => ?_) (fun σ hsub hf' => ?_)⟩
    ·rw [GR hu, Pe] at hr; cases hr
    ·rw [hop] at hsub
     unfold Step; rw [hop]
     simp only [hc]
     exact .inr (.inl ⟨res, VX (TQ hsub) hcr, hf', rfl⟩)
   ·refine ⟨.new _ _, rfl, jg hg hd hpure hf (fun u hu hr => ?_) (fun σ hsub hf' => ?_)⟩
    ·rw [GR hu, z3] at hr; cases hr
    ·rw [hop] at hsub
     unfold Step; rw [hop]
     simp only [hc]
     exact .inr (.inr ⟨rows, res, qs, jw (TQ hsub) ha, hsd, hq, hf', rfl⟩)
  ·rename_i h1 h2
   refine dflt hs (fun σ v hv => ?_)
   unfold Step; rw [hop]
   simp only
   exact ⟨v, by rw [hop] at hv; exact hv, rfl⟩
 ·rename_i S T x hop
  rcases hs with hs | ⟨l, h1, h2, h3, h4, rfl⟩ | ⟨s, h1, h2, h3, h4, h5, rfl⟩
  ·refine dflt hs (fun σ v hv => ?_)
   unfold Step; rw [hop]
   exact .inl ⟨v, by rw [hop] at hv; exact hv, rfl⟩
  ·refine ⟨.put _, rfl, PZ hg hd (fun u _ hr => by cases hr) (fun σ hsub => ?_)⟩
   have hx : x ∈ o.op.operands.toList := by simp [hop, Op.operands]
   unfold Step; rw [hop]
   exact .inr (.inl ⟨l, by rw [← hsub.look x hx]; exact h1, h2, h3, j5 hsub hx h4, rfl⟩)
  ·refine ⟨.put _, rfl, PZ hg hd (fun u _ hr => by cases hr) (fun σ hsub => ?_)⟩
   have hx : x ∈ o.op.operands.toList := by simp [hop, Op.operands]
   unfold Step; rw [hop]
   exact .inr (.inr ⟨s, by rw [← hsub.look x hx]; exact h1, h2, h3, by rw [← hsub.look x hx]; exact h4, h5, rfl⟩)
 ·rename_i n1 n2 n3 n4 n5 n6
  refine dflt hs (fun σ v hv => ?_)
  unfold Step
  split
  ·rename_i T hop; exact absurd hop (n1 T)
  ·rename_i T x hop; exact absurd hop (n2 T x)
  ·rename_i T n ps hop; exact absurd hop (n3 T n ps)
  ·rename_i T x y hop; exact absurd hop (n4 T x y)
  ·rename_i c hop; exact absurd hop (n5 c)
  ·rename_i S T x hop; exact absurd hop (n6 S T x)
  ·exact ⟨v, hv, rfl⟩
end
end Go.Vm
namespace Go.Vm
open Go.RowKit
theorem KH {σ : St} {d : Nat} : σ.fresh d = true ↔ d < σ.length ∧ ∀ t e, σ[t]? = some e → t ≠ d → e.1.ref d = false ∧ Yu d e.2 = false := by
 unfold St.fresh
 rw [Bool.and_eq_true, decide_eq_true_eq]
 refine and_congr_right fun _ => ⟨fun h t e he hne => zI h t e he (by omega), fun h => ?_⟩
 have : ∀ (σ : St) (k : Nat), (∀ t e, σ[t]? = some e → k + t ≠ d → e.1.ref d = false ∧ Yu d e.2 = false) → xE d k σ = true := by
  intro σ
  induction σ with
  | nil => intro k _; rfl
  | cons e σ ih =>
   intro k hk
   simp only [xE, Bool.and_eq_true, Bool.or_eq_true, beq_iff_eq, Bool.not_eq_true']
   refine ⟨?_, ih (k + 1) fun t e' he hne => hk (t + 1) e' (by simpa using he) (by omega)⟩
   by_cases h0 : k = d
   ·exact .inl h0
   ·exact .inr (hk 0 e (by simp) (by omega))
 exact this σ 0 (fun t e he hne => h t e he (by omega))
theorem Hh {σ : St} {t : Nat} {e : Ent} (h : σ[t]? = some e) (j : Nat) : σ.ob t j = Yb e.2 j := by unfold St.ob; rw [h]
theorem Oh {σ : St} {t j : Nat} {o : Ob} (h : σ.ob t j = o) (hn : o ≠ .none) : ∃ e, σ[t]? = some e ∧ Yb e.2 j = o := by
 unfold St.ob at h
 split at h
 ·rename_i e he; exact ⟨e, he, h⟩
 ·exact absurd h.symm hn
theorem O0 {u : Nat} : ∀ {os : List Ob} {j : Nat} {cells : List At}, Yb os j = .box cells → YE u cells = true → Yu u os = true
 | [], _, _, h, _ => by simp [Yb] at h
 | o :: os, 0, cells, h, hr => by
  have : o = .box cells := h
  subst this
  simp [Yu, hr]
 | o :: os, j + 1, cells, h, hr => by
  have h' : Yb os j = .box cells := by simpa [Yb] using h
  have := O0 h' hr
  cases o <;> simp [Yu, this]
theorem Kd {u s : Nat} {q : Bool} {r : List (List D)} : ∀ {os : List Ob} {j : Nat}, Yb os j = .arr q s r → Yu u (os.set j .none) = Yu u os
 | [], _, h => by simp [Yb] at h
 | o :: os, 0, h => by
  have : o = .arr q s r := h
  subst this
  simp [Yu]
 | o :: os, j + 1, h => by
  have h' : Yb os j = .arr q s r := by simpa [Yb] using h
  have := Kd (u := u) h'
  cases o <;> simp [Yu, this]
theorem Fy {σ : St} {d : Nat} (h : XV σ d = true) {e : Ent} (he : σ[d]? = some e) (u : Nat) : e.1.ref u = false ∧ Yu u e.2 = false := by
 unfold XV at h
 split at h
 ·rename_i h1; rw [he] at h1; cases h1; exact ⟨rfl, rfl⟩
 ·rename_i h1; rw [he] at h1; cases h1; exact ⟨rfl, rfl⟩
 ·cases h
section
variable {P : Program} {ops : Array Oper} {o x y : Oper} {d dx dy : Nat} {σ σ1 σ2 : St}
theorem Vv (hd : o.dst = some d) (hs : XK P ops o σ1 σ2) : ∃ e : Eff, σ2 = e.ap d σ1 ∧ OO P ops o d σ1 e := by
 unfold XK at hs
 split at hs
 ·rename_i hg
  simp only [hd] at hs
  exact Et hg hd hs
 ·rename_i j want hg
  obtain ⟨dj, d', g, v, hdj, hlt, hd', hgc, hv, rfl⟩ := hs
  rw [hd] at hd'; cases hd'
  refine ⟨.put (.cnd g v), rfl, trivial, (fun t j v os h => by cases h), fun _ => ⟨_, rfl⟩, (fun h => by rw [hg] at h; cases h), fun σ hsub _ => ?_⟩
  have hmem : Operand.tmp dj ∈ TL ops o := by simp [TL, hg, hdj]
  have hget : σ.get dj = σ1.get dj := (hsub.look _ hmem 0).symm
  unfold XK
  simp only [hg]
  refine ⟨dj, d, g, v, hdj, by rw [← hsub.len]; exact hlt, hd, by rw [hget]; exact hgc, fun hgt => ?_, rfl⟩
  have hv1 := hv hgt
  have hleft := hsub.left
  unfold SC at hv1 ⊢
  split at hv1
  ·rename_i c hop
   split at hv1
   ·rename_i f hc
    obtain ⟨own, res, hcr, rfl⟩ := hv1
    rw [hop] at hleft
    exact ⟨own, res, VX (TQ hleft) hcr, rfl⟩
   ·obtain ⟨v0, h1, h2⟩ := hv1
    exact ⟨v0, VA h1 hleft, h2⟩
  ·obtain ⟨v0, h1, h2⟩ := hv1
   exact ⟨v0, VA h1 hleft, h2⟩
theorem kK (e : Eff) : (e.ap d σ).length = σ.length := by
 cases e <;> simp [Eff.ap, St.J9, St.UX, St.QG]
theorem LZ (e : Eff) {t : Nat} (hne : t ≠ d) : (e.ap d σ).get t = σ.get t := by
 cases e with
 | put v => simp [Eff.ap, St.qW, hne]
 | new v os => simp [Eff.ap, St.Tt, hne]
 | drop a j v os => simp [Eff.ap, St.Tt, St.Q8, hne]
theorem EJ {t u : Nat} (h : (σ.get t).ref u = true) : ∃ e, σ[t]? = some e ∧ e.1.ref u = true := by
 unfold St.get at h
 split at h
 ·rename_i e he; exact ⟨e, he, h⟩
 ·cases h
end
end Go.Vm
namespace Go.Vm
open Go.RowKit
section
variable {P : Program} {ops : Array Oper} {x y : Oper} {dx dy : Nat} {σ σ1 σ2 : St}
theorem qt {d : Nat} (hf : ∀ t e, σ[t]? = some e → t ≠ d → e.1.ref d = false) {z : Operand} (hz : z ≠ .tmp d) (ty : TypeId) : (look P σ ty z).ref d = false := by
 cases z with
 | tmp t =>
  have hne : t ≠ d := fun h => hz (by rw [h])
  cases hr : (look P σ ty (.tmp t)).ref d with
  | false => rfl
  | true =>
   obtain ⟨e, he, hr'⟩ := EJ (σ := σ) (t := t) hr
   rw [hf t e he hne] at hr'; cases hr'
 | const v => exact Mj ty v d
 | global g => rfl
 | func f => rfl
theorem look_eq {d : Nat} (hg : ∀ t, t ≠ d → σ1.get t = σ.get t) {z : Operand} (hz : z ≠ .tmp d) (ty : TypeId) : look P σ1 ty z = look P σ ty z := by
 cases z with
 | tmp t => exact hg t (fun h => hz (by rw [h]))
 | const v => rfl
 | global g => rfl
 | func f => rfl
theorem kX {e : Eff} {d : Nat} (h : e.ok d σ) (hne : ∀ v, e ≠ .put v) : ∀ t en, σ[t]? = some en → t ≠ d → en.1.ref d = false := by
 intro t en he ht
 cases e with
 | put v => exact absurd rfl (hne v)
 | new v os => exact ((KH.1 h).2 t en he ht).1
 | drop a j v os =>
  have := (KH.1 h.2).2 t
  rw [zU] at this
  by_cases hta : t = a
  ·rw [if_pos hta, he] at this
   exact (this _ rfl ht).1
  ·rw [if_neg hta] at this
   exact (this en he ht).1
theorem Up {e : Eff} {d : Nat} (h : e.ok d σ) (hne : ∀ v, e ≠ .put v) : ∀ t en, σ[t]? = some en → t ≠ d → Yu d en.2 = false := by
 intro t en he ht
 cases e with
 | put v => exact absurd rfl (hne v)
 | new v os => exact ((KH.1 h).2 t en he ht).2
 | drop a j v os =>
  obtain ⟨⟨q, s, r, ho⟩, hf⟩ := h
  have := (KH.1 hf).2 t
  rw [zU] at this
  by_cases hta : t = a
  ·rw [if_pos hta, he] at this
   have h2 := (this _ rfl ht).2
   subst hta
   rw [Hh he] at ho
   rw [Kd ho] at h2
   exact h2
  ·rw [if_neg hta] at this
   exact (this en he ht).2
theorem CW {e : Eff} {d : Nat} (h : e.ok d σ) (hne : ∀ v, e ≠ .put v) : d < σ.length := by
 cases e with
 | put v => exact absurd rfl (hne v)
 | new v os => exact (KH.1 h).1
 | drop a j v os => have := (KH.1 h.2).1; rwa [St.QG] at this
theorem CY {e : Eff} {d : Nat} (h : e.ok d σ) {u j : Nat} (hu : (∀ v, e ≠ .put v) → u ≠ d) (hn : (e.ap d σ).ob u j ≠ .none) : σ.ob u j = (e.ap d σ).ob u j := by
 cases e with
 | put v => simp only [Eff.ap, St.JX]
 | new v os =>
  have := hu (by intro v h; cases h)
  simp only [Eff.ap, St.KO, this, false_and, if_false]
 | drop a k v os =>
  have hud := hu (by intro v h; cases h)
  obtain ⟨⟨q, s, r, ho⟩, _⟩ := h
  simp only [Eff.ap, St.KO, hud, false_and, if_false] at hn ⊢
  rw [St.KC σ a k _ u j (by rw [ho]; simp)] at hn ⊢
  split at hn
  ·exact absurd rfl hn
  ·rename_i hh; rw [if_neg hh]
theorem L3 {e : Eff} {d : Nat} (hnd : ∀ t j v os, e ≠ .drop t j v os) {u j : Nat} (hu : (∀ v, e ≠ .put v) → u ≠ d) : (e.ap d σ).ob u j = σ.ob u j := by
 cases e with
 | put v => simp only [Eff.ap, St.JX]
 | new v os =>
  have := hu (by intro v h; cases h)
  simp only [Eff.ap, St.KO, this, false_and, if_false]
 | drop a k v os => exact absurd rfl (hnd a k v os)
theorem Er {e : Eff} {d t : Nat} {en : Ent} (hok : e.ok d σ) (ht : t ≠ d) (he : (e.ap d σ)[t]? = some en) : ∃ en0, σ[t]? = some en0 ∧ en0.1 = en.1 ∧ ∀ u, Yu u en0.2 = Yu u en.2 := by
 cases e with
 | put v => simp only [Eff.ap, ju, if_neg ht] at he; exact ⟨en, he, rfl, fun _ => rfl⟩
 | new v os => simp only [Eff.ap, zl, if_neg ht] at he; exact ⟨en, he, rfl, fun _ => rfl⟩
 | drop a j v os =>
  simp only [Eff.ap, zl, if_neg ht, zU] at he
  split at he
  ·rename_i hta
   subst hta
   obtain ⟨⟨q, s, r, ho⟩, _⟩ := hok
   obtain ⟨e0, he0, ho0⟩ := Oh ho (by simp)
   rw [he0] at he
   simp at he
   subst he
   exact ⟨e0, he0, rfl, fun u => (Kd ho0).symm⟩
  ·exact ⟨en, he, rfl, fun _ => rfl⟩
theorem swap (hdx : x.dst = some dx) (hdy : y.dst = some dy) (hne : dx ≠ dy) (hxy : ∀ z ∈ TL ops y, z ≠ .tmp dx) (hyx : ∀ z ∈ TL ops x, z ≠ .tmp dy) (hnd : NH y = false) (hgp : y.guard = none ∨ JF x = true ∨ x.guard.isSome = true)
  (hcl : XV σ dx = true) (h1 : XK P ops x σ σ1) (h2 : XK P ops y σ1 σ2) : ∃ σ1', XK P ops y σ σ1' ∧ XK P ops x σ1' σ2 := by
 obtain ⟨ex, rfl, okx, dropx, purex, _, frx⟩ := Vv hdx h1
 obtain ⟨ey, rfl, oky, dropy, _, refy, fry⟩ := Vv hdy h2
 have hyd : ∀ t j v os, ey ≠ .drop t j v os := by
  intro t j v os h
  have := (dropy t j v os h).1
  rw [hnd] at this; cases this
 -- y looks at the same in σ as behind x
 have suby : Sub P (TL ops y) (ex.ap dx σ) σ := by
  refine ⟨kK ex, fun z hz ty => look_eq (fun t ht => LZ ex ht) (hxy z hz) ty, fun z hz ty u hr j hn => ?_⟩
  refine CY okx (fun hnp hu => ?_) hn
  subst hu
  rw [look_eq (fun t ht => LZ ex ht) (hxy z hz) ty, qt (kX okx hnp) (hxy z hz)] at hr
  cases hr
 -- y's slot is fresh in σ too
 have oky' : ey.ok dy σ := by
  cases ey with
  | put v => trivial
  | drop a j v os => exact absurd rfl (hyd a j v os)
  | new v os =>
   have hf := KH.1 oky
   refine KH.2 ⟨by rw [← kK ex (d := dx)]; exact hf.1, fun t e he ht => ?_⟩
   by_cases htx : t = dx
   ·subst htx; exact Fy hcl he dy
   ·cases ex with
    | put v' => exact hf.2 t e (by simp only [Eff.ap, ju, if_neg htx]; exact he) ht
    | new v' os' => exact hf.2 t e (by simp only [Eff.ap, zl, if_neg htx]; exact he) ht
    | drop a j v' os' =>
     obtain ⟨⟨q, s, r, ho⟩, _⟩ := okx
     by_cases hta : t = a
     ·subst hta
      have := hf.2 t (e.1, e.2.set j .none) (by simp only [Eff.ap, zl, if_neg htx, zU, if_true, he, Option.map_some]) ht
      rw [Hh he] at ho
      rw [Kd ho] at this
      exact this
     ·exact hf.2 t e (by simp only [Eff.ap, zl, if_neg htx, zU, if_neg hta]; exact he) ht
 have stepy := fry σ suby oky'
 -- x looks at the same behind y as in σ
 have subx : Sub P (TL ops x) σ (ey.ap dy σ) := by
  refine ⟨(kK ey).symm, fun z hz ty => (look_eq (fun t ht => LZ ey ht) (hyx z hz) ty).symm, fun z hz ty u hr j hn => ?_⟩
  refine L3 hyd (fun hnp hu => ?_)
  subst hu
  rw [qt (kX oky' hnp) (hyx z hz)] at hr
  cases hr
 -- what y yields does not refer to x's slot, where x makes something
 have yref : (∀ v, ex ≠ .put v) → ey.ref dx = false := by
  intro hnp
  have hg : y.guard = none := by
   rcases hgp with h | h
   ·exact h
   ·obtain ⟨v, hv⟩ := purex h; exact absurd hv (hnp v)
  cases hr : ey.ref dx with
  | false => rfl
  | true =>
   obtain ⟨z, hz, ty, hor⟩ := refy hg dx hne hr
   have hl : look P (ex.ap dx σ) ty z = look P σ ty z := look_eq (fun t ht => LZ ex ht) (hxy z hz) ty
   rw [hl] at hor
   rcases hor with hor | ⟨t', cells, ht', ho, hc⟩
   ·rw [qt (kX okx hnp) (hxy z hz)] at hor; cases hor
   ·have htx : t' ≠ dx := by
     intro h; subst h
     rw [qt (kX okx hnp) (hxy z hz)] at ht'; cases ht'
    have ho' : σ.ob t' 0 = .box cells := by rw [CY okx (fun _ => htx) (by rw [ho]; simp), ho]
    obtain ⟨en, hen, hoe⟩ := Oh ho' (by simp)
    have := Up okx hnp t' en hen htx
    rw [O0 hoe hc] at this; cases this
 have entries : (∀ v, ex ≠ .put v) → ∀ t e, (ey.ap dy σ)[t]? = some e → t ≠ dx → e.1.ref dx = false ∧ Yu dx e.2 = false := by
  intro hnp t e he ht
  have hy := yref hnp
  by_cases hty : t = dy
  ·subst hty
   cases ey with
   | put v =>
    simp only [Eff.ap, ju, if_true, Option.map_eq_some_iff] at he
    obtain ⟨e0, he0, rfl⟩ := he
    exact ⟨hy, Up okx hnp t e0 he0 ht⟩
   | new v os =>
    simp only [Eff.ap, zl, if_true, Option.map_eq_some_iff] at he
    obtain ⟨e0, he0, rfl⟩ := he
    simp only [Eff.ref, Bool.or_eq_false_iff] at hy
    exact hy
   | drop a j v os => exact absurd rfl (hyd a j v os)
  ·obtain ⟨e0, he0, h1, h2⟩ := Er oky' hty he
   rw [← h1, ← h2]
   exact ⟨kX okx hnp t e0 he0 ht, Up okx hnp t e0 he0 ht⟩
 have okx' : ex.ok dx (ey.ap dy σ) := by
  cases ex with
  | put v => trivial
  | new v os =>
   have hnp : ∀ v', Eff.new v os ≠ .put v' := by intro v' h; cases h
   exact KH.2 ⟨by rw [kK]; exact CW okx hnp, entries hnp⟩
  | drop a j v os =>
   have hnp : ∀ v', Eff.drop a j v os ≠ .put v' := by intro v' h; cases h
   obtain ⟨z, hz, ty, hr⟩ := (dropx a j v os rfl).2
   obtain ⟨q, s, r, ho⟩ := okx.1
   have ho' : (ey.ap dy σ).ob a j = .arr q s r := by rw [← ho]; exact subx.ob z hz ty a hr j (by rw [ho]; simp)
   refine ⟨⟨q, s, r, ho'⟩, KH.2 ⟨by rw [St.QG, kK]; exact CW okx hnp, fun t e he ht => ?_⟩⟩
   rw [zU] at he
   split at he
   ·rename_i hta
    subst hta
    obtain ⟨e0, he0, ho0⟩ := Oh ho' (by simp)
    rw [he0] at he; simp at he; subst he
    have := entries hnp t e0 he0 ht
    exact ⟨this.1, by rw [Kd ho0]; exact this.2⟩
   ·exact entries hnp t e he ht
 refine ⟨_, stepy, ?_⟩
 have := frx _ subx okx'
 -- both orders lead to the same state
 have heq : ex.ap dx (ey.ap dy σ) = ey.ap dy (ex.ap dx σ) := by
  apply List.ext_getElem?
  intro t
  have hnexy := hne
  cases ex with
  | put v =>
   cases ey with
   | put v' => simp only [Eff.ap, ju]; by_cases h1 : t = dx <;> by_cases h2 : t = dy <;> simp_all
   | new v' os' => simp only [Eff.ap, ju, zl]; by_cases h1 : t = dx <;> by_cases h2 : t = dy <;> simp_all
   | drop a j v' os' => exact absurd rfl (hyd a j v' os')
  | new v os =>
   cases ey with
   | put v' => simp only [Eff.ap, ju, zl]; by_cases h1 : t = dx <;> by_cases h2 : t = dy <;> simp_all
   | new v' os' => simp only [Eff.ap, zl]; by_cases h1 : t = dx <;> by_cases h2 : t = dy <;> simp_all
   | drop a j v' os' => exact absurd rfl (hyd a j v' os')
  | drop a j v os =>
   obtain ⟨z, hz, ty, hr⟩ := (dropx a j v os rfl).2
   cases ey with
   | put v' =>
    simp only [Eff.ap, ju, zl, zU]
    by_cases h1 : t = dx <;> by_cases h2 : t = dy <;> by_cases h3 : t = a <;> simp_all
    all_goals (first | (cases σ[dy]? <;> rfl) | (cases σ[t]? <;> rfl) | (cases σ[a]? <;> rfl))
   | new v' os' =>
    have hay : a ≠ dy := by
     intro h; subst h
     rw [qt (kX oky' (by intro v h; cases h)) (hyx z hz)] at hr; cases hr
    simp only [Eff.ap, zl, zU]
    by_cases h1 : t = dx <;> by_cases h2 : t = dy <;> by_cases h3 : t = a <;> simp_all
   | drop a' j' v' os' => exact absurd rfl (hyd a' j' v' os')
 rw [← heq]
 exact this
end
end Go.Vm
namespace Go.Vm
open Go.RowKit
def HF (ops : Array Oper) (bar : Oper → Bool) (x y : Oper) : Bool := !bar x && !bar y &&
 (match x.dst, y.dst with
 | some dx, some dy => dx != dy && !(TL ops y).any (kl dx) && !(TL ops x).any (kl dy) && !NH y && (y.guard.isNone || JF x || x.guard.isSome)
 | _, _ => false)
def GM (bar : Oper → Bool) (x y : Oper) : Bool := !bar x && !bar y && x.guard.isNone && y.guard.isNone &&
 (match x.dst, y.dst, y.op with
 | some dx, none, .store _ p q => (match x.op with | .move _ => true | .assign _ => true | .extract _ _ => true | _ => false) && !kl dx p && !kl dx q
 | _, _, _ => false)
def GW (bar : Oper → Bool) (x y : Oper) : Bool := !bar x && bar y && x.guard.isNone && Hz y && y.guard.isNone && y.dst.isNone &&
 (match x.dst with
 | some dx => (match x.op with | .move _ => true | .assign _ => true | .extract _ _ => true | _ => false) && TU y dx
 | none => false)
def TJ (PT : List (Nat × Nat)) (σ : St) : Prop := ∀ p ∈ PT, σ.get p.1 = .any ∨ ∃ c, σ.get p.1 = .one (.bptr p.2 c)
def ptB (PT : List (Nat × Nat)) (σ : St) : Bool := PT.all fun p => match σ.get p.1 with | .any => true | .one (.bptr b _) => b == p.2 | _ => false
def GJ (ops : Array Oper) (PT : List (Nat × Nat)) : Bool := ops.toList.all fun o => match o.dst with
 | none => true
 | some d => PT.all fun p => p.1 != d || (o.guard.isNone && (match o.op with | .fieldAddr _ (.tmp r) _ => PT.contains (r, p.2) | _ => false))
def NI (PT : List (Nat × Nat)) (b : Nat) : Op → Bool
 | .load _ (.tmp t) => PT.any fun r => r.1 == t && r.2 != b
 | .fieldAddr _ _ _ => true
 | .move _ => true
 | .assign _ => true
 | .extract _ _ => true
 | .binOp _ _ _ _ _ => true
 | .call ⟨.builtin .len, ⟨[_]⟩, ⟨[_]⟩⟩ => true
 | _ => false
def swapT (PT : List (Nat × Nat)) (bar : Oper → Bool) (x y : Oper) : Bool := !bar x && !bar y && x.guard.isNone && y.guard.isNone &&
 (match x.dst, y.dst, y.op with
 | some dx, none, .store _ (.tmp tp) q => tp != dx && !kl dx q && PT.any fun p => p.1 == tp && NI PT p.2 x.op
 | _, _, _ => false)
def Th (o : Oper) (j : Nat) : Bool := o.after.any fun e => e.on == j && Region.binds .any e
def Tk : List Oper → List Nat → List Nat
 | [], acc => acc
 | o :: rest, acc => Tk rest (acc ++ [o.after.toList.foldl (fun m e => if Region.binds .any e then m ||| (1 <<< e.on) ||| acc.getD e.on 0 else m) 0])
def Fl (ms : List Nat) (i j : Nat) : Bool := (ms.getD i 0).testBit j
inductive Pre (ops : Array Oper) : Nat → Nat → Prop
 | one {i j : Nat} {o : Oper} (ho : ops[i]? = some o) (hp : Th o j = true) : Pre ops i j
 | more {i m j : Nat} {o : Oper} (ho : ops[i]? = some o) (hp : Th o m = true) (h : Pre ops m j) : Pre ops i j
theorem Mi {ops : Array Oper} : ∀ {l : List Oper} {acc : List Nat}, (∀ k o, l[k]? = some o → ops[acc.length + k]? = some o) → (∀ i j, (acc.getD i 0).testBit j = true → Pre ops i j) → ∀ i j, Fl (Tk l acc) i j = true → Pre ops i j
 | [], acc, _, ha, i, j, h => ha i j h
 | o :: rest, acc, hl, ha, i, j, h => by
  refine Mi (l := rest) (fun k o' hk => ?_) (fun i j hij => ?_) i j h
  ·have := hl (k + 1) o' (by simpa using hk)
   rw [List.length_append, List.length_singleton, Nat.add_assoc, Nat.add_comm 1 k]; exact this
  ·rw [List.getD_eq_getElem?_getD] at hij
   rcases Nat.lt_trichotomy i acc.length with hlt | heq | hgt
   ·rw [List.getElem?_append_left hlt, ← List.getD_eq_getElem?_getD] at hij
    exact ha i j hij
   ·subst heq
    rw [List.getElem?_append_right (Nat.le_refl _)] at hij
    simp only [Nat.sub_self, List.getElem?_cons_zero, Option.getD_some] at hij
    have ho := hl 0 o (by simp)
    rw [Nat.add_zero] at ho
    have key : ∀ (es : List Edge) (m : Nat), (∀ e ∈ es, e ∈ o.after) → (∀ j, m.testBit j = true → Pre ops acc.length j) → ∀ j, (es.foldl (fun m e => if Region.binds .any e then m ||| (1 <<< e.on) ||| acc.getD e.on 0 else m) m).testBit j = true → Pre ops acc.length j := by
     intro es
     induction es with
     | nil => intro m _ hm j hj; exact hm j hj
     | cons e es ih =>
      intro m hes hm j hj
      refine ih _ (fun e' he' => hes e' (by simp [he'])) (fun j hj => ?_) j hj
      by_cases hb : Region.binds .any e = true
      ·simp only [hb, if_true] at hj
       have hp : Th o e.on = true := by
        unfold Th
        rw [← Array.any_toList]
        exact List.any_eq_true.2 ⟨e, by simpa using hes e (by simp), by simp [hb]⟩
       rw [Nat.testBit_or, Nat.testBit_or, Bool.or_eq_true, Bool.or_eq_true] at hj
       rcases hj with (hj | hj) | hj
       ·exact hm j hj
       ·rw [Nat.testBit_shiftLeft] at hj
        simp only [Bool.and_eq_true, decide_eq_true_eq] at hj
        have h1 : j - e.on = 0 := by
         have := hj.2
         rw [show (1 : Nat) = 2 ^ 0 from rfl, Nat.testBit_two_pow] at this
         have h3 : 0 = j - e.on := by simpa using this
         omega
        have : j = e.on := by omega
        subst this
        exact .one ho hp
       ·exact .more ho hp (ha e.on j hj)
      ·simp only [hb, Bool.false_eq_true, if_false] at hj; exact hm j hj
    exact key o.after.toList 0 (fun e he => by simpa using he) (fun j hj => by simp at hj) j hij
   ·rw [List.getElem?_eq_none (by simp; omega)] at hij
    simp at hij
def HN (ops : Array Oper) (i j : Nat) : Bool := Fl (Tk ops.toList []) i j
theorem ES {ops : Array Oper} {i j : Nat} (h : HN ops i j = true) : Pre ops i j :=
 Mi (l := ops.toList) (acc := []) (fun k o hk => by simpa using hk) (fun i j h => by simp at h) i j h
def Cg (ops : Array Oper) (bar : Oper → Bool) (PT : List (Nat × Nat)) (ms : List Nat) (i j : Nat) : Bool := match ops[i]?, ops[j]? with | some oi, some oj => Fl ms i j || HF ops bar oj oi || GM bar oj oi || swapT PT bar oj oi || GW bar oj oi | _, _ => false
def Cd (ops : Array Oper) (pos : Nat → Nat) (i : Nat) : Bool := match ops[i]? with | some o => o.after.all fun e => !Region.binds .any e || (decide (pos e.on < pos i) && decide (e.on < ops.size)) | none => false
def FZ (ops : Array Oper) (j : Nat) : Bool := match ops[j]? with
 | some o => (match o.dst with | some d => (List.range ops.size).all fun k => k == j || (match ops[k]? with | some q => q.dst != some d | none => true) | none => false)
 | none => false
def Ly (ops : Array Oper) (pos : Nat → Nat) (ms : List Nat) (j : Nat) : Bool := (List.range ops.size).any fun i => decide (pos j < pos i) && !Fl ms i j
def W6 (ops : Array Oper) (pos : Nat → Nat) (j : Nat) : Bool := Ly ops pos (Tk ops.toList []) j
def FU (ops : Array Oper) (pos : Nat → Nat) (bar : Oper → Bool) (PT : List (Nat × Nat)) (ms : List Nat) : Bool :=
 (List.range ops.size).all fun i => Cd ops pos i && ((List.range ops.size).all fun j => !decide (pos j < pos i) || Cg ops bar PT ms i j) && (!Ly ops pos ms i || FZ ops i)
def RI (ops : Array Oper) (pos : Nat → Nat) (bar : Oper → Bool) : Bool := FU ops pos bar [] (Tk ops.toList [])
def zK (ops : Array Oper) (pos : Nat → Nat) (σ : St) : Bool :=
 let ms := Tk ops.toList []
 (List.range ops.size).all fun j => !Ly ops pos ms j || (match (ops[j]?).bind (·.dst) with | some d => XV σ d | none => false)
theorem Mc {xs : List Operand} {d : Nat} (h : xs.any (kl d) = false) : ∀ z ∈ xs, z ≠ .tmp d := by
 intro z hz he
 subst he
 have := List.any_eq_false.1 h _ hz
 simp [kl] at this
theorem FO {ops : Array Oper} {bar : Oper → Bool} {x y : Oper} (h : HF ops bar x y = true) : bar x = false ∧ bar y = false ∧ ∃ dx dy, x.dst = some dx ∧ y.dst = some dy ∧ dx ≠ dy ∧ (∀ z ∈ TL ops y, z ≠ .tmp dx) ∧ (∀ z ∈ TL ops x, z ≠ .tmp dy) ∧ NH y = false ∧ (y.guard = none ∨ JF x = true ∨ x.guard.isSome = true) := by
 unfold HF at h
 rw [Bool.and_eq_true, Bool.and_eq_true] at h
 obtain ⟨⟨hb1, hb2⟩, h⟩ := h
 refine ⟨by simpa using hb1, by simpa using hb2, ?_⟩
 split at h
 ·rename_i dx dy h1 h2
  simp only [Bool.and_eq_true, bne_iff_ne, ne_eq, Bool.not_eq_true', Bool.or_eq_true, Option.isNone_iff_eq_none] at h
  exact ⟨dx, dy, h1, h2, h.1.1.1.1, Mc h.1.1.1.2, Mc h.1.1.2, h.1.2, or_assoc.1 h.2⟩
 ·cases h
theorem KV {P : Program} {σ : St} {t j : Nat} {o : Ob} {T : TypeId} {x : Operand} : look P (σ.YQ t j o) T x = look P σ T x := by
 cases x with
 | tmp u => simp [look, St.Q8]
 | const c => rfl
 | global g => rfl
 | func f => rfl
theorem T7 {σ : St} {d : Nat} {v : V} : ∀ (xs : List At), rowOf (σ.put d v) xs = rowOf σ xs
 | [] => rfl
 | x :: xs => by
  have : Jr (σ.put d v) x = Jr σ x := by cases x <;> simp [Jr, St.JX]
  simp only [rowOf, this, T7 xs]
theorem CG {P : Program} {ops : Array Oper} {bar : Oper → Bool} {x y : Oper} {σ σ1 σ2 : St} (h : GM bar x y = true) (hs1 : xt P ops bar x σ σ1) (hs2 : xt P ops bar y σ1 σ2) : ∃ σ1', XK P ops y σ σ1' ∧ XK P ops x σ1' σ2 := by
 unfold GM at h
 simp only [Bool.and_eq_true, Bool.not_eq_true', Option.isNone_iff_eq_none] at h
 obtain ⟨⟨⟨⟨hb1, hb2⟩, hg1⟩, hg2⟩, h⟩ := h
 have hs1 := hs1.resolve_right (fun hh => by rw [hb1] at hh; cases hh.1)
 have hs2 := hs2.resolve_right (fun hh => by rw [hb2] at hh; cases hh.1)
 split at h
 ·rename_i dx T p q hdx hdy hop
  simp only [Bool.and_eq_true, Bool.not_eq_true'] at h
  obtain ⟨⟨hv, hp⟩, hq⟩ := h
  unfold XK at hs1 hs2
  simp only [hg1, hdx] at hs1
  simp only [hg2, hdy, hop] at hs2
  have e1 : ∃ v, YX P σ x.op x.type v ∧ σ1 = σ.put dx v := by
   unfold Step at hs1
   cases hx : x.op <;> rw [hx] at hs1 hv <;> first | exact hs1 | (exact Bool.noConfusion hv)
  obtain ⟨v, hv1, rfl⟩ := e1
  have hv2 : ∀ (t j : Nat) (o : Ob), YX P (σ.YQ t j o) x.op x.type v := by
   intro t j o
   cases hx : x.op <;> rw [hx] at hv hv1 <;> first | (exact Bool.noConfusion hv) | (simp only [YX, KV] at hv1 ⊢; exact hv1)
  have hx2 : ∀ (t j : Nat) (o : Ob), XK P ops x (σ.YQ t j o) ((σ.put dx v).YQ t j o) := by
   intro t j o
   unfold XK
   simp only [hg1, hdx]
   have := hv2 t j o
   rw [xJ]
   unfold Step
   cases hx : x.op <;> rw [hx] at hv this <;> first | exact ⟨v, this, rfl⟩ | (exact Bool.noConfusion hv)
  unfold yU at hs2
  rw [QB hp, QB hq] at hs2
  obtain ⟨k1, k2, k3, k4, hs2⟩ := hs2
  split at hs2
  ·rename_i t c hl
   obtain ⟨cells, c1, c2, c3, rfl⟩ := hs2
   rw [St.JX] at c1
   refine ⟨_, ?_, hx2 _ _ _⟩
   unfold XK yU
   simp only [hg2, hdy, hop]
   refine ⟨k1, k2, k3, k4, ?_⟩
   rw [hl]
   exact ⟨cells, c1, c2, c3, rfl⟩
  ·rename_i t j i c hl
   obtain ⟨q', size, rows, ds, c1, c2, c3, c4, c5, c6, c7, rfl⟩ := hs2
   rw [St.JX] at c1
   rw [T7] at c3
   refine ⟨_, ?_, hx2 _ _ _⟩
   unfold XK yU
   simp only [hg2, hdy, hop]
   refine ⟨k1, k2, k3, k4, ?_⟩
   rw [hl]
   exact ⟨q', size, rows, ds, c1, c2, c3, c4, c5, c6, c7, rfl⟩
  ·exact hs2.elim
 ·cases h
theorem VW {P : Program} {σ : St} {T : TypeId} {t : Nat} : look P σ T (.tmp t) = σ.get t := rfl
theorem LB {P : Program} {PT : List (Nat × Nat)} {b : Nat} {o : Oper} {op : Op} {d : Nat} {σ σ' : St} (ho : o.op = op) (h : NI PT b op = true) : Step P o d σ σ' ↔ ∃ v, YX P σ op o.type v ∧ σ' = σ.put d v := by
 unfold Step
 rw [ho]
 unfold NI at h
 split at h <;> first | exact Iff.rfl | (exact Bool.noConfusion h)
theorem Cv {P : Program} {PT : List (Nat × Nat)} {b : Nat} {op : Op} {ty : TypeId} {v : V} {σ : St} {cells cs : List At} (h : NI PT b op = true) (hp : TJ PT σ) (c1 : σ.ob b 0 = .box cells) (hv : YX P σ op ty v) : YX P (σ.YQ b 0 (.box cs)) op ty v := by
 have hne : σ.ob b 0 ≠ .none := by rw [c1]; intro e; cases e
 have ho := fun u i => St.KC σ b 0 (.box cs) u i hne
 have harr : ∀ t j, (∃ q size rows, σ.ob t j = .arr q size rows) → ∃ q size rows, (σ.YQ b 0 (.box cs)).ob t j = .arr q size rows := by
  rintro t j ⟨q, size, rows, e⟩
  by_cases hh : t = b ∧ j = 0
  ·obtain ⟨rfl, rfl⟩ := hh; rw [c1] at e; cases e
  ·exact ⟨q, size, rows, by rw [ho, if_neg hh]; exact e⟩
 have hlit : ∀ t j, (∃ size rows, σ.ob t j = .lit size rows) → ∃ size rows, (σ.YQ b 0 (.box cs)).ob t j = .lit size rows := by
  rintro t j ⟨size, rows, e⟩
  by_cases hh : t = b ∧ j = 0
  ·obtain ⟨rfl, rfl⟩ := hh; rw [c1] at e; cases e
  ·exact ⟨size, rows, by rw [ho, if_neg hh]; exact e⟩
 have hbx : ∀ t, (∃ cells, σ.ob t 0 = .box cells) → ∃ cells, (σ.YQ b 0 (.box cs)).ob t 0 = .box cells := by
  rintro t ⟨ce, e⟩
  by_cases hh : t = b
  ·subst hh; exact ⟨cs, by rw [ho, if_pos ⟨rfl, rfl⟩]⟩
  ·exact ⟨ce, by rw [ho, if_neg (fun hh2 => hh hh2.1)]; exact e⟩
 unfold NI at h
 split at h
 ·rename_i T t
  simp only [List.any_eq_true, Bool.and_eq_true, beq_iff_eq, bne_iff_ne, ne_eq] at h
  obtain ⟨r, hrm, rfl, hrb⟩ := h
  simp only [YX, KV] at hv ⊢
  refine ⟨hv.1, hv.2.1, ?_⟩
  have hv := hv.2.2
  rw [VW] at hv ⊢
  rcases hp r hrm with e | ⟨c, e⟩
  ·rw [e] at hv; exact hv.elim
  ·rw [e] at hv ⊢
   obtain ⟨ce, e1, e2, e3⟩ := hv
   exact ⟨ce, by rw [ho, if_neg (fun hh => hrb hh.1)]; exact e1, e2, e3⟩
 ·simp only [YX, KV] at hv ⊢
  refine ⟨hv.1, hv.2.1, ?_⟩
  have hv := hv.2.2
  split at hv
  ·rename_i e; first | exact ⟨hbx _ hv.1, hv.2⟩ | (simp only [e]; exact ⟨hbx _ hv.1, hv.2⟩)
  ·rename_i e; first | exact ⟨harr _ _ hv.1, hv.2⟩ | (simp only [e]; exact ⟨harr _ _ hv.1, hv.2⟩)
  ·rename_i e; first | exact hv | (simp only [e]; exact hv)
  ·exact hv.elim
 ·simp only [YX, KV] at hv ⊢; exact hv
 ·simp only [YX, KV] at hv ⊢; exact hv
 ·simp only [YX, KV] at hv ⊢; exact hv
 ·simp only [YX, KV] at hv ⊢; exact hv
 ·simp only [YX, KV] at hv ⊢
  refine ⟨hv.1, ?_⟩
  have hv := hv.2
  split at hv
  ·rename_i e; first | exact hv | (simp only [e]; exact hv)
  ·rename_i e; first | exact hv | (simp only [e]; exact hv)
  ·rename_i e; first | exact hv | (simp only [e]; exact hv)
  ·rename_i e; first | exact ⟨hv.1, hv.2.1.imp (harr _ _) (hlit _ _), hv.2.2⟩ | (simp only [e]; exact ⟨hv.1, hv.2.1.imp (harr _ _) (hlit _ _), hv.2.2⟩)
  ·exact hv.elim
 ·exact Bool.noConfusion h
theorem BC {P : Program} {ops : Array Oper} {bar : Oper → Bool} {PT : List (Nat × Nat)} {x y : Oper} {σ σ1 σ2 : St} (h : swapT PT bar x y = true) (hp : TJ PT σ) (hs1 : xt P ops bar x σ σ1) (hs2 : xt P ops bar y σ1 σ2) : ∃ σ1', XK P ops y σ σ1' ∧ XK P ops x σ1' σ2 := by
 unfold swapT at h
 simp only [Bool.and_eq_true, Bool.not_eq_true', Option.isNone_iff_eq_none] at h
 obtain ⟨⟨⟨⟨hb1, hb2⟩, hg1⟩, hg2⟩, h⟩ := h
 have hs1 := hs1.resolve_right (fun hh => by rw [hb1] at hh; cases hh.1)
 have hs2 := hs2.resolve_right (fun hh => by rw [hb2] at hh; cases hh.1)
 split at h
 ·rename_i dx T tp q hdx hdy hop
  simp only [Bool.and_eq_true, Bool.not_eq_true', List.any_eq_true, beq_iff_eq, bne_iff_ne, ne_eq] at h
  obtain ⟨⟨hne, hq⟩, p, hpm, hpt, hv⟩ := h
  have hne' : kl dx (.tmp tp) = false := by simp [kl, hne]
  unfold XK at hs1 hs2
  simp only [hg1, hdx] at hs1
  simp only [hg2, hdy, hop] at hs2
  obtain ⟨v, hv1, rfl⟩ := (LB rfl hv).1 hs1
  unfold yU at hs2
  rw [QB hne', QB hq, VW] at hs2
  obtain ⟨k1, k2, k3, k4, hs2⟩ := hs2
  have hpp := hp p hpm
  rw [hpt] at hpp
  rcases hpp with hpp | ⟨c, hpp⟩
  ·rw [hpp] at hs2; exact hs2.elim
  ·rw [hpp] at hs2
   obtain ⟨cells, c1, c2, c3, rfl⟩ := hs2
   rw [St.JX] at c1
   refine ⟨σ.YQ p.2 0 (.box (place cells c (unc (look P σ T q)).cells)), ?_, ?_⟩
   ·unfold XK yU
    simp only [hg2, hdy, hop]
    rw [hpp] at k2
    refine ⟨k1, by rw [VW, hpp]; exact k2, k3, k4, ?_⟩
    rw [VW, hpp]
    exact ⟨cells, c1, c2, c3, rfl⟩
   ·unfold XK
    simp only [hg1, hdx]
    rw [xJ]
    exact (LB rfl hv).2 ⟨v, Cv hv hp c1 hv1, rfl⟩
 ·cases h
theorem WQ : ∀ (σ : St) (d : Nat), σ.put d (σ.get d) = σ
 | [], _ => rfl
 | e :: σ, 0 => by simp [St.put, St.get]
 | e :: σ, d + 1 => by have := WQ σ d; simp only [St.put, St.get, List.getElem?_cons_succ] at this ⊢; rw [this]
theorem L7 : ∀ (σ : St) (d : Nat) (v v' : V), (σ.put d v).put d v' = σ.put d v'
 | [], _, _, _ => rfl
 | e :: σ, 0, _, _ => rfl
 | e :: σ, d + 1, v, v' => by simp [St.put, L7 σ d v v']
theorem Dl {P : Program} {σ σ' : St} (h : ∀ u, σ'.get u = σ.get u) {T : TypeId} {x : Operand} : look P σ' T x = look P σ T x := by
 cases x with
 | tmp u => exact h u
 | const c => rfl
 | global g => rfl
 | func f => rfl
theorem C6 {P : Program} {ops : Array Oper} {bar : Oper → Bool} {x y : Oper} {σ σ1 σ2 : St} {d : Nat} (h : GW bar x y = true) (hdx : x.dst = some d) (hcl : XV σ d = true) (hs1 : xt P ops bar x σ σ1) (hs2 : xt P ops bar y σ1 σ2) : ∃ σ1', xt P ops bar y σ σ1' ∧ XK P ops x σ1' σ2 := by
 unfold GW at h
 simp only [hdx, Bool.and_eq_true, Bool.not_eq_true', Option.isNone_iff_eq_none] at h
 obtain ⟨⟨⟨⟨⟨⟨hb1, hb2⟩, hg1⟩, hst⟩, hg2⟩, hdy⟩, hv, hu⟩ := h
 have hs1 := hs1.resolve_right (fun hh => by rw [hb1] at hh; cases hh.1)
 unfold XK at hs1
 simp only [hg1, hdx] at hs1
 have e1 : ∃ v, YX P σ x.op x.type v ∧ σ1 = σ.put d v := by
  unfold Step at hs1
  cases hx : x.op <;> rw [hx] at hs1 hv <;> first | exact hs1 | (exact Bool.noConfusion hv)
 obtain ⟨v, hv1, rfl⟩ := e1
 have back : ∀ σ', (∀ u, σ'.get u = σ.get u) → XK P ops x σ' (σ'.put d v) := by
  intro σ' hg
  unfold XK
  simp only [hg1, hdx]
  have : YX P σ' x.op x.type v := by
   cases hx : x.op <;> rw [hx] at hv hv1 <;> first | (exact Bool.noConfusion hv) | (simp only [YX, Dl hg] at hv1 ⊢; exact hv1)
  unfold Step
  cases hx : x.op <;> rw [hx] at hv this <;> first | exact ⟨v, this, rfl⟩ | (exact Bool.noConfusion hv)
 rcases hs2 with hs2 | ⟨_, _, _, hk⟩
 · -- a plain store
  unfold Hz at hst
  split at hst
  ·rename_i T p q hop
   simp only [TU, hop, Bool.and_eq_true, Bool.not_eq_true'] at hu
   unfold XK at hs2
   simp only [hg2, hdy, hop] at hs2
   unfold yU at hs2
   rw [QB hu.1, QB hu.2] at hs2
   obtain ⟨k1, k2, k3, k4, hs2⟩ := hs2
   split at hs2
   ·rename_i t c hl
    obtain ⟨cells, c1, c2, c3, rfl⟩ := hs2
    rw [St.JX] at c1
    refine ⟨σ.YQ t 0 (.box (place cells c (unc (look P σ T q)).cells)), .inl ?_, ?_⟩
    ·unfold XK yU
     simp only [hg2, hdy, hop]
     refine ⟨k1, k2, k3, k4, ?_⟩
     rw [hl]
     exact ⟨cells, c1, c2, c3, rfl⟩
    ·rw [xJ]; exact back _ (fun u => St.Q8 _ _ _ _ _)
   ·rename_i t j i c hl
    obtain ⟨q', size, rows, ds, c1, c2, c3, c4, c5, c6, c7, rfl⟩ := hs2
    rw [St.JX] at c1
    rw [T7] at c3
    refine ⟨σ.YQ t j (.arr q' size (rows.set i (place (rows.getD i []) c ds))), .inl ?_, ?_⟩
    ·unfold XK yU
     simp only [hg2, hdy, hop]
     refine ⟨k1, k2, k3, k4, ?_⟩
     rw [hl]
     exact ⟨q', size, rows, ds, c1, c2, c3, c4, c5, c6, c7, rfl⟩
    ·rw [xJ]; exact back _ (fun u => St.Q8 _ _ _ _ _)
   ·exact hs2.elim
  ·cases hst
 ·obtain ⟨⟨hlen2, hget⟩, hall⟩ := hk hst
  rw [St.J9] at hlen2
  have hpl : Lo (σ.get d) = true := by
   rw [qf] at hcl
   unfold St.get
   rcases hcl with e | ⟨x', e⟩ <;> rw [e] <;> rfl
  have hq : ∀ l : List (Nat × V), (σ.put d v).V6 ((d, σ.get d) :: l) = σ.V6 l := fun l => by rw [St.V6, L7, WQ]
  have h0 := hall [(d, σ.get d)] (fun p hp => by cases List.mem_singleton.1 hp; exact ⟨hu, hpl⟩)
  rw [hq []] at h0
  have hlen : d < σ.length := by
   rw [qf] at hcl
   rcases hcl with e | ⟨x', e⟩ <;> exact (List.getElem?_eq_some_iff.1 e).1
  have hg' : ∀ u, (σ2.put d (σ.get d)).get u = σ.get u := fun u => by
   rw [St.qW]
   by_cases hud : u = d ∧ d < σ2.length
   ·rw [if_pos hud, hud.1]
   ·rw [if_neg hud, hget, St.qW]
    have hud2 : ¬ u = d := fun e => hud ⟨e, by rw [hlen2]; exact hlen⟩
    rw [if_neg (fun hh => hud2 hh.1)]
  refine ⟨σ2.put d (σ.get d), .inr ⟨hb2, h0.1, h0.2, fun _ => ⟨⟨by rw [St.J9]; exact hlen2, hg'⟩, fun l hl => ?_⟩⟩, ?_⟩
  ·have := hall ((d, σ.get d) :: l) (fun p hp => by
    rcases List.mem_cons.1 hp with rfl | hp
    ·exact ⟨hu, hpl⟩
    ·exact hl p hp)
   rw [hq l] at this
   exact this
  ·have := back _ hg'
   rw [L7] at this
   have e : σ2.put d v = σ2 := by
    have g1 := hget d
    rw [St.qW, if_pos ⟨rfl, hlen⟩] at g1
    rw [← g1]; exact WQ σ2 d
   rw [e] at this
   exact this
theorem C2 {PT : List (Nat × Nat)} {σ : St} (h : ptB PT σ = true) : TJ PT σ := by
 intro p hp
 have := List.all_eq_true.1 h p hp
 split at this
 ·rename_i e; exact .inl e
 ·rename_i b c e
  have hb : b = p.2 := by simpa using this
  subst hb; exact .inr ⟨c, e⟩
 ·cases this
section
variable {P : Program} {ops : Array Oper}
def FB (P : Program) (ops : Array Oper) (bar : Oper → Bool) : List Nat → St → (St → Prop) → Prop
 | [], σ, Q => Q σ
 | i :: rem, σ, Q => ∃ o σ', ops[i]? = some o ∧ xt P ops bar o σ σ' ∧ FB P ops bar rem σ' Q
theorem Pm {o : Oper} {σ σ' : St} {d : Nat} (hs : XK P ops o σ σ') (hd : o.dst ≠ some d) (h : XV σ d = true) : XV σ' d = true := by
 cases hdo : o.dst with
 | some d' =>
  have hne : d ≠ d' := fun e => hd (by rw [hdo, e])
  obtain ⟨e, rfl, _⟩ := Vv hdo hs
  cases e with
  | put v => unfold XV at *; simp only [Eff.ap, ju, if_neg hne]; exact h
  | new v os => unfold XV at *; simp only [Eff.ap, zl, if_neg hne]; exact h
  | drop a j v os =>
   have := J2 (a := a) (j := j) (o := .none) h
   unfold XV at *; simp only [Eff.ap, zl, if_neg hne]; exact this
 | none =>
  unfold XK at hs
  split at hs
  ·simp only [hdo] at hs
   split at hs
   ·unfold yU at hs
    obtain ⟨_, _, _, _, hs⟩ := hs
    split at hs
    ·obtain ⟨_, _, _, _, rfl⟩ := hs; exact J2 h
    ·obtain ⟨_, _, _, _, _, _, _, _, _, _, _, rfl⟩ := hs; exact J2 h
    ·exact hs.elim
   ·exact hs.elim
  ·obtain ⟨_, _, _, _, _, _, hd', _⟩ := hs
   rw [hdo] at hd'; cases hd'
theorem CN {PT : List (Nat × Nat)} {i : Nat} {o : Oper} {σ σ' : St} (hpc : GJ ops PT = true) (hi : ops[i]? = some o) (hs : XK P ops o σ σ') (h : TJ PT σ) : TJ PT σ' := by
 have hc := List.all_eq_true.1 hpc o (by rw [Array.mem_toList_iff]; exact Array.mem_of_getElem? hi)
 cases hdo : o.dst with
 | none =>
  have : ∃ t j ob, σ' = σ.YQ t j ob := by
   unfold XK at hs
   split at hs
   ·simp only [hdo] at hs
    split at hs
    ·unfold yU at hs
     obtain ⟨_, _, _, _, hs⟩ := hs
     split at hs
     ·obtain ⟨_, _, _, _, rfl⟩ := hs; exact ⟨_, _, _, rfl⟩
     ·obtain ⟨_, _, _, _, _, _, _, _, _, _, _, rfl⟩ := hs; exact ⟨_, _, _, rfl⟩
     ·exact hs.elim
    ·exact hs.elim
   ·obtain ⟨_, _, _, _, _, _, hd', _⟩ := hs
    rw [hdo] at hd'; cases hd'
  obtain ⟨t, j, ob, rfl⟩ := this
  intro p hp
  rw [St.Q8]; exact h p hp
 | some d =>
  intro p hp
  rw [hdo] at hc
  have hc := List.all_eq_true.1 hc p hp
  by_cases hpd : p.1 = d
  ·simp only [hpd, bne_self_eq_false, Bool.false_or, Bool.and_eq_true, Option.isNone_iff_eq_none] at hc
   obtain ⟨hg, hc⟩ := hc
   split at hc
   ·rename_i T r f hop
    have hr := h (r, p.2) (by simpa using hc)
    unfold XK at hs
    simp only [hg, hdo] at hs
    unfold Step at hs
    rw [hop] at hs
    obtain ⟨v, hv, rfl⟩ := hs
    simp only [YX] at hv
    have hv := hv.2.2
    rw [VW] at hv
    rcases hr with e | ⟨c, e⟩
    ·rw [e] at hv; exact hv.elim
    ·rw [e] at hv
     rw [St.qW, hpd]
     by_cases hl : d < σ.length
     ·rw [if_pos ⟨rfl, hl⟩]; exact .inr ⟨_, hv.2⟩
     ·rw [if_neg (fun hh => hl hh.2)]; have := h p hp; rw [hpd] at this; exact this
   ·cases hc
  ·obtain ⟨e, rfl, _⟩ := Vv hdo hs
   have hg : ∀ σ0 : St, σ0.get p.1 = σ.get p.1 → (σ0.get p.1 = .any ∨ ∃ c, σ0.get p.1 = .one (.bptr p.2 c)) := fun σ0 e => by rw [e]; exact h p hp
   cases e with
   | put v => exact hg _ (by simp only [Eff.ap]; rw [St.qW, if_neg (fun hh => hpd hh.1)])
   | new v os => exact hg _ (by simp only [Eff.ap]; rw [St.Tt, if_neg (fun hh => hpd hh.1)])
   | drop a j v os => exact hg _ (by simp only [Eff.ap]; rw [St.Tt, if_neg (fun hh => hpd hh.1), St.Q8])
def La (ops : Array Oper) (pos : Nat → Nat) (rem : List Nat) (σ : St) : Prop :=
 ∀ j ∈ rem, W6 ops pos j = true → FZ ops j = true ∧ ∃ o d, ops[j]? = some o ∧ o.dst = some d ∧ XV σ d = true
theorem CK {j k : Nat} {oj ok : Oper} {d : Nat} (h : FZ ops j = true) (hj : ops[j]? = some oj) (hd : oj.dst = some d) (hk : ops[k]? = some ok) (hne : k ≠ j) : ok.dst ≠ some d := by
 unfold FZ at h
 simp only [hj, hd] at h
 have hlt : k < ops.size := (Array.getElem?_eq_some_iff.1 hk).1
 have := List.all_eq_true.1 h k (List.mem_range.2 hlt)
 simp only [hk, Bool.or_eq_true, beq_iff_eq, bne_iff_ne, ne_eq] at this
 exact this.resolve_left hne
theorem HT {bar : Oper → Bool} {o : Oper} {σ σ' : St} {d : Nat} (hs : xt P ops bar o σ σ') (hd : o.dst ≠ some d) (h : XV σ d = true) : XV σ' d = true := by
 rcases hs with hs | hs
 ·exact Pm hs hd h
 ·exact hs.2.2.1 d hd h
theorem S9 {pos : Nat → Nat} {bar : Oper → Bool} {rem rem' : List Nat} {i : Nat} {o : Oper} {σ σ' : St} (hi : ops[i]? = some o) (hs : xt P ops bar o σ σ') (hni : i ∉ rem') (hsub : ∀ j ∈ rem', j ∈ rem) (h : La ops pos rem σ) : La ops pos rem' σ' := by
 intro j hj hl
 obtain ⟨hsole, oj, d, h1, h2, h3⟩ := h j (hsub j hj) hl
 exact ⟨hsole, oj, d, h1, h2, HT hs (CK hsole h1 h2 hi (fun e => hni (e ▸ hj))) h3⟩
theorem pull {pos : Nat → Nat} {bar : Oper → Bool} {PT : List (Nat × Nat)} (hpp : ∀ (i : Nat) (o : Oper) (σ σ' : St), ops[i]? = some o → xt P ops bar o σ σ' → TJ PT σ → TJ PT σ') {i : Nat} {post : List Nat} {Q : St → Prop} {oi : Oper} (hi : ops[i]? = some oi) : ∀ {pre : List Nat} {σ : St}, (pre ++ i :: post).Nodup → (∀ j ∈ pre, W6 ops pos j = true ∧ ∃ oj, ops[j]? = some oj ∧ (HF ops bar oj oi = true ∨ GM bar oj oi = true ∨ swapT PT bar oj oi = true ∨ GW bar oj oi = true)) → La ops pos (pre ++ i :: post) σ → TJ PT σ →
  FB P ops bar (pre ++ i :: post) σ Q → ∃ σ', xt P ops bar oi σ σ' ∧ FB P ops bar (pre ++ post) σ' Q
 | [], σ, _, _, _, _, h => by
  obtain ⟨o, σ', ho, hs, hr⟩ := h
  rw [hi] at ho; cases ho
  exact ⟨σ', hs, hr⟩
 | j :: pre, σ, hnd, hsw, hcl, hpt, h => by
  obtain ⟨oj, σ1, hj, hs1, hr⟩ := h
  have hnd' := List.nodup_cons.1 hnd
  obtain ⟨σ2, hs2, hr2⟩ := pull hpp hi (pre := pre) hnd'.2 (fun k hk => hsw k (by simp [hk])) (S9 (rem := (j :: pre) ++ i :: post) hj hs1 hnd'.1 (fun k hk => by simp only [List.cons_append, List.mem_cons]; exact .inr hk) hcl) (hpp j oj σ σ1 hj hs1 hpt) hr
  obtain ⟨hl, oj', hj', hsb⟩ := hsw j (by simp)
  rw [hj] at hj'; cases hj'
  rcases hsb with hsb | hsb | hsb | hsb
  rotate_left
  ·obtain ⟨σ1', hy, hx⟩ := CG hsb hs1 hs2
   exact ⟨σ1', .inl hy, oj, σ2, hj, .inl hx, hr2⟩
  ·obtain ⟨σ1', hy, hx⟩ := BC hsb hpt hs1 hs2
   exact ⟨σ1', .inl hy, oj, σ2, hj, .inl hx, hr2⟩
  ·obtain ⟨_, o', d', ho', hd', hc'⟩ := hcl j (by simp) hl
   rw [hj] at ho'; cases ho'
   obtain ⟨σ1', hy, hx⟩ := C6 hsb hd' hc' hs1 hs2
   exact ⟨σ1', hy, oj, σ2, hj, .inl hx, hr2⟩
  obtain ⟨hb1, hb2, dx, dy, h1, h2, h3, h4, h5, h6, h7⟩ := FO hsb
  have hs1 := hs1.resolve_right (fun hh => by rw [hb1] at hh; cases hh.1)
  have hs2 := hs2.resolve_right (fun hh => by rw [hb2] at hh; cases hh.1)
  obtain ⟨_, o', d', ho', hd', hc'⟩ := hcl j (by simp) hl
  rw [hj] at ho'; cases ho'
  rw [h1] at hd'; cases hd'
  obtain ⟨σ1', hy, hx⟩ := swap h1 h2 h3 h4 h5 h6 h7 hc' hs1 hs2
  exact ⟨σ1', .inl hy, oj, σ2, hj, .inl hx, hr2⟩
end
end Go.Vm
namespace Go.Vm
open Go.RowKit
section
variable {P : Program} {ops : Array Oper} {T0 : CS} {B : Nat → Prop}
theorem TG {listed : Array Bool} {j : Nat} (h1 : listed.getD j true = false) (h2 : listed.getD j false = true) : False := by
 rw [Array.getD_eq_getD_getElem?] at h1 h2
 cases h : listed[j]? with
 | none => rw [h] at h1; simp at h1
 | some b => rw [h] at h1 h2; simp at h1 h2; rw [h1] at h2; cases h2
theorem Mw {pos : Nat → Nat} {bar : Oper → Bool} {PT : List (Nat × Nat)} (hpp : ∀ (i : Nat) (o : Oper) (σ σ' : St), ops[i]? = some o → xt P ops bar o σ σ' → TJ PT σ → TJ PT σ') (hdr : FU ops pos bar PT (Tk ops.toList []) = true) {Qa : St → Prop} {Q : Exit → Act → World → Prop} {w0 : World} (hK : ∀ σ a w, Qa σ → JV T0 B σ a w → Y8 B w0 w → Q .normal a w) :
  ∀ (fuel : Nat) (rem : List Nat) (listed : Array Bool) (σ : St) (a : Act) (w : World), rem.length = fuel → listed.size = ops.size → rem.Pairwise (fun i j => pos i < pos j) → (∀ i, i ∈ rem ↔ listed.getD i true = false) → (∀ i ∈ rem, i < ops.size) → (∀ m om, ops[m]? = some om → m ∉ rem → ∀ j, Th om j = true → j ∉ rem) →
   La ops pos rem σ → TJ PT σ → FB P ops bar rem σ Qa → JV T0 B σ a w → Y8 B w0 w → wpAny P .any ops Q fuel listed a w := by
 have hall := List.all_eq_true.1 hdr
 have first : ∀ (rem : List Nat) (listed : Array Bool), listed.size = ops.size → rem.Pairwise (fun i j => pos i < pos j) → (∀ i, i ∈ rem ↔ listed.getD i true = false) → (∀ i ∈ rem, i < ops.size) → Region.ready .any ops listed = [] → rem = [] := by
  intro rem listed hsz hso hmem hlt hre
  cases rem with
  | nil => rfl
  | cons i rem =>
   exfalso
   have hi := hlt i (by simp)
   have hb := hall i (List.mem_range.2 hi)
   simp only [Bool.and_eq_true] at hb
   have hback := hb.1.1
   unfold Cd at hback
   rw [Array.getElem?_eq_getElem hi] at hback
   simp only [Array.all_eq_true_iff_forall_mem, decide_eq_true_eq, Bool.and_eq_true, Bool.or_eq_true, Bool.not_eq_true'] at hback
   have : i ∈ Region.ready .any ops listed := by
    refine mem_ready.2 ⟨(hmem i).1 (by simp), ops[i], Array.getElem?_eq_getElem hi, fun e he hbi => ?_⟩
    have hback' := (hback e he).resolve_left (by rw [hbi]; simp)
    have hlt' := hback'.1
    have hlt2 := hback'.2
    have hnot : e.on ∉ i :: rem := by
     intro hm
     rcases List.mem_cons.1 hm with h | h
     ·rw [h] at hlt'; omega
     ·have := (List.pairwise_cons.1 hso).1 _ h; omega
    have hne : listed.getD e.on true ≠ false := fun h => hnot ((hmem _).2 h)
    have hin : e.on < listed.size := by rw [hsz]; omega
    rw [Array.getD_eq_getD_getElem?, Array.getElem?_eq_getElem hin] at hne ⊢
    simpa using hne
   rw [hre] at this; cases this
 intro fuel
 induction fuel with
 | zero =>
  intro rem listed σ a w hl hsz hso hmem hlt hdn hcl hpt hrun hrel hb
  have hnil : rem = [] := List.eq_nil_of_length_eq_zero hl
  subst hnil
  refine ⟨?_, hK σ a w hrun hrel hb⟩
  cases hre : Region.ready .any ops listed with
  | nil => rfl
  | cons i l =>
   have hi : i ∈ Region.ready .any ops listed := by rw [hre]; simp
   have := (hmem i).2 (mem_ready.1 hi).1
   cases this
 | succ fuel ih =>
  intro rem listed σ a w hl hsz hso hmem hlt hdn hcl hpt hrun hrel hb
  refine ⟨fun hre => ?_, fun i hi => ?_⟩
  ·have := first rem listed hsz hso hmem hlt hre
   subst this; simp at hl
  ·obtain ⟨h0, oi, hoi, hafter⟩ := mem_ready.1 hi
   obtain ⟨pre, post, rfl⟩ := List.append_of_mem ((hmem i).2 h0)
   have hnd : (pre ++ i :: post).Nodup := hso.imp (fun h e => by rw [e] at h; omega)
   have hpre : ∀ j ∈ pre, pos j < pos i := fun j hj => (List.pairwise_append.1 hso).2.2 j hj i (by simp)
   have hisz : i < ops.size := hlt i (by simp)
   have hdone : ∀ e ∈ oi.after, Region.binds .any e = true → e.on ∉ pre ++ i :: post := by
    intro e he hbi hm
    exact TG ((hmem e.on).1 hm) (hafter e he hbi)
   have hnp0 : ∀ j, j ∈ pre ++ i :: post → Th oi j = false := by
    intro j hj
    cases hp : Th oi j with
    | false => rfl
    | true =>
     unfold Th at hp
     rw [← Array.any_toList] at hp
     obtain ⟨e, he, hb2⟩ := List.any_eq_true.1 hp
     rw [Array.mem_toList_iff] at he
     simp only [Bool.and_eq_true, beq_iff_eq] at hb2
     exact (TG ((hmem j).1 hj) (by rw [← hb2.1]; exact hafter e he hb2.2)).elim
   have hpd : ∀ m j, Pre ops m j → (∀ om, ops[m]? = some om → ∀ k, Th om k = true → k ∉ pre ++ i :: post) → j ∉ pre ++ i :: post := by
    intro m j hp
    induction hp with
    | one ho hp => intro h; exact h _ ho _ hp
    | more ho hp _ ih =>
     intro h
     exact ih (fun om hom k hk => hdn _ om hom (h _ ho _ hp) k hk)
   have hnp : ∀ j ∈ pre, HN ops i j = false := by
    intro j hj
    have hjr : j ∈ pre ++ i :: post := by simp [hj]
    cases hq : HN ops i j with
    | false => rfl
    | true =>
     refine absurd hjr (hpd i j (ES hq) (fun om hom k hk hkr => ?_))
     rw [hoi] at hom; cases hom
     have := hnp0 k hkr
     rw [hk] at this; cases this
   have hsw : ∀ j ∈ pre, W6 ops pos j = true ∧ ∃ oj, ops[j]? = some oj ∧ (HF ops bar oj oi = true ∨ GM bar oj oi = true ∨ swapT PT bar oj oi = true ∨ GW bar oj oi = true) := by
    intro j hj
    have hji := hpre j hj
    have hjsz : j < ops.size := hlt j (by simp [hj])
    refine ⟨?_, ops[j], Array.getElem?_eq_getElem hjsz, ?_⟩
    ·unfold W6 Ly
     refine List.any_eq_true.2 ⟨i, List.mem_range.2 hisz, ?_⟩
     have := hnp j hj
     unfold HN at this
     simp only [this, Bool.not_false, Bool.and_true, decide_eq_true_eq]; exact hji
    ·have := hall i (List.mem_range.2 hisz)
     simp only [Bool.and_eq_true] at this
     have hp := List.all_eq_true.1 this.1.2 j (List.mem_range.2 hjsz)
     simp only [hji, decide_true, Bool.not_true, Bool.false_or] at hp
     unfold Cg at hp
     rw [hoi, Array.getElem?_eq_getElem hjsz] at hp
     have := hnp j hj
     unfold HN at this
     simpa [this, or_assoc] using hp
   obtain ⟨σ', hs, hr⟩ := pull hpp hoi hnd hsw hcl hpt hrun
   have hni : i ∉ pre ++ post := by
    have := List.nodup_append.1 hnd
    intro hm
    rcases List.mem_append.1 hm with h | h
    ·exact Nat.lt_irrefl _ (hpre i h)
    ·exact (List.nodup_cons.1 this.2.1).1 h
   have hsubm : ∀ j ∈ pre ++ post, j ∈ pre ++ i :: post := by
    intro j hj
    rcases List.mem_append.1 hj with h | h
    ·simp [h]
    ·simp [h]
   have key : ∀ a' w', JV T0 B σ' a' w' → Y8 B w w' → wpAny P .any ops Q fuel (listed.setIfInBounds i true) a' w' := by
    intro a' w' hrel' hb'
    refine ih (pre ++ post) _ σ' a' w' (by simp at hl ⊢; omega) (by simp [hsz]) ?_ (fun j => ?_) (fun j hj => hlt j (hsubm j hj)) ?_ (S9 hoi hs hni hsubm hcl) (hpp i oi σ σ' hoi hs hpt) hr hrel' (hb.trans hb')
    ·exact hso.sublist (List.Sublist.append (List.Sublist.refl pre) (List.sublist_cons_self i post))
    ·by_cases hij : i = j
     ·subst hij
      constructor
      ·intro hm; exact absurd hm hni
      ·intro hm
       rw [Array.getD_eq_getD_getElem?] at hm
       simp [hsz, hisz] at hm
     ·rw [getD_set_ne true hij, ← hmem j]
      simp only [List.mem_append, List.mem_cons]
      constructor
      ·rintro (h | h)
       ·exact .inl h
       ·exact .inr (.inr h)
      ·rintro (h | h | h)
       ·exact .inl h
       ·exact absurd h.symm hij
       ·exact .inr h
    ·intro m om hom hm j hpj hj
     by_cases hmi : m = i
     ·subst hmi
      rw [hoi] at hom; cases hom
      have := hnp0 j (hsubm j hj)
      rw [hpj] at this; cases this
     ·have hmr : m ∉ pre ++ i :: post := by
       intro h
       rcases List.mem_append.1 h with h | h
       ·exact hm (by simp [h])
       ·rcases List.mem_cons.1 h with h | h
        ·exact hmi h
        ·exact hm (by simp [h])
      exact hdn m om hom hmr j hpj (hsubm j hj)
   have hst := Ws hs T0 B a w (wpAny P .any ops Q fuel (listed.setIfInBounds i true)) Q hrel key
   unfold wpOp
   simp only [hoi]
   split
   ·rename_i hw; rw [if_pos hw] at hst; exact .inl hst
   ·rename_i hw; rw [if_neg hw] at hst; exact hst
theorem LC {σ : St} {a : Act} {w : World} (h : JV T0 B σ a w) : JV T0 B σ a { w with drawn := w.drawn + 1 } := by
 obtain ⟨X, hh, r⟩ := h
 exact ⟨X, hh, r.grow (w' := { w with drawn := w.drawn + 1 }) ⟨rfl, rfl, rfl, Nat.le_refl _, fun _ _ _ => rfl⟩ (fun _ hb => hb) (fun _ hb => .inl hb)⟩
theorem FQ {bar : Oper → Bool} {Q : St → Prop} : ∀ {n k : Nat} {σ : St}, k + n = ops.size → Il P ops bar (ops.toList.drop k) σ Q → FB P ops bar (List.range' k n) σ Q
 | 0, k, σ, hk, h => by
  rw [List.drop_eq_nil_of_le (by simp; omega)] at h
  exact h
 | n + 1, k, σ, hk, h => by
  have hlt : k < ops.toList.length := by simp; omega
  rw [List.drop_eq_getElem_cons hlt] at h
  obtain ⟨σ', hs, hr⟩ := h
  rw [List.range'_succ]
  exact ⟨ops.toList[k], σ', by rw [← Array.getElem?_toList]; exact List.getElem?_eq_getElem hlt, hs, FQ (by omega) hr⟩
theorem Mb {bar : Oper → Bool} {PT : List (Nat × Nat)} {id : Nat} {Q : Exit → St → Prop} {σ : St} (hpp : ∀ (i : Nat) (o : Oper) (σ σ' : St), ops[i]? = some o → xt P ops bar o σ σ' → TJ PT σ → TJ PT σ') (hpt : TJ PT σ) (hm : P.follows .mixedOrders = true) (hdr : FU ops (fun i => i) bar PT (Tk ops.toList []) = true) (hcl : zK ops (fun i => i) σ = true) (h : Il P ops bar ops.toList σ (Q .normal)) : AWP P (.region id ops true) Q σ := by
 intro T0 B a w hrel
 refine wp_region_any hm ?_
 have hall := List.all_eq_true.1 hdr
 refine Mw (T0 := T0) (B := B) (w0 := w) hpp hdr (Qa := Q .normal) (fun σ' a' w' hq hr hb => ⟨σ', hq, hr, hb⟩) ops.size (List.range' 0 ops.size) _ σ a _ (by simp) (by simp) ?_ (fun i => ?_) (fun i hi => by simp [List.mem_range'] at hi; omega) (fun m om hom hm => absurd (by simp only [List.mem_range'_1]; have := (Array.getElem?_eq_some_iff.1 hom).1; omega) hm) ?_ hpt (FQ (by omega) (by simpa using h)) (LC hrel) ⟨rfl, rfl, rfl, Nat.le_refl _, fun _ _ => rfl⟩
 ·exact List.pairwise_lt_range'
 ·rw [Array.getD_eq_getD_getElem?, Array.getElem?_replicate]
  simp only [List.mem_range'_1]
  constructor
  ·intro hh; rw [if_pos (by omega)]; rfl
  ·intro hh
   split at hh
   ·omega
   ·cases hh
 ·intro j hj hl
  simp only [List.mem_range'_1] at hj
  have hb := hall j (List.mem_range.2 (by omega))
  simp only [Bool.and_eq_true, Bool.or_eq_true, Bool.not_eq_true'] at hb
  refine ⟨hb.2.resolve_left (by unfold W6 at hl; rw [hl]; simp), ?_⟩
  have hc := List.all_eq_true.1 hcl j (List.mem_range.2 (by omega))
  unfold W6 at hl
  simp only [hl, Bool.not_true, Bool.false_or] at hc
  have hlt : j < ops.size := by omega
  rw [Array.getElem?_eq_getElem hlt] at hc
  simp only [Option.bind_some] at hc
  cases hd : ops[j].dst with
  | none => rw [hd] at hc; cases hc
  | some d => rw [hd] at hc; exact ⟨_, d, Array.getElem?_eq_getElem hlt, hd, hc⟩
theorem Hb {bar : Oper → Bool} {id : Nat} {Q : Exit → St → Prop} {σ : St} (hm : P.follows .mixedOrders = true) (hdr : RI ops (fun i => i) bar = true) (hcl : zK ops (fun i => i) σ = true) (h : Il P ops bar ops.toList σ (Q .normal)) : AWP P (.region id ops true) Q σ :=
 Mb (PT := []) (fun _ _ _ _ _ _ _ p hp => by cases hp) (fun p hp => by cases hp) hm hdr hcl h
theorem Bs {id : Nat} {σ : St} {l : List Oper} {br : Oper → Bool} {k : Fr} (PT : List (Nat × Nat)) (hm : P.follows .mixedOrders = true) (hdr : FU ⟨l⟩ (fun i => i) (fun _ => false) PT (Tk l []) = true) (hcl : zK ⟨l⟩ (fun i => i) σ = true) (hpc : GJ ⟨l⟩ PT = true) (hp : ptB PT σ = true) (h : @EI P σ ⟨⟨l⟩, fun _ => false⟩ ⟨l⟩ k) : @DI P id σ ⟨⟨l⟩, br⟩ k :=
 Mb (bar := fun _ => false) (PT := PT) (fun _ _ _ _ hi hs hq => CN hpc hi (hs.resolve_right (fun hh => by cases hh.1)) hq) (C2 hp) hm hdr hcl (Qf h)
theorem E0 {id : Nat} {σ : St} {l : List Oper} {br : Oper → Bool} {k : Fr} (hm : P.follows .mixedOrders = true) (hdr : RI ⟨l⟩ (fun i => i) (fun _ => false) = true) (hcl : zK ⟨l⟩ (fun i => i) σ = true) (h : @EI P σ ⟨⟨l⟩, fun _ => false⟩ ⟨l⟩ k) : @DI P id σ ⟨⟨l⟩, br⟩ k :=
 Hb hm hdr hcl (Qf h)
def CZ (bs : List Nat) (o : Oper) : Bool := match o.dst with | some d => bs.contains d | none => true
theorem LA {id : Nat} {σ : St} {l : List Oper} {br : Oper → Bool} {k : Fr} (bs : List Nat) (hm : P.follows .mixedOrders = true) (hdr : Vm.RI ⟨l⟩ (fun i => i) (CZ bs) = true) (hcl : zK ⟨l⟩ (fun i => i) σ = true) (h : @EI P σ ⟨⟨l⟩, CZ bs⟩ ⟨l⟩ k) : @DI P id σ ⟨⟨l⟩, br⟩ k :=
 Hb hm hdr hcl (Qf h)
def pwB (pos : Nat → Nat) : List Nat → Bool
 | [] => true
 | i :: r => r.all (fun j => decide (pos i < pos j)) && pwB pos r
theorem Dm {pos : Nat → Nat} : ∀ {l : List Nat}, pwB pos l = true → l.Pairwise (fun i j => pos i < pos j)
 | [], _ => .nil
 | i :: r, h => by
  simp only [pwB, Bool.and_eq_true, List.all_eq_true, decide_eq_true_eq] at h
  exact .cons h.1 (Dm h.2)
def posOf : List Nat → Nat → Nat
 | [], _ => 0
 | i :: r, k => if i == k then 0 else posOf r k + 1
def Dx (n : Nat) (ord : List Nat) : Bool := ord.length == n && pwB (posOf ord) ord && ord.all (fun i => decide (i < n)) && (List.range n).all (fun i => ord.contains i)
@[reducible] def Cs : List Oper → Nat → Oper → Oper
 | [], _, d => d
 | o :: _, 0, _ => o
 | _ :: l, i + 1, d => Cs l i d
@[reducible] def E4 (l : List Oper) (d : Oper) : List Nat → List Oper
 | [] => []
 | i :: r => Cs l i d :: E4 l d r
theorem HV {d : Oper} : ∀ {l : List Oper} {i : Nat}, i < l.length → l[i]? = some (Cs l i d)
 | [], i, h => by simp at h
 | o :: l, 0, _ => rfl
 | o :: l, i + 1, h => by simpa using HV (l := l) (i := i) (by simpa using h)
theorem Mt {bar : Oper → Bool} {Q : St → Prop} {l : List Oper} {d : Oper} : ∀ {ord : List Nat} {σ : St}, (∀ i ∈ ord, i < l.length) → Il P l.toArray bar (E4 l d ord) σ Q → FB P l.toArray bar ord σ Q
 | [], σ, _, h => h
 | i :: r, σ, hi, h => by
  obtain ⟨σ', hs, hr⟩ := h
  exact ⟨_, σ', by rw [List.getElem?_toArray]; exact HV (hi i (by simp)), hs, Mt (fun j hj => hi j (by simp [hj])) hr⟩
theorem EC {bar : Oper → Bool} {id : Nat} {Q : Exit → St → Prop} {σ : St} {ord : List Nat} (hm : P.follows .mixedOrders = true) (ho : Dx ops.size ord = true) (hdr : RI ops (posOf ord) bar = true) (hcl : zK ops (posOf ord) σ = true) (h : FB P ops bar ord σ (Q .normal)) : AWP P (.region id ops true) Q σ := by
 intro T0 B a w hrel
 refine wp_region_any hm ?_
 have hall := List.all_eq_true.1 hdr
 simp only [Dx, Bool.and_eq_true, beq_iff_eq, List.all_eq_true, decide_eq_true_eq, List.mem_range, List.contains_iff_mem] at ho
 obtain ⟨⟨⟨o1, o2⟩, o3⟩, o4⟩ := ho
 refine Mw (T0 := T0) (B := B) (w0 := w) (PT := []) (fun _ _ _ _ _ _ _ p hp => by cases hp) hdr (Qa := Q .normal) (fun σ' a' w' hq hr hb => ⟨σ', hq, hr, hb⟩) ops.size ord _ σ a _ o1 (by simp) (Dm o2) (fun i => ?_) o3 (fun m om hom hm => absurd (o4 m (Array.getElem?_eq_some_iff.1 hom).1) hm) ?_ (fun p hp => by cases hp) h (LC hrel) ⟨rfl, rfl, rfl, Nat.le_refl _, fun _ _ => rfl⟩
 ·rw [Array.getD_eq_getD_getElem?, Array.getElem?_replicate]
  constructor
  ·intro hh; rw [if_pos (o3 i hh)]; rfl
  ·intro hh
   split at hh
   ·rename_i hlt; exact o4 i hlt
   ·cases hh
 ·intro j hj hl
  have hjs := o3 j hj
  have hb := hall j (List.mem_range.2 hjs)
  simp only [Bool.and_eq_true, Bool.or_eq_true, Bool.not_eq_true'] at hb
  refine ⟨hb.2.resolve_left (by unfold W6 at hl; rw [hl]; simp), ?_⟩
  have hc := List.all_eq_true.1 hcl j (List.mem_range.2 hjs)
  unfold W6 at hl
  simp only [hl, Bool.not_true, Bool.false_or] at hc
  rw [Array.getElem?_eq_getElem hjs] at hc
  simp only [Option.bind_some] at hc
  cases hd : ops[j].dst with
  | none => rw [hd] at hc; cases hc
  | some d => rw [hd] at hc; exact ⟨_, d, Array.getElem?_eq_getElem hjs, hd, hc⟩
theorem NL {id : Nat} {σ : St} {o : Oper} {l : List Oper} {br : Oper → Bool} {k : Fr} (ord : List Nat) (hm : P.follows .mixedOrders = true) (ho : Dx (o :: l).length ord = true) (hdr : RI ⟨o :: l⟩ (posOf ord) (fun _ => false) = true) (hcl : zK ⟨o :: l⟩ (posOf ord) σ = true)
  (h : @EI P σ ⟨⟨o :: l⟩, fun _ => false⟩ ⟨E4 (o :: l) o ord⟩ k) : @DI P id σ ⟨⟨o :: l⟩, br⟩ k := by
 have h2 : ∀ i ∈ ord, i < (o :: l).length := by
  simp only [Dx, Bool.and_eq_true, List.all_eq_true, decide_eq_true_eq] at ho
  exact ho.1.2
 exact EC hm ho hdr hcl (Mt h2 (Qf h))
end
end Go.Vm
