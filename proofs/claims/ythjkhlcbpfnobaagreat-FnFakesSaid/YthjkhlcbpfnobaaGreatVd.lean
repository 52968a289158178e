/- An abstract machine Oe the model of Go, by value, and that it is sound: part Vd. No condition. -/
import Derived.Test.YthjkhlcbpfnobaaGreatVc
import Derived.Orders
set_option linter.unusedVariables false
set_option linter.unusedSimpArgs false
namespace Go.Vm
open Go.RowKit
structure Sub (P : Program) (xs : List Operand) (σ1 σ : St) : Prop where
 len : σ1.length = σ.length
 look : ∀ x ∈ xs, ∀ ty, look P σ1 ty x = look P σ ty x
 ob : ∀ x ∈ xs, ∀ ty u, (Vm.look P σ1 ty x).ref u = true -> ∀ j, σ1.ob u j ≠ .none -> σ.ob u j = σ1.ob u j
theorem QG {v : V} {x : At} {u : Nat} (h : unc v = .one x) (hx : x.ref u = true) : v.ref u = true := by
 cases v with
 | cnd g y => simp only [unc] at h; subst h; simp only [V.ref, V.NI, Bool.or_eq_true]; exact .inl hx
 | one y => simp only [unc] at h; cases h; exact hx
 | any => simp [unc] at h
 | agg xs => simp [unc] at h
 | tup xs => simp [unc] at h
 | fix g y => simp only [unc] at h; subst h; simp only [V.ref, V.NI, Bool.or_eq_true]; exact .inl hx
theorem Pe {v : V} {xs : List At} {u : Nat} (h : unc v = .agg xs) (hx : YU u xs = true) : v.ref u = true := by
 cases v with
 | cnd g y => simp only [unc] at h; subst h; simp only [V.ref, V.NI, Bool.or_eq_true]; exact .inl hx
 | agg y => simp only [unc] at h; cases h; exact hx
 | any => simp [unc] at h
 | one xs => simp [unc] at h
 | tup xs => simp [unc] at h
 | fix g y => simp only [unc] at h; subst h; simp only [V.ref, V.NI, Bool.or_eq_true]; exact .inl hx
theorem Wh {v : V} {u : Nat} (hx : YU u (unc v).cells = true) : v.ref u = true := by
 cases h : unc v with
 | one x => rw [h] at hx; simp [V.cells, YU] at hx; exact QG h hx
 | agg xs => rw [h] at hx; exact Pe h hx
 | any => rw [h] at hx; simp [V.cells, YU] at hx
 | tup xs => rw [h] at hx; simp [V.cells, YU] at hx
 | cnd g x => rw [h] at hx; simp [V.cells, YU] at hx
 | fix u x => rw [h] at hx; simp [V.cells, YU] at hx
section
variable {P : Program} {σ1 σ : St}
theorem Sub.same {xs : List Operand} {x : Operand} {ty : TypeId} {a : At} {u j : Nat} {o : Ob} (h : Sub P xs σ1 σ) (hx : x ∈ xs) (hv : unc (Vm.look P σ ty x) = .one a) (ha : a.ref u = true) (ho : σ1.ob u j = o) (hn : o ≠ .none) : σ.ob u j = o := by
 rw [<- ho]
 refine h.ob x hx ty u ?_ j (by rw [ho]; exact hn)
 rw [h.look x hx ty]
 exact QG hv ha
theorem xb {xs : List Operand} {x : Operand} {k : IntKind} {n : Int} (h : Sub P xs σ1 σ) (hx : x ∈ xs) (hl : VE P σ1 x k n) : VE P σ x k n := by
 unfold VE at *
 rw [<- h.look x hx]; exact hl
theorem Fb {xs : List Operand} {df n : Nat} {x : Option Operand} (h : Sub P xs σ1 σ) (hx : ∀ y, x = some y -> y ∈ xs) (hl : bnd P σ1 df x n) : bnd P σ df x n := by
 cases x with
 | none => exact hl
 | some x =>
  simp only [bnd] at *
  rw [<- h.look x (hx x rfl)]; exact hl
theorem Oo {T : TypeId} : ∀ {ps : List (Nat × Operand)} {z out : List At}, Sub P (ps.map (·.2)) σ1 σ -> Uf P σ1 T ps z out -> Uf P σ T ps z out
 | [], _, _, _, h => h
 | (i, x) :: ps, z, out, hs, h => by
  have e := hs.look x (by simp)
  simp only [Uf] at h ⊢
  rw [<- e]
  refine ⟨h.1, h.2.1, h.2.2.1, h.2.2.2.1, h.2.2.2.2.1, Oo ⟨hs.len, fun y hy => hs.look y (by simp at hy ⊢; exact .inr hy), fun y hy => hs.ob y (by simp at hy ⊢; exact .inr hy)⟩ h.2.2.2.2.2⟩
theorem ks {op : Op} {ty : TypeId} {v : V} (hs : Yc P σ1 op ty v) (h : Sub P op.operands.toList σ1 σ) : Yc P σ op ty v := by
 cases op <;> simp only [Yc] at hs ⊢
 case move x => rw [<- h.look x (by simp [Op.operands])]; exact hs
 case assign x => rw [<- h.look x (by simp [Op.operands])]; exact hs
 case pick c a b =>
  rw [<- h.look c (by simp [Op.operands]), <- h.look a (by simp [Op.operands]), <- h.look b (by simp [Op.operands])]; exact hs
 case load T x =>
  rw [h.look x (by simp [Op.operands])] at hs
  refine ⟨hs.1, hs.2.1, ?_⟩
  have pc := hs.2.2
  split at pc
  ·rename_i t c hx
   obtain ⟨cells, ho, hr⟩ := pc
   exact ⟨cells, h.same (by simp [Op.operands]) hx (by simp [At.ref]) ho (by simp), hr⟩
  ·rename_i t j i c hx
   obtain ⟨q, size, rows, ho, hr⟩ := pc
   exact ⟨q, size, rows, h.same (by simp [Op.operands]) hx (by simp [At.ref]) ho (by simp), hr⟩
  ·exact pc
  ·rename_i t j i c k hx
   obtain ⟨size, rows, s, ho, hr⟩ := pc
   exact ⟨size, rows, s, h.same (by simp [Op.operands]) hx (by simp [At.ref]) ho (by simp), hr⟩
  ·exact pc.elim
 case nilCheck x =>
  rw [h.look x (by simp [Op.operands])] at hs
  refine ⟨hs.1, ?_⟩
  have pc := hs.2
  split at pc
  ·rename_i t c hx
   obtain ⟨⟨cells, ho⟩, hr⟩ := pc
   exact ⟨⟨cells, h.same (by simp [Op.operands]) hx (by simp [At.ref]) ho (by simp)⟩, hr⟩
  ·exact pc.elim
 case fieldAddr T x f =>
  rw [h.look x (by simp [Op.operands])] at hs
  refine ⟨hs.1, hs.2.1, ?_⟩
  have pc := hs.2.2
  split at pc
  ·rename_i t c hx
   obtain ⟨⟨cells, ho⟩, hr⟩ := pc
   exact ⟨⟨cells, h.same (by simp [Op.operands]) hx (by simp [At.ref]) ho (by simp)⟩, hr⟩
  ·rename_i t j i c hx
   obtain ⟨⟨q, size, rows, ho⟩, hr⟩ := pc
   exact ⟨⟨q, size, rows, h.same (by simp [Op.operands]) hx (by simp [At.ref]) ho (by simp)⟩, hr⟩
  ·exact pc
  ·rename_i t j i c k hx
   obtain ⟨⟨size, rows, ho⟩, hr⟩ := pc
   exact ⟨⟨size, rows, h.same (by simp [Op.operands]) hx (by simp [At.ref]) ho (by simp)⟩, hr⟩
  ·exact pc.elim
 case indexAddr T x ix =>
  obtain ⟨k, i, hk, h0, hg, pc⟩ := hs
  rw [h.look x (by simp [Op.operands])] at hg pc
  refine ⟨k, i, xb h (by simp [Op.operands]) hk, h0, hg, ?_⟩
  split at pc
  ·exact pc
  ·rename_i t j lo len hx
   obtain ⟨h1, h2, ⟨q, rows, ho⟩, hr⟩ := pc
   exact ⟨h1, h2, ⟨q, rows, h.same (by simp [Op.operands]) hx (by simp [At.ref]) ho (by simp)⟩, hr⟩
  ·rename_i t c hx
   obtain ⟨⟨cells, ho⟩, hr⟩ := pc
   exact ⟨⟨cells, h.same (by simp [Op.operands]) hx (by simp [At.ref]) ho (by simp)⟩, hr⟩
  ·rename_i t j m c hx
   obtain ⟨h1, h2, ⟨size, rows, s, ho, hr⟩, hv⟩ := pc
   exact ⟨h1, h2, ⟨size, rows, s, h.same (by simp [Op.operands]) hx (by simp [At.ref]) ho (by simp), hr⟩, hv⟩
  ·exact pc.elim
 case index T x ix =>
  obtain ⟨k, i, hk, h0, hg, pc⟩ := hs
  rw [h.look x (by simp [Op.operands])] at hg pc
  exact ⟨k, i, xb h (by simp [Op.operands]) hk, h0, hg, pc⟩
 case slice T x lo hi mx =>
  cases mx with
  | some m => exact hs.elim
  | none =>
   simp only at hs ⊢
   rw [h.look x (by simp [Op.operands])] at hs
   refine ⟨hs.1, ?_⟩
   have pc := hs.2
   have b1 : ∀ df n, bnd P σ1 df lo n -> bnd P σ df lo n := fun df n => Fb h (fun y hy => by subst hy; simp [Op.operands])
   have b2 : ∀ df n, bnd P σ1 df hi n -> bnd P σ df hi n := fun df n => Fb h (fun y hy => by subst hy; simp [Op.operands])
   split at pc
   ·obtain ⟨h1, l, hh, h2, h3, hr⟩ := pc
    exact ⟨h1, l, hh, b1 _ _ h2, b2 _ _ h3, hr⟩
   ·obtain ⟨h1, h1', l, hh, h2, h3, hr⟩ := pc
    exact ⟨h1, h1', l, hh, b1 _ _ h2, b2 _ _ h3, hr⟩
   ·rename_i t j o len hx
    obtain ⟨h1, ⟨q, rows, ho⟩, l, hh, h2, h3, hr⟩ := pc
    exact ⟨h1, ⟨q, rows, h.same (by simp [Op.operands]) hx (by simp [At.ref]) ho (by simp)⟩, l, hh, b1 _ _ h2, b2 _ _ h3, hr⟩
   ·exact pc.elim
 case binOp op T x y yt =>
  rw [<- h.look x (by simp [Op.operands]), <- h.look y (by simp [Op.operands])]; exact hs
 case unOp op T x => rw [<- h.look x (by simp [Op.operands])]; exact hs
 case convert S T x => rw [<- h.look x (by simp [Op.operands])]; exact hs
 case extract x i => rw [<- h.look x (by simp [Op.operands])]; exact hs
 case field T x f => rw [<- h.look x (by simp [Op.operands])]; exact hs
 case build T parts =>
  obtain ⟨h1, h2, z, out, h3, h4, h5⟩ := hs
  refine ⟨h1, h2, z, out, h3, Oo ?_ h4, h5⟩
  simpa [Op.operands] using h
 case call c =>
  obtain ⟨cw, args, lF⟩ := c
  have hm : ∀ x ∈ args.toList, x ∈ (Op.operands (.call ⟨cw, args, lF⟩)).toList := by
   intro x hx
   simp only [Op.operands, Call.operands]
   cases cw <;> simp at hx ⊢ <;> simp [hx]
  split at hs
  ·rename_i x t hc ha ht
   rw [h.look x (hm x (by rw [ha]; simp))] at hs
   try simp only [hc, ha, ht]
   refine ⟨hs.1, ?_⟩
   have pc := hs.2
   split at pc
   ·exact pc
   ·exact pc
   ·exact pc
   ·rename_i u j lo len hx
    obtain ⟨h1, ⟨q, size, rows, ho⟩ | ⟨size, rows, ho⟩, hr⟩ := pc
    ·exact ⟨h1, .inl ⟨q, size, rows, h.same (hm x (by rw [ha]; simp)) hx (by simp [At.ref]) ho (by simp)⟩, hr⟩
    ·exact ⟨h1, .inr ⟨size, rows, h.same (hm x (by rw [ha]; simp)) hx (by simp [At.ref]) ho (by simp)⟩, hr⟩
   ·rename_i u j i c hx
    obtain ⟨h1, size, rows, n, s, ho, hr⟩ := pc
    exact ⟨h1, size, rows, n, s, h.same (hm x (by rw [ha]; simp)) hx (by simp [At.ref]) ho (by simp), hr⟩
   ·exact pc.elim
  ·rename_i x y hc ha
   try simp only [hc, ha]
   obtain ⟨k, m, n, h1, h2, h3⟩ := hs
   exact ⟨k, m, n, xb h (hm x (by rw [ha]; simp)) h1, xb h (hm y (by rw [ha]; simp)) h2, h3⟩
  ·rename_i x y hc ha
   try simp only [hc, ha]
   obtain ⟨k, m, n, h1, h2, h3⟩ := hs
   exact ⟨k, m, n, xb h (hm x (by rw [ha]; simp)) h1, xb h (hm y (by rw [ha]; simp)) h2, h3⟩
  ·exact hs.elim
end
end Go.Vm
namespace Go.Vm
open Go.RowKit
def NG (P : Program) (xs : List Operand) (σ : St) (u : Nat) : Prop :=
 ∃ x ∈ xs, ∃ ty, (look P σ ty x).ref u = true \/ ∃ t cells, (look P σ ty x).ref t = true /\ σ.ob t 0 = .box cells /\ YU u cells = true
theorem zU {u : Nat} : ∀ {xs : List At}, YU u xs = true ↔ ∃ x ∈ xs, x.ref u = true
 | [] => by simp [YU]
 | x :: xs => by simp [YU, zU]
theorem BD {u : Nat} {xs ys : List At} (h : ∀ x ∈ xs, x ∈ ys) (hx : YU u xs = true) : YU u ys = true := by
 obtain ⟨x, h1, h2⟩ := zU.1 hx
 exact zU.2 ⟨x, h x h1, h2⟩
theorem P6 {u a b : Nat} {xs : List At} (hx : YU u (cut xs a b) = true) : YU u xs = true :=
 BD (fun _ h => List.mem_of_mem_drop (List.mem_of_mem_take h)) hx
theorem VY {u : Nat} (xs : List D) : YU u (xs.map .d) = false := by
 induction xs with
 | nil => rfl
 | cons x xs ih => simp [YU, At.ref, ih]
theorem Ri {P : Program} {T : TypeId} {u : Nat} {xs : List At} (h : (ldV P T xs).ref u = true) : YU u xs = true := by
 unfold ldV at h
 split at h
 ·exact h
 ·split at h
  ·simpa [V.ref, YU] using h
  ·simp [V.ref] at h
theorem AF {u o : Nat} {r xs : List At} (h : YU u (place r o xs) = true) : YU u r = true \/ YU u xs = true := by
 obtain ⟨x, h1, h2⟩ := zU.1 h
 simp only [place, List.mem_append] at h1
 rcases h1 with (h1 | h1) | h1
 ·exact .inl (zU.2 ⟨x, List.mem_of_mem_take h1, h2⟩)
 ·exact .inr (zU.2 ⟨x, h1, h2⟩)
 ·exact .inl (zU.2 ⟨x, List.mem_of_mem_drop h1, h2⟩)
theorem vn {v : V} {u : Nat} (h : (unc v).ref u = true) (hc : ∀ g x, unc v ≠ .cnd g x) (hf : ∀ g x, unc v ≠ .fix g x) : v.ref u = true := by
 cases v with
 | cnd g x =>
  simp only [unc] at h hc hf
  simp only [V.ref, Bool.or_eq_true]
  cases x with
  | tup xs => exact .inr h
  | cnd g y => exact absurd rfl (hc g y)
  | fix g y => exact absurd rfl (hf g y)
  | one x => exact .inl h
  | agg x => exact .inl h
  | any => exact .inl h
 | fix g x =>
  simp only [unc] at h hc hf
  simp only [V.ref, Bool.or_eq_true]
  cases x with
  | tup xs => exact .inr h
  | cnd g y => exact absurd rfl (hc g y)
  | fix g y => exact absurd rfl (hf g y)
  | one x => exact .inl h
  | agg x => exact .inl h
  | any => exact .inl h
 | _ => exact h
theorem IP {u t j i : Nat} : ∀ {c : Nat} {xs : List D}, YU u (WS t j i c xs) = true -> u = t
 | _, [], h => by simp [WS, YU] at h
 | c, x :: xs, h => by
  simp only [WS, YU, Bool.or_eq_true] at h
  rcases h with h | h
  ·cases x <;> simp [At.ref] at h; exact h.symm
  ·exact IP h
theorem Cd {u t j i c : Nat} {q : Bool} {xs : List D} (h : YU u (TR q t j i c xs) = true) : u = t := by
 cases q with
 | true => exact IP h
 | false => simp only [TR] at h; rw [VY] at h; cases h
theorem D3 {op : BinOp} {k : IntKind} {x y : Int} {v : V} (h : Hl op k x y v) (u : Nat) : v.ref u = false := by
 cases op <;> simp only [Hl] at h <;> first | (subst h; rfl) | (obtain ⟨_, rfl⟩ := h; rfl) | exact h.elim
theorem CM {op : BinOp} {x y : ByteArray} {v : V} (h : Iv op x y v) (u : Nat) : v.ref u = false := by
 cases op <;> simp only [Iv] at h <;> first | (subst h; rfl) | (obtain ⟨_, rfl⟩ := h; rfl) | exact h.elim
theorem EU {op : BinOp} {x y : Bool} {v : V} (h : OJ op x y v) (u : Nat) : v.ref u = false := by
 cases op <;> simp only [OJ] at h <;> first | (subst h; rfl) | (obtain ⟨_, rfl⟩ := h; rfl) | exact h.elim
theorem C0 {P : Program} {op : BinOp} {T : TypeId} {x y v : V} (h : CV P op T x y v) (u : Nat) : v.ref u = false := by
 unfold CV at h
 split at h
 ·exact D3 h.2 u
 ·exact CM h u
 ·exact EU h.2 u
 ·obtain ⟨_, q, _, ⟨_, rfl⟩ | ⟨_, rfl⟩⟩ := h <;> rfl
 ·exact h.elim
theorem Gr {u : Nat} : ∀ {xs : List V} {i : Nat} {v : V}, xs[i]? = some v -> v.NI u = true -> Uv u xs = true
 | [], _, _, h, _ => by simp at h
 | x :: xs, 0, v, h, hr => by simp at h; subst h; simp [Uv, hr]
 | x :: xs, i + 1, v, h, hr => by simp only [Uv, Bool.or_eq_true]; exact .inr (Gr (by simpa using h) hr)
theorem G4 {v : V} (hf : v.flat = true) (u : Nat) : v.ref u = v.NI u := by
 cases v <;> first | rfl | (simp [V.flat] at hf)
theorem IX {P : Program} {σ : St} {T : TypeId} {u : Nat} : ∀ {ps : List (Nat × Operand)} {z out : List At}, Uf P σ T ps z out -> YU u out = true ->
  YU u z = true \/ ∃ x ∈ ps.map (·.2), ∃ ty, (look P σ ty x).ref u = true
 | [], z, out, h, hr => by simp only [Uf] at h; subst h; exact .inl hr
 | (i, x) :: ps, z, out, h, hr => by
  simp only [Uf] at h
  rcases IX h.2.2.2.2.2 hr with h1 | ⟨y, hy, ty, h1⟩
  ·rcases AF h1 with h1 | h1
   ·exact .inl h1
   ·exact .inr ⟨x, by simp, _, Wh h1⟩
  ·exact .inr ⟨y, by simp at hy ⊢; exact .inr hy, ty, h1⟩
theorem MH {P : Program} {σ : St} {op : Op} {ty : TypeId} {v : V} {u : Nat} (hs : Yc P σ op ty v) (hr : v.ref u = true) : NG P op.operands.toList σ u := by
 have nod : ∀ {x : D}, v = .one (.d x) -> False := by intro x e; rw [e] at hr; cases hr
 cases op <;> simp only [Yc] at hs
 case move x => subst hs; exact ⟨x, by simp [Op.operands], ty, .inl hr⟩
 case assign x => subst hs; exact ⟨x, by simp [Op.operands], ty, .inl hr⟩
 case pick c a b => obtain ⟨bc, p, q, _, _, _, _, _, _, rfl⟩ := hs; cases hr
 case load T x =>
  have pc := hs.2.2
  split at pc
  ·rename_i t c hx
   obtain ⟨cells, ho, _, rfl⟩ := pc
   exact ⟨x, by simp [Op.operands], 0, .inr ⟨t, cells, QG hx (by simp [At.ref]), ho, P6 (Ri hr)⟩⟩
  ·rename_i t j i c hx
   obtain ⟨q, size, rows, _, _, _, rfl⟩ := pc
   have := Cd (Ri hr)
   exact ⟨x, by simp [Op.operands], 0, .inl (QG hx (by simp [At.ref, this]))⟩
  ·obtain ⟨_, rfl⟩ := pc
   have := Ri hr; rw [VY] at this; cases this
  ·obtain ⟨_, _, _, _, _, _, _, _, _, rfl⟩ := pc
   have := Ri hr; rw [VY] at this; cases this
  ·exact pc.elim
 case nilCheck x =>
  have pc := hs.2
  split at pc
  ·rename_i t c hx
   obtain ⟨_, rfl⟩ := pc
   exact ⟨x, by simp [Op.operands], 0, .inl (QG hx hr)⟩
  ·exact pc.elim
 case fieldAddr T x f =>
  have pc := hs.2.2
  split at pc
  ·rename_i t c hx
   obtain ⟨_, rfl⟩ := pc
   exact ⟨x, by simp [Op.operands], 0, .inl (QG hx hr)⟩
  ·rename_i t j i c hx
   obtain ⟨_, rfl⟩ := pc
   exact ⟨x, by simp [Op.operands], 0, .inl (QG hx hr)⟩
  ·subst pc; cases hr
  ·rename_i t j i c k hx
   obtain ⟨_, rfl⟩ := pc
   exact ⟨x, by simp [Op.operands], 0, .inl (QG hx hr)⟩
  ·exact pc.elim
 case indexAddr T x ix =>
  obtain ⟨k, i, _, _, _, pc⟩ := hs
  split at pc
  ·obtain ⟨_, _, _, _, rfl⟩ := pc; cases hr
  ·rename_i t j lo len hx
   obtain ⟨_, _, _, _, rfl⟩ := pc
   exact ⟨x, by simp [Op.operands], 0, .inl (QG hx hr)⟩
  ·rename_i t c hx
   obtain ⟨_, _, rfl⟩ := pc
   exact ⟨x, by simp [Op.operands], 0, .inl (QG hx hr)⟩
  ·rename_i t j m c hx
   obtain ⟨_, _, _, rfl⟩ := pc
   exact ⟨x, by simp [Op.operands], 0, .inl (QG hx hr)⟩
  ·exact pc.elim
 case index T x ix =>
  obtain ⟨k, i, _, _, _, pc⟩ := hs
  split at pc
  ·obtain ⟨_, _, rfl⟩ := pc; cases hr
  ·rename_i xs hx
   obtain ⟨_, _, _, rfl⟩ := pc
   exact ⟨x, by simp [Op.operands], 0, .inl (Pe hx (P6 (Ri hr)))⟩
  ·exact pc.elim
 case slice T x lo hi mx =>
  cases mx with
  | some m => exact hs.elim
  | none =>
   simp only at hs
   have pc := hs.2
   split at pc
   ·obtain ⟨_, _, _, _, _, _, _, rfl⟩ := pc; cases hr
   ·obtain ⟨_, _, _, _, _, _, _, _, rfl⟩ := pc; cases hr
   ·rename_i t j o len hx
    obtain ⟨_, _, _, _, _, _, _, _, rfl⟩ := pc
    exact ⟨x, by simp [Op.operands], 0, .inl (QG hx hr)⟩
   ·exact pc.elim
 case binOp op T x y yt => rw [C0 hs.2.2 u] at hr; cases hr
 case unOp op T x =>
  have pc := hs.2
  split at pc
  ·subst pc; cases hr
  ·subst pc; cases hr
  ·exact pc.elim
 case convert S T x =>
  have pc := hs.2.2
  split at pc
  ·obtain ⟨_, _, rfl⟩ := pc; cases hr
  ·exact pc.elim
 case extract x i =>
  have pc := hs.2
  split at pc
  ·rename_i xs hx
   refine ⟨x, by simp [Op.operands], 0, .inl (vn ?_ (by rw [hx]; simp) (by rw [hx]; simp))⟩
   rw [hx]
   rw [G4 pc.2] at hr
   exact Gr pc.1 hr
  ·exact pc.elim
 case field T x f =>
  have pc := hs.2.2.2
  split at pc
  ·rename_i xs hx
   obtain ⟨_, rfl⟩ := pc
   exact ⟨x, by simp [Op.operands], 0, .inl (Pe hx (P6 (Ri hr)))⟩
  ·exact pc.elim
 case build T parts =>
  obtain ⟨_, _, z, out, h3, h4, rfl⟩ := hs
  rcases IX h4 hr with h1 | ⟨x, hx, ty', h1⟩
  ·rw [P3 u _ _ _ h3] at h1; cases h1
  ·exact ⟨x, by simpa [Op.operands] using hx, ty', .inl h1⟩
 case call c =>
  split at hs
  ·have pc := hs.2
   split at pc
   ·obtain ⟨_, rfl⟩ := pc; cases hr
   ·obtain ⟨_, rfl⟩ := pc; cases hr
   ·obtain ⟨_, rfl⟩ := pc; cases hr
   ·obtain ⟨_, _, rfl⟩ := pc; cases hr
   ·obtain ⟨_, _, _, _, _, _, _, _, rfl⟩ := pc; cases hr
   ·exact pc.elim
  ·obtain ⟨_, _, _, _, _, rfl⟩ := hs; cases hr
  ·obtain ⟨_, _, _, _, _, rfl⟩ := hs; cases hr
  ·exact hs.elim
end Go.Vm
namespace Go.Vm
open Go.RowKit
inductive Eff where
 | put (v : V)
 | new (v : V) (os : List Ob)
 | drop (t j : Nat) (v : V) (os : List Ob)
def Eff.ap (d : Nat) : Eff -> St -> St
 | .put v, σ => σ.put d v
 | .new v os, σ => σ.new d v os
 | .drop t j v os, σ => (σ.YC t j .none).new d v os
def Eff.ok (d : Nat) : Eff -> St -> Prop
 | .put _, _ => True
 | .new _ _, σ => σ.fresh d = true
 | .drop t j _ _, σ => (∃ q s r, σ.ob t j = .arr q s r) /\ (σ.YC t j .none).fresh d = true
def Eff.ref (u : Nat) : Eff -> Bool
 | .put v => v.ref u
 | .new v os => v.ref u || Y0 u os
 | .drop _ _ v os => v.ref u || Y0 u os
def VA (o : Oper) : Bool :=
 match o.op with
 | .call ⟨.builtin .append, ⟨.const _ :: _⟩, _⟩ => false
 | .call ⟨.builtin .append, _, _⟩ => true
 | _ => false
def K6 (o : Oper) : Bool :=
 match o.op with
 | .alloc _ => false
 | .box _ _ => false
 | .buildSlice _ _ _ => false
 | .makeSlice _ _ _ => false
 | .call ⟨.builtin .append, _, _⟩ => false
 | .call ⟨.value _, _, _⟩ => false
 | _ => true
def ya (ops : Array Oper) (o : Oper) : List Operand :=
 o.op.operands.toList ++ (match o.guard with | some (j, _) => (match (ops[j]?).bind (·.dst) with | some dj => [.tmp dj] | none => []) | none => [])
section
variable {P : Program} {σ1 σ : St}
theorem Sub.left {xs ys : List Operand} (h : Sub P (xs ++ ys) σ1 σ) : Sub P xs σ1 σ := ⟨h.len, fun x hx => h.look x (by simp [hx]), fun x hx => h.ob x (by simp [hx])⟩
theorem E0 {x : At} {d : D} (h : ∀ u, x.ref u = true -> ∀ j, σ1.ob u j ≠ .none -> σ.ob u j = σ1.ob u j) (hd : zz σ1 x = some d) : zz σ x = some d := by
 cases x with
 | sref t j lo len =>
  simp only [zz] at hd ⊢
  split at hd
  ·rename_i q size rows ho
   rw [h t (by simp [At.ref]) j (by rw [ho]; simp), ho]; exact hd
  ·cases hd
 | _ => exact hd
theorem kz : ∀ {xs : List At} {r : List D}, (∀ u, YU u xs = true -> ∀ j, σ1.ob u j ≠ .none -> σ.ob u j = σ1.ob u j) -> rowOf σ1 xs = some r -> rowOf σ xs = some r
 | [], _, _, h => h
 | x :: xs, r, h, hr => by
  simp only [rowOf] at hr ⊢
  split at hr
  ·rename_i d ds h1 h2
   rw [E0 (fun u hu => h u (by rw [YU, hu]; rfl)) h1, kz (fun u hu => h u (by rw [YU, hu, Bool.or_true])) h2]
   exact hr
  ·cases hr
theorem Gf {v : V} {r : List D} (h : ∀ u, YU u v.cells = true -> ∀ j, σ1.ob u j ≠ .none -> σ.ob u j = σ1.ob u j) (hr : v.Ks σ1 = some r) : v.Ks σ = some r := by
 cases v with
 | one x => exact kz h hr
 | agg xs =>
  match xs, h, hr with
  | [], h, hr => exact kz h hr
  | [_], _, hr => simp [V.Ks] at hr
  | x :: y :: xs, h, hr => exact kz h hr
 | any => simp [V.Ks] at hr
 | tup xs => simp [V.Ks] at hr
 | cnd g x => simp [V.Ks] at hr
 | fix u x => simp [V.Ks] at hr
theorem Sub.cells {xs : List Operand} {x : Operand} (h : Sub P xs σ1 σ) (hx : x ∈ xs) (ty : TypeId) : ∀ u, YU u (unc (Vm.look P σ1 ty x)).cells = true -> ∀ j, σ1.ob u j ≠ .none -> σ.ob u j = σ1.ob u j :=
 fun u hu j hn => h.ob x hx ty u (Wh hu) j hn
theorem kc : ∀ {xs : List Operand} {ts : List TypeId} {rs : List (List D)}, Sub P xs σ1 σ -> Qd P σ1 xs ts rs -> Qd P σ xs ts rs
 | [], _, _, _, h => h
 | x :: xs, [], _, _, h => h.elim
 | x :: xs, t :: ts, rs, hs, h => by
  obtain ⟨hg, r, rest, h1, h2, h3⟩ := h
  have e := hs.look x (by simp) t
  refine ⟨by rw [<- e]; exact hg, r, rest, ?_, kc ⟨hs.len, fun y hy => hs.look y (by simp [hy]), fun y hy => hs.ob y (by simp [hy])⟩ h2, h3⟩
  rw [<- e]
  exact Gf (hs.cells (by simp) t) h1
theorem kO : ∀ {xs : List Operand} {ts : List TypeId}, Sub P xs σ1 σ -> YY P σ xs ts = YY P σ1 xs ts
 | [], _, _ => by simp [YY]
 | x :: xs, [], _ => by simp [YY]
 | x :: xs, t :: ts, hs => by
  simp only [YY]
  rw [hs.look x (by simp) t, kO ⟨hs.len, fun y hy => hs.look y (by simp [hy]), fun y hy => hs.ob y (by simp [hy])⟩]
theorem SG {c : Call} {f : FuncId} {own : Bool} {res : List (List D)} (hs : Sub P c.args.toList σ1 σ) (h : Dt P σ1 c f own res) : Dt P σ c f own res := by
 obtain ⟨rows, h1, h2, h3⟩ := h
 exact ⟨rows, kc hs h1, h2, by rw [kO hs]; exact h3⟩
theorem SN {T : TypeId} {size : Nat} : ∀ {ps : List (Nat × Operand)} {k : Nat} {rs : List (List D)}, Sub P (ps.map (·.2)) σ1 σ -> O4 P σ1 T size ps k rs -> O4 P σ T size ps k rs
 | [], _, _, _, h => h
 | (i, x) :: ps, k, rs, hs, h => by
  have e := hs.look x (by simp) T
  obtain ⟨h1, h2, h3, h4, r, rest, h5, h6, h7, h8⟩ := h
  refine ⟨h1, by rw [<- e]; exact h2, by rw [<- e]; exact h3, by rw [<- e]; exact h4, r, rest, ?_, h6, SN ⟨hs.len, fun y hy => hs.look y (by simp at hy ⊢; exact .inr hy), fun y hy => hs.ob y (by simp at hy ⊢; exact .inr hy)⟩ h7, h8⟩
  rw [<- e]
  exact kz (hs.cells (by simp) T) h5
theorem MV {T : TypeId} {size : Nat} : ∀ {ps : List (Nat × Operand)} {k : Nat} {rs : List (List At)}, Sub P (ps.map (·.2)) σ1 σ -> Ox P σ1 T size ps k rs -> Ox P σ T size ps k rs
 | [], _, _, _, h => h
 | (i, x) :: ps, k, rs, hs, h => by
  obtain ⟨h1, h2, h3, h4, rest, h5, h6⟩ := h
  have e := hs.look x (by simp) T
  rw [e] at h2 h3 h4 h6
  exact ⟨h1, h2, h3, h4, rest, MV ⟨hs.len, fun y hy => hs.look y (by simp at hy ⊢; exact .inr hy), fun y hy => hs.ob y (by simp at hy ⊢; exact .inr hy)⟩ h5, h6⟩
theorem Gp {T : TypeId} {size u : Nat} : ∀ {ps : List (Nat × Operand)} {k : Nat} {rs : List (List At)}, Ox P σ T size ps k rs -> YU u rs.flatten = true -> ∃ x ∈ ps.map (·.2), (Vm.look P σ T x).ref u = true
 | [], _, _, h, hr => by simp only [Ox] at h; subst h; simp [YU] at hr
 | (i, x) :: ps, k, rs, h, hr => by
  obtain ⟨h1, h2, h3, h4, rest, h5, rfl⟩ := h
  rw [List.flatten_cons] at hr
  obtain ⟨z, hz, mF⟩ := zU.1 hr
  rcases List.mem_append.1 hz with hz | hz
  ·exact ⟨x, by simp, Wh (zU.2 ⟨z, hz, mF⟩)⟩
  ·obtain ⟨y, hy, hyr⟩ := Gp h5 (zU.2 ⟨z, hz, mF⟩)
   exact ⟨y, by simp at hy ⊢; exact .inr hy, hyr⟩
theorem yI (u : Nat) : ∀ (qs : List Bool) (ds : List D), Y0 u (YS qs ds) = false
 | qs, [] => by cases qs <;> rfl
 | q :: qs, .sl size rows :: ds => by simp [YS, Y0, yI u qs ds]
 | [], .sl size rows :: ds => by simp [YS, Y0, yI u [] ds]
 | qs, .int _ _ :: ds => by cases qs <;> simp [YS, Y0, yI u _ ds]
 | qs, .bool _ :: ds => by cases qs <;> simp [YS, Y0, yI u _ ds]
 | qs, .str _ :: ds => by cases qs <;> simp [YS, Y0, yI u _ ds]
 | qs, .unk :: ds => by cases qs <;> simp [YS, Y0, yI u _ ds]
theorem Ub {xs : List Operand} {x : Operand} {ty : TypeId} {size : Nat} {news : List (List D)} (hs : Sub P xs σ1 σ) (hx : x ∈ xs) (h : kh σ1 (unc (Vm.look P σ1 ty x)) size news) : kh σ (unc (Vm.look P σ ty x)) size news := by
 rw [hs.look x hx] at h
 unfold kh at h ⊢
 split at h
 ·exact h
 ·exact h
 ·rename_i t j lo len hv
  obtain ⟨rows, ho, hr⟩ := h
  exact ⟨rows, hs.same hx hv (by simp [At.ref]) ho (by simp), hr⟩
 ·exact h.elim
theorem AL (u : Nat) (r : List D) : (vOf (r.map At.d)).ref u = false := by
 have := VY (u := u) r
 match r, this with
 | [], _ => rfl
 | [x], _ => rfl
 | x :: y :: r, h => exact h
theorem Cm (u : Nat) (r : List D) : (vOf (r.map At.d)).NI u = false := by
 have := VY (u := u) r
 match r, this with
 | [], _ => rfl
 | [x], _ => rfl
 | x :: y :: r, h => exact h
theorem Fa (u : Nat) (res : List (List D)) : (qL res).ref u = false := by
 have tl : ∀ rs : List (List D), Uv u (rs.map fun r => vOf (r.map At.d)) = false := by
  intro rs
  induction rs with
  | nil => rfl
  | cons r rs ih => simp only [List.map_cons, Uv, Cm, ih, Bool.or_false]
 match res with
 | [] => rfl
 | [r] => exact AL u r
 | r :: r' :: rs => exact tl (r :: r' :: rs)
theorem Pa {u d : Nat} (hu : u ≠ d) : ∀ (k : Nat) (r : List D), YU u (KL d k r) = false
 | _, [] => rfl
 | k, x :: r => by cases x <;> simp [KL, YU, At.ref, Pa hu, Ne.symm hu]
theorem DC {u : Nat} {xs : List At} (h : YU u xs = false) : (vOf xs).NI u = false := by
 match xs, h with
 | [], _ => rfl
 | [x], h => simpa [vOf, V.NI, YU] using h
 | x :: y :: xs, h => exact h
theorem Lu {u d : Nat} (hu : u ≠ d) (res : List (List D)) : (jN d res).ref u = false := by
 have tl : ∀ (k : Nat) (rs : List (List D)), Uv u (Gy d k rs) = false := by
  intro k rs
  induction rs generalizing k with
  | nil => rfl
  | cons r rs ih => simp only [Gy, Uv, DC (Pa hu _ _), ih, Bool.or_false]
 match res with
 | [] => exact tl 0 []
 | [r] =>
  have h1 : (vOf (KL d 0 r)).flat = true := by
   match KL d 0 r with
   | [] => rfl
   | [x] => rfl
   | x :: y :: xs => rfl
  have := DC (Pa hu 0 r)
  rw [<- G4 h1] at this
  exact this
 | r :: r' :: rs => exact tl 0 (r :: r' :: rs)
theorem HS (u : Nat) : ∀ (ds : List D), Y0 u (xD ds) = false
 | [] => rfl
 | x :: ds => by cases x <;> simp [xD, Y0, HS u ds]
theorem U0 (ty : TypeId) (v : Value) (u : Nat) : (cst P ty v).ref u = false := by
 unfold cst
 split <;> first | rfl | skip
 all_goals (repeat' split) <;> first | rfl | skip
end
end Go.Vm
namespace Go.Vm
open Go.RowKit
def Ly (P : Program) (ops : Array Oper) (o : Oper) (d : Nat) (σ1 : St) (e : Eff) : Prop :=
 e.ok d σ1 /\ (∀ t j v os, e = .drop t j v os -> VA o = true /\ ∃ x ∈ ya ops o, ∃ ty, (look P σ1 ty x).ref t = true) /\
 (K6 o = true \/ o.guard.isSome = true -> ∃ v, e = .put v) /\
 (o.guard = none -> ∀ u, u ≠ d -> e.ref u = true -> NG P (ya ops o) σ1 u) /\
 ∀ σ, Sub P (ya ops o) σ1 σ -> e.ok d σ -> XR P ops o σ (e.ap d σ)
section
variable {P : Program} {ops : Array Oper} {o : Oper} {d : Nat} {σ1 σ2 : St}
theorem PZ {xs ys : List Operand} {u : Nat} (h : NG P xs σ1 u) : NG P (xs ++ ys) σ1 u := by
 obtain ⟨x, hx, r⟩ := h
 exact ⟨x, by simp [hx], r⟩
theorem Ui {σ σ' : St} (hg : o.guard = none) (hd : o.dst = some d) (h : Step P o d σ σ') : XR P ops o σ σ' := by
 unfold XR; simp only [hg, hd]; exact h
theorem OV {v : V} (hg : o.guard = none) (hd : o.dst = some d) (hU : ∀ u, u ≠ d -> v.ref u = true -> NG P o.op.operands.toList σ1 u)
  (ot : ∀ σ, Sub P o.op.operands.toList σ1 σ -> Step P o d σ (σ.put d v)) : Ly P ops o d σ1 (.put v) :=
 ⟨trivial, (fun t j v os h => by cases h), fun _ => ⟨v, rfl⟩, fun _ u hu hr => PZ (hU u hu hr), fun σ hs _ => Ui hg hd (ot σ hs.left)⟩
theorem UM {v : V} {os : List Ob} (hg : o.guard = none) (hd : o.dst = some d) (hp : K6 o = false) (po : σ1.fresh d = true) (hU : ∀ u, u ≠ d -> (v.ref u || Y0 u os) = true -> NG P o.op.operands.toList σ1 u)
  (ot : ∀ σ, Sub P o.op.operands.toList σ1 σ -> σ.fresh d = true -> Step P o d σ (σ.new d v os)) : Ly P ops o d σ1 (.new v os) :=
 ⟨po, (fun t j v os h => by cases h), (fun h => h.elim (fun h => by rw [hp] at h; cases h) (fun h => by rw [hg] at h; cases h)), fun _ u hu hr => PZ (hU u hu hr), fun σ hs hf => Ui hg hd (ot σ hs.left hf)⟩
theorem zQ {c : Call} {x : Operand} (hx : x ∈ c.args.toList) : x ∈ (Op.operands (.call c)).toList := by
 obtain ⟨cw, args, lF⟩ := c
 simp only [Op.operands, Call.operands]
 cases cw <;> simp at hx ⊢ <;> simp [hx]
theorem Oy {c : Call} {σ : St} (h : Sub P (Op.operands (.call c)).toList σ1 σ) : Sub P c.args.toList σ1 σ :=
 ⟨h.len, fun x hx => h.look x (zQ hx), fun x hx => h.ob x (zQ hx)⟩
theorem wm (hg : o.guard = none) (hd : o.dst = some d) (hs : Step P o d σ1 σ2) : ∃ e : Eff, σ2 = e.ap d σ1 /\ Ly P ops o d σ1 e := by
 have nD : (∃ v, Yc P σ1 o.op o.type v /\ σ2 = σ1.put d v) -> (∀ σ v, Yc P σ o.op o.type v -> Step P o d σ (σ.put d v)) -> ∃ e : Eff, σ2 = e.ap d σ1 /\ Ly P ops o d σ1 e := by
  rintro ⟨v, hv, rfl⟩ pt
  exact ⟨.put v, rfl, OV hg hd (fun u _ hr => MH hv hr) (fun σ oH => pt σ v (ks hv oH))⟩
 have hs0 := hs
 unfold Step at hs
 split at hs
 ·rename_i T pP
  obtain ⟨hf, hz, row, oC, rfl⟩ := hs
  refine ⟨.new _ _, rfl, UM hg hd (by simp [K6, pP]) hf (fun u hu hr => ?_) (fun σ oH lS => ?_)⟩
  ·simp only [V.ref, At.ref, Y0, P3 u _ _ _ oC, Bool.or_false, beq_iff_eq] at hr
   exact absurd hr.symm hu
  ·unfold Step; rw [pP]; exact ⟨lS, hz, row, oC, rfl⟩
 ·rename_i T x pP
  obtain ⟨hf, h1, h2, h3, rfl⟩ := hs
  refine ⟨.new _ _, rfl, UM hg hd (by simp [K6, pP]) hf (fun u hu hr => ?_) (fun σ oH lS => ?_)⟩
  ·simp only [V.ref, At.ref, Y0, Bool.or_false, Bool.or_eq_true, beq_iff_eq] at hr
   rcases hr with hr | hr
   ·exact absurd hr.symm hu
   ·exact ⟨x, by simp [pP, Op.operands], T, .inl (Wh hr)⟩
  ·have e := oH.look x (by simp [pP, Op.operands]) T
   unfold Step; rw [pP]
   simp only
   rw [<- e]
   exact ⟨lS, h1, h2, h3, rfl⟩
 ·rename_i T n parts pP
  rcases hs with ⟨hf, h1, h2, h3, h4, h5, ⟨rows, h6, rfl⟩ | ⟨rows, h6, h7, rfl⟩⟩ | ⟨h1, rows, h6, rfl⟩
  ·refine ⟨.new _ _, rfl, UM hg hd (by simp [K6, pP]) hf (fun u hu hr => ?_) (fun σ oH lS => ?_)⟩
   ·simp only [V.ref, At.ref, Y0, Bool.or_false, beq_iff_eq] at hr
    exact absurd hr.symm hu
   ·unfold Step; rw [pP]
    refine .inl ⟨lS, h1, h2, h3, h4, h5, .inl ⟨rows, SN ?_ h6, rfl⟩⟩
    rw [pP] at oH
    simpa [Op.operands] using oH
  ·refine ⟨.new _ _, rfl, UM hg hd (by simp [K6, pP]) hf (fun u hu hr => ?_) (fun σ oH lS => ?_)⟩
   ·simp only [V.ref, At.ref, Y0, Bool.or_false, Bool.or_eq_true, beq_iff_eq] at hr
    rcases hr with hr | hr
    ·exact absurd hr.symm hu
    ·obtain ⟨x, hx, hxr⟩ := Gp h6 hr
     exact ⟨x, by simpa [pP, Op.operands] using hx, _, .inl hxr⟩
   ·unfold Step; rw [pP]
    refine .inl ⟨lS, h1, h2, h3, h4, h5, .inr ⟨rows, MV ?_ h6, h7, rfl⟩⟩
    rw [pP] at oH
    simpa [Op.operands] using oH
  ·refine ⟨.put _, rfl, OV hg hd (fun u _ hr => by cases hr) (fun σ oH => ?_)⟩
   unfold Step; rw [pP]
   refine .inr ⟨h1, rows, SN ?_ h6, rfl⟩
   rw [pP] at oH
   simpa [Op.operands] using oH
 ·rename_i T x y pP
  obtain ⟨rfl, hf, h1, h2, h3, q, z, zr, k, n, hq, h4, h5, h6, h7, h8, rfl⟩ := hs
  refine ⟨.new _ _, rfl, UM hg hd (by simp [K6, pP]) hf (fun u hu hr => ?_) (fun σ oH lS => ?_)⟩
  ·simp only [V.ref, At.ref, Y0, Bool.or_false, beq_iff_eq] at hr
   exact absurd hr.symm hu
  ·unfold Step; rw [pP]
   exact ⟨rfl, lS, h1, h2, h3, q, z, zr, k, n, hq, h4, h5, xb oH (by simp [pP, Op.operands]) h6, h7, h8, rfl⟩
 ·rename_i c pP
  split at hs
  ·rename_i hc
   obtain ⟨x, y, t, ha, mI, h1, h2, h3, h4, h5, pW, news, σd, h6, h7, h8, h9, ia, rfl⟩ := hs
   have hx : x ∈ o.op.operands.toList := by rw [pP]; exact zQ (by rw [ha]; simp)
   have hy : y ∈ o.op.operands.toList := by rw [pP]; exact zQ (by rw [ha]; simp)
   have lT : K6 o = false := by
    obtain ⟨cc, ca, ct⟩ := c
    simp only at hc; subst hc
    simp [K6, pP]
   have refs : ∀ u, u ≠ d -> (V.ref u (.one (.sref d 0 0 (pW.length + news.length))) || Y0 u [.arr false (P.cellsOf (ZT P t)) (pW ++ news)]) = true -> NG P o.op.operands.toList σ1 u := by
    intro u hu hr
    simp only [V.ref, At.ref, Y0, Bool.or_false, beq_iff_eq] at hr
    exact absurd hr.symm hu
   have h6' := h6
   unfold TM at h6
   split at h6
   ·rename_i s heq
    obtain ⟨rfl, rfl⟩ := h6
    refine ⟨.new _ _, rfl, UM hg hd lT h8 refs (fun σ oH lS => ?_)⟩
    unfold Step; rw [pP]
    simp only [hc]
    refine ⟨x, y, t, ha, mI, ?_, ?_, h3, h4, h5, [], news, σ, ?_, Ub oH hy h7, lS, h9, ia, rfl⟩
    ·rw [<- oH.look x hx]; exact h1
    ·rw [<- oH.look y hy]; exact h2
    ·rw [<- oH.look x hx]; unfold TM; rw [heq]; exact ⟨rfl, rfl⟩
   ·rename_i tt j lo len heq
    obtain ⟨rows, ho, mZ, hlen, holds, rfl⟩ := h6
    have bl : (look P σ1 t x).ref tt = true := QG heq (by simp [At.ref])
    refine ⟨.drop tt j _ _, rfl, ⟨⟨_, _, _, ho⟩, h8⟩, ?_, (fun hh => hh.elim (fun hh => by rw [lT] at hh; cases hh) (fun hh => by rw [hg] at hh; cases hh)), fun _ u hu hr => PZ (refs u hu hr), fun σ oH lS => Ui hg hd ?_⟩
    ·intro t' j' v os he
     cases he
     refine ⟨?_, x, by simp only [ya, List.mem_append]; exact .inl hx, t, bl⟩
     obtain ⟨cc, ca, ct⟩ := c
     simp only at hc ha; subst hc ha
     cases x with
     | const v => rw [Vm.look, U0] at bl; cases bl
     | _ => simp [VA, pP]
    ·have lU := oH.left
     unfold Step; rw [pP]
     simp only [hc]
     have mc : unc (look P σ t x) = .one (.sref tt j lo len) := by rw [<- lU.look x hx]; exact heq
     refine ⟨x, y, t, ha, mI, ?_, ?_, h3, h4, h5, pW, news, _, ?_, Ub lU hy h7, lS.2, h9, ia, rfl⟩
     ·rw [<- lU.look x hx]; exact h1
     ·rw [<- lU.look y hy]; exact h2
     ·unfold TM; rw [mc]
      exact ⟨rows, lU.same hx mc (by simp [At.ref]) ho (by simp), mZ, hlen, holds, rfl⟩
   ·exact h6.elim
  ·rename_i f hc
   have lT : K6 o = false := by
    obtain ⟨cc, ca, ct⟩ := c
    simp only at hc; subst hc
    simp [K6, pP]
   rcases hs with ⟨own, res, dM, rfl⟩ | ⟨res, dM, hf, rfl⟩ | ⟨rows, res, qs, ha, hsd, hq, hf, rfl⟩
   ·refine ⟨.put _, rfl, OV hg hd (fun u _ hr => by rw [Fa] at hr; cases hr) (fun σ oH => ?_)⟩
    rw [pP] at oH
    unfold Step; rw [pP]
    simp only [hc]
    exact .inl ⟨own, res, SG (Oy oH) dM, rfl⟩
   ·refine ⟨.new _ _, rfl, UM hg hd lT hf (fun u hu hr => ?_) (fun σ oH lS => ?_)⟩
    ·rw [Lu hu, HS] at hr; cases hr
    ·rw [pP] at oH
     unfold Step; rw [pP]
     simp only [hc]
     exact .inr (.inl ⟨res, SG (Oy oH) dM, lS, rfl⟩)
   ·refine ⟨.new _ _, rfl, UM hg hd lT hf (fun u hu hr => ?_) (fun σ oH lS => ?_)⟩
    ·rw [Lu hu, yI] at hr; cases hr
    ·rw [pP] at oH
     unfold Step; rw [pP]
     simp only [hc]
     exact .inr (.inr ⟨rows, res, qs, kc (Oy oH) ha, hsd, hq, lS, rfl⟩)
  ·rename_i h1 h2
   refine nD hs (fun σ v hv => ?_)
   unfold Step; rw [pP]
   simp only
   exact ⟨v, by rw [pP] at hv; exact hv, rfl⟩
 ·rename_i S T x pP
  rcases hs with hs | ⟨l, h1, h2, h3, h4, rfl⟩ | ⟨s, h1, h2, h3, h4, h5, rfl⟩
  ·refine nD hs (fun σ v hv => ?_)
   unfold Step; rw [pP]
   exact .inl ⟨v, by rw [pP] at hv; exact hv, rfl⟩
  ·refine ⟨.put _, rfl, OV hg hd (fun u _ hr => by cases hr) (fun σ oH => ?_)⟩
   have hx : x ∈ o.op.operands.toList := by simp [pP, Op.operands]
   unfold Step; rw [pP]
   exact .inr (.inl ⟨l, by rw [<- oH.look x hx]; exact h1, h2, h3, Ub oH hx h4, rfl⟩)
  ·refine ⟨.put _, rfl, OV hg hd (fun u _ hr => by cases hr) (fun σ oH => ?_)⟩
   have hx : x ∈ o.op.operands.toList := by simp [pP, Op.operands]
   unfold Step; rw [pP]
   exact .inr (.inr ⟨s, by rw [<- oH.look x hx]; exact h1, h2, h3, by rw [<- oH.look x hx]; exact h4, h5, rfl⟩)
 ·rename_i n1 n2 n3 n4 n5 n6
  refine nD hs (fun σ v hv => ?_)
  unfold Step
  split
  ·rename_i T pP; exact absurd pP (n1 T)
  ·rename_i T x pP; exact absurd pP (n2 T x)
  ·rename_i T n ps pP; exact absurd pP (n3 T n ps)
  ·rename_i T x y pP; exact absurd pP (n4 T x y)
  ·rename_i c pP; exact absurd pP (n5 c)
  ·rename_i S T x pP; exact absurd pP (n6 S T x)
  ·exact ⟨v, hv, rfl⟩
end
end Go.Vm
namespace Go.Vm
open Go.RowKit
theorem Qe {σ : St} {d : Nat} : σ.fresh d = true ↔ d < σ.length /\ ∀ t e, σ[t]? = some e -> t ≠ d -> e.1.ref d = false /\ Y0 d e.2 = false := by
 unfold St.fresh
 rw [Bool.and_eq_true, decide_eq_true_eq]
 refine and_congr_right fun _ => ⟨fun h t e he pS => y5 h t e he (by omega), fun h => ?_⟩
 have : ∀ (σ : St) (k : Nat), (∀ t e, σ[t]? = some e -> k + t ≠ d -> e.1.ref d = false /\ Y0 d e.2 = false) -> z7 d k σ = true := by
  intro σ
  induction σ with
  | nil => intro k _; rfl
  | cons e σ ih =>
   intro k hk
   simp only [z7, Bool.and_eq_true, Bool.or_eq_true, beq_iff_eq, Bool.not_eq_true']
   refine ⟨?_, ih (k + 1) fun t e' he pS => hk (t + 1) e' (by simpa using he) (by omega)⟩
   by_cases h0 : k = d
   ·exact .inl h0
   ·exact .inr (hk 0 e (by simp) (by omega))
 exact this σ 0 (fun t e he pS => h t e he (by omega))
theorem Hj {σ : St} {t : Nat} {e : Ent} (h : σ[t]? = some e) (j : Nat) : σ.ob t j = Yo e.2 j := by unfold St.ob; rw [h]
theorem SS {σ : St} {t j : Nat} {o : Ob} (h : σ.ob t j = o) (hn : o ≠ .none) : ∃ e, σ[t]? = some e /\ Yo e.2 j = o := by
 unfold St.ob at h
 split at h
 ·rename_i e he; exact ⟨e, he, h⟩
 ·exact absurd h.symm hn
theorem Pz {u : Nat} : ∀ {os : List Ob} {j : Nat} {cells : List At}, Yo os j = .box cells -> YU u cells = true -> Y0 u os = true
 | [], _, _, h, _ => by simp [Yo] at h
 | o :: os, 0, cells, h, hr => by
  have : o = .box cells := h
  subst this
  simp [Y0, hr]
 | o :: os, j + 1, cells, h, hr => by
  have h' : Yo os j = .box cells := by simpa [Yo] using h
  have := Pz h' hr
  cases o <;> simp [Y0, this]
theorem xT {u s : Nat} {q : Bool} {r : List (List D)} : ∀ {os : List Ob} {j : Nat}, Yo os j = .arr q s r -> Y0 u (os.set j .none) = Y0 u os
 | [], _, h => by simp [Yo] at h
 | o :: os, 0, h => by
  have : o = .arr q s r := h
  subst this
  simp [Y0]
 | o :: os, j + 1, h => by
  have h' : Yo os j = .arr q s r := by simpa [Yo] using h
  have := xT (u := u) h'
  cases o <;> simp [Y0, this]
theorem NX {σ : St} {d : Nat} (h : XZ σ d = true) {e : Ent} (he : σ[d]? = some e) (u : Nat) : e.1.ref u = false /\ Y0 u e.2 = false := by
 unfold XZ at h
 split at h
 ·rename_i h1; rw [he] at h1; cases h1; exact ⟨rfl, rfl⟩
 ·rename_i h1; rw [he] at h1; cases h1; exact ⟨rfl, rfl⟩
 ·cases h
section
variable {P : Program} {ops : Array Oper} {o x y : Oper} {d dx dy : Nat} {σ σ1 σ2 : St}
theorem kY (hd : o.dst = some d) (hs : XR P ops o σ1 σ2) : ∃ e : Eff, σ2 = e.ap d σ1 /\ Ly P ops o d σ1 e := by
 unfold XR at hs
 split at hs
 ·rename_i hg
  simp only [hd] at hs
  exact wm hg hd hs
 ·rename_i j want hg
  obtain ⟨dj, d', g, v, nI, pa, pd, nP, hv, rfl⟩ := hs
  rw [hd] at pd; cases pd
  refine ⟨.put (.cnd g v), rfl, trivial, (fun t j v os h => by cases h), fun _ => ⟨_, rfl⟩, (fun h => by rw [hg] at h; cases h), fun σ oH _ => ?_⟩
  have ou : Operand.tmp dj ∈ ya ops o := by simp [ya, hg, nI]
  have od : σ.get dj = σ1.get dj := (oH.look _ ou 0).symm
  unfold XR
  simp only [hg]
  refine ⟨dj, d, g, v, nI, by rw [<- oH.len]; exact pa, hd, by rw [od]; exact nP, fun hQ => ?_, rfl⟩
  have nb := hv hQ
  have iN := oH.left
  unfold MC at nb ⊢
  split at nb
  ·rename_i c pP
   split at nb
   ·rename_i f hc
    obtain ⟨own, res, dM, rfl⟩ := nb
    rw [pP] at iN
    exact ⟨own, res, SG (Oy iN) dM, rfl⟩
   ·obtain ⟨v0, h1, h2⟩ := nb
    exact ⟨v0, ks h1 iN, h2⟩
  ·obtain ⟨v0, h1, h2⟩ := nb
   exact ⟨v0, ks h1 iN, h2⟩
theorem zs (e : Eff) : (e.ap d σ).length = σ.length := by
 cases e <;> simp [Eff.ap, St.Q0, St.kE, St.Xa]
theorem MD (e : Eff) {t : Nat} (pS : t ≠ d) : (e.ap d σ).get t = σ.get t := by
 cases e with
 | put v => simp [Eff.ap, St.K4, pS]
 | new v os => simp [Eff.ap, St.Wi, pS]
 | drop a j v os => simp [Eff.ap, St.Wi, St.QL, pS]
theorem B7 {t u : Nat} (h : (σ.get t).ref u = true) : ∃ e, σ[t]? = some e /\ e.1.ref u = true := by
 unfold St.get at h
 split at h
 ·rename_i e he; exact ⟨e, he, h⟩
 ·cases h
end
end Go.Vm
namespace Go.Vm
open Go.RowKit
section
variable {P : Program} {ops : Array Oper} {x y : Oper} {dx dy : Nat} {σ σ1 σ2 : St}
theorem za {d : Nat} (hf : ∀ t e, σ[t]? = some e -> t ≠ d -> e.1.ref d = false) {z : Operand} (hz : z ≠ .tmp d) (ty : TypeId) : (look P σ ty z).ref d = false := by
 cases z with
 | tmp t =>
  have pS : t ≠ d := fun h => hz (by rw [h])
  cases hr : (look P σ ty (.tmp t)).ref d with
  | false => rfl
  | true =>
   obtain ⟨e, he, oq⟩ := B7 (σ := σ) (t := t) hr
   rw [hf t e he pS] at oq; cases oq
 | const v => exact U0 ty v d
 | global g => rfl
 | func f => rfl
theorem look_eq {d : Nat} (hg : ∀ t, t ≠ d -> σ1.get t = σ.get t) {z : Operand} (hz : z ≠ .tmp d) (ty : TypeId) : look P σ1 ty z = look P σ ty z := by
 cases z with
 | tmp t => exact hg t (fun h => hz (by rw [h]))
 | const v => rfl
 | global g => rfl
 | func f => rfl
theorem jq {e : Eff} {d : Nat} (h : e.ok d σ) (pS : ∀ v, e ≠ .put v) : ∀ t en, σ[t]? = some en -> t ≠ d -> en.1.ref d = false := by
 intro t en he ht
 cases e with
 | put v => exact absurd rfl (pS v)
 | new v os => exact ((Qe.1 h).2 t en he ht).1
 | drop a j v os =>
  have := (Qe.1 h.2).2 t
  rw [Qr] at this
  by_cases ig : t = a
  ·rw [if_pos ig, he] at this
   exact (this _ rfl ht).1
  ·rw [if_neg ig] at this
   exact (this en he ht).1
theorem P7 {e : Eff} {d : Nat} (h : e.ok d σ) (pS : ∀ v, e ≠ .put v) : ∀ t en, σ[t]? = some en -> t ≠ d -> Y0 d en.2 = false := by
 intro t en he ht
 cases e with
 | put v => exact absurd rfl (pS v)
 | new v os => exact ((Qe.1 h).2 t en he ht).2
 | drop a j v os =>
  obtain ⟨⟨q, s, r, ho⟩, hf⟩ := h
  have := (Qe.1 hf).2 t
  rw [Qr] at this
  by_cases ig : t = a
  ·rw [if_pos ig, he] at this
   have h2 := (this _ rfl ht).2
   subst ig
   rw [Hj he] at ho
   rw [xT ho] at h2
   exact h2
  ·rw [if_neg ig] at this
   exact (this en he ht).2
theorem ue {e : Eff} {d : Nat} (h : e.ok d σ) (pS : ∀ v, e ≠ .put v) : d < σ.length := by
 cases e with
 | put v => exact absurd rfl (pS v)
 | new v os => exact (Qe.1 h).1
 | drop a j v os => have := (Qe.1 h.2).1; rwa [St.Xa] at this
theorem Bc {e : Eff} {d : Nat} (h : e.ok d σ) {u j : Nat} (hu : (∀ v, e ≠ .put v) -> u ≠ d) (hn : (e.ap d σ).ob u j ≠ .none) : σ.ob u j = (e.ap d σ).ob u j := by
 cases e with
 | put v => simp only [Eff.ap, St.Q7]
 | new v os =>
  have := hu (by intro v h; cases h)
  simp only [Eff.ap, St.Jx, this, false_and, if_false]
 | drop a k v os =>
  have gB := hu (by intro v h; cases h)
  obtain ⟨⟨q, s, r, ho⟩, _⟩ := h
  simp only [Eff.ap, St.Jx, gB, false_and, if_false] at hn ⊢
  rw [St.JC σ a k _ u j (by rw [ho]; simp)] at hn ⊢
  split at hn
  ·exact absurd rfl hn
  ·rename_i hh; rw [if_neg hh]
theorem ON {e : Eff} {d : Nat} (oW : ∀ t j v os, e ≠ .drop t j v os) {u j : Nat} (hu : (∀ v, e ≠ .put v) -> u ≠ d) : (e.ap d σ).ob u j = σ.ob u j := by
 cases e with
 | put v => simp only [Eff.ap, St.Q7]
 | new v os =>
  have := hu (by intro v h; cases h)
  simp only [Eff.ap, St.Jx, this, false_and, if_false]
 | drop a k v os => exact absurd rfl (oW a k v os)
theorem wQ {e : Eff} {d t : Nat} {en : Ent} (po : e.ok d σ) (ht : t ≠ d) (he : (e.ap d σ)[t]? = some en) : ∃ aB, σ[t]? = some aB /\ aB.1 = en.1 /\ ∀ u, Y0 u aB.2 = Y0 u en.2 := by
 cases e with
 | put v => simp only [Eff.ap, ji, if_neg ht] at he; exact ⟨en, he, rfl, fun _ => rfl⟩
 | new v os => simp only [Eff.ap, yg, if_neg ht] at he; exact ⟨en, he, rfl, fun _ => rfl⟩
 | drop a j v os =>
  simp only [Eff.ap, yg, if_neg ht, Qr] at he
  split at he
  ·rename_i ig
   subst ig
   obtain ⟨⟨q, s, r, ho⟩, _⟩ := po
   obtain ⟨e0, lG, oc⟩ := SS ho (by simp)
   rw [lG] at he
   simp at he
   subst he
   exact ⟨e0, lG, rfl, fun u => (xT oc).symm⟩
  ·exact ⟨en, he, rfl, fun _ => rfl⟩
theorem swap (nO : x.dst = some dx) (nh : y.dst = some dy) (pS : dx ≠ dy) (m5 : ∀ z ∈ ya ops y, z ≠ .tmp dx) (ic : ∀ z ∈ ya ops x, z ≠ .tmp dy) (oW : VA y = false) (cr : y.guard = none \/ K6 x = true \/ x.guard.isSome = true)
  (oG : XZ σ dx = true) (h1 : XR P ops x σ σ1) (h2 : XR P ops y σ1 σ2) : ∃ σ1', XR P ops y σ σ1' /\ XR P ops x σ1' σ2 := by
 obtain ⟨ex, rfl, l3, iM, dN, _, frx⟩ := kY nO h1
 obtain ⟨ey, rfl, oky, dO, _, bY, fry⟩ := kY nh h2
 have eh : ∀ t j v os, ey ≠ .drop t j v os := by
  intro t j v os h
  have := (dO t j v os h).1
  rw [oW] at this; cases this
 have bm : Sub P (ya ops y) (ex.ap dx σ) σ := by
  refine ⟨zs ex, fun z hz ty => look_eq (fun t ht => MD ex ht) (m5 z hz) ty, fun z hz ty u hr j hn => ?_⟩
  refine Bc l3 (fun nj hu => ?_) hn
  subst hu
  rw [look_eq (fun t ht => MD ex ht) (m5 z hz) ty, za (jq l3 nj) (m5 z hz)] at hr
  cases hr
 have gw : ey.ok dy σ := by
  cases ey with
  | put v => trivial
  | drop a j v os => exact absurd rfl (eh a j v os)
  | new v os =>
   have hf := Qe.1 oky
   refine Qe.2 ⟨by rw [<- zs ex (d := dx)]; exact hf.1, fun t e he ht => ?_⟩
   by_cases fG : t = dx
   ·subst fG; exact NX oG he dy
   ·cases ex with
    | put v' => exact hf.2 t e (by simp only [Eff.ap, ji, if_neg fG]; exact he) ht
    | new v' gl => exact hf.2 t e (by simp only [Eff.ap, yg, if_neg fG]; exact he) ht
    | drop a j v' gl =>
     obtain ⟨⟨q, s, r, ho⟩, _⟩ := l3
     by_cases ig : t = a
     ·subst ig
      have := hf.2 t (e.1, e.2.set j .none) (by simp only [Eff.ap, yg, if_neg fG, Qr, if_true, he, Option.map_some]) ht
      rw [Hj he] at ho
      rw [xT ho] at this
      exact this
     ·exact hf.2 t e (by simp only [Eff.ap, yg, if_neg fG, Qr, if_neg ig]; exact he) ht
 have dP := fry σ bm gw
 have dQ : Sub P (ya ops x) σ (ey.ap dy σ) := by
  refine ⟨(zs ey).symm, fun z hz ty => (look_eq (fun t ht => MD ey ht) (ic z hz) ty).symm, fun z hz ty u hr j hn => ?_⟩
  refine ON eh (fun nj hu => ?_)
  subst hu
  rw [za (jq gw nj) (ic z hz)] at hr
  cases hr
 have bn : (∀ v, ex ≠ .put v) -> ey.ref dx = false := by
  intro nj
  have hg : y.guard = none := by
   rcases cr with h | h
   ·exact h
   ·obtain ⟨v, hv⟩ := dN h; exact absurd hv (nj v)
  cases hr : ey.ref dx with
  | false => rfl
  | true =>
   obtain ⟨z, hz, ty, oY⟩ := bY hg dx pS hr
   have hl : look P (ex.ap dx σ) ty z = look P σ ty z := look_eq (fun t ht => MD ex ht) (m5 z hz) ty
   rw [hl] at oY
   rcases oY with oY | ⟨t', cells, cv, ho, hc⟩
   ·rw [za (jq l3 nj) (m5 z hz)] at oY; cases oY
   ·have fG : t' ≠ dx := by
     intro h; subst h
     rw [za (jq l3 nj) (m5 z hz)] at cv; cases cv
    have pv : σ.ob t' 0 = .box cells := by rw [Bc l3 (fun _ => fG) (by rw [ho]; simp), ho]
    obtain ⟨en, bZ, ba⟩ := SS pv (by simp)
    have := P7 l3 nj t' en bZ fG
    rw [Pz ba hc] at this; cases this
 have entries : (∀ v, ex ≠ .put v) -> ∀ t e, (ey.ap dy σ)[t]? = some e -> t ≠ dx -> e.1.ref dx = false /\ Y0 dx e.2 = false := by
  intro nj t e he ht
  have hy := bn nj
  by_cases nZ : t = dy
  ·subst nZ
   cases ey with
   | put v =>
    simp only [Eff.ap, ji, if_true, Option.map_eq_some_iff] at he
    obtain ⟨e0, lG, rfl⟩ := he
    exact ⟨hy, P7 l3 nj t e0 lG ht⟩
   | new v os =>
    simp only [Eff.ap, yg, if_true, Option.map_eq_some_iff] at he
    obtain ⟨e0, lG, rfl⟩ := he
    simp only [Eff.ref, Bool.or_eq_false_iff] at hy
    exact hy
   | drop a j v os => exact absurd rfl (eh a j v os)
  ·obtain ⟨e0, lG, h1, h2⟩ := wQ gw nZ he
   rw [<- h1, <- h2]
   exact ⟨jq l3 nj t e0 lG ht, P7 l3 nj t e0 lG ht⟩
 have bp : ex.ok dx (ey.ap dy σ) := by
  cases ex with
  | put v => trivial
  | new v os =>
   have nj : ∀ v', Eff.new v os ≠ .put v' := by intro v' h; cases h
   exact Qe.2 ⟨by rw [zs]; exact ue l3 nj, entries nj⟩
  | drop a j v os =>
   have nj : ∀ v', Eff.drop a j v os ≠ .put v' := by intro v' h; cases h
   obtain ⟨z, hz, ty, hr⟩ := (iM a j v os rfl).2
   obtain ⟨q, s, r, ho⟩ := l3.1
   have pv : (ey.ap dy σ).ob a j = .arr q s r := by rw [<- ho]; exact dQ.ob z hz ty a hr j (by rw [ho]; simp)
   refine ⟨⟨q, s, r, pv⟩, Qe.2 ⟨by rw [St.Xa, zs]; exact ue l3 nj, fun t e he ht => ?_⟩⟩
   rw [Qr] at he
   split at he
   ·rename_i ig
    subst ig
    obtain ⟨e0, lG, oc⟩ := SS pv (by simp)
    rw [lG] at he; simp at he; subst he
    have := entries nj t e0 lG ht
    exact ⟨this.1, by rw [xT oc]; exact this.2⟩
   ·exact entries nj t e he ht
 refine ⟨_, dP, ?_⟩
 have := frx _ dQ bp
 have heq : ex.ap dx (ey.ap dy σ) = ey.ap dy (ex.ap dx σ) := by
  apply List.ext_getElem?
  intro t
  have hnexy := pS
  cases ex with
  | put v =>
   cases ey with
   | put v' => simp only [Eff.ap, ji]; by_cases h1 : t = dx <;> by_cases h2 : t = dy <;> simp_all
   | new v' gl => simp only [Eff.ap, ji, yg]; by_cases h1 : t = dx <;> by_cases h2 : t = dy <;> simp_all
   | drop a j v' gl => exact absurd rfl (eh a j v' gl)
  | new v os =>
   cases ey with
   | put v' => simp only [Eff.ap, ji, yg]; by_cases h1 : t = dx <;> by_cases h2 : t = dy <;> simp_all
   | new v' gl => simp only [Eff.ap, yg]; by_cases h1 : t = dx <;> by_cases h2 : t = dy <;> simp_all
   | drop a j v' gl => exact absurd rfl (eh a j v' gl)
  | drop a j v os =>
   obtain ⟨z, hz, ty, hr⟩ := (iM a j v os rfl).2
   cases ey with
   | put v' =>
    simp only [Eff.ap, ji, yg, Qr]
    by_cases h1 : t = dx <;> by_cases h2 : t = dy <;> by_cases h3 : t = a <;> simp_all
    all_goals (first | (cases σ[dy]? <;> rfl) | (cases σ[t]? <;> rfl) | (cases σ[a]? <;> rfl))
   | new v' gl =>
    have hay : a ≠ dy := by
     intro h; subst h
     rw [za (jq gw (by intro v h; cases h)) (ic z hz)] at hr; cases hr
    simp only [Eff.ap, yg, Qr]
    by_cases h1 : t = dx <;> by_cases h2 : t = dy <;> by_cases h3 : t = a <;> simp_all
   | drop a' j' v' gl => exact absurd rfl (eh a' j' v' gl)
 rw [<- heq]
 exact this
end
end Go.Vm
namespace Go.Vm
open Go.RowKit
def DK (ops : Array Oper) (bar : Oper -> Bool) (x y : Oper) : Bool := !bar x && !bar y &&
 (match x.dst, y.dst with
 | some dx, some dy => dx != dy && !(ya ops y).any (yr dx) && !(ya ops x).any (yr dy) && !VA y && (y.guard.isNone || K6 x || x.guard.isSome)
 | _, _ => false)
def Dh (bar : Oper -> Bool) (x y : Oper) : Bool := !bar x && !bar y && x.guard.isNone && y.guard.isNone &&
 (match x.dst, y.dst, y.op with
 | some dx, none, .store _ p q => (match x.op with | .move _ => true | .assign _ => true | .extract _ _ => true | _ => false) && !yr dx p && !yr dx q
 | _, _, _ => false)
def DV (bar : Oper -> Bool) (x y : Oper) : Bool := !bar x && bar y && x.guard.isNone && Uc y && y.guard.isNone && y.dst.isNone &&
 (match x.dst with
 | some dx => (match x.op with | .move _ => true | .assign _ => true | .extract _ _ => true | _ => false) && Wr y dx
 | none => false)
def Ro (PT : List (Nat × Nat)) (σ : St) : Prop := ∀ p ∈ PT, σ.get p.1 = .any \/ ∃ c, unc (σ.get p.1) = .one (.bptr p.2 c)
def ptB (PT : List (Nat × Nat)) (σ : St) : Bool := PT.all fun p => match σ.get p.1 with | .any => true | v => (match unc v with | .one (.bptr b _) => b == p.2 | _ => false)
def HY (ops : Array Oper) (PT : List (Nat × Nat)) : Bool := ops.toList.all fun o => match o.dst with
 | none => true
 | some d => PT.all fun p => p.1 != d || (o.guard.isNone && (match o.op with | .fieldAddr _ (.tmp r) _ => PT.contains (r, p.2) | .move (.tmp r) => PT.contains (r, p.2) | _ => false))
def RB (PT : List (Nat × Nat)) (b : Nat) : Op -> Bool
 | .load _ (.tmp t) => PT.any fun r => r.1 == t && r.2 != b
 | .fieldAddr _ _ _ => true
 | .move _ => true
 | .assign _ => true
 | .extract _ _ => true
 | .binOp _ _ _ _ _ => true
 | .call ⟨.builtin .len, ⟨[_]⟩, ⟨[_]⟩⟩ => true
 | _ => false
def swapT (PT : List (Nat × Nat)) (bar : Oper -> Bool) (x y : Oper) : Bool := !bar x && !bar y && x.guard.isNone && y.guard.isNone &&
 (match x.dst, y.dst, y.op with
 | some dx, none, .store _ (.tmp tp) q => tp != dx && !yr dx q && PT.any fun p => p.1 == tp && RB PT p.2 x.op
 | _, _, _ => false)
def Lp (NB : List Nat) (σ : St) : Prop := ∀ t ∈ NB, ∀ b c, unc (σ.get t) ≠ .one (.bptr b c)
def nbB (NB : List Nat) (σ : St) : Bool := NB.all fun t => match unc (σ.get t) with | .one (.bptr _ _) => false | _ => true
def IE (P : Program) (ops : Array Oper) (NB : List Nat) : Bool := ops.toList.all fun o => match o.dst with
 | none => true
 | some d => NB.all fun t => t != d || (o.guard.isNone && (match o.op with | .indexAddr T _ _ => XW P T | _ => false))
def Gl (PT : List (Nat × Nat)) (NB : List Nat) (σ : St) : Prop := Ro PT σ /\ Lp NB σ
def DQ (PT : List (Nat × Nat)) (NB : List Nat) (bar : Oper -> Bool) (x y : Oper) : Bool := !bar x && bar y && x.guard.isNone && Uc y && y.guard.isNone && y.dst.isNone &&
 (match x.dst, y.op with
 | some dx, .store _ (.tmp tp) q => NB.contains tp && tp != dx && !yr dx q && (match x.op with | .load _ (.tmp t) => PT.any fun r => r.1 == t | .fieldAddr _ (.tmp t) _ => PT.any fun r => r.1 == t | _ => false)
 | _, _ => false)
def BI (PT : List (Nat × Nat)) : Op -> Bool
 | .move _ => true
 | .load _ (.tmp t) => PT.any fun r => r.1 == t
 | .fieldAddr _ (.tmp _) _ => true
 | .slice _ (.tmp _) _ _ none => true
 | _ => false
def Dr (PT : List (Nat × Nat)) (ops : Array Oper) (bar : Oper -> Bool) (x y : Oper) : Bool := bar x && !bar y && j8 x && x.guard.isNone && y.guard.isNone && BI PT y.op &&
 (match x.dst, y.dst with
 | some dx, some dy => dx != dy && !(ya ops y).any (yr dx) && !(ya ops x).any (yr dy)
 | _, _ => false)
def ES (PT : List (Nat × Nat)) (o : Oper) : Option Nat := match o.op with | .call ⟨.value (.func _), ⟨.tmp z :: _⟩, _⟩ => (PT.find? (fun p => p.1 == z)).map (·.2) | _ => none
def tk : Operand -> Bool
 | .const _ => true
 | _ => false
def Nh (PT : List (Nat × Nat)) (y x : Oper) : Bool := (x.op.operands.toList.all tk && !VA x) || (match ES PT y with | some b => RB PT b x.op | none => false)
def Dv (P : Program) (PT : List (Nat × Nat)) (ops : Array Oper) (bar : Oper -> Bool) (x y : Oper) : Bool := x.guard.isNone && y.guard.isNone && PR bar x && PR bar y && (match x.dst, y.dst with
 | some dx, some dy => dx != dy && !(ya ops y).any (yr dx) && !(ya ops x).any (yr dy) && ((!bar x && bar y && Kj P y && Nh PT y x) || (bar x && Kj P x && !bar y && Nh PT x y))
 | _, _ => false)
def Og (o : Oper) (j : Nat) : Bool := o.after.any fun e => e.on == j && Region.binds .any e
def O5 : List Oper -> List Nat -> List Nat
 | [], acc => acc
 | o :: rest, acc => O5 rest (acc ++ [o.after.toList.foldl (fun m e => if Region.binds .any e then m ||| (1 <<< e.on) ||| acc.getD e.on 0 else m) 0])
def Bb (ms : List Nat) (i j : Nat) : Bool := (ms.getD i 0).testBit j
inductive Pre (ops : Array Oper) : Nat -> Nat -> Prop
 | one {i j : Nat} {o : Oper} (ho : ops[i]? = some o) (hp : Og o j = true) : Pre ops i j
 | more {i m j : Nat} {o : Oper} (ho : ops[i]? = some o) (hp : Og o m = true) (h : Pre ops m j) : Pre ops i j
theorem FE {ops : Array Oper} : ∀ {l : List Oper} {acc : List Nat}, (∀ k o, l[k]? = some o -> ops[acc.length + k]? = some o) -> (∀ i j, (acc.getD i 0).testBit j = true -> Pre ops i j) -> ∀ i j, Bb (O5 l acc) i j = true -> Pre ops i j
 | [], acc, _, ha, i, j, h => ha i j h
 | o :: rest, acc, hl, ha, i, j, h => by
  refine FE (l := rest) (fun k o' hk => ?_) (fun i j iL => ?_) i j h
  ·have := hl (k + 1) o' (by simpa using hk)
   rw [List.length_append, List.length_singleton, Nat.add_assoc, Nat.add_comm 1 k]; exact this
  ·rw [List.getD_eq_getElem?_getD] at iL
   rcases Nat.lt_trichotomy i acc.length with pa | heq | hQ
   ·rw [List.getElem?_append_left pa, <- List.getD_eq_getElem?_getD] at iL
    exact ha i j iL
   ·subst heq
    rw [List.getElem?_append_right (Nat.le_refl _)] at iL
    simp only [Nat.sub_self, List.getElem?_cons_zero, Option.getD_some] at iL
    have ho := hl 0 o (by simp)
    rw [Nat.add_zero] at ho
    have key : ∀ (es : List Edge) (m : Nat), (∀ e ∈ es, e ∈ o.after) -> (∀ j, m.testBit j = true -> Pre ops acc.length j) -> ∀ j, (es.foldl (fun m e => if Region.binds .any e then m ||| (1 <<< e.on) ||| acc.getD e.on 0 else m) m).testBit j = true -> Pre ops acc.length j := by
     intro es
     induction es with
     | nil => intro m _ hm j hj; exact hm j hj
     | cons e es ih =>
      intro m hes hm j hj
      refine ih _ (fun e' dI => hes e' (by simp [dI])) (fun j hj => ?_) j hj
      by_cases hb : Region.binds .any e = true
      ·simp only [hb, if_true] at hj
       have hp : Og o e.on = true := by
        unfold Og
        rw [<- Array.any_toList]
        exact List.any_eq_true.2 ⟨e, by simpa using hes e (by simp), by simp [hb]⟩
       rw [Nat.testBit_or, Nat.testBit_or, Bool.or_eq_true, Bool.or_eq_true] at hj
       rcases hj with (hj | hj) | hj
       ·exact hm j hj
       ·rw [Nat.testBit_shiftLeft] at hj
        simp only [Bool.and_eq_true, decide_eq_true_eq] at hj
        have h1 : j - e.on = 0 := by
         have := hj.2
         rw [show (1 : Nat) = 2 ^ 0 from rfl, Nat.testBit_two_pow] at this
         have h3 : 0 = j - e.on := by simpa using this
         omega
        have : j = e.on := by omega
        subst this
        exact .one ho hp
       ·exact .more ho hp (ha e.on j hj)
      ·simp only [hb, Bool.false_eq_true, if_false] at hj; exact hm j hj
    exact key o.after.toList 0 (fun e he => by simpa using he) (fun j hj => by simp at hj) j iL
   ·rw [List.getElem?_eq_none (by simp; omega)] at iL
    simp at iL
def DM (ops : Array Oper) (i j : Nat) : Bool := Bb (O5 ops.toList []) i j
theorem AH {ops : Array Oper} {i j : Nat} (h : DM ops i j = true) : Pre ops i j :=
 FE (l := ops.toList) (acc := []) (fun k o hk => by simpa using hk) (fun i j h => by simp at h) i j h
def uf (P : Program) (ops : Array Oper) (bar : Oper -> Bool) (PT : List (Nat × Nat)) (NB : List Nat) (ms : List Nat) (i j : Nat) : Bool := match ops[i]?, ops[j]? with | some oi, some oj => Bb ms i j || DK ops bar oj oi || Dh bar oj oi || swapT PT bar oj oi || DV bar oj oi || Dr PT ops bar oj oi || DQ PT NB bar oj oi || Dv P PT ops bar oj oi | _, _ => false
def uc (ops : Array Oper) (pos : Nat -> Nat) (i : Nat) : Bool := match ops[i]? with | some o => o.after.all fun e => !Region.binds .any e || (decide (pos e.on < pos i) && decide (e.on < ops.size)) | none => false
def Ba (ops : Array Oper) (j : Nat) : Bool := match ops[j]? with
 | some o => (match o.dst with | some d => (List.range ops.size).all fun k => k == j || (match ops[k]? with | some q => q.dst != some d | none => true) | none => false)
 | none => false
def Fi (ops : Array Oper) (pos : Nat -> Nat) (ms : List Nat) (j : Nat) : Bool := (List.range ops.size).any fun i => decide (pos j < pos i) && !Bb ms i j
def SR (ops : Array Oper) (pos : Nat -> Nat) (j : Nat) : Bool := Fi ops pos (O5 ops.toList []) j
def Bs (P : Program) (ops : Array Oper) (pos : Nat -> Nat) (bar : Oper -> Bool) (PT : List (Nat × Nat)) (NB : List Nat) (ms : List Nat) : Bool :=
 (List.range ops.size).all fun i => uc ops pos i && ((List.range ops.size).all fun j => !decide (pos j < pos i) || uf P ops bar PT NB ms i j) && (!Fi ops pos ms i || Ba ops i)
def Oi (P : Program) (ops : Array Oper) (pos : Nat -> Nat) (bar : Oper -> Bool) : Bool := Bs P ops pos bar [] [] (O5 ops.toList [])
def xP (ops : Array Oper) (pos : Nat -> Nat) (σ : St) : Bool :=
 let ms := O5 ops.toList []
 (List.range ops.size).all fun j => !Fi ops pos ms j || (match (ops[j]?).bind (·.dst) with | some d => XZ σ d | none => false)
theorem W6 {xs : List Operand} {d : Nat} (h : xs.any (yr d) = false) : ∀ z ∈ xs, z ≠ .tmp d := by
 intro z hz he
 subst he
 have := List.any_eq_false.1 h _ hz
 simp [yr] at this
theorem Cx {ops : Array Oper} {bar : Oper -> Bool} {x y : Oper} (h : DK ops bar x y = true) : bar x = false /\ bar y = false /\ ∃ dx dy, x.dst = some dx /\ y.dst = some dy /\ dx ≠ dy /\ (∀ z ∈ ya ops y, z ≠ .tmp dx) /\ (∀ z ∈ ya ops x, z ≠ .tmp dy) /\ VA y = false /\ (y.guard = none \/ K6 x = true \/ x.guard.isSome = true) := by
 unfold DK at h
 rw [Bool.and_eq_true, Bool.and_eq_true] at h
 obtain ⟨⟨og, oK⟩, h⟩ := h
 refine ⟨by simpa using og, by simpa using oK, ?_⟩
 split at h
 ·rename_i dx dy h1 h2
  simp only [Bool.and_eq_true, bne_iff_ne, ne_eq, Bool.not_eq_true', Bool.or_eq_true, Option.isNone_iff_eq_none] at h
  exact ⟨dx, dy, h1, h2, h.1.1.1.1, W6 h.1.1.1.2, W6 h.1.1.2, h.1.2, or_assoc.1 h.2⟩
 ·cases h
theorem zb {P : Program} {σ : St} {t j : Nat} {o : Ob} {T : TypeId} {x : Operand} : look P (σ.YC t j o) T x = look P σ T x := by
 cases x with
 | tmp u => simp [look, St.QL]
 | const c => rfl
 | global g => rfl
 | func f => rfl
theorem RR {σ : St} {d : Nat} {v : V} : ∀ (xs : List At), rowOf (σ.put d v) xs = rowOf σ xs
 | [] => rfl
 | x :: xs => by
  have : zz (σ.put d v) x = zz σ x := by cases x <;> simp [zz, St.Q7]
  simp only [rowOf, this, RR xs]
theorem uS {P : Program} {ops : Array Oper} {bar : Oper -> Bool} {x y : Oper} {σ σ1 σ2 : St} (h : Dh bar x y = true) (oV : Kv P ops bar x σ σ1) (pc : Kv P ops bar y σ1 σ2) : ∃ σ1', XR P ops y σ σ1' /\ XR P ops x σ1' σ2 := by
 unfold Dh at h
 simp only [Bool.and_eq_true, Bool.not_eq_true', Option.isNone_iff_eq_none] at h
 obtain ⟨⟨⟨⟨og, oK⟩, l8⟩, mJ⟩, h⟩ := h
 have oV := oV.resolve_right (fun hh => by rw [og] at hh; cases hh.1)
 have pc := pc.resolve_right (fun hh => by rw [oK] at hh; cases hh.1)
 split at h
 ·rename_i dx T p q nO nh pP
  simp only [Bool.and_eq_true, Bool.not_eq_true'] at h
  obtain ⟨⟨hv, hp⟩, hq⟩ := h
  unfold XR at oV pc
  simp only [l8, nO] at oV
  simp only [mJ, nh, pP] at pc
  have e1 : ∃ v, Yc P σ x.op x.type v /\ σ1 = σ.put dx v := by
   unfold Step at oV
   cases hx : x.op <;> rw [hx] at oV hv <;> first | exact oV | (exact Bool.noConfusion hv)
  obtain ⟨v, nb, rfl⟩ := e1
  have oa : ∀ (t j : Nat) (o : Ob), Yc P (σ.YC t j o) x.op x.type v := by
   intro t j o
   cases hx : x.op <;> rw [hx] at hv nb <;> first | (exact Bool.noConfusion hv) | (simp only [Yc, zb] at nb ⊢; exact nb)
  have dE : ∀ (t j : Nat) (o : Ob), XR P ops x (σ.YC t j o) ((σ.put dx v).YC t j o) := by
   intro t j o
   unfold XR
   simp only [l8, nO]
   have := oa t j o
   rw [qJ]
   unfold Step
   cases hx : x.op <;> rw [hx] at hv this <;> first | exact ⟨v, this, rfl⟩ | (exact Bool.noConfusion hv)
  unfold xG at pc
  rw [XV hp, XV hq] at pc
  obtain ⟨k1, k2, k3, k4, pc⟩ := pc
  split at pc
  ·rename_i t c hl
   obtain ⟨cells, c1, c2, c3, rfl⟩ := pc
   rw [St.Q7] at c1
   refine ⟨_, ?_, dE _ _ _⟩
   unfold XR xG
   simp only [mJ, nh, pP]
   refine ⟨k1, k2, k3, k4, ?_⟩
   rw [hl]
   exact ⟨cells, c1, c2, c3, rfl⟩
  ·rename_i t j i c hl
   obtain ⟨q', size, rows, ds, c1, c2, c3, c4, c5, c6, c7, rfl⟩ := pc
   rw [St.Q7] at c1
   rw [RR] at c3
   refine ⟨_, ?_, dE _ _ _⟩
   unfold XR xG
   simp only [mJ, nh, pP]
   refine ⟨k1, k2, k3, k4, ?_⟩
   rw [hl]
   exact ⟨q', size, rows, ds, c1, c2, c3, c4, c5, c6, c7, rfl⟩
  ·exact pc.elim
 ·cases h
theorem xl {P : Program} {σ : St} {T : TypeId} {t : Nat} : look P σ T (.tmp t) = σ.get t := rfl
theorem RX {P : Program} {PT : List (Nat × Nat)} {b : Nat} {o : Oper} {op : Op} {d : Nat} {σ σ' : St} (ho : o.op = op) (h : RB PT b op = true) : Step P o d σ σ' ↔ ∃ v, Yc P σ op o.type v /\ σ' = σ.put d v := by
 unfold Step
 rw [ho]
 unfold RB at h
 split at h <;> first | exact Iff.rfl | (exact Bool.noConfusion h)
theorem BT {P : Program} {PT : List (Nat × Nat)} {b : Nat} {op : Op} {ty : TypeId} {v : V} {σ : St} {cells cs : List At} (h : RB PT b op = true) (hp : Ro PT σ) (c1 : σ.ob b 0 = .box cells) (hv : Yc P σ op ty v) : Yc P (σ.YC b 0 (.box cs)) op ty v := by
 have pS : σ.ob b 0 ≠ .none := by rw [c1]; intro e; cases e
 have ho := fun u i => St.JC σ b 0 (.box cs) u i pS
 have o8 : ∀ t j, (∃ q size rows, σ.ob t j = .arr q size rows) -> ∃ q size rows, (σ.YC b 0 (.box cs)).ob t j = .arr q size rows := by
  rintro t j ⟨q, size, rows, e⟩
  by_cases hh : t = b /\ j = 0
  ·obtain ⟨rfl, rfl⟩ := hh; rw [c1] at e; cases e
  ·exact ⟨q, size, rows, by rw [ho, if_neg hh]; exact e⟩
 have gC : ∀ t j, (∃ size rows, σ.ob t j = .lit size rows) -> ∃ size rows, (σ.YC b 0 (.box cs)).ob t j = .lit size rows := by
  rintro t j ⟨size, rows, e⟩
  by_cases hh : t = b /\ j = 0
  ·obtain ⟨rfl, rfl⟩ := hh; rw [c1] at e; cases e
  ·exact ⟨size, rows, by rw [ho, if_neg hh]; exact e⟩
 have gv : ∀ t, (∃ cells, σ.ob t 0 = .box cells) -> ∃ cells, (σ.YC b 0 (.box cs)).ob t 0 = .box cells := by
  rintro t ⟨ce, e⟩
  by_cases hh : t = b
  ·subst hh; exact ⟨cs, by rw [ho, if_pos ⟨rfl, rfl⟩]⟩
  ·exact ⟨ce, by rw [ho, if_neg (fun hh2 => hh hh2.1)]; exact e⟩
 unfold RB at h
 split at h
 ·rename_i T t
  simp only [List.any_eq_true, Bool.and_eq_true, beq_iff_eq, bne_iff_ne, ne_eq] at h
  obtain ⟨r, hrm, rfl, bb⟩ := h
  simp only [Yc, zb] at hv ⊢
  refine ⟨hv.1, hv.2.1, ?_⟩
  have hv := hv.2.2
  rw [xl] at hv ⊢
  rcases hp r hrm with e | ⟨c, e⟩
  ·rw [e] at hv; exact hv.elim
  ·rw [e] at hv ⊢
   obtain ⟨ce, e1, e2, e3⟩ := hv
   exact ⟨ce, by rw [ho, if_neg (fun hh => bb hh.1)]; exact e1, e2, e3⟩
 ·simp only [Yc, zb] at hv ⊢
  refine ⟨hv.1, hv.2.1, ?_⟩
  have hv := hv.2.2
  split at hv
  ·rename_i e; first | exact ⟨gv _ hv.1, hv.2⟩ | (simp only [e]; exact ⟨gv _ hv.1, hv.2⟩)
  ·rename_i e; first | exact ⟨o8 _ _ hv.1, hv.2⟩ | (simp only [e]; exact ⟨o8 _ _ hv.1, hv.2⟩)
  ·rename_i e; first | exact hv | (simp only [e]; exact hv)
  ·rename_i e
   have hq : ∀ t j, (∃ size rows, σ.ob t j = .arr true size rows) -> ∃ size rows, (σ.YC b 0 (.box cs)).ob t j = .arr true size rows := by
    rintro t j ⟨size, rows, e⟩
    by_cases hh : t = b /\ j = 0
    ·obtain ⟨rfl, rfl⟩ := hh; rw [c1] at e; cases e
    ·exact ⟨size, rows, by rw [ho, if_neg hh]; exact e⟩
   first | exact ⟨hq _ _ hv.1, hv.2⟩ | (simp only [e]; exact ⟨hq _ _ hv.1, hv.2⟩)
  ·exact hv.elim
 ·simp only [Yc, zb] at hv ⊢; exact hv
 ·simp only [Yc, zb] at hv ⊢; exact hv
 ·simp only [Yc, zb] at hv ⊢; exact hv
 ·simp only [Yc, zb] at hv ⊢; exact hv
 ·simp only [Yc, zb] at hv ⊢
  refine ⟨hv.1, ?_⟩
  have hv := hv.2
  split at hv
  ·rename_i e; first | exact hv | (simp only [e]; exact hv)
  ·rename_i e; first | exact hv | (simp only [e]; exact hv)
  ·rename_i e; first | exact hv | (simp only [e]; exact hv)
  ·rename_i e; first | exact ⟨hv.1, hv.2.1.imp (o8 _ _) (gC _ _), hv.2.2⟩ | (simp only [e]; exact ⟨hv.1, hv.2.1.imp (o8 _ _) (gC _ _), hv.2.2⟩)
  ·rename_i u j i c e
   obtain ⟨g1, size, rows, n, s, g2, g3⟩ := hv
   have g4 : (σ.YC b 0 (.box cs)).ob u j = .arr true size rows := by
    rw [ho]
    by_cases hh : u = b /\ j = 0
    ·obtain ⟨rfl, rfl⟩ := hh; rw [c1] at g2; cases g2
    ·rw [if_neg hh]; exact g2
   first | exact ⟨g1, size, rows, n, s, g4, g3⟩ | (simp only [e]; exact ⟨g1, size, rows, n, s, g4, g3⟩)
  ·exact hv.elim
 ·exact Bool.noConfusion h
theorem tR {P : Program} {ops : Array Oper} {bar : Oper -> Bool} {PT : List (Nat × Nat)} {x y : Oper} {σ σ1 σ2 : St} (h : swapT PT bar x y = true) (hp : Ro PT σ) (oV : Kv P ops bar x σ σ1) (pc : Kv P ops bar y σ1 σ2) : ∃ σ1', XR P ops y σ σ1' /\ XR P ops x σ1' σ2 := by
 unfold swapT at h
 simp only [Bool.and_eq_true, Bool.not_eq_true', Option.isNone_iff_eq_none] at h
 obtain ⟨⟨⟨⟨og, oK⟩, l8⟩, mJ⟩, h⟩ := h
 have oV := oV.resolve_right (fun hh => by rw [og] at hh; cases hh.1)
 have pc := pc.resolve_right (fun hh => by rw [oK] at hh; cases hh.1)
 split at h
 ·rename_i dx T tp q nO nh pP
  simp only [Bool.and_eq_true, Bool.not_eq_true', List.any_eq_true, beq_iff_eq, bne_iff_ne, ne_eq] at h
  obtain ⟨⟨pS, hq⟩, p, ff, n7, hv⟩ := h
  have oU : yr dx (.tmp tp) = false := by simp [yr, pS]
  unfold XR at oV pc
  simp only [l8, nO] at oV
  simp only [mJ, nh, pP] at pc
  obtain ⟨v, nb, rfl⟩ := (RX rfl hv).1 oV
  unfold xG at pc
  rw [XV oU, XV hq, xl] at pc
  obtain ⟨k1, k2, k3, k4, pc⟩ := pc
  have nw := hp p ff
  rw [n7] at nw
  rcases nw with nw | ⟨c, nw⟩
  ·rw [nw] at pc; exact pc.elim
  ·rw [nw] at pc
   obtain ⟨cells, c1, c2, c3, rfl⟩ := pc
   rw [St.Q7] at c1
   refine ⟨σ.YC p.2 0 (.box (place cells c (unc (look P σ T q)).cells)), ?_, ?_⟩
   ·unfold XR xG
    simp only [mJ, nh, pP]
    refine ⟨k1, by rw [xl]; exact k2, k3, k4, ?_⟩
    rw [xl, nw]
    exact ⟨cells, c1, c2, c3, rfl⟩
   ·unfold XR
    simp only [l8, nO]
    rw [qJ]
    exact (RX rfl hv).2 ⟨v, BT hv hp c1 nb, rfl⟩
 ·cases h
theorem ja : ∀ (σ : St) (d : Nat), σ.put d (σ.get d) = σ
 | [], _ => rfl
 | e :: σ, 0 => by simp [St.put, St.get]
 | e :: σ, d + 1 => by have := ja σ d; simp only [St.put, St.get, List.getElem?_cons_succ] at this ⊢; rw [this]
theorem OZ : ∀ (σ : St) (d : Nat) (v v' : V), (σ.put d v).put d v' = σ.put d v'
 | [], _, _, _ => rfl
 | e :: σ, 0, _, _ => rfl
 | e :: σ, d + 1, v, v' => by simp [St.put, OZ σ d v v']
theorem HZ {P : Program} {σ σ' : St} (h : ∀ u, σ'.get u = σ.get u) {T : TypeId} {x : Operand} : look P σ' T x = look P σ T x := by
 cases x with
 | tmp u => exact h u
 | const c => rfl
 | global g => rfl
 | func f => rfl
theorem tP {P : Program} {ops : Array Oper} {bar : Oper -> Bool} {x y : Oper} {σ σ1 σ2 : St} {d : Nat} (h : DV bar x y = true) (nO : x.dst = some d) (oG : XZ σ d = true) (oV : Kv P ops bar x σ σ1) (pc : Kv P ops bar y σ1 σ2) : ∃ σ1', Kv P ops bar y σ σ1' /\ XR P ops x σ1' σ2 := by
 unfold DV at h
 simp only [nO, Bool.and_eq_true, Bool.not_eq_true', Option.isNone_iff_eq_none] at h
 obtain ⟨⟨⟨⟨⟨⟨og, oK⟩, l8⟩, pt⟩, mJ⟩, nh⟩, hv, hu⟩ := h
 have oV := oV.resolve_right (fun hh => by rw [og] at hh; cases hh.1)
 unfold XR at oV
 simp only [l8, nO] at oV
 have e1 : ∃ v, Yc P σ x.op x.type v /\ σ1 = σ.put d v := by
  unfold Step at oV
  cases hx : x.op <;> rw [hx] at oV hv <;> first | exact oV | (exact Bool.noConfusion hv)
 obtain ⟨v, nb, rfl⟩ := e1
 have back : ∀ σ', (∀ u, σ'.get u = σ.get u) -> XR P ops x σ' (σ'.put d v) := by
  intro σ' hg
  unfold XR
  simp only [l8, nO]
  have : Yc P σ' x.op x.type v := by
   cases hx : x.op <;> rw [hx] at hv nb <;> first | (exact Bool.noConfusion hv) | (simp only [Yc, HZ hg] at nb ⊢; exact nb)
  unfold Step
  cases hx : x.op <;> rw [hx] at hv this <;> first | exact ⟨v, this, rfl⟩ | (exact Bool.noConfusion hv)
 rcases pc with pc | ⟨_, _, _, hk, _⟩
 · -- a plain store
  unfold Uc at pt
  split at pt
  ·rename_i T p q pP
   simp only [Wr, pP, Bool.and_eq_true, Bool.not_eq_true'] at hu
   unfold XR at pc
   simp only [mJ, nh, pP] at pc
   unfold xG at pc
   rw [XV hu.1, XV hu.2] at pc
   obtain ⟨k1, k2, k3, k4, pc⟩ := pc
   split at pc
   ·rename_i t c hl
    obtain ⟨cells, c1, c2, c3, rfl⟩ := pc
    rw [St.Q7] at c1
    refine ⟨σ.YC t 0 (.box (place cells c (unc (look P σ T q)).cells)), .inl ?_, ?_⟩
    ·unfold XR xG
     simp only [mJ, nh, pP]
     refine ⟨k1, k2, k3, k4, ?_⟩
     rw [hl]
     exact ⟨cells, c1, c2, c3, rfl⟩
    ·rw [qJ]; exact back _ (fun u => St.QL _ _ _ _ _)
   ·rename_i t j i c hl
    obtain ⟨q', size, rows, ds, c1, c2, c3, c4, c5, c6, c7, rfl⟩ := pc
    rw [St.Q7] at c1
    rw [RR] at c3
    refine ⟨σ.YC t j (.arr q' size (rows.set i (place (rows.getD i []) c ds))), .inl ?_, ?_⟩
    ·unfold XR xG
     simp only [mJ, nh, pP]
     refine ⟨k1, k2, k3, k4, ?_⟩
     rw [hl]
     exact ⟨q', size, rows, ds, c1, c2, c3, c4, c5, c6, c7, rfl⟩
    ·rw [qJ]; exact back _ (fun u => St.QL _ _ _ _ _)
   ·exact pc.elim
  ·cases pt
 ·obtain ⟨⟨mN, od⟩, oZ, gv⟩ := hk pt
  rw [St.Q0] at mN
  have iA : MA (σ.get d) = true := by
   rw [qH] at oG
   unfold St.get
   rcases oG with e | ⟨x', e⟩ <;> rw [e] <;> rfl
  have hq : ∀ l : List (Nat × V), (σ.put d v).KJ ((d, σ.get d) :: l) = σ.KJ l := fun l => by rw [St.KJ, OZ, ja]
  have h0 := oZ [(d, σ.get d)] (fun p hp => by cases List.mem_singleton.1 hp; exact ⟨hu, iA⟩)
  rw [hq []] at h0
  have hlen : d < σ.length := by
   rw [qH] at oG
   rcases oG with e | ⟨x', e⟩ <;> exact (List.getElem?_eq_some_iff.1 e).1
  have hJ : ∀ u, (σ2.put d (σ.get d)).get u = σ.get u := fun u => by
   rw [St.K4]
   by_cases gB : u = d /\ d < σ2.length
   ·rw [if_pos gB, gB.1]
   ·rw [if_neg gB, od, St.K4]
    have fj : ¬ u = d := fun e => gB ⟨e, by rw [mN]; exact hlen⟩
    rw [if_neg (fun hh => fj hh.1)]
  refine ⟨σ2.put d (σ.get d), .inr ⟨oK, h0.1, h0.2, fun _ => ⟨⟨by rw [St.Q0]; exact mN, hJ⟩, fun l hl => ?_, fun t cells hb => by rw [St.Q7]; exact gv t cells (by rw [St.Q7]; exact hb)⟩, fun hh => (by rw [E1 pt] at hh; cases hh), fun hh _ => (by rw [CR pt] at hh; cases hh)⟩, ?_⟩
  ·have := oZ ((d, σ.get d) :: l) (fun p hp => by
    rcases List.mem_cons.1 hp with rfl | hp
    ·exact ⟨hu, iA⟩
    ·exact hl p hp)
   rw [hq l] at this
   exact this
  ·have := back _ hJ
   rw [OZ] at this
   have e : σ2.put d v = σ2 := by
    have g1 := od d
    rw [St.K4, if_pos ⟨rfl, hlen⟩] at g1
    rw [<- g1]; exact ja σ2 d
   rw [e] at this
   exact this
theorem tS {P : Program} {ops : Array Oper} {bar : Oper -> Bool} {PT : List (Nat × Nat)} {NB : List Nat} {x y : Oper} {σ σ1 σ2 : St} {d : Nat} (h : DQ PT NB bar x y = true) (hp : Ro PT σ) (bS : Lp NB σ) (nO : x.dst = some d) (oG : XZ σ d = true) (oV : Kv P ops bar x σ σ1) (pc : Kv P ops bar y σ1 σ2) : ∃ σ1', Kv P ops bar y σ σ1' /\ XR P ops x σ1' σ2 := by
 unfold DQ at h
 simp only [nO, Bool.and_eq_true, Bool.not_eq_true', Option.isNone_iff_eq_none] at h
 obtain ⟨⟨⟨⟨⟨⟨og, oK⟩, l8⟩, pt⟩, mJ⟩, nh⟩, h⟩ := h
 have oV := oV.resolve_right (fun hh => by rw [og] at hh; cases hh.1)
 split at h
 ·rename_i dx T tp q bW pP
  cases bW
  simp only [Bool.and_eq_true, Bool.not_eq_true', bne_iff_ne, ne_eq, List.contains_iff_mem] at h
  obtain ⟨⟨⟨htp, pS⟩, hq⟩, hv⟩ := h
  have oU : yr d (.tmp tp) = false := by simp [yr, pS]
  have hu : Wr y d = true := by simp only [Wr, pP, oU, hq]; rfl
  unfold XR at oV
  simp only [l8, nO] at oV
  have e1 : ∃ v, Yc P σ x.op x.type v /\ σ1 = σ.put d v := by
   unfold Step at oV
   cases hx : x.op <;> rw [hx] at oV hv <;> first | exact oV | (exact Bool.noConfusion hv)
  obtain ⟨v, nb, rfl⟩ := e1
  have back : ∀ σ', (∀ u, σ'.get u = σ.get u) -> (∀ t cells, σ.ob t 0 = .box cells -> σ'.ob t 0 = .box cells) -> XR P ops x σ' (σ'.put d v) := by
   intro σ' hg gv
   unfold XR
   simp only [l8, nO]
   have : Yc P σ' x.op x.type v := by
    cases hx : x.op <;> rw [hx] at hv nb <;> try exact Bool.noConfusion hv
    case load T' z =>
     cases z with
     | tmp t =>
      simp only [List.any_eq_true, beq_iff_eq] at hv
      obtain ⟨p, ff, n7⟩ := hv
      simp only [Yc, HZ hg] at nb ⊢
      refine ⟨nb.1, nb.2.1, ?_⟩
      have oa := nb.2.2
      have nw := hp p ff
      rw [n7] at nw
      rw [xl] at oa ⊢
      rcases nw with e | ⟨c, e⟩
      ·rw [e] at oa; exact oa.elim
      ·rw [e] at oa ⊢
       obtain ⟨ce, k1, k2⟩ := oa
       exact ⟨ce, gv _ _ k1, k2⟩
     | _ => exact Bool.noConfusion hv
    case fieldAddr T' z f =>
     cases z with
     | tmp t =>
      simp only [List.any_eq_true, beq_iff_eq] at hv
      obtain ⟨p, ff, n7⟩ := hv
      simp only [Yc, HZ hg] at nb ⊢
      refine ⟨nb.1, nb.2.1, ?_⟩
      have oa := nb.2.2
      have nw := hp p ff
      rw [n7] at nw
      rw [xl] at oa ⊢
      rcases nw with e | ⟨c, e⟩
      ·rw [e] at oa; exact oa.elim
      ·rw [e] at oa ⊢
       obtain ⟨⟨ce, k1⟩, k2⟩ := oa
       exact ⟨⟨ce, gv _ _ k1⟩, k2⟩
     | _ => exact Bool.noConfusion hv
   unfold Step
   cases hx : x.op <;> rw [hx] at hv this <;> first | exact ⟨v, this, rfl⟩ | (exact Bool.noConfusion hv)
  rcases pc with pc | ⟨_, _, _, hk, _⟩
  ·unfold XR at pc
   simp only [mJ, nh, pP] at pc
   unfold xG at pc
   rw [XV oU, XV hq] at pc
   obtain ⟨k1, k2, k3, k4, pc⟩ := pc
   split at pc
   ·rename_i t c hl
    exact absurd hl (bS tp htp t c)
   ·rename_i t j i c hl
    obtain ⟨q', size, rows, ds, c1, c2, c3, c4, c5, c6, c7, rfl⟩ := pc
    rw [St.Q7] at c1
    rw [RR] at c3
    refine ⟨σ.YC t j (.arr q' size (rows.set i (place (rows.getD i []) c ds))), .inl ?_, ?_⟩
    ·unfold XR xG
     simp only [mJ, nh, pP]
     refine ⟨k1, k2, k3, k4, ?_⟩
     rw [hl]
     exact ⟨q', size, rows, ds, c1, c2, c3, c4, c5, c6, c7, rfl⟩
    ·rw [qJ]
     refine back _ (fun u => St.QL _ _ _ _ _) (fun b cells hb => ?_)
     have fk : σ.ob t j ≠ .none := by rw [c1]; simp
     rw [St.JC σ t j _ b 0 fk]
     split
     ·rename_i hc; rw [hc.1, hc.2] at hb; rw [c1] at hb; cases hb
     ·exact hb
   ·exact pc.elim
  ·obtain ⟨⟨mN, od⟩, oZ, gv⟩ := hk pt
   rw [St.Q0] at mN
   have iA : MA (σ.get d) = true := by
    rw [qH] at oG
    unfold St.get
    rcases oG with e | ⟨x', e⟩ <;> rw [e] <;> rfl
   have hqq : ∀ l : List (Nat × V), (σ.put d v).KJ ((d, σ.get d) :: l) = σ.KJ l := fun l => by rw [St.KJ, OZ, ja]
   have h0 := oZ [(d, σ.get d)] (fun p hp => by cases List.mem_singleton.1 hp; exact ⟨hu, iA⟩)
   rw [hqq []] at h0
   have hlen : d < σ.length := by
    rw [qH] at oG
    rcases oG with e | ⟨x', e⟩ <;> exact (List.getElem?_eq_some_iff.1 e).1
   have hJ : ∀ u, (σ2.put d (σ.get d)).get u = σ.get u := fun u => by
    rw [St.K4]
    by_cases gB : u = d /\ d < σ2.length
    ·rw [if_pos gB, gB.1]
    ·rw [if_neg gB, od, St.K4]
     have fj : ¬ u = d := fun e => gB ⟨e, by rw [mN]; exact hlen⟩
     rw [if_neg (fun hh => fj hh.1)]
   have dR : ∀ t cells, σ.ob t 0 = .box cells -> (σ2.put d (σ.get d)).ob t 0 = .box cells := fun t cells hb => by rw [St.Q7]; exact gv t cells (by rw [St.Q7]; exact hb)
   refine ⟨σ2.put d (σ.get d), .inr ⟨oK, h0.1, h0.2, fun _ => ⟨⟨by rw [St.Q0]; exact mN, hJ⟩, fun l hl => ?_, dR⟩, fun hh => (by rw [E1 pt] at hh; cases hh), fun hh _ => (by rw [CR pt] at hh; cases hh)⟩, ?_⟩
   ·have := oZ ((d, σ.get d) :: l) (fun p hp => by
     rcases List.mem_cons.1 hp with rfl | hp
     ·exact ⟨hu, iA⟩
     ·exact hl p hp)
    rw [hqq l] at this
    exact this
   ·have := back _ hJ dR
    rw [OZ] at this
    have e : σ2.put d v = σ2 := by
     have g1 := od d
     rw [St.K4, if_pos ⟨rfl, hlen⟩] at g1
     rw [<- g1]; exact ja σ2 d
    rw [e] at this
    exact this
 ·cases h
theorem ss {P : Program} {PT : List (Nat × Nat)} {σ σ1 : St} {d : Nat} (od : ∀ t, t ≠ d -> σ1.get t = σ.get t /\ (σ.get t).ref d = false) (nt : ∀ t j cells, t ≠ d -> σ1.ob t j = .box cells -> σ.ob t j = .box cells /\ YU d cells = false)
  (o8 : ∀ t j q s rows, t ≠ d -> σ1.ob t j = .arr q s rows -> ∃ ph, σ.ob t j = .arr q s ph) (hp : Ro PT σ) {op : Op} {ty : TypeId} {v : V} (l0 : BI PT op = true) (lE : ∀ z ∈ op.operands.toList, z ≠ .tmp d) (hv : Yc P σ1 op ty v) : Yc P σ op ty v /\ v.ref d = false := by
 have hl : ∀ (z : Operand) (T : TypeId), z ≠ .tmp d -> look P σ1 T z = look P σ T z := by
  intro z T hz
  cases z with
  | tmp u => exact (od u (fun e => hz (by rw [e]))).1
  | const c => rfl
  | global g => rfl
  | func f => rfl
 have hr : ∀ (z : Operand) (T : TypeId), z ≠ .tmp d -> (look P σ T z).ref d = false := by
  intro z T hz
  cases z with
  | tmp u => exact (od u (fun e => hz (by rw [e]))).2
  | const c => exact U0 T c d
  | global g => rfl
  | func f => rfl
 have pS : ∀ (z : Operand) (T : TypeId) (x : At), z ≠ .tmp d -> unc (look P σ T z) = .one x -> x.ref d = false := by
  intro z T x hz hu
  cases hx : x.ref d with
  | false => rfl
  | true => have := QG hu hx; rw [hr z T hz] at this; cases this
 refine ⟨?_, ?_⟩
 ·cases op <;> simp only [BI] at l0 <;> try exact Bool.noConfusion l0
  case move x =>
   simp only [Yc] at hv ⊢
   rw [hv, hl x ty (lE x (by simp [Op.operands]))]
  case load T x =>
   cases x with
   | tmp t =>
    have ht : Operand.tmp t ≠ .tmp d := lE _ (by simp [Op.operands])
    simp only [List.any_eq_true, beq_iff_eq] at l0
    obtain ⟨p, ff, n7⟩ := l0
    simp only [Yc] at hv ⊢
    rw [hl _ 0 ht] at hv
    refine ⟨hv.1, hv.2.1, ?_⟩
    have oa := hv.2.2
    have nw := hp p ff
    rw [n7] at nw
    rw [xl] at oa ⊢
    rcases nw with e | ⟨c, e⟩
    ·rw [e] at oa; exact oa.elim
    ·rw [e] at oa ⊢
     obtain ⟨ce, e1, e2⟩ := oa
     have hb : p.2 ≠ d := by
      have := pS (.tmp t) 0 (.bptr p.2 c) ht (by rw [xl]; exact e)
      simpa [At.ref] using this
     exact ⟨ce, (nt _ _ _ hb e1).1, e2⟩
   | _ => exact Bool.noConfusion l0
  case fieldAddr T x f =>
   cases x with
   | tmp t =>
    have ht : Operand.tmp t ≠ .tmp d := lE _ (by simp [Op.operands])
    simp only [Yc] at hv ⊢
    rw [hl _ 0 ht] at hv
    refine ⟨hv.1, hv.2.1, ?_⟩
    have oa := hv.2.2
    split at oa
    ·rename_i t' c e
     have hb : t' ≠ d := by have := pS _ _ _ ht e; simpa [At.ref] using this
     obtain ⟨⟨ce, e1⟩, e2⟩ := oa
     first | exact ⟨⟨ce, (nt _ _ _ hb e1).1⟩, e2⟩ | (simp only [e]; exact ⟨⟨ce, (nt _ _ _ hb e1).1⟩, e2⟩)
    ·rename_i t' j i c e
     have hb : t' ≠ d := by have := pS _ _ _ ht e; simpa [At.ref] using this
     obtain ⟨⟨q, s, rows, e1⟩, e2⟩ := oa
     obtain ⟨ph, e3⟩ := o8 _ _ _ _ _ hb e1
     first | exact ⟨⟨q, s, ph, e3⟩, e2⟩ | (simp only [e]; exact ⟨⟨q, s, ph, e3⟩, e2⟩)
    ·rename_i rr c e; first | exact oa | (simp only [e]; exact oa)
    ·rename_i t' j i c k e
     have hb : t' ≠ d := by have := pS _ _ _ ht e; simpa [At.ref] using this
     obtain ⟨⟨s, rows, e1⟩, e2⟩ := oa
     obtain ⟨ph, e3⟩ := o8 _ _ _ _ _ hb e1
     first | exact ⟨⟨s, ph, e3⟩, e2⟩ | (simp only [e]; exact ⟨⟨s, ph, e3⟩, e2⟩)
    ·exact oa.elim
   | _ => exact Bool.noConfusion l0
  case slice T x lo hi mx =>
   cases x with
   | tmp t =>
    cases mx with
    | some m => exact Bool.noConfusion l0
    | none =>
     have ht : Operand.tmp t ≠ .tmp d := lE _ (by simp [Op.operands])
     have hN : ∀ (df n : Nat) (z : Option Operand), (∀ y, z = some y -> y ≠ .tmp d) -> bnd P σ1 df z n -> bnd P σ df z n := by
      intro df n z hz h
      cases z with
      | none => exact h
      | some z => simp only [bnd] at h ⊢; rw [hl z 0 (hz z rfl)] at h; exact h
     have mZ : ∀ y, lo = some y -> y ≠ .tmp d := fun y e => lE y (by subst e; simp [Op.operands])
     have iB : ∀ y, hi = some y -> y ≠ .tmp d := fun y e => lE y (by subst e; simp [Op.operands])
     simp only [Yc] at hv ⊢
     rw [hl _ 0 ht] at hv
     refine ⟨hv.1, ?_⟩
     have oa := hv.2
     split at oa
     ·rename_i s e
      obtain ⟨h1, l, h, h2, h3, h4⟩ := oa
      first | exact ⟨h1, l, h, hN _ _ _ mZ h2, hN _ _ _ iB h3, h4⟩ | (simp only [e]; exact ⟨h1, l, h, hN _ _ _ mZ h2, hN _ _ _ iB h3, h4⟩)
     ·rename_i s rows e
      obtain ⟨h1, h0, l, h, h2, h3, h4⟩ := oa
      first | exact ⟨h1, h0, l, h, hN _ _ _ mZ h2, hN _ _ _ iB h3, h4⟩ | (simp only [e]; exact ⟨h1, h0, l, h, hN _ _ _ mZ h2, hN _ _ _ iB h3, h4⟩)
     ·rename_i t' j o len e
      have hb : t' ≠ d := by have := pS _ _ _ ht e; simpa [At.ref] using this
      obtain ⟨h1, ⟨q, rows, e1⟩, l, h, h2, h3, h4⟩ := oa
      obtain ⟨ph, e3⟩ := o8 _ _ _ _ _ hb e1
      first | exact ⟨h1, ⟨q, ph, e3⟩, l, h, hN _ _ _ mZ h2, hN _ _ _ iB h3, h4⟩ | (simp only [e]; exact ⟨h1, ⟨q, ph, e3⟩, l, h, hN _ _ _ mZ h2, hN _ _ _ iB h3, h4⟩)
     ·exact oa.elim
   | _ => exact Bool.noConfusion l0
 ·cases hx : v.ref d with
  | false => rfl
  | true =>
   obtain ⟨z, hz, T, h1⟩ := MH hv hx
   rw [hl z T (lE z hz)] at h1
   rcases h1 with h1 | ⟨t, cells, h1, h2, h3⟩
   ·rw [hr z T (lE z hz)] at h1; cases h1
   ·by_cases fq : t = d
    ·rw [fq, hr z T (lE z hz)] at h1; cases h1
    ·have := (nt t 0 cells fq h2).2
     rw [this] at h3; cases h3
theorem tM {P : Program} {ops : Array Oper} {bar : Oper -> Bool} {PT : List (Nat × Nat)} {x y : Oper} {σ σ1 σ2 : St} {d : Nat} (h : Dr PT ops bar x y = true) (hp : Ro PT σ) (nO : x.dst = some d) (oG : XZ σ d = true) (oV : Kv P ops bar x σ σ1) (pc : Kv P ops bar y σ1 σ2) : ∃ σ1', Kv P ops bar y σ σ1' /\ Kv P ops bar x σ1' σ2 := by
 unfold Dr at h
 simp only [Bool.and_eq_true, Bool.not_eq_true', Option.isNone_iff_eq_none] at h
 obtain ⟨⟨⟨⟨⟨⟨og, oK⟩, hZ⟩, l8⟩, mJ⟩, l0⟩, h⟩ := h
 rw [nO] at h
 cases nh : y.dst with
 | none => rw [nh] at h; cases h
 | some dy =>
  rw [nh] at h
  simp only [Bool.and_eq_true, Bool.not_eq_true', bne_iff_ne, ne_eq] at h
  obtain ⟨⟨pS, m5⟩, ic⟩ := h
  have dS := W6 m5
  have dT := W6 ic
  have pc := pc.resolve_right (fun hh => by rw [oK] at hh; cases hh.1)
  rcases oV with oV | ⟨_, hss, hck, _, fE, _⟩
  ·have oW : VA y = false := by
    unfold VA
    cases pP : y.op <;> rw [pP] at l0 <;> first | rfl | (exact Bool.noConfusion l0)
   obtain ⟨σ1', hy, hx⟩ := swap nO nh pS dS dT oW (.inl mJ) oG oV pc
   exact ⟨σ1', .inl hy, .inl hx⟩
  ·obtain ⟨d', pd, hlen, od, nt, o8, oZ⟩ := fE hZ
   rw [nO] at pd; cases pd
   have e2 : ∃ v, Yc P σ1 y.op y.type v /\ σ2 = σ1.put dy v := by
    unfold XR at pc
    simp only [mJ, nh] at pc
    unfold Step at pc
    cases pP : y.op <;> rw [pP] at pc l0 <;> first | exact pc | (exact Bool.noConfusion l0)
   obtain ⟨v, hv, rfl⟩ := e2
   obtain ⟨gi, fg⟩ := ss od nt o8 hp l0 (fun z hz => dS z (by simp only [ya, List.mem_append]; exact .inl hz)) hv
   have hun : Ml x dy = true := by
    simp only [Ml, Bool.not_eq_true']
    refine List.any_eq_false.2 (fun z hz => ?_)
    have := dT z (by simp only [ya, List.mem_append]; exact .inl hz)
    cases z <;> simp [yr] at this ⊢
    exact this
   have po : ∀ p ∈ [(dy, v)], p.1 ≠ d /\ Ml x p.1 = true /\ p.2.ref d = false := fun p hp => by
    cases List.mem_singleton.1 hp; exact ⟨fun e => pS e.symm, hun, fg⟩
   have h0 := oZ [(dy, v)] po
   refine ⟨σ.put dy v, .inl ?_, .inr ⟨og, h0.1, h0.2, fun hh => (by rw [E1 hh] at hZ; cases hZ), fun _ => ⟨d, nO, by rw [St.Q0, St.Q0]; exact hlen, fun t ht => ?_, fun t j cells ht hb => ?_, fun t j q s rows ht hb => ?_, fun l hl => ?_⟩, fun hh _ => (by rw [wD hZ] at hh; cases hh)⟩⟩
   ·unfold XR
    simp only [mJ, nh]
    unfold Step
    cases pP : y.op <;> rw [pP] at gi l0 <;> first | exact ⟨v, gi, rfl⟩ | (exact Bool.noConfusion l0)
   ·have h1 := od t ht
    rw [St.K4, St.K4, hlen]
    by_cases hc : t = dy /\ dy < σ.length
    ·simp only [if_pos hc]; exact ⟨trivial, fg⟩
    ·simp only [if_neg hc]; exact h1
   ·rw [St.Q7] at hb ⊢; exact nt t j cells ht hb
   ·rw [St.Q7] at hb ⊢; exact o8 t j q s rows ht hb
   ·exact oZ ((dy, v) :: l) (fun p hp => by
     rcases List.mem_cons.1 hp with rfl | hp
     ·exact po _ (by simp)
     ·exact hl p hp)
theorem Bz {σ : St} {t j : Nat} (hn : σ.ob t j ≠ .none) : σ.YC t j (σ.ob t j) = σ := by
 apply List.ext_getElem?
 intro u
 rw [Qr]
 by_cases hu : u = t
 ·subst hu
  obtain ⟨e, he, ho⟩ := SS (σ := σ) (t := u) (j := j) rfl hn
  rw [if_pos rfl, he, Option.map_some]
  have : e.2.set j (σ.ob u j) = e.2 := by
   rw [<- ho]
   apply List.ext_getElem?
   intro k
   rw [List.getElem?_set]
   by_cases hk : j = k
   ·subst hk
    rw [if_pos rfl]
    split
    ·rename_i pa; unfold Yo; rw [List.getElem?_eq_getElem pa]
    ·rename_i pa; exact (List.getElem?_eq_none (by omega)).symm
   ·rw [if_neg hk]
  rw [this]
 ·rw [if_neg hu]
theorem DN (σ : St) (t j : Nat) (o o' : Ob) : (σ.YC t j o).YC t j o' = σ.YC t j o' := by
 apply List.ext_getElem?
 intro u
 rw [Qr, Qr, Qr]
 by_cases hu : u = t
 ·simp only [if_pos hu]
  cases σ[u]? <;> simp
 ·simp only [if_neg hu]
section
variable {P : Program} {ops : Array Oper} {σ : St} {t d dx : Nat} {cells cs : List At} {v : V} {os : Option (List Ob)}
theorem Rb : (yM t d cs v os σ).length = σ.length := by
 cases os <;> simp [yM, St.Q0, St.kE, St.Xa]
theorem En {u : Nat} (h : u ≠ d) : (yM t d cs v os σ).get u = σ.get u := by
 cases os <;> simp [yM, St.K4, St.Wi, St.QL, h]
theorem tQ {u j : Nat} (hb : σ.ob t 0 = .box cells) (hu : os ≠ none -> u ≠ d) : (yM t d cs v os σ).ob u j = if u = t /\ j = 0 then .box cs else σ.ob u j := by
 have hn : σ.ob t 0 ≠ .none := by rw [hb]; simp
 cases os with
 | none => simp only [yM, St.Q7]; exact St.JC σ t 0 _ u j hn
 | some l =>
  have := hu (by simp)
  simp only [yM, St.Jx, this, false_and, if_false]
  exact St.JC σ t 0 _ u j hn
theorem N1 {u : Nat} : (yM t d cs v os σ)[u]? = if u = d then (σ[u]?).map (fun e => (v, match os with | some l => l | none => if u = t then e.2.set 0 (.box cs) else e.2)) else if u = t then (σ[u]?).map (fun e => (e.1, e.2.set 0 (.box cs))) else σ[u]? := by
 cases os <;> simp only [yM, ji, yg, Qr] <;> by_cases h1 : u = d <;> by_cases h2 : u = t <;> simp [h1, h2] <;> (try subst h1) <;> (try subst h2) <;> (try simp_all) <;> (first | (cases σ[u]? <;> rfl) | (cases σ[t]? <;> rfl) | (cases σ[d]? <;> rfl))
theorem Lx {e : Eff} (oW : ∀ a j w l, e ≠ .drop a j w l) (h1 : dx ≠ d) (h2 : (∀ w, e ≠ .put w) -> t ≠ dx) : e.ap dx (yM t d cs v os σ) = yM t d cs v os (e.ap dx σ) := by
 apply List.ext_getElem?
 intro u
 rw [N1]
 cases e with
 | put w =>
  simp only [Eff.ap, ji, N1]
  by_cases e1 : u = dx
  ·subst e1
   simp only [if_true, if_neg h1]
   by_cases e2 : u = t <;> simp [e2] <;> (first | (cases σ[u]? <;> rfl) | (cases σ[t]? <;> rfl) | rfl)
  ·simp only [if_neg e1]
 | new w l =>
  have h3 := h2 (by intro w h; cases h)
  simp only [Eff.ap, yg, N1]
  by_cases e1 : u = dx
  ·subst e1
   simp only [if_true, if_neg h1, if_neg (Ne.symm h3)]
  ·simp only [if_neg e1]
 | drop a j w l => exact absurd rfl (oW a j w l)
theorem B4 {u : Nat} (h : σ.fresh u = true) (ni : YU u cs = false) (hv : v.ref u = false /\ ∀ l, os = some l -> Y0 u l = false) : (yM t d cs v os σ).fresh u = true := by
 have hf := Qe.1 h
 refine Qe.2 ⟨by rw [Rb]; exact hf.1, fun k e he hk => ?_⟩
 rw [N1] at he
 have dU : ∀ ef, Y0 u ef = false -> Y0 u (ef.set 0 (.box cs)) = false := by
  intro ef h0
  cases ef with
  | nil => exact h0
  | cons o ef =>
   simp only [List.set_cons_zero]
   cases o <;> simp_all [Y0]
 by_cases h1 : k = d
 ·rw [if_pos h1] at he
  simp only [Option.map_eq_some_iff] at he
  obtain ⟨e0, lG, rfl⟩ := he
  refine ⟨hv.1, ?_⟩
  cases os with
  | some l => exact hv.2 l rfl
  | none =>
   have := (hf.2 k e0 lG hk).2
   simp only
   split
   ·exact dU _ this
   ·exact this
 ·rw [if_neg h1] at he
  split at he
  ·simp only [Option.map_eq_some_iff] at he
   obtain ⟨e0, lG, rfl⟩ := he
   exact ⟨(hf.2 k e0 lG hk).1, dU _ (hf.2 k e0 lG hk).2⟩
  ·exact hf.2 k e he hk
theorem Dp {u : Nat} (hb : σ.ob t 0 = .box cells) (h : (yM t d cs v os σ).fresh u = true) (oG : XZ σ d = true) (hce : YU u cells = false) : σ.fresh u = true := by
 have hf := Qe.1 h
 refine Qe.2 ⟨by rw [<- Rb (σ := σ)]; exact hf.1, fun k e he hk => ?_⟩
 by_cases h1 : k = d
 ·rw [h1] at he; exact NX oG he u
 ·by_cases h2 : k = t
  ·have := hf.2 k (e.1, e.2.set 0 (.box cs)) (by rw [N1, if_neg h1, if_pos h2, he]; rfl) hk
   refine ⟨this.1, ?_⟩
   have h3 := this.2
   rw [h2] at he
   rw [Hj he] at hb
   cases dv : e.2 with
   | nil => rfl
   | cons o ef =>
    rw [dv] at hb h3
    have hb : o = .box cells := hb
    subst hb
    simp only [List.set_cons_zero, Y0, Bool.or_eq_false_iff] at h3 ⊢
    exact ⟨hce, h3.2⟩
  ·exact hf.2 k e (by rw [N1, if_neg h1, if_neg h2]; exact he) hk
theorem CB {PT : List (Nat × Nat)} {x y : Oper} {A : St} {σ2 : St} (hg : x.guard = none) (nO : x.dst = some dx) (pS : dx ≠ d) (fD : ∀ z ∈ ya ops x, z ≠ .tmp d) (hb : σ.ob t 0 = .box cells) (ot : os ≠ none -> (σ.YC t 0 (.box cs)).fresh d = true)
  (n7 : Ro PT σ) (nt : ∀ b, ES PT y = some b -> b = t) (oD : Nh PT y x = true) (hA : A = σ \/ A = yM t d cs v os σ) (hs : XR P ops x A σ2) :
  ∃ e : Eff, σ2 = e.ap dx A /\ (∀ a j w l, e ≠ .drop a j w l) /\ e.ok dx A /\ ∀ B, (B = σ \/ B = yM t d cs v os σ) -> e.ok dx B -> XR P ops x B (e.ap dx B) /\ ∀ u, u ≠ dx -> e.ref u = true -> NG P (ya ops x) B u := by
 have pP : ya ops x = x.op.operands.toList := by simp [ya, hg]
 simp only [Nh, Bool.or_eq_true, Bool.and_eq_true, Bool.not_eq_true'] at oD
 have dV : A.length = σ.length := by rcases hA with rfl | rfl <;> simp [Rb]
 rcases oD with ⟨hc, oW⟩ | hf
 ·obtain ⟨e, rfl, po, hdr, _, hU, bd⟩ := kY nO hs
  refine ⟨e, rfl, (fun a j w l h => by have := (hdr a j w l h).1; rw [oW] at this; cases this), po, fun B hB bT => ?_⟩
  have dW : B.length = σ.length := by rcases hB with rfl | rfl <;> simp [Rb]
  have hk : ∀ z ∈ ya ops x, ∃ c, z = .const c := by
   intro z hz
   rw [pP] at hz
   have := List.all_eq_true.1 hc z hz
   cases z <;> first | exact ⟨_, rfl⟩ | cases this
  have oH : Sub P (ya ops x) A B := ⟨by rw [dV, dW], fun z hz ty => by obtain ⟨c, rfl⟩ := hk z hz; rfl, fun z hz ty u hr => by obtain ⟨c, rfl⟩ := hk z hz; have h0 := U0 (P := P) ty c u; simp only [look] at hr; rw [h0] at hr; cases hr⟩
  have iC : ∀ u, ¬ NG P (ya ops x) A u := by
   rintro u ⟨z, hz, ty, h | ⟨_, _, h, _, _⟩⟩ <;> (obtain ⟨c, rfl⟩ := hk z hz; have h0 := U0 (P := P) ty c; simp only [look] at h; rw [h0] at h; cases h)
  exact ⟨bd B oH bT, fun u hu hr => absurd (hU hg u hu hr) (iC u)⟩
 ·split at hf
  ·rename_i b hcb
   have bq := nt b hcb
   subst bq
   have hsA : Step P x dx A σ2 := by unfold XR at hs; simp only [hg, nO] at hs; exact hs
   obtain ⟨w, hw, rfl⟩ := (RX rfl hf).1 hsA
   refine ⟨.put w, rfl, (fun a j w' l h => by cases h), trivial, fun B hB _ => ?_⟩
   have fp : ∀ z ∈ x.op.operands.toList, ∀ ty, look P (yM b d cs v os σ) ty z = look P (σ.YC b 0 (.box cs)) ty z := fun z hz ty => by
    rw [zb]; exact look_eq (fun u hu => En hu) (fD z (by rw [pP]; exact hz)) ty
   have iC : os ≠ none -> ∀ z ∈ x.op.operands.toList, ∀ ty, (look P (σ.YC b 0 (.box cs)) ty z).ref d = false := fun hn z hz ty =>
    za (fun t' e he cv => ((Qe.1 (ot hn)).2 t' e he cv).1) (fD z (by rw [pP]; exact hz)) ty
   have dX : ∀ u, (os ≠ none -> u ≠ d) -> ∀ j, (yM b d cs v os σ).ob u j = (σ.YC b 0 (.box cs)).ob u j := fun u hu j => by
    rw [tQ hb hu, St.JC _ _ _ _ _ _ (by rw [hb]; simp)]
   have fw : Yc P (σ.YC b 0 (.box cs)) x.op x.type w -> Yc P (yM b d cs v os σ) x.op x.type w := fun hv => ks hv
    ⟨by rw [Rb, St.Xa], fun z hz ty => (fp z hz ty).symm, fun z hz ty u hr j _ => dX u (fun hn e => by subst e; rw [iC hn z hz ty] at hr; cases hr) j⟩
   have bw : Yc P (yM b d cs v os σ) x.op x.type w -> Yc P (σ.YC b 0 (.box cs)) x.op x.type w := fun hv => ks hv
    ⟨by rw [Rb, St.Xa], fun z hz ty => fp z hz ty, fun z hz ty u hr j _ => (dX u (fun hn e => by subst e; rw [fp z hz ty, iC hn z hz ty] at hr; cases hr) j).symm⟩
   have bt : Ro PT (σ.YC b 0 (.box cs)) := fun p hp => by rw [St.QL]; exact n7 p hp
   have oK : (σ.YC b 0 (.box cs)).ob b 0 = .box cs := by rw [St.JC _ _ _ _ _ _ (by rw [hb]; simp), if_pos ⟨rfl, rfl⟩]
   have m9 : (σ.YC b 0 (.box cs)).YC b 0 (.box cells) = σ := by rw [DN, <- hb]; exact Bz (by rw [hb]; simp)
   have hσ : Yc P σ x.op x.type w := by
    rcases hA with rfl | rfl
    ·exact hw
    ·have := BT (cs := cells) hf bt oK (bw hw)
     rw [m9] at this; exact this
   have hB' : Yc P B x.op x.type w := by
    rcases hB with rfl | rfl
    ·exact hσ
    ·exact fw (BT hf n7 hb hσ)
   refine ⟨?_, fun u hu hr => ?_⟩
   ·unfold XR; simp only [hg, nO]; exact (RX rfl hf).2 ⟨w, hB', rfl⟩
   ·rw [pP]; exact MH hB' hr
  ·cases hf
end
theorem OR {P : Program} {o : Oper} (h : Kj P o = true) : Uc o = false /\ j8 o = false := by
 unfold Kj at h
 split at h
 ·rename_i pP; simp [Uc, j8, pP]
 ·cases h
theorem Bd {P : Program} {PT : List (Nat × Nat)} {σ : St} {y : Oper} {t : Nat} (n7 : Ro PT σ) (h : ∃ z r, (∃ f ts, y.op = .call ⟨.value (.func f), ⟨z :: r⟩, ts⟩) /\ ∃ ty, unc (look P σ ty z) = .one (.bptr t 0)) : ∀ b, ES PT y = some b -> b = t := by
 obtain ⟨z, r, ⟨f, ts, pP⟩, ty, hz⟩ := h
 intro b hb
 unfold ES at hb
 rw [pP] at hb
 cases z with
 | tmp k =>
  simp only [Option.map_eq_some_iff] at hb
  obtain ⟨p, hp, rfl⟩ := hb
  have hk : p.1 = k := by simpa using List.find?_some hp
  have hm := List.mem_of_find?_eq_some hp
  rw [xl] at hz
  rcases n7 p hm with e | ⟨c, e⟩ <;> rw [hk] at e <;> rw [e] at hz <;> simp [unc] at hz
  exact hz.1
 | _ => cases hb
theorem BG {P : Program} {o : Oper} (h : Kj P o = true) : VA o = false := by
 unfold Kj at h
 split at h
 ·rename_i pP; simp [VA, pP]
 ·cases h
theorem Mq {PT : List (Nat × Nat)} {x y : Oper} (h : Nh PT y x = true) : VA x = false := by
 simp only [Nh, Bool.or_eq_true, Bool.and_eq_true, Bool.not_eq_true'] at h
 rcases h with ⟨_, h⟩ | h
 ·exact h
 ·split at h
  ·rename_i b _
   have key : ∀ op, RB PT b op = true -> (match op with | .call ⟨.builtin .append, ⟨.const _ :: _⟩, _⟩ => false | .call ⟨.builtin .append, _, _⟩ => true | _ => false) = false := by
    intro op h
    unfold RB at h
    split at h <;> first | rfl | (exact Bool.noConfusion h)
   exact key _ h
  ·cases h
theorem tA {P : Program} {ops : Array Oper} {bar : Oper -> Bool} {PT : List (Nat × Nat)} {x y : Oper} {σ σ1 σ2 : St} {d : Nat} (h : Dv P PT ops bar x y = true) (hp : Ro PT σ) (hp1 : Ro PT σ1) (nO : x.dst = some d) (oG : XZ σ d = true) (oV : Kv P ops bar x σ σ1) (pc : Kv P ops bar y σ1 σ2) : ∃ σ1', Kv P ops bar y σ σ1' /\ Kv P ops bar x σ1' σ2 := by
 unfold Dv at h
 simp only [nO, Bool.and_eq_true, Option.isNone_iff_eq_none] at h
 obtain ⟨⟨⟨⟨l8, mJ⟩, bg⟩, lH⟩, h⟩ := h
 cases nh : y.dst with
 | none => rw [nh] at h; cases h
 | some dy =>
  rw [nh] at h
  simp only [Bool.and_eq_true, Bool.or_eq_true, Bool.not_eq_true', bne_iff_ne, ne_eq] at h
  obtain ⟨⟨⟨pS, m5⟩, ic⟩, h⟩ := h
  have m5 := W6 m5
  have ic := W6 ic
  have ij : ya ops y = y.op.operands.toList := by simp [ya, mJ]
  have iq : ya ops x = x.op.operands.toList := by simp [ya, l8]
  have dY : ∀ j, σ.ob d j = .none := fun j => by
   rw [qH] at oG
   unfold St.ob
   rcases oG with e | ⟨_, e⟩ <;> rw [e] <;> simp [Yo]
  rcases h with ⟨⟨⟨og, oK⟩, m7⟩, oD⟩ | ⟨⟨⟨og, m7⟩, oK⟩, oD⟩
  ·have oV := oV.resolve_right (fun hh => by rw [og] at hh; cases hh.1)
   rcases pc with pc | ⟨_, _, _, _, _, bh⟩
   ·obtain ⟨σ1', hy, hx⟩ := swap nO nh pS m5 ic (BG m7) (.inl mJ) oG oV pc
    exact ⟨σ1', .inl hy, .inl hx⟩
   ·obtain ⟨d', t, cells, cs, v, os, pd, hb, hz, mI, fg, ot, rfl, oZ⟩ := bh m7 lH
    rw [nh] at pd; cases pd
    obtain ⟨ex, rfl, l3, iM, _⟩ := kY nO oV
    have bu : ∀ a j w l, ex ≠ .drop a j w l := fun a j w l hh => by have := (iM a j w l hh).1; rw [Mq oD] at this; cases this
    have l4 : ∀ z ∈ ya ops y, ∀ ty, look P (ex.ap d σ) ty z = look P σ ty z := fun z hz ty => look_eq (fun u hu => MD ex hu) (m5 z hz) ty
    have fH : ∀ z ∈ ya ops y, ∀ ty u, (look P (ex.ap d σ) ty z).ref u = true -> (∀ w, ex ≠ .put w) -> u ≠ d := fun z hz ty u hr nj e => by
     rw [e, l4 z hz, za (jq l3 nj) (m5 z hz)] at hr; cases hr
    have l5 := hz
    obtain ⟨z, r, ⟨f, ts, pP⟩, ty, eg⟩ := hz
    have ei : z ∈ ya ops y := by rw [ij, pP]; exact zQ (c := ⟨.value (.func f), ⟨z :: r⟩, ts⟩) (by simp)
    have bx : (∀ w, ex ≠ .put w) -> t ≠ d := fH z ei ty t (QG eg (by simp [At.ref]))
    have cx : σ.ob t 0 = .box cells := by rw [Bc l3 bx (by rw [hb]; simp), hb]
    have fq : t ≠ d := fun e => by rw [e, dY] at cx; cases cx
    have ft : os ≠ none -> (σ.YC t 0 (.box cs)).fresh dy = true := fun hn => by
     have hf := Qe.1 (ot hn)
     refine Qe.2 ⟨by have := hf.1; rw [St.Xa] at this ⊢; rwa [zs] at this, fun k e he hk => ?_⟩
     by_cases hkd : k = d
     ·rw [hkd, Qr, if_neg fq.symm] at he
      rw [hkd] at *
      exact NX oG he dy
     ·refine hf.2 k e ?_ hk
      rw [Qr] at he ⊢
      have : (ex.ap d σ)[k]? = σ[k]? := by
       cases ex with
       | put w => simp only [Eff.ap, ji, if_neg hkd]
       | new w l => simp only [Eff.ap, yg, if_neg hkd]
       | drop a j w l => exact absurd rfl (bu a j w l)
      rw [this]; exact he
    obtain ⟨e, heq, oW, po, hB⟩ := CB (v := v) l8 nO pS ic cx ft hp (Bd hp1 l5) oD (.inl rfl) oV
    rw [heq] at hb l5 ot oZ l4 fH ⊢
    have ov : ∀ z ∈ ya ops y, ∀ ty u, (look P (e.ap d σ) ty z).ref u = true -> ∀ j, (e.ap d σ).ob u j ≠ .none -> σ.ob u j = (e.ap d σ).ob u j := fun z hz ty u hr j hn =>
     Bc po (fun nj hu => by rw [hu, l4 z hz, za (jq po nj) (m5 z hz)] at hr; cases hr) hn
    have h0 := oZ σ (zs e) (fun z hz ty => l4 z (by rw [ij]; exact hz) ty) (fun z hz ty u hr j hn => ov z (by rw [ij]; exact hz) ty u hr j hn) ft
    refine ⟨yM t dy cs v os σ, .inr ⟨oK, h0.1, h0.2, fun hh => (by rw [(OR m7).1] at hh; cases hh), fun hh => (by rw [(OR m7).2] at hh; cases hh), fun _ _ => ?_⟩, .inl ?_⟩
    ·refine ⟨dy, t, cells, cs, v, os, nh, cx, ⟨z, r, ⟨f, ts, pP⟩, ty, by rw [<- l4 z ei, <- heq]; exact eg⟩, mI, fg, ft, rfl, fun σ3 dJ fb fc bU => ?_⟩
     refine oZ σ3 (by rw [zs]; exact dJ) (fun z hz ty => by rw [l4 z (by rw [ij]; exact hz), fb z hz]) (fun z hz ty u hr j hn => ?_) bU
     have h1 := ov z (by rw [ij]; exact hz) ty u hr j hn
     rw [<- h1]
     exact fc z hz ty u (by rw [<- l4 z (by rw [ij]; exact hz)]; exact hr) j (by rw [h1]; exact hn)
    ·rw [<- Lx oW pS (fun _ => fq)]
     refine (hB _ (.inr rfl) ?_).1
     cases e with
     | put w => trivial
     | new w l => exact B4 po (mI d).2 (fg d (.inr pS))
     | drop a j w l => exact absurd rfl (oW a j w l)
  ·have pc := pc.resolve_right (fun hh => by rw [oK] at hh; cases hh.1)
   rcases oV with oV | ⟨_, _, _, _, _, bh⟩
   ·obtain ⟨σ1', hy, hx⟩ := swap nO nh pS m5 ic (Mq oD) (.inl mJ) oG oV pc
    exact ⟨σ1', .inl hy, .inl hx⟩
   ·obtain ⟨d', t, cells, cs, v, os, pd, hb, hz, mI, fg, ot, rfl, oZ⟩ := bh m7 bg
    rw [nO] at pd; cases pd
    have l5 := hz
    obtain ⟨z, r, ⟨f, ts, pP⟩, ty, eg⟩ := hz
    have ei : z ∈ ya ops x := by rw [iq, pP]; exact zQ (c := ⟨.value (.func f), ⟨z :: r⟩, ts⟩) (by simp)
    obtain ⟨e, rfl, oW, po, hB⟩ := CB mJ nh (Ne.symm pS) m5 hb ot hp (Bd hp l5) oD (.inr rfl) pc
    have dZ : e.ok dy σ := by
     cases e with
     | put w => trivial
     | new w l => exact Dp hb po oG (mI dy).1
     | drop a j w l => exact absurd rfl (oW a j w l)
    have l4 : ∀ z ∈ ya ops x, ∀ ty, look P (e.ap dy σ) ty z = look P σ ty z := fun z hz ty => look_eq (fun u hu => MD e hu) (ic z hz) ty
    have fH : ∀ z ∈ ya ops x, ∀ ty u, (look P σ ty z).ref u = true -> (∀ w, e ≠ .put w) -> u ≠ dy := fun z hz ty u hr nj he => by
     rw [he, za (jq dZ nj) (ic z hz)] at hr; cases hr
    have nZ : (∀ w, e ≠ .put w) -> t ≠ dy := fH z ei ty t (QG eg (by simp [At.ref]))
    have pr : ∀ z ∈ ya ops x, ∀ ty u, (look P σ ty z).ref u = true -> ∀ j, (e.ap dy σ).ob u j = σ.ob u j := fun z hz ty u hr j => ON oW (fH z hz ty u hr)
    have lV := hB σ (.inl rfl) dZ
    have da : os ≠ none -> ((e.ap dy σ).YC t 0 (.box cs)).fresh d = true := fun hn => by
     have hf := Qe.1 (ot hn)
     have bz : e.ref d = false := by
      cases hr : e.ref d with
      | false => rfl
      | true =>
       obtain ⟨z', mG, ty', h1 | ⟨t', pZ, h1, h2, h3⟩⟩ := lV.2 d pS hr
       ·rw [<- zb (t := t) (j := 0) (o := .box cs), za (fun k e0 he hk => (hf.2 k e0 he hk).1) (m5 z' mG)] at h1; cases h1
       ·by_cases htt : t' = t
        ·subst htt; rw [hb] at h2; cases h2; rw [(mI d).1] at h3; cases h3
        ·have fq : t' ≠ d := fun e0 => by rw [e0, dY] at h2; cases h2
         obtain ⟨en, bZ, ba⟩ := SS h2 (by simp)
         have := (hf.2 t' en (by rw [Qr, if_neg htt]; exact bZ) fq).2
         rw [Pz ba h3] at this; cases this
     refine Qe.2 ⟨by have := hf.1; rw [St.Xa] at this ⊢; rwa [zs], fun k en he hk => ?_⟩
     cases e with
     | put w =>
      simp only [Eff.ap, qJ, ji] at he
      split at he
      ·simp only [Option.map_eq_some_iff] at he
       obtain ⟨e0, lG, rfl⟩ := he
       exact ⟨bz, (hf.2 k e0 lG hk).2⟩
      ·exact hf.2 k en he hk
     | new w l =>
      have ht := nZ (by intro w h; cases h)
      simp only [Eff.ap, Qr, yg] at he
      by_cases hkt : k = t
      ·subst hkt
       simp only [if_true, if_neg ht] at he
       exact hf.2 k en (by rw [Qr, if_pos rfl]; exact he) hk
      ·simp only [if_neg hkt] at he
       split at he
       ·simp only [Option.map_eq_some_iff] at he
        obtain ⟨e0, lG, rfl⟩ := he
        simp only [Eff.ref, Bool.or_eq_false_iff] at bz
        exact bz
       ·exact hf.2 k en (by rw [Qr, if_neg hkt]; exact he) hk
     | drop a j w l => exact absurd rfl (oW a j w l)
    have h0 := oZ (e.ap dy σ) (zs e).symm (fun z hz ty => (l4 z (by rw [iq]; exact hz) ty).symm) (fun z hz ty u hr j _ => pr z (by rw [iq]; exact hz) ty u hr j) da
    have db : e.ap dy (yM t d cs v os σ) = yM t d cs v os (e.ap dy σ) := by
     cases e with
     | put w => exact Lx oW (Ne.symm pS) (fun hh => absurd rfl (hh w))
     | new w l => exact Lx oW (Ne.symm pS) nZ
     | drop a j w l => exact absurd rfl (oW a j w l)
    refine ⟨e.ap dy σ, .inl lV.1, .inr ?_⟩
    rw [db]
    refine ⟨og, h0.1, h0.2, fun hh => (by rw [(OR m7).1] at hh; cases hh), fun hh => (by rw [(OR m7).2] at hh; cases hh), fun _ _ => ?_⟩
    refine ⟨d, t, cells, cs, v, os, nO, ?_, ⟨z, r, ⟨f, ts, pP⟩, ty, by rw [l4 z ei]; exact eg⟩, mI, fg, da, rfl, fun σ3 dJ fb fc bU => ?_⟩
    ·rw [pr z ei ty t (QG eg (by simp [At.ref])) 0]; exact hb
    ·refine oZ σ3 (by rw [<- dJ, zs]) (fun z hz ty => by rw [<- fb z hz, l4 z (by rw [iq]; exact hz)]) (fun z hz ty u hr j hn => ?_) bU
     have h1 := pr z (by rw [iq]; exact hz) ty u hr j
     rw [<- h1]
     exact fc z hz ty u (by rw [l4 z (by rw [iq]; exact hz)]; exact hr) j (by rw [h1]; exact hn)
theorem te {PT : List (Nat × Nat)} {σ : St} (h : ptB PT σ = true) : Ro PT σ := by
 intro p hp
 have := List.all_eq_true.1 h p hp
 split at this
 ·rename_i e; exact .inl e
 ·split at this
  ·rename_i b c e
   have hb : b = p.2 := by simpa using this
   subst hb; exact .inr ⟨c, e⟩
  ·cases this
section
variable {P : Program} {ops : Array Oper}
def Cl (P : Program) (ops : Array Oper) (bar : Oper -> Bool) : List Nat -> St -> (St -> Prop) -> Prop
 | [], σ, Q => Q σ
 | i :: rem, σ, Q => ∃ o σ', ops[i]? = some o /\ Kv P ops bar o σ σ' /\ Cl P ops bar rem σ' Q
theorem Lt {o : Oper} {σ σ' : St} {d : Nat} (hs : XR P ops o σ σ') (hd : o.dst ≠ some d) (h : XZ σ d = true) : XZ σ' d = true := by
 cases hdo : o.dst with
 | some d' =>
  have pS : d ≠ d' := fun e => hd (by rw [hdo, e])
  obtain ⟨e, rfl, _⟩ := kY hdo hs
  cases e with
  | put v => unfold XZ at *; simp only [Eff.ap, ji, if_neg pS]; exact h
  | new v os => unfold XZ at *; simp only [Eff.ap, yg, if_neg pS]; exact h
  | drop a j v os =>
   have := JD (a := a) (j := j) (o := .none) h
   unfold XZ at *; simp only [Eff.ap, yg, if_neg pS]; exact this
 | none =>
  unfold XR at hs
  split at hs
  ·simp only [hdo] at hs
   split at hs
   ·unfold xG at hs
    obtain ⟨_, _, _, _, hs⟩ := hs
    split at hs
    ·obtain ⟨_, _, _, _, rfl⟩ := hs; exact JD h
    ·obtain ⟨_, _, _, _, _, _, _, _, _, _, _, rfl⟩ := hs; exact JD h
    ·exact hs.elim
   ·exact hs.elim
  ·obtain ⟨_, _, _, _, _, _, pd, _⟩ := hs
   rw [hdo] at pd; cases pd
theorem uO {PT : List (Nat × Nat)} {i : Nat} {o : Oper} {σ σ' : St} (fZ : HY ops PT = true) (hi : ops[i]? = some o) (hs : XR P ops o σ σ') (h : Ro PT σ) : Ro PT σ' := by
 have hc := List.all_eq_true.1 fZ o (by rw [Array.mem_toList_iff]; exact Array.mem_of_getElem? hi)
 cases hdo : o.dst with
 | none =>
  have : ∃ t j ob, σ' = σ.YC t j ob := by
   unfold XR at hs
   split at hs
   ·simp only [hdo] at hs
    split at hs
    ·unfold xG at hs
     obtain ⟨_, _, _, _, hs⟩ := hs
     split at hs
     ·obtain ⟨_, _, _, _, rfl⟩ := hs; exact ⟨_, _, _, rfl⟩
     ·obtain ⟨_, _, _, _, _, _, _, _, _, _, _, rfl⟩ := hs; exact ⟨_, _, _, rfl⟩
     ·exact hs.elim
    ·exact hs.elim
   ·obtain ⟨_, _, _, _, _, _, pd, _⟩ := hs
    rw [hdo] at pd; cases pd
  obtain ⟨t, j, ob, rfl⟩ := this
  intro p hp
  rw [St.QL]; exact h p hp
 | some d =>
  intro p hp
  rw [hdo] at hc
  have hc := List.all_eq_true.1 hc p hp
  by_cases ir : p.1 = d
  ·simp only [ir, bne_self_eq_false, Bool.false_or, Bool.and_eq_true, Option.isNone_iff_eq_none] at hc
   obtain ⟨hg, hc⟩ := hc
   split at hc
   ·rename_i T r f pP
    have hr := h (r, p.2) (by simpa using hc)
    unfold XR at hs
    simp only [hg, hdo] at hs
    unfold Step at hs
    rw [pP] at hs
    obtain ⟨v, hv, rfl⟩ := hs
    simp only [Yc] at hv
    have hv := hv.2.2
    rw [xl] at hv
    rcases hr with e | ⟨c, e⟩
    ·rw [e] at hv; exact hv.elim
    ·rw [e] at hv
     rw [St.K4, ir]
     by_cases hl : d < σ.length
     ·rw [if_pos ⟨rfl, hl⟩]; exact .inr ⟨_, by rw [hv.2]; rfl⟩
     ·rw [if_neg (fun hh => hl hh.2)]; have := h p hp; rw [ir] at this; exact this
   ·rename_i r pP
    have hr := h (r, p.2) (by simpa using hc)
    unfold XR at hs
    simp only [hg, hdo] at hs
    unfold Step at hs
    rw [pP] at hs
    obtain ⟨v, hv, rfl⟩ := hs
    simp only [Yc] at hv
    rw [xl] at hv
    rw [St.K4, ir]
    by_cases hl : d < σ.length
    ·rw [if_pos ⟨rfl, hl⟩, hv]; exact hr
    ·rw [if_neg (fun hh => hl hh.2)]; have := h p hp; rw [ir] at this; exact this
   ·cases hc
  ·obtain ⟨e, rfl, _⟩ := kY hdo hs
   have hg : ∀ σ0 : St, σ0.get p.1 = σ.get p.1 -> (σ0.get p.1 = .any \/ ∃ c, unc (σ0.get p.1) = .one (.bptr p.2 c)) := fun σ0 e => by rw [e]; exact h p hp
   cases e with
   | put v => exact hg _ (by simp only [Eff.ap]; rw [St.K4, if_neg (fun hh => ir hh.1)])
   | new v os => exact hg _ (by simp only [Eff.ap]; rw [St.Wi, if_neg (fun hh => ir hh.1)])
   | drop a j v os => exact hg _ (by simp only [Eff.ap]; rw [St.Wi, if_neg (fun hh => ir hh.1), St.QL])
theorem Lj {σ : St} : Gl [] [] σ := ⟨fun _ hp => absurd hp List.not_mem_nil, fun _ hp => absurd hp List.not_mem_nil⟩
theorem wo {NB : List Nat} {σ : St} {d : Nat} {v : V} (h : Lp NB σ) (hd : d ∈ NB -> ∀ b c, unc v ≠ .one (.bptr b c)) : Lp NB (σ.put d v) := by
 intro t ht b c
 rw [St.K4]
 split
 ·rename_i hc; exact hd (hc.1 ▸ ht) b c
 ·exact h t ht b c
theorem wv {NB : List Nat} {σ : St} {d : Nat} {v : V} {os : List Ob} (h : Lp NB σ) (hd : d ∉ NB) : Lp NB (σ.new d v os) := by
 intro t ht b c
 have pS : ¬ (t = d /\ d < σ.length) := fun hc => hd (by rw [<- hc.1]; exact ht)
 rw [St.Wi, if_neg pS]
 exact h t ht b c
theorem uG {NB : List Nat} {i : Nat} {o : Oper} {σ σ' : St} (np : IE P ops NB = true) (hi : ops[i]? = some o) (hs : XR P ops o σ σ') (h : Lp NB σ) : Lp NB σ' := by
 have hc := List.all_eq_true.1 np o (by rw [Array.mem_toList_iff]; exact Array.mem_of_getElem? hi)
 cases hdo : o.dst with
 | none =>
  have : ∃ t j ob, σ' = σ.YC t j ob := by
   unfold XR at hs
   split at hs
   ·simp only [hdo] at hs
    split at hs
    ·unfold xG at hs
     obtain ⟨_, _, _, _, hs⟩ := hs
     split at hs
     ·obtain ⟨_, _, _, _, rfl⟩ := hs; exact ⟨_, _, _, rfl⟩
     ·obtain ⟨_, _, _, _, _, _, _, _, _, _, _, rfl⟩ := hs; exact ⟨_, _, _, rfl⟩
     ·exact hs.elim
    ·exact hs.elim
   ·obtain ⟨_, _, _, _, _, _, pd, _⟩ := hs
    rw [hdo] at pd; cases pd
  obtain ⟨t, j, ob, rfl⟩ := this
  intro p hp
  rw [St.QL]; exact h p hp
 | some d =>
  rw [hdo] at hc
  by_cases hd : d ∈ NB
  ·have hc := List.all_eq_true.1 hc d hd
   simp only [bne_self_eq_false, Bool.false_or, Bool.and_eq_true, Option.isNone_iff_eq_none] at hc
   obtain ⟨hg, hc⟩ := hc
   split at hc
   ·rename_i T r ix pP
    unfold XR at hs
    simp only [hg, hdo] at hs
    unfold Step at hs
    rw [pP] at hs
    obtain ⟨v, hv, rfl⟩ := hs
    refine wo h (fun _ b c => ?_)
    simp only [Yc] at hv
    obtain ⟨_, _, _, _, _, hv⟩ := hv
    split at hv
    ·obtain ⟨_, _, _, _, rfl⟩ := hv; intro e; cases e
    ·obtain ⟨_, _, _, _, rfl⟩ := hv; intro e; cases e
    ·obtain ⟨_, ⟨n, ha, _⟩, _⟩ := hv
     unfold XW at hc
     unfold Hb at ha
     split at hc
     ·rename_i e he; rw [he] at ha; cases ha
     ·cases hc
    ·obtain ⟨_, _, _, rfl⟩ := hv; intro e; cases e
    ·exact hv.elim
   ·cases hc
  ·obtain ⟨e, rfl, _⟩ := kY hdo hs
   cases e with
   | put v => exact wo h (fun hh => absurd hh hd)
   | new v os => exact wv h hd
   | drop a j v os =>
    refine wv (σ := σ.YC a j .none) (fun t ht b c => ?_) hd
    rw [St.QL]; exact h t ht b c
theorem u7 {NB : List Nat} {σ : St} (h : nbB NB σ = true) : Lp NB σ := by
 intro t ht b c e
 have := List.all_eq_true.1 h t ht
 rw [e] at this; cases this
def Ef (ops : Array Oper) (pos : Nat -> Nat) (rem : List Nat) (σ : St) : Prop :=
 ∀ j ∈ rem, SR ops pos j = true -> Ba ops j = true /\ ∃ o d, ops[j]? = some o /\ o.dst = some d /\ XZ σ d = true
theorem vo {j k : Nat} {oj ok : Oper} {d : Nat} (h : Ba ops j = true) (hj : ops[j]? = some oj) (hd : oj.dst = some d) (hk : ops[k]? = some ok) (pS : k ≠ j) : ok.dst ≠ some d := by
 unfold Ba at h
 simp only [hj, hd] at h
 have pa : k < ops.size := (Array.getElem?_eq_some_iff.1 hk).1
 have := List.all_eq_true.1 h k (List.mem_range.2 pa)
 simp only [hk, Bool.or_eq_true, beq_iff_eq, bne_iff_ne, ne_eq] at this
 exact this.resolve_left pS
theorem D9 {bar : Oper -> Bool} {o : Oper} {σ σ' : St} {d : Nat} (hs : Kv P ops bar o σ σ') (hd : o.dst ≠ some d) (h : XZ σ d = true) : XZ σ' d = true := by
 rcases hs with hs | hs
 ·exact Lt hs hd h
 ·exact hs.2.2.1 d hd h
theorem Mh {pos : Nat -> Nat} {bar : Oper -> Bool} {rem fa : List Nat} {i : Nat} {o : Oper} {σ σ' : St} (hi : ops[i]? = some o) (hs : Kv P ops bar o σ σ') (cu : i ∉ fa) (oH : ∀ j ∈ fa, j ∈ rem) (h : Ef ops pos rem σ) : Ef ops pos fa σ' := by
 intro j hj hl
 obtain ⟨fF, oj, d, h1, h2, h3⟩ := h j (oH j hj) hl
 exact ⟨fF, oj, d, h1, h2, D9 hs (vo fF h1 h2 hi (fun e => cu (e ▸ hj))) h3⟩
theorem pull {pos : Nat -> Nat} {bar : Oper -> Bool} {PT : List (Nat × Nat)} {NB : List Nat} (nw : ∀ (i : Nat) (o : Oper) (σ σ' : St), ops[i]? = some o -> Kv P ops bar o σ σ' -> Gl PT NB σ -> Gl PT NB σ') {i : Nat} {post : List Nat} {Q : St -> Prop} {oi : Oper} (hi : ops[i]? = some oi) : ∀ {pre : List Nat} {σ : St}, (pre ++ i :: post).Nodup -> (∀ j ∈ pre, SR ops pos j = true /\ ∃ oj, ops[j]? = some oj /\ (DK ops bar oj oi = true \/ Dh bar oj oi = true \/ swapT PT bar oj oi = true \/ DV bar oj oi = true \/ Dr PT ops bar oj oi = true \/ DQ PT NB bar oj oi = true \/ Dv P PT ops bar oj oi = true)) -> Ef ops pos (pre ++ i :: post) σ -> Gl PT NB σ ->
  Cl P ops bar (pre ++ i :: post) σ Q -> ∃ σ', Kv P ops bar oi σ σ' /\ Cl P ops bar (pre ++ post) σ' Q
 | [], σ, _, _, _, _, h => by
  obtain ⟨o, σ', ho, hs, hr⟩ := h
  rw [hi] at ho; cases ho
  exact ⟨σ', hs, hr⟩
 | j :: pre, σ, oW, cy, oG, n7, h => by
  obtain ⟨oj, σ1, hj, oV, hr⟩ := h
  have dc := List.nodup_cons.1 oW
  obtain ⟨σ2, pc, iw⟩ := pull nw hi (pre := pre) dc.2 (fun k hk => cy k (by simp [hk])) (Mh (rem := (j :: pre) ++ i :: post) hj oV dc.1 (fun k hk => by simp only [List.cons_append, List.mem_cons]; exact .inr hk) oG) (nw j oj σ σ1 hj oV n7) hr
  obtain ⟨hl, oj', mO, l9⟩ := cy j (by simp)
  rw [hj] at mO; cases mO
  rcases l9 with l9 | l9 | l9 | l9 | l9 | l9 | l9
  rotate_left
  ·obtain ⟨σ1', hy, hx⟩ := uS l9 oV pc
   exact ⟨σ1', .inl hy, oj, σ2, hj, .inl hx, iw⟩
  ·obtain ⟨σ1', hy, hx⟩ := tR l9 n7.1 oV pc
   exact ⟨σ1', .inl hy, oj, σ2, hj, .inl hx, iw⟩
  ·obtain ⟨_, o', d', pv, pd, oL⟩ := oG j (by simp) hl
   rw [hj] at pv; cases pv
   obtain ⟨σ1', hy, hx⟩ := tP l9 pd oL oV pc
   exact ⟨σ1', hy, oj, σ2, hj, .inl hx, iw⟩
  ·obtain ⟨_, o', d', pv, pd, oL⟩ := oG j (by simp) hl
   rw [hj] at pv; cases pv
   obtain ⟨σ1', hy, hx⟩ := tM l9 n7.1 pd oL oV pc
   exact ⟨σ1', hy, oj, σ2, hj, hx, iw⟩
  ·obtain ⟨_, o', d', pv, pd, oL⟩ := oG j (by simp) hl
   rw [hj] at pv; cases pv
   obtain ⟨σ1', hy, hx⟩ := tS l9 n7.1 n7.2 pd oL oV pc
   exact ⟨σ1', hy, oj, σ2, hj, .inl hx, iw⟩
  ·obtain ⟨_, o', d', pv, pd, oL⟩ := oG j (by simp) hl
   rw [hj] at pv; cases pv
   obtain ⟨σ1', hy, hx⟩ := tA l9 n7.1 (nw j oj σ σ1 hj oV n7).1 pd oL oV pc
   exact ⟨σ1', hy, oj, σ2, hj, hx, iw⟩
  obtain ⟨og, oK, dx, dy, h1, h2, h3, h4, h5, h6, h7⟩ := Cx l9
  have oV := oV.resolve_right (fun hh => by rw [og] at hh; cases hh.1)
  have pc := pc.resolve_right (fun hh => by rw [oK] at hh; cases hh.1)
  obtain ⟨_, o', d', pv, pd, oL⟩ := oG j (by simp) hl
  rw [hj] at pv; cases pv
  rw [h1] at pd; cases pd
  obtain ⟨σ1', hy, hx⟩ := swap h1 h2 h3 h4 h5 h6 h7 oL oV pc
  exact ⟨σ1', .inl hy, oj, σ2, hj, .inl hx, iw⟩
end
end Go.Vm
namespace Go.Vm
open Go.RowKit
section
variable {P : Program} {ops : Array Oper} {T0 : CS} {B : Nat -> Prop}
theorem Om {oJ : Array Bool} {j : Nat} (h1 : oJ.getD j true = false) (h2 : oJ.getD j false = true) : False := by
 rw [Array.getD_eq_getD_getElem?] at h1 h2
 cases h : oJ[j]? with
 | none => rw [h] at h1; simp at h1
 | some b => rw [h] at h1 h2; simp at h1 h2; rw [h1] at h2; cases h2
theorem Gv {pos : Nat -> Nat} {bar : Oper -> Bool} {PT : List (Nat × Nat)} {NB : List Nat} (nw : ∀ (i : Nat) (o : Oper) (σ σ' : St), ops[i]? = some o -> Kv P ops bar o σ σ' -> Gl PT NB σ -> Gl PT NB σ') (hdr : Bs P ops pos bar PT NB (O5 ops.toList []) = true) {Qa : St -> Prop} {Q : Exit -> Act -> World -> Prop} {w0 : World} (hK : ∀ σ a w, Qa σ -> KF T0 B σ a w -> XI B w0 w -> Q .normal a w) :
  ∀ (fuel : Nat) (rem : List Nat) (oJ : Array Bool) (σ : St) (a : Act) (w : World), rem.length = fuel -> oJ.size = ops.size -> rem.Pairwise (fun i j => pos i < pos j) -> (∀ i, i ∈ rem ↔ oJ.getD i true = false) -> (∀ i ∈ rem, i < ops.size) -> (∀ m om, ops[m]? = some om -> m ∉ rem -> ∀ j, Og om j = true -> j ∉ rem) ->
   Ef ops pos rem σ -> Gl PT NB σ -> Cl P ops bar rem σ Qa -> KF T0 B σ a w -> XI B w0 w -> wpAny P .any ops Q fuel oJ a w := by
 have oZ := List.all_eq_true.1 hdr
 have first : ∀ (rem : List Nat) (oJ : Array Bool), oJ.size = ops.size -> rem.Pairwise (fun i j => pos i < pos j) -> (∀ i, i ∈ rem ↔ oJ.getD i true = false) -> (∀ i ∈ rem, i < ops.size) -> Region.ready .any ops oJ = [] -> rem = [] := by
  intro rem oJ oy fe ou pa dK
  cases rem with
  | nil => rfl
  | cons i rem =>
   exfalso
   have hi := pa i (by simp)
   have hb := oZ i (List.mem_range.2 hi)
   simp only [Bool.and_eq_true] at hb
   have m9 := hb.1.1
   unfold uc at m9
   rw [Array.getElem?_eq_getElem hi] at m9
   simp only [Array.all_eq_true_iff_forall_mem, decide_eq_true_eq, Bool.and_eq_true, Bool.or_eq_true, Bool.not_eq_true'] at m9
   have : i ∈ Region.ready .any ops oJ := by
    refine mem_ready.2 ⟨(ou i).1 (by simp), ops[i], Array.getElem?_eq_getElem hi, fun e he bV => ?_⟩
    have gD := (m9 e he).resolve_left (by rw [bV]; simp)
    have hR := gD.1
    have aA := gD.2
    have mf : e.on ∉ i :: rem := by
     intro hm
     rcases List.mem_cons.1 hm with h | h
     ·rw [h] at hR; omega
     ·have := (List.pairwise_cons.1 fe).1 _ h; omega
    have pS : oJ.getD e.on true ≠ false := fun h => mf ((ou _).2 h)
    have gk : e.on < oJ.size := by rw [oy]; omega
    rw [Array.getD_eq_getD_getElem?, Array.getElem?_eq_getElem gk] at pS ⊢
    simpa using pS
   rw [dK] at this; cases this
 intro fuel
 induction fuel with
 | zero =>
  intro rem oJ σ a w hl oy fe ou pa bX oG n7 pq nF hb
  have mg : rem = [] := List.eq_nil_of_length_eq_zero hl
  subst mg
  refine ⟨?_, hK σ a w pq nF hb⟩
  cases dK : Region.ready .any ops oJ with
  | nil => rfl
  | cons i l =>
   have hi : i ∈ Region.ready .any ops oJ := by rw [dK]; simp
   have := (ou i).2 (mem_ready.1 hi).1
   cases this
 | succ fuel ih =>
  intro rem oJ σ a w hl oy fe ou pa bX oG n7 pq nF hb
  refine ⟨fun dK => ?_, fun i hi => ?_⟩
  ·have := first rem oJ oy fe ou pa dK
   subst this; simp at hl
  ·obtain ⟨h0, oi, fh, gA⟩ := mem_ready.1 hi
   obtain ⟨pre, post, rfl⟩ := List.append_of_mem ((ou i).2 h0)
   have oW : (pre ++ i :: post).Nodup := fe.imp (fun h e => by rw [e] at h; omega)
   have lI : ∀ j ∈ pre, pos j < pos i := fun j hj => (List.pairwise_append.1 fe).2.2 j hj i (by simp)
   have mh : i < ops.size := pa i (by simp)
   have hdone : ∀ e ∈ oi.after, Region.binds .any e = true -> e.on ∉ pre ++ i :: post := by
    intro e he bV hm
    exact Om ((ou e.on).1 hm) (gA e he bV)
   have dg : ∀ j, j ∈ pre ++ i :: post -> Og oi j = false := by
    intro j hj
    cases hp : Og oi j with
    | false => rfl
    | true =>
     unfold Og at hp
     rw [<- Array.any_toList] at hp
     obtain ⟨e, he, oK⟩ := List.any_eq_true.1 hp
     rw [Array.mem_toList_iff] at he
     simp only [Bool.and_eq_true, beq_iff_eq] at oK
     exact (Om ((ou j).1 hj) (by rw [<- oK.1]; exact gA e he oK.2)).elim
   have ir : ∀ m j, Pre ops m j -> (∀ om, ops[m]? = some om -> ∀ k, Og om k = true -> k ∉ pre ++ i :: post) -> j ∉ pre ++ i :: post := by
    intro m j hp
    induction hp with
    | one ho hp => intro h; exact h _ ho _ hp
    | more ho hp _ ih =>
     intro h
     exact ih (fun om hG k hk => bX _ om hG (h _ ho _ hp) k hk)
   have nj : ∀ j ∈ pre, DM ops i j = false := by
    intro j hj
    have hjr : j ∈ pre ++ i :: post := by simp [hj]
    cases hq : DM ops i j with
    | false => rfl
    | true =>
     refine absurd hjr (ir i j (AH hq) (fun om hG k hk hkr => ?_))
     rw [fh] at hG; cases hG
     have := dg k hkr
     rw [hk] at this; cases this
   have cy : ∀ j ∈ pre, SR ops pos j = true /\ ∃ oj, ops[j]? = some oj /\ (DK ops bar oj oi = true \/ Dh bar oj oi = true \/ swapT PT bar oj oi = true \/ DV bar oj oi = true \/ Dr PT ops bar oj oi = true \/ DQ PT NB bar oj oi = true \/ Dv P PT ops bar oj oi = true) := by
    intro j hj
    have hji := lI j hj
    have fu : j < ops.size := pa j (by simp [hj])
    refine ⟨?_, ops[j], Array.getElem?_eq_getElem fu, ?_⟩
    ·unfold SR Fi
     refine List.any_eq_true.2 ⟨i, List.mem_range.2 mh, ?_⟩
     have := nj j hj
     unfold DM at this
     simp only [this, Bool.not_false, Bool.and_true, decide_eq_true_eq]; exact hji
    ·have := oZ i (List.mem_range.2 mh)
     simp only [Bool.and_eq_true] at this
     have hp := List.all_eq_true.1 this.1.2 j (List.mem_range.2 fu)
     simp only [hji, decide_true, Bool.not_true, Bool.false_or] at hp
     unfold uf at hp
     rw [fh, Array.getElem?_eq_getElem fu] at hp
     have := nj j hj
     unfold DM at this
     simpa [this, or_assoc] using hp
   obtain ⟨σ', hs, hr⟩ := pull nw fh oW cy oG n7 pq
   have cu : i ∉ pre ++ post := by
    have := List.nodup_append.1 oW
    intro hm
    rcases List.mem_append.1 hm with h | h
    ·exact Nat.lt_irrefl _ (lI i h)
    ·exact (List.nodup_cons.1 this.2.1).1 h
   have iO : ∀ j ∈ pre ++ post, j ∈ pre ++ i :: post := by
    intro j hj
    rcases List.mem_append.1 hj with h | h
    ·simp [h]
    ·simp [h]
   have key : ∀ a' w', KF T0 B σ' a' w' -> XI B w w' -> wpAny P .any ops Q fuel (oJ.setIfInBounds i true) a' w' := by
    intro a' w' dL pj
    refine ih (pre ++ post) _ σ' a' w' (by simp at hl ⊢; omega) (by simp [oy]) ?_ (fun j => ?_) (fun j hj => pa j (iO j hj)) ?_ (Mh fh hs cu iO oG) (nw i oi σ σ' fh hs n7) hr dL (hb.trans pj)
    ·exact fe.sublist (List.Sublist.append (List.Sublist.refl pre) (List.sublist_cons_self i post))
    ·by_cases iL : i = j
     ·subst iL
      constructor
      ·intro hm; exact absurd hm cu
      ·intro hm
       rw [Array.getD_eq_getD_getElem?] at hm
       simp [oy, mh] at hm
     ·rw [getD_set_ne true iL, <- ou j]
      simp only [List.mem_append, List.mem_cons]
      constructor
      ·rintro (h | h)
       ·exact .inl h
       ·exact .inr (.inr h)
      ·rintro (h | h | h)
       ·exact .inl h
       ·exact absurd h.symm iL
       ·exact .inr h
    ·intro m om hG hm j hpj hj
     by_cases hmi : m = i
     ·subst hmi
      rw [fh] at hG; cases hG
      have := dg j (iO j hj)
      rw [hpj] at this; cases this
     ·have hmr : m ∉ pre ++ i :: post := by
       intro h
       rcases List.mem_append.1 h with h | h
       ·exact hm (by simp [h])
       ·rcases List.mem_cons.1 h with h | h
        ·exact hmi h
        ·exact hm (by simp [h])
      exact bX m om hG hmr j hpj (iO j hj)
   have pt := Sc hs T0 B a w (wpAny P .any ops Q fuel (oJ.setIfInBounds i true)) Q nF key
   unfold wpOp
   simp only [fh]
   split
   ·rename_i hw; rw [if_pos hw] at pt; exact .inl pt
   ·rename_i hw; rw [if_neg hw] at pt; exact pt
theorem FT {σ : St} {a : Act} {w : World} (h : KF T0 B σ a w) : KF T0 B σ a { w with drawn := w.drawn + 1 } := by
 obtain ⟨X, hh, r⟩ := h
 exact ⟨X, hh, r.grow (w' := { w with drawn := w.drawn + 1 }) ⟨rfl, rfl, rfl, Nat.le_refl _, fun _ _ _ => rfl⟩ (fun _ hb => hb) (fun _ hb => .inl hb)⟩
theorem Bt {bar : Oper -> Bool} {Q : St -> Prop} : ∀ {n k : Nat} {σ : St}, k + n = ops.size -> F6 P ops bar (ops.toList.drop k) σ Q -> Cl P ops bar (List.range' k n) σ Q
 | 0, k, σ, hk, h => by
  rw [List.drop_eq_nil_of_le (by simp; omega)] at h
  exact h
 | n + 1, k, σ, hk, h => by
  have pa : k < ops.toList.length := by simp; omega
  rw [List.drop_eq_getElem_cons pa] at h
  obtain ⟨σ', hs, hr⟩ := h
  rw [List.range'_succ]
  exact ⟨ops.toList[k], σ', by rw [<- Array.getElem?_toList]; exact List.getElem?_eq_getElem pa, hs, Bt (by omega) hr⟩
theorem G5 {bar : Oper -> Bool} {PT : List (Nat × Nat)} {NB : List Nat} {id : Nat} {Q : Exit -> St -> Prop} {σ : St} (nw : ∀ (i : Nat) (o : Oper) (σ σ' : St), ops[i]? = some o -> Kv P ops bar o σ σ' -> Gl PT NB σ -> Gl PT NB σ') (n7 : Gl PT NB σ) (hm : P.follows .mixedOrders = true) (hdr : Bs P ops (fun i => i) bar PT NB (O5 ops.toList []) = true) (oG : xP ops (fun i => i) σ = true) (h : F6 P ops bar ops.toList σ (Q .normal)) : AWP P (.region id ops true) Q σ := by
 intro T0 B a w nF
 refine wp_region_any hm ?_
 have oZ := List.all_eq_true.1 hdr
 refine Gv (T0 := T0) (B := B) (w0 := w) nw hdr (Qa := Q .normal) (fun σ' a' w' hq hr hb => ⟨σ', hq, hr, hb⟩) ops.size (List.range' 0 ops.size) _ σ a _ (by simp) (by simp) ?_ (fun i => ?_) (fun i hi => by simp [List.mem_range'] at hi; omega) (fun m om hG hm => absurd (by simp only [List.mem_range'_1]; have := (Array.getElem?_eq_some_iff.1 hG).1; omega) hm) ?_ n7 (Bt (by omega) (by simpa using h)) (FT nF) ⟨rfl, rfl, rfl, Nat.le_refl _, fun _ _ => rfl⟩
 ·exact List.pairwise_lt_range'
 ·rw [Array.getD_eq_getD_getElem?, Array.getElem?_replicate]
  simp only [List.mem_range'_1]
  constructor
  ·intro hh; rw [if_pos (by omega)]; rfl
  ·intro hh
   split at hh
   ·omega
   ·cases hh
 ·intro j hj hl
  simp only [List.mem_range'_1] at hj
  have hb := oZ j (List.mem_range.2 (by omega))
  simp only [Bool.and_eq_true, Bool.or_eq_true, Bool.not_eq_true'] at hb
  refine ⟨hb.2.resolve_left (by unfold SR at hl; rw [hl]; simp), ?_⟩
  have hc := List.all_eq_true.1 oG j (List.mem_range.2 (by omega))
  unfold SR at hl
  simp only [hl, Bool.not_true, Bool.false_or] at hc
  have pa : j < ops.size := by omega
  rw [Array.getElem?_eq_getElem pa] at hc
  simp only [Option.bind_some] at hc
  cases hd : ops[j].dst with
  | none => rw [hd] at hc; cases hc
  | some d => rw [hd] at hc; exact ⟨_, d, Array.getElem?_eq_getElem pa, hd, hc⟩
theorem CG {bar : Oper -> Bool} {id : Nat} {Q : Exit -> St -> Prop} {σ : St} (hm : P.follows .mixedOrders = true) (hdr : Oi P ops (fun i => i) bar = true) (oG : xP ops (fun i => i) σ = true) (h : F6 P ops bar ops.toList σ (Q .normal)) : AWP P (.region id ops true) Q σ :=
 G5 (PT := []) (NB := []) (fun _ _ _ _ _ _ _ => Lj) Lj hm hdr oG h
theorem wL {id : Nat} {σ : St} {l : List Oper} {br : Oper -> Bool} {k : Fr} (hm : P.follows .mixedOrders = true) (hdr : Oi P ⟨l⟩ (fun i => i) (fun _ => false) = true) (oG : xP ⟨l⟩ (fun i => i) σ = true) (h : @EI P σ ⟨⟨l⟩, fun _ => false⟩ ⟨l⟩ k) : @DI P id σ ⟨⟨l⟩, br⟩ k :=
 CG hm hdr oG (Ja h)
def O8 (bs : List Nat) (o : Oper) : Bool := match o.dst with | some d => bs.contains d | none => !bs.contains 3000001
theorem tZ {ops : Array Oper} {PT : List (Nat × Nat)} {bar : Oper -> Bool} {i : Nat} {o : Oper} {σ σ' : St} (fZ : HY ops PT = true) (fE : (ops.toList.all fun o => !bar o || Uc o || j8 o || (Kj P o && PR bar o)) = true) (hi : ops[i]? = some o) (hs : Kv P ops bar o σ σ') (h : Ro PT σ) : Ro PT σ' := by
 rcases hs with hs | ⟨hb, _, _, bj, hH, bk⟩
 ·exact uO fZ hi hs h
 ·have ou : o ∈ ops.toList := by rw [Array.mem_toList_iff]; exact Array.mem_of_getElem? hi
  have h1 := List.all_eq_true.1 fE o ou
  simp only [hb, Bool.not_true, Bool.false_or, Bool.or_eq_true, Bool.and_eq_true] at h1
  rcases h1 with (h1 | h1) | ⟨h1, h1o⟩
  ·obtain ⟨⟨_, hg⟩, _⟩ := bj h1
   intro p hp
   rw [hg]; exact h p hp
  ·obtain ⟨d, hd, _, hg, _⟩ := hH h1
   intro p hp
   have pS : p.1 ≠ d := by
    intro e
    have hc := List.all_eq_true.1 fZ o ou
    rw [hd] at hc
    have hc := List.all_eq_true.1 hc p hp
    simp only [e, bne_self_eq_false, Bool.false_or, Bool.and_eq_true] at hc
    have hc := hc.2
    unfold j8 at h1
    cases pP : o.op <;> rw [pP] at h1 hc <;> first | (exact Bool.noConfusion h1) | (exact Bool.noConfusion hc)
   rw [(hg p.1 pS).1]; exact h p hp
  ·obtain ⟨d, t, cells, cs, v, os, hd, _, _, _, _, _, rfl, _⟩ := bk h1 h1o
   intro p hp
   have pS : p.1 ≠ d := by
    intro e
    have hc := List.all_eq_true.1 fZ o ou
    rw [hd] at hc
    have hc := List.all_eq_true.1 hc p hp
    simp only [e, bne_self_eq_false, Bool.false_or, Bool.and_eq_true] at hc
    have hc := hc.2
    unfold Kj at h1
    cases pP : o.op <;> rw [pP] at h1 hc <;> first | (exact Bool.noConfusion h1) | (exact Bool.noConfusion hc)
   rw [En pS]; exact h p hp
theorem tH {ops : Array Oper} {NB : List Nat} {bar : Oper -> Bool} {i : Nat} {o : Oper} {σ σ' : St} (np : IE P ops NB = true) (fE : (ops.toList.all fun o => !bar o || Uc o || j8 o || (Kj P o && PR bar o)) = true) (hi : ops[i]? = some o) (hs : Kv P ops bar o σ σ') (h : Lp NB σ) : Lp NB σ' := by
 rcases hs with hs | ⟨hb, _, _, bj, hH, bk⟩
 ·exact uG np hi hs h
 ·have ou : o ∈ ops.toList := by rw [Array.mem_toList_iff]; exact Array.mem_of_getElem? hi
  have h1 := List.all_eq_true.1 fE o ou
  simp only [hb, Bool.not_true, Bool.false_or, Bool.or_eq_true, Bool.and_eq_true] at h1
  rcases h1 with (h1 | h1) | ⟨h1, h1o⟩
  ·obtain ⟨⟨_, hg⟩, _⟩ := bj h1
   intro p hp
   rw [hg]; exact h p hp
  ·obtain ⟨d, hd, _, hg, _⟩ := hH h1
   intro p hp
   have pS : p ≠ d := by
    intro e
    have hc := List.all_eq_true.1 np o ou
    rw [hd] at hc
    have hc := List.all_eq_true.1 hc p hp
    simp only [e, bne_self_eq_false, Bool.false_or, Bool.and_eq_true] at hc
    have hc := hc.2
    unfold j8 at h1
    cases pP : o.op <;> rw [pP] at h1 hc <;> first | (exact Bool.noConfusion h1) | (exact Bool.noConfusion hc)
   rw [(hg p pS).1]; exact h p hp
  ·obtain ⟨d, t, cells, cs, v, os, hd, _, _, _, _, _, rfl, _⟩ := bk h1 h1o
   intro p hp
   have pS : p ≠ d := by
    intro e
    have hc := List.all_eq_true.1 np o ou
    rw [hd] at hc
    have hc := List.all_eq_true.1 hc p hp
    simp only [e, bne_self_eq_false, Bool.false_or, Bool.and_eq_true] at hc
    have hc := hc.2
    unfold Kj at h1
    cases pP : o.op <;> rw [pP] at h1 hc <;> first | (exact Bool.noConfusion h1) | (exact Bool.noConfusion hc)
   rw [En pS]; exact h p hp
theorem MW {id : Nat} {σ : St} {l : List Oper} {br : Oper -> Bool} {k : Fr} (PT : List (Nat × Nat)) (NB bs : List Nat) (hm : P.follows .mixedOrders = true) (hdr : Bs P ⟨l⟩ (fun i => i) (O8 bs) PT NB (O5 l []) = true) (oG : xP ⟨l⟩ (fun i => i) σ = true) (fZ : HY ⟨l⟩ PT = true) (hp : ptB PT σ = true) (np : IE P ⟨l⟩ NB = true) (bS : nbB NB σ = true) (fE : (l.all fun o => !O8 bs o || Uc o || j8 o || (Kj P o && PR (O8 bs) o)) = true) (h : @EI P σ ⟨⟨l⟩, O8 bs⟩ ⟨l⟩ k) : @DI P id σ ⟨⟨l⟩, br⟩ k :=
 G5 (bar := O8 bs) (PT := PT) (NB := NB) (fun _ _ _ _ hi hs hq => ⟨tZ fZ fE hi hs hq.1, tH np fE hi hs hq.2⟩) ⟨te hp, u7 bS⟩ hm hdr oG (Ja h)
theorem sM {id : Nat} {σ : St} {l : List Oper} {br : Oper -> Bool} {k : Fr} (bs : List Nat) (hm : P.follows .mixedOrders = true) (hdr : Vm.Oi P ⟨l⟩ (fun i => i) (O8 bs) = true) (oG : xP ⟨l⟩ (fun i => i) σ = true) (h : @EI P σ ⟨⟨l⟩, O8 bs⟩ ⟨l⟩ k) : @DI P id σ ⟨⟨l⟩, br⟩ k :=
 CG hm hdr oG (Ja h)
def pwB (pos : Nat -> Nat) : List Nat -> Bool
 | [] => true
 | i :: r => r.all (fun j => decide (pos i < pos j)) && pwB pos r
theorem wO {pos : Nat -> Nat} : ∀ {l : List Nat}, pwB pos l = true -> l.Pairwise (fun i j => pos i < pos j)
 | [], _ => .nil
 | i :: r, h => by
  simp only [pwB, Bool.and_eq_true, List.all_eq_true, decide_eq_true_eq] at h
  exact .cons h.1 (wO h.2)
def posOf : List Nat -> Nat -> Nat
 | [], _ => 0
 | i :: r, k => if i == k then 0 else posOf r k + 1
def v5 (n : Nat) (ord : List Nat) : Bool := ord.length == n && pwB (posOf ord) ord && ord.all (fun i => decide (i < n)) && (List.range n).all (fun i => ord.contains i)
@[reducible] def tX : List Oper -> Nat -> Oper -> Oper
 | [], _, d => d
 | o :: _, 0, _ => o
 | _ :: l, i + 1, d => tX l i d
@[reducible] def wJ (l : List Oper) (d : Oper) : List Nat -> List Oper
 | [] => []
 | i :: r => tX l i d :: wJ l d r
theorem DZ {d : Oper} : ∀ {l : List Oper} {i : Nat}, i < l.length -> l[i]? = some (tX l i d)
 | [], i, h => by simp at h
 | o :: l, 0, _ => rfl
 | o :: l, i + 1, h => by simpa using DZ (l := l) (i := i) (by simpa using h)
theorem FA {bar : Oper -> Bool} {Q : St -> Prop} {l : List Oper} {d : Oper} : ∀ {ord : List Nat} {σ : St}, (∀ i ∈ ord, i < l.length) -> F6 P l.toArray bar (wJ l d ord) σ Q -> Cl P l.toArray bar ord σ Q
 | [], σ, _, h => h
 | i :: r, σ, hi, h => by
  obtain ⟨σ', hs, hr⟩ := h
  exact ⟨_, σ', by rw [List.getElem?_toArray]; exact DZ (hi i (by simp)), hs, FA (fun j hj => hi j (by simp [hj])) hr⟩
theorem B5 {bar : Oper -> Bool} {id : Nat} {Q : Exit -> St -> Prop} {σ : St} {ord : List Nat} (hm : P.follows .mixedOrders = true) (ho : v5 ops.size ord = true) (hdr : Oi P ops (posOf ord) bar = true) (oG : xP ops (posOf ord) σ = true) (h : Cl P ops bar ord σ (Q .normal)) : AWP P (.region id ops true) Q σ := by
 intro T0 B a w nF
 refine wp_region_any hm ?_
 have oZ := List.all_eq_true.1 hdr
 simp only [v5, Bool.and_eq_true, beq_iff_eq, List.all_eq_true, decide_eq_true_eq, List.mem_range, List.contains_iff_mem] at ho
 obtain ⟨⟨⟨o1, o2⟩, o3⟩, o4⟩ := ho
 refine Gv (T0 := T0) (B := B) (w0 := w) (PT := []) (NB := []) (fun _ _ _ _ _ _ _ => Lj) hdr (Qa := Q .normal) (fun σ' a' w' hq hr hb => ⟨σ', hq, hr, hb⟩) ops.size ord _ σ a _ o1 (by simp) (wO o2) (fun i => ?_) o3 (fun m om hG hm => absurd (o4 m (Array.getElem?_eq_some_iff.1 hG).1) hm) ?_ Lj h (FT nF) ⟨rfl, rfl, rfl, Nat.le_refl _, fun _ _ => rfl⟩
 ·rw [Array.getD_eq_getD_getElem?, Array.getElem?_replicate]
  constructor
  ·intro hh; rw [if_pos (o3 i hh)]; rfl
  ·intro hh
   split at hh
   ·rename_i pa; exact o4 i pa
   ·cases hh
 ·intro j hj hl
  have ej := o3 j hj
  have hb := oZ j (List.mem_range.2 ej)
  simp only [Bool.and_eq_true, Bool.or_eq_true, Bool.not_eq_true'] at hb
  refine ⟨hb.2.resolve_left (by unfold SR at hl; rw [hl]; simp), ?_⟩
  have hc := List.all_eq_true.1 oG j (List.mem_range.2 ej)
  unfold SR at hl
  simp only [hl, Bool.not_true, Bool.false_or] at hc
  rw [Array.getElem?_eq_getElem ej] at hc
  simp only [Option.bind_some] at hc
  cases hd : ops[j].dst with
  | none => rw [hd] at hc; cases hc
  | some d => rw [hd] at hc; exact ⟨_, d, Array.getElem?_eq_getElem ej, hd, hc⟩
theorem Ln {id : Nat} {σ : St} {o : Oper} {l : List Oper} {br : Oper -> Bool} {k : Fr} (ord : List Nat) (hm : P.follows .mixedOrders = true) (ho : v5 (o :: l).length ord = true) (hdr : Oi P ⟨o :: l⟩ (posOf ord) (fun _ => false) = true) (oG : xP ⟨o :: l⟩ (posOf ord) σ = true)
  (h : @EI P σ ⟨⟨o :: l⟩, fun _ => false⟩ ⟨wJ (o :: l) o ord⟩ k) : @DI P id σ ⟨⟨o :: l⟩, br⟩ k := by
 have h2 : ∀ i ∈ ord, i < (o :: l).length := by
  simp only [v5, Bool.and_eq_true, List.all_eq_true, decide_eq_true_eq] at ho
  exact ho.1.2
 exact B5 hm ho hdr oG (FA h2 (Ja h))
end
end Go.Vm
