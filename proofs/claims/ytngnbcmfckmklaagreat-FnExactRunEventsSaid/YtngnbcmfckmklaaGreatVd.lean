/- An abstract machine GP the model of Go, by value, and that it is sound: part Vd. No condition. -/
import Derived.Test.YtngnbcmfckmklaaGreatVc
import Derived.Orders
namespace Go.Vm
open Go.RowKit
structure Sub (P : Program) (xs : List Operand) (σ1 σ : St) : Prop where
 len : σ1.length = σ.length
 look : ∀ x ∈ xs, ∀ ty, look P σ1 ty x = look P σ ty x
 ob : ∀ x ∈ xs, ∀ ty u, (Vm.look P σ1 ty x).ref u = true -> ∀ j, σ1.ob u j ≠ .none -> σ.ob u j = σ1.ob u j
theorem Jn {v : V} {x : At} {u : Nat} (h : unc v = .one x) (hx : x.ref u = true) : v.ref u = true := by
 cases v with
 | cnd g y => simp only [unc] at h; subst h; simp only [V.ref, V.MP, Bool.or_eq_true]; exact .inl hx
 | one y => simp only [unc] at h; cases h; exact hx
 | any => simp [unc] at h
 | agg xs => simp [unc] at h
 | tup xs => simp [unc] at h
 | fix g y => simp only [unc] at h; subst h; simp only [V.ref, V.MP, Bool.or_eq_true]; exact .inl hx
theorem Ol {v : V} {xs : List At} {u : Nat} (h : unc v = .agg xs) (hx : YU u xs = true) : v.ref u = true := by
 cases v with
 | cnd g y => simp only [unc] at h; subst h; simp only [V.ref, V.MP, Bool.or_eq_true]; exact .inl hx
 | agg y => simp only [unc] at h; cases h; exact hx
 | any => simp [unc] at h
 | one xs => simp [unc] at h
 | tup xs => simp [unc] at h
 | fix g y => simp only [unc] at h; subst h; simp only [V.ref, V.MP, Bool.or_eq_true]; exact .inl hx
theorem VC {v : V} {u : Nat} (hx : YU u (unc v).cells = true) : v.ref u = true := by
 cases h : unc v with
 | one x => rw [h] at hx; simp [V.cells, YU] at hx; exact Jn h hx
 | agg xs => rw [h] at hx; exact Ol h hx
 | any => rw [h] at hx; simp [V.cells, YU] at hx
 | tup xs => rw [h] at hx; simp [V.cells, YU] at hx
 | cnd g x => rw [h] at hx; simp [V.cells, YU] at hx
 | fix u x => rw [h] at hx; simp [V.cells, YU] at hx
section
variable {P : Program} {σ1 σ : St}
theorem Sub.same {xs : List Operand} {x : Operand} {ty : TypeId} {a : At} {u j : Nat} {o : Ob} (h : Sub P xs σ1 σ) (hx : x ∈ xs) (hv : unc (Vm.look P σ ty x) = .one a) (ha : a.ref u = true) (ho : σ1.ob u j = o) (hn : o ≠ .none) : σ.ob u j = o := by
 rw [<- ho]
 refine h.ob x hx ty u ?_ j (by rw [ho]; exact hn)
 rw [h.look x hx ty]
 exact Jn hv ha
theorem xH {xs : List Operand} {x : Operand} {k : IntKind} {n : Int} (h : Sub P xs σ1 σ) (hx : x ∈ xs) (hl : UI P σ1 x k n) : UI P σ x k n := by
 unfold UI at *
 rw [<- h.look x hx]; exact hl
theorem CJ {xs : List Operand} {df n : Nat} {x : Option Operand} (h : Sub P xs σ1 σ) (hx : ∀ y, x = some y -> y ∈ xs) (hl : bnd P σ1 df x n) : bnd P σ df x n := by
 cases x with
 | none => exact hl
 | some x =>
  simp only [bnd] at *
  rw [<- h.look x (hx x rfl)]; exact hl
theorem MN {T : TypeId} : ∀ {ps : List (Nat × Operand)} {z out : List At}, Sub P (ps.map (·.2)) σ1 σ -> U5 P σ1 T ps z out -> U5 P σ T ps z out
 | [], _, _, _, h => h
 | (i, x) :: ps, z, out, hs, h => by
  have e := hs.look x (by simp)
  simp only [U5] at h ⊢
  rw [<- e]
  refine ⟨h.1, h.2.1, h.2.2.1, h.2.2.2.1, h.2.2.2.2.1, MN ⟨hs.len, fun y hy => hs.look y (by simp at hy ⊢; exact .inr hy), fun y hy => hs.ob y (by simp at hy ⊢; exact .inr hy)⟩ h.2.2.2.2.2⟩
theorem R7 {op : Op} {ty : TypeId} {v : V} (hs : Yg P σ1 op ty v) (h : Sub P op.operands.toList σ1 σ) : Yg P σ op ty v := by
 cases op <;> simp only [Yg] at hs ⊢
 case move x => rw [<- h.look x (by simp [Op.operands])]; exact hs
 case assign x => rw [<- h.look x (by simp [Op.operands])]; exact hs
 case pick c a b =>
  rw [<- h.look c (by simp [Op.operands]), <- h.look a (by simp [Op.operands]), <- h.look b (by simp [Op.operands])]; exact hs
 case load T x =>
  rw [h.look x (by simp [Op.operands])] at hs
  refine ⟨hs.1, hs.2.1, ?_⟩
  have ic := hs.2.2
  split at ic
  ·rename_i t c hx
   obtain ⟨cells, ho, hr⟩ := ic
   exact ⟨cells, h.same (by simp [Op.operands]) hx (by simp [At.ref]) ho (by simp), hr⟩
  ·rename_i t j i c hx
   obtain ⟨q, size, rows, ho, hr⟩ := ic
   exact ⟨q, size, rows, h.same (by simp [Op.operands]) hx (by simp [At.ref]) ho (by simp), hr⟩
  ·exact ic
  ·exact ic.elim
 case nilCheck x =>
  rw [h.look x (by simp [Op.operands])] at hs
  refine ⟨hs.1, ?_⟩
  have ic := hs.2
  split at ic
  ·rename_i t c hx
   obtain ⟨⟨cells, ho⟩, hr⟩ := ic
   exact ⟨⟨cells, h.same (by simp [Op.operands]) hx (by simp [At.ref]) ho (by simp)⟩, hr⟩
  ·exact ic.elim
 case fieldAddr T x f =>
  rw [h.look x (by simp [Op.operands])] at hs
  refine ⟨hs.1, hs.2.1, ?_⟩
  have ic := hs.2.2
  split at ic
  ·rename_i t c hx
   obtain ⟨⟨cells, ho⟩, hr⟩ := ic
   exact ⟨⟨cells, h.same (by simp [Op.operands]) hx (by simp [At.ref]) ho (by simp)⟩, hr⟩
  ·rename_i t j i c hx
   obtain ⟨⟨q, size, rows, ho⟩, hr⟩ := ic
   exact ⟨⟨q, size, rows, h.same (by simp [Op.operands]) hx (by simp [At.ref]) ho (by simp)⟩, hr⟩
  ·exact ic
  ·rename_i t j i c k hx
   obtain ⟨⟨size, rows, ho⟩, hr⟩ := ic
   exact ⟨⟨size, rows, h.same (by simp [Op.operands]) hx (by simp [At.ref]) ho (by simp)⟩, hr⟩
  ·exact ic.elim
 case indexAddr T x ix =>
  obtain ⟨k, i, hk, h0, hg, ic⟩ := hs
  rw [h.look x (by simp [Op.operands])] at hg ic
  refine ⟨k, i, xH h (by simp [Op.operands]) hk, h0, hg, ?_⟩
  split at ic
  ·exact ic
  ·rename_i t j lo len hx
   obtain ⟨h1, h2, ⟨q, rows, ho⟩, hr⟩ := ic
   exact ⟨h1, h2, ⟨q, rows, h.same (by simp [Op.operands]) hx (by simp [At.ref]) ho (by simp)⟩, hr⟩
  ·rename_i t c hx
   obtain ⟨⟨cells, ho⟩, hr⟩ := ic
   exact ⟨⟨cells, h.same (by simp [Op.operands]) hx (by simp [At.ref]) ho (by simp)⟩, hr⟩
  ·rename_i t j m c hx
   obtain ⟨h1, h2, ⟨size, rows, s, ho, hr⟩, hv⟩ := ic
   exact ⟨h1, h2, ⟨size, rows, s, h.same (by simp [Op.operands]) hx (by simp [At.ref]) ho (by simp), hr⟩, hv⟩
  ·exact ic.elim
 case index T x ix =>
  obtain ⟨k, i, hk, h0, hg, ic⟩ := hs
  rw [h.look x (by simp [Op.operands])] at hg ic
  exact ⟨k, i, xH h (by simp [Op.operands]) hk, h0, hg, ic⟩
 case slice T x lo hi mx =>
  cases mx with
  | some m => exact hs.elim
  | none =>
   simp only at hs ⊢
   rw [h.look x (by simp [Op.operands])] at hs
   refine ⟨hs.1, ?_⟩
   have ic := hs.2
   have b1 : ∀ df n, bnd P σ1 df lo n -> bnd P σ df lo n := fun df n => CJ h (fun y hy => by subst hy; simp [Op.operands])
   have b2 : ∀ df n, bnd P σ1 df hi n -> bnd P σ df hi n := fun df n => CJ h (fun y hy => by subst hy; simp [Op.operands])
   split at ic
   ·obtain ⟨h1, l, hh, h2, h3, hr⟩ := ic
    exact ⟨h1, l, hh, b1 _ _ h2, b2 _ _ h3, hr⟩
   ·obtain ⟨h1, h1', l, hh, h2, h3, hr⟩ := ic
    exact ⟨h1, h1', l, hh, b1 _ _ h2, b2 _ _ h3, hr⟩
   ·rename_i t j o len hx
    obtain ⟨h1, ⟨q, rows, ho⟩, l, hh, h2, h3, hr⟩ := ic
    exact ⟨h1, ⟨q, rows, h.same (by simp [Op.operands]) hx (by simp [At.ref]) ho (by simp)⟩, l, hh, b1 _ _ h2, b2 _ _ h3, hr⟩
   ·exact ic.elim
 case binOp op T x y yt =>
  rw [<- h.look x (by simp [Op.operands]), <- h.look y (by simp [Op.operands])]; exact hs
 case unOp op T x => rw [<- h.look x (by simp [Op.operands])]; exact hs
 case convert S T x => rw [<- h.look x (by simp [Op.operands])]; exact hs
 case extract x i => rw [<- h.look x (by simp [Op.operands])]; exact hs
 case field T x f => rw [<- h.look x (by simp [Op.operands])]; exact hs
 case build T parts =>
  obtain ⟨h1, h2, z, out, h3, h4, h5⟩ := hs
  refine ⟨h1, h2, z, out, h3, MN ?_ h4, h5⟩
  simpa [Op.operands] using h
 case call c =>
  obtain ⟨cal, args, gZ⟩ := c
  have hm : ∀ x ∈ args.toList, x ∈ (Op.operands (.call ⟨cal, args, gZ⟩)).toList := by
   intro x hx
   simp only [Op.operands, Call.operands]
   cases cal <;> simp at hx ⊢ <;> simp [hx]
  split at hs
  ·rename_i x t hc ha ht
   rw [h.look x (hm x (by rw [ha]; simp))] at hs
   try simp only [hc, ha, ht]
   refine ⟨hs.1, ?_⟩
   have ic := hs.2
   split at ic
   ·exact ic
   ·exact ic
   ·exact ic
   ·rename_i u j lo len hx
    obtain ⟨h1, ⟨q, size, rows, ho⟩ | ⟨size, rows, ho⟩, hr⟩ := ic
    ·exact ⟨h1, .inl ⟨q, size, rows, h.same (hm x (by rw [ha]; simp)) hx (by simp [At.ref]) ho (by simp)⟩, hr⟩
    ·exact ⟨h1, .inr ⟨size, rows, h.same (hm x (by rw [ha]; simp)) hx (by simp [At.ref]) ho (by simp)⟩, hr⟩
   ·exact ic.elim
  ·rename_i x y hc ha
   try simp only [hc, ha]
   obtain ⟨k, m, n, h1, h2, h3⟩ := hs
   exact ⟨k, m, n, xH h (hm x (by rw [ha]; simp)) h1, xH h (hm y (by rw [ha]; simp)) h2, h3⟩
  ·rename_i x y hc ha
   try simp only [hc, ha]
   obtain ⟨k, m, n, h1, h2, h3⟩ := hs
   exact ⟨k, m, n, xH h (hm x (by rw [ha]; simp)) h1, xH h (hm y (by rw [ha]; simp)) h2, h3⟩
  ·exact hs.elim
end
end Go.Vm
namespace Go.Vm
open Go.RowKit
def GG (P : Program) (xs : List Operand) (σ : St) (u : Nat) : Prop :=
 ∃ x ∈ xs, ∃ ty, (look P σ ty x).ref u = true \/ ∃ t cells, (look P σ ty x).ref t = true /\ σ.ob t 0 = .box cells /\ YU u cells = true
theorem zn {u : Nat} : ∀ {xs : List At}, YU u xs = true ↔ ∃ x ∈ xs, x.ref u = true
 | [] => by simp [YU]
 | x :: xs => by simp [YU, zn]
theorem va {u : Nat} {xs ys : List At} (h : ∀ x ∈ xs, x ∈ ys) (hx : YU u xs = true) : YU u ys = true := by
 obtain ⟨x, h1, h2⟩ := zn.1 hx
 exact zn.2 ⟨x, h x h1, h2⟩
theorem NF {u a b : Nat} {xs : List At} (hx : YU u (cut xs a b) = true) : YU u xs = true :=
 va (fun _ h => List.mem_of_mem_drop (List.mem_of_mem_take h)) hx
theorem MJ {u : Nat} (xs : List D) : YU u (xs.map .d) = false := by
 induction xs with
 | nil => rfl
 | cons x xs ih => simp [YU, At.ref, ih]
theorem Nl {P : Program} {T : TypeId} {u : Nat} {xs : List At} (h : (ldV P T xs).ref u = true) : YU u xs = true := by
 unfold ldV at h
 split at h
 ·exact h
 ·split at h
  ·simpa [V.ref, YU] using h
  ·simp [V.ref] at h
theorem tN {u o : Nat} {r xs : List At} (h : YU u (place r o xs) = true) : YU u r = true \/ YU u xs = true := by
 obtain ⟨x, h1, h2⟩ := zn.1 h
 simp only [place, List.mem_append] at h1
 rcases h1 with (h1 | h1) | h1
 ·exact .inl (zn.2 ⟨x, List.mem_of_mem_take h1, h2⟩)
 ·exact .inr (zn.2 ⟨x, h1, h2⟩)
 ·exact .inl (zn.2 ⟨x, List.mem_of_mem_drop h1, h2⟩)
theorem pa {v : V} {u : Nat} (h : (unc v).ref u = true) (hc : ∀ g x, unc v ≠ .cnd g x) (hf : ∀ g x, unc v ≠ .fix g x) : v.ref u = true := by
 cases v with
 | cnd g x =>
  simp only [unc] at h hc hf
  simp only [V.ref, Bool.or_eq_true]
  cases x with
  | tup xs => exact .inr h
  | cnd g y => exact absurd rfl (hc g y)
  | fix g y => exact absurd rfl (hf g y)
  | one x => exact .inl h
  | agg x => exact .inl h
  | any => exact .inl h
 | fix g x =>
  simp only [unc] at h hc hf
  simp only [V.ref, Bool.or_eq_true]
  cases x with
  | tup xs => exact .inr h
  | cnd g y => exact absurd rfl (hc g y)
  | fix g y => exact absurd rfl (hf g y)
  | one x => exact .inl h
  | agg x => exact .inl h
  | any => exact .inl h
 | _ => exact h
theorem Fm {u t j i : Nat} : ∀ {c : Nat} {xs : List D}, YU u (Wt t j i c xs) = true -> u = t
 | _, [], h => by simp [Wt, YU] at h
 | c, x :: xs, h => by
  simp only [Wt, YU, Bool.or_eq_true] at h
  rcases h with h | h
  ·cases x <;> simp [At.ref] at h; exact h.symm
  ·exact Fm h
theorem v3 {u t j i c : Nat} {q : Bool} {xs : List D} (h : YU u (Sl q t j i c xs) = true) : u = t := by
 cases q with
 | true => exact Fm h
 | false => simp only [Sl] at h; rw [MJ] at h; cases h
theorem wV {op : BinOp} {k : IntKind} {x y : Int} {v : V} (h : EJ op k x y v) (u : Nat) : v.ref u = false := by
 cases op <;> simp only [EJ] at h <;> first | (subst h; rfl) | (obtain ⟨_, rfl⟩ := h; rfl) | exact h.elim
theorem Ao {op : BinOp} {x y : ByteArray} {v : V} (h : GB op x y v) (u : Nat) : v.ref u = false := by
 cases op <;> simp only [GB] at h <;> first | (subst h; rfl) | (obtain ⟨_, rfl⟩ := h; rfl) | exact h.elim
theorem AY {op : BinOp} {x y : Bool} {v : V} (h : NQ op x y v) (u : Nat) : v.ref u = false := by
 cases op <;> simp only [NQ] at h <;> first | (subst h; rfl) | (obtain ⟨_, rfl⟩ := h; rfl) | exact h.elim
theorem vr {P : Program} {op : BinOp} {T : TypeId} {x y v : V} (h : vL P op T x y v) (u : Nat) : v.ref u = false := by
 unfold vL at h
 split at h
 ·exact wV h.2 u
 ·exact Ao h u
 ·exact AY h.2 u
 ·obtain ⟨_, q, _, ⟨_, rfl⟩ | ⟨_, rfl⟩⟩ := h <;> rfl
 ·exact h.elim
theorem Co {u : Nat} : ∀ {xs : List V} {i : Nat} {v : V}, xs[i]? = some v -> v.MP u = true -> Tq u xs = true
 | [], _, _, h, _ => by simp at h
 | x :: xs, 0, v, h, hr => by simp at h; subst h; simp [Tq, hr]
 | x :: xs, i + 1, v, h, hr => by simp only [Tq, Bool.or_eq_true]; exact .inr (Co (by simpa using h) hr)
theorem CN {v : V} (hf : v.flat = true) (u : Nat) : v.ref u = v.MP u := by
 cases v <;> first | rfl | (simp [V.flat] at hf)
theorem EF {P : Program} {σ : St} {T : TypeId} {u : Nat} : ∀ {ps : List (Nat × Operand)} {z out : List At}, U5 P σ T ps z out -> YU u out = true ->
  YU u z = true \/ ∃ x ∈ ps.map (·.2), ∃ ty, (look P σ ty x).ref u = true
 | [], z, out, h, hr => by simp only [U5] at h; subst h; exact .inl hr
 | (i, x) :: ps, z, out, h, hr => by
  simp only [U5] at h
  rcases EF h.2.2.2.2.2 hr with h1 | ⟨y, hy, ty, h1⟩
  ·rcases tN h1 with h1 | h1
   ·exact .inl h1
   ·exact .inr ⟨x, by simp, _, VC h1⟩
  ·exact .inr ⟨y, by simp at hy ⊢; exact .inr hy, ty, h1⟩
theorem Cj {P : Program} {σ : St} {op : Op} {ty : TypeId} {v : V} {u : Nat} (hs : Yg P σ op ty v) (hr : v.ref u = true) : GG P op.operands.toList σ u := by
 have nod : ∀ {x : D}, v = .one (.d x) -> False := by intro x e; rw [e] at hr; cases hr
 cases op <;> simp only [Yg] at hs
 case move x => subst hs; exact ⟨x, by simp [Op.operands], ty, .inl hr⟩
 case assign x => subst hs; exact ⟨x, by simp [Op.operands], ty, .inl hr⟩
 case pick c a b => obtain ⟨bc, p, q, _, _, _, _, _, _, rfl⟩ := hs; cases hr
 case load T x =>
  have ic := hs.2.2
  split at ic
  ·rename_i t c hx
   obtain ⟨cells, ho, _, rfl⟩ := ic
   exact ⟨x, by simp [Op.operands], 0, .inr ⟨t, cells, Jn hx (by simp [At.ref]), ho, NF (Nl hr)⟩⟩
  ·rename_i t j i c hx
   obtain ⟨q, size, rows, _, _, _, rfl⟩ := ic
   have := v3 (Nl hr)
   exact ⟨x, by simp [Op.operands], 0, .inl (Jn hx (by simp [At.ref, this]))⟩
  ·obtain ⟨_, rfl⟩ := ic
   have := Nl hr; rw [MJ] at this; cases this
  ·exact ic.elim
 case nilCheck x =>
  have ic := hs.2
  split at ic
  ·rename_i t c hx
   obtain ⟨_, rfl⟩ := ic
   exact ⟨x, by simp [Op.operands], 0, .inl (Jn hx hr)⟩
  ·exact ic.elim
 case fieldAddr T x f =>
  have ic := hs.2.2
  split at ic
  ·rename_i t c hx
   obtain ⟨_, rfl⟩ := ic
   exact ⟨x, by simp [Op.operands], 0, .inl (Jn hx hr)⟩
  ·rename_i t j i c hx
   obtain ⟨_, rfl⟩ := ic
   exact ⟨x, by simp [Op.operands], 0, .inl (Jn hx hr)⟩
  ·subst ic; cases hr
  ·rename_i t j i c k hx
   obtain ⟨_, rfl⟩ := ic
   exact ⟨x, by simp [Op.operands], 0, .inl (Jn hx hr)⟩
  ·exact ic.elim
 case indexAddr T x ix =>
  obtain ⟨k, i, _, _, _, ic⟩ := hs
  split at ic
  ·obtain ⟨_, _, _, _, rfl⟩ := ic; cases hr
  ·rename_i t j lo len hx
   obtain ⟨_, _, _, _, rfl⟩ := ic
   exact ⟨x, by simp [Op.operands], 0, .inl (Jn hx hr)⟩
  ·rename_i t c hx
   obtain ⟨_, _, rfl⟩ := ic
   exact ⟨x, by simp [Op.operands], 0, .inl (Jn hx hr)⟩
  ·rename_i t j m c hx
   obtain ⟨_, _, _, rfl⟩ := ic
   exact ⟨x, by simp [Op.operands], 0, .inl (Jn hx hr)⟩
  ·exact ic.elim
 case index T x ix =>
  obtain ⟨k, i, _, _, _, ic⟩ := hs
  split at ic
  ·obtain ⟨_, _, rfl⟩ := ic; cases hr
  ·rename_i xs hx
   obtain ⟨_, _, _, rfl⟩ := ic
   exact ⟨x, by simp [Op.operands], 0, .inl (Ol hx (NF (Nl hr)))⟩
  ·exact ic.elim
 case slice T x lo hi mx =>
  cases mx with
  | some m => exact hs.elim
  | none =>
   simp only at hs
   have ic := hs.2
   split at ic
   ·obtain ⟨_, _, _, _, _, _, _, rfl⟩ := ic; cases hr
   ·obtain ⟨_, _, _, _, _, _, _, _, rfl⟩ := ic; cases hr
   ·rename_i t j o len hx
    obtain ⟨_, _, _, _, _, _, _, _, rfl⟩ := ic
    exact ⟨x, by simp [Op.operands], 0, .inl (Jn hx hr)⟩
   ·exact ic.elim
 case binOp op T x y yt => rw [vr hs.2.2 u] at hr; cases hr
 case unOp op T x =>
  have ic := hs.2
  split at ic
  ·subst ic; cases hr
  ·subst ic; cases hr
  ·exact ic.elim
 case convert S T x =>
  have ic := hs.2.2
  split at ic
  ·obtain ⟨_, _, rfl⟩ := ic; cases hr
  ·exact ic.elim
 case extract x i =>
  have ic := hs.2
  split at ic
  ·rename_i xs hx
   refine ⟨x, by simp [Op.operands], 0, .inl (pa ?_ (by rw [hx]; simp) (by rw [hx]; simp))⟩
   rw [hx]
   rw [CN ic.2] at hr
   exact Co ic.1 hr
  ·exact ic.elim
 case field T x f =>
  have ic := hs.2.2.2
  split at ic
  ·rename_i xs hx
   obtain ⟨_, rfl⟩ := ic
   exact ⟨x, by simp [Op.operands], 0, .inl (Ol hx (NF (Nl hr)))⟩
  ·exact ic.elim
 case build T parts =>
  obtain ⟨_, _, z, out, h3, h4, rfl⟩ := hs
  rcases EF h4 hr with h1 | ⟨x, hx, ty', h1⟩
  ·rw [NH u _ _ _ h3] at h1; cases h1
  ·exact ⟨x, by simpa [Op.operands] using hx, ty', .inl h1⟩
 case call c =>
  split at hs
  ·have ic := hs.2
   split at ic
   ·obtain ⟨_, rfl⟩ := ic; cases hr
   ·obtain ⟨_, rfl⟩ := ic; cases hr
   ·obtain ⟨_, rfl⟩ := ic; cases hr
   ·obtain ⟨_, _, rfl⟩ := ic; cases hr
   ·exact ic.elim
  ·obtain ⟨_, _, _, _, _, rfl⟩ := hs; cases hr
  ·obtain ⟨_, _, _, _, _, rfl⟩ := hs; cases hr
  ·exact hs.elim
end Go.Vm
namespace Go.Vm
open Go.RowKit
inductive Eff where
 | put (v : V)
 | new (v : V) (os : List Ob)
 | drop (t j : Nat) (v : V) (os : List Ob)
def Eff.ap (d : Nat) : Eff -> St -> St
 | .put v, σ => σ.put d v
 | .new v os, σ => σ.new d v os
 | .drop t j v os, σ => (σ.Z5 t j .none).new d v os
def Eff.ok (d : Nat) : Eff -> St -> Prop
 | .put _, _ => True
 | .new _ _, σ => σ.fresh d = true
 | .drop t j _ _, σ => (∃ q s r, σ.ob t j = .arr q s r) /\ (σ.Z5 t j .none).fresh d = true
def Eff.ref (u : Nat) : Eff -> Bool
 | .put v => v.ref u
 | .new v os => v.ref u || Y2 u os
 | .drop _ _ v os => v.ref u || Y2 u os
def Ok (o : Oper) : Bool :=
 match o.op with
 | .call ⟨.builtin .append, ⟨.const _ :: _⟩, _⟩ => false
 | .call ⟨.builtin .append, _, _⟩ => true
 | _ => false
def za (o : Oper) : Bool :=
 match o.op with
 | .alloc _ => false
 | .box _ _ => false
 | .buildSlice _ _ _ => false
 | .makeSlice _ _ _ => false
 | .call ⟨.builtin .append, _, _⟩ => false
 | .call ⟨.value _, _, _⟩ => false
 | _ => true
def RY (ops : Array Oper) (o : Oper) : List Operand :=
 o.op.operands.toList ++ (match o.guard with | some (j, _) => (match (ops[j]?).bind (·.dst) with | some dj => [.tmp dj] | none => []) | none => [])
section
variable {P : Program} {σ1 σ : St}
theorem Sub.left {xs ys : List Operand} (h : Sub P (xs ++ ys) σ1 σ) : Sub P xs σ1 σ := ⟨h.len, fun x hx => h.look x (by simp [hx]), fun x hx => h.ob x (by simp [hx])⟩
theorem AV {x : At} {d : D} (h : ∀ u, x.ref u = true -> ∀ j, σ1.ob u j ≠ .none -> σ.ob u j = σ1.ob u j) (hd : yJ σ1 x = some d) : yJ σ x = some d := by
 cases x with
 | sref t j lo len =>
  simp only [yJ] at hd ⊢
  split at hd
  ·rename_i q size rows ho
   rw [h t (by simp [At.ref]) j (by rw [ho]; simp), ho]; exact hd
  ·cases hd
 | _ => exact hd
theorem WZ : ∀ {xs : List At} {r : List D}, (∀ u, YU u xs = true -> ∀ j, σ1.ob u j ≠ .none -> σ.ob u j = σ1.ob u j) -> rowOf σ1 xs = some r -> rowOf σ xs = some r
 | [], _, _, h => h
 | x :: xs, r, h, hr => by
  simp only [rowOf] at hr ⊢
  split at hr
  ·rename_i d ds h1 h2
   rw [AV (fun u hu => h u (by rw [YU, hu]; rfl)) h1, WZ (fun u hu => h u (by rw [YU, hu, Bool.or_true])) h2]
   exact hr
  ·cases hr
theorem DC {v : V} {r : List D} (h : ∀ u, YU u v.cells = true -> ∀ j, σ1.ob u j ≠ .none -> σ.ob u j = σ1.ob u j) (hr : v.zH σ1 = some r) : v.zH σ = some r := by
 cases v with
 | one x => exact WZ h hr
 | agg xs =>
  match xs, h, hr with
  | [], h, hr => exact WZ h hr
  | [_], _, hr => simp [V.zH] at hr
  | x :: y :: xs, h, hr => exact WZ h hr
 | any => simp [V.zH] at hr
 | tup xs => simp [V.zH] at hr
 | cnd g x => simp [V.zH] at hr
 | fix u x => simp [V.zH] at hr
theorem Sub.cells {xs : List Operand} {x : Operand} (h : Sub P xs σ1 σ) (hx : x ∈ xs) (ty : TypeId) : ∀ u, YU u (unc (Vm.look P σ1 ty x)).cells = true -> ∀ j, σ1.ob u j ≠ .none -> σ.ob u j = σ1.ob u j :=
 fun u hu j hn => h.ob x hx ty u (VC hu) j hn
theorem TH : ∀ {xs : List Operand} {ts : List TypeId} {rs : List (List D)}, Sub P xs σ1 σ -> Qs P σ1 xs ts rs -> Qs P σ xs ts rs
 | [], _, _, _, h => h
 | x :: xs, [], _, _, h => h.elim
 | x :: xs, t :: ts, rs, hs, h => by
  obtain ⟨hg, r, rest, h1, h2, h3⟩ := h
  have e := hs.look x (by simp) t
  refine ⟨by rw [<- e]; exact hg, r, rest, ?_, TH ⟨hs.len, fun y hy => hs.look y (by simp [hy]), fun y hy => hs.ob y (by simp [hy])⟩ h2, h3⟩
  rw [<- e]
  exact DC (hs.cells (by simp) t) h1
theorem Tk : ∀ {xs : List Operand} {ts : List TypeId}, Sub P xs σ1 σ -> Ym P σ xs ts = Ym P σ1 xs ts
 | [], _, _ => by simp [Ym]
 | x :: xs, [], _ => by simp [Ym]
 | x :: xs, t :: ts, hs => by
  simp only [Ym]
  rw [hs.look x (by simp) t, Tk ⟨hs.len, fun y hy => hs.look y (by simp [hy]), fun y hy => hs.ob y (by simp [hy])⟩]
theorem PF {c : Call} {f : FuncId} {own : Bool} {res : List (List D)} (hs : Sub P c.args.toList σ1 σ) (h : w5 P σ1 c f own res) : w5 P σ c f own res := by
 obtain ⟨rows, h1, h2, h3⟩ := h
 exact ⟨rows, TH hs h1, h2, by rw [Tk hs]; exact h3⟩
theorem L5 {T : TypeId} {size : Nat} : ∀ {ps : List (Nat × Operand)} {k : Nat} {rs : List (List D)}, Sub P (ps.map (·.2)) σ1 σ -> FZ P σ1 T size ps k rs -> FZ P σ T size ps k rs
 | [], _, _, _, h => h
 | (i, x) :: ps, k, rs, hs, h => by
  have e := hs.look x (by simp) T
  obtain ⟨h1, h2, h3, h4, r, rest, h5, h6, h7, h8⟩ := h
  refine ⟨h1, by rw [<- e]; exact h2, by rw [<- e]; exact h3, by rw [<- e]; exact h4, r, rest, ?_, h6, L5 ⟨hs.len, fun y hy => hs.look y (by simp at hy ⊢; exact .inr hy), fun y hy => hs.ob y (by simp at hy ⊢; exact .inr hy)⟩ h7, h8⟩
  rw [<- e]
  exact WZ (hs.cells (by simp) T) h5
theorem Ln {T : TypeId} {size : Nat} : ∀ {ps : List (Nat × Operand)} {k : Nat} {rs : List (List At)}, Sub P (ps.map (·.2)) σ1 σ -> Ns P σ1 T size ps k rs -> Ns P σ T size ps k rs
 | [], _, _, _, h => h
 | (i, x) :: ps, k, rs, hs, h => by
  obtain ⟨h1, h2, h3, h4, rest, h5, h6⟩ := h
  have e := hs.look x (by simp) T
  rw [e] at h2 h3 h4 h6
  exact ⟨h1, h2, h3, h4, rest, Ln ⟨hs.len, fun y hy => hs.look y (by simp at hy ⊢; exact .inr hy), fun y hy => hs.ob y (by simp at hy ⊢; exact .inr hy)⟩ h5, h6⟩
theorem Cx {T : TypeId} {size u : Nat} : ∀ {ps : List (Nat × Operand)} {k : Nat} {rs : List (List At)}, Ns P σ T size ps k rs -> YU u rs.flatten = true -> ∃ x ∈ ps.map (·.2), (Vm.look P σ T x).ref u = true
 | [], _, _, h, hr => by simp only [Ns] at h; subst h; simp [YU] at hr
 | (i, x) :: ps, k, rs, h, hr => by
  obtain ⟨h1, h2, h3, h4, rest, h5, rfl⟩ := h
  rw [List.flatten_cons] at hr
  obtain ⟨z, hz, fQ⟩ := zn.1 hr
  rcases List.mem_append.1 hz with hz | hz
  ·exact ⟨x, by simp, VC (zn.2 ⟨z, hz, fQ⟩)⟩
  ·obtain ⟨y, hy, hyr⟩ := Cx h5 (zn.2 ⟨z, hz, fQ⟩)
   exact ⟨y, by simp at hy ⊢; exact .inr hy, hyr⟩
theorem xQ (u : Nat) : ∀ (qs : List Bool) (ds : List D), Y2 u (YM qs ds) = false
 | qs, [] => by cases qs <;> rfl
 | q :: qs, .sl size rows :: ds => by simp [YM, Y2, xQ u qs ds]
 | [], .sl size rows :: ds => by simp [YM, Y2, xQ u [] ds]
 | qs, .int _ _ :: ds => by cases qs <;> simp [YM, Y2, xQ u _ ds]
 | qs, .bool _ :: ds => by cases qs <;> simp [YM, Y2, xQ u _ ds]
 | qs, .str _ :: ds => by cases qs <;> simp [YM, Y2, xQ u _ ds]
 | qs, .unk :: ds => by cases qs <;> simp [YM, Y2, xQ u _ ds]
theorem TF {xs : List Operand} {x : Operand} {ty : TypeId} {size : Nat} {news : List (List D)} (hs : Sub P xs σ1 σ) (hx : x ∈ xs) (h : qJ σ1 (unc (Vm.look P σ1 ty x)) size news) : qJ σ (unc (Vm.look P σ ty x)) size news := by
 rw [hs.look x hx] at h
 unfold qJ at h ⊢
 split at h
 ·exact h
 ·exact h
 ·rename_i t j lo len hv
  obtain ⟨rows, ho, hr⟩ := h
  exact ⟨rows, hs.same hx hv (by simp [At.ref]) ho (by simp), hr⟩
 ·exact h.elim
theorem tU (u : Nat) (r : List D) : (vOf (r.map At.d)).ref u = false := by
 have := MJ (u := u) r
 match r, this with
 | [], _ => rfl
 | [x], _ => rfl
 | x :: y :: r, h => exact h
theorem vd (u : Nat) (r : List D) : (vOf (r.map At.d)).MP u = false := by
 have := MJ (u := u) r
 match r, this with
 | [], _ => rfl
 | [x], _ => rfl
 | x :: y :: r, h => exact h
theorem tX (u : Nat) (res : List (List D)) : (j4 res).ref u = false := by
 have tl : ∀ rs : List (List D), Tq u (rs.map fun r => vOf (r.map At.d)) = false := by
  intro rs
  induction rs with
  | nil => rfl
  | cons r rs ih => simp only [List.map_cons, Tq, vd, ih, Bool.or_false]
 match res with
 | [] => rfl
 | [r] => exact tU u r
 | r :: r' :: rs => exact tl (r :: r' :: rs)
theorem Oj {u d : Nat} (hu : u ≠ d) : ∀ (k : Nat) (r : List D), YU u (KV d k r) = false
 | _, [] => rfl
 | k, x :: r => by cases x <;> simp [KV, YU, At.ref, Oj hu, Ne.symm hu]
theorem wZ {u : Nat} {xs : List At} (h : YU u xs = false) : (vOf xs).MP u = false := by
 match xs, h with
 | [], _ => rfl
 | [x], h => simpa [vOf, V.MP, YU] using h
 | x :: y :: xs, h => exact h
theorem Am {u d : Nat} (hu : u ≠ d) (res : List (List D)) : (Vg d res).ref u = false := by
 have tl : ∀ (k : Nat) (rs : List (List D)), Tq u (Cd d k rs) = false := by
  intro k rs
  induction rs generalizing k with
  | nil => rfl
  | cons r rs ih => simp only [Cd, Tq, wZ (Oj hu _ _), ih, Bool.or_false]
 match res with
 | [] => exact tl 0 []
 | [r] =>
  have h1 : (vOf (KV d 0 r)).flat = true := by
   match KV d 0 r with
   | [] => rfl
   | [x] => rfl
   | x :: y :: xs => rfl
  have := wZ (Oj hu 0 r)
  rw [<- CN h1] at this
  exact this
 | r :: r' :: rs => exact tl 0 (r :: r' :: rs)
theorem FV (u : Nat) : ∀ (ds : List D), Y2 u (xE ds) = false
 | [] => rfl
 | x :: ds => by cases x <;> simp [xE, Y2, FV u ds]
theorem Mc (ty : TypeId) (v : Value) (u : Nat) : (cst P ty v).ref u = false := by
 unfold cst
 split <;> first | rfl | skip
 all_goals (repeat' split) <;> first | rfl | skip
end
end Go.Vm
namespace Go.Vm
open Go.RowKit
def Gl (P : Program) (ops : Array Oper) (o : Oper) (d : Nat) (σ1 : St) (e : Eff) : Prop :=
 e.ok d σ1 /\ (∀ t j v os, e = .drop t j v os -> Ok o = true /\ ∃ x ∈ RY ops o, ∃ ty, (look P σ1 ty x).ref t = true) /\
 (za o = true \/ o.guard.isSome = true -> ∃ v, e = .put v) /\
 (o.guard = none -> ∀ u, u ≠ d -> e.ref u = true -> GG P (RY ops o) σ1 u) /\
 ∀ σ, Sub P (RY ops o) σ1 σ -> e.ok d σ -> XS P ops o σ (e.ap d σ)
section
variable {P : Program} {ops : Array Oper} {o : Oper} {d : Nat} {σ1 σ2 : St}
theorem NM {xs ys : List Operand} {u : Nat} (h : GG P xs σ1 u) : GG P (xs ++ ys) σ1 u := by
 obtain ⟨x, hx, r⟩ := h
 exact ⟨x, by simp [hx], r⟩
theorem Uz {σ σ' : St} (hg : o.guard = none) (hd : o.dst = some d) (h : Step P o d σ σ') : XS P ops o σ σ' := by
 unfold XS; simp only [hg, hd]; exact h
theorem Ht {v : V} (hg : o.guard = none) (hd : o.dst = some d) (href : ∀ u, u ≠ d -> v.ref u = true -> GG P o.op.operands.toList σ1 u)
  (fP : ∀ σ, Sub P o.op.operands.toList σ1 σ -> Step P o d σ (σ.put d v)) : Gl P ops o d σ1 (.put v) :=
 ⟨trivial, (fun t j v os h => by cases h), fun _ => ⟨v, rfl⟩, fun _ u hu hr => NM (href u hu hr), fun σ hs _ => Uz hg hd (fP σ hs.left)⟩
theorem Ua {v : V} {os : List Ob} (hg : o.guard = none) (hd : o.dst = some d) (hp : za o = false) (hR : σ1.fresh d = true) (href : ∀ u, u ≠ d -> (v.ref u || Y2 u os) = true -> GG P o.op.operands.toList σ1 u)
  (fP : ∀ σ, Sub P o.op.operands.toList σ1 σ -> σ.fresh d = true -> Step P o d σ (σ.new d v os)) : Gl P ops o d σ1 (.new v os) :=
 ⟨hR, (fun t j v os h => by cases h), (fun h => h.elim (fun h => by rw [hp] at h; cases h) (fun h => by rw [hg] at h; cases h)), fun _ u hu hr => NM (href u hu hr), fun σ hs hf => Uz hg hd (fP σ hs.left hf)⟩
theorem ku {c : Call} {x : Operand} (hx : x ∈ c.args.toList) : x ∈ (Op.operands (.call c)).toList := by
 obtain ⟨cal, args, gZ⟩ := c
 simp only [Op.operands, Call.operands]
 cases cal <;> simp at hx ⊢ <;> simp [hx]
theorem Ny {c : Call} {σ : St} (h : Sub P (Op.operands (.call c)).toList σ1 σ) : Sub P c.args.toList σ1 σ :=
 ⟨h.len, fun x hx => h.look x (ku hx), fun x hx => h.ob x (ku hx)⟩
theorem r8 (hg : o.guard = none) (hd : o.dst = some d) (hs : Step P o d σ1 σ2) : ∃ e : Eff, σ2 = e.ap d σ1 /\ Gl P ops o d σ1 e := by
 have g4 : (∃ v, Yg P σ1 o.op o.type v /\ σ2 = σ1.put d v) -> (∀ σ v, Yg P σ o.op o.type v -> Step P o d σ (σ.put d v)) -> ∃ e : Eff, σ2 = e.ap d σ1 /\ Gl P ops o d σ1 e := by
  rintro ⟨v, hv, rfl⟩ hQ
  exact ⟨.put v, rfl, Ht hg hd (fun u _ hr => Cj hv hr) (fun σ gG => hQ σ v (R7 hv gG))⟩
 have hs0 := hs
 unfold Step at hs
 split at hs
 ·rename_i T iS
  obtain ⟨hf, hz, row, hO, rfl⟩ := hs
  refine ⟨.new _ _, rfl, Ua hg hd (by simp [za, iS]) hf (fun u hu hr => ?_) (fun σ gG eW => ?_)⟩
  ·simp only [V.ref, At.ref, Y2, NH u _ _ _ hO, Bool.or_false, beq_iff_eq] at hr
   exact absurd hr.symm hu
  ·unfold Step; rw [iS]; exact ⟨eW, hz, row, hO, rfl⟩
 ·rename_i T x iS
  obtain ⟨hf, h1, h2, h3, rfl⟩ := hs
  refine ⟨.new _ _, rfl, Ua hg hd (by simp [za, iS]) hf (fun u hu hr => ?_) (fun σ gG eW => ?_)⟩
  ·simp only [V.ref, At.ref, Y2, Bool.or_false, Bool.or_eq_true, beq_iff_eq] at hr
   rcases hr with hr | hr
   ·exact absurd hr.symm hu
   ·exact ⟨x, by simp [iS, Op.operands], T, .inl (VC hr)⟩
  ·have e := gG.look x (by simp [iS, Op.operands]) T
   unfold Step; rw [iS]
   simp only
   rw [<- e]
   exact ⟨eW, h1, h2, h3, rfl⟩
 ·rename_i T n parts iS
  obtain ⟨hf, h1, h2, h3, h4, h5, ⟨rows, h6, rfl⟩ | ⟨rows, h6, h7, rfl⟩⟩ := hs
  ·refine ⟨.new _ _, rfl, Ua hg hd (by simp [za, iS]) hf (fun u hu hr => ?_) (fun σ gG eW => ?_)⟩
   ·simp only [V.ref, At.ref, Y2, Bool.or_false, beq_iff_eq] at hr
    exact absurd hr.symm hu
   ·unfold Step; rw [iS]
    refine ⟨eW, h1, h2, h3, h4, h5, .inl ⟨rows, L5 ?_ h6, rfl⟩⟩
    rw [iS] at gG
    simpa [Op.operands] using gG
  ·refine ⟨.new _ _, rfl, Ua hg hd (by simp [za, iS]) hf (fun u hu hr => ?_) (fun σ gG eW => ?_)⟩
   ·simp only [V.ref, At.ref, Y2, Bool.or_false, Bool.or_eq_true, beq_iff_eq] at hr
    rcases hr with hr | hr
    ·exact absurd hr.symm hu
    ·obtain ⟨x, hx, hxr⟩ := Cx h6 hr
     exact ⟨x, by simpa [iS, Op.operands] using hx, _, .inl hxr⟩
   ·unfold Step; rw [iS]
    refine ⟨eW, h1, h2, h3, h4, h5, .inr ⟨rows, Ln ?_ h6, h7, rfl⟩⟩
    rw [iS] at gG
    simpa [Op.operands] using gG
 ·rename_i T x y iS
  obtain ⟨rfl, hf, h1, h2, h3, q, z, zr, k, n, hq, h4, h5, h6, h7, h8, rfl⟩ := hs
  refine ⟨.new _ _, rfl, Ua hg hd (by simp [za, iS]) hf (fun u hu hr => ?_) (fun σ gG eW => ?_)⟩
  ·simp only [V.ref, At.ref, Y2, Bool.or_false, beq_iff_eq] at hr
   exact absurd hr.symm hu
  ·unfold Step; rw [iS]
   exact ⟨rfl, eW, h1, h2, h3, q, z, zr, k, n, hq, h4, h5, xH gG (by simp [iS, Op.operands]) h6, h7, h8, rfl⟩
 ·rename_i c iS
  split at hs
  ·rename_i hc
   obtain ⟨x, y, t, ha, bn, h1, h2, h3, h4, h5, iT, news, σd, h6, h7, h8, h9, dY, rfl⟩ := hs
   have hx : x ∈ o.op.operands.toList := by rw [iS]; exact ku (by rw [ha]; simp)
   have hy : y ∈ o.op.operands.toList := by rw [iS]; exact ku (by rw [ha]; simp)
   have dO : za o = false := by
    obtain ⟨cc, ca, ct⟩ := c
    simp only at hc; subst hc
    simp [za, iS]
   have refs : ∀ u, u ≠ d -> (V.ref u (.one (.sref d 0 0 (iT.length + news.length))) || Y2 u [.arr false (P.cellsOf (ZQ P t)) (iT ++ news)]) = true -> GG P o.op.operands.toList σ1 u := by
    intro u hu hr
    simp only [V.ref, At.ref, Y2, Bool.or_false, beq_iff_eq] at hr
    exact absurd hr.symm hu
   have h6' := h6
   unfold SL at h6
   split at h6
   ·rename_i s heq
    obtain ⟨rfl, rfl⟩ := h6
    refine ⟨.new _ _, rfl, Ua hg hd dO h8 refs (fun σ gG eW => ?_)⟩
    unfold Step; rw [iS]
    simp only [hc]
    refine ⟨x, y, t, ha, bn, ?_, ?_, h3, h4, h5, [], news, σ, ?_, TF gG hy h7, eW, h9, dY, rfl⟩
    ·rw [<- gG.look x hx]; exact h1
    ·rw [<- gG.look y hy]; exact h2
    ·rw [<- gG.look x hx]; unfold SL; rw [heq]; exact ⟨rfl, rfl⟩
   ·rename_i tt j lo len heq
    obtain ⟨rows, ho, eN, hlen, holds, rfl⟩ := h6
    have hrx : (look P σ1 t x).ref tt = true := Jn heq (by simp [At.ref])
    refine ⟨.drop tt j _ _, rfl, ⟨⟨_, _, _, ho⟩, h8⟩, ?_, (fun hh => hh.elim (fun hh => by rw [dO] at hh; cases hh) (fun hh => by rw [hg] at hh; cases hh)), fun _ u hu hr => NM (refs u hu hr), fun σ gG eW => Uz hg hd ?_⟩
    ·intro t' j' v os he
     cases he
     refine ⟨?_, x, by simp only [RY, List.mem_append]; exact .inl hx, t, hrx⟩
     obtain ⟨cc, ca, ct⟩ := c
     simp only at hc ha; subst hc ha
     cases x with
     | const v => rw [Vm.look, Mc] at hrx; cases hrx
     | _ => simp [Ok, iS]
    ·have dP := gG.left
     unfold Step; rw [iS]
     simp only [hc]
     have eS : unc (look P σ t x) = .one (.sref tt j lo len) := by rw [<- dP.look x hx]; exact heq
     refine ⟨x, y, t, ha, bn, ?_, ?_, h3, h4, h5, iT, news, _, ?_, TF dP hy h7, eW.2, h9, dY, rfl⟩
     ·rw [<- dP.look x hx]; exact h1
     ·rw [<- dP.look y hy]; exact h2
     ·unfold SL; rw [eS]
      exact ⟨rows, dP.same hx eS (by simp [At.ref]) ho (by simp), eN, hlen, holds, rfl⟩
   ·exact h6.elim
  ·rename_i f hc
   have dO : za o = false := by
    obtain ⟨cc, ca, ct⟩ := c
    simp only at hc; subst hc
    simp [za, iS]
   rcases hs with ⟨own, res, hcr, rfl⟩ | ⟨res, hcr, hf, rfl⟩ | ⟨rows, res, qs, ha, hsd, hq, hf, rfl⟩
   ·refine ⟨.put _, rfl, Ht hg hd (fun u _ hr => by rw [tX] at hr; cases hr) (fun σ gG => ?_)⟩
    rw [iS] at gG
    unfold Step; rw [iS]
    simp only [hc]
    exact .inl ⟨own, res, PF (Ny gG) hcr, rfl⟩
   ·refine ⟨.new _ _, rfl, Ua hg hd dO hf (fun u hu hr => ?_) (fun σ gG eW => ?_)⟩
    ·rw [Am hu, FV] at hr; cases hr
    ·rw [iS] at gG
     unfold Step; rw [iS]
     simp only [hc]
     exact .inr (.inl ⟨res, PF (Ny gG) hcr, eW, rfl⟩)
   ·refine ⟨.new _ _, rfl, Ua hg hd dO hf (fun u hu hr => ?_) (fun σ gG eW => ?_)⟩
    ·rw [Am hu, xQ] at hr; cases hr
    ·rw [iS] at gG
     unfold Step; rw [iS]
     simp only [hc]
     exact .inr (.inr ⟨rows, res, qs, TH (Ny gG) ha, hsd, hq, eW, rfl⟩)
  ·rename_i h1 h2
   refine g4 hs (fun σ v hv => ?_)
   unfold Step; rw [iS]
   simp only
   exact ⟨v, by rw [iS] at hv; exact hv, rfl⟩
 ·rename_i S T x iS
  rcases hs with hs | ⟨l, h1, h2, h3, h4, rfl⟩ | ⟨s, h1, h2, h3, h4, h5, rfl⟩
  ·refine g4 hs (fun σ v hv => ?_)
   unfold Step; rw [iS]
   exact .inl ⟨v, by rw [iS] at hv; exact hv, rfl⟩
  ·refine ⟨.put _, rfl, Ht hg hd (fun u _ hr => by cases hr) (fun σ gG => ?_)⟩
   have hx : x ∈ o.op.operands.toList := by simp [iS, Op.operands]
   unfold Step; rw [iS]
   exact .inr (.inl ⟨l, by rw [<- gG.look x hx]; exact h1, h2, h3, TF gG hx h4, rfl⟩)
  ·refine ⟨.put _, rfl, Ht hg hd (fun u _ hr => by cases hr) (fun σ gG => ?_)⟩
   have hx : x ∈ o.op.operands.toList := by simp [iS, Op.operands]
   unfold Step; rw [iS]
   exact .inr (.inr ⟨s, by rw [<- gG.look x hx]; exact h1, h2, h3, by rw [<- gG.look x hx]; exact h4, h5, rfl⟩)
 ·rename_i n1 n2 n3 n4 n5 n6
  refine g4 hs (fun σ v hv => ?_)
  unfold Step
  split
  ·rename_i T iS; exact absurd iS (n1 T)
  ·rename_i T x iS; exact absurd iS (n2 T x)
  ·rename_i T n ps iS; exact absurd iS (n3 T n ps)
  ·rename_i T x y iS; exact absurd iS (n4 T x y)
  ·rename_i c iS; exact absurd iS (n5 c)
  ·rename_i S T x iS; exact absurd iS (n6 S T x)
  ·exact ⟨v, hv, rfl⟩
end
end Go.Vm
namespace Go.Vm
open Go.RowKit
theorem y4 {σ : St} {d : Nat} : σ.fresh d = true ↔ d < σ.length /\ ∀ t e, σ[t]? = some e -> t ≠ d -> e.1.ref d = false /\ Y2 d e.2 = false := by
 unfold St.fresh
 rw [Bool.and_eq_true, decide_eq_true_eq]
 refine and_congr_right fun _ => ⟨fun h t e he iU => y9 h t e he (by omega), fun h => ?_⟩
 have : ∀ (σ : St) (k : Nat), (∀ t e, σ[t]? = some e -> k + t ≠ d -> e.1.ref d = false /\ Y2 d e.2 = false) -> z8 d k σ = true := by
  intro σ
  induction σ with
  | nil => intro k _; rfl
  | cons e σ ih =>
   intro k hk
   simp only [z8, Bool.and_eq_true, Bool.or_eq_true, beq_iff_eq, Bool.not_eq_true']
   refine ⟨?_, ih (k + 1) fun t e' he iU => hk (t + 1) e' (by simpa using he) (by omega)⟩
   by_cases h0 : k = d
   ·exact .inl h0
   ·exact .inr (hk 0 e (by simp) (by omega))
 exact this σ 0 (fun t e he iU => h t e he (by omega))
theorem wk {σ : St} {t : Nat} {e : Ent} (h : σ[t]? = some e) (j : Nat) : σ.ob t j = Yp e.2 j := by unfold St.ob; rw [h]
theorem Gm {σ : St} {t j : Nat} {o : Ob} (h : σ.ob t j = o) (hn : o ≠ .none) : ∃ e, σ[t]? = some e /\ Yp e.2 j = o := by
 unfold St.ob at h
 split at h
 ·rename_i e he; exact ⟨e, he, h⟩
 ·exact absurd h.symm hn
theorem F1 {u : Nat} : ∀ {os : List Ob} {j : Nat} {cells : List At}, Yp os j = .box cells -> YU u cells = true -> Y2 u os = true
 | [], _, _, h, _ => by simp [Yp] at h
 | o :: os, 0, cells, h, hr => by
  have : o = .box cells := h
  subst this
  simp [Y2, hr]
 | o :: os, j + 1, cells, h, hr => by
  have h' : Yp os j = .box cells := by simpa [Yp] using h
  have := F1 h' hr
  cases o <;> simp [Y2, this]
theorem xM {u s : Nat} {q : Bool} {r : List (List D)} : ∀ {os : List Ob} {j : Nat}, Yp os j = .arr q s r -> Y2 u (os.set j .none) = Y2 u os
 | [], _, h => by simp [Yp] at h
 | o :: os, 0, h => by
  have : o = .arr q s r := h
  subst this
  simp [Y2]
 | o :: os, j + 1, h => by
  have h' : Yp os j = .arr q s r := by simpa [Yp] using h
  have := xM (u := u) h'
  cases o <;> simp [Y2, this]
theorem tI {σ : St} {d : Nat} (h : JH σ d = true) {e : Ent} (he : σ[d]? = some e) (u : Nat) : e.1.ref u = false /\ Y2 u e.2 = false := by
 unfold JH at h
 split at h
 ·rename_i h1; rw [he] at h1; cases h1; exact ⟨rfl, rfl⟩
 ·rename_i h1; rw [he] at h1; cases h1; exact ⟨rfl, rfl⟩
 ·cases h
section
variable {P : Program} {ops : Array Oper} {o x y : Oper} {d dx dy : Nat} {σ σ1 σ2 : St}
theorem Tv (hd : o.dst = some d) (hs : XS P ops o σ1 σ2) : ∃ e : Eff, σ2 = e.ap d σ1 /\ Gl P ops o d σ1 e := by
 unfold XS at hs
 split at hs
 ·rename_i hg
  simp only [hd] at hs
  exact r8 hg hd hs
 ·rename_i j want hg
  obtain ⟨dj, d', g, v, fD, ij, ir, fI, hv, rfl⟩ := hs
  rw [hd] at ir; cases ir
  refine ⟨.put (.cnd g v), rfl, trivial, (fun t j v os h => by cases h), fun _ => ⟨_, rfl⟩, (fun h => by rw [hg] at h; cases h), fun σ gG _ => ?_⟩
  have gq : Operand.tmp dj ∈ RY ops o := by simp [RY, hg, fD]
  have gY : σ.get dj = σ1.get dj := (gG.look _ gq 0).symm
  unfold XS
  simp only [hg]
  refine ⟨dj, d, g, v, fD, by rw [<- gG.len]; exact ij, hd, by rw [gY]; exact fI, fun bo => ?_, rfl⟩
  have fS := hv bo
  have dw := gG.left
  unfold M8 at fS ⊢
  split at fS
  ·rename_i c iS
   split at fS
   ·rename_i f hc
    obtain ⟨own, res, hcr, rfl⟩ := fS
    rw [iS] at dw
    exact ⟨own, res, PF (Ny dw) hcr, rfl⟩
   ·obtain ⟨v0, h1, h2⟩ := fS
    exact ⟨v0, R7 h1 dw, h2⟩
  ·obtain ⟨v0, h1, h2⟩ := fS
   exact ⟨v0, R7 h1 dw, h2⟩
theorem Tl (e : Eff) : (e.ap d σ).length = σ.length := by
 cases e <;> simp [Eff.ap, St.Jk, St.Sr, St.X7]
theorem AU (e : Eff) {t : Nat} (iU : t ≠ d) : (e.ap d σ).get t = σ.get t := by
 cases e with
 | put v => simp [Eff.ap, St.yb, iU]
 | new v os => simp [Eff.ap, St.SP, iU]
 | drop a j v os => simp [Eff.ap, St.SP, St.QP, iU]
theorem sE {t u : Nat} (h : (σ.get t).ref u = true) : ∃ e, σ[t]? = some e /\ e.1.ref u = true := by
 unfold St.get at h
 split at h
 ·rename_i e he; exact ⟨e, he, h⟩
 ·cases h
end
end Go.Vm
namespace Go.Vm
open Go.RowKit
section
variable {P : Program} {ops : Array Oper} {x y : Oper} {dx dy : Nat} {σ σ1 σ2 : St}
theorem Vy {d : Nat} (hf : ∀ t e, σ[t]? = some e -> t ≠ d -> e.1.ref d = false) {z : Operand} (hz : z ≠ .tmp d) (ty : TypeId) : (look P σ ty z).ref d = false := by
 cases z with
 | tmp t =>
  have iU : t ≠ d := fun h => hz (by rw [h])
  cases hr : (look P σ ty (.tmp t)).ref d with
  | false => rfl
  | true =>
   obtain ⟨e, he, gL⟩ := sE (σ := σ) (t := t) hr
   rw [hf t e he iU] at gL; cases gL
 | const v => exact Mc ty v d
 | global g => rfl
 | func f => rfl
theorem look_eq {d : Nat} (hg : ∀ t, t ≠ d -> σ1.get t = σ.get t) {z : Operand} (hz : z ≠ .tmp d) (ty : TypeId) : look P σ1 ty z = look P σ ty z := by
 cases z with
 | tmp t => exact hg t (fun h => hz (by rw [h]))
 | const v => rfl
 | global g => rfl
 | func f => rfl
theorem TS {e : Eff} {d : Nat} (h : e.ok d σ) (iU : ∀ v, e ≠ .put v) : ∀ t en, σ[t]? = some en -> t ≠ d -> en.1.ref d = false := by
 intro t en he ht
 cases e with
 | put v => exact absurd rfl (iU v)
 | new v os => exact ((y4.1 h).2 t en he ht).1
 | drop a j v os =>
  have := (y4.1 h.2).2 t
  rw [qa] at this
  by_cases cO : t = a
  ·rw [if_pos cO, he] at this
   exact (this _ rfl ht).1
  ·rw [if_neg cO] at this
   exact (this en he ht).1
theorem O1 {e : Eff} {d : Nat} (h : e.ok d σ) (iU : ∀ v, e ≠ .put v) : ∀ t en, σ[t]? = some en -> t ≠ d -> Y2 d en.2 = false := by
 intro t en he ht
 cases e with
 | put v => exact absurd rfl (iU v)
 | new v os => exact ((y4.1 h).2 t en he ht).2
 | drop a j v os =>
  obtain ⟨⟨q, s, r, ho⟩, hf⟩ := h
  have := (y4.1 hf).2 t
  rw [qa] at this
  by_cases cO : t = a
  ·rw [if_pos cO, he] at this
   have h2 := (this _ rfl ht).2
   subst cO
   rw [wk he] at ho
   rw [xM ho] at h2
   exact h2
  ·rw [if_neg cO] at this
   exact (this en he ht).2
theorem oM {e : Eff} {d : Nat} (h : e.ok d σ) (iU : ∀ v, e ≠ .put v) : d < σ.length := by
 cases e with
 | put v => exact absurd rfl (iU v)
 | new v os => exact (y4.1 h).1
 | drop a j v os => have := (y4.1 h.2).1; rwa [St.X7] at this
theorem oo {e : Eff} {d : Nat} (h : e.ok d σ) {u j : Nat} (hu : (∀ v, e ≠ .put v) -> u ≠ d) (hn : (e.ap d σ).ob u j ≠ .none) : σ.ob u j = (e.ap d σ).ob u j := by
 cases e with
 | put v => simp only [Eff.ap, St.JW]
 | new v os =>
  have := hu (by intro v h; cases h)
  simp only [Eff.ap, St.zF, this, false_and, if_false]
 | drop a k v os =>
  have bK := hu (by intro v h; cases h)
  obtain ⟨⟨q, s, r, ho⟩, _⟩ := h
  simp only [Eff.ap, St.zF, bK, false_and, if_false] at hn ⊢
  rw [St.JV σ a k _ u j (by rw [ho]; simp)] at hn ⊢
  split at hn
  ·exact absurd rfl hn
  ·rename_i hh; rw [if_neg hh]
theorem AB {e : Eff} {d : Nat} (gd : ∀ t j v os, e ≠ .drop t j v os) {u j : Nat} (hu : (∀ v, e ≠ .put v) -> u ≠ d) : (e.ap d σ).ob u j = σ.ob u j := by
 cases e with
 | put v => simp only [Eff.ap, St.JW]
 | new v os =>
  have := hu (by intro v h; cases h)
  simp only [Eff.ap, St.zF, this, false_and, if_false]
 | drop a k v os => exact absurd rfl (gd a k v os)
theorem rT {e : Eff} {d t : Nat} {en : Ent} (hR : e.ok d σ) (ht : t ≠ d) (he : (e.ap d σ)[t]? = some en) : ∃ en0, σ[t]? = some en0 /\ en0.1 = en.1 /\ ∀ u, Y2 u en0.2 = Y2 u en.2 := by
 cases e with
 | put v => simp only [Eff.ap, Uy, if_neg ht] at he; exact ⟨en, he, rfl, fun _ => rfl⟩
 | new v os => simp only [Eff.ap, jC, if_neg ht] at he; exact ⟨en, he, rfl, fun _ => rfl⟩
 | drop a j v os =>
  simp only [Eff.ap, jC, if_neg ht, qa] at he
  split at he
  ·rename_i cO
   subst cO
   obtain ⟨⟨q, s, r, ho⟩, _⟩ := hR
   obtain ⟨e0, bI, gS⟩ := Gm ho (by simp)
   rw [bI] at he
   simp at he
   subst he
   exact ⟨e0, bI, rfl, fun u => (xM gS).symm⟩
  ·exact ⟨en, he, rfl, fun _ => rfl⟩
theorem swap (fk : x.dst = some dx) (ea : y.dst = some dy) (iU : dx ≠ dy) (bZ : ∀ z ∈ RY ops y, z ≠ .tmp dx) (hyx : ∀ z ∈ RY ops x, z ≠ .tmp dy) (gd : Ok y = false) (hgp : y.guard = none \/ za x = true \/ x.guard.isSome = true)
  (gP : JH σ dx = true) (h1 : XS P ops x σ σ1) (h2 : XS P ops y σ1 σ2) : ∃ σ1', XS P ops y σ σ1' /\ XS P ops x σ1' σ2 := by
 obtain ⟨ex, rfl, cP, aW, purex, _, frx⟩ := Tv fk h1
 obtain ⟨ey, rfl, oky, dropy, _, refy, fry⟩ := Tv ea h2
 have hyd : ∀ t j v os, ey ≠ .drop t j v os := by
  intro t j v os h
  have := (dropy t j v os h).1
  rw [gd] at this; cases this
 have suby : Sub P (RY ops y) (ex.ap dx σ) σ := by
  refine ⟨Tl ex, fun z hz ty => look_eq (fun t ht => AU ex ht) (bZ z hz) ty, fun z hz ty u hr j hn => ?_⟩
  refine oo cP (fun ff hu => ?_) hn
  subst hu
  rw [look_eq (fun t ht => AU ex ht) (bZ z hz) ty, Vy (TS cP ff) (bZ z hz)] at hr
  cases hr
 have aC : ey.ok dy σ := by
  cases ey with
  | put v => trivial
  | drop a j v os => exact absurd rfl (hyd a j v os)
  | new v os =>
   have hf := y4.1 oky
   refine y4.2 ⟨by rw [<- Tl ex (d := dx)]; exact hf.1, fun t e he ht => ?_⟩
   by_cases aY : t = dx
   ·subst aY; exact tI gP he dy
   ·cases ex with
    | put v' => exact hf.2 t e (by simp only [Eff.ap, Uy, if_neg aY]; exact he) ht
    | new v' bd => exact hf.2 t e (by simp only [Eff.ap, jC, if_neg aY]; exact he) ht
    | drop a j v' bd =>
     obtain ⟨⟨q, s, r, ho⟩, _⟩ := cP
     by_cases cO : t = a
     ·subst cO
      have := hf.2 t (e.1, e.2.set j .none) (by simp only [Eff.ap, jC, if_neg aY, qa, if_true, he, Option.map_some]) ht
      rw [wk he] at ho
      rw [xM ho] at this
      exact this
     ·exact hf.2 t e (by simp only [Eff.ap, jC, if_neg aY, qa, if_neg cO]; exact he) ht
 have stepy := fry σ suby aC
 have subx : Sub P (RY ops x) σ (ey.ap dy σ) := by
  refine ⟨(Tl ey).symm, fun z hz ty => (look_eq (fun t ht => AU ey ht) (hyx z hz) ty).symm, fun z hz ty u hr j hn => ?_⟩
  refine AB hyd (fun ff hu => ?_)
  subst hu
  rw [Vy (TS aC ff) (hyx z hz)] at hr
  cases hr
 have yref : (∀ v, ex ≠ .put v) -> ey.ref dx = false := by
  intro ff
  have hg : y.guard = none := by
   rcases hgp with h | h
   ·exact h
   ·obtain ⟨v, hv⟩ := purex h; exact absurd hv (ff v)
  cases hr : ey.ref dx with
  | false => rfl
  | true =>
   obtain ⟨z, hz, ty, gT⟩ := refy hg dx iU hr
   have hl : look P (ex.ap dx σ) ty z = look P σ ty z := look_eq (fun t ht => AU ex ht) (bZ z hz) ty
   rw [hl] at gT
   rcases gT with gT | ⟨t', cells, ht', ho, hc⟩
   ·rw [Vy (TS cP ff) (bZ z hz)] at gT; cases gT
   ·have aY : t' ≠ dx := by
     intro h; subst h
     rw [Vy (TS cP ff) (bZ z hz)] at ht'; cases ht'
    have hD : σ.ob t' 0 = .box cells := by rw [oo cP (fun _ => aY) (by rw [ho]; simp), ho]
    obtain ⟨en, hen, hoe⟩ := Gm hD (by simp)
    have := O1 cP ff t' en hen aY
    rw [F1 hoe hc] at this; cases this
 have entries : (∀ v, ex ≠ .put v) -> ∀ t e, (ey.ap dy σ)[t]? = some e -> t ≠ dx -> e.1.ref dx = false /\ Y2 dx e.2 = false := by
  intro ff t e he ht
  have hy := yref ff
  by_cases eO : t = dy
  ·subst eO
   cases ey with
   | put v =>
    simp only [Eff.ap, Uy, if_true, Option.map_eq_some_iff] at he
    obtain ⟨e0, bI, rfl⟩ := he
    exact ⟨hy, O1 cP ff t e0 bI ht⟩
   | new v os =>
    simp only [Eff.ap, jC, if_true, Option.map_eq_some_iff] at he
    obtain ⟨e0, bI, rfl⟩ := he
    simp only [Eff.ref, Bool.or_eq_false_iff] at hy
    exact hy
   | drop a j v os => exact absurd rfl (hyd a j v os)
  ·obtain ⟨e0, bI, h1, h2⟩ := rT aC eO he
   rw [<- h1, <- h2]
   exact ⟨TS cP ff t e0 bI ht, O1 cP ff t e0 bI ht⟩
 have okx' : ex.ok dx (ey.ap dy σ) := by
  cases ex with
  | put v => trivial
  | new v os =>
   have ff : ∀ v', Eff.new v os ≠ .put v' := by intro v' h; cases h
   exact y4.2 ⟨by rw [Tl]; exact oM cP ff, entries ff⟩
  | drop a j v os =>
   have ff : ∀ v', Eff.drop a j v os ≠ .put v' := by intro v' h; cases h
   obtain ⟨z, hz, ty, hr⟩ := (aW a j v os rfl).2
   obtain ⟨q, s, r, ho⟩ := cP.1
   have hD : (ey.ap dy σ).ob a j = .arr q s r := by rw [<- ho]; exact subx.ob z hz ty a hr j (by rw [ho]; simp)
   refine ⟨⟨q, s, r, hD⟩, y4.2 ⟨by rw [St.X7, Tl]; exact oM cP ff, fun t e he ht => ?_⟩⟩
   rw [qa] at he
   split at he
   ·rename_i cO
    subst cO
    obtain ⟨e0, bI, gS⟩ := Gm hD (by simp)
    rw [bI] at he; simp at he; subst he
    have := entries ff t e0 bI ht
    exact ⟨this.1, by rw [xM gS]; exact this.2⟩
   ·exact entries ff t e he ht
 refine ⟨_, stepy, ?_⟩
 have := frx _ subx okx'
 have heq : ex.ap dx (ey.ap dy σ) = ey.ap dy (ex.ap dx σ) := by
  apply List.ext_getElem?
  intro t
  have hnexy := iU
  cases ex with
  | put v =>
   cases ey with
   | put v' => simp only [Eff.ap, Uy]; by_cases h1 : t = dx <;> by_cases h2 : t = dy <;> simp_all
   | new v' bd => simp only [Eff.ap, Uy, jC]; by_cases h1 : t = dx <;> by_cases h2 : t = dy <;> simp_all
   | drop a j v' bd => exact absurd rfl (hyd a j v' bd)
  | new v os =>
   cases ey with
   | put v' => simp only [Eff.ap, Uy, jC]; by_cases h1 : t = dx <;> by_cases h2 : t = dy <;> simp_all
   | new v' bd => simp only [Eff.ap, jC]; by_cases h1 : t = dx <;> by_cases h2 : t = dy <;> simp_all
   | drop a j v' bd => exact absurd rfl (hyd a j v' bd)
  | drop a j v os =>
   obtain ⟨z, hz, ty, hr⟩ := (aW a j v os rfl).2
   cases ey with
   | put v' =>
    simp only [Eff.ap, Uy, jC, qa]
    by_cases h1 : t = dx <;> by_cases h2 : t = dy <;> by_cases h3 : t = a <;> simp_all
    all_goals (first | (cases σ[dy]? <;> rfl) | (cases σ[t]? <;> rfl) | (cases σ[a]? <;> rfl))
   | new v' bd =>
    have hay : a ≠ dy := by
     intro h; subst h
     rw [Vy (TS aC (by intro v h; cases h)) (hyx z hz)] at hr; cases hr
    simp only [Eff.ap, jC, qa]
    by_cases h1 : t = dx <;> by_cases h2 : t = dy <;> by_cases h3 : t = a <;> simp_all
   | drop a' j' v' bd => exact absurd rfl (hyd a' j' v' bd)
 rw [<- heq]
 exact this
end
end Go.Vm
namespace Go.Vm
open Go.RowKit
def vJ (ops : Array Oper) (bar : Oper -> Bool) (x y : Oper) : Bool := !bar x && !bar y &&
 (match x.dst, y.dst with
 | some dx, some dy => dx != dy && !(RY ops y).any (xT dx) && !(RY ops x).any (xT dy) && !Ok y && (y.guard.isNone || za x || x.guard.isSome)
 | _, _ => false)
def Ah (bar : Oper -> Bool) (x y : Oper) : Bool := !bar x && !bar y && x.guard.isNone && y.guard.isNone &&
 (match x.dst, y.dst, y.op with
 | some dx, none, .store _ p q => (match x.op with | .move _ => true | .assign _ => true | .extract _ _ => true | _ => false) && !xT dx p && !xT dx q
 | _, _, _ => false)
def w7 (bar : Oper -> Bool) (x y : Oper) : Bool := !bar x && bar y && x.guard.isNone && Oq y && y.guard.isNone && y.dst.isNone &&
 (match x.dst with
 | some dx => (match x.op with | .move _ => true | .assign _ => true | .extract _ _ => true | _ => false) && VI y dx
 | none => false)
def FA (PT : List (Nat × Nat)) (σ : St) : Prop := ∀ p ∈ PT, σ.get p.1 = .any \/ ∃ c, σ.get p.1 = .one (.bptr p.2 c)
def ptB (PT : List (Nat × Nat)) (σ : St) : Bool := PT.all fun p => match σ.get p.1 with | .any => true | .one (.bptr b _) => b == p.2 | _ => false
def NO (ops : Array Oper) (PT : List (Nat × Nat)) : Bool := ops.toList.all fun o => match o.dst with
 | none => true
 | some d => PT.all fun p => p.1 != d || (o.guard.isNone && (match o.op with | .fieldAddr _ (.tmp r) _ => PT.contains (r, p.2) | _ => false))
def H2 (PT : List (Nat × Nat)) (b : Nat) : Op -> Bool
 | .load _ (.tmp t) => PT.any fun r => r.1 == t && r.2 != b
 | .fieldAddr _ _ _ => true
 | .move _ => true
 | .assign _ => true
 | .extract _ _ => true
 | .binOp _ _ _ _ _ => true
 | .call ⟨.builtin .len, ⟨[_]⟩, ⟨[_]⟩⟩ => true
 | _ => false
def swapT (PT : List (Nat × Nat)) (bar : Oper -> Bool) (x y : Oper) : Bool := !bar x && !bar y && x.guard.isNone && y.guard.isNone &&
 (match x.dst, y.dst, y.op with
 | some dx, none, .store _ (.tmp tp) q => tp != dx && !xT dx q && PT.any fun p => p.1 == tp && H2 PT p.2 x.op
 | _, _, _ => false)
def EB (NB : List Nat) (σ : St) : Prop := ∀ t ∈ NB, ∀ b c, unc (σ.get t) ≠ .one (.bptr b c)
def nbB (NB : List Nat) (σ : St) : Bool := NB.all fun t => match unc (σ.get t) with | .one (.bptr _ _) => false | _ => true
def Gp (P : Program) (ops : Array Oper) (NB : List Nat) : Bool := ops.toList.all fun o => match o.dst with
 | none => true
 | some d => NB.all fun t => t != d || (o.guard.isNone && (match o.op with | .indexAddr T _ _ => XK P T | _ => false))
def Da (PT : List (Nat × Nat)) (NB : List Nat) (σ : St) : Prop := FA PT σ /\ EB NB σ
def wj (PT : List (Nat × Nat)) (NB : List Nat) (bar : Oper -> Bool) (x y : Oper) : Bool := !bar x && bar y && x.guard.isNone && Oq y && y.guard.isNone && y.dst.isNone &&
 (match x.dst, y.op with
 | some dx, .store _ (.tmp tp) q => NB.contains tp && tp != dx && !xT dx q && (match x.op with | .load _ (.tmp t) => PT.any fun r => r.1 == t | .fieldAddr _ (.tmp t) _ => PT.any fun r => r.1 == t | _ => false)
 | _, _ => false)
def uP (PT : List (Nat × Nat)) : Op -> Bool
 | .move _ => true
 | .load _ (.tmp t) => PT.any fun r => r.1 == t
 | .fieldAddr _ (.tmp _) _ => true
 | .slice _ (.tmp _) _ _ none => true
 | _ => false
def Aw (PT : List (Nat × Nat)) (ops : Array Oper) (bar : Oper -> Bool) (x y : Oper) : Bool := bar x && !bar y && RZ x && x.guard.isNone && y.guard.isNone && uP PT y.op &&
 (match x.dst, y.dst with
 | some dx, some dy => dx != dy && !(RY ops y).any (xT dx) && !(RY ops x).any (xT dy)
 | _, _ => false)
def Nv (o : Oper) (j : Nat) : Bool := o.after.any fun e => e.on == j && Region.binds .any e
def OG : List Oper -> List Nat -> List Nat
 | [], acc => acc
 | o :: rest, acc => OG rest (acc ++ [o.after.toList.foldl (fun m e => if Region.binds .any e then m ||| (1 <<< e.on) ||| acc.getD e.on 0 else m) 0])
def uY (ms : List Nat) (i j : Nat) : Bool := (ms.getD i 0).testBit j
inductive Pre (ops : Array Oper) : Nat -> Nat -> Prop
 | one {i j : Nat} {o : Oper} (ho : ops[i]? = some o) (hp : Nv o j = true) : Pre ops i j
 | more {i m j : Nat} {o : Oper} (ho : ops[i]? = some o) (hp : Nv o m = true) (h : Pre ops m j) : Pre ops i j
theorem CM {ops : Array Oper} : ∀ {l : List Oper} {acc : List Nat}, (∀ k o, l[k]? = some o -> ops[acc.length + k]? = some o) -> (∀ i j, (acc.getD i 0).testBit j = true -> Pre ops i j) -> ∀ i j, uY (OG l acc) i j = true -> Pre ops i j
 | [], acc, _, ha, i, j, h => ha i j h
 | o :: rest, acc, hl, ha, i, j, h => by
  refine CM (l := rest) (fun k o' hk => ?_) (fun i j cW => ?_) i j h
  ·have := hl (k + 1) o' (by simpa using hk)
   rw [List.length_append, List.length_singleton, Nat.add_assoc, Nat.add_comm 1 k]; exact this
  ·rw [List.getD_eq_getElem?_getD] at cW
   rcases Nat.lt_trichotomy i acc.length with ij | heq | bo
   ·rw [List.getElem?_append_left ij, <- List.getD_eq_getElem?_getD] at cW
    exact ha i j cW
   ·subst heq
    rw [List.getElem?_append_right (Nat.le_refl _)] at cW
    simp only [Nat.sub_self, List.getElem?_cons_zero, Option.getD_some] at cW
    have ho := hl 0 o (by simp)
    rw [Nat.add_zero] at ho
    have key : ∀ (es : List Edge) (m : Nat), (∀ e ∈ es, e ∈ o.after) -> (∀ j, m.testBit j = true -> Pre ops acc.length j) -> ∀ j, (es.foldl (fun m e => if Region.binds .any e then m ||| (1 <<< e.on) ||| acc.getD e.on 0 else m) m).testBit j = true -> Pre ops acc.length j := by
     intro es
     induction es with
     | nil => intro m _ hm j hj; exact hm j hj
     | cons e es ih =>
      intro m hes hm j hj
      refine ih _ (fun e' he' => hes e' (by simp [he'])) (fun j hj => ?_) j hj
      by_cases hb : Region.binds .any e = true
      ·simp only [hb, if_true] at hj
       have hp : Nv o e.on = true := by
        unfold Nv
        rw [<- Array.any_toList]
        exact List.any_eq_true.2 ⟨e, by simpa using hes e (by simp), by simp [hb]⟩
       rw [Nat.testBit_or, Nat.testBit_or, Bool.or_eq_true, Bool.or_eq_true] at hj
       rcases hj with (hj | hj) | hj
       ·exact hm j hj
       ·rw [Nat.testBit_shiftLeft] at hj
        simp only [Bool.and_eq_true, decide_eq_true_eq] at hj
        have h1 : j - e.on = 0 := by
         have := hj.2
         rw [show (1 : Nat) = 2 ^ 0 from rfl, Nat.testBit_two_pow] at this
         have h3 : 0 = j - e.on := by simpa using this
         omega
        have : j = e.on := by omega
        subst this
        exact .one ho hp
       ·exact .more ho hp (ha e.on j hj)
      ·simp only [hb, Bool.false_eq_true, if_false] at hj; exact hm j hj
    exact key o.after.toList 0 (fun e he => by simpa using he) (fun j hj => by simp at hj) j cW
   ·rw [List.getElem?_eq_none (by simp; omega)] at cW
    simp at cW
def vD (ops : Array Oper) (i j : Nat) : Bool := uY (OG ops.toList []) i j
theorem tM {ops : Array Oper} {i j : Nat} (h : vD ops i j = true) : Pre ops i j :=
 CM (l := ops.toList) (acc := []) (fun k o hk => by simpa using hk) (fun i j h => by simp at h) i j h
def oQ (ops : Array Oper) (bar : Oper -> Bool) (PT : List (Nat × Nat)) (NB : List Nat) (ms : List Nat) (i j : Nat) : Bool := match ops[i]?, ops[j]? with | some oi, some oj => uY ms i j || vJ ops bar oj oi || Ah bar oj oi || swapT PT bar oj oi || w7 bar oj oi || Aw PT ops bar oj oi || wj PT NB bar oj oi | _, _ => false
def oV (ops : Array Oper) (pos : Nat -> Nat) (i : Nat) : Bool := match ops[i]? with | some o => o.after.all fun e => !Region.binds .any e || (decide (pos e.on < pos i) && decide (e.on < ops.size)) | none => false
def uc (ops : Array Oper) (j : Nat) : Bool := match ops[j]? with
 | some o => (match o.dst with | some d => (List.range ops.size).all fun k => k == j || (match ops[k]? with | some q => q.dst != some d | none => true) | none => false)
 | none => false
def Br (ops : Array Oper) (pos : Nat -> Nat) (ms : List Nat) (j : Nat) : Bool := (List.range ops.size).any fun i => decide (pos j < pos i) && !uY ms i j
def PQ (ops : Array Oper) (pos : Nat -> Nat) (j : Nat) : Bool := Br ops pos (OG ops.toList []) j
def wB (ops : Array Oper) (pos : Nat -> Nat) (bar : Oper -> Bool) (PT : List (Nat × Nat)) (NB : List Nat) (ms : List Nat) : Bool :=
 (List.range ops.size).all fun i => oV ops pos i && ((List.range ops.size).all fun j => !decide (pos j < pos i) || oQ ops bar PT NB ms i j) && (!Br ops pos ms i || uc ops i)
def Nj (ops : Array Oper) (pos : Nat -> Nat) (bar : Oper -> Bool) : Bool := wB ops pos bar [] [] (OG ops.toList [])
def yv (ops : Array Oper) (pos : Nat -> Nat) (σ : St) : Bool :=
 let ms := OG ops.toList []
 (List.range ops.size).all fun j => !Br ops pos ms j || (match (ops[j]?).bind (·.dst) with | some d => JH σ d | none => false)
theorem Pt {xs : List Operand} {d : Nat} (h : xs.any (xT d) = false) : ∀ z ∈ xs, z ≠ .tmp d := by
 intro z hz he
 subst he
 have := List.any_eq_false.1 h _ hz
 simp [xT] at this
theorem uI {ops : Array Oper} {bar : Oper -> Bool} {x y : Oper} (h : vJ ops bar x y = true) : bar x = false /\ bar y = false /\ ∃ dx dy, x.dst = some dx /\ y.dst = some dy /\ dx ≠ dy /\ (∀ z ∈ RY ops y, z ≠ .tmp dx) /\ (∀ z ∈ RY ops x, z ≠ .tmp dy) /\ Ok y = false /\ (y.guard = none \/ za x = true \/ x.guard.isSome = true) := by
 unfold vJ at h
 rw [Bool.and_eq_true, Bool.and_eq_true] at h
 obtain ⟨⟨fL, gr⟩, h⟩ := h
 refine ⟨by simpa using fL, by simpa using gr, ?_⟩
 split at h
 ·rename_i dx dy h1 h2
  simp only [Bool.and_eq_true, bne_iff_ne, ne_eq, Bool.not_eq_true', Bool.or_eq_true, Option.isNone_iff_eq_none] at h
  exact ⟨dx, dy, h1, h2, h.1.1.1.1, Pt h.1.1.1.2, Pt h.1.1.2, h.1.2, or_assoc.1 h.2⟩
 ·cases h
theorem xY {P : Program} {σ : St} {t j : Nat} {o : Ob} {T : TypeId} {x : Operand} : look P (σ.Z5 t j o) T x = look P σ T x := by
 cases x with
 | tmp u => simp [look, St.QP]
 | const c => rfl
 | global g => rfl
 | func f => rfl
theorem Pv {σ : St} {d : Nat} {v : V} : ∀ (xs : List At), rowOf (σ.put d v) xs = rowOf σ xs
 | [] => rfl
 | x :: xs => by
  have : yJ (σ.put d v) x = yJ σ x := by cases x <;> simp [yJ, St.JW]
  simp only [rowOf, this, Pv xs]
theorem oG {P : Program} {ops : Array Oper} {bar : Oper -> Bool} {x y : Oper} {σ σ1 σ2 : St} (h : Ah bar x y = true) (gh : yQ P ops bar x σ σ1) (ic : yQ P ops bar y σ1 σ2) : ∃ σ1', XS P ops y σ σ1' /\ XS P ops x σ1' σ2 := by
 unfold Ah at h
 simp only [Bool.and_eq_true, Bool.not_eq_true', Option.isNone_iff_eq_none] at h
 obtain ⟨⟨⟨⟨fL, gr⟩, cY⟩, ew⟩, h⟩ := h
 have gh := gh.resolve_right (fun hh => by rw [fL] at hh; cases hh.1)
 have ic := ic.resolve_right (fun hh => by rw [gr] at hh; cases hh.1)
 split at h
 ·rename_i dx T p q fk ea iS
  simp only [Bool.and_eq_true, Bool.not_eq_true'] at h
  obtain ⟨⟨hv, hp⟩, hq⟩ := h
  unfold XS at gh ic
  simp only [cY, fk] at gh
  simp only [ew, ea, iS] at ic
  have e1 : ∃ v, Yg P σ x.op x.type v /\ σ1 = σ.put dx v := by
   unfold Step at gh
   cases hx : x.op <;> rw [hx] at gh hv <;> first | exact gh | (exact Bool.noConfusion hv)
  obtain ⟨v, fS, rfl⟩ := e1
  have g9 : ∀ (t j : Nat) (o : Ob), Yg P (σ.Z5 t j o) x.op x.type v := by
   intro t j o
   cases hx : x.op <;> rw [hx] at hv fS <;> first | (exact Bool.noConfusion hv) | (simp only [Yg, xY] at fS ⊢; exact fS)
  have hx2 : ∀ (t j : Nat) (o : Ob), XS P ops x (σ.Z5 t j o) ((σ.put dx v).Z5 t j o) := by
   intro t j o
   unfold XS
   simp only [cY, fk]
   have := g9 t j o
   rw [qT]
   unfold Step
   cases hx : x.op <;> rw [hx] at hv this <;> first | exact ⟨v, this, rfl⟩ | (exact Bool.noConfusion hv)
  unfold xl at ic
  rw [XO hp, XO hq] at ic
  obtain ⟨k1, k2, k3, k4, ic⟩ := ic
  split at ic
  ·rename_i t c hl
   obtain ⟨cells, c1, c2, c3, rfl⟩ := ic
   rw [St.JW] at c1
   refine ⟨_, ?_, hx2 _ _ _⟩
   unfold XS xl
   simp only [ew, ea, iS]
   refine ⟨k1, k2, k3, k4, ?_⟩
   rw [hl]
   exact ⟨cells, c1, c2, c3, rfl⟩
  ·rename_i t j i c hl
   obtain ⟨q', size, rows, ds, c1, c2, c3, c4, c5, c6, c7, rfl⟩ := ic
   rw [St.JW] at c1
   rw [Pv] at c3
   refine ⟨_, ?_, hx2 _ _ _⟩
   unfold XS xl
   simp only [ew, ea, iS]
   refine ⟨k1, k2, k3, k4, ?_⟩
   rw [hl]
   exact ⟨q', size, rows, ds, c1, c2, c3, c4, c5, c6, c7, rfl⟩
  ·exact ic.elim
 ·cases h
theorem kE {P : Program} {σ : St} {T : TypeId} {t : Nat} : look P σ T (.tmp t) = σ.get t := rfl
theorem Cc {P : Program} {PT : List (Nat × Nat)} {b : Nat} {o : Oper} {op : Op} {d : Nat} {σ σ' : St} (ho : o.op = op) (h : H2 PT b op = true) : Step P o d σ σ' ↔ ∃ v, Yg P σ op o.type v /\ σ' = σ.put d v := by
 unfold Step
 rw [ho]
 unfold H2 at h
 split at h <;> first | exact Iff.rfl | (exact Bool.noConfusion h)
theorem nN {P : Program} {PT : List (Nat × Nat)} {b : Nat} {op : Op} {ty : TypeId} {v : V} {σ : St} {cells cs : List At} (h : H2 PT b op = true) (hp : FA PT σ) (c1 : σ.ob b 0 = .box cells) (hv : Yg P σ op ty v) : Yg P (σ.Z5 b 0 (.box cs)) op ty v := by
 have iU : σ.ob b 0 ≠ .none := by rw [c1]; intro e; cases e
 have ho := fun u i => St.JV σ b 0 (.box cs) u i iU
 have gw : ∀ t j, (∃ q size rows, σ.ob t j = .arr q size rows) -> ∃ q size rows, (σ.Z5 b 0 (.box cs)).ob t j = .arr q size rows := by
  rintro t j ⟨q, size, rows, e⟩
  by_cases hh : t = b /\ j = 0
  ·obtain ⟨rfl, rfl⟩ := hh; rw [c1] at e; cases e
  ·exact ⟨q, size, rows, by rw [ho, if_neg hh]; exact e⟩
 have bC : ∀ t j, (∃ size rows, σ.ob t j = .lit size rows) -> ∃ size rows, (σ.Z5 b 0 (.box cs)).ob t j = .lit size rows := by
  rintro t j ⟨size, rows, e⟩
  by_cases hh : t = b /\ j = 0
  ·obtain ⟨rfl, rfl⟩ := hh; rw [c1] at e; cases e
  ·exact ⟨size, rows, by rw [ho, if_neg hh]; exact e⟩
 have aB : ∀ t, (∃ cells, σ.ob t 0 = .box cells) -> ∃ cells, (σ.Z5 b 0 (.box cs)).ob t 0 = .box cells := by
  rintro t ⟨ce, e⟩
  by_cases hh : t = b
  ·subst hh; exact ⟨cs, by rw [ho, if_pos ⟨rfl, rfl⟩]⟩
  ·exact ⟨ce, by rw [ho, if_neg (fun hh2 => hh hh2.1)]; exact e⟩
 unfold H2 at h
 split at h
 ·rename_i T t
  simp only [List.any_eq_true, Bool.and_eq_true, beq_iff_eq, bne_iff_ne, ne_eq] at h
  obtain ⟨r, hrm, rfl, hrb⟩ := h
  simp only [Yg, xY] at hv ⊢
  refine ⟨hv.1, hv.2.1, ?_⟩
  have hv := hv.2.2
  rw [kE] at hv ⊢
  rcases hp r hrm with e | ⟨c, e⟩
  ·rw [e] at hv; exact hv.elim
  ·rw [e] at hv ⊢
   obtain ⟨ce, e1, e2, e3⟩ := hv
   exact ⟨ce, by rw [ho, if_neg (fun hh => hrb hh.1)]; exact e1, e2, e3⟩
 ·simp only [Yg, xY] at hv ⊢
  refine ⟨hv.1, hv.2.1, ?_⟩
  have hv := hv.2.2
  split at hv
  ·rename_i e; first | exact ⟨aB _ hv.1, hv.2⟩ | (simp only [e]; exact ⟨aB _ hv.1, hv.2⟩)
  ·rename_i e; first | exact ⟨gw _ _ hv.1, hv.2⟩ | (simp only [e]; exact ⟨gw _ _ hv.1, hv.2⟩)
  ·rename_i e; first | exact hv | (simp only [e]; exact hv)
  ·rename_i e
   have hq : ∀ t j, (∃ size rows, σ.ob t j = .arr true size rows) -> ∃ size rows, (σ.Z5 b 0 (.box cs)).ob t j = .arr true size rows := by
    rintro t j ⟨size, rows, e⟩
    by_cases hh : t = b /\ j = 0
    ·obtain ⟨rfl, rfl⟩ := hh; rw [c1] at e; cases e
    ·exact ⟨size, rows, by rw [ho, if_neg hh]; exact e⟩
   first | exact ⟨hq _ _ hv.1, hv.2⟩ | (simp only [e]; exact ⟨hq _ _ hv.1, hv.2⟩)
  ·exact hv.elim
 ·simp only [Yg, xY] at hv ⊢; exact hv
 ·simp only [Yg, xY] at hv ⊢; exact hv
 ·simp only [Yg, xY] at hv ⊢; exact hv
 ·simp only [Yg, xY] at hv ⊢; exact hv
 ·simp only [Yg, xY] at hv ⊢
  refine ⟨hv.1, ?_⟩
  have hv := hv.2
  split at hv
  ·rename_i e; first | exact hv | (simp only [e]; exact hv)
  ·rename_i e; first | exact hv | (simp only [e]; exact hv)
  ·rename_i e; first | exact hv | (simp only [e]; exact hv)
  ·rename_i e; first | exact ⟨hv.1, hv.2.1.imp (gw _ _) (bC _ _), hv.2.2⟩ | (simp only [e]; exact ⟨hv.1, hv.2.1.imp (gw _ _) (bC _ _), hv.2.2⟩)
  ·exact hv.elim
 ·exact Bool.noConfusion h
theorem nK {P : Program} {ops : Array Oper} {bar : Oper -> Bool} {PT : List (Nat × Nat)} {x y : Oper} {σ σ1 σ2 : St} (h : swapT PT bar x y = true) (hp : FA PT σ) (gh : yQ P ops bar x σ σ1) (ic : yQ P ops bar y σ1 σ2) : ∃ σ1', XS P ops y σ σ1' /\ XS P ops x σ1' σ2 := by
 unfold swapT at h
 simp only [Bool.and_eq_true, Bool.not_eq_true', Option.isNone_iff_eq_none] at h
 obtain ⟨⟨⟨⟨fL, gr⟩, cY⟩, ew⟩, h⟩ := h
 have gh := gh.resolve_right (fun hh => by rw [fL] at hh; cases hh.1)
 have ic := ic.resolve_right (fun hh => by rw [gr] at hh; cases hh.1)
 split at h
 ·rename_i dx T tp q fk ea iS
  simp only [Bool.and_eq_true, Bool.not_eq_true', List.any_eq_true, beq_iff_eq, bne_iff_ne, ne_eq] at h
  obtain ⟨⟨iU, hq⟩, p, hpm, dA, hv⟩ := h
  have hZ : xT dx (.tmp tp) = false := by simp [xT, iU]
  unfold XS at gh ic
  simp only [cY, fk] at gh
  simp only [ew, ea, iS] at ic
  obtain ⟨v, fS, rfl⟩ := (Cc rfl hv).1 gh
  unfold xl at ic
  rw [XO hZ, XO hq, kE] at ic
  obtain ⟨k1, k2, k3, k4, ic⟩ := ic
  have fZ := hp p hpm
  rw [dA] at fZ
  rcases fZ with fZ | ⟨c, fZ⟩
  ·rw [fZ] at ic; exact ic.elim
  ·rw [fZ] at ic
   obtain ⟨cells, c1, c2, c3, rfl⟩ := ic
   rw [St.JW] at c1
   refine ⟨σ.Z5 p.2 0 (.box (place cells c (unc (look P σ T q)).cells)), ?_, ?_⟩
   ·unfold XS xl
    simp only [ew, ea, iS]
    rw [fZ] at k2
    refine ⟨k1, by rw [kE, fZ]; exact k2, k3, k4, ?_⟩
    rw [kE, fZ]
    exact ⟨cells, c1, c2, c3, rfl⟩
   ·unfold XS
    simp only [cY, fk]
    rw [qT]
    exact (Cc rfl hv).2 ⟨v, nN hv hp c1 fS, rfl⟩
 ·cases h
theorem kD : ∀ (σ : St) (d : Nat), σ.put d (σ.get d) = σ
 | [], _ => rfl
 | e :: σ, 0 => by simp [St.put, St.get]
 | e :: σ, d + 1 => by have := kD σ d; simp only [St.put, St.get, List.getElem?_cons_succ] at this ⊢; rw [this]
theorem Nu : ∀ (σ : St) (d : Nat) (v v' : V), (σ.put d v).put d v' = σ.put d v'
 | [], _, _, _ => rfl
 | e :: σ, 0, _, _ => rfl
 | e :: σ, d + 1, v, v' => by simp [St.put, Nu σ d v v']
theorem FK {P : Program} {σ σ' : St} (h : ∀ u, σ'.get u = σ.get u) {T : TypeId} {x : Operand} : look P σ' T x = look P σ T x := by
 cases x with
 | tmp u => exact h u
 | const c => rfl
 | global g => rfl
 | func f => rfl
theorem ov {P : Program} {ops : Array Oper} {bar : Oper -> Bool} {x y : Oper} {σ σ1 σ2 : St} {d : Nat} (h : w7 bar x y = true) (fk : x.dst = some d) (gP : JH σ d = true) (gh : yQ P ops bar x σ σ1) (ic : yQ P ops bar y σ1 σ2) : ∃ σ1', yQ P ops bar y σ σ1' /\ XS P ops x σ1' σ2 := by
 unfold w7 at h
 simp only [fk, Bool.and_eq_true, Bool.not_eq_true', Option.isNone_iff_eq_none] at h
 obtain ⟨⟨⟨⟨⟨⟨fL, gr⟩, cY⟩, hQ⟩, ew⟩, ea⟩, hv, hu⟩ := h
 have gh := gh.resolve_right (fun hh => by rw [fL] at hh; cases hh.1)
 unfold XS at gh
 simp only [cY, fk] at gh
 have e1 : ∃ v, Yg P σ x.op x.type v /\ σ1 = σ.put d v := by
  unfold Step at gh
  cases hx : x.op <;> rw [hx] at gh hv <;> first | exact gh | (exact Bool.noConfusion hv)
 obtain ⟨v, fS, rfl⟩ := e1
 have back : ∀ σ', (∀ u, σ'.get u = σ.get u) -> XS P ops x σ' (σ'.put d v) := by
  intro σ' hg
  unfold XS
  simp only [cY, fk]
  have : Yg P σ' x.op x.type v := by
   cases hx : x.op <;> rw [hx] at hv fS <;> first | (exact Bool.noConfusion hv) | (simp only [Yg, FK hg] at fS ⊢; exact fS)
  unfold Step
  cases hx : x.op <;> rw [hx] at hv this <;> first | exact ⟨v, this, rfl⟩ | (exact Bool.noConfusion hv)
 rcases ic with ic | ⟨_, _, _, hk, _⟩
 · -- a plain store
  unfold Oq at hQ
  split at hQ
  ·rename_i T p q iS
   simp only [VI, iS, Bool.and_eq_true, Bool.not_eq_true'] at hu
   unfold XS at ic
   simp only [ew, ea, iS] at ic
   unfold xl at ic
   rw [XO hu.1, XO hu.2] at ic
   obtain ⟨k1, k2, k3, k4, ic⟩ := ic
   split at ic
   ·rename_i t c hl
    obtain ⟨cells, c1, c2, c3, rfl⟩ := ic
    rw [St.JW] at c1
    refine ⟨σ.Z5 t 0 (.box (place cells c (unc (look P σ T q)).cells)), .inl ?_, ?_⟩
    ·unfold XS xl
     simp only [ew, ea, iS]
     refine ⟨k1, k2, k3, k4, ?_⟩
     rw [hl]
     exact ⟨cells, c1, c2, c3, rfl⟩
    ·rw [qT]; exact back _ (fun u => St.QP _ _ _ _ _)
   ·rename_i t j i c hl
    obtain ⟨q', size, rows, ds, c1, c2, c3, c4, c5, c6, c7, rfl⟩ := ic
    rw [St.JW] at c1
    rw [Pv] at c3
    refine ⟨σ.Z5 t j (.arr q' size (rows.set i (place (rows.getD i []) c ds))), .inl ?_, ?_⟩
    ·unfold XS xl
     simp only [ew, ea, iS]
     refine ⟨k1, k2, k3, k4, ?_⟩
     rw [hl]
     exact ⟨q', size, rows, ds, c1, c2, c3, c4, c5, c6, c7, rfl⟩
    ·rw [qT]; exact back _ (fun u => St.QP _ _ _ _ _)
   ·exact ic.elim
  ·cases hQ
 ·obtain ⟨⟨fN, gY⟩, gx, aB⟩ := hk hQ
  rw [St.Jk] at fN
  have dB : Mn (σ.get d) = true := by
   rw [Tc] at gP
   unfold St.get
   rcases gP with e | ⟨x', e⟩ <;> rw [e] <;> rfl
  have hq : ∀ l : List (Nat × V), (σ.put d v).JQ ((d, σ.get d) :: l) = σ.JQ l := fun l => by rw [St.JQ, Nu, kD]
  have h0 := gx [(d, σ.get d)] (fun p hp => by cases List.mem_singleton.1 hp; exact ⟨hu, dB⟩)
  rw [hq []] at h0
  have hlen : d < σ.length := by
   rw [Tc] at gP
   rcases gP with e | ⟨x', e⟩ <;> exact (List.getElem?_eq_some_iff.1 e).1
  have aT : ∀ u, (σ2.put d (σ.get d)).get u = σ.get u := fun u => by
   rw [St.yb]
   by_cases bK : u = d /\ d < σ2.length
   ·rw [if_pos bK, bK.1]
   ·rw [if_neg bK, gY, St.yb]
    have hud2 : ¬ u = d := fun e => bK ⟨e, by rw [fN]; exact hlen⟩
    rw [if_neg (fun hh => hud2 hh.1)]
  refine ⟨σ2.put d (σ.get d), .inr ⟨gr, h0.1, h0.2, fun _ => ⟨⟨by rw [St.Jk]; exact fN, aT⟩, fun l hl => ?_, fun t cells hb => by rw [St.JW]; exact aB t cells (by rw [St.JW]; exact hb)⟩, fun hh => (by rw [AL hQ] at hh; cases hh)⟩, ?_⟩
  ·have := gx ((d, σ.get d) :: l) (fun p hp => by
    rcases List.mem_cons.1 hp with rfl | hp
    ·exact ⟨hu, dB⟩
    ·exact hl p hp)
   rw [hq l] at this
   exact this
  ·have := back _ aT
   rw [Nu] at this
   have e : σ2.put d v = σ2 := by
    have g1 := gY d
    rw [St.yb, if_pos ⟨rfl, hlen⟩] at g1
    rw [<- g1]; exact kD σ2 d
   rw [e] at this
   exact this
theorem nC {P : Program} {ops : Array Oper} {bar : Oper -> Bool} {PT : List (Nat × Nat)} {NB : List Nat} {x y : Oper} {σ σ1 σ2 : St} {d : Nat} (h : wj PT NB bar x y = true) (hp : FA PT σ) (hnb : EB NB σ) (fk : x.dst = some d) (gP : JH σ d = true) (gh : yQ P ops bar x σ σ1) (ic : yQ P ops bar y σ1 σ2) : ∃ σ1', yQ P ops bar y σ σ1' /\ XS P ops x σ1' σ2 := by
 unfold wj at h
 simp only [fk, Bool.and_eq_true, Bool.not_eq_true', Option.isNone_iff_eq_none] at h
 obtain ⟨⟨⟨⟨⟨⟨fL, gr⟩, cY⟩, hQ⟩, ew⟩, ea⟩, h⟩ := h
 have gh := gh.resolve_right (fun hh => by rw [fL] at hh; cases hh.1)
 split at h
 ·rename_i dx T tp q hdx' iS
  cases hdx'
  simp only [Bool.and_eq_true, Bool.not_eq_true', bne_iff_ne, ne_eq, List.contains_iff_mem] at h
  obtain ⟨⟨⟨htp, iU⟩, hq⟩, hv⟩ := h
  have hZ : xT d (.tmp tp) = false := by simp [xT, iU]
  have hu : VI y d = true := by simp only [VI, iS, hZ, hq]; rfl
  unfold XS at gh
  simp only [cY, fk] at gh
  have e1 : ∃ v, Yg P σ x.op x.type v /\ σ1 = σ.put d v := by
   unfold Step at gh
   cases hx : x.op <;> rw [hx] at gh hv <;> first | exact gh | (exact Bool.noConfusion hv)
  obtain ⟨v, fS, rfl⟩ := e1
  have back : ∀ σ', (∀ u, σ'.get u = σ.get u) -> (∀ t cells, σ.ob t 0 = .box cells -> σ'.ob t 0 = .box cells) -> XS P ops x σ' (σ'.put d v) := by
   intro σ' hg aB
   unfold XS
   simp only [cY, fk]
   have : Yg P σ' x.op x.type v := by
    cases hx : x.op <;> rw [hx] at hv fS <;> try exact Bool.noConfusion hv
    case load T' z =>
     cases z with
     | tmp t =>
      simp only [List.any_eq_true, beq_iff_eq] at hv
      obtain ⟨p, hpm, dA⟩ := hv
      simp only [Yg, FK hg] at fS ⊢
      refine ⟨fS.1, fS.2.1, ?_⟩
      have g9 := fS.2.2
      have fZ := hp p hpm
      rw [dA] at fZ
      rw [kE] at g9 ⊢
      rcases fZ with e | ⟨c, e⟩
      ·rw [e] at g9; exact g9.elim
      ·rw [e] at g9 ⊢
       obtain ⟨ce, k1, k2⟩ := g9
       exact ⟨ce, aB _ _ k1, k2⟩
     | _ => exact Bool.noConfusion hv
    case fieldAddr T' z f =>
     cases z with
     | tmp t =>
      simp only [List.any_eq_true, beq_iff_eq] at hv
      obtain ⟨p, hpm, dA⟩ := hv
      simp only [Yg, FK hg] at fS ⊢
      refine ⟨fS.1, fS.2.1, ?_⟩
      have g9 := fS.2.2
      have fZ := hp p hpm
      rw [dA] at fZ
      rw [kE] at g9 ⊢
      rcases fZ with e | ⟨c, e⟩
      ·rw [e] at g9; exact g9.elim
      ·rw [e] at g9 ⊢
       obtain ⟨⟨ce, k1⟩, k2⟩ := g9
       exact ⟨⟨ce, aB _ _ k1⟩, k2⟩
     | _ => exact Bool.noConfusion hv
   unfold Step
   cases hx : x.op <;> rw [hx] at hv this <;> first | exact ⟨v, this, rfl⟩ | (exact Bool.noConfusion hv)
  rcases ic with ic | ⟨_, _, _, hk, _⟩
  ·unfold XS at ic
   simp only [ew, ea, iS] at ic
   unfold xl at ic
   rw [XO hZ, XO hq] at ic
   obtain ⟨k1, k2, k3, k4, ic⟩ := ic
   split at ic
   ·rename_i t c hl
    exact absurd hl (hnb tp htp t c)
   ·rename_i t j i c hl
    obtain ⟨q', size, rows, ds, c1, c2, c3, c4, c5, c6, c7, rfl⟩ := ic
    rw [St.JW] at c1
    rw [Pv] at c3
    refine ⟨σ.Z5 t j (.arr q' size (rows.set i (place (rows.getD i []) c ds))), .inl ?_, ?_⟩
    ·unfold XS xl
     simp only [ew, ea, iS]
     refine ⟨k1, k2, k3, k4, ?_⟩
     rw [hl]
     exact ⟨q', size, rows, ds, c1, c2, c3, c4, c5, c6, c7, rfl⟩
    ·rw [qT]
     refine back _ (fun u => St.QP _ _ _ _ _) (fun b cells hb => ?_)
     have cm : σ.ob t j ≠ .none := by rw [c1]; simp
     rw [St.JV σ t j _ b 0 cm]
     split
     ·rename_i hc; rw [hc.1, hc.2] at hb; rw [c1] at hb; cases hb
     ·exact hb
   ·exact ic.elim
  ·obtain ⟨⟨fN, gY⟩, gx, aB⟩ := hk hQ
   rw [St.Jk] at fN
   have dB : Mn (σ.get d) = true := by
    rw [Tc] at gP
    unfold St.get
    rcases gP with e | ⟨x', e⟩ <;> rw [e] <;> rfl
   have hqq : ∀ l : List (Nat × V), (σ.put d v).JQ ((d, σ.get d) :: l) = σ.JQ l := fun l => by rw [St.JQ, Nu, kD]
   have h0 := gx [(d, σ.get d)] (fun p hp => by cases List.mem_singleton.1 hp; exact ⟨hu, dB⟩)
   rw [hqq []] at h0
   have hlen : d < σ.length := by
    rw [Tc] at gP
    rcases gP with e | ⟨x', e⟩ <;> exact (List.getElem?_eq_some_iff.1 e).1
   have aT : ∀ u, (σ2.put d (σ.get d)).get u = σ.get u := fun u => by
    rw [St.yb]
    by_cases bK : u = d /\ d < σ2.length
    ·rw [if_pos bK, bK.1]
    ·rw [if_neg bK, gY, St.yb]
     have hud2 : ¬ u = d := fun e => bK ⟨e, by rw [fN]; exact hlen⟩
     rw [if_neg (fun hh => hud2 hh.1)]
   have hbx' : ∀ t cells, σ.ob t 0 = .box cells -> (σ2.put d (σ.get d)).ob t 0 = .box cells := fun t cells hb => by rw [St.JW]; exact aB t cells (by rw [St.JW]; exact hb)
   refine ⟨σ2.put d (σ.get d), .inr ⟨gr, h0.1, h0.2, fun _ => ⟨⟨by rw [St.Jk]; exact fN, aT⟩, fun l hl => ?_, hbx'⟩, fun hh => (by rw [AL hQ] at hh; cases hh)⟩, ?_⟩
   ·have := gx ((d, σ.get d) :: l) (fun p hp => by
     rcases List.mem_cons.1 hp with rfl | hp
     ·exact ⟨hu, dB⟩
     ·exact hl p hp)
    rw [hqq l] at this
    exact this
   ·have := back _ aT hbx'
    rw [Nu] at this
    have e : σ2.put d v = σ2 := by
     have g1 := gY d
     rw [St.yb, if_pos ⟨rfl, hlen⟩] at g1
     rw [<- g1]; exact kD σ2 d
    rw [e] at this
    exact this
 ·cases h
theorem lF {P : Program} {PT : List (Nat × Nat)} {σ σ1 : St} {d : Nat} (gY : ∀ t, t ≠ d -> σ1.get t = σ.get t /\ (σ.get t).ref d = false) (et : ∀ t j cells, t ≠ d -> σ1.ob t j = .box cells -> σ.ob t j = .box cells /\ YU d cells = false)
  (gw : ∀ t j q s rows, t ≠ d -> σ1.ob t j = .arr q s rows -> ∃ iW, σ.ob t j = .arr q s iW) (hp : FA PT σ) {op : Op} {ty : TypeId} {v : V} (ee : uP PT op = true) (e9 : ∀ z ∈ op.operands.toList, z ≠ .tmp d) (hv : Yg P σ1 op ty v) : Yg P σ op ty v /\ v.ref d = false := by
 have hl : ∀ (z : Operand) (T : TypeId), z ≠ .tmp d -> look P σ1 T z = look P σ T z := by
  intro z T hz
  cases z with
  | tmp u => exact (gY u (fun e => hz (by rw [e]))).1
  | const c => rfl
  | global g => rfl
  | func f => rfl
 have hr : ∀ (z : Operand) (T : TypeId), z ≠ .tmp d -> (look P σ T z).ref d = false := by
  intro z T hz
  cases z with
  | tmp u => exact (gY u (fun e => hz (by rw [e]))).2
  | const c => exact Mc T c d
  | global g => rfl
  | func f => rfl
 have iU : ∀ (z : Operand) (T : TypeId) (x : At), z ≠ .tmp d -> unc (look P σ T z) = .one x -> x.ref d = false := by
  intro z T x hz hu
  cases hx : x.ref d with
  | false => rfl
  | true => have := Jn hu hx; rw [hr z T hz] at this; cases this
 refine ⟨?_, ?_⟩
 ·cases op <;> simp only [uP] at ee <;> try exact Bool.noConfusion ee
  case move x =>
   simp only [Yg] at hv ⊢
   rw [hv, hl x ty (e9 x (by simp [Op.operands]))]
  case load T x =>
   cases x with
   | tmp t =>
    have ht : Operand.tmp t ≠ .tmp d := e9 _ (by simp [Op.operands])
    simp only [List.any_eq_true, beq_iff_eq] at ee
    obtain ⟨p, hpm, dA⟩ := ee
    simp only [Yg] at hv ⊢
    rw [hl _ 0 ht] at hv
    refine ⟨hv.1, hv.2.1, ?_⟩
    have g9 := hv.2.2
    have fZ := hp p hpm
    rw [dA] at fZ
    rw [kE] at g9 ⊢
    rcases fZ with e | ⟨c, e⟩
    ·rw [e] at g9; exact g9.elim
    ·rw [e] at g9 ⊢
     obtain ⟨ce, e1, e2⟩ := g9
     have hb : p.2 ≠ d := by
      have := iU (.tmp t) 0 (.bptr p.2 c) ht (by rw [kE, e]; rfl)
      simpa [At.ref] using this
     exact ⟨ce, (et _ _ _ hb e1).1, e2⟩
   | _ => exact Bool.noConfusion ee
  case fieldAddr T x f =>
   cases x with
   | tmp t =>
    have ht : Operand.tmp t ≠ .tmp d := e9 _ (by simp [Op.operands])
    simp only [Yg] at hv ⊢
    rw [hl _ 0 ht] at hv
    refine ⟨hv.1, hv.2.1, ?_⟩
    have g9 := hv.2.2
    split at g9
    ·rename_i t' c e
     have hb : t' ≠ d := by have := iU _ _ _ ht e; simpa [At.ref] using this
     obtain ⟨⟨ce, e1⟩, e2⟩ := g9
     first | exact ⟨⟨ce, (et _ _ _ hb e1).1⟩, e2⟩ | (simp only [e]; exact ⟨⟨ce, (et _ _ _ hb e1).1⟩, e2⟩)
    ·rename_i t' j i c e
     have hb : t' ≠ d := by have := iU _ _ _ ht e; simpa [At.ref] using this
     obtain ⟨⟨q, s, rows, e1⟩, e2⟩ := g9
     obtain ⟨iW, e3⟩ := gw _ _ _ _ _ hb e1
     first | exact ⟨⟨q, s, iW, e3⟩, e2⟩ | (simp only [e]; exact ⟨⟨q, s, iW, e3⟩, e2⟩)
    ·rename_i rr c e; first | exact g9 | (simp only [e]; exact g9)
    ·rename_i t' j i c k e
     have hb : t' ≠ d := by have := iU _ _ _ ht e; simpa [At.ref] using this
     obtain ⟨⟨s, rows, e1⟩, e2⟩ := g9
     obtain ⟨iW, e3⟩ := gw _ _ _ _ _ hb e1
     first | exact ⟨⟨s, iW, e3⟩, e2⟩ | (simp only [e]; exact ⟨⟨s, iW, e3⟩, e2⟩)
    ·exact g9.elim
   | _ => exact Bool.noConfusion ee
  case slice T x lo hi mx =>
   cases x with
   | tmp t =>
    cases mx with
    | some m => exact Bool.noConfusion ee
    | none =>
     have ht : Operand.tmp t ≠ .tmp d := e9 _ (by simp [Op.operands])
     have cZ : ∀ (df n : Nat) (z : Option Operand), (∀ y, z = some y -> y ≠ .tmp d) -> bnd P σ1 df z n -> bnd P σ df z n := by
      intro df n z hz h
      cases z with
      | none => exact h
      | some z => simp only [bnd] at h ⊢; rw [hl z 0 (hz z rfl)] at h; exact h
     have eN : ∀ y, lo = some y -> y ≠ .tmp d := fun y e => e9 y (by subst e; simp [Op.operands])
     have dZ : ∀ y, hi = some y -> y ≠ .tmp d := fun y e => e9 y (by subst e; simp [Op.operands])
     simp only [Yg] at hv ⊢
     rw [hl _ 0 ht] at hv
     refine ⟨hv.1, ?_⟩
     have g9 := hv.2
     split at g9
     ·rename_i s e
      obtain ⟨h1, l, h, h2, h3, h4⟩ := g9
      first | exact ⟨h1, l, h, cZ _ _ _ eN h2, cZ _ _ _ dZ h3, h4⟩ | (simp only [e]; exact ⟨h1, l, h, cZ _ _ _ eN h2, cZ _ _ _ dZ h3, h4⟩)
     ·rename_i s rows e
      obtain ⟨h1, h0, l, h, h2, h3, h4⟩ := g9
      first | exact ⟨h1, h0, l, h, cZ _ _ _ eN h2, cZ _ _ _ dZ h3, h4⟩ | (simp only [e]; exact ⟨h1, h0, l, h, cZ _ _ _ eN h2, cZ _ _ _ dZ h3, h4⟩)
     ·rename_i t' j o len e
      have hb : t' ≠ d := by have := iU _ _ _ ht e; simpa [At.ref] using this
      obtain ⟨h1, ⟨q, rows, e1⟩, l, h, h2, h3, h4⟩ := g9
      obtain ⟨iW, e3⟩ := gw _ _ _ _ _ hb e1
      first | exact ⟨h1, ⟨q, iW, e3⟩, l, h, cZ _ _ _ eN h2, cZ _ _ _ dZ h3, h4⟩ | (simp only [e]; exact ⟨h1, ⟨q, iW, e3⟩, l, h, cZ _ _ _ eN h2, cZ _ _ _ dZ h3, h4⟩)
     ·exact g9.elim
   | _ => exact Bool.noConfusion ee
 ·cases hx : v.ref d with
  | false => rfl
  | true =>
   obtain ⟨z, hz, T, h1⟩ := Cj hv hx
   rw [hl z T (e9 z hz)] at h1
   rcases h1 with h1 | ⟨t, cells, h1, h2, h3⟩
   ·rw [hr z T (e9 z hz)] at h1; cases h1
   ·by_cases htd : t = d
    ·rw [htd, hr z T (e9 z hz)] at h1; cases h1
    ·have := (et t 0 cells htd h2).2
     rw [this] at h3; cases h3
theorem nh {P : Program} {ops : Array Oper} {bar : Oper -> Bool} {PT : List (Nat × Nat)} {x y : Oper} {σ σ1 σ2 : St} {d : Nat} (h : Aw PT ops bar x y = true) (hp : FA PT σ) (fk : x.dst = some d) (gP : JH σ d = true) (gh : yQ P ops bar x σ σ1) (ic : yQ P ops bar y σ1 σ2) : ∃ σ1', yQ P ops bar y σ σ1' /\ yQ P ops bar x σ1' σ2 := by
 unfold Aw at h
 simp only [Bool.and_eq_true, Bool.not_eq_true', Option.isNone_iff_eq_none] at h
 obtain ⟨⟨⟨⟨⟨⟨fL, gr⟩, bX⟩, cY⟩, ew⟩, ee⟩, h⟩ := h
 rw [fk] at h
 cases ea : y.dst with
 | none => rw [ea] at h; cases h
 | some dy =>
  rw [ea] at h
  simp only [Bool.and_eq_true, Bool.not_eq_true', bne_iff_ne, ne_eq] at h
  obtain ⟨⟨iU, bZ⟩, hyx⟩ := h
  have hxy' := Pt bZ
  have hyx' := Pt hyx
  have ic := ic.resolve_right (fun hh => by rw [gr] at hh; cases hh.1)
  rcases gh with gh | ⟨_, hss, hck, _, aV⟩
  ·have gd : Ok y = false := by
    unfold Ok
    cases iS : y.op <;> rw [iS] at ee <;> first | rfl | (exact Bool.noConfusion ee)
   obtain ⟨σ1', hy, hx⟩ := swap fk ea iU hxy' hyx' gd (.inl ew) gP gh ic
   exact ⟨σ1', .inl hy, .inl hx⟩
  ·obtain ⟨d', ir, hlen, gY, et, gw, gx⟩ := aV bX
   rw [fk] at ir; cases ir
   have e2 : ∃ v, Yg P σ1 y.op y.type v /\ σ2 = σ1.put dy v := by
    unfold XS at ic
    simp only [ew, ea] at ic
    unfold Step at ic
    cases iS : y.op <;> rw [iS] at ic ee <;> first | exact ic | (exact Bool.noConfusion ee)
   obtain ⟨v, hv, rfl⟩ := e2
   obtain ⟨ck, hvr⟩ := lF gY et gw hp ee (fun z hz => hxy' z (by simp only [RY, List.mem_append]; exact .inl hz)) hv
   have hun : OE x dy = true := by
    simp only [OE, Bool.not_eq_true']
    refine List.any_eq_false.2 (fun z hz => ?_)
    have := hyx' z (by simp only [RY, List.mem_append]; exact .inl hz)
    cases z <;> simp [xT] at this ⊢
    exact this
   have hR : ∀ p ∈ [(dy, v)], p.1 ≠ d /\ OE x p.1 = true /\ p.2.ref d = false := fun p hp => by
    cases List.mem_singleton.1 hp; exact ⟨fun e => iU e.symm, hun, hvr⟩
   have h0 := gx [(dy, v)] hR
   refine ⟨σ.put dy v, .inl ?_, .inr ⟨fL, h0.1, h0.2, fun hh => (by rw [AL hh] at bX; cases bX), fun _ => ⟨d, fk, by rw [St.Jk, St.Jk]; exact hlen, fun t ht => ?_, fun t j cells ht hb => ?_, fun t j q s rows ht hb => ?_, fun l hl => ?_⟩⟩⟩
   ·unfold XS
    simp only [ew, ea]
    unfold Step
    cases iS : y.op <;> rw [iS] at ck ee <;> first | exact ⟨v, ck, rfl⟩ | (exact Bool.noConfusion ee)
   ·have h1 := gY t ht
    rw [St.yb, St.yb, hlen]
    by_cases hc : t = dy /\ dy < σ.length
    ·simp only [if_pos hc]; exact ⟨trivial, hvr⟩
    ·simp only [if_neg hc]; exact h1
   ·rw [St.JW] at hb ⊢; exact et t j cells ht hb
   ·rw [St.JW] at hb ⊢; exact gw t j q s rows ht hb
   ·exact gx ((dy, v) :: l) (fun p hp => by
     rcases List.mem_cons.1 hp with rfl | hp
     ·exact hR _ (by simp)
     ·exact hl p hp)
theorem ri {PT : List (Nat × Nat)} {σ : St} (h : ptB PT σ = true) : FA PT σ := by
 intro p hp
 have := List.all_eq_true.1 h p hp
 split at this
 ·rename_i e; exact .inl e
 ·rename_i b c e
  have hb : b = p.2 := by simpa using this
  subst hb; exact .inr ⟨c, e⟩
 ·cases this
section
variable {P : Program} {ops : Array Oper}
def uM (P : Program) (ops : Array Oper) (bar : Oper -> Bool) : List Nat -> St -> (St -> Prop) -> Prop
 | [], σ, Q => Q σ
 | i :: rem, σ, Q => ∃ o σ', ops[i]? = some o /\ yQ P ops bar o σ σ' /\ uM P ops bar rem σ' Q
theorem uE {o : Oper} {σ σ' : St} {d : Nat} (hs : XS P ops o σ σ') (hd : o.dst ≠ some d) (h : JH σ d = true) : JH σ' d = true := by
 cases hdo : o.dst with
 | some d' =>
  have iU : d ≠ d' := fun e => hd (by rw [hdo, e])
  obtain ⟨e, rfl, _⟩ := Tv hdo hs
  cases e with
  | put v => unfold JH at *; simp only [Eff.ap, Uy, if_neg iU]; exact h
  | new v os => unfold JH at *; simp only [Eff.ap, jC, if_neg iU]; exact h
  | drop a j v os =>
   have := QV (a := a) (j := j) (o := .none) h
   unfold JH at *; simp only [Eff.ap, jC, if_neg iU]; exact this
 | none =>
  unfold XS at hs
  split at hs
  ·simp only [hdo] at hs
   split at hs
   ·unfold xl at hs
    obtain ⟨_, _, _, _, hs⟩ := hs
    split at hs
    ·obtain ⟨_, _, _, _, rfl⟩ := hs; exact QV h
    ·obtain ⟨_, _, _, _, _, _, _, _, _, _, _, rfl⟩ := hs; exact QV h
    ·exact hs.elim
   ·exact hs.elim
  ·obtain ⟨_, _, _, _, _, _, ir, _⟩ := hs
   rw [hdo] at ir; cases ir
theorem u6 {PT : List (Nat × Nat)} {i : Nat} {o : Oper} {σ σ' : St} (aU : NO ops PT = true) (hi : ops[i]? = some o) (hs : XS P ops o σ σ') (h : FA PT σ) : FA PT σ' := by
 have hc := List.all_eq_true.1 aU o (by rw [Array.mem_toList_iff]; exact Array.mem_of_getElem? hi)
 cases hdo : o.dst with
 | none =>
  have : ∃ t j ob, σ' = σ.Z5 t j ob := by
   unfold XS at hs
   split at hs
   ·simp only [hdo] at hs
    split at hs
    ·unfold xl at hs
     obtain ⟨_, _, _, _, hs⟩ := hs
     split at hs
     ·obtain ⟨_, _, _, _, rfl⟩ := hs; exact ⟨_, _, _, rfl⟩
     ·obtain ⟨_, _, _, _, _, _, _, _, _, _, _, rfl⟩ := hs; exact ⟨_, _, _, rfl⟩
     ·exact hs.elim
    ·exact hs.elim
   ·obtain ⟨_, _, _, _, _, _, ir, _⟩ := hs
    rw [hdo] at ir; cases ir
  obtain ⟨t, j, ob, rfl⟩ := this
  intro p hp
  rw [St.QP]; exact h p hp
 | some d =>
  intro p hp
  rw [hdo] at hc
  have hc := List.all_eq_true.1 hc p hp
  by_cases bG : p.1 = d
  ·simp only [bG, bne_self_eq_false, Bool.false_or, Bool.and_eq_true, Option.isNone_iff_eq_none] at hc
   obtain ⟨hg, hc⟩ := hc
   split at hc
   ·rename_i T r f iS
    have hr := h (r, p.2) (by simpa using hc)
    unfold XS at hs
    simp only [hg, hdo] at hs
    unfold Step at hs
    rw [iS] at hs
    obtain ⟨v, hv, rfl⟩ := hs
    simp only [Yg] at hv
    have hv := hv.2.2
    rw [kE] at hv
    rcases hr with e | ⟨c, e⟩
    ·rw [e] at hv; exact hv.elim
    ·rw [e] at hv
     rw [St.yb, bG]
     by_cases hl : d < σ.length
     ·rw [if_pos ⟨rfl, hl⟩]; exact .inr ⟨_, hv.2⟩
     ·rw [if_neg (fun hh => hl hh.2)]; have := h p hp; rw [bG] at this; exact this
   ·cases hc
  ·obtain ⟨e, rfl, _⟩ := Tv hdo hs
   have hg : ∀ σ0 : St, σ0.get p.1 = σ.get p.1 -> (σ0.get p.1 = .any \/ ∃ c, σ0.get p.1 = .one (.bptr p.2 c)) := fun σ0 e => by rw [e]; exact h p hp
   cases e with
   | put v => exact hg _ (by simp only [Eff.ap]; rw [St.yb, if_neg (fun hh => bG hh.1)])
   | new v os => exact hg _ (by simp only [Eff.ap]; rw [St.SP, if_neg (fun hh => bG hh.1)])
   | drop a j v os => exact hg _ (by simp only [Eff.ap]; rw [St.SP, if_neg (fun hh => bG hh.1), St.QP])
theorem Hm {σ : St} : Da [] [] σ := ⟨fun _ hp => absurd hp List.not_mem_nil, fun _ hp => absurd hp List.not_mem_nil⟩
theorem rb {NB : List Nat} {σ : St} {d : Nat} {v : V} (h : EB NB σ) (hd : d ∈ NB -> ∀ b c, unc v ≠ .one (.bptr b c)) : EB NB (σ.put d v) := by
 intro t ht b c
 rw [St.yb]
 split
 ·rename_i hc; exact hd (hc.1 ▸ ht) b c
 ·exact h t ht b c
theorem sc {NB : List Nat} {σ : St} {d : Nat} {v : V} {os : List Ob} (h : EB NB σ) (hd : d ∉ NB) : EB NB (σ.new d v os) := by
 intro t ht b c
 have iU : ¬ (t = d /\ d < σ.length) := fun hc => hd (by rw [<- hc.1]; exact ht)
 rw [St.SP, if_neg iU]
 exact h t ht b c
theorem p9 {NB : List Nat} {i : Nat} {o : Oper} {σ σ' : St} (fC : Gp P ops NB = true) (hi : ops[i]? = some o) (hs : XS P ops o σ σ') (h : EB NB σ) : EB NB σ' := by
 have hc := List.all_eq_true.1 fC o (by rw [Array.mem_toList_iff]; exact Array.mem_of_getElem? hi)
 cases hdo : o.dst with
 | none =>
  have : ∃ t j ob, σ' = σ.Z5 t j ob := by
   unfold XS at hs
   split at hs
   ·simp only [hdo] at hs
    split at hs
    ·unfold xl at hs
     obtain ⟨_, _, _, _, hs⟩ := hs
     split at hs
     ·obtain ⟨_, _, _, _, rfl⟩ := hs; exact ⟨_, _, _, rfl⟩
     ·obtain ⟨_, _, _, _, _, _, _, _, _, _, _, rfl⟩ := hs; exact ⟨_, _, _, rfl⟩
     ·exact hs.elim
    ·exact hs.elim
   ·obtain ⟨_, _, _, _, _, _, ir, _⟩ := hs
    rw [hdo] at ir; cases ir
  obtain ⟨t, j, ob, rfl⟩ := this
  intro p hp
  rw [St.QP]; exact h p hp
 | some d =>
  rw [hdo] at hc
  by_cases hd : d ∈ NB
  ·have hc := List.all_eq_true.1 hc d hd
   simp only [bne_self_eq_false, Bool.false_or, Bool.and_eq_true, Option.isNone_iff_eq_none] at hc
   obtain ⟨hg, hc⟩ := hc
   split at hc
   ·rename_i T r ix iS
    unfold XS at hs
    simp only [hg, hdo] at hs
    unfold Step at hs
    rw [iS] at hs
    obtain ⟨v, hv, rfl⟩ := hs
    refine rb h (fun _ b c => ?_)
    simp only [Yg] at hv
    obtain ⟨_, _, _, _, _, hv⟩ := hv
    split at hv
    ·obtain ⟨_, _, _, _, rfl⟩ := hv; intro e; cases e
    ·obtain ⟨_, _, _, _, rfl⟩ := hv; intro e; cases e
    ·obtain ⟨_, ⟨n, ha, _⟩, _⟩ := hv
     unfold XK at hc
     unfold AD at ha
     split at hc
     ·rename_i e he; rw [he] at ha; cases ha
     ·cases hc
    ·obtain ⟨_, _, _, rfl⟩ := hv; intro e; cases e
    ·exact hv.elim
   ·cases hc
  ·obtain ⟨e, rfl, _⟩ := Tv hdo hs
   cases e with
   | put v => exact rb h (fun hh => absurd hh hd)
   | new v os => exact sc h hd
   | drop a j v os =>
    refine sc (σ := σ.Z5 a j .none) (fun t ht b c => ?_) hd
    rw [St.QP]; exact h t ht b c
theorem nV {NB : List Nat} {σ : St} (h : nbB NB σ = true) : EB NB σ := by
 intro t ht b c e
 have := List.all_eq_true.1 h t ht
 rw [e] at this; cases this
def Cz (ops : Array Oper) (pos : Nat -> Nat) (rem : List Nat) (σ : St) : Prop :=
 ∀ j ∈ rem, PQ ops pos j = true -> uc ops j = true /\ ∃ o d, ops[j]? = some o /\ o.dst = some d /\ JH σ d = true
theorem pt {j k : Nat} {oj ok : Oper} {d : Nat} (h : uc ops j = true) (hj : ops[j]? = some oj) (hd : oj.dst = some d) (hk : ops[k]? = some ok) (iU : k ≠ j) : ok.dst ≠ some d := by
 unfold uc at h
 simp only [hj, hd] at h
 have ij : k < ops.size := (Array.getElem?_eq_some_iff.1 hk).1
 have := List.all_eq_true.1 h k (List.mem_range.2 ij)
 simp only [hk, Bool.or_eq_true, beq_iff_eq, bne_iff_ne, ne_eq] at this
 exact this.resolve_left iU
theorem wT {bar : Oper -> Bool} {o : Oper} {σ σ' : St} {d : Nat} (hs : yQ P ops bar o σ σ') (hd : o.dst ≠ some d) (h : JH σ d = true) : JH σ' d = true := by
 rcases hs with hs | hs
 ·exact uE hs hd h
 ·exact hs.2.2.1 d hd h
theorem IG {pos : Nat -> Nat} {bar : Oper -> Bool} {rem rem' : List Nat} {i : Nat} {o : Oper} {σ σ' : St} (hi : ops[i]? = some o) (hs : yQ P ops bar o σ σ') (hni : i ∉ rem') (gG : ∀ j ∈ rem', j ∈ rem) (h : Cz ops pos rem σ) : Cz ops pos rem' σ' := by
 intro j hj hl
 obtain ⟨aX, oj, d, h1, h2, h3⟩ := h j (gG j hj) hl
 exact ⟨aX, oj, d, h1, h2, wT hs (pt aX h1 h2 hi (fun e => hni (e ▸ hj))) h3⟩
theorem pull {pos : Nat -> Nat} {bar : Oper -> Bool} {PT : List (Nat × Nat)} {NB : List Nat} (fZ : ∀ (i : Nat) (o : Oper) (σ σ' : St), ops[i]? = some o -> yQ P ops bar o σ σ' -> Da PT NB σ -> Da PT NB σ') {i : Nat} {post : List Nat} {Q : St -> Prop} {oi : Oper} (hi : ops[i]? = some oi) : ∀ {pre : List Nat} {σ : St}, (pre ++ i :: post).Nodup -> (∀ j ∈ pre, PQ ops pos j = true /\ ∃ oj, ops[j]? = some oj /\ (vJ ops bar oj oi = true \/ Ah bar oj oi = true \/ swapT PT bar oj oi = true \/ w7 bar oj oi = true \/ Aw PT ops bar oj oi = true \/ wj PT NB bar oj oi = true)) -> Cz ops pos (pre ++ i :: post) σ -> Da PT NB σ ->
  uM P ops bar (pre ++ i :: post) σ Q -> ∃ σ', yQ P ops bar oi σ σ' /\ uM P ops bar (pre ++ post) σ' Q
 | [], σ, _, _, _, _, h => by
  obtain ⟨o, σ', ho, hs, hr⟩ := h
  rw [hi] at ho; cases ho
  exact ⟨σ', hs, hr⟩
 | j :: pre, σ, gd, hsw, gP, dA, h => by
  obtain ⟨oj, σ1, hj, gh, hr⟩ := h
  have hnd' := List.nodup_cons.1 gd
  obtain ⟨σ2, ic, cu⟩ := pull fZ hi (pre := pre) hnd'.2 (fun k hk => hsw k (by simp [hk])) (IG (rem := (j :: pre) ++ i :: post) hj gh hnd'.1 (fun k hk => by simp only [List.cons_append, List.mem_cons]; exact .inr hk) gP) (fZ j oj σ σ1 hj gh dA) hr
  obtain ⟨hl, oj', eT, cQ⟩ := hsw j (by simp)
  rw [hj] at eT; cases eT
  rcases cQ with cQ | cQ | cQ | cQ | cQ | cQ
  rotate_left
  ·obtain ⟨σ1', hy, hx⟩ := oG cQ gh ic
   exact ⟨σ1', .inl hy, oj, σ2, hj, .inl hx, cu⟩
  ·obtain ⟨σ1', hy, hx⟩ := nK cQ dA.1 gh ic
   exact ⟨σ1', .inl hy, oj, σ2, hj, .inl hx, cu⟩
  ·obtain ⟨_, o', d', hD, ir, gB⟩ := gP j (by simp) hl
   rw [hj] at hD; cases hD
   obtain ⟨σ1', hy, hx⟩ := ov cQ ir gB gh ic
   exact ⟨σ1', hy, oj, σ2, hj, .inl hx, cu⟩
  ·obtain ⟨_, o', d', hD, ir, gB⟩ := gP j (by simp) hl
   rw [hj] at hD; cases hD
   obtain ⟨σ1', hy, hx⟩ := nh cQ dA.1 ir gB gh ic
   exact ⟨σ1', hy, oj, σ2, hj, hx, cu⟩
  ·obtain ⟨_, o', d', hD, ir, gB⟩ := gP j (by simp) hl
   rw [hj] at hD; cases hD
   obtain ⟨σ1', hy, hx⟩ := nC cQ dA.1 dA.2 ir gB gh ic
   exact ⟨σ1', hy, oj, σ2, hj, .inl hx, cu⟩
  obtain ⟨fL, gr, dx, dy, h1, h2, h3, h4, h5, h6, h7⟩ := uI cQ
  have gh := gh.resolve_right (fun hh => by rw [fL] at hh; cases hh.1)
  have ic := ic.resolve_right (fun hh => by rw [gr] at hh; cases hh.1)
  obtain ⟨_, o', d', hD, ir, gB⟩ := gP j (by simp) hl
  rw [hj] at hD; cases hD
  rw [h1] at ir; cases ir
  obtain ⟨σ1', hy, hx⟩ := swap h1 h2 h3 h4 h5 h6 h7 gB gh ic
  exact ⟨σ1', .inl hy, oj, σ2, hj, .inl hx, cu⟩
end
end Go.Vm
namespace Go.Vm
open Go.RowKit
section
variable {P : Program} {ops : Array Oper} {T0 : CS} {B : Nat -> Prop}
theorem NP {hU : Array Bool} {j : Nat} (h1 : hU.getD j true = false) (h2 : hU.getD j false = true) : False := by
 rw [Array.getD_eq_getD_getElem?] at h1 h2
 cases h : hU[j]? with
 | none => rw [h] at h1; simp at h1
 | some b => rw [h] at h1 h2; simp at h1 h2; rw [h1] at h2; cases h2
theorem Ck {pos : Nat -> Nat} {bar : Oper -> Bool} {PT : List (Nat × Nat)} {NB : List Nat} (fZ : ∀ (i : Nat) (o : Oper) (σ σ' : St), ops[i]? = some o -> yQ P ops bar o σ σ' -> Da PT NB σ -> Da PT NB σ') (hdr : wB ops pos bar PT NB (OG ops.toList []) = true) {Qa : St -> Prop} {Q : Exit -> Act -> World -> Prop} {w0 : World} (hK : ∀ σ a w, Qa σ -> K6 T0 B σ a w -> XB B w0 w -> Q .normal a w) :
  ∀ (fuel : Nat) (rem : List Nat) (hU : Array Bool) (σ : St) (a : Act) (w : World), rem.length = fuel -> hU.size = ops.size -> rem.Pairwise (fun i j => pos i < pos j) -> (∀ i, i ∈ rem ↔ hU.getD i true = false) -> (∀ i ∈ rem, i < ops.size) -> (∀ m om, ops[m]? = some om -> m ∉ rem -> ∀ j, Nv om j = true -> j ∉ rem) ->
   Cz ops pos rem σ -> Da PT NB σ -> uM P ops bar rem σ Qa -> K6 T0 B σ a w -> XB B w0 w -> wpAny P .any ops Q fuel hU a w := by
 have gx := List.all_eq_true.1 hdr
 have first : ∀ (rem : List Nat) (hU : Array Bool), hU.size = ops.size -> rem.Pairwise (fun i j => pos i < pos j) -> (∀ i, i ∈ rem ↔ hU.getD i true = false) -> (∀ i ∈ rem, i < ops.size) -> Region.ready .any ops hU = [] -> rem = [] := by
  intro rem hU gX hso gq ij hre
  cases rem with
  | nil => rfl
  | cons i rem =>
   exfalso
   have hi := ij i (by simp)
   have hb := gx i (List.mem_range.2 hi)
   simp only [Bool.and_eq_true] at hb
   have dz := hb.1.1
   unfold oV at dz
   rw [Array.getElem?_eq_getElem hi] at dz
   simp only [Array.all_eq_true_iff_forall_mem, decide_eq_true_eq, Bool.and_eq_true, Bool.or_eq_true, Bool.not_eq_true'] at dz
   have : i ∈ Region.ready .any ops hU := by
    refine mem_ready.2 ⟨(gq i).1 (by simp), ops[i], Array.getElem?_eq_getElem hi, fun e he hbi => ?_⟩
    have bL := (dz e he).resolve_left (by rw [hbi]; simp)
    have dg := bL.1
    have hlt2 := bL.2
    have dk : e.on ∉ i :: rem := by
     intro hm
     rcases List.mem_cons.1 hm with h | h
     ·rw [h] at dg; omega
     ·have := (List.pairwise_cons.1 hso).1 _ h; omega
    have iU : hU.getD e.on true ≠ false := fun h => dk ((gq _).2 h)
    have dV : e.on < hU.size := by rw [gX]; omega
    rw [Array.getD_eq_getD_getElem?, Array.getElem?_eq_getElem dV] at iU ⊢
    simpa using iU
   rw [hre] at this; cases this
 intro fuel
 induction fuel with
 | zero =>
  intro rem hU σ a w hl gX hso gq ij hdn gP dA iw fe hb
  have eU : rem = [] := List.eq_nil_of_length_eq_zero hl
  subst eU
  refine ⟨?_, hK σ a w iw fe hb⟩
  cases hre : Region.ready .any ops hU with
  | nil => rfl
  | cons i l =>
   have hi : i ∈ Region.ready .any ops hU := by rw [hre]; simp
   have := (gq i).2 (mem_ready.1 hi).1
   cases this
 | succ fuel ih =>
  intro rem hU σ a w hl gX hso gq ij hdn gP dA iw fe hb
  refine ⟨fun hre => ?_, fun i hi => ?_⟩
  ·have := first rem hU gX hso gq ij hre
   subst this; simp at hl
  ·obtain ⟨h0, oi, hoi, bJ⟩ := mem_ready.1 hi
   obtain ⟨pre, post, rfl⟩ := List.append_of_mem ((gq i).2 h0)
   have gd : (pre ++ i :: post).Nodup := hso.imp (fun h e => by rw [e] at h; omega)
   have fv : ∀ j ∈ pre, pos j < pos i := fun j hj => (List.pairwise_append.1 hso).2.2 j hj i (by simp)
   have eC : i < ops.size := ij i (by simp)
   have hdone : ∀ e ∈ oi.after, Region.binds .any e = true -> e.on ∉ pre ++ i :: post := by
    intro e he hbi hm
    exact NP ((gq e.on).1 hm) (bJ e he hbi)
   have hnp0 : ∀ j, j ∈ pre ++ i :: post -> Nv oi j = false := by
    intro j hj
    cases hp : Nv oi j with
    | false => rfl
    | true =>
     unfold Nv at hp
     rw [<- Array.any_toList] at hp
     obtain ⟨e, he, gr⟩ := List.any_eq_true.1 hp
     rw [Array.mem_toList_iff] at he
     simp only [Bool.and_eq_true, beq_iff_eq] at gr
     exact (NP ((gq j).1 hj) (by rw [<- gr.1]; exact bJ e he gr.2)).elim
   have bG : ∀ m j, Pre ops m j -> (∀ om, ops[m]? = some om -> ∀ k, Nv om k = true -> k ∉ pre ++ i :: post) -> j ∉ pre ++ i :: post := by
    intro m j hp
    induction hp with
    | one ho hp => intro h; exact h _ ho _ hp
    | more ho hp _ ih =>
     intro h
     exact ih (fun om cX k hk => hdn _ om cX (h _ ho _ hp) k hk)
   have ff : ∀ j ∈ pre, vD ops i j = false := by
    intro j hj
    have hjr : j ∈ pre ++ i :: post := by simp [hj]
    cases hq : vD ops i j with
    | false => rfl
    | true =>
     refine absurd hjr (bG i j (tM hq) (fun om cX k hk hkr => ?_))
     rw [hoi] at cX; cases cX
     have := hnp0 k hkr
     rw [hk] at this; cases this
   have hsw : ∀ j ∈ pre, PQ ops pos j = true /\ ∃ oj, ops[j]? = some oj /\ (vJ ops bar oj oi = true \/ Ah bar oj oi = true \/ swapT PT bar oj oi = true \/ w7 bar oj oi = true \/ Aw PT ops bar oj oi = true \/ wj PT NB bar oj oi = true) := by
    intro j hj
    have aD := fv j hj
    have hjsz : j < ops.size := ij j (by simp [hj])
    refine ⟨?_, ops[j], Array.getElem?_eq_getElem hjsz, ?_⟩
    ·unfold PQ Br
     refine List.any_eq_true.2 ⟨i, List.mem_range.2 eC, ?_⟩
     have := ff j hj
     unfold vD at this
     simp only [this, Bool.not_false, Bool.and_true, decide_eq_true_eq]; exact aD
    ·have := gx i (List.mem_range.2 eC)
     simp only [Bool.and_eq_true] at this
     have hp := List.all_eq_true.1 this.1.2 j (List.mem_range.2 hjsz)
     simp only [aD, decide_true, Bool.not_true, Bool.false_or] at hp
     unfold oQ at hp
     rw [hoi, Array.getElem?_eq_getElem hjsz] at hp
     have := ff j hj
     unfold vD at this
     simpa [this, or_assoc] using hp
   obtain ⟨σ', hs, hr⟩ := pull fZ hoi gd hsw gP dA iw
   have hni : i ∉ pre ++ post := by
    have := List.nodup_append.1 gd
    intro hm
    rcases List.mem_append.1 hm with h | h
    ·exact Nat.lt_irrefl _ (fv i h)
    ·exact (List.nodup_cons.1 this.2.1).1 h
   have cA : ∀ j ∈ pre ++ post, j ∈ pre ++ i :: post := by
    intro j hj
    rcases List.mem_append.1 hj with h | h
    ·simp [h]
    ·simp [h]
   have key : ∀ a' w', K6 T0 B σ' a' w' -> XB B w w' -> wpAny P .any ops Q fuel (hU.setIfInBounds i true) a' w' := by
    intro a' w' hrel' ig
    refine ih (pre ++ post) _ σ' a' w' (by simp at hl ⊢; omega) (by simp [gX]) ?_ (fun j => ?_) (fun j hj => ij j (cA j hj)) ?_ (IG hoi hs hni cA gP) (fZ i oi σ σ' hoi hs dA) hr hrel' (hb.trans ig)
    ·exact hso.sublist (List.Sublist.append (List.Sublist.refl pre) (List.sublist_cons_self i post))
    ·by_cases cW : i = j
     ·subst cW
      constructor
      ·intro hm; exact absurd hm hni
      ·intro hm
       rw [Array.getD_eq_getD_getElem?] at hm
       simp [gX, eC] at hm
     ·rw [getD_set_ne true cW, <- gq j]
      simp only [List.mem_append, List.mem_cons]
      constructor
      ·rintro (h | h)
       ·exact .inl h
       ·exact .inr (.inr h)
      ·rintro (h | h | h)
       ·exact .inl h
       ·exact absurd h.symm cW
       ·exact .inr h
    ·intro m om cX hm j hpj hj
     by_cases hmi : m = i
     ·subst hmi
      rw [hoi] at cX; cases cX
      have := hnp0 j (cA j hj)
      rw [hpj] at this; cases this
     ·have hmr : m ∉ pre ++ i :: post := by
       intro h
       rcases List.mem_append.1 h with h | h
       ·exact hm (by simp [h])
       ·rcases List.mem_cons.1 h with h | h
        ·exact hmi h
        ·exact hm (by simp [h])
      exact hdn m om cX hmr j hpj (cA j hj)
   have hQ := Lw hs T0 B a w (wpAny P .any ops Q fuel (hU.setIfInBounds i true)) Q fe key
   unfold wpOp
   simp only [hoi]
   split
   ·rename_i hw; rw [if_pos hw] at hQ; exact .inl hQ
   ·rename_i hw; rw [if_neg hw] at hQ; exact hQ
theorem D7 {σ : St} {a : Act} {w : World} (h : K6 T0 B σ a w) : K6 T0 B σ a { w with drawn := w.drawn + 1 } := by
 obtain ⟨X, hh, r⟩ := h
 exact ⟨X, hh, r.grow (w' := { w with drawn := w.drawn + 1 }) ⟨rfl, rfl, rfl, Nat.le_refl _, fun _ _ _ => rfl⟩ (fun _ hb => hb) (fun _ hb => .inl hb)⟩
theorem u5 {bar : Oper -> Bool} {Q : St -> Prop} : ∀ {n k : Nat} {σ : St}, k + n = ops.size -> Aa P ops bar (ops.toList.drop k) σ Q -> uM P ops bar (List.range' k n) σ Q
 | 0, k, σ, hk, h => by
  rw [List.drop_eq_nil_of_le (by simp; omega)] at h
  exact h
 | n + 1, k, σ, hk, h => by
  have ij : k < ops.toList.length := by simp; omega
  rw [List.drop_eq_getElem_cons ij] at h
  obtain ⟨σ', hs, hr⟩ := h
  rw [List.range'_succ]
  exact ⟨ops.toList[k], σ', by rw [<- Array.getElem?_toList]; exact List.getElem?_eq_getElem ij, hs, u5 (by omega) hr⟩
theorem LW {bar : Oper -> Bool} {PT : List (Nat × Nat)} {NB : List Nat} {id : Nat} {Q : Exit -> St -> Prop} {σ : St} (fZ : ∀ (i : Nat) (o : Oper) (σ σ' : St), ops[i]? = some o -> yQ P ops bar o σ σ' -> Da PT NB σ -> Da PT NB σ') (dA : Da PT NB σ) (hm : P.follows .mixedOrders = true) (hdr : wB ops (fun i => i) bar PT NB (OG ops.toList []) = true) (gP : yv ops (fun i => i) σ = true) (h : Aa P ops bar ops.toList σ (Q .normal)) : AWP P (.region id ops true) Q σ := by
 intro T0 B a w fe
 refine wp_region_any hm ?_
 have gx := List.all_eq_true.1 hdr
 refine Ck (T0 := T0) (B := B) (w0 := w) fZ hdr (Qa := Q .normal) (fun σ' a' w' hq hr hb => ⟨σ', hq, hr, hb⟩) ops.size (List.range' 0 ops.size) _ σ a _ (by simp) (by simp) ?_ (fun i => ?_) (fun i hi => by simp [List.mem_range'] at hi; omega) (fun m om cX hm => absurd (by simp only [List.mem_range'_1]; have := (Array.getElem?_eq_some_iff.1 cX).1; omega) hm) ?_ dA (u5 (by omega) (by simpa using h)) (D7 fe) ⟨rfl, rfl, rfl, Nat.le_refl _, fun _ _ => rfl⟩
 ·exact List.pairwise_lt_range'
 ·rw [Array.getD_eq_getD_getElem?, Array.getElem?_replicate]
  simp only [List.mem_range'_1]
  constructor
  ·intro hh; rw [if_pos (by omega)]; rfl
  ·intro hh
   split at hh
   ·omega
   ·cases hh
 ·intro j hj hl
  simp only [List.mem_range'_1] at hj
  have hb := gx j (List.mem_range.2 (by omega))
  simp only [Bool.and_eq_true, Bool.or_eq_true, Bool.not_eq_true'] at hb
  refine ⟨hb.2.resolve_left (by unfold PQ at hl; rw [hl]; simp), ?_⟩
  have hc := List.all_eq_true.1 gP j (List.mem_range.2 (by omega))
  unfold PQ at hl
  simp only [hl, Bool.not_true, Bool.false_or] at hc
  have ij : j < ops.size := by omega
  rw [Array.getElem?_eq_getElem ij] at hc
  simp only [Option.bind_some] at hc
  cases hd : ops[j].dst with
  | none => rw [hd] at hc; cases hc
  | some d => rw [hd] at hc; exact ⟨_, d, Array.getElem?_eq_getElem ij, hd, hc⟩
theorem Ap {bar : Oper -> Bool} {id : Nat} {Q : Exit -> St -> Prop} {σ : St} (hm : P.follows .mixedOrders = true) (hdr : Nj ops (fun i => i) bar = true) (gP : yv ops (fun i => i) σ = true) (h : Aa P ops bar ops.toList σ (Q .normal)) : AWP P (.region id ops true) Q σ :=
 LW (PT := []) (NB := []) (fun _ _ _ _ _ _ _ => Hm) Hm hm hdr gP h
theorem sY {id : Nat} {σ : St} {l : List Oper} {br : Oper -> Bool} {k : Fr} (PT : List (Nat × Nat)) (hm : P.follows .mixedOrders = true) (hdr : wB ⟨l⟩ (fun i => i) (fun _ => false) PT [] (OG l []) = true) (gP : yv ⟨l⟩ (fun i => i) σ = true) (aU : NO ⟨l⟩ PT = true) (hp : ptB PT σ = true) (h : @EI P σ ⟨⟨l⟩, fun _ => false⟩ ⟨l⟩ k) : @DI P id σ ⟨⟨l⟩, br⟩ k :=
 LW (bar := fun _ => false) (PT := PT) (NB := []) (fun _ _ _ _ hi hs hq => ⟨u6 aU hi (hs.resolve_right (fun hh => by cases hh.1)) hq.1, fun p hp => by cases hp⟩) ⟨ri hp, fun p hp => by cases hp⟩ hm hdr gP (JX h)
theorem rY {id : Nat} {σ : St} {l : List Oper} {br : Oper -> Bool} {k : Fr} (hm : P.follows .mixedOrders = true) (hdr : Nj ⟨l⟩ (fun i => i) (fun _ => false) = true) (gP : yv ⟨l⟩ (fun i => i) σ = true) (h : @EI P σ ⟨⟨l⟩, fun _ => false⟩ ⟨l⟩ k) : @DI P id σ ⟨⟨l⟩, br⟩ k :=
 Ap hm hdr gP (JX h)
def Lm (bs : List Nat) (o : Oper) : Bool := match o.dst with | some d => bs.contains d | none => true
theorem nT {ops : Array Oper} {PT : List (Nat × Nat)} {bar : Oper -> Bool} {i : Nat} {o : Oper} {σ σ' : St} (aU : NO ops PT = true) (aV : (ops.toList.all fun o => !bar o || Oq o || RZ o) = true) (hi : ops[i]? = some o) (hs : yQ P ops bar o σ σ') (h : FA PT σ) : FA PT σ' := by
 rcases hs with hs | ⟨hb, _, _, hk1, cT⟩
 ·exact u6 aU hi hs h
 ·have gq : o ∈ ops.toList := by rw [Array.mem_toList_iff]; exact Array.mem_of_getElem? hi
  have h1 := List.all_eq_true.1 aV o gq
  simp only [hb, Bool.not_true, Bool.false_or, Bool.or_eq_true] at h1
  rcases h1 with h1 | h1
  ·obtain ⟨⟨_, hg⟩, _⟩ := hk1 h1
   intro p hp
   rw [hg]; exact h p hp
  ·obtain ⟨d, hd, _, hg, _⟩ := cT h1
   intro p hp
   have iU : p.1 ≠ d := by
    intro e
    have hc := List.all_eq_true.1 aU o gq
    rw [hd] at hc
    have hc := List.all_eq_true.1 hc p hp
    simp only [e, bne_self_eq_false, Bool.false_or, Bool.and_eq_true] at hc
    have hc := hc.2
    unfold RZ at h1
    cases iS : o.op <;> rw [iS] at h1 hc <;> first | (exact Bool.noConfusion h1) | (exact Bool.noConfusion hc)
   rw [(hg p.1 iU).1]; exact h p hp
theorem nG {ops : Array Oper} {NB : List Nat} {bar : Oper -> Bool} {i : Nat} {o : Oper} {σ σ' : St} (fC : Gp P ops NB = true) (aV : (ops.toList.all fun o => !bar o || Oq o || RZ o) = true) (hi : ops[i]? = some o) (hs : yQ P ops bar o σ σ') (h : EB NB σ) : EB NB σ' := by
 rcases hs with hs | ⟨hb, _, _, hk1, cT⟩
 ·exact p9 fC hi hs h
 ·have gq : o ∈ ops.toList := by rw [Array.mem_toList_iff]; exact Array.mem_of_getElem? hi
  have h1 := List.all_eq_true.1 aV o gq
  simp only [hb, Bool.not_true, Bool.false_or, Bool.or_eq_true] at h1
  rcases h1 with h1 | h1
  ·obtain ⟨⟨_, hg⟩, _⟩ := hk1 h1
   intro p hp
   rw [hg]; exact h p hp
  ·obtain ⟨d, hd, _, hg, _⟩ := cT h1
   intro p hp
   have iU : p ≠ d := by
    intro e
    have hc := List.all_eq_true.1 fC o gq
    rw [hd] at hc
    have hc := List.all_eq_true.1 hc p hp
    simp only [e, bne_self_eq_false, Bool.false_or, Bool.and_eq_true] at hc
    have hc := hc.2
    unfold RZ at h1
    cases iS : o.op <;> rw [iS] at h1 hc <;> first | (exact Bool.noConfusion h1) | (exact Bool.noConfusion hc)
   rw [(hg p iU).1]; exact h p hp
theorem su {id : Nat} {σ : St} {l : List Oper} {br : Oper -> Bool} {k : Fr} (PT : List (Nat × Nat)) (NB bs : List Nat) (hm : P.follows .mixedOrders = true) (hdr : wB ⟨l⟩ (fun i => i) (Lm bs) PT NB (OG l []) = true) (gP : yv ⟨l⟩ (fun i => i) σ = true) (aU : NO ⟨l⟩ PT = true) (hp : ptB PT σ = true) (fC : Gp P ⟨l⟩ NB = true) (hnb : nbB NB σ = true) (aV : (l.all fun o => !Lm bs o || Oq o || RZ o) = true) (h : @EI P σ ⟨⟨l⟩, Lm bs⟩ ⟨l⟩ k) : @DI P id σ ⟨⟨l⟩, br⟩ k :=
 LW (bar := Lm bs) (PT := PT) (NB := NB) (fun _ _ _ _ hi hs hq => ⟨nT aU aV hi hs hq.1, nG fC aV hi hs hq.2⟩) ⟨ri hp, nV hnb⟩ hm hdr gP (JX h)
theorem mI {id : Nat} {σ : St} {l : List Oper} {br : Oper -> Bool} {k : Fr} (bs : List Nat) (hm : P.follows .mixedOrders = true) (hdr : Vm.Nj ⟨l⟩ (fun i => i) (Lm bs) = true) (gP : yv ⟨l⟩ (fun i => i) σ = true) (h : @EI P σ ⟨⟨l⟩, Lm bs⟩ ⟨l⟩ k) : @DI P id σ ⟨⟨l⟩, br⟩ k :=
 Ap hm hdr gP (JX h)
def pwB (pos : Nat -> Nat) : List Nat -> Bool
 | [] => true
 | i :: r => r.all (fun j => decide (pos i < pos j)) && pwB pos r
theorem r4 {pos : Nat -> Nat} : ∀ {l : List Nat}, pwB pos l = true -> l.Pairwise (fun i j => pos i < pos j)
 | [], _ => .nil
 | i :: r, h => by
  simp only [pwB, Bool.and_eq_true, List.all_eq_true, decide_eq_true_eq] at h
  exact .cons h.1 (r4 h.2)
def posOf : List Nat -> Nat -> Nat
 | [], _ => 0
 | i :: r, k => if i == k then 0 else posOf r k + 1
def pf (n : Nat) (ord : List Nat) : Bool := ord.length == n && pwB (posOf ord) ord && ord.all (fun i => decide (i < n)) && (List.range n).all (fun i => ord.contains i)
@[reducible] def nM : List Oper -> Nat -> Oper -> Oper
 | [], _, d => d
 | o :: _, 0, _ => o
 | _ :: l, i + 1, d => nM l i d
@[reducible] def rN (l : List Oper) (d : Oper) : List Nat -> List Oper
 | [] => []
 | i :: r => nM l i d :: rN l d r
theorem wc {d : Oper} : ∀ {l : List Oper} {i : Nat}, i < l.length -> l[i]? = some (nM l i d)
 | [], i, h => by simp at h
 | o :: l, 0, _ => rfl
 | o :: l, i + 1, h => by simpa using wc (l := l) (i := i) (by simpa using h)
theorem CT {bar : Oper -> Bool} {Q : St -> Prop} {l : List Oper} {d : Oper} : ∀ {ord : List Nat} {σ : St}, (∀ i ∈ ord, i < l.length) -> Aa P l.toArray bar (rN l d ord) σ Q -> uM P l.toArray bar ord σ Q
 | [], σ, _, h => h
 | i :: r, σ, hi, h => by
  obtain ⟨σ', hs, hr⟩ := h
  exact ⟨_, σ', by rw [List.getElem?_toArray]; exact wc (hi i (by simp)), hs, CT (fun j hj => hi j (by simp [hj])) hr⟩
theorem tc {bar : Oper -> Bool} {id : Nat} {Q : Exit -> St -> Prop} {σ : St} {ord : List Nat} (hm : P.follows .mixedOrders = true) (ho : pf ops.size ord = true) (hdr : Nj ops (posOf ord) bar = true) (gP : yv ops (posOf ord) σ = true) (h : uM P ops bar ord σ (Q .normal)) : AWP P (.region id ops true) Q σ := by
 intro T0 B a w fe
 refine wp_region_any hm ?_
 have gx := List.all_eq_true.1 hdr
 simp only [pf, Bool.and_eq_true, beq_iff_eq, List.all_eq_true, decide_eq_true_eq, List.mem_range, List.contains_iff_mem] at ho
 obtain ⟨⟨⟨o1, o2⟩, o3⟩, o4⟩ := ho
 refine Ck (T0 := T0) (B := B) (w0 := w) (PT := []) (NB := []) (fun _ _ _ _ _ _ _ => Hm) hdr (Qa := Q .normal) (fun σ' a' w' hq hr hb => ⟨σ', hq, hr, hb⟩) ops.size ord _ σ a _ o1 (by simp) (r4 o2) (fun i => ?_) o3 (fun m om cX hm => absurd (o4 m (Array.getElem?_eq_some_iff.1 cX).1) hm) ?_ Hm h (D7 fe) ⟨rfl, rfl, rfl, Nat.le_refl _, fun _ _ => rfl⟩
 ·rw [Array.getD_eq_getD_getElem?, Array.getElem?_replicate]
  constructor
  ·intro hh; rw [if_pos (o3 i hh)]; rfl
  ·intro hh
   split at hh
   ·rename_i ij; exact o4 i ij
   ·cases hh
 ·intro j hj hl
  have hjs := o3 j hj
  have hb := gx j (List.mem_range.2 hjs)
  simp only [Bool.and_eq_true, Bool.or_eq_true, Bool.not_eq_true'] at hb
  refine ⟨hb.2.resolve_left (by unfold PQ at hl; rw [hl]; simp), ?_⟩
  have hc := List.all_eq_true.1 gP j (List.mem_range.2 hjs)
  unfold PQ at hl
  simp only [hl, Bool.not_true, Bool.false_or] at hc
  rw [Array.getElem?_eq_getElem hjs] at hc
  simp only [Option.bind_some] at hc
  cases hd : ops[j].dst with
  | none => rw [hd] at hc; cases hc
  | some d => rw [hd] at hc; exact ⟨_, d, Array.getElem?_eq_getElem hjs, hd, hc⟩
theorem FO {id : Nat} {σ : St} {o : Oper} {l : List Oper} {br : Oper -> Bool} {k : Fr} (ord : List Nat) (hm : P.follows .mixedOrders = true) (ho : pf (o :: l).length ord = true) (hdr : Nj ⟨o :: l⟩ (posOf ord) (fun _ => false) = true) (gP : yv ⟨o :: l⟩ (posOf ord) σ = true)
  (h : @EI P σ ⟨⟨o :: l⟩, fun _ => false⟩ ⟨rN (o :: l) o ord⟩ k) : @DI P id σ ⟨⟨o :: l⟩, br⟩ k := by
 have h2 : ∀ i ∈ ord, i < (o :: l).length := by
  simp only [pf, Bool.and_eq_true, List.all_eq_true, decide_eq_true_eq] at ho
  exact ho.1.2
 exact tc hm ho hdr gP (CT h2 (JX h))
end
end Go.Vm
