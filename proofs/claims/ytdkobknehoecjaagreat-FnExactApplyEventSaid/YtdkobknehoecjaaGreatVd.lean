/- An abstract machine GQ the model of Go, by value, and that it is sound: part Vd. No condition. -/
import Derived.Test.YtdkobknehoecjaaGreatVc
import Derived.Orders
namespace Go.Vm
open Go.RowKit
structure Sub (P : Program) (xs : List Operand) (σ1 σ : St) : Prop where
 len : σ1.length = σ.length
 look : ∀ x ∈ xs, ∀ ty, look P σ1 ty x = look P σ ty x
 ob : ∀ x ∈ xs, ∀ ty u, (Vm.look P σ1 ty x).ref u = true -> ∀ j, σ1.ob u j ≠ .none -> σ.ob u j = σ1.ob u j
theorem JS {v : V} {x : At} {u : Nat} (h : unc v = .one x) (hx : x.ref u = true) : v.ref u = true := by
 cases v with
 | cnd g y => simp only [unc] at h; subst h; simp only [V.ref, V.Oo, Bool.or_eq_true]; exact .inl hx
 | one y => simp only [unc] at h; cases h; exact hx
 | any => simp [unc] at h
 | agg xs => simp [unc] at h
 | tup xs => simp [unc] at h
 | fix g y => simp only [unc] at h; subst h; simp only [V.ref, V.Oo, Bool.or_eq_true]; exact .inl hx
theorem OH {v : V} {xs : List At} {u : Nat} (h : unc v = .agg xs) (hx : YS u xs = true) : v.ref u = true := by
 cases v with
 | cnd g y => simp only [unc] at h; subst h; simp only [V.ref, V.Oo, Bool.or_eq_true]; exact .inl hx
 | agg y => simp only [unc] at h; cases h; exact hx
 | any => simp [unc] at h
 | one xs => simp [unc] at h
 | tup xs => simp [unc] at h
 | fix g y => simp only [unc] at h; subst h; simp only [V.ref, V.Oo, Bool.or_eq_true]; exact .inl hx
theorem WV {v : V} {u : Nat} (hx : YS u (unc v).cells = true) : v.ref u = true := by
 cases h : unc v with
 | one x => rw [h] at hx; simp [V.cells, YS] at hx; exact JS h hx
 | agg xs => rw [h] at hx; exact OH h hx
 | any => rw [h] at hx; simp [V.cells, YS] at hx
 | tup xs => rw [h] at hx; simp [V.cells, YS] at hx
 | cnd g x => rw [h] at hx; simp [V.cells, YS] at hx
 | fix u x => rw [h] at hx; simp [V.cells, YS] at hx
section
variable {P : Program} {σ1 σ : St}
theorem Sub.same {xs : List Operand} {x : Operand} {ty : TypeId} {a : At} {u j : Nat} {o : Ob} (h : Sub P xs σ1 σ) (hx : x ∈ xs) (hv : unc (Vm.look P σ ty x) = .one a) (ha : a.ref u = true) (ho : σ1.ob u j = o) (hn : o ≠ .none) : σ.ob u j = o := by
 rw [<- ho]
 refine h.ob x hx ty u ?_ j (by rw [ho]; exact hn)
 rw [h.look x hx ty]
 exact JS hv ha
theorem xN {xs : List Operand} {x : Operand} {k : IntKind} {n : Int} (h : Sub P xs σ1 σ) (hx : x ∈ xs) (hl : W5 P σ1 x k n) : W5 P σ x k n := by
 unfold W5 at *
 rw [<- h.look x hx]; exact hl
theorem DR {xs : List Operand} {df n : Nat} {x : Option Operand} (h : Sub P xs σ1 σ) (hx : ∀ y, x = some y -> y ∈ xs) (hl : bnd P σ1 df x n) : bnd P σ df x n := by
 cases x with
 | none => exact hl
 | some x =>
  simp only [bnd] at *
  rw [<- h.look x (hx x rfl)]; exact hl
theorem Oh {T : TypeId} : ∀ {ps : List (Nat × Operand)} {z out : List At}, Sub P (ps.map (·.2)) σ1 σ -> Uk P σ1 T ps z out -> Uk P σ T ps z out
 | [], _, _, _, h => h
 | (i, x) :: ps, z, out, hs, h => by
  have e := hs.look x (by simp)
  simp only [Uk] at h ⊢
  rw [<- e]
  refine ⟨h.1, h.2.1, h.2.2.1, h.2.2.2.1, h.2.2.2.2.1, Oh ⟨hs.len, fun y hy => hs.look y (by simp at hy ⊢; exact .inr hy), fun y hy => hs.ob y (by simp at hy ⊢; exact .inr hy)⟩ h.2.2.2.2.2⟩
theorem RQ {op : Op} {ty : TypeId} {v : V} (hs : Yh P σ1 op ty v) (h : Sub P op.operands.toList σ1 σ) : Yh P σ op ty v := by
 cases op <;> simp only [Yh] at hs ⊢
 case move x => rw [<- h.look x (by simp [Op.operands])]; exact hs
 case assign x => rw [<- h.look x (by simp [Op.operands])]; exact hs
 case pick c a b =>
  rw [<- h.look c (by simp [Op.operands]), <- h.look a (by simp [Op.operands]), <- h.look b (by simp [Op.operands])]; exact hs
 case load T x =>
  rw [h.look x (by simp [Op.operands])] at hs
  refine ⟨hs.1, hs.2.1, ?_⟩
  have lL := hs.2.2
  split at lL
  ·rename_i t c hx
   obtain ⟨cells, ho, hr⟩ := lL
   exact ⟨cells, h.same (by simp [Op.operands]) hx (by simp [At.ref]) ho (by simp), hr⟩
  ·rename_i t j i c hx
   obtain ⟨q, size, rows, ho, hr⟩ := lL
   exact ⟨q, size, rows, h.same (by simp [Op.operands]) hx (by simp [At.ref]) ho (by simp), hr⟩
  ·exact lL
  ·exact lL.elim
 case nilCheck x =>
  rw [h.look x (by simp [Op.operands])] at hs
  refine ⟨hs.1, ?_⟩
  have lL := hs.2
  split at lL
  ·rename_i t c hx
   obtain ⟨⟨cells, ho⟩, hr⟩ := lL
   exact ⟨⟨cells, h.same (by simp [Op.operands]) hx (by simp [At.ref]) ho (by simp)⟩, hr⟩
  ·exact lL.elim
 case fieldAddr T x f =>
  rw [h.look x (by simp [Op.operands])] at hs
  refine ⟨hs.1, hs.2.1, ?_⟩
  have lL := hs.2.2
  split at lL
  ·rename_i t c hx
   obtain ⟨⟨cells, ho⟩, hr⟩ := lL
   exact ⟨⟨cells, h.same (by simp [Op.operands]) hx (by simp [At.ref]) ho (by simp)⟩, hr⟩
  ·rename_i t j i c hx
   obtain ⟨⟨q, size, rows, ho⟩, hr⟩ := lL
   exact ⟨⟨q, size, rows, h.same (by simp [Op.operands]) hx (by simp [At.ref]) ho (by simp)⟩, hr⟩
  ·exact lL
  ·rename_i t j i c k hx
   obtain ⟨⟨size, rows, ho⟩, hr⟩ := lL
   exact ⟨⟨size, rows, h.same (by simp [Op.operands]) hx (by simp [At.ref]) ho (by simp)⟩, hr⟩
  ·exact lL.elim
 case indexAddr T x ix =>
  obtain ⟨k, i, hk, h0, hg, lL⟩ := hs
  rw [h.look x (by simp [Op.operands])] at hg lL
  refine ⟨k, i, xN h (by simp [Op.operands]) hk, h0, hg, ?_⟩
  split at lL
  ·exact lL
  ·rename_i t j lo len hx
   obtain ⟨h1, h2, ⟨q, rows, ho⟩, hr⟩ := lL
   exact ⟨h1, h2, ⟨q, rows, h.same (by simp [Op.operands]) hx (by simp [At.ref]) ho (by simp)⟩, hr⟩
  ·rename_i t c hx
   obtain ⟨⟨cells, ho⟩, hr⟩ := lL
   exact ⟨⟨cells, h.same (by simp [Op.operands]) hx (by simp [At.ref]) ho (by simp)⟩, hr⟩
  ·rename_i t j m c hx
   obtain ⟨h1, h2, ⟨size, rows, s, ho, hr⟩, hv⟩ := lL
   exact ⟨h1, h2, ⟨size, rows, s, h.same (by simp [Op.operands]) hx (by simp [At.ref]) ho (by simp), hr⟩, hv⟩
  ·exact lL.elim
 case index T x ix =>
  obtain ⟨k, i, hk, h0, hg, lL⟩ := hs
  rw [h.look x (by simp [Op.operands])] at hg lL
  exact ⟨k, i, xN h (by simp [Op.operands]) hk, h0, hg, lL⟩
 case slice T x lo hi mx =>
  cases mx with
  | some m => exact hs.elim
  | none =>
   simp only at hs ⊢
   rw [h.look x (by simp [Op.operands])] at hs
   refine ⟨hs.1, ?_⟩
   have lL := hs.2
   have b1 : ∀ df n, bnd P σ1 df lo n -> bnd P σ df lo n := fun df n => DR h (fun y hy => by subst hy; simp [Op.operands])
   have b2 : ∀ df n, bnd P σ1 df hi n -> bnd P σ df hi n := fun df n => DR h (fun y hy => by subst hy; simp [Op.operands])
   split at lL
   ·obtain ⟨h1, l, hh, h2, h3, hr⟩ := lL
    exact ⟨h1, l, hh, b1 _ _ h2, b2 _ _ h3, hr⟩
   ·obtain ⟨h1, h1', l, hh, h2, h3, hr⟩ := lL
    exact ⟨h1, h1', l, hh, b1 _ _ h2, b2 _ _ h3, hr⟩
   ·rename_i t j o len hx
    obtain ⟨h1, ⟨q, rows, ho⟩, l, hh, h2, h3, hr⟩ := lL
    exact ⟨h1, ⟨q, rows, h.same (by simp [Op.operands]) hx (by simp [At.ref]) ho (by simp)⟩, l, hh, b1 _ _ h2, b2 _ _ h3, hr⟩
   ·exact lL.elim
 case binOp op T x y yt =>
  rw [<- h.look x (by simp [Op.operands]), <- h.look y (by simp [Op.operands])]; exact hs
 case unOp op T x => rw [<- h.look x (by simp [Op.operands])]; exact hs
 case convert S T x => rw [<- h.look x (by simp [Op.operands])]; exact hs
 case extract x i => rw [<- h.look x (by simp [Op.operands])]; exact hs
 case field T x f => rw [<- h.look x (by simp [Op.operands])]; exact hs
 case build T parts =>
  obtain ⟨h1, h2, z, out, h3, h4, h5⟩ := hs
  refine ⟨h1, h2, z, out, h3, Oh ?_ h4, h5⟩
  simpa [Op.operands] using h
 case call c =>
  obtain ⟨cal, args, l6⟩ := c
  have hm : ∀ x ∈ args.toList, x ∈ (Op.operands (.call ⟨cal, args, l6⟩)).toList := by
   intro x hx
   simp only [Op.operands, Call.operands]
   cases cal <;> simp at hx ⊢ <;> simp [hx]
  split at hs
  ·rename_i x t hc ha ht
   rw [h.look x (hm x (by rw [ha]; simp))] at hs
   try simp only [hc, ha, ht]
   refine ⟨hs.1, ?_⟩
   have lL := hs.2
   split at lL
   ·exact lL
   ·exact lL
   ·exact lL
   ·rename_i u j lo len hx
    obtain ⟨h1, ⟨q, size, rows, ho⟩ | ⟨size, rows, ho⟩, hr⟩ := lL
    ·exact ⟨h1, .inl ⟨q, size, rows, h.same (hm x (by rw [ha]; simp)) hx (by simp [At.ref]) ho (by simp)⟩, hr⟩
    ·exact ⟨h1, .inr ⟨size, rows, h.same (hm x (by rw [ha]; simp)) hx (by simp [At.ref]) ho (by simp)⟩, hr⟩
   ·exact lL.elim
  ·rename_i x y hc ha
   try simp only [hc, ha]
   obtain ⟨k, m, n, h1, h2, h3⟩ := hs
   exact ⟨k, m, n, xN h (hm x (by rw [ha]; simp)) h1, xN h (hm y (by rw [ha]; simp)) h2, h3⟩
  ·rename_i x y hc ha
   try simp only [hc, ha]
   obtain ⟨k, m, n, h1, h2, h3⟩ := hs
   exact ⟨k, m, n, xN h (hm x (by rw [ha]; simp)) h1, xN h (hm y (by rw [ha]; simp)) h2, h3⟩
  ·exact hs.elim
end
end Go.Vm
namespace Go.Vm
open Go.RowKit
def He (P : Program) (xs : List Operand) (σ : St) (u : Nat) : Prop :=
 ∃ x ∈ xs, ∃ ty, (look P σ ty x).ref u = true \/ ∃ t cells, (look P σ ty x).ref t = true /\ σ.ob t 0 = .box cells /\ YS u cells = true
theorem zW {u : Nat} : ∀ {xs : List At}, YS u xs = true ↔ ∃ x ∈ xs, x.ref u = true
 | [] => by simp [YS]
 | x :: xs => by simp [YS, zW]
theorem wI {u : Nat} {xs ys : List At} (h : ∀ x ∈ xs, x ∈ ys) (hx : YS u xs = true) : YS u ys = true := by
 obtain ⟨x, h1, h2⟩ := zW.1 hx
 exact zW.2 ⟨x, h x h1, h2⟩
theorem P2 {u a b : Nat} {xs : List At} (hx : YS u (cut xs a b) = true) : YS u xs = true :=
 wI (fun _ h => List.mem_of_mem_drop (List.mem_of_mem_take h)) hx
theorem Oe {u : Nat} (xs : List D) : YS u (xs.map .d) = false := by
 induction xs with
 | nil => rfl
 | cons x xs ih => simp [YS, At.ref, ih]
theorem Ni {P : Program} {T : TypeId} {u : Nat} {xs : List At} (h : (ldV P T xs).ref u = true) : YS u xs = true := by
 unfold ldV at h
 split at h
 ·exact h
 ·split at h
  ·simpa [V.ref, YS] using h
  ·simp [V.ref] at h
theorem ug {u o : Nat} {r xs : List At} (h : YS u (place r o xs) = true) : YS u r = true \/ YS u xs = true := by
 obtain ⟨x, h1, h2⟩ := zW.1 h
 simp only [place, List.mem_append] at h1
 rcases h1 with (h1 | h1) | h1
 ·exact .inl (zW.2 ⟨x, List.mem_of_mem_take h1, h2⟩)
 ·exact .inr (zW.2 ⟨x, h1, h2⟩)
 ·exact .inl (zW.2 ⟨x, List.mem_of_mem_drop h1, h2⟩)
theorem re {v : V} {u : Nat} (h : (unc v).ref u = true) (hc : ∀ g x, unc v ≠ .cnd g x) (hf : ∀ g x, unc v ≠ .fix g x) : v.ref u = true := by
 cases v with
 | cnd g x =>
  simp only [unc] at h hc hf
  simp only [V.ref, Bool.or_eq_true]
  cases x with
  | tup xs => exact .inr h
  | cnd g y => exact absurd rfl (hc g y)
  | fix g y => exact absurd rfl (hf g y)
  | one x => exact .inl h
  | agg x => exact .inl h
  | any => exact .inl h
 | fix g x =>
  simp only [unc] at h hc hf
  simp only [V.ref, Bool.or_eq_true]
  cases x with
  | tup xs => exact .inr h
  | cnd g y => exact absurd rfl (hc g y)
  | fix g y => exact absurd rfl (hf g y)
  | one x => exact .inl h
  | agg x => exact .inl h
  | any => exact .inl h
 | _ => exact h
theorem Ga {u t j i : Nat} : ∀ {c : Nat} {xs : List D}, YS u (WS t j i c xs) = true -> u = t
 | _, [], h => by simp [WS, YS] at h
 | c, x :: xs, h => by
  simp only [WS, YS, Bool.or_eq_true] at h
  rcases h with h | h
  ·cases x <;> simp [At.ref] at h; exact h.symm
  ·exact Ga h
theorem w6 {u t j i c : Nat} {q : Bool} {xs : List D} (h : YS u (Tj q t j i c xs) = true) : u = t := by
 cases q with
 | true => exact Ga h
 | false => simp only [Tj] at h; rw [Oe] at h; cases h
theorem AG {op : BinOp} {k : IntKind} {x y : Int} {v : V} (h : Hm op k x y v) (u : Nat) : v.ref u = false := by
 cases op <;> simp only [Hm] at h <;> first | (subst h; rfl) | (obtain ⟨_, rfl⟩ := h; rfl) | exact h.elim
theorem AO {op : BinOp} {x y : ByteArray} {v : V} (h : H6 op x y v) (u : Nat) : v.ref u = false := by
 cases op <;> simp only [H6] at h <;> first | (subst h; rfl) | (obtain ⟨_, rfl⟩ := h; rfl) | exact h.elim
theorem Dy {op : BinOp} {x y : Bool} {v : V} (h : NZ op x y v) (u : Nat) : v.ref u = false := by
 cases op <;> simp only [NZ] at h <;> first | (subst h; rfl) | (obtain ⟨_, rfl⟩ := h; rfl) | exact h.elim
theorem wy {P : Program} {op : BinOp} {T : TypeId} {x y v : V} (h : AS P op T x y v) (u : Nat) : v.ref u = false := by
 unfold AS at h
 split at h
 ·exact AG h.2 u
 ·exact AO h u
 ·exact Dy h.2 u
 ·obtain ⟨_, q, _, ⟨_, rfl⟩ | ⟨_, rfl⟩⟩ := h <;> rfl
 ·exact h.elim
theorem Dr {u : Nat} : ∀ {xs : List V} {i : Nat} {v : V}, xs[i]? = some v -> v.Oo u = true -> U5 u xs = true
 | [], _, _, h, _ => by simp at h
 | x :: xs, 0, v, h, hr => by simp at h; subst h; simp [U5, hr]
 | x :: xs, i + 1, v, h, hr => by simp only [U5, Bool.or_eq_true]; exact .inr (Dr (by simpa using h) hr)
theorem Dk {v : V} (hf : v.flat = true) (u : Nat) : v.ref u = v.Oo u := by
 cases v <;> first | rfl | (simp [V.flat] at hf)
theorem Gh {P : Program} {σ : St} {T : TypeId} {u : Nat} : ∀ {ps : List (Nat × Operand)} {z out : List At}, Uk P σ T ps z out -> YS u out = true ->
  YS u z = true \/ ∃ x ∈ ps.map (·.2), ∃ ty, (look P σ ty x).ref u = true
 | [], z, out, h, hr => by simp only [Uk] at h; subst h; exact .inl hr
 | (i, x) :: ps, z, out, h, hr => by
  simp only [Uk] at h
  rcases Gh h.2.2.2.2.2 hr with h1 | ⟨y, hy, ty, h1⟩
  ·rcases ug h1 with h1 | h1
   ·exact .inl h1
   ·exact .inr ⟨x, by simp, _, WV h1⟩
  ·exact .inr ⟨y, by simp at hy ⊢; exact .inr hy, ty, h1⟩
theorem DH {P : Program} {σ : St} {op : Op} {ty : TypeId} {v : V} {u : Nat} (hs : Yh P σ op ty v) (hr : v.ref u = true) : He P op.operands.toList σ u := by
 have nod : ∀ {x : D}, v = .one (.d x) -> False := by intro x e; rw [e] at hr; cases hr
 cases op <;> simp only [Yh] at hs
 case move x => subst hs; exact ⟨x, by simp [Op.operands], ty, .inl hr⟩
 case assign x => subst hs; exact ⟨x, by simp [Op.operands], ty, .inl hr⟩
 case pick c a b => obtain ⟨bc, p, q, _, _, _, _, _, _, rfl⟩ := hs; cases hr
 case load T x =>
  have lL := hs.2.2
  split at lL
  ·rename_i t c hx
   obtain ⟨cells, ho, _, rfl⟩ := lL
   exact ⟨x, by simp [Op.operands], 0, .inr ⟨t, cells, JS hx (by simp [At.ref]), ho, P2 (Ni hr)⟩⟩
  ·rename_i t j i c hx
   obtain ⟨q, size, rows, _, _, _, rfl⟩ := lL
   have := w6 (Ni hr)
   exact ⟨x, by simp [Op.operands], 0, .inl (JS hx (by simp [At.ref, this]))⟩
  ·obtain ⟨_, rfl⟩ := lL
   have := Ni hr; rw [Oe] at this; cases this
  ·exact lL.elim
 case nilCheck x =>
  have lL := hs.2
  split at lL
  ·rename_i t c hx
   obtain ⟨_, rfl⟩ := lL
   exact ⟨x, by simp [Op.operands], 0, .inl (JS hx hr)⟩
  ·exact lL.elim
 case fieldAddr T x f =>
  have lL := hs.2.2
  split at lL
  ·rename_i t c hx
   obtain ⟨_, rfl⟩ := lL
   exact ⟨x, by simp [Op.operands], 0, .inl (JS hx hr)⟩
  ·rename_i t j i c hx
   obtain ⟨_, rfl⟩ := lL
   exact ⟨x, by simp [Op.operands], 0, .inl (JS hx hr)⟩
  ·subst lL; cases hr
  ·rename_i t j i c k hx
   obtain ⟨_, rfl⟩ := lL
   exact ⟨x, by simp [Op.operands], 0, .inl (JS hx hr)⟩
  ·exact lL.elim
 case indexAddr T x ix =>
  obtain ⟨k, i, _, _, _, lL⟩ := hs
  split at lL
  ·obtain ⟨_, _, _, _, rfl⟩ := lL; cases hr
  ·rename_i t j lo len hx
   obtain ⟨_, _, _, _, rfl⟩ := lL
   exact ⟨x, by simp [Op.operands], 0, .inl (JS hx hr)⟩
  ·rename_i t c hx
   obtain ⟨_, _, rfl⟩ := lL
   exact ⟨x, by simp [Op.operands], 0, .inl (JS hx hr)⟩
  ·rename_i t j m c hx
   obtain ⟨_, _, _, rfl⟩ := lL
   exact ⟨x, by simp [Op.operands], 0, .inl (JS hx hr)⟩
  ·exact lL.elim
 case index T x ix =>
  obtain ⟨k, i, _, _, _, lL⟩ := hs
  split at lL
  ·obtain ⟨_, _, rfl⟩ := lL; cases hr
  ·rename_i xs hx
   obtain ⟨_, _, _, rfl⟩ := lL
   exact ⟨x, by simp [Op.operands], 0, .inl (OH hx (P2 (Ni hr)))⟩
  ·exact lL.elim
 case slice T x lo hi mx =>
  cases mx with
  | some m => exact hs.elim
  | none =>
   simp only at hs
   have lL := hs.2
   split at lL
   ·obtain ⟨_, _, _, _, _, _, _, rfl⟩ := lL; cases hr
   ·obtain ⟨_, _, _, _, _, _, _, _, rfl⟩ := lL; cases hr
   ·rename_i t j o len hx
    obtain ⟨_, _, _, _, _, _, _, _, rfl⟩ := lL
    exact ⟨x, by simp [Op.operands], 0, .inl (JS hx hr)⟩
   ·exact lL.elim
 case binOp op T x y yt => rw [wy hs.2.2 u] at hr; cases hr
 case unOp op T x =>
  have lL := hs.2
  split at lL
  ·subst lL; cases hr
  ·subst lL; cases hr
  ·exact lL.elim
 case convert S T x =>
  have lL := hs.2.2
  split at lL
  ·obtain ⟨_, _, rfl⟩ := lL; cases hr
  ·exact lL.elim
 case extract x i =>
  have lL := hs.2
  split at lL
  ·rename_i xs hx
   refine ⟨x, by simp [Op.operands], 0, .inl (re ?_ (by rw [hx]; simp) (by rw [hx]; simp))⟩
   rw [hx]
   rw [Dk lL.2] at hr
   exact Dr lL.1 hr
  ·exact lL.elim
 case field T x f =>
  have lL := hs.2.2.2
  split at lL
  ·rename_i xs hx
   obtain ⟨_, rfl⟩ := lL
   exact ⟨x, by simp [Op.operands], 0, .inl (OH hx (P2 (Ni hr)))⟩
  ·exact lL.elim
 case build T parts =>
  obtain ⟨_, _, z, out, h3, h4, rfl⟩ := hs
  rcases Gh h4 hr with h1 | ⟨x, hx, ty', h1⟩
  ·rw [P9 u _ _ _ h3] at h1; cases h1
  ·exact ⟨x, by simpa [Op.operands] using hx, ty', .inl h1⟩
 case call c =>
  split at hs
  ·have lL := hs.2
   split at lL
   ·obtain ⟨_, rfl⟩ := lL; cases hr
   ·obtain ⟨_, rfl⟩ := lL; cases hr
   ·obtain ⟨_, rfl⟩ := lL; cases hr
   ·obtain ⟨_, _, rfl⟩ := lL; cases hr
   ·exact lL.elim
  ·obtain ⟨_, _, _, _, _, rfl⟩ := hs; cases hr
  ·obtain ⟨_, _, _, _, _, rfl⟩ := hs; cases hr
  ·exact hs.elim
end Go.Vm
namespace Go.Vm
open Go.RowKit
inductive Eff where
 | put (v : V)
 | new (v : V) (os : List Ob)
 | drop (t j : Nat) (v : V) (os : List Ob)
def Eff.ap (d : Nat) : Eff -> St -> St
 | .put v, σ => σ.put d v
 | .new v os, σ => σ.new d v os
 | .drop t j v os, σ => (σ.Z7 t j .none).new d v os
def Eff.ok (d : Nat) : Eff -> St -> Prop
 | .put _, _ => True
 | .new _ _, σ => σ.fresh d = true
 | .drop t j _ _, σ => (∃ q s r, σ.ob t j = .arr q s r) /\ (σ.Z7 t j .none).fresh d = true
def Eff.ref (u : Nat) : Eff -> Bool
 | .put v => v.ref u
 | .new v os => v.ref u || Y2 u os
 | .drop _ _ v os => v.ref u || Y2 u os
def P5 (o : Oper) : Bool :=
 match o.op with
 | .call ⟨.builtin .append, ⟨.const _ :: _⟩, _⟩ => false
 | .call ⟨.builtin .append, _, _⟩ => true
 | _ => false
def zO (o : Oper) : Bool :=
 match o.op with
 | .alloc _ => false
 | .box _ _ => false
 | .buildSlice _ _ _ => false
 | .makeSlice _ _ _ => false
 | .call ⟨.builtin .append, _, _⟩ => false
 | .call ⟨.value _, _, _⟩ => false
 | _ => true
def Sg (ops : Array Oper) (o : Oper) : List Operand :=
 o.op.operands.toList ++ (match o.guard with | some (j, _) => (match (ops[j]?).bind (·.dst) with | some dj => [.tmp dj] | none => []) | none => [])
section
variable {P : Program} {σ1 σ : St}
theorem Sub.left {xs ys : List Operand} (h : Sub P (xs ++ ys) σ1 σ) : Sub P xs σ1 σ := ⟨h.len, fun x hx => h.look x (by simp [hx]), fun x hx => h.ob x (by simp [hx])⟩
theorem Cy {x : At} {d : D} (h : ∀ u, x.ref u = true -> ∀ j, σ1.ob u j ≠ .none -> σ.ob u j = σ1.ob u j) (hd : z4 σ1 x = some d) : z4 σ x = some d := by
 cases x with
 | sref t j lo len =>
  simp only [z4] at hd ⊢
  split at hd
  ·rename_i q size rows ho
   rw [h t (by simp [At.ref]) j (by rw [ho]; simp), ho]; exact hd
  ·cases hd
 | _ => exact hd
theorem kp : ∀ {xs : List At} {r : List D}, (∀ u, YS u xs = true -> ∀ j, σ1.ob u j ≠ .none -> σ.ob u j = σ1.ob u j) -> rowOf σ1 xs = some r -> rowOf σ xs = some r
 | [], _, _, h => h
 | x :: xs, r, h, hr => by
  simp only [rowOf] at hr ⊢
  split at hr
  ·rename_i d ds h1 h2
   rw [Cy (fun u hu => h u (by rw [YS, hu]; rfl)) h1, kp (fun u hu => h u (by rw [YS, hu, Bool.or_true])) h2]
   exact hr
  ·cases hr
theorem Ep {v : V} {r : List D} (h : ∀ u, YS u v.cells = true -> ∀ j, σ1.ob u j ≠ .none -> σ.ob u j = σ1.ob u j) (hr : v.Kv σ1 = some r) : v.Kv σ = some r := by
 cases v with
 | one x => exact kp h hr
 | agg xs =>
  match xs, h, hr with
  | [], h, hr => exact kp h hr
  | [_], _, hr => simp [V.Kv] at hr
  | x :: y :: xs, h, hr => exact kp h hr
 | any => simp [V.Kv] at hr
 | tup xs => simp [V.Kv] at hr
 | cnd g x => simp [V.Kv] at hr
 | fix u x => simp [V.Kv] at hr
theorem Sub.cells {xs : List Operand} {x : Operand} (h : Sub P xs σ1 σ) (hx : x ∈ xs) (ty : TypeId) : ∀ u, YS u (unc (Vm.look P σ1 ty x)).cells = true -> ∀ j, σ1.ob u j ≠ .none -> σ.ob u j = σ1.ob u j :=
 fun u hu j hn => h.ob x hx ty u (WV hu) j hn
theorem US : ∀ {xs : List Operand} {ts : List TypeId} {rs : List (List D)}, Sub P xs σ1 σ -> Qp P σ1 xs ts rs -> Qp P σ xs ts rs
 | [], _, _, _, h => h
 | x :: xs, [], _, _, h => h.elim
 | x :: xs, t :: ts, rs, hs, h => by
  obtain ⟨hg, r, rest, h1, h2, h3⟩ := h
  have e := hs.look x (by simp) t
  refine ⟨by rw [<- e]; exact hg, r, rest, ?_, US ⟨hs.len, fun y hy => hs.look y (by simp [hy]), fun y hy => hs.ob y (by simp [hy])⟩ h2, h3⟩
  rw [<- e]
  exact Ep (hs.cells (by simp) t) h1
theorem TR : ∀ {xs : List Operand} {ts : List TypeId}, Sub P xs σ1 σ -> Yn P σ xs ts = Yn P σ1 xs ts
 | [], _, _ => by simp [Yn]
 | x :: xs, [], _ => by simp [Yn]
 | x :: xs, t :: ts, hs => by
  simp only [Yn]
  rw [hs.look x (by simp) t, TR ⟨hs.len, fun y hy => hs.look y (by simp [hy]), fun y hy => hs.ob y (by simp [hy])⟩]
theorem RX {c : Call} {f : FuncId} {own : Bool} {res : List (List D)} (hs : Sub P c.args.toList σ1 σ) (h : AU P σ1 c f own res) : AU P σ c f own res := by
 obtain ⟨rows, h1, h2, h3⟩ := h
 exact ⟨rows, US hs h1, h2, by rw [TR hs]; exact h3⟩
theorem LC {T : TypeId} {size : Nat} : ∀ {ps : List (Nat × Operand)} {k : Nat} {rs : List (List D)}, Sub P (ps.map (·.2)) σ1 σ -> Gx P σ1 T size ps k rs -> Gx P σ T size ps k rs
 | [], _, _, _, h => h
 | (i, x) :: ps, k, rs, hs, h => by
  have e := hs.look x (by simp) T
  obtain ⟨h1, h2, h3, h4, r, rest, h5, h6, h7, h8⟩ := h
  refine ⟨h1, by rw [<- e]; exact h2, by rw [<- e]; exact h3, by rw [<- e]; exact h4, r, rest, ?_, h6, LC ⟨hs.len, fun y hy => hs.look y (by simp at hy ⊢; exact .inr hy), fun y hy => hs.ob y (by simp at hy ⊢; exact .inr hy)⟩ h7, h8⟩
  rw [<- e]
  exact kp (hs.cells (by simp) T) h5
theorem M0 {T : TypeId} {size : Nat} : ∀ {ps : List (Nat × Operand)} {k : Nat} {rs : List (List At)}, Sub P (ps.map (·.2)) σ1 σ -> NN P σ1 T size ps k rs -> NN P σ T size ps k rs
 | [], _, _, _, h => h
 | (i, x) :: ps, k, rs, hs, h => by
  obtain ⟨h1, h2, h3, h4, rest, h5, h6⟩ := h
  have e := hs.look x (by simp) T
  rw [e] at h2 h3 h4 h6
  exact ⟨h1, h2, h3, h4, rest, M0 ⟨hs.len, fun y hy => hs.look y (by simp at hy ⊢; exact .inr hy), fun y hy => hs.ob y (by simp at hy ⊢; exact .inr hy)⟩ h5, h6⟩
theorem Dm {T : TypeId} {size u : Nat} : ∀ {ps : List (Nat × Operand)} {k : Nat} {rs : List (List At)}, NN P σ T size ps k rs -> YS u rs.flatten = true -> ∃ x ∈ ps.map (·.2), (Vm.look P σ T x).ref u = true
 | [], _, _, h, hr => by simp only [NN] at h; subst h; simp [YS] at hr
 | (i, x) :: ps, k, rs, h, hr => by
  obtain ⟨h1, h2, h3, h4, rest, h5, rfl⟩ := h
  rw [List.flatten_cons] at hr
  obtain ⟨z, hz, hP⟩ := zW.1 hr
  rcases List.mem_append.1 hz with hz | hz
  ·exact ⟨x, by simp, WV (zW.2 ⟨z, hz, hP⟩)⟩
  ·obtain ⟨y, hy, hyr⟩ := Dm h5 (zW.2 ⟨z, hz, hP⟩)
   exact ⟨y, by simp at hy ⊢; exact .inr hy, hyr⟩
theorem yy (u : Nat) : ∀ (qs : List Bool) (ds : List D), Y2 u (YO qs ds) = false
 | qs, [] => by cases qs <;> rfl
 | q :: qs, .sl size rows :: ds => by simp [YO, Y2, yy u qs ds]
 | [], .sl size rows :: ds => by simp [YO, Y2, yy u [] ds]
 | qs, .int _ _ :: ds => by cases qs <;> simp [YO, Y2, yy u _ ds]
 | qs, .bool _ :: ds => by cases qs <;> simp [YO, Y2, yy u _ ds]
 | qs, .str _ :: ds => by cases qs <;> simp [YO, Y2, yy u _ ds]
 | qs, .unk :: ds => by cases qs <;> simp [YO, Y2, yy u _ ds]
theorem UN {xs : List Operand} {x : Operand} {ty : TypeId} {size : Nat} {news : List (List D)} (hs : Sub P xs σ1 σ) (hx : x ∈ xs) (h : xh σ1 (unc (Vm.look P σ1 ty x)) size news) : xh σ (unc (Vm.look P σ ty x)) size news := by
 rw [hs.look x hx] at h
 unfold xh at h ⊢
 split at h
 ·exact h
 ·exact h
 ·rename_i t j lo len hv
  obtain ⟨rows, ho, hr⟩ := h
  exact ⟨rows, hs.same hx hv (by simp [At.ref]) ho (by simp), hr⟩
 ·exact h.elim
theorem uG (u : Nat) (r : List D) : (vOf (r.map At.d)).ref u = false := by
 have := Oe (u := u) r
 match r, this with
 | [], _ => rfl
 | [x], _ => rfl
 | x :: y :: r, h => exact h
theorem w8 (u : Nat) (r : List D) : (vOf (r.map At.d)).Oo u = false := by
 have := Oe (u := u) r
 match r, this with
 | [], _ => rfl
 | [x], _ => rfl
 | x :: y :: r, h => exact h
theorem uO (u : Nat) (res : List (List D)) : (jj res).ref u = false := by
 have tl : ∀ rs : List (List D), U5 u (rs.map fun r => vOf (r.map At.d)) = false := by
  intro rs
  induction rs with
  | nil => rfl
  | cons r rs ih => simp only [List.map_cons, U5, w8, ih, Bool.or_false]
 match res with
 | [] => rfl
 | [r] => exact uG u r
 | r :: r' :: rs => exact tl (r :: r' :: rs)
theorem OJ {u d : Nat} (hu : u ≠ d) : ∀ (k : Nat) (r : List D), YS u (KG d k r) = false
 | _, [] => rfl
 | k, x :: r => by cases x <;> simp [KG, YS, At.ref, OJ hu, Ne.symm hu]
theorem Bw {u : Nat} {xs : List At} (h : YS u xs = false) : (vOf xs).Oo u = false := by
 match xs, h with
 | [], _ => rfl
 | [x], h => simpa [vOf, V.Oo, YS] using h
 | x :: y :: xs, h => exact h
theorem Bp {u d : Nat} (hu : u ≠ d) (res : List (List D)) : (VS d res).ref u = false := by
 have tl : ∀ (k : Nat) (rs : List (List D)), U5 u (DS d k rs) = false := by
  intro k rs
  induction rs generalizing k with
  | nil => rfl
  | cons r rs ih => simp only [DS, U5, Bw (OJ hu _ _), ih, Bool.or_false]
 match res with
 | [] => exact tl 0 []
 | [r] =>
  have h1 : (vOf (KG d 0 r)).flat = true := by
   match KG d 0 r with
   | [] => rfl
   | [x] => rfl
   | x :: y :: xs => rfl
  have := Bw (OJ hu 0 r)
  rw [<- Dk h1] at this
  exact this
 | r :: r' :: rs => exact tl 0 (r :: r' :: rs)
theorem I3 (u : Nat) : ∀ (ds : List D), Y2 u (yq ds) = false
 | [] => rfl
 | x :: ds => by cases x <;> simp [yq, Y2, I3 u ds]
theorem MB (ty : TypeId) (v : Value) (u : Nat) : (cst P ty v).ref u = false := by
 unfold cst
 split <;> first | rfl | skip
 all_goals (repeat' split) <;> first | rfl | skip
end
end Go.Vm
namespace Go.Vm
open Go.RowKit
def H5 (P : Program) (ops : Array Oper) (o : Oper) (d : Nat) (σ1 : St) (e : Eff) : Prop :=
 e.ok d σ1 /\ (∀ t j v os, e = .drop t j v os -> P5 o = true /\ ∃ x ∈ Sg ops o, ∃ ty, (look P σ1 ty x).ref t = true) /\
 (zO o = true \/ o.guard.isSome = true -> ∃ v, e = .put v) /\
 (o.guard = none -> ∀ u, u ≠ d -> e.ref u = true -> He P (Sg ops o) σ1 u) /\
 ∀ σ, Sub P (Sg ops o) σ1 σ -> e.ok d σ -> XS P ops o σ (e.ap d σ)
section
variable {P : Program} {ops : Array Oper} {o : Oper} {d : Nat} {σ1 σ2 : St}
theorem P0 {xs ys : List Operand} {u : Nat} (h : He P xs σ1 u) : He P (xs ++ ys) σ1 u := by
 obtain ⟨x, hx, r⟩ := h
 exact ⟨x, by simp [hx], r⟩
theorem Ue {σ σ' : St} (hg : o.guard = none) (hd : o.dst = some d) (h : Step P o d σ σ') : XS P ops o σ σ' := by
 unfold XS; simp only [hg, hd]; exact h
theorem Ip {v : V} (hg : o.guard = none) (hd : o.dst = some d) (bF : ∀ u, u ≠ d -> v.ref u = true -> He P o.op.operands.toList σ1 u)
  (hH : ∀ σ, Sub P o.op.operands.toList σ1 σ -> Step P o d σ (σ.put d v)) : H5 P ops o d σ1 (.put v) :=
 ⟨trivial, (fun t j v os h => by cases h), fun _ => ⟨v, rfl⟩, fun _ u hu hr => P0 (bF u hu hr), fun σ hs _ => Ue hg hd (hH σ hs.left)⟩
theorem Vp {v : V} {os : List Ob} (hg : o.guard = none) (hd : o.dst = some d) (hp : zO o = false) (la : σ1.fresh d = true) (bF : ∀ u, u ≠ d -> (v.ref u || Y2 u os) = true -> He P o.op.operands.toList σ1 u)
  (hH : ∀ σ, Sub P o.op.operands.toList σ1 σ -> σ.fresh d = true -> Step P o d σ (σ.new d v os)) : H5 P ops o d σ1 (.new v os) :=
 ⟨la, (fun t j v os h => by cases h), (fun h => h.elim (fun h => by rw [hp] at h; cases h) (fun h => by rw [hg] at h; cases h)), fun _ u hu hr => P0 (bF u hu hr), fun σ hs hf => Ue hg hd (hH σ hs.left hf)⟩
theorem kb {c : Call} {x : Operand} (hx : x ∈ c.args.toList) : x ∈ (Op.operands (.call c)).toList := by
 obtain ⟨cal, args, l6⟩ := c
 simp only [Op.operands, Call.operands]
 cases cal <;> simp at hx ⊢ <;> simp [hx]
theorem O5 {c : Call} {σ : St} (h : Sub P (Op.operands (.call c)).toList σ1 σ) : Sub P c.args.toList σ1 σ :=
 ⟨h.len, fun x hx => h.look x (kb hx), fun x hx => h.ob x (kb hx)⟩
theorem sD (hg : o.guard = none) (hd : o.dst = some d) (hs : Step P o d σ1 σ2) : ∃ e : Eff, σ2 = e.ap d σ1 /\ H5 P ops o d σ1 e := by
 have iW : (∃ v, Yh P σ1 o.op o.type v /\ σ2 = σ1.put d v) -> (∀ σ v, Yh P σ o.op o.type v -> Step P o d σ (σ.put d v)) -> ∃ e : Eff, σ2 = e.ap d σ1 /\ H5 P ops o d σ1 e := by
  rintro ⟨v, hv, rfl⟩ lZ
  exact ⟨.put v, rfl, Ip hg hd (fun u _ hr => DH hv hr) (fun σ lh => lZ σ v (RQ hv lh))⟩
 have hs0 := hs
 unfold Step at hs
 split at hs
 ·rename_i T lB
  obtain ⟨hf, hz, row, lX, rfl⟩ := hs
  refine ⟨.new _ _, rfl, Vp hg hd (by simp [zO, lB]) hf (fun u hu hr => ?_) (fun σ lh gm => ?_)⟩
  ·simp only [V.ref, At.ref, Y2, P9 u _ _ _ lX, Bool.or_false, beq_iff_eq] at hr
   exact absurd hr.symm hu
  ·unfold Step; rw [lB]; exact ⟨gm, hz, row, lX, rfl⟩
 ·rename_i T x lB
  obtain ⟨hf, h1, h2, h3, rfl⟩ := hs
  refine ⟨.new _ _, rfl, Vp hg hd (by simp [zO, lB]) hf (fun u hu hr => ?_) (fun σ lh gm => ?_)⟩
  ·simp only [V.ref, At.ref, Y2, Bool.or_false, Bool.or_eq_true, beq_iff_eq] at hr
   rcases hr with hr | hr
   ·exact absurd hr.symm hu
   ·exact ⟨x, by simp [lB, Op.operands], T, .inl (WV hr)⟩
  ·have e := lh.look x (by simp [lB, Op.operands]) T
   unfold Step; rw [lB]
   simp only
   rw [<- e]
   exact ⟨gm, h1, h2, h3, rfl⟩
 ·rename_i T n parts lB
  obtain ⟨hf, h1, h2, h3, h4, h5, ⟨rows, h6, rfl⟩ | ⟨rows, h6, h7, rfl⟩⟩ := hs
  ·refine ⟨.new _ _, rfl, Vp hg hd (by simp [zO, lB]) hf (fun u hu hr => ?_) (fun σ lh gm => ?_)⟩
   ·simp only [V.ref, At.ref, Y2, Bool.or_false, beq_iff_eq] at hr
    exact absurd hr.symm hu
   ·unfold Step; rw [lB]
    refine ⟨gm, h1, h2, h3, h4, h5, .inl ⟨rows, LC ?_ h6, rfl⟩⟩
    rw [lB] at lh
    simpa [Op.operands] using lh
  ·refine ⟨.new _ _, rfl, Vp hg hd (by simp [zO, lB]) hf (fun u hu hr => ?_) (fun σ lh gm => ?_)⟩
   ·simp only [V.ref, At.ref, Y2, Bool.or_false, Bool.or_eq_true, beq_iff_eq] at hr
    rcases hr with hr | hr
    ·exact absurd hr.symm hu
    ·obtain ⟨x, hx, hxr⟩ := Dm h6 hr
     exact ⟨x, by simpa [lB, Op.operands] using hx, _, .inl hxr⟩
   ·unfold Step; rw [lB]
    refine ⟨gm, h1, h2, h3, h4, h5, .inr ⟨rows, M0 ?_ h6, h7, rfl⟩⟩
    rw [lB] at lh
    simpa [Op.operands] using lh
 ·rename_i T x y lB
  obtain ⟨rfl, hf, h1, h2, h3, q, z, zr, k, n, hq, h4, h5, h6, h7, h8, rfl⟩ := hs
  refine ⟨.new _ _, rfl, Vp hg hd (by simp [zO, lB]) hf (fun u hu hr => ?_) (fun σ lh gm => ?_)⟩
  ·simp only [V.ref, At.ref, Y2, Bool.or_false, beq_iff_eq] at hr
   exact absurd hr.symm hu
  ·unfold Step; rw [lB]
   exact ⟨rfl, gm, h1, h2, h3, q, z, zr, k, n, hq, h4, h5, xN lh (by simp [lB, Op.operands]) h6, h7, h8, rfl⟩
 ·rename_i c lB
  split at hs
  ·rename_i hc
   obtain ⟨x, y, t, ha, dn, h1, h2, h3, h4, h5, lC, news, σd, h6, h7, h8, h9, fg, rfl⟩ := hs
   have hx : x ∈ o.op.operands.toList := by rw [lB]; exact kb (by rw [ha]; simp)
   have hy : y ∈ o.op.operands.toList := by rw [lB]; exact kb (by rw [ha]; simp)
   have fO : zO o = false := by
    obtain ⟨cc, ca, ct⟩ := c
    simp only at hc; subst hc
    simp [zO, lB]
   have refs : ∀ u, u ≠ d -> (V.ref u (.one (.sref d 0 0 (lC.length + news.length))) || Y2 u [.arr false (P.cellsOf (ZU P t)) (lC ++ news)]) = true -> He P o.op.operands.toList σ1 u := by
    intro u hu hr
    simp only [V.ref, At.ref, Y2, Bool.or_false, beq_iff_eq] at hr
    exact absurd hr.symm hu
   have h6' := h6
   unfold Tu at h6
   split at h6
   ·rename_i s heq
    obtain ⟨rfl, rfl⟩ := h6
    refine ⟨.new _ _, rfl, Vp hg hd fO h8 refs (fun σ lh gm => ?_)⟩
    unfold Step; rw [lB]
    simp only [hc]
    refine ⟨x, y, t, ha, dn, ?_, ?_, h3, h4, h5, [], news, σ, ?_, UN lh hy h7, gm, h9, fg, rfl⟩
    ·rw [<- lh.look x hx]; exact h1
    ·rw [<- lh.look y hy]; exact h2
    ·rw [<- lh.look x hx]; unfold Tu; rw [heq]; exact ⟨rfl, rfl⟩
   ·rename_i tt j lo len heq
    obtain ⟨rows, ho, gf, hlen, holds, rfl⟩ := h6
    have hrx : (look P σ1 t x).ref tt = true := JS heq (by simp [At.ref])
    refine ⟨.drop tt j _ _, rfl, ⟨⟨_, _, _, ho⟩, h8⟩, ?_, (fun hh => hh.elim (fun hh => by rw [fO] at hh; cases hh) (fun hh => by rw [hg] at hh; cases hh)), fun _ u hu hr => P0 (refs u hu hr), fun σ lh gm => Ue hg hd ?_⟩
    ·intro t' j' v os he
     cases he
     refine ⟨?_, x, by simp only [Sg, List.mem_append]; exact .inl hx, t, hrx⟩
     obtain ⟨cc, ca, ct⟩ := c
     simp only at hc ha; subst hc ha
     cases x with
     | const v => rw [Vm.look, MB] at hrx; cases hrx
     | _ => simp [P5, lB]
    ·have fP := lh.left
     unfold Step; rw [lB]
     simp only [hc]
     have gp : unc (look P σ t x) = .one (.sref tt j lo len) := by rw [<- fP.look x hx]; exact heq
     refine ⟨x, y, t, ha, dn, ?_, ?_, h3, h4, h5, lC, news, _, ?_, UN fP hy h7, gm.2, h9, fg, rfl⟩
     ·rw [<- fP.look x hx]; exact h1
     ·rw [<- fP.look y hy]; exact h2
     ·unfold Tu; rw [gp]
      exact ⟨rows, fP.same hx gp (by simp [At.ref]) ho (by simp), gf, hlen, holds, rfl⟩
   ·exact h6.elim
  ·rename_i f hc
   have fO : zO o = false := by
    obtain ⟨cc, ca, ct⟩ := c
    simp only at hc; subst hc
    simp [zO, lB]
   rcases hs with ⟨own, res, aF, rfl⟩ | ⟨res, aF, hf, rfl⟩ | ⟨rows, res, qs, ha, hsd, hq, hf, rfl⟩
   ·refine ⟨.put _, rfl, Ip hg hd (fun u _ hr => by rw [uO] at hr; cases hr) (fun σ lh => ?_)⟩
    rw [lB] at lh
    unfold Step; rw [lB]
    simp only [hc]
    exact .inl ⟨own, res, RX (O5 lh) aF, rfl⟩
   ·refine ⟨.new _ _, rfl, Vp hg hd fO hf (fun u hu hr => ?_) (fun σ lh gm => ?_)⟩
    ·rw [Bp hu, I3] at hr; cases hr
    ·rw [lB] at lh
     unfold Step; rw [lB]
     simp only [hc]
     exact .inr (.inl ⟨res, RX (O5 lh) aF, gm, rfl⟩)
   ·refine ⟨.new _ _, rfl, Vp hg hd fO hf (fun u hu hr => ?_) (fun σ lh gm => ?_)⟩
    ·rw [Bp hu, yy] at hr; cases hr
    ·rw [lB] at lh
     unfold Step; rw [lB]
     simp only [hc]
     exact .inr (.inr ⟨rows, res, qs, US (O5 lh) ha, hsd, hq, gm, rfl⟩)
  ·rename_i h1 h2
   refine iW hs (fun σ v hv => ?_)
   unfold Step; rw [lB]
   simp only
   exact ⟨v, by rw [lB] at hv; exact hv, rfl⟩
 ·rename_i S T x lB
  rcases hs with hs | ⟨l, h1, h2, h3, h4, rfl⟩ | ⟨s, h1, h2, h3, h4, h5, rfl⟩
  ·refine iW hs (fun σ v hv => ?_)
   unfold Step; rw [lB]
   exact .inl ⟨v, by rw [lB] at hv; exact hv, rfl⟩
  ·refine ⟨.put _, rfl, Ip hg hd (fun u _ hr => by cases hr) (fun σ lh => ?_)⟩
   have hx : x ∈ o.op.operands.toList := by simp [lB, Op.operands]
   unfold Step; rw [lB]
   exact .inr (.inl ⟨l, by rw [<- lh.look x hx]; exact h1, h2, h3, UN lh hx h4, rfl⟩)
  ·refine ⟨.put _, rfl, Ip hg hd (fun u _ hr => by cases hr) (fun σ lh => ?_)⟩
   have hx : x ∈ o.op.operands.toList := by simp [lB, Op.operands]
   unfold Step; rw [lB]
   exact .inr (.inr ⟨s, by rw [<- lh.look x hx]; exact h1, h2, h3, by rw [<- lh.look x hx]; exact h4, h5, rfl⟩)
 ·rename_i n1 n2 n3 n4 n5 n6
  refine iW hs (fun σ v hv => ?_)
  unfold Step
  split
  ·rename_i T lB; exact absurd lB (n1 T)
  ·rename_i T x lB; exact absurd lB (n2 T x)
  ·rename_i T n ps lB; exact absurd lB (n3 T n ps)
  ·rename_i T x y lB; exact absurd lB (n4 T x y)
  ·rename_i c lB; exact absurd lB (n5 c)
  ·rename_i S T x lB; exact absurd lB (n6 S T x)
  ·exact ⟨v, hv, rfl⟩
end
end Go.Vm
namespace Go.Vm
open Go.RowKit
theorem yi {σ : St} {d : Nat} : σ.fresh d = true ↔ d < σ.length /\ ∀ t e, σ[t]? = some e -> t ≠ d -> e.1.ref d = false /\ Y2 d e.2 = false := by
 unfold St.fresh
 rw [Bool.and_eq_true, decide_eq_true_eq]
 refine and_congr_right fun _ => ⟨fun h t e he lD => yh h t e he (by omega), fun h => ?_⟩
 have : ∀ (σ : St) (k : Nat), (∀ t e, σ[t]? = some e -> k + t ≠ d -> e.1.ref d = false /\ Y2 d e.2 = false) -> zy d k σ = true := by
  intro σ
  induction σ with
  | nil => intro k _; rfl
  | cons e σ ih =>
   intro k hk
   simp only [zy, Bool.and_eq_true, Bool.or_eq_true, beq_iff_eq, Bool.not_eq_true']
   refine ⟨?_, ih (k + 1) fun t e' he lD => hk (t + 1) e' (by simpa using he) (by omega)⟩
   by_cases h0 : k = d
   ·exact .inl h0
   ·exact .inr (hk 0 e (by simp) (by omega))
 exact this σ 0 (fun t e he lD => h t e he (by omega))
theorem AD {σ : St} {t : Nat} {e : Ent} (h : σ[t]? = some e) (j : Nat) : σ.ob t j = Yr e.2 j := by unfold St.ob; rw [h]
theorem Hy {σ : St} {t j : Nat} {o : Ob} (h : σ.ob t j = o) (hn : o ≠ .none) : ∃ e, σ[t]? = some e /\ Yr e.2 j = o := by
 unfold St.ob at h
 split at h
 ·rename_i e he; exact ⟨e, he, h⟩
 ·exact absurd h.symm hn
theorem Gc {u : Nat} : ∀ {os : List Ob} {j : Nat} {cells : List At}, Yr os j = .box cells -> YS u cells = true -> Y2 u os = true
 | [], _, _, h, _ => by simp [Yr] at h
 | o :: os, 0, cells, h, hr => by
  have : o = .box cells := h
  subst this
  simp [Y2, hr]
 | o :: os, j + 1, cells, h, hr => by
  have h' : Yr os j = .box cells := by simpa [Yr] using h
  have := Gc h' hr
  cases o <;> simp [Y2, this]
theorem xZ {u s : Nat} {q : Bool} {r : List (List D)} : ∀ {os : List Ob} {j : Nat}, Yr os j = .arr q s r -> Y2 u (os.set j .none) = Y2 u os
 | [], _, h => by simp [Yr] at h
 | o :: os, 0, h => by
  have : o = .arr q s r := h
  subst this
  simp [Y2]
 | o :: os, j + 1, h => by
  have h' : Yr os j = .arr q s r := by simpa [Yr] using h
  have := xZ (u := u) h'
  cases o <;> simp [Y2, this]
theorem uK {σ : St} {d : Nat} (h : JB σ d = true) {e : Ent} (he : σ[d]? = some e) (u : Nat) : e.1.ref u = false /\ Y2 u e.2 = false := by
 unfold JB at h
 split at h
 ·rename_i h1; rw [he] at h1; cases h1; exact ⟨rfl, rfl⟩
 ·rename_i h1; rw [he] at h1; cases h1; exact ⟨rfl, rfl⟩
 ·cases h
section
variable {P : Program} {ops : Array Oper} {o x y : Oper} {d dx dy : Nat} {σ σ1 σ2 : St}
theorem Ut (hd : o.dst = some d) (hs : XS P ops o σ1 σ2) : ∃ e : Eff, σ2 = e.ap d σ1 /\ H5 P ops o d σ1 e := by
 unfold XS at hs
 split at hs
 ·rename_i hg
  simp only [hd] at hs
  exact sD hg hd hs
 ·rename_i j want hg
  obtain ⟨dj, d', g, v, ig, lN, lQ, iu, hv, rfl⟩ := hs
  rw [hd] at lQ; cases lQ
  refine ⟨.put (.cnd g v), rfl, trivial, (fun t j v os h => by cases h), fun _ => ⟨_, rfl⟩, (fun h => by rw [hg] at h; cases h), fun σ lh _ => ?_⟩
  have iM : Operand.tmp dj ∈ Sg ops o := by simp [Sg, hg, ig]
  have l8 : σ.get dj = σ1.get dj := (lh.look _ iM 0).symm
  unfold XS
  simp only [hg]
  refine ⟨dj, d, g, v, ig, by rw [<- lh.len]; exact lN, hd, by rw [l8]; exact iu, fun dq => ?_, rfl⟩
  have hR := hv dq
  have eD := lh.left
  unfold MK at hR ⊢
  split at hR
  ·rename_i c lB
   split at hR
   ·rename_i f hc
    obtain ⟨own, res, aF, rfl⟩ := hR
    rw [lB] at eD
    exact ⟨own, res, RX (O5 eD) aF, rfl⟩
   ·obtain ⟨v0, h1, h2⟩ := hR
    exact ⟨v0, RQ h1 eD, h2⟩
  ·obtain ⟨v0, h1, h2⟩ := hR
   exact ⟨v0, RQ h1 eD, h2⟩
theorem Up (e : Eff) : (e.ap d σ).length = σ.length := by
 cases e <;> simp [Eff.ap, St.JU, St.TZ, St.Xv]
theorem Cl (e : Eff) {t : Nat} (lD : t ≠ d) : (e.ap d σ).get t = σ.get t := by
 cases e with
 | put v => simp [Eff.ap, St.yS, lD]
 | new v os => simp [Eff.ap, St.Tb, lD]
 | drop a j v os => simp [Eff.ap, St.Tb, St.QK, lD]
theorem vu {t u : Nat} (h : (σ.get t).ref u = true) : ∃ e, σ[t]? = some e /\ e.1.ref u = true := by
 unfold St.get at h
 split at h
 ·rename_i e he; exact ⟨e, he, h⟩
 ·cases h
end
end Go.Vm
namespace Go.Vm
open Go.RowKit
section
variable {P : Program} {ops : Array Oper} {x y : Oper} {dx dy : Nat} {σ σ1 σ2 : St}
theorem W6 {d : Nat} (hf : ∀ t e, σ[t]? = some e -> t ≠ d -> e.1.ref d = false) {z : Operand} (hz : z ≠ .tmp d) (ty : TypeId) : (look P σ ty z).ref d = false := by
 cases z with
 | tmp t =>
  have lD : t ≠ d := fun h => hz (by rw [h])
  cases hr : (look P σ ty (.tmp t)).ref d with
  | false => rfl
  | true =>
   obtain ⟨e, he, lp⟩ := vu (σ := σ) (t := t) hr
   rw [hf t e he lD] at lp; cases lp
 | const v => exact MB ty v d
 | global g => rfl
 | func f => rfl
theorem look_eq {d : Nat} (hg : ∀ t, t ≠ d -> σ1.get t = σ.get t) {z : Operand} (hz : z ≠ .tmp d) (ty : TypeId) : look P σ1 ty z = look P σ ty z := by
 cases z with
 | tmp t => exact hg t (fun h => hz (by rw [h]))
 | const v => rfl
 | global g => rfl
 | func f => rfl
theorem TM {e : Eff} {d : Nat} (h : e.ok d σ) (lD : ∀ v, e ≠ .put v) : ∀ t en, σ[t]? = some en -> t ≠ d -> en.1.ref d = false := by
 intro t en he ht
 cases e with
 | put v => exact absurd rfl (lD v)
 | new v os => exact ((yi.1 h).2 t en he ht).1
 | drop a j v os =>
  have := (yi.1 h.2).2 t
  rw [qJ] at this
  by_cases eQ : t = a
  ·rw [if_pos eQ, he] at this
   exact (this _ rfl ht).1
  ·rw [if_neg eQ] at this
   exact (this en he ht).1
theorem P6 {e : Eff} {d : Nat} (h : e.ok d σ) (lD : ∀ v, e ≠ .put v) : ∀ t en, σ[t]? = some en -> t ≠ d -> Y2 d en.2 = false := by
 intro t en he ht
 cases e with
 | put v => exact absurd rfl (lD v)
 | new v os => exact ((yi.1 h).2 t en he ht).2
 | drop a j v os =>
  obtain ⟨⟨q, s, r, ho⟩, hf⟩ := h
  have := (yi.1 hf).2 t
  rw [qJ] at this
  by_cases eQ : t = a
  ·rw [if_pos eQ, he] at this
   have h2 := (this _ rfl ht).2
   subst eQ
   rw [AD he] at ho
   rw [xZ ho] at h2
   exact h2
  ·rw [if_neg eQ] at this
   exact (this en he ht).2
theorem pE {e : Eff} {d : Nat} (h : e.ok d σ) (lD : ∀ v, e ≠ .put v) : d < σ.length := by
 cases e with
 | put v => exact absurd rfl (lD v)
 | new v os => exact (yi.1 h).1
 | drop a j v os => have := (yi.1 h.2).1; rwa [St.Xv] at this
theorem pU {e : Eff} {d : Nat} (h : e.ok d σ) {u j : Nat} (hu : (∀ v, e ≠ .put v) -> u ≠ d) (hn : (e.ap d σ).ob u j ≠ .none) : σ.ob u j = (e.ap d σ).ob u j := by
 cases e with
 | put v => simp only [Eff.ap, St.JP]
 | new v os =>
  have := hu (by intro v h; cases h)
  simp only [Eff.ap, St.Ko, this, false_and, if_false]
 | drop a k v os =>
  have et := hu (by intro v h; cases h)
  obtain ⟨⟨q, s, r, ho⟩, _⟩ := h
  simp only [Eff.ap, St.Ko, et, false_and, if_false] at hn ⊢
  rw [St.JH σ a k _ u j (by rw [ho]; simp)] at hn ⊢
  split at hn
  ·exact absurd rfl hn
  ·rename_i hh; rw [if_neg hh]
theorem D7 {e : Eff} {d : Nat} (l9 : ∀ t j v os, e ≠ .drop t j v os) {u j : Nat} (hu : (∀ v, e ≠ .put v) -> u ≠ d) : (e.ap d σ).ob u j = σ.ob u j := by
 cases e with
 | put v => simp only [Eff.ap, St.JP]
 | new v os =>
  have := hu (by intro v h; cases h)
  simp only [Eff.ap, St.Ko, this, false_and, if_false]
 | drop a k v os => exact absurd rfl (l9 a k v os)
theorem sS {e : Eff} {d t : Nat} {en : Ent} (la : e.ok d σ) (ht : t ≠ d) (he : (e.ap d σ)[t]? = some en) : ∃ en0, σ[t]? = some en0 /\ en0.1 = en.1 /\ ∀ u, Y2 u en0.2 = Y2 u en.2 := by
 cases e with
 | put v => simp only [Eff.ap, UX, if_neg ht] at he; exact ⟨en, he, rfl, fun _ => rfl⟩
 | new v os => simp only [Eff.ap, ql, if_neg ht] at he; exact ⟨en, he, rfl, fun _ => rfl⟩
 | drop a j v os =>
  simp only [Eff.ap, ql, if_neg ht, qJ] at he
  split at he
  ·rename_i eQ
   subst eQ
   obtain ⟨⟨q, s, r, ho⟩, _⟩ := la
   obtain ⟨e0, eo, lz⟩ := Hy ho (by simp)
   rw [eo] at he
   simp at he
   subst he
   exact ⟨e0, eo, rfl, fun u => (xZ lz).symm⟩
  ·exact ⟨en, he, rfl, fun _ => rfl⟩
theorem swap (gL : x.dst = some dx) (gl : y.dst = some dy) (lD : dx ≠ dy) (db : ∀ z ∈ Sg ops y, z ≠ .tmp dx) (aC : ∀ z ∈ Sg ops x, z ≠ .tmp dy) (l9 : P5 y = false) (hgp : y.guard = none \/ zO x = true \/ x.guard.isSome = true)
  (lr : JB σ dx = true) (h1 : XS P ops x σ σ1) (h2 : XS P ops y σ1 σ2) : ∃ σ1', XS P ops y σ σ1' /\ XS P ops x σ1' σ2 := by
 obtain ⟨ex, rfl, eR, cX, aG, _, frx⟩ := Ut gL h1
 obtain ⟨ey, rfl, oky, aH, _, refy, fry⟩ := Ut gl h2
 have bo : ∀ t j v os, ey ≠ .drop t j v os := by
  intro t j v os h
  have := (aH t j v os h).1
  rw [l9] at this; cases this
 have suby : Sub P (Sg ops y) (ex.ap dx σ) σ := by
  refine ⟨Up ex, fun z hz ty => look_eq (fun t ht => Cl ex ht) (db z hz) ty, fun z hz ty u hr j hn => ?_⟩
  refine pU eR (fun gF hu => ?_) hn
  subst hu
  rw [look_eq (fun t ht => Cl ex ht) (db z hz) ty, W6 (TM eR gF) (db z hz)] at hr
  cases hr
 have dv : ey.ok dy σ := by
  cases ey with
  | put v => trivial
  | drop a j v os => exact absurd rfl (bo a j v os)
  | new v os =>
   have hf := yi.1 oky
   refine yi.2 ⟨by rw [<- Up ex (d := dx)]; exact hf.1, fun t e he ht => ?_⟩
   by_cases cZ : t = dx
   ·subst cZ; exact uK lr he dy
   ·cases ex with
    | put v' => exact hf.2 t e (by simp only [Eff.ap, UX, if_neg cZ]; exact he) ht
    | new v' de => exact hf.2 t e (by simp only [Eff.ap, ql, if_neg cZ]; exact he) ht
    | drop a j v' de =>
     obtain ⟨⟨q, s, r, ho⟩, _⟩ := eR
     by_cases eQ : t = a
     ·subst eQ
      have := hf.2 t (e.1, e.2.set j .none) (by simp only [Eff.ap, ql, if_neg cZ, qJ, if_true, he, Option.map_some]) ht
      rw [AD he] at ho
      rw [xZ ho] at this
      exact this
     ·exact hf.2 t e (by simp only [Eff.ap, ql, if_neg cZ, qJ, if_neg eQ]; exact he) ht
 have aI := fry σ suby dv
 have aJ : Sub P (Sg ops x) σ (ey.ap dy σ) := by
  refine ⟨(Up ey).symm, fun z hz ty => (look_eq (fun t ht => Cl ey ht) (aC z hz) ty).symm, fun z hz ty u hr j hn => ?_⟩
  refine D7 bo (fun gF hu => ?_)
  subst hu
  rw [W6 (TM dv gF) (aC z hz)] at hr
  cases hr
 have yref : (∀ v, ex ≠ .put v) -> ey.ref dx = false := by
  intro gF
  have hg : y.guard = none := by
   rcases hgp with h | h
   ·exact h
   ·obtain ⟨v, hv⟩ := aG h; exact absurd hv (gF v)
  cases hr : ey.ref dx with
  | false => rfl
  | true =>
   obtain ⟨z, hz, ty, l3⟩ := refy hg dx lD hr
   have hl : look P (ex.ap dx σ) ty z = look P σ ty z := look_eq (fun t ht => Cl ex ht) (db z hz) ty
   rw [hl] at l3
   rcases l3 with l3 | ⟨t', cells, ht', ho, hc⟩
   ·rw [W6 (TM eR gF) (db z hz)] at l3; cases l3
   ·have cZ : t' ≠ dx := by
     intro h; subst h
     rw [W6 (TM eR gF) (db z hz)] at ht'; cases ht'
    have lU : σ.ob t' 0 = .box cells := by rw [pU eR (fun _ => cZ) (by rw [ho]; simp), ho]
    obtain ⟨en, hen, hoe⟩ := Hy lU (by simp)
    have := P6 eR gF t' en hen cZ
    rw [Gc hoe hc] at this; cases this
 have entries : (∀ v, ex ≠ .put v) -> ∀ t e, (ey.ap dy σ)[t]? = some e -> t ≠ dx -> e.1.ref dx = false /\ Y2 dx e.2 = false := by
  intro gF t e he ht
  have hy := yref gF
  by_cases gh : t = dy
  ·subst gh
   cases ey with
   | put v =>
    simp only [Eff.ap, UX, if_true, Option.map_eq_some_iff] at he
    obtain ⟨e0, eo, rfl⟩ := he
    exact ⟨hy, P6 eR gF t e0 eo ht⟩
   | new v os =>
    simp only [Eff.ap, ql, if_true, Option.map_eq_some_iff] at he
    obtain ⟨e0, eo, rfl⟩ := he
    simp only [Eff.ref, Bool.or_eq_false_iff] at hy
    exact hy
   | drop a j v os => exact absurd rfl (bo a j v os)
  ·obtain ⟨e0, eo, h1, h2⟩ := sS dv gh he
   rw [<- h1, <- h2]
   exact ⟨TM eR gF t e0 eo ht, P6 eR gF t e0 eo ht⟩
 have okx' : ex.ok dx (ey.ap dy σ) := by
  cases ex with
  | put v => trivial
  | new v os =>
   have gF : ∀ v', Eff.new v os ≠ .put v' := by intro v' h; cases h
   exact yi.2 ⟨by rw [Up]; exact pE eR gF, entries gF⟩
  | drop a j v os =>
   have gF : ∀ v', Eff.drop a j v os ≠ .put v' := by intro v' h; cases h
   obtain ⟨z, hz, ty, hr⟩ := (cX a j v os rfl).2
   obtain ⟨q, s, r, ho⟩ := eR.1
   have lU : (ey.ap dy σ).ob a j = .arr q s r := by rw [<- ho]; exact aJ.ob z hz ty a hr j (by rw [ho]; simp)
   refine ⟨⟨q, s, r, lU⟩, yi.2 ⟨by rw [St.Xv, Up]; exact pE eR gF, fun t e he ht => ?_⟩⟩
   rw [qJ] at he
   split at he
   ·rename_i eQ
    subst eQ
    obtain ⟨e0, eo, lz⟩ := Hy lU (by simp)
    rw [eo] at he; simp at he; subst he
    have := entries gF t e0 eo ht
    exact ⟨this.1, by rw [xZ lz]; exact this.2⟩
   ·exact entries gF t e he ht
 refine ⟨_, aI, ?_⟩
 have := frx _ aJ okx'
 have heq : ex.ap dx (ey.ap dy σ) = ey.ap dy (ex.ap dx σ) := by
  apply List.ext_getElem?
  intro t
  have hnexy := lD
  cases ex with
  | put v =>
   cases ey with
   | put v' => simp only [Eff.ap, UX]; by_cases h1 : t = dx <;> by_cases h2 : t = dy <;> simp_all
   | new v' de => simp only [Eff.ap, UX, ql]; by_cases h1 : t = dx <;> by_cases h2 : t = dy <;> simp_all
   | drop a j v' de => exact absurd rfl (bo a j v' de)
  | new v os =>
   cases ey with
   | put v' => simp only [Eff.ap, UX, ql]; by_cases h1 : t = dx <;> by_cases h2 : t = dy <;> simp_all
   | new v' de => simp only [Eff.ap, ql]; by_cases h1 : t = dx <;> by_cases h2 : t = dy <;> simp_all
   | drop a j v' de => exact absurd rfl (bo a j v' de)
  | drop a j v os =>
   obtain ⟨z, hz, ty, hr⟩ := (cX a j v os rfl).2
   cases ey with
   | put v' =>
    simp only [Eff.ap, UX, ql, qJ]
    by_cases h1 : t = dx <;> by_cases h2 : t = dy <;> by_cases h3 : t = a <;> simp_all
    all_goals (first | (cases σ[dy]? <;> rfl) | (cases σ[t]? <;> rfl) | (cases σ[a]? <;> rfl))
   | new v' de =>
    have hay : a ≠ dy := by
     intro h; subst h
     rw [W6 (TM dv (by intro v h; cases h)) (aC z hz)] at hr; cases hr
    simp only [Eff.ap, ql, qJ]
    by_cases h1 : t = dx <;> by_cases h2 : t = dy <;> by_cases h3 : t = a <;> simp_all
   | drop a' j' v' de => exact absurd rfl (bo a' j' v' de)
 rw [<- heq]
 exact this
end
end Go.Vm
namespace Go.Vm
open Go.RowKit
def Bs (ops : Array Oper) (bar : Oper -> Bool) (x y : Oper) : Bool := !bar x && !bar y &&
 (match x.dst, y.dst with
 | some dx, some dy => dx != dy && !(Sg ops y).any (xA dx) && !(Sg ops x).any (xA dy) && !P5 y && (y.guard.isNone || zO x || x.guard.isSome)
 | _, _ => false)
def AR (bar : Oper -> Bool) (x y : Oper) : Bool := !bar x && !bar y && x.guard.isNone && y.guard.isNone &&
 (match x.dst, y.dst, y.op with
 | some dx, none, .store _ p q => (match x.op with | .move _ => true | .assign _ => true | .extract _ _ => true | _ => false) && !xA dx p && !xA dx q
 | _, _, _ => false)
def Az (bar : Oper -> Bool) (x y : Oper) : Bool := !bar x && bar y && x.guard.isNone && OO y && y.guard.isNone && y.dst.isNone &&
 (match x.dst with
 | some dx => (match x.op with | .move _ => true | .assign _ => true | .extract _ _ => true | _ => false) && Wh y dx
 | none => false)
def Hc (PT : List (Nat × Nat)) (σ : St) : Prop := ∀ p ∈ PT, σ.get p.1 = .any \/ ∃ c, σ.get p.1 = .one (.bptr p.2 c)
def ptB (PT : List (Nat × Nat)) (σ : St) : Bool := PT.all fun p => match σ.get p.1 with | .any => true | .one (.bptr b _) => b == p.2 | _ => false
def NI (ops : Array Oper) (PT : List (Nat × Nat)) : Bool := ops.toList.all fun o => match o.dst with
 | none => true
 | some d => PT.all fun p => p.1 != d || (o.guard.isNone && (match o.op with | .fieldAddr _ (.tmp r) _ => PT.contains (r, p.2) | _ => false))
def Gg (PT : List (Nat × Nat)) (b : Nat) : Op -> Bool
 | .load _ (.tmp t) => PT.any fun r => r.1 == t && r.2 != b
 | .fieldAddr _ _ _ => true
 | .move _ => true
 | .assign _ => true
 | .extract _ _ => true
 | .binOp _ _ _ _ _ => true
 | .call ⟨.builtin .len, ⟨[_]⟩, ⟨[_]⟩⟩ => true
 | _ => false
def swapT (PT : List (Nat × Nat)) (bar : Oper -> Bool) (x y : Oper) : Bool := !bar x && !bar y && x.guard.isNone && y.guard.isNone &&
 (match x.dst, y.dst, y.op with
 | some dx, none, .store _ (.tmp tp) q => tp != dx && !xA dx q && PT.any fun p => p.1 == tp && Gg PT p.2 x.op
 | _, _, _ => false)
def Hf (NB : List Nat) (σ : St) : Prop := ∀ t ∈ NB, ∀ b c, unc (σ.get t) ≠ .one (.bptr b c)
def nbB (NB : List Nat) (σ : St) : Bool := NB.all fun t => match unc (σ.get t) with | .one (.bptr _ _) => false | _ => true
def Hz (P : Program) (ops : Array Oper) (NB : List Nat) : Bool := ops.toList.all fun o => match o.dst with
 | none => true
 | some d => NB.all fun t => t != d || (o.guard.isNone && (match o.op with | .indexAddr T _ _ => XK P T | _ => false))
def Fp (PT : List (Nat × Nat)) (NB : List Nat) (σ : St) : Prop := Hc PT σ /\ Hf NB σ
def AA (PT : List (Nat × Nat)) (NB : List Nat) (bar : Oper -> Bool) (x y : Oper) : Bool := !bar x && bar y && x.guard.isNone && OO y && y.guard.isNone && y.dst.isNone &&
 (match x.dst, y.op with
 | some dx, .store _ (.tmp tp) q => NB.contains tp && tp != dx && !xA dx q && (match x.op with | .load _ (.tmp t) => PT.any fun r => r.1 == t | .fieldAddr _ (.tmp t) _ => PT.any fun r => r.1 == t | _ => false)
 | _, _ => false)
def wZ (PT : List (Nat × Nat)) : Op -> Bool
 | .move _ => true
 | .load _ (.tmp t) => PT.any fun r => r.1 == t
 | .fieldAddr _ (.tmp _) _ => true
 | .slice _ (.tmp _) _ _ none => true
 | _ => false
def Ad (PT : List (Nat × Nat)) (ops : Array Oper) (bar : Oper -> Bool) (x y : Oper) : Bool := bar x && !bar y && Sj x && x.guard.isNone && y.guard.isNone && wZ PT y.op &&
 (match x.dst, y.dst with
 | some dx, some dy => dx != dy && !(Sg ops y).any (xA dx) && !(Sg ops x).any (xA dy)
 | _, _ => false)
def NV (o : Oper) (j : Nat) : Bool := o.after.any fun e => e.on == j && Region.binds .any e
def Pr : List Oper -> List Nat -> List Nat
 | [], acc => acc
 | o :: rest, acc => Pr rest (acc ++ [o.after.toList.foldl (fun m e => if Region.binds .any e then m ||| (1 <<< e.on) ||| acc.getD e.on 0 else m) 0])
def vM (ms : List Nat) (i j : Nat) : Bool := (ms.getD i 0).testBit j
inductive Pre (ops : Array Oper) : Nat -> Nat -> Prop
 | one {i j : Nat} {o : Oper} (ho : ops[i]? = some o) (hp : NV o j = true) : Pre ops i j
 | more {i m j : Nat} {o : Oper} (ho : ops[i]? = some o) (hp : NV o m = true) (h : Pre ops m j) : Pre ops i j
theorem DJ {ops : Array Oper} : ∀ {l : List Oper} {acc : List Nat}, (∀ k o, l[k]? = some o -> ops[acc.length + k]? = some o) -> (∀ i j, (acc.getD i 0).testBit j = true -> Pre ops i j) -> ∀ i j, vM (Pr l acc) i j = true -> Pre ops i j
 | [], acc, _, ha, i, j, h => ha i j h
 | o :: rest, acc, hl, ha, i, j, h => by
  refine DJ (l := rest) (fun k o' hk => ?_) (fun i j ea => ?_) i j h
  ·have := hl (k + 1) o' (by simpa using hk)
   rw [List.length_append, List.length_singleton, Nat.add_assoc, Nat.add_comm 1 k]; exact this
  ·rw [List.getD_eq_getElem?_getD] at ea
   rcases Nat.lt_trichotomy i acc.length with lN | heq | dq
   ·rw [List.getElem?_append_left lN, <- List.getD_eq_getElem?_getD] at ea
    exact ha i j ea
   ·subst heq
    rw [List.getElem?_append_right (Nat.le_refl _)] at ea
    simp only [Nat.sub_self, List.getElem?_cons_zero, Option.getD_some] at ea
    have ho := hl 0 o (by simp)
    rw [Nat.add_zero] at ho
    have key : ∀ (es : List Edge) (m : Nat), (∀ e ∈ es, e ∈ o.after) -> (∀ j, m.testBit j = true -> Pre ops acc.length j) -> ∀ j, (es.foldl (fun m e => if Region.binds .any e then m ||| (1 <<< e.on) ||| acc.getD e.on 0 else m) m).testBit j = true -> Pre ops acc.length j := by
     intro es
     induction es with
     | nil => intro m _ hm j hj; exact hm j hj
     | cons e es ih =>
      intro m hes hm j hj
      refine ih _ (fun e' b4 => hes e' (by simp [b4])) (fun j hj => ?_) j hj
      by_cases hb : Region.binds .any e = true
      ·simp only [hb, if_true] at hj
       have hp : NV o e.on = true := by
        unfold NV
        rw [<- Array.any_toList]
        exact List.any_eq_true.2 ⟨e, by simpa using hes e (by simp), by simp [hb]⟩
       rw [Nat.testBit_or, Nat.testBit_or, Bool.or_eq_true, Bool.or_eq_true] at hj
       rcases hj with (hj | hj) | hj
       ·exact hm j hj
       ·rw [Nat.testBit_shiftLeft] at hj
        simp only [Bool.and_eq_true, decide_eq_true_eq] at hj
        have h1 : j - e.on = 0 := by
         have := hj.2
         rw [show (1 : Nat) = 2 ^ 0 from rfl, Nat.testBit_two_pow] at this
         have h3 : 0 = j - e.on := by simpa using this
         omega
        have : j = e.on := by omega
        subst this
        exact .one ho hp
       ·exact .more ho hp (ha e.on j hj)
      ·simp only [hb, Bool.false_eq_true, if_false] at hj; exact hm j hj
    exact key o.after.toList 0 (fun e he => by simpa using he) (fun j hj => by simp at hj) j ea
   ·rw [List.getElem?_eq_none (by simp; omega)] at ea
    simp at ea
def Ae (ops : Array Oper) (i j : Nat) : Bool := vM (Pr ops.toList []) i j
theorem uH {ops : Array Oper} {i j : Nat} (h : Ae ops i j = true) : Pre ops i j :=
 DJ (l := ops.toList) (acc := []) (fun k o hk => by simpa using hk) (fun i j h => by simp at h) i j h
def r8 (ops : Array Oper) (bar : Oper -> Bool) (PT : List (Nat × Nat)) (NB : List Nat) (ms : List Nat) (i j : Nat) : Bool := match ops[i]?, ops[j]? with | some oi, some oj => vM ms i j || Bs ops bar oj oi || AR bar oj oi || swapT PT bar oj oi || Az bar oj oi || Ad PT ops bar oj oi || AA PT NB bar oj oi | _, _ => false
def pJ (ops : Array Oper) (pos : Nat -> Nat) (i : Nat) : Bool := match ops[i]? with | some o => o.after.all fun e => !Region.binds .any e || (decide (pos e.on < pos i) && decide (e.on < ops.size)) | none => false
def vV (ops : Array Oper) (j : Nat) : Bool := match ops[j]? with
 | some o => (match o.dst with | some d => (List.range ops.size).all fun k => k == j || (match ops[k]? with | some q => q.dst != some d | none => true) | none => false)
 | none => false
def BC (ops : Array Oper) (pos : Nat -> Nat) (ms : List Nat) (j : Nat) : Bool := (List.range ops.size).any fun i => decide (pos j < pos i) && !vM ms i j
def Rw (ops : Array Oper) (pos : Nat -> Nat) (j : Nat) : Bool := BC ops pos (Pr ops.toList []) j
def AL (ops : Array Oper) (pos : Nat -> Nat) (bar : Oper -> Bool) (PT : List (Nat × Nat)) (NB : List Nat) (ms : List Nat) : Bool :=
 (List.range ops.size).all fun i => pJ ops pos i && ((List.range ops.size).all fun j => !decide (pos j < pos i) || r8 ops bar PT NB ms i j) && (!BC ops pos ms i || vV ops i)
def NR (ops : Array Oper) (pos : Nat -> Nat) (bar : Oper -> Bool) : Bool := AL ops pos bar [] [] (Pr ops.toList [])
def yZ (ops : Array Oper) (pos : Nat -> Nat) (σ : St) : Bool :=
 let ms := Pr ops.toList []
 (List.range ops.size).all fun j => !BC ops pos ms j || (match (ops[j]?).bind (·.dst) with | some d => JB σ d | none => false)
theorem PD {xs : List Operand} {d : Nat} (h : xs.any (xA d) = false) : ∀ z ∈ xs, z ≠ .tmp d := by
 intro z hz he
 subst he
 have := List.any_eq_false.1 h _ hz
 simp [xA] at this
theorem vH {ops : Array Oper} {bar : Oper -> Bool} {x y : Oper} (h : Bs ops bar x y = true) : bar x = false /\ bar y = false /\ ∃ dx dy, x.dst = some dx /\ y.dst = some dy /\ dx ≠ dy /\ (∀ z ∈ Sg ops y, z ≠ .tmp dx) /\ (∀ z ∈ Sg ops x, z ≠ .tmp dy) /\ P5 y = false /\ (y.guard = none \/ zO x = true \/ x.guard.isSome = true) := by
 unfold Bs at h
 rw [Bool.and_eq_true, Bool.and_eq_true] at h
 obtain ⟨⟨iz, iJ⟩, h⟩ := h
 refine ⟨by simpa using iz, by simpa using iJ, ?_⟩
 split at h
 ·rename_i dx dy h1 h2
  simp only [Bool.and_eq_true, bne_iff_ne, ne_eq, Bool.not_eq_true', Bool.or_eq_true, Option.isNone_iff_eq_none] at h
  exact ⟨dx, dy, h1, h2, h.1.1.1.1, PD h.1.1.1.2, PD h.1.1.2, h.1.2, or_assoc.1 h.2⟩
 ·cases h
theorem y2 {P : Program} {σ : St} {t j : Nat} {o : Ob} {T : TypeId} {x : Operand} : look P (σ.Z7 t j o) T x = look P σ T x := by
 cases x with
 | tmp u => simp [look, St.QK]
 | const c => rfl
 | global g => rfl
 | func f => rfl
theorem R4 {σ : St} {d : Nat} {v : V} : ∀ (xs : List At), rowOf (σ.put d v) xs = rowOf σ xs
 | [] => rfl
 | x :: xs => by
  have : z4 (σ.put d v) x = z4 σ x := by cases x <;> simp [z4, St.JP]
  simp only [rowOf, this, R4 xs]
theorem rV {P : Program} {ops : Array Oper} {bar : Oper -> Bool} {x y : Oper} {σ σ1 σ2 : St} (h : AR bar x y = true) (iD : yB P ops bar x σ σ1) (lL : yB P ops bar y σ1 σ2) : ∃ σ1', XS P ops y σ σ1' /\ XS P ops x σ1' σ2 := by
 unfold AR at h
 simp only [Bool.and_eq_true, Bool.not_eq_true', Option.isNone_iff_eq_none] at h
 obtain ⟨⟨⟨⟨iz, iJ⟩, ec⟩, g9⟩, h⟩ := h
 have iD := iD.resolve_right (fun hh => by rw [iz] at hh; cases hh.1)
 have lL := lL.resolve_right (fun hh => by rw [iJ] at hh; cases hh.1)
 split at h
 ·rename_i dx T p q gL gl lB
  simp only [Bool.and_eq_true, Bool.not_eq_true'] at h
  obtain ⟨⟨hv, hp⟩, hq⟩ := h
  unfold XS at iD lL
  simp only [ec, gL] at iD
  simp only [g9, gl, lB] at lL
  have e1 : ∃ v, Yh P σ x.op x.type v /\ σ1 = σ.put dx v := by
   unfold Step at iD
   cases hx : x.op <;> rw [hx] at iD hv <;> first | exact iD | (exact Bool.noConfusion hv)
  obtain ⟨v, hR, rfl⟩ := e1
  have ia : ∀ (t j : Nat) (o : Ob), Yh P (σ.Z7 t j o) x.op x.type v := by
   intro t j o
   cases hx : x.op <;> rw [hx] at hv hR <;> first | (exact Bool.noConfusion hv) | (simp only [Yh, y2] at hR ⊢; exact hR)
  have aK : ∀ (t j : Nat) (o : Ob), XS P ops x (σ.Z7 t j o) ((σ.put dx v).Z7 t j o) := by
   intro t j o
   unfold XS
   simp only [ec, gL]
   have := ia t j o
   rw [xu]
   unfold Step
   cases hx : x.op <;> rw [hx] at hv this <;> first | exact ⟨v, this, rfl⟩ | (exact Bool.noConfusion hv)
  unfold y6 at lL
  rw [XQ hp, XQ hq] at lL
  obtain ⟨k1, k2, k3, k4, lL⟩ := lL
  split at lL
  ·rename_i t c hl
   obtain ⟨cells, c1, c2, c3, rfl⟩ := lL
   rw [St.JP] at c1
   refine ⟨_, ?_, aK _ _ _⟩
   unfold XS y6
   simp only [g9, gl, lB]
   refine ⟨k1, k2, k3, k4, ?_⟩
   rw [hl]
   exact ⟨cells, c1, c2, c3, rfl⟩
  ·rename_i t j i c hl
   obtain ⟨q', size, rows, ds, c1, c2, c3, c4, c5, c6, c7, rfl⟩ := lL
   rw [St.JP] at c1
   rw [R4] at c3
   refine ⟨_, ?_, aK _ _ _⟩
   unfold XS y6
   simp only [g9, gl, lB]
   refine ⟨k1, k2, k3, k4, ?_⟩
   rw [hl]
   exact ⟨q', size, rows, ds, c1, c2, c3, c4, c5, c6, c7, rfl⟩
  ·exact lL.elim
 ·cases h
theorem jN {P : Program} {σ : St} {T : TypeId} {t : Nat} : look P σ T (.tmp t) = σ.get t := rfl
theorem DT {P : Program} {PT : List (Nat × Nat)} {b : Nat} {o : Oper} {op : Op} {d : Nat} {σ σ' : St} (ho : o.op = op) (h : Gg PT b op = true) : Step P o d σ σ' ↔ ∃ v, Yh P σ op o.type v /\ σ' = σ.put d v := by
 unfold Step
 rw [ho]
 unfold Gg at h
 split at h <;> first | exact Iff.rfl | (exact Bool.noConfusion h)
theorem pf {P : Program} {PT : List (Nat × Nat)} {b : Nat} {op : Op} {ty : TypeId} {v : V} {σ : St} {cells cs : List At} (h : Gg PT b op = true) (hp : Hc PT σ) (c1 : σ.ob b 0 = .box cells) (hv : Yh P σ op ty v) : Yh P (σ.Z7 b 0 (.box cs)) op ty v := by
 have lD : σ.ob b 0 ≠ .none := by rw [c1]; intro e; cases e
 have ho := fun u i => St.JH σ b 0 (.box cs) u i lD
 have iQ : ∀ t j, (∃ q size rows, σ.ob t j = .arr q size rows) -> ∃ q size rows, (σ.Z7 b 0 (.box cs)).ob t j = .arr q size rows := by
  rintro t j ⟨q, size, rows, e⟩
  by_cases hh : t = b /\ j = 0
  ·obtain ⟨rfl, rfl⟩ := hh; rw [c1] at e; cases e
  ·exact ⟨q, size, rows, by rw [ho, if_neg hh]; exact e⟩
 have eu : ∀ t j, (∃ size rows, σ.ob t j = .lit size rows) -> ∃ size rows, (σ.Z7 b 0 (.box cs)).ob t j = .lit size rows := by
  rintro t j ⟨size, rows, e⟩
  by_cases hh : t = b /\ j = 0
  ·obtain ⟨rfl, rfl⟩ := hh; rw [c1] at e; cases e
  ·exact ⟨size, rows, by rw [ho, if_neg hh]; exact e⟩
 have du : ∀ t, (∃ cells, σ.ob t 0 = .box cells) -> ∃ cells, (σ.Z7 b 0 (.box cs)).ob t 0 = .box cells := by
  rintro t ⟨ce, e⟩
  by_cases hh : t = b
  ·subst hh; exact ⟨cs, by rw [ho, if_pos ⟨rfl, rfl⟩]⟩
  ·exact ⟨ce, by rw [ho, if_neg (fun hh2 => hh hh2.1)]; exact e⟩
 unfold Gg at h
 split at h
 ·rename_i T t
  simp only [List.any_eq_true, Bool.and_eq_true, beq_iff_eq, bne_iff_ne, ne_eq] at h
  obtain ⟨r, hrm, rfl, hrb⟩ := h
  simp only [Yh, y2] at hv ⊢
  refine ⟨hv.1, hv.2.1, ?_⟩
  have hv := hv.2.2
  rw [jN] at hv ⊢
  rcases hp r hrm with e | ⟨c, e⟩
  ·rw [e] at hv; exact hv.elim
  ·rw [e] at hv ⊢
   obtain ⟨ce, e1, e2, e3⟩ := hv
   exact ⟨ce, by rw [ho, if_neg (fun hh => hrb hh.1)]; exact e1, e2, e3⟩
 ·simp only [Yh, y2] at hv ⊢
  refine ⟨hv.1, hv.2.1, ?_⟩
  have hv := hv.2.2
  split at hv
  ·rename_i e; first | exact ⟨du _ hv.1, hv.2⟩ | (simp only [e]; exact ⟨du _ hv.1, hv.2⟩)
  ·rename_i e; first | exact ⟨iQ _ _ hv.1, hv.2⟩ | (simp only [e]; exact ⟨iQ _ _ hv.1, hv.2⟩)
  ·rename_i e; first | exact hv | (simp only [e]; exact hv)
  ·rename_i e
   have hq : ∀ t j, (∃ size rows, σ.ob t j = .arr true size rows) -> ∃ size rows, (σ.Z7 b 0 (.box cs)).ob t j = .arr true size rows := by
    rintro t j ⟨size, rows, e⟩
    by_cases hh : t = b /\ j = 0
    ·obtain ⟨rfl, rfl⟩ := hh; rw [c1] at e; cases e
    ·exact ⟨size, rows, by rw [ho, if_neg hh]; exact e⟩
   first | exact ⟨hq _ _ hv.1, hv.2⟩ | (simp only [e]; exact ⟨hq _ _ hv.1, hv.2⟩)
  ·exact hv.elim
 ·simp only [Yh, y2] at hv ⊢; exact hv
 ·simp only [Yh, y2] at hv ⊢; exact hv
 ·simp only [Yh, y2] at hv ⊢; exact hv
 ·simp only [Yh, y2] at hv ⊢; exact hv
 ·simp only [Yh, y2] at hv ⊢
  refine ⟨hv.1, ?_⟩
  have hv := hv.2
  split at hv
  ·rename_i e; first | exact hv | (simp only [e]; exact hv)
  ·rename_i e; first | exact hv | (simp only [e]; exact hv)
  ·rename_i e; first | exact hv | (simp only [e]; exact hv)
  ·rename_i e; first | exact ⟨hv.1, hv.2.1.imp (iQ _ _) (eu _ _), hv.2.2⟩ | (simp only [e]; exact ⟨hv.1, hv.2.1.imp (iQ _ _) (eu _ _), hv.2.2⟩)
  ·exact hv.elim
 ·exact Bool.noConfusion h
theorem oP {P : Program} {ops : Array Oper} {bar : Oper -> Bool} {PT : List (Nat × Nat)} {x y : Oper} {σ σ1 σ2 : St} (h : swapT PT bar x y = true) (hp : Hc PT σ) (iD : yB P ops bar x σ σ1) (lL : yB P ops bar y σ1 σ2) : ∃ σ1', XS P ops y σ σ1' /\ XS P ops x σ1' σ2 := by
 unfold swapT at h
 simp only [Bool.and_eq_true, Bool.not_eq_true', Option.isNone_iff_eq_none] at h
 obtain ⟨⟨⟨⟨iz, iJ⟩, ec⟩, g9⟩, h⟩ := h
 have iD := iD.resolve_right (fun hh => by rw [iz] at hh; cases hh.1)
 have lL := lL.resolve_right (fun hh => by rw [iJ] at hh; cases hh.1)
 split at h
 ·rename_i dx T tp q gL gl lB
  simp only [Bool.and_eq_true, Bool.not_eq_true', List.any_eq_true, beq_iff_eq, bne_iff_ne, ne_eq] at h
  obtain ⟨⟨lD, hq⟩, p, bI, g8, hv⟩ := h
  have ld : xA dx (.tmp tp) = false := by simp [xA, lD]
  unfold XS at iD lL
  simp only [ec, gL] at iD
  simp only [g9, gl, lB] at lL
  obtain ⟨v, hR, rfl⟩ := (DT rfl hv).1 iD
  unfold y6 at lL
  rw [XQ ld, XQ hq, jN] at lL
  obtain ⟨k1, k2, k3, k4, lL⟩ := lL
  have gB := hp p bI
  rw [g8] at gB
  rcases gB with gB | ⟨c, gB⟩
  ·rw [gB] at lL; exact lL.elim
  ·rw [gB] at lL
   obtain ⟨cells, c1, c2, c3, rfl⟩ := lL
   rw [St.JP] at c1
   refine ⟨σ.Z7 p.2 0 (.box (place cells c (unc (look P σ T q)).cells)), ?_, ?_⟩
   ·unfold XS y6
    simp only [g9, gl, lB]
    rw [gB] at k2
    refine ⟨k1, by rw [jN, gB]; exact k2, k3, k4, ?_⟩
    rw [jN, gB]
    exact ⟨cells, c1, c2, c3, rfl⟩
   ·unfold XS
    simp only [ec, gL]
    rw [xu]
    exact (DT rfl hv).2 ⟨v, pf hv hp c1 hR, rfl⟩
 ·cases h
theorem jg : ∀ (σ : St) (d : Nat), σ.put d (σ.get d) = σ
 | [], _ => rfl
 | e :: σ, 0 => by simp [St.put, St.get]
 | e :: σ, d + 1 => by have := jg σ d; simp only [St.put, St.get, List.getElem?_cons_succ] at this ⊢; rw [this]
theorem NK : ∀ (σ : St) (d : Nat) (v v' : V), (σ.put d v).put d v' = σ.put d v'
 | [], _, _, _ => rfl
 | e :: σ, 0, _, _ => rfl
 | e :: σ, d + 1, v, v' => by simp [St.put, NK σ d v v']
theorem Gy {P : Program} {σ σ' : St} (h : ∀ u, σ'.get u = σ.get u) {T : TypeId} {x : Operand} : look P σ' T x = look P σ T x := by
 cases x with
 | tmp u => exact h u
 | const c => rfl
 | global g => rfl
 | func f => rfl
theorem pw {P : Program} {ops : Array Oper} {bar : Oper -> Bool} {x y : Oper} {σ σ1 σ2 : St} {d : Nat} (h : Az bar x y = true) (gL : x.dst = some d) (lr : JB σ d = true) (iD : yB P ops bar x σ σ1) (lL : yB P ops bar y σ1 σ2) : ∃ σ1', yB P ops bar y σ σ1' /\ XS P ops x σ1' σ2 := by
 unfold Az at h
 simp only [gL, Bool.and_eq_true, Bool.not_eq_true', Option.isNone_iff_eq_none] at h
 obtain ⟨⟨⟨⟨⟨⟨iz, iJ⟩, ec⟩, lZ⟩, g9⟩, gl⟩, hv, hu⟩ := h
 have iD := iD.resolve_right (fun hh => by rw [iz] at hh; cases hh.1)
 unfold XS at iD
 simp only [ec, gL] at iD
 have e1 : ∃ v, Yh P σ x.op x.type v /\ σ1 = σ.put d v := by
  unfold Step at iD
  cases hx : x.op <;> rw [hx] at iD hv <;> first | exact iD | (exact Bool.noConfusion hv)
 obtain ⟨v, hR, rfl⟩ := e1
 have back : ∀ σ', (∀ u, σ'.get u = σ.get u) -> XS P ops x σ' (σ'.put d v) := by
  intro σ' hg
  unfold XS
  simp only [ec, gL]
  have : Yh P σ' x.op x.type v := by
   cases hx : x.op <;> rw [hx] at hv hR <;> first | (exact Bool.noConfusion hv) | (simp only [Yh, Gy hg] at hR ⊢; exact hR)
  unfold Step
  cases hx : x.op <;> rw [hx] at hv this <;> first | exact ⟨v, this, rfl⟩ | (exact Bool.noConfusion hv)
 rcases lL with lL | ⟨_, _, _, hk, _⟩
 · -- a plain store
  unfold OO at lZ
  split at lZ
  ·rename_i T p q lB
   simp only [Wh, lB, Bool.and_eq_true, Bool.not_eq_true'] at hu
   unfold XS at lL
   simp only [g9, gl, lB] at lL
   unfold y6 at lL
   rw [XQ hu.1, XQ hu.2] at lL
   obtain ⟨k1, k2, k3, k4, lL⟩ := lL
   split at lL
   ·rename_i t c hl
    obtain ⟨cells, c1, c2, c3, rfl⟩ := lL
    rw [St.JP] at c1
    refine ⟨σ.Z7 t 0 (.box (place cells c (unc (look P σ T q)).cells)), .inl ?_, ?_⟩
    ·unfold XS y6
     simp only [g9, gl, lB]
     refine ⟨k1, k2, k3, k4, ?_⟩
     rw [hl]
     exact ⟨cells, c1, c2, c3, rfl⟩
    ·rw [xu]; exact back _ (fun u => St.QK _ _ _ _ _)
   ·rename_i t j i c hl
    obtain ⟨q', size, rows, ds, c1, c2, c3, c4, c5, c6, c7, rfl⟩ := lL
    rw [St.JP] at c1
    rw [R4] at c3
    refine ⟨σ.Z7 t j (.arr q' size (rows.set i (place (rows.getD i []) c ds))), .inl ?_, ?_⟩
    ·unfold XS y6
     simp only [g9, gl, lB]
     refine ⟨k1, k2, k3, k4, ?_⟩
     rw [hl]
     exact ⟨q', size, rows, ds, c1, c2, c3, c4, c5, c6, c7, rfl⟩
    ·rw [xu]; exact back _ (fun u => St.QK _ _ _ _ _)
   ·exact lL.elim
  ·cases lZ
 ·obtain ⟨⟨hC, l8⟩, iS, du⟩ := hk lZ
  rw [St.JU] at hC
  have fI : Mg (σ.get d) = true := by
   rw [Ux] at lr
   unfold St.get
   rcases lr with e | ⟨x', e⟩ <;> rw [e] <;> rfl
  have hq : ∀ l : List (Nat × V), (σ.put d v).JN ((d, σ.get d) :: l) = σ.JN l := fun l => by rw [St.JN, NK, jg]
  have h0 := iS [(d, σ.get d)] (fun p hp => by cases List.mem_singleton.1 hp; exact ⟨hu, fI⟩)
  rw [hq []] at h0
  have hlen : d < σ.length := by
   rw [Ux] at lr
   rcases lr with e | ⟨x', e⟩ <;> exact (List.getElem?_eq_some_iff.1 e).1
  have cb : ∀ u, (σ2.put d (σ.get d)).get u = σ.get u := fun u => by
   rw [St.yS]
   by_cases et : u = d /\ d < σ2.length
   ·rw [if_pos et, et.1]
   ·rw [if_neg et, l8, St.yS]
    have bK : ¬ u = d := fun e => et ⟨e, by rw [hC]; exact hlen⟩
    rw [if_neg (fun hh => bK hh.1)]
  refine ⟨σ2.put d (σ.get d), .inr ⟨iJ, h0.1, h0.2, fun _ => ⟨⟨by rw [St.JU]; exact hC, cb⟩, fun l hl => ?_, fun t cells hb => by rw [St.JP]; exact du t cells (by rw [St.JP]; exact hb)⟩, fun hh => (by rw [CE lZ] at hh; cases hh)⟩, ?_⟩
  ·have := iS ((d, σ.get d) :: l) (fun p hp => by
    rcases List.mem_cons.1 hp with rfl | hp
    ·exact ⟨hu, fI⟩
    ·exact hl p hp)
   rw [hq l] at this
   exact this
  ·have := back _ cb
   rw [NK] at this
   have e : σ2.put d v = σ2 := by
    have g1 := l8 d
    rw [St.yS, if_pos ⟨rfl, hlen⟩] at g1
    rw [<- g1]; exact jg σ2 d
   rw [e] at this
   exact this
theorem p9 {P : Program} {ops : Array Oper} {bar : Oper -> Bool} {PT : List (Nat × Nat)} {NB : List Nat} {x y : Oper} {σ σ1 σ2 : St} {d : Nat} (h : AA PT NB bar x y = true) (hp : Hc PT σ) (hnb : Hf NB σ) (gL : x.dst = some d) (lr : JB σ d = true) (iD : yB P ops bar x σ σ1) (lL : yB P ops bar y σ1 σ2) : ∃ σ1', yB P ops bar y σ σ1' /\ XS P ops x σ1' σ2 := by
 unfold AA at h
 simp only [gL, Bool.and_eq_true, Bool.not_eq_true', Option.isNone_iff_eq_none] at h
 obtain ⟨⟨⟨⟨⟨⟨iz, iJ⟩, ec⟩, lZ⟩, g9⟩, gl⟩, h⟩ := h
 have iD := iD.resolve_right (fun hh => by rw [iz] at hh; cases hh.1)
 split at h
 ·rename_i dx T tp q hdx' lB
  cases hdx'
  simp only [Bool.and_eq_true, Bool.not_eq_true', bne_iff_ne, ne_eq, List.contains_iff_mem] at h
  obtain ⟨⟨⟨htp, lD⟩, hq⟩, hv⟩ := h
  have ld : xA d (.tmp tp) = false := by simp [xA, lD]
  have hu : Wh y d = true := by simp only [Wh, lB, ld, hq]; rfl
  unfold XS at iD
  simp only [ec, gL] at iD
  have e1 : ∃ v, Yh P σ x.op x.type v /\ σ1 = σ.put d v := by
   unfold Step at iD
   cases hx : x.op <;> rw [hx] at iD hv <;> first | exact iD | (exact Bool.noConfusion hv)
  obtain ⟨v, hR, rfl⟩ := e1
  have back : ∀ σ', (∀ u, σ'.get u = σ.get u) -> (∀ t cells, σ.ob t 0 = .box cells -> σ'.ob t 0 = .box cells) -> XS P ops x σ' (σ'.put d v) := by
   intro σ' hg du
   unfold XS
   simp only [ec, gL]
   have : Yh P σ' x.op x.type v := by
    cases hx : x.op <;> rw [hx] at hv hR <;> try exact Bool.noConfusion hv
    case load T' z =>
     cases z with
     | tmp t =>
      simp only [List.any_eq_true, beq_iff_eq] at hv
      obtain ⟨p, bI, g8⟩ := hv
      simp only [Yh, Gy hg] at hR ⊢
      refine ⟨hR.1, hR.2.1, ?_⟩
      have ia := hR.2.2
      have gB := hp p bI
      rw [g8] at gB
      rw [jN] at ia ⊢
      rcases gB with e | ⟨c, e⟩
      ·rw [e] at ia; exact ia.elim
      ·rw [e] at ia ⊢
       obtain ⟨ce, k1, k2⟩ := ia
       exact ⟨ce, du _ _ k1, k2⟩
     | _ => exact Bool.noConfusion hv
    case fieldAddr T' z f =>
     cases z with
     | tmp t =>
      simp only [List.any_eq_true, beq_iff_eq] at hv
      obtain ⟨p, bI, g8⟩ := hv
      simp only [Yh, Gy hg] at hR ⊢
      refine ⟨hR.1, hR.2.1, ?_⟩
      have ia := hR.2.2
      have gB := hp p bI
      rw [g8] at gB
      rw [jN] at ia ⊢
      rcases gB with e | ⟨c, e⟩
      ·rw [e] at ia; exact ia.elim
      ·rw [e] at ia ⊢
       obtain ⟨⟨ce, k1⟩, k2⟩ := ia
       exact ⟨⟨ce, du _ _ k1⟩, k2⟩
     | _ => exact Bool.noConfusion hv
   unfold Step
   cases hx : x.op <;> rw [hx] at hv this <;> first | exact ⟨v, this, rfl⟩ | (exact Bool.noConfusion hv)
  rcases lL with lL | ⟨_, _, _, hk, _⟩
  ·unfold XS at lL
   simp only [g9, gl, lB] at lL
   unfold y6 at lL
   rw [XQ ld, XQ hq] at lL
   obtain ⟨k1, k2, k3, k4, lL⟩ := lL
   split at lL
   ·rename_i t c hl
    exact absurd hl (hnb tp htp t c)
   ·rename_i t j i c hl
    obtain ⟨q', size, rows, ds, c1, c2, c3, c4, c5, c6, c7, rfl⟩ := lL
    rw [St.JP] at c1
    rw [R4] at c3
    refine ⟨σ.Z7 t j (.arr q' size (rows.set i (place (rows.getD i []) c ds))), .inl ?_, ?_⟩
    ·unfold XS y6
     simp only [g9, gl, lB]
     refine ⟨k1, k2, k3, k4, ?_⟩
     rw [hl]
     exact ⟨q', size, rows, ds, c1, c2, c3, c4, c5, c6, c7, rfl⟩
    ·rw [xu]
     refine back _ (fun u => St.QK _ _ _ _ _) (fun b cells hb => ?_)
     have ev : σ.ob t j ≠ .none := by rw [c1]; simp
     rw [St.JH σ t j _ b 0 ev]
     split
     ·rename_i hc; rw [hc.1, hc.2] at hb; rw [c1] at hb; cases hb
     ·exact hb
   ·exact lL.elim
  ·obtain ⟨⟨hC, l8⟩, iS, du⟩ := hk lZ
   rw [St.JU] at hC
   have fI : Mg (σ.get d) = true := by
    rw [Ux] at lr
    unfold St.get
    rcases lr with e | ⟨x', e⟩ <;> rw [e] <;> rfl
   have hqq : ∀ l : List (Nat × V), (σ.put d v).JN ((d, σ.get d) :: l) = σ.JN l := fun l => by rw [St.JN, NK, jg]
   have h0 := iS [(d, σ.get d)] (fun p hp => by cases List.mem_singleton.1 hp; exact ⟨hu, fI⟩)
   rw [hqq []] at h0
   have hlen : d < σ.length := by
    rw [Ux] at lr
    rcases lr with e | ⟨x', e⟩ <;> exact (List.getElem?_eq_some_iff.1 e).1
   have cb : ∀ u, (σ2.put d (σ.get d)).get u = σ.get u := fun u => by
    rw [St.yS]
    by_cases et : u = d /\ d < σ2.length
    ·rw [if_pos et, et.1]
    ·rw [if_neg et, l8, St.yS]
     have bK : ¬ u = d := fun e => et ⟨e, by rw [hC]; exact hlen⟩
     rw [if_neg (fun hh => bK hh.1)]
   have aL : ∀ t cells, σ.ob t 0 = .box cells -> (σ2.put d (σ.get d)).ob t 0 = .box cells := fun t cells hb => by rw [St.JP]; exact du t cells (by rw [St.JP]; exact hb)
   refine ⟨σ2.put d (σ.get d), .inr ⟨iJ, h0.1, h0.2, fun _ => ⟨⟨by rw [St.JU]; exact hC, cb⟩, fun l hl => ?_, aL⟩, fun hh => (by rw [CE lZ] at hh; cases hh)⟩, ?_⟩
   ·have := iS ((d, σ.get d) :: l) (fun p hp => by
     rcases List.mem_cons.1 hp with rfl | hp
     ·exact ⟨hu, fI⟩
     ·exact hl p hp)
    rw [hqq l] at this
    exact this
   ·have := back _ cb aL
    rw [NK] at this
    have e : σ2.put d v = σ2 := by
     have g1 := l8 d
     rw [St.yS, if_pos ⟨rfl, hlen⟩] at g1
     rw [<- g1]; exact jg σ2 d
    rw [e] at this
    exact this
 ·cases h
theorem nm {P : Program} {PT : List (Nat × Nat)} {σ σ1 : St} {d : Nat} (l8 : ∀ t, t ≠ d -> σ1.get t = σ.get t /\ (σ.get t).ref d = false) (g6 : ∀ t j cells, t ≠ d -> σ1.ob t j = .box cells -> σ.ob t j = .box cells /\ YS d cells = false)
  (iQ : ∀ t j q s rows, t ≠ d -> σ1.ob t j = .arr q s rows -> ∃ lF, σ.ob t j = .arr q s lF) (hp : Hc PT σ) {op : Op} {ty : TypeId} {v : V} (gv : wZ PT op = true) (g7 : ∀ z ∈ op.operands.toList, z ≠ .tmp d) (hv : Yh P σ1 op ty v) : Yh P σ op ty v /\ v.ref d = false := by
 have hl : ∀ (z : Operand) (T : TypeId), z ≠ .tmp d -> look P σ1 T z = look P σ T z := by
  intro z T hz
  cases z with
  | tmp u => exact (l8 u (fun e => hz (by rw [e]))).1
  | const c => rfl
  | global g => rfl
  | func f => rfl
 have hr : ∀ (z : Operand) (T : TypeId), z ≠ .tmp d -> (look P σ T z).ref d = false := by
  intro z T hz
  cases z with
  | tmp u => exact (l8 u (fun e => hz (by rw [e]))).2
  | const c => exact MB T c d
  | global g => rfl
  | func f => rfl
 have lD : ∀ (z : Operand) (T : TypeId) (x : At), z ≠ .tmp d -> unc (look P σ T z) = .one x -> x.ref d = false := by
  intro z T x hz hu
  cases hx : x.ref d with
  | false => rfl
  | true => have := JS hu hx; rw [hr z T hz] at this; cases this
 refine ⟨?_, ?_⟩
 ·cases op <;> simp only [wZ] at gv <;> try exact Bool.noConfusion gv
  case move x =>
   simp only [Yh] at hv ⊢
   rw [hv, hl x ty (g7 x (by simp [Op.operands]))]
  case load T x =>
   cases x with
   | tmp t =>
    have ht : Operand.tmp t ≠ .tmp d := g7 _ (by simp [Op.operands])
    simp only [List.any_eq_true, beq_iff_eq] at gv
    obtain ⟨p, bI, g8⟩ := gv
    simp only [Yh] at hv ⊢
    rw [hl _ 0 ht] at hv
    refine ⟨hv.1, hv.2.1, ?_⟩
    have ia := hv.2.2
    have gB := hp p bI
    rw [g8] at gB
    rw [jN] at ia ⊢
    rcases gB with e | ⟨c, e⟩
    ·rw [e] at ia; exact ia.elim
    ·rw [e] at ia ⊢
     obtain ⟨ce, e1, e2⟩ := ia
     have hb : p.2 ≠ d := by
      have := lD (.tmp t) 0 (.bptr p.2 c) ht (by rw [jN, e]; rfl)
      simpa [At.ref] using this
     exact ⟨ce, (g6 _ _ _ hb e1).1, e2⟩
   | _ => exact Bool.noConfusion gv
  case fieldAddr T x f =>
   cases x with
   | tmp t =>
    have ht : Operand.tmp t ≠ .tmp d := g7 _ (by simp [Op.operands])
    simp only [Yh] at hv ⊢
    rw [hl _ 0 ht] at hv
    refine ⟨hv.1, hv.2.1, ?_⟩
    have ia := hv.2.2
    split at ia
    ·rename_i t' c e
     have hb : t' ≠ d := by have := lD _ _ _ ht e; simpa [At.ref] using this
     obtain ⟨⟨ce, e1⟩, e2⟩ := ia
     first | exact ⟨⟨ce, (g6 _ _ _ hb e1).1⟩, e2⟩ | (simp only [e]; exact ⟨⟨ce, (g6 _ _ _ hb e1).1⟩, e2⟩)
    ·rename_i t' j i c e
     have hb : t' ≠ d := by have := lD _ _ _ ht e; simpa [At.ref] using this
     obtain ⟨⟨q, s, rows, e1⟩, e2⟩ := ia
     obtain ⟨lF, e3⟩ := iQ _ _ _ _ _ hb e1
     first | exact ⟨⟨q, s, lF, e3⟩, e2⟩ | (simp only [e]; exact ⟨⟨q, s, lF, e3⟩, e2⟩)
    ·rename_i rr c e; first | exact ia | (simp only [e]; exact ia)
    ·rename_i t' j i c k e
     have hb : t' ≠ d := by have := lD _ _ _ ht e; simpa [At.ref] using this
     obtain ⟨⟨s, rows, e1⟩, e2⟩ := ia
     obtain ⟨lF, e3⟩ := iQ _ _ _ _ _ hb e1
     first | exact ⟨⟨s, lF, e3⟩, e2⟩ | (simp only [e]; exact ⟨⟨s, lF, e3⟩, e2⟩)
    ·exact ia.elim
   | _ => exact Bool.noConfusion gv
  case slice T x lo hi mx =>
   cases x with
   | tmp t =>
    cases mx with
    | some m => exact Bool.noConfusion gv
    | none =>
     have ht : Operand.tmp t ≠ .tmp d := g7 _ (by simp [Op.operands])
     have ed : ∀ (df n : Nat) (z : Option Operand), (∀ y, z = some y -> y ≠ .tmp d) -> bnd P σ1 df z n -> bnd P σ df z n := by
      intro df n z hz h
      cases z with
      | none => exact h
      | some z => simp only [bnd] at h ⊢; rw [hl z 0 (hz z rfl)] at h; exact h
     have gf : ∀ y, lo = some y -> y ≠ .tmp d := fun y e => g7 y (by subst e; simp [Op.operands])
     have fj : ∀ y, hi = some y -> y ≠ .tmp d := fun y e => g7 y (by subst e; simp [Op.operands])
     simp only [Yh] at hv ⊢
     rw [hl _ 0 ht] at hv
     refine ⟨hv.1, ?_⟩
     have ia := hv.2
     split at ia
     ·rename_i s e
      obtain ⟨h1, l, h, h2, h3, h4⟩ := ia
      first | exact ⟨h1, l, h, ed _ _ _ gf h2, ed _ _ _ fj h3, h4⟩ | (simp only [e]; exact ⟨h1, l, h, ed _ _ _ gf h2, ed _ _ _ fj h3, h4⟩)
     ·rename_i s rows e
      obtain ⟨h1, h0, l, h, h2, h3, h4⟩ := ia
      first | exact ⟨h1, h0, l, h, ed _ _ _ gf h2, ed _ _ _ fj h3, h4⟩ | (simp only [e]; exact ⟨h1, h0, l, h, ed _ _ _ gf h2, ed _ _ _ fj h3, h4⟩)
     ·rename_i t' j o len e
      have hb : t' ≠ d := by have := lD _ _ _ ht e; simpa [At.ref] using this
      obtain ⟨h1, ⟨q, rows, e1⟩, l, h, h2, h3, h4⟩ := ia
      obtain ⟨lF, e3⟩ := iQ _ _ _ _ _ hb e1
      first | exact ⟨h1, ⟨q, lF, e3⟩, l, h, ed _ _ _ gf h2, ed _ _ _ fj h3, h4⟩ | (simp only [e]; exact ⟨h1, ⟨q, lF, e3⟩, l, h, ed _ _ _ gf h2, ed _ _ _ fj h3, h4⟩)
     ·exact ia.elim
   | _ => exact Bool.noConfusion gv
 ·cases hx : v.ref d with
  | false => rfl
  | true =>
   obtain ⟨z, hz, T, h1⟩ := DH hv hx
   rw [hl z T (g7 z hz)] at h1
   rcases h1 with h1 | ⟨t, cells, h1, h2, h3⟩
   ·rw [hr z T (g7 z hz)] at h1; cases h1
   ·by_cases htd : t = d
    ·rw [htd, hr z T (g7 z hz)] at h1; cases h1
    ·have := (g6 t 0 cells htd h2).2
     rw [this] at h3; cases h3
theorem oL {P : Program} {ops : Array Oper} {bar : Oper -> Bool} {PT : List (Nat × Nat)} {x y : Oper} {σ σ1 σ2 : St} {d : Nat} (h : Ad PT ops bar x y = true) (hp : Hc PT σ) (gL : x.dst = some d) (lr : JB σ d = true) (iD : yB P ops bar x σ σ1) (lL : yB P ops bar y σ1 σ2) : ∃ σ1', yB P ops bar y σ σ1' /\ yB P ops bar x σ1' σ2 := by
 unfold Ad at h
 simp only [Bool.and_eq_true, Bool.not_eq_true', Option.isNone_iff_eq_none] at h
 obtain ⟨⟨⟨⟨⟨⟨iz, iJ⟩, dc⟩, ec⟩, g9⟩, gv⟩, h⟩ := h
 rw [gL] at h
 cases gl : y.dst with
 | none => rw [gl] at h; cases h
 | some dy =>
  rw [gl] at h
  simp only [Bool.and_eq_true, Bool.not_eq_true', bne_iff_ne, ne_eq] at h
  obtain ⟨⟨lD, db⟩, aC⟩ := h
  have aM := PD db
  have aN := PD aC
  have lL := lL.resolve_right (fun hh => by rw [iJ] at hh; cases hh.1)
  rcases iD with iD | ⟨_, hss, hck, _, cW⟩
  ·have l9 : P5 y = false := by
    unfold P5
    cases lB : y.op <;> rw [lB] at gv <;> first | rfl | (exact Bool.noConfusion gv)
   obtain ⟨σ1', hy, hx⟩ := swap gL gl lD aM aN l9 (.inl g9) lr iD lL
   exact ⟨σ1', .inl hy, .inl hx⟩
  ·obtain ⟨d', lQ, hlen, l8, g6, iQ, iS⟩ := cW dc
   rw [gL] at lQ; cases lQ
   have e2 : ∃ v, Yh P σ1 y.op y.type v /\ σ2 = σ1.put dy v := by
    unfold XS at lL
    simp only [g9, gl] at lL
    unfold Step at lL
    cases lB : y.op <;> rw [lB] at lL gv <;> first | exact lL | (exact Bool.noConfusion gv)
   obtain ⟨v, hv, rfl⟩ := e2
   obtain ⟨ef, hvr⟩ := nm l8 g6 iQ hp gv (fun z hz => aM z (by simp only [Sg, List.mem_append]; exact .inl hz)) hv
   have hun : Pf x dy = true := by
    simp only [Pf, Bool.not_eq_true']
    refine List.any_eq_false.2 (fun z hz => ?_)
    have := aN z (by simp only [Sg, List.mem_append]; exact .inl hz)
    cases z <;> simp [xA] at this ⊢
    exact this
   have la : ∀ p ∈ [(dy, v)], p.1 ≠ d /\ Pf x p.1 = true /\ p.2.ref d = false := fun p hp => by
    cases List.mem_singleton.1 hp; exact ⟨fun e => lD e.symm, hun, hvr⟩
   have h0 := iS [(dy, v)] la
   refine ⟨σ.put dy v, .inl ?_, .inr ⟨iz, h0.1, h0.2, fun hh => (by rw [CE hh] at dc; cases dc), fun _ => ⟨d, gL, by rw [St.JU, St.JU]; exact hlen, fun t ht => ?_, fun t j cells ht hb => ?_, fun t j q s rows ht hb => ?_, fun l hl => ?_⟩⟩⟩
   ·unfold XS
    simp only [g9, gl]
    unfold Step
    cases lB : y.op <;> rw [lB] at ef gv <;> first | exact ⟨v, ef, rfl⟩ | (exact Bool.noConfusion gv)
   ·have h1 := l8 t ht
    rw [St.yS, St.yS, hlen]
    by_cases hc : t = dy /\ dy < σ.length
    ·simp only [if_pos hc]; exact ⟨trivial, hvr⟩
    ·simp only [if_neg hc]; exact h1
   ·rw [St.JP] at hb ⊢; exact g6 t j cells ht hb
   ·rw [St.JP] at hb ⊢; exact iQ t j q s rows ht hb
   ·exact iS ((dy, v) :: l) (fun p hp => by
     rcases List.mem_cons.1 hp with rfl | hp
     ·exact la _ (by simp)
     ·exact hl p hp)
theorem sY {PT : List (Nat × Nat)} {σ : St} (h : ptB PT σ = true) : Hc PT σ := by
 intro p hp
 have := List.all_eq_true.1 h p hp
 split at this
 ·rename_i e; exact .inl e
 ·rename_i b c e
  have hb : b = p.2 := by simpa using this
  subst hb; exact .inr ⟨c, e⟩
 ·cases this
section
variable {P : Program} {ops : Array Oper}
def wV (P : Program) (ops : Array Oper) (bar : Oper -> Bool) : List Nat -> St -> (St -> Prop) -> Prop
 | [], σ, Q => Q σ
 | i :: rem, σ, Q => ∃ o σ', ops[i]? = some o /\ yB P ops bar o σ σ' /\ wV P ops bar rem σ' Q
theorem w9 {o : Oper} {σ σ' : St} {d : Nat} (hs : XS P ops o σ σ') (hd : o.dst ≠ some d) (h : JB σ d = true) : JB σ' d = true := by
 cases hdo : o.dst with
 | some d' =>
  have lD : d ≠ d' := fun e => hd (by rw [hdo, e])
  obtain ⟨e, rfl, _⟩ := Ut hdo hs
  cases e with
  | put v => unfold JB at *; simp only [Eff.ap, UX, if_neg lD]; exact h
  | new v os => unfold JB at *; simp only [Eff.ap, ql, if_neg lD]; exact h
  | drop a j v os =>
   have := QL (a := a) (j := j) (o := .none) h
   unfold JB at *; simp only [Eff.ap, ql, if_neg lD]; exact this
 | none =>
  unfold XS at hs
  split at hs
  ·simp only [hdo] at hs
   split at hs
   ·unfold y6 at hs
    obtain ⟨_, _, _, _, hs⟩ := hs
    split at hs
    ·obtain ⟨_, _, _, _, rfl⟩ := hs; exact QL h
    ·obtain ⟨_, _, _, _, _, _, _, _, _, _, _, rfl⟩ := hs; exact QL h
    ·exact hs.elim
   ·exact hs.elim
  ·obtain ⟨_, _, _, _, _, _, lQ, _⟩ := hs
   rw [hdo] at lQ; cases lQ
theorem vd {PT : List (Nat × Nat)} {i : Nat} {o : Oper} {σ σ' : St} (cV : NI ops PT = true) (hi : ops[i]? = some o) (hs : XS P ops o σ σ') (h : Hc PT σ) : Hc PT σ' := by
 have hc := List.all_eq_true.1 cV o (by rw [Array.mem_toList_iff]; exact Array.mem_of_getElem? hi)
 cases hdo : o.dst with
 | none =>
  have : ∃ t j ob, σ' = σ.Z7 t j ob := by
   unfold XS at hs
   split at hs
   ·simp only [hdo] at hs
    split at hs
    ·unfold y6 at hs
     obtain ⟨_, _, _, _, hs⟩ := hs
     split at hs
     ·obtain ⟨_, _, _, _, rfl⟩ := hs; exact ⟨_, _, _, rfl⟩
     ·obtain ⟨_, _, _, _, _, _, _, _, _, _, _, rfl⟩ := hs; exact ⟨_, _, _, rfl⟩
     ·exact hs.elim
    ·exact hs.elim
   ·obtain ⟨_, _, _, _, _, _, lQ, _⟩ := hs
    rw [hdo] at lQ; cases lQ
  obtain ⟨t, j, ob, rfl⟩ := this
  intro p hp
  rw [St.QK]; exact h p hp
 | some d =>
  intro p hp
  rw [hdo] at hc
  have hc := List.all_eq_true.1 hc p hp
  by_cases dA : p.1 = d
  ·simp only [dA, bne_self_eq_false, Bool.false_or, Bool.and_eq_true, Option.isNone_iff_eq_none] at hc
   obtain ⟨hg, hc⟩ := hc
   split at hc
   ·rename_i T r f lB
    have hr := h (r, p.2) (by simpa using hc)
    unfold XS at hs
    simp only [hg, hdo] at hs
    unfold Step at hs
    rw [lB] at hs
    obtain ⟨v, hv, rfl⟩ := hs
    simp only [Yh] at hv
    have hv := hv.2.2
    rw [jN] at hv
    rcases hr with e | ⟨c, e⟩
    ·rw [e] at hv; exact hv.elim
    ·rw [e] at hv
     rw [St.yS, dA]
     by_cases hl : d < σ.length
     ·rw [if_pos ⟨rfl, hl⟩]; exact .inr ⟨_, hv.2⟩
     ·rw [if_neg (fun hh => hl hh.2)]; have := h p hp; rw [dA] at this; exact this
   ·cases hc
  ·obtain ⟨e, rfl, _⟩ := Ut hdo hs
   have hg : ∀ σ0 : St, σ0.get p.1 = σ.get p.1 -> (σ0.get p.1 = .any \/ ∃ c, σ0.get p.1 = .one (.bptr p.2 c)) := fun σ0 e => by rw [e]; exact h p hp
   cases e with
   | put v => exact hg _ (by simp only [Eff.ap]; rw [St.yS, if_neg (fun hh => dA hh.1)])
   | new v os => exact hg _ (by simp only [Eff.ap]; rw [St.Tb, if_neg (fun hh => dA hh.1)])
   | drop a j v os => exact hg _ (by simp only [Eff.ap]; rw [St.Tb, if_neg (fun hh => dA hh.1), St.QK])
theorem Iv {σ : St} : Fp [] [] σ := ⟨fun _ hp => absurd hp List.not_mem_nil, fun _ hp => absurd hp List.not_mem_nil⟩
theorem tV {NB : List Nat} {σ : St} {d : Nat} {v : V} (h : Hf NB σ) (hd : d ∈ NB -> ∀ b c, unc v ≠ .one (.bptr b c)) : Hf NB (σ.put d v) := by
 intro t ht b c
 rw [St.yS]
 split
 ·rename_i hc; exact hd (hc.1 ▸ ht) b c
 ·exact h t ht b c
theorem tM {NB : List Nat} {σ : St} {d : Nat} {v : V} {os : List Ob} (h : Hf NB σ) (hd : d ∉ NB) : Hf NB (σ.new d v os) := by
 intro t ht b c
 have lD : ¬ (t = d /\ d < σ.length) := fun hc => hd (by rw [<- hc.1]; exact ht)
 rw [St.Tb, if_neg lD]
 exact h t ht b c
theorem rG {NB : List Nat} {i : Nat} {o : Oper} {σ σ' : St} (ij : Hz P ops NB = true) (hi : ops[i]? = some o) (hs : XS P ops o σ σ') (h : Hf NB σ) : Hf NB σ' := by
 have hc := List.all_eq_true.1 ij o (by rw [Array.mem_toList_iff]; exact Array.mem_of_getElem? hi)
 cases hdo : o.dst with
 | none =>
  have : ∃ t j ob, σ' = σ.Z7 t j ob := by
   unfold XS at hs
   split at hs
   ·simp only [hdo] at hs
    split at hs
    ·unfold y6 at hs
     obtain ⟨_, _, _, _, hs⟩ := hs
     split at hs
     ·obtain ⟨_, _, _, _, rfl⟩ := hs; exact ⟨_, _, _, rfl⟩
     ·obtain ⟨_, _, _, _, _, _, _, _, _, _, _, rfl⟩ := hs; exact ⟨_, _, _, rfl⟩
     ·exact hs.elim
    ·exact hs.elim
   ·obtain ⟨_, _, _, _, _, _, lQ, _⟩ := hs
    rw [hdo] at lQ; cases lQ
  obtain ⟨t, j, ob, rfl⟩ := this
  intro p hp
  rw [St.QK]; exact h p hp
 | some d =>
  rw [hdo] at hc
  by_cases hd : d ∈ NB
  ·have hc := List.all_eq_true.1 hc d hd
   simp only [bne_self_eq_false, Bool.false_or, Bool.and_eq_true, Option.isNone_iff_eq_none] at hc
   obtain ⟨hg, hc⟩ := hc
   split at hc
   ·rename_i T r ix lB
    unfold XS at hs
    simp only [hg, hdo] at hs
    unfold Step at hs
    rw [lB] at hs
    obtain ⟨v, hv, rfl⟩ := hs
    refine tV h (fun _ b c => ?_)
    simp only [Yh] at hv
    obtain ⟨_, _, _, _, _, hv⟩ := hv
    split at hv
    ·obtain ⟨_, _, _, _, rfl⟩ := hv; intro e; cases e
    ·obtain ⟨_, _, _, _, rfl⟩ := hv; intro e; cases e
    ·obtain ⟨_, ⟨n, ha, _⟩, _⟩ := hv
     unfold XK at hc
     unfold CD at ha
     split at hc
     ·rename_i e he; rw [he] at ha; cases ha
     ·cases hc
    ·obtain ⟨_, _, _, rfl⟩ := hv; intro e; cases e
    ·exact hv.elim
   ·cases hc
  ·obtain ⟨e, rfl, _⟩ := Ut hdo hs
   cases e with
   | put v => exact tV h (fun hh => absurd hh hd)
   | new v os => exact tM h hd
   | drop a j v os =>
    refine tM (σ := σ.Z7 a j .none) (fun t ht b c => ?_) hd
    rw [St.QK]; exact h t ht b c
theorem pV {NB : List Nat} {σ : St} (h : nbB NB σ = true) : Hf NB σ := by
 intro t ht b c e
 have := List.all_eq_true.1 h t ht
 rw [e] at this; cases this
def Cg (ops : Array Oper) (pos : Nat -> Nat) (rem : List Nat) (σ : St) : Prop :=
 ∀ j ∈ rem, Rw ops pos j = true -> vV ops j = true /\ ∃ o d, ops[j]? = some o /\ o.dst = some d /\ JB σ d = true
theorem r5 {j k : Nat} {oj ok : Oper} {d : Nat} (h : vV ops j = true) (hj : ops[j]? = some oj) (hd : oj.dst = some d) (hk : ops[k]? = some ok) (lD : k ≠ j) : ok.dst ≠ some d := by
 unfold vV at h
 simp only [hj, hd] at h
 have lN : k < ops.size := (Array.getElem?_eq_some_iff.1 hk).1
 have := List.all_eq_true.1 h k (List.mem_range.2 lN)
 simp only [hk, Bool.or_eq_true, beq_iff_eq, bne_iff_ne, ne_eq] at this
 exact this.resolve_left lD
theorem AN {bar : Oper -> Bool} {o : Oper} {σ σ' : St} {d : Nat} (hs : yB P ops bar o σ σ') (hd : o.dst ≠ some d) (h : JB σ d = true) : JB σ' d = true := by
 rcases hs with hs | hs
 ·exact w9 hs hd h
 ·exact hs.2.2.1 d hd h
theorem M5 {pos : Nat -> Nat} {bar : Oper -> Bool} {rem bG : List Nat} {i : Nat} {o : Oper} {σ σ' : St} (hi : ops[i]? = some o) (hs : yB P ops bar o σ σ') (hni : i ∉ bG) (lh : ∀ j ∈ bG, j ∈ rem) (h : Cg ops pos rem σ) : Cg ops pos bG σ' := by
 intro j hj hl
 obtain ⟨cY, oj, d, h1, h2, h3⟩ := h j (lh j hj) hl
 exact ⟨cY, oj, d, h1, h2, AN hs (r5 cY h1 h2 hi (fun e => hni (e ▸ hj))) h3⟩
theorem pull {pos : Nat -> Nat} {bar : Oper -> Bool} {PT : List (Nat × Nat)} {NB : List Nat} (gB : ∀ (i : Nat) (o : Oper) (σ σ' : St), ops[i]? = some o -> yB P ops bar o σ σ' -> Fp PT NB σ -> Fp PT NB σ') {i : Nat} {post : List Nat} {Q : St -> Prop} {oi : Oper} (hi : ops[i]? = some oi) : ∀ {pre : List Nat} {σ : St}, (pre ++ i :: post).Nodup -> (∀ j ∈ pre, Rw ops pos j = true /\ ∃ oj, ops[j]? = some oj /\ (Bs ops bar oj oi = true \/ AR bar oj oi = true \/ swapT PT bar oj oi = true \/ Az bar oj oi = true \/ Ad PT ops bar oj oi = true \/ AA PT NB bar oj oi = true)) -> Cg ops pos (pre ++ i :: post) σ -> Fp PT NB σ ->
  wV P ops bar (pre ++ i :: post) σ Q -> ∃ σ', yB P ops bar oi σ σ' /\ wV P ops bar (pre ++ post) σ' Q
 | [], σ, _, _, _, _, h => by
  obtain ⟨o, σ', ho, hs, hr⟩ := h
  rw [hi] at ho; cases ho
  exact ⟨σ', hs, hr⟩
 | j :: pre, σ, l9, hsw, lr, g8, h => by
  obtain ⟨oj, σ1, hj, iD, hr⟩ := h
  have aO := List.nodup_cons.1 l9
  obtain ⟨σ2, lL, ep⟩ := pull gB hi (pre := pre) aO.2 (fun k hk => hsw k (by simp [hk])) (M5 (rem := (j :: pre) ++ i :: post) hj iD aO.1 (fun k hk => by simp only [List.cons_append, List.mem_cons]; exact .inr hk) lr) (gB j oj σ σ1 hj iD g8) hr
  obtain ⟨hl, oj', gn, eS⟩ := hsw j (by simp)
  rw [hj] at gn; cases gn
  rcases eS with eS | eS | eS | eS | eS | eS
  rotate_left
  ·obtain ⟨σ1', hy, hx⟩ := rV eS iD lL
   exact ⟨σ1', .inl hy, oj, σ2, hj, .inl hx, ep⟩
  ·obtain ⟨σ1', hy, hx⟩ := oP eS g8.1 iD lL
   exact ⟨σ1', .inl hy, oj, σ2, hj, .inl hx, ep⟩
  ·obtain ⟨_, o', d', lU, lQ, lg⟩ := lr j (by simp) hl
   rw [hj] at lU; cases lU
   obtain ⟨σ1', hy, hx⟩ := pw eS lQ lg iD lL
   exact ⟨σ1', hy, oj, σ2, hj, .inl hx, ep⟩
  ·obtain ⟨_, o', d', lU, lQ, lg⟩ := lr j (by simp) hl
   rw [hj] at lU; cases lU
   obtain ⟨σ1', hy, hx⟩ := oL eS g8.1 lQ lg iD lL
   exact ⟨σ1', hy, oj, σ2, hj, hx, ep⟩
  ·obtain ⟨_, o', d', lU, lQ, lg⟩ := lr j (by simp) hl
   rw [hj] at lU; cases lU
   obtain ⟨σ1', hy, hx⟩ := p9 eS g8.1 g8.2 lQ lg iD lL
   exact ⟨σ1', hy, oj, σ2, hj, .inl hx, ep⟩
  obtain ⟨iz, iJ, dx, dy, h1, h2, h3, h4, h5, h6, h7⟩ := vH eS
  have iD := iD.resolve_right (fun hh => by rw [iz] at hh; cases hh.1)
  have lL := lL.resolve_right (fun hh => by rw [iJ] at hh; cases hh.1)
  obtain ⟨_, o', d', lU, lQ, lg⟩ := lr j (by simp) hl
  rw [hj] at lU; cases lU
  rw [h1] at lQ; cases lQ
  obtain ⟨σ1', hy, hx⟩ := swap h1 h2 h3 h4 h5 h6 h7 lg iD lL
  exact ⟨σ1', .inl hy, oj, σ2, hj, .inl hx, ep⟩
end
end Go.Vm
namespace Go.Vm
open Go.RowKit
section
variable {P : Program} {ops : Array Oper} {T0 : CS} {B : Nat -> Prop}
theorem NH {lb : Array Bool} {j : Nat} (h1 : lb.getD j true = false) (h2 : lb.getD j false = true) : False := by
 rw [Array.getD_eq_getD_getElem?] at h1 h2
 cases h : lb[j]? with
 | none => rw [h] at h1; simp at h1
 | some b => rw [h] at h1 h2; simp at h1 h2; rw [h1] at h2; cases h2
theorem DL {pos : Nat -> Nat} {bar : Oper -> Bool} {PT : List (Nat × Nat)} {NB : List Nat} (gB : ∀ (i : Nat) (o : Oper) (σ σ' : St), ops[i]? = some o -> yB P ops bar o σ σ' -> Fp PT NB σ -> Fp PT NB σ') (hdr : AL ops pos bar PT NB (Pr ops.toList []) = true) {Qa : St -> Prop} {Q : Exit -> Act -> World -> Prop} {w0 : World} (hK : ∀ σ a w, Qa σ -> Ku T0 B σ a w -> Y7 B w0 w -> Q .normal a w) :
  ∀ (fuel : Nat) (rem : List Nat) (lb : Array Bool) (σ : St) (a : Act) (w : World), rem.length = fuel -> lb.size = ops.size -> rem.Pairwise (fun i j => pos i < pos j) -> (∀ i, i ∈ rem ↔ lb.getD i true = false) -> (∀ i ∈ rem, i < ops.size) -> (∀ m om, ops[m]? = some om -> m ∉ rem -> ∀ j, NV om j = true -> j ∉ rem) ->
   Cg ops pos rem σ -> Fp PT NB σ -> wV P ops bar rem σ Qa -> Ku T0 B σ a w -> Y7 B w0 w -> wpAny P .any ops Q fuel lb a w := by
 have iS := List.all_eq_true.1 hdr
 have first : ∀ (rem : List Nat) (lb : Array Bool), lb.size = ops.size -> rem.Pairwise (fun i j => pos i < pos j) -> (∀ i, i ∈ rem ↔ lb.getD i true = false) -> (∀ i ∈ rem, i < ops.size) -> Region.ready .any ops lb = [] -> rem = [] := by
  intro rem lb l7 bH iM lN aD
  cases rem with
  | nil => rfl
  | cons i rem =>
   exfalso
   have hi := lN i (by simp)
   have hb := iS i (List.mem_range.2 hi)
   simp only [Bool.and_eq_true] at hb
   have eE := hb.1.1
   unfold pJ at eE
   rw [Array.getElem?_eq_getElem hi] at eE
   simp only [Array.all_eq_true_iff_forall_mem, decide_eq_true_eq, Bool.and_eq_true, Bool.or_eq_true, Bool.not_eq_true'] at eE
   have : i ∈ Region.ready .any ops lb := by
    refine mem_ready.2 ⟨(iM i).1 (by simp), ops[i], Array.getElem?_eq_getElem hi, fun e he hbi => ?_⟩
    have ew := (eE e he).resolve_left (by rw [hbi]; simp)
    have fk := ew.1
    have hlt2 := ew.2
    have fo : e.on ∉ i :: rem := by
     intro hm
     rcases List.mem_cons.1 hm with h | h
     ·rw [h] at fk; omega
     ·have := (List.pairwise_cons.1 bH).1 _ h; omega
    have lD : lb.getD e.on true ≠ false := fun h => fo ((iM _).2 h)
    have fc : e.on < lb.size := by rw [l7]; omega
    rw [Array.getD_eq_getD_getElem?, Array.getElem?_eq_getElem fc] at lD ⊢
    simpa using lD
   rw [aD] at this; cases this
 intro fuel
 induction fuel with
 | zero =>
  intro rem lb σ a w hl l7 bH iM lN hdn lr g8 lT gG hb
  have gq : rem = [] := List.eq_nil_of_length_eq_zero hl
  subst gq
  refine ⟨?_, hK σ a w lT gG hb⟩
  cases aD : Region.ready .any ops lb with
  | nil => rfl
  | cons i l =>
   have hi : i ∈ Region.ready .any ops lb := by rw [aD]; simp
   have := (iM i).2 (mem_ready.1 hi).1
   cases this
 | succ fuel ih =>
  intro rem lb σ a w hl l7 bH iM lN hdn lr g8 lT gG hb
  refine ⟨fun aD => ?_, fun i hi => ?_⟩
  ·have := first rem lb l7 bH iM lN aD
   subst this; simp at hl
  ·obtain ⟨h0, oi, bJ, er⟩ := mem_ready.1 hi
   obtain ⟨pre, post, rfl⟩ := List.append_of_mem ((iM i).2 h0)
   have l9 : (pre ++ i :: post).Nodup := bH.imp (fun h e => by rw [e] at h; omega)
   have gR : ∀ j ∈ pre, pos j < pos i := fun j hj => (List.pairwise_append.1 bH).2.2 j hj i (by simp)
   have gT : i < ops.size := lN i (by simp)
   have hdone : ∀ e ∈ oi.after, Region.binds .any e = true -> e.on ∉ pre ++ i :: post := by
    intro e he hbi hm
    exact NH ((iM e.on).1 hm) (er e he hbi)
   have aP : ∀ j, j ∈ pre ++ i :: post -> NV oi j = false := by
    intro j hj
    cases hp : NV oi j with
    | false => rfl
    | true =>
     unfold NV at hp
     rw [<- Array.any_toList] at hp
     obtain ⟨e, he, iJ⟩ := List.any_eq_true.1 hp
     rw [Array.mem_toList_iff] at he
     simp only [Bool.and_eq_true, beq_iff_eq] at iJ
     exact (NH ((iM j).1 hj) (by rw [<- iJ.1]; exact er e he iJ.2)).elim
   have dA : ∀ m j, Pre ops m j -> (∀ om, ops[m]? = some om -> ∀ k, NV om k = true -> k ∉ pre ++ i :: post) -> j ∉ pre ++ i :: post := by
    intro m j hp
    induction hp with
    | one ho hp => intro h; exact h _ ho _ hp
    | more ho hp _ ih =>
     intro h
     exact ih (fun om eb k hk => hdn _ om eb (h _ ho _ hp) k hk)
   have gF : ∀ j ∈ pre, Ae ops i j = false := by
    intro j hj
    have hjr : j ∈ pre ++ i :: post := by simp [hj]
    cases hq : Ae ops i j with
    | false => rfl
    | true =>
     refine absurd hjr (dA i j (uH hq) (fun om eb k hk hkr => ?_))
     rw [bJ] at eb; cases eb
     have := aP k hkr
     rw [hk] at this; cases this
   have hsw : ∀ j ∈ pre, Rw ops pos j = true /\ ∃ oj, ops[j]? = some oj /\ (Bs ops bar oj oi = true \/ AR bar oj oi = true \/ swapT PT bar oj oi = true \/ Az bar oj oi = true \/ Ad PT ops bar oj oi = true \/ AA PT NB bar oj oi = true) := by
    intro j hj
    have dw := gR j hj
    have bL : j < ops.size := lN j (by simp [hj])
    refine ⟨?_, ops[j], Array.getElem?_eq_getElem bL, ?_⟩
    ·unfold Rw BC
     refine List.any_eq_true.2 ⟨i, List.mem_range.2 gT, ?_⟩
     have := gF j hj
     unfold Ae at this
     simp only [this, Bool.not_false, Bool.and_true, decide_eq_true_eq]; exact dw
    ·have := iS i (List.mem_range.2 gT)
     simp only [Bool.and_eq_true] at this
     have hp := List.all_eq_true.1 this.1.2 j (List.mem_range.2 bL)
     simp only [dw, decide_true, Bool.not_true, Bool.false_or] at hp
     unfold r8 at hp
     rw [bJ, Array.getElem?_eq_getElem bL] at hp
     have := gF j hj
     unfold Ae at this
     simpa [this, or_assoc] using hp
   obtain ⟨σ', hs, hr⟩ := pull gB bJ l9 hsw lr g8 lT
   have hni : i ∉ pre ++ post := by
    have := List.nodup_append.1 l9
    intro hm
    rcases List.mem_append.1 hm with h | h
    ·exact Nat.lt_irrefl _ (gR i h)
    ·exact (List.nodup_cons.1 this.2.1).1 h
   have eF : ∀ j ∈ pre ++ post, j ∈ pre ++ i :: post := by
    intro j hj
    rcases List.mem_append.1 hj with h | h
    ·simp [h]
    ·simp [h]
   have key : ∀ a' w', Ku T0 B σ' a' w' -> Y7 B w w' -> wpAny P .any ops Q fuel (lb.setIfInBounds i true) a' w' := by
    intro a' w' aE lM
    refine ih (pre ++ post) _ σ' a' w' (by simp at hl ⊢; omega) (by simp [l7]) ?_ (fun j => ?_) (fun j hj => lN j (eF j hj)) ?_ (M5 bJ hs hni eF lr) (gB i oi σ σ' bJ hs g8) hr aE (hb.trans lM)
    ·exact bH.sublist (List.Sublist.append (List.Sublist.refl pre) (List.sublist_cons_self i post))
    ·by_cases ea : i = j
     ·subst ea
      constructor
      ·intro hm; exact absurd hm hni
      ·intro hm
       rw [Array.getD_eq_getD_getElem?] at hm
       simp [l7, gT] at hm
     ·rw [getD_set_ne true ea, <- iM j]
      simp only [List.mem_append, List.mem_cons]
      constructor
      ·rintro (h | h)
       ·exact .inl h
       ·exact .inr (.inr h)
      ·rintro (h | h | h)
       ·exact .inl h
       ·exact absurd h.symm ea
       ·exact .inr h
    ·intro m om eb hm j hpj hj
     by_cases hmi : m = i
     ·subst hmi
      rw [bJ] at eb; cases eb
      have := aP j (eF j hj)
      rw [hpj] at this; cases this
     ·have hmr : m ∉ pre ++ i :: post := by
       intro h
       rcases List.mem_append.1 h with h | h
       ·exact hm (by simp [h])
       ·rcases List.mem_cons.1 h with h | h
        ·exact hmi h
        ·exact hm (by simp [h])
      exact hdn m om eb hmr j hpj (eF j hj)
   have lZ := LQ hs T0 B a w (wpAny P .any ops Q fuel (lb.setIfInBounds i true)) Q gG key
   unfold wpOp
   simp only [bJ]
   split
   ·rename_i hw; rw [if_pos hw] at lZ; exact .inl lZ
   ·rename_i hw; rw [if_neg hw] at lZ; exact lZ
theorem E4 {σ : St} {a : Act} {w : World} (h : Ku T0 B σ a w) : Ku T0 B σ a { w with drawn := w.drawn + 1 } := by
 obtain ⟨X, hh, r⟩ := h
 exact ⟨X, hh, r.grow (w' := { w with drawn := w.drawn + 1 }) ⟨rfl, rfl, rfl, Nat.le_refl _, fun _ _ _ => rfl⟩ (fun _ hb => hb) (fun _ hb => .inl hb)⟩
theorem vQ {bar : Oper -> Bool} {Q : St -> Prop} : ∀ {n k : Nat} {σ : St}, k + n = ops.size -> Cd P ops bar (ops.toList.drop k) σ Q -> wV P ops bar (List.range' k n) σ Q
 | 0, k, σ, hk, h => by
  rw [List.drop_eq_nil_of_le (by simp; omega)] at h
  exact h
 | n + 1, k, σ, hk, h => by
  have lN : k < ops.toList.length := by simp; omega
  rw [List.drop_eq_getElem_cons lN] at h
  obtain ⟨σ', hs, hr⟩ := h
  rw [List.range'_succ]
  exact ⟨ops.toList[k], σ', by rw [<- Array.getElem?_toList]; exact List.getElem?_eq_getElem lN, hs, vQ (by omega) hr⟩
theorem MT {bar : Oper -> Bool} {PT : List (Nat × Nat)} {NB : List Nat} {id : Nat} {Q : Exit -> St -> Prop} {σ : St} (gB : ∀ (i : Nat) (o : Oper) (σ σ' : St), ops[i]? = some o -> yB P ops bar o σ σ' -> Fp PT NB σ -> Fp PT NB σ') (g8 : Fp PT NB σ) (hm : P.follows .mixedOrders = true) (hdr : AL ops (fun i => i) bar PT NB (Pr ops.toList []) = true) (lr : yZ ops (fun i => i) σ = true) (h : Cd P ops bar ops.toList σ (Q .normal)) : AWP P (.region id ops true) Q σ := by
 intro T0 B a w gG
 refine wp_region_any hm ?_
 have iS := List.all_eq_true.1 hdr
 refine DL (T0 := T0) (B := B) (w0 := w) gB hdr (Qa := Q .normal) (fun σ' a' w' hq hr hb => ⟨σ', hq, hr, hb⟩) ops.size (List.range' 0 ops.size) _ σ a _ (by simp) (by simp) ?_ (fun i => ?_) (fun i hi => by simp [List.mem_range'] at hi; omega) (fun m om eb hm => absurd (by simp only [List.mem_range'_1]; have := (Array.getElem?_eq_some_iff.1 eb).1; omega) hm) ?_ g8 (vQ (by omega) (by simpa using h)) (E4 gG) ⟨rfl, rfl, rfl, Nat.le_refl _, fun _ _ => rfl⟩
 ·exact List.pairwise_lt_range'
 ·rw [Array.getD_eq_getD_getElem?, Array.getElem?_replicate]
  simp only [List.mem_range'_1]
  constructor
  ·intro hh; rw [if_pos (by omega)]; rfl
  ·intro hh
   split at hh
   ·omega
   ·cases hh
 ·intro j hj hl
  simp only [List.mem_range'_1] at hj
  have hb := iS j (List.mem_range.2 (by omega))
  simp only [Bool.and_eq_true, Bool.or_eq_true, Bool.not_eq_true'] at hb
  refine ⟨hb.2.resolve_left (by unfold Rw at hl; rw [hl]; simp), ?_⟩
  have hc := List.all_eq_true.1 lr j (List.mem_range.2 (by omega))
  unfold Rw at hl
  simp only [hl, Bool.not_true, Bool.false_or] at hc
  have lN : j < ops.size := by omega
  rw [Array.getElem?_eq_getElem lN] at hc
  simp only [Option.bind_some] at hc
  cases hd : ops[j].dst with
  | none => rw [hd] at hc; cases hc
  | some d => rw [hd] at hc; exact ⟨_, d, Array.getElem?_eq_getElem lN, hd, hc⟩
theorem AT {bar : Oper -> Bool} {id : Nat} {Q : Exit -> St -> Prop} {σ : St} (hm : P.follows .mixedOrders = true) (hdr : NR ops (fun i => i) bar = true) (lr : yZ ops (fun i => i) σ = true) (h : Cd P ops bar ops.toList σ (Q .normal)) : AWP P (.region id ops true) Q σ :=
 MT (PT := []) (NB := []) (fun _ _ _ _ _ _ _ => Iv) Iv hm hdr lr h
theorem tJ {id : Nat} {σ : St} {l : List Oper} {br : Oper -> Bool} {k : Fr} (PT : List (Nat × Nat)) (hm : P.follows .mixedOrders = true) (hdr : AL ⟨l⟩ (fun i => i) (fun _ => false) PT [] (Pr l []) = true) (lr : yZ ⟨l⟩ (fun i => i) σ = true) (cV : NI ⟨l⟩ PT = true) (hp : ptB PT σ = true) (h : @EI P σ ⟨⟨l⟩, fun _ => false⟩ ⟨l⟩ k) : @DI P id σ ⟨⟨l⟩, br⟩ k :=
 MT (bar := fun _ => false) (PT := PT) (NB := []) (fun _ _ _ _ hi hs hq => ⟨vd cV hi (hs.resolve_right (fun hh => by cases hh.1)) hq.1, fun p hp => by cases hp⟩) ⟨sY hp, fun p hp => by cases hp⟩ hm hdr lr (JO h)
theorem tN {id : Nat} {σ : St} {l : List Oper} {br : Oper -> Bool} {k : Fr} (hm : P.follows .mixedOrders = true) (hdr : NR ⟨l⟩ (fun i => i) (fun _ => false) = true) (lr : yZ ⟨l⟩ (fun i => i) σ = true) (h : @EI P σ ⟨⟨l⟩, fun _ => false⟩ ⟨l⟩ k) : @DI P id σ ⟨⟨l⟩, br⟩ k :=
 AT hm hdr lr (JO h)
def LA (bs : List Nat) (o : Oper) : Bool := match o.dst with | some d => bs.contains d | none => true
theorem pY {ops : Array Oper} {PT : List (Nat × Nat)} {bar : Oper -> Bool} {i : Nat} {o : Oper} {σ σ' : St} (cV : NI ops PT = true) (cW : (ops.toList.all fun o => !bar o || OO o || Sj o) = true) (hi : ops[i]? = some o) (hs : yB P ops bar o σ σ') (h : Hc PT σ) : Hc PT σ' := by
 rcases hs with hs | ⟨hb, _, _, hk1, eZ⟩
 ·exact vd cV hi hs h
 ·have iM : o ∈ ops.toList := by rw [Array.mem_toList_iff]; exact Array.mem_of_getElem? hi
  have h1 := List.all_eq_true.1 cW o iM
  simp only [hb, Bool.not_true, Bool.false_or, Bool.or_eq_true] at h1
  rcases h1 with h1 | h1
  ·obtain ⟨⟨_, hg⟩, _⟩ := hk1 h1
   intro p hp
   rw [hg]; exact h p hp
  ·obtain ⟨d, hd, _, hg, _⟩ := eZ h1
   intro p hp
   have lD : p.1 ≠ d := by
    intro e
    have hc := List.all_eq_true.1 cV o iM
    rw [hd] at hc
    have hc := List.all_eq_true.1 hc p hp
    simp only [e, bne_self_eq_false, Bool.false_or, Bool.and_eq_true] at hc
    have hc := hc.2
    unfold Sj at h1
    cases lB : o.op <;> rw [lB] at h1 hc <;> first | (exact Bool.noConfusion h1) | (exact Bool.noConfusion hc)
   rw [(hg p.1 lD).1]; exact h p hp
theorem px {ops : Array Oper} {NB : List Nat} {bar : Oper -> Bool} {i : Nat} {o : Oper} {σ σ' : St} (ij : Hz P ops NB = true) (cW : (ops.toList.all fun o => !bar o || OO o || Sj o) = true) (hi : ops[i]? = some o) (hs : yB P ops bar o σ σ') (h : Hf NB σ) : Hf NB σ' := by
 rcases hs with hs | ⟨hb, _, _, hk1, eZ⟩
 ·exact rG ij hi hs h
 ·have iM : o ∈ ops.toList := by rw [Array.mem_toList_iff]; exact Array.mem_of_getElem? hi
  have h1 := List.all_eq_true.1 cW o iM
  simp only [hb, Bool.not_true, Bool.false_or, Bool.or_eq_true] at h1
  rcases h1 with h1 | h1
  ·obtain ⟨⟨_, hg⟩, _⟩ := hk1 h1
   intro p hp
   rw [hg]; exact h p hp
  ·obtain ⟨d, hd, _, hg, _⟩ := eZ h1
   intro p hp
   have lD : p ≠ d := by
    intro e
    have hc := List.all_eq_true.1 ij o iM
    rw [hd] at hc
    have hc := List.all_eq_true.1 hc p hp
    simp only [e, bne_self_eq_false, Bool.false_or, Bool.and_eq_true] at hc
    have hc := hc.2
    unfold Sj at h1
    cases lB : o.op <;> rw [lB] at h1 hc <;> first | (exact Bool.noConfusion h1) | (exact Bool.noConfusion hc)
   rw [(hg p lD).1]; exact h p hp
theorem tX {id : Nat} {σ : St} {l : List Oper} {br : Oper -> Bool} {k : Fr} (PT : List (Nat × Nat)) (NB bs : List Nat) (hm : P.follows .mixedOrders = true) (hdr : AL ⟨l⟩ (fun i => i) (LA bs) PT NB (Pr l []) = true) (lr : yZ ⟨l⟩ (fun i => i) σ = true) (cV : NI ⟨l⟩ PT = true) (hp : ptB PT σ = true) (ij : Hz P ⟨l⟩ NB = true) (hnb : nbB NB σ = true) (cW : (l.all fun o => !LA bs o || OO o || Sj o) = true) (h : @EI P σ ⟨⟨l⟩, LA bs⟩ ⟨l⟩ k) : @DI P id σ ⟨⟨l⟩, br⟩ k :=
 MT (bar := LA bs) (PT := PT) (NB := NB) (fun _ _ _ _ hi hs hq => ⟨pY cV cW hi hs hq.1, px ij cW hi hs hq.2⟩) ⟨sY hp, pV hnb⟩ hm hdr lr (JO h)
theorem nQ {id : Nat} {σ : St} {l : List Oper} {br : Oper -> Bool} {k : Fr} (bs : List Nat) (hm : P.follows .mixedOrders = true) (hdr : Vm.NR ⟨l⟩ (fun i => i) (LA bs) = true) (lr : yZ ⟨l⟩ (fun i => i) σ = true) (h : @EI P σ ⟨⟨l⟩, LA bs⟩ ⟨l⟩ k) : @DI P id σ ⟨⟨l⟩, br⟩ k :=
 AT hm hdr lr (JO h)
def pwB (pos : Nat -> Nat) : List Nat -> Bool
 | [] => true
 | i :: r => r.all (fun j => decide (pos i < pos j)) && pwB pos r
theorem tD {pos : Nat -> Nat} : ∀ {l : List Nat}, pwB pos l = true -> l.Pairwise (fun i j => pos i < pos j)
 | [], _ => .nil
 | i :: r, h => by
  simp only [pwB, Bool.and_eq_true, List.all_eq_true, decide_eq_true_eq] at h
  exact .cons h.1 (tD h.2)
def posOf : List Nat -> Nat -> Nat
 | [], _ => 0
 | i :: r, k => if i == k then 0 else posOf r k + 1
def ru (n : Nat) (ord : List Nat) : Bool := ord.length == n && pwB (posOf ord) ord && ord.all (fun i => decide (i < n)) && (List.range n).all (fun i => ord.contains i)
@[reducible] def pt : List Oper -> Nat -> Oper -> Oper
 | [], _, d => d
 | o :: _, 0, _ => o
 | _ :: l, i + 1, d => pt l i d
@[reducible] def tR (l : List Oper) (d : Oper) : List Nat -> List Oper
 | [] => []
 | i :: r => pt l i d :: tR l d r
theorem Av {d : Oper} : ∀ {l : List Oper} {i : Nat}, i < l.length -> l[i]? = some (pt l i d)
 | [], i, h => by simp at h
 | o :: l, 0, _ => rfl
 | o :: l, i + 1, h => by simpa using Av (l := l) (i := i) (by simpa using h)
theorem Ds {bar : Oper -> Bool} {Q : St -> Prop} {l : List Oper} {d : Oper} : ∀ {ord : List Nat} {σ : St}, (∀ i ∈ ord, i < l.length) -> Cd P l.toArray bar (tR l d ord) σ Q -> wV P l.toArray bar ord σ Q
 | [], σ, _, h => h
 | i :: r, σ, hi, h => by
  obtain ⟨σ', hs, hr⟩ := h
  exact ⟨_, σ', by rw [List.getElem?_toArray]; exact Av (hi i (by simp)), hs, Ds (fun j hj => hi j (by simp [hj])) hr⟩
theorem uU {bar : Oper -> Bool} {id : Nat} {Q : Exit -> St -> Prop} {σ : St} {ord : List Nat} (hm : P.follows .mixedOrders = true) (ho : ru ops.size ord = true) (hdr : NR ops (posOf ord) bar = true) (lr : yZ ops (posOf ord) σ = true) (h : wV P ops bar ord σ (Q .normal)) : AWP P (.region id ops true) Q σ := by
 intro T0 B a w gG
 refine wp_region_any hm ?_
 have iS := List.all_eq_true.1 hdr
 simp only [ru, Bool.and_eq_true, beq_iff_eq, List.all_eq_true, decide_eq_true_eq, List.mem_range, List.contains_iff_mem] at ho
 obtain ⟨⟨⟨o1, o2⟩, o3⟩, o4⟩ := ho
 refine DL (T0 := T0) (B := B) (w0 := w) (PT := []) (NB := []) (fun _ _ _ _ _ _ _ => Iv) hdr (Qa := Q .normal) (fun σ' a' w' hq hr hb => ⟨σ', hq, hr, hb⟩) ops.size ord _ σ a _ o1 (by simp) (tD o2) (fun i => ?_) o3 (fun m om eb hm => absurd (o4 m (Array.getElem?_eq_some_iff.1 eb).1) hm) ?_ Iv h (E4 gG) ⟨rfl, rfl, rfl, Nat.le_refl _, fun _ _ => rfl⟩
 ·rw [Array.getD_eq_getD_getElem?, Array.getElem?_replicate]
  constructor
  ·intro hh; rw [if_pos (o3 i hh)]; rfl
  ·intro hh
   split at hh
   ·rename_i lN; exact o4 i lN
   ·cases hh
 ·intro j hj hl
  have hjs := o3 j hj
  have hb := iS j (List.mem_range.2 hjs)
  simp only [Bool.and_eq_true, Bool.or_eq_true, Bool.not_eq_true'] at hb
  refine ⟨hb.2.resolve_left (by unfold Rw at hl; rw [hl]; simp), ?_⟩
  have hc := List.all_eq_true.1 lr j (List.mem_range.2 hjs)
  unfold Rw at hl
  simp only [hl, Bool.not_true, Bool.false_or] at hc
  rw [Array.getElem?_eq_getElem hjs] at hc
  simp only [Option.bind_some] at hc
  cases hd : ops[j].dst with
  | none => rw [hd] at hc; cases hc
  | some d => rw [hd] at hc; exact ⟨_, d, Array.getElem?_eq_getElem hjs, hd, hc⟩
theorem H4 {id : Nat} {σ : St} {o : Oper} {l : List Oper} {br : Oper -> Bool} {k : Fr} (ord : List Nat) (hm : P.follows .mixedOrders = true) (ho : ru (o :: l).length ord = true) (hdr : NR ⟨o :: l⟩ (posOf ord) (fun _ => false) = true) (lr : yZ ⟨o :: l⟩ (posOf ord) σ = true)
  (h : @EI P σ ⟨⟨o :: l⟩, fun _ => false⟩ ⟨tR (o :: l) o ord⟩ k) : @DI P id σ ⟨⟨o :: l⟩, br⟩ k := by
 have h2 : ∀ i ∈ ord, i < (o :: l).length := by
  simp only [ru, Bool.and_eq_true, List.all_eq_true, decide_eq_true_eq] at ho
  exact ho.1.2
 exact uU hm ho hdr lr (Ds h2 (JO h))
end
end Go.Vm
