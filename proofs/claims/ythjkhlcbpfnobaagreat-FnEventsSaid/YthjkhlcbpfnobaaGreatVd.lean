/- An abstract machine NL the model of Go, by value, and that it is sound: part Vd. No condition. -/
import Derived.Test.YthjkhlcbpfnobaaGreatVc
import Derived.Orders
set_option linter.unusedVariables false
set_option linter.unusedSimpArgs false
namespace Go.Vm
open Go.RowKit
structure Sub (P : Program) (xs : List Operand) (σ1 σ : St) : Prop where
 len : σ1.length = σ.length
 look : ∀ x ∈ xs, ∀ ty, look P σ1 ty x = look P σ ty x
 ob : ∀ x ∈ xs, ∀ ty u, (Vm.look P σ1 ty x).ref u = true -> ∀ j, σ1.ob u j ≠ .none -> σ.ob u j = σ1.ob u j
theorem Xm {v : V} {x : At} {u : Nat} (h : unc v = .one x) (hx : x.ref u = true) : v.ref u = true := by
 cases v with
 | cnd g y => simp only [unc] at h; subst h; simp only [V.ref, V.Rc, Bool.or_eq_true]; exact .inl hx
 | one y => simp only [unc] at h; cases h; exact hx
 | any => simp [unc] at h
 | agg xs => simp [unc] at h
 | tup xs => simp [unc] at h
 | fix g y => simp only [unc] at h; subst h; simp only [V.ref, V.Rc, Bool.or_eq_true]; exact .inl hx
theorem Si {v : V} {xs : List At} {u : Nat} (h : unc v = .agg xs) (hx : YN u xs = true) : v.ref u = true := by
 cases v with
 | cnd g y => simp only [unc] at h; subst h; simp only [V.ref, V.Rc, Bool.or_eq_true]; exact .inl hx
 | agg y => simp only [unc] at h; cases h; exact hx
 | any => simp [unc] at h
 | one xs => simp [unc] at h
 | tup xs => simp [unc] at h
 | fix g y => simp only [unc] at h; subst h; simp only [V.ref, V.Rc, Bool.or_eq_true]; exact .inl hx
theorem jt {v : V} {u : Nat} (hx : YN u (unc v).cells = true) : v.ref u = true := by
 cases h : unc v with
 | one x => rw [h] at hx; simp [V.cells, YN] at hx; exact Xm h hx
 | agg xs => rw [h] at hx; exact Si h hx
 | any => rw [h] at hx; simp [V.cells, YN] at hx
 | tup xs => rw [h] at hx; simp [V.cells, YN] at hx
 | cnd g x => rw [h] at hx; simp [V.cells, YN] at hx
 | fix u x => rw [h] at hx; simp [V.cells, YN] at hx
section
variable {P : Program} {σ1 σ : St}
theorem Sub.same {xs : List Operand} {x : Operand} {ty : TypeId} {a : At} {u j : Nat} {o : Ob} (h : Sub P xs σ1 σ) (hx : x ∈ xs) (hv : unc (Vm.look P σ ty x) = .one a) (ha : a.ref u = true) (ho : σ1.ob u j = o) (hn : o ≠ .none) : σ.ob u j = o := by
 rw [<- ho]
 refine h.ob x hx ty u ?_ j (by rw [ho]; exact hn)
 rw [h.look x hx ty]
 exact Xm hv ha
theorem yL {xs : List Operand} {x : Operand} {k : IntKind} {n : Int} (h : Sub P xs σ1 σ) (hx : x ∈ xs) (hl : kW P σ1 x k n) : kW P σ x k n := by
 unfold kW at *
 rw [<- h.look x hx]; exact hl
theorem HE {xs : List Operand} {df n : Nat} {x : Option Operand} (h : Sub P xs σ1 σ) (hx : ∀ y, x = some y -> y ∈ xs) (hl : bnd P σ1 df x n) : bnd P σ df x n := by
 cases x with
 | none => exact hl
 | some x =>
  simp only [bnd] at *
  rw [<- h.look x (hx x rfl)]; exact hl
theorem R1 {T : TypeId} : ∀ {ps : List (Nat × Operand)} {z out : List At}, Sub P (ps.map (·.2)) σ1 σ -> VN P σ1 T ps z out -> VN P σ T ps z out
 | [], _, _, _, h => h
 | (i, x) :: ps, z, out, hs, h => by
  have e := hs.look x (by simp)
  simp only [VN] at h ⊢
  rw [<- e]
  refine ⟨h.1, h.2.1, h.2.2.1, h.2.2.2.1, h.2.2.2.2.1, R1 ⟨hs.len, fun y hy => hs.look y (by simp at hy ⊢; exact .inr hy), fun y hy => hs.ob y (by simp at hy ⊢; exact .inr hy)⟩ h.2.2.2.2.2⟩
theorem jK {op : Op} {ty : TypeId} {v : V} (hs : YQ P σ1 op ty v) (h : Sub P op.operands.toList σ1 σ) : YQ P σ op ty v := by
 cases op <;> simp only [YQ] at hs ⊢
 case move x => rw [<- h.look x (by simp [Op.operands])]; exact hs
 case assign x => rw [<- h.look x (by simp [Op.operands])]; exact hs
 case pick c a b =>
  rw [<- h.look c (by simp [Op.operands]), <- h.look a (by simp [Op.operands]), <- h.look b (by simp [Op.operands])]; exact hs
 case load T x =>
  rw [h.look x (by simp [Op.operands])] at hs
  refine ⟨hs.1, hs.2.1, ?_⟩
  have uO := hs.2.2
  split at uO
  ·rename_i t c hx
   obtain ⟨cells, ho, hr⟩ := uO
   exact ⟨cells, h.same (by simp [Op.operands]) hx (by simp [At.ref]) ho (by simp), hr⟩
  ·rename_i t j i c hx
   obtain ⟨q, size, rows, ho, hr⟩ := uO
   exact ⟨q, size, rows, h.same (by simp [Op.operands]) hx (by simp [At.ref]) ho (by simp), hr⟩
  ·exact uO
  ·rename_i t j i c k hx
   obtain ⟨size, rows, s, ho, hr⟩ := uO
   exact ⟨size, rows, s, h.same (by simp [Op.operands]) hx (by simp [At.ref]) ho (by simp), hr⟩
  ·exact uO.elim
 case nilCheck x =>
  rw [h.look x (by simp [Op.operands])] at hs
  refine ⟨hs.1, ?_⟩
  have uO := hs.2
  split at uO
  ·rename_i t c hx
   obtain ⟨⟨cells, ho⟩, hr⟩ := uO
   exact ⟨⟨cells, h.same (by simp [Op.operands]) hx (by simp [At.ref]) ho (by simp)⟩, hr⟩
  ·exact uO.elim
 case fieldAddr T x f =>
  rw [h.look x (by simp [Op.operands])] at hs
  refine ⟨hs.1, hs.2.1, ?_⟩
  have uO := hs.2.2
  split at uO
  ·rename_i t c hx
   obtain ⟨⟨cells, ho⟩, hr⟩ := uO
   exact ⟨⟨cells, h.same (by simp [Op.operands]) hx (by simp [At.ref]) ho (by simp)⟩, hr⟩
  ·rename_i t j i c hx
   obtain ⟨⟨q, size, rows, ho⟩, hr⟩ := uO
   exact ⟨⟨q, size, rows, h.same (by simp [Op.operands]) hx (by simp [At.ref]) ho (by simp)⟩, hr⟩
  ·exact uO
  ·rename_i t j i c k hx
   obtain ⟨⟨size, rows, ho⟩, hr⟩ := uO
   exact ⟨⟨size, rows, h.same (by simp [Op.operands]) hx (by simp [At.ref]) ho (by simp)⟩, hr⟩
  ·exact uO.elim
 case indexAddr T x ix =>
  obtain ⟨k, i, hk, h0, hg, uO⟩ := hs
  rw [h.look x (by simp [Op.operands])] at hg uO
  refine ⟨k, i, yL h (by simp [Op.operands]) hk, h0, hg, ?_⟩
  split at uO
  ·exact uO
  ·rename_i t j lo len hx
   obtain ⟨h1, h2, ⟨q, rows, ho⟩, hr⟩ := uO
   exact ⟨h1, h2, ⟨q, rows, h.same (by simp [Op.operands]) hx (by simp [At.ref]) ho (by simp)⟩, hr⟩
  ·rename_i t c hx
   obtain ⟨⟨cells, ho⟩, hr⟩ := uO
   exact ⟨⟨cells, h.same (by simp [Op.operands]) hx (by simp [At.ref]) ho (by simp)⟩, hr⟩
  ·rename_i t j m c hx
   obtain ⟨h1, h2, ⟨size, rows, s, ho, hr⟩, hv⟩ := uO
   exact ⟨h1, h2, ⟨size, rows, s, h.same (by simp [Op.operands]) hx (by simp [At.ref]) ho (by simp), hr⟩, hv⟩
  ·exact uO.elim
 case index T x ix =>
  obtain ⟨k, i, hk, h0, hg, uO⟩ := hs
  rw [h.look x (by simp [Op.operands])] at hg uO
  exact ⟨k, i, yL h (by simp [Op.operands]) hk, h0, hg, uO⟩
 case slice T x lo hi mx =>
  cases mx with
  | some m => exact hs.elim
  | none =>
   simp only at hs ⊢
   rw [h.look x (by simp [Op.operands])] at hs
   refine ⟨hs.1, ?_⟩
   have uO := hs.2
   have b1 : ∀ df n, bnd P σ1 df lo n -> bnd P σ df lo n := fun df n => HE h (fun y hy => by subst hy; simp [Op.operands])
   have b2 : ∀ df n, bnd P σ1 df hi n -> bnd P σ df hi n := fun df n => HE h (fun y hy => by subst hy; simp [Op.operands])
   split at uO
   ·obtain ⟨h1, l, hh, h2, h3, hr⟩ := uO
    exact ⟨h1, l, hh, b1 _ _ h2, b2 _ _ h3, hr⟩
   ·obtain ⟨h1, dF, l, hh, h2, h3, hr⟩ := uO
    exact ⟨h1, dF, l, hh, b1 _ _ h2, b2 _ _ h3, hr⟩
   ·rename_i t j o len hx
    obtain ⟨h1, ⟨q, rows, ho⟩, l, hh, h2, h3, hr⟩ := uO
    exact ⟨h1, ⟨q, rows, h.same (by simp [Op.operands]) hx (by simp [At.ref]) ho (by simp)⟩, l, hh, b1 _ _ h2, b2 _ _ h3, hr⟩
   ·exact uO.elim
 case binOp op T x y yt =>
  rw [<- h.look x (by simp [Op.operands]), <- h.look y (by simp [Op.operands])]; exact hs
 case unOp op T x => rw [<- h.look x (by simp [Op.operands])]; exact hs
 case convert S T x => rw [<- h.look x (by simp [Op.operands])]; exact hs
 case extract x i => rw [<- h.look x (by simp [Op.operands])]; exact hs
 case field T x f => rw [<- h.look x (by simp [Op.operands])]; exact hs
 case build T parts =>
  obtain ⟨h1, h2, z, out, h3, h4, h5⟩ := hs
  refine ⟨h1, h2, z, out, h3, R1 ?_ h4, h5⟩
  simpa [Op.operands] using h
 case call c =>
  obtain ⟨gF, args, gf⟩ := c
  have hm : ∀ x ∈ args.toList, x ∈ (Op.operands (.call ⟨gF, args, gf⟩)).toList := by
   intro x hx
   simp only [Op.operands, Call.operands]
   cases gF <;> simp at hx ⊢ <;> simp [hx]
  split at hs
  ·rename_i x t hc ha ht
   rw [h.look x (hm x (by rw [ha]; simp))] at hs
   try simp only [hc, ha, ht]
   refine ⟨hs.1, ?_⟩
   have uO := hs.2
   split at uO
   ·exact uO
   ·exact uO
   ·exact uO
   ·rename_i u j lo len hx
    obtain ⟨h1, ⟨q, size, rows, ho⟩ | ⟨size, rows, ho⟩, hr⟩ := uO
    ·exact ⟨h1, .inl ⟨q, size, rows, h.same (hm x (by rw [ha]; simp)) hx (by simp [At.ref]) ho (by simp)⟩, hr⟩
    ·exact ⟨h1, .inr ⟨size, rows, h.same (hm x (by rw [ha]; simp)) hx (by simp [At.ref]) ho (by simp)⟩, hr⟩
   ·rename_i u j i c hx
    obtain ⟨h1, size, rows, n, s, ho, hr⟩ := uO
    exact ⟨h1, size, rows, n, s, h.same (hm x (by rw [ha]; simp)) hx (by simp [At.ref]) ho (by simp), hr⟩
   ·exact uO.elim
  ·rename_i x y hc ha
   try simp only [hc, ha]
   obtain ⟨k, m, n, h1, h2, h3⟩ := hs
   exact ⟨k, m, n, yL h (hm x (by rw [ha]; simp)) h1, yL h (hm y (by rw [ha]; simp)) h2, h3⟩
  ·rename_i x y hc ha
   try simp only [hc, ha]
   obtain ⟨k, m, n, h1, h2, h3⟩ := hs
   exact ⟨k, m, n, yL h (hm x (by rw [ha]; simp)) h1, yL h (hm y (by rw [ha]; simp)) h2, h3⟩
  ·exact hs.elim
end
end Go.Vm
namespace Go.Vm
open Go.RowKit
def Rj (P : Program) (xs : List Operand) (σ : St) (u : Nat) : Prop :=
 ∃ x ∈ xs, ∃ ty, (look P σ ty x).ref u = true \/ ∃ t cells, (look P σ ty x).ref t = true /\ σ.ob t 0 = .box cells /\ YN u cells = true
theorem KX {u : Nat} : ∀ {xs : List At}, YN u xs = true ↔ ∃ x ∈ xs, x.ref u = true
 | [] => by simp [YN]
 | x :: xs => by simp [YN, KX]
theorem Eh {u : Nat} {xs ys : List At} (h : ∀ x ∈ xs, x ∈ ys) (hx : YN u xs = true) : YN u ys = true := by
 obtain ⟨x, h1, h2⟩ := KX.1 hx
 exact KX.2 ⟨x, h x h1, h2⟩
theorem Sy {u a b : Nat} {xs : List At} (hx : YN u (cut xs a b) = true) : YN u xs = true :=
 Eh (fun _ h => List.mem_of_mem_drop (List.mem_of_mem_take h)) hx
theorem kN {u : Nat} (xs : List D) : YN u (xs.map .d) = false := by
 induction xs with
 | nil => rfl
 | cons x xs ih => simp [YN, At.ref, ih]
theorem Tv {P : Program} {T : TypeId} {u : Nat} {xs : List At} (h : (ldV P T xs).ref u = true) : YN u xs = true := by
 unfold ldV at h
 split at h
 ·exact h
 ·split at h
  ·simpa [V.ref, YN] using h
  ·simp [V.ref] at h
theorem Dh {u o : Nat} {r xs : List At} (h : YN u (place r o xs) = true) : YN u r = true \/ YN u xs = true := by
 obtain ⟨x, h1, h2⟩ := KX.1 h
 simp only [place, List.mem_append] at h1
 rcases h1 with (h1 | h1) | h1
 ·exact .inl (KX.2 ⟨x, List.mem_of_mem_take h1, h2⟩)
 ·exact .inr (KX.2 ⟨x, h1, h2⟩)
 ·exact .inl (KX.2 ⟨x, List.mem_of_mem_drop h1, h2⟩)
theorem Bj {v : V} {u : Nat} (h : (unc v).ref u = true) (hc : ∀ g x, unc v ≠ .cnd g x) (hf : ∀ g x, unc v ≠ .fix g x) : v.ref u = true := by
 cases v with
 | cnd g x =>
  simp only [unc] at h hc hf
  simp only [V.ref, Bool.or_eq_true]
  cases x with
  | tup xs => exact .inr h
  | cnd g y => exact absurd rfl (hc g y)
  | fix g y => exact absurd rfl (hf g y)
  | one x => exact .inl h
  | agg x => exact .inl h
  | any => exact .inl h
 | fix g x =>
  simp only [unc] at h hc hf
  simp only [V.ref, Bool.or_eq_true]
  cases x with
  | tup xs => exact .inr h
  | cnd g y => exact absurd rfl (hc g y)
  | fix g y => exact absurd rfl (hf g y)
  | one x => exact .inl h
  | agg x => exact .inl h
  | any => exact .inl h
 | _ => exact h
theorem Mm {u t j i : Nat} : ∀ {c : Nat} {xs : List D}, YN u (je t j i c xs) = true -> u = t
 | _, [], h => by simp [je, YN] at h
 | c, x :: xs, h => by
  simp only [je, YN, Bool.or_eq_true] at h
  rcases h with h | h
  ·cases x <;> simp [At.ref] at h; exact h.symm
  ·exact Mm h
theorem EF {u t j i c : Nat} {q : Bool} {xs : List D} (h : YN u (Vs q t j i c xs) = true) : u = t := by
 cases q with
 | true => exact Mm h
 | false => simp only [Vs] at h; rw [kN] at h; cases h
theorem Gt {op : BinOp} {k : IntKind} {x y : Int} {v : V} (h : LW op k x y v) (u : Nat) : v.ref u = false := by
 cases op <;> simp only [LW] at h <;> first | (subst h; rfl) | (obtain ⟨_, rfl⟩ := h; rfl) | exact h.elim
theorem Gs {op : BinOp} {x y : ByteArray} {v : V} (h : MT op x y v) (u : Nat) : v.ref u = false := by
 cases op <;> simp only [MT] at h <;> first | (subst h; rfl) | (obtain ⟨_, rfl⟩ := h; rfl) | exact h.elim
theorem HU {op : BinOp} {x y : Bool} {v : V} (h : Rz op x y v) (u : Nat) : v.ref u = false := by
 cases op <;> simp only [Rz] at h <;> first | (subst h; rfl) | (obtain ⟨_, rfl⟩ := h; rfl) | exact h.elim
theorem F7 {P : Program} {op : BinOp} {T : TypeId} {x y v : V} (h : FU P op T x y v) (u : Nat) : v.ref u = false := by
 unfold FU at h
 split at h
 ·exact Gt h.2 u
 ·exact Gs h u
 ·exact HU h.2 u
 ·obtain ⟨_, q, _, ⟨_, rfl⟩ | ⟨_, rfl⟩⟩ := h <;> rfl
 ·exact h.elim
theorem Ix {u : Nat} : ∀ {xs : List V} {i : Nat} {v : V}, xs[i]? = some v -> v.Rc u = true -> VQ u xs = true
 | [], _, _, h, _ => by simp at h
 | x :: xs, 0, v, h, hr => by simp at h; subst h; simp [VQ, hr]
 | x :: xs, i + 1, v, h, hr => by simp only [VQ, Bool.or_eq_true]; exact .inr (Ix (by simpa using h) hr)
theorem Iu {v : V} (hf : v.flat = true) (u : Nat) : v.ref u = v.Rc u := by
 cases v <;> first | rfl | (simp [V.flat] at hf)
theorem MA {P : Program} {σ : St} {T : TypeId} {u : Nat} : ∀ {ps : List (Nat × Operand)} {z out : List At}, VN P σ T ps z out -> YN u out = true ->
  YN u z = true \/ ∃ x ∈ ps.map (·.2), ∃ ty, (look P σ ty x).ref u = true
 | [], z, out, h, hr => by simp only [VN] at h; subst h; exact .inl hr
 | (i, x) :: ps, z, out, h, hr => by
  simp only [VN] at h
  rcases MA h.2.2.2.2.2 hr with h1 | ⟨y, hy, ty, h1⟩
  ·rcases Dh h1 with h1 | h1
   ·exact .inl h1
   ·exact .inr ⟨x, by simp, _, jt h1⟩
  ·exact .inr ⟨y, by simp at hy ⊢; exact .inr hy, ty, h1⟩
theorem OB {P : Program} {σ : St} {op : Op} {ty : TypeId} {v : V} {u : Nat} (hs : YQ P σ op ty v) (hr : v.ref u = true) : Rj P op.operands.toList σ u := by
 have bG : ∀ {x : D}, v = .one (.d x) -> False := by intro x e; rw [e] at hr; cases hr
 cases op <;> simp only [YQ] at hs
 case move x => subst hs; exact ⟨x, by simp [Op.operands], ty, .inl hr⟩
 case assign x => subst hs; exact ⟨x, by simp [Op.operands], ty, .inl hr⟩
 case pick c a b => obtain ⟨bc, p, q, _, _, _, _, _, _, rfl⟩ := hs; cases hr
 case load T x =>
  have uO := hs.2.2
  split at uO
  ·rename_i t c hx
   obtain ⟨cells, ho, _, rfl⟩ := uO
   exact ⟨x, by simp [Op.operands], 0, .inr ⟨t, cells, Xm hx (by simp [At.ref]), ho, Sy (Tv hr)⟩⟩
  ·rename_i t j i c hx
   obtain ⟨q, size, rows, _, _, _, rfl⟩ := uO
   have := EF (Tv hr)
   exact ⟨x, by simp [Op.operands], 0, .inl (Xm hx (by simp [At.ref, this]))⟩
  ·obtain ⟨_, rfl⟩ := uO
   have := Tv hr; rw [kN] at this; cases this
  ·obtain ⟨_, _, _, _, _, _, _, _, _, rfl⟩ := uO
   have := Tv hr; rw [kN] at this; cases this
  ·exact uO.elim
 case nilCheck x =>
  have uO := hs.2
  split at uO
  ·rename_i t c hx
   obtain ⟨_, rfl⟩ := uO
   exact ⟨x, by simp [Op.operands], 0, .inl (Xm hx hr)⟩
  ·exact uO.elim
 case fieldAddr T x f =>
  have uO := hs.2.2
  split at uO
  ·rename_i t c hx
   obtain ⟨_, rfl⟩ := uO
   exact ⟨x, by simp [Op.operands], 0, .inl (Xm hx hr)⟩
  ·rename_i t j i c hx
   obtain ⟨_, rfl⟩ := uO
   exact ⟨x, by simp [Op.operands], 0, .inl (Xm hx hr)⟩
  ·subst uO; cases hr
  ·rename_i t j i c k hx
   obtain ⟨_, rfl⟩ := uO
   exact ⟨x, by simp [Op.operands], 0, .inl (Xm hx hr)⟩
  ·exact uO.elim
 case indexAddr T x ix =>
  obtain ⟨k, i, _, _, _, uO⟩ := hs
  split at uO
  ·obtain ⟨_, _, _, _, rfl⟩ := uO; cases hr
  ·rename_i t j lo len hx
   obtain ⟨_, _, _, _, rfl⟩ := uO
   exact ⟨x, by simp [Op.operands], 0, .inl (Xm hx hr)⟩
  ·rename_i t c hx
   obtain ⟨_, _, rfl⟩ := uO
   exact ⟨x, by simp [Op.operands], 0, .inl (Xm hx hr)⟩
  ·rename_i t j m c hx
   obtain ⟨_, _, _, rfl⟩ := uO
   exact ⟨x, by simp [Op.operands], 0, .inl (Xm hx hr)⟩
  ·exact uO.elim
 case index T x ix =>
  obtain ⟨k, i, _, _, _, uO⟩ := hs
  split at uO
  ·obtain ⟨_, _, rfl⟩ := uO; cases hr
  ·rename_i xs hx
   obtain ⟨_, _, _, rfl⟩ := uO
   exact ⟨x, by simp [Op.operands], 0, .inl (Si hx (Sy (Tv hr)))⟩
  ·exact uO.elim
 case slice T x lo hi mx =>
  cases mx with
  | some m => exact hs.elim
  | none =>
   simp only at hs
   have uO := hs.2
   split at uO
   ·obtain ⟨_, _, _, _, _, _, _, rfl⟩ := uO; cases hr
   ·obtain ⟨_, _, _, _, _, _, _, _, rfl⟩ := uO; cases hr
   ·rename_i t j o len hx
    obtain ⟨_, _, _, _, _, _, _, _, rfl⟩ := uO
    exact ⟨x, by simp [Op.operands], 0, .inl (Xm hx hr)⟩
   ·exact uO.elim
 case binOp op T x y yt => rw [F7 hs.2.2 u] at hr; cases hr
 case unOp op T x =>
  have uO := hs.2
  split at uO
  ·subst uO; cases hr
  ·subst uO; cases hr
  ·exact uO.elim
 case convert S T x =>
  have uO := hs.2.2
  split at uO
  ·obtain ⟨_, _, rfl⟩ := uO; cases hr
  ·exact uO.elim
 case extract x i =>
  have uO := hs.2
  split at uO
  ·rename_i xs hx
   refine ⟨x, by simp [Op.operands], 0, .inl (Bj ?_ (by rw [hx]; simp) (by rw [hx]; simp))⟩
   rw [hx]
   rw [Iu uO.2] at hr
   exact Ix uO.1 hr
  ·exact uO.elim
 case field T x f =>
  have uO := hs.2.2.2
  split at uO
  ·rename_i xs hx
   obtain ⟨_, rfl⟩ := uO
   exact ⟨x, by simp [Op.operands], 0, .inl (Si hx (Sy (Tv hr)))⟩
  ·exact uO.elim
 case build T parts =>
  obtain ⟨_, _, z, out, h3, h4, rfl⟩ := hs
  rcases MA h4 hr with h1 | ⟨x, hx, eK, h1⟩
  ·rw [RC u _ _ _ h3] at h1; cases h1
  ·exact ⟨x, by simpa [Op.operands] using hx, eK, .inl h1⟩
 case call c =>
  split at hs
  ·have uO := hs.2
   split at uO
   ·obtain ⟨_, rfl⟩ := uO; cases hr
   ·obtain ⟨_, rfl⟩ := uO; cases hr
   ·obtain ⟨_, rfl⟩ := uO; cases hr
   ·obtain ⟨_, _, rfl⟩ := uO; cases hr
   ·obtain ⟨_, _, _, _, _, _, _, _, rfl⟩ := uO; cases hr
   ·exact uO.elim
  ·obtain ⟨_, _, _, _, _, rfl⟩ := hs; cases hr
  ·obtain ⟨_, _, _, _, _, rfl⟩ := hs; cases hr
  ·exact hs.elim
end Go.Vm
namespace Go.Vm
open Go.RowKit
inductive Eff where
 | put (v : V)
 | new (v : V) (os : List Ob)
 | drop (t j : Nat) (v : V) (os : List Ob)
def Eff.ap (d : Nat) : Eff -> St -> St
 | .put v, σ => σ.put d v
 | .new v os, σ => σ.new d v os
 | .drop t j v os, σ => (σ.Zs t j .none).new d v os
def Eff.ok (d : Nat) : Eff -> St -> Prop
 | .put _, _ => True
 | .new _ _, σ => σ.fresh d = true
 | .drop t j _ _, σ => (∃ q s r, σ.ob t j = .arr q s r) /\ (σ.Zs t j .none).fresh d = true
def Eff.ref (u : Nat) : Eff -> Bool
 | .put v => v.ref u
 | .new v os => v.ref u || Yl u os
 | .drop _ _ v os => v.ref u || Yl u os
def WB (o : Oper) : Bool :=
 match o.op with
 | .call ⟨.builtin .append, ⟨.const _ :: _⟩, _⟩ => false
 | .call ⟨.builtin .append, _, _⟩ => true
 | _ => false
def KN (o : Oper) : Bool :=
 match o.op with
 | .alloc _ => false
 | .box _ _ => false
 | .buildSlice _ _ _ => false
 | .makeSlice _ _ _ => false
 | .call ⟨.builtin .append, _, _⟩ => false
 | .call ⟨.value _, _, _⟩ => false
 | _ => true
def K4 (ops : Array Oper) (o : Oper) : List Operand :=
 o.op.operands.toList ++ (match o.guard with | some (j, _) => (match (ops[j]?).bind (·.dst) with | some dj => [.tmp dj] | none => []) | none => [])
section
variable {P : Program} {σ1 σ : St}
theorem Sub.left {xs ys : List Operand} (h : Sub P (xs ++ ys) σ1 σ) : Sub P xs σ1 σ := ⟨h.len, fun x hx => h.look x (by simp [hx]), fun x hx => h.ob x (by simp [hx])⟩
theorem Hs {x : At} {d : D} (h : ∀ u, x.ref u = true -> ∀ j, σ1.ob u j ≠ .none -> σ.ob u j = σ1.ob u j) (hd : Kg σ1 x = some d) : Kg σ x = some d := by
 cases x with
 | sref t j lo len =>
  simp only [Kg] at hd ⊢
  split at hd
  ·rename_i q size rows ho
   rw [h t (by simp [At.ref]) j (by rw [ho]; simp), ho]; exact hd
  ·cases hd
 | _ => exact hd
theorem jN : ∀ {xs : List At} {r : List D}, (∀ u, YN u xs = true -> ∀ j, σ1.ob u j ≠ .none -> σ.ob u j = σ1.ob u j) -> rowOf σ1 xs = some r -> rowOf σ xs = some r
 | [], _, _, h => h
 | x :: xs, r, h, hr => by
  simp only [rowOf] at hr ⊢
  split at hr
  ·rename_i d ds h1 h2
   rw [Hs (fun u hu => h u (by rw [YN, hu]; rfl)) h1, jN (fun u hu => h u (by rw [YN, hu, Bool.or_true])) h2]
   exact hr
  ·cases hr
theorem Lh {v : V} {r : List D} (h : ∀ u, YN u v.cells = true -> ∀ j, σ1.ob u j ≠ .none -> σ.ob u j = σ1.ob u j) (hr : v.Jt σ1 = some r) : v.Jt σ = some r := by
 cases v with
 | one x => exact jN h hr
 | agg xs =>
  match xs, h, hr with
  | [], h, hr => exact jN h hr
  | [_], _, hr => simp [V.Jt] at hr
  | x :: y :: xs, h, hr => exact jN h hr
 | any => simp [V.Jt] at hr
 | tup xs => simp [V.Jt] at hr
 | cnd g x => simp [V.Jt] at hr
 | fix u x => simp [V.Jt] at hr
theorem Sub.cells {xs : List Operand} {x : Operand} (h : Sub P xs σ1 σ) (hx : x ∈ xs) (ty : TypeId) : ∀ u, YN u (unc (Vm.look P σ1 ty x)).cells = true -> ∀ j, σ1.ob u j ≠ .none -> σ.ob u j = σ1.ob u j :=
 fun u hu j hn => h.ob x hx ty u (jt hu) j hn
theorem jA : ∀ {xs : List Operand} {ts : List TypeId} {rs : List (List D)}, Sub P xs σ1 σ -> QF P σ1 xs ts rs -> QF P σ xs ts rs
 | [], _, _, _, h => h
 | x :: xs, [], _, _, h => h.elim
 | x :: xs, t :: ts, rs, hs, h => by
  obtain ⟨hg, r, rest, h1, h2, h3⟩ := h
  have e := hs.look x (by simp) t
  refine ⟨by rw [<- e]; exact hg, r, rest, ?_, jA ⟨hs.len, fun y hy => hs.look y (by simp [hy]), fun y hy => hs.ob y (by simp [hy])⟩ h2, h3⟩
  rw [<- e]
  exact Lh (hs.cells (by simp) t) h1
theorem qc : ∀ {xs : List Operand} {ts : List TypeId}, Sub P xs σ1 σ -> YZ P σ xs ts = YZ P σ1 xs ts
 | [], _, _ => by simp [YZ]
 | x :: xs, [], _ => by simp [YZ]
 | x :: xs, t :: ts, hs => by
  simp only [YZ]
  rw [hs.look x (by simp) t, qc ⟨hs.len, fun y hy => hs.look y (by simp [hy]), fun y hy => hs.ob y (by simp [hy])⟩]
theorem Tf {c : Call} {f : FuncId} {own : Bool} {res : List (List D)} (hs : Sub P c.args.toList σ1 σ) (h : G7 P σ1 c f own res) : G7 P σ c f own res := by
 obtain ⟨rows, h1, h2, h3⟩ := h
 exact ⟨rows, jA hs h1, h2, by rw [qc hs]; exact h3⟩
theorem TT {T : TypeId} {size : Nat} : ∀ {ps : List (Nat × Operand)} {k : Nat} {rs : List (List D)}, Sub P (ps.map (·.2)) σ1 σ -> Re P σ1 T size ps k rs -> Re P σ T size ps k rs
 | [], _, _, _, h => h
 | (i, x) :: ps, k, rs, hs, h => by
  have e := hs.look x (by simp) T
  obtain ⟨h1, h2, h3, h4, r, rest, h5, h6, h7, h8⟩ := h
  refine ⟨h1, by rw [<- e]; exact h2, by rw [<- e]; exact h3, by rw [<- e]; exact h4, r, rest, ?_, h6, TT ⟨hs.len, fun y hy => hs.look y (by simp at hy ⊢; exact .inr hy), fun y hy => hs.ob y (by simp at hy ⊢; exact .inr hy)⟩ h7, h8⟩
  rw [<- e]
  exact jN (hs.cells (by simp) T) h5
theorem OK {T : TypeId} {size : Nat} : ∀ {ps : List (Nat × Operand)} {k : Nat} {rs : List (List At)}, Sub P (ps.map (·.2)) σ1 σ -> R2 P σ1 T size ps k rs -> R2 P σ T size ps k rs
 | [], _, _, _, h => h
 | (i, x) :: ps, k, rs, hs, h => by
  obtain ⟨h1, h2, h3, h4, rest, h5, h6⟩ := h
  have e := hs.look x (by simp) T
  rw [e] at h2 h3 h4 h6
  exact ⟨h1, h2, h3, h4, rest, OK ⟨hs.len, fun y hy => hs.look y (by simp at hy ⊢; exact .inr hy), fun y hy => hs.ob y (by simp at hy ⊢; exact .inr hy)⟩ h5, h6⟩
theorem I5 {T : TypeId} {size u : Nat} : ∀ {ps : List (Nat × Operand)} {k : Nat} {rs : List (List At)}, R2 P σ T size ps k rs -> YN u rs.flatten = true -> ∃ x ∈ ps.map (·.2), (Vm.look P σ T x).ref u = true
 | [], _, _, h, hr => by simp only [R2] at h; subst h; simp [YN] at hr
 | (i, x) :: ps, k, rs, h, hr => by
  obtain ⟨h1, h2, h3, h4, rest, h5, rfl⟩ := h
  rw [List.flatten_cons] at hr
  obtain ⟨z, hz, sn⟩ := KX.1 hr
  rcases List.mem_append.1 hz with hz | hz
  ·exact ⟨x, by simp, jt (KX.2 ⟨z, hz, sn⟩)⟩
  ·obtain ⟨y, hy, dG⟩ := I5 h5 (KX.2 ⟨z, hz, sn⟩)
   exact ⟨y, by simp at hy ⊢; exact .inr hy, dG⟩
theorem Kz (u : Nat) : ∀ (qs : List Bool) (ds : List D), Yl u (Yh qs ds) = false
 | qs, [] => by cases qs <;> rfl
 | q :: qs, .sl size rows :: ds => by simp [Yh, Yl, Kz u qs ds]
 | [], .sl size rows :: ds => by simp [Yh, Yl, Kz u [] ds]
 | qs, .int _ _ :: ds => by cases qs <;> simp [Yh, Yl, Kz u _ ds]
 | qs, .bool _ :: ds => by cases qs <;> simp [Yh, Yl, Kz u _ ds]
 | qs, .str _ :: ds => by cases qs <;> simp [Yh, Yl, Kz u _ ds]
 | qs, .unk :: ds => by cases qs <;> simp [Yh, Yl, Kz u _ ds]
theorem VK {xs : List Operand} {x : Operand} {ty : TypeId} {size : Nat} {news : List (List D)} (hs : Sub P xs σ1 σ) (hx : x ∈ xs) (h : qz σ1 (unc (Vm.look P σ1 ty x)) size news) : qz σ (unc (Vm.look P σ ty x)) size news := by
 rw [hs.look x hx] at h
 unfold qz at h ⊢
 split at h
 ·exact h
 ·exact h
 ·rename_i t j lo len hv
  obtain ⟨rows, ho, hr⟩ := h
  exact ⟨rows, hs.same hx hv (by simp [At.ref]) ho (by simp), hr⟩
 ·exact h.elim
theorem De (u : Nat) (r : List D) : (vOf (r.map At.d)).ref u = false := by
 have := kN (u := u) r
 match r, this with
 | [], _ => rfl
 | [x], _ => rfl
 | x :: y :: r, h => exact h
theorem EV (u : Nat) (r : List D) : (vOf (r.map At.d)).Rc u = false := by
 have := kN (u := u) r
 match r, this with
 | [], _ => rfl
 | [x], _ => rfl
 | x :: y :: r, h => exact h
theorem HC (u : Nat) (res : List (List D)) : (yu res).ref u = false := by
 have tl : ∀ rs : List (List D), VQ u (rs.map fun r => vOf (r.map At.d)) = false := by
  intro rs
  induction rs with
  | nil => rfl
  | cons r rs ih => simp only [List.map_cons, VQ, EV, ih, Bool.or_false]
 match res with
 | [] => rfl
 | [r] => exact De u r
 | r :: r' :: rs => exact tl (r :: r' :: rs)
theorem Sq {u d : Nat} (hu : u ≠ d) : ∀ (k : Nat) (r : List D), YN u (kz d k r) = false
 | _, [] => rfl
 | k, x :: r => by cases x <;> simp [kz, YN, At.ref, Sq hu, Ne.symm hu]
theorem G8 {u : Nat} {xs : List At} (h : YN u xs = false) : (vOf xs).Rc u = false := by
 match xs, h with
 | [], _ => rfl
 | [x], h => simpa [vOf, V.Rc, YN] using h
 | x :: y :: xs, h => exact h
theorem Mp {u d : Nat} (hu : u ≠ d) (res : List (List D)) : (xa d res).ref u = false := by
 have tl : ∀ (k : Nat) (rs : List (List D)), VQ u (I9 d k rs) = false := by
  intro k rs
  induction rs generalizing k with
  | nil => rfl
  | cons r rs ih => simp only [I9, VQ, G8 (Sq hu _ _), ih, Bool.or_false]
 match res with
 | [] => exact tl 0 []
 | [r] =>
  have h1 : (vOf (kz d 0 r)).flat = true := by
   match kz d 0 r with
   | [] => rfl
   | [x] => rfl
   | x :: y :: xs => rfl
  have := G8 (Sq hu 0 r)
  rw [<- Iu h1] at this
  exact this
 | r :: r' :: rs => exact tl 0 (r :: r' :: rs)
theorem M0 (u : Nat) : ∀ (ds : List D), Yl u (zd ds) = false
 | [] => rfl
 | x :: ds => by cases x <;> simp [zd, Yl, M0 u ds]
theorem VW (ty : TypeId) (v : Value) (u : Nat) : (cst P ty v).ref u = false := by
 unfold cst
 split <;> first | rfl | skip
 all_goals (repeat' split) <;> first | rfl | skip
end
end Go.Vm
namespace Go.Vm
open Go.RowKit
def LM (P : Program) (ops : Array Oper) (o : Oper) (d : Nat) (σ1 : St) (e : Eff) : Prop :=
 e.ok d σ1 /\ (∀ t j v os, e = .drop t j v os -> WB o = true /\ ∃ x ∈ K4 ops o, ∃ ty, (look P σ1 ty x).ref t = true) /\
 (KN o = true \/ o.guard.isSome = true -> ∃ v, e = .put v) /\
 (o.guard = none -> ∀ u, u ≠ d -> e.ref u = true -> Rj P (K4 ops o) σ1 u) /\
 ∀ σ, Sub P (K4 ops o) σ1 σ -> e.ok d σ -> Y6 P ops o σ (e.ap d σ)
section
variable {P : Program} {ops : Array Oper} {o : Oper} {d : Nat} {σ1 σ2 : St}
theorem S8 {xs ys : List Operand} {u : Nat} (h : Rj P xs σ1 u) : Rj P (xs ++ ys) σ1 u := by
 obtain ⟨x, hx, r⟩ := h
 exact ⟨x, by simp [hx], r⟩
theorem VF {σ σ' : St} (hg : o.guard = none) (hd : o.dst = some d) (h : Step P o d σ σ') : Y6 P ops o σ σ' := by
 unfold Y6; simp only [hg, hd]; exact h
theorem PB {v : V} (hg : o.guard = none) (hd : o.dst = some d) (o5 : ∀ u, u ≠ d -> v.ref u = true -> Rj P o.op.operands.toList σ1 u)
  (tD : ∀ σ, Sub P o.op.operands.toList σ1 σ -> Step P o d σ (σ.put d v)) : LM P ops o d σ1 (.put v) :=
 ⟨trivial, (fun t j v os h => by cases h), fun _ => ⟨v, rfl⟩, fun _ u hu hr => S8 (o5 u hu hr), fun σ hs _ => VF hg hd (tD σ hs.left)⟩
theorem Wd {v : V} {os : List Ob} (hg : o.guard = none) (hd : o.dst = some d) (hp : KN o = false) (uj : σ1.fresh d = true) (o5 : ∀ u, u ≠ d -> (v.ref u || Yl u os) = true -> Rj P o.op.operands.toList σ1 u)
  (tD : ∀ σ, Sub P o.op.operands.toList σ1 σ -> σ.fresh d = true -> Step P o d σ (σ.new d v os)) : LM P ops o d σ1 (.new v os) :=
 ⟨uj, (fun t j v os h => by cases h), (fun h => h.elim (fun h => by rw [hp] at h; cases h) (fun h => by rw [hg] at h; cases h)), fun _ u hu hr => S8 (o5 u hu hr), fun σ hs hf => VF hg hd (tD σ hs.left hf)⟩
theorem KV {c : Call} {x : Operand} (hx : x ∈ c.args.toList) : x ∈ (Op.operands (.call c)).toList := by
 obtain ⟨gF, args, gf⟩ := c
 simp only [Op.operands, Call.operands]
 cases gF <;> simp at hx ⊢ <;> simp [hx]
theorem Rx {c : Call} {σ : St} (h : Sub P (Op.operands (.call c)).toList σ1 σ) : Sub P c.args.toList σ1 σ :=
 ⟨h.len, fun x hx => h.look x (KV hx), fun x hx => h.ob x (KV hx)⟩
theorem D7 (hg : o.guard = none) (hd : o.dst = some d) (hs : Step P o d σ1 σ2) : ∃ e : Eff, σ2 = e.ap d σ1 /\ LM P ops o d σ1 e := by
 have tq : (∃ v, YQ P σ1 o.op o.type v /\ σ2 = σ1.put d v) -> (∀ σ v, YQ P σ o.op o.type v -> Step P o d σ (σ.put d v)) -> ∃ e : Eff, σ2 = e.ap d σ1 /\ LM P ops o d σ1 e := by
  rintro ⟨v, hv, rfl⟩ uk
  exact ⟨.put v, rfl, PB hg hd (fun u _ hr => OB hv hr) (fun σ uv => uk σ v (jK hv uv))⟩
 have bH := hs
 unfold Step at hs
 split at hs
 ·rename_i T uE
  obtain ⟨hf, hz, row, um, rfl⟩ := hs
  refine ⟨.new _ _, rfl, Wd hg hd (by simp [KN, uE]) hf (fun u hu hr => ?_) (fun σ uv pM => ?_)⟩
  ·simp only [V.ref, At.ref, Yl, RC u _ _ _ um, Bool.or_false, beq_iff_eq] at hr
   exact absurd hr.symm hu
  ·unfold Step; rw [uE]; exact ⟨pM, hz, row, um, rfl⟩
 ·rename_i T x uE
  obtain ⟨hf, h1, h2, h3, rfl⟩ := hs
  refine ⟨.new _ _, rfl, Wd hg hd (by simp [KN, uE]) hf (fun u hu hr => ?_) (fun σ uv pM => ?_)⟩
  ·simp only [V.ref, At.ref, Yl, Bool.or_false, Bool.or_eq_true, beq_iff_eq] at hr
   rcases hr with hr | hr
   ·exact absurd hr.symm hu
   ·exact ⟨x, by simp [uE, Op.operands], T, .inl (jt hr)⟩
  ·have e := uv.look x (by simp [uE, Op.operands]) T
   unfold Step; rw [uE]
   simp only
   rw [<- e]
   exact ⟨pM, h1, h2, h3, rfl⟩
 ·rename_i T n parts uE
  rcases hs with ⟨hf, h1, h2, h3, h4, h5, ⟨rows, h6, rfl⟩ | ⟨rows, h6, h7, rfl⟩⟩ | ⟨h1, rows, h6, rfl⟩
  ·refine ⟨.new _ _, rfl, Wd hg hd (by simp [KN, uE]) hf (fun u hu hr => ?_) (fun σ uv pM => ?_)⟩
   ·simp only [V.ref, At.ref, Yl, Bool.or_false, beq_iff_eq] at hr
    exact absurd hr.symm hu
   ·unfold Step; rw [uE]
    refine .inl ⟨pM, h1, h2, h3, h4, h5, .inl ⟨rows, TT ?_ h6, rfl⟩⟩
    rw [uE] at uv
    simpa [Op.operands] using uv
  ·refine ⟨.new _ _, rfl, Wd hg hd (by simp [KN, uE]) hf (fun u hu hr => ?_) (fun σ uv pM => ?_)⟩
   ·simp only [V.ref, At.ref, Yl, Bool.or_false, Bool.or_eq_true, beq_iff_eq] at hr
    rcases hr with hr | hr
    ·exact absurd hr.symm hu
    ·obtain ⟨x, hx, dH⟩ := I5 h6 hr
     exact ⟨x, by simpa [uE, Op.operands] using hx, _, .inl dH⟩
   ·unfold Step; rw [uE]
    refine .inl ⟨pM, h1, h2, h3, h4, h5, .inr ⟨rows, OK ?_ h6, h7, rfl⟩⟩
    rw [uE] at uv
    simpa [Op.operands] using uv
  ·refine ⟨.put _, rfl, PB hg hd (fun u _ hr => by cases hr) (fun σ uv => ?_)⟩
   unfold Step; rw [uE]
   refine .inr ⟨h1, rows, TT ?_ h6, rfl⟩
   rw [uE] at uv
   simpa [Op.operands] using uv
 ·rename_i T x y uE
  obtain ⟨rfl, hf, h1, h2, h3, q, z, zr, k, n, hq, h4, h5, h6, h7, h8, rfl⟩ := hs
  refine ⟨.new _ _, rfl, Wd hg hd (by simp [KN, uE]) hf (fun u hu hr => ?_) (fun σ uv pM => ?_)⟩
  ·simp only [V.ref, At.ref, Yl, Bool.or_false, beq_iff_eq] at hr
   exact absurd hr.symm hu
  ·unfold Step; rw [uE]
   exact ⟨rfl, pM, h1, h2, h3, q, z, zr, k, n, hq, h4, h5, yL uv (by simp [uE, Op.operands]) h6, h7, h8, rfl⟩
 ·rename_i c uE
  split at hs
  ·rename_i hc
   obtain ⟨x, y, t, ha, ru, h1, h2, h3, h4, h5, uG, news, σd, h6, h7, h8, h9, sH, rfl⟩ := hs
   have hx : x ∈ o.op.operands.toList := by rw [uE]; exact KV (by rw [ha]; simp)
   have hy : y ∈ o.op.operands.toList := by rw [uE]; exact KV (by rw [ha]; simp)
   have pN : KN o = false := by
    obtain ⟨cc, ca, ct⟩ := c
    simp only at hc; subst hc
    simp [KN, uE]
   have refs : ∀ u, u ≠ d -> (V.ref u (.one (.sref d 0 0 (uG.length + news.length))) || Yl u [.arr false (P.cellsOf (ZR P t)) (uG ++ news)]) = true -> Rj P o.op.operands.toList σ1 u := by
    intro u hu hr
    simp only [V.ref, At.ref, Yl, Bool.or_false, beq_iff_eq] at hr
    exact absurd hr.symm hu
   have bI := h6
   unfold Vu at h6
   split at h6
   ·rename_i s heq
    obtain ⟨rfl, rfl⟩ := h6
    refine ⟨.new _ _, rfl, Wd hg hd pN h8 refs (fun σ uv pM => ?_)⟩
    unfold Step; rw [uE]
    simp only [hc]
    refine ⟨x, y, t, ha, ru, ?_, ?_, h3, h4, h5, [], news, σ, ?_, VK uv hy h7, pM, h9, sH, rfl⟩
    ·rw [<- uv.look x hx]; exact h1
    ·rw [<- uv.look y hy]; exact h2
    ·rw [<- uv.look x hx]; unfold Vu; rw [heq]; exact ⟨rfl, rfl⟩
   ·rename_i tt j lo len heq
    obtain ⟨rows, ho, rW, hlen, holds, rfl⟩ := h6
    have gq : (look P σ1 t x).ref tt = true := Xm heq (by simp [At.ref])
    refine ⟨.drop tt j _ _, rfl, ⟨⟨_, _, _, ho⟩, h8⟩, ?_, (fun hh => hh.elim (fun hh => by rw [pN] at hh; cases hh) (fun hh => by rw [hg] at hh; cases hh)), fun _ u hu hr => S8 (refs u hu hr), fun σ uv pM => VF hg hd ?_⟩
    ·intro t' j' v os he
     cases he
     refine ⟨?_, x, by simp only [K4, List.mem_append]; exact .inl hx, t, gq⟩
     obtain ⟨cc, ca, ct⟩ := c
     simp only at hc ha; subst hc ha
     cases x with
     | const v => rw [Vm.look, VW] at gq; cases gq
     | _ => simp [WB, uE]
    ·have pO := uv.left
     unfold Step; rw [uE]
     simp only [hc]
     have rb : unc (look P σ t x) = .one (.sref tt j lo len) := by rw [<- pO.look x hx]; exact heq
     refine ⟨x, y, t, ha, ru, ?_, ?_, h3, h4, h5, uG, news, _, ?_, VK pO hy h7, pM.2, h9, sH, rfl⟩
     ·rw [<- pO.look x hx]; exact h1
     ·rw [<- pO.look y hy]; exact h2
     ·unfold Vu; rw [rb]
      exact ⟨rows, pO.same hx rb (by simp [At.ref]) ho (by simp), rW, hlen, holds, rfl⟩
   ·exact h6.elim
  ·rename_i f hc
   have pN : KN o = false := by
    obtain ⟨cc, ca, ct⟩ := c
    simp only at hc; subst hc
    simp [KN, uE]
   rcases hs with ⟨own, res, l4, rfl⟩ | ⟨res, l4, hf, rfl⟩ | ⟨rows, res, qs, ha, dO, hq, hf, rfl⟩
   ·refine ⟨.put _, rfl, PB hg hd (fun u _ hr => by rw [HC] at hr; cases hr) (fun σ uv => ?_)⟩
    rw [uE] at uv
    unfold Step; rw [uE]
    simp only [hc]
    exact .inl ⟨own, res, Tf (Rx uv) l4, rfl⟩
   ·refine ⟨.new _ _, rfl, Wd hg hd pN hf (fun u hu hr => ?_) (fun σ uv pM => ?_)⟩
    ·rw [Mp hu, M0] at hr; cases hr
    ·rw [uE] at uv
     unfold Step; rw [uE]
     simp only [hc]
     exact .inr (.inl ⟨res, Tf (Rx uv) l4, pM, rfl⟩)
   ·refine ⟨.new _ _, rfl, Wd hg hd pN hf (fun u hu hr => ?_) (fun σ uv pM => ?_)⟩
    ·rw [Mp hu, Kz] at hr; cases hr
    ·rw [uE] at uv
     unfold Step; rw [uE]
     simp only [hc]
     exact .inr (.inr ⟨rows, res, qs, jA (Rx uv) ha, dO, hq, pM, rfl⟩)
  ·rename_i h1 h2
   refine tq hs (fun σ v hv => ?_)
   unfold Step; rw [uE]
   simp only
   exact ⟨v, by rw [uE] at hv; exact hv, rfl⟩
 ·rename_i S T x uE
  rcases hs with hs | ⟨l, h1, h2, h3, h4, rfl⟩ | ⟨s, h1, h2, h3, h4, h5, rfl⟩
  ·refine tq hs (fun σ v hv => ?_)
   unfold Step; rw [uE]
   exact .inl ⟨v, by rw [uE] at hv; exact hv, rfl⟩
  ·refine ⟨.put _, rfl, PB hg hd (fun u _ hr => by cases hr) (fun σ uv => ?_)⟩
   have hx : x ∈ o.op.operands.toList := by simp [uE, Op.operands]
   unfold Step; rw [uE]
   exact .inr (.inl ⟨l, by rw [<- uv.look x hx]; exact h1, h2, h3, VK uv hx h4, rfl⟩)
  ·refine ⟨.put _, rfl, PB hg hd (fun u _ hr => by cases hr) (fun σ uv => ?_)⟩
   have hx : x ∈ o.op.operands.toList := by simp [uE, Op.operands]
   unfold Step; rw [uE]
   exact .inr (.inr ⟨s, by rw [<- uv.look x hx]; exact h1, h2, h3, by rw [<- uv.look x hx]; exact h4, h5, rfl⟩)
 ·rename_i n1 n2 n3 n4 n5 n6
  refine tq hs (fun σ v hv => ?_)
  unfold Step
  split
  ·rename_i T uE; exact absurd uE (n1 T)
  ·rename_i T x uE; exact absurd uE (n2 T x)
  ·rename_i T n ps uE; exact absurd uE (n3 T n ps)
  ·rename_i T x y uE; exact absurd uE (n4 T x y)
  ·rename_i c uE; exact absurd uE (n5 c)
  ·rename_i S T x uE; exact absurd uE (n6 S T x)
  ·exact ⟨v, hv, rfl⟩
end
end Go.Vm
namespace Go.Vm
open Go.RowKit
theorem Xy {σ : St} {d : Nat} : σ.fresh d = true ↔ d < σ.length /\ ∀ t e, σ[t]? = some e -> t ≠ d -> e.1.ref d = false /\ Yl d e.2 = false := by
 unfold St.fresh
 rw [Bool.and_eq_true, decide_eq_true_eq]
 refine and_congr_right fun _ => ⟨fun h t e he uH => zU h t e he (by omega), fun h => ?_⟩
 have : ∀ (σ : St) (k : Nat), (∀ t e, σ[t]? = some e -> k + t ≠ d -> e.1.ref d = false /\ Yl d e.2 = false) -> Ko d k σ = true := by
  intro σ
  induction σ with
  | nil => intro k _; rfl
  | cons e σ ih =>
   intro k hk
   simp only [Ko, Bool.and_eq_true, Bool.or_eq_true, beq_iff_eq, Bool.not_eq_true']
   refine ⟨?_, ih (k + 1) fun t e' he uH => hk (t + 1) e' (by simpa using he) (by omega)⟩
   by_cases h0 : k = d
   ·exact .inl h0
   ·exact .inr (hk 0 e (by simp) (by omega))
 exact this σ 0 (fun t e he uH => h t e he (by omega))
theorem Md {σ : St} {t : Nat} {e : Ent} (h : σ[t]? = some e) (j : Nat) : σ.ob t j = YU e.2 j := by unfold St.ob; rw [h]
theorem TH {σ : St} {t j : Nat} {o : Ob} (h : σ.ob t j = o) (hn : o ≠ .none) : ∃ e, σ[t]? = some e /\ YU e.2 j = o := by
 unfold St.ob at h
 split at h
 ·rename_i e he; exact ⟨e, he, h⟩
 ·exact absurd h.symm hn
theorem Sh {u : Nat} : ∀ {os : List Ob} {j : Nat} {cells : List At}, YU os j = .box cells -> YN u cells = true -> Yl u os = true
 | [], _, _, h, _ => by simp [YU] at h
 | o :: os, 0, cells, h, hr => by
  have : o = .box cells := h
  subst this
  simp [Yl, hr]
 | o :: os, j + 1, cells, h, hr => by
  have h' : YU os j = .box cells := by simpa [YU] using h
  have := Sh h' hr
  cases o <;> simp [Yl, this]
theorem yE {u s : Nat} {q : Bool} {r : List (List D)} : ∀ {os : List Ob} {j : Nat}, YU os j = .arr q s r -> Yl u (os.set j .none) = Yl u os
 | [], _, h => by simp [YU] at h
 | o :: os, 0, h => by
  have : o = .arr q s r := h
  subst this
  simp [Yl]
 | o :: os, j + 1, h => by
  have h' : YU os j = .arr q s r := by simpa [YU] using h
  have := yE (u := u) h'
  cases o <;> simp [Yl, this]
theorem PQ {σ : St} {d : Nat} (h : Xd σ d = true) {e : Ent} (he : σ[d]? = some e) (u : Nat) : e.1.ref u = false /\ Yl u e.2 = false := by
 unfold Xd at h
 split at h
 ·rename_i h1; rw [he] at h1; cases h1; exact ⟨rfl, rfl⟩
 ·rename_i h1; rw [he] at h1; cases h1; exact ⟨rfl, rfl⟩
 ·cases h
section
variable {P : Program} {ops : Array Oper} {o x y : Oper} {d dx dy : Nat} {σ σ1 σ2 : St}
theorem qp (hd : o.dst = some d) (hs : Y6 P ops o σ1 σ2) : ∃ e : Eff, σ2 = e.ap d σ1 /\ LM P ops o d σ1 e := by
 unfold Y6 at hs
 split at hs
 ·rename_i hg
  simp only [hd] at hs
  exact D7 hg hd hs
 ·rename_i j want hg
  obtain ⟨dj, d', g, v, sD, uQ, uU, sK, hv, rfl⟩ := hs
  rw [hd] at uU; cases uU
  refine ⟨.put (.cnd g v), rfl, trivial, (fun t j v os h => by cases h), fun _ => ⟨_, rfl⟩, (fun h => by rw [hg] at h; cases h), fun σ uv _ => ?_⟩
  have tV : Operand.tmp dj ∈ K4 ops o := by simp [K4, hg, sD]
  have tT : σ.get dj = σ1.get dj := (uv.look _ tV 0).symm
  unfold Y6
  simp only [hg]
  refine ⟨dj, d, g, v, sD, by rw [<- uv.len]; exact uQ, hd, by rw [tT]; exact sK, fun oy => ?_, rfl⟩
  have si := hv oy
  have oF := uv.left
  unfold Pm at si ⊢
  split at si
  ·rename_i c uE
   split at si
   ·rename_i f hc
    obtain ⟨own, res, l4, rfl⟩ := si
    rw [uE] at oF
    exact ⟨own, res, Tf (Rx oF) l4, rfl⟩
   ·obtain ⟨v0, h1, h2⟩ := si
    exact ⟨v0, jK h1 oF, h2⟩
  ·obtain ⟨v0, h1, h2⟩ := si
   exact ⟨v0, jK h1 oF, h2⟩
theorem Ks (e : Eff) : (e.ap d σ).length = σ.length := by
 cases e <;> simp [Eff.ap, St.QN, St.kn, St.Y0]
theorem OE (e : Eff) {t : Nat} (uH : t ≠ d) : (e.ap d σ).get t = σ.get t := by
 cases e with
 | put v => simp [Eff.ap, St.KO, uH]
 | new v os => simp [Eff.ap, St.Wc, uH]
 | drop a j v os => simp [Eff.ap, St.Wc, St.Xj, uH]
theorem DQ {t u : Nat} (h : (σ.get t).ref u = true) : ∃ e, σ[t]? = some e /\ e.1.ref u = true := by
 unfold St.get at h
 split at h
 ·rename_i e he; exact ⟨e, he, h⟩
 ·cases h
end
end Go.Vm
namespace Go.Vm
open Go.RowKit
section
variable {P : Program} {ops : Array Oper} {x y : Oper} {dx dy : Nat} {σ σ1 σ2 : St}
theorem KR {d : Nat} (hf : ∀ t e, σ[t]? = some e -> t ≠ d -> e.1.ref d = false) {z : Operand} (hz : z ≠ .tmp d) (ty : TypeId) : (look P σ ty z).ref d = false := by
 cases z with
 | tmp t =>
  have uH : t ≠ d := fun h => hz (by rw [h])
  cases hr : (look P σ ty (.tmp t)).ref d with
  | false => rfl
  | true =>
   obtain ⟨e, he, tS⟩ := DQ (σ := σ) (t := t) hr
   rw [hf t e he uH] at tS; cases tS
 | const v => exact VW ty v d
 | global g => rfl
 | func f => rfl
theorem look_eq {d : Nat} (hg : ∀ t, t ≠ d -> σ1.get t = σ.get t) {z : Operand} (hz : z ≠ .tmp d) (ty : TypeId) : look P σ1 ty z = look P σ ty z := by
 cases z with
 | tmp t => exact hg t (fun h => hz (by rw [h]))
 | const v => rfl
 | global g => rfl
 | func f => rfl
theorem xi {e : Eff} {d : Nat} (h : e.ok d σ) (uH : ∀ v, e ≠ .put v) : ∀ t en, σ[t]? = some en -> t ≠ d -> en.1.ref d = false := by
 intro t en he ht
 cases e with
 | put v => exact absurd rfl (uH v)
 | new v os => exact ((Xy.1 h).2 t en he ht).1
 | drop a j v os =>
  have := (Xy.1 h.2).2 t
  rw [X6] at this
  by_cases oV : t = a
  ·rw [if_pos oV, he] at this
   exact (this _ rfl ht).1
  ·rw [if_neg oV] at this
   exact (this en he ht).1
theorem S3 {e : Eff} {d : Nat} (h : e.ok d σ) (uH : ∀ v, e ≠ .put v) : ∀ t en, σ[t]? = some en -> t ≠ d -> Yl d en.2 = false := by
 intro t en he ht
 cases e with
 | put v => exact absurd rfl (uH v)
 | new v os => exact ((Xy.1 h).2 t en he ht).2
 | drop a j v os =>
  obtain ⟨⟨q, s, r, ho⟩, hf⟩ := h
  have := (Xy.1 hf).2 t
  rw [X6] at this
  by_cases oV : t = a
  ·rw [if_pos oV, he] at this
   have h2 := (this _ rfl ht).2
   subst oV
   rw [Md he] at ho
   rw [yE ho] at h2
   exact h2
  ·rw [if_neg oV] at this
   exact (this en he ht).2
theorem B5 {e : Eff} {d : Nat} (h : e.ok d σ) (uH : ∀ v, e ≠ .put v) : d < σ.length := by
 cases e with
 | put v => exact absurd rfl (uH v)
 | new v os => exact (Xy.1 h).1
 | drop a j v os => have := (Xy.1 h.2).1; rwa [St.Y0] at this
theorem En {e : Eff} {d : Nat} (h : e.ok d σ) {u j : Nat} (hu : (∀ v, e ≠ .put v) -> u ≠ d) (hn : (e.ap d σ).ob u j ≠ .none) : σ.ob u j = (e.ap d σ).ob u j := by
 cases e with
 | put v => simp only [Eff.ap, St.QP]
 | new v os =>
  have := hu (by intro v h; cases h)
  simp only [Eff.ap, St.Qj, this, false_and, if_false]
 | drop a k v os =>
  have o7 := hu (by intro v h; cases h)
  obtain ⟨⟨q, s, r, ho⟩, _⟩ := h
  simp only [Eff.ap, St.Qj, o7, false_and, if_false] at hn ⊢
  rw [St.XK σ a k _ u j (by rw [ho]; simp)] at hn ⊢
  split at hn
  ·exact absurd rfl hn
  ·rename_i hh; rw [if_neg hh]
theorem Rv {e : Eff} {d : Nat} (tN : ∀ t j v os, e ≠ .drop t j v os) {u j : Nat} (hu : (∀ v, e ≠ .put v) -> u ≠ d) : (e.ap d σ).ob u j = σ.ob u j := by
 cases e with
 | put v => simp only [Eff.ap, St.QP]
 | new v os =>
  have := hu (by intro v h; cases h)
  simp only [Eff.ap, St.Qj, this, false_and, if_false]
 | drop a k v os => exact absurd rfl (tN a k v os)
theorem Cs {e : Eff} {d t : Nat} {en : Ent} (uj : e.ok d σ) (ht : t ≠ d) (he : (e.ap d σ)[t]? = some en) : ∃ g8, σ[t]? = some g8 /\ g8.1 = en.1 /\ ∀ u, Yl u g8.2 = Yl u en.2 := by
 cases e with
 | put v => simp only [Eff.ap, xz, if_neg ht] at he; exact ⟨en, he, rfl, fun _ => rfl⟩
 | new v os => simp only [Eff.ap, zE, if_neg ht] at he; exact ⟨en, he, rfl, fun _ => rfl⟩
 | drop a j v os =>
  simp only [Eff.ap, zE, if_neg ht, X6] at he
  split at he
  ·rename_i oV
   subst oV
   obtain ⟨⟨q, s, r, ho⟩, _⟩ := uj
   obtain ⟨e0, pG, tQ⟩ := TH ho (by simp)
   rw [pG] at he
   simp at he
   subst he
   exact ⟨e0, pG, rfl, fun u => (yE tQ).symm⟩
  ·exact ⟨en, he, rfl, fun _ => rfl⟩
theorem swap (tx : x.dst = some dx) (sY : y.dst = some dy) (uH : dx ≠ dy) (r7 : ∀ z ∈ K4 ops y, z ≠ .tmp dx) (oT : ∀ z ∈ K4 ops x, z ≠ .tmp dy) (tN : WB y = false) (gC : y.guard = none \/ KN x = true \/ x.guard.isSome = true)
  (uu : Xd σ dx = true) (h1 : Y6 P ops x σ σ1) (h2 : Y6 P ops y σ1 σ2) : ∃ σ1', Y6 P ops y σ σ1' /\ Y6 P ops x σ1' σ2 := by
 obtain ⟨ex, rfl, pe, oE, l5, _, dI⟩ := qp tx h1
 obtain ⟨ey, rfl, dJ, l6, _, gh, dK⟩ := qp sY h2
 have lU : ∀ t j v os, ey ≠ .drop t j v os := by
  intro t j v os h
  have := (l6 t j v os h).1
  rw [tN] at this; cases this
 have gr : Sub P (K4 ops y) (ex.ap dx σ) σ := by
  refine ⟨Ks ex, fun z hz ty => look_eq (fun t ht => OE ex ht) (r7 z hz) ty, fun z hz ty u hr j hn => ?_⟩
  refine En pe (fun sM hu => ?_) hn
  subst hu
  rw [look_eq (fun t ht => OE ex ht) (r7 z hz) ty, KR (xi pe sM) (r7 z hz)] at hr
  cases hr
 have nr : ey.ok dy σ := by
  cases ey with
  | put v => trivial
  | drop a j v os => exact absurd rfl (lU a j v os)
  | new v os =>
   have hf := Xy.1 dJ
   refine Xy.2 ⟨by rw [<- Ks ex (d := dx)]; exact hf.1, fun t e he ht => ?_⟩
   by_cases mF : t = dx
   ·subst mF; exact PQ uu he dy
   ·cases ex with
    | put v' => exact hf.2 t e (by simp only [Eff.ap, xz, if_neg mF]; exact he) ht
    | new v' nb => exact hf.2 t e (by simp only [Eff.ap, zE, if_neg mF]; exact he) ht
    | drop a j v' nb =>
     obtain ⟨⟨q, s, r, ho⟩, _⟩ := pe
     by_cases oV : t = a
     ·subst oV
      have := hf.2 t (e.1, e.2.set j .none) (by simp only [Eff.ap, zE, if_neg mF, X6, if_true, he, Option.map_some]) ht
      rw [Md he] at ho
      rw [yE ho] at this
      exact this
     ·exact hf.2 t e (by simp only [Eff.ap, zE, if_neg mF, X6, if_neg oV]; exact he) ht
 have l7 := dK σ gr nr
 have l8 : Sub P (K4 ops x) σ (ey.ap dy σ) := by
  refine ⟨(Ks ey).symm, fun z hz ty => (look_eq (fun t ht => OE ey ht) (oT z hz) ty).symm, fun z hz ty u hr j hn => ?_⟩
  refine Rv lU (fun sM hu => ?_)
  subst hu
  rw [KR (xi nr sM) (oT z hz)] at hr
  cases hr
 have gu : (∀ v, ex ≠ .put v) -> ey.ref dx = false := by
  intro sM
  have hg : y.guard = none := by
   rcases gC with h | h
   ·exact h
   ·obtain ⟨v, hv⟩ := l5 h; exact absurd hv (sM v)
  cases hr : ey.ref dx with
  | false => rfl
  | true =>
   obtain ⟨z, hz, ty, tH⟩ := gh hg dx uH hr
   have hl : look P (ex.ap dx σ) ty z = look P σ ty z := look_eq (fun t ht => OE ex ht) (r7 z hz) ty
   rw [hl] at tH
   rcases tH with tH | ⟨t', cells, gE, ho, hc⟩
   ·rw [KR (xi pe sM) (r7 z hz)] at tH; cases tH
   ·have mF : t' ≠ dx := by
     intro h; subst h
     rw [KR (xi pe sM) (r7 z hz)] at gE; cases gE
    have uc : σ.ob t' 0 = .box cells := by rw [En pe (fun _ => mF) (by rw [ho]; simp), ho]
    obtain ⟨en, gi, gj⟩ := TH uc (by simp)
    have := S3 pe sM t' en gi mF
    rw [Sh gj hc] at this; cases this
 have entries : (∀ v, ex ≠ .put v) -> ∀ t e, (ey.ap dy σ)[t]? = some e -> t ≠ dx -> e.1.ref dx = false /\ Yl dx e.2 = false := by
  intro sM t e he ht
  have hy := gu sM
  by_cases sh : t = dy
  ·subst sh
   cases ey with
   | put v =>
    simp only [Eff.ap, xz, if_true, Option.map_eq_some_iff] at he
    obtain ⟨e0, pG, rfl⟩ := he
    exact ⟨hy, S3 pe sM t e0 pG ht⟩
   | new v os =>
    simp only [Eff.ap, zE, if_true, Option.map_eq_some_iff] at he
    obtain ⟨e0, pG, rfl⟩ := he
    simp only [Eff.ref, Bool.or_eq_false_iff] at hy
    exact hy
   | drop a j v os => exact absurd rfl (lU a j v os)
  ·obtain ⟨e0, pG, h1, h2⟩ := Cs nr sh he
   rw [<- h1, <- h2]
   exact ⟨xi pe sM t e0 pG ht, S3 pe sM t e0 pG ht⟩
 have gv : ex.ok dx (ey.ap dy σ) := by
  cases ex with
  | put v => trivial
  | new v os =>
   have sM : ∀ v', Eff.new v os ≠ .put v' := by intro v' h; cases h
   exact Xy.2 ⟨by rw [Ks]; exact B5 pe sM, entries sM⟩
  | drop a j v os =>
   have sM : ∀ v', Eff.drop a j v os ≠ .put v' := by intro v' h; cases h
   obtain ⟨z, hz, ty, hr⟩ := (oE a j v os rfl).2
   obtain ⟨q, s, r, ho⟩ := pe.1
   have uc : (ey.ap dy σ).ob a j = .arr q s r := by rw [<- ho]; exact l8.ob z hz ty a hr j (by rw [ho]; simp)
   refine ⟨⟨q, s, r, uc⟩, Xy.2 ⟨by rw [St.Y0, Ks]; exact B5 pe sM, fun t e he ht => ?_⟩⟩
   rw [X6] at he
   split at he
   ·rename_i oV
    subst oV
    obtain ⟨e0, pG, tQ⟩ := TH uc (by simp)
    rw [pG] at he; simp at he; subst he
    have := entries sM t e0 pG ht
    exact ⟨this.1, by rw [yE tQ]; exact this.2⟩
   ·exact entries sM t e he ht
 refine ⟨_, l7, ?_⟩
 have := dI _ l8 gv
 have heq : ex.ap dx (ey.ap dy σ) = ey.ap dy (ex.ap dx σ) := by
  apply List.ext_getElem?
  intro t
  have eM := uH
  cases ex with
  | put v =>
   cases ey with
   | put v' => simp only [Eff.ap, xz]; by_cases h1 : t = dx <;> by_cases h2 : t = dy <;> simp_all
   | new v' nb => simp only [Eff.ap, xz, zE]; by_cases h1 : t = dx <;> by_cases h2 : t = dy <;> simp_all
   | drop a j v' nb => exact absurd rfl (lU a j v' nb)
  | new v os =>
   cases ey with
   | put v' => simp only [Eff.ap, xz, zE]; by_cases h1 : t = dx <;> by_cases h2 : t = dy <;> simp_all
   | new v' nb => simp only [Eff.ap, zE]; by_cases h1 : t = dx <;> by_cases h2 : t = dy <;> simp_all
   | drop a j v' nb => exact absurd rfl (lU a j v' nb)
  | drop a j v os =>
   obtain ⟨z, hz, ty, hr⟩ := (oE a j v os rfl).2
   cases ey with
   | put v' =>
    simp only [Eff.ap, xz, zE, X6]
    by_cases h1 : t = dx <;> by_cases h2 : t = dy <;> by_cases h3 : t = a <;> simp_all
    all_goals (first | (cases σ[dy]? <;> rfl) | (cases σ[t]? <;> rfl) | (cases σ[a]? <;> rfl))
   | new v' nb =>
    have bJ : a ≠ dy := by
     intro h; subst h
     rw [KR (xi nr (by intro v h; cases h)) (oT z hz)] at hr; cases hr
    simp only [Eff.ap, zE, X6]
    by_cases h1 : t = dx <;> by_cases h2 : t = dy <;> by_cases h3 : t = a <;> simp_all
   | drop a' j' v' nb => exact absurd rfl (lU a' j' v' nb)
 rw [<- heq]
 exact this
end
end Go.Vm
namespace Go.Vm
open Go.RowKit
def Fl (ops : Array Oper) (bar : Oper -> Bool) (x y : Oper) : Bool := !bar x && !bar y &&
 (match x.dst, y.dst with
 | some dx, some dy => dx != dy && !(K4 ops y).any (zL dx) && !(K4 ops x).any (zL dy) && !WB y && (y.guard.isNone || KN x || x.guard.isSome)
 | _, _ => false)
def Ff (bar : Oper -> Bool) (x y : Oper) : Bool := !bar x && !bar y && x.guard.isNone && y.guard.isNone &&
 (match x.dst, y.dst, y.op with
 | some dx, none, .store _ p q => (match x.op with | .move _ => true | .assign _ => true | .extract _ _ => true | _ => false) && !zL dx p && !zL dx q
 | _, _, _ => false)
def G2 (bar : Oper -> Bool) (x y : Oper) : Bool := !bar x && bar y && x.guard.isNone && W0 y && y.guard.isNone && y.dst.isNone &&
 (match x.dst with
 | some dx => (match x.op with | .move _ => true | .assign _ => true | .extract _ _ => true | _ => false) && jl y dx
 | none => false)
def Tx (PT : List (Nat × Nat)) (σ : St) : Prop := ∀ p ∈ PT, σ.get p.1 = .any \/ ∃ c, unc (σ.get p.1) = .one (.bptr p.2 c)
def ptB (PT : List (Nat × Nat)) (σ : St) : Bool := PT.all fun p => match σ.get p.1 with | .any => true | v => (match unc v with | .one (.bptr b _) => b == p.2 | _ => false)
def Ro (ops : Array Oper) (PT : List (Nat × Nat)) : Bool := ops.toList.all fun o => match o.dst with
 | none => true
 | some d => PT.all fun p => p.1 != d || (o.guard.isNone && (match o.op with | .fieldAddr _ (.tmp r) _ => PT.contains (r, p.2) | .move (.tmp r) => PT.contains (r, p.2) | _ => false))
def TE (PT : List (Nat × Nat)) (b : Nat) : Op -> Bool
 | .load _ (.tmp t) => PT.any fun r => r.1 == t && r.2 != b
 | .fieldAddr _ _ _ => true
 | .move _ => true
 | .assign _ => true
 | .extract _ _ => true
 | .binOp _ _ _ _ _ => true
 | .call ⟨.builtin .len, ⟨[_]⟩, ⟨[_]⟩⟩ => true
 | _ => false
def swapT (PT : List (Nat × Nat)) (bar : Oper -> Bool) (x y : Oper) : Bool := !bar x && !bar y && x.guard.isNone && y.guard.isNone &&
 (match x.dst, y.dst, y.op with
 | some dx, none, .store _ (.tmp tp) q => tp != dx && !zL dx q && PT.any fun p => p.1 == tp && TE PT p.2 x.op
 | _, _, _ => false)
def Nt (NB : List Nat) (σ : St) : Prop := ∀ t ∈ NB, ∀ b c, unc (σ.get t) ≠ .one (.bptr b c)
def nbB (NB : List Nat) (σ : St) : Bool := NB.all fun t => match unc (σ.get t) with | .one (.bptr _ _) => false | _ => true
def LR (P : Program) (ops : Array Oper) (NB : List Nat) : Bool := ops.toList.all fun o => match o.dst with
 | none => true
 | some d => NB.all fun t => t != d || (o.guard.isNone && (match o.op with | .indexAddr T _ _ => Y2 P T | _ => false))
def IY (PT : List (Nat × Nat)) (NB : List Nat) (σ : St) : Prop := Tx PT σ /\ Nt NB σ
def FM (PT : List (Nat × Nat)) (NB : List Nat) (bar : Oper -> Bool) (x y : Oper) : Bool := !bar x && bar y && x.guard.isNone && W0 y && y.guard.isNone && y.dst.isNone &&
 (match x.dst, y.op with
 | some dx, .store _ (.tmp tp) q => NB.contains tp && tp != dx && !zL dx q && (match x.op with | .load _ (.tmp t) => PT.any fun r => r.1 == t | .fieldAddr _ (.tmp t) _ => PT.any fun r => r.1 == t | _ => false)
 | _, _ => false)
def EM (PT : List (Nat × Nat)) : Op -> Bool
 | .move _ => true
 | .load _ (.tmp t) => PT.any fun r => r.1 == t
 | .fieldAddr _ (.tmp _) _ => true
 | .slice _ (.tmp _) _ _ none => true
 | _ => false
def Gd (PT : List (Nat × Nat)) (ops : Array Oper) (bar : Oper -> Bool) (x y : Oper) : Bool := bar x && !bar y && jk x && x.guard.isNone && y.guard.isNone && EM PT y.op &&
 (match x.dst, y.dst with
 | some dx, some dy => dx != dy && !(K4 ops y).any (zL dx) && !(K4 ops x).any (zL dy)
 | _, _ => false)
def He (PT : List (Nat × Nat)) (o : Oper) : Option Nat := match o.op with | .call ⟨.value (.func _), ⟨.tmp z :: _⟩, _⟩ => (PT.find? (fun p => p.1 == z)).map (·.2) | _ => none
def wY : Operand -> Bool
 | .const _ => true
 | _ => false
def PU (PT : List (Nat × Nat)) (y x : Oper) : Bool := (x.op.operands.toList.all wY && !WB x) || (match He PT y with | some b => TE PT b x.op | none => false)
def G3 (P : Program) (PT : List (Nat × Nat)) (ops : Array Oper) (bar : Oper -> Bool) (x y : Oper) : Bool := x.guard.isNone && y.guard.isNone && SA bar x && SA bar y && (match x.dst, y.dst with
 | some dx, some dy => dx != dy && !(K4 ops y).any (zL dx) && !(K4 ops x).any (zL dy) && ((!bar x && bar y && Jq P y && PU PT y x) || (bar x && Jq P x && !bar y && PU PT x y))
 | _, _ => false)
def RR (o : Oper) (j : Nat) : Bool := o.after.any fun e => e.on == j && Region.binds .any e
def SN : List Oper -> List Nat -> List Nat
 | [], acc => acc
 | o :: rest, acc => SN rest (acc ++ [o.after.toList.foldl (fun m e => if Region.binds .any e then m ||| (1 <<< e.on) ||| acc.getD e.on 0 else m) 0])
def Eu (ms : List Nat) (i j : Nat) : Bool := (ms.getD i 0).testBit j
inductive Pre (ops : Array Oper) : Nat -> Nat -> Prop
 | one {i j : Nat} {o : Oper} (ho : ops[i]? = some o) (hp : RR o j = true) : Pre ops i j
 | more {i m j : Nat} {o : Oper} (ho : ops[i]? = some o) (hp : RR o m = true) (h : Pre ops m j) : Pre ops i j
theorem HD {ops : Array Oper} : ∀ {l : List Oper} {acc : List Nat}, (∀ k o, l[k]? = some o -> ops[acc.length + k]? = some o) -> (∀ i j, (acc.getD i 0).testBit j = true -> Pre ops i j) -> ∀ i j, Eu (SN l acc) i j = true -> Pre ops i j
 | [], acc, _, ha, i, j, h => ha i j h
 | o :: rest, acc, hl, ha, i, j, h => by
  refine HD (l := rest) (fun k o' hk => ?_) (fun i j oU => ?_) i j h
  ·have := hl (k + 1) o' (by simpa using hk)
   rw [List.length_append, List.length_singleton, Nat.add_assoc, Nat.add_comm 1 k]; exact this
  ·rw [List.getD_eq_getElem?_getD] at oU
   rcases Nat.lt_trichotomy i acc.length with uQ | heq | oy
   ·rw [List.getElem?_append_left uQ, <- List.getD_eq_getElem?_getD] at oU
    exact ha i j oU
   ·subst heq
    rw [List.getElem?_append_right (Nat.le_refl _)] at oU
    simp only [Nat.sub_self, List.getElem?_cons_zero, Option.getD_some] at oU
    have ho := hl 0 o (by simp)
    rw [Nat.add_zero] at ho
    have key : ∀ (es : List Edge) (m : Nat), (∀ e ∈ es, e ∈ o.after) -> (∀ j, m.testBit j = true -> Pre ops acc.length j) -> ∀ j, (es.foldl (fun m e => if Region.binds .any e then m ||| (1 <<< e.on) ||| acc.getD e.on 0 else m) m).testBit j = true -> Pre ops acc.length j := by
     intro es
     induction es with
     | nil => intro m _ hm j hj; exact hm j hj
     | cons e es ih =>
      intro m eH hm j hj
      refine ih _ (fun e' lv => eH e' (by simp [lv])) (fun j hj => ?_) j hj
      by_cases hb : Region.binds .any e = true
      ·simp only [hb, if_true] at hj
       have hp : RR o e.on = true := by
        unfold RR
        rw [<- Array.any_toList]
        exact List.any_eq_true.2 ⟨e, by simpa using eH e (by simp), by simp [hb]⟩
       rw [Nat.testBit_or, Nat.testBit_or, Bool.or_eq_true, Bool.or_eq_true] at hj
       rcases hj with (hj | hj) | hj
       ·exact hm j hj
       ·rw [Nat.testBit_shiftLeft] at hj
        simp only [Bool.and_eq_true, decide_eq_true_eq] at hj
        have h1 : j - e.on = 0 := by
         have := hj.2
         rw [show (1 : Nat) = 2 ^ 0 from rfl, Nat.testBit_two_pow] at this
         have h3 : 0 = j - e.on := by simpa using this
         omega
        have : j = e.on := by omega
        subst this
        exact .one ho hp
       ·exact .more ho hp (ha e.on j hj)
      ·simp only [hb, Bool.false_eq_true, if_false] at hj; exact hm j hj
    exact key o.after.toList 0 (fun e he => by simpa using he) (fun j hj => by simp at hj) j oU
   ·rw [List.getElem?_eq_none (by simp; omega)] at oU
    simp at oU
def FJ (ops : Array Oper) (i j : Nat) : Bool := Eu (SN ops.toList []) i j
theorem DP {ops : Array Oper} {i j : Nat} (h : FJ ops i j = true) : Pre ops i j :=
 HD (l := ops.toList) (acc := []) (fun k o hk => by simpa using hk) (fun i j h => by simp at h) i j h
def B6 (P : Program) (ops : Array Oper) (bar : Oper -> Bool) (PT : List (Nat × Nat)) (NB : List Nat) (ms : List Nat) (i j : Nat) : Bool := match ops[i]?, ops[j]? with | some oi, some oj => Eu ms i j || Fl ops bar oj oi || Ff bar oj oi || swapT PT bar oj oi || G2 bar oj oi || Gd PT ops bar oj oi || FM PT NB bar oj oi || G3 P PT ops bar oj oi | _, _ => false
def AF (ops : Array Oper) (pos : Nat -> Nat) (i : Nat) : Bool := match ops[i]? with | some o => o.after.all fun e => !Region.binds .any e || (decide (pos e.on < pos i) && decide (e.on < ops.size)) | none => false
def E8 (ops : Array Oper) (j : Nat) : Bool := match ops[j]? with
 | some o => (match o.dst with | some d => (List.range ops.size).all fun k => k == j || (match ops[k]? with | some q => q.dst != some d | none => true) | none => false)
 | none => false
def H2 (ops : Array Oper) (pos : Nat -> Nat) (ms : List Nat) (j : Nat) : Bool := (List.range ops.size).any fun i => decide (pos j < pos i) && !Eu ms i j
def Te (ops : Array Oper) (pos : Nat -> Nat) (j : Nat) : Bool := H2 ops pos (SN ops.toList []) j
def FA (P : Program) (ops : Array Oper) (pos : Nat -> Nat) (bar : Oper -> Bool) (PT : List (Nat × Nat)) (NB : List Nat) (ms : List Nat) : Bool :=
 (List.range ops.size).all fun i => AF ops pos i && ((List.range ops.size).all fun j => !decide (pos j < pos i) || B6 P ops bar PT NB ms i j) && (!H2 ops pos ms i || E8 ops i)
def RJ (P : Program) (ops : Array Oper) (pos : Nat -> Nat) (bar : Oper -> Bool) : Bool := FA P ops pos bar [] [] (SN ops.toList [])
def zN (ops : Array Oper) (pos : Nat -> Nat) (σ : St) : Bool :=
 let ms := SN ops.toList []
 (List.range ops.size).all fun j => !H2 ops pos ms j || (match (ops[j]?).bind (·.dst) with | some d => Xd σ d | none => false)
theorem j8 {xs : List Operand} {d : Nat} (h : xs.any (zL d) = false) : ∀ z ∈ xs, z ≠ .tmp d := by
 intro z hz he
 subst he
 have := List.any_eq_false.1 h _ hz
 simp [zL] at this
theorem Fw {ops : Array Oper} {bar : Oper -> Bool} {x y : Oper} (h : Fl ops bar x y = true) : bar x = false /\ bar y = false /\ ∃ dx dy, x.dst = some dx /\ y.dst = some dy /\ dx ≠ dy /\ (∀ z ∈ K4 ops y, z ≠ .tmp dx) /\ (∀ z ∈ K4 ops x, z ≠ .tmp dy) /\ WB y = false /\ (y.guard = none \/ KN x = true \/ x.guard.isSome = true) := by
 unfold Fl at h
 rw [Bool.and_eq_true, Bool.and_eq_true] at h
 obtain ⟨⟨tf, tA⟩, h⟩ := h
 refine ⟨by simpa using tf, by simpa using tA, ?_⟩
 split at h
 ·rename_i dx dy h1 h2
  simp only [Bool.and_eq_true, bne_iff_ne, ne_eq, Bool.not_eq_true', Bool.or_eq_true, Option.isNone_iff_eq_none] at h
  exact ⟨dx, dy, h1, h2, h.1.1.1.1, j8 h.1.1.1.2, j8 h.1.1.2, h.1.2, or_assoc.1 h.2⟩
 ·cases h
theorem KU {P : Program} {σ : St} {t j : Nat} {o : Ob} {T : TypeId} {x : Operand} : look P (σ.Zs t j o) T x = look P σ T x := by
 cases x with
 | tmp u => simp [look, St.Xj]
 | const c => rfl
 | global g => rfl
 | func f => rfl
theorem Th {σ : St} {d : Nat} {v : V} : ∀ (xs : List At), rowOf (σ.put d v) xs = rowOf σ xs
 | [] => rfl
 | x :: xs => by
  have : Kg (σ.put d v) x = Kg σ x := by cases x <;> simp [Kg, St.QP]
  simp only [rowOf, this, Th xs]
theorem Bc {P : Program} {ops : Array Oper} {bar : Oper -> Bool} {x y : Oper} {σ σ1 σ2 : St} (h : Ff bar x y = true) (tF : Ju P ops bar x σ σ1) (uO : Ju P ops bar y σ1 σ2) : ∃ σ1', Y6 P ops y σ σ1' /\ Y6 P ops x σ1' σ2 := by
 unfold Ff at h
 simp only [Bool.and_eq_true, Bool.not_eq_true', Option.isNone_iff_eq_none] at h
 obtain ⟨⟨⟨⟨tf, tA⟩, pr⟩, rD⟩, h⟩ := h
 have tF := tF.resolve_right (fun hh => by rw [tf] at hh; cases hh.1)
 have uO := uO.resolve_right (fun hh => by rw [tA] at hh; cases hh.1)
 split at h
 ·rename_i dx T p q tx sY uE
  simp only [Bool.and_eq_true, Bool.not_eq_true'] at h
  obtain ⟨⟨hv, hp⟩, hq⟩ := h
  unfold Y6 at tF uO
  simp only [pr, tx] at tF
  simp only [rD, sY, uE] at uO
  have e1 : ∃ v, YQ P σ x.op x.type v /\ σ1 = σ.put dx v := by
   unfold Step at tF
   cases hx : x.op <;> rw [hx] at tF hv <;> first | exact tF | (exact Bool.noConfusion hv)
  obtain ⟨v, si, rfl⟩ := e1
  have tU : ∀ (t j : Nat) (o : Ob), YQ P (σ.Zs t j o) x.op x.type v := by
   intro t j o
   cases hx : x.op <;> rw [hx] at hv si <;> first | (exact Bool.noConfusion hv) | (simp only [YQ, KU] at si ⊢; exact si)
  have lh : ∀ (t j : Nat) (o : Ob), Y6 P ops x (σ.Zs t j o) ((σ.put dx v).Zs t j o) := by
   intro t j o
   unfold Y6
   simp only [pr, tx]
   have := tU t j o
   rw [zY]
   unfold Step
   cases hx : x.op <;> rw [hx] at hv this <;> first | exact ⟨v, this, rfl⟩ | (exact Bool.noConfusion hv)
  unfold yK at uO
  rw [XB hp, XB hq] at uO
  obtain ⟨k1, k2, k3, k4, uO⟩ := uO
  split at uO
  ·rename_i t c hl
   obtain ⟨cells, c1, c2, c3, rfl⟩ := uO
   rw [St.QP] at c1
   refine ⟨_, ?_, lh _ _ _⟩
   unfold Y6 yK
   simp only [rD, sY, uE]
   refine ⟨k1, k2, k3, k4, ?_⟩
   rw [hl]
   exact ⟨cells, c1, c2, c3, rfl⟩
  ·rename_i t j i c hl
   obtain ⟨q', size, rows, ds, c1, c2, c3, c4, c5, c6, c7, rfl⟩ := uO
   rw [St.QP] at c1
   rw [Th] at c3
   refine ⟨_, ?_, lh _ _ _⟩
   unfold Y6 yK
   simp only [rD, sY, uE]
   refine ⟨k1, k2, k3, k4, ?_⟩
   rw [hl]
   exact ⟨q', size, rows, ds, c1, c2, c3, c4, c5, c6, c7, rfl⟩
  ·exact uO.elim
 ·cases h
theorem zn {P : Program} {σ : St} {T : TypeId} {t : Nat} : look P σ T (.tmp t) = σ.get t := rfl
theorem Tr {P : Program} {PT : List (Nat × Nat)} {b : Nat} {o : Oper} {op : Op} {d : Nat} {σ σ' : St} (ho : o.op = op) (h : TE PT b op = true) : Step P o d σ σ' ↔ ∃ v, YQ P σ op o.type v /\ σ' = σ.put d v := by
 unfold Step
 rw [ho]
 unfold TE at h
 split at h <;> first | exact Iff.rfl | (exact Bool.noConfusion h)
theorem Ft {P : Program} {PT : List (Nat × Nat)} {b : Nat} {op : Op} {ty : TypeId} {v : V} {σ : St} {cells cs : List At} (h : TE PT b op = true) (hp : Tx PT σ) (c1 : σ.ob b 0 = .box cells) (hv : YQ P σ op ty v) : YQ P (σ.Zs b 0 (.box cs)) op ty v := by
 have uH : σ.ob b 0 ≠ .none := by rw [c1]; intro e; cases e
 have ho := fun u i => St.XK σ b 0 (.box cs) u i uH
 have tg : ∀ t j, (∃ q size rows, σ.ob t j = .arr q size rows) -> ∃ q size rows, (σ.Zs b 0 (.box cs)).ob t j = .arr q size rows := by
  rintro t j ⟨q, size, rows, e⟩
  by_cases hh : t = b /\ j = 0
  ·obtain ⟨rfl, rfl⟩ := hh; rw [c1] at e; cases e
  ·exact ⟨q, size, rows, by rw [ho, if_neg hh]; exact e⟩
 have o8 : ∀ t j, (∃ size rows, σ.ob t j = .lit size rows) -> ∃ size rows, (σ.Zs b 0 (.box cs)).ob t j = .lit size rows := by
  rintro t j ⟨size, rows, e⟩
  by_cases hh : t = b /\ j = 0
  ·obtain ⟨rfl, rfl⟩ := hh; rw [c1] at e; cases e
  ·exact ⟨size, rows, by rw [ho, if_neg hh]; exact e⟩
 have nq : ∀ t, (∃ cells, σ.ob t 0 = .box cells) -> ∃ cells, (σ.Zs b 0 (.box cs)).ob t 0 = .box cells := by
  rintro t ⟨ce, e⟩
  by_cases hh : t = b
  ·subst hh; exact ⟨cs, by rw [ho, if_pos ⟨rfl, rfl⟩]⟩
  ·exact ⟨ce, by rw [ho, if_neg (fun dC => hh dC.1)]; exact e⟩
 unfold TE at h
 split at h
 ·rename_i T t
  simp only [List.any_eq_true, Bool.and_eq_true, beq_iff_eq, bne_iff_ne, ne_eq] at h
  obtain ⟨r, dL, rfl, gk⟩ := h
  simp only [YQ, KU] at hv ⊢
  refine ⟨hv.1, hv.2.1, ?_⟩
  have hv := hv.2.2
  rw [zn] at hv ⊢
  rcases hp r dL with e | ⟨c, e⟩
  ·rw [e] at hv; exact hv.elim
  ·rw [e] at hv ⊢
   obtain ⟨ce, e1, e2, e3⟩ := hv
   exact ⟨ce, by rw [ho, if_neg (fun hh => gk hh.1)]; exact e1, e2, e3⟩
 ·simp only [YQ, KU] at hv ⊢
  refine ⟨hv.1, hv.2.1, ?_⟩
  have hv := hv.2.2
  split at hv
  ·rename_i e; first | exact ⟨nq _ hv.1, hv.2⟩ | (simp only [e]; exact ⟨nq _ hv.1, hv.2⟩)
  ·rename_i e; first | exact ⟨tg _ _ hv.1, hv.2⟩ | (simp only [e]; exact ⟨tg _ _ hv.1, hv.2⟩)
  ·rename_i e; first | exact hv | (simp only [e]; exact hv)
  ·rename_i e
   have hq : ∀ t j, (∃ size rows, σ.ob t j = .arr true size rows) -> ∃ size rows, (σ.Zs b 0 (.box cs)).ob t j = .arr true size rows := by
    rintro t j ⟨size, rows, e⟩
    by_cases hh : t = b /\ j = 0
    ·obtain ⟨rfl, rfl⟩ := hh; rw [c1] at e; cases e
    ·exact ⟨size, rows, by rw [ho, if_neg hh]; exact e⟩
   first | exact ⟨hq _ _ hv.1, hv.2⟩ | (simp only [e]; exact ⟨hq _ _ hv.1, hv.2⟩)
  ·exact hv.elim
 ·simp only [YQ, KU] at hv ⊢; exact hv
 ·simp only [YQ, KU] at hv ⊢; exact hv
 ·simp only [YQ, KU] at hv ⊢; exact hv
 ·simp only [YQ, KU] at hv ⊢; exact hv
 ·simp only [YQ, KU] at hv ⊢
  refine ⟨hv.1, ?_⟩
  have hv := hv.2
  split at hv
  ·rename_i e; first | exact hv | (simp only [e]; exact hv)
  ·rename_i e; first | exact hv | (simp only [e]; exact hv)
  ·rename_i e; first | exact hv | (simp only [e]; exact hv)
  ·rename_i e; first | exact ⟨hv.1, hv.2.1.imp (tg _ _) (o8 _ _), hv.2.2⟩ | (simp only [e]; exact ⟨hv.1, hv.2.1.imp (tg _ _) (o8 _ _), hv.2.2⟩)
  ·rename_i u j i c e
   obtain ⟨g1, size, rows, n, s, g2, g3⟩ := hv
   have g4 : (σ.Zs b 0 (.box cs)).ob u j = .arr true size rows := by
    rw [ho]
    by_cases hh : u = b /\ j = 0
    ·obtain ⟨rfl, rfl⟩ := hh; rw [c1] at g2; cases g2
    ·rw [if_neg hh]; exact g2
   first | exact ⟨g1, size, rows, n, s, g4, g3⟩ | (simp only [e]; exact ⟨g1, size, rows, n, s, g4, g3⟩)
  ·exact hv.elim
 ·exact Bool.noConfusion h
theorem Af {P : Program} {ops : Array Oper} {bar : Oper -> Bool} {PT : List (Nat × Nat)} {x y : Oper} {σ σ1 σ2 : St} (h : swapT PT bar x y = true) (hp : Tx PT σ) (tF : Ju P ops bar x σ σ1) (uO : Ju P ops bar y σ1 σ2) : ∃ σ1', Y6 P ops y σ σ1' /\ Y6 P ops x σ1' σ2 := by
 unfold swapT at h
 simp only [Bool.and_eq_true, Bool.not_eq_true', Option.isNone_iff_eq_none] at h
 obtain ⟨⟨⟨⟨tf, tA⟩, pr⟩, rD⟩, h⟩ := h
 have tF := tF.resolve_right (fun hh => by rw [tf] at hh; cases hh.1)
 have uO := uO.resolve_right (fun hh => by rw [tA] at hh; cases hh.1)
 split at h
 ·rename_i dx T tp q tx sY uE
  simp only [Bool.and_eq_true, Bool.not_eq_true', List.any_eq_true, beq_iff_eq, bne_iff_ne, ne_eq] at h
  obtain ⟨⟨uH, hq⟩, p, mi, su, hv⟩ := h
  have ux : zL dx (.tmp tp) = false := by simp [zL, uH]
  unfold Y6 at tF uO
  simp only [pr, tx] at tF
  simp only [rD, sY, uE] at uO
  obtain ⟨v, si, rfl⟩ := (Tr rfl hv).1 tF
  unfold yK at uO
  rw [XB ux, XB hq, zn] at uO
  obtain ⟨k1, k2, k3, k4, uO⟩ := uO
  have sr := hp p mi
  rw [su] at sr
  rcases sr with sr | ⟨c, sr⟩
  ·rw [sr] at uO; exact uO.elim
  ·rw [sr] at uO
   obtain ⟨cells, c1, c2, c3, rfl⟩ := uO
   rw [St.QP] at c1
   refine ⟨σ.Zs p.2 0 (.box (place cells c (unc (look P σ T q)).cells)), ?_, ?_⟩
   ·unfold Y6 yK
    simp only [rD, sY, uE]
    refine ⟨k1, by rw [zn]; exact k2, k3, k4, ?_⟩
    rw [zn, sr]
    exact ⟨cells, c1, c2, c3, rfl⟩
   ·unfold Y6
    simp only [pr, tx]
    rw [zY]
    exact (Tr rfl hv).2 ⟨v, Ft hv hp c1 si, rfl⟩
 ·cases h
theorem x1 : ∀ (σ : St) (d : Nat), σ.put d (σ.get d) = σ
 | [], _ => rfl
 | e :: σ, 0 => by simp [St.put, St.get]
 | e :: σ, d + 1 => by have := x1 σ d; simp only [St.put, St.get, List.getElem?_cons_succ] at this ⊢; rw [this]
theorem PC : ∀ (σ : St) (d : Nat) (v v' : V), (σ.put d v).put d v' = σ.put d v'
 | [], _, _, _ => rfl
 | e :: σ, 0, _, _ => rfl
 | e :: σ, d + 1, v, v' => by simp [St.put, PC σ d v v']
theorem My {P : Program} {σ σ' : St} (h : ∀ u, σ'.get u = σ.get u) {T : TypeId} {x : Operand} : look P σ' T x = look P σ T x := by
 cases x with
 | tmp u => exact h u
 | const c => rfl
 | global g => rfl
 | func f => rfl
theorem Ap {P : Program} {ops : Array Oper} {bar : Oper -> Bool} {x y : Oper} {σ σ1 σ2 : St} {d : Nat} (h : G2 bar x y = true) (tx : x.dst = some d) (uu : Xd σ d = true) (tF : Ju P ops bar x σ σ1) (uO : Ju P ops bar y σ1 σ2) : ∃ σ1', Ju P ops bar y σ σ1' /\ Y6 P ops x σ1' σ2 := by
 unfold G2 at h
 simp only [tx, Bool.and_eq_true, Bool.not_eq_true', Option.isNone_iff_eq_none] at h
 obtain ⟨⟨⟨⟨⟨⟨tf, tA⟩, pr⟩, uk⟩, rD⟩, sY⟩, hv, hu⟩ := h
 have tF := tF.resolve_right (fun hh => by rw [tf] at hh; cases hh.1)
 unfold Y6 at tF
 simp only [pr, tx] at tF
 have e1 : ∃ v, YQ P σ x.op x.type v /\ σ1 = σ.put d v := by
  unfold Step at tF
  cases hx : x.op <;> rw [hx] at tF hv <;> first | exact tF | (exact Bool.noConfusion hv)
 obtain ⟨v, si, rfl⟩ := e1
 have back : ∀ σ', (∀ u, σ'.get u = σ.get u) -> Y6 P ops x σ' (σ'.put d v) := by
  intro σ' hg
  unfold Y6
  simp only [pr, tx]
  have : YQ P σ' x.op x.type v := by
   cases hx : x.op <;> rw [hx] at hv si <;> first | (exact Bool.noConfusion hv) | (simp only [YQ, My hg] at si ⊢; exact si)
  unfold Step
  cases hx : x.op <;> rw [hx] at hv this <;> first | exact ⟨v, this, rfl⟩ | (exact Bool.noConfusion hv)
 rcases uO with uO | ⟨_, _, _, hk, _⟩
 · -- a plain store
  unfold W0 at uk
  split at uk
  ·rename_i T p q uE
   simp only [jl, uE, Bool.and_eq_true, Bool.not_eq_true'] at hu
   unfold Y6 at uO
   simp only [rD, sY, uE] at uO
   unfold yK at uO
   rw [XB hu.1, XB hu.2] at uO
   obtain ⟨k1, k2, k3, k4, uO⟩ := uO
   split at uO
   ·rename_i t c hl
    obtain ⟨cells, c1, c2, c3, rfl⟩ := uO
    rw [St.QP] at c1
    refine ⟨σ.Zs t 0 (.box (place cells c (unc (look P σ T q)).cells)), .inl ?_, ?_⟩
    ·unfold Y6 yK
     simp only [rD, sY, uE]
     refine ⟨k1, k2, k3, k4, ?_⟩
     rw [hl]
     exact ⟨cells, c1, c2, c3, rfl⟩
    ·rw [zY]; exact back _ (fun u => St.Xj _ _ _ _ _)
   ·rename_i t j i c hl
    obtain ⟨q', size, rows, ds, c1, c2, c3, c4, c5, c6, c7, rfl⟩ := uO
    rw [St.QP] at c1
    rw [Th] at c3
    refine ⟨σ.Zs t j (.arr q' size (rows.set i (place (rows.getD i []) c ds))), .inl ?_, ?_⟩
    ·unfold Y6 yK
     simp only [rD, sY, uE]
     refine ⟨k1, k2, k3, k4, ?_⟩
     rw [hl]
     exact ⟨q', size, rows, ds, c1, c2, c3, c4, c5, c6, c7, rfl⟩
    ·rw [zY]; exact back _ (fun u => St.Xj _ _ _ _ _)
   ·exact uO.elim
  ·cases uk
 ·obtain ⟨⟨sQ, tT⟩, tI, nq⟩ := hk uk
  rw [St.QN] at sQ
  have pv : P4 (σ.get d) = true := by
   rw [yP] at uu
   unfold St.get
   rcases uu with e | ⟨x', e⟩ <;> rw [e] <;> rfl
  have hq : ∀ l : List (Nat × V), (σ.put d v).QU ((d, σ.get d) :: l) = σ.QU l := fun l => by rw [St.QU, PC, x1]
  have h0 := tI [(d, σ.get d)] (fun p hp => by cases List.mem_singleton.1 hp; exact ⟨hu, pv⟩)
  rw [hq []] at h0
  have hlen : d < σ.length := by
   rw [yP] at uu
   rcases uu with e | ⟨x', e⟩ <;> exact (List.getElem?_eq_some_iff.1 e).1
  have ov : ∀ u, (σ2.put d (σ.get d)).get u = σ.get u := fun u => by
   rw [St.KO]
   by_cases o7 : u = d /\ d < σ2.length
   ·rw [if_pos o7, o7.1]
   ·rw [if_neg o7, tT, St.KO]
    have mm : ¬ u = d := fun e => o7 ⟨e, by rw [sQ]; exact hlen⟩
    rw [if_neg (fun hh => mm hh.1)]
  refine ⟨σ2.put d (σ.get d), .inr ⟨tA, h0.1, h0.2, fun _ => ⟨⟨by rw [St.QN]; exact sQ, ov⟩, fun l hl => ?_, fun t cells hb => by rw [St.QP]; exact nq t cells (by rw [St.QP]; exact hb)⟩, fun hh => (by rw [HV uk] at hh; cases hh), fun hh _ => (by rw [FO uk] at hh; cases hh)⟩, ?_⟩
  ·have := tI ((d, σ.get d) :: l) (fun p hp => by
    rcases List.mem_cons.1 hp with rfl | hp
    ·exact ⟨hu, pv⟩
    ·exact hl p hp)
   rw [hq l] at this
   exact this
  ·have := back _ ov
   rw [PC] at this
   have e : σ2.put d v = σ2 := by
    have g1 := tT d
    rw [St.KO, if_pos ⟨rfl, hlen⟩] at g1
    rw [<- g1]; exact x1 σ2 d
   rw [e] at this
   exact this
theorem AR {P : Program} {ops : Array Oper} {bar : Oper -> Bool} {PT : List (Nat × Nat)} {NB : List Nat} {x y : Oper} {σ σ1 σ2 : St} {d : Nat} (h : FM PT NB bar x y = true) (hp : Tx PT σ) (gX : Nt NB σ) (tx : x.dst = some d) (uu : Xd σ d = true) (tF : Ju P ops bar x σ σ1) (uO : Ju P ops bar y σ1 σ2) : ∃ σ1', Ju P ops bar y σ σ1' /\ Y6 P ops x σ1' σ2 := by
 unfold FM at h
 simp only [tx, Bool.and_eq_true, Bool.not_eq_true', Option.isNone_iff_eq_none] at h
 obtain ⟨⟨⟨⟨⟨⟨tf, tA⟩, pr⟩, uk⟩, rD⟩, sY⟩, h⟩ := h
 have tF := tF.resolve_right (fun hh => by rw [tf] at hh; cases hh.1)
 split at h
 ·rename_i dx T tp q gb uE
  cases gb
  simp only [Bool.and_eq_true, Bool.not_eq_true', bne_iff_ne, ne_eq, List.contains_iff_mem] at h
  obtain ⟨⟨⟨dM, uH⟩, hq⟩, hv⟩ := h
  have ux : zL d (.tmp tp) = false := by simp [zL, uH]
  have hu : jl y d = true := by simp only [jl, uE, ux, hq]; rfl
  unfold Y6 at tF
  simp only [pr, tx] at tF
  have e1 : ∃ v, YQ P σ x.op x.type v /\ σ1 = σ.put d v := by
   unfold Step at tF
   cases hx : x.op <;> rw [hx] at tF hv <;> first | exact tF | (exact Bool.noConfusion hv)
  obtain ⟨v, si, rfl⟩ := e1
  have back : ∀ σ', (∀ u, σ'.get u = σ.get u) -> (∀ t cells, σ.ob t 0 = .box cells -> σ'.ob t 0 = .box cells) -> Y6 P ops x σ' (σ'.put d v) := by
   intro σ' hg nq
   unfold Y6
   simp only [pr, tx]
   have : YQ P σ' x.op x.type v := by
    cases hx : x.op <;> rw [hx] at hv si <;> try exact Bool.noConfusion hv
    case load T' z =>
     cases z with
     | tmp t =>
      simp only [List.any_eq_true, beq_iff_eq] at hv
      obtain ⟨p, mi, su⟩ := hv
      simp only [YQ, My hg] at si ⊢
      refine ⟨si.1, si.2.1, ?_⟩
      have tU := si.2.2
      have sr := hp p mi
      rw [su] at sr
      rw [zn] at tU ⊢
      rcases sr with e | ⟨c, e⟩
      ·rw [e] at tU; exact tU.elim
      ·rw [e] at tU ⊢
       obtain ⟨ce, k1, k2⟩ := tU
       exact ⟨ce, nq _ _ k1, k2⟩
     | _ => exact Bool.noConfusion hv
    case fieldAddr T' z f =>
     cases z with
     | tmp t =>
      simp only [List.any_eq_true, beq_iff_eq] at hv
      obtain ⟨p, mi, su⟩ := hv
      simp only [YQ, My hg] at si ⊢
      refine ⟨si.1, si.2.1, ?_⟩
      have tU := si.2.2
      have sr := hp p mi
      rw [su] at sr
      rw [zn] at tU ⊢
      rcases sr with e | ⟨c, e⟩
      ·rw [e] at tU; exact tU.elim
      ·rw [e] at tU ⊢
       obtain ⟨⟨ce, k1⟩, k2⟩ := tU
       exact ⟨⟨ce, nq _ _ k1⟩, k2⟩
     | _ => exact Bool.noConfusion hv
   unfold Step
   cases hx : x.op <;> rw [hx] at hv this <;> first | exact ⟨v, this, rfl⟩ | (exact Bool.noConfusion hv)
  rcases uO with uO | ⟨_, _, _, hk, _⟩
  ·unfold Y6 at uO
   simp only [rD, sY, uE] at uO
   unfold yK at uO
   rw [XB ux, XB hq] at uO
   obtain ⟨k1, k2, k3, k4, uO⟩ := uO
   split at uO
   ·rename_i t c hl
    exact absurd hl (gX tp dM t c)
   ·rename_i t j i c hl
    obtain ⟨q', size, rows, ds, c1, c2, c3, c4, c5, c6, c7, rfl⟩ := uO
    rw [St.QP] at c1
    rw [Th] at c3
    refine ⟨σ.Zs t j (.arr q' size (rows.set i (place (rows.getD i []) c ds))), .inl ?_, ?_⟩
    ·unfold Y6 yK
     simp only [rD, sY, uE]
     refine ⟨k1, k2, k3, k4, ?_⟩
     rw [hl]
     exact ⟨q', size, rows, ds, c1, c2, c3, c4, c5, c6, c7, rfl⟩
    ·rw [zY]
     refine back _ (fun u => St.Xj _ _ _ _ _) (fun b cells hb => ?_)
     have oD : σ.ob t j ≠ .none := by rw [c1]; simp
     rw [St.XK σ t j _ b 0 oD]
     split
     ·rename_i hc; rw [hc.1, hc.2] at hb; rw [c1] at hb; cases hb
     ·exact hb
   ·exact uO.elim
  ·obtain ⟨⟨sQ, tT⟩, tI, nq⟩ := hk uk
   rw [St.QN] at sQ
   have pv : P4 (σ.get d) = true := by
    rw [yP] at uu
    unfold St.get
    rcases uu with e | ⟨x', e⟩ <;> rw [e] <;> rfl
   have gG : ∀ l : List (Nat × V), (σ.put d v).QU ((d, σ.get d) :: l) = σ.QU l := fun l => by rw [St.QU, PC, x1]
   have h0 := tI [(d, σ.get d)] (fun p hp => by cases List.mem_singleton.1 hp; exact ⟨hu, pv⟩)
   rw [gG []] at h0
   have hlen : d < σ.length := by
    rw [yP] at uu
    rcases uu with e | ⟨x', e⟩ <;> exact (List.getElem?_eq_some_iff.1 e).1
   have ov : ∀ u, (σ2.put d (σ.get d)).get u = σ.get u := fun u => by
    rw [St.KO]
    by_cases o7 : u = d /\ d < σ2.length
    ·rw [if_pos o7, o7.1]
    ·rw [if_neg o7, tT, St.KO]
     have mm : ¬ u = d := fun e => o7 ⟨e, by rw [sQ]; exact hlen⟩
     rw [if_neg (fun hh => mm hh.1)]
   have l9 : ∀ t cells, σ.ob t 0 = .box cells -> (σ2.put d (σ.get d)).ob t 0 = .box cells := fun t cells hb => by rw [St.QP]; exact nq t cells (by rw [St.QP]; exact hb)
   refine ⟨σ2.put d (σ.get d), .inr ⟨tA, h0.1, h0.2, fun _ => ⟨⟨by rw [St.QN]; exact sQ, ov⟩, fun l hl => ?_, l9⟩, fun hh => (by rw [HV uk] at hh; cases hh), fun hh _ => (by rw [FO uk] at hh; cases hh)⟩, ?_⟩
   ·have := tI ((d, σ.get d) :: l) (fun p hp => by
     rcases List.mem_cons.1 hp with rfl | hp
     ·exact ⟨hu, pv⟩
     ·exact hl p hp)
    rw [gG l] at this
    exact this
   ·have := back _ ov l9
    rw [PC] at this
    have e : σ2.put d v = σ2 := by
     have g1 := tT d
     rw [St.KO, if_pos ⟨rfl, hlen⟩] at g1
     rw [<- g1]; exact x1 σ2 d
    rw [e] at this
    exact this
 ·cases h
theorem wq {P : Program} {PT : List (Nat × Nat)} {σ σ1 : St} {d : Nat} (tT : ∀ t, t ≠ d -> σ1.get t = σ.get t /\ (σ.get t).ref d = false) (sk : ∀ t j cells, t ≠ d -> σ1.ob t j = .box cells -> σ.ob t j = .box cells /\ YN d cells = false)
  (tg : ∀ t j q s rows, t ≠ d -> σ1.ob t j = .arr q s rows -> ∃ uT, σ.ob t j = .arr q s uT) (hp : Tx PT σ) {op : Op} {ty : TypeId} {v : V} (pd : EM PT op = true) (pF : ∀ z ∈ op.operands.toList, z ≠ .tmp d) (hv : YQ P σ1 op ty v) : YQ P σ op ty v /\ v.ref d = false := by
 have hl : ∀ (z : Operand) (T : TypeId), z ≠ .tmp d -> look P σ1 T z = look P σ T z := by
  intro z T hz
  cases z with
  | tmp u => exact (tT u (fun e => hz (by rw [e]))).1
  | const c => rfl
  | global g => rfl
  | func f => rfl
 have hr : ∀ (z : Operand) (T : TypeId), z ≠ .tmp d -> (look P σ T z).ref d = false := by
  intro z T hz
  cases z with
  | tmp u => exact (tT u (fun e => hz (by rw [e]))).2
  | const c => exact VW T c d
  | global g => rfl
  | func f => rfl
 have uH : ∀ (z : Operand) (T : TypeId) (x : At), z ≠ .tmp d -> unc (look P σ T z) = .one x -> x.ref d = false := by
  intro z T x hz hu
  cases hx : x.ref d with
  | false => rfl
  | true => have := Xm hu hx; rw [hr z T hz] at this; cases this
 refine ⟨?_, ?_⟩
 ·cases op <;> simp only [EM] at pd <;> try exact Bool.noConfusion pd
  case move x =>
   simp only [YQ] at hv ⊢
   rw [hv, hl x ty (pF x (by simp [Op.operands]))]
  case load T x =>
   cases x with
   | tmp t =>
    have ht : Operand.tmp t ≠ .tmp d := pF _ (by simp [Op.operands])
    simp only [List.any_eq_true, beq_iff_eq] at pd
    obtain ⟨p, mi, su⟩ := pd
    simp only [YQ] at hv ⊢
    rw [hl _ 0 ht] at hv
    refine ⟨hv.1, hv.2.1, ?_⟩
    have tU := hv.2.2
    have sr := hp p mi
    rw [su] at sr
    rw [zn] at tU ⊢
    rcases sr with e | ⟨c, e⟩
    ·rw [e] at tU; exact tU.elim
    ·rw [e] at tU ⊢
     obtain ⟨ce, e1, e2⟩ := tU
     have hb : p.2 ≠ d := by
      have := uH (.tmp t) 0 (.bptr p.2 c) ht (by rw [zn]; exact e)
      simpa [At.ref] using this
     exact ⟨ce, (sk _ _ _ hb e1).1, e2⟩
   | _ => exact Bool.noConfusion pd
  case fieldAddr T x f =>
   cases x with
   | tmp t =>
    have ht : Operand.tmp t ≠ .tmp d := pF _ (by simp [Op.operands])
    simp only [YQ] at hv ⊢
    rw [hl _ 0 ht] at hv
    refine ⟨hv.1, hv.2.1, ?_⟩
    have tU := hv.2.2
    split at tU
    ·rename_i t' c e
     have hb : t' ≠ d := by have := uH _ _ _ ht e; simpa [At.ref] using this
     obtain ⟨⟨ce, e1⟩, e2⟩ := tU
     first | exact ⟨⟨ce, (sk _ _ _ hb e1).1⟩, e2⟩ | (simp only [e]; exact ⟨⟨ce, (sk _ _ _ hb e1).1⟩, e2⟩)
    ·rename_i t' j i c e
     have hb : t' ≠ d := by have := uH _ _ _ ht e; simpa [At.ref] using this
     obtain ⟨⟨q, s, rows, e1⟩, e2⟩ := tU
     obtain ⟨uT, e3⟩ := tg _ _ _ _ _ hb e1
     first | exact ⟨⟨q, s, uT, e3⟩, e2⟩ | (simp only [e]; exact ⟨⟨q, s, uT, e3⟩, e2⟩)
    ·rename_i rr c e; first | exact tU | (simp only [e]; exact tU)
    ·rename_i t' j i c k e
     have hb : t' ≠ d := by have := uH _ _ _ ht e; simpa [At.ref] using this
     obtain ⟨⟨s, rows, e1⟩, e2⟩ := tU
     obtain ⟨uT, e3⟩ := tg _ _ _ _ _ hb e1
     first | exact ⟨⟨s, uT, e3⟩, e2⟩ | (simp only [e]; exact ⟨⟨s, uT, e3⟩, e2⟩)
    ·exact tU.elim
   | _ => exact Bool.noConfusion pd
  case slice T x lo hi mx =>
   cases x with
   | tmp t =>
    cases mx with
    | some m => exact Bool.noConfusion pd
    | none =>
     have ht : Operand.tmp t ≠ .tmp d := pF _ (by simp [Op.operands])
     have ow : ∀ (df n : Nat) (z : Option Operand), (∀ y, z = some y -> y ≠ .tmp d) -> bnd P σ1 df z n -> bnd P σ df z n := by
      intro df n z hz h
      cases z with
      | none => exact h
      | some z => simp only [bnd] at h ⊢; rw [hl z 0 (hz z rfl)] at h; exact h
     have rW : ∀ y, lo = some y -> y ≠ .tmp d := fun y e => pF y (by subst e; simp [Op.operands])
     have pw : ∀ y, hi = some y -> y ≠ .tmp d := fun y e => pF y (by subst e; simp [Op.operands])
     simp only [YQ] at hv ⊢
     rw [hl _ 0 ht] at hv
     refine ⟨hv.1, ?_⟩
     have tU := hv.2
     split at tU
     ·rename_i s e
      obtain ⟨h1, l, h, h2, h3, h4⟩ := tU
      first | exact ⟨h1, l, h, ow _ _ _ rW h2, ow _ _ _ pw h3, h4⟩ | (simp only [e]; exact ⟨h1, l, h, ow _ _ _ rW h2, ow _ _ _ pw h3, h4⟩)
     ·rename_i s rows e
      obtain ⟨h1, h0, l, h, h2, h3, h4⟩ := tU
      first | exact ⟨h1, h0, l, h, ow _ _ _ rW h2, ow _ _ _ pw h3, h4⟩ | (simp only [e]; exact ⟨h1, h0, l, h, ow _ _ _ rW h2, ow _ _ _ pw h3, h4⟩)
     ·rename_i t' j o len e
      have hb : t' ≠ d := by have := uH _ _ _ ht e; simpa [At.ref] using this
      obtain ⟨h1, ⟨q, rows, e1⟩, l, h, h2, h3, h4⟩ := tU
      obtain ⟨uT, e3⟩ := tg _ _ _ _ _ hb e1
      first | exact ⟨h1, ⟨q, uT, e3⟩, l, h, ow _ _ _ rW h2, ow _ _ _ pw h3, h4⟩ | (simp only [e]; exact ⟨h1, ⟨q, uT, e3⟩, l, h, ow _ _ _ rW h2, ow _ _ _ pw h3, h4⟩)
     ·exact tU.elim
   | _ => exact Bool.noConfusion pd
 ·cases hx : v.ref d with
  | false => rfl
  | true =>
   obtain ⟨z, hz, T, h1⟩ := OB hv hx
   rw [hl z T (pF z hz)] at h1
   rcases h1 with h1 | ⟨t, cells, h1, h2, h3⟩
   ·rw [hr z T (pF z hz)] at h1; cases h1
   ·by_cases mo : t = d
    ·rw [mo, hr z T (pF z hz)] at h1; cases h1
    ·have := (sk t 0 cells mo h2).2
     rw [this] at h3; cases h3
theorem AM {P : Program} {ops : Array Oper} {bar : Oper -> Bool} {PT : List (Nat × Nat)} {x y : Oper} {σ σ1 σ2 : St} {d : Nat} (h : Gd PT ops bar x y = true) (hp : Tx PT σ) (tx : x.dst = some d) (uu : Xd σ d = true) (tF : Ju P ops bar x σ σ1) (uO : Ju P ops bar y σ1 σ2) : ∃ σ1', Ju P ops bar y σ σ1' /\ Ju P ops bar x σ1' σ2 := by
 unfold Gd at h
 simp only [Bool.and_eq_true, Bool.not_eq_true', Option.isNone_iff_eq_none] at h
 obtain ⟨⟨⟨⟨⟨⟨tf, tA⟩, oW⟩, pr⟩, rD⟩, pd⟩, h⟩ := h
 rw [tx] at h
 cases sY : y.dst with
 | none => rw [sY] at h; cases h
 | some dy =>
  rw [sY] at h
  simp only [Bool.and_eq_true, Bool.not_eq_true', bne_iff_ne, ne_eq] at h
  obtain ⟨⟨uH, r7⟩, oT⟩ := h
  have iA := j8 r7
  have iB := j8 oT
  have uO := uO.resolve_right (fun hh => by rw [tA] at hh; cases hh.1)
  rcases tF with tF | ⟨_, bE, bF, _, mD, _⟩
  ·have tN : WB y = false := by
    unfold WB
    cases uE : y.op <;> rw [uE] at pd <;> first | rfl | (exact Bool.noConfusion pd)
   obtain ⟨σ1', hy, hx⟩ := swap tx sY uH iA iB tN (.inl rD) uu tF uO
   exact ⟨σ1', .inl hy, .inl hx⟩
  ·obtain ⟨d', uU, hlen, tT, sk, tg, tI⟩ := mD oW
   rw [tx] at uU; cases uU
   have e2 : ∃ v, YQ P σ1 y.op y.type v /\ σ2 = σ1.put dy v := by
    unfold Y6 at uO
    simp only [rD, sY] at uO
    unfold Step at uO
    cases uE : y.op <;> rw [uE] at uO pd <;> first | exact uO | (exact Bool.noConfusion pd)
   obtain ⟨v, hv, rfl⟩ := e2
   obtain ⟨nk, oQ⟩ := wq tT sk tg hp pd (fun z hz => iA z (by simp only [K4, List.mem_append]; exact .inl hz)) hv
   have dP : T9 x dy = true := by
    simp only [T9, Bool.not_eq_true']
    refine List.any_eq_false.2 (fun z hz => ?_)
    have := iB z (by simp only [K4, List.mem_append]; exact .inl hz)
    cases z <;> simp [zL] at this ⊢
    exact this
   have uj : ∀ p ∈ [(dy, v)], p.1 ≠ d /\ T9 x p.1 = true /\ p.2.ref d = false := fun p hp => by
    cases List.mem_singleton.1 hp; exact ⟨fun e => uH e.symm, dP, oQ⟩
   have h0 := tI [(dy, v)] uj
   refine ⟨σ.put dy v, .inl ?_, .inr ⟨tf, h0.1, h0.2, fun hh => (by rw [HV hh] at oW; cases oW), fun _ => ⟨d, tx, by rw [St.QN, St.QN]; exact hlen, fun t ht => ?_, fun t j cells ht hb => ?_, fun t j q s rows ht hb => ?_, fun l hl => ?_⟩, fun hh _ => (by rw [CC oW] at hh; cases hh)⟩⟩
   ·unfold Y6
    simp only [rD, sY]
    unfold Step
    cases uE : y.op <;> rw [uE] at nk pd <;> first | exact ⟨v, nk, rfl⟩ | (exact Bool.noConfusion pd)
   ·have h1 := tT t ht
    rw [St.KO, St.KO, hlen]
    by_cases hc : t = dy /\ dy < σ.length
    ·simp only [if_pos hc]; exact ⟨trivial, oQ⟩
    ·simp only [if_neg hc]; exact h1
   ·rw [St.QP] at hb ⊢; exact sk t j cells ht hb
   ·rw [St.QP] at hb ⊢; exact tg t j q s rows ht hb
   ·exact tI ((dy, v) :: l) (fun p hp => by
     rcases List.mem_cons.1 hp with rfl | hp
     ·exact uj _ (by simp)
     ·exact hl p hp)
theorem DS {σ : St} {t j : Nat} (hn : σ.ob t j ≠ .none) : σ.Zs t j (σ.ob t j) = σ := by
 apply List.ext_getElem?
 intro u
 rw [X6]
 by_cases hu : u = t
 ·subst hu
  obtain ⟨e, he, ho⟩ := TH (σ := σ) (t := u) (j := j) rfl hn
  rw [if_pos rfl, he, Option.map_some]
  have : e.2.set j (σ.ob u j) = e.2 := by
   rw [<- ho]
   apply List.ext_getElem?
   intro k
   rw [List.getElem?_set]
   by_cases hk : j = k
   ·subst hk
    rw [if_pos rfl]
    split
    ·rename_i uQ; unfold YU; rw [List.getElem?_eq_getElem uQ]
    ·rename_i uQ; exact (List.getElem?_eq_none (by omega)).symm
   ·rw [if_neg hk]
  rw [this]
 ·rw [if_neg hu]
theorem Gc (σ : St) (t j : Nat) (o o' : Ob) : (σ.Zs t j o).Zs t j o' = σ.Zs t j o' := by
 apply List.ext_getElem?
 intro u
 rw [X6, X6, X6]
 by_cases hu : u = t
 ·simp only [if_pos hu]
  cases σ[u]? <;> simp
 ·simp only [if_neg hu]
section
variable {P : Program} {ops : Array Oper} {σ : St} {t d dx : Nat} {cells cs : List At} {v : V} {os : Option (List Ob)}
theorem Tj : (Kw t d cs v os σ).length = σ.length := by
 cases os <;> simp [Kw, St.QN, St.kn, St.Y0]
theorem H5 {u : Nat} (h : u ≠ d) : (Kw t d cs v os σ).get u = σ.get u := by
 cases os <;> simp [Kw, St.KO, St.Wc, St.Xj, h]
theorem Aj {u j : Nat} (hb : σ.ob t 0 = .box cells) (hu : os ≠ none -> u ≠ d) : (Kw t d cs v os σ).ob u j = if u = t /\ j = 0 then .box cs else σ.ob u j := by
 have hn : σ.ob t 0 ≠ .none := by rw [hb]; simp
 cases os with
 | none => simp only [Kw, St.QP]; exact St.XK σ t 0 _ u j hn
 | some l =>
  have := hu (by simp)
  simp only [Kw, St.Qj, this, false_and, if_false]
  exact St.XK σ t 0 _ u j hn
theorem Pt {u : Nat} : (Kw t d cs v os σ)[u]? = if u = d then (σ[u]?).map (fun e => (v, match os with | some l => l | none => if u = t then e.2.set 0 (.box cs) else e.2)) else if u = t then (σ[u]?).map (fun e => (e.1, e.2.set 0 (.box cs))) else σ[u]? := by
 cases os <;> simp only [Kw, xz, zE, X6] <;> by_cases h1 : u = d <;> by_cases h2 : u = t <;> simp [h1, h2] <;> (try subst h1) <;> (try subst h2) <;> (try simp_all) <;> (first | (cases σ[u]? <;> rfl) | (cases σ[t]? <;> rfl) | (cases σ[d]? <;> rfl))
theorem N4 {e : Eff} (tN : ∀ a j w l, e ≠ .drop a j w l) (h1 : dx ≠ d) (h2 : (∀ w, e ≠ .put w) -> t ≠ dx) : e.ap dx (Kw t d cs v os σ) = Kw t d cs v os (e.ap dx σ) := by
 apply List.ext_getElem?
 intro u
 rw [Pt]
 cases e with
 | put w =>
  simp only [Eff.ap, xz, Pt]
  by_cases e1 : u = dx
  ·subst e1
   simp only [if_true, if_neg h1]
   by_cases e2 : u = t <;> simp [e2] <;> (first | (cases σ[u]? <;> rfl) | (cases σ[t]? <;> rfl) | rfl)
  ·simp only [if_neg e1]
 | new w l =>
  have h3 := h2 (by intro w h; cases h)
  simp only [Eff.ap, zE, Pt]
  by_cases e1 : u = dx
  ·subst e1
   simp only [if_true, if_neg h1, if_neg (Ne.symm h3)]
  ·simp only [if_neg e1]
 | drop a j w l => exact absurd rfl (tN a j w l)
theorem DO {u : Nat} (h : σ.fresh u = true) (sU : YN u cs = false) (hv : v.ref u = false /\ ∀ l, os = some l -> Yl u l = false) : (Kw t d cs v os σ).fresh u = true := by
 have hf := Xy.1 h
 refine Xy.2 ⟨by rw [Tj]; exact hf.1, fun k e he hk => ?_⟩
 rw [Pt] at he
 have iC : ∀ lS, Yl u lS = false -> Yl u (lS.set 0 (.box cs)) = false := by
  intro lS h0
  cases lS with
  | nil => exact h0
  | cons o lS =>
   simp only [List.set_cons_zero]
   cases o <;> simp_all [Yl]
 by_cases h1 : k = d
 ·rw [if_pos h1] at he
  simp only [Option.map_eq_some_iff] at he
  obtain ⟨e0, pG, rfl⟩ := he
  refine ⟨hv.1, ?_⟩
  cases os with
  | some l => exact hv.2 l rfl
  | none =>
   have := (hf.2 k e0 pG hk).2
   simp only
   split
   ·exact iC _ this
   ·exact this
 ·rw [if_neg h1] at he
  split at he
  ·simp only [Option.map_eq_some_iff] at he
   obtain ⟨e0, pG, rfl⟩ := he
   exact ⟨(hf.2 k e0 pG hk).1, iC _ (hf.2 k e0 pG hk).2⟩
  ·exact hf.2 k e he hk
theorem Ga {u : Nat} (hb : σ.ob t 0 = .box cells) (h : (Kw t d cs v os σ).fresh u = true) (uu : Xd σ d = true) (dA : YN u cells = false) : σ.fresh u = true := by
 have hf := Xy.1 h
 refine Xy.2 ⟨by rw [<- Tj (σ := σ)]; exact hf.1, fun k e he hk => ?_⟩
 by_cases h1 : k = d
 ·rw [h1] at he; exact PQ uu he u
 ·by_cases h2 : k = t
  ·have := hf.2 k (e.1, e.2.set 0 (.box cs)) (by rw [Pt, if_neg h1, if_pos h2, he]; rfl) hk
   refine ⟨this.1, ?_⟩
   have h3 := this.2
   rw [h2] at he
   rw [Md he] at hb
   cases iZ : e.2 with
   | nil => rfl
   | cons o lS =>
    rw [iZ] at hb h3
    have hb : o = .box cells := hb
    subst hb
    simp only [List.set_cons_zero, Yl, Bool.or_eq_false_iff] at h3 ⊢
    exact ⟨dA, h3.2⟩
  ·exact hf.2 k e (by rw [Pt, if_neg h1, if_neg h2]; exact he) hk
theorem Gk {PT : List (Nat × Nat)} {x y : Oper} {A : St} {σ2 : St} (hg : x.guard = none) (tx : x.dst = some dx) (uH : dx ≠ d) (mC : ∀ z ∈ K4 ops x, z ≠ .tmp d) (hb : σ.ob t 0 = .box cells) (tD : os ≠ none -> (σ.Zs t 0 (.box cs)).fresh d = true)
  (su : Tx PT σ) (sk : ∀ b, He PT y = some b -> b = t) (ui : PU PT y x = true) (hA : A = σ \/ A = Kw t d cs v os σ) (hs : Y6 P ops x A σ2) :
  ∃ e : Eff, σ2 = e.ap dx A /\ (∀ a j w l, e ≠ .drop a j w l) /\ e.ok dx A /\ ∀ B, (B = σ \/ B = Kw t d cs v os σ) -> e.ok dx B -> Y6 P ops x B (e.ap dx B) /\ ∀ u, u ≠ dx -> e.ref u = true -> Rj P (K4 ops x) B u := by
 have uE : K4 ops x = x.op.operands.toList := by simp [K4, hg]
 simp only [PU, Bool.or_eq_true, Bool.and_eq_true, Bool.not_eq_true'] at ui
 have iD : A.length = σ.length := by rcases hA with rfl | rfl <;> simp [Tj]
 rcases ui with ⟨hc, tN⟩ | hf
 ·obtain ⟨e, rfl, uj, hdr, _, o5, gl⟩ := qp tx hs
  refine ⟨e, rfl, (fun a j w l h => by have := (hdr a j w l h).1; rw [tN] at this; cases this), uj, fun B hB gY => ?_⟩
  have iE : B.length = σ.length := by rcases hB with rfl | rfl <;> simp [Tj]
  have hk : ∀ z ∈ K4 ops x, ∃ c, z = .const c := by
   intro z hz
   rw [uE] at hz
   have := List.all_eq_true.1 hc z hz
   cases z <;> first | exact ⟨_, rfl⟩ | cases this
  have uv : Sub P (K4 ops x) A B := ⟨by rw [iD, iE], fun z hz ty => by obtain ⟨c, rfl⟩ := hk z hz; rfl, fun z hz ty u hr => by obtain ⟨c, rfl⟩ := hk z hz; have h0 := VW (P := P) ty c u; simp only [look] at hr; rw [h0] at hr; cases hr⟩
  have px : ∀ u, ¬ Rj P (K4 ops x) A u := by
   rintro u ⟨z, hz, ty, h | ⟨_, _, h, _, _⟩⟩ <;> (obtain ⟨c, rfl⟩ := hk z hz; have h0 := VW (P := P) ty c; simp only [look] at h; rw [h0] at h; cases h)
  exact ⟨gl B uv gY, fun u hu hr => absurd (o5 hg u hu hr) (px u)⟩
 ·split at hf
  ·rename_i b dE
   have gw := sk b dE
   subst gw
   have dQ : Step P x dx A σ2 := by unfold Y6 at hs; simp only [hg, tx] at hs; exact hs
   obtain ⟨w, hw, rfl⟩ := (Tr rfl hf).1 dQ
   refine ⟨.put w, rfl, (fun a j w' l h => by cases h), trivial, fun B hB _ => ?_⟩
   have mn : ∀ z ∈ x.op.operands.toList, ∀ ty, look P (Kw b d cs v os σ) ty z = look P (σ.Zs b 0 (.box cs)) ty z := fun z hz ty => by
    rw [KU]; exact look_eq (fun u hu => H5 hu) (mC z (by rw [uE]; exact hz)) ty
   have px : os ≠ none -> ∀ z ∈ x.op.operands.toList, ∀ ty, (look P (σ.Zs b 0 (.box cs)) ty z).ref d = false := fun hn z hz ty =>
    KR (fun t' e he gE => ((Xy.1 (tD hn)).2 t' e he gE).1) (mC z (by rw [uE]; exact hz)) ty
   have iF : ∀ u, (os ≠ none -> u ≠ d) -> ∀ j, (Kw b d cs v os σ).ob u j = (σ.Zs b 0 (.box cs)).ob u j := fun u hu j => by
    rw [Aj hb hu, St.XK _ _ _ _ _ _ (by rw [hb]; simp)]
   have fw : YQ P (σ.Zs b 0 (.box cs)) x.op x.type w -> YQ P (Kw b d cs v os σ) x.op x.type w := fun hv => jK hv
    ⟨by rw [Tj, St.Y0], fun z hz ty => (mn z hz ty).symm, fun z hz ty u hr j _ => iF u (fun hn e => by subst e; rw [px hn z hz ty] at hr; cases hr) j⟩
   have bw : YQ P (Kw b d cs v os σ) x.op x.type w -> YQ P (σ.Zs b 0 (.box cs)) x.op x.type w := fun hv => jK hv
    ⟨by rw [Tj, St.Y0], fun z hz ty => mn z hz ty, fun z hz ty u hr j _ => (iF u (fun hn e => by subst e; rw [mn z hz ty, px hn z hz ty] at hr; cases hr) j).symm⟩
   have gx : Tx PT (σ.Zs b 0 (.box cs)) := fun p hp => by rw [St.Xj]; exact su p hp
   have tA : (σ.Zs b 0 (.box cs)).ob b 0 = .box cs := by rw [St.XK _ _ _ _ _ _ (by rw [hb]; simp), if_pos ⟨rfl, rfl⟩]
   have r9 : (σ.Zs b 0 (.box cs)).Zs b 0 (.box cells) = σ := by rw [Gc, <- hb]; exact DS (by rw [hb]; simp)
   have hσ : YQ P σ x.op x.type w := by
    rcases hA with rfl | rfl
    ·exact hw
    ·have := Ft (cs := cells) hf gx tA (bw hw)
     rw [r9] at this; exact this
   have eN : YQ P B x.op x.type w := by
    rcases hB with rfl | rfl
    ·exact hσ
    ·exact fw (Ft hf su hb hσ)
   refine ⟨?_, fun u hu hr => ?_⟩
   ·unfold Y6; simp only [hg, tx]; exact (Tr rfl hf).2 ⟨w, eN, rfl⟩
   ·rw [uE]; exact OB eN hr
  ·cases hf
end
theorem Ry {P : Program} {o : Oper} (h : Jq P o = true) : W0 o = false /\ jk o = false := by
 unfold Jq at h
 split at h
 ·rename_i uE; simp [W0, jk, uE]
 ·cases h
theorem E6 {P : Program} {PT : List (Nat × Nat)} {σ : St} {y : Oper} {t : Nat} (su : Tx PT σ) (h : ∃ z r, (∃ f ts, y.op = .call ⟨.value (.func f), ⟨z :: r⟩, ts⟩) /\ ∃ ty, unc (look P σ ty z) = .one (.bptr t 0)) : ∀ b, He PT y = some b -> b = t := by
 obtain ⟨z, r, ⟨f, ts, uE⟩, ty, hz⟩ := h
 intro b hb
 unfold He at hb
 rw [uE] at hb
 cases z with
 | tmp k =>
  simp only [Option.map_eq_some_iff] at hb
  obtain ⟨p, hp, rfl⟩ := hb
  have hk : p.1 = k := by simpa using List.find?_some hp
  have hm := List.mem_of_find?_eq_some hp
  rw [zn] at hz
  rcases su p hm with e | ⟨c, e⟩ <;> rw [hk] at e <;> rw [e] at hz <;> simp [unc] at hz
  exact hz.1
 | _ => cases hb
theorem EZ {P : Program} {o : Oper} (h : Jq P o = true) : WB o = false := by
 unfold Jq at h
 split at h
 ·rename_i uE; simp [WB, uE]
 ·cases h
theorem OV {PT : List (Nat × Nat)} {x y : Oper} (h : PU PT y x = true) : WB x = false := by
 simp only [PU, Bool.or_eq_true, Bool.and_eq_true, Bool.not_eq_true'] at h
 rcases h with ⟨_, h⟩ | h
 ·exact h
 ·split at h
  ·rename_i b _
   have key : ∀ op, TE PT b op = true -> (match op with | .call ⟨.builtin .append, ⟨.const _ :: _⟩, _⟩ => false | .call ⟨.builtin .append, _, _⟩ => true | _ => false) = false := by
    intro op h
    unfold TE at h
    split at h <;> first | rfl | (exact Bool.noConfusion h)
   exact key _ h
  ·cases h
theorem AZ {P : Program} {ops : Array Oper} {bar : Oper -> Bool} {PT : List (Nat × Nat)} {x y : Oper} {σ σ1 σ2 : St} {d : Nat} (h : G3 P PT ops bar x y = true) (hp : Tx PT σ) (dB : Tx PT σ1) (tx : x.dst = some d) (uu : Xd σ d = true) (tF : Ju P ops bar x σ σ1) (uO : Ju P ops bar y σ1 σ2) : ∃ σ1', Ju P ops bar y σ σ1' /\ Ju P ops bar x σ1' σ2 := by
 unfold G3 at h
 simp only [tx, Bool.and_eq_true, Option.isNone_iff_eq_none] at h
 obtain ⟨⟨⟨⟨pr, rD⟩, dN⟩, sZ⟩, h⟩ := h
 cases sY : y.dst with
 | none => rw [sY] at h; cases h
 | some dy =>
  rw [sY] at h
  simp only [Bool.and_eq_true, Bool.or_eq_true, Bool.not_eq_true', bne_iff_ne, ne_eq] at h
  obtain ⟨⟨⟨uH, r7⟩, oT⟩, h⟩ := h
  have r7 := j8 r7
  have oT := j8 oT
  have oX : K4 ops y = y.op.operands.toList := by simp [K4, rD]
  have oY : K4 ops x = x.op.operands.toList := by simp [K4, pr]
  have iG : ∀ j, σ.ob d j = .none := fun j => by
   rw [yP] at uu
   unfold St.ob
   rcases uu with e | ⟨_, e⟩ <;> rw [e] <;> simp [YU]
  rcases h with ⟨⟨⟨tf, tA⟩, r8⟩, ui⟩ | ⟨⟨⟨tf, r8⟩, tA⟩, ui⟩
  ·have tF := tF.resolve_right (fun hh => by rw [tf] at hh; cases hh.1)
   rcases uO with uO | ⟨_, _, _, _, _, gm⟩
   ·obtain ⟨σ1', hy, hx⟩ := swap tx sY uH r7 oT (EZ r8) (.inl rD) uu tF uO
    exact ⟨σ1', .inl hy, .inl hx⟩
   ·obtain ⟨d', t, cells, cs, v, os, uU, hb, hz, ru, oQ, tD, rfl, tI⟩ := gm r8 sZ
    rw [sY] at uU; cases uU
    obtain ⟨ex, rfl, pe, oE, _⟩ := qp tx tF
    have gy : ∀ a j w l, ex ≠ .drop a j w l := fun a j w l hh => by have := (oE a j w l hh).1; rw [OV ui] at this; cases this
    have pf : ∀ z ∈ K4 ops y, ∀ ty, look P (ex.ap d σ) ty z = look P σ ty z := fun z hz ty => look_eq (fun u hu => OE ex hu) (r7 z hz) ty
    have mG : ∀ z ∈ K4 ops y, ∀ ty u, (look P (ex.ap d σ) ty z).ref u = true -> (∀ w, ex ≠ .put w) -> u ≠ d := fun z hz ty u hr sM e => by
     rw [e, pf z hz, KR (xi pe sM) (r7 z hz)] at hr; cases hr
    have pg := hz
    obtain ⟨z, r, ⟨f, ts, uE⟩, ty, lT⟩ := hz
    have lV : z ∈ K4 ops y := by rw [oX, uE]; exact KV (c := ⟨.value (.func f), ⟨z :: r⟩, ts⟩) (by simp)
    have gz : (∀ w, ex ≠ .put w) -> t ≠ d := mG z lV ty t (Xm lT (by simp [At.ref]))
    have gH : σ.ob t 0 = .box cells := by rw [En pe gz (by rw [hb]; simp), hb]
    have mo : t ≠ d := fun e => by rw [e, iG] at gH; cases gH
    have mq : os ≠ none -> (σ.Zs t 0 (.box cs)).fresh dy = true := fun hn => by
     have hf := Xy.1 (tD hn)
     refine Xy.2 ⟨by have := hf.1; rw [St.Y0] at this ⊢; rwa [Ks] at this, fun k e he hk => ?_⟩
     by_cases hkd : k = d
     ·rw [hkd, X6, if_neg mo.symm] at he
      rw [hkd] at *
      exact PQ uu he dy
     ·refine hf.2 k e ?_ hk
      rw [X6] at he ⊢
      have : (ex.ap d σ)[k]? = σ[k]? := by
       cases ex with
       | put w => simp only [Eff.ap, xz, if_neg hkd]
       | new w l => simp only [Eff.ap, zE, if_neg hkd]
       | drop a j w l => exact absurd rfl (gy a j w l)
      rw [this]; exact he
    obtain ⟨e, heq, tN, uj, hB⟩ := Gk (v := v) pr tx uH oT gH mq hp (E6 dB pg) ui (.inl rfl) tF
    rw [heq] at hb pg tD tI pf mG ⊢
    have tW : ∀ z ∈ K4 ops y, ∀ ty u, (look P (e.ap d σ) ty z).ref u = true -> ∀ j, (e.ap d σ).ob u j ≠ .none -> σ.ob u j = (e.ap d σ).ob u j := fun z hz ty u hr j hn =>
     En uj (fun sM hu => by rw [hu, pf z hz, KR (xi uj sM) (r7 z hz)] at hr; cases hr) hn
    have h0 := tI σ (Ks e) (fun z hz ty => pf z (by rw [oX]; exact hz) ty) (fun z hz ty u hr j hn => tW z (by rw [oX]; exact hz) ty u hr j hn) mq
    refine ⟨Kw t dy cs v os σ, .inr ⟨tA, h0.1, h0.2, fun hh => (by rw [(Ry r8).1] at hh; cases hh), fun hh => (by rw [(Ry r8).2] at hh; cases hh), fun _ _ => ?_⟩, .inl ?_⟩
    ·refine ⟨dy, t, cells, cs, v, os, sY, gH, ⟨z, r, ⟨f, ts, uE⟩, ty, by rw [<- pf z lV, <- heq]; exact lT⟩, ru, oQ, mq, rfl, fun σ3 lz mf mg gZ => ?_⟩
     refine tI σ3 (by rw [Ks]; exact lz) (fun z hz ty => by rw [pf z (by rw [oX]; exact hz), mf z hz]) (fun z hz ty u hr j hn => ?_) gZ
     have h1 := tW z (by rw [oX]; exact hz) ty u hr j hn
     rw [<- h1]
     exact mg z hz ty u (by rw [<- pf z (by rw [oX]; exact hz)]; exact hr) j (by rw [h1]; exact hn)
    ·rw [<- N4 tN uH (fun _ => mo)]
     refine (hB _ (.inr rfl) ?_).1
     cases e with
     | put w => trivial
     | new w l => exact DO uj (ru d).2 (oQ d (.inr uH))
     | drop a j w l => exact absurd rfl (tN a j w l)
  ·have uO := uO.resolve_right (fun hh => by rw [tA] at hh; cases hh.1)
   rcases tF with tF | ⟨_, _, _, _, _, gm⟩
   ·obtain ⟨σ1', hy, hx⟩ := swap tx sY uH r7 oT (OV ui) (.inl rD) uu tF uO
    exact ⟨σ1', .inl hy, .inl hx⟩
   ·obtain ⟨d', t, cells, cs, v, os, uU, hb, hz, ru, oQ, tD, rfl, tI⟩ := gm r8 dN
    rw [tx] at uU; cases uU
    have pg := hz
    obtain ⟨z, r, ⟨f, ts, uE⟩, ty, lT⟩ := hz
    have lV : z ∈ K4 ops x := by rw [oY, uE]; exact KV (c := ⟨.value (.func f), ⟨z :: r⟩, ts⟩) (by simp)
    obtain ⟨e, rfl, tN, uj, hB⟩ := Gk rD sY (Ne.symm uH) r7 hb tD hp (E6 hp pg) ui (.inr rfl) uO
    have iH : e.ok dy σ := by
     cases e with
     | put w => trivial
     | new w l => exact Ga hb uj uu (ru dy).1
     | drop a j w l => exact absurd rfl (tN a j w l)
    have pf : ∀ z ∈ K4 ops x, ∀ ty, look P (e.ap dy σ) ty z = look P σ ty z := fun z hz ty => look_eq (fun u hu => OE e hu) (oT z hz) ty
    have mG : ∀ z ∈ K4 ops x, ∀ ty u, (look P σ ty z).ref u = true -> (∀ w, e ≠ .put w) -> u ≠ dy := fun z hz ty u hr sM he => by
     rw [he, KR (xi iH sM) (oT z hz)] at hr; cases hr
    have sh : (∀ w, e ≠ .put w) -> t ≠ dy := mG z lV ty t (Xm lT (by simp [At.ref]))
    have ua : ∀ z ∈ K4 ops x, ∀ ty u, (look P σ ty z).ref u = true -> ∀ j, (e.ap dy σ).ob u j = σ.ob u j := fun z hz ty u hr j => Rv tN (mG z hz ty u hr)
    have pP := hB σ (.inl rfl) iH
    have iI : os ≠ none -> ((e.ap dy σ).Zs t 0 (.box cs)).fresh d = true := fun hn => by
     have hf := Xy.1 (tD hn)
     have g6 : e.ref d = false := by
      cases hr : e.ref d with
      | false => rfl
      | true =>
       obtain ⟨z', sv, eK, h1 | ⟨t', uN, h1, h2, h3⟩⟩ := pP.2 d uH hr
       ·rw [<- KU (t := t) (j := 0) (o := .box cs), KR (fun k e0 he hk => (hf.2 k e0 he hk).1) (r7 z' sv)] at h1; cases h1
       ·by_cases htt : t' = t
        ·subst htt; rw [hb] at h2; cases h2; rw [(ru d).1] at h3; cases h3
        ·have mo : t' ≠ d := fun e0 => by rw [e0, iG] at h2; cases h2
         obtain ⟨en, gi, gj⟩ := TH h2 (by simp)
         have := (hf.2 t' en (by rw [X6, if_neg htt]; exact gi) mo).2
         rw [Sh gj h3] at this; cases this
     refine Xy.2 ⟨by have := hf.1; rw [St.Y0] at this ⊢; rwa [Ks], fun k en he hk => ?_⟩
     cases e with
     | put w =>
      simp only [Eff.ap, zY, xz] at he
      split at he
      ·simp only [Option.map_eq_some_iff] at he
       obtain ⟨e0, pG, rfl⟩ := he
       exact ⟨g6, (hf.2 k e0 pG hk).2⟩
      ·exact hf.2 k en he hk
     | new w l =>
      have ht := sh (by intro w h; cases h)
      simp only [Eff.ap, X6, zE] at he
      by_cases hkt : k = t
      ·subst hkt
       simp only [if_true, if_neg ht] at he
       exact hf.2 k en (by rw [X6, if_pos rfl]; exact he) hk
      ·simp only [if_neg hkt] at he
       split at he
       ·simp only [Option.map_eq_some_iff] at he
        obtain ⟨e0, pG, rfl⟩ := he
        simp only [Eff.ref, Bool.or_eq_false_iff] at g6
        exact g6
       ·exact hf.2 k en (by rw [X6, if_neg hkt]; exact he) hk
     | drop a j w l => exact absurd rfl (tN a j w l)
    have h0 := tI (e.ap dy σ) (Ks e).symm (fun z hz ty => (pf z (by rw [oY]; exact hz) ty).symm) (fun z hz ty u hr j _ => ua z (by rw [oY]; exact hz) ty u hr j) iI
    have iJ : e.ap dy (Kw t d cs v os σ) = Kw t d cs v os (e.ap dy σ) := by
     cases e with
     | put w => exact N4 tN (Ne.symm uH) (fun hh => absurd rfl (hh w))
     | new w l => exact N4 tN (Ne.symm uH) sh
     | drop a j w l => exact absurd rfl (tN a j w l)
    refine ⟨e.ap dy σ, .inl pP.1, .inr ?_⟩
    rw [iJ]
    refine ⟨tf, h0.1, h0.2, fun hh => (by rw [(Ry r8).1] at hh; cases hh), fun hh => (by rw [(Ry r8).2] at hh; cases hh), fun _ _ => ?_⟩
    refine ⟨d, t, cells, cs, v, os, tx, ?_, ⟨z, r, ⟨f, ts, uE⟩, ty, by rw [pf z lV]; exact lT⟩, ru, oQ, iI, rfl, fun σ3 lz mf mg gZ => ?_⟩
    ·rw [ua z lV ty t (Xm lT (by simp [At.ref])) 0]; exact hb
    ·refine tI σ3 (by rw [<- lz, Ks]) (fun z hz ty => by rw [<- mf z hz, pf z (by rw [oY]; exact hz)]) (fun z hz ty u hr j hn => ?_) gZ
     have h1 := ua z (by rw [oY]; exact hz) ty u hr j
     rw [<- h1]
     exact mg z hz ty u (by rw [pf z (by rw [oY]; exact hz)]; exact hr) j (by rw [h1]; exact hn)
theorem D4 {PT : List (Nat × Nat)} {σ : St} (h : ptB PT σ = true) : Tx PT σ := by
 intro p hp
 have := List.all_eq_true.1 h p hp
 split at this
 ·rename_i e; exact .inl e
 ·split at this
  ·rename_i b c e
   have hb : b = p.2 := by simpa using this
   subst hb; exact .inr ⟨c, e⟩
  ·cases this
section
variable {P : Program} {ops : Array Oper}
def EO (P : Program) (ops : Array Oper) (bar : Oper -> Bool) : List Nat -> St -> (St -> Prop) -> Prop
 | [], σ, Q => Q σ
 | i :: rem, σ, Q => ∃ o σ', ops[i]? = some o /\ Ju P ops bar o σ σ' /\ EO P ops bar rem σ' Q
theorem Mr {o : Oper} {σ σ' : St} {d : Nat} (hs : Y6 P ops o σ σ') (hd : o.dst ≠ some d) (h : Xd σ d = true) : Xd σ' d = true := by
 cases hdo : o.dst with
 | some d' =>
  have uH : d ≠ d' := fun e => hd (by rw [hdo, e])
  obtain ⟨e, rfl, _⟩ := qp hdo hs
  cases e with
  | put v => unfold Xd at *; simp only [Eff.ap, xz, if_neg uH]; exact h
  | new v os => unfold Xd at *; simp only [Eff.ap, zE, if_neg uH]; exact h
  | drop a j v os =>
   have := Xp (a := a) (j := j) (o := .none) h
   unfold Xd at *; simp only [Eff.ap, zE, if_neg uH]; exact this
 | none =>
  unfold Y6 at hs
  split at hs
  ·simp only [hdo] at hs
   split at hs
   ·unfold yK at hs
    obtain ⟨_, _, _, _, hs⟩ := hs
    split at hs
    ·obtain ⟨_, _, _, _, rfl⟩ := hs; exact Xp h
    ·obtain ⟨_, _, _, _, _, _, _, _, _, _, _, rfl⟩ := hs; exact Xp h
    ·exact hs.elim
   ·exact hs.elim
  ·obtain ⟨_, _, _, _, _, _, uU, _⟩ := hs
   rw [hdo] at uU; cases uU
theorem Ez {PT : List (Nat × Nat)} {i : Nat} {o : Oper} {σ σ' : St} (np : Ro ops PT = true) (hi : ops[i]? = some o) (hs : Y6 P ops o σ σ') (h : Tx PT σ) : Tx PT σ' := by
 have hc := List.all_eq_true.1 np o (by rw [Array.mem_toList_iff]; exact Array.mem_of_getElem? hi)
 cases hdo : o.dst with
 | none =>
  have : ∃ t j ob, σ' = σ.Zs t j ob := by
   unfold Y6 at hs
   split at hs
   ·simp only [hdo] at hs
    split at hs
    ·unfold yK at hs
     obtain ⟨_, _, _, _, hs⟩ := hs
     split at hs
     ·obtain ⟨_, _, _, _, rfl⟩ := hs; exact ⟨_, _, _, rfl⟩
     ·obtain ⟨_, _, _, _, _, _, _, _, _, _, _, rfl⟩ := hs; exact ⟨_, _, _, rfl⟩
     ·exact hs.elim
    ·exact hs.elim
   ·obtain ⟨_, _, _, _, _, _, uU, _⟩ := hs
    rw [hdo] at uU; cases uU
  obtain ⟨t, j, ob, rfl⟩ := this
  intro p hp
  rw [St.Xj]; exact h p hp
 | some d =>
  intro p hp
  rw [hdo] at hc
  have hc := List.all_eq_true.1 hc p hp
  by_cases oZ : p.1 = d
  ·simp only [oZ, bne_self_eq_false, Bool.false_or, Bool.and_eq_true, Option.isNone_iff_eq_none] at hc
   obtain ⟨hg, hc⟩ := hc
   split at hc
   ·rename_i T r f uE
    have hr := h (r, p.2) (by simpa using hc)
    unfold Y6 at hs
    simp only [hg, hdo] at hs
    unfold Step at hs
    rw [uE] at hs
    obtain ⟨v, hv, rfl⟩ := hs
    simp only [YQ] at hv
    have hv := hv.2.2
    rw [zn] at hv
    rcases hr with e | ⟨c, e⟩
    ·rw [e] at hv; exact hv.elim
    ·rw [e] at hv
     rw [St.KO, oZ]
     by_cases hl : d < σ.length
     ·rw [if_pos ⟨rfl, hl⟩]; exact .inr ⟨_, by rw [hv.2]; rfl⟩
     ·rw [if_neg (fun hh => hl hh.2)]; have := h p hp; rw [oZ] at this; exact this
   ·rename_i r uE
    have hr := h (r, p.2) (by simpa using hc)
    unfold Y6 at hs
    simp only [hg, hdo] at hs
    unfold Step at hs
    rw [uE] at hs
    obtain ⟨v, hv, rfl⟩ := hs
    simp only [YQ] at hv
    rw [zn] at hv
    rw [St.KO, oZ]
    by_cases hl : d < σ.length
    ·rw [if_pos ⟨rfl, hl⟩, hv]; exact hr
    ·rw [if_neg (fun hh => hl hh.2)]; have := h p hp; rw [oZ] at this; exact this
   ·cases hc
  ·obtain ⟨e, rfl, _⟩ := qp hdo hs
   have hg : ∀ σ0 : St, σ0.get p.1 = σ.get p.1 -> (σ0.get p.1 = .any \/ ∃ c, unc (σ0.get p.1) = .one (.bptr p.2 c)) := fun σ0 e => by rw [e]; exact h p hp
   cases e with
   | put v => exact hg _ (by simp only [Eff.ap]; rw [St.KO, if_neg (fun hh => oZ hh.1)])
   | new v os => exact hg _ (by simp only [Eff.ap]; rw [St.Wc, if_neg (fun hh => oZ hh.1)])
   | drop a j v os => exact hg _ (by simp only [Eff.ap]; rw [St.Wc, if_neg (fun hh => oZ hh.1), St.Xj])
theorem Np {σ : St} : IY [] [] σ := ⟨fun _ hp => absurd hp List.not_mem_nil, fun _ hp => absurd hp List.not_mem_nil⟩
theorem CJ {NB : List Nat} {σ : St} {d : Nat} {v : V} (h : Nt NB σ) (hd : d ∈ NB -> ∀ b c, unc v ≠ .one (.bptr b c)) : Nt NB (σ.put d v) := by
 intro t ht b c
 rw [St.KO]
 split
 ·rename_i hc; exact hd (hc.1 ▸ ht) b c
 ·exact h t ht b c
theorem BC {NB : List Nat} {σ : St} {d : Nat} {v : V} {os : List Ob} (h : Nt NB σ) (hd : d ∉ NB) : Nt NB (σ.new d v os) := by
 intro t ht b c
 have uH : ¬ (t = d /\ d < σ.length) := fun hc => hd (by rw [<- hc.1]; exact ht)
 rw [St.Wc, if_neg uH]
 exact h t ht b c
theorem BP {NB : List Nat} {i : Nat} {o : Oper} {σ σ' : St} (tz : LR P ops NB = true) (hi : ops[i]? = some o) (hs : Y6 P ops o σ σ') (h : Nt NB σ) : Nt NB σ' := by
 have hc := List.all_eq_true.1 tz o (by rw [Array.mem_toList_iff]; exact Array.mem_of_getElem? hi)
 cases hdo : o.dst with
 | none =>
  have : ∃ t j ob, σ' = σ.Zs t j ob := by
   unfold Y6 at hs
   split at hs
   ·simp only [hdo] at hs
    split at hs
    ·unfold yK at hs
     obtain ⟨_, _, _, _, hs⟩ := hs
     split at hs
     ·obtain ⟨_, _, _, _, rfl⟩ := hs; exact ⟨_, _, _, rfl⟩
     ·obtain ⟨_, _, _, _, _, _, _, _, _, _, _, rfl⟩ := hs; exact ⟨_, _, _, rfl⟩
     ·exact hs.elim
    ·exact hs.elim
   ·obtain ⟨_, _, _, _, _, _, uU, _⟩ := hs
    rw [hdo] at uU; cases uU
  obtain ⟨t, j, ob, rfl⟩ := this
  intro p hp
  rw [St.Xj]; exact h p hp
 | some d =>
  rw [hdo] at hc
  by_cases hd : d ∈ NB
  ·have hc := List.all_eq_true.1 hc d hd
   simp only [bne_self_eq_false, Bool.false_or, Bool.and_eq_true, Option.isNone_iff_eq_none] at hc
   obtain ⟨hg, hc⟩ := hc
   split at hc
   ·rename_i T r ix uE
    unfold Y6 at hs
    simp only [hg, hdo] at hs
    unfold Step at hs
    rw [uE] at hs
    obtain ⟨v, hv, rfl⟩ := hs
    refine CJ h (fun _ b c => ?_)
    simp only [YQ] at hv
    obtain ⟨_, _, _, _, _, hv⟩ := hv
    split at hv
    ·obtain ⟨_, _, _, _, rfl⟩ := hv; intro e; cases e
    ·obtain ⟨_, _, _, _, rfl⟩ := hv; intro e; cases e
    ·obtain ⟨_, ⟨n, ha, _⟩, _⟩ := hv
     unfold Y2 at hc
     unfold MZ at ha
     split at hc
     ·rename_i e he; rw [he] at ha; cases ha
     ·cases hc
    ·obtain ⟨_, _, _, rfl⟩ := hv; intro e; cases e
    ·exact hv.elim
   ·cases hc
  ·obtain ⟨e, rfl, _⟩ := qp hdo hs
   cases e with
   | put v => exact CJ h (fun hh => absurd hh hd)
   | new v os => exact BC h hd
   | drop a j v os =>
    refine BC (σ := σ.Zs a j .none) (fun t ht b c => ?_) hd
    rw [St.Xj]; exact h t ht b c
theorem AU {NB : List Nat} {σ : St} (h : nbB NB σ = true) : Nt NB σ := by
 intro t ht b c e
 have := List.all_eq_true.1 h t ht
 rw [e] at this; cases this
def GH (ops : Array Oper) (pos : Nat -> Nat) (rem : List Nat) (σ : St) : Prop :=
 ∀ j ∈ rem, Te ops pos j = true -> E8 ops j = true /\ ∃ o d, ops[j]? = some o /\ o.dst = some d /\ Xd σ d = true
theorem BM {j k : Nat} {oj ok : Oper} {d : Nat} (h : E8 ops j = true) (hj : ops[j]? = some oj) (hd : oj.dst = some d) (hk : ops[k]? = some ok) (uH : k ≠ j) : ok.dst ≠ some d := by
 unfold E8 at h
 simp only [hj, hd] at h
 have uQ : k < ops.size := (Array.getElem?_eq_some_iff.1 hk).1
 have := List.all_eq_true.1 h k (List.mem_range.2 uQ)
 simp only [hk, Bool.or_eq_true, beq_iff_eq, bne_iff_ne, ne_eq] at this
 exact this.resolve_left uH
theorem Fc {bar : Oper -> Bool} {o : Oper} {σ σ' : St} {d : Nat} (hs : Ju P ops bar o σ σ') (hd : o.dst ≠ some d) (h : Xd σ d = true) : Xd σ' d = true := by
 rcases hs with hs | hs
 ·exact Mr hs hd h
 ·exact hs.2.2.1 d hd h
theorem OR {pos : Nat -> Nat} {bar : Oper -> Bool} {rem mc : List Nat} {i : Nat} {o : Oper} {σ σ' : St} (hi : ops[i]? = some o) (hs : Ju P ops bar o σ σ') (gD : i ∉ mc) (uv : ∀ j ∈ mc, j ∈ rem) (h : GH ops pos rem σ) : GH ops pos mc σ' := by
 intro j hj hl
 obtain ⟨mE, oj, d, h1, h2, h3⟩ := h j (uv j hj) hl
 exact ⟨mE, oj, d, h1, h2, Fc hs (BM mE h1 h2 hi (fun e => gD (e ▸ hj))) h3⟩
theorem pull {pos : Nat -> Nat} {bar : Oper -> Bool} {PT : List (Nat × Nat)} {NB : List Nat} (sr : ∀ (i : Nat) (o : Oper) (σ σ' : St), ops[i]? = some o -> Ju P ops bar o σ σ' -> IY PT NB σ -> IY PT NB σ') {i : Nat} {post : List Nat} {Q : St -> Prop} {oi : Oper} (hi : ops[i]? = some oi) : ∀ {pre : List Nat} {σ : St}, (pre ++ i :: post).Nodup -> (∀ j ∈ pre, Te ops pos j = true /\ ∃ oj, ops[j]? = some oj /\ (Fl ops bar oj oi = true \/ Ff bar oj oi = true \/ swapT PT bar oj oi = true \/ G2 bar oj oi = true \/ Gd PT ops bar oj oi = true \/ FM PT NB bar oj oi = true \/ G3 P PT ops bar oj oi = true)) -> GH ops pos (pre ++ i :: post) σ -> IY PT NB σ ->
  EO P ops bar (pre ++ i :: post) σ Q -> ∃ σ', Ju P ops bar oi σ σ' /\ EO P ops bar (pre ++ post) σ' Q
 | [], σ, _, _, _, _, h => by
  obtain ⟨o, σ', ho, hs, hr⟩ := h
  rw [hi] at ho; cases ho
  exact ⟨σ', hs, hr⟩
 | j :: pre, σ, tN, gI, uu, su, h => by
  obtain ⟨oj, σ1, hj, tF, hr⟩ := h
  have iK := List.nodup_cons.1 tN
  obtain ⟨σ2, uO, oe⟩ := pull sr hi (pre := pre) iK.2 (fun k hk => gI k (by simp [hk])) (OR (rem := (j :: pre) ++ i :: post) hj tF iK.1 (fun k hk => by simp only [List.cons_append, List.mem_cons]; exact .inr hk) uu) (sr j oj σ σ1 hj tF su) hr
  obtain ⟨hl, bD, ra, pt⟩ := gI j (by simp)
  rw [hj] at ra; cases ra
  rcases pt with pt | pt | pt | pt | pt | pt | pt
  rotate_left
  ·obtain ⟨σ1', hy, hx⟩ := Bc pt tF uO
   exact ⟨σ1', .inl hy, oj, σ2, hj, .inl hx, oe⟩
  ·obtain ⟨σ1', hy, hx⟩ := Af pt su.1 tF uO
   exact ⟨σ1', .inl hy, oj, σ2, hj, .inl hx, oe⟩
  ·obtain ⟨_, o', d', uc, uU, tB⟩ := uu j (by simp) hl
   rw [hj] at uc; cases uc
   obtain ⟨σ1', hy, hx⟩ := Ap pt uU tB tF uO
   exact ⟨σ1', hy, oj, σ2, hj, .inl hx, oe⟩
  ·obtain ⟨_, o', d', uc, uU, tB⟩ := uu j (by simp) hl
   rw [hj] at uc; cases uc
   obtain ⟨σ1', hy, hx⟩ := AM pt su.1 uU tB tF uO
   exact ⟨σ1', hy, oj, σ2, hj, hx, oe⟩
  ·obtain ⟨_, o', d', uc, uU, tB⟩ := uu j (by simp) hl
   rw [hj] at uc; cases uc
   obtain ⟨σ1', hy, hx⟩ := AR pt su.1 su.2 uU tB tF uO
   exact ⟨σ1', hy, oj, σ2, hj, .inl hx, oe⟩
  ·obtain ⟨_, o', d', uc, uU, tB⟩ := uu j (by simp) hl
   rw [hj] at uc; cases uc
   obtain ⟨σ1', hy, hx⟩ := AZ pt su.1 (sr j oj σ σ1 hj tF su).1 uU tB tF uO
   exact ⟨σ1', hy, oj, σ2, hj, hx, oe⟩
  obtain ⟨tf, tA, dx, dy, h1, h2, h3, h4, h5, h6, h7⟩ := Fw pt
  have tF := tF.resolve_right (fun hh => by rw [tf] at hh; cases hh.1)
  have uO := uO.resolve_right (fun hh => by rw [tA] at hh; cases hh.1)
  obtain ⟨_, o', d', uc, uU, tB⟩ := uu j (by simp) hl
  rw [hj] at uc; cases uc
  rw [h1] at uU; cases uU
  obtain ⟨σ1', hy, hx⟩ := swap h1 h2 h3 h4 h5 h6 h7 tB tF uO
  exact ⟨σ1', .inl hy, oj, σ2, hj, .inl hx, oe⟩
end
end Go.Vm
namespace Go.Vm
open Go.RowKit
section
variable {P : Program} {ops : Array Oper} {T0 : CS} {B : Nat -> Prop}
theorem RL {uw : Array Bool} {j : Nat} (h1 : uw.getD j true = false) (h2 : uw.getD j false = true) : False := by
 rw [Array.getD_eq_getD_getElem?] at h1 h2
 cases h : uw[j]? with
 | none => rw [h] at h1; simp at h1
 | some b => rw [h] at h1 h2; simp at h1 h2; rw [h1] at h2; cases h2
theorem Iz {pos : Nat -> Nat} {bar : Oper -> Bool} {PT : List (Nat × Nat)} {NB : List Nat} (sr : ∀ (i : Nat) (o : Oper) (σ σ' : St), ops[i]? = some o -> Ju P ops bar o σ σ' -> IY PT NB σ -> IY PT NB σ') (hdr : FA P ops pos bar PT NB (SN ops.toList []) = true) {Qa : St -> Prop} {Q : Exit -> Act -> World -> Prop} {w0 : World} (hK : ∀ σ a w, Qa σ -> Q0 T0 B σ a w -> Yr B w0 w -> Q .normal a w) :
  ∀ (fuel : Nat) (rem : List Nat) (uw : Array Bool) (σ : St) (a : Act) (w : World), rem.length = fuel -> uw.size = ops.size -> rem.Pairwise (fun i j => pos i < pos j) -> (∀ i, i ∈ rem ↔ uw.getD i true = false) -> (∀ i ∈ rem, i < ops.size) -> (∀ m om, ops[m]? = some om -> m ∉ rem -> ∀ j, RR om j = true -> j ∉ rem) ->
   GH ops pos rem σ -> IY PT NB σ -> EO P ops bar rem σ Qa -> Q0 T0 B σ a w -> Yr B w0 w -> wpAny P .any ops Q fuel uw a w := by
 have tI := List.all_eq_true.1 hdr
 have first : ∀ (rem : List Nat) (uw : Array Bool), uw.size = ops.size -> rem.Pairwise (fun i j => pos i < pos j) -> (∀ i, i ∈ rem ↔ uw.getD i true = false) -> (∀ i ∈ rem, i < ops.size) -> Region.ready .any ops uw = [] -> rem = [] := by
  intro rem uw tM mh tV uQ l0
  cases rem with
  | nil => rfl
  | cons i rem =>
   exfalso
   have hi := uQ i (by simp)
   have hb := tI i (List.mem_range.2 hi)
   simp only [Bool.and_eq_true] at hb
   have r9 := hb.1.1
   unfold AF at r9
   rw [Array.getElem?_eq_getElem hi] at r9
   simp only [Array.all_eq_true_iff_forall_mem, decide_eq_true_eq, Bool.and_eq_true, Bool.or_eq_true, Bool.not_eq_true'] at r9
   have : i ∈ Region.ready .any ops uw := by
    refine mem_ready.2 ⟨(tV i).1 (by simp), ops[i], Array.getElem?_eq_getElem hi, fun e he ga => ?_⟩
    have o9 := (r9 e he).resolve_left (by rw [ga]; simp)
    have pq := o9.1
    have g7 := o9.2
    have re : e.on ∉ i :: rem := by
     intro hm
     rcases List.mem_cons.1 hm with h | h
     ·rw [h] at pq; omega
     ·have := (List.pairwise_cons.1 mh).1 _ h; omega
    have uH : uw.getD e.on true ≠ false := fun h => re ((tV _).2 h)
    have na : e.on < uw.size := by rw [tM]; omega
    rw [Array.getD_eq_getD_getElem?, Array.getElem?_eq_getElem na] at uH ⊢
    simpa using uH
   rw [l0] at this; cases this
 intro fuel
 induction fuel with
 | zero =>
  intro rem uw σ a w hl tM mh tV uQ gd uu su uY tw hb
  have rf : rem = [] := List.eq_nil_of_length_eq_zero hl
  subst rf
  refine ⟨?_, hK σ a w uY tw hb⟩
  cases l0 : Region.ready .any ops uw with
  | nil => rfl
  | cons i l =>
   have hi : i ∈ Region.ready .any ops uw := by rw [l0]; simp
   have := (tV i).2 (mem_ready.1 hi).1
   cases this
 | succ fuel ih =>
  intro rem uw σ a w hl tM mh tV uQ gd uu su uY tw hb
  refine ⟨fun l0 => ?_, fun i hi => ?_⟩
  ·have := first rem uw tM mh tV uQ l0
   subst this; simp at hl
  ·obtain ⟨h0, oi, mj, o6⟩ := mem_ready.1 hi
   obtain ⟨pre, post, rfl⟩ := List.append_of_mem ((tV i).2 h0)
   have tN : (pre ++ i :: post).Nodup := mh.imp (fun h e => by rw [e] at h; omega)
   have sF : ∀ j ∈ pre, pos j < pos i := fun j hj => (List.pairwise_append.1 mh).2.2 j hj i (by simp)
   have s8 : i < ops.size := uQ i (by simp)
   have eO : ∀ e ∈ oi.after, Region.binds .any e = true -> e.on ∉ pre ++ i :: post := by
    intro e he ga hm
    exact RL ((tV e.on).1 hm) (o6 e he ga)
   have iL : ∀ j, j ∈ pre ++ i :: post -> RR oi j = false := by
    intro j hj
    cases hp : RR oi j with
    | false => rfl
    | true =>
     unfold RR at hp
     rw [<- Array.any_toList] at hp
     obtain ⟨e, he, tA⟩ := List.any_eq_true.1 hp
     rw [Array.mem_toList_iff] at he
     simp only [Bool.and_eq_true, beq_iff_eq] at tA
     exact (RL ((tV j).1 hj) (by rw [<- tA.1]; exact o6 e he tA.2)).elim
   have oZ : ∀ m j, Pre ops m j -> (∀ om, ops[m]? = some om -> ∀ k, RR om k = true -> k ∉ pre ++ i :: post) -> j ∉ pre ++ i :: post := by
    intro m j hp
    induction hp with
    | one ho hp => intro h; exact h _ ho _ hp
    | more ho hp _ ih =>
     intro h
     exact ih (fun om ot k hk => gd _ om ot (h _ ho _ hp) k hk)
   have sM : ∀ j ∈ pre, FJ ops i j = false := by
    intro j hj
    have dR : j ∈ pre ++ i :: post := by simp [hj]
    cases hq : FJ ops i j with
    | false => rfl
    | true =>
     refine absurd dR (oZ i j (DP hq) (fun om ot k hk dD => ?_))
     rw [mj] at ot; cases ot
     have := iL k dD
     rw [hk] at this; cases this
   have gI : ∀ j ∈ pre, Te ops pos j = true /\ ∃ oj, ops[j]? = some oj /\ (Fl ops bar oj oi = true \/ Ff bar oj oi = true \/ swapT PT bar oj oi = true \/ G2 bar oj oi = true \/ Gd PT ops bar oj oi = true \/ FM PT NB bar oj oi = true \/ G3 P PT ops bar oj oi = true) := by
    intro j hj
    have eQ := sF j hj
    have mr : j < ops.size := uQ j (by simp [hj])
    refine ⟨?_, ops[j], Array.getElem?_eq_getElem mr, ?_⟩
    ·unfold Te H2
     refine List.any_eq_true.2 ⟨i, List.mem_range.2 s8, ?_⟩
     have := sM j hj
     unfold FJ at this
     simp only [this, Bool.not_false, Bool.and_true, decide_eq_true_eq]; exact eQ
    ·have := tI i (List.mem_range.2 s8)
     simp only [Bool.and_eq_true] at this
     have hp := List.all_eq_true.1 this.1.2 j (List.mem_range.2 mr)
     simp only [eQ, decide_true, Bool.not_true, Bool.false_or] at hp
     unfold B6 at hp
     rw [mj, Array.getElem?_eq_getElem mr] at hp
     have := sM j hj
     unfold FJ at this
     simpa [this, or_assoc] using hp
   obtain ⟨σ', hs, hr⟩ := pull sr mj tN gI uu su uY
   have gD : i ∉ pre ++ post := by
    have := List.nodup_append.1 tN
    intro hm
    rcases List.mem_append.1 hm with h | h
    ·exact Nat.lt_irrefl _ (sF i h)
    ·exact (List.nodup_cons.1 this.2.1).1 h
   have oG : ∀ j ∈ pre ++ post, j ∈ pre ++ i :: post := by
    intro j hj
    rcases List.mem_append.1 hj with h | h
    ·simp [h]
    ·simp [h]
   have key : ∀ a' w', Q0 T0 B σ' a' w' -> Yr B w w' -> wpAny P .any ops Q fuel (uw.setIfInBounds i true) a' w' := by
    intro a' w' l3 uP
    refine ih (pre ++ post) _ σ' a' w' (by simp at hl ⊢; omega) (by simp [tM]) ?_ (fun j => ?_) (fun j hj => uQ j (oG j hj)) ?_ (OR mj hs gD oG uu) (sr i oi σ σ' mj hs su) hr l3 (hb.trans uP)
    ·exact mh.sublist (List.Sublist.append (List.Sublist.refl pre) (List.sublist_cons_self i post))
    ·by_cases oU : i = j
     ·subst oU
      constructor
      ·intro hm; exact absurd hm gD
      ·intro hm
       rw [Array.getD_eq_getD_getElem?] at hm
       simp [tM, s8] at hm
     ·rw [getD_set_ne true oU, <- tV j]
      simp only [List.mem_append, List.mem_cons]
      constructor
      ·rintro (h | h)
       ·exact .inl h
       ·exact .inr (.inr h)
      ·rintro (h | h | h)
       ·exact .inl h
       ·exact absurd h.symm oU
       ·exact .inr h
    ·intro m om ot hm j eJ hj
     by_cases hmi : m = i
     ·subst hmi
      rw [mj] at ot; cases ot
      have := iL j (oG j hj)
      rw [eJ] at this; cases this
     ·have dS : m ∉ pre ++ i :: post := by
       intro h
       rcases List.mem_append.1 h with h | h
       ·exact hm (by simp [h])
       ·rcases List.mem_cons.1 h with h | h
        ·exact hmi h
        ·exact hm (by simp [h])
      exact gd m om ot dS j eJ (oG j hj)
   have uk := TX hs T0 B a w (wpAny P .any ops Q fuel (uw.setIfInBounds i true)) Q tw key
   unfold wpOp
   simp only [mj]
   split
   ·rename_i hw; rw [if_pos hw] at uk; exact .inl uk
   ·rename_i hw; rw [if_neg hw] at uk; exact uk
theorem I2 {σ : St} {a : Act} {w : World} (h : Q0 T0 B σ a w) : Q0 T0 B σ a { w with drawn := w.drawn + 1 } := by
 obtain ⟨X, hh, r⟩ := h
 exact ⟨X, hh, r.grow (w' := { w with drawn := w.drawn + 1 }) ⟨rfl, rfl, rfl, Nat.le_refl _, fun _ _ _ => rfl⟩ (fun _ hb => hb) (fun _ hb => .inl hb)⟩
theorem DA {bar : Oper -> Bool} {Q : St -> Prop} : ∀ {n k : Nat} {σ : St}, k + n = ops.size -> GJ P ops bar (ops.toList.drop k) σ Q -> EO P ops bar (List.range' k n) σ Q
 | 0, k, σ, hk, h => by
  rw [List.drop_eq_nil_of_le (by simp; omega)] at h
  exact h
 | n + 1, k, σ, hk, h => by
  have uQ : k < ops.toList.length := by simp; omega
  rw [List.drop_eq_getElem_cons uQ] at h
  obtain ⟨σ', hs, hr⟩ := h
  rw [List.range'_succ]
  exact ⟨ops.toList[k], σ', by rw [<- Array.getElem?_toList]; exact List.getElem?_eq_getElem uQ, hs, DA (by omega) hr⟩
theorem Ps {bar : Oper -> Bool} {PT : List (Nat × Nat)} {NB : List Nat} {id : Nat} {Q : Exit -> St -> Prop} {σ : St} (sr : ∀ (i : Nat) (o : Oper) (σ σ' : St), ops[i]? = some o -> Ju P ops bar o σ σ' -> IY PT NB σ -> IY PT NB σ') (su : IY PT NB σ) (hm : P.follows .mixedOrders = true) (hdr : FA P ops (fun i => i) bar PT NB (SN ops.toList []) = true) (uu : zN ops (fun i => i) σ = true) (h : GJ P ops bar ops.toList σ (Q .normal)) : AWP P (.region id ops true) Q σ := by
 intro T0 B a w tw
 refine wp_region_any hm ?_
 have tI := List.all_eq_true.1 hdr
 refine Iz (T0 := T0) (B := B) (w0 := w) sr hdr (Qa := Q .normal) (fun σ' a' w' hq hr hb => ⟨σ', hq, hr, hb⟩) ops.size (List.range' 0 ops.size) _ σ a _ (by simp) (by simp) ?_ (fun i => ?_) (fun i hi => by simp [List.mem_range'] at hi; omega) (fun m om ot hm => absurd (by simp only [List.mem_range'_1]; have := (Array.getElem?_eq_some_iff.1 ot).1; omega) hm) ?_ su (DA (by omega) (by simpa using h)) (I2 tw) ⟨rfl, rfl, rfl, Nat.le_refl _, fun _ _ => rfl⟩
 ·exact List.pairwise_lt_range'
 ·rw [Array.getD_eq_getD_getElem?, Array.getElem?_replicate]
  simp only [List.mem_range'_1]
  constructor
  ·intro hh; rw [if_pos (by omega)]; rfl
  ·intro hh
   split at hh
   ·omega
   ·cases hh
 ·intro j hj hl
  simp only [List.mem_range'_1] at hj
  have hb := tI j (List.mem_range.2 (by omega))
  simp only [Bool.and_eq_true, Bool.or_eq_true, Bool.not_eq_true'] at hb
  refine ⟨hb.2.resolve_left (by unfold Te at hl; rw [hl]; simp), ?_⟩
  have hc := List.all_eq_true.1 uu j (List.mem_range.2 (by omega))
  unfold Te at hl
  simp only [hl, Bool.not_true, Bool.false_or] at hc
  have uQ : j < ops.size := by omega
  rw [Array.getElem?_eq_getElem uQ] at hc
  simp only [Option.bind_some] at hc
  cases hd : ops[j].dst with
  | none => rw [hd] at hc; cases hc
  | some d => rw [hd] at hc; exact ⟨_, d, Array.getElem?_eq_getElem uQ, hd, hc⟩
theorem FX {bar : Oper -> Bool} {id : Nat} {Q : Exit -> St -> Prop} {σ : St} (hm : P.follows .mixedOrders = true) (hdr : RJ P ops (fun i => i) bar = true) (uu : zN ops (fun i => i) σ = true) (h : GJ P ops bar ops.toList σ (Q .normal)) : AWP P (.region id ops true) Q σ :=
 Ps (PT := []) (NB := []) (fun _ _ _ _ _ _ _ => Np) Np hm hdr uu h
theorem LX {id : Nat} {σ : St} {l : List Oper} {br : Oper -> Bool} {k : Fr} (PT : List (Nat × Nat)) (hm : P.follows .mixedOrders = true) (hdr : FA P ⟨l⟩ (fun i => i) (fun _ => false) PT [] (SN l []) = true) (uu : zN ⟨l⟩ (fun i => i) σ = true) (np : Ro ⟨l⟩ PT = true) (hp : ptB PT σ = true) (h : @EI P σ ⟨⟨l⟩, fun _ => false⟩ ⟨l⟩ k) : @DI P id σ ⟨⟨l⟩, br⟩ k :=
 Ps (bar := fun _ => false) (PT := PT) (NB := []) (fun _ _ _ _ hi hs hq => ⟨Ez np hi (hs.resolve_right (fun hh => by cases hh.1)) hq.1, fun p hp => by cases hp⟩) ⟨D4 hp, fun p hp => by cases hp⟩ hm hdr uu (Qr h)
theorem Cm {id : Nat} {σ : St} {l : List Oper} {br : Oper -> Bool} {k : Fr} (hm : P.follows .mixedOrders = true) (hdr : RJ P ⟨l⟩ (fun i => i) (fun _ => false) = true) (uu : zN ⟨l⟩ (fun i => i) σ = true) (h : @EI P σ ⟨⟨l⟩, fun _ => false⟩ ⟨l⟩ k) : @DI P id σ ⟨⟨l⟩, br⟩ k :=
 FX hm hdr uu (Qr h)
def R9 (bs : List Nat) (o : Oper) : Bool := match o.dst with | some d => bs.contains d | none => !bs.contains 3000001
theorem AP {ops : Array Oper} {PT : List (Nat × Nat)} {bar : Oper -> Bool} {i : Nat} {o : Oper} {σ σ' : St} (np : Ro ops PT = true) (mD : (ops.toList.all fun o => !bar o || W0 o || jk o || (Jq P o && SA bar o)) = true) (hi : ops[i]? = some o) (hs : Ju P ops bar o σ σ') (h : Tx PT σ) : Tx PT σ' := by
 rcases hs with hs | ⟨hb, _, _, gn, ou, gp⟩
 ·exact Ez np hi hs h
 ·have tV : o ∈ ops.toList := by rw [Array.mem_toList_iff]; exact Array.mem_of_getElem? hi
  have h1 := List.all_eq_true.1 mD o tV
  simp only [hb, Bool.not_true, Bool.false_or, Bool.or_eq_true, Bool.and_eq_true] at h1
  rcases h1 with (h1 | h1) | ⟨h1, h1o⟩
  ·obtain ⟨⟨_, hg⟩, _⟩ := gn h1
   intro p hp
   rw [hg]; exact h p hp
  ·obtain ⟨d, hd, _, hg, _⟩ := ou h1
   intro p hp
   have uH : p.1 ≠ d := by
    intro e
    have hc := List.all_eq_true.1 np o tV
    rw [hd] at hc
    have hc := List.all_eq_true.1 hc p hp
    simp only [e, bne_self_eq_false, Bool.false_or, Bool.and_eq_true] at hc
    have hc := hc.2
    unfold jk at h1
    cases uE : o.op <;> rw [uE] at h1 hc <;> first | (exact Bool.noConfusion h1) | (exact Bool.noConfusion hc)
   rw [(hg p.1 uH).1]; exact h p hp
  ·obtain ⟨d, t, cells, cs, v, os, hd, _, _, _, _, _, rfl, _⟩ := gp h1 h1o
   intro p hp
   have uH : p.1 ≠ d := by
    intro e
    have hc := List.all_eq_true.1 np o tV
    rw [hd] at hc
    have hc := List.all_eq_true.1 hc p hp
    simp only [e, bne_self_eq_false, Bool.false_or, Bool.and_eq_true] at hc
    have hc := hc.2
    unfold Jq at h1
    cases uE : o.op <;> rw [uE] at h1 hc <;> first | (exact Bool.noConfusion h1) | (exact Bool.noConfusion hc)
   rw [H5 uH]; exact h p hp
theorem Al {ops : Array Oper} {NB : List Nat} {bar : Oper -> Bool} {i : Nat} {o : Oper} {σ σ' : St} (tz : LR P ops NB = true) (mD : (ops.toList.all fun o => !bar o || W0 o || jk o || (Jq P o && SA bar o)) = true) (hi : ops[i]? = some o) (hs : Ju P ops bar o σ σ') (h : Nt NB σ) : Nt NB σ' := by
 rcases hs with hs | ⟨hb, _, _, gn, ou, gp⟩
 ·exact BP tz hi hs h
 ·have tV : o ∈ ops.toList := by rw [Array.mem_toList_iff]; exact Array.mem_of_getElem? hi
  have h1 := List.all_eq_true.1 mD o tV
  simp only [hb, Bool.not_true, Bool.false_or, Bool.or_eq_true, Bool.and_eq_true] at h1
  rcases h1 with (h1 | h1) | ⟨h1, h1o⟩
  ·obtain ⟨⟨_, hg⟩, _⟩ := gn h1
   intro p hp
   rw [hg]; exact h p hp
  ·obtain ⟨d, hd, _, hg, _⟩ := ou h1
   intro p hp
   have uH : p ≠ d := by
    intro e
    have hc := List.all_eq_true.1 tz o tV
    rw [hd] at hc
    have hc := List.all_eq_true.1 hc p hp
    simp only [e, bne_self_eq_false, Bool.false_or, Bool.and_eq_true] at hc
    have hc := hc.2
    unfold jk at h1
    cases uE : o.op <;> rw [uE] at h1 hc <;> first | (exact Bool.noConfusion h1) | (exact Bool.noConfusion hc)
   rw [(hg p uH).1]; exact h p hp
  ·obtain ⟨d, t, cells, cs, v, os, hd, _, _, _, _, _, rfl, _⟩ := gp h1 h1o
   intro p hp
   have uH : p ≠ d := by
    intro e
    have hc := List.all_eq_true.1 tz o tV
    rw [hd] at hc
    have hc := List.all_eq_true.1 hc p hp
    simp only [e, bne_self_eq_false, Bool.false_or, Bool.and_eq_true] at hc
    have hc := hc.2
    unfold Jq at h1
    cases uE : o.op <;> rw [uE] at h1 hc <;> first | (exact Bool.noConfusion h1) | (exact Bool.noConfusion hc)
   rw [H5 uH]; exact h p hp
theorem El {id : Nat} {σ : St} {l : List Oper} {br : Oper -> Bool} {k : Fr} (PT : List (Nat × Nat)) (NB bs : List Nat) (hm : P.follows .mixedOrders = true) (hdr : FA P ⟨l⟩ (fun i => i) (R9 bs) PT NB (SN l []) = true) (uu : zN ⟨l⟩ (fun i => i) σ = true) (np : Ro ⟨l⟩ PT = true) (hp : ptB PT σ = true) (tz : LR P ⟨l⟩ NB = true) (gX : nbB NB σ = true) (mD : (l.all fun o => !R9 bs o || W0 o || jk o || (Jq P o && SA (R9 bs) o)) = true) (h : @EI P σ ⟨⟨l⟩, R9 bs⟩ ⟨l⟩ k) : @DI P id σ ⟨⟨l⟩, br⟩ k :=
 Ps (bar := R9 bs) (PT := PT) (NB := NB) (fun _ _ _ _ hi hs hq => ⟨AP np mD hi hs hq.1, Al tz mD hi hs hq.2⟩) ⟨D4 hp, AU gX⟩ hm hdr uu (Qr h)
theorem Ay {id : Nat} {σ : St} {l : List Oper} {br : Oper -> Bool} {k : Fr} (bs : List Nat) (hm : P.follows .mixedOrders = true) (hdr : Vm.RJ P ⟨l⟩ (fun i => i) (R9 bs) = true) (uu : zN ⟨l⟩ (fun i => i) σ = true) (h : @EI P σ ⟨⟨l⟩, R9 bs⟩ ⟨l⟩ k) : @DI P id σ ⟨⟨l⟩, br⟩ k :=
 FX hm hdr uu (Qr h)
def pwB (pos : Nat -> Nat) : List Nat -> Bool
 | [] => true
 | i :: r => r.all (fun j => decide (pos i < pos j)) && pwB pos r
theorem C7 {pos : Nat -> Nat} : ∀ {l : List Nat}, pwB pos l = true -> l.Pairwise (fun i j => pos i < pos j)
 | [], _ => .nil
 | i :: r, h => by
  simp only [pwB, Bool.and_eq_true, List.all_eq_true, decide_eq_true_eq] at h
  exact .cons h.1 (C7 h.2)
def posOf : List Nat -> Nat -> Nat
 | [], _ => 0
 | i :: r, k => if i == k then 0 else posOf r k + 1
def BS (n : Nat) (ord : List Nat) : Bool := ord.length == n && pwB (posOf ord) ord && ord.all (fun i => decide (i < n)) && (List.range n).all (fun i => ord.contains i)
@[reducible] def Ar : List Oper -> Nat -> Oper -> Oper
 | [], _, d => d
 | o :: _, 0, _ => o
 | _ :: l, i + 1, d => Ar l i d
@[reducible] def CU (l : List Oper) (d : Oper) : List Nat -> List Oper
 | [] => []
 | i :: r => Ar l i d :: CU l d r
theorem Gi {d : Oper} : ∀ {l : List Oper} {i : Nat}, i < l.length -> l[i]? = some (Ar l i d)
 | [], i, h => by simp at h
 | o :: l, 0, _ => rfl
 | o :: l, i + 1, h => by simpa using Gi (l := l) (i := i) (by simpa using h)
theorem I8 {bar : Oper -> Bool} {Q : St -> Prop} {l : List Oper} {d : Oper} : ∀ {ord : List Nat} {σ : St}, (∀ i ∈ ord, i < l.length) -> GJ P l.toArray bar (CU l d ord) σ Q -> EO P l.toArray bar ord σ Q
 | [], σ, _, h => h
 | i :: r, σ, hi, h => by
  obtain ⟨σ', hs, hr⟩ := h
  exact ⟨_, σ', by rw [List.getElem?_toArray]; exact Gi (hi i (by simp)), hs, I8 (fun j hj => hi j (by simp [hj])) hr⟩
theorem Dn {bar : Oper -> Bool} {id : Nat} {Q : Exit -> St -> Prop} {σ : St} {ord : List Nat} (hm : P.follows .mixedOrders = true) (ho : BS ops.size ord = true) (hdr : RJ P ops (posOf ord) bar = true) (uu : zN ops (posOf ord) σ = true) (h : EO P ops bar ord σ (Q .normal)) : AWP P (.region id ops true) Q σ := by
 intro T0 B a w tw
 refine wp_region_any hm ?_
 have tI := List.all_eq_true.1 hdr
 simp only [BS, Bool.and_eq_true, beq_iff_eq, List.all_eq_true, decide_eq_true_eq, List.mem_range, List.contains_iff_mem] at ho
 obtain ⟨⟨⟨o1, o2⟩, o3⟩, o4⟩ := ho
 refine Iz (T0 := T0) (B := B) (w0 := w) (PT := []) (NB := []) (fun _ _ _ _ _ _ _ => Np) hdr (Qa := Q .normal) (fun σ' a' w' hq hr hb => ⟨σ', hq, hr, hb⟩) ops.size ord _ σ a _ o1 (by simp) (C7 o2) (fun i => ?_) o3 (fun m om ot hm => absurd (o4 m (Array.getElem?_eq_some_iff.1 ot).1) hm) ?_ Np h (I2 tw) ⟨rfl, rfl, rfl, Nat.le_refl _, fun _ _ => rfl⟩
 ·rw [Array.getD_eq_getD_getElem?, Array.getElem?_replicate]
  constructor
  ·intro hh; rw [if_pos (o3 i hh)]; rfl
  ·intro hh
   split at hh
   ·rename_i uQ; exact o4 i uQ
   ·cases hh
 ·intro j hj hl
  have gJ := o3 j hj
  have hb := tI j (List.mem_range.2 gJ)
  simp only [Bool.and_eq_true, Bool.or_eq_true, Bool.not_eq_true'] at hb
  refine ⟨hb.2.resolve_left (by unfold Te at hl; rw [hl]; simp), ?_⟩
  have hc := List.all_eq_true.1 uu j (List.mem_range.2 gJ)
  unfold Te at hl
  simp only [hl, Bool.not_true, Bool.false_or] at hc
  rw [Array.getElem?_eq_getElem gJ] at hc
  simp only [Option.bind_some] at hc
  cases hd : ops[j].dst with
  | none => rw [hd] at hc; cases hc
  | some d => rw [hd] at hc; exact ⟨_, d, Array.getElem?_eq_getElem gJ, hd, hc⟩
theorem MD {id : Nat} {σ : St} {o : Oper} {l : List Oper} {br : Oper -> Bool} {k : Fr} (ord : List Nat) (hm : P.follows .mixedOrders = true) (ho : BS (o :: l).length ord = true) (hdr : RJ P ⟨o :: l⟩ (posOf ord) (fun _ => false) = true) (uu : zN ⟨o :: l⟩ (posOf ord) σ = true)
  (h : @EI P σ ⟨⟨o :: l⟩, fun _ => false⟩ ⟨CU (o :: l) o ord⟩ k) : @DI P id σ ⟨⟨o :: l⟩, br⟩ k := by
 have h2 : ∀ i ∈ ord, i < (o :: l).length := by
  simp only [BS, Bool.and_eq_true, List.all_eq_true, decide_eq_true_eq] at ho
  exact ho.1.2
 exact Dn hm ho hdr uu (I8 h2 (Qr h))
end
end Go.Vm
