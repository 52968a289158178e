/- An abstract machine NW the model of Go, by value, and that it is sound: part Vd. No condition. -/
import Derived.Test.YthbcljgpeciofaaGreatVc
import Derived.Orders
set_option linter.unusedVariables false
set_option linter.unusedSimpArgs false
namespace Go.Vm
open Go.RowKit
structure Sub (P : Program) (xs : List Operand) (σ1 σ : St) : Prop where
 len : σ1.length = σ.length
 look : ∀ x ∈ xs, ∀ ty, look P σ1 ty x = look P σ ty x
 ob : ∀ x ∈ xs, ∀ ty u, (Vm.look P σ1 ty x).ref u = true -> ∀ j, σ1.ob u j ≠ .none -> σ.ob u j = σ1.ob u j
theorem Xi {v : V} {x : At} {u : Nat} (h : unc v = .one x) (hx : x.ref u = true) : v.ref u = true := by
 cases v with
 | cnd g y => simp only [unc] at h; subst h; simp only [V.ref, V.SQ, Bool.or_eq_true]; exact .inl hx
 | one y => simp only [unc] at h; cases h; exact hx
 | any => simp [unc] at h
 | agg xs => simp [unc] at h
 | tup xs => simp [unc] at h
 | fix g y => simp only [unc] at h; subst h; simp only [V.ref, V.SQ, Bool.or_eq_true]; exact .inl hx
theorem T5 {v : V} {xs : List At} {u : Nat} (h : unc v = .agg xs) (hx : YF u xs = true) : v.ref u = true := by
 cases v with
 | cnd g y => simp only [unc] at h; subst h; simp only [V.ref, V.SQ, Bool.or_eq_true]; exact .inl hx
 | agg y => simp only [unc] at h; cases h; exact hx
 | any => simp [unc] at h
 | one xs => simp [unc] at h
 | tup xs => simp [unc] at h
 | fix g y => simp only [unc] at h; subst h; simp only [V.ref, V.SQ, Bool.or_eq_true]; exact .inl hx
theorem jT {v : V} {u : Nat} (hx : YF u (unc v).cells = true) : v.ref u = true := by
 cases h : unc v with
 | one x => rw [h] at hx; simp [V.cells, YF] at hx; exact Xi h hx
 | agg xs => rw [h] at hx; exact T5 h hx
 | any => rw [h] at hx; simp [V.cells, YF] at hx
 | tup xs => rw [h] at hx; simp [V.cells, YF] at hx
 | cnd g x => rw [h] at hx; simp [V.cells, YF] at hx
 | fix u x => rw [h] at hx; simp [V.cells, YF] at hx
section
variable {P : Program} {σ1 σ : St}
theorem Sub.same {xs : List Operand} {x : Operand} {ty : TypeId} {a : At} {u j : Nat} {o : Ob} (h : Sub P xs σ1 σ) (hx : x ∈ xs) (hv : unc (Vm.look P σ ty x) = .one a) (ha : a.ref u = true) (ho : σ1.ob u j = o) (hn : o ≠ .none) : σ.ob u j = o := by
 rw [<- ho]
 refine h.ob x hx ty u ?_ j (by rw [ho]; exact hn)
 rw [h.look x hx ty]
 exact Xi hv ha
theorem zm {xs : List Operand} {x : Operand} {k : IntKind} {n : Int} (h : Sub P xs σ1 σ) (hx : x ∈ xs) (hl : kN P σ1 x k n) : kN P σ x k n := by
 unfold kN at *
 rw [<- h.look x hx]; exact hl
theorem LZ {xs : List Operand} {df n : Nat} {x : Option Operand} (h : Sub P xs σ1 σ) (hx : ∀ y, x = some y -> y ∈ xs) (hl : bnd P σ1 df x n) : bnd P σ df x n := by
 cases x with
 | none => exact hl
 | some x =>
  simp only [bnd] at *
  rw [<- h.look x (hx x rfl)]; exact hl
theorem RF {T : TypeId} : ∀ {ps : List (Nat × Operand)} {z out : List At}, Sub P (ps.map (·.2)) σ1 σ -> WM P σ1 T ps z out -> WM P σ T ps z out
 | [], _, _, _, h => h
 | (i, x) :: ps, z, out, hs, h => by
  have e := hs.look x (by simp)
  simp only [WM] at h ⊢
  rw [<- e]
  refine ⟨h.1, h.2.1, h.2.2.1, h.2.2.2.1, h.2.2.2.2.1, RF ⟨hs.len, fun y hy => hs.look y (by simp at hy ⊢; exact .inr hy), fun y hy => hs.ob y (by simp at hy ⊢; exact .inr hy)⟩ h.2.2.2.2.2⟩
theorem qt {op : Op} {ty : TypeId} {v : V} (hs : YJ P σ1 op ty v) (h : Sub P op.operands.toList σ1 σ) : YJ P σ op ty v := by
 cases op <;> simp only [YJ] at hs ⊢
 case move x => rw [<- h.look x (by simp [Op.operands])]; exact hs
 case assign x => rw [<- h.look x (by simp [Op.operands])]; exact hs
 case pick c a b =>
  rw [<- h.look c (by simp [Op.operands]), <- h.look a (by simp [Op.operands]), <- h.look b (by simp [Op.operands])]; exact hs
 case load T x =>
  rw [h.look x (by simp [Op.operands])] at hs
  refine ⟨hs.1, hs.2.1, ?_⟩
  have uK := hs.2.2
  split at uK
  ·rename_i t c hx
   obtain ⟨cells, ho, hr⟩ := uK
   exact ⟨cells, h.same (by simp [Op.operands]) hx (by simp [At.ref]) ho (by simp), hr⟩
  ·rename_i t j i c hx
   obtain ⟨q, size, rows, ho, hr⟩ := uK
   exact ⟨q, size, rows, h.same (by simp [Op.operands]) hx (by simp [At.ref]) ho (by simp), hr⟩
  ·exact uK
  ·rename_i t j i c k hx
   obtain ⟨size, rows, s, ho, hr⟩ := uK
   exact ⟨size, rows, s, h.same (by simp [Op.operands]) hx (by simp [At.ref]) ho (by simp), hr⟩
  ·exact uK.elim
 case nilCheck x =>
  rw [h.look x (by simp [Op.operands])] at hs
  refine ⟨hs.1, ?_⟩
  have uK := hs.2
  split at uK
  ·rename_i t c hx
   obtain ⟨⟨cells, ho⟩, hr⟩ := uK
   exact ⟨⟨cells, h.same (by simp [Op.operands]) hx (by simp [At.ref]) ho (by simp)⟩, hr⟩
  ·exact uK.elim
 case fieldAddr T x f =>
  rw [h.look x (by simp [Op.operands])] at hs
  refine ⟨hs.1, hs.2.1, ?_⟩
  have uK := hs.2.2
  split at uK
  ·rename_i t c hx
   obtain ⟨⟨cells, ho⟩, hr⟩ := uK
   exact ⟨⟨cells, h.same (by simp [Op.operands]) hx (by simp [At.ref]) ho (by simp)⟩, hr⟩
  ·rename_i t j i c hx
   obtain ⟨⟨q, size, rows, ho⟩, hr⟩ := uK
   exact ⟨⟨q, size, rows, h.same (by simp [Op.operands]) hx (by simp [At.ref]) ho (by simp)⟩, hr⟩
  ·exact uK
  ·rename_i t j i c k hx
   obtain ⟨⟨size, rows, ho⟩, hr⟩ := uK
   exact ⟨⟨size, rows, h.same (by simp [Op.operands]) hx (by simp [At.ref]) ho (by simp)⟩, hr⟩
  ·exact uK.elim
 case indexAddr T x ix =>
  obtain ⟨k, i, hk, h0, hg, uK⟩ := hs
  rw [h.look x (by simp [Op.operands])] at hg uK
  refine ⟨k, i, zm h (by simp [Op.operands]) hk, h0, hg, ?_⟩
  split at uK
  ·exact uK
  ·rename_i t j lo len hx
   obtain ⟨h1, h2, ⟨q, rows, ho⟩, hr⟩ := uK
   exact ⟨h1, h2, ⟨q, rows, h.same (by simp [Op.operands]) hx (by simp [At.ref]) ho (by simp)⟩, hr⟩
  ·rename_i t c hx
   obtain ⟨⟨cells, ho⟩, hr⟩ := uK
   exact ⟨⟨cells, h.same (by simp [Op.operands]) hx (by simp [At.ref]) ho (by simp)⟩, hr⟩
  ·rename_i t j m c hx
   obtain ⟨h1, h2, ⟨size, rows, s, ho, hr⟩, hv⟩ := uK
   exact ⟨h1, h2, ⟨size, rows, s, h.same (by simp [Op.operands]) hx (by simp [At.ref]) ho (by simp), hr⟩, hv⟩
  ·exact uK.elim
 case index T x ix =>
  obtain ⟨k, i, hk, h0, hg, uK⟩ := hs
  rw [h.look x (by simp [Op.operands])] at hg uK
  exact ⟨k, i, zm h (by simp [Op.operands]) hk, h0, hg, uK⟩
 case slice T x lo hi mx =>
  cases mx with
  | some m => exact hs.elim
  | none =>
   simp only at hs ⊢
   rw [h.look x (by simp [Op.operands])] at hs
   refine ⟨hs.1, ?_⟩
   have uK := hs.2
   have b1 : ∀ df n, bnd P σ1 df lo n -> bnd P σ df lo n := fun df n => LZ h (fun y hy => by subst hy; simp [Op.operands])
   have b2 : ∀ df n, bnd P σ1 df hi n -> bnd P σ df hi n := fun df n => LZ h (fun y hy => by subst hy; simp [Op.operands])
   split at uK
   ·obtain ⟨h1, l, hh, h2, h3, hr⟩ := uK
    exact ⟨h1, l, hh, b1 _ _ h2, b2 _ _ h3, hr⟩
   ·obtain ⟨h1, dq, l, hh, h2, h3, hr⟩ := uK
    exact ⟨h1, dq, l, hh, b1 _ _ h2, b2 _ _ h3, hr⟩
   ·rename_i t j o len hx
    obtain ⟨h1, ⟨q, rows, ho⟩, l, hh, h2, h3, hr⟩ := uK
    exact ⟨h1, ⟨q, rows, h.same (by simp [Op.operands]) hx (by simp [At.ref]) ho (by simp)⟩, l, hh, b1 _ _ h2, b2 _ _ h3, hr⟩
   ·exact uK.elim
 case binOp op T x y yt =>
  rw [<- h.look x (by simp [Op.operands]), <- h.look y (by simp [Op.operands])]; exact hs
 case unOp op T x => rw [<- h.look x (by simp [Op.operands])]; exact hs
 case convert S T x => rw [<- h.look x (by simp [Op.operands])]; exact hs
 case extract x i => rw [<- h.look x (by simp [Op.operands])]; exact hs
 case field T x f => rw [<- h.look x (by simp [Op.operands])]; exact hs
 case build T parts =>
  obtain ⟨h1, h2, z, out, h3, h4, h5⟩ := hs
  refine ⟨h1, h2, z, out, h3, RF ?_ h4, h5⟩
  simpa [Op.operands] using h
 case call c =>
  obtain ⟨gA, args, gP⟩ := c
  have hm : ∀ x ∈ args.toList, x ∈ (Op.operands (.call ⟨gA, args, gP⟩)).toList := by
   intro x hx
   simp only [Op.operands, Call.operands]
   cases gA <;> simp at hx ⊢ <;> simp [hx]
  split at hs
  ·rename_i x t hc ha ht
   rw [h.look x (hm x (by rw [ha]; simp))] at hs
   try simp only [hc, ha, ht]
   refine ⟨hs.1, ?_⟩
   have uK := hs.2
   split at uK
   ·exact uK
   ·exact uK
   ·exact uK
   ·rename_i u j lo len hx
    obtain ⟨h1, ⟨q, size, rows, ho⟩ | ⟨size, rows, ho⟩, hr⟩ := uK
    ·exact ⟨h1, .inl ⟨q, size, rows, h.same (hm x (by rw [ha]; simp)) hx (by simp [At.ref]) ho (by simp)⟩, hr⟩
    ·exact ⟨h1, .inr ⟨size, rows, h.same (hm x (by rw [ha]; simp)) hx (by simp [At.ref]) ho (by simp)⟩, hr⟩
   ·rename_i u j i c hx
    obtain ⟨h1, size, rows, n, s, ho, hr⟩ := uK
    exact ⟨h1, size, rows, n, s, h.same (hm x (by rw [ha]; simp)) hx (by simp [At.ref]) ho (by simp), hr⟩
   ·exact uK.elim
  ·rename_i x y hc ha
   try simp only [hc, ha]
   obtain ⟨k, m, n, h1, h2, h3⟩ := hs
   exact ⟨k, m, n, zm h (hm x (by rw [ha]; simp)) h1, zm h (hm y (by rw [ha]; simp)) h2, h3⟩
  ·rename_i x y hc ha
   try simp only [hc, ha]
   obtain ⟨k, m, n, h1, h2, h3⟩ := hs
   exact ⟨k, m, n, zm h (hm x (by rw [ha]; simp)) h1, zm h (hm y (by rw [ha]; simp)) h2, h3⟩
  ·exact hs.elim
end
end Go.Vm
namespace Go.Vm
open Go.RowKit
def RE (P : Program) (xs : List Operand) (σ : St) (u : Nat) : Prop :=
 ∃ x ∈ xs, ∃ ty, (look P σ ty x).ref u = true \/ ∃ t cells, (look P σ ty x).ref t = true /\ σ.ob t 0 = .box cells /\ YF u cells = true
theorem KQ {u : Nat} : ∀ {xs : List At}, YF u xs = true ↔ ∃ x ∈ xs, x.ref u = true
 | [] => by simp [YF]
 | x :: xs => by simp [YF, KQ]
theorem FB {u : Nat} {xs ys : List At} (h : ∀ x ∈ xs, x ∈ ys) (hx : YF u xs = true) : YF u ys = true := by
 obtain ⟨x, h1, h2⟩ := KQ.1 hx
 exact KQ.2 ⟨x, h x h1, h2⟩
theorem SJ {u a b : Nat} {xs : List At} (hx : YF u (cut xs a b) = true) : YF u xs = true :=
 FB (fun _ h => List.mem_of_mem_drop (List.mem_of_mem_take h)) hx
theorem kM {u : Nat} (xs : List D) : YF u (xs.map .d) = false := by
 induction xs with
 | nil => rfl
 | cons x xs ih => simp [YF, At.ref, ih]
theorem Ut {P : Program} {T : TypeId} {u : Nat} {xs : List At} (h : (ldV P T xs).ref u = true) : YF u xs = true := by
 unfold ldV at h
 split at h
 ·exact h
 ·split at h
  ·simpa [V.ref, YF] using h
  ·simp [V.ref] at h
theorem Ed {u o : Nat} {r xs : List At} (h : YF u (place r o xs) = true) : YF u r = true \/ YF u xs = true := by
 obtain ⟨x, h1, h2⟩ := KQ.1 h
 simp only [place, List.mem_append] at h1
 rcases h1 with (h1 | h1) | h1
 ·exact .inl (KQ.2 ⟨x, List.mem_of_mem_take h1, h2⟩)
 ·exact .inr (KQ.2 ⟨x, h1, h2⟩)
 ·exact .inl (KQ.2 ⟨x, List.mem_of_mem_drop h1, h2⟩)
theorem Bh {v : V} {u : Nat} (h : (unc v).ref u = true) (hc : ∀ g x, unc v ≠ .cnd g x) (hf : ∀ g x, unc v ≠ .fix g x) : v.ref u = true := by
 cases v with
 | cnd g x =>
  simp only [unc] at h hc hf
  simp only [V.ref, Bool.or_eq_true]
  cases x with
  | tup xs => exact .inr h
  | cnd g y => exact absurd rfl (hc g y)
  | fix g y => exact absurd rfl (hf g y)
  | one x => exact .inl h
  | agg x => exact .inl h
  | any => exact .inl h
 | fix g x =>
  simp only [unc] at h hc hf
  simp only [V.ref, Bool.or_eq_true]
  cases x with
  | tup xs => exact .inr h
  | cnd g y => exact absurd rfl (hc g y)
  | fix g y => exact absurd rfl (hf g y)
  | one x => exact .inl h
  | agg x => exact .inl h
  | any => exact .inl h
 | _ => exact h
theorem MQ {u t j i : Nat} : ∀ {c : Nat} {xs : List D}, YF u (jA t j i c xs) = true -> u = t
 | _, [], h => by simp [jA, YF] at h
 | c, x :: xs, h => by
  simp only [jA, YF, Bool.or_eq_true] at h
  rcases h with h | h
  ·cases x <;> simp [At.ref] at h; exact h.symm
  ·exact MQ h
theorem Fg {u t j i c : Nat} {q : Bool} {xs : List D} (h : YF u (W2 q t j i c xs) = true) : u = t := by
 cases q with
 | true => exact MQ h
 | false => simp only [W2] at h; rw [kM] at h; cases h
theorem HS {op : BinOp} {k : IntKind} {x y : Int} {v : V} (h : MX op k x y v) (u : Nat) : v.ref u = false := by
 cases op <;> simp only [MX] at h <;> first | (subst h; rfl) | (obtain ⟨_, rfl⟩ := h; rfl) | exact h.elim
theorem Ho {op : BinOp} {x y : ByteArray} {v : V} (h : MH op x y v) (u : Nat) : v.ref u = false := by
 cases op <;> simp only [MH] at h <;> first | (subst h; rfl) | (obtain ⟨_, rfl⟩ := h; rfl) | exact h.elim
theorem IT {op : BinOp} {x y : Bool} {v : V} (h : RA op x y v) (u : Nat) : v.ref u = false := by
 cases op <;> simp only [RA] at h <;> first | (subst h; rfl) | (obtain ⟨_, rfl⟩ := h; rfl) | exact h.elim
theorem FX {P : Program} {op : BinOp} {T : TypeId} {x y v : V} (h : Gf P op T x y v) (u : Nat) : v.ref u = false := by
 unfold Gf at h
 split at h
 ·exact HS h.2 u
 ·exact Ho h u
 ·exact IT h.2 u
 ·obtain ⟨_, q, _, ⟨_, rfl⟩ | ⟨_, rfl⟩⟩ := h <;> rfl
 ·exact h.elim
theorem Li {u : Nat} : ∀ {xs : List V} {i : Nat} {v : V}, xs[i]? = some v -> v.SQ u = true -> WS u xs = true
 | [], _, _, h, _ => by simp at h
 | x :: xs, 0, v, h, hr => by simp at h; subst h; simp [WS, hr]
 | x :: xs, i + 1, v, h, hr => by simp only [WS, Bool.or_eq_true]; exact .inr (Li (by simpa using h) hr)
theorem IB {v : V} (hf : v.flat = true) (u : Nat) : v.ref u = v.SQ u := by
 cases v <;> first | rfl | (simp [V.flat] at hf)
theorem O5 {P : Program} {σ : St} {T : TypeId} {u : Nat} : ∀ {ps : List (Nat × Operand)} {z out : List At}, WM P σ T ps z out -> YF u out = true ->
  YF u z = true \/ ∃ x ∈ ps.map (·.2), ∃ ty, (look P σ ty x).ref u = true
 | [], z, out, h, hr => by simp only [WM] at h; subst h; exact .inl hr
 | (i, x) :: ps, z, out, h, hr => by
  simp only [WM] at h
  rcases O5 h.2.2.2.2.2 hr with h1 | ⟨y, hy, ty, h1⟩
  ·rcases Ed h1 with h1 | h1
   ·exact .inl h1
   ·exact .inr ⟨x, by simp, _, jT h1⟩
  ·exact .inr ⟨y, by simp at hy ⊢; exact .inr hy, ty, h1⟩
theorem RP {P : Program} {σ : St} {op : Op} {ty : TypeId} {v : V} {u : Nat} (hs : YJ P σ op ty v) (hr : v.ref u = true) : RE P op.operands.toList σ u := by
 have bM : ∀ {x : D}, v = .one (.d x) -> False := by intro x e; rw [e] at hr; cases hr
 cases op <;> simp only [YJ] at hs
 case move x => subst hs; exact ⟨x, by simp [Op.operands], ty, .inl hr⟩
 case assign x => subst hs; exact ⟨x, by simp [Op.operands], ty, .inl hr⟩
 case pick c a b => obtain ⟨bc, p, q, _, _, _, _, _, _, rfl⟩ := hs; cases hr
 case load T x =>
  have uK := hs.2.2
  split at uK
  ·rename_i t c hx
   obtain ⟨cells, ho, _, rfl⟩ := uK
   exact ⟨x, by simp [Op.operands], 0, .inr ⟨t, cells, Xi hx (by simp [At.ref]), ho, SJ (Ut hr)⟩⟩
  ·rename_i t j i c hx
   obtain ⟨q, size, rows, _, _, _, rfl⟩ := uK
   have := Fg (Ut hr)
   exact ⟨x, by simp [Op.operands], 0, .inl (Xi hx (by simp [At.ref, this]))⟩
  ·obtain ⟨_, rfl⟩ := uK
   have := Ut hr; rw [kM] at this; cases this
  ·obtain ⟨_, _, _, _, _, _, _, _, _, rfl⟩ := uK
   have := Ut hr; rw [kM] at this; cases this
  ·exact uK.elim
 case nilCheck x =>
  have uK := hs.2
  split at uK
  ·rename_i t c hx
   obtain ⟨_, rfl⟩ := uK
   exact ⟨x, by simp [Op.operands], 0, .inl (Xi hx hr)⟩
  ·exact uK.elim
 case fieldAddr T x f =>
  have uK := hs.2.2
  split at uK
  ·rename_i t c hx
   obtain ⟨_, rfl⟩ := uK
   exact ⟨x, by simp [Op.operands], 0, .inl (Xi hx hr)⟩
  ·rename_i t j i c hx
   obtain ⟨_, rfl⟩ := uK
   exact ⟨x, by simp [Op.operands], 0, .inl (Xi hx hr)⟩
  ·subst uK; cases hr
  ·rename_i t j i c k hx
   obtain ⟨_, rfl⟩ := uK
   exact ⟨x, by simp [Op.operands], 0, .inl (Xi hx hr)⟩
  ·exact uK.elim
 case indexAddr T x ix =>
  obtain ⟨k, i, _, _, _, uK⟩ := hs
  split at uK
  ·obtain ⟨_, _, _, _, rfl⟩ := uK; cases hr
  ·rename_i t j lo len hx
   obtain ⟨_, _, _, _, rfl⟩ := uK
   exact ⟨x, by simp [Op.operands], 0, .inl (Xi hx hr)⟩
  ·rename_i t c hx
   obtain ⟨_, _, rfl⟩ := uK
   exact ⟨x, by simp [Op.operands], 0, .inl (Xi hx hr)⟩
  ·rename_i t j m c hx
   obtain ⟨_, _, _, rfl⟩ := uK
   exact ⟨x, by simp [Op.operands], 0, .inl (Xi hx hr)⟩
  ·exact uK.elim
 case index T x ix =>
  obtain ⟨k, i, _, _, _, uK⟩ := hs
  split at uK
  ·obtain ⟨_, _, rfl⟩ := uK; cases hr
  ·rename_i xs hx
   obtain ⟨_, _, _, rfl⟩ := uK
   exact ⟨x, by simp [Op.operands], 0, .inl (T5 hx (SJ (Ut hr)))⟩
  ·exact uK.elim
 case slice T x lo hi mx =>
  cases mx with
  | some m => exact hs.elim
  | none =>
   simp only at hs
   have uK := hs.2
   split at uK
   ·obtain ⟨_, _, _, _, _, _, _, rfl⟩ := uK; cases hr
   ·obtain ⟨_, _, _, _, _, _, _, _, rfl⟩ := uK; cases hr
   ·rename_i t j o len hx
    obtain ⟨_, _, _, _, _, _, _, _, rfl⟩ := uK
    exact ⟨x, by simp [Op.operands], 0, .inl (Xi hx hr)⟩
   ·exact uK.elim
 case binOp op T x y yt => rw [FX hs.2.2 u] at hr; cases hr
 case unOp op T x =>
  have uK := hs.2
  split at uK
  ·subst uK; cases hr
  ·subst uK; cases hr
  ·exact uK.elim
 case convert S T x =>
  have uK := hs.2.2
  split at uK
  ·obtain ⟨_, _, rfl⟩ := uK; cases hr
  ·exact uK.elim
 case extract x i =>
  have uK := hs.2
  split at uK
  ·rename_i xs hx
   refine ⟨x, by simp [Op.operands], 0, .inl (Bh ?_ (by rw [hx]; simp) (by rw [hx]; simp))⟩
   rw [hx]
   rw [IB uK.2] at hr
   exact Li uK.1 hr
  ·exact uK.elim
 case field T x f =>
  have uK := hs.2.2.2
  split at uK
  ·rename_i xs hx
   obtain ⟨_, rfl⟩ := uK
   exact ⟨x, by simp [Op.operands], 0, .inl (T5 hx (SJ (Ut hr)))⟩
  ·exact uK.elim
 case build T parts =>
  obtain ⟨_, _, z, out, h3, h4, rfl⟩ := hs
  rcases O5 h4 hr with h1 | ⟨x, hx, eQ, h1⟩
  ·rw [T8 u _ _ _ h3] at h1; cases h1
  ·exact ⟨x, by simpa [Op.operands] using hx, eQ, .inl h1⟩
 case call c =>
  split at hs
  ·have uK := hs.2
   split at uK
   ·obtain ⟨_, rfl⟩ := uK; cases hr
   ·obtain ⟨_, rfl⟩ := uK; cases hr
   ·obtain ⟨_, rfl⟩ := uK; cases hr
   ·obtain ⟨_, _, rfl⟩ := uK; cases hr
   ·obtain ⟨_, _, _, _, _, _, _, _, rfl⟩ := uK; cases hr
   ·exact uK.elim
  ·obtain ⟨_, _, _, _, _, rfl⟩ := hs; cases hr
  ·obtain ⟨_, _, _, _, _, rfl⟩ := hs; cases hr
  ·exact hs.elim
end Go.Vm
namespace Go.Vm
open Go.RowKit
inductive Eff where
 | put (v : V)
 | new (v : V) (os : List Ob)
 | drop (t j : Nat) (v : V) (os : List Ob)
def Eff.ap (d : Nat) : Eff -> St -> St
 | .put v, σ => σ.put d v
 | .new v os, σ => σ.new d v os
 | .drop t j v os, σ => (σ.Zs t j .none).new d v os
def Eff.ok (d : Nat) : Eff -> St -> Prop
 | .put _, _ => True
 | .new _ _, σ => σ.fresh d = true
 | .drop t j _ _, σ => (∃ q s r, σ.ob t j = .arr q s r) /\ (σ.Zs t j .none).fresh d = true
def Eff.ref (u : Nat) : Eff -> Bool
 | .put v => v.ref u
 | .new v os => v.ref u || Yh u os
 | .drop _ _ v os => v.ref u || Yh u os
def kH (o : Oper) : Bool :=
 match o.op with
 | .call ⟨.builtin .append, ⟨.const _ :: _⟩, _⟩ => false
 | .call ⟨.builtin .append, _, _⟩ => true
 | _ => false
def KH (o : Oper) : Bool :=
 match o.op with
 | .alloc _ => false
 | .box _ _ => false
 | .buildSlice _ _ _ => false
 | .makeSlice _ _ _ => false
 | .call ⟨.builtin .append, _, _⟩ => false
 | .call ⟨.value _, _, _⟩ => false
 | _ => true
def zA (ops : Array Oper) (o : Oper) : List Operand :=
 o.op.operands.toList ++ (match o.guard with | some (j, _) => (match (ops[j]?).bind (·.dst) with | some dj => [.tmp dj] | none => []) | none => [])
section
variable {P : Program} {σ1 σ : St}
theorem Sub.left {xs ys : List Operand} (h : Sub P (xs ++ ys) σ1 σ) : Sub P xs σ1 σ := ⟨h.len, fun x hx => h.look x (by simp [hx]), fun x hx => h.ob x (by simp [hx])⟩
theorem I9 {x : At} {d : D} (h : ∀ u, x.ref u = true -> ∀ j, σ1.ob u j ≠ .none -> σ.ob u j = σ1.ob u j) (hd : Kc σ1 x = some d) : Kc σ x = some d := by
 cases x with
 | sref t j lo len =>
  simp only [Kc] at hd ⊢
  split at hd
  ·rename_i q size rows ho
   rw [h t (by simp [At.ref]) j (by rw [ho]; simp), ho]; exact hd
  ·cases hd
 | _ => exact hd
theorem qx : ∀ {xs : List At} {r : List D}, (∀ u, YF u xs = true -> ∀ j, σ1.ob u j ≠ .none -> σ.ob u j = σ1.ob u j) -> rowOf σ1 xs = some r -> rowOf σ xs = some r
 | [], _, _, h => h
 | x :: xs, r, h, hr => by
  simp only [rowOf] at hr ⊢
  split at hr
  ·rename_i d ds h1 h2
   rw [I9 (fun u hu => h u (by rw [YF, hu]; rfl)) h1, qx (fun u hu => h u (by rw [YF, hu, Bool.or_true])) h2]
   exact hr
  ·cases hr
theorem Mn {v : V} {r : List D} (h : ∀ u, YF u v.cells = true -> ∀ j, σ1.ob u j ≠ .none -> σ.ob u j = σ1.ob u j) (hr : v.Jm σ1 = some r) : v.Jm σ = some r := by
 cases v with
 | one x => exact qx h hr
 | agg xs =>
  match xs, h, hr with
  | [], h, hr => exact qx h hr
  | [_], _, hr => simp [V.Jm] at hr
  | x :: y :: xs, h, hr => exact qx h hr
 | any => simp [V.Jm] at hr
 | tup xs => simp [V.Jm] at hr
 | cnd g x => simp [V.Jm] at hr
 | fix u x => simp [V.Jm] at hr
theorem Sub.cells {xs : List Operand} {x : Operand} (h : Sub P xs σ1 σ) (hx : x ∈ xs) (ty : TypeId) : ∀ u, YF u (unc (Vm.look P σ1 ty x)).cells = true -> ∀ j, σ1.ob u j ≠ .none -> σ.ob u j = σ1.ob u j :=
 fun u hu j hn => h.ob x hx ty u (jT hu) j hn
theorem qR : ∀ {xs : List Operand} {ts : List TypeId} {rs : List (List D)}, Sub P xs σ1 σ -> QC P σ1 xs ts rs -> QC P σ xs ts rs
 | [], _, _, _, h => h
 | x :: xs, [], _, _, h => h.elim
 | x :: xs, t :: ts, rs, hs, h => by
  obtain ⟨hg, r, rest, h1, h2, h3⟩ := h
  have e := hs.look x (by simp) t
  refine ⟨by rw [<- e]; exact hg, r, rest, ?_, qR ⟨hs.len, fun y hy => hs.look y (by simp [hy]), fun y hy => hs.ob y (by simp [hy])⟩ h2, h3⟩
  rw [<- e]
  exact Mn (hs.cells (by simp) t) h1
theorem xz : ∀ {xs : List Operand} {ts : List TypeId}, Sub P xs σ1 σ -> YM P σ xs ts = YM P σ1 xs ts
 | [], _, _ => by simp [YM]
 | x :: xs, [], _ => by simp [YM]
 | x :: xs, t :: ts, hs => by
  simp only [YM]
  rw [hs.look x (by simp) t, xz ⟨hs.len, fun y hy => hs.look y (by simp [hy]), fun y hy => hs.ob y (by simp [hy])⟩]
theorem V6 {c : Call} {f : FuncId} {own : Bool} {res : List (List D)} (hs : Sub P c.args.toList σ1 σ) (h : Gw P σ1 c f own res) : Gw P σ c f own res := by
 obtain ⟨rows, h1, h2, h3⟩ := h
 exact ⟨rows, qR hs h1, h2, by rw [xz hs]; exact h3⟩
theorem UG {T : TypeId} {size : Nat} : ∀ {ps : List (Nat × Operand)} {k : Nat} {rs : List (List D)}, Sub P (ps.map (·.2)) σ1 σ -> RG P σ1 T size ps k rs -> RG P σ T size ps k rs
 | [], _, _, _, h => h
 | (i, x) :: ps, k, rs, hs, h => by
  have e := hs.look x (by simp) T
  obtain ⟨h1, h2, h3, h4, r, rest, h5, h6, h7, h8⟩ := h
  refine ⟨h1, by rw [<- e]; exact h2, by rw [<- e]; exact h3, by rw [<- e]; exact h4, r, rest, ?_, h6, UG ⟨hs.len, fun y hy => hs.look y (by simp at hy ⊢; exact .inr hy), fun y hy => hs.ob y (by simp at hy ⊢; exact .inr hy)⟩ h7, h8⟩
  rw [<- e]
  exact qx (hs.cells (by simp) T) h5
theorem Pe {T : TypeId} {size : Nat} : ∀ {ps : List (Nat × Operand)} {k : Nat} {rs : List (List At)}, Sub P (ps.map (·.2)) σ1 σ -> S8 P σ1 T size ps k rs -> S8 P σ T size ps k rs
 | [], _, _, _, h => h
 | (i, x) :: ps, k, rs, hs, h => by
  obtain ⟨h1, h2, h3, h4, rest, h5, h6⟩ := h
  have e := hs.look x (by simp) T
  rw [e] at h2 h3 h4 h6
  exact ⟨h1, h2, h3, h4, rest, Pe ⟨hs.len, fun y hy => hs.look y (by simp at hy ⊢; exact .inr hy), fun y hy => hs.ob y (by simp at hy ⊢; exact .inr hy)⟩ h5, h6⟩
theorem Lu {T : TypeId} {size u : Nat} : ∀ {ps : List (Nat × Operand)} {k : Nat} {rs : List (List At)}, S8 P σ T size ps k rs -> YF u rs.flatten = true -> ∃ x ∈ ps.map (·.2), (Vm.look P σ T x).ref u = true
 | [], _, _, h, hr => by simp only [S8] at h; subst h; simp [YF] at hr
 | (i, x) :: ps, k, rs, h, hr => by
  obtain ⟨h1, h2, h3, h4, rest, h5, rfl⟩ := h
  rw [List.flatten_cons] at hr
  obtain ⟨z, hz, sV⟩ := KQ.1 hr
  rcases List.mem_append.1 hz with hz | hz
  ·exact ⟨x, by simp, jT (KQ.2 ⟨z, hz, sV⟩)⟩
  ·obtain ⟨y, hy, dr⟩ := Lu h5 (KQ.2 ⟨z, hz, sV⟩)
   exact ⟨y, by simp at hy ⊢; exact .inr hy, dr⟩
theorem K3 (u : Nat) : ∀ (qs : List Bool) (ds : List D), Yh u (Yc qs ds) = false
 | qs, [] => by cases qs <;> rfl
 | q :: qs, .sl size rows :: ds => by simp [Yc, Yh, K3 u qs ds]
 | [], .sl size rows :: ds => by simp [Yc, Yh, K3 u [] ds]
 | qs, .int _ _ :: ds => by cases qs <;> simp [Yc, Yh, K3 u _ ds]
 | qs, .bool _ :: ds => by cases qs <;> simp [Yc, Yh, K3 u _ ds]
 | qs, .str _ :: ds => by cases qs <;> simp [Yc, Yh, K3 u _ ds]
 | qs, .unk :: ds => by cases qs <;> simp [Yc, Yh, K3 u _ ds]
theorem WH {xs : List Operand} {x : Operand} {ty : TypeId} {size : Nat} {news : List (List D)} (hs : Sub P xs σ1 σ) (hx : x ∈ xs) (h : qd σ1 (unc (Vm.look P σ1 ty x)) size news) : qd σ (unc (Vm.look P σ ty x)) size news := by
 rw [hs.look x hx] at h
 unfold qd at h ⊢
 split at h
 ·exact h
 ·exact h
 ·rename_i t j lo len hv
  obtain ⟨rows, ho, hr⟩ := h
  exact ⟨rows, hs.same hx hv (by simp [At.ref]) ho (by simp), hr⟩
 ·exact h.elim
theorem Ew (u : Nat) (r : List D) : (vOf (r.map At.d)).ref u = false := by
 have := kM (u := u) r
 match r, this with
 | [], _ => rfl
 | [x], _ => rfl
 | x :: y :: r, h => exact h
theorem G8 (u : Nat) (r : List D) : (vOf (r.map At.d)).SQ u = false := by
 have := kM (u := u) r
 match r, this with
 | [], _ => rfl
 | [x], _ => rfl
 | x :: y :: r, h => exact h
theorem Lx (u : Nat) (res : List (List D)) : (ye res).ref u = false := by
 have tl : ∀ rs : List (List D), WS u (rs.map fun r => vOf (r.map At.d)) = false := by
  intro rs
  induction rs with
  | nil => rfl
  | cons r rs ih => simp only [List.map_cons, WS, G8, ih, Bool.or_false]
 match res with
 | [] => rfl
 | [r] => exact Ew u r
 | r :: r' :: rs => exact tl (r :: r' :: rs)
theorem Ts {u d : Nat} (hu : u ≠ d) : ∀ (k : Nat) (r : List D), YF u (kJ d k r) = false
 | _, [] => rfl
 | k, x :: r => by cases x <;> simp [kJ, YF, At.ref, Ts hu, Ne.symm hu]
theorem GX {u : Nat} {xs : List At} (h : YF u xs = false) : (vOf xs).SQ u = false := by
 match xs, h with
 | [], _ => rfl
 | [x], h => simpa [vOf, V.SQ, YF] using h
 | x :: y :: xs, h => exact h
theorem MN {u d : Nat} (hu : u ≠ d) (res : List (List D)) : (xL d res).ref u = false := by
 have tl : ∀ (k : Nat) (rs : List (List D)), WS u (Lf d k rs) = false := by
  intro k rs
  induction rs generalizing k with
  | nil => rfl
  | cons r rs ih => simp only [Lf, WS, GX (Ts hu _ _), ih, Bool.or_false]
 match res with
 | [] => exact tl 0 []
 | [r] =>
  have h1 : (vOf (kJ d 0 r)).flat = true := by
   match kJ d 0 r with
   | [] => rfl
   | [x] => rfl
   | x :: y :: xs => rfl
  have := GX (Ts hu 0 r)
  rw [<- IB h1] at this
  exact this
 | r :: r' :: rs => exact tl 0 (r :: r' :: rs)
theorem NG (u : Nat) : ∀ (ds : List D), Yh u (zW ds) = false
 | [] => rfl
 | x :: ds => by cases x <;> simp [zW, Yh, NG u ds]
theorem Wh (ty : TypeId) (v : Value) (u : Nat) : (cst P ty v).ref u = false := by
 unfold cst
 split <;> first | rfl | skip
 all_goals (repeat' split) <;> first | rfl | skip
end
end Go.Vm
namespace Go.Vm
open Go.RowKit
def Nf (P : Program) (ops : Array Oper) (o : Oper) (d : Nat) (σ1 : St) (e : Eff) : Prop :=
 e.ok d σ1 /\ (∀ t j v os, e = .drop t j v os -> kH o = true /\ ∃ x ∈ zA ops o, ∃ ty, (look P σ1 ty x).ref t = true) /\
 (KH o = true \/ o.guard.isSome = true -> ∃ v, e = .put v) /\
 (o.guard = none -> ∀ u, u ≠ d -> e.ref u = true -> RE P (zA ops o) σ1 u) /\
 ∀ σ, Sub P (zA ops o) σ1 σ -> e.ok d σ -> Yz P ops o σ (e.ap d σ)
section
variable {P : Program} {ops : Array Oper} {o : Oper} {d : Nat} {σ1 σ2 : St}
theorem SH {xs ys : List Operand} {u : Nat} (h : RE P xs σ1 u) : RE P (xs ++ ys) σ1 u := by
 obtain ⟨x, hx, r⟩ := h
 exact ⟨x, by simp [hx], r⟩
theorem WD {σ σ' : St} (hg : o.guard = none) (hd : o.dst = some d) (h : Step P o d σ σ') : Yz P ops o σ σ' := by
 unfold Yz; simp only [hg, hd]; exact h
theorem S9 {v : V} (hg : o.guard = none) (hd : o.dst = some d) (nD : ∀ u, u ≠ d -> v.ref u = true -> RE P o.op.operands.toList σ1 u)
  (tE : ∀ σ, Sub P o.op.operands.toList σ1 σ -> Step P o d σ (σ.put d v)) : Nf P ops o d σ1 (.put v) :=
 ⟨trivial, (fun t j v os h => by cases h), fun _ => ⟨v, rfl⟩, fun _ u hu hr => SH (nD u hu hr), fun σ hs _ => WD hg hd (tE σ hs.left)⟩
theorem kZ {v : V} {os : List Ob} (hg : o.guard = none) (hd : o.dst = some d) (hp : KH o = false) (uW : σ1.fresh d = true) (nD : ∀ u, u ≠ d -> (v.ref u || Yh u os) = true -> RE P o.op.operands.toList σ1 u)
  (tE : ∀ σ, Sub P o.op.operands.toList σ1 σ -> σ.fresh d = true -> Step P o d σ (σ.new d v os)) : Nf P ops o d σ1 (.new v os) :=
 ⟨uW, (fun t j v os h => by cases h), (fun h => h.elim (fun h => by rw [hp] at h; cases h) (fun h => by rw [hg] at h; cases h)), fun _ u hu hr => SH (nD u hu hr), fun σ hs hf => WD hg hd (tE σ hs.left hf)⟩
theorem KS {c : Call} {x : Operand} (hx : x ∈ c.args.toList) : x ∈ (Op.operands (.call c)).toList := by
 obtain ⟨gA, args, gP⟩ := c
 simp only [Op.operands, Call.operands]
 cases gA <;> simp at hx ⊢ <;> simp [hx]
theorem SZ {c : Call} {σ : St} (h : Sub P (Op.operands (.call c)).toList σ1 σ) : Sub P c.args.toList σ1 σ :=
 ⟨h.len, fun x hx => h.look x (KS hx), fun x hx => h.ob x (KS hx)⟩
theorem D6 (hg : o.guard = none) (hd : o.dst = some d) (hs : Step P o d σ1 σ2) : ∃ e : Eff, σ2 = e.ap d σ1 /\ Nf P ops o d σ1 e := by
 have ta : (∃ v, YJ P σ1 o.op o.type v /\ σ2 = σ1.put d v) -> (∀ σ v, YJ P σ o.op o.type v -> Step P o d σ (σ.put d v)) -> ∃ e : Eff, σ2 = e.ap d σ1 /\ Nf P ops o d σ1 e := by
  rintro ⟨v, hv, rfl⟩ uf
  exact ⟨.put v, rfl, S9 hg hd (fun u _ hr => RP hv hr) (fun σ uo => uf σ v (qt hv uo))⟩
 have bN := hs
 unfold Step at hs
 split at hs
 ·rename_i T uA
  obtain ⟨hf, hz, row, ur, rfl⟩ := hs
  refine ⟨.new _ _, rfl, kZ hg hd (by simp [KH, uA]) hf (fun u hu hr => ?_) (fun σ uo pU => ?_)⟩
  ·simp only [V.ref, At.ref, Yh, T8 u _ _ _ ur, Bool.or_false, beq_iff_eq] at hr
   exact absurd hr.symm hu
  ·unfold Step; rw [uA]; exact ⟨pU, hz, row, ur, rfl⟩
 ·rename_i T x uA
  obtain ⟨hf, h1, h2, h3, rfl⟩ := hs
  refine ⟨.new _ _, rfl, kZ hg hd (by simp [KH, uA]) hf (fun u hu hr => ?_) (fun σ uo pU => ?_)⟩
  ·simp only [V.ref, At.ref, Yh, Bool.or_false, Bool.or_eq_true, beq_iff_eq] at hr
   rcases hr with hr | hr
   ·exact absurd hr.symm hu
   ·exact ⟨x, by simp [uA, Op.operands], T, .inl (jT hr)⟩
  ·have e := uo.look x (by simp [uA, Op.operands]) T
   unfold Step; rw [uA]
   simp only
   rw [<- e]
   exact ⟨pU, h1, h2, h3, rfl⟩
 ·rename_i T n parts uA
  rcases hs with ⟨hf, h1, h2, h3, h4, h5, ⟨rows, h6, rfl⟩ | ⟨rows, h6, h7, rfl⟩⟩ | ⟨h1, rows, h6, rfl⟩
  ·refine ⟨.new _ _, rfl, kZ hg hd (by simp [KH, uA]) hf (fun u hu hr => ?_) (fun σ uo pU => ?_)⟩
   ·simp only [V.ref, At.ref, Yh, Bool.or_false, beq_iff_eq] at hr
    exact absurd hr.symm hu
   ·unfold Step; rw [uA]
    refine .inl ⟨pU, h1, h2, h3, h4, h5, .inl ⟨rows, UG ?_ h6, rfl⟩⟩
    rw [uA] at uo
    simpa [Op.operands] using uo
  ·refine ⟨.new _ _, rfl, kZ hg hd (by simp [KH, uA]) hf (fun u hu hr => ?_) (fun σ uo pU => ?_)⟩
   ·simp only [V.ref, At.ref, Yh, Bool.or_false, Bool.or_eq_true, beq_iff_eq] at hr
    rcases hr with hr | hr
    ·exact absurd hr.symm hu
    ·obtain ⟨x, hx, dt⟩ := Lu h6 hr
     exact ⟨x, by simpa [uA, Op.operands] using hx, _, .inl dt⟩
   ·unfold Step; rw [uA]
    refine .inl ⟨pU, h1, h2, h3, h4, h5, .inr ⟨rows, Pe ?_ h6, h7, rfl⟩⟩
    rw [uA] at uo
    simpa [Op.operands] using uo
  ·refine ⟨.put _, rfl, S9 hg hd (fun u _ hr => by cases hr) (fun σ uo => ?_)⟩
   unfold Step; rw [uA]
   refine .inr ⟨h1, rows, UG ?_ h6, rfl⟩
   rw [uA] at uo
   simpa [Op.operands] using uo
 ·rename_i T x y uA
  obtain ⟨rfl, hf, h1, h2, h3, q, z, zr, k, n, hq, h4, h5, h6, h7, h8, rfl⟩ := hs
  refine ⟨.new _ _, rfl, kZ hg hd (by simp [KH, uA]) hf (fun u hu hr => ?_) (fun σ uo pU => ?_)⟩
  ·simp only [V.ref, At.ref, Yh, Bool.or_false, beq_iff_eq] at hr
   exact absurd hr.symm hu
  ·unfold Step; rw [uA]
   exact ⟨rfl, pU, h1, h2, h3, q, z, zr, k, n, hq, h4, h5, zm uo (by simp [uA, Op.operands]) h6, h7, h8, rfl⟩
 ·rename_i c uA
  split at hs
  ·rename_i hc
   obtain ⟨x, y, t, ha, rj, h1, h2, h3, h4, h5, uC, news, σd, h6, h7, h8, h9, ru, rfl⟩ := hs
   have hx : x ∈ o.op.operands.toList := by rw [uA]; exact KS (by rw [ha]; simp)
   have hy : y ∈ o.op.operands.toList := by rw [uA]; exact KS (by rw [ha]; simp)
   have pV : KH o = false := by
    obtain ⟨cc, ca, ct⟩ := c
    simp only at hc; subst hc
    simp [KH, uA]
   have refs : ∀ u, u ≠ d -> (V.ref u (.one (.sref d 0 0 (uC.length + news.length))) || Yh u [.arr false (P.cellsOf (ZP P t)) (uC ++ news)]) = true -> RE P o.op.operands.toList σ1 u := by
    intro u hu hr
    simp only [V.ref, At.ref, Yh, Bool.or_false, beq_iff_eq] at hr
    exact absurd hr.symm hu
   have bO := h6
   unfold Wr at h6
   split at h6
   ·rename_i s heq
    obtain ⟨rfl, rfl⟩ := h6
    refine ⟨.new _ _, rfl, kZ hg hd pV h8 refs (fun σ uo pU => ?_)⟩
    unfold Step; rw [uA]
    simp only [hc]
    refine ⟨x, y, t, ha, rj, ?_, ?_, h3, h4, h5, [], news, σ, ?_, WH uo hy h7, pU, h9, ru, rfl⟩
    ·rw [<- uo.look x hx]; exact h1
    ·rw [<- uo.look y hy]; exact h2
    ·rw [<- uo.look x hx]; unfold Wr; rw [heq]; exact ⟨rfl, rfl⟩
   ·rename_i tt j lo len heq
    obtain ⟨rows, ho, rF, hlen, holds, rfl⟩ := h6
    have fM : (look P σ1 t x).ref tt = true := Xi heq (by simp [At.ref])
    refine ⟨.drop tt j _ _, rfl, ⟨⟨_, _, _, ho⟩, h8⟩, ?_, (fun hh => hh.elim (fun hh => by rw [pV] at hh; cases hh) (fun hh => by rw [hg] at hh; cases hh)), fun _ u hu hr => SH (refs u hu hr), fun σ uo pU => WD hg hd ?_⟩
    ·intro t' j' v os he
     cases he
     refine ⟨?_, x, by simp only [zA, List.mem_append]; exact .inl hx, t, fM⟩
     obtain ⟨cc, ca, ct⟩ := c
     simp only at hc ha; subst hc ha
     cases x with
     | const v => rw [Vm.look, Wh] at fM; cases fM
     | _ => simp [kH, uA]
    ·have pW := uo.left
     unfold Step; rw [uA]
     simp only [hc]
     have rM : unc (look P σ t x) = .one (.sref tt j lo len) := by rw [<- pW.look x hx]; exact heq
     refine ⟨x, y, t, ha, rj, ?_, ?_, h3, h4, h5, uC, news, _, ?_, WH pW hy h7, pU.2, h9, ru, rfl⟩
     ·rw [<- pW.look x hx]; exact h1
     ·rw [<- pW.look y hy]; exact h2
     ·unfold Wr; rw [rM]
      exact ⟨rows, pW.same hx rM (by simp [At.ref]) ho (by simp), rF, hlen, holds, rfl⟩
   ·exact h6.elim
  ·rename_i f hc
   have pV : KH o = false := by
    obtain ⟨cc, ca, ct⟩ := c
    simp only at hc; subst hc
    simp [KH, uA]
   rcases hs with ⟨own, res, iB, rfl⟩ | ⟨res, iB, hf, rfl⟩ | ⟨rows, res, qs, ha, cC, hq, hf, rfl⟩
   ·refine ⟨.put _, rfl, S9 hg hd (fun u _ hr => by rw [Lx] at hr; cases hr) (fun σ uo => ?_)⟩
    rw [uA] at uo
    unfold Step; rw [uA]
    simp only [hc]
    exact .inl ⟨own, res, V6 (SZ uo) iB, rfl⟩
   ·refine ⟨.new _ _, rfl, kZ hg hd pV hf (fun u hu hr => ?_) (fun σ uo pU => ?_)⟩
    ·rw [MN hu, NG] at hr; cases hr
    ·rw [uA] at uo
     unfold Step; rw [uA]
     simp only [hc]
     exact .inr (.inl ⟨res, V6 (SZ uo) iB, pU, rfl⟩)
   ·refine ⟨.new _ _, rfl, kZ hg hd pV hf (fun u hu hr => ?_) (fun σ uo pU => ?_)⟩
    ·rw [MN hu, K3] at hr; cases hr
    ·rw [uA] at uo
     unfold Step; rw [uA]
     simp only [hc]
     exact .inr (.inr ⟨rows, res, qs, qR (SZ uo) ha, cC, hq, pU, rfl⟩)
  ·rename_i h1 h2
   refine ta hs (fun σ v hv => ?_)
   unfold Step; rw [uA]
   simp only
   exact ⟨v, by rw [uA] at hv; exact hv, rfl⟩
 ·rename_i S T x uA
  rcases hs with hs | ⟨l, h1, h2, h3, h4, rfl⟩ | ⟨s, h1, h2, h3, h4, h5, rfl⟩
  ·refine ta hs (fun σ v hv => ?_)
   unfold Step; rw [uA]
   exact .inl ⟨v, by rw [uA] at hv; exact hv, rfl⟩
  ·refine ⟨.put _, rfl, S9 hg hd (fun u _ hr => by cases hr) (fun σ uo => ?_)⟩
   have hx : x ∈ o.op.operands.toList := by simp [uA, Op.operands]
   unfold Step; rw [uA]
   exact .inr (.inl ⟨l, by rw [<- uo.look x hx]; exact h1, h2, h3, WH uo hx h4, rfl⟩)
  ·refine ⟨.put _, rfl, S9 hg hd (fun u _ hr => by cases hr) (fun σ uo => ?_)⟩
   have hx : x ∈ o.op.operands.toList := by simp [uA, Op.operands]
   unfold Step; rw [uA]
   exact .inr (.inr ⟨s, by rw [<- uo.look x hx]; exact h1, h2, h3, by rw [<- uo.look x hx]; exact h4, h5, rfl⟩)
 ·rename_i n1 n2 n3 n4 n5 n6
  refine ta hs (fun σ v hv => ?_)
  unfold Step
  split
  ·rename_i T uA; exact absurd uA (n1 T)
  ·rename_i T x uA; exact absurd uA (n2 T x)
  ·rename_i T n ps uA; exact absurd uA (n3 T n ps)
  ·rename_i T x y uA; exact absurd uA (n4 T x y)
  ·rename_i c uA; exact absurd uA (n5 c)
  ·rename_i S T x uA; exact absurd uA (n6 S T x)
  ·exact ⟨v, hv, rfl⟩
end
end Go.Vm
namespace Go.Vm
open Go.RowKit
theorem X0 {σ : St} {d : Nat} : σ.fresh d = true ↔ d < σ.length /\ ∀ t e, σ[t]? = some e -> t ≠ d -> e.1.ref d = false /\ Yh d e.2 = false := by
 unfold St.fresh
 rw [Bool.and_eq_true, decide_eq_true_eq]
 refine and_congr_right fun _ => ⟨fun h t e he uD => zP h t e he (by omega), fun h => ?_⟩
 have : ∀ (σ : St) (k : Nat), (∀ t e, σ[t]? = some e -> k + t ≠ d -> e.1.ref d = false /\ Yh d e.2 = false) -> Km d k σ = true := by
  intro σ
  induction σ with
  | nil => intro k _; rfl
  | cons e σ ih =>
   intro k hk
   simp only [Km, Bool.and_eq_true, Bool.or_eq_true, beq_iff_eq, Bool.not_eq_true']
   refine ⟨?_, ih (k + 1) fun t e' he uD => hk (t + 1) e' (by simpa using he) (by omega)⟩
   by_cases h0 : k = d
   ·exact .inl h0
   ·exact .inr (hk 0 e (by simp) (by omega))
 exact this σ 0 (fun t e he uD => h t e he (by omega))
theorem N3 {σ : St} {t : Nat} {e : Ent} (h : σ[t]? = some e) (j : Nat) : σ.ob t j = YS e.2 j := by unfold St.ob; rw [h]
theorem Vo {σ : St} {t j : Nat} {o : Ob} (h : σ.ob t j = o) (hn : o ≠ .none) : ∃ e, σ[t]? = some e /\ YS e.2 j = o := by
 unfold St.ob at h
 split at h
 ·rename_i e he; exact ⟨e, he, h⟩
 ·exact absurd h.symm hn
theorem Tw {u : Nat} : ∀ {os : List Ob} {j : Nat} {cells : List At}, YS os j = .box cells -> YF u cells = true -> Yh u os = true
 | [], _, _, h, _ => by simp [YS] at h
 | o :: os, 0, cells, h, hr => by
  have : o = .box cells := h
  subst this
  simp [Yh, hr]
 | o :: os, j + 1, cells, h, hr => by
  have h' : YS os j = .box cells := by simpa [YS] using h
  have := Tw h' hr
  cases o <;> simp [Yh, this]
theorem zh {u s : Nat} {q : Bool} {r : List (List D)} : ∀ {os : List Ob} {j : Nat}, YS os j = .arr q s r -> Yh u (os.set j .none) = Yh u os
 | [], _, h => by simp [YS] at h
 | o :: os, 0, h => by
  have : o = .arr q s r := h
  subst this
  simp [Yh]
 | o :: os, j + 1, h => by
  have h' : YS os j = .arr q s r := by simpa [YS] using h
  have := zh (u := u) h'
  cases o <;> simp [Yh, this]
theorem Rb {σ : St} {d : Nat} (h : Xb σ d = true) {e : Ent} (he : σ[d]? = some e) (u : Nat) : e.1.ref u = false /\ Yh u e.2 = false := by
 unfold Xb at h
 split at h
 ·rename_i h1; rw [he] at h1; cases h1; exact ⟨rfl, rfl⟩
 ·rename_i h1; rw [he] at h1; cases h1; exact ⟨rfl, rfl⟩
 ·cases h
section
variable {P : Program} {ops : Array Oper} {o x y : Oper} {d dx dy : Nat} {σ σ1 σ2 : St}
theorem qF (hd : o.dst = some d) (hs : Yz P ops o σ1 σ2) : ∃ e : Eff, σ2 = e.ap d σ1 /\ Nf P ops o d σ1 e := by
 unfold Yz at hs
 split at hs
 ·rename_i hg
  simp only [hd] at hs
  exact D6 hg hd hs
 ·rename_i j want hg
  obtain ⟨dj, d', g, v, tx, uL, uM, sE, hv, rfl⟩ := hs
  rw [hd] at uM; cases uM
  refine ⟨.put (.cnd g v), rfl, trivial, (fun t j v os h => by cases h), fun _ => ⟨_, rfl⟩, (fun h => by rw [hg] at h; cases h), fun σ uo _ => ?_⟩
  have tP : Operand.tmp dj ∈ zA ops o := by simp [zA, hg, tx]
  have tO : σ.get dj = σ1.get dj := (uo.look _ tP 0).symm
  unfold Yz
  simp only [hg]
  refine ⟨dj, d, g, v, tx, by rw [<- uo.len]; exact uL, hd, by rw [tO]; exact sE, fun nh => ?_, rfl⟩
  have sU := hv nh
  have oC := uo.left
  unfold PB at sU ⊢
  split at sU
  ·rename_i c uA
   split at sU
   ·rename_i f hc
    obtain ⟨own, res, iB, rfl⟩ := sU
    rw [uA] at oC
    exact ⟨own, res, V6 (SZ oC) iB, rfl⟩
   ·obtain ⟨v0, h1, h2⟩ := sU
    exact ⟨v0, qt h1 oC, h2⟩
  ·obtain ⟨v0, h1, h2⟩ := sU
   exact ⟨v0, qt h1 oC, h2⟩
theorem Kb (e : Eff) : (e.ap d σ).length = σ.length := by
 cases e <;> simp [Eff.ap, St.QH, St.jy, St.Y3]
theorem RV (e : Eff) {t : Nat} (uD : t ≠ d) : (e.ap d σ).get t = σ.get t := by
 cases e with
 | put v => simp [Eff.ap, St.J2, uD]
 | new v os => simp [Eff.ap, St.ko, uD]
 | drop a j v os => simp [Eff.ap, St.ko, St.Xl, uD]
theorem DB {t u : Nat} (h : (σ.get t).ref u = true) : ∃ e, σ[t]? = some e /\ e.1.ref u = true := by
 unfold St.get at h
 split at h
 ·rename_i e he; exact ⟨e, he, h⟩
 ·cases h
end
end Go.Vm
namespace Go.Vm
open Go.RowKit
section
variable {P : Program} {ops : Array Oper} {x y : Oper} {dx dy : Nat} {σ σ1 σ2 : St}
theorem KO {d : Nat} (hf : ∀ t e, σ[t]? = some e -> t ≠ d -> e.1.ref d = false) {z : Operand} (hz : z ≠ .tmp d) (ty : TypeId) : (look P σ ty z).ref d = false := by
 cases z with
 | tmp t =>
  have uD : t ≠ d := fun h => hz (by rw [h])
  cases hr : (look P σ ty (.tmp t)).ref d with
  | false => rfl
  | true =>
   obtain ⟨e, he, th⟩ := DB (σ := σ) (t := t) hr
   rw [hf t e he uD] at th; cases th
 | const v => exact Wh ty v d
 | global g => rfl
 | func f => rfl
theorem look_eq {d : Nat} (hg : ∀ t, t ≠ d -> σ1.get t = σ.get t) {z : Operand} (hz : z ≠ .tmp d) (ty : TypeId) : look P σ1 ty z = look P σ ty z := by
 cases z with
 | tmp t => exact hg t (fun h => hz (by rw [h]))
 | const v => rfl
 | global g => rfl
 | func f => rfl
theorem xg {e : Eff} {d : Nat} (h : e.ok d σ) (uD : ∀ v, e ≠ .put v) : ∀ t en, σ[t]? = some en -> t ≠ d -> en.1.ref d = false := by
 intro t en he ht
 cases e with
 | put v => exact absurd rfl (uD v)
 | new v os => exact ((X0.1 h).2 t en he ht).1
 | drop a j v os =>
  have := (X0.1 h.2).2 t
  rw [QA] at this
  by_cases oR : t = a
  ·rw [if_pos oR, he] at this
   exact (this _ rfl ht).1
  ·rw [if_neg oR] at this
   exact (this en he ht).1
theorem T3 {e : Eff} {d : Nat} (h : e.ok d σ) (uD : ∀ v, e ≠ .put v) : ∀ t en, σ[t]? = some en -> t ≠ d -> Yh d en.2 = false := by
 intro t en he ht
 cases e with
 | put v => exact absurd rfl (uD v)
 | new v os => exact ((X0.1 h).2 t en he ht).2
 | drop a j v os =>
  obtain ⟨⟨q, s, r, ho⟩, hf⟩ := h
  have := (X0.1 hf).2 t
  rw [QA] at this
  by_cases oR : t = a
  ·rw [if_pos oR, he] at this
   have h2 := (this _ rfl ht).2
   subst oR
   rw [N3 he] at ho
   rw [zh ho] at h2
   exact h2
  ·rw [if_neg oR] at this
   exact (this en he ht).2
theorem Bv {e : Eff} {d : Nat} (h : e.ok d σ) (uD : ∀ v, e ≠ .put v) : d < σ.length := by
 cases e with
 | put v => exact absurd rfl (uD v)
 | new v os => exact (X0.1 h).1
 | drop a j v os => have := (X0.1 h.2).1; rwa [St.Y3] at this
theorem ED {e : Eff} {d : Nat} (h : e.ok d σ) {u j : Nat} (hu : (∀ v, e ≠ .put v) -> u ≠ d) (hn : (e.ap d σ).ob u j ≠ .none) : σ.ob u j = (e.ap d σ).ob u j := by
 cases e with
 | put v => simp only [Eff.ap, St.QF]
 | new v os =>
  have := hu (by intro v h; cases h)
  simp only [Eff.ap, St.Qu, this, false_and, if_false]
 | drop a k v os =>
  have nF := hu (by intro v h; cases h)
  obtain ⟨⟨q, s, r, ho⟩, _⟩ := h
  simp only [Eff.ap, St.Qu, nF, false_and, if_false] at hn ⊢
  rw [St.Xj σ a k _ u j (by rw [ho]; simp)] at hn ⊢
  split at hn
  ·exact absurd rfl hn
  ·rename_i hh; rw [if_neg hh]
theorem S0 {e : Eff} {d : Nat} (tL : ∀ t j v os, e ≠ .drop t j v os) {u j : Nat} (hu : (∀ v, e ≠ .put v) -> u ≠ d) : (e.ap d σ).ob u j = σ.ob u j := by
 cases e with
 | put v => simp only [Eff.ap, St.QF]
 | new v os =>
  have := hu (by intro v h; cases h)
  simp only [Eff.ap, St.Qu, this, false_and, if_false]
 | drop a k v os => exact absurd rfl (tL a k v os)
theorem Ci {e : Eff} {d t : Nat} {en : Ent} (uW : e.ok d σ) (ht : t ≠ d) (he : (e.ap d σ)[t]? = some en) : ∃ fU, σ[t]? = some fU /\ fU.1 = en.1 /\ ∀ u, Yh u fU.2 = Yh u en.2 := by
 cases e with
 | put v => simp only [Eff.ap, xa, if_neg ht] at he; exact ⟨en, he, rfl, fun _ => rfl⟩
 | new v os => simp only [Eff.ap, K6, if_neg ht] at he; exact ⟨en, he, rfl, fun _ => rfl⟩
 | drop a j v os =>
  simp only [Eff.ap, K6, if_neg ht, QA] at he
  split at he
  ·rename_i oR
   subst oR
   obtain ⟨⟨q, s, r, ho⟩, _⟩ := uW
   obtain ⟨e0, ry, tK⟩ := Vo ho (by simp)
   rw [ry] at he
   simp at he
   subst he
   exact ⟨e0, ry, rfl, fun u => (zh tK).symm⟩
  ·exact ⟨en, he, rfl, fun _ => rfl⟩
theorem swap (tq : x.dst = some dx) (sP : y.dst = some dy) (uD : dx ≠ dy) (rf : ∀ z ∈ zA ops y, z ≠ .tmp dx) (oP : ∀ z ∈ zA ops x, z ≠ .tmp dy) (tL : kH y = false) (hG : y.guard = none \/ KH x = true \/ x.guard.isSome = true)
  (uk : Xb σ dx = true) (h1 : Yz P ops x σ σ1) (h2 : Yz P ops y σ1 σ2) : ∃ σ1', Yz P ops y σ σ1' /\ Yz P ops x σ1' σ2 := by
 obtain ⟨ex, rfl, pf, oB, iC, _, du⟩ := qF tq h1
 obtain ⟨ey, rfl, dv, iD, _, fF, dw⟩ := qF sP h2
 have lL : ∀ t j v os, ey ≠ .drop t j v os := by
  intro t j v os h
  have := (iD t j v os h).1
  rw [tL] at this; cases this
 have fN : Sub P (zA ops y) (ex.ap dx σ) σ := by
  refine ⟨Kb ex, fun z hz ty => look_eq (fun t ht => RV ex ht) (rf z hz) ty, fun z hz ty u hr j hn => ?_⟩
  refine ED pf (fun sD hu => ?_) hn
  subst hu
  rw [look_eq (fun t ht => RV ex ht) (rf z hz) ty, KO (xg pf sD) (rf z hz)] at hr
  cases hr
 have nn : ey.ok dy σ := by
  cases ey with
  | put v => trivial
  | drop a j v os => exact absurd rfl (lL a j v os)
  | new v os =>
   have hf := X0.1 dv
   refine X0.2 ⟨by rw [<- Kb ex (d := dx)]; exact hf.1, fun t e he ht => ?_⟩
   by_cases mF : t = dx
   ·subst mF; exact Rb uk he dy
   ·cases ex with
    | put v' => exact hf.2 t e (by simp only [Eff.ap, xa, if_neg mF]; exact he) ht
    | new v' nX => exact hf.2 t e (by simp only [Eff.ap, K6, if_neg mF]; exact he) ht
    | drop a j v' nX =>
     obtain ⟨⟨q, s, r, ho⟩, _⟩ := pf
     by_cases oR : t = a
     ·subst oR
      have := hf.2 t (e.1, e.2.set j .none) (by simp only [Eff.ap, K6, if_neg mF, QA, if_true, he, Option.map_some]) ht
      rw [N3 he] at ho
      rw [zh ho] at this
      exact this
     ·exact hf.2 t e (by simp only [Eff.ap, K6, if_neg mF, QA, if_neg oR]; exact he) ht
 have iE := dw σ fN nn
 have iF : Sub P (zA ops x) σ (ey.ap dy σ) := by
  refine ⟨(Kb ey).symm, fun z hz ty => (look_eq (fun t ht => RV ey ht) (oP z hz) ty).symm, fun z hz ty u hr j hn => ?_⟩
  refine S0 lL (fun sD hu => ?_)
  subst hu
  rw [KO (xg nn sD) (oP z hz)] at hr
  cases hr
 have fO : (∀ v, ex ≠ .put v) -> ey.ref dx = false := by
  intro sD
  have hg : y.guard = none := by
   rcases hG with h | h
   ·exact h
   ·obtain ⟨v, hv⟩ := iC h; exact absurd hv (sD v)
  cases hr : ey.ref dx with
  | false => rfl
  | true =>
   obtain ⟨z, hz, ty, tA⟩ := fF hg dx uD hr
   have hl : look P (ex.ap dx σ) ty z = look P σ ty z := look_eq (fun t ht => RV ex ht) (rf z hz) ty
   rw [hl] at tA
   rcases tA with tA | ⟨t', cells, hZ, ho, hc⟩
   ·rw [KO (xg pf sD) (rf z hz)] at tA; cases tA
   ·have mF : t' ≠ dx := by
     intro h; subst h
     rw [KO (xg pf sD) (rf z hz)] at hZ; cases hZ
    have uV : σ.ob t' 0 = .box cells := by rw [ED pf (fun _ => mF) (by rw [ho]; simp), ho]
    obtain ⟨en, fG, fH⟩ := Vo uV (by simp)
    have := T3 pf sD t' en fG mF
    rw [Tw fH hc] at this; cases this
 have entries : (∀ v, ex ≠ .put v) -> ∀ t e, (ey.ap dy σ)[t]? = some e -> t ≠ dx -> e.1.ref dx = false /\ Yh dx e.2 = false := by
  intro sD t e he ht
  have hy := fO sD
  by_cases sT : t = dy
  ·subst sT
   cases ey with
   | put v =>
    simp only [Eff.ap, xa, if_true, Option.map_eq_some_iff] at he
    obtain ⟨e0, ry, rfl⟩ := he
    exact ⟨hy, T3 pf sD t e0 ry ht⟩
   | new v os =>
    simp only [Eff.ap, K6, if_true, Option.map_eq_some_iff] at he
    obtain ⟨e0, ry, rfl⟩ := he
    simp only [Eff.ref, Bool.or_eq_false_iff] at hy
    exact hy
   | drop a j v os => exact absurd rfl (lL a j v os)
  ·obtain ⟨e0, ry, h1, h2⟩ := Ci nn sT he
   rw [<- h1, <- h2]
   exact ⟨xg pf sD t e0 ry ht, T3 pf sD t e0 ry ht⟩
 have fP : ex.ok dx (ey.ap dy σ) := by
  cases ex with
  | put v => trivial
  | new v os =>
   have sD : ∀ v', Eff.new v os ≠ .put v' := by intro v' h; cases h
   exact X0.2 ⟨by rw [Kb]; exact Bv pf sD, entries sD⟩
  | drop a j v os =>
   have sD : ∀ v', Eff.drop a j v os ≠ .put v' := by intro v' h; cases h
   obtain ⟨z, hz, ty, hr⟩ := (oB a j v os rfl).2
   obtain ⟨q, s, r, ho⟩ := pf.1
   have uV : (ey.ap dy σ).ob a j = .arr q s r := by rw [<- ho]; exact iF.ob z hz ty a hr j (by rw [ho]; simp)
   refine ⟨⟨q, s, r, uV⟩, X0.2 ⟨by rw [St.Y3, Kb]; exact Bv pf sD, fun t e he ht => ?_⟩⟩
   rw [QA] at he
   split at he
   ·rename_i oR
    subst oR
    obtain ⟨e0, ry, tK⟩ := Vo uV (by simp)
    rw [ry] at he; simp at he; subst he
    have := entries sD t e0 ry ht
    exact ⟨this.1, by rw [zh tK]; exact this.2⟩
   ·exact entries sD t e he ht
 refine ⟨_, iE, ?_⟩
 have := du _ iF fP
 have heq : ex.ap dx (ey.ap dy σ) = ey.ap dy (ex.ap dx σ) := by
  apply List.ext_getElem?
  intro t
  have eR := uD
  cases ex with
  | put v =>
   cases ey with
   | put v' => simp only [Eff.ap, xa]; by_cases h1 : t = dx <;> by_cases h2 : t = dy <;> simp_all
   | new v' nX => simp only [Eff.ap, xa, K6]; by_cases h1 : t = dx <;> by_cases h2 : t = dy <;> simp_all
   | drop a j v' nX => exact absurd rfl (lL a j v' nX)
  | new v os =>
   cases ey with
   | put v' => simp only [Eff.ap, xa, K6]; by_cases h1 : t = dx <;> by_cases h2 : t = dy <;> simp_all
   | new v' nX => simp only [Eff.ap, K6]; by_cases h1 : t = dx <;> by_cases h2 : t = dy <;> simp_all
   | drop a j v' nX => exact absurd rfl (lL a j v' nX)
  | drop a j v os =>
   obtain ⟨z, hz, ty, hr⟩ := (oB a j v os rfl).2
   cases ey with
   | put v' =>
    simp only [Eff.ap, xa, K6, QA]
    by_cases h1 : t = dx <;> by_cases h2 : t = dy <;> by_cases h3 : t = a <;> simp_all
    all_goals (first | (cases σ[dy]? <;> rfl) | (cases σ[t]? <;> rfl) | (cases σ[a]? <;> rfl))
   | new v' nX =>
    have bP : a ≠ dy := by
     intro h; subst h
     rw [KO (xg nn (by intro v h; cases h)) (oP z hz)] at hr; cases hr
    simp only [Eff.ap, K6, QA]
    by_cases h1 : t = dx <;> by_cases h2 : t = dy <;> by_cases h3 : t = a <;> simp_all
   | drop a' j' v' nX => exact absurd rfl (lL a' j' v' nX)
 rw [<- heq]
 exact this
end
end Go.Vm
namespace Go.Vm
open Go.RowKit
def Hu (ops : Array Oper) (bar : Oper -> Bool) (x y : Oper) : Bool := !bar x && !bar y &&
 (match x.dst, y.dst with
 | some dx, some dy => dx != dy && !(zA ops y).any (zH dx) && !(zA ops x).any (zH dy) && !kH y && (y.guard.isNone || KH x || x.guard.isSome)
 | _, _ => false)
def Gy (bar : Oper -> Bool) (x y : Oper) : Bool := !bar x && !bar y && x.guard.isNone && y.guard.isNone &&
 (match x.dst, y.dst, y.op with
 | some dx, none, .store _ p q => (match x.op with | .move _ => true | .assign _ => true | .extract _ _ => true | _ => false) && !zH dx p && !zH dx q
 | _, _, _ => false)
def HN (bar : Oper -> Bool) (x y : Oper) : Bool := !bar x && bar y && x.guard.isNone && WC y && y.guard.isNone && y.dst.isNone &&
 (match x.dst with
 | some dx => (match x.op with | .move _ => true | .assign _ => true | .extract _ _ => true | _ => false) && jM y dx
 | none => false)
def U9 (PT : List (Nat × Nat)) (σ : St) : Prop := ∀ p ∈ PT, σ.get p.1 = .any \/ ∃ c, unc (σ.get p.1) = .one (.bptr p.2 c)
def ptB (PT : List (Nat × Nat)) (σ : St) : Bool := PT.all fun p => match σ.get p.1 with | .any => true | v => (match unc v with | .one (.bptr b _) => b == p.2 | _ => false)
def Sp (ops : Array Oper) (PT : List (Nat × Nat)) : Bool := ops.toList.all fun o => match o.dst with
 | none => true
 | some d => PT.all fun p => p.1 != d || (o.guard.isNone && (match o.op with | .fieldAddr _ (.tmp r) _ => PT.contains (r, p.2) | .move (.tmp r) => PT.contains (r, p.2) | _ => false))
def V7 (PT : List (Nat × Nat)) (b : Nat) : Op -> Bool
 | .load _ (.tmp t) => PT.any fun r => r.1 == t && r.2 != b
 | .fieldAddr _ _ _ => true
 | .move _ => true
 | .assign _ => true
 | .extract _ _ => true
 | .binOp _ _ _ _ _ => true
 | .call ⟨.builtin .len, ⟨[_]⟩, ⟨[_]⟩⟩ => true
 | _ => false
def swapT (PT : List (Nat × Nat)) (bar : Oper -> Bool) (x y : Oper) : Bool := !bar x && !bar y && x.guard.isNone && y.guard.isNone &&
 (match x.dst, y.dst, y.op with
 | some dx, none, .store _ (.tmp tp) q => tp != dx && !zH dx q && PT.any fun p => p.1 == tp && V7 PT p.2 x.op
 | _, _, _ => false)
def Nm (NB : List Nat) (σ : St) : Prop := ∀ t ∈ NB, ∀ b c, unc (σ.get t) ≠ .one (.bptr b c)
def nbB (NB : List Nat) (σ : St) : Bool := NB.all fun t => match unc (σ.get t) with | .one (.bptr _ _) => false | _ => true
def NV (P : Program) (ops : Array Oper) (NB : List Nat) : Bool := ops.toList.all fun o => match o.dst with
 | none => true
 | some d => NB.all fun t => t != d || (o.guard.isNone && (match o.op with | .indexAddr T _ _ => Yq P T | _ => false))
def Mg (PT : List (Nat × Nat)) (NB : List Nat) (σ : St) : Prop := U9 PT σ /\ Nm NB σ
def Ht (PT : List (Nat × Nat)) (NB : List Nat) (bar : Oper -> Bool) (x y : Oper) : Bool := !bar x && bar y && x.guard.isNone && WC y && y.guard.isNone && y.dst.isNone &&
 (match x.dst, y.op with
 | some dx, .store _ (.tmp tp) q => NB.contains tp && tp != dx && !zH dx q && (match x.op with | .load _ (.tmp t) => PT.any fun r => r.1 == t | .fieldAddr _ (.tmp t) _ => PT.any fun r => r.1 == t | _ => false)
 | _, _ => false)
def F3 (PT : List (Nat × Nat)) : Op -> Bool
 | .move _ => true
 | .load _ (.tmp t) => PT.any fun r => r.1 == t
 | .fieldAddr _ (.tmp _) _ => true
 | .slice _ (.tmp _) _ _ none => true
 | _ => false
def HW (PT : List (Nat × Nat)) (ops : Array Oper) (bar : Oper -> Bool) (x y : Oper) : Bool := bar x && !bar y && je x && x.guard.isNone && y.guard.isNone && F3 PT y.op &&
 (match x.dst, y.dst with
 | some dx, some dy => dx != dy && !(zA ops y).any (zH dx) && !(zA ops x).any (zH dy)
 | _, _ => false)
def IF (PT : List (Nat × Nat)) (o : Oper) : Option Nat := match o.op with | .call ⟨.value (.func _), ⟨.tmp z :: _⟩, _⟩ => (PT.find? (fun p => p.1 == z)).map (·.2) | _ => none
def Ap : Operand -> Bool
 | .const _ => true
 | _ => false
def R8 (PT : List (Nat × Nat)) (y x : Oper) : Bool := (x.op.operands.toList.all Ap && !kH x) || (match IF PT y with | some b => V7 PT b x.op | none => false)
def Hw (P : Program) (PT : List (Nat × Nat)) (ops : Array Oper) (bar : Oper -> Bool) (x y : Oper) : Bool := x.guard.isNone && y.guard.isNone && TX bar x && TX bar y && (match x.dst, y.dst with
 | some dx, some dy => dx != dy && !(zA ops y).any (zH dx) && !(zA ops x).any (zH dy) && ((!bar x && bar y && Jp P y && R8 PT y x) || (bar x && Jp P x && !bar y && R8 PT x y))
 | _, _ => false)
def SM (o : Oper) (j : Nat) : Bool := o.after.any fun e => e.on == j && Region.binds .any e
def TV : List Oper -> List Nat -> List Nat
 | [], acc => acc
 | o :: rest, acc => TV rest (acc ++ [o.after.toList.foldl (fun m e => if Region.binds .any e then m ||| (1 <<< e.on) ||| acc.getD e.on 0 else m) 0])
def EC (ms : List Nat) (i j : Nat) : Bool := (ms.getD i 0).testBit j
inductive Pre (ops : Array Oper) : Nat -> Nat -> Prop
 | one {i j : Nat} {o : Oper} (ho : ops[i]? = some o) (hp : SM o j = true) : Pre ops i j
 | more {i m j : Nat} {o : Oper} (ho : ops[i]? = some o) (hp : SM o m = true) (h : Pre ops m j) : Pre ops i j
theorem IA {ops : Array Oper} : ∀ {l : List Oper} {acc : List Nat}, (∀ k o, l[k]? = some o -> ops[acc.length + k]? = some o) -> (∀ i j, (acc.getD i 0).testBit j = true -> Pre ops i j) -> ∀ i j, EC (TV l acc) i j = true -> Pre ops i j
 | [], acc, _, ha, i, j, h => ha i j h
 | o :: rest, acc, hl, ha, i, j, h => by
  refine IA (l := rest) (fun k o' hk => ?_) (fun i j oQ => ?_) i j h
  ·have := hl (k + 1) o' (by simpa using hk)
   rw [List.length_append, List.length_singleton, Nat.add_assoc, Nat.add_comm 1 k]; exact this
  ·rw [List.getD_eq_getElem?_getD] at oQ
   rcases Nat.lt_trichotomy i acc.length with uL | heq | nh
   ·rw [List.getElem?_append_left uL, <- List.getD_eq_getElem?_getD] at oQ
    exact ha i j oQ
   ·subst heq
    rw [List.getElem?_append_right (Nat.le_refl _)] at oQ
    simp only [Nat.sub_self, List.getElem?_cons_zero, Option.getD_some] at oQ
    have ho := hl 0 o (by simp)
    rw [Nat.add_zero] at ho
    have key : ∀ (es : List Edge) (m : Nat), (∀ e ∈ es, e ∈ o.after) -> (∀ j, m.testBit j = true -> Pre ops acc.length j) -> ∀ j, (es.foldl (fun m e => if Region.binds .any e then m ||| (1 <<< e.on) ||| acc.getD e.on 0 else m) m).testBit j = true -> Pre ops acc.length j := by
     intro es
     induction es with
     | nil => intro m _ hm j hj; exact hm j hj
     | cons e es ih =>
      intro m eN hm j hj
      refine ih _ (fun e' l6 => eN e' (by simp [l6])) (fun j hj => ?_) j hj
      by_cases hb : Region.binds .any e = true
      ·simp only [hb, if_true] at hj
       have hp : SM o e.on = true := by
        unfold SM
        rw [<- Array.any_toList]
        exact List.any_eq_true.2 ⟨e, by simpa using eN e (by simp), by simp [hb]⟩
       rw [Nat.testBit_or, Nat.testBit_or, Bool.or_eq_true, Bool.or_eq_true] at hj
       rcases hj with (hj | hj) | hj
       ·exact hm j hj
       ·rw [Nat.testBit_shiftLeft] at hj
        simp only [Bool.and_eq_true, decide_eq_true_eq] at hj
        have h1 : j - e.on = 0 := by
         have := hj.2
         rw [show (1 : Nat) = 2 ^ 0 from rfl, Nat.testBit_two_pow] at this
         have h3 : 0 = j - e.on := by simpa using this
         omega
        have : j = e.on := by omega
        subst this
        exact .one ho hp
       ·exact .more ho hp (ha e.on j hj)
      ·simp only [hb, Bool.false_eq_true, if_false] at hj; exact hm j hj
    exact key o.after.toList 0 (fun e he => by simpa using he) (fun j hj => by simp at hj) j oQ
   ·rw [List.getElem?_eq_none (by simp; omega)] at oQ
    simp at oQ
def GO (ops : Array Oper) (i j : Nat) : Bool := EC (TV ops.toList []) i j
theorem E2 {ops : Array Oper} {i j : Nat} (h : GO ops i j = true) : Pre ops i j :=
 IA (l := ops.toList) (acc := []) (fun k o hk => by simpa using hk) (fun i j h => by simp at h) i j h
def Bt (P : Program) (ops : Array Oper) (bar : Oper -> Bool) (PT : List (Nat × Nat)) (NB : List Nat) (ms : List Nat) (i j : Nat) : Bool := match ops[i]?, ops[j]? with | some oi, some oj => EC ms i j || Hu ops bar oj oi || Gy bar oj oi || swapT PT bar oj oi || HN bar oj oi || HW PT ops bar oj oi || Ht PT NB bar oj oi || Hw P PT ops bar oj oi | _, _ => false
def AB (ops : Array Oper) (pos : Nat -> Nat) (i : Nat) : Bool := match ops[i]? with | some o => o.after.all fun e => !Region.binds .any e || (decide (pos e.on < pos i) && decide (e.on < ops.size)) | none => false
def F6 (ops : Array Oper) (j : Nat) : Bool := match ops[j]? with
 | some o => (match o.dst with | some d => (List.range ops.size).all fun k => k == j || (match ops[k]? with | some q => q.dst != some d | none => true) | none => false)
 | none => false
def Ir (ops : Array Oper) (pos : Nat -> Nat) (ms : List Nat) (j : Nat) : Bool := (List.range ops.size).any fun i => decide (pos j < pos i) && !EC ms i j
def Vp (ops : Array Oper) (pos : Nat -> Nat) (j : Nat) : Bool := Ir ops pos (TV ops.toList []) j
def Gu (P : Program) (ops : Array Oper) (pos : Nat -> Nat) (bar : Oper -> Bool) (PT : List (Nat × Nat)) (NB : List Nat) (ms : List Nat) : Bool :=
 (List.range ops.size).all fun i => AB ops pos i && ((List.range ops.size).all fun j => !decide (pos j < pos i) || Bt P ops bar PT NB ms i j) && (!Ir ops pos ms i || F6 ops i)
def Sb (P : Program) (ops : Array Oper) (pos : Nat -> Nat) (bar : Oper -> Bool) : Bool := Gu P ops pos bar [] [] (TV ops.toList [])
def zC (ops : Array Oper) (pos : Nat -> Nat) (σ : St) : Bool :=
 let ms := TV ops.toList []
 (List.range ops.size).all fun j => !Ir ops pos ms j || (match (ops[j]?).bind (·.dst) with | some d => Xb σ d | none => false)
theorem jd {xs : List Operand} {d : Nat} (h : xs.any (zH d) = false) : ∀ z ∈ xs, z ≠ .tmp d := by
 intro z hz he
 subst he
 have := List.any_eq_false.1 h _ hz
 simp [zH] at this
theorem Fz {ops : Array Oper} {bar : Oper -> Bool} {x y : Oper} (h : Hu ops bar x y = true) : bar x = false /\ bar y = false /\ ∃ dx dy, x.dst = some dx /\ y.dst = some dy /\ dx ≠ dy /\ (∀ z ∈ zA ops y, z ≠ .tmp dx) /\ (∀ z ∈ zA ops x, z ≠ .tmp dy) /\ kH y = false /\ (y.guard = none \/ KH x = true \/ x.guard.isSome = true) := by
 unfold Hu at h
 rw [Bool.and_eq_true, Bool.and_eq_true] at h
 obtain ⟨⟨tW, u4⟩, h⟩ := h
 refine ⟨by simpa using tW, by simpa using u4, ?_⟩
 split at h
 ·rename_i dx dy h1 h2
  simp only [Bool.and_eq_true, bne_iff_ne, ne_eq, Bool.not_eq_true', Bool.or_eq_true, Option.isNone_iff_eq_none] at h
  exact ⟨dx, dy, h1, h2, h.1.1.1.1, jd h.1.1.1.2, jd h.1.1.2, h.1.2, or_assoc.1 h.2⟩
 ·cases h
theorem KN {P : Program} {σ : St} {t j : Nat} {o : Ob} {T : TypeId} {x : Operand} : look P (σ.Zs t j o) T x = look P σ T x := by
 cases x with
 | tmp u => simp [look, St.Xl]
 | const c => rfl
 | global g => rfl
 | func f => rfl
theorem Up {σ : St} {d : Nat} {v : V} : ∀ (xs : List At), rowOf (σ.put d v) xs = rowOf σ xs
 | [] => rfl
 | x :: xs => by
  have : Kc (σ.put d v) x = Kc σ x := by cases x <;> simp [Kc, St.QF]
  simp only [rowOf, this, Up xs]
theorem Bi {P : Program} {ops : Array Oper} {bar : Oper -> Bool} {x y : Oper} {σ σ1 σ2 : St} (h : Gy bar x y = true) (u9 : Jo P ops bar x σ σ1) (uK : Jo P ops bar y σ1 σ2) : ∃ σ1', Yz P ops y σ σ1' /\ Yz P ops x σ1' σ2 := by
 unfold Gy at h
 simp only [Bool.and_eq_true, Bool.not_eq_true', Option.isNone_iff_eq_none] at h
 obtain ⟨⟨⟨⟨tW, u4⟩, px⟩, su⟩, h⟩ := h
 have u9 := u9.resolve_right (fun hh => by rw [tW] at hh; cases hh.1)
 have uK := uK.resolve_right (fun hh => by rw [u4] at hh; cases hh.1)
 split at h
 ·rename_i dx T p q tq sP uA
  simp only [Bool.and_eq_true, Bool.not_eq_true'] at h
  obtain ⟨⟨hv, hp⟩, hq⟩ := h
  unfold Yz at u9 uK
  simp only [px, tq] at u9
  simp only [su, sP, uA] at uK
  have e1 : ∃ v, YJ P σ x.op x.type v /\ σ1 = σ.put dx v := by
   unfold Step at u9
   cases hx : x.op <;> rw [hx] at u9 hv <;> first | exact u9 | (exact Bool.noConfusion hv)
  obtain ⟨v, sU, rfl⟩ := e1
  have tN : ∀ (t j : Nat) (o : Ob), YJ P (σ.Zs t j o) x.op x.type v := by
   intro t j o
   cases hx : x.op <;> rw [hx] at hv sU <;> first | (exact Bool.noConfusion hv) | (simp only [YJ, KN] at sU ⊢; exact sU)
  have iG : ∀ (t j : Nat) (o : Ob), Yz P ops x (σ.Zs t j o) ((σ.put dx v).Zs t j o) := by
   intro t j o
   unfold Yz
   simp only [px, tq]
   have := tN t j o
   rw [zN]
   unfold Step
   cases hx : x.op <;> rw [hx] at hv this <;> first | exact ⟨v, this, rfl⟩ | (exact Bool.noConfusion hv)
  unfold zi at uK
  rw [Y7 hp, Y7 hq] at uK
  obtain ⟨k1, k2, k3, k4, uK⟩ := uK
  split at uK
  ·rename_i t c hl
   obtain ⟨cells, c1, c2, c3, rfl⟩ := uK
   rw [St.QF] at c1
   refine ⟨_, ?_, iG _ _ _⟩
   unfold Yz zi
   simp only [su, sP, uA]
   refine ⟨k1, k2, k3, k4, ?_⟩
   rw [hl]
   exact ⟨cells, c1, c2, c3, rfl⟩
  ·rename_i t j i c hl
   obtain ⟨q', size, rows, ds, c1, c2, c3, c4, c5, c6, c7, rfl⟩ := uK
   rw [St.QF] at c1
   rw [Up] at c3
   refine ⟨_, ?_, iG _ _ _⟩
   unfold Yz zi
   simp only [su, sP, uA]
   refine ⟨k1, k2, k3, k4, ?_⟩
   rw [hl]
   exact ⟨q', size, rows, ds, c1, c2, c3, c4, c5, c6, c7, rfl⟩
  ·exact uK.elim
 ·cases h
theorem zk {P : Program} {σ : St} {T : TypeId} {t : Nat} : look P σ T (.tmp t) = σ.get t := rfl
theorem Uu {P : Program} {PT : List (Nat × Nat)} {b : Nat} {o : Oper} {op : Op} {d : Nat} {σ σ' : St} (ho : o.op = op) (h : V7 PT b op = true) : Step P o d σ σ' ↔ ∃ v, YJ P σ op o.type v /\ σ' = σ.put d v := by
 unfold Step
 rw [ho]
 unfold V7 at h
 split at h <;> first | exact Iff.rfl | (exact Bool.noConfusion h)
theorem FP {P : Program} {PT : List (Nat × Nat)} {b : Nat} {op : Op} {ty : TypeId} {v : V} {σ : St} {cells cs : List At} (h : V7 PT b op = true) (hp : U9 PT σ) (c1 : σ.ob b 0 = .box cells) (hv : YJ P σ op ty v) : YJ P (σ.Zs b 0 (.box cs)) op ty v := by
 have uD : σ.ob b 0 ≠ .none := by rw [c1]; intro e; cases e
 have ho := fun u i => St.Xj σ b 0 (.box cs) u i uD
 have tX : ∀ t j, (∃ q size rows, σ.ob t j = .arr q size rows) -> ∃ q size rows, (σ.Zs b 0 (.box cs)).ob t j = .arr q size rows := by
  rintro t j ⟨q, size, rows, e⟩
  by_cases hh : t = b /\ j = 0
  ·obtain ⟨rfl, rfl⟩ := hh; rw [c1] at e; cases e
  ·exact ⟨q, size, rows, by rw [ho, if_neg hh]; exact e⟩
 have o5 : ∀ t j, (∃ size rows, σ.ob t j = .lit size rows) -> ∃ size rows, (σ.Zs b 0 (.box cs)).ob t j = .lit size rows := by
  rintro t j ⟨size, rows, e⟩
  by_cases hh : t = b /\ j = 0
  ·obtain ⟨rfl, rfl⟩ := hh; rw [c1] at e; cases e
  ·exact ⟨size, rows, by rw [ho, if_neg hh]; exact e⟩
 have nm : ∀ t, (∃ cells, σ.ob t 0 = .box cells) -> ∃ cells, (σ.Zs b 0 (.box cs)).ob t 0 = .box cells := by
  rintro t ⟨ce, e⟩
  by_cases hh : t = b
  ·subst hh; exact ⟨cs, by rw [ho, if_pos ⟨rfl, rfl⟩]⟩
  ·exact ⟨ce, by rw [ho, if_neg (fun dk => hh dk.1)]; exact e⟩
 unfold V7 at h
 split at h
 ·rename_i T t
  simp only [List.any_eq_true, Bool.and_eq_true, beq_iff_eq, bne_iff_ne, ne_eq] at h
  obtain ⟨r, dz, rfl, gO⟩ := h
  simp only [YJ, KN] at hv ⊢
  refine ⟨hv.1, hv.2.1, ?_⟩
  have hv := hv.2.2
  rw [zk] at hv ⊢
  rcases hp r dz with e | ⟨c, e⟩
  ·rw [e] at hv; exact hv.elim
  ·rw [e] at hv ⊢
   obtain ⟨ce, e1, e2, e3⟩ := hv
   exact ⟨ce, by rw [ho, if_neg (fun hh => gO hh.1)]; exact e1, e2, e3⟩
 ·simp only [YJ, KN] at hv ⊢
  refine ⟨hv.1, hv.2.1, ?_⟩
  have hv := hv.2.2
  split at hv
  ·rename_i e; first | exact ⟨nm _ hv.1, hv.2⟩ | (simp only [e]; exact ⟨nm _ hv.1, hv.2⟩)
  ·rename_i e; first | exact ⟨tX _ _ hv.1, hv.2⟩ | (simp only [e]; exact ⟨tX _ _ hv.1, hv.2⟩)
  ·rename_i e; first | exact hv | (simp only [e]; exact hv)
  ·rename_i e
   have hq : ∀ t j, (∃ size rows, σ.ob t j = .arr true size rows) -> ∃ size rows, (σ.Zs b 0 (.box cs)).ob t j = .arr true size rows := by
    rintro t j ⟨size, rows, e⟩
    by_cases hh : t = b /\ j = 0
    ·obtain ⟨rfl, rfl⟩ := hh; rw [c1] at e; cases e
    ·exact ⟨size, rows, by rw [ho, if_neg hh]; exact e⟩
   first | exact ⟨hq _ _ hv.1, hv.2⟩ | (simp only [e]; exact ⟨hq _ _ hv.1, hv.2⟩)
  ·exact hv.elim
 ·simp only [YJ, KN] at hv ⊢; exact hv
 ·simp only [YJ, KN] at hv ⊢; exact hv
 ·simp only [YJ, KN] at hv ⊢; exact hv
 ·simp only [YJ, KN] at hv ⊢; exact hv
 ·simp only [YJ, KN] at hv ⊢
  refine ⟨hv.1, ?_⟩
  have hv := hv.2
  split at hv
  ·rename_i e; first | exact hv | (simp only [e]; exact hv)
  ·rename_i e; first | exact hv | (simp only [e]; exact hv)
  ·rename_i e; first | exact hv | (simp only [e]; exact hv)
  ·rename_i e; first | exact ⟨hv.1, hv.2.1.imp (tX _ _) (o5 _ _), hv.2.2⟩ | (simp only [e]; exact ⟨hv.1, hv.2.1.imp (tX _ _) (o5 _ _), hv.2.2⟩)
  ·rename_i u j i c e
   obtain ⟨g1, size, rows, n, s, g2, g3⟩ := hv
   have g4 : (σ.Zs b 0 (.box cs)).ob u j = .arr true size rows := by
    rw [ho]
    by_cases hh : u = b /\ j = 0
    ·obtain ⟨rfl, rfl⟩ := hh; rw [c1] at g2; cases g2
    ·rw [if_neg hh]; exact g2
   first | exact ⟨g1, size, rows, n, s, g4, g3⟩ | (simp only [e]; exact ⟨g1, size, rows, n, s, g4, g3⟩)
  ·exact hv.elim
 ·exact Bool.noConfusion h
theorem Ag {P : Program} {ops : Array Oper} {bar : Oper -> Bool} {PT : List (Nat × Nat)} {x y : Oper} {σ σ1 σ2 : St} (h : swapT PT bar x y = true) (hp : U9 PT σ) (u9 : Jo P ops bar x σ σ1) (uK : Jo P ops bar y σ1 σ2) : ∃ σ1', Yz P ops y σ σ1' /\ Yz P ops x σ1' σ2 := by
 unfold swapT at h
 simp only [Bool.and_eq_true, Bool.not_eq_true', Option.isNone_iff_eq_none] at h
 obtain ⟨⟨⟨⟨tW, u4⟩, px⟩, su⟩, h⟩ := h
 have u9 := u9.resolve_right (fun hh => by rw [tW] at hh; cases hh.1)
 have uK := uK.resolve_right (fun hh => by rw [u4] at hh; cases hh.1)
 split at h
 ·rename_i dx T tp q tq sP uA
  simp only [Bool.and_eq_true, Bool.not_eq_true', List.any_eq_true, beq_iff_eq, bne_iff_ne, ne_eq] at h
  obtain ⟨⟨uD, hq⟩, p, mq, sa, hv⟩ := h
  have uw : zH dx (.tmp tp) = false := by simp [zH, uD]
  unfold Yz at u9 uK
  simp only [px, tq] at u9
  simp only [su, sP, uA] at uK
  obtain ⟨v, sU, rfl⟩ := (Uu rfl hv).1 u9
  unfold zi at uK
  rw [Y7 uw, Y7 hq, zk] at uK
  obtain ⟨k1, k2, k3, k4, uK⟩ := uK
  have sW := hp p mq
  rw [sa] at sW
  rcases sW with sW | ⟨c, sW⟩
  ·rw [sW] at uK; exact uK.elim
  ·rw [sW] at uK
   obtain ⟨cells, c1, c2, c3, rfl⟩ := uK
   rw [St.QF] at c1
   refine ⟨σ.Zs p.2 0 (.box (place cells c (unc (look P σ T q)).cells)), ?_, ?_⟩
   ·unfold Yz zi
    simp only [su, sP, uA]
    refine ⟨k1, by rw [zk]; exact k2, k3, k4, ?_⟩
    rw [zk, sW]
    exact ⟨cells, c1, c2, c3, rfl⟩
   ·unfold Yz
    simp only [px, tq]
    rw [zN]
    exact (Uu rfl hv).2 ⟨v, FP hv hp c1 sU, rfl⟩
 ·cases h
theorem xh : ∀ (σ : St) (d : Nat), σ.put d (σ.get d) = σ
 | [], _ => rfl
 | e :: σ, 0 => by simp [St.put, St.get]
 | e :: σ, d + 1 => by have := xh σ d; simp only [St.put, St.get, List.getElem?_cons_succ] at this ⊢; rw [this]
theorem RD : ∀ (σ : St) (d : Nat) (v v' : V), (σ.put d v).put d v' = σ.put d v'
 | [], _, _, _ => rfl
 | e :: σ, 0, _, _ => rfl
 | e :: σ, d + 1, v, v' => by simp [St.put, RD σ d v v']
theorem Nz {P : Program} {σ σ' : St} (h : ∀ u, σ'.get u = σ.get u) {T : TypeId} {x : Operand} : look P σ' T x = look P σ T x := by
 cases x with
 | tmp u => exact h u
 | const c => rfl
 | global g => rfl
 | func f => rfl
theorem AU {P : Program} {ops : Array Oper} {bar : Oper -> Bool} {x y : Oper} {σ σ1 σ2 : St} {d : Nat} (h : HN bar x y = true) (tq : x.dst = some d) (uk : Xb σ d = true) (u9 : Jo P ops bar x σ σ1) (uK : Jo P ops bar y σ1 σ2) : ∃ σ1', Jo P ops bar y σ σ1' /\ Yz P ops x σ1' σ2 := by
 unfold HN at h
 simp only [tq, Bool.and_eq_true, Bool.not_eq_true', Option.isNone_iff_eq_none] at h
 obtain ⟨⟨⟨⟨⟨⟨tW, u4⟩, px⟩, uf⟩, su⟩, sP⟩, hv, hu⟩ := h
 have u9 := u9.resolve_right (fun hh => by rw [tW] at hh; cases hh.1)
 unfold Yz at u9
 simp only [px, tq] at u9
 have e1 : ∃ v, YJ P σ x.op x.type v /\ σ1 = σ.put d v := by
  unfold Step at u9
  cases hx : x.op <;> rw [hx] at u9 hv <;> first | exact u9 | (exact Bool.noConfusion hv)
 obtain ⟨v, sU, rfl⟩ := e1
 have back : ∀ σ', (∀ u, σ'.get u = σ.get u) -> Yz P ops x σ' (σ'.put d v) := by
  intro σ' hg
  unfold Yz
  simp only [px, tq]
  have : YJ P σ' x.op x.type v := by
   cases hx : x.op <;> rw [hx] at hv sU <;> first | (exact Bool.noConfusion hv) | (simp only [YJ, Nz hg] at sU ⊢; exact sU)
  unfold Step
  cases hx : x.op <;> rw [hx] at hv this <;> first | exact ⟨v, this, rfl⟩ | (exact Bool.noConfusion hv)
 rcases uK with uK | ⟨_, _, _, hk, _⟩
 · -- a plain store
  unfold WC at uf
  split at uf
  ·rename_i T p q uA
   simp only [jM, uA, Bool.and_eq_true, Bool.not_eq_true'] at hu
   unfold Yz at uK
   simp only [su, sP, uA] at uK
   unfold zi at uK
   rw [Y7 hu.1, Y7 hu.2] at uK
   obtain ⟨k1, k2, k3, k4, uK⟩ := uK
   split at uK
   ·rename_i t c hl
    obtain ⟨cells, c1, c2, c3, rfl⟩ := uK
    rw [St.QF] at c1
    refine ⟨σ.Zs t 0 (.box (place cells c (unc (look P σ T q)).cells)), .inl ?_, ?_⟩
    ·unfold Yz zi
     simp only [su, sP, uA]
     refine ⟨k1, k2, k3, k4, ?_⟩
     rw [hl]
     exact ⟨cells, c1, c2, c3, rfl⟩
    ·rw [zN]; exact back _ (fun u => St.Xl _ _ _ _ _)
   ·rename_i t j i c hl
    obtain ⟨q', size, rows, ds, c1, c2, c3, c4, c5, c6, c7, rfl⟩ := uK
    rw [St.QF] at c1
    rw [Up] at c3
    refine ⟨σ.Zs t j (.arr q' size (rows.set i (place (rows.getD i []) c ds))), .inl ?_, ?_⟩
    ·unfold Yz zi
     simp only [su, sP, uA]
     refine ⟨k1, k2, k3, k4, ?_⟩
     rw [hl]
     exact ⟨q', size, rows, ds, c1, c2, c3, c4, c5, c6, c7, rfl⟩
    ·rw [zN]; exact back _ (fun u => St.Xl _ _ _ _ _)
   ·exact uK.elim
  ·cases uf
 ·obtain ⟨⟨sI, tO⟩, tC, nm⟩ := hk uf
  rw [St.QH] at sI
  have pj : RL (σ.get d) = true := by
   rw [yG] at uk
   unfold St.get
   rcases uk with e | ⟨x', e⟩ <;> rw [e] <;> rfl
  have hq : ∀ l : List (Nat × V), (σ.put d v).QO ((d, σ.get d) :: l) = σ.QO l := fun l => by rw [St.QO, RD, xh]
  have h0 := tC [(d, σ.get d)] (fun p hp => by cases List.mem_singleton.1 hp; exact ⟨hu, pj⟩)
  rw [hq []] at h0
  have hlen : d < σ.length := by
   rw [yG] at uk
   rcases uk with e | ⟨x', e⟩ <;> exact (List.getElem?_eq_some_iff.1 e).1
  have oZ : ∀ u, (σ2.put d (σ.get d)).get u = σ.get u := fun u => by
   rw [St.J2]
   by_cases nF : u = d /\ d < σ2.length
   ·rw [if_pos nF, nF.1]
   ·rw [if_neg nF, tO, St.J2]
    have mv : ¬ u = d := fun e => nF ⟨e, by rw [sI]; exact hlen⟩
    rw [if_neg (fun hh => mv hh.1)]
  refine ⟨σ2.put d (σ.get d), .inr ⟨u4, h0.1, h0.2, fun _ => ⟨⟨by rw [St.QH]; exact sI, oZ⟩, fun l hl => ?_, fun t cells hb => by rw [St.QF]; exact nm t cells (by rw [St.QF]; exact hb)⟩, fun hh => (by rw [HC uf] at hh; cases hh), fun hh _ => (by rw [H5 uf] at hh; cases hh)⟩, ?_⟩
  ·have := tC ((d, σ.get d) :: l) (fun p hp => by
    rcases List.mem_cons.1 hp with rfl | hp
    ·exact ⟨hu, pj⟩
    ·exact hl p hp)
   rw [hq l] at this
   exact this
  ·have := back _ oZ
   rw [RD] at this
   have e : σ2.put d v = σ2 := by
    have g1 := tO d
    rw [St.J2, if_pos ⟨rfl, hlen⟩] at g1
    rw [<- g1]; exact xh σ2 d
   rw [e] at this
   exact this
theorem AS {P : Program} {ops : Array Oper} {bar : Oper -> Bool} {PT : List (Nat × Nat)} {NB : List Nat} {x y : Oper} {σ σ1 σ2 : St} {d : Nat} (h : Ht PT NB bar x y = true) (hp : U9 PT σ) (g8 : Nm NB σ) (tq : x.dst = some d) (uk : Xb σ d = true) (u9 : Jo P ops bar x σ σ1) (uK : Jo P ops bar y σ1 σ2) : ∃ σ1', Jo P ops bar y σ σ1' /\ Yz P ops x σ1' σ2 := by
 unfold Ht at h
 simp only [tq, Bool.and_eq_true, Bool.not_eq_true', Option.isNone_iff_eq_none] at h
 obtain ⟨⟨⟨⟨⟨⟨tW, u4⟩, px⟩, uf⟩, su⟩, sP⟩, h⟩ := h
 have u9 := u9.resolve_right (fun hh => by rw [tW] at hh; cases hh.1)
 split at h
 ·rename_i dx T tp q fD uA
  cases fD
  simp only [Bool.and_eq_true, Bool.not_eq_true', bne_iff_ne, ne_eq, List.contains_iff_mem] at h
  obtain ⟨⟨⟨cA, uD⟩, hq⟩, hv⟩ := h
  have uw : zH d (.tmp tp) = false := by simp [zH, uD]
  have hu : jM y d = true := by simp only [jM, uA, uw, hq]; rfl
  unfold Yz at u9
  simp only [px, tq] at u9
  have e1 : ∃ v, YJ P σ x.op x.type v /\ σ1 = σ.put d v := by
   unfold Step at u9
   cases hx : x.op <;> rw [hx] at u9 hv <;> first | exact u9 | (exact Bool.noConfusion hv)
  obtain ⟨v, sU, rfl⟩ := e1
  have back : ∀ σ', (∀ u, σ'.get u = σ.get u) -> (∀ t cells, σ.ob t 0 = .box cells -> σ'.ob t 0 = .box cells) -> Yz P ops x σ' (σ'.put d v) := by
   intro σ' hg nm
   unfold Yz
   simp only [px, tq]
   have : YJ P σ' x.op x.type v := by
    cases hx : x.op <;> rw [hx] at hv sU <;> try exact Bool.noConfusion hv
    case load T' z =>
     cases z with
     | tmp t =>
      simp only [List.any_eq_true, beq_iff_eq] at hv
      obtain ⟨p, mq, sa⟩ := hv
      simp only [YJ, Nz hg] at sU ⊢
      refine ⟨sU.1, sU.2.1, ?_⟩
      have tN := sU.2.2
      have sW := hp p mq
      rw [sa] at sW
      rw [zk] at tN ⊢
      rcases sW with e | ⟨c, e⟩
      ·rw [e] at tN; exact tN.elim
      ·rw [e] at tN ⊢
       obtain ⟨ce, k1, k2⟩ := tN
       exact ⟨ce, nm _ _ k1, k2⟩
     | _ => exact Bool.noConfusion hv
    case fieldAddr T' z f =>
     cases z with
     | tmp t =>
      simp only [List.any_eq_true, beq_iff_eq] at hv
      obtain ⟨p, mq, sa⟩ := hv
      simp only [YJ, Nz hg] at sU ⊢
      refine ⟨sU.1, sU.2.1, ?_⟩
      have tN := sU.2.2
      have sW := hp p mq
      rw [sa] at sW
      rw [zk] at tN ⊢
      rcases sW with e | ⟨c, e⟩
      ·rw [e] at tN; exact tN.elim
      ·rw [e] at tN ⊢
       obtain ⟨⟨ce, k1⟩, k2⟩ := tN
       exact ⟨⟨ce, nm _ _ k1⟩, k2⟩
     | _ => exact Bool.noConfusion hv
   unfold Step
   cases hx : x.op <;> rw [hx] at hv this <;> first | exact ⟨v, this, rfl⟩ | (exact Bool.noConfusion hv)
  rcases uK with uK | ⟨_, _, _, hk, _⟩
  ·unfold Yz at uK
   simp only [su, sP, uA] at uK
   unfold zi at uK
   rw [Y7 uw, Y7 hq] at uK
   obtain ⟨k1, k2, k3, k4, uK⟩ := uK
   split at uK
   ·rename_i t c hl
    exact absurd hl (g8 tp cA t c)
   ·rename_i t j i c hl
    obtain ⟨q', size, rows, ds, c1, c2, c3, c4, c5, c6, c7, rfl⟩ := uK
    rw [St.QF] at c1
    rw [Up] at c3
    refine ⟨σ.Zs t j (.arr q' size (rows.set i (place (rows.getD i []) c ds))), .inl ?_, ?_⟩
    ·unfold Yz zi
     simp only [su, sP, uA]
     refine ⟨k1, k2, k3, k4, ?_⟩
     rw [hl]
     exact ⟨q', size, rows, ds, c1, c2, c3, c4, c5, c6, c7, rfl⟩
    ·rw [zN]
     refine back _ (fun u => St.Xl _ _ _ _ _) (fun b cells hb => ?_)
     have oq : σ.ob t j ≠ .none := by rw [c1]; simp
     rw [St.Xj σ t j _ b 0 oq]
     split
     ·rename_i hc; rw [hc.1, hc.2] at hb; rw [c1] at hb; cases hb
     ·exact hb
   ·exact uK.elim
  ·obtain ⟨⟨sI, tO⟩, tC, nm⟩ := hk uf
   rw [St.QH] at sI
   have pj : RL (σ.get d) = true := by
    rw [yG] at uk
    unfold St.get
    rcases uk with e | ⟨x', e⟩ <;> rw [e] <;> rfl
   have eS : ∀ l : List (Nat × V), (σ.put d v).QO ((d, σ.get d) :: l) = σ.QO l := fun l => by rw [St.QO, RD, xh]
   have h0 := tC [(d, σ.get d)] (fun p hp => by cases List.mem_singleton.1 hp; exact ⟨hu, pj⟩)
   rw [eS []] at h0
   have hlen : d < σ.length := by
    rw [yG] at uk
    rcases uk with e | ⟨x', e⟩ <;> exact (List.getElem?_eq_some_iff.1 e).1
   have oZ : ∀ u, (σ2.put d (σ.get d)).get u = σ.get u := fun u => by
    rw [St.J2]
    by_cases nF : u = d /\ d < σ2.length
    ·rw [if_pos nF, nF.1]
    ·rw [if_neg nF, tO, St.J2]
     have mv : ¬ u = d := fun e => nF ⟨e, by rw [sI]; exact hlen⟩
     rw [if_neg (fun hh => mv hh.1)]
   have iH : ∀ t cells, σ.ob t 0 = .box cells -> (σ2.put d (σ.get d)).ob t 0 = .box cells := fun t cells hb => by rw [St.QF]; exact nm t cells (by rw [St.QF]; exact hb)
   refine ⟨σ2.put d (σ.get d), .inr ⟨u4, h0.1, h0.2, fun _ => ⟨⟨by rw [St.QH]; exact sI, oZ⟩, fun l hl => ?_, iH⟩, fun hh => (by rw [HC uf] at hh; cases hh), fun hh _ => (by rw [H5 uf] at hh; cases hh)⟩, ?_⟩
   ·have := tC ((d, σ.get d) :: l) (fun p hp => by
     rcases List.mem_cons.1 hp with rfl | hp
     ·exact ⟨hu, pj⟩
     ·exact hl p hp)
    rw [eS l] at this
    exact this
   ·have := back _ oZ iH
    rw [RD] at this
    have e : σ2.put d v = σ2 := by
     have g1 := tO d
     rw [St.J2, if_pos ⟨rfl, hlen⟩] at g1
     rw [<- g1]; exact xh σ2 d
    rw [e] at this
    exact this
 ·cases h
theorem wm {P : Program} {PT : List (Nat × Nat)} {σ σ1 : St} {d : Nat} (tO : ∀ t, t ≠ d -> σ1.get t = σ.get t /\ (σ.get t).ref d = false) (sX : ∀ t j cells, t ≠ d -> σ1.ob t j = .box cells -> σ.ob t j = .box cells /\ YF d cells = false)
  (tX : ∀ t j q s rows, t ≠ d -> σ1.ob t j = .arr q s rows -> ∃ uQ, σ.ob t j = .arr q s uQ) (hp : U9 PT σ) {op : Op} {ty : TypeId} {v : V} (pe : F3 PT op = true) (rq : ∀ z ∈ op.operands.toList, z ≠ .tmp d) (hv : YJ P σ1 op ty v) : YJ P σ op ty v /\ v.ref d = false := by
 have hl : ∀ (z : Operand) (T : TypeId), z ≠ .tmp d -> look P σ1 T z = look P σ T z := by
  intro z T hz
  cases z with
  | tmp u => exact (tO u (fun e => hz (by rw [e]))).1
  | const c => rfl
  | global g => rfl
  | func f => rfl
 have hr : ∀ (z : Operand) (T : TypeId), z ≠ .tmp d -> (look P σ T z).ref d = false := by
  intro z T hz
  cases z with
  | tmp u => exact (tO u (fun e => hz (by rw [e]))).2
  | const c => exact Wh T c d
  | global g => rfl
  | func f => rfl
 have uD : ∀ (z : Operand) (T : TypeId) (x : At), z ≠ .tmp d -> unc (look P σ T z) = .one x -> x.ref d = false := by
  intro z T x hz hu
  cases hx : x.ref d with
  | false => rfl
  | true => have := Xi hu hx; rw [hr z T hz] at this; cases this
 refine ⟨?_, ?_⟩
 ·cases op <;> simp only [F3] at pe <;> try exact Bool.noConfusion pe
  case move x =>
   simp only [YJ] at hv ⊢
   rw [hv, hl x ty (rq x (by simp [Op.operands]))]
  case load T x =>
   cases x with
   | tmp t =>
    have ht : Operand.tmp t ≠ .tmp d := rq _ (by simp [Op.operands])
    simp only [List.any_eq_true, beq_iff_eq] at pe
    obtain ⟨p, mq, sa⟩ := pe
    simp only [YJ] at hv ⊢
    rw [hl _ 0 ht] at hv
    refine ⟨hv.1, hv.2.1, ?_⟩
    have tN := hv.2.2
    have sW := hp p mq
    rw [sa] at sW
    rw [zk] at tN ⊢
    rcases sW with e | ⟨c, e⟩
    ·rw [e] at tN; exact tN.elim
    ·rw [e] at tN ⊢
     obtain ⟨ce, e1, e2⟩ := tN
     have hb : p.2 ≠ d := by
      have := uD (.tmp t) 0 (.bptr p.2 c) ht (by rw [zk]; exact e)
      simpa [At.ref] using this
     exact ⟨ce, (sX _ _ _ hb e1).1, e2⟩
   | _ => exact Bool.noConfusion pe
  case fieldAddr T x f =>
   cases x with
   | tmp t =>
    have ht : Operand.tmp t ≠ .tmp d := rq _ (by simp [Op.operands])
    simp only [YJ] at hv ⊢
    rw [hl _ 0 ht] at hv
    refine ⟨hv.1, hv.2.1, ?_⟩
    have tN := hv.2.2
    split at tN
    ·rename_i t' c e
     have hb : t' ≠ d := by have := uD _ _ _ ht e; simpa [At.ref] using this
     obtain ⟨⟨ce, e1⟩, e2⟩ := tN
     first | exact ⟨⟨ce, (sX _ _ _ hb e1).1⟩, e2⟩ | (simp only [e]; exact ⟨⟨ce, (sX _ _ _ hb e1).1⟩, e2⟩)
    ·rename_i t' j i c e
     have hb : t' ≠ d := by have := uD _ _ _ ht e; simpa [At.ref] using this
     obtain ⟨⟨q, s, rows, e1⟩, e2⟩ := tN
     obtain ⟨uQ, e3⟩ := tX _ _ _ _ _ hb e1
     first | exact ⟨⟨q, s, uQ, e3⟩, e2⟩ | (simp only [e]; exact ⟨⟨q, s, uQ, e3⟩, e2⟩)
    ·rename_i rr c e; first | exact tN | (simp only [e]; exact tN)
    ·rename_i t' j i c k e
     have hb : t' ≠ d := by have := uD _ _ _ ht e; simpa [At.ref] using this
     obtain ⟨⟨s, rows, e1⟩, e2⟩ := tN
     obtain ⟨uQ, e3⟩ := tX _ _ _ _ _ hb e1
     first | exact ⟨⟨s, uQ, e3⟩, e2⟩ | (simp only [e]; exact ⟨⟨s, uQ, e3⟩, e2⟩)
    ·exact tN.elim
   | _ => exact Bool.noConfusion pe
  case slice T x lo hi mx =>
   cases x with
   | tmp t =>
    cases mx with
    | some m => exact Bool.noConfusion pe
    | none =>
     have ht : Operand.tmp t ≠ .tmp d := rq _ (by simp [Op.operands])
     have oe : ∀ (df n : Nat) (z : Option Operand), (∀ y, z = some y -> y ≠ .tmp d) -> bnd P σ1 df z n -> bnd P σ df z n := by
      intro df n z hz h
      cases z with
      | none => exact h
      | some z => simp only [bnd] at h ⊢; rw [hl z 0 (hz z rfl)] at h; exact h
     have rF : ∀ y, lo = some y -> y ≠ .tmp d := fun y e => rq y (by subst e; simp [Op.operands])
     have ph : ∀ y, hi = some y -> y ≠ .tmp d := fun y e => rq y (by subst e; simp [Op.operands])
     simp only [YJ] at hv ⊢
     rw [hl _ 0 ht] at hv
     refine ⟨hv.1, ?_⟩
     have tN := hv.2
     split at tN
     ·rename_i s e
      obtain ⟨h1, l, h, h2, h3, h4⟩ := tN
      first | exact ⟨h1, l, h, oe _ _ _ rF h2, oe _ _ _ ph h3, h4⟩ | (simp only [e]; exact ⟨h1, l, h, oe _ _ _ rF h2, oe _ _ _ ph h3, h4⟩)
     ·rename_i s rows e
      obtain ⟨h1, h0, l, h, h2, h3, h4⟩ := tN
      first | exact ⟨h1, h0, l, h, oe _ _ _ rF h2, oe _ _ _ ph h3, h4⟩ | (simp only [e]; exact ⟨h1, h0, l, h, oe _ _ _ rF h2, oe _ _ _ ph h3, h4⟩)
     ·rename_i t' j o len e
      have hb : t' ≠ d := by have := uD _ _ _ ht e; simpa [At.ref] using this
      obtain ⟨h1, ⟨q, rows, e1⟩, l, h, h2, h3, h4⟩ := tN
      obtain ⟨uQ, e3⟩ := tX _ _ _ _ _ hb e1
      first | exact ⟨h1, ⟨q, uQ, e3⟩, l, h, oe _ _ _ rF h2, oe _ _ _ ph h3, h4⟩ | (simp only [e]; exact ⟨h1, ⟨q, uQ, e3⟩, l, h, oe _ _ _ rF h2, oe _ _ _ ph h3, h4⟩)
     ·exact tN.elim
   | _ => exact Bool.noConfusion pe
 ·cases hx : v.ref d with
  | false => rfl
  | true =>
   obtain ⟨z, hz, T, h1⟩ := RP hv hx
   rw [hl z T (rq z hz)] at h1
   rcases h1 with h1 | ⟨t, cells, h1, h2, h3⟩
   ·rw [hr z T (rq z hz)] at h1; cases h1
   ·by_cases my : t = d
    ·rw [my, hr z T (rq z hz)] at h1; cases h1
    ·have := (sX t 0 cells my h2).2
     rw [this] at h3; cases h3
theorem AI {P : Program} {ops : Array Oper} {bar : Oper -> Bool} {PT : List (Nat × Nat)} {x y : Oper} {σ σ1 σ2 : St} {d : Nat} (h : HW PT ops bar x y = true) (hp : U9 PT σ) (tq : x.dst = some d) (uk : Xb σ d = true) (u9 : Jo P ops bar x σ σ1) (uK : Jo P ops bar y σ1 σ2) : ∃ σ1', Jo P ops bar y σ σ1' /\ Jo P ops bar x σ1' σ2 := by
 unfold HW at h
 simp only [Bool.and_eq_true, Bool.not_eq_true', Option.isNone_iff_eq_none] at h
 obtain ⟨⟨⟨⟨⟨⟨tW, u4⟩, oL⟩, px⟩, su⟩, pe⟩, h⟩ := h
 rw [tq] at h
 cases sP : y.dst with
 | none => rw [sP] at h; cases h
 | some dy =>
  rw [sP] at h
  simp only [Bool.and_eq_true, Bool.not_eq_true', bne_iff_ne, ne_eq] at h
  obtain ⟨⟨uD, rf⟩, oP⟩ := h
  have iI := jd rf
  have iJ := jd oP
  have uK := uK.resolve_right (fun hh => by rw [u4] at hh; cases hh.1)
  rcases u9 with u9 | ⟨_, bK, bL, _, mD, _⟩
  ·have tL : kH y = false := by
    unfold kH
    cases uA : y.op <;> rw [uA] at pe <;> first | rfl | (exact Bool.noConfusion pe)
   obtain ⟨σ1', hy, hx⟩ := swap tq sP uD iI iJ tL (.inl su) uk u9 uK
   exact ⟨σ1', .inl hy, .inl hx⟩
  ·obtain ⟨d', uM, hlen, tO, sX, tX, tC⟩ := mD oL
   rw [tq] at uM; cases uM
   have e2 : ∃ v, YJ P σ1 y.op y.type v /\ σ2 = σ1.put dy v := by
    unfold Yz at uK
    simp only [su, sP] at uK
    unfold Step at uK
    cases uA : y.op <;> rw [uA] at uK pe <;> first | exact uK | (exact Bool.noConfusion pe)
   obtain ⟨v, hv, rfl⟩ := e2
   obtain ⟨nQ, mr⟩ := wm tO sX tX hp pe (fun z hz => iI z (by simp only [zA, List.mem_append]; exact .inl hz)) hv
   have cE : Tj x dy = true := by
    simp only [Tj, Bool.not_eq_true']
    refine List.any_eq_false.2 (fun z hz => ?_)
    have := iJ z (by simp only [zA, List.mem_append]; exact .inl hz)
    cases z <;> simp [zH] at this ⊢
    exact this
   have uW : ∀ p ∈ [(dy, v)], p.1 ≠ d /\ Tj x p.1 = true /\ p.2.ref d = false := fun p hp => by
    cases List.mem_singleton.1 hp; exact ⟨fun e => uD e.symm, cE, mr⟩
   have h0 := tC [(dy, v)] uW
   refine ⟨σ.put dy v, .inl ?_, .inr ⟨tW, h0.1, h0.2, fun hh => (by rw [HC hh] at oL; cases oL), fun _ => ⟨d, tq, by rw [St.QH, St.QH]; exact hlen, fun t ht => ?_, fun t j cells ht hb => ?_, fun t j q s rows ht hb => ?_, fun l hl => ?_⟩, fun hh _ => (by rw [Cm oL] at hh; cases hh)⟩⟩
   ·unfold Yz
    simp only [su, sP]
    unfold Step
    cases uA : y.op <;> rw [uA] at nQ pe <;> first | exact ⟨v, nQ, rfl⟩ | (exact Bool.noConfusion pe)
   ·have h1 := tO t ht
    rw [St.J2, St.J2, hlen]
    by_cases hc : t = dy /\ dy < σ.length
    ·simp only [if_pos hc]; exact ⟨trivial, mr⟩
    ·simp only [if_neg hc]; exact h1
   ·rw [St.QF] at hb ⊢; exact sX t j cells ht hb
   ·rw [St.QF] at hb ⊢; exact tX t j q s rows ht hb
   ·exact tC ((dy, v) :: l) (fun p hp => by
     rcases List.mem_cons.1 hp with rfl | hp
     ·exact uW _ (by simp)
     ·exact hl p hp)
theorem DO {σ : St} {t j : Nat} (hn : σ.ob t j ≠ .none) : σ.Zs t j (σ.ob t j) = σ := by
 apply List.ext_getElem?
 intro u
 rw [QA]
 by_cases hu : u = t
 ·subst hu
  obtain ⟨e, he, ho⟩ := Vo (σ := σ) (t := u) (j := j) rfl hn
  rw [if_pos rfl, he, Option.map_some]
  have : e.2.set j (σ.ob u j) = e.2 := by
   rw [<- ho]
   apply List.ext_getElem?
   intro k
   rw [List.getElem?_set]
   by_cases hk : j = k
   ·subst hk
    rw [if_pos rfl]
    split
    ·rename_i uL; unfold YS; rw [List.getElem?_eq_getElem uL]
    ·rename_i uL; exact (List.getElem?_eq_none (by omega)).symm
   ·rw [if_neg hk]
  rw [this]
 ·rw [if_neg hu]
theorem Hp (σ : St) (t j : Nat) (o o' : Ob) : (σ.Zs t j o).Zs t j o' = σ.Zs t j o' := by
 apply List.ext_getElem?
 intro u
 rw [QA, QA, QA]
 by_cases hu : u = t
 ·simp only [if_pos hu]
  cases σ[u]? <;> simp
 ·simp only [if_neg hu]
section
variable {P : Program} {ops : Array Oper} {σ : St} {t d dx : Nat} {cells cs : List At} {v : V} {os : Option (List Ob)}
theorem Uo : (K1 t d cs v os σ).length = σ.length := by
 cases os <;> simp [K1, St.QH, St.jy, St.Y3]
theorem HA {u : Nat} (h : u ≠ d) : (K1 t d cs v os σ).get u = σ.get u := by
 cases os <;> simp [K1, St.J2, St.ko, St.Xl, h]
theorem Ae {u j : Nat} (hb : σ.ob t 0 = .box cells) (hu : os ≠ none -> u ≠ d) : (K1 t d cs v os σ).ob u j = if u = t /\ j = 0 then .box cs else σ.ob u j := by
 have hn : σ.ob t 0 ≠ .none := by rw [hb]; simp
 cases os with
 | none => simp only [K1, St.QF]; exact St.Xj σ t 0 _ u j hn
 | some l =>
  have := hu (by simp)
  simp only [K1, St.Qu, this, false_and, if_false]
  exact St.Xj σ t 0 _ u j hn
theorem R4 {u : Nat} : (K1 t d cs v os σ)[u]? = if u = d then (σ[u]?).map (fun e => (v, match os with | some l => l | none => if u = t then e.2.set 0 (.box cs) else e.2)) else if u = t then (σ[u]?).map (fun e => (e.1, e.2.set 0 (.box cs))) else σ[u]? := by
 cases os <;> simp only [K1, xa, K6, QA] <;> by_cases h1 : u = d <;> by_cases h2 : u = t <;> simp [h1, h2] <;> (try subst h1) <;> (try subst h2) <;> (try simp_all) <;> (first | (cases σ[u]? <;> rfl) | (cases σ[t]? <;> rfl) | (cases σ[d]? <;> rfl))
theorem Nd {e : Eff} (tL : ∀ a j w l, e ≠ .drop a j w l) (h1 : dx ≠ d) (h2 : (∀ w, e ≠ .put w) -> t ≠ dx) : e.ap dx (K1 t d cs v os σ) = K1 t d cs v os (e.ap dx σ) := by
 apply List.ext_getElem?
 intro u
 rw [R4]
 cases e with
 | put w =>
  simp only [Eff.ap, xa, R4]
  by_cases e1 : u = dx
  ·subst e1
   simp only [if_true, if_neg h1]
   by_cases e2 : u = t <;> simp [e2] <;> (first | (cases σ[u]? <;> rfl) | (cases σ[t]? <;> rfl) | rfl)
  ·simp only [if_neg e1]
 | new w l =>
  have h3 := h2 (by intro w h; cases h)
  simp only [Eff.ap, K6, R4]
  by_cases e1 : u = dx
  ·subst e1
   simp only [if_true, if_neg h1, if_neg (Ne.symm h3)]
  ·simp only [if_neg e1]
 | drop a j w l => exact absurd rfl (tL a j w l)
theorem E4 {u : Nat} (h : σ.fresh u = true) (sY : YF u cs = false) (hv : v.ref u = false /\ ∀ l, os = some l -> Yh u l = false) : (K1 t d cs v os σ).fresh u = true := by
 have hf := X0.1 h
 refine X0.2 ⟨by rw [Uo]; exact hf.1, fun k e he hk => ?_⟩
 rw [R4] at he
 have iK : ∀ lJ, Yh u lJ = false -> Yh u (lJ.set 0 (.box cs)) = false := by
  intro lJ h0
  cases lJ with
  | nil => exact h0
  | cons o lJ =>
   simp only [List.set_cons_zero]
   cases o <;> simp_all [Yh]
 by_cases h1 : k = d
 ·rw [if_pos h1] at he
  simp only [Option.map_eq_some_iff] at he
  obtain ⟨e0, ry, rfl⟩ := he
  refine ⟨hv.1, ?_⟩
  cases os with
  | some l => exact hv.2 l rfl
  | none =>
   have := (hf.2 k e0 ry hk).2
   simp only
   split
   ·exact iK _ this
   ·exact this
 ·rw [if_neg h1] at he
  split at he
  ·simp only [Option.map_eq_some_iff] at he
   obtain ⟨e0, ry, rfl⟩ := he
   exact ⟨(hf.2 k e0 ry hk).1, iK _ (hf.2 k e0 ry hk).2⟩
  ·exact hf.2 k e he hk
theorem GR {u : Nat} (hb : σ.ob t 0 = .box cells) (h : (K1 t d cs v os σ).fresh u = true) (uk : Xb σ d = true) (dh : YF u cells = false) : σ.fresh u = true := by
 have hf := X0.1 h
 refine X0.2 ⟨by rw [<- Uo (σ := σ)]; exact hf.1, fun k e he hk => ?_⟩
 by_cases h1 : k = d
 ·rw [h1] at he; exact Rb uk he u
 ·by_cases h2 : k = t
  ·have := hf.2 k (e.1, e.2.set 0 (.box cs)) (by rw [R4, if_neg h1, if_pos h2, he]; rfl) hk
   refine ⟨this.1, ?_⟩
   have h3 := this.2
   rw [h2] at he
   rw [N3 he] at hb
   cases lQ : e.2 with
   | nil => rfl
   | cons o lJ =>
    rw [lQ] at hb h3
    have hb : o = .box cells := hb
    subst hb
    simp only [List.set_cons_zero, Yh, Bool.or_eq_false_iff] at h3 ⊢
    exact ⟨dh, h3.2⟩
  ·exact hf.2 k e (by rw [R4, if_neg h1, if_neg h2]; exact he) hk
theorem Hv {PT : List (Nat × Nat)} {x y : Oper} {A : St} {σ2 : St} (hg : x.guard = none) (tq : x.dst = some dx) (uD : dx ≠ d) (mC : ∀ z ∈ zA ops x, z ≠ .tmp d) (hb : σ.ob t 0 = .box cells) (tE : os ≠ none -> (σ.Zs t 0 (.box cs)).fresh d = true)
  (sa : U9 PT σ) (sX : ∀ b, IF PT y = some b -> b = t) (ug : R8 PT y x = true) (hA : A = σ \/ A = K1 t d cs v os σ) (hs : Yz P ops x A σ2) :
  ∃ e : Eff, σ2 = e.ap dx A /\ (∀ a j w l, e ≠ .drop a j w l) /\ e.ok dx A /\ ∀ B, (B = σ \/ B = K1 t d cs v os σ) -> e.ok dx B -> Yz P ops x B (e.ap dx B) /\ ∀ u, u ≠ dx -> e.ref u = true -> RE P (zA ops x) B u := by
 have uA : zA ops x = x.op.operands.toList := by simp [zA, hg]
 simp only [R8, Bool.or_eq_true, Bool.and_eq_true, Bool.not_eq_true'] at ug
 have iL : A.length = σ.length := by rcases hA with rfl | rfl <;> simp [Uo]
 rcases ug with ⟨hc, tL⟩ | hf
 ·obtain ⟨e, rfl, uW, hdr, _, nD, fI⟩ := qF tq hs
  refine ⟨e, rfl, (fun a j w l h => by have := (hdr a j w l h).1; rw [tL] at this; cases this), uW, fun B hB g9 => ?_⟩
  have iM : B.length = σ.length := by rcases hB with rfl | rfl <;> simp [Uo]
  have hk : ∀ z ∈ zA ops x, ∃ c, z = .const c := by
   intro z hz
   rw [uA] at hz
   have := List.all_eq_true.1 hc z hz
   cases z <;> first | exact ⟨_, rfl⟩ | cases this
  have uo : Sub P (zA ops x) A B := ⟨by rw [iL, iM], fun z hz ty => by obtain ⟨c, rfl⟩ := hk z hz; rfl, fun z hz ty u hr => by obtain ⟨c, rfl⟩ := hk z hz; have h0 := Wh (P := P) ty c u; simp only [look] at hr; rw [h0] at hr; cases hr⟩
  have pz : ∀ u, ¬ RE P (zA ops x) A u := by
   rintro u ⟨z, hz, ty, h | ⟨_, _, h, _, _⟩⟩ <;> (obtain ⟨c, rfl⟩ := hk z hz; have h0 := Wh (P := P) ty c; simp only [look] at h; rw [h0] at h; cases h)
  exact ⟨fI B uo g9, fun u hu hr => absurd (nD hg u hu hr) (pz u)⟩
 ·split at hf
  ·rename_i b dn
   have gU := sX b dn
   subst gU
   have cG : Step P x dx A σ2 := by unfold Yz at hs; simp only [hg, tq] at hs; exact hs
   obtain ⟨w, hw, rfl⟩ := (Uu rfl hf).1 cG
   refine ⟨.put w, rfl, (fun a j w' l h => by cases h), trivial, fun B hB _ => ?_⟩
   have mw : ∀ z ∈ x.op.operands.toList, ∀ ty, look P (K1 b d cs v os σ) ty z = look P (σ.Zs b 0 (.box cs)) ty z := fun z hz ty => by
    rw [KN]; exact look_eq (fun u hu => HA hu) (mC z (by rw [uA]; exact hz)) ty
   have pz : os ≠ none -> ∀ z ∈ x.op.operands.toList, ∀ ty, (look P (σ.Zs b 0 (.box cs)) ty z).ref d = false := fun hn z hz ty =>
    KO (fun t' e he hZ => ((X0.1 (tE hn)).2 t' e he hZ).1) (mC z (by rw [uA]; exact hz)) ty
   have iN : ∀ u, (os ≠ none -> u ≠ d) -> ∀ j, (K1 b d cs v os σ).ob u j = (σ.Zs b 0 (.box cs)).ob u j := fun u hu j => by
    rw [Ae hb hu, St.Xj _ _ _ _ _ _ (by rw [hb]; simp)]
   have fw : YJ P (σ.Zs b 0 (.box cs)) x.op x.type w -> YJ P (K1 b d cs v os σ) x.op x.type w := fun hv => qt hv
    ⟨by rw [Uo, St.Y3], fun z hz ty => (mw z hz ty).symm, fun z hz ty u hr j _ => iN u (fun hn e => by subst e; rw [pz hn z hz ty] at hr; cases hr) j⟩
   have bw : YJ P (K1 b d cs v os σ) x.op x.type w -> YJ P (σ.Zs b 0 (.box cs)) x.op x.type w := fun hv => qt hv
    ⟨by rw [Uo, St.Y3], fun z hz ty => mw z hz ty, fun z hz ty u hr j _ => (iN u (fun hn e => by subst e; rw [mw z hz ty, pz hn z hz ty] at hr; cases hr) j).symm⟩
   have fQ : U9 PT (σ.Zs b 0 (.box cs)) := fun p hp => by rw [St.Xl]; exact sa p hp
   have u4 : (σ.Zs b 0 (.box cs)).ob b 0 = .box cs := by rw [St.Xj _ _ _ _ _ _ (by rw [hb]; simp), if_pos ⟨rfl, rfl⟩]
   have rk : (σ.Zs b 0 (.box cs)).Zs b 0 (.box cells) = σ := by rw [Hp, <- hb]; exact DO (by rw [hb]; simp)
   have hσ : YJ P σ x.op x.type w := by
    rcases hA with rfl | rfl
    ·exact hw
    ·have := FP (cs := cells) hf fQ u4 (bw hw)
     rw [rk] at this; exact this
   have eT : YJ P B x.op x.type w := by
    rcases hB with rfl | rfl
    ·exact hσ
    ·exact fw (FP hf sa hb hσ)
   refine ⟨?_, fun u hu hr => ?_⟩
   ·unfold Yz; simp only [hg, tq]; exact (Uu rfl hf).2 ⟨w, eT, rfl⟩
   ·rw [uA]; exact RP eT hr
  ·cases hf
end
theorem Sh {P : Program} {o : Oper} (h : Jp P o = true) : WC o = false /\ je o = false := by
 unfold Jp at h
 split at h
 ·rename_i uA; simp [WC, je, uA]
 ·cases h
theorem EN {P : Program} {PT : List (Nat × Nat)} {σ : St} {y : Oper} {t : Nat} (sa : U9 PT σ) (h : ∃ z r, (∃ f ts, y.op = .call ⟨.value (.func f), ⟨z :: r⟩, ts⟩) /\ ∃ ty, unc (look P σ ty z) = .one (.bptr t 0)) : ∀ b, IF PT y = some b -> b = t := by
 obtain ⟨z, r, ⟨f, ts, uA⟩, ty, hz⟩ := h
 intro b hb
 unfold IF at hb
 rw [uA] at hb
 cases z with
 | tmp k =>
  simp only [Option.map_eq_some_iff] at hb
  obtain ⟨p, hp, rfl⟩ := hb
  have hk : p.1 = k := by simpa using List.find?_some hp
  have hm := List.mem_of_find?_eq_some hp
  rw [zk] at hz
  rcases sa p hm with e | ⟨c, e⟩ <;> rw [hk] at e <;> rw [e] at hz <;> simp [unc] at hz
  exact hz.1
 | _ => cases hb
theorem Fp {P : Program} {o : Oper} (h : Jp P o = true) : kH o = false := by
 unfold Jp at h
 split at h
 ·rename_i uA; simp [kH, uA]
 ·cases h
theorem Pd {PT : List (Nat × Nat)} {x y : Oper} (h : R8 PT y x = true) : kH x = false := by
 simp only [R8, Bool.or_eq_true, Bool.and_eq_true, Bool.not_eq_true'] at h
 rcases h with ⟨_, h⟩ | h
 ·exact h
 ·split at h
  ·rename_i b _
   have key : ∀ op, V7 PT b op = true -> (match op with | .call ⟨.builtin .append, ⟨.const _ :: _⟩, _⟩ => false | .call ⟨.builtin .append, _, _⟩ => true | _ => false) = false := by
    intro op h
    unfold V7 at h
    split at h <;> first | rfl | (exact Bool.noConfusion h)
   exact key _ h
  ·cases h
theorem AM {P : Program} {ops : Array Oper} {bar : Oper -> Bool} {PT : List (Nat × Nat)} {x y : Oper} {σ σ1 σ2 : St} {d : Nat} (h : Hw P PT ops bar x y = true) (hp : U9 PT σ) (di : U9 PT σ1) (tq : x.dst = some d) (uk : Xb σ d = true) (u9 : Jo P ops bar x σ σ1) (uK : Jo P ops bar y σ1 σ2) : ∃ σ1', Jo P ops bar y σ σ1' /\ Jo P ops bar x σ1' σ2 := by
 unfold Hw at h
 simp only [tq, Bool.and_eq_true, Option.isNone_iff_eq_none] at h
 obtain ⟨⟨⟨⟨px, su⟩, cB⟩, sL⟩, h⟩ := h
 cases sP : y.dst with
 | none => rw [sP] at h; cases h
 | some dy =>
  rw [sP] at h
  simp only [Bool.and_eq_true, Bool.or_eq_true, Bool.not_eq_true', bne_iff_ne, ne_eq] at h
  obtain ⟨⟨⟨uD, rf⟩, oP⟩, h⟩ := h
  have rf := jd rf
  have oP := jd oP
  have oS : zA ops y = y.op.operands.toList := by simp [zA, su]
  have oT : zA ops x = x.op.operands.toList := by simp [zA, px]
  have iO : ∀ j, σ.ob d j = .none := fun j => by
   rw [yG] at uk
   unfold St.ob
   rcases uk with e | ⟨_, e⟩ <;> rw [e] <;> simp [YS]
  rcases h with ⟨⟨⟨tW, u4⟩, ri⟩, ug⟩ | ⟨⟨⟨tW, ri⟩, u4⟩, ug⟩
  ·have u9 := u9.resolve_right (fun hh => by rw [tW] at hh; cases hh.1)
   rcases uK with uK | ⟨_, _, _, _, _, fJ⟩
   ·obtain ⟨σ1', hy, hx⟩ := swap tq sP uD rf oP (Fp ri) (.inl su) uk u9 uK
    exact ⟨σ1', .inl hy, .inl hx⟩
   ·obtain ⟨d', t, cells, cs, v, os, uM, hb, hz, rj, mr, tE, rfl, tC⟩ := fJ ri sL
    rw [sP] at uM; cases uM
    obtain ⟨ex, rfl, pf, oB, _⟩ := qF tq u9
    have fR : ∀ a j w l, ex ≠ .drop a j w l := fun a j w l hh => by have := (oB a j w l hh).1; rw [Pd ug] at this; cases this
    have pd : ∀ z ∈ zA ops y, ∀ ty, look P (ex.ap d σ) ty z = look P σ ty z := fun z hz ty => look_eq (fun u hu => RV ex hu) (rf z hz) ty
    have nw : ∀ z ∈ zA ops y, ∀ ty u, (look P (ex.ap d σ) ty z).ref u = true -> (∀ w, ex ≠ .put w) -> u ≠ d := fun z hz ty u hr sD e => by
     rw [e, pd z hz, KO (xg pf sD) (rf z hz)] at hr; cases hr
    have pb := hz
    obtain ⟨z, r, ⟨f, ts, uA⟩, ty, lK⟩ := hz
    have lM : z ∈ zA ops y := by rw [oS, uA]; exact KS (c := ⟨.value (.func f), ⟨z :: r⟩, ts⟩) (by simp)
    have fS : (∀ w, ex ≠ .put w) -> t ≠ d := nw z lM ty t (Xi lK (by simp [At.ref]))
    have gB : σ.ob t 0 = .box cells := by rw [ED pf fS (by rw [hb]; simp), hb]
    have my : t ≠ d := fun e => by rw [e, iO] at gB; cases gB
    have mz : os ≠ none -> (σ.Zs t 0 (.box cs)).fresh dy = true := fun hn => by
     have hf := X0.1 (tE hn)
     refine X0.2 ⟨by have := hf.1; rw [St.Y3] at this ⊢; rwa [Kb] at this, fun k e he hk => ?_⟩
     by_cases hkd : k = d
     ·rw [hkd, QA, if_neg my.symm] at he
      rw [hkd] at *
      exact Rb uk he dy
     ·refine hf.2 k e ?_ hk
      rw [QA] at he ⊢
      have : (ex.ap d σ)[k]? = σ[k]? := by
       cases ex with
       | put w => simp only [Eff.ap, xa, if_neg hkd]
       | new w l => simp only [Eff.ap, K6, if_neg hkd]
       | drop a j w l => exact absurd rfl (fR a j w l)
      rw [this]; exact he
    obtain ⟨e, heq, tL, uW, hB⟩ := Hv (v := v) px tq uD oP gB mz hp (EN di pb) ug (.inl rfl) u9
    rw [heq] at hb pb tE tC pd nw ⊢
    have tQ : ∀ z ∈ zA ops y, ∀ ty u, (look P (e.ap d σ) ty z).ref u = true -> ∀ j, (e.ap d σ).ob u j ≠ .none -> σ.ob u j = (e.ap d σ).ob u j := fun z hz ty u hr j hn =>
     ED uW (fun sD hu => by rw [hu, pd z hz, KO (xg uW sD) (rf z hz)] at hr; cases hr) hn
    have h0 := tC σ (Kb e) (fun z hz ty => pd z (by rw [oS]; exact hz) ty) (fun z hz ty u hr j hn => tQ z (by rw [oS]; exact hz) ty u hr j hn) mz
    refine ⟨K1 t dy cs v os σ, .inr ⟨u4, h0.1, h0.2, fun hh => (by rw [(Sh ri).1] at hh; cases hh), fun hh => (by rw [(Sh ri).2] at hh; cases hh), fun _ _ => ?_⟩, .inl ?_⟩
    ·refine ⟨dy, t, cells, cs, v, os, sP, gB, ⟨z, r, ⟨f, ts, uA⟩, ty, by rw [<- pd z lM, <- heq]; exact lK⟩, rj, mr, mz, rfl, fun σ3 fA mm mn fB => ?_⟩
     refine tC σ3 (by rw [Kb]; exact fA) (fun z hz ty => by rw [pd z (by rw [oS]; exact hz), mm z hz]) (fun z hz ty u hr j hn => ?_) fB
     have h1 := tQ z (by rw [oS]; exact hz) ty u hr j hn
     rw [<- h1]
     exact mn z hz ty u (by rw [<- pd z (by rw [oS]; exact hz)]; exact hr) j (by rw [h1]; exact hn)
    ·rw [<- Nd tL uD (fun _ => my)]
     refine (hB _ (.inr rfl) ?_).1
     cases e with
     | put w => trivial
     | new w l => exact E4 uW (rj d).2 (mr d (.inr uD))
     | drop a j w l => exact absurd rfl (tL a j w l)
  ·have uK := uK.resolve_right (fun hh => by rw [u4] at hh; cases hh.1)
   rcases u9 with u9 | ⟨_, _, _, _, _, fJ⟩
   ·obtain ⟨σ1', hy, hx⟩ := swap tq sP uD rf oP (Pd ug) (.inl su) uk u9 uK
    exact ⟨σ1', .inl hy, .inl hx⟩
   ·obtain ⟨d', t, cells, cs, v, os, uM, hb, hz, rj, mr, tE, rfl, tC⟩ := fJ ri cB
    rw [tq] at uM; cases uM
    have pb := hz
    obtain ⟨z, r, ⟨f, ts, uA⟩, ty, lK⟩ := hz
    have lM : z ∈ zA ops x := by rw [oT, uA]; exact KS (c := ⟨.value (.func f), ⟨z :: r⟩, ts⟩) (by simp)
    obtain ⟨e, rfl, tL, uW, hB⟩ := Hv su sP (Ne.symm uD) rf hb tE hp (EN hp pb) ug (.inr rfl) uK
    have iP : e.ok dy σ := by
     cases e with
     | put w => trivial
     | new w l => exact GR hb uW uk (rj dy).1
     | drop a j w l => exact absurd rfl (tL a j w l)
    have pd : ∀ z ∈ zA ops x, ∀ ty, look P (e.ap dy σ) ty z = look P σ ty z := fun z hz ty => look_eq (fun u hu => RV e hu) (oP z hz) ty
    have nw : ∀ z ∈ zA ops x, ∀ ty u, (look P σ ty z).ref u = true -> (∀ w, e ≠ .put w) -> u ≠ dy := fun z hz ty u hr sD he => by
     rw [he, KO (xg iP sD) (oP z hz)] at hr; cases hr
    have sT : (∀ w, e ≠ .put w) -> t ≠ dy := nw z lM ty t (Xi lK (by simp [At.ref]))
    have uX : ∀ z ∈ zA ops x, ∀ ty u, (look P σ ty z).ref u = true -> ∀ j, (e.ap dy σ).ob u j = σ.ob u j := fun z hz ty u hr j => S0 tL (nw z hz ty u hr)
    have pK := hB σ (.inl rfl) iP
    have iQ : os ≠ none -> ((e.ap dy σ).Zs t 0 (.box cs)).fresh d = true := fun hn => by
     have hf := X0.1 (tE hn)
     have fT : e.ref d = false := by
      cases hr : e.ref d with
      | false => rfl
      | true =>
       obtain ⟨z', sn, eQ, h1 | ⟨t', uJ, h1, h2, h3⟩⟩ := pK.2 d uD hr
       ·rw [<- KN (t := t) (j := 0) (o := .box cs), KO (fun k e0 he hk => (hf.2 k e0 he hk).1) (rf z' sn)] at h1; cases h1
       ·by_cases htt : t' = t
        ·subst htt; rw [hb] at h2; cases h2; rw [(rj d).1] at h3; cases h3
        ·have my : t' ≠ d := fun e0 => by rw [e0, iO] at h2; cases h2
         obtain ⟨en, fG, fH⟩ := Vo h2 (by simp)
         have := (hf.2 t' en (by rw [QA, if_neg htt]; exact fG) my).2
         rw [Tw fH h3] at this; cases this
     refine X0.2 ⟨by have := hf.1; rw [St.Y3] at this ⊢; rwa [Kb], fun k en he hk => ?_⟩
     cases e with
     | put w =>
      simp only [Eff.ap, zN, xa] at he
      split at he
      ·simp only [Option.map_eq_some_iff] at he
       obtain ⟨e0, ry, rfl⟩ := he
       exact ⟨fT, (hf.2 k e0 ry hk).2⟩
      ·exact hf.2 k en he hk
     | new w l =>
      have ht := sT (by intro w h; cases h)
      simp only [Eff.ap, QA, K6] at he
      by_cases hkt : k = t
      ·subst hkt
       simp only [if_true, if_neg ht] at he
       exact hf.2 k en (by rw [QA, if_pos rfl]; exact he) hk
      ·simp only [if_neg hkt] at he
       split at he
       ·simp only [Option.map_eq_some_iff] at he
        obtain ⟨e0, ry, rfl⟩ := he
        simp only [Eff.ref, Bool.or_eq_false_iff] at fT
        exact fT
       ·exact hf.2 k en (by rw [QA, if_neg hkt]; exact he) hk
     | drop a j w l => exact absurd rfl (tL a j w l)
    have h0 := tC (e.ap dy σ) (Kb e).symm (fun z hz ty => (pd z (by rw [oT]; exact hz) ty).symm) (fun z hz ty u hr j _ => uX z (by rw [oT]; exact hz) ty u hr j) iQ
    have iS : e.ap dy (K1 t d cs v os σ) = K1 t d cs v os (e.ap dy σ) := by
     cases e with
     | put w => exact Nd tL (Ne.symm uD) (fun hh => absurd rfl (hh w))
     | new w l => exact Nd tL (Ne.symm uD) sT
     | drop a j w l => exact absurd rfl (tL a j w l)
    refine ⟨e.ap dy σ, .inl pK.1, .inr ?_⟩
    rw [iS]
    refine ⟨tW, h0.1, h0.2, fun hh => (by rw [(Sh ri).1] at hh; cases hh), fun hh => (by rw [(Sh ri).2] at hh; cases hh), fun _ _ => ?_⟩
    refine ⟨d, t, cells, cs, v, os, tq, ?_, ⟨z, r, ⟨f, ts, uA⟩, ty, by rw [pd z lM]; exact lK⟩, rj, mr, iQ, rfl, fun σ3 fA mm mn fB => ?_⟩
    ·rw [uX z lM ty t (Xi lK (by simp [At.ref])) 0]; exact hb
    ·refine tC σ3 (by rw [<- fA, Kb]) (fun z hz ty => by rw [<- mm z hz, pd z (by rw [oT]; exact hz)]) (fun z hz ty u hr j hn => ?_) fB
     have h1 := uX z (by rw [oT]; exact hz) ty u hr j
     rw [<- h1]
     exact mn z hz ty u (by rw [pd z (by rw [oT]; exact hz)]; exact hr) j (by rw [h1]; exact hn)
theorem CZ {PT : List (Nat × Nat)} {σ : St} (h : ptB PT σ = true) : U9 PT σ := by
 intro p hp
 have := List.all_eq_true.1 h p hp
 split at this
 ·rename_i e; exact .inl e
 ·split at this
  ·rename_i b c e
   have hb : b = p.2 := by simpa using this
   subst hb; exact .inr ⟨c, e⟩
  ·cases this
section
variable {P : Program} {ops : Array Oper}
def FK (P : Program) (ops : Array Oper) (bar : Oper -> Bool) : List Nat -> St -> (St -> Prop) -> Prop
 | [], σ, Q => Q σ
 | i :: rem, σ, Q => ∃ o σ', ops[i]? = some o /\ Jo P ops bar o σ σ' /\ FK P ops bar rem σ' Q
theorem NN {o : Oper} {σ σ' : St} {d : Nat} (hs : Yz P ops o σ σ') (hd : o.dst ≠ some d) (h : Xb σ d = true) : Xb σ' d = true := by
 cases hdo : o.dst with
 | some d' =>
  have uD : d ≠ d' := fun e => hd (by rw [hdo, e])
  obtain ⟨e, rfl, _⟩ := qF hdo hs
  cases e with
  | put v => unfold Xb at *; simp only [Eff.ap, xa, if_neg uD]; exact h
  | new v os => unfold Xb at *; simp only [Eff.ap, K6, if_neg uD]; exact h
  | drop a j v os =>
   have := QN (a := a) (j := j) (o := .none) h
   unfold Xb at *; simp only [Eff.ap, K6, if_neg uD]; exact this
 | none =>
  unfold Yz at hs
  split at hs
  ·simp only [hdo] at hs
   split at hs
   ·unfold zi at hs
    obtain ⟨_, _, _, _, hs⟩ := hs
    split at hs
    ·obtain ⟨_, _, _, _, rfl⟩ := hs; exact QN h
    ·obtain ⟨_, _, _, _, _, _, _, _, _, _, _, rfl⟩ := hs; exact QN h
    ·exact hs.elim
   ·exact hs.elim
  ·obtain ⟨_, _, _, _, _, _, uM, _⟩ := hs
   rw [hdo] at uM; cases uM
theorem ET {PT : List (Nat × Nat)} {i : Nat} {o : Oper} {σ σ' : St} (nk : Sp ops PT = true) (hi : ops[i]? = some o) (hs : Yz P ops o σ σ') (h : U9 PT σ) : U9 PT σ' := by
 have hc := List.all_eq_true.1 nk o (by rw [Array.mem_toList_iff]; exact Array.mem_of_getElem? hi)
 cases hdo : o.dst with
 | none =>
  have : ∃ t j ob, σ' = σ.Zs t j ob := by
   unfold Yz at hs
   split at hs
   ·simp only [hdo] at hs
    split at hs
    ·unfold zi at hs
     obtain ⟨_, _, _, _, hs⟩ := hs
     split at hs
     ·obtain ⟨_, _, _, _, rfl⟩ := hs; exact ⟨_, _, _, rfl⟩
     ·obtain ⟨_, _, _, _, _, _, _, _, _, _, _, rfl⟩ := hs; exact ⟨_, _, _, rfl⟩
     ·exact hs.elim
    ·exact hs.elim
   ·obtain ⟨_, _, _, _, _, _, uM, _⟩ := hs
    rw [hdo] at uM; cases uM
  obtain ⟨t, j, ob, rfl⟩ := this
  intro p hp
  rw [St.Xl]; exact h p hp
 | some d =>
  intro p hp
  rw [hdo] at hc
  have hc := List.all_eq_true.1 hc p hp
  by_cases oM : p.1 = d
  ·simp only [oM, bne_self_eq_false, Bool.false_or, Bool.and_eq_true, Option.isNone_iff_eq_none] at hc
   obtain ⟨hg, hc⟩ := hc
   split at hc
   ·rename_i T r f uA
    have hr := h (r, p.2) (by simpa using hc)
    unfold Yz at hs
    simp only [hg, hdo] at hs
    unfold Step at hs
    rw [uA] at hs
    obtain ⟨v, hv, rfl⟩ := hs
    simp only [YJ] at hv
    have hv := hv.2.2
    rw [zk] at hv
    rcases hr with e | ⟨c, e⟩
    ·rw [e] at hv; exact hv.elim
    ·rw [e] at hv
     rw [St.J2, oM]
     by_cases hl : d < σ.length
     ·rw [if_pos ⟨rfl, hl⟩]; exact .inr ⟨_, by rw [hv.2]; rfl⟩
     ·rw [if_neg (fun hh => hl hh.2)]; have := h p hp; rw [oM] at this; exact this
   ·rename_i r uA
    have hr := h (r, p.2) (by simpa using hc)
    unfold Yz at hs
    simp only [hg, hdo] at hs
    unfold Step at hs
    rw [uA] at hs
    obtain ⟨v, hv, rfl⟩ := hs
    simp only [YJ] at hv
    rw [zk] at hv
    rw [St.J2, oM]
    by_cases hl : d < σ.length
    ·rw [if_pos ⟨rfl, hl⟩, hv]; exact hr
    ·rw [if_neg (fun hh => hl hh.2)]; have := h p hp; rw [oM] at this; exact this
   ·cases hc
  ·obtain ⟨e, rfl, _⟩ := qF hdo hs
   have hg : ∀ σ0 : St, σ0.get p.1 = σ.get p.1 -> (σ0.get p.1 = .any \/ ∃ c, unc (σ0.get p.1) = .one (.bptr p.2 c)) := fun σ0 e => by rw [e]; exact h p hp
   cases e with
   | put v => exact hg _ (by simp only [Eff.ap]; rw [St.J2, if_neg (fun hh => oM hh.1)])
   | new v os => exact hg _ (by simp only [Eff.ap]; rw [St.ko, if_neg (fun hh => oM hh.1)])
   | drop a j v os => exact hg _ (by simp only [Eff.ap]; rw [St.ko, if_neg (fun hh => oM hh.1), St.Xl])
theorem Om {σ : St} : Mg [] [] σ := ⟨fun _ hp => absurd hp List.not_mem_nil, fun _ hp => absurd hp List.not_mem_nil⟩
theorem CK {NB : List Nat} {σ : St} {d : Nat} {v : V} (h : Nm NB σ) (hd : d ∈ NB -> ∀ b c, unc v ≠ .one (.bptr b c)) : Nm NB (σ.put d v) := by
 intro t ht b c
 rw [St.J2]
 split
 ·rename_i hc; exact hd (hc.1 ▸ ht) b c
 ·exact h t ht b c
theorem Cc {NB : List Nat} {σ : St} {d : Nat} {v : V} {os : List Ob} (h : Nm NB σ) (hd : d ∉ NB) : Nm NB (σ.new d v os) := by
 intro t ht b c
 have uD : ¬ (t = d /\ d < σ.length) := fun hc => hd (by rw [<- hc.1]; exact ht)
 rw [St.ko, if_neg uD]
 exact h t ht b c
theorem Cx {NB : List Nat} {i : Nat} {o : Oper} {σ σ' : St} (tk : NV P ops NB = true) (hi : ops[i]? = some o) (hs : Yz P ops o σ σ') (h : Nm NB σ) : Nm NB σ' := by
 have hc := List.all_eq_true.1 tk o (by rw [Array.mem_toList_iff]; exact Array.mem_of_getElem? hi)
 cases hdo : o.dst with
 | none =>
  have : ∃ t j ob, σ' = σ.Zs t j ob := by
   unfold Yz at hs
   split at hs
   ·simp only [hdo] at hs
    split at hs
    ·unfold zi at hs
     obtain ⟨_, _, _, _, hs⟩ := hs
     split at hs
     ·obtain ⟨_, _, _, _, rfl⟩ := hs; exact ⟨_, _, _, rfl⟩
     ·obtain ⟨_, _, _, _, _, _, _, _, _, _, _, rfl⟩ := hs; exact ⟨_, _, _, rfl⟩
     ·exact hs.elim
    ·exact hs.elim
   ·obtain ⟨_, _, _, _, _, _, uM, _⟩ := hs
    rw [hdo] at uM; cases uM
  obtain ⟨t, j, ob, rfl⟩ := this
  intro p hp
  rw [St.Xl]; exact h p hp
 | some d =>
  rw [hdo] at hc
  by_cases hd : d ∈ NB
  ·have hc := List.all_eq_true.1 hc d hd
   simp only [bne_self_eq_false, Bool.false_or, Bool.and_eq_true, Option.isNone_iff_eq_none] at hc
   obtain ⟨hg, hc⟩ := hc
   split at hc
   ·rename_i T r ix uA
    unfold Yz at hs
    simp only [hg, hdo] at hs
    unfold Step at hs
    rw [uA] at hs
    obtain ⟨v, hv, rfl⟩ := hs
    refine CK h (fun _ b c => ?_)
    simp only [YJ] at hv
    obtain ⟨_, _, _, _, _, hv⟩ := hv
    split at hv
    ·obtain ⟨_, _, _, _, rfl⟩ := hv; intro e; cases e
    ·obtain ⟨_, _, _, _, rfl⟩ := hv; intro e; cases e
    ·obtain ⟨_, ⟨n, ha, _⟩, _⟩ := hv
     unfold Yq at hc
     unfold Mc at ha
     split at hc
     ·rename_i e he; rw [he] at ha; cases ha
     ·cases hc
    ·obtain ⟨_, _, _, rfl⟩ := hv; intro e; cases e
    ·exact hv.elim
   ·cases hc
  ·obtain ⟨e, rfl, _⟩ := qF hdo hs
   cases e with
   | put v => exact CK h (fun hh => absurd hh hd)
   | new v os => exact Cc h hd
   | drop a j v os =>
    refine Cc (σ := σ.Zs a j .none) (fun t ht b c => ?_) hd
    rw [St.Xl]; exact h t ht b c
theorem AJ {NB : List Nat} {σ : St} (h : nbB NB σ = true) : Nm NB σ := by
 intro t ht b c e
 have := List.all_eq_true.1 h t ht
 rw [e] at this; cases this
def IW (ops : Array Oper) (pos : Nat -> Nat) (rem : List Nat) (σ : St) : Prop :=
 ∀ j ∈ rem, Vp ops pos j = true -> F6 ops j = true /\ ∃ o d, ops[j]? = some o /\ o.dst = some d /\ Xb σ d = true
theorem Bd {j k : Nat} {oj ok : Oper} {d : Nat} (h : F6 ops j = true) (hj : ops[j]? = some oj) (hd : oj.dst = some d) (hk : ops[k]? = some ok) (uD : k ≠ j) : ok.dst ≠ some d := by
 unfold F6 at h
 simp only [hj, hd] at h
 have uL : k < ops.size := (Array.getElem?_eq_some_iff.1 hk).1
 have := List.all_eq_true.1 h k (List.mem_range.2 uL)
 simp only [hk, Bool.or_eq_true, beq_iff_eq, bne_iff_ne, ne_eq] at this
 exact this.resolve_left uD
theorem Gn {bar : Oper -> Bool} {o : Oper} {σ σ' : St} {d : Nat} (hs : Jo P ops bar o σ σ') (hd : o.dst ≠ some d) (h : Xb σ d = true) : Xb σ' d = true := by
 rcases hs with hs | hs
 ·exact NN hs hd h
 ·exact hs.2.2.1 d hd h
theorem PX {pos : Nat -> Nat} {bar : Oper -> Bool} {rem mj : List Nat} {i : Nat} {o : Oper} {σ σ' : St} (hi : ops[i]? = some o) (hs : Jo P ops bar o σ σ') (hU : i ∉ mj) (uo : ∀ j ∈ mj, j ∈ rem) (h : IW ops pos rem σ) : IW ops pos mj σ' := by
 intro j hj hl
 obtain ⟨mE, oj, d, h1, h2, h3⟩ := h j (uo j hj) hl
 exact ⟨mE, oj, d, h1, h2, Gn hs (Bd mE h1 h2 hi (fun e => hU (e ▸ hj))) h3⟩
theorem pull {pos : Nat -> Nat} {bar : Oper -> Bool} {PT : List (Nat × Nat)} {NB : List Nat} (sW : ∀ (i : Nat) (o : Oper) (σ σ' : St), ops[i]? = some o -> Jo P ops bar o σ σ' -> Mg PT NB σ -> Mg PT NB σ') {i : Nat} {post : List Nat} {Q : St -> Prop} {oi : Oper} (hi : ops[i]? = some oi) : ∀ {pre : List Nat} {σ : St}, (pre ++ i :: post).Nodup -> (∀ j ∈ pre, Vp ops pos j = true /\ ∃ oj, ops[j]? = some oj /\ (Hu ops bar oj oi = true \/ Gy bar oj oi = true \/ swapT PT bar oj oi = true \/ HN bar oj oi = true \/ HW PT ops bar oj oi = true \/ Ht PT NB bar oj oi = true \/ Hw P PT ops bar oj oi = true)) -> IW ops pos (pre ++ i :: post) σ -> Mg PT NB σ ->
  FK P ops bar (pre ++ i :: post) σ Q -> ∃ σ', Jo P ops bar oi σ σ' /\ FK P ops bar (pre ++ post) σ' Q
 | [], σ, _, _, _, _, h => by
  obtain ⟨o, σ', ho, hs, hr⟩ := h
  rw [hi] at ho; cases ho
  exact ⟨σ', hs, hr⟩
 | j :: pre, σ, tL, gC, uk, sa, h => by
  obtain ⟨oj, σ1, hj, u9, hr⟩ := h
  have iT := List.nodup_cons.1 tL
  obtain ⟨σ2, uK, od⟩ := pull sW hi (pre := pre) iT.2 (fun k hk => gC k (by simp [hk])) (PX (rem := (j :: pre) ++ i :: post) hj u9 iT.1 (fun k hk => by simp only [List.cons_append, List.mem_cons]; exact .inr hk) uk) (sW j oj σ σ1 hj u9 sa) hr
  obtain ⟨hl, bJ, rP, py⟩ := gC j (by simp)
  rw [hj] at rP; cases rP
  rcases py with py | py | py | py | py | py | py
  rotate_left
  ·obtain ⟨σ1', hy, hx⟩ := Bi py u9 uK
   exact ⟨σ1', .inl hy, oj, σ2, hj, .inl hx, od⟩
  ·obtain ⟨σ1', hy, hx⟩ := Ag py sa.1 u9 uK
   exact ⟨σ1', .inl hy, oj, σ2, hj, .inl hx, od⟩
  ·obtain ⟨_, o', d', uV, uM, ux⟩ := uk j (by simp) hl
   rw [hj] at uV; cases uV
   obtain ⟨σ1', hy, hx⟩ := AU py uM ux u9 uK
   exact ⟨σ1', hy, oj, σ2, hj, .inl hx, od⟩
  ·obtain ⟨_, o', d', uV, uM, ux⟩ := uk j (by simp) hl
   rw [hj] at uV; cases uV
   obtain ⟨σ1', hy, hx⟩ := AI py sa.1 uM ux u9 uK
   exact ⟨σ1', hy, oj, σ2, hj, hx, od⟩
  ·obtain ⟨_, o', d', uV, uM, ux⟩ := uk j (by simp) hl
   rw [hj] at uV; cases uV
   obtain ⟨σ1', hy, hx⟩ := AS py sa.1 sa.2 uM ux u9 uK
   exact ⟨σ1', hy, oj, σ2, hj, .inl hx, od⟩
  ·obtain ⟨_, o', d', uV, uM, ux⟩ := uk j (by simp) hl
   rw [hj] at uV; cases uV
   obtain ⟨σ1', hy, hx⟩ := AM py sa.1 (sW j oj σ σ1 hj u9 sa).1 uM ux u9 uK
   exact ⟨σ1', hy, oj, σ2, hj, hx, od⟩
  obtain ⟨tW, u4, dx, dy, h1, h2, h3, h4, h5, h6, h7⟩ := Fz py
  have u9 := u9.resolve_right (fun hh => by rw [tW] at hh; cases hh.1)
  have uK := uK.resolve_right (fun hh => by rw [u4] at hh; cases hh.1)
  obtain ⟨_, o', d', uV, uM, ux⟩ := uk j (by simp) hl
  rw [hj] at uV; cases uV
  rw [h1] at uM; cases uM
  obtain ⟨σ1', hy, hx⟩ := swap h1 h2 h3 h4 h5 h6 h7 ux u9 uK
  exact ⟨σ1', .inl hy, oj, σ2, hj, .inl hx, od⟩
end
end Go.Vm
namespace Go.Vm
open Go.RowKit
section
variable {P : Program} {ops : Array Oper} {T0 : CS} {B : Nat -> Prop}
theorem Si {uq : Array Bool} {j : Nat} (h1 : uq.getD j true = false) (h2 : uq.getD j false = true) : False := by
 rw [Array.getD_eq_getD_getElem?] at h1 h2
 cases h : uq[j]? with
 | none => rw [h] at h1; simp at h1
 | some b => rw [h] at h1 h2; simp at h1 h2; rw [h1] at h2; cases h2
theorem L0 {pos : Nat -> Nat} {bar : Oper -> Bool} {PT : List (Nat × Nat)} {NB : List Nat} (sW : ∀ (i : Nat) (o : Oper) (σ σ' : St), ops[i]? = some o -> Jo P ops bar o σ σ' -> Mg PT NB σ -> Mg PT NB σ') (hdr : Gu P ops pos bar PT NB (TV ops.toList []) = true) {Qa : St -> Prop} {Q : Exit -> Act -> World -> Prop} {w0 : World} (hK : ∀ σ a w, Qa σ -> JZ T0 B σ a w -> Y9 B w0 w -> Q .normal a w) :
  ∀ (fuel : Nat) (rem : List Nat) (uq : Array Bool) (σ : St) (a : Act) (w : World), rem.length = fuel -> uq.size = ops.size -> rem.Pairwise (fun i j => pos i < pos j) -> (∀ i, i ∈ rem ↔ uq.getD i true = false) -> (∀ i ∈ rem, i < ops.size) -> (∀ m om, ops[m]? = some om -> m ∉ rem -> ∀ j, SM om j = true -> j ∉ rem) ->
   IW ops pos rem σ -> Mg PT NB σ -> FK P ops bar rem σ Qa -> JZ T0 B σ a w -> Y9 B w0 w -> wpAny P .any ops Q fuel uq a w := by
 have tC := List.all_eq_true.1 hdr
 have first : ∀ (rem : List Nat) (uq : Array Bool), uq.size = ops.size -> rem.Pairwise (fun i j => pos i < pos j) -> (∀ i, i ∈ rem ↔ uq.getD i true = false) -> (∀ i ∈ rem, i < ops.size) -> Region.ready .any ops uq = [] -> rem = [] := by
  intro rem uq tG mo tP uL l9
  cases rem with
  | nil => rfl
  | cons i rem =>
   exfalso
   have hi := uL i (by simp)
   have hb := tC i (List.mem_range.2 hi)
   simp only [Bool.and_eq_true] at hb
   have rk := hb.1.1
   unfold AB at rk
   rw [Array.getElem?_eq_getElem hi] at rk
   simp only [Array.all_eq_true_iff_forall_mem, decide_eq_true_eq, Bool.and_eq_true, Bool.or_eq_true, Bool.not_eq_true'] at rk
   have : i ∈ Region.ready .any ops uq := by
    refine mem_ready.2 ⟨(tP i).1 (by simp), ops[i], Array.getElem?_eq_getElem hi, fun e he fC => ?_⟩
    have nG := (rk e he).resolve_left (by rw [fC]; simp)
    have pw := nG.1
    have gz := nG.2
    have rU : e.on ∉ i :: rem := by
     intro hm
     rcases List.mem_cons.1 hm with h | h
     ·rw [h] at pw; omega
     ·have := (List.pairwise_cons.1 mo).1 _ h; omega
    have uD : uq.getD e.on true ≠ false := fun h => rU ((tP _).2 h)
    have nT : e.on < uq.size := by rw [tG]; omega
    rw [Array.getD_eq_getD_getElem?, Array.getElem?_eq_getElem nT] at uD ⊢
    simpa using uD
   rw [l9] at this; cases this
 intro fuel
 induction fuel with
 | zero =>
  intro rem uq σ a w hl tG mo tP uL fE uk sa uT tj hb
  have rQ : rem = [] := List.eq_nil_of_length_eq_zero hl
  subst rQ
  refine ⟨?_, hK σ a w uT tj hb⟩
  cases l9 : Region.ready .any ops uq with
  | nil => rfl
  | cons i l =>
   have hi : i ∈ Region.ready .any ops uq := by rw [l9]; simp
   have := (tP i).2 (mem_ready.1 hi).1
   cases this
 | succ fuel ih =>
  intro rem uq σ a w hl tG mo tP uL fE uk sa uT tj hb
  refine ⟨fun l9 => ?_, fun i hi => ?_⟩
  ·have := first rem uq tG mo tP uL l9
   subst this; simp at hl
  ·obtain ⟨h0, oi, mu, nE⟩ := mem_ready.1 hi
   obtain ⟨pre, post, rfl⟩ := List.append_of_mem ((tP i).2 h0)
   have tL : (pre ++ i :: post).Nodup := mo.imp (fun h e => by rw [e] at h; omega)
   have sy : ∀ j ∈ pre, pos j < pos i := fun j hj => (List.pairwise_append.1 mo).2.2 j hj i (by simp)
   have si : i < ops.size := uL i (by simp)
   have eU : ∀ e ∈ oi.after, Region.binds .any e = true -> e.on ∉ pre ++ i :: post := by
    intro e he fC hm
    exact Si ((tP e.on).1 hm) (nE e he fC)
   have iU : ∀ j, j ∈ pre ++ i :: post -> SM oi j = false := by
    intro j hj
    cases hp : SM oi j with
    | false => rfl
    | true =>
     unfold SM at hp
     rw [<- Array.any_toList] at hp
     obtain ⟨e, he, u4⟩ := List.any_eq_true.1 hp
     rw [Array.mem_toList_iff] at he
     simp only [Bool.and_eq_true, beq_iff_eq] at u4
     exact (Si ((tP j).1 hj) (by rw [<- u4.1]; exact nE e he u4.2)).elim
   have oM : ∀ m j, Pre ops m j -> (∀ om, ops[m]? = some om -> ∀ k, SM om k = true -> k ∉ pre ++ i :: post) -> j ∉ pre ++ i :: post := by
    intro m j hp
    induction hp with
    | one ho hp => intro h; exact h _ ho _ hp
    | more ho hp _ ih =>
     intro h
     exact ih (fun om oc k hk => fE _ om oc (h _ ho _ hp) k hk)
   have sD : ∀ j ∈ pre, GO ops i j = false := by
    intro j hj
    have cH : j ∈ pre ++ i :: post := by simp [hj]
    cases hq : GO ops i j with
    | false => rfl
    | true =>
     refine absurd cH (oM i j (E2 hq) (fun om oc k hk dm => ?_))
     rw [mu] at oc; cases oc
     have := iU k dm
     rw [hk] at this; cases this
   have gC : ∀ j ∈ pre, Vp ops pos j = true /\ ∃ oj, ops[j]? = some oj /\ (Hu ops bar oj oi = true \/ Gy bar oj oi = true \/ swapT PT bar oj oi = true \/ HN bar oj oi = true \/ HW PT ops bar oj oi = true \/ Ht PT NB bar oj oi = true \/ Hw P PT ops bar oj oi = true) := by
    intro j hj
    have eV := sy j hj
    have m0 : j < ops.size := uL j (by simp [hj])
    refine ⟨?_, ops[j], Array.getElem?_eq_getElem m0, ?_⟩
    ·unfold Vp Ir
     refine List.any_eq_true.2 ⟨i, List.mem_range.2 si, ?_⟩
     have := sD j hj
     unfold GO at this
     simp only [this, Bool.not_false, Bool.and_true, decide_eq_true_eq]; exact eV
    ·have := tC i (List.mem_range.2 si)
     simp only [Bool.and_eq_true] at this
     have hp := List.all_eq_true.1 this.1.2 j (List.mem_range.2 m0)
     simp only [eV, decide_true, Bool.not_true, Bool.false_or] at hp
     unfold Bt at hp
     rw [mu, Array.getElem?_eq_getElem m0] at hp
     have := sD j hj
     unfold GO at this
     simpa [this, or_assoc] using hp
   obtain ⟨σ', hs, hr⟩ := pull sW mu tL gC uk sa uT
   have hU : i ∉ pre ++ post := by
    have := List.nodup_append.1 tL
    intro hm
    rcases List.mem_append.1 hm with h | h
    ·exact Nat.lt_irrefl _ (sy i h)
    ·exact (List.nodup_cons.1 this.2.1).1 h
   have oD : ∀ j ∈ pre ++ post, j ∈ pre ++ i :: post := by
    intro j hj
    rcases List.mem_append.1 hj with h | h
    ·simp [h]
    ·simp [h]
   have key : ∀ a' w', JZ T0 B σ' a' w' -> Y9 B w w' -> wpAny P .any ops Q fuel (uq.setIfInBounds i true) a' w' := by
    intro a' w' iA uS
    refine ih (pre ++ post) _ σ' a' w' (by simp at hl ⊢; omega) (by simp [tG]) ?_ (fun j => ?_) (fun j hj => uL j (oD j hj)) ?_ (PX mu hs hU oD uk) (sW i oi σ σ' mu hs sa) hr iA (hb.trans uS)
    ·exact mo.sublist (List.Sublist.append (List.Sublist.refl pre) (List.sublist_cons_self i post))
    ·by_cases oQ : i = j
     ·subst oQ
      constructor
      ·intro hm; exact absurd hm hU
      ·intro hm
       rw [Array.getD_eq_getD_getElem?] at hm
       simp [tG, si] at hm
     ·rw [getD_set_ne true oQ, <- tP j]
      simp only [List.mem_append, List.mem_cons]
      constructor
      ·rintro (h | h)
       ·exact .inl h
       ·exact .inr (.inr h)
      ·rintro (h | h | h)
       ·exact .inl h
       ·exact absurd h.symm oQ
       ·exact .inr h
    ·intro m om oc hm j eO hj
     by_cases hmi : m = i
     ·subst hmi
      rw [mu] at oc; cases oc
      have := iU j (oD j hj)
      rw [eO] at this; cases this
     ·have cI : m ∉ pre ++ i :: post := by
       intro h
       rcases List.mem_append.1 h with h | h
       ·exact hm (by simp [h])
       ·rcases List.mem_cons.1 h with h | h
        ·exact hmi h
        ·exact hm (by simp [h])
      exact fE m om oc cI j eO (oD j hj)
   have uf := Vt hs T0 B a w (wpAny P .any ops Q fuel (uq.setIfInBounds i true)) Q tj key
   unfold wpOp
   simp only [mu]
   split
   ·rename_i hw; rw [if_pos hw] at uf; exact .inl uf
   ·rename_i hw; rw [if_neg hw] at uf; exact uf
theorem Ld {σ : St} {a : Act} {w : World} (h : JZ T0 B σ a w) : JZ T0 B σ a { w with drawn := w.drawn + 1 } := by
 obtain ⟨X, hh, r⟩ := h
 exact ⟨X, hh, r.grow (w' := { w with drawn := w.drawn + 1 }) ⟨rfl, rfl, rfl, Nat.le_refl _, fun _ _ _ => rfl⟩ (fun _ hb => hb) (fun _ hb => .inl hb)⟩
theorem F5 {bar : Oper -> Bool} {Q : St -> Prop} : ∀ {n k : Nat} {σ : St}, k + n = ops.size -> Ic P ops bar (ops.toList.drop k) σ Q -> FK P ops bar (List.range' k n) σ Q
 | 0, k, σ, hk, h => by
  rw [List.drop_eq_nil_of_le (by simp; omega)] at h
  exact h
 | n + 1, k, σ, hk, h => by
  have uL : k < ops.toList.length := by simp; omega
  rw [List.drop_eq_getElem_cons uL] at h
  obtain ⟨σ', hs, hr⟩ := h
  rw [List.range'_succ]
  exact ⟨ops.toList[k], σ', by rw [<- Array.getElem?_toList]; exact List.getElem?_eq_getElem uL, hs, F5 (by omega) hr⟩
theorem RZ {bar : Oper -> Bool} {PT : List (Nat × Nat)} {NB : List Nat} {id : Nat} {Q : Exit -> St -> Prop} {σ : St} (sW : ∀ (i : Nat) (o : Oper) (σ σ' : St), ops[i]? = some o -> Jo P ops bar o σ σ' -> Mg PT NB σ -> Mg PT NB σ') (sa : Mg PT NB σ) (hm : P.follows .mixedOrders = true) (hdr : Gu P ops (fun i => i) bar PT NB (TV ops.toList []) = true) (uk : zC ops (fun i => i) σ = true) (h : Ic P ops bar ops.toList σ (Q .normal)) : AWP P (.region id ops true) Q σ := by
 intro T0 B a w tj
 refine wp_region_any hm ?_
 have tC := List.all_eq_true.1 hdr
 refine L0 (T0 := T0) (B := B) (w0 := w) sW hdr (Qa := Q .normal) (fun σ' a' w' hq hr hb => ⟨σ', hq, hr, hb⟩) ops.size (List.range' 0 ops.size) _ σ a _ (by simp) (by simp) ?_ (fun i => ?_) (fun i hi => by simp [List.mem_range'] at hi; omega) (fun m om oc hm => absurd (by simp only [List.mem_range'_1]; have := (Array.getElem?_eq_some_iff.1 oc).1; omega) hm) ?_ sa (F5 (by omega) (by simpa using h)) (Ld tj) ⟨rfl, rfl, rfl, Nat.le_refl _, fun _ _ => rfl⟩
 ·exact List.pairwise_lt_range'
 ·rw [Array.getD_eq_getD_getElem?, Array.getElem?_replicate]
  simp only [List.mem_range'_1]
  constructor
  ·intro hh; rw [if_pos (by omega)]; rfl
  ·intro hh
   split at hh
   ·omega
   ·cases hh
 ·intro j hj hl
  simp only [List.mem_range'_1] at hj
  have hb := tC j (List.mem_range.2 (by omega))
  simp only [Bool.and_eq_true, Bool.or_eq_true, Bool.not_eq_true'] at hb
  refine ⟨hb.2.resolve_left (by unfold Vp at hl; rw [hl]; simp), ?_⟩
  have hc := List.all_eq_true.1 uk j (List.mem_range.2 (by omega))
  unfold Vp at hl
  simp only [hl, Bool.not_true, Bool.false_or] at hc
  have uL : j < ops.size := by omega
  rw [Array.getElem?_eq_getElem uL] at hc
  simp only [Option.bind_some] at hc
  cases hd : ops[j].dst with
  | none => rw [hd] at hc; cases hc
  | some d => rw [hd] at hc; exact ⟨_, d, Array.getElem?_eq_getElem uL, hd, hc⟩
theorem Hs {bar : Oper -> Bool} {id : Nat} {Q : Exit -> St -> Prop} {σ : St} (hm : P.follows .mixedOrders = true) (hdr : Sb P ops (fun i => i) bar = true) (uk : zC ops (fun i => i) σ = true) (h : Ic P ops bar ops.toList σ (Q .normal)) : AWP P (.region id ops true) Q σ :=
 RZ (PT := []) (NB := []) (fun _ _ _ _ _ _ _ => Om) Om hm hdr uk h
theorem Bm {id : Nat} {σ : St} {l : List Oper} {br : Oper -> Bool} {k : Fr} (PT : List (Nat × Nat)) (hm : P.follows .mixedOrders = true) (hdr : Gu P ⟨l⟩ (fun i => i) (fun _ => false) PT [] (TV l []) = true) (uk : zC ⟨l⟩ (fun i => i) σ = true) (nk : Sp ⟨l⟩ PT = true) (hp : ptB PT σ = true) (h : @EI P σ ⟨⟨l⟩, fun _ => false⟩ ⟨l⟩ k) : @DI P id σ ⟨⟨l⟩, br⟩ k :=
 RZ (bar := fun _ => false) (PT := PT) (NB := []) (fun _ _ _ _ hi hs hq => ⟨ET nk hi (hs.resolve_right (fun hh => by cases hh.1)) hq.1, fun p hp => by cases hp⟩) ⟨CZ hp, fun p hp => by cases hp⟩ hm hdr uk (Qj h)
theorem CJ {id : Nat} {σ : St} {l : List Oper} {br : Oper -> Bool} {k : Fr} (hm : P.follows .mixedOrders = true) (hdr : Sb P ⟨l⟩ (fun i => i) (fun _ => false) = true) (uk : zC ⟨l⟩ (fun i => i) σ = true) (h : @EI P σ ⟨⟨l⟩, fun _ => false⟩ ⟨l⟩ k) : @DI P id σ ⟨⟨l⟩, br⟩ k :=
 Hs hm hdr uk (Qj h)
def S6 (bs : List Nat) (o : Oper) : Bool := match o.dst with | some d => bs.contains d | none => !bs.contains 3000001
theorem AT {ops : Array Oper} {PT : List (Nat × Nat)} {bar : Oper -> Bool} {i : Nat} {o : Oper} {σ σ' : St} (nk : Sp ops PT = true) (mD : (ops.toList.all fun o => !bar o || WC o || je o || (Jp P o && TX bar o)) = true) (hi : ops[i]? = some o) (hs : Jo P ops bar o σ σ') (h : U9 PT σ) : U9 PT σ' := by
 rcases hs with hs | ⟨hb, _, _, fK, oW, fL⟩
 ·exact ET nk hi hs h
 ·have tP : o ∈ ops.toList := by rw [Array.mem_toList_iff]; exact Array.mem_of_getElem? hi
  have h1 := List.all_eq_true.1 mD o tP
  simp only [hb, Bool.not_true, Bool.false_or, Bool.or_eq_true, Bool.and_eq_true] at h1
  rcases h1 with (h1 | h1) | ⟨h1, h1o⟩
  ·obtain ⟨⟨_, hg⟩, _⟩ := fK h1
   intro p hp
   rw [hg]; exact h p hp
  ·obtain ⟨d, hd, _, hg, _⟩ := oW h1
   intro p hp
   have uD : p.1 ≠ d := by
    intro e
    have hc := List.all_eq_true.1 nk o tP
    rw [hd] at hc
    have hc := List.all_eq_true.1 hc p hp
    simp only [e, bne_self_eq_false, Bool.false_or, Bool.and_eq_true] at hc
    have hc := hc.2
    unfold je at h1
    cases uA : o.op <;> rw [uA] at h1 hc <;> first | (exact Bool.noConfusion h1) | (exact Bool.noConfusion hc)
   rw [(hg p.1 uD).1]; exact h p hp
  ·obtain ⟨d, t, cells, cs, v, os, hd, _, _, _, _, _, rfl, _⟩ := fL h1 h1o
   intro p hp
   have uD : p.1 ≠ d := by
    intro e
    have hc := List.all_eq_true.1 nk o tP
    rw [hd] at hc
    have hc := List.all_eq_true.1 hc p hp
    simp only [e, bne_self_eq_false, Bool.false_or, Bool.and_eq_true] at hc
    have hc := hc.2
    unfold Jp at h1
    cases uA : o.op <;> rw [uA] at h1 hc <;> first | (exact Bool.noConfusion h1) | (exact Bool.noConfusion hc)
   rw [HA uD]; exact h p hp
theorem AR {ops : Array Oper} {NB : List Nat} {bar : Oper -> Bool} {i : Nat} {o : Oper} {σ σ' : St} (tk : NV P ops NB = true) (mD : (ops.toList.all fun o => !bar o || WC o || je o || (Jp P o && TX bar o)) = true) (hi : ops[i]? = some o) (hs : Jo P ops bar o σ σ') (h : Nm NB σ) : Nm NB σ' := by
 rcases hs with hs | ⟨hb, _, _, fK, oW, fL⟩
 ·exact Cx tk hi hs h
 ·have tP : o ∈ ops.toList := by rw [Array.mem_toList_iff]; exact Array.mem_of_getElem? hi
  have h1 := List.all_eq_true.1 mD o tP
  simp only [hb, Bool.not_true, Bool.false_or, Bool.or_eq_true, Bool.and_eq_true] at h1
  rcases h1 with (h1 | h1) | ⟨h1, h1o⟩
  ·obtain ⟨⟨_, hg⟩, _⟩ := fK h1
   intro p hp
   rw [hg]; exact h p hp
  ·obtain ⟨d, hd, _, hg, _⟩ := oW h1
   intro p hp
   have uD : p ≠ d := by
    intro e
    have hc := List.all_eq_true.1 tk o tP
    rw [hd] at hc
    have hc := List.all_eq_true.1 hc p hp
    simp only [e, bne_self_eq_false, Bool.false_or, Bool.and_eq_true] at hc
    have hc := hc.2
    unfold je at h1
    cases uA : o.op <;> rw [uA] at h1 hc <;> first | (exact Bool.noConfusion h1) | (exact Bool.noConfusion hc)
   rw [(hg p uD).1]; exact h p hp
  ·obtain ⟨d, t, cells, cs, v, os, hd, _, _, _, _, _, rfl, _⟩ := fL h1 h1o
   intro p hp
   have uD : p ≠ d := by
    intro e
    have hc := List.all_eq_true.1 tk o tP
    rw [hd] at hc
    have hc := List.all_eq_true.1 hc p hp
    simp only [e, bne_self_eq_false, Bool.false_or, Bool.and_eq_true] at hc
    have hc := hc.2
    unfold Jp at h1
    cases uA : o.op <;> rw [uA] at h1 hc <;> first | (exact Bool.noConfusion h1) | (exact Bool.noConfusion hc)
   rw [HA uD]; exact h p hp
theorem xv {id : Nat} {σ : St} {l : List Oper} {br : Oper -> Bool} {k : Fr} (PT : List (Nat × Nat)) (NB bs : List Nat) (hm : P.follows .mixedOrders = true) (hdr : Gu P ⟨l⟩ (fun i => i) (S6 bs) PT NB (TV l []) = true) (uk : zC ⟨l⟩ (fun i => i) σ = true) (nk : Sp ⟨l⟩ PT = true) (hp : ptB PT σ = true) (tk : NV P ⟨l⟩ NB = true) (g8 : nbB NB σ = true) (mD : (l.all fun o => !S6 bs o || WC o || je o || (Jp P o && TX (S6 bs) o)) = true) (h : @EI P σ ⟨⟨l⟩, S6 bs⟩ ⟨l⟩ k) : @DI P id σ ⟨⟨l⟩, br⟩ k :=
 RZ (bar := S6 bs) (PT := PT) (NB := NB) (fun _ _ _ _ hi hs hq => ⟨AT nk mD hi hs hq.1, AR tk mD hi hs hq.2⟩) ⟨CZ hp, AJ g8⟩ hm hdr uk (Qj h)
theorem As {id : Nat} {σ : St} {l : List Oper} {br : Oper -> Bool} {k : Fr} (bs : List Nat) (hm : P.follows .mixedOrders = true) (hdr : Vm.Sb P ⟨l⟩ (fun i => i) (S6 bs) = true) (uk : zC ⟨l⟩ (fun i => i) σ = true) (h : @EI P σ ⟨⟨l⟩, S6 bs⟩ ⟨l⟩ k) : @DI P id σ ⟨⟨l⟩, br⟩ k :=
 Hs hm hdr uk (Qj h)
def pwB (pos : Nat -> Nat) : List Nat -> Bool
 | [] => true
 | i :: r => r.all (fun j => decide (pos i < pos j)) && pwB pos r
theorem Df {pos : Nat -> Nat} : ∀ {l : List Nat}, pwB pos l = true -> l.Pairwise (fun i j => pos i < pos j)
 | [], _ => .nil
 | i :: r, h => by
  simp only [pwB, Bool.and_eq_true, List.all_eq_true, decide_eq_true_eq] at h
  exact .cons h.1 (Df h.2)
def posOf : List Nat -> Nat -> Nat
 | [], _ => 0
 | i :: r, k => if i == k then 0 else posOf r k + 1
def Bk (n : Nat) (ord : List Nat) : Bool := ord.length == n && pwB (posOf ord) ord && ord.all (fun i => decide (i < n)) && (List.range n).all (fun i => ord.contains i)
@[reducible] def AV : List Oper -> Nat -> Oper -> Oper
 | [], _, d => d
 | o :: _, 0, _ => o
 | _ :: l, i + 1, d => AV l i d
@[reducible] def CE (l : List Oper) (d : Oper) : List Nat -> List Oper
 | [] => []
 | i :: r => AV l i d :: CE l d r
theorem Hx {d : Oper} : ∀ {l : List Oper} {i : Nat}, i < l.length -> l[i]? = some (AV l i d)
 | [], i, h => by simp at h
 | o :: l, 0, _ => rfl
 | o :: l, i + 1, h => by simpa using Hx (l := l) (i := i) (by simpa using h)
theorem L8 {bar : Oper -> Bool} {Q : St -> Prop} {l : List Oper} {d : Oper} : ∀ {ord : List Nat} {σ : St}, (∀ i ∈ ord, i < l.length) -> Ic P l.toArray bar (CE l d ord) σ Q -> FK P l.toArray bar ord σ Q
 | [], σ, _, h => h
 | i :: r, σ, hi, h => by
  obtain ⟨σ', hs, hr⟩ := h
  exact ⟨_, σ', by rw [List.getElem?_toArray]; exact Hx (hi i (by simp)), hs, L8 (fun j hj => hi j (by simp [hj])) hr⟩
theorem DQ {bar : Oper -> Bool} {id : Nat} {Q : Exit -> St -> Prop} {σ : St} {ord : List Nat} (hm : P.follows .mixedOrders = true) (ho : Bk ops.size ord = true) (hdr : Sb P ops (posOf ord) bar = true) (uk : zC ops (posOf ord) σ = true) (h : FK P ops bar ord σ (Q .normal)) : AWP P (.region id ops true) Q σ := by
 intro T0 B a w tj
 refine wp_region_any hm ?_
 have tC := List.all_eq_true.1 hdr
 simp only [Bk, Bool.and_eq_true, beq_iff_eq, List.all_eq_true, decide_eq_true_eq, List.mem_range, List.contains_iff_mem] at ho
 obtain ⟨⟨⟨o1, o2⟩, o3⟩, o4⟩ := ho
 refine L0 (T0 := T0) (B := B) (w0 := w) (PT := []) (NB := []) (fun _ _ _ _ _ _ _ => Om) hdr (Qa := Q .normal) (fun σ' a' w' hq hr hb => ⟨σ', hq, hr, hb⟩) ops.size ord _ σ a _ o1 (by simp) (Df o2) (fun i => ?_) o3 (fun m om oc hm => absurd (o4 m (Array.getElem?_eq_some_iff.1 oc).1) hm) ?_ Om h (Ld tj) ⟨rfl, rfl, rfl, Nat.le_refl _, fun _ _ => rfl⟩
 ·rw [Array.getD_eq_getD_getElem?, Array.getElem?_replicate]
  constructor
  ·intro hh; rw [if_pos (o3 i hh)]; rfl
  ·intro hh
   split at hh
   ·rename_i uL; exact o4 i uL
   ·cases hh
 ·intro j hj hl
  have gD := o3 j hj
  have hb := tC j (List.mem_range.2 gD)
  simp only [Bool.and_eq_true, Bool.or_eq_true, Bool.not_eq_true'] at hb
  refine ⟨hb.2.resolve_left (by unfold Vp at hl; rw [hl]; simp), ?_⟩
  have hc := List.all_eq_true.1 uk j (List.mem_range.2 gD)
  unfold Vp at hl
  simp only [hl, Bool.not_true, Bool.false_or] at hc
  rw [Array.getElem?_eq_getElem gD] at hc
  simp only [Option.bind_some] at hc
  cases hd : ops[j].dst with
  | none => rw [hd] at hc; cases hc
  | some d => rw [hd] at hc; exact ⟨_, d, Array.getElem?_eq_getElem gD, hd, hc⟩
theorem MP {id : Nat} {σ : St} {o : Oper} {l : List Oper} {br : Oper -> Bool} {k : Fr} (ord : List Nat) (hm : P.follows .mixedOrders = true) (ho : Bk (o :: l).length ord = true) (hdr : Sb P ⟨o :: l⟩ (posOf ord) (fun _ => false) = true) (uk : zC ⟨o :: l⟩ (posOf ord) σ = true)
  (h : @EI P σ ⟨⟨o :: l⟩, fun _ => false⟩ ⟨CE (o :: l) o ord⟩ k) : @DI P id σ ⟨⟨o :: l⟩, br⟩ k := by
 have h2 : ∀ i ∈ ord, i < (o :: l).length := by
  simp only [Bk, Bool.and_eq_true, List.all_eq_true, decide_eq_true_eq] at ho
  exact ho.1.2
 exact DQ hm ho hdr uk (L8 h2 (Qj h))
end
end Go.Vm
