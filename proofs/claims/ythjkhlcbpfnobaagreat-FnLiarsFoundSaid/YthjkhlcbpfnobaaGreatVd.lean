/- An abstract machine RH the model of Go, by value, and that it is sound: part Vd. No condition. -/
import Derived.Test.YthjkhlcbpfnobaaGreatVc
import Derived.Orders
set_option linter.unusedVariables false
set_option linter.unusedSimpArgs false
namespace Go.Vm
open Go.RowKit
structure Sub (P : Program) (xs : List Operand) (σ1 σ : St) : Prop where
 len : σ1.length = σ.length
 look : ∀ x ∈ xs, ∀ ty, look P σ1 ty x = look P σ ty x
 ob : ∀ x ∈ xs, ∀ ty u, (Vm.look P σ1 ty x).ref u = true -> ∀ j, σ1.ob u j ≠ .none -> σ.ob u j = σ1.ob u j
theorem XC {v : V} {x : At} {u : Nat} (h : unc v = .one x) (hx : x.ref u = true) : v.ref u = true := by
 cases v with
 | cnd g y => simp only [unc] at h; subst h; simp only [V.ref, V.VQ, Bool.or_eq_true]; exact .inl hx
 | one y => simp only [unc] at h; cases h; exact hx
 | any => simp [unc] at h
 | agg xs => simp [unc] at h
 | tup xs => simp [unc] at h
 | fix g y => simp only [unc] at h; subst h; simp only [V.ref, V.VQ, Bool.or_eq_true]; exact .inl hx
theorem Wz {v : V} {xs : List At} {u : Nat} (h : unc v = .agg xs) (hx : Zs u xs = true) : v.ref u = true := by
 cases v with
 | cnd g y => simp only [unc] at h; subst h; simp only [V.ref, V.VQ, Bool.or_eq_true]; exact .inl hx
 | agg y => simp only [unc] at h; cases h; exact hx
 | any => simp [unc] at h
 | one xs => simp [unc] at h
 | tup xs => simp [unc] at h
 | fix g y => simp only [unc] at h; subst h; simp only [V.ref, V.VQ, Bool.or_eq_true]; exact .inl hx
theorem yf {v : V} {u : Nat} (hx : Zs u (unc v).cells = true) : v.ref u = true := by
 cases h : unc v with
 | one x => rw [h] at hx; simp [V.cells, Zs] at hx; exact XC h hx
 | agg xs => rw [h] at hx; exact Wz h hx
 | any => rw [h] at hx; simp [V.cells, Zs] at hx
 | tup xs => rw [h] at hx; simp [V.cells, Zs] at hx
 | cnd g x => rw [h] at hx; simp [V.cells, Zs] at hx
 | fix u x => rw [h] at hx; simp [V.cells, Zs] at hx
section
variable {P : Program} {σ1 σ : St}
theorem Sub.same {xs : List Operand} {x : Operand} {ty : TypeId} {a : At} {u j : Nat} {o : Ob} (h : Sub P xs σ1 σ) (hx : x ∈ xs) (hv : unc (Vm.look P σ ty x) = .one a) (ha : a.ref u = true) (ho : σ1.ob u j = o) (hn : o ≠ .none) : σ.ob u j = o := by
 rw [<- ho]
 refine h.ob x hx ty u ?_ j (by rw [ho]; exact hn)
 rw [h.look x hx ty]
 exact XC hv ha
theorem KZ {xs : List Operand} {x : Operand} {k : IntKind} {n : Int} (h : Sub P xs σ1 σ) (hx : x ∈ xs) (hl : y8 P σ1 x k n) : y8 P σ x k n := by
 unfold y8 at *
 rw [<- h.look x hx]; exact hl
theorem P9 {xs : List Operand} {df n : Nat} {x : Option Operand} (h : Sub P xs σ1 σ) (hx : ∀ y, x = some y -> y ∈ xs) (hl : bnd P σ1 df x n) : bnd P σ df x n := by
 cases x with
 | none => exact hl
 | some x =>
  simp only [bnd] at *
  rw [<- h.look x (hx x rfl)]; exact hl
theorem Vk {T : TypeId} : ∀ {ps : List (Nat × Operand)} {z out : List At}, Sub P (ps.map (·.2)) σ1 σ -> qS P σ1 T ps z out -> qS P σ T ps z out
 | [], _, _, _, h => h
 | (i, x) :: ps, z, out, hs, h => by
  have e := hs.look x (by simp)
  simp only [qS] at h ⊢
  rw [<- e]
  refine ⟨h.1, h.2.1, h.2.2.1, h.2.2.2.1, h.2.2.2.2.1, Vk ⟨hs.len, fun y hy => hs.look y (by simp at hy ⊢; exact .inr hy), fun y hy => hs.ob y (by simp at hy ⊢; exact .inr hy)⟩ h.2.2.2.2.2⟩
theorem yP {op : Op} {ty : TypeId} {v : V} (hs : Zv P σ1 op ty v) (h : Sub P op.operands.toList σ1 σ) : Zv P σ op ty v := by
 cases op <;> simp only [Zv] at hs ⊢
 case move x => rw [<- h.look x (by simp [Op.operands])]; exact hs
 case assign x => rw [<- h.look x (by simp [Op.operands])]; exact hs
 case pick c a b =>
  rw [<- h.look c (by simp [Op.operands]), <- h.look a (by simp [Op.operands]), <- h.look b (by simp [Op.operands])]; exact hs
 case load T x =>
  rw [h.look x (by simp [Op.operands])] at hs
  refine ⟨hs.1, hs.2.1, ?_⟩
  have wL := hs.2.2
  split at wL
  ·rename_i t c hx
   obtain ⟨cells, ho, hr⟩ := wL
   exact ⟨cells, h.same (by simp [Op.operands]) hx (by simp [At.ref]) ho (by simp), hr⟩
  ·rename_i t j i c hx
   obtain ⟨q, size, rows, ho, hr⟩ := wL
   exact ⟨q, size, rows, h.same (by simp [Op.operands]) hx (by simp [At.ref]) ho (by simp), hr⟩
  ·exact wL
  ·rename_i t j i c k hx
   obtain ⟨size, rows, s, ho, hr⟩ := wL
   exact ⟨size, rows, s, h.same (by simp [Op.operands]) hx (by simp [At.ref]) ho (by simp), hr⟩
  ·exact wL.elim
 case nilCheck x =>
  rw [h.look x (by simp [Op.operands])] at hs
  refine ⟨hs.1, ?_⟩
  have wL := hs.2
  split at wL
  ·rename_i t c hx
   obtain ⟨⟨cells, ho⟩, hr⟩ := wL
   exact ⟨⟨cells, h.same (by simp [Op.operands]) hx (by simp [At.ref]) ho (by simp)⟩, hr⟩
  ·exact wL.elim
 case fieldAddr T x f =>
  rw [h.look x (by simp [Op.operands])] at hs
  refine ⟨hs.1, hs.2.1, ?_⟩
  have wL := hs.2.2
  split at wL
  ·rename_i t c hx
   obtain ⟨⟨cells, ho⟩, hr⟩ := wL
   exact ⟨⟨cells, h.same (by simp [Op.operands]) hx (by simp [At.ref]) ho (by simp)⟩, hr⟩
  ·rename_i t j i c hx
   obtain ⟨⟨q, size, rows, ho⟩, hr⟩ := wL
   exact ⟨⟨q, size, rows, h.same (by simp [Op.operands]) hx (by simp [At.ref]) ho (by simp)⟩, hr⟩
  ·exact wL
  ·rename_i t j i c k hx
   obtain ⟨⟨size, rows, ho⟩, hr⟩ := wL
   exact ⟨⟨size, rows, h.same (by simp [Op.operands]) hx (by simp [At.ref]) ho (by simp)⟩, hr⟩
  ·exact wL.elim
 case indexAddr T x ix =>
  obtain ⟨k, i, hk, h0, hg, wL⟩ := hs
  rw [h.look x (by simp [Op.operands])] at hg wL
  refine ⟨k, i, KZ h (by simp [Op.operands]) hk, h0, hg, ?_⟩
  split at wL
  ·exact wL
  ·rename_i t j lo len hx
   obtain ⟨h1, h2, ⟨q, rows, ho⟩, hr⟩ := wL
   exact ⟨h1, h2, ⟨q, rows, h.same (by simp [Op.operands]) hx (by simp [At.ref]) ho (by simp)⟩, hr⟩
  ·rename_i t c hx
   obtain ⟨⟨cells, ho⟩, hr⟩ := wL
   exact ⟨⟨cells, h.same (by simp [Op.operands]) hx (by simp [At.ref]) ho (by simp)⟩, hr⟩
  ·rename_i t j m c hx
   obtain ⟨h1, h2, ⟨size, rows, s, ho, hr⟩, hv⟩ := wL
   exact ⟨h1, h2, ⟨size, rows, s, h.same (by simp [Op.operands]) hx (by simp [At.ref]) ho (by simp), hr⟩, hv⟩
  ·exact wL.elim
 case index T x ix =>
  obtain ⟨k, i, hk, h0, hg, wL⟩ := hs
  rw [h.look x (by simp [Op.operands])] at hg wL
  exact ⟨k, i, KZ h (by simp [Op.operands]) hk, h0, hg, wL⟩
 case slice T x lo hi mx =>
  cases mx with
  | some m => exact hs.elim
  | none =>
   simp only at hs ⊢
   rw [h.look x (by simp [Op.operands])] at hs
   refine ⟨hs.1, ?_⟩
   have wL := hs.2
   have b1 : ∀ df n, bnd P σ1 df lo n -> bnd P σ df lo n := fun df n => P9 h (fun y hy => by subst hy; simp [Op.operands])
   have b2 : ∀ df n, bnd P σ1 df hi n -> bnd P σ df hi n := fun df n => P9 h (fun y hy => by subst hy; simp [Op.operands])
   split at wL
   ·obtain ⟨h1, l, hh, h2, h3, hr⟩ := wL
    exact ⟨h1, l, hh, b1 _ _ h2, b2 _ _ h3, hr⟩
   ·obtain ⟨h1, gl, l, hh, h2, h3, hr⟩ := wL
    exact ⟨h1, gl, l, hh, b1 _ _ h2, b2 _ _ h3, hr⟩
   ·rename_i t j o len hx
    obtain ⟨h1, ⟨q, rows, ho⟩, l, hh, h2, h3, hr⟩ := wL
    exact ⟨h1, ⟨q, rows, h.same (by simp [Op.operands]) hx (by simp [At.ref]) ho (by simp)⟩, l, hh, b1 _ _ h2, b2 _ _ h3, hr⟩
   ·exact wL.elim
 case binOp op T x y yt =>
  rw [<- h.look x (by simp [Op.operands]), <- h.look y (by simp [Op.operands])]; exact hs
 case unOp op T x => rw [<- h.look x (by simp [Op.operands])]; exact hs
 case convert S T x => rw [<- h.look x (by simp [Op.operands])]; exact hs
 case extract x i => rw [<- h.look x (by simp [Op.operands])]; exact hs
 case field T x f => rw [<- h.look x (by simp [Op.operands])]; exact hs
 case build T parts =>
  obtain ⟨h1, h2, z, out, h3, h4, h5⟩ := hs
  refine ⟨h1, h2, z, out, h3, Vk ?_ h4, h5⟩
  simpa [Op.operands] using h
 case call c =>
  obtain ⟨lA, args, tw⟩ := c
  have hm : ∀ x ∈ args.toList, x ∈ (Op.operands (.call ⟨lA, args, tw⟩)).toList := by
   intro x hx
   simp only [Op.operands, Call.operands]
   cases lA <;> simp at hx ⊢ <;> simp [hx]
  split at hs
  ·rename_i x t hc ha ht
   rw [h.look x (hm x (by rw [ha]; simp))] at hs
   try simp only [hc, ha, ht]
   refine ⟨hs.1, ?_⟩
   have wL := hs.2
   split at wL
   ·exact wL
   ·exact wL
   ·exact wL
   ·rename_i u j lo len hx
    obtain ⟨h1, ⟨q, size, rows, ho⟩ | ⟨size, rows, ho⟩, hr⟩ := wL
    ·exact ⟨h1, .inl ⟨q, size, rows, h.same (hm x (by rw [ha]; simp)) hx (by simp [At.ref]) ho (by simp)⟩, hr⟩
    ·exact ⟨h1, .inr ⟨size, rows, h.same (hm x (by rw [ha]; simp)) hx (by simp [At.ref]) ho (by simp)⟩, hr⟩
   ·rename_i u j i c hx
    obtain ⟨h1, size, rows, n, s, ho, hr⟩ := wL
    exact ⟨h1, size, rows, n, s, h.same (hm x (by rw [ha]; simp)) hx (by simp [At.ref]) ho (by simp), hr⟩
   ·exact wL.elim
  ·rename_i x y hc ha
   try simp only [hc, ha]
   obtain ⟨k, m, n, h1, h2, h3⟩ := hs
   exact ⟨k, m, n, KZ h (hm x (by rw [ha]; simp)) h1, KZ h (hm y (by rw [ha]; simp)) h2, h3⟩
  ·rename_i x y hc ha
   try simp only [hc, ha]
   obtain ⟨k, m, n, h1, h2, h3⟩ := hs
   exact ⟨k, m, n, KZ h (hm x (by rw [ha]; simp)) h1, KZ h (hm y (by rw [ha]; simp)) h2, h3⟩
  ·exact hs.elim
end
end Go.Vm
namespace Go.Vm
open Go.RowKit
def VJ (P : Program) (xs : List Operand) (σ : St) (u : Nat) : Prop :=
 ∃ x ∈ xs, ∃ ty, (look P σ ty x).ref u = true \/ ∃ t cells, (look P σ ty x).ref t = true /\ σ.ob t 0 = .box cells /\ Zs u cells = true
theorem JM {u : Nat} : ∀ {xs : List At}, Zs u xs = true ↔ ∃ x ∈ xs, x.ref u = true
 | [] => by simp [Zs]
 | x :: xs => by simp [Zs, JM]
theorem LG {u : Nat} {xs ys : List At} (h : ∀ x ∈ xs, x ∈ ys) (hx : Zs u xs = true) : Zs u ys = true := by
 obtain ⟨x, h1, h2⟩ := JM.1 hx
 exact JM.2 ⟨x, h x h1, h2⟩
theorem Ws {u a b : Nat} {xs : List At} (hx : Zs u (cut xs a b) = true) : Zs u xs = true :=
 LG (fun _ h => List.mem_of_mem_drop (List.mem_of_mem_take h)) hx
theorem xD {u : Nat} (xs : List D) : Zs u (xs.map .d) = false := by
 induction xs with
 | nil => rfl
 | cons x xs ih => simp [Zs, At.ref, ih]
theorem kj {P : Program} {T : TypeId} {u : Nat} {xs : List At} (h : (ldV P T xs).ref u = true) : Zs u xs = true := by
 unfold ldV at h
 split at h
 ·exact h
 ·split at h
  ·simpa [V.ref, Zs] using h
  ·simp [V.ref] at h
theorem Iw {u o : Nat} {r xs : List At} (h : Zs u (place r o xs) = true) : Zs u r = true \/ Zs u xs = true := by
 obtain ⟨x, h1, h2⟩ := JM.1 h
 simp only [place, List.mem_append] at h1
 rcases h1 with (h1 | h1) | h1
 ·exact .inl (JM.2 ⟨x, List.mem_of_mem_take h1, h2⟩)
 ·exact .inr (JM.2 ⟨x, h1, h2⟩)
 ·exact .inl (JM.2 ⟨x, List.mem_of_mem_drop h1, h2⟩)
theorem Gu {v : V} {u : Nat} (h : (unc v).ref u = true) (hc : ∀ g x, unc v ≠ .cnd g x) (hf : ∀ g x, unc v ≠ .fix g x) : v.ref u = true := by
 cases v with
 | cnd g x =>
  simp only [unc] at h hc hf
  simp only [V.ref, Bool.or_eq_true]
  cases x with
  | tup xs => exact .inr h
  | cnd g y => exact absurd rfl (hc g y)
  | fix g y => exact absurd rfl (hf g y)
  | one x => exact .inl h
  | agg x => exact .inl h
  | any => exact .inl h
 | fix g x =>
  simp only [unc] at h hc hf
  simp only [V.ref, Bool.or_eq_true]
  cases x with
  | tup xs => exact .inr h
  | cnd g y => exact absurd rfl (hc g y)
  | fix g y => exact absurd rfl (hf g y)
  | one x => exact .inl h
  | agg x => exact .inl h
  | any => exact .inl h
 | _ => exact h
theorem Sj {u t j i : Nat} : ∀ {c : Nat} {xs : List D}, Zs u (yY t j i c xs) = true -> u = t
 | _, [], h => by simp [yY, Zs] at h
 | c, x :: xs, h => by
  simp only [yY, Zs, Bool.or_eq_true] at h
  rcases h with h | h
  ·cases x <;> simp [At.ref] at h; exact h.symm
  ·exact Sj h
theorem Ml {u t j i c : Nat} {q : Bool} {xs : List D} (h : Zs u (jK q t j i c xs) = true) : u = t := by
 cases q with
 | true => exact Sj h
 | false => simp only [jK] at h; rw [xD] at h; cases h
theorem Ni {op : BinOp} {k : IntKind} {x y : Int} {v : V} (h : RR op k x y v) (u : Nat) : v.ref u = false := by
 cases op <;> simp only [RR] at h <;> first | (subst h; rfl) | (obtain ⟨_, rfl⟩ := h; rfl) | exact h.elim
theorem Nh {op : BinOp} {x y : ByteArray} {v : V} (h : SB op x y v) (u : Nat) : v.ref u = false := by
 cases op <;> simp only [SB] at h <;> first | (subst h; rfl) | (obtain ⟨_, rfl⟩ := h; rfl) | exact h.elim
theorem Oz {op : BinOp} {x y : Bool} {v : V} (h : Vz op x y v) (u : Nat) : v.ref u = false := by
 cases op <;> simp only [Vz] at h <;> first | (subst h; rfl) | (obtain ⟨_, rfl⟩ := h; rfl) | exact h.elim
theorem Ma {P : Program} {op : BinOp} {T : TypeId} {x y v : V} (h : MD P op T x y v) (u : Nat) : v.ref u = false := by
 unfold MD at h
 split at h
 ·exact Ni h.2 u
 ·exact Nh h u
 ·exact Oz h.2 u
 ·obtain ⟨_, q, _, ⟨_, rfl⟩ | ⟨_, rfl⟩⟩ := h <;> rfl
 ·exact h.elim
theorem OF {u : Nat} : ∀ {xs : List V} {i : Nat} {v : V}, xs[i]? = some v -> v.VQ u = true -> qe u xs = true
 | [], _, _, h, _ => by simp at h
 | x :: xs, 0, v, h, hr => by simp at h; subst h; simp [qe, hr]
 | x :: xs, i + 1, v, h, hr => by simp only [qe, Bool.or_eq_true]; exact .inr (OF (by simpa using h) hr)
theorem P8 {v : V} (hf : v.flat = true) (u : Nat) : v.ref u = v.VQ u := by
 cases v <;> first | rfl | (simp [V.flat] at hf)
theorem RS {P : Program} {σ : St} {T : TypeId} {u : Nat} : ∀ {ps : List (Nat × Operand)} {z out : List At}, qS P σ T ps z out -> Zs u out = true ->
  Zs u z = true \/ ∃ x ∈ ps.map (·.2), ∃ ty, (look P σ ty x).ref u = true
 | [], z, out, h, hr => by simp only [qS] at h; subst h; exact .inl hr
 | (i, x) :: ps, z, out, h, hr => by
  simp only [qS] at h
  rcases RS h.2.2.2.2.2 hr with h1 | ⟨y, hy, ty, h1⟩
  ·rcases Iw h1 with h1 | h1
   ·exact .inl h1
   ·exact .inr ⟨x, by simp, _, yf h1⟩
  ·exact .inr ⟨y, by simp at hy ⊢; exact .inr hy, ty, h1⟩
theorem Ug {P : Program} {σ : St} {op : Op} {ty : TypeId} {v : V} {u : Nat} (hs : Zv P σ op ty v) (hr : v.ref u = true) : VJ P op.operands.toList σ u := by
 have eV : ∀ {x : D}, v = .one (.d x) -> False := by intro x e; rw [e] at hr; cases hr
 cases op <;> simp only [Zv] at hs
 case move x => subst hs; exact ⟨x, by simp [Op.operands], ty, .inl hr⟩
 case assign x => subst hs; exact ⟨x, by simp [Op.operands], ty, .inl hr⟩
 case pick c a b => obtain ⟨bc, p, q, _, _, _, _, _, _, rfl⟩ := hs; cases hr
 case load T x =>
  have wL := hs.2.2
  split at wL
  ·rename_i t c hx
   obtain ⟨cells, ho, _, rfl⟩ := wL
   exact ⟨x, by simp [Op.operands], 0, .inr ⟨t, cells, XC hx (by simp [At.ref]), ho, Ws (kj hr)⟩⟩
  ·rename_i t j i c hx
   obtain ⟨q, size, rows, _, _, _, rfl⟩ := wL
   have := Ml (kj hr)
   exact ⟨x, by simp [Op.operands], 0, .inl (XC hx (by simp [At.ref, this]))⟩
  ·obtain ⟨_, rfl⟩ := wL
   have := kj hr; rw [xD] at this; cases this
  ·obtain ⟨_, _, _, _, _, _, _, _, _, rfl⟩ := wL
   have := kj hr; rw [xD] at this; cases this
  ·exact wL.elim
 case nilCheck x =>
  have wL := hs.2
  split at wL
  ·rename_i t c hx
   obtain ⟨_, rfl⟩ := wL
   exact ⟨x, by simp [Op.operands], 0, .inl (XC hx hr)⟩
  ·exact wL.elim
 case fieldAddr T x f =>
  have wL := hs.2.2
  split at wL
  ·rename_i t c hx
   obtain ⟨_, rfl⟩ := wL
   exact ⟨x, by simp [Op.operands], 0, .inl (XC hx hr)⟩
  ·rename_i t j i c hx
   obtain ⟨_, rfl⟩ := wL
   exact ⟨x, by simp [Op.operands], 0, .inl (XC hx hr)⟩
  ·subst wL; cases hr
  ·rename_i t j i c k hx
   obtain ⟨_, rfl⟩ := wL
   exact ⟨x, by simp [Op.operands], 0, .inl (XC hx hr)⟩
  ·exact wL.elim
 case indexAddr T x ix =>
  obtain ⟨k, i, _, _, _, wL⟩ := hs
  split at wL
  ·obtain ⟨_, _, _, _, rfl⟩ := wL; cases hr
  ·rename_i t j lo len hx
   obtain ⟨_, _, _, _, rfl⟩ := wL
   exact ⟨x, by simp [Op.operands], 0, .inl (XC hx hr)⟩
  ·rename_i t c hx
   obtain ⟨_, _, rfl⟩ := wL
   exact ⟨x, by simp [Op.operands], 0, .inl (XC hx hr)⟩
  ·rename_i t j m c hx
   obtain ⟨_, _, _, rfl⟩ := wL
   exact ⟨x, by simp [Op.operands], 0, .inl (XC hx hr)⟩
  ·exact wL.elim
 case index T x ix =>
  obtain ⟨k, i, _, _, _, wL⟩ := hs
  split at wL
  ·obtain ⟨_, _, rfl⟩ := wL; cases hr
  ·rename_i xs hx
   obtain ⟨_, _, _, rfl⟩ := wL
   exact ⟨x, by simp [Op.operands], 0, .inl (Wz hx (Ws (kj hr)))⟩
  ·exact wL.elim
 case slice T x lo hi mx =>
  cases mx with
  | some m => exact hs.elim
  | none =>
   simp only at hs
   have wL := hs.2
   split at wL
   ·obtain ⟨_, _, _, _, _, _, _, rfl⟩ := wL; cases hr
   ·obtain ⟨_, _, _, _, _, _, _, _, rfl⟩ := wL; cases hr
   ·rename_i t j o len hx
    obtain ⟨_, _, _, _, _, _, _, _, rfl⟩ := wL
    exact ⟨x, by simp [Op.operands], 0, .inl (XC hx hr)⟩
   ·exact wL.elim
 case binOp op T x y yt => rw [Ma hs.2.2 u] at hr; cases hr
 case unOp op T x =>
  have wL := hs.2
  split at wL
  ·subst wL; cases hr
  ·subst wL; cases hr
  ·exact wL.elim
 case convert S T x =>
  have wL := hs.2.2
  split at wL
  ·obtain ⟨_, _, rfl⟩ := wL; cases hr
  ·exact wL.elim
 case extract x i =>
  have wL := hs.2
  split at wL
  ·rename_i xs hx
   refine ⟨x, by simp [Op.operands], 0, .inl (Gu ?_ (by rw [hx]; simp) (by rw [hx]; simp))⟩
   rw [hx]
   rw [P8 wL.2] at hr
   exact OF wL.1 hr
  ·exact wL.elim
 case field T x f =>
  have wL := hs.2.2.2
  split at wL
  ·rename_i xs hx
   obtain ⟨_, rfl⟩ := wL
   exact ⟨x, by simp [Op.operands], 0, .inl (Wz hx (Ws (kj hr)))⟩
  ·exact wL.elim
 case build T parts =>
  obtain ⟨_, _, z, out, h3, h4, rfl⟩ := hs
  rcases RS h4 hr with h1 | ⟨x, hx, hR, h1⟩
  ·rw [W4 u _ _ _ h3] at h1; cases h1
  ·exact ⟨x, by simpa [Op.operands] using hx, hR, .inl h1⟩
 case call c =>
  split at hs
  ·have wL := hs.2
   split at wL
   ·obtain ⟨_, rfl⟩ := wL; cases hr
   ·obtain ⟨_, rfl⟩ := wL; cases hr
   ·obtain ⟨_, rfl⟩ := wL; cases hr
   ·obtain ⟨_, _, rfl⟩ := wL; cases hr
   ·obtain ⟨_, _, _, _, _, _, _, _, rfl⟩ := wL; cases hr
   ·exact wL.elim
  ·obtain ⟨_, _, _, _, _, rfl⟩ := hs; cases hr
  ·obtain ⟨_, _, _, _, _, rfl⟩ := hs; cases hr
  ·exact hs.elim
end Go.Vm
namespace Go.Vm
open Go.RowKit
inductive Eff where
 | put (v : V)
 | new (v : V) (os : List Ob)
 | drop (t j : Nat) (v : V) (os : List Ob)
def Eff.ap (d : Nat) : Eff -> St -> St
 | .put v, σ => σ.put d v
 | .new v os, σ => σ.new d v os
 | .drop t j v os, σ => (σ.ZT t j .none).new d v os
def Eff.ok (d : Nat) : Eff -> St -> Prop
 | .put _, _ => True
 | .new _ _, σ => σ.fresh d = true
 | .drop t j _ _, σ => (∃ q s r, σ.ob t j = .arr q s r) /\ (σ.ZT t j .none).fresh d = true
def Eff.ref (u : Nat) : Eff -> Bool
 | .put v => v.ref u
 | .new v os => v.ref u || YB u os
 | .drop _ _ v os => v.ref u || YB u os
def xZ (o : Oper) : Bool :=
 match o.op with
 | .call ⟨.builtin .append, ⟨.const _ :: _⟩, _⟩ => false
 | .call ⟨.builtin .append, _, _⟩ => true
 | _ => false
def JG (o : Oper) : Bool :=
 match o.op with
 | .alloc _ => false
 | .box _ _ => false
 | .buildSlice _ _ _ => false
 | .makeSlice _ _ _ => false
 | .call ⟨.builtin .append, _, _⟩ => false
 | .call ⟨.value _, _, _⟩ => false
 | _ => true
def Jt (ops : Array Oper) (o : Oper) : List Operand :=
 o.op.operands.toList ++ (match o.guard with | some (j, _) => (match (ops[j]?).bind (·.dst) with | some dj => [.tmp dj] | none => []) | none => [])
section
variable {P : Program} {σ1 σ : St}
theorem Sub.left {xs ys : List Operand} (h : Sub P (xs ++ ys) σ1 σ) : Sub P xs σ1 σ := ⟨h.len, fun x hx => h.look x (by simp [hx]), fun x hx => h.ob x (by simp [hx])⟩
theorem O3 {x : At} {d : D} (h : ∀ u, x.ref u = true -> ∀ j, σ1.ob u j ≠ .none -> σ.ob u j = σ1.ob u j) (hd : Jf σ1 x = some d) : Jf σ x = some d := by
 cases x with
 | sref t j lo len =>
  simp only [Jf] at hd ⊢
  split at hd
  ·rename_i q size rows ho
   rw [h t (by simp [At.ref]) j (by rw [ho]; simp), ho]; exact hd
  ·cases hd
 | _ => exact hd
theorem yL : ∀ {xs : List At} {r : List D}, (∀ u, Zs u xs = true -> ∀ j, σ1.ob u j ≠ .none -> σ.ob u j = σ1.ob u j) -> rowOf σ1 xs = some r -> rowOf σ xs = some r
 | [], _, _, h => h
 | x :: xs, r, h, hr => by
  simp only [rowOf] at hr ⊢
  split at hr
  ·rename_i d ds h1 h2
   rw [O3 (fun u hu => h u (by rw [Zs, hu]; rfl)) h1, yL (fun u hu => h u (by rw [Zs, hu, Bool.or_true])) h2]
   exact hr
  ·cases hr
theorem PQ {v : V} {r : List D} (h : ∀ u, Zs u v.cells = true -> ∀ j, σ1.ob u j ≠ .none -> σ.ob u j = σ1.ob u j) (hr : v.Qw σ1 = some r) : v.Qw σ = some r := by
 cases v with
 | one x => exact yL h hr
 | agg xs =>
  match xs, h, hr with
  | [], h, hr => exact yL h hr
  | [_], _, hr => simp [V.Qw] at hr
  | x :: y :: xs, h, hr => exact yL h hr
 | any => simp [V.Qw] at hr
 | tup xs => simp [V.Qw] at hr
 | cnd g x => simp [V.Qw] at hr
 | fix u x => simp [V.Qw] at hr
theorem Sub.cells {xs : List Operand} {x : Operand} (h : Sub P xs σ1 σ) (hx : x ∈ xs) (ty : TypeId) : ∀ u, Zs u (unc (Vm.look P σ1 ty x)).cells = true -> ∀ j, σ1.ob u j ≠ .none -> σ.ob u j = σ1.ob u j :=
 fun u hu j hn => h.ob x hx ty u (yf hu) j hn
theorem yF : ∀ {xs : List Operand} {ts : List TypeId} {rs : List (List D)}, Sub P xs σ1 σ -> XW P σ1 xs ts rs -> XW P σ xs ts rs
 | [], _, _, _, h => h
 | x :: xs, [], _, _, h => h.elim
 | x :: xs, t :: ts, rs, hs, h => by
  obtain ⟨hg, r, rest, h1, h2, h3⟩ := h
  have e := hs.look x (by simp) t
  refine ⟨by rw [<- e]; exact hg, r, rest, ?_, yF ⟨hs.len, fun y hy => hs.look y (by simp [hy]), fun y hy => hs.ob y (by simp [hy])⟩ h2, h3⟩
  rw [<- e]
  exact PQ (hs.cells (by simp) t) h1
theorem z9 : ∀ {xs : List Operand} {ts : List TypeId}, Sub P xs σ1 σ -> Z4 P σ xs ts = Z4 P σ1 xs ts
 | [], _, _ => by simp [Z4]
 | x :: xs, [], _ => by simp [Z4]
 | x :: xs, t :: ts, hs => by
  simp only [Z4]
  rw [hs.look x (by simp) t, z9 ⟨hs.len, fun y hy => hs.look y (by simp [hy]), fun y hy => hs.ob y (by simp [hy])⟩]
theorem kU {c : Call} {f : FuncId} {own : Bool} {res : List (List D)} (hs : Sub P c.args.toList σ1 σ) (h : Nq P σ1 c f own res) : Nq P σ c f own res := by
 obtain ⟨rows, h1, h2, h3⟩ := h
 exact ⟨rows, yF hs h1, h2, by rw [z9 hs]; exact h3⟩
theorem jx {T : TypeId} {size : Nat} : ∀ {ps : List (Nat × Operand)} {k : Nat} {rs : List (List D)}, Sub P (ps.map (·.2)) σ1 σ -> VH P σ1 T size ps k rs -> VH P σ T size ps k rs
 | [], _, _, _, h => h
 | (i, x) :: ps, k, rs, hs, h => by
  have e := hs.look x (by simp) T
  obtain ⟨h1, h2, h3, h4, r, rest, h5, h6, h7, h8⟩ := h
  refine ⟨h1, by rw [<- e]; exact h2, by rw [<- e]; exact h3, by rw [<- e]; exact h4, r, rest, ?_, h6, jx ⟨hs.len, fun y hy => hs.look y (by simp at hy ⊢; exact .inr hy), fun y hy => hs.ob y (by simp at hy ⊢; exact .inr hy)⟩ h7, h8⟩
  rw [<- e]
  exact yL (hs.cells (by simp) T) h5
theorem U1 {T : TypeId} {size : Nat} : ∀ {ps : List (Nat × Operand)} {k : Nat} {rs : List (List At)}, Sub P (ps.map (·.2)) σ1 σ -> Vu P σ1 T size ps k rs -> Vu P σ T size ps k rs
 | [], _, _, _, h => h
 | (i, x) :: ps, k, rs, hs, h => by
  obtain ⟨h1, h2, h3, h4, rest, h5, h6⟩ := h
  have e := hs.look x (by simp) T
  rw [e] at h2 h3 h4 h6
  exact ⟨h1, h2, h3, h4, rest, U1 ⟨hs.len, fun y hy => hs.look y (by simp at hy ⊢; exact .inr hy), fun y hy => hs.ob y (by simp at hy ⊢; exact .inr hy)⟩ h5, h6⟩
theorem Pg {T : TypeId} {size u : Nat} : ∀ {ps : List (Nat × Operand)} {k : Nat} {rs : List (List At)}, Vu P σ T size ps k rs -> Zs u rs.flatten = true -> ∃ x ∈ ps.map (·.2), (Vm.look P σ T x).ref u = true
 | [], _, _, h, hr => by simp only [Vu] at h; subst h; simp [Zs] at hr
 | (i, x) :: ps, k, rs, h, hr => by
  obtain ⟨h1, h2, h3, h4, rest, h5, rfl⟩ := h
  rw [List.flatten_cons] at hr
  obtain ⟨z, hz, uc⟩ := JM.1 hr
  rcases List.mem_append.1 hz with hz | hz
  ·exact ⟨x, by simp, yf (JM.2 ⟨z, hz, uc⟩)⟩
  ·obtain ⟨y, hy, gm⟩ := Pg h5 (JM.2 ⟨z, hz, uc⟩)
   exact ⟨y, by simp at hy ⊢; exact .inr hy, gm⟩
theorem Jm (u : Nat) : ∀ (qs : List Bool) (ds : List D), YB u (Zq qs ds) = false
 | qs, [] => by cases qs <;> rfl
 | q :: qs, .sl size rows :: ds => by simp [Zq, YB, Jm u qs ds]
 | [], .sl size rows :: ds => by simp [Zq, YB, Jm u [] ds]
 | qs, .int _ _ :: ds => by cases qs <;> simp [Zq, YB, Jm u _ ds]
 | qs, .bool _ :: ds => by cases qs <;> simp [Zq, YB, Jm u _ ds]
 | qs, .str _ :: ds => by cases qs <;> simp [Zq, YB, Jm u _ ds]
 | qs, .unk :: ds => by cases qs <;> simp [Zq, YB, Jm u _ ds]
theorem qK {xs : List Operand} {x : Operand} {ty : TypeId} {size : Nat} {news : List (List D)} (hs : Sub P xs σ1 σ) (hx : x ∈ xs) (h : yI σ1 (unc (Vm.look P σ1 ty x)) size news) : yI σ (unc (Vm.look P σ ty x)) size news := by
 rw [hs.look x hx] at h
 unfold yI at h ⊢
 split at h
 ·exact h
 ·exact h
 ·rename_i t j lo len hv
  obtain ⟨rows, ho, hr⟩ := h
  exact ⟨rows, hs.same hx hv (by simp [At.ref]) ho (by simp), hr⟩
 ·exact h.elim
theorem Ih (u : Nat) (r : List D) : (vOf (r.map At.d)).ref u = false := by
 have := xD (u := u) r
 match r, this with
 | [], _ => rfl
 | [x], _ => rfl
 | x :: y :: r, h => exact h
theorem Mx (u : Nat) (r : List D) : (vOf (r.map At.d)).VQ u = false := by
 have := xD (u := u) r
 match r, this with
 | [], _ => rfl
 | [x], _ => rfl
 | x :: y :: r, h => exact h
theorem OE (u : Nat) (res : List (List D)) : (K8 res).ref u = false := by
 have tl : ∀ rs : List (List D), qe u (rs.map fun r => vOf (r.map At.d)) = false := by
  intro rs
  induction rs with
  | nil => rfl
  | cons r rs ih => simp only [List.map_cons, qe, Mx, ih, Bool.or_false]
 match res with
 | [] => rfl
 | [r] => exact Ih u r
 | r :: r' :: rs => exact tl (r :: r' :: rs)
theorem W2 {u d : Nat} (hu : u ≠ d) : ∀ (k : Nat) (r : List D), Zs u (QW d k r) = false
 | _, [] => rfl
 | k, x :: r => by cases x <;> simp [QW, Zs, At.ref, W2 hu, Ne.symm hu]
theorem Nw {u : Nat} {xs : List At} (h : Zs u xs = false) : (vOf xs).VQ u = false := by
 match xs, h with
 | [], _ => rfl
 | [x], h => simpa [vOf, V.VQ, Zs] using h
 | x :: y :: xs, h => exact h
theorem SJ {u d : Nat} (hu : u ≠ d) (res : List (List D)) : (zu d res).ref u = false := by
 have tl : ∀ (k : Nat) (rs : List (List D)), qe u (OA d k rs) = false := by
  intro k rs
  induction rs generalizing k with
  | nil => rfl
  | cons r rs ih => simp only [OA, qe, Nw (W2 hu _ _), ih, Bool.or_false]
 match res with
 | [] => exact tl 0 []
 | [r] =>
  have h1 : (vOf (QW d 0 r)).flat = true := by
   match QW d 0 r with
   | [] => rfl
   | [x] => rfl
   | x :: y :: xs => rfl
  have := Nw (W2 hu 0 r)
  rw [<- P8 h1] at this
  exact this
 | r :: r' :: rs => exact tl 0 (r :: r' :: rs)
theorem RZ (u : Nat) : ∀ (ds : List D), YB u (Kz ds) = false
 | [] => rfl
 | x :: ds => by cases x <;> simp [Kz, YB, RZ u ds]
theorem qf (ty : TypeId) (v : Value) (u : Nat) : (cst P ty v).ref u = false := by
 unfold cst
 split <;> first | rfl | skip
 all_goals (repeat' split) <;> first | rfl | skip
end
end Go.Vm
namespace Go.Vm
open Go.RowKit
def Sn (P : Program) (ops : Array Oper) (o : Oper) (d : Nat) (σ1 : St) (e : Eff) : Prop :=
 e.ok d σ1 /\ (∀ t j v os, e = .drop t j v os -> xZ o = true /\ ∃ x ∈ Jt ops o, ∃ ty, (look P σ1 ty x).ref t = true) /\
 (JG o = true \/ o.guard.isSome = true -> ∃ v, e = .put v) /\
 (o.guard = none -> ∀ u, u ≠ d -> e.ref u = true -> VJ P (Jt ops o) σ1 u) /\
 ∀ σ, Sub P (Jt ops o) σ1 σ -> e.ok d σ -> YX P ops o σ (e.ap d σ)
section
variable {P : Program} {ops : Array Oper} {o : Oper} {d : Nat} {σ1 σ2 : St}
theorem Wf {xs ys : List Operand} {u : Nat} (h : VJ P xs σ1 u) : VJ P (xs ++ ys) σ1 u := by
 obtain ⟨x, hx, r⟩ := h
 exact ⟨x, by simp [hx], r⟩
theorem qZ {σ σ' : St} (hg : o.guard = none) (hd : o.dst = some d) (h : Step P o d σ σ') : YX P ops o σ σ' := by
 unfold YX; simp only [hg, hd]; exact h
theorem VE {v : V} (hg : o.guard = none) (hd : o.dst = some d) (ry : ∀ u, u ≠ d -> v.ref u = true -> VJ P o.op.operands.toList σ1 u)
  (w7 : ∀ σ, Sub P o.op.operands.toList σ1 σ -> Step P o d σ (σ.put d v)) : Sn P ops o d σ1 (.put v) :=
 ⟨trivial, (fun t j v os h => by cases h), fun _ => ⟨v, rfl⟩, fun _ u hu hr => Wf (ry u hu hr), fun σ hs _ => qZ hg hd (w7 σ hs.left)⟩
theorem xg {v : V} {os : List Ob} (hg : o.guard = none) (hd : o.dst = some d) (hp : JG o = false) (wa : σ1.fresh d = true) (ry : ∀ u, u ≠ d -> (v.ref u || YB u os) = true -> VJ P o.op.operands.toList σ1 u)
  (w7 : ∀ σ, Sub P o.op.operands.toList σ1 σ -> σ.fresh d = true -> Step P o d σ (σ.new d v os)) : Sn P ops o d σ1 (.new v os) :=
 ⟨wa, (fun t j v os h => by cases h), (fun h => h.elim (fun h => by rw [hp] at h; cases h) (fun h => by rw [hg] at h; cases h)), fun _ u hu hr => Wf (ry u hu hr), fun σ hs hf => qZ hg hd (w7 σ hs.left hf)⟩
theorem JI {c : Call} {x : Operand} (hx : x ∈ c.args.toList) : x ∈ (Op.operands (.call c)).toList := by
 obtain ⟨lA, args, tw⟩ := c
 simp only [Op.operands, Call.operands]
 cases lA <;> simp at hx ⊢ <;> simp [hx]
theorem V1 {c : Call} {σ : St} (h : Sub P (Op.operands (.call c)).toList σ1 σ) : Sub P c.args.toList σ1 σ :=
 ⟨h.len, fun x hx => h.look x (JI hx), fun x hx => h.ob x (JI hx)⟩
theorem HR (hg : o.guard = none) (hd : o.dst = some d) (hs : Step P o d σ1 σ2) : ∃ e : Eff, σ2 = e.ap d σ1 /\ Sn P ops o d σ1 e := by
 have vk : (∃ v, Zv P σ1 o.op o.type v /\ σ2 = σ1.put d v) -> (∀ σ v, Zv P σ o.op o.type v -> Step P o d σ (σ.put d v)) -> ∃ e : Eff, σ2 = e.ap d σ1 /\ Sn P ops o d σ1 e := by
  rintro ⟨v, hv, rfl⟩ wb
  exact ⟨.put v, rfl, VE hg hd (fun u _ hr => Ug hv hr) (fun σ wm => wb σ v (yP hv wm))⟩
 have eW := hs
 unfold Step at hs
 split at hs
 ·rename_i T wA
  obtain ⟨hf, hz, row, wi, rfl⟩ := hs
  refine ⟨.new _ _, rfl, xg hg hd (by simp [JG, wA]) hf (fun u hu hr => ?_) (fun σ wm sC => ?_)⟩
  ·simp only [V.ref, At.ref, YB, W4 u _ _ _ wi, Bool.or_false, beq_iff_eq] at hr
   exact absurd hr.symm hu
  ·unfold Step; rw [wA]; exact ⟨sC, hz, row, wi, rfl⟩
 ·rename_i T x wA
  obtain ⟨hf, h1, h2, h3, rfl⟩ := hs
  refine ⟨.new _ _, rfl, xg hg hd (by simp [JG, wA]) hf (fun u hu hr => ?_) (fun σ wm sC => ?_)⟩
  ·simp only [V.ref, At.ref, YB, Bool.or_false, Bool.or_eq_true, beq_iff_eq] at hr
   rcases hr with hr | hr
   ·exact absurd hr.symm hu
   ·exact ⟨x, by simp [wA, Op.operands], T, .inl (yf hr)⟩
  ·have e := wm.look x (by simp [wA, Op.operands]) T
   unfold Step; rw [wA]
   simp only
   rw [<- e]
   exact ⟨sC, h1, h2, h3, rfl⟩
 ·rename_i T n parts wA
  rcases hs with ⟨hf, h1, h2, h3, h4, h5, ⟨rows, h6, rfl⟩ | ⟨rows, h6, h7, rfl⟩⟩ | ⟨h1, rows, h6, rfl⟩
  ·refine ⟨.new _ _, rfl, xg hg hd (by simp [JG, wA]) hf (fun u hu hr => ?_) (fun σ wm sC => ?_)⟩
   ·simp only [V.ref, At.ref, YB, Bool.or_false, beq_iff_eq] at hr
    exact absurd hr.symm hu
   ·unfold Step; rw [wA]
    refine .inl ⟨sC, h1, h2, h3, h4, h5, .inl ⟨rows, jx ?_ h6, rfl⟩⟩
    rw [wA] at wm
    simpa [Op.operands] using wm
  ·refine ⟨.new _ _, rfl, xg hg hd (by simp [JG, wA]) hf (fun u hu hr => ?_) (fun σ wm sC => ?_)⟩
   ·simp only [V.ref, At.ref, YB, Bool.or_false, Bool.or_eq_true, beq_iff_eq] at hr
    rcases hr with hr | hr
    ·exact absurd hr.symm hu
    ·obtain ⟨x, hx, gn⟩ := Pg h6 hr
     exact ⟨x, by simpa [wA, Op.operands] using hx, _, .inl gn⟩
   ·unfold Step; rw [wA]
    refine .inl ⟨sC, h1, h2, h3, h4, h5, .inr ⟨rows, U1 ?_ h6, h7, rfl⟩⟩
    rw [wA] at wm
    simpa [Op.operands] using wm
  ·refine ⟨.put _, rfl, VE hg hd (fun u _ hr => by cases hr) (fun σ wm => ?_)⟩
   unfold Step; rw [wA]
   refine .inr ⟨h1, rows, jx ?_ h6, rfl⟩
   rw [wA] at wm
   simpa [Op.operands] using wm
 ·rename_i T x y wA
  obtain ⟨rfl, hf, h1, h2, h3, q, z, zr, k, n, hq, h4, h5, h6, h7, h8, rfl⟩ := hs
  refine ⟨.new _ _, rfl, xg hg hd (by simp [JG, wA]) hf (fun u hu hr => ?_) (fun σ wm sC => ?_)⟩
  ·simp only [V.ref, At.ref, YB, Bool.or_false, beq_iff_eq] at hr
   exact absurd hr.symm hu
  ·unfold Step; rw [wA]
   exact ⟨rfl, sC, h1, h2, h3, q, z, zr, k, n, hq, h4, h5, KZ wm (by simp [wA, Op.operands]) h6, h7, h8, rfl⟩
 ·rename_i c wA
  split at hs
  ·rename_i hc
   obtain ⟨x, y, t, ha, uv, h1, h2, h3, h4, h5, wC, news, σd, h6, h7, h8, h9, tg, rfl⟩ := hs
   have hx : x ∈ o.op.operands.toList := by rw [wA]; exact JI (by rw [ha]; simp)
   have hy : y ∈ o.op.operands.toList := by rw [wA]; exact JI (by rw [ha]; simp)
   have sD : JG o = false := by
    obtain ⟨cc, ca, ct⟩ := c
    simp only at hc; subst hc
    simp [JG, wA]
   have refs : ∀ u, u ≠ d -> (V.ref u (.one (.sref d 0 0 (wC.length + news.length))) || YB u [.arr false (P.cellsOf (ZH P t)) (wC ++ news)]) = true -> VJ P o.op.operands.toList σ1 u := by
    intro u hu hr
    simp only [V.ref, At.ref, YB, Bool.or_false, beq_iff_eq] at hr
    exact absurd hr.symm hu
   have eY := h6
   unfold jS at h6
   split at h6
   ·rename_i s heq
    obtain ⟨rfl, rfl⟩ := h6
    refine ⟨.new _ _, rfl, xg hg hd sD h8 refs (fun σ wm sC => ?_)⟩
    unfold Step; rw [wA]
    simp only [hc]
    refine ⟨x, y, t, ha, uv, ?_, ?_, h3, h4, h5, [], news, σ, ?_, qK wm hy h7, sC, h9, tg, rfl⟩
    ·rw [<- wm.look x hx]; exact h1
    ·rw [<- wm.look y hy]; exact h2
    ·rw [<- wm.look x hx]; unfold jS; rw [heq]; exact ⟨rfl, rfl⟩
   ·rename_i tt j lo len heq
    obtain ⟨rows, ho, tE, hlen, holds, rfl⟩ := h6
    have lq : (look P σ1 t x).ref tt = true := XC heq (by simp [At.ref])
    refine ⟨.drop tt j _ _, rfl, ⟨⟨_, _, _, ho⟩, h8⟩, ?_, (fun hh => hh.elim (fun hh => by rw [sD] at hh; cases hh) (fun hh => by rw [hg] at hh; cases hh)), fun _ u hu hr => Wf (refs u hu hr), fun σ wm sC => qZ hg hd ?_⟩
    ·intro t' j' v os he
     cases he
     refine ⟨?_, x, by simp only [Jt, List.mem_append]; exact .inl hx, t, lq⟩
     obtain ⟨cc, ca, ct⟩ := c
     simp only at hc ha; subst hc ha
     cases x with
     | const v => rw [Vm.look, qf] at lq; cases lq
     | _ => simp [xZ, wA]
    ·have sE := wm.left
     unfold Step; rw [wA]
     simp only [hc]
     have tH : unc (look P σ t x) = .one (.sref tt j lo len) := by rw [<- sE.look x hx]; exact heq
     refine ⟨x, y, t, ha, uv, ?_, ?_, h3, h4, h5, wC, news, _, ?_, qK sE hy h7, sC.2, h9, tg, rfl⟩
     ·rw [<- sE.look x hx]; exact h1
     ·rw [<- sE.look y hy]; exact h2
     ·unfold jS; rw [tH]
      exact ⟨rows, sE.same hx tH (by simp [At.ref]) ho (by simp), tE, hlen, holds, rfl⟩
   ·exact h6.elim
  ·rename_i f hc
   have sD : JG o = false := by
    obtain ⟨cc, ca, ct⟩ := c
    simp only at hc; subst hc
    simp [JG, wA]
   rcases hs with ⟨own, res, nr, rfl⟩ | ⟨res, nr, hf, rfl⟩ | ⟨rows, res, qs, ha, gw, hq, hf, rfl⟩
   ·refine ⟨.put _, rfl, VE hg hd (fun u _ hr => by rw [OE] at hr; cases hr) (fun σ wm => ?_)⟩
    rw [wA] at wm
    unfold Step; rw [wA]
    simp only [hc]
    exact .inl ⟨own, res, kU (V1 wm) nr, rfl⟩
   ·refine ⟨.new _ _, rfl, xg hg hd sD hf (fun u hu hr => ?_) (fun σ wm sC => ?_)⟩
    ·rw [SJ hu, RZ] at hr; cases hr
    ·rw [wA] at wm
     unfold Step; rw [wA]
     simp only [hc]
     exact .inr (.inl ⟨res, kU (V1 wm) nr, sC, rfl⟩)
   ·refine ⟨.new _ _, rfl, xg hg hd sD hf (fun u hu hr => ?_) (fun σ wm sC => ?_)⟩
    ·rw [SJ hu, Jm] at hr; cases hr
    ·rw [wA] at wm
     unfold Step; rw [wA]
     simp only [hc]
     exact .inr (.inr ⟨rows, res, qs, yF (V1 wm) ha, gw, hq, sC, rfl⟩)
  ·rename_i h1 h2
   refine vk hs (fun σ v hv => ?_)
   unfold Step; rw [wA]
   simp only
   exact ⟨v, by rw [wA] at hv; exact hv, rfl⟩
 ·rename_i S T x wA
  rcases hs with hs | ⟨l, h1, h2, h3, h4, rfl⟩ | ⟨s, h1, h2, h3, h4, h5, rfl⟩
  ·refine vk hs (fun σ v hv => ?_)
   unfold Step; rw [wA]
   exact .inl ⟨v, by rw [wA] at hv; exact hv, rfl⟩
  ·refine ⟨.put _, rfl, VE hg hd (fun u _ hr => by cases hr) (fun σ wm => ?_)⟩
   have hx : x ∈ o.op.operands.toList := by simp [wA, Op.operands]
   unfold Step; rw [wA]
   exact .inr (.inl ⟨l, by rw [<- wm.look x hx]; exact h1, h2, h3, qK wm hx h4, rfl⟩)
  ·refine ⟨.put _, rfl, VE hg hd (fun u _ hr => by cases hr) (fun σ wm => ?_)⟩
   have hx : x ∈ o.op.operands.toList := by simp [wA, Op.operands]
   unfold Step; rw [wA]
   exact .inr (.inr ⟨s, by rw [<- wm.look x hx]; exact h1, h2, h3, by rw [<- wm.look x hx]; exact h4, h5, rfl⟩)
 ·rename_i n1 n2 n3 n4 n5 n6
  refine vk hs (fun σ v hv => ?_)
  unfold Step
  split
  ·rename_i T wA; exact absurd wA (n1 T)
  ·rename_i T x wA; exact absurd wA (n2 T x)
  ·rename_i T n ps wA; exact absurd wA (n3 T n ps)
  ·rename_i T x y wA; exact absurd wA (n4 T x y)
  ·rename_i c wA; exact absurd wA (n5 c)
  ·rename_i S T x wA; exact absurd wA (n6 S T x)
  ·exact ⟨v, hv, rfl⟩
end
end Go.Vm
namespace Go.Vm
open Go.RowKit
theorem XO {σ : St} {d : Nat} : σ.fresh d = true ↔ d < σ.length /\ ∀ t e, σ[t]? = some e -> t ≠ d -> e.1.ref d = false /\ YB d e.2 = false := by
 unfold St.fresh
 rw [Bool.and_eq_true, decide_eq_true_eq]
 refine and_congr_right fun _ => ⟨fun h t e he wB => KC h t e he (by omega), fun h => ?_⟩
 have : ∀ (σ : St) (k : Nat), (∀ t e, σ[t]? = some e -> k + t ≠ d -> e.1.ref d = false /\ YB d e.2 = false) -> JX d k σ = true := by
  intro σ
  induction σ with
  | nil => intro k _; rfl
  | cons e σ ih =>
   intro k hk
   simp only [JX, Bool.and_eq_true, Bool.or_eq_true, beq_iff_eq, Bool.not_eq_true']
   refine ⟨?_, ih (k + 1) fun t e' he wB => hk (t + 1) e' (by simpa using he) (by omega)⟩
   by_cases h0 : k = d
   ·exact .inl h0
   ·exact .inr (hk 0 e (by simp) (by omega))
 exact this σ 0 (fun t e he wB => h t e he (by omega))
theorem RG {σ : St} {t : Nat} {e : Ent} (h : σ[t]? = some e) (j : Nat) : σ.ob t j = Zw e.2 j := by unfold St.ob; rw [h]
theorem kO {σ : St} {t j : Nat} {o : Ob} (h : σ.ob t j = o) (hn : o ≠ .none) : ∃ e, σ[t]? = some e /\ Zw e.2 j = o := by
 unfold St.ob at h
 split at h
 ·rename_i e he; exact ⟨e, he, h⟩
 ·exact absurd h.symm hn
theorem W9 {u : Nat} : ∀ {os : List Ob} {j : Nat} {cells : List At}, Zw os j = .box cells -> Zs u cells = true -> YB u os = true
 | [], _, _, h, _ => by simp [Zw] at h
 | o :: os, 0, cells, h, hr => by
  have : o = .box cells := h
  subst this
  simp [YB, hr]
 | o :: os, j + 1, cells, h, hr => by
  have h' : Zw os j = .box cells := by simpa [Zw] using h
  have := W9 h' hr
  cases o <;> simp [YB, this]
theorem KY {u s : Nat} {q : Bool} {r : List (List D)} : ∀ {os : List Ob} {j : Nat}, Zw os j = .arr q s r -> YB u (os.set j .none) = YB u os
 | [], _, h => by simp [Zw] at h
 | o :: os, 0, h => by
  have : o = .arr q s r := h
  subst this
  simp [YB]
 | o :: os, j + 1, h => by
  have h' : Zw os j = .arr q s r := by simpa [Zw] using h
  have := KY (u := u) h'
  cases o <;> simp [YB, this]
theorem UZ {σ : St} {d : Nat} (h : Yt σ d = true) {e : Ent} (he : σ[d]? = some e) (u : Nat) : e.1.ref u = false /\ YB u e.2 = false := by
 unfold Yt at h
 split at h
 ·rename_i h1; rw [he] at h1; cases h1; exact ⟨rfl, rfl⟩
 ·rename_i h1; rw [he] at h1; cases h1; exact ⟨rfl, rfl⟩
 ·cases h
section
variable {P : Program} {ops : Array Oper} {o x y : Oper} {d dx dy : Nat} {σ σ1 σ2 : St}
theorem zn (hd : o.dst = some d) (hs : YX P ops o σ1 σ2) : ∃ e : Eff, σ2 = e.ap d σ1 /\ Sn P ops o d σ1 e := by
 unfold YX at hs
 split at hs
 ·rename_i hg
  simp only [hd] at hs
  exact HR hg hd hs
 ·rename_i j want hg
  obtain ⟨dj, d', g, v, uD, wO, wP, uN, hv, rfl⟩ := hs
  rw [hd] at wP; cases wP
  refine ⟨.put (.cnd g v), rfl, trivial, (fun t j v os h => by cases h), fun _ => ⟨_, rfl⟩, (fun h => by rw [hg] at h; cases h), fun σ wm _ => ?_⟩
  have vV : Operand.tmp dj ∈ Jt ops o := by simp [Jt, hg, uD]
  have vO : σ.get dj = σ1.get dj := (wm.look _ vV 0).symm
  unfold YX
  simp only [hg]
  refine ⟨dj, d, g, v, uD, by rw [<- wm.len]; exact wO, hd, by rw [vO]; exact uN, fun rp => ?_, rfl⟩
  have uS := hv rp
  have s6 := wm.left
  unfold Uk at uS ⊢
  split at uS
  ·rename_i c wA
   split at uS
   ·rename_i f hc
    obtain ⟨own, res, nr, rfl⟩ := uS
    rw [wA] at s6
    exact ⟨own, res, kU (V1 s6) nr, rfl⟩
   ·obtain ⟨v0, h1, h2⟩ := uS
    exact ⟨v0, yP h1 s6, h2⟩
  ·obtain ⟨v0, h1, h2⟩ := uS
   exact ⟨v0, yP h1 s6, h2⟩
theorem Jg (e : Eff) : (e.ap d σ).length = σ.length := by
 cases e <;> simp [Eff.ap, St.Xn, St.yA, St.YR]
theorem UP (e : Eff) {t : Nat} (wB : t ≠ d) : (e.ap d σ).get t = σ.get t := by
 cases e with
 | put v => simp [Eff.ap, St.JA, wB]
 | new v os => simp [Eff.ap, St.yn, wB]
 | drop a j v os => simp [Eff.ap, St.yn, St.Y2, wB]
theorem IW {t u : Nat} (h : (σ.get t).ref u = true) : ∃ e, σ[t]? = some e /\ e.1.ref u = true := by
 unfold St.get at h
 split at h
 ·rename_i e he; exact ⟨e, he, h⟩
 ·cases h
end
end Go.Vm
namespace Go.Vm
open Go.RowKit
section
variable {P : Program} {ops : Array Oper} {x y : Oper} {dx dy : Nat} {σ σ1 σ2 : St}
theorem JO {d : Nat} (hf : ∀ t e, σ[t]? = some e -> t ≠ d -> e.1.ref d = false) {z : Operand} (hz : z ≠ .tmp d) (ty : TypeId) : (look P σ ty z).ref d = false := by
 cases z with
 | tmp t =>
  have wB : t ≠ d := fun h => hz (by rw [h])
  cases hr : (look P σ ty (.tmp t)).ref d with
  | false => rfl
  | true =>
   obtain ⟨e, he, vU⟩ := IW (σ := σ) (t := t) hr
   rw [hf t e he wB] at vU; cases vU
 | const v => exact qf ty v d
 | global g => rfl
 | func f => rfl
theorem look_eq {d : Nat} (hg : ∀ t, t ≠ d -> σ1.get t = σ.get t) {z : Operand} (hz : z ≠ .tmp d) (ty : TypeId) : look P σ1 ty z = look P σ ty z := by
 cases z with
 | tmp t => exact hg t (fun h => hz (by rw [h]))
 | const v => rfl
 | global g => rfl
 | func f => rfl
theorem zK {e : Eff} {d : Nat} (h : e.ok d σ) (wB : ∀ v, e ≠ .put v) : ∀ t en, σ[t]? = some en -> t ≠ d -> en.1.ref d = false := by
 intro t en he ht
 cases e with
 | put v => exact absurd rfl (wB v)
 | new v os => exact ((XO.1 h).2 t en he ht).1
 | drop a j v os =>
  have := (XO.1 h.2).2 t
  rw [XY] at this
  by_cases rU : t = a
  ·rw [if_pos rU, he] at this
   exact (this _ rfl ht).1
  ·rw [if_neg rU] at this
   exact (this en he ht).1
theorem W3 {e : Eff} {d : Nat} (h : e.ok d σ) (wB : ∀ v, e ≠ .put v) : ∀ t en, σ[t]? = some en -> t ≠ d -> YB d en.2 = false := by
 intro t en he ht
 cases e with
 | put v => exact absurd rfl (wB v)
 | new v os => exact ((XO.1 h).2 t en he ht).2
 | drop a j v os =>
  obtain ⟨⟨q, s, r, ho⟩, hf⟩ := h
  have := (XO.1 hf).2 t
  rw [XY] at this
  by_cases rU : t = a
  ·rw [if_pos rU, he] at this
   have h2 := (this _ rfl ht).2
   subst rU
   rw [RG he] at ho
   rw [KY ho] at h2
   exact h2
  ·rw [if_neg rU] at this
   exact (this en he ht).2
theorem Fc {e : Eff} {d : Nat} (h : e.ok d σ) (wB : ∀ v, e ≠ .put v) : d < σ.length := by
 cases e with
 | put v => exact absurd rfl (wB v)
 | new v os => exact (XO.1 h).1
 | drop a j v os => have := (XO.1 h.2).1; rwa [St.YR] at this
theorem Li {e : Eff} {d : Nat} (h : e.ok d σ) {u j : Nat} (hu : (∀ v, e ≠ .put v) -> u ≠ d) (hn : (e.ap d σ).ob u j ≠ .none) : σ.ob u j = (e.ap d σ).ob u j := by
 cases e with
 | put v => simp only [Eff.ap, St.Xl]
 | new v os =>
  have := hu (by intro v h; cases h)
  simp only [Eff.ap, St.Xm, this, false_and, if_false]
 | drop a k v os =>
  have r6 := hu (by intro v h; cases h)
  obtain ⟨⟨q, s, r, ho⟩, _⟩ := h
  simp only [Eff.ap, St.Xm, r6, false_and, if_false] at hn ⊢
  rw [St.Yj σ a k _ u j (by rw [ho]; simp)] at hn ⊢
  split at hn
  ·exact absurd rfl hn
  ·rename_i hh; rw [if_neg hh]
theorem VV {e : Eff} {d : Nat} (vF : ∀ t j v os, e ≠ .drop t j v os) {u j : Nat} (hu : (∀ v, e ≠ .put v) -> u ≠ d) : (e.ap d σ).ob u j = σ.ob u j := by
 cases e with
 | put v => simp only [Eff.ap, St.Xl]
 | new v os =>
  have := hu (by intro v h; cases h)
  simp only [Eff.ap, St.Xm, this, false_and, if_false]
 | drop a k v os => exact absurd rfl (vF a k v os)
theorem GM {e : Eff} {d t : Nat} {en : Ent} (wa : e.ok d σ) (ht : t ≠ d) (he : (e.ap d σ)[t]? = some en) : ∃ l8, σ[t]? = some l8 /\ l8.1 = en.1 /\ ∀ u, YB u l8.2 = YB u en.2 := by
 cases e with
 | put v => simp only [Eff.ap, zi, if_neg ht] at he; exact ⟨en, he, rfl, fun _ => rfl⟩
 | new v os => simp only [Eff.ap, Jr, if_neg ht] at he; exact ⟨en, he, rfl, fun _ => rfl⟩
 | drop a j v os =>
  simp only [Eff.ap, Jr, if_neg ht, XY] at he
  split at he
  ·rename_i rU
   subst rU
   obtain ⟨⟨q, s, r, ho⟩, _⟩ := wa
   obtain ⟨e0, tq, vL⟩ := kO ho (by simp)
   rw [tq] at he
   simp at he
   subst he
   exact ⟨e0, tq, rfl, fun u => (KY vL).symm⟩
  ·exact ⟨en, he, rfl, fun _ => rfl⟩
theorem swap (vy : x.dst = some dx) (uV : y.dst = some dy) (wB : dx ≠ dy) (tY : ∀ z ∈ Jt ops y, z ≠ .tmp dx) (rT : ∀ z ∈ Jt ops x, z ≠ .tmp dy) (vF : xZ y = false) (m7 : y.guard = none \/ JG x = true \/ x.guard.isSome = true)
  (wg : Yt σ dx = true) (h1 : YX P ops x σ σ1) (h2 : YX P ops y σ1 σ2) : ∃ σ1', YX P ops y σ σ1' /\ YX P ops x σ1' σ2 := by
 obtain ⟨ex, rfl, sV, s5, nt, _, gp⟩ := zn vy h1
 obtain ⟨ey, rfl, gq, nu, _, lZ, gr⟩ := zn uV h2
 have nQ : ∀ t j v os, ey ≠ .drop t j v os := by
  intro t j v os h
  have := (nu t j v os h).1
  rw [vF] at this; cases this
 have lu : Sub P (Jt ops y) (ex.ap dx σ) σ := by
  refine ⟨Jg ex, fun z hz ty => look_eq (fun t ht => UP ex ht) (tY z hz) ty, fun z hz ty u hr j hn => ?_⟩
  refine Li sV (fun uH hu => ?_) hn
  subst hu
  rw [look_eq (fun t ht => UP ex ht) (tY z hz) ty, JO (zK sV uH) (tY z hz)] at hr
  cases hr
 have pn : ey.ok dy σ := by
  cases ey with
  | put v => trivial
  | drop a j v os => exact absurd rfl (nQ a j v os)
  | new v os =>
   have hf := XO.1 gq
   refine XO.2 ⟨by rw [<- Jg ex (d := dx)]; exact hf.1, fun t e he ht => ?_⟩
   by_cases oD : t = dx
   ·subst oD; exact UZ wg he dy
   ·cases ex with
    | put v' => exact hf.2 t e (by simp only [Eff.ap, zi, if_neg oD]; exact he) ht
    | new v' pZ => exact hf.2 t e (by simp only [Eff.ap, Jr, if_neg oD]; exact he) ht
    | drop a j v' pZ =>
     obtain ⟨⟨q, s, r, ho⟩, _⟩ := sV
     by_cases rU : t = a
     ·subst rU
      have := hf.2 t (e.1, e.2.set j .none) (by simp only [Eff.ap, Jr, if_neg oD, XY, if_true, he, Option.map_some]) ht
      rw [RG he] at ho
      rw [KY ho] at this
      exact this
     ·exact hf.2 t e (by simp only [Eff.ap, Jr, if_neg oD, XY, if_neg rU]; exact he) ht
 have nv := gr σ lu pn
 have ny : Sub P (Jt ops x) σ (ey.ap dy σ) := by
  refine ⟨(Jg ey).symm, fun z hz ty => (look_eq (fun t ht => UP ey ht) (rT z hz) ty).symm, fun z hz ty u hr j hn => ?_⟩
  refine VV nQ (fun uH hu => ?_)
  subst hu
  rw [JO (zK pn uH) (rT z hz)] at hr
  cases hr
 have lv : (∀ v, ex ≠ .put v) -> ey.ref dx = false := by
  intro uH
  have hg : y.guard = none := by
   rcases m7 with h | h
   ·exact h
   ·obtain ⟨v, hv⟩ := nt h; exact absurd hv (uH v)
  cases hr : ey.ref dx with
  | false => rfl
  | true =>
   obtain ⟨z, hz, ty, vE⟩ := lZ hg dx wB hr
   have hl : look P (ex.ap dx σ) ty z = look P σ ty z := look_eq (fun t ht => UP ex ht) (tY z hz) ty
   rw [hl] at vE
   rcases vE with vE | ⟨t', cells, m9, ho, hc⟩
   ·rw [JO (zK sV uH) (tY z hz)] at vE; cases vE
   ·have oD : t' ≠ dx := by
     intro h; subst h
     rw [JO (zK sV uH) (tY z hz)] at m9; cases m9
    have wZ : σ.ob t' 0 = .box cells := by rw [Li sV (fun _ => oD) (by rw [ho]; simp), ho]
    obtain ⟨en, la, lb⟩ := kO wZ (by simp)
    have := W3 sV uH t' en la oD
    rw [W9 lb hc] at this; cases this
 have entries : (∀ v, ex ≠ .put v) -> ∀ t e, (ey.ap dy σ)[t]? = some e -> t ≠ dx -> e.1.ref dx = false /\ YB dx e.2 = false := by
  intro uH t e he ht
  have hy := lv uH
  by_cases uZ : t = dy
  ·subst uZ
   cases ey with
   | put v =>
    simp only [Eff.ap, zi, if_true, Option.map_eq_some_iff] at he
    obtain ⟨e0, tq, rfl⟩ := he
    exact ⟨hy, W3 sV uH t e0 tq ht⟩
   | new v os =>
    simp only [Eff.ap, Jr, if_true, Option.map_eq_some_iff] at he
    obtain ⟨e0, tq, rfl⟩ := he
    simp only [Eff.ref, Bool.or_eq_false_iff] at hy
    exact hy
   | drop a j v os => exact absurd rfl (nQ a j v os)
  ·obtain ⟨e0, tq, h1, h2⟩ := GM pn uZ he
   rw [<- h1, <- h2]
   exact ⟨zK sV uH t e0 tq ht, W3 sV uH t e0 tq ht⟩
 have lz : ex.ok dx (ey.ap dy σ) := by
  cases ex with
  | put v => trivial
  | new v os =>
   have uH : ∀ v', Eff.new v os ≠ .put v' := by intro v' h; cases h
   exact XO.2 ⟨by rw [Jg]; exact Fc sV uH, entries uH⟩
  | drop a j v os =>
   have uH : ∀ v', Eff.drop a j v os ≠ .put v' := by intro v' h; cases h
   obtain ⟨z, hz, ty, hr⟩ := (s5 a j v os rfl).2
   obtain ⟨q, s, r, ho⟩ := sV.1
   have wZ : (ey.ap dy σ).ob a j = .arr q s r := by rw [<- ho]; exact ny.ob z hz ty a hr j (by rw [ho]; simp)
   refine ⟨⟨q, s, r, wZ⟩, XO.2 ⟨by rw [St.YR, Jg]; exact Fc sV uH, fun t e he ht => ?_⟩⟩
   rw [XY] at he
   split at he
   ·rename_i rU
    subst rU
    obtain ⟨e0, tq, vL⟩ := kO wZ (by simp)
    rw [tq] at he; simp at he; subst he
    have := entries uH t e0 tq ht
    exact ⟨this.1, by rw [KY vL]; exact this.2⟩
   ·exact entries uH t e he ht
 refine ⟨_, nv, ?_⟩
 have := gp _ ny lz
 have heq : ex.ap dx (ey.ap dy σ) = ey.ap dy (ex.ap dx σ) := by
  apply List.ext_getElem?
  intro t
  have hU := wB
  cases ex with
  | put v =>
   cases ey with
   | put v' => simp only [Eff.ap, zi]; by_cases h1 : t = dx <;> by_cases h2 : t = dy <;> simp_all
   | new v' pZ => simp only [Eff.ap, zi, Jr]; by_cases h1 : t = dx <;> by_cases h2 : t = dy <;> simp_all
   | drop a j v' pZ => exact absurd rfl (nQ a j v' pZ)
  | new v os =>
   cases ey with
   | put v' => simp only [Eff.ap, zi, Jr]; by_cases h1 : t = dx <;> by_cases h2 : t = dy <;> simp_all
   | new v' pZ => simp only [Eff.ap, Jr]; by_cases h1 : t = dx <;> by_cases h2 : t = dy <;> simp_all
   | drop a j v' pZ => exact absurd rfl (nQ a j v' pZ)
  | drop a j v os =>
   obtain ⟨z, hz, ty, hr⟩ := (s5 a j v os rfl).2
   cases ey with
   | put v' =>
    simp only [Eff.ap, zi, Jr, XY]
    by_cases h1 : t = dx <;> by_cases h2 : t = dy <;> by_cases h3 : t = a <;> simp_all
    all_goals (first | (cases σ[dy]? <;> rfl) | (cases σ[t]? <;> rfl) | (cases σ[a]? <;> rfl))
   | new v' pZ =>
    have eZ : a ≠ dy := by
     intro h; subst h
     rw [JO (zK pn (by intro v h; cases h)) (rT z hz)] at hr; cases hr
    simp only [Eff.ap, Jr, XY]
    by_cases h1 : t = dx <;> by_cases h2 : t = dy <;> by_cases h3 : t = a <;> simp_all
   | drop a' j' v' pZ => exact absurd rfl (nQ a' j' v' pZ)
 rw [<- heq]
 exact this
end
end Go.Vm
namespace Go.Vm
open Go.RowKit
def NL (ops : Array Oper) (bar : Oper -> Bool) (x y : Oper) : Bool := !bar x && !bar y &&
 (match x.dst, y.dst with
 | some dx, some dy => dx != dy && !(Jt ops y).any (J4 dx) && !(Jt ops x).any (J4 dy) && !xZ y && (y.guard.isNone || JG x || x.guard.isSome)
 | _, _ => false)
def NH (bar : Oper -> Bool) (x y : Oper) : Bool := !bar x && !bar y && x.guard.isNone && y.guard.isNone &&
 (match x.dst, y.dst, y.op with
 | some dx, none, .store _ p q => (match x.op with | .move _ => true | .assign _ => true | .extract _ _ => true | _ => false) && !J4 dx p && !J4 dx q
 | _, _, _ => false)
def N8 (bar : Oper -> Bool) (x y : Oper) : Bool := !bar x && bar y && x.guard.isNone && y9 y && y.guard.isNone && y.dst.isNone &&
 (match x.dst with
 | some dx => (match x.op with | .move _ => true | .assign _ => true | .extract _ _ => true | _ => false) && yr y dx
 | none => false)
def WD (PT : List (Nat × Nat)) (σ : St) : Prop := ∀ p ∈ PT, σ.get p.1 = .any \/ ∃ c, unc (σ.get p.1) = .one (.bptr p.2 c)
def ptB (PT : List (Nat × Nat)) (σ : St) : Bool := PT.all fun p => match σ.get p.1 with | .any => true | v => (match unc v with | .one (.bptr b _) => b == p.2 | _ => false)
def Vn (ops : Array Oper) (PT : List (Nat × Nat)) : Bool := ops.toList.all fun o => match o.dst with
 | none => true
 | some d => PT.all fun p => p.1 != d || (o.guard.isNone && (match o.op with | .fieldAddr _ (.tmp r) _ => PT.contains (r, p.2) | .move (.tmp r) => PT.contains (r, p.2) | _ => false))
def jv (PT : List (Nat × Nat)) (b : Nat) : Op -> Bool
 | .load _ (.tmp t) => PT.any fun r => r.1 == t && r.2 != b
 | .fieldAddr _ _ _ => true
 | .move _ => true
 | .assign _ => true
 | .extract _ _ => true
 | .binOp _ _ _ _ _ => true
 | .call ⟨.builtin .len, ⟨[_]⟩, ⟨[_]⟩⟩ => true
 | _ => false
def swapT (PT : List (Nat × Nat)) (bar : Oper -> Bool) (x y : Oper) : Bool := !bar x && !bar y && x.guard.isNone && y.guard.isNone &&
 (match x.dst, y.dst, y.op with
 | some dx, none, .store _ (.tmp tp) q => tp != dx && !J4 dx q && PT.any fun p => p.1 == tp && jv PT p.2 x.op
 | _, _, _ => false)
def Ra (NB : List Nat) (σ : St) : Prop := ∀ t ∈ NB, ∀ b c, unc (σ.get t) ≠ .one (.bptr b c)
def nbB (NB : List Nat) (σ : St) : Bool := NB.all fun t => match unc (σ.get t) with | .one (.bptr _ _) => false | _ => true
def RA (P : Program) (ops : Array Oper) (NB : List Nat) : Bool := ops.toList.all fun o => match o.dst with
 | none => true
 | some d => NB.all fun t => t != d || (o.guard.isNone && (match o.op with | .indexAddr T _ _ => YS P T | _ => false))
def R7 (PT : List (Nat × Nat)) (NB : List Nat) (σ : St) : Prop := WD PT σ /\ Ra NB σ
def N1 (PT : List (Nat × Nat)) (NB : List Nat) (bar : Oper -> Bool) (x y : Oper) : Bool := !bar x && bar y && x.guard.isNone && y9 y && y.guard.isNone && y.dst.isNone &&
 (match x.dst, y.op with
 | some dx, .store _ (.tmp tp) q => NB.contains tp && tp != dx && !J4 dx q && (match x.op with | .load _ (.tmp t) => PT.any fun r => r.1 == t | .fieldAddr _ (.tmp t) _ => PT.any fun r => r.1 == t | _ => false)
 | _, _ => false)
def Mr (PT : List (Nat × Nat)) : Op -> Bool
 | .move _ => true
 | .load _ (.tmp t) => PT.any fun r => r.1 == t
 | .fieldAddr _ (.tmp _) _ => true
 | .slice _ (.tmp _) _ _ none => true
 | _ => false
def Nd (PT : List (Nat × Nat)) (ops : Array Oper) (bar : Oper -> Bool) (x y : Oper) : Bool := bar x && !bar y && zj x && x.guard.isNone && y.guard.isNone && Mr PT y.op &&
 (match x.dst, y.dst with
 | some dx, some dy => dx != dy && !(Jt ops y).any (J4 dx) && !(Jt ops x).any (J4 dy)
 | _, _ => false)
def OJ (PT : List (Nat × Nat)) (o : Oper) : Option Nat := match o.op with | .call ⟨.value (.func _), ⟨.tmp z :: _⟩, _⟩ => (PT.find? (fun p => p.1 == z)).map (·.2) | _ => none
def Ej : Operand -> Bool
 | .const _ => true
 | _ => false
def Ul (PT : List (Nat × Nat)) (y x : Oper) : Bool := (x.op.operands.toList.all Ej && !xZ x) || (match OJ PT y with | some b => jv PT b x.op | none => false)
def Nn (P : Program) (PT : List (Nat × Nat)) (ops : Array Oper) (bar : Oper -> Bool) (x y : Oper) : Bool := x.guard.isNone && y.guard.isNone && Wc bar x && Wc bar y && (match x.dst, y.dst with
 | some dx, some dy => dx != dy && !(Jt ops y).any (J4 dx) && !(Jt ops x).any (J4 dy) && ((!bar x && bar y && QL P y && Ul PT y x) || (bar x && QL P x && !bar y && Ul PT x y))
 | _, _ => false)
def V6 (o : Oper) (j : Nat) : Bool := o.after.any fun e => e.on == j && Region.binds .any e
def Wb : List Oper -> List Nat -> List Nat
 | [], acc => acc
 | o :: rest, acc => Wb rest (acc ++ [o.after.toList.foldl (fun m e => if Region.binds .any e then m ||| (1 <<< e.on) ||| acc.getD e.on 0 else m) 0])
def Lk (ms : List Nat) (i j : Nat) : Bool := (ms.getD i 0).testBit j
inductive Pre (ops : Array Oper) : Nat -> Nat -> Prop
 | one {i j : Nat} {o : Oper} (ho : ops[i]? = some o) (hp : V6 o j = true) : Pre ops i j
 | more {i m j : Nat} {o : Oper} (ho : ops[i]? = some o) (hp : V6 o m = true) (h : Pre ops m j) : Pre ops i j
theorem Pn {ops : Array Oper} : ∀ {l : List Oper} {acc : List Nat}, (∀ k o, l[k]? = some o -> ops[acc.length + k]? = some o) -> (∀ i j, (acc.getD i 0).testBit j = true -> Pre ops i j) -> ∀ i j, Lk (Wb l acc) i j = true -> Pre ops i j
 | [], acc, _, ha, i, j, h => ha i j h
 | o :: rest, acc, hl, ha, i, j, h => by
  refine Pn (l := rest) (fun k o' hk => ?_) (fun i j rP => ?_) i j h
  ·have := hl (k + 1) o' (by simpa using hk)
   rw [List.length_append, List.length_singleton, Nat.add_assoc, Nat.add_comm 1 k]; exact this
  ·rw [List.getD_eq_getElem?_getD] at rP
   rcases Nat.lt_trichotomy i acc.length with wO | heq | rp
   ·rw [List.getElem?_append_left wO, <- List.getD_eq_getElem?_getD] at rP
    exact ha i j rP
   ·subst heq
    rw [List.getElem?_append_right (Nat.le_refl _)] at rP
    simp only [Nat.sub_self, List.getElem?_cons_zero, Option.getD_some] at rP
    have ho := hl 0 o (by simp)
    rw [Nat.add_zero] at ho
    have key : ∀ (es : List Edge) (m : Nat), (∀ e ∈ es, e ∈ o.after) -> (∀ j, m.testBit j = true -> Pre ops acc.length j) -> ∀ j, (es.foldl (fun m e => if Region.binds .any e then m ||| (1 <<< e.on) ||| acc.getD e.on 0 else m) m).testBit j = true -> Pre ops acc.length j := by
     intro es
     induction es with
     | nil => intro m _ hm j hj; exact hm j hj
     | cons e es ih =>
      intro m hP hm j hj
      refine ih _ (fun e' nm => hP e' (by simp [nm])) (fun j hj => ?_) j hj
      by_cases hb : Region.binds .any e = true
      ·simp only [hb, if_true] at hj
       have hp : V6 o e.on = true := by
        unfold V6
        rw [<- Array.any_toList]
        exact List.any_eq_true.2 ⟨e, by simpa using hP e (by simp), by simp [hb]⟩
       rw [Nat.testBit_or, Nat.testBit_or, Bool.or_eq_true, Bool.or_eq_true] at hj
       rcases hj with (hj | hj) | hj
       ·exact hm j hj
       ·rw [Nat.testBit_shiftLeft] at hj
        simp only [Bool.and_eq_true, decide_eq_true_eq] at hj
        have h1 : j - e.on = 0 := by
         have := hj.2
         rw [show (1 : Nat) = 2 ^ 0 from rfl, Nat.testBit_two_pow] at this
         have h3 : 0 = j - e.on := by simpa using this
         omega
        have : j = e.on := by omega
        subst this
        exact .one ho hp
       ·exact .more ho hp (ha e.on j hj)
      ·simp only [hb, Bool.false_eq_true, if_false] at hj; exact hm j hj
    exact key o.after.toList 0 (fun e he => by simpa using he) (fun j hj => by simp at hj) j rP
   ·rw [List.getElem?_eq_none (by simp; omega)] at rP
    simp at rP
def ML (ops : Array Oper) (i j : Nat) : Bool := Lk (Wb ops.toList []) i j
theorem Ie {ops : Array Oper} {i j : Nat} (h : ML ops i j = true) : Pre ops i j :=
 Pn (l := ops.toList) (acc := []) (fun k o hk => by simpa using hk) (fun i j h => by simp at h) i j h
def FU (P : Program) (ops : Array Oper) (bar : Oper -> Bool) (PT : List (Nat × Nat)) (NB : List Nat) (ms : List Nat) (i j : Nat) : Bool := match ops[i]?, ops[j]? with | some oi, some oj => Lk ms i j || NL ops bar oj oi || NH bar oj oi || swapT PT bar oj oi || N8 bar oj oi || Nd PT ops bar oj oi || N1 PT NB bar oj oi || Nn P PT ops bar oj oi | _, _ => false
def FZ (ops : Array Oper) (pos : Nat -> Nat) (i : Nat) : Bool := match ops[i]? with | some o => o.after.all fun e => !Region.binds .any e || (decide (pos e.on < pos i) && decide (e.on < ops.size)) | none => false
def Lf (ops : Array Oper) (j : Nat) : Bool := match ops[j]? with
 | some o => (match o.dst with | some d => (List.range ops.size).all fun k => k == j || (match ops[k]? with | some q => q.dst != some d | none => true) | none => false)
 | none => false
def OL (ops : Array Oper) (pos : Nat -> Nat) (ms : List Nat) (j : Nat) : Bool := (List.range ops.size).any fun i => decide (pos j < pos i) && !Lk ms i j
def jt (ops : Array Oper) (pos : Nat -> Nat) (j : Nat) : Bool := OL ops pos (Wb ops.toList []) j
def NJ (P : Program) (ops : Array Oper) (pos : Nat -> Nat) (bar : Oper -> Bool) (PT : List (Nat × Nat)) (NB : List Nat) (ms : List Nat) : Bool :=
 (List.range ops.size).all fun i => FZ ops pos i && ((List.range ops.size).all fun j => !decide (pos j < pos i) || FU P ops bar PT NB ms i j) && (!OL ops pos ms i || Lf ops i)
def TH (P : Program) (ops : Array Oper) (pos : Nat -> Nat) (bar : Oper -> Bool) : Bool := NJ P ops pos bar [] [] (Wb ops.toList [])
def KT (ops : Array Oper) (pos : Nat -> Nat) (σ : St) : Bool :=
 let ms := Wb ops.toList []
 (List.range ops.size).all fun j => !OL ops pos ms j || (match (ops[j]?).bind (·.dst) with | some d => Yt σ d | none => false)
theorem yz {xs : List Operand} {d : Nat} (h : xs.any (J4 d) = false) : ∀ z ∈ xs, z ≠ .tmp d := by
 intro z hz he
 subst he
 have := List.any_eq_false.1 h _ hz
 simp [J4] at this
theorem LL {ops : Array Oper} {bar : Oper -> Bool} {x y : Oper} (h : NL ops bar x y = true) : bar x = false /\ bar y = false /\ ∃ dx dy, x.dst = some dx /\ y.dst = some dy /\ dx ≠ dy /\ (∀ z ∈ Jt ops y, z ≠ .tmp dx) /\ (∀ z ∈ Jt ops x, z ≠ .tmp dy) /\ xZ y = false /\ (y.guard = none \/ JG x = true \/ x.guard.isSome = true) := by
 unfold NL at h
 rw [Bool.and_eq_true, Bool.and_eq_true] at h
 obtain ⟨⟨vP, wk⟩, h⟩ := h
 refine ⟨by simpa using vP, by simpa using wk, ?_⟩
 split at h
 ·rename_i dx dy h1 h2
  simp only [Bool.and_eq_true, bne_iff_ne, ne_eq, Bool.not_eq_true', Bool.or_eq_true, Option.isNone_iff_eq_none] at h
  exact ⟨dx, dy, h1, h2, h.1.1.1.1, yz h.1.1.1.2, yz h.1.1.2, h.1.2, or_assoc.1 h.2⟩
 ·cases h
theorem JJ {P : Program} {σ : St} {t j : Nat} {o : Ob} {T : TypeId} {x : Operand} : look P (σ.ZT t j o) T x = look P σ T x := by
 cases x with
 | tmp u => simp [look, St.Y2]
 | const c => rfl
 | global g => rfl
 | func f => rfl
theorem kl {σ : St} {d : Nat} {v : V} : ∀ (xs : List At), rowOf (σ.put d v) xs = rowOf σ xs
 | [] => rfl
 | x :: xs => by
  have : Jf (σ.put d v) x = Jf σ x := by cases x <;> simp [Jf, St.Xl]
  simp only [rowOf, this, kl xs]
theorem FF {P : Program} {ops : Array Oper} {bar : Oper -> Bool} {x y : Oper} {σ σ1 σ2 : St} (h : NH bar x y = true) (vB : Qy P ops bar x σ σ1) (wL : Qy P ops bar y σ1 σ2) : ∃ σ1', YX P ops y σ σ1' /\ YX P ops x σ1' σ2 := by
 unfold NH at h
 simp only [Bool.and_eq_true, Bool.not_eq_true', Option.isNone_iff_eq_none] at h
 obtain ⟨⟨⟨⟨vP, wk⟩, sf⟩, ux⟩, h⟩ := h
 have vB := vB.resolve_right (fun hh => by rw [vP] at hh; cases hh.1)
 have wL := wL.resolve_right (fun hh => by rw [wk] at hh; cases hh.1)
 split at h
 ·rename_i dx T p q vy uV wA
  simp only [Bool.and_eq_true, Bool.not_eq_true'] at h
  obtain ⟨⟨hv, hp⟩, hq⟩ := h
  unfold YX at vB wL
  simp only [sf, vy] at vB
  simp only [ux, uV, wA] at wL
  have e1 : ∃ v, Zv P σ x.op x.type v /\ σ1 = σ.put dx v := by
   unfold Step at vB
   cases hx : x.op <;> rw [hx] at vB hv <;> first | exact vB | (exact Bool.noConfusion hv)
  obtain ⟨v, uS, rfl⟩ := e1
  have vG : ∀ (t j : Nat) (o : Ob), Zv P (σ.ZT t j o) x.op x.type v := by
   intro t j o
   cases hx : x.op <;> rw [hx] at hv uS <;> first | (exact Bool.noConfusion hv) | (simp only [Zv, JJ] at uS ⊢; exact uS)
  have nc : ∀ (t j : Nat) (o : Ob), YX P ops x (σ.ZT t j o) ((σ.put dx v).ZT t j o) := by
   intro t j o
   unfold YX
   simp only [sf, vy]
   have := vG t j o
   rw [J6]
   unfold Step
   cases hx : x.op <;> rw [hx] at hv this <;> first | exact ⟨v, this, rfl⟩ | (exact Bool.noConfusion hv)
  unfold KQ at wL
  rw [YY hp, YY hq] at wL
  obtain ⟨k1, k2, k3, k4, wL⟩ := wL
  split at wL
  ·rename_i t c hl
   obtain ⟨cells, c1, c2, c3, rfl⟩ := wL
   rw [St.Xl] at c1
   refine ⟨_, ?_, nc _ _ _⟩
   unfold YX KQ
   simp only [ux, uV, wA]
   refine ⟨k1, k2, k3, k4, ?_⟩
   rw [hl]
   exact ⟨cells, c1, c2, c3, rfl⟩
  ·rename_i t j i c hl
   obtain ⟨q', size, rows, ds, c1, c2, c3, c4, c5, c6, c7, rfl⟩ := wL
   rw [St.Xl] at c1
   rw [kl] at c3
   refine ⟨_, ?_, nc _ _ _⟩
   unfold YX KQ
   simp only [ux, uV, wA]
   refine ⟨k1, k2, k3, k4, ?_⟩
   rw [hl]
   exact ⟨q', size, rows, ds, c1, c2, c3, c4, c5, c6, c7, rfl⟩
  ·exact wL.elim
 ·cases h
theorem KW {P : Program} {σ : St} {T : TypeId} {t : Nat} : look P σ T (.tmp t) = σ.get t := rfl
theorem WA {P : Program} {PT : List (Nat × Nat)} {b : Nat} {o : Oper} {op : Op} {d : Nat} {σ σ' : St} (ho : o.op = op) (h : jv PT b op = true) : Step P o d σ σ' ↔ ∃ v, Zv P σ op o.type v /\ σ' = σ.put d v := by
 unfold Step
 rw [ho]
 unfold jv at h
 split at h <;> first | exact Iff.rfl | (exact Bool.noConfusion h)
theorem Mk {P : Program} {PT : List (Nat × Nat)} {b : Nat} {op : Op} {ty : TypeId} {v : V} {σ : St} {cells cs : List At} (h : jv PT b op = true) (hp : WD PT σ) (c1 : σ.ob b 0 = .box cells) (hv : Zv P σ op ty v) : Zv P (σ.ZT b 0 (.box cs)) op ty v := by
 have wB : σ.ob b 0 ≠ .none := by rw [c1]; intro e; cases e
 have ho := fun u i => St.Yj σ b 0 (.box cs) u i wB
 have vh : ∀ t j, (∃ q size rows, σ.ob t j = .arr q size rows) -> ∃ q size rows, (σ.ZT b 0 (.box cs)).ob t j = .arr q size rows := by
  rintro t j ⟨q, size, rows, e⟩
  by_cases hh : t = b /\ j = 0
  ·obtain ⟨rfl, rfl⟩ := hh; rw [c1] at e; cases e
  ·exact ⟨q, size, rows, by rw [ho, if_neg hh]; exact e⟩
 have r7 : ∀ t j, (∃ size rows, σ.ob t j = .lit size rows) -> ∃ size rows, (σ.ZT b 0 (.box cs)).ob t j = .lit size rows := by
  rintro t j ⟨size, rows, e⟩
  by_cases hh : t = b /\ j = 0
  ·obtain ⟨rfl, rfl⟩ := hh; rw [c1] at e; cases e
  ·exact ⟨size, rows, by rw [ho, if_neg hh]; exact e⟩
 have pk : ∀ t, (∃ cells, σ.ob t 0 = .box cells) -> ∃ cells, (σ.ZT b 0 (.box cs)).ob t 0 = .box cells := by
  rintro t ⟨ce, e⟩
  by_cases hh : t = b
  ·subst hh; exact ⟨cs, by rw [ho, if_pos ⟨rfl, rfl⟩]⟩
  ·exact ⟨ce, by rw [ho, if_neg (fun gi => hh gi.1)]; exact e⟩
 unfold jv at h
 split at h
 ·rename_i T t
  simp only [List.any_eq_true, Bool.and_eq_true, beq_iff_eq, bne_iff_ne, ne_eq] at h
  obtain ⟨r, gu, rfl, ld⟩ := h
  simp only [Zv, JJ] at hv ⊢
  refine ⟨hv.1, hv.2.1, ?_⟩
  have hv := hv.2.2
  rw [KW] at hv ⊢
  rcases hp r gu with e | ⟨c, e⟩
  ·rw [e] at hv; exact hv.elim
  ·rw [e] at hv ⊢
   obtain ⟨ce, e1, e2, e3⟩ := hv
   exact ⟨ce, by rw [ho, if_neg (fun hh => ld hh.1)]; exact e1, e2, e3⟩
 ·simp only [Zv, JJ] at hv ⊢
  refine ⟨hv.1, hv.2.1, ?_⟩
  have hv := hv.2.2
  split at hv
  ·rename_i e; first | exact ⟨pk _ hv.1, hv.2⟩ | (simp only [e]; exact ⟨pk _ hv.1, hv.2⟩)
  ·rename_i e; first | exact ⟨vh _ _ hv.1, hv.2⟩ | (simp only [e]; exact ⟨vh _ _ hv.1, hv.2⟩)
  ·rename_i e; first | exact hv | (simp only [e]; exact hv)
  ·rename_i e
   have hq : ∀ t j, (∃ size rows, σ.ob t j = .arr true size rows) -> ∃ size rows, (σ.ZT b 0 (.box cs)).ob t j = .arr true size rows := by
    rintro t j ⟨size, rows, e⟩
    by_cases hh : t = b /\ j = 0
    ·obtain ⟨rfl, rfl⟩ := hh; rw [c1] at e; cases e
    ·exact ⟨size, rows, by rw [ho, if_neg hh]; exact e⟩
   first | exact ⟨hq _ _ hv.1, hv.2⟩ | (simp only [e]; exact ⟨hq _ _ hv.1, hv.2⟩)
  ·exact hv.elim
 ·simp only [Zv, JJ] at hv ⊢; exact hv
 ·simp only [Zv, JJ] at hv ⊢; exact hv
 ·simp only [Zv, JJ] at hv ⊢; exact hv
 ·simp only [Zv, JJ] at hv ⊢; exact hv
 ·simp only [Zv, JJ] at hv ⊢
  refine ⟨hv.1, ?_⟩
  have hv := hv.2
  split at hv
  ·rename_i e; first | exact hv | (simp only [e]; exact hv)
  ·rename_i e; first | exact hv | (simp only [e]; exact hv)
  ·rename_i e; first | exact hv | (simp only [e]; exact hv)
  ·rename_i e; first | exact ⟨hv.1, hv.2.1.imp (vh _ _) (r7 _ _), hv.2.2⟩ | (simp only [e]; exact ⟨hv.1, hv.2.1.imp (vh _ _) (r7 _ _), hv.2.2⟩)
  ·rename_i u j i c e
   obtain ⟨g1, size, rows, n, s, g2, g3⟩ := hv
   have g4 : (σ.ZT b 0 (.box cs)).ob u j = .arr true size rows := by
    rw [ho]
    by_cases hh : u = b /\ j = 0
    ·obtain ⟨rfl, rfl⟩ := hh; rw [c1] at g2; cases g2
    ·rw [if_neg hh]; exact g2
   first | exact ⟨g1, size, rows, n, s, g4, g3⟩ | (simp only [e]; exact ⟨g1, size, rows, n, s, g4, g3⟩)
  ·exact hv.elim
 ·exact Bool.noConfusion h
theorem F5 {P : Program} {ops : Array Oper} {bar : Oper -> Bool} {PT : List (Nat × Nat)} {x y : Oper} {σ σ1 σ2 : St} (h : swapT PT bar x y = true) (hp : WD PT σ) (vB : Qy P ops bar x σ σ1) (wL : Qy P ops bar y σ1 σ2) : ∃ σ1', YX P ops y σ σ1' /\ YX P ops x σ1' σ2 := by
 unfold swapT at h
 simp only [Bool.and_eq_true, Bool.not_eq_true', Option.isNone_iff_eq_none] at h
 obtain ⟨⟨⟨⟨vP, wk⟩, sf⟩, ux⟩, h⟩ := h
 have vB := vB.resolve_right (fun hh => by rw [vP] at hh; cases hh.1)
 have wL := wL.resolve_right (fun hh => by rw [wk] at hh; cases hh.1)
 split at h
 ·rename_i dx T tp q vy uV wA
  simp only [Bool.and_eq_true, Bool.not_eq_true', List.any_eq_true, beq_iff_eq, bne_iff_ne, ne_eq] at h
  obtain ⟨⟨wB, hq⟩, p, oZ, uh, hv⟩ := h
  have wv : J4 dx (.tmp tp) = false := by simp [J4, wB]
  unfold YX at vB wL
  simp only [sf, vy] at vB
  simp only [ux, uV, wA] at wL
  obtain ⟨v, uS, rfl⟩ := (WA rfl hv).1 vB
  unfold KQ at wL
  rw [YY wv, YY hq, KW] at wL
  obtain ⟨k1, k2, k3, k4, wL⟩ := wL
  have uf := hp p oZ
  rw [uh] at uf
  rcases uf with uf | ⟨c, uf⟩
  ·rw [uf] at wL; exact wL.elim
  ·rw [uf] at wL
   obtain ⟨cells, c1, c2, c3, rfl⟩ := wL
   rw [St.Xl] at c1
   refine ⟨σ.ZT p.2 0 (.box (place cells c (unc (look P σ T q)).cells)), ?_, ?_⟩
   ·unfold YX KQ
    simp only [ux, uV, wA]
    refine ⟨k1, by rw [KW]; exact k2, k3, k4, ?_⟩
    rw [KW, uf]
    exact ⟨cells, c1, c2, c3, rfl⟩
   ·unfold YX
    simp only [sf, vy]
    rw [J6]
    exact (WA rfl hv).2 ⟨v, Mk hv hp c1 uS, rfl⟩
 ·cases h
theorem ze : ∀ (σ : St) (d : Nat), σ.put d (σ.get d) = σ
 | [], _ => rfl
 | e :: σ, 0 => by simp [St.put, St.get]
 | e :: σ, d + 1 => by have := ze σ d; simp only [St.put, St.get, List.getElem?_cons_succ] at this ⊢; rw [this]
theorem Vv : ∀ (σ : St) (d : Nat) (v v' : V), (σ.put d v).put d v' = σ.put d v'
 | [], _, _, _ => rfl
 | e :: σ, 0, _, _ => rfl
 | e :: σ, d + 1, v, v' => by simp [St.put, Vv σ d v v']
theorem SX {P : Program} {σ σ' : St} (h : ∀ u, σ'.get u = σ.get u) {T : TypeId} {x : Operand} : look P σ' T x = look P σ T x := by
 cases x with
 | tmp u => exact h u
 | const c => rfl
 | global g => rfl
 | func f => rfl
theorem Fu {P : Program} {ops : Array Oper} {bar : Oper -> Bool} {x y : Oper} {σ σ1 σ2 : St} {d : Nat} (h : N8 bar x y = true) (vy : x.dst = some d) (wg : Yt σ d = true) (vB : Qy P ops bar x σ σ1) (wL : Qy P ops bar y σ1 σ2) : ∃ σ1', Qy P ops bar y σ σ1' /\ YX P ops x σ1' σ2 := by
 unfold N8 at h
 simp only [vy, Bool.and_eq_true, Bool.not_eq_true', Option.isNone_iff_eq_none] at h
 obtain ⟨⟨⟨⟨⟨⟨vP, wk⟩, sf⟩, wb⟩, ux⟩, uV⟩, hv, hu⟩ := h
 have vB := vB.resolve_right (fun hh => by rw [vP] at hh; cases hh.1)
 unfold YX at vB
 simp only [sf, vy] at vB
 have e1 : ∃ v, Zv P σ x.op x.type v /\ σ1 = σ.put d v := by
  unfold Step at vB
  cases hx : x.op <;> rw [hx] at vB hv <;> first | exact vB | (exact Bool.noConfusion hv)
 obtain ⟨v, uS, rfl⟩ := e1
 have back : ∀ σ', (∀ u, σ'.get u = σ.get u) -> YX P ops x σ' (σ'.put d v) := by
  intro σ' hg
  unfold YX
  simp only [sf, vy]
  have : Zv P σ' x.op x.type v := by
   cases hx : x.op <;> rw [hx] at hv uS <;> first | (exact Bool.noConfusion hv) | (simp only [Zv, SX hg] at uS ⊢; exact uS)
  unfold Step
  cases hx : x.op <;> rw [hx] at hv this <;> first | exact ⟨v, this, rfl⟩ | (exact Bool.noConfusion hv)
 rcases wL with wL | ⟨_, _, _, hk, _⟩
 · -- a plain store
  unfold y9 at wb
  split at wb
  ·rename_i T p q wA
   simp only [yr, wA, Bool.and_eq_true, Bool.not_eq_true'] at hu
   unfold YX at wL
   simp only [ux, uV, wA] at wL
   unfold KQ at wL
   rw [YY hu.1, YY hu.2] at wL
   obtain ⟨k1, k2, k3, k4, wL⟩ := wL
   split at wL
   ·rename_i t c hl
    obtain ⟨cells, c1, c2, c3, rfl⟩ := wL
    rw [St.Xl] at c1
    refine ⟨σ.ZT t 0 (.box (place cells c (unc (look P σ T q)).cells)), .inl ?_, ?_⟩
    ·unfold YX KQ
     simp only [ux, uV, wA]
     refine ⟨k1, k2, k3, k4, ?_⟩
     rw [hl]
     exact ⟨cells, c1, c2, c3, rfl⟩
    ·rw [J6]; exact back _ (fun u => St.Y2 _ _ _ _ _)
   ·rename_i t j i c hl
    obtain ⟨q', size, rows, ds, c1, c2, c3, c4, c5, c6, c7, rfl⟩ := wL
    rw [St.Xl] at c1
    rw [kl] at c3
    refine ⟨σ.ZT t j (.arr q' size (rows.set i (place (rows.getD i []) c ds))), .inl ?_, ?_⟩
    ·unfold YX KQ
     simp only [ux, uV, wA]
     refine ⟨k1, k2, k3, k4, ?_⟩
     rw [hl]
     exact ⟨q', size, rows, ds, c1, c2, c3, c4, c5, c6, c7, rfl⟩
    ·rw [J6]; exact back _ (fun u => St.Y2 _ _ _ _ _)
   ·exact wL.elim
  ·cases wb
 ·obtain ⟨⟨uL, vO⟩, vH, pk⟩ := hk wb
  rw [St.Xn] at uL
  have si : Ud (σ.get d) = true := by
   rw [Kj] at wg
   unfold St.get
   rcases wg with e | ⟨x', e⟩ <;> rw [e] <;> rfl
  have hq : ∀ l : List (Nat × V), (σ.put d v).Xo ((d, σ.get d) :: l) = σ.Xo l := fun l => by rw [St.Xo, Vv, ze]
  have h0 := vH [(d, σ.get d)] (fun p hp => by cases List.mem_singleton.1 hp; exact ⟨hu, si⟩)
  rw [hq []] at h0
  have hlen : d < σ.length := by
   rw [Kj] at wg
   rcases wg with e | ⟨x', e⟩ <;> exact (List.getElem?_eq_some_iff.1 e).1
  have rm : ∀ u, (σ2.put d (σ.get d)).get u = σ.get u := fun u => by
   rw [St.JA]
   by_cases r6 : u = d /\ d < σ2.length
   ·rw [if_pos r6, r6.1]
   ·rw [if_neg r6, vO, St.JA]
    have oc : ¬ u = d := fun e => r6 ⟨e, by rw [uL]; exact hlen⟩
    rw [if_neg (fun hh => oc hh.1)]
  refine ⟨σ2.put d (σ.get d), .inr ⟨wk, h0.1, h0.2, fun _ => ⟨⟨by rw [St.Xn]; exact uL, rm⟩, fun l hl => ?_, fun t cells hb => by rw [St.Xl]; exact pk t cells (by rw [St.Xl]; exact hb)⟩, fun hh => (by rw [OR wb] at hh; cases hh), fun hh _ => (by rw [NK wb] at hh; cases hh)⟩, ?_⟩
  ·have := vH ((d, σ.get d) :: l) (fun p hp => by
    rcases List.mem_cons.1 hp with rfl | hp
    ·exact ⟨hu, si⟩
    ·exact hl p hp)
   rw [hq l] at this
   exact this
  ·have := back _ rm
   rw [Vv] at this
   have e : σ2.put d v = σ2 := by
    have g1 := vO d
    rw [St.JA, if_pos ⟨rfl, hlen⟩] at g1
    rw [<- g1]; exact ze σ2 d
   rw [e] at this
   exact this
theorem F7 {P : Program} {ops : Array Oper} {bar : Oper -> Bool} {PT : List (Nat × Nat)} {NB : List Nat} {x y : Oper} {σ σ1 σ2 : St} {d : Nat} (h : N1 PT NB bar x y = true) (hp : WD PT σ) (lT : Ra NB σ) (vy : x.dst = some d) (wg : Yt σ d = true) (vB : Qy P ops bar x σ σ1) (wL : Qy P ops bar y σ1 σ2) : ∃ σ1', Qy P ops bar y σ σ1' /\ YX P ops x σ1' σ2 := by
 unfold N1 at h
 simp only [vy, Bool.and_eq_true, Bool.not_eq_true', Option.isNone_iff_eq_none] at h
 obtain ⟨⟨⟨⟨⟨⟨vP, wk⟩, sf⟩, wb⟩, ux⟩, uV⟩, h⟩ := h
 have vB := vB.resolve_right (fun hh => by rw [vP] at hh; cases hh.1)
 split at h
 ·rename_i dx T tp q lX wA
  cases lX
  simp only [Bool.and_eq_true, Bool.not_eq_true', bne_iff_ne, ne_eq, List.contains_iff_mem] at h
  obtain ⟨⟨⟨gv, wB⟩, hq⟩, hv⟩ := h
  have wv : J4 d (.tmp tp) = false := by simp [J4, wB]
  have hu : yr y d = true := by simp only [yr, wA, wv, hq]; rfl
  unfold YX at vB
  simp only [sf, vy] at vB
  have e1 : ∃ v, Zv P σ x.op x.type v /\ σ1 = σ.put d v := by
   unfold Step at vB
   cases hx : x.op <;> rw [hx] at vB hv <;> first | exact vB | (exact Bool.noConfusion hv)
  obtain ⟨v, uS, rfl⟩ := e1
  have back : ∀ σ', (∀ u, σ'.get u = σ.get u) -> (∀ t cells, σ.ob t 0 = .box cells -> σ'.ob t 0 = .box cells) -> YX P ops x σ' (σ'.put d v) := by
   intro σ' hg pk
   unfold YX
   simp only [sf, vy]
   have : Zv P σ' x.op x.type v := by
    cases hx : x.op <;> rw [hx] at hv uS <;> try exact Bool.noConfusion hv
    case load T' z =>
     cases z with
     | tmp t =>
      simp only [List.any_eq_true, beq_iff_eq] at hv
      obtain ⟨p, oZ, uh⟩ := hv
      simp only [Zv, SX hg] at uS ⊢
      refine ⟨uS.1, uS.2.1, ?_⟩
      have vG := uS.2.2
      have uf := hp p oZ
      rw [uh] at uf
      rw [KW] at vG ⊢
      rcases uf with e | ⟨c, e⟩
      ·rw [e] at vG; exact vG.elim
      ·rw [e] at vG ⊢
       obtain ⟨ce, k1, k2⟩ := vG
       exact ⟨ce, pk _ _ k1, k2⟩
     | _ => exact Bool.noConfusion hv
    case fieldAddr T' z f =>
     cases z with
     | tmp t =>
      simp only [List.any_eq_true, beq_iff_eq] at hv
      obtain ⟨p, oZ, uh⟩ := hv
      simp only [Zv, SX hg] at uS ⊢
      refine ⟨uS.1, uS.2.1, ?_⟩
      have vG := uS.2.2
      have uf := hp p oZ
      rw [uh] at uf
      rw [KW] at vG ⊢
      rcases uf with e | ⟨c, e⟩
      ·rw [e] at vG; exact vG.elim
      ·rw [e] at vG ⊢
       obtain ⟨⟨ce, k1⟩, k2⟩ := vG
       exact ⟨⟨ce, pk _ _ k1⟩, k2⟩
     | _ => exact Bool.noConfusion hv
   unfold Step
   cases hx : x.op <;> rw [hx] at hv this <;> first | exact ⟨v, this, rfl⟩ | (exact Bool.noConfusion hv)
  rcases wL with wL | ⟨_, _, _, hk, _⟩
  ·unfold YX at wL
   simp only [ux, uV, wA] at wL
   unfold KQ at wL
   rw [YY wv, YY hq] at wL
   obtain ⟨k1, k2, k3, k4, wL⟩ := wL
   split at wL
   ·rename_i t c hl
    exact absurd hl (lT tp gv t c)
   ·rename_i t j i c hl
    obtain ⟨q', size, rows, ds, c1, c2, c3, c4, c5, c6, c7, rfl⟩ := wL
    rw [St.Xl] at c1
    rw [kl] at c3
    refine ⟨σ.ZT t j (.arr q' size (rows.set i (place (rows.getD i []) c ds))), .inl ?_, ?_⟩
    ·unfold YX KQ
     simp only [ux, uV, wA]
     refine ⟨k1, k2, k3, k4, ?_⟩
     rw [hl]
     exact ⟨q', size, rows, ds, c1, c2, c3, c4, c5, c6, c7, rfl⟩
    ·rw [J6]
     refine back _ (fun u => St.Y2 _ _ _ _ _) (fun b cells hb => ?_)
     have s4 : σ.ob t j ≠ .none := by rw [c1]; simp
     rw [St.Yj σ t j _ b 0 s4]
     split
     ·rename_i hc; rw [hc.1, hc.2] at hb; rw [c1] at hb; cases hb
     ·exact hb
   ·exact wL.elim
  ·obtain ⟨⟨uL, vO⟩, vH, pk⟩ := hk wb
   rw [St.Xn] at uL
   have si : Ud (σ.get d) = true := by
    rw [Kj] at wg
    unfold St.get
    rcases wg with e | ⟨x', e⟩ <;> rw [e] <;> rfl
   have lB : ∀ l : List (Nat × V), (σ.put d v).Xo ((d, σ.get d) :: l) = σ.Xo l := fun l => by rw [St.Xo, Vv, ze]
   have h0 := vH [(d, σ.get d)] (fun p hp => by cases List.mem_singleton.1 hp; exact ⟨hu, si⟩)
   rw [lB []] at h0
   have hlen : d < σ.length := by
    rw [Kj] at wg
    rcases wg with e | ⟨x', e⟩ <;> exact (List.getElem?_eq_some_iff.1 e).1
   have rm : ∀ u, (σ2.put d (σ.get d)).get u = σ.get u := fun u => by
    rw [St.JA]
    by_cases r6 : u = d /\ d < σ2.length
    ·rw [if_pos r6, r6.1]
    ·rw [if_neg r6, vO, St.JA]
     have oc : ¬ u = d := fun e => r6 ⟨e, by rw [uL]; exact hlen⟩
     rw [if_neg (fun hh => oc hh.1)]
   have nz : ∀ t cells, σ.ob t 0 = .box cells -> (σ2.put d (σ.get d)).ob t 0 = .box cells := fun t cells hb => by rw [St.Xl]; exact pk t cells (by rw [St.Xl]; exact hb)
   refine ⟨σ2.put d (σ.get d), .inr ⟨wk, h0.1, h0.2, fun _ => ⟨⟨by rw [St.Xn]; exact uL, rm⟩, fun l hl => ?_, nz⟩, fun hh => (by rw [OR wb] at hh; cases hh), fun hh _ => (by rw [NK wb] at hh; cases hh)⟩, ?_⟩
   ·have := vH ((d, σ.get d) :: l) (fun p hp => by
     rcases List.mem_cons.1 hp with rfl | hp
     ·exact ⟨hu, si⟩
     ·exact hl p hp)
    rw [lB l] at this
    exact this
   ·have := back _ rm nz
    rw [Vv] at this
    have e : σ2.put d v = σ2 := by
     have g1 := vO d
     rw [St.JA, if_pos ⟨rfl, hlen⟩] at g1
     rw [<- g1]; exact ze σ2 d
    rw [e] at this
    exact this
 ·cases h
theorem E0 {P : Program} {PT : List (Nat × Nat)} {σ σ1 : St} {d : Nat} (vO : ∀ t, t ≠ d -> σ1.get t = σ.get t /\ (σ.get t).ref d = false) (ua : ∀ t j cells, t ≠ d -> σ1.ob t j = .box cells -> σ.ob t j = .box cells /\ Zs d cells = false)
  (vh : ∀ t j q s rows, t ≠ d -> σ1.ob t j = .arr q s rows -> ∃ wK, σ.ob t j = .arr q s wK) (hp : WD PT σ) {op : Op} {ty : TypeId} {v : V} (sU : Mr PT op = true) (tn : ∀ z ∈ op.operands.toList, z ≠ .tmp d) (hv : Zv P σ1 op ty v) : Zv P σ op ty v /\ v.ref d = false := by
 have hl : ∀ (z : Operand) (T : TypeId), z ≠ .tmp d -> look P σ1 T z = look P σ T z := by
  intro z T hz
  cases z with
  | tmp u => exact (vO u (fun e => hz (by rw [e]))).1
  | const c => rfl
  | global g => rfl
  | func f => rfl
 have hr : ∀ (z : Operand) (T : TypeId), z ≠ .tmp d -> (look P σ T z).ref d = false := by
  intro z T hz
  cases z with
  | tmp u => exact (vO u (fun e => hz (by rw [e]))).2
  | const c => exact qf T c d
  | global g => rfl
  | func f => rfl
 have wB : ∀ (z : Operand) (T : TypeId) (x : At), z ≠ .tmp d -> unc (look P σ T z) = .one x -> x.ref d = false := by
  intro z T x hz hu
  cases hx : x.ref d with
  | false => rfl
  | true => have := XC hu hx; rw [hr z T hz] at this; cases this
 refine ⟨?_, ?_⟩
 ·cases op <;> simp only [Mr] at sU <;> try exact Bool.noConfusion sU
  case move x =>
   simp only [Zv] at hv ⊢
   rw [hv, hl x ty (tn x (by simp [Op.operands]))]
  case load T x =>
   cases x with
   | tmp t =>
    have ht : Operand.tmp t ≠ .tmp d := tn _ (by simp [Op.operands])
    simp only [List.any_eq_true, beq_iff_eq] at sU
    obtain ⟨p, oZ, uh⟩ := sU
    simp only [Zv] at hv ⊢
    rw [hl _ 0 ht] at hv
    refine ⟨hv.1, hv.2.1, ?_⟩
    have vG := hv.2.2
    have uf := hp p oZ
    rw [uh] at uf
    rw [KW] at vG ⊢
    rcases uf with e | ⟨c, e⟩
    ·rw [e] at vG; exact vG.elim
    ·rw [e] at vG ⊢
     obtain ⟨ce, e1, e2⟩ := vG
     have hb : p.2 ≠ d := by
      have := wB (.tmp t) 0 (.bptr p.2 c) ht (by rw [KW]; exact e)
      simpa [At.ref] using this
     exact ⟨ce, (ua _ _ _ hb e1).1, e2⟩
   | _ => exact Bool.noConfusion sU
  case fieldAddr T x f =>
   cases x with
   | tmp t =>
    have ht : Operand.tmp t ≠ .tmp d := tn _ (by simp [Op.operands])
    simp only [Zv] at hv ⊢
    rw [hl _ 0 ht] at hv
    refine ⟨hv.1, hv.2.1, ?_⟩
    have vG := hv.2.2
    split at vG
    ·rename_i t' c e
     have hb : t' ≠ d := by have := wB _ _ _ ht e; simpa [At.ref] using this
     obtain ⟨⟨ce, e1⟩, e2⟩ := vG
     first | exact ⟨⟨ce, (ua _ _ _ hb e1).1⟩, e2⟩ | (simp only [e]; exact ⟨⟨ce, (ua _ _ _ hb e1).1⟩, e2⟩)
    ·rename_i t' j i c e
     have hb : t' ≠ d := by have := wB _ _ _ ht e; simpa [At.ref] using this
     obtain ⟨⟨q, s, rows, e1⟩, e2⟩ := vG
     obtain ⟨wK, e3⟩ := vh _ _ _ _ _ hb e1
     first | exact ⟨⟨q, s, wK, e3⟩, e2⟩ | (simp only [e]; exact ⟨⟨q, s, wK, e3⟩, e2⟩)
    ·rename_i rr c e; first | exact vG | (simp only [e]; exact vG)
    ·rename_i t' j i c k e
     have hb : t' ≠ d := by have := wB _ _ _ ht e; simpa [At.ref] using this
     obtain ⟨⟨s, rows, e1⟩, e2⟩ := vG
     obtain ⟨wK, e3⟩ := vh _ _ _ _ _ hb e1
     first | exact ⟨⟨s, wK, e3⟩, e2⟩ | (simp only [e]; exact ⟨⟨s, wK, e3⟩, e2⟩)
    ·exact vG.elim
   | _ => exact Bool.noConfusion sU
  case slice T x lo hi mx =>
   cases x with
   | tmp t =>
    cases mx with
    | some m => exact Bool.noConfusion sU
    | none =>
     have ht : Operand.tmp t ≠ .tmp d := tn _ (by simp [Op.operands])
     have rn : ∀ (df n : Nat) (z : Option Operand), (∀ y, z = some y -> y ≠ .tmp d) -> bnd P σ1 df z n -> bnd P σ df z n := by
      intro df n z hz h
      cases z with
      | none => exact h
      | some z => simp only [bnd] at h ⊢; rw [hl z 0 (hz z rfl)] at h; exact h
     have tE : ∀ y, lo = some y -> y ≠ .tmp d := fun y e => tn y (by subst e; simp [Op.operands])
     have sj : ∀ y, hi = some y -> y ≠ .tmp d := fun y e => tn y (by subst e; simp [Op.operands])
     simp only [Zv] at hv ⊢
     rw [hl _ 0 ht] at hv
     refine ⟨hv.1, ?_⟩
     have vG := hv.2
     split at vG
     ·rename_i s e
      obtain ⟨h1, l, h, h2, h3, h4⟩ := vG
      first | exact ⟨h1, l, h, rn _ _ _ tE h2, rn _ _ _ sj h3, h4⟩ | (simp only [e]; exact ⟨h1, l, h, rn _ _ _ tE h2, rn _ _ _ sj h3, h4⟩)
     ·rename_i s rows e
      obtain ⟨h1, h0, l, h, h2, h3, h4⟩ := vG
      first | exact ⟨h1, h0, l, h, rn _ _ _ tE h2, rn _ _ _ sj h3, h4⟩ | (simp only [e]; exact ⟨h1, h0, l, h, rn _ _ _ tE h2, rn _ _ _ sj h3, h4⟩)
     ·rename_i t' j o len e
      have hb : t' ≠ d := by have := wB _ _ _ ht e; simpa [At.ref] using this
      obtain ⟨h1, ⟨q, rows, e1⟩, l, h, h2, h3, h4⟩ := vG
      obtain ⟨wK, e3⟩ := vh _ _ _ _ _ hb e1
      first | exact ⟨h1, ⟨q, wK, e3⟩, l, h, rn _ _ _ tE h2, rn _ _ _ sj h3, h4⟩ | (simp only [e]; exact ⟨h1, ⟨q, wK, e3⟩, l, h, rn _ _ _ tE h2, rn _ _ _ sj h3, h4⟩)
     ·exact vG.elim
   | _ => exact Bool.noConfusion sU
 ·cases hx : v.ref d with
  | false => rfl
  | true =>
   obtain ⟨z, hz, T, h1⟩ := Ug hv hx
   rw [hl z T (tn z hz)] at h1
   rcases h1 with h1 | ⟨t, cells, h1, h2, h3⟩
   ·rw [hr z T (tn z hz)] at h1; cases h1
   ·by_cases oe : t = d
    ·rw [oe, hr z T (tn z hz)] at h1; cases h1
    ·have := (ua t 0 cells oe h2).2
     rw [this] at h3; cases h3
theorem EG {P : Program} {ops : Array Oper} {bar : Oper -> Bool} {PT : List (Nat × Nat)} {x y : Oper} {σ σ1 σ2 : St} {d : Nat} (h : Nd PT ops bar x y = true) (hp : WD PT σ) (vy : x.dst = some d) (wg : Yt σ d = true) (vB : Qy P ops bar x σ σ1) (wL : Qy P ops bar y σ1 σ2) : ∃ σ1', Qy P ops bar y σ σ1' /\ Qy P ops bar x σ1' σ2 := by
 unfold Nd at h
 simp only [Bool.and_eq_true, Bool.not_eq_true', Option.isNone_iff_eq_none] at h
 obtain ⟨⟨⟨⟨⟨⟨vP, wk⟩, rQ⟩, sf⟩, ux⟩, sU⟩, h⟩ := h
 rw [vy] at h
 cases uV : y.dst with
 | none => rw [uV] at h; cases h
 | some dy =>
  rw [uV] at h
  simp only [Bool.and_eq_true, Bool.not_eq_true', bne_iff_ne, ne_eq] at h
  obtain ⟨⟨wB, tY⟩, rT⟩ := h
  have n7 := yz tY
  have n8 := yz rT
  have wL := wL.resolve_right (fun hh => by rw [wk] at hh; cases hh.1)
  rcases vB with vB | ⟨_, eT, eU, _, oB, _⟩
  ·have vF : xZ y = false := by
    unfold xZ
    cases wA : y.op <;> rw [wA] at sU <;> first | rfl | (exact Bool.noConfusion sU)
   obtain ⟨σ1', hy, hx⟩ := swap vy uV wB n7 n8 vF (.inl ux) wg vB wL
   exact ⟨σ1', .inl hy, .inl hx⟩
  ·obtain ⟨d', wP, hlen, vO, ua, vh, vH⟩ := oB rQ
   rw [vy] at wP; cases wP
   have e2 : ∃ v, Zv P σ1 y.op y.type v /\ σ2 = σ1.put dy v := by
    unfold YX at wL
    simp only [ux, uV] at wL
    unfold Step at wL
    cases wA : y.op <;> rw [wA] at wL sU <;> first | exact wL | (exact Bool.noConfusion sU)
   obtain ⟨v, hv, rfl⟩ := e2
   obtain ⟨pf, rK⟩ := E0 vO ua vh hp sU (fun z hz => n7 z (by simp only [Jt, List.mem_append]; exact .inl hz)) hv
   have gx : WS x dy = true := by
    simp only [WS, Bool.not_eq_true']
    refine List.any_eq_false.2 (fun z hz => ?_)
    have := n8 z (by simp only [Jt, List.mem_append]; exact .inl hz)
    cases z <;> simp [J4] at this ⊢
    exact this
   have wa : ∀ p ∈ [(dy, v)], p.1 ≠ d /\ WS x p.1 = true /\ p.2.ref d = false := fun p hp => by
    cases List.mem_singleton.1 hp; exact ⟨fun e => wB e.symm, gx, rK⟩
   have h0 := vH [(dy, v)] wa
   refine ⟨σ.put dy v, .inl ?_, .inr ⟨vP, h0.1, h0.2, fun hh => (by rw [OR hh] at rQ; cases rQ), fun _ => ⟨d, vy, by rw [St.Xn, St.Xn]; exact hlen, fun t ht => ?_, fun t j cells ht hb => ?_, fun t j q s rows ht hb => ?_, fun l hl => ?_⟩, fun hh _ => (by rw [HI rQ] at hh; cases hh)⟩⟩
   ·unfold YX
    simp only [ux, uV]
    unfold Step
    cases wA : y.op <;> rw [wA] at pf sU <;> first | exact ⟨v, pf, rfl⟩ | (exact Bool.noConfusion sU)
   ·have h1 := vO t ht
    rw [St.JA, St.JA, hlen]
    by_cases hc : t = dy /\ dy < σ.length
    ·simp only [if_pos hc]; exact ⟨trivial, rK⟩
    ·simp only [if_neg hc]; exact h1
   ·rw [St.Xl] at hb ⊢; exact ua t j cells ht hb
   ·rw [St.Xl] at hb ⊢; exact vh t j q s rows ht hb
   ·exact vH ((dy, v) :: l) (fun p hp => by
     rcases List.mem_cons.1 hp with rfl | hp
     ·exact wa _ (by simp)
     ·exact hl p hp)
theorem Iq {σ : St} {t j : Nat} (hn : σ.ob t j ≠ .none) : σ.ZT t j (σ.ob t j) = σ := by
 apply List.ext_getElem?
 intro u
 rw [XY]
 by_cases hu : u = t
 ·subst hu
  obtain ⟨e, he, ho⟩ := kO (σ := σ) (t := u) (j := j) rfl hn
  rw [if_pos rfl, he, Option.map_some]
  have : e.2.set j (σ.ob u j) = e.2 := by
   rw [<- ho]
   apply List.ext_getElem?
   intro k
   rw [List.getElem?_set]
   by_cases hk : j = k
   ·subst hk
    rw [if_pos rfl]
    split
    ·rename_i wO; unfold Zw; rw [List.getElem?_eq_getElem wO]
    ·rename_i wO; exact (List.getElem?_eq_none (by omega)).symm
   ·rw [if_neg hk]
  rw [this]
 ·rw [if_neg hu]
theorem MQ (σ : St) (t j : Nat) (o o' : Ob) : (σ.ZT t j o).ZT t j o' = σ.ZT t j o' := by
 apply List.ext_getElem?
 intro u
 rw [XY, XY, XY]
 by_cases hu : u = t
 ·simp only [if_pos hu]
  cases σ[u]? <;> simp
 ·simp only [if_neg hu]
section
variable {P : Program} {ops : Array Oper} {σ : St} {t d dx : Nat} {cells cs : List At} {v : V} {os : Option (List Ob)}
theorem kz : (Jj t d cs v os σ).length = σ.length := by
 cases os <;> simp [Jj, St.Xn, St.yA, St.YR]
theorem O5 {u : Nat} (h : u ≠ d) : (Jj t d cs v os σ).get u = σ.get u := by
 cases os <;> simp [Jj, St.JA, St.yn, St.Y2, h]
theorem Fo {u j : Nat} (hb : σ.ob t 0 = .box cells) (hu : os ≠ none -> u ≠ d) : (Jj t d cs v os σ).ob u j = if u = t /\ j = 0 then .box cs else σ.ob u j := by
 have hn : σ.ob t 0 ≠ .none := by rw [hb]; simp
 cases os with
 | none => simp only [Jj, St.Xl]; exact St.Yj σ t 0 _ u j hn
 | some l =>
  have := hu (by simp)
  simp only [Jj, St.Xm, this, false_and, if_false]
  exact St.Yj σ t 0 _ u j hn
theorem Uf {u : Nat} : (Jj t d cs v os σ)[u]? = if u = d then (σ[u]?).map (fun e => (v, match os with | some l => l | none => if u = t then e.2.set 0 (.box cs) else e.2)) else if u = t then (σ[u]?).map (fun e => (e.1, e.2.set 0 (.box cs))) else σ[u]? := by
 cases os <;> simp only [Jj, zi, Jr, XY] <;> by_cases h1 : u = d <;> by_cases h2 : u = t <;> simp [h1, h2] <;> (try subst h1) <;> (try subst h2) <;> (try simp_all) <;> (first | (cases σ[u]? <;> rfl) | (cases σ[t]? <;> rfl) | (cases σ[d]? <;> rfl))
theorem Sg {e : Eff} (vF : ∀ a j w l, e ≠ .drop a j w l) (h1 : dx ≠ d) (h2 : (∀ w, e ≠ .put w) -> t ≠ dx) : e.ap dx (Jj t d cs v os σ) = Jj t d cs v os (e.ap dx σ) := by
 apply List.ext_getElem?
 intro u
 rw [Uf]
 cases e with
 | put w =>
  simp only [Eff.ap, zi, Uf]
  by_cases e1 : u = dx
  ·subst e1
   simp only [if_true, if_neg h1]
   by_cases e2 : u = t <;> simp [e2] <;> (first | (cases σ[u]? <;> rfl) | (cases σ[t]? <;> rfl) | rfl)
  ·simp only [if_neg e1]
 | new w l =>
  have h3 := h2 (by intro w h; cases h)
  simp only [Eff.ap, Jr, Uf]
  by_cases e1 : u = dx
  ·subst e1
   simp only [if_true, if_neg h1, if_neg (Ne.symm h3)]
  ·simp only [if_neg e1]
 | drop a j w l => exact absurd rfl (vF a j w l)
theorem Iv {u : Nat} (h : σ.fresh u = true) (uO : Zs u cs = false) (hv : v.ref u = false /\ ∀ l, os = some l -> YB u l = false) : (Jj t d cs v os σ).fresh u = true := by
 have hf := XO.1 h
 refine XO.2 ⟨by rw [kz]; exact hf.1, fun k e he hk => ?_⟩
 rw [Uf] at he
 have rR : ∀ nO, YB u nO = false -> YB u (nO.set 0 (.box cs)) = false := by
  intro nO h0
  cases nO with
  | nil => exact h0
  | cons o nO =>
   simp only [List.set_cons_zero]
   cases o <;> simp_all [YB]
 by_cases h1 : k = d
 ·rw [if_pos h1] at he
  simp only [Option.map_eq_some_iff] at he
  obtain ⟨e0, tq, rfl⟩ := he
  refine ⟨hv.1, ?_⟩
  cases os with
  | some l => exact hv.2 l rfl
  | none =>
   have := (hf.2 k e0 tq hk).2
   simp only
   split
   ·exact rR _ this
   ·exact this
 ·rw [if_neg h1] at he
  split at he
  ·simp only [Option.map_eq_some_iff] at he
   obtain ⟨e0, tq, rfl⟩ := he
   exact ⟨(hf.2 k e0 tq hk).1, rR _ (hf.2 k e0 tq hk).2⟩
  ·exact hf.2 k e he hk
theorem N0 {u : Nat} (hb : σ.ob t 0 = .box cells) (h : (Jj t d cs v os σ).fresh u = true) (wg : Yt σ d = true) (gf : Zs u cells = false) : σ.fresh u = true := by
 have hf := XO.1 h
 refine XO.2 ⟨by rw [<- kz (σ := σ)]; exact hf.1, fun k e he hk => ?_⟩
 by_cases h1 : k = d
 ·rw [h1] at he; exact UZ wg he u
 ·by_cases h2 : k = t
  ·have := hf.2 k (e.1, e.2.set 0 (.box cs)) (by rw [Uf, if_neg h1, if_pos h2, he]; rfl) hk
   refine ⟨this.1, ?_⟩
   have h3 := this.2
   rw [h2] at he
   rw [RG he] at hb
   cases mQ : e.2 with
   | nil => rfl
   | cons o nO =>
    rw [mQ] at hb h3
    have hb : o = .box cells := hb
    subst hb
    simp only [List.set_cons_zero, YB, Bool.or_eq_false_iff] at h3 ⊢
    exact ⟨gf, h3.2⟩
  ·exact hf.2 k e (by rw [Uf, if_neg h1, if_neg h2]; exact he) hk
theorem NY {PT : List (Nat × Nat)} {x y : Oper} {A : St} {σ2 : St} (hg : x.guard = none) (vy : x.dst = some dx) (wB : dx ≠ d) (oA : ∀ z ∈ Jt ops x, z ≠ .tmp d) (hb : σ.ob t 0 = .box cells) (w7 : os ≠ none -> (σ.ZT t 0 (.box cs)).fresh d = true)
  (uh : WD PT σ) (ua : ∀ b, OJ PT y = some b -> b = t) (wX : Ul PT y x = true) (hA : A = σ \/ A = Jj t d cs v os σ) (hs : YX P ops x A σ2) :
  ∃ e : Eff, σ2 = e.ap dx A /\ (∀ a j w l, e ≠ .drop a j w l) /\ e.ok dx A /\ ∀ B, (B = σ \/ B = Jj t d cs v os σ) -> e.ok dx B -> YX P ops x B (e.ap dx B) /\ ∀ u, u ≠ dx -> e.ref u = true -> VJ P (Jt ops x) B u := by
 have wA : Jt ops x = x.op.operands.toList := by simp [Jt, hg]
 simp only [Ul, Bool.or_eq_true, Bool.and_eq_true, Bool.not_eq_true'] at wX
 have n9 : A.length = σ.length := by rcases hA with rfl | rfl <;> simp [kz]
 rcases wX with ⟨hc, vF⟩ | hf
 ·obtain ⟨e, rfl, wa, hdr, _, ry, lg⟩ := zn vy hs
  refine ⟨e, rfl, (fun a j w l h => by have := (hdr a j w l h).1; rw [vF] at this; cases this), wa, fun B hB lU => ?_⟩
  have mA : B.length = σ.length := by rcases hB with rfl | rfl <;> simp [kz]
  have hk : ∀ z ∈ Jt ops x, ∃ c, z = .const c := by
   intro z hz
   rw [wA] at hz
   have := List.all_eq_true.1 hc z hz
   cases z <;> first | exact ⟨_, rfl⟩ | cases this
  have wm : Sub P (Jt ops x) A B := ⟨by rw [n9, mA], fun z hz ty => by obtain ⟨c, rfl⟩ := hk z hz; rfl, fun z hz ty u hr => by obtain ⟨c, rfl⟩ := hk z hz; have h0 := qf (P := P) ty c u; simp only [look] at hr; rw [h0] at hr; cases hr⟩
  have sk : ∀ u, ¬ VJ P (Jt ops x) A u := by
   rintro u ⟨z, hz, ty, h | ⟨_, _, h, _, _⟩⟩ <;> (obtain ⟨c, rfl⟩ := hk z hz; have h0 := qf (P := P) ty c; simp only [look] at h; rw [h0] at h; cases h)
  exact ⟨lg B wm lU, fun u hu hr => absurd (ry hg u hu hr) (sk u)⟩
 ·split at hf
  ·rename_i b gk
   have l0 := ua b gk
   subst l0
   have gy : Step P x dx A σ2 := by unfold YX at hs; simp only [hg, vy] at hs; exact hs
   obtain ⟨w, hw, rfl⟩ := (WA rfl hf).1 gy
   refine ⟨.put w, rfl, (fun a j w' l h => by cases h), trivial, fun B hB _ => ?_⟩
   have od : ∀ z ∈ x.op.operands.toList, ∀ ty, look P (Jj b d cs v os σ) ty z = look P (σ.ZT b 0 (.box cs)) ty z := fun z hz ty => by
    rw [JJ]; exact look_eq (fun u hu => O5 hu) (oA z (by rw [wA]; exact hz)) ty
   have sk : os ≠ none -> ∀ z ∈ x.op.operands.toList, ∀ ty, (look P (σ.ZT b 0 (.box cs)) ty z).ref d = false := fun hn z hz ty =>
    JO (fun t' e he m9 => ((XO.1 (w7 hn)).2 t' e he m9).1) (oA z (by rw [wA]; exact hz)) ty
   have mB : ∀ u, (os ≠ none -> u ≠ d) -> ∀ j, (Jj b d cs v os σ).ob u j = (σ.ZT b 0 (.box cs)).ob u j := fun u hu j => by
    rw [Fo hb hu, St.Yj _ _ _ _ _ _ (by rw [hb]; simp)]
   have fw : Zv P (σ.ZT b 0 (.box cs)) x.op x.type w -> Zv P (Jj b d cs v os σ) x.op x.type w := fun hv => yP hv
    ⟨by rw [kz, St.YR], fun z hz ty => (od z hz ty).symm, fun z hz ty u hr j _ => mB u (fun hn e => by subst e; rw [sk hn z hz ty] at hr; cases hr) j⟩
   have bw : Zv P (Jj b d cs v os σ) x.op x.type w -> Zv P (σ.ZT b 0 (.box cs)) x.op x.type w := fun hv => yP hv
    ⟨by rw [kz, St.YR], fun z hz ty => od z hz ty, fun z hz ty u hr j _ => (mB u (fun hn e => by subst e; rw [od z hz ty, sk hn z hz ty] at hr; cases hr) j).symm⟩
   have l3 : WD PT (σ.ZT b 0 (.box cs)) := fun p hp => by rw [St.Y2]; exact uh p hp
   have wk : (σ.ZT b 0 (.box cs)).ob b 0 = .box cs := by rw [St.Yj _ _ _ _ _ _ (by rw [hb]; simp), if_pos ⟨rfl, rfl⟩]
   have ta : (σ.ZT b 0 (.box cs)).ZT b 0 (.box cells) = σ := by rw [MQ, <- hb]; exact Iq (by rw [hb]; simp)
   have hσ : Zv P σ x.op x.type w := by
    rcases hA with rfl | rfl
    ·exact hw
    ·have := Mk (cs := cells) hf l3 wk (bw hw)
     rw [ta] at this; exact this
   have hZ : Zv P B x.op x.type w := by
    rcases hB with rfl | rfl
    ·exact hσ
    ·exact fw (Mk hf uh hb hσ)
   refine ⟨?_, fun u hu hr => ?_⟩
   ·unfold YX; simp only [hg, vy]; exact (WA rfl hf).2 ⟨w, hZ, rfl⟩
   ·rw [wA]; exact Ug hZ hr
  ·cases hf
end
theorem VF {P : Program} {o : Oper} (h : QL P o = true) : y9 o = false /\ zj o = false := by
 unfold QL at h
 split at h
 ·rename_i wA; simp [y9, zj, wA]
 ·cases h
theorem Lh {P : Program} {PT : List (Nat × Nat)} {σ : St} {y : Oper} {t : Nat} (uh : WD PT σ) (h : ∃ z r, (∃ f ts, y.op = .call ⟨.value (.func f), ⟨z :: r⟩, ts⟩) /\ ∃ ty, unc (look P σ ty z) = .one (.bptr t 0)) : ∀ b, OJ PT y = some b -> b = t := by
 obtain ⟨z, r, ⟨f, ts, wA⟩, ty, hz⟩ := h
 intro b hb
 unfold OJ at hb
 rw [wA] at hb
 cases z with
 | tmp k =>
  simp only [Option.map_eq_some_iff] at hb
  obtain ⟨p, hp, rfl⟩ := hb
  have hk : p.1 = k := by simpa using List.find?_some hp
  have hm := List.mem_of_find?_eq_some hp
  rw [KW] at hz
  rcases uh p hm with e | ⟨c, e⟩ <;> rw [hk] at e <;> rw [e] at hz <;> simp [unc] at hz
  exact hz.1
 | _ => cases hb
theorem LH {P : Program} {o : Oper} (h : QL P o = true) : xZ o = false := by
 unfold QL at h
 split at h
 ·rename_i wA; simp [xZ, wA]
 ·cases h
theorem Up {PT : List (Nat × Nat)} {x y : Oper} (h : Ul PT y x = true) : xZ x = false := by
 simp only [Ul, Bool.or_eq_true, Bool.and_eq_true, Bool.not_eq_true'] at h
 rcases h with ⟨_, h⟩ | h
 ·exact h
 ·split at h
  ·rename_i b _
   have key : ∀ op, jv PT b op = true -> (match op with | .call ⟨.builtin .append, ⟨.const _ :: _⟩, _⟩ => false | .call ⟨.builtin .append, _, _⟩ => true | _ => false) = false := by
    intro op h
    unfold jv at h
    split at h <;> first | rfl | (exact Bool.noConfusion h)
   exact key _ h
  ·cases h
theorem F9 {P : Program} {ops : Array Oper} {bar : Oper -> Bool} {PT : List (Nat × Nat)} {x y : Oper} {σ σ1 σ2 : St} {d : Nat} (h : Nn P PT ops bar x y = true) (hp : WD PT σ) (gh : WD PT σ1) (vy : x.dst = some d) (wg : Yt σ d = true) (vB : Qy P ops bar x σ σ1) (wL : Qy P ops bar y σ1 σ2) : ∃ σ1', Qy P ops bar y σ σ1' /\ Qy P ops bar x σ1' σ2 := by
 unfold Nn at h
 simp only [vy, Bool.and_eq_true, Option.isNone_iff_eq_none] at h
 obtain ⟨⟨⟨⟨sf, ux⟩, lh⟩, uW⟩, h⟩ := h
 cases uV : y.dst with
 | none => rw [uV] at h; cases h
 | some dy =>
  rw [uV] at h
  simp only [Bool.and_eq_true, Bool.or_eq_true, Bool.not_eq_true', bne_iff_ne, ne_eq] at h
  obtain ⟨⟨⟨wB, tY⟩, rT⟩, h⟩ := h
  have tY := yz tY
  have rT := yz rT
  have rV : Jt ops y = y.op.operands.toList := by simp [Jt, ux]
  have rW : Jt ops x = x.op.operands.toList := by simp [Jt, sf]
  have mC : ∀ j, σ.ob d j = .none := fun j => by
   rw [Kj] at wg
   unfold St.ob
   rcases wg with e | ⟨_, e⟩ <;> rw [e] <;> simp [Zw]
  rcases h with ⟨⟨⟨vP, wk⟩, tZ⟩, wX⟩ | ⟨⟨⟨vP, tZ⟩, wk⟩, wX⟩
  ·have vB := vB.resolve_right (fun hh => by rw [vP] at hh; cases hh.1)
   rcases wL with wL | ⟨_, _, _, _, _, lj⟩
   ·obtain ⟨σ1', hy, hx⟩ := swap vy uV wB tY rT (LH tZ) (.inl ux) wg vB wL
    exact ⟨σ1', .inl hy, .inl hx⟩
   ·obtain ⟨d', t, cells, cs, v, os, wP, hb, hz, uv, rK, w7, rfl, vH⟩ := lj tZ uW
    rw [uV] at wP; cases wP
    obtain ⟨ex, rfl, sV, s5, _⟩ := zn vy vB
    have l4 : ∀ a j w l, ex ≠ .drop a j w l := fun a j w l hh => by have := (s5 a j w l hh).1; rw [Up wX] at this; cases this
    have sW : ∀ z ∈ Jt ops y, ∀ ty, look P (ex.ap d σ) ty z = look P σ ty z := fun z hz ty => look_eq (fun u hu => UP ex hu) (tY z hz) ty
    have oE : ∀ z ∈ Jt ops y, ∀ ty u, (look P (ex.ap d σ) ty z).ref u = true -> (∀ w, ex ≠ .put w) -> u ≠ d := fun z hz ty u hr uH e => by
     rw [e, sW z hz, JO (zK sV uH) (tY z hz)] at hr; cases hr
    have sX := hz
    obtain ⟨z, r, ⟨f, ts, wA⟩, ty, nP⟩ := hz
    have nR : z ∈ Jt ops y := by rw [rV, wA]; exact JI (c := ⟨.value (.func f), ⟨z :: r⟩, ts⟩) (by simp)
    have l5 : (∀ w, ex ≠ .put w) -> t ≠ d := oE z nR ty t (XC nP (by simp [At.ref]))
    have lC : σ.ob t 0 = .box cells := by rw [Li sV l5 (by rw [hb]; simp), hb]
    have oe : t ≠ d := fun e => by rw [e, mC] at lC; cases lC
    have og : os ≠ none -> (σ.ZT t 0 (.box cs)).fresh dy = true := fun hn => by
     have hf := XO.1 (w7 hn)
     refine XO.2 ⟨by have := hf.1; rw [St.YR] at this ⊢; rwa [Jg] at this, fun k e he hk => ?_⟩
     by_cases hkd : k = d
     ·rw [hkd, XY, if_neg oe.symm] at he
      rw [hkd] at *
      exact UZ wg he dy
     ·refine hf.2 k e ?_ hk
      rw [XY] at he ⊢
      have : (ex.ap d σ)[k]? = σ[k]? := by
       cases ex with
       | put w => simp only [Eff.ap, zi, if_neg hkd]
       | new w l => simp only [Eff.ap, Jr, if_neg hkd]
       | drop a j w l => exact absurd rfl (l4 a j w l)
      rw [this]; exact he
    obtain ⟨e, heq, vF, wa, hB⟩ := NY (v := v) sf vy wB rT lC og hp (Lh gh sX) wX (.inl rfl) vB
    rw [heq] at hb sX w7 vH sW oE ⊢
    have vW : ∀ z ∈ Jt ops y, ∀ ty u, (look P (e.ap d σ) ty z).ref u = true -> ∀ j, (e.ap d σ).ob u j ≠ .none -> σ.ob u j = (e.ap d σ).ob u j := fun z hz ty u hr j hn =>
     Li wa (fun uH hu => by rw [hu, sW z hz, JO (zK wa uH) (tY z hz)] at hr; cases hr) hn
    have h0 := vH σ (Jg e) (fun z hz ty => sW z (by rw [rV]; exact hz) ty) (fun z hz ty u hr j hn => vW z (by rw [rV]; exact hz) ty u hr j hn) og
    refine ⟨Jj t dy cs v os σ, .inr ⟨wk, h0.1, h0.2, fun hh => (by rw [(VF tZ).1] at hh; cases hh), fun hh => (by rw [(VF tZ).2] at hh; cases hh), fun _ _ => ?_⟩, .inl ?_⟩
    ·refine ⟨dy, t, cells, cs, v, os, uV, lC, ⟨z, r, ⟨f, ts, wA⟩, ty, by rw [<- sW z nR, <- heq]; exact nP⟩, uv, rK, og, rfl, fun σ3 nn oW oX lV => ?_⟩
     refine vH σ3 (by rw [Jg]; exact nn) (fun z hz ty => by rw [sW z (by rw [rV]; exact hz), oW z hz]) (fun z hz ty u hr j hn => ?_) lV
     have h1 := vW z (by rw [rV]; exact hz) ty u hr j hn
     rw [<- h1]
     exact oX z hz ty u (by rw [<- sW z (by rw [rV]; exact hz)]; exact hr) j (by rw [h1]; exact hn)
    ·rw [<- Sg vF wB (fun _ => oe)]
     refine (hB _ (.inr rfl) ?_).1
     cases e with
     | put w => trivial
     | new w l => exact Iv wa (uv d).2 (rK d (.inr wB))
     | drop a j w l => exact absurd rfl (vF a j w l)
  ·have wL := wL.resolve_right (fun hh => by rw [wk] at hh; cases hh.1)
   rcases vB with vB | ⟨_, _, _, _, _, lj⟩
   ·obtain ⟨σ1', hy, hx⟩ := swap vy uV wB tY rT (Up wX) (.inl ux) wg vB wL
    exact ⟨σ1', .inl hy, .inl hx⟩
   ·obtain ⟨d', t, cells, cs, v, os, wP, hb, hz, uv, rK, w7, rfl, vH⟩ := lj tZ lh
    rw [vy] at wP; cases wP
    have sX := hz
    obtain ⟨z, r, ⟨f, ts, wA⟩, ty, nP⟩ := hz
    have nR : z ∈ Jt ops x := by rw [rW, wA]; exact JI (c := ⟨.value (.func f), ⟨z :: r⟩, ts⟩) (by simp)
    obtain ⟨e, rfl, vF, wa, hB⟩ := NY ux uV (Ne.symm wB) tY hb w7 hp (Lh hp sX) wX (.inr rfl) wL
    have mD : e.ok dy σ := by
     cases e with
     | put w => trivial
     | new w l => exact N0 hb wa wg (uv dy).1
     | drop a j w l => exact absurd rfl (vF a j w l)
    have sW : ∀ z ∈ Jt ops x, ∀ ty, look P (e.ap dy σ) ty z = look P σ ty z := fun z hz ty => look_eq (fun u hu => UP e hu) (rT z hz) ty
    have oE : ∀ z ∈ Jt ops x, ∀ ty u, (look P σ ty z).ref u = true -> (∀ w, e ≠ .put w) -> u ≠ dy := fun z hz ty u hr uH he => by
     rw [he, JO (zK mD uH) (rT z hz)] at hr; cases hr
    have uZ : (∀ w, e ≠ .put w) -> t ≠ dy := oE z nR ty t (XC nP (by simp [At.ref]))
    have wU : ∀ z ∈ Jt ops x, ∀ ty u, (look P σ ty z).ref u = true -> ∀ j, (e.ap dy σ).ob u j = σ.ob u j := fun z hz ty u hr j => VV vF (oE z hz ty u hr)
    have sF := hB σ (.inl rfl) mD
    have mE : os ≠ none -> ((e.ap dy σ).ZT t 0 (.box cs)).fresh d = true := fun hn => by
     have hf := XO.1 (w7 hn)
     have l6 : e.ref d = false := by
      cases hr : e.ref d with
      | false => rfl
      | true =>
       obtain ⟨z', ui, hR, h1 | ⟨t', wH, h1, h2, h3⟩⟩ := sF.2 d wB hr
       ·rw [<- JJ (t := t) (j := 0) (o := .box cs), JO (fun k e0 he hk => (hf.2 k e0 he hk).1) (tY z' ui)] at h1; cases h1
       ·by_cases htt : t' = t
        ·subst htt; rw [hb] at h2; cases h2; rw [(uv d).1] at h3; cases h3
        ·have oe : t' ≠ d := fun e0 => by rw [e0, mC] at h2; cases h2
         obtain ⟨en, la, lb⟩ := kO h2 (by simp)
         have := (hf.2 t' en (by rw [XY, if_neg htt]; exact la) oe).2
         rw [W9 lb h3] at this; cases this
     refine XO.2 ⟨by have := hf.1; rw [St.YR] at this ⊢; rwa [Jg], fun k en he hk => ?_⟩
     cases e with
     | put w =>
      simp only [Eff.ap, J6, zi] at he
      split at he
      ·simp only [Option.map_eq_some_iff] at he
       obtain ⟨e0, tq, rfl⟩ := he
       exact ⟨l6, (hf.2 k e0 tq hk).2⟩
      ·exact hf.2 k en he hk
     | new w l =>
      have ht := uZ (by intro w h; cases h)
      simp only [Eff.ap, XY, Jr] at he
      by_cases hkt : k = t
      ·subst hkt
       simp only [if_true, if_neg ht] at he
       exact hf.2 k en (by rw [XY, if_pos rfl]; exact he) hk
      ·simp only [if_neg hkt] at he
       split at he
       ·simp only [Option.map_eq_some_iff] at he
        obtain ⟨e0, tq, rfl⟩ := he
        simp only [Eff.ref, Bool.or_eq_false_iff] at l6
        exact l6
       ·exact hf.2 k en (by rw [XY, if_neg hkt]; exact he) hk
     | drop a j w l => exact absurd rfl (vF a j w l)
    have h0 := vH (e.ap dy σ) (Jg e).symm (fun z hz ty => (sW z (by rw [rW]; exact hz) ty).symm) (fun z hz ty u hr j _ => wU z (by rw [rW]; exact hz) ty u hr j) mE
    have mF : e.ap dy (Jj t d cs v os σ) = Jj t d cs v os (e.ap dy σ) := by
     cases e with
     | put w => exact Sg vF (Ne.symm wB) (fun hh => absurd rfl (hh w))
     | new w l => exact Sg vF (Ne.symm wB) uZ
     | drop a j w l => exact absurd rfl (vF a j w l)
    refine ⟨e.ap dy σ, .inl sF.1, .inr ?_⟩
    rw [mF]
    refine ⟨vP, h0.1, h0.2, fun hh => (by rw [(VF tZ).1] at hh; cases hh), fun hh => (by rw [(VF tZ).2] at hh; cases hh), fun _ _ => ?_⟩
    refine ⟨d, t, cells, cs, v, os, vy, ?_, ⟨z, r, ⟨f, ts, wA⟩, ty, by rw [sW z nR]; exact nP⟩, uv, rK, mE, rfl, fun σ3 nn oW oX lV => ?_⟩
    ·rw [wU z nR ty t (XC nP (by simp [At.ref])) 0]; exact hb
    ·refine vH σ3 (by rw [<- nn, Jg]) (fun z hz ty => by rw [<- oW z hz, sW z (by rw [rW]; exact hz)]) (fun z hz ty u hr j hn => ?_) lV
     have h1 := wU z (by rw [rW]; exact hz) ty u hr j
     rw [<- h1]
     exact oX z hz ty u (by rw [sW z (by rw [rW]; exact hz)]; exact hr) j (by rw [h1]; exact hn)
theorem Hx {PT : List (Nat × Nat)} {σ : St} (h : ptB PT σ = true) : WD PT σ := by
 intro p hp
 have := List.all_eq_true.1 h p hp
 split at this
 ·rename_i e; exact .inl e
 ·split at this
  ·rename_i b c e
   have hb : b = p.2 := by simpa using this
   subst hb; exact .inr ⟨c, e⟩
  ·cases this
section
variable {P : Program} {ops : Array Oper}
def Mp (P : Program) (ops : Array Oper) (bar : Oper -> Bool) : List Nat -> St -> (St -> Prop) -> Prop
 | [], σ, Q => Q σ
 | i :: rem, σ, Q => ∃ o σ', ops[i]? = some o /\ Qy P ops bar o σ σ' /\ Mp P ops bar rem σ' Q
theorem SR {o : Oper} {σ σ' : St} {d : Nat} (hs : YX P ops o σ σ') (hd : o.dst ≠ some d) (h : Yt σ d = true) : Yt σ' d = true := by
 cases hdo : o.dst with
 | some d' =>
  have wB : d ≠ d' := fun e => hd (by rw [hdo, e])
  obtain ⟨e, rfl, _⟩ := zn hdo hs
  cases e with
  | put v => unfold Yt at *; simp only [Eff.ap, zi, if_neg wB]; exact h
  | new v os => unfold Yt at *; simp only [Eff.ap, Jr, if_neg wB]; exact h
  | drop a j v os =>
   have := XH (a := a) (j := j) (o := .none) h
   unfold Yt at *; simp only [Eff.ap, Jr, if_neg wB]; exact this
 | none =>
  unfold YX at hs
  split at hs
  ·simp only [hdo] at hs
   split at hs
   ·unfold KQ at hs
    obtain ⟨_, _, _, _, hs⟩ := hs
    split at hs
    ·obtain ⟨_, _, _, _, rfl⟩ := hs; exact XH h
    ·obtain ⟨_, _, _, _, _, _, _, _, _, _, _, rfl⟩ := hs; exact XH h
    ·exact hs.elim
   ·exact hs.elim
  ·obtain ⟨_, _, _, _, _, _, wP, _⟩ := hs
   rw [hdo] at wP; cases wP
theorem Lx {PT : List (Nat × Nat)} {i : Nat} {o : Oper} {σ σ' : St} (pj : Vn ops PT = true) (hi : ops[i]? = some o) (hs : YX P ops o σ σ') (h : WD PT σ) : WD PT σ' := by
 have hc := List.all_eq_true.1 pj o (by rw [Array.mem_toList_iff]; exact Array.mem_of_getElem? hi)
 cases hdo : o.dst with
 | none =>
  have : ∃ t j ob, σ' = σ.ZT t j ob := by
   unfold YX at hs
   split at hs
   ·simp only [hdo] at hs
    split at hs
    ·unfold KQ at hs
     obtain ⟨_, _, _, _, hs⟩ := hs
     split at hs
     ·obtain ⟨_, _, _, _, rfl⟩ := hs; exact ⟨_, _, _, rfl⟩
     ·obtain ⟨_, _, _, _, _, _, _, _, _, _, _, rfl⟩ := hs; exact ⟨_, _, _, rfl⟩
     ·exact hs.elim
    ·exact hs.elim
   ·obtain ⟨_, _, _, _, _, _, wP, _⟩ := hs
    rw [hdo] at wP; cases wP
  obtain ⟨t, j, ob, rfl⟩ := this
  intro p hp
  rw [St.Y2]; exact h p hp
 | some d =>
  intro p hp
  rw [hdo] at hc
  have hc := List.all_eq_true.1 hc p hp
  by_cases rX : p.1 = d
  ·simp only [rX, bne_self_eq_false, Bool.false_or, Bool.and_eq_true, Option.isNone_iff_eq_none] at hc
   obtain ⟨hg, hc⟩ := hc
   split at hc
   ·rename_i T r f wA
    have hr := h (r, p.2) (by simpa using hc)
    unfold YX at hs
    simp only [hg, hdo] at hs
    unfold Step at hs
    rw [wA] at hs
    obtain ⟨v, hv, rfl⟩ := hs
    simp only [Zv] at hv
    have hv := hv.2.2
    rw [KW] at hv
    rcases hr with e | ⟨c, e⟩
    ·rw [e] at hv; exact hv.elim
    ·rw [e] at hv
     rw [St.JA, rX]
     by_cases hl : d < σ.length
     ·rw [if_pos ⟨rfl, hl⟩]; exact .inr ⟨_, by rw [hv.2]; rfl⟩
     ·rw [if_neg (fun hh => hl hh.2)]; have := h p hp; rw [rX] at this; exact this
   ·rename_i r wA
    have hr := h (r, p.2) (by simpa using hc)
    unfold YX at hs
    simp only [hg, hdo] at hs
    unfold Step at hs
    rw [wA] at hs
    obtain ⟨v, hv, rfl⟩ := hs
    simp only [Zv] at hv
    rw [KW] at hv
    rw [St.JA, rX]
    by_cases hl : d < σ.length
    ·rw [if_pos ⟨rfl, hl⟩, hv]; exact hr
    ·rw [if_neg (fun hh => hl hh.2)]; have := h p hp; rw [rX] at this; exact this
   ·cases hc
  ·obtain ⟨e, rfl, _⟩ := zn hdo hs
   have hg : ∀ σ0 : St, σ0.get p.1 = σ.get p.1 -> (σ0.get p.1 = .any \/ ∃ c, unc (σ0.get p.1) = .one (.bptr p.2 c)) := fun σ0 e => by rw [e]; exact h p hp
   cases e with
   | put v => exact hg _ (by simp only [Eff.ap]; rw [St.JA, if_neg (fun hh => rX hh.1)])
   | new v os => exact hg _ (by simp only [Eff.ap]; rw [St.yn, if_neg (fun hh => rX hh.1)])
   | drop a j v os => exact hg _ (by simp only [Eff.ap]; rw [St.yn, if_neg (fun hh => rX hh.1), St.Y2])
theorem Tx {σ : St} : R7 [] [] σ := ⟨fun _ hp => absurd hp List.not_mem_nil, fun _ hp => absurd hp List.not_mem_nil⟩
theorem I7 {NB : List Nat} {σ : St} {d : Nat} {v : V} (h : Ra NB σ) (hd : d ∈ NB -> ∀ b c, unc v ≠ .one (.bptr b c)) : Ra NB (σ.put d v) := by
 intro t ht b c
 rw [St.JA]
 split
 ·rename_i hc; exact hd (hc.1 ▸ ht) b c
 ·exact h t ht b c
theorem Hf {NB : List Nat} {σ : St} {d : Nat} {v : V} {os : List Ob} (h : Ra NB σ) (hd : d ∉ NB) : Ra NB (σ.new d v os) := by
 intro t ht b c
 have wB : ¬ (t = d /\ d < σ.length) := fun hc => hd (by rw [<- hc.1]; exact ht)
 rw [St.yn, if_neg wB]
 exact h t ht b c
theorem Gl {NB : List Nat} {i : Nat} {o : Oper} {σ σ' : St} (vz : RA P ops NB = true) (hi : ops[i]? = some o) (hs : YX P ops o σ σ') (h : Ra NB σ) : Ra NB σ' := by
 have hc := List.all_eq_true.1 vz o (by rw [Array.mem_toList_iff]; exact Array.mem_of_getElem? hi)
 cases hdo : o.dst with
 | none =>
  have : ∃ t j ob, σ' = σ.ZT t j ob := by
   unfold YX at hs
   split at hs
   ·simp only [hdo] at hs
    split at hs
    ·unfold KQ at hs
     obtain ⟨_, _, _, _, hs⟩ := hs
     split at hs
     ·obtain ⟨_, _, _, _, rfl⟩ := hs; exact ⟨_, _, _, rfl⟩
     ·obtain ⟨_, _, _, _, _, _, _, _, _, _, _, rfl⟩ := hs; exact ⟨_, _, _, rfl⟩
     ·exact hs.elim
    ·exact hs.elim
   ·obtain ⟨_, _, _, _, _, _, wP, _⟩ := hs
    rw [hdo] at wP; cases wP
  obtain ⟨t, j, ob, rfl⟩ := this
  intro p hp
  rw [St.Y2]; exact h p hp
 | some d =>
  rw [hdo] at hc
  by_cases hd : d ∈ NB
  ·have hc := List.all_eq_true.1 hc d hd
   simp only [bne_self_eq_false, Bool.false_or, Bool.and_eq_true, Option.isNone_iff_eq_none] at hc
   obtain ⟨hg, hc⟩ := hc
   split at hc
   ·rename_i T r ix wA
    unfold YX at hs
    simp only [hg, hdo] at hs
    unfold Step at hs
    rw [wA] at hs
    obtain ⟨v, hv, rfl⟩ := hs
    refine I7 h (fun _ b c => ?_)
    simp only [Zv] at hv
    obtain ⟨_, _, _, _, _, hv⟩ := hv
    split at hv
    ·obtain ⟨_, _, _, _, rfl⟩ := hv; intro e; cases e
    ·obtain ⟨_, _, _, _, rfl⟩ := hv; intro e; cases e
    ·obtain ⟨_, ⟨n, ha, _⟩, _⟩ := hv
     unfold YS at hc
     unfold T8 at ha
     split at hc
     ·rename_i e he; rw [he] at ha; cases ha
     ·cases hc
    ·obtain ⟨_, _, _, rfl⟩ := hv; intro e; cases e
    ·exact hv.elim
   ·cases hc
  ·obtain ⟨e, rfl, _⟩ := zn hdo hs
   cases e with
   | put v => exact I7 h (fun hh => absurd hh hd)
   | new v os => exact Hf h hd
   | drop a j v os =>
    refine Hf (σ := σ.ZT a j .none) (fun t ht b c => ?_) hd
    rw [St.Y2]; exact h t ht b c
theorem EJ {NB : List Nat} {σ : St} (h : nbB NB σ = true) : Ra NB σ := by
 intro t ht b c e
 have := List.all_eq_true.1 h t ht
 rw [e] at this; cases this
def Ok (ops : Array Oper) (pos : Nat -> Nat) (rem : List Nat) (σ : St) : Prop :=
 ∀ j ∈ rem, jt ops pos j = true -> Lf ops j = true /\ ∃ o d, ops[j]? = some o /\ o.dst = some d /\ Yt σ d = true
theorem Gt {j k : Nat} {oj ok : Oper} {d : Nat} (h : Lf ops j = true) (hj : ops[j]? = some oj) (hd : oj.dst = some d) (hk : ops[k]? = some ok) (wB : k ≠ j) : ok.dst ≠ some d := by
 unfold Lf at h
 simp only [hj, hd] at h
 have wO : k < ops.size := (Array.getElem?_eq_some_iff.1 hk).1
 have := List.all_eq_true.1 h k (List.mem_range.2 wO)
 simp only [hk, Bool.or_eq_true, beq_iff_eq, bne_iff_ne, ne_eq] at this
 exact this.resolve_left wB
theorem Nb {bar : Oper -> Bool} {o : Oper} {σ σ' : St} {d : Nat} (hs : Qy P ops bar o σ σ') (hd : o.dst ≠ some d) (h : Yt σ d = true) : Yt σ' d = true := by
 rcases hs with hs | hs
 ·exact SR hs hd h
 ·exact hs.2.2.1 d hd h
theorem U9 {pos : Nat -> Nat} {bar : Oper -> Bool} {rem oV : List Nat} {i : Nat} {o : Oper} {σ σ' : St} (hi : ops[i]? = some o) (hs : Qy P ops bar o σ σ') (m8 : i ∉ oV) (wm : ∀ j ∈ oV, j ∈ rem) (h : Ok ops pos rem σ) : Ok ops pos oV σ' := by
 intro j hj hl
 obtain ⟨oC, oj, d, h1, h2, h3⟩ := h j (wm j hj) hl
 exact ⟨oC, oj, d, h1, h2, Nb hs (Gt oC h1 h2 hi (fun e => m8 (e ▸ hj))) h3⟩
theorem pull {pos : Nat -> Nat} {bar : Oper -> Bool} {PT : List (Nat × Nat)} {NB : List Nat} (uf : ∀ (i : Nat) (o : Oper) (σ σ' : St), ops[i]? = some o -> Qy P ops bar o σ σ' -> R7 PT NB σ -> R7 PT NB σ') {i : Nat} {post : List Nat} {Q : St -> Prop} {oi : Oper} (hi : ops[i]? = some oi) : ∀ {pre : List Nat} {σ : St}, (pre ++ i :: post).Nodup -> (∀ j ∈ pre, jt ops pos j = true /\ ∃ oj, ops[j]? = some oj /\ (NL ops bar oj oi = true \/ NH bar oj oi = true \/ swapT PT bar oj oi = true \/ N8 bar oj oi = true \/ Nd PT ops bar oj oi = true \/ N1 PT NB bar oj oi = true \/ Nn P PT ops bar oj oi = true)) -> Ok ops pos (pre ++ i :: post) σ -> R7 PT NB σ ->
  Mp P ops bar (pre ++ i :: post) σ Q -> ∃ σ', Qy P ops bar oi σ σ' /\ Mp P ops bar (pre ++ post) σ' Q
 | [], σ, _, _, _, _, h => by
  obtain ⟨o, σ', ho, hs, hr⟩ := h
  rw [hi] at ho; cases ho
  exact ⟨σ', hs, hr⟩
 | j :: pre, σ, vF, lD, wg, uh, h => by
  obtain ⟨oj, σ1, hj, vB, hr⟩ := h
  have mG := List.nodup_cons.1 vF
  obtain ⟨σ2, wL, re⟩ := pull uf hi (pre := pre) mG.2 (fun k hk => lD k (by simp [hk])) (U9 (rem := (j :: pre) ++ i :: post) hj vB mG.1 (fun k hk => by simp only [List.cons_append, List.mem_cons]; exact .inr hk) wg) (uf j oj σ σ1 hj vB uh) hr
  obtain ⟨hl, eS, ue, sh⟩ := lD j (by simp)
  rw [hj] at ue; cases ue
  rcases sh with sh | sh | sh | sh | sh | sh | sh
  rotate_left
  ·obtain ⟨σ1', hy, hx⟩ := FF sh vB wL
   exact ⟨σ1', .inl hy, oj, σ2, hj, .inl hx, re⟩
  ·obtain ⟨σ1', hy, hx⟩ := F5 sh uh.1 vB wL
   exact ⟨σ1', .inl hy, oj, σ2, hj, .inl hx, re⟩
  ·obtain ⟨_, o', d', wZ, wP, wu⟩ := wg j (by simp) hl
   rw [hj] at wZ; cases wZ
   obtain ⟨σ1', hy, hx⟩ := Fu sh wP wu vB wL
   exact ⟨σ1', hy, oj, σ2, hj, .inl hx, re⟩
  ·obtain ⟨_, o', d', wZ, wP, wu⟩ := wg j (by simp) hl
   rw [hj] at wZ; cases wZ
   obtain ⟨σ1', hy, hx⟩ := EG sh uh.1 wP wu vB wL
   exact ⟨σ1', hy, oj, σ2, hj, hx, re⟩
  ·obtain ⟨_, o', d', wZ, wP, wu⟩ := wg j (by simp) hl
   rw [hj] at wZ; cases wZ
   obtain ⟨σ1', hy, hx⟩ := F7 sh uh.1 uh.2 wP wu vB wL
   exact ⟨σ1', hy, oj, σ2, hj, .inl hx, re⟩
  ·obtain ⟨_, o', d', wZ, wP, wu⟩ := wg j (by simp) hl
   rw [hj] at wZ; cases wZ
   obtain ⟨σ1', hy, hx⟩ := F9 sh uh.1 (uf j oj σ σ1 hj vB uh).1 wP wu vB wL
   exact ⟨σ1', hy, oj, σ2, hj, hx, re⟩
  obtain ⟨vP, wk, dx, dy, h1, h2, h3, h4, h5, h6, h7⟩ := LL sh
  have vB := vB.resolve_right (fun hh => by rw [vP] at hh; cases hh.1)
  have wL := wL.resolve_right (fun hh => by rw [wk] at hh; cases hh.1)
  obtain ⟨_, o', d', wZ, wP, wu⟩ := wg j (by simp) hl
  rw [hj] at wZ; cases wZ
  rw [h1] at wP; cases wP
  obtain ⟨σ1', hy, hx⟩ := swap h1 h2 h3 h4 h5 h6 h7 wu vB wL
  exact ⟨σ1', .inl hy, oj, σ2, hj, .inl hx, re⟩
end
end Go.Vm
namespace Go.Vm
open Go.RowKit
section
variable {P : Program} {ops : Array Oper} {T0 : CS} {B : Nat -> Prop}
theorem Vt {wo : Array Bool} {j : Nat} (h1 : wo.getD j true = false) (h2 : wo.getD j false = true) : False := by
 rw [Array.getD_eq_getD_getElem?] at h1 h2
 cases h : wo[j]? with
 | none => rw [h] at h1; simp at h1
 | some b => rw [h] at h1 h2; simp at h1 h2; rw [h1] at h2; cases h2
theorem Pt {pos : Nat -> Nat} {bar : Oper -> Bool} {PT : List (Nat × Nat)} {NB : List Nat} (uf : ∀ (i : Nat) (o : Oper) (σ σ' : St), ops[i]? = some o -> Qy P ops bar o σ σ' -> R7 PT NB σ -> R7 PT NB σ') (hdr : NJ P ops pos bar PT NB (Wb ops.toList []) = true) {Qa : St -> Prop} {Q : Exit -> Act -> World -> Prop} {w0 : World} (hK : ∀ σ a w, Qa σ -> X6 T0 B σ a w -> YQ B w0 w -> Q .normal a w) :
  ∀ (fuel : Nat) (rem : List Nat) (wo : Array Bool) (σ : St) (a : Act) (w : World), rem.length = fuel -> wo.size = ops.size -> rem.Pairwise (fun i j => pos i < pos j) -> (∀ i, i ∈ rem ↔ wo.getD i true = false) -> (∀ i ∈ rem, i < ops.size) -> (∀ m om, ops[m]? = some om -> m ∉ rem -> ∀ j, V6 om j = true -> j ∉ rem) ->
   Ok ops pos rem σ -> R7 PT NB σ -> Mp P ops bar rem σ Qa -> X6 T0 B σ a w -> YQ B w0 w -> wpAny P .any ops Q fuel wo a w := by
 have vH := List.all_eq_true.1 hdr
 have first : ∀ (rem : List Nat) (wo : Array Bool), wo.size = ops.size -> rem.Pairwise (fun i j => pos i < pos j) -> (∀ i, i ∈ rem ↔ wo.getD i true = false) -> (∀ i ∈ rem, i < ops.size) -> Region.ready .any ops wo = [] -> rem = [] := by
  intro rem wo vK oY vV wO np
  cases rem with
  | nil => rfl
  | cons i rem =>
   exfalso
   have hi := wO i (by simp)
   have hb := vH i (List.mem_range.2 hi)
   simp only [Bool.and_eq_true] at hb
   have ta := hb.1.1
   unfold FZ at ta
   rw [Array.getElem?_eq_getElem hi] at ta
   simp only [Array.all_eq_true_iff_forall_mem, decide_eq_true_eq, Bool.and_eq_true, Bool.or_eq_true, Bool.not_eq_true'] at ta
   have : i ∈ Region.ready .any ops wo := by
    refine mem_ready.2 ⟨(vV i).1 (by simp), ops[i], Array.getElem?_eq_getElem hi, fun e he lW => ?_⟩
    have r8 := (ta e he).resolve_left (by rw [lW]; simp)
    have se := r8.1
    have l7 := r8.2
    have tI : e.on ∉ i :: rem := by
     intro hm
     rcases List.mem_cons.1 hm with h | h
     ·rw [h] at se; omega
     ·have := (List.pairwise_cons.1 oY).1 _ h; omega
    have wB : wo.getD e.on true ≠ false := fun h => tI ((vV _).2 h)
    have pY : e.on < wo.size := by rw [vK]; omega
    rw [Array.getD_eq_getD_getElem?, Array.getElem?_eq_getElem pY] at wB ⊢
    simpa using wB
   rw [np] at this; cases this
 intro fuel
 induction fuel with
 | zero =>
  intro rem wo σ a w hl vK oY vV wO lY wg uh wV vw hb
  have tJ : rem = [] := List.eq_nil_of_length_eq_zero hl
  subst tJ
  refine ⟨?_, hK σ a w wV vw hb⟩
  cases np : Region.ready .any ops wo with
  | nil => rfl
  | cons i l =>
   have hi : i ∈ Region.ready .any ops wo := by rw [np]; simp
   have := (vV i).2 (mem_ready.1 hi).1
   cases this
 | succ fuel ih =>
  intro rem wo σ a w hl vK oY vV wO lY wg uh wV vw hb
  refine ⟨fun np => ?_, fun i hi => ?_⟩
  ·have := first rem wo vK oY vV wO np
   subst this; simp at hl
  ·obtain ⟨h0, oi, oa, rz⟩ := mem_ready.1 hi
   obtain ⟨pre, post, rfl⟩ := List.append_of_mem ((vV i).2 h0)
   have vF : (pre ++ i :: post).Nodup := oY.imp (fun h e => by rw [e] at h; omega)
   have uA : ∀ j ∈ pre, pos j < pos i := fun j hj => (List.pairwise_append.1 oY).2.2 j hj i (by simp)
   have uq : i < ops.size := wO i (by simp)
   have gA : ∀ e ∈ oi.after, Region.binds .any e = true -> e.on ∉ pre ++ i :: post := by
    intro e he lW hm
    exact Vt ((vV e.on).1 hm) (rz e he lW)
   have mH : ∀ j, j ∈ pre ++ i :: post -> V6 oi j = false := by
    intro j hj
    cases hp : V6 oi j with
    | false => rfl
    | true =>
     unfold V6 at hp
     rw [<- Array.any_toList] at hp
     obtain ⟨e, he, wk⟩ := List.any_eq_true.1 hp
     rw [Array.mem_toList_iff] at he
     simp only [Bool.and_eq_true, beq_iff_eq] at wk
     exact (Vt ((vV j).1 hj) (by rw [<- wk.1]; exact rz e he wk.2)).elim
   have rX : ∀ m j, Pre ops m j -> (∀ om, ops[m]? = some om -> ∀ k, V6 om k = true -> k ∉ pre ++ i :: post) -> j ∉ pre ++ i :: post := by
    intro m j hp
    induction hp with
    | one ho hp => intro h; exact h _ ho _ hp
    | more ho hp _ ih =>
     intro h
     exact ih (fun om rk k hk => lY _ om rk (h _ ho _ hp) k hk)
   have uH : ∀ j ∈ pre, ML ops i j = false := by
    intro j hj
    have gz : j ∈ pre ++ i :: post := by simp [hj]
    cases hq : ML ops i j with
    | false => rfl
    | true =>
     refine absurd gz (rX i j (Ie hq) (fun om rk k hk gj => ?_))
     rw [oa] at rk; cases rk
     have := mH k gj
     rw [hk] at this; cases this
   have lD : ∀ j ∈ pre, jt ops pos j = true /\ ∃ oj, ops[j]? = some oj /\ (NL ops bar oj oi = true \/ NH bar oj oi = true \/ swapT PT bar oj oi = true \/ N8 bar oj oi = true \/ Nd PT ops bar oj oi = true \/ N1 PT NB bar oj oi = true \/ Nn P PT ops bar oj oi = true) := by
    intro j hj
    have gB := uA j hj
    have oh : j < ops.size := wO j (by simp [hj])
    refine ⟨?_, ops[j], Array.getElem?_eq_getElem oh, ?_⟩
    ·unfold jt OL
     refine List.any_eq_true.2 ⟨i, List.mem_range.2 uq, ?_⟩
     have := uH j hj
     unfold ML at this
     simp only [this, Bool.not_false, Bool.and_true, decide_eq_true_eq]; exact gB
    ·have := vH i (List.mem_range.2 uq)
     simp only [Bool.and_eq_true] at this
     have hp := List.all_eq_true.1 this.1.2 j (List.mem_range.2 oh)
     simp only [gB, decide_true, Bool.not_true, Bool.false_or] at hp
     unfold FU at hp
     rw [oa, Array.getElem?_eq_getElem oh] at hp
     have := uH j hj
     unfold ML at this
     simpa [this, or_assoc] using hp
   obtain ⟨σ', hs, hr⟩ := pull uf oa vF lD wg uh wV
   have m8 : i ∉ pre ++ post := by
    have := List.nodup_append.1 vF
    intro hm
    rcases List.mem_append.1 hm with h | h
    ·exact Nat.lt_irrefl _ (uA i h)
    ·exact (List.nodup_cons.1 this.2.1).1 h
   have s7 : ∀ j ∈ pre ++ post, j ∈ pre ++ i :: post := by
    intro j hj
    rcases List.mem_append.1 hj with h | h
    ·simp [h]
    ·simp [h]
   have key : ∀ a' w', X6 T0 B σ' a' w' -> YQ B w w' -> wpAny P .any ops Q fuel (wo.setIfInBounds i true) a' w' := by
    intro a' w' nq wM
    refine ih (pre ++ post) _ σ' a' w' (by simp at hl ⊢; omega) (by simp [vK]) ?_ (fun j => ?_) (fun j hj => wO j (s7 j hj)) ?_ (U9 oa hs m8 s7 wg) (uf i oi σ σ' oa hs uh) hr nq (hb.trans wM)
    ·exact oY.sublist (List.Sublist.append (List.Sublist.refl pre) (List.sublist_cons_self i post))
    ·by_cases rP : i = j
     ·subst rP
      constructor
      ·intro hm; exact absurd hm m8
      ·intro hm
       rw [Array.getD_eq_getD_getElem?] at hm
       simp [vK, uq] at hm
     ·rw [getD_set_ne true rP, <- vV j]
      simp only [List.mem_append, List.mem_cons]
      constructor
      ·rintro (h | h)
       ·exact .inl h
       ·exact .inr (.inr h)
      ·rintro (h | h | h)
       ·exact .inl h
       ·exact absurd h.symm rP
       ·exact .inr h
    ·intro m om rk hm j hQ hj
     by_cases hmi : m = i
     ·subst hmi
      rw [oa] at rk; cases rk
      have := mH j (s7 j hj)
      rw [hQ] at this; cases this
     ·have g5 : m ∉ pre ++ i :: post := by
       intro h
       rcases List.mem_append.1 h with h | h
       ·exact hm (by simp [h])
       ·rcases List.mem_cons.1 h with h | h
        ·exact hmi h
        ·exact hm (by simp [h])
      exact lY m om rk g5 j hQ (s7 j hj)
   have wb := kX hs T0 B a w (wpAny P .any ops Q fuel (wo.setIfInBounds i true)) Q vw key
   unfold wpOp
   simp only [oa]
   split
   ·rename_i hw; rw [if_pos hw] at wb; exact .inl wb
   ·rename_i hw; rw [if_neg hw] at wb; exact wb
theorem P4 {σ : St} {a : Act} {w : World} (h : X6 T0 B σ a w) : X6 T0 B σ a { w with drawn := w.drawn + 1 } := by
 obtain ⟨X, hh, r⟩ := h
 exact ⟨X, hh, r.grow (w' := { w with drawn := w.drawn + 1 }) ⟨rfl, rfl, rfl, Nat.le_refl _, fun _ _ _ => rfl⟩ (fun _ hb => hb) (fun _ hb => .inl hb)⟩
theorem Lb {bar : Oper -> Bool} {Q : St -> Prop} : ∀ {n k : Nat} {σ : St}, k + n = ops.size -> OX P ops bar (ops.toList.drop k) σ Q -> Mp P ops bar (List.range' k n) σ Q
 | 0, k, σ, hk, h => by
  rw [List.drop_eq_nil_of_le (by simp; omega)] at h
  exact h
 | n + 1, k, σ, hk, h => by
  have wO : k < ops.toList.length := by simp; omega
  rw [List.drop_eq_getElem_cons wO] at h
  obtain ⟨σ', hs, hr⟩ := h
  rw [List.range'_succ]
  exact ⟨ops.toList[k], σ', by rw [<- Array.getElem?_toList]; exact List.getElem?_eq_getElem wO, hs, Lb (by omega) hr⟩
theorem UC {bar : Oper -> Bool} {PT : List (Nat × Nat)} {NB : List Nat} {id : Nat} {Q : Exit -> St -> Prop} {σ : St} (uf : ∀ (i : Nat) (o : Oper) (σ σ' : St), ops[i]? = some o -> Qy P ops bar o σ σ' -> R7 PT NB σ -> R7 PT NB σ') (uh : R7 PT NB σ) (hm : P.follows .mixedOrders = true) (hdr : NJ P ops (fun i => i) bar PT NB (Wb ops.toList []) = true) (wg : KT ops (fun i => i) σ = true) (h : OX P ops bar ops.toList σ (Q .normal)) : AWP P (.region id ops true) Q σ := by
 intro T0 B a w vw
 refine wp_region_any hm ?_
 have vH := List.all_eq_true.1 hdr
 refine Pt (T0 := T0) (B := B) (w0 := w) uf hdr (Qa := Q .normal) (fun σ' a' w' hq hr hb => ⟨σ', hq, hr, hb⟩) ops.size (List.range' 0 ops.size) _ σ a _ (by simp) (by simp) ?_ (fun i => ?_) (fun i hi => by simp [List.mem_range'] at hi; omega) (fun m om rk hm => absurd (by simp only [List.mem_range'_1]; have := (Array.getElem?_eq_some_iff.1 rk).1; omega) hm) ?_ uh (Lb (by omega) (by simpa using h)) (P4 vw) ⟨rfl, rfl, rfl, Nat.le_refl _, fun _ _ => rfl⟩
 ·exact List.pairwise_lt_range'
 ·rw [Array.getD_eq_getD_getElem?, Array.getElem?_replicate]
  simp only [List.mem_range'_1]
  constructor
  ·intro hh; rw [if_pos (by omega)]; rfl
  ·intro hh
   split at hh
   ·omega
   ·cases hh
 ·intro j hj hl
  simp only [List.mem_range'_1] at hj
  have hb := vH j (List.mem_range.2 (by omega))
  simp only [Bool.and_eq_true, Bool.or_eq_true, Bool.not_eq_true'] at hb
  refine ⟨hb.2.resolve_left (by unfold jt at hl; rw [hl]; simp), ?_⟩
  have hc := List.all_eq_true.1 wg j (List.mem_range.2 (by omega))
  unfold jt at hl
  simp only [hl, Bool.not_true, Bool.false_or] at hc
  have wO : j < ops.size := by omega
  rw [Array.getElem?_eq_getElem wO] at hc
  simp only [Option.bind_some] at hc
  cases hd : ops[j].dst with
  | none => rw [hd] at hc; cases hc
  | some d => rw [hd] at hc; exact ⟨_, d, Array.getElem?_eq_getElem wO, hd, hc⟩
theorem Np {bar : Oper -> Bool} {id : Nat} {Q : Exit -> St -> Prop} {σ : St} (hm : P.follows .mixedOrders = true) (hdr : TH P ops (fun i => i) bar = true) (wg : KT ops (fun i => i) σ = true) (h : OX P ops bar ops.toList σ (Q .normal)) : AWP P (.region id ops true) Q σ :=
 UC (PT := []) (NB := []) (fun _ _ _ _ _ _ _ => Tx) Tx hm hdr wg h
theorem Fg {id : Nat} {σ : St} {l : List Oper} {br : Oper -> Bool} {k : Fr} (PT : List (Nat × Nat)) (hm : P.follows .mixedOrders = true) (hdr : NJ P ⟨l⟩ (fun i => i) (fun _ => false) PT [] (Wb l []) = true) (wg : KT ⟨l⟩ (fun i => i) σ = true) (pj : Vn ⟨l⟩ PT = true) (hp : ptB PT σ = true) (h : @EI P σ ⟨⟨l⟩, fun _ => false⟩ ⟨l⟩ k) : @DI P id σ ⟨⟨l⟩, br⟩ k :=
 UC (bar := fun _ => false) (PT := PT) (NB := []) (fun _ _ _ _ hi hs hq => ⟨Lx pj hi (hs.resolve_right (fun hh => by cases hh.1)) hq.1, fun p hp => by cases hp⟩) ⟨Hx hp, fun p hp => by cases hp⟩ hm hdr wg (Xw h)
theorem FL {id : Nat} {σ : St} {l : List Oper} {br : Oper -> Bool} {k : Fr} (hm : P.follows .mixedOrders = true) (hdr : TH P ⟨l⟩ (fun i => i) (fun _ => false) = true) (wg : KT ⟨l⟩ (fun i => i) σ = true) (h : @EI P σ ⟨⟨l⟩, fun _ => false⟩ ⟨l⟩ k) : @DI P id σ ⟨⟨l⟩, br⟩ k :=
 Np hm hdr wg (Xw h)
def VW (bs : List Nat) (o : Oper) : Bool := match o.dst with | some d => bs.contains d | none => !bs.contains 3000001
theorem Fl {ops : Array Oper} {PT : List (Nat × Nat)} {bar : Oper -> Bool} {i : Nat} {o : Oper} {σ σ' : St} (pj : Vn ops PT = true) (oB : (ops.toList.all fun o => !bar o || y9 o || zj o || (QL P o && Wc bar o)) = true) (hi : ops[i]? = some o) (hs : Qy P ops bar o σ σ') (h : WD PT σ) : WD PT σ' := by
 rcases hs with hs | ⟨hb, _, _, lk, rl, lp⟩
 ·exact Lx pj hi hs h
 ·have vV : o ∈ ops.toList := by rw [Array.mem_toList_iff]; exact Array.mem_of_getElem? hi
  have h1 := List.all_eq_true.1 oB o vV
  simp only [hb, Bool.not_true, Bool.false_or, Bool.or_eq_true, Bool.and_eq_true] at h1
  rcases h1 with (h1 | h1) | ⟨h1, h1o⟩
  ·obtain ⟨⟨_, hg⟩, _⟩ := lk h1
   intro p hp
   rw [hg]; exact h p hp
  ·obtain ⟨d, hd, _, hg, _⟩ := rl h1
   intro p hp
   have wB : p.1 ≠ d := by
    intro e
    have hc := List.all_eq_true.1 pj o vV
    rw [hd] at hc
    have hc := List.all_eq_true.1 hc p hp
    simp only [e, bne_self_eq_false, Bool.false_or, Bool.and_eq_true] at hc
    have hc := hc.2
    unfold zj at h1
    cases wA : o.op <;> rw [wA] at h1 hc <;> first | (exact Bool.noConfusion h1) | (exact Bool.noConfusion hc)
   rw [(hg p.1 wB).1]; exact h p hp
  ·obtain ⟨d, t, cells, cs, v, os, hd, _, _, _, _, _, rfl, _⟩ := lp h1 h1o
   intro p hp
   have wB : p.1 ≠ d := by
    intro e
    have hc := List.all_eq_true.1 pj o vV
    rw [hd] at hc
    have hc := List.all_eq_true.1 hc p hp
    simp only [e, bne_self_eq_false, Bool.false_or, Bool.and_eq_true] at hc
    have hc := hc.2
    unfold QL at h1
    cases wA : o.op <;> rw [wA] at h1 hc <;> first | (exact Bool.noConfusion h1) | (exact Bool.noConfusion hc)
   rw [O5 wB]; exact h p hp
theorem Fk {ops : Array Oper} {NB : List Nat} {bar : Oper -> Bool} {i : Nat} {o : Oper} {σ σ' : St} (vz : RA P ops NB = true) (oB : (ops.toList.all fun o => !bar o || y9 o || zj o || (QL P o && Wc bar o)) = true) (hi : ops[i]? = some o) (hs : Qy P ops bar o σ σ') (h : Ra NB σ) : Ra NB σ' := by
 rcases hs with hs | ⟨hb, _, _, lk, rl, lp⟩
 ·exact Gl vz hi hs h
 ·have vV : o ∈ ops.toList := by rw [Array.mem_toList_iff]; exact Array.mem_of_getElem? hi
  have h1 := List.all_eq_true.1 oB o vV
  simp only [hb, Bool.not_true, Bool.false_or, Bool.or_eq_true, Bool.and_eq_true] at h1
  rcases h1 with (h1 | h1) | ⟨h1, h1o⟩
  ·obtain ⟨⟨_, hg⟩, _⟩ := lk h1
   intro p hp
   rw [hg]; exact h p hp
  ·obtain ⟨d, hd, _, hg, _⟩ := rl h1
   intro p hp
   have wB : p ≠ d := by
    intro e
    have hc := List.all_eq_true.1 vz o vV
    rw [hd] at hc
    have hc := List.all_eq_true.1 hc p hp
    simp only [e, bne_self_eq_false, Bool.false_or, Bool.and_eq_true] at hc
    have hc := hc.2
    unfold zj at h1
    cases wA : o.op <;> rw [wA] at h1 hc <;> first | (exact Bool.noConfusion h1) | (exact Bool.noConfusion hc)
   rw [(hg p wB).1]; exact h p hp
  ·obtain ⟨d, t, cells, cs, v, os, hd, _, _, _, _, _, rfl, _⟩ := lp h1 h1o
   intro p hp
   have wB : p ≠ d := by
    intro e
    have hc := List.all_eq_true.1 vz o vV
    rw [hd] at hc
    have hc := List.all_eq_true.1 hc p hp
    simp only [e, bne_self_eq_false, Bool.false_or, Bool.and_eq_true] at hc
    have hc := hc.2
    unfold QL at h1
    cases wA : o.op <;> rw [wA] at h1 hc <;> first | (exact Bool.noConfusion h1) | (exact Bool.noConfusion hc)
   rw [O5 wB]; exact h p hp
theorem Lg {id : Nat} {σ : St} {l : List Oper} {br : Oper -> Bool} {k : Fr} (PT : List (Nat × Nat)) (NB bs : List Nat) (hm : P.follows .mixedOrders = true) (hdr : NJ P ⟨l⟩ (fun i => i) (VW bs) PT NB (Wb l []) = true) (wg : KT ⟨l⟩ (fun i => i) σ = true) (pj : Vn ⟨l⟩ PT = true) (hp : ptB PT σ = true) (vz : RA P ⟨l⟩ NB = true) (lT : nbB NB σ = true) (oB : (l.all fun o => !VW bs o || y9 o || zj o || (QL P o && Wc (VW bs) o)) = true) (h : @EI P σ ⟨⟨l⟩, VW bs⟩ ⟨l⟩ k) : @DI P id σ ⟨⟨l⟩, br⟩ k :=
 UC (bar := VW bs) (PT := PT) (NB := NB) (fun _ _ _ _ hi hs hq => ⟨Fl pj oB hi hs hq.1, Fk vz oB hi hs hq.2⟩) ⟨Hx hp, EJ lT⟩ hm hdr wg (Xw h)
theorem EN {id : Nat} {σ : St} {l : List Oper} {br : Oper -> Bool} {k : Fr} (bs : List Nat) (hm : P.follows .mixedOrders = true) (hdr : Vm.TH P ⟨l⟩ (fun i => i) (VW bs) = true) (wg : KT ⟨l⟩ (fun i => i) σ = true) (h : @EI P σ ⟨⟨l⟩, VW bs⟩ ⟨l⟩ k) : @DI P id σ ⟨⟨l⟩, br⟩ k :=
 Np hm hdr wg (Xw h)
def pwB (pos : Nat -> Nat) : List Nat -> Bool
 | [] => true
 | i :: r => r.all (fun j => decide (pos i < pos j)) && pwB pos r
theorem GL {pos : Nat -> Nat} : ∀ {l : List Nat}, pwB pos l = true -> l.Pairwise (fun i j => pos i < pos j)
 | [], _ => .nil
 | i :: r, h => by
  simp only [pwB, Bool.and_eq_true, List.all_eq_true, decide_eq_true_eq] at h
  exact .cons h.1 (GL h.2)
def posOf : List Nat -> Nat -> Nat
 | [], _ => 0
 | i :: r, k => if i == k then 0 else posOf r k + 1
def GY (n : Nat) (ord : List Nat) : Bool := ord.length == n && pwB (posOf ord) ord && ord.all (fun i => decide (i < n)) && (List.range n).all (fun i => ord.contains i)
@[reducible] def ED : List Oper -> Nat -> Oper -> Oper
 | [], _, d => d
 | o :: _, 0, _ => o
 | _ :: l, i + 1, d => ED l i d
@[reducible] def Hi (l : List Oper) (d : Oper) : List Nat -> List Oper
 | [] => []
 | i :: r => ED l i d :: Hi l d r
theorem NR {d : Oper} : ∀ {l : List Oper} {i : Nat}, i < l.length -> l[i]? = some (ED l i d)
 | [], i, h => by simp at h
 | o :: l, 0, _ => rfl
 | o :: l, i + 1, h => by simpa using NR (l := l) (i := i) (by simpa using h)
theorem Pk {bar : Oper -> Bool} {Q : St -> Prop} {l : List Oper} {d : Oper} : ∀ {ord : List Nat} {σ : St}, (∀ i ∈ ord, i < l.length) -> OX P l.toArray bar (Hi l d ord) σ Q -> Mp P l.toArray bar ord σ Q
 | [], σ, _, h => h
 | i :: r, σ, hi, h => by
  obtain ⟨σ', hs, hr⟩ := h
  exact ⟨_, σ', by rw [List.getElem?_toArray]; exact NR (hi i (by simp)), hs, Pk (fun j hj => hi j (by simp [hj])) hr⟩
theorem L1 {bar : Oper -> Bool} {id : Nat} {Q : Exit -> St -> Prop} {σ : St} {ord : List Nat} (hm : P.follows .mixedOrders = true) (ho : GY ops.size ord = true) (hdr : TH P ops (posOf ord) bar = true) (wg : KT ops (posOf ord) σ = true) (h : Mp P ops bar ord σ (Q .normal)) : AWP P (.region id ops true) Q σ := by
 intro T0 B a w vw
 refine wp_region_any hm ?_
 have vH := List.all_eq_true.1 hdr
 simp only [GY, Bool.and_eq_true, beq_iff_eq, List.all_eq_true, decide_eq_true_eq, List.mem_range, List.contains_iff_mem] at ho
 obtain ⟨⟨⟨o1, o2⟩, o3⟩, o4⟩ := ho
 refine Pt (T0 := T0) (B := B) (w0 := w) (PT := []) (NB := []) (fun _ _ _ _ _ _ _ => Tx) hdr (Qa := Q .normal) (fun σ' a' w' hq hr hb => ⟨σ', hq, hr, hb⟩) ops.size ord _ σ a _ o1 (by simp) (GL o2) (fun i => ?_) o3 (fun m om rk hm => absurd (o4 m (Array.getElem?_eq_some_iff.1 rk).1) hm) ?_ Tx h (P4 vw) ⟨rfl, rfl, rfl, Nat.le_refl _, fun _ _ => rfl⟩
 ·rw [Array.getD_eq_getD_getElem?, Array.getElem?_replicate]
  constructor
  ·intro hh; rw [if_pos (o3 i hh)]; rfl
  ·intro hh
   split at hh
   ·rename_i wO; exact o4 i wO
   ·cases hh
 ·intro j hj hl
  have lE := o3 j hj
  have hb := vH j (List.mem_range.2 lE)
  simp only [Bool.and_eq_true, Bool.or_eq_true, Bool.not_eq_true'] at hb
  refine ⟨hb.2.resolve_left (by unfold jt at hl; rw [hl]; simp), ?_⟩
  have hc := List.all_eq_true.1 wg j (List.mem_range.2 lE)
  unfold jt at hl
  simp only [hl, Bool.not_true, Bool.false_or] at hc
  rw [Array.getElem?_eq_getElem lE] at hc
  simp only [Option.bind_some] at hc
  cases hd : ops[j].dst with
  | none => rw [hd] at hc; cases hc
  | some d => rw [hd] at hc; exact ⟨_, d, Array.getElem?_eq_getElem lE, hd, hc⟩
theorem H8 {id : Nat} {σ : St} {o : Oper} {l : List Oper} {br : Oper -> Bool} {k : Fr} (ord : List Nat) (hm : P.follows .mixedOrders = true) (ho : GY (o :: l).length ord = true) (hdr : TH P ⟨o :: l⟩ (posOf ord) (fun _ => false) = true) (wg : KT ⟨o :: l⟩ (posOf ord) σ = true)
  (h : @EI P σ ⟨⟨o :: l⟩, fun _ => false⟩ ⟨Hi (o :: l) o ord⟩ k) : @DI P id σ ⟨⟨o :: l⟩, br⟩ k := by
 have h2 : ∀ i ∈ ord, i < (o :: l).length := by
  simp only [GY, Bool.and_eq_true, List.all_eq_true, decide_eq_true_eq] at ho
  exact ho.1.2
 exact L1 hm ho hdr wg (Pk h2 (Xw h))
end
end Go.Vm
