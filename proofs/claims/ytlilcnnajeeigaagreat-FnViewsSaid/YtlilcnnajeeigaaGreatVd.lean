/- An abstract machine ON the model of Go, by value, and that it is sound: part Vd. No condition. -/
import Derived.Test.YtlilcnnajeeigaaGreatVc
import Derived.Orders
set_option linter.unusedVariables false
set_option linter.unusedSimpArgs false
namespace Go.Vm
open Go.RowKit
structure Sub (P : Program) (xs : List Operand) (σ1 σ : St) : Prop where
 len : σ1.length = σ.length
 look : ∀ x ∈ xs, ∀ ty, look P σ1 ty x = look P σ ty x
 ob : ∀ x ∈ xs, ∀ ty u, (Vm.look P σ1 ty x).ref u = true -> ∀ j, σ1.ob u j ≠ .none -> σ.ob u j = σ1.ob u j
theorem Y6 {v : V} {x : At} {u : Nat} (h : unc v = .one x) (hx : x.ref u = true) : v.ref u = true := by
 cases v with
 | cnd g y => simp only [unc] at h; subst h; simp only [V.ref, V.Tw, Bool.or_eq_true]; exact .inl hx
 | one y => simp only [unc] at h; cases h; exact hx
 | any => simp [unc] at h
 | agg xs => simp [unc] at h
 | tup xs => simp [unc] at h
 | fix g y => simp only [unc] at h; subst h; simp only [V.ref, V.Tw, Bool.or_eq_true]; exact .inl hx
theorem Uc {v : V} {xs : List At} {u : Nat} (h : unc v = .agg xs) (hx : Zw u xs = true) : v.ref u = true := by
 cases v with
 | cnd g y => simp only [unc] at h; subst h; simp only [V.ref, V.Tw, Bool.or_eq_true]; exact .inl hx
 | agg y => simp only [unc] at h; cases h; exact hx
 | any => simp [unc] at h
 | one xs => simp [unc] at h
 | tup xs => simp [unc] at h
 | fix g y => simp only [unc] at h; subst h; simp only [V.ref, V.Tw, Bool.or_eq_true]; exact .inl hx
theorem xm {v : V} {u : Nat} (hx : Zw u (unc v).cells = true) : v.ref u = true := by
 cases h : unc v with
 | one x => rw [h] at hx; simp [V.cells, Zw] at hx; exact Y6 h hx
 | agg xs => rw [h] at hx; exact Uc h hx
 | any => rw [h] at hx; simp [V.cells, Zw] at hx
 | tup xs => rw [h] at hx; simp [V.cells, Zw] at hx
 | cnd g x => rw [h] at hx; simp [V.cells, Zw] at hx
 | fix u x => rw [h] at hx; simp [V.cells, Zw] at hx
section
variable {P : Program} {σ1 σ : St}
theorem Sub.same {xs : List Operand} {x : Operand} {ty : TypeId} {a : At} {u j : Nat} {o : Ob} (h : Sub P xs σ1 σ) (hx : x ∈ xs) (hv : unc (Vm.look P σ ty x) = .one a) (ha : a.ref u = true) (ho : σ1.ob u j = o) (hn : o ≠ .none) : σ.ob u j = o := by
 rw [<- ho]
 refine h.ob x hx ty u ?_ j (by rw [ho]; exact hn)
 rw [h.look x hx ty]
 exact Y6 hv ha
theorem KH {xs : List Operand} {x : Operand} {k : IntKind} {n : Int} (h : Sub P xs σ1 σ) (hx : x ∈ xs) (hl : qo P σ1 x k n) : qo P σ x k n := by
 unfold qo at *
 rw [<- h.look x hx]; exact hl
theorem Na {xs : List Operand} {df n : Nat} {x : Option Operand} (h : Sub P xs σ1 σ) (hx : ∀ y, x = some y -> y ∈ xs) (hl : bnd P σ1 df x n) : bnd P σ df x n := by
 cases x with
 | none => exact hl
 | some x =>
  simp only [bnd] at *
  rw [<- h.look x (hx x rfl)]; exact hl
theorem Th {T : TypeId} : ∀ {ps : List (Nat × Operand)} {z out : List At}, Sub P (ps.map (·.2)) σ1 σ -> kK P σ1 T ps z out -> kK P σ T ps z out
 | [], _, _, _, h => h
 | (i, x) :: ps, z, out, hs, h => by
  have e := hs.look x (by simp)
  simp only [kK] at h ⊢
  rw [<- e]
  refine ⟨h.1, h.2.1, h.2.2.1, h.2.2.2.1, h.2.2.2.2.1, Th ⟨hs.len, fun y hy => hs.look y (by simp at hy ⊢; exact .inr hy), fun y hy => hs.ob y (by simp at hy ⊢; exact .inr hy)⟩ h.2.2.2.2.2⟩
theorem xK {op : Op} {ty : TypeId} {v : V} (hs : Z1 P σ1 op ty v) (h : Sub P op.operands.toList σ1 σ) : Z1 P σ op ty v := by
 cases op <;> simp only [Z1] at hs ⊢
 case move x => rw [<- h.look x (by simp [Op.operands])]; exact hs
 case assign x => rw [<- h.look x (by simp [Op.operands])]; exact hs
 case pick c a b =>
  rw [<- h.look c (by simp [Op.operands]), <- h.look a (by simp [Op.operands]), <- h.look b (by simp [Op.operands])]; exact hs
 case load T x =>
  rw [h.look x (by simp [Op.operands])] at hs
  refine ⟨hs.1, hs.2.1, ?_⟩
  have wO := hs.2.2
  split at wO
  ·rename_i t c hx
   obtain ⟨cells, ho, hr⟩ := wO
   exact ⟨cells, h.same (by simp [Op.operands]) hx (by simp [At.ref]) ho (by simp), hr⟩
  ·rename_i t j i c hx
   obtain ⟨q, size, rows, ho, hr⟩ := wO
   exact ⟨q, size, rows, h.same (by simp [Op.operands]) hx (by simp [At.ref]) ho (by simp), hr⟩
  ·exact wO
  ·rename_i t j i c k hx
   obtain ⟨size, rows, s, ho, hr⟩ := wO
   exact ⟨size, rows, s, h.same (by simp [Op.operands]) hx (by simp [At.ref]) ho (by simp), hr⟩
  ·exact wO.elim
 case nilCheck x =>
  rw [h.look x (by simp [Op.operands])] at hs
  refine ⟨hs.1, ?_⟩
  have wO := hs.2
  split at wO
  ·rename_i t c hx
   obtain ⟨⟨cells, ho⟩, hr⟩ := wO
   exact ⟨⟨cells, h.same (by simp [Op.operands]) hx (by simp [At.ref]) ho (by simp)⟩, hr⟩
  ·exact wO.elim
 case fieldAddr T x f =>
  rw [h.look x (by simp [Op.operands])] at hs
  refine ⟨hs.1, hs.2.1, ?_⟩
  have wO := hs.2.2
  split at wO
  ·rename_i t c hx
   obtain ⟨⟨cells, ho⟩, hr⟩ := wO
   exact ⟨⟨cells, h.same (by simp [Op.operands]) hx (by simp [At.ref]) ho (by simp)⟩, hr⟩
  ·rename_i t j i c hx
   obtain ⟨⟨q, size, rows, ho⟩, hr⟩ := wO
   exact ⟨⟨q, size, rows, h.same (by simp [Op.operands]) hx (by simp [At.ref]) ho (by simp)⟩, hr⟩
  ·exact wO
  ·rename_i t j i c k hx
   obtain ⟨⟨size, rows, ho⟩, hr⟩ := wO
   exact ⟨⟨size, rows, h.same (by simp [Op.operands]) hx (by simp [At.ref]) ho (by simp)⟩, hr⟩
  ·exact wO.elim
 case indexAddr T x ix =>
  obtain ⟨k, i, hk, h0, hg, wO⟩ := hs
  rw [h.look x (by simp [Op.operands])] at hg wO
  refine ⟨k, i, KH h (by simp [Op.operands]) hk, h0, hg, ?_⟩
  split at wO
  ·exact wO
  ·rename_i t j lo len hx
   obtain ⟨h1, h2, ⟨q, rows, ho⟩, hr⟩ := wO
   exact ⟨h1, h2, ⟨q, rows, h.same (by simp [Op.operands]) hx (by simp [At.ref]) ho (by simp)⟩, hr⟩
  ·rename_i t c hx
   obtain ⟨⟨cells, ho⟩, hr⟩ := wO
   exact ⟨⟨cells, h.same (by simp [Op.operands]) hx (by simp [At.ref]) ho (by simp)⟩, hr⟩
  ·rename_i t j m c hx
   obtain ⟨h1, h2, ⟨size, rows, s, ho, hr⟩, hv⟩ := wO
   exact ⟨h1, h2, ⟨size, rows, s, h.same (by simp [Op.operands]) hx (by simp [At.ref]) ho (by simp), hr⟩, hv⟩
  ·exact wO.elim
 case index T x ix =>
  obtain ⟨k, i, hk, h0, hg, wO⟩ := hs
  rw [h.look x (by simp [Op.operands])] at hg wO
  exact ⟨k, i, KH h (by simp [Op.operands]) hk, h0, hg, wO⟩
 case slice T x lo hi mx =>
  cases mx with
  | some m => exact hs.elim
  | none =>
   simp only at hs ⊢
   rw [h.look x (by simp [Op.operands])] at hs
   refine ⟨hs.1, ?_⟩
   have wO := hs.2
   have b1 : ∀ df n, bnd P σ1 df lo n -> bnd P σ df lo n := fun df n => Na h (fun y hy => by subst hy; simp [Op.operands])
   have b2 : ∀ df n, bnd P σ1 df hi n -> bnd P σ df hi n := fun df n => Na h (fun y hy => by subst hy; simp [Op.operands])
   split at wO
   ·obtain ⟨h1, l, hh, h2, h3, hr⟩ := wO
    exact ⟨h1, l, hh, b1 _ _ h2, b2 _ _ h3, hr⟩
   ·obtain ⟨h1, gq, l, hh, h2, h3, hr⟩ := wO
    exact ⟨h1, gq, l, hh, b1 _ _ h2, b2 _ _ h3, hr⟩
   ·rename_i t j o len hx
    obtain ⟨h1, ⟨q, rows, ho⟩, l, hh, h2, h3, hr⟩ := wO
    exact ⟨h1, ⟨q, rows, h.same (by simp [Op.operands]) hx (by simp [At.ref]) ho (by simp)⟩, l, hh, b1 _ _ h2, b2 _ _ h3, hr⟩
   ·exact wO.elim
 case binOp op T x y yt =>
  rw [<- h.look x (by simp [Op.operands]), <- h.look y (by simp [Op.operands])]; exact hs
 case unOp op T x => rw [<- h.look x (by simp [Op.operands])]; exact hs
 case convert S T x => rw [<- h.look x (by simp [Op.operands])]; exact hs
 case extract x i => rw [<- h.look x (by simp [Op.operands])]; exact hs
 case field T x f => rw [<- h.look x (by simp [Op.operands])]; exact hs
 case build T parts =>
  obtain ⟨h1, h2, z, out, h3, h4, h5⟩ := hs
  refine ⟨h1, h2, z, out, h3, Th ?_ h4, h5⟩
  simpa [Op.operands] using h
 case call c =>
  obtain ⟨mS, args, tI⟩ := c
  have hm : ∀ x ∈ args.toList, x ∈ (Op.operands (.call ⟨mS, args, tI⟩)).toList := by
   intro x hx
   simp only [Op.operands, Call.operands]
   cases mS <;> simp at hx ⊢ <;> simp [hx]
  split at hs
  ·rename_i x t hc ha ht
   rw [h.look x (hm x (by rw [ha]; simp))] at hs
   try simp only [hc, ha, ht]
   refine ⟨hs.1, ?_⟩
   have wO := hs.2
   split at wO
   ·exact wO
   ·exact wO
   ·exact wO
   ·rename_i u j lo len hx
    obtain ⟨h1, ⟨q, size, rows, ho⟩ | ⟨size, rows, ho⟩, hr⟩ := wO
    ·exact ⟨h1, .inl ⟨q, size, rows, h.same (hm x (by rw [ha]; simp)) hx (by simp [At.ref]) ho (by simp)⟩, hr⟩
    ·exact ⟨h1, .inr ⟨size, rows, h.same (hm x (by rw [ha]; simp)) hx (by simp [At.ref]) ho (by simp)⟩, hr⟩
   ·rename_i u j i c hx
    obtain ⟨h1, size, rows, n, s, ho, hr⟩ := wO
    exact ⟨h1, size, rows, n, s, h.same (hm x (by rw [ha]; simp)) hx (by simp [At.ref]) ho (by simp), hr⟩
   ·exact wO.elim
  ·rename_i x y hc ha
   try simp only [hc, ha]
   obtain ⟨k, m, n, h1, h2, h3⟩ := hs
   exact ⟨k, m, n, KH h (hm x (by rw [ha]; simp)) h1, KH h (hm y (by rw [ha]; simp)) h2, h3⟩
  ·rename_i x y hc ha
   try simp only [hc, ha]
   obtain ⟨k, m, n, h1, h2, h3⟩ := hs
   exact ⟨k, m, n, KH h (hm x (by rw [ha]; simp)) h1, KH h (hm y (by rw [ha]; simp)) h2, h3⟩
  ·exact hs.elim
end
end Go.Vm
namespace Go.Vm
open Go.RowKit
def TL (P : Program) (xs : List Operand) (σ : St) (u : Nat) : Prop :=
 ∃ x ∈ xs, ∃ ty, (look P σ ty x).ref u = true \/ ∃ t cells, (look P σ ty x).ref t = true /\ σ.ob t 0 = .box cells /\ Zw u cells = true
theorem JA {u : Nat} : ∀ {xs : List At}, Zw u xs = true ↔ ∃ x ∈ xs, x.ref u = true
 | [] => by simp [Zw]
 | x :: xs => by simp [Zw, JA]
theorem IV {u : Nat} {xs ys : List At} (h : ∀ x ∈ xs, x ∈ ys) (hx : Zw u xs = true) : Zw u ys = true := by
 obtain ⟨x, h1, h2⟩ := JA.1 hx
 exact JA.2 ⟨x, h x h1, h2⟩
theorem Uj {u a b : Nat} {xs : List At} (hx : Zw u (cut xs a b) = true) : Zw u xs = true :=
 IV (fun _ h => List.mem_of_mem_drop (List.mem_of_mem_take h)) hx
theorem ql {u : Nat} (xs : List D) : Zw u (xs.map .d) = false := by
 induction xs with
 | nil => rfl
 | cons x xs ih => simp [Zw, At.ref, ih]
theorem V5 {P : Program} {T : TypeId} {u : Nat} {xs : List At} (h : (ldV P T xs).ref u = true) : Zw u xs = true := by
 unfold ldV at h
 split at h
 ·exact h
 ·split at h
  ·simpa [V.ref, Zw] using h
  ·simp [V.ref] at h
theorem GB {u o : Nat} {r xs : List At} (h : Zw u (place r o xs) = true) : Zw u r = true \/ Zw u xs = true := by
 obtain ⟨x, h1, h2⟩ := JA.1 h
 simp only [place, List.mem_append] at h1
 rcases h1 with (h1 | h1) | h1
 ·exact .inl (JA.2 ⟨x, List.mem_of_mem_take h1, h2⟩)
 ·exact .inr (JA.2 ⟨x, h1, h2⟩)
 ·exact .inl (JA.2 ⟨x, List.mem_of_mem_drop h1, h2⟩)
theorem Fb {v : V} {u : Nat} (h : (unc v).ref u = true) (hc : ∀ g x, unc v ≠ .cnd g x) (hf : ∀ g x, unc v ≠ .fix g x) : v.ref u = true := by
 cases v with
 | cnd g x =>
  simp only [unc] at h hc hf
  simp only [V.ref, Bool.or_eq_true]
  cases x with
  | tup xs => exact .inr h
  | cnd g y => exact absurd rfl (hc g y)
  | fix g y => exact absurd rfl (hf g y)
  | one x => exact .inl h
  | agg x => exact .inl h
  | any => exact .inl h
 | fix g x =>
  simp only [unc] at h hc hf
  simp only [V.ref, Bool.or_eq_true]
  cases x with
  | tup xs => exact .inr h
  | cnd g y => exact absurd rfl (hc g y)
  | fix g y => exact absurd rfl (hf g y)
  | one x => exact .inl h
  | agg x => exact .inl h
  | any => exact .inl h
 | _ => exact h
theorem OR {u t j i : Nat} : ∀ {c : Nat} {xs : List D}, Zw u (xd t j i c xs) = true -> u = t
 | _, [], h => by simp [xd, Zw] at h
 | c, x :: xs, h => by
  simp only [xd, Zw, Bool.or_eq_true] at h
  rcases h with h | h
  ·cases x <;> simp [At.ref] at h; exact h.symm
  ·exact OR h
theorem Iy {u t j i c : Nat} {q : Bool} {xs : List D} (h : Zw u (WX q t j i c xs) = true) : u = t := by
 cases q with
 | true => exact OR h
 | false => simp only [WX] at h; rw [ql] at h; cases h
theorem LM {op : BinOp} {k : IntKind} {x y : Int} {v : V} (h : P5 op k x y v) (u : Nat) : v.ref u = false := by
 cases op <;> simp only [P5] at h <;> first | (subst h; rfl) | (obtain ⟨_, rfl⟩ := h; rfl) | exact h.elim
theorem IF {op : BinOp} {x y : ByteArray} {v : V} (h : PQ op x y v) (u : Nat) : v.ref u = false := by
 cases op <;> simp only [PQ] at h <;> first | (subst h; rfl) | (obtain ⟨_, rfl⟩ := h; rfl) | exact h.elim
theorem Mn {op : BinOp} {x y : Bool} {v : V} (h : Tl op x y v) (u : Nat) : v.ref u = false := by
 cases op <;> simp only [Tl] at h <;> first | (subst h; rfl) | (obtain ⟨_, rfl⟩ := h; rfl) | exact h.elim
theorem I2 {P : Program} {op : BinOp} {T : TypeId} {x y v : V} (h : IC P op T x y v) (u : Nat) : v.ref u = false := by
 unfold IC at h
 split at h
 ·exact LM h.2 u
 ·exact IF h u
 ·exact Mn h.2 u
 ·obtain ⟨_, q, _, ⟨_, rfl⟩ | ⟨_, rfl⟩⟩ := h <;> rfl
 ·exact h.elim
theorem NO {u : Nat} : ∀ {xs : List V} {i : Nat} {v : V}, xs[i]? = some v -> v.Tw u = true -> kh u xs = true
 | [], _, _, h, _ => by simp at h
 | x :: xs, 0, v, h, hr => by simp at h; subst h; simp [kh, hr]
 | x :: xs, i + 1, v, h, hr => by simp only [kh, Bool.or_eq_true]; exact .inr (NO (by simpa using h) hr)
theorem NU {v : V} (hf : v.flat = true) (u : Nat) : v.ref u = v.Tw u := by
 cases v <;> first | rfl | (simp [V.flat] at hf)
theorem Pa {P : Program} {σ : St} {T : TypeId} {u : Nat} : ∀ {ps : List (Nat × Operand)} {z out : List At}, kK P σ T ps z out -> Zw u out = true ->
  Zw u z = true \/ ∃ x ∈ ps.map (·.2), ∃ ty, (look P σ ty x).ref u = true
 | [], z, out, h, hr => by simp only [kK] at h; subst h; exact .inl hr
 | (i, x) :: ps, z, out, h, hr => by
  simp only [kK] at h
  rcases Pa h.2.2.2.2.2 hr with h1 | ⟨y, hy, ty, h1⟩
  ·rcases GB h1 with h1 | h1
   ·exact .inl h1
   ·exact .inr ⟨x, by simp, _, xm h1⟩
  ·exact .inr ⟨y, by simp at hy ⊢; exact .inr hy, ty, h1⟩
theorem Sc {P : Program} {σ : St} {op : Op} {ty : TypeId} {v : V} {u : Nat} (hs : Z1 P σ op ty v) (hr : v.ref u = true) : TL P op.operands.toList σ u := by
 have fV : ∀ {x : D}, v = .one (.d x) -> False := by intro x e; rw [e] at hr; cases hr
 cases op <;> simp only [Z1] at hs
 case move x => subst hs; exact ⟨x, by simp [Op.operands], ty, .inl hr⟩
 case assign x => subst hs; exact ⟨x, by simp [Op.operands], ty, .inl hr⟩
 case pick c a b => obtain ⟨bc, p, q, _, _, _, _, _, _, rfl⟩ := hs; cases hr
 case load T x =>
  have wO := hs.2.2
  split at wO
  ·rename_i t c hx
   obtain ⟨cells, ho, _, rfl⟩ := wO
   exact ⟨x, by simp [Op.operands], 0, .inr ⟨t, cells, Y6 hx (by simp [At.ref]), ho, Uj (V5 hr)⟩⟩
  ·rename_i t j i c hx
   obtain ⟨q, size, rows, _, _, _, rfl⟩ := wO
   have := Iy (V5 hr)
   exact ⟨x, by simp [Op.operands], 0, .inl (Y6 hx (by simp [At.ref, this]))⟩
  ·obtain ⟨_, rfl⟩ := wO
   have := V5 hr; rw [ql] at this; cases this
  ·obtain ⟨_, _, _, _, _, _, _, _, _, rfl⟩ := wO
   have := V5 hr; rw [ql] at this; cases this
  ·exact wO.elim
 case nilCheck x =>
  have wO := hs.2
  split at wO
  ·rename_i t c hx
   obtain ⟨_, rfl⟩ := wO
   exact ⟨x, by simp [Op.operands], 0, .inl (Y6 hx hr)⟩
  ·exact wO.elim
 case fieldAddr T x f =>
  have wO := hs.2.2
  split at wO
  ·rename_i t c hx
   obtain ⟨_, rfl⟩ := wO
   exact ⟨x, by simp [Op.operands], 0, .inl (Y6 hx hr)⟩
  ·rename_i t j i c hx
   obtain ⟨_, rfl⟩ := wO
   exact ⟨x, by simp [Op.operands], 0, .inl (Y6 hx hr)⟩
  ·subst wO; cases hr
  ·rename_i t j i c k hx
   obtain ⟨_, rfl⟩ := wO
   exact ⟨x, by simp [Op.operands], 0, .inl (Y6 hx hr)⟩
  ·exact wO.elim
 case indexAddr T x ix =>
  obtain ⟨k, i, _, _, _, wO⟩ := hs
  split at wO
  ·obtain ⟨_, _, _, _, rfl⟩ := wO; cases hr
  ·rename_i t j lo len hx
   obtain ⟨_, _, _, _, rfl⟩ := wO
   exact ⟨x, by simp [Op.operands], 0, .inl (Y6 hx hr)⟩
  ·rename_i t c hx
   obtain ⟨_, _, rfl⟩ := wO
   exact ⟨x, by simp [Op.operands], 0, .inl (Y6 hx hr)⟩
  ·rename_i t j m c hx
   obtain ⟨_, _, _, rfl⟩ := wO
   exact ⟨x, by simp [Op.operands], 0, .inl (Y6 hx hr)⟩
  ·exact wO.elim
 case index T x ix =>
  obtain ⟨k, i, _, _, _, wO⟩ := hs
  split at wO
  ·obtain ⟨_, _, rfl⟩ := wO; cases hr
  ·rename_i xs hx
   obtain ⟨_, _, _, rfl⟩ := wO
   exact ⟨x, by simp [Op.operands], 0, .inl (Uc hx (Uj (V5 hr)))⟩
  ·exact wO.elim
 case slice T x lo hi mx =>
  cases mx with
  | some m => exact hs.elim
  | none =>
   simp only at hs
   have wO := hs.2
   split at wO
   ·obtain ⟨_, _, _, _, _, _, _, rfl⟩ := wO; cases hr
   ·obtain ⟨_, _, _, _, _, _, _, _, rfl⟩ := wO; cases hr
   ·rename_i t j o len hx
    obtain ⟨_, _, _, _, _, _, _, _, rfl⟩ := wO
    exact ⟨x, by simp [Op.operands], 0, .inl (Y6 hx hr)⟩
   ·exact wO.elim
 case binOp op T x y yt => rw [I2 hs.2.2 u] at hr; cases hr
 case unOp op T x =>
  have wO := hs.2
  split at wO
  ·subst wO; cases hr
  ·subst wO; cases hr
  ·exact wO.elim
 case convert S T x =>
  have wO := hs.2.2
  split at wO
  ·obtain ⟨_, _, rfl⟩ := wO; cases hr
  ·exact wO.elim
 case extract x i =>
  have wO := hs.2
  split at wO
  ·rename_i xs hx
   refine ⟨x, by simp [Op.operands], 0, .inl (Fb ?_ (by rw [hx]; simp) (by rw [hx]; simp))⟩
   rw [hx]
   rw [NU wO.2] at hr
   exact NO wO.1 hr
  ·exact wO.elim
 case field T x f =>
  have wO := hs.2.2.2
  split at wO
  ·rename_i xs hx
   obtain ⟨_, rfl⟩ := wO
   exact ⟨x, by simp [Op.operands], 0, .inl (Uc hx (Uj (V5 hr)))⟩
  ·exact wO.elim
 case build T parts =>
  obtain ⟨_, _, z, out, h3, h4, rfl⟩ := hs
  rcases Pa h4 hr with h1 | ⟨x, hx, iY, h1⟩
  ·rw [Uh u _ _ _ h3] at h1; cases h1
  ·exact ⟨x, by simpa [Op.operands] using hx, iY, .inl h1⟩
 case call c =>
  split at hs
  ·have wO := hs.2
   split at wO
   ·obtain ⟨_, rfl⟩ := wO; cases hr
   ·obtain ⟨_, rfl⟩ := wO; cases hr
   ·obtain ⟨_, rfl⟩ := wO; cases hr
   ·obtain ⟨_, _, rfl⟩ := wO; cases hr
   ·obtain ⟨_, _, _, _, _, _, _, _, rfl⟩ := wO; cases hr
   ·exact wO.elim
  ·obtain ⟨_, _, _, _, _, rfl⟩ := hs; cases hr
  ·obtain ⟨_, _, _, _, _, rfl⟩ := hs; cases hr
  ·exact hs.elim
end Go.Vm
namespace Go.Vm
open Go.RowKit
inductive Eff where
 | put (v : V)
 | new (v : V) (os : List Ob)
 | drop (t j : Nat) (v : V) (os : List Ob)
def Eff.ap (d : Nat) : Eff -> St -> St
 | .put v, σ => σ.put d v
 | .new v os, σ => σ.new d v os
 | .drop t j v os, σ => (σ.Zh t j .none).new d v os
def Eff.ok (d : Nat) : Eff -> St -> Prop
 | .put _, _ => True
 | .new _ _, σ => σ.fresh d = true
 | .drop t j _ _, σ => (∃ q s r, σ.ob t j = .arr q s r) /\ (σ.Zh t j .none).fresh d = true
def Eff.ref (u : Nat) : Eff -> Bool
 | .put v => v.ref u
 | .new v os => v.ref u || YH u os
 | .drop _ _ v os => v.ref u || YH u os
def qd (o : Oper) : Bool :=
 match o.op with
 | .call ⟨.builtin .append, ⟨.const _ :: _⟩, _⟩ => false
 | .call ⟨.builtin .append, _, _⟩ => true
 | _ => false
def Qm (o : Oper) : Bool :=
 match o.op with
 | .alloc _ => false
 | .box _ _ => false
 | .buildSlice _ _ _ => false
 | .makeSlice _ _ _ => false
 | .call ⟨.builtin .append, _, _⟩ => false
 | .call ⟨.value _, _, _⟩ => false
 | _ => true
def Jd (ops : Array Oper) (o : Oper) : List Operand :=
 o.op.operands.toList ++ (match o.guard with | some (j, _) => (match (ops[j]?).bind (·.dst) with | some dj => [.tmp dj] | none => []) | none => [])
section
variable {P : Program} {σ1 σ : St}
theorem Sub.left {xs ys : List Operand} (h : Sub P (xs ++ ys) σ1 σ) : Sub P xs σ1 σ := ⟨h.len, fun x hx => h.look x (by simp [hx]), fun x hx => h.ob x (by simp [hx])⟩
theorem Nz {x : At} {d : D} (h : ∀ u, x.ref u = true -> ∀ j, σ1.ob u j ≠ .none -> σ.ob u j = σ1.ob u j) (hd : JN σ1 x = some d) : JN σ x = some d := by
 cases x with
 | sref t j lo len =>
  simp only [JN] at hd ⊢
  split at hd
  ·rename_i q size rows ho
   rw [h t (by simp [At.ref]) j (by rw [ho]; simp), ho]; exact hd
  ·cases hd
 | _ => exact hd
theorem xC : ∀ {xs : List At} {r : List D}, (∀ u, Zw u xs = true -> ∀ j, σ1.ob u j ≠ .none -> σ.ob u j = σ1.ob u j) -> rowOf σ1 xs = some r -> rowOf σ xs = some r
 | [], _, _, h => h
 | x :: xs, r, h, hr => by
  simp only [rowOf] at hr ⊢
  split at hr
  ·rename_i d ds h1 h2
   rw [Nz (fun u hu => h u (by rw [Zw, hu]; rfl)) h1, xC (fun u hu => h u (by rw [Zw, hu, Bool.or_true])) h2]
   exact hr
  ·cases hr
theorem Oq {v : V} {r : List D} (h : ∀ u, Zw u v.cells = true -> ∀ j, σ1.ob u j ≠ .none -> σ.ob u j = σ1.ob u j) (hr : v.Qe σ1 = some r) : v.Qe σ = some r := by
 cases v with
 | one x => exact xC h hr
 | agg xs =>
  match xs, h, hr with
  | [], h, hr => exact xC h hr
  | [_], _, hr => simp [V.Qe] at hr
  | x :: y :: xs, h, hr => exact xC h hr
 | any => simp [V.Qe] at hr
 | tup xs => simp [V.Qe] at hr
 | cnd g x => simp [V.Qe] at hr
 | fix u x => simp [V.Qe] at hr
theorem Sub.cells {xs : List Operand} {x : Operand} (h : Sub P xs σ1 σ) (hx : x ∈ xs) (ty : TypeId) : ∀ u, Zw u (unc (Vm.look P σ1 ty x)).cells = true -> ∀ j, σ1.ob u j ≠ .none -> σ.ob u j = σ1.ob u j :=
 fun u hu j hn => h.ob x hx ty u (xm hu) j hn
theorem y9 : ∀ {xs : List Operand} {ts : List TypeId} {rs : List (List D)}, Sub P xs σ1 σ -> XP P σ1 xs ts rs -> XP P σ xs ts rs
 | [], _, _, _, h => h
 | x :: xs, [], _, _, h => h.elim
 | x :: xs, t :: ts, rs, hs, h => by
  obtain ⟨hg, r, rest, h1, h2, h3⟩ := h
  have e := hs.look x (by simp) t
  refine ⟨by rw [<- e]; exact hg, r, rest, ?_, y9 ⟨hs.len, fun y hy => hs.look y (by simp [hy]), fun y hy => hs.ob y (by simp [hy])⟩ h2, h3⟩
  rw [<- e]
  exact Oq (hs.cells (by simp) t) h1
theorem yi : ∀ {xs : List Operand} {ts : List TypeId}, Sub P xs σ1 σ -> Z5 P σ xs ts = Z5 P σ1 xs ts
 | [], _, _ => by simp [Z5]
 | x :: xs, [], _ => by simp [Z5]
 | x :: xs, t :: ts, hs => by
  simp only [Z5]
  rw [hs.look x (by simp) t, yi ⟨hs.len, fun y hy => hs.look y (by simp [hy]), fun y hy => hs.ob y (by simp [hy])⟩]
theorem VS {c : Call} {f : FuncId} {own : Bool} {res : List (List D)} (hs : Sub P c.args.toList σ1 σ) (h : Lo P σ1 c f own res) : Lo P σ c f own res := by
 obtain ⟨rows, h1, h2, h3⟩ := h
 exact ⟨rows, y9 hs h1, h2, by rw [yi hs]; exact h3⟩
theorem W0 {T : TypeId} {size : Nat} : ∀ {ps : List (Nat × Operand)} {k : Nat} {rs : List (List D)}, Sub P (ps.map (·.2)) σ1 σ -> Td P σ1 T size ps k rs -> Td P σ T size ps k rs
 | [], _, _, _, h => h
 | (i, x) :: ps, k, rs, hs, h => by
  have e := hs.look x (by simp) T
  obtain ⟨h1, h2, h3, h4, r, rest, h5, h6, h7, h8⟩ := h
  refine ⟨h1, by rw [<- e]; exact h2, by rw [<- e]; exact h3, by rw [<- e]; exact h4, r, rest, ?_, h6, W0 ⟨hs.len, fun y hy => hs.look y (by simp at hy ⊢; exact .inr hy), fun y hy => hs.ob y (by simp at hy ⊢; exact .inr hy)⟩ h7, h8⟩
  rw [<- e]
  exact xC (hs.cells (by simp) T) h5
theorem RN {T : TypeId} {size : Nat} : ∀ {ps : List (Nat × Operand)} {k : Nat} {rs : List (List At)}, Sub P (ps.map (·.2)) σ1 σ -> TN P σ1 T size ps k rs -> TN P σ T size ps k rs
 | [], _, _, _, h => h
 | (i, x) :: ps, k, rs, hs, h => by
  obtain ⟨h1, h2, h3, h4, rest, h5, h6⟩ := h
  have e := hs.look x (by simp) T
  rw [e] at h2 h3 h4 h6
  exact ⟨h1, h2, h3, h4, rest, RN ⟨hs.len, fun y hy => hs.look y (by simp at hy ⊢; exact .inr hy), fun y hy => hs.ob y (by simp at hy ⊢; exact .inr hy)⟩ h5, h6⟩
theorem Nq {T : TypeId} {size u : Nat} : ∀ {ps : List (Nat × Operand)} {k : Nat} {rs : List (List At)}, TN P σ T size ps k rs -> Zw u rs.flatten = true -> ∃ x ∈ ps.map (·.2), (Vm.look P σ T x).ref u = true
 | [], _, _, h, hr => by simp only [TN] at h; subst h; simp [Zw] at hr
 | (i, x) :: ps, k, rs, h, hr => by
  obtain ⟨h1, h2, h3, h4, rest, h5, rfl⟩ := h
  rw [List.flatten_cons] at hr
  obtain ⟨z, hz, uP⟩ := JA.1 hr
  rcases List.mem_append.1 hz with hz | hz
  ·exact ⟨x, by simp, xm (JA.2 ⟨z, hz, uP⟩)⟩
  ·obtain ⟨y, hy, gr⟩ := Nq h5 (JA.2 ⟨z, hz, uP⟩)
   exact ⟨y, by simp at hy ⊢; exact .inr hy, gr⟩
theorem Jb (u : Nat) : ∀ (qs : List Bool) (ds : List D), YH u (Zs qs ds) = false
 | qs, [] => by cases qs <;> rfl
 | q :: qs, .sl size rows :: ds => by simp [Zs, YH, Jb u qs ds]
 | [], .sl size rows :: ds => by simp [Zs, YH, Jb u [] ds]
 | qs, .int _ _ :: ds => by cases qs <;> simp [Zs, YH, Jb u _ ds]
 | qs, .bool _ :: ds => by cases qs <;> simp [Zs, YH, Jb u _ ds]
 | qs, .str _ :: ds => by cases qs <;> simp [Zs, YH, Jb u _ ds]
 | qs, .unk :: ds => by cases qs <;> simp [Zs, YH, Jb u _ ds]
theorem kB {xs : List Operand} {x : Operand} {ty : TypeId} {size : Nat} {news : List (List D)} (hs : Sub P xs σ1 σ) (hx : x ∈ xs) (h : JG σ1 (unc (Vm.look P σ1 ty x)) size news) : JG σ (unc (Vm.look P σ ty x)) size news := by
 rw [hs.look x hx] at h
 unfold JG at h ⊢
 split at h
 ·exact h
 ·exact h
 ·rename_i t j lo len hv
  obtain ⟨rows, ho, hr⟩ := h
  exact ⟨rows, hs.same hx hv (by simp [At.ref]) ho (by simp), hr⟩
 ·exact h.elim
theorem GL (u : Nat) (r : List D) : (vOf (r.map At.d)).ref u = false := by
 have := ql (u := u) r
 match r, this with
 | [], _ => rfl
 | [x], _ => rfl
 | x :: y :: r, h => exact h
theorem IP (u : Nat) (r : List D) : (vOf (r.map At.d)).Tw u = false := by
 have := ql (u := u) r
 match r, this with
 | [], _ => rfl
 | [x], _ => rfl
 | x :: y :: r, h => exact h
theorem NN (u : Nat) (res : List (List D)) : (Kx res).ref u = false := by
 have tl : ∀ rs : List (List D), kh u (rs.map fun r => vOf (r.map At.d)) = false := by
  intro rs
  induction rs with
  | nil => rfl
  | cons r rs ih => simp only [List.map_cons, kh, IP, ih, Bool.or_false]
 match res with
 | [] => rfl
 | [r] => exact GL u r
 | r :: r' :: rs => exact tl (r :: r' :: rs)
theorem Uy {u d : Nat} (hu : u ≠ d) : ∀ (k : Nat) (r : List D), Zw u (QJ d k r) = false
 | _, [] => rfl
 | k, x :: r => by cases x <;> simp [QJ, Zw, At.ref, Uy hu, Ne.symm hu]
theorem LK {u : Nat} {xs : List At} (h : Zw u xs = false) : (vOf xs).Tw u = false := by
 match xs, h with
 | [], _ => rfl
 | [x], h => simpa [vOf, V.Tw, Zw] using h
 | x :: y :: xs, h => exact h
theorem OP {u d : Nat} (hu : u ≠ d) (res : List (List D)) : (xZ d res).ref u = false := by
 have tl : ∀ (k : Nat) (rs : List (List D)), kh u (NQ d k rs) = false := by
  intro k rs
  induction rs generalizing k with
  | nil => rfl
  | cons r rs ih => simp only [NQ, kh, LK (Uy hu _ _), ih, Bool.or_false]
 match res with
 | [] => exact tl 0 []
 | [r] =>
  have h1 : (vOf (QJ d 0 r)).flat = true := by
   match QJ d 0 r with
   | [] => rfl
   | [x] => rfl
   | x :: y :: xs => rfl
  have := LK (Uy hu 0 r)
  rw [<- NU h1] at this
  exact this
 | r :: r' :: rs => exact tl 0 (r :: r' :: rs)
theorem P4 (u : Nat) : ∀ (ds : List D), YH u (zI ds) = false
 | [] => rfl
 | x :: ds => by cases x <;> simp [zI, YH, P4 u ds]
theorem kd (ty : TypeId) (v : Value) (u : Nat) : (cst P ty v).ref u = false := by
 unfold cst
 split <;> first | rfl | skip
 all_goals (repeat' split) <;> first | rfl | skip
end
end Go.Vm
namespace Go.Vm
open Go.RowKit
def PF (P : Program) (ops : Array Oper) (o : Oper) (d : Nat) (σ1 : St) (e : Eff) : Prop :=
 e.ok d σ1 /\ (∀ t j v os, e = .drop t j v os -> qd o = true /\ ∃ x ∈ Jd ops o, ∃ ty, (look P σ1 ty x).ref t = true) /\
 (Qm o = true \/ o.guard.isSome = true -> ∃ v, e = .put v) /\
 (o.guard = none -> ∀ u, u ≠ d -> e.ref u = true -> TL P (Jd ops o) σ1 u) /\
 ∀ σ, Sub P (Jd ops o) σ1 σ -> e.ok d σ -> YT P ops o σ (e.ap d σ)
section
variable {P : Program} {ops : Array Oper} {o : Oper} {d : Nat} {σ1 σ2 : St}
theorem Ui {xs ys : List Operand} {u : Nat} (h : TL P xs σ1 u) : TL P (xs ++ ys) σ1 u := by
 obtain ⟨x, hx, r⟩ := h
 exact ⟨x, by simp [hx], r⟩
theorem jo {σ σ' : St} (hg : o.guard = none) (hd : o.dst = some d) (h : Step P o d σ σ') : YT P ops o σ σ' := by
 unfold YT; simp only [hg, hd]; exact h
theorem TP {v : V} (hg : o.guard = none) (hd : o.dst = some d) (rf : ∀ u, u ≠ d -> v.ref u = true -> TL P o.op.operands.toList σ1 u)
  (vG : ∀ σ, Sub P o.op.operands.toList σ1 σ -> Step P o d σ (σ.put d v)) : PF P ops o d σ1 (.put v) :=
 ⟨trivial, (fun t j v os h => by cases h), fun _ => ⟨v, rfl⟩, fun _ u hu hr => Ui (rf u hu hr), fun σ hs _ => jo hg hd (vG σ hs.left)⟩
theorem jW {v : V} {os : List Ob} (hg : o.guard = none) (hd : o.dst = some d) (hp : Qm o = false) (wb : σ1.fresh d = true) (rf : ∀ u, u ≠ d -> (v.ref u || YH u os) = true -> TL P o.op.operands.toList σ1 u)
  (vG : ∀ σ, Sub P o.op.operands.toList σ1 σ -> σ.fresh d = true -> Step P o d σ (σ.new d v os)) : PF P ops o d σ1 (.new v os) :=
 ⟨wb, (fun t j v os h => by cases h), (fun h => h.elim (fun h => by rw [hp] at h; cases h) (fun h => by rw [hg] at h; cases h)), fun _ u hu hr => Ui (rf u hu hr), fun σ hs hf => jo hg hd (vG σ hs.left hf)⟩
theorem JE {c : Call} {x : Operand} (hx : x ∈ c.args.toList) : x ∈ (Op.operands (.call c)).toList := by
 obtain ⟨mS, args, tI⟩ := c
 simp only [Op.operands, Call.operands]
 cases mS <;> simp at hx ⊢ <;> simp [hx]
theorem Ti {c : Call} {σ : St} (h : Sub P (Op.operands (.call c)).toList σ1 σ) : Sub P c.args.toList σ1 σ :=
 ⟨h.len, fun x hx => h.look x (JE hx), fun x hx => h.ob x (JE hx)⟩
theorem FX (hg : o.guard = none) (hd : o.dst = some d) (hs : Step P o d σ1 σ2) : ∃ e : Eff, σ2 = e.ap d σ1 /\ PF P ops o d σ1 e := by
 have vW : (∃ v, Z1 P σ1 o.op o.type v /\ σ2 = σ1.put d v) -> (∀ σ v, Z1 P σ o.op o.type v -> Step P o d σ (σ.put d v)) -> ∃ e : Eff, σ2 = e.ap d σ1 /\ PF P ops o d σ1 e := by
  rintro ⟨v, hv, rfl⟩ wa
  exact ⟨.put v, rfl, TP hg hd (fun u _ hr => Sc hv hr) (fun σ wh => wa σ v (xK hv wh))⟩
 have fW := hs
 unfold Step at hs
 split at hs
 ·rename_i T wA
  obtain ⟨hf, hz, row, we, rfl⟩ := hs
  refine ⟨.new _ _, rfl, jW hg hd (by simp [Qm, wA]) hf (fun u hu hr => ?_) (fun σ wh tZ => ?_)⟩
  ·simp only [V.ref, At.ref, YH, Uh u _ _ _ we, Bool.or_false, beq_iff_eq] at hr
   exact absurd hr.symm hu
  ·unfold Step; rw [wA]; exact ⟨tZ, hz, row, we, rfl⟩
 ·rename_i T x wA
  obtain ⟨hf, h1, h2, h3, rfl⟩ := hs
  refine ⟨.new _ _, rfl, jW hg hd (by simp [Qm, wA]) hf (fun u hu hr => ?_) (fun σ wh tZ => ?_)⟩
  ·simp only [V.ref, At.ref, YH, Bool.or_false, Bool.or_eq_true, beq_iff_eq] at hr
   rcases hr with hr | hr
   ·exact absurd hr.symm hu
   ·exact ⟨x, by simp [wA, Op.operands], T, .inl (xm hr)⟩
  ·have e := wh.look x (by simp [wA, Op.operands]) T
   unfold Step; rw [wA]
   simp only
   rw [<- e]
   exact ⟨tZ, h1, h2, h3, rfl⟩
 ·rename_i T n parts wA
  rcases hs with ⟨hf, h1, h2, h3, h4, h5, ⟨rows, h6, rfl⟩ | ⟨rows, h6, h7, rfl⟩⟩ | ⟨h1, rows, h6, rfl⟩
  ·refine ⟨.new _ _, rfl, jW hg hd (by simp [Qm, wA]) hf (fun u hu hr => ?_) (fun σ wh tZ => ?_)⟩
   ·simp only [V.ref, At.ref, YH, Bool.or_false, beq_iff_eq] at hr
    exact absurd hr.symm hu
   ·unfold Step; rw [wA]
    refine .inl ⟨tZ, h1, h2, h3, h4, h5, .inl ⟨rows, W0 ?_ h6, rfl⟩⟩
    rw [wA] at wh
    simpa [Op.operands] using wh
  ·refine ⟨.new _ _, rfl, jW hg hd (by simp [Qm, wA]) hf (fun u hu hr => ?_) (fun σ wh tZ => ?_)⟩
   ·simp only [V.ref, At.ref, YH, Bool.or_false, Bool.or_eq_true, beq_iff_eq] at hr
    rcases hr with hr | hr
    ·exact absurd hr.symm hu
    ·obtain ⟨x, hx, gu⟩ := Nq h6 hr
     exact ⟨x, by simpa [wA, Op.operands] using hx, _, .inl gu⟩
   ·unfold Step; rw [wA]
    refine .inl ⟨tZ, h1, h2, h3, h4, h5, .inr ⟨rows, RN ?_ h6, h7, rfl⟩⟩
    rw [wA] at wh
    simpa [Op.operands] using wh
  ·refine ⟨.put _, rfl, TP hg hd (fun u _ hr => by cases hr) (fun σ wh => ?_)⟩
   unfold Step; rw [wA]
   refine .inr ⟨h1, rows, W0 ?_ h6, rfl⟩
   rw [wA] at wh
   simpa [Op.operands] using wh
 ·rename_i T x y wA
  obtain ⟨rfl, hf, h1, h2, h3, q, z, zr, k, n, hq, h4, h5, h6, h7, h8, rfl⟩ := hs
  refine ⟨.new _ _, rfl, jW hg hd (by simp [Qm, wA]) hf (fun u hu hr => ?_) (fun σ wh tZ => ?_)⟩
  ·simp only [V.ref, At.ref, YH, Bool.or_false, beq_iff_eq] at hr
   exact absurd hr.symm hu
  ·unfold Step; rw [wA]
   exact ⟨rfl, tZ, h1, h2, h3, q, z, zr, k, n, hq, h4, h5, KH wh (by simp [wA, Op.operands]) h6, h7, h8, rfl⟩
 ·rename_i c wA
  split at hs
  ·rename_i hc
   obtain ⟨x, y, t, ha, uR, h1, h2, h3, h4, h5, wI, news, σd, h6, h7, h8, h9, rz, rfl⟩ := hs
   have hx : x ∈ o.op.operands.toList := by rw [wA]; exact JE (by rw [ha]; simp)
   have hy : y ∈ o.op.operands.toList := by rw [wA]; exact JE (by rw [ha]; simp)
   have ta : Qm o = false := by
    obtain ⟨cc, ca, ct⟩ := c
    simp only at hc; subst hc
    simp [Qm, wA]
   have refs : ∀ u, u ≠ d -> (V.ref u (.one (.sref d 0 0 (wI.length + news.length))) || YH u [.arr false (P.cellsOf (ZD P t)) (wI ++ news)]) = true -> TL P o.op.operands.toList σ1 u := by
    intro u hu hr
    simp only [V.ref, At.ref, YH, Bool.or_false, beq_iff_eq] at hr
    exact absurd hr.symm hu
   have fX := h6
   unfold WR at h6
   split at h6
   ·rename_i s heq
    obtain ⟨rfl, rfl⟩ := h6
    refine ⟨.new _ _, rfl, jW hg hd ta h8 refs (fun σ wh tZ => ?_)⟩
    unfold Step; rw [wA]
    simp only [hc]
    refine ⟨x, y, t, ha, uR, ?_, ?_, h3, h4, h5, [], news, σ, ?_, kB wh hy h7, tZ, h9, rz, rfl⟩
    ·rw [<- wh.look x hx]; exact h1
    ·rw [<- wh.look y hy]; exact h2
    ·rw [<- wh.look x hx]; unfold WR; rw [heq]; exact ⟨rfl, rfl⟩
   ·rename_i tt j lo len heq
    obtain ⟨rows, ho, uj, hlen, holds, rfl⟩ := h6
    have lq : (look P σ1 t x).ref tt = true := Y6 heq (by simp [At.ref])
    refine ⟨.drop tt j _ _, rfl, ⟨⟨_, _, _, ho⟩, h8⟩, ?_, (fun hh => hh.elim (fun hh => by rw [ta] at hh; cases hh) (fun hh => by rw [hg] at hh; cases hh)), fun _ u hu hr => Ui (refs u hu hr), fun σ wh tZ => jo hg hd ?_⟩
    ·intro t' j' v os he
     cases he
     refine ⟨?_, x, by simp only [Jd, List.mem_append]; exact .inl hx, t, lq⟩
     obtain ⟨cc, ca, ct⟩ := c
     simp only at hc ha; subst hc ha
     cases x with
     | const v => rw [Vm.look, kd] at lq; cases lq
     | _ => simp [qd, wA]
    ·have tb := wh.left
     unfold Step; rw [wA]
     simp only [hc]
     have uu : unc (look P σ t x) = .one (.sref tt j lo len) := by rw [<- tb.look x hx]; exact heq
     refine ⟨x, y, t, ha, uR, ?_, ?_, h3, h4, h5, wI, news, _, ?_, kB tb hy h7, tZ.2, h9, rz, rfl⟩
     ·rw [<- tb.look x hx]; exact h1
     ·rw [<- tb.look y hy]; exact h2
     ·unfold WR; rw [uu]
      exact ⟨rows, tb.same hx uu (by simp [At.ref]) ho (by simp), uj, hlen, holds, rfl⟩
   ·exact h6.elim
  ·rename_i f hc
   have ta : Qm o = false := by
    obtain ⟨cc, ca, ct⟩ := c
    simp only at hc; subst hc
    simp [Qm, wA]
   rcases hs with ⟨own, res, nq, rfl⟩ | ⟨res, nq, hf, rfl⟩ | ⟨rows, res, qs, ha, g6, hq, hf, rfl⟩
   ·refine ⟨.put _, rfl, TP hg hd (fun u _ hr => by rw [NN] at hr; cases hr) (fun σ wh => ?_)⟩
    rw [wA] at wh
    unfold Step; rw [wA]
    simp only [hc]
    exact .inl ⟨own, res, VS (Ti wh) nq, rfl⟩
   ·refine ⟨.new _ _, rfl, jW hg hd ta hf (fun u hu hr => ?_) (fun σ wh tZ => ?_)⟩
    ·rw [OP hu, P4] at hr; cases hr
    ·rw [wA] at wh
     unfold Step; rw [wA]
     simp only [hc]
     exact .inr (.inl ⟨res, VS (Ti wh) nq, tZ, rfl⟩)
   ·refine ⟨.new _ _, rfl, jW hg hd ta hf (fun u hu hr => ?_) (fun σ wh tZ => ?_)⟩
    ·rw [OP hu, Jb] at hr; cases hr
    ·rw [wA] at wh
     unfold Step; rw [wA]
     simp only [hc]
     exact .inr (.inr ⟨rows, res, qs, y9 (Ti wh) ha, g6, hq, tZ, rfl⟩)
  ·rename_i h1 h2
   refine vW hs (fun σ v hv => ?_)
   unfold Step; rw [wA]
   simp only
   exact ⟨v, by rw [wA] at hv; exact hv, rfl⟩
 ·rename_i S T x wA
  rcases hs with hs | ⟨l, h1, h2, h3, h4, rfl⟩ | ⟨s, h1, h2, h3, h4, h5, rfl⟩
  ·refine vW hs (fun σ v hv => ?_)
   unfold Step; rw [wA]
   exact .inl ⟨v, by rw [wA] at hv; exact hv, rfl⟩
  ·refine ⟨.put _, rfl, TP hg hd (fun u _ hr => by cases hr) (fun σ wh => ?_)⟩
   have hx : x ∈ o.op.operands.toList := by simp [wA, Op.operands]
   unfold Step; rw [wA]
   exact .inr (.inl ⟨l, by rw [<- wh.look x hx]; exact h1, h2, h3, kB wh hx h4, rfl⟩)
  ·refine ⟨.put _, rfl, TP hg hd (fun u _ hr => by cases hr) (fun σ wh => ?_)⟩
   have hx : x ∈ o.op.operands.toList := by simp [wA, Op.operands]
   unfold Step; rw [wA]
   exact .inr (.inr ⟨s, by rw [<- wh.look x hx]; exact h1, h2, h3, by rw [<- wh.look x hx]; exact h4, h5, rfl⟩)
 ·rename_i n1 n2 n3 n4 n5 n6
  refine vW hs (fun σ v hv => ?_)
  unfold Step
  split
  ·rename_i T wA; exact absurd wA (n1 T)
  ·rename_i T x wA; exact absurd wA (n2 T x)
  ·rename_i T n ps wA; exact absurd wA (n3 T n ps)
  ·rename_i T x y wA; exact absurd wA (n4 T x y)
  ·rename_i c wA; exact absurd wA (n5 c)
  ·rename_i S T x wA; exact absurd wA (n6 S T x)
  ·exact ⟨v, hv, rfl⟩
end
end Go.Vm
namespace Go.Vm
open Go.RowKit
theorem XI {σ : St} {d : Nat} : σ.fresh d = true ↔ d < σ.length /\ ∀ t e, σ[t]? = some e -> t ≠ d -> e.1.ref d = false /\ YH d e.2 = false := by
 unfold St.fresh
 rw [Bool.and_eq_true, decide_eq_true_eq]
 refine and_congr_right fun _ => ⟨fun h t e he wC => Jv h t e he (by omega), fun h => ?_⟩
 have : ∀ (σ : St) (k : Nat), (∀ t e, σ[t]? = some e -> k + t ≠ d -> e.1.ref d = false /\ YH d e.2 = false) -> JU d k σ = true := by
  intro σ
  induction σ with
  | nil => intro k _; rfl
  | cons e σ ih =>
   intro k hk
   simp only [JU, Bool.and_eq_true, Bool.or_eq_true, beq_iff_eq, Bool.not_eq_true']
   refine ⟨?_, ih (k + 1) fun t e' he wC => hk (t + 1) e' (by simpa using he) (by omega)⟩
   by_cases h0 : k = d
   ·exact .inl h0
   ·exact .inr (hk 0 e (by simp) (by omega))
 exact this σ 0 (fun t e he wC => h t e he (by omega))
theorem Py {σ : St} {t : Nat} {e : Ent} (h : σ[t]? = some e) (j : Nat) : σ.ob t j = YB e.2 j := by unfold St.ob; rw [h]
theorem VN {σ : St} {t j : Nat} {o : Ob} (h : σ.ob t j = o) (hn : o ≠ .none) : ∃ e, σ[t]? = some e /\ YB e.2 j = o := by
 unfold St.ob at h
 split at h
 ·rename_i e he; exact ⟨e, he, h⟩
 ·exact absurd h.symm hn
theorem Ux {u : Nat} : ∀ {os : List Ob} {j : Nat} {cells : List At}, YB os j = .box cells -> Zw u cells = true -> YH u os = true
 | [], _, _, h, _ => by simp [YB] at h
 | o :: os, 0, cells, h, hr => by
  have : o = .box cells := h
  subst this
  simp [YH, hr]
 | o :: os, j + 1, cells, h, hr => by
  have h' : YB os j = .box cells := by simpa [YB] using h
  have := Ux h' hr
  cases o <;> simp [YH, this]
theorem KV {u s : Nat} {q : Bool} {r : List (List D)} : ∀ {os : List Ob} {j : Nat}, YB os j = .arr q s r -> YH u (os.set j .none) = YH u os
 | [], _, h => by simp [YB] at h
 | o :: os, 0, h => by
  have : o = .arr q s r := h
  subst this
  simp [YH]
 | o :: os, j + 1, h => by
  have h' : YB os j = .arr q s r := by simpa [YB] using h
  have := KV (u := u) h'
  cases o <;> simp [YH, this]
theorem T5 {σ : St} {d : Nat} (h : Yc σ d = true) {e : Ent} (he : σ[d]? = some e) (u : Nat) : e.1.ref u = false /\ YH u e.2 = false := by
 unfold Yc at h
 split at h
 ·rename_i h1; rw [he] at h1; cases h1; exact ⟨rfl, rfl⟩
 ·rename_i h1; rw [he] at h1; cases h1; exact ⟨rfl, rfl⟩
 ·cases h
section
variable {P : Program} {ops : Array Oper} {o x y : Oper} {d dx dy : Nat} {σ σ1 σ2 : St}
theorem yu (hd : o.dst = some d) (hs : YT P ops o σ1 σ2) : ∃ e : Eff, σ2 = e.ap d σ1 /\ PF P ops o d σ1 e := by
 unfold YT at hs
 split at hs
 ·rename_i hg
  simp only [hd] at hs
  exact FX hg hd hs
 ·rename_i j want hg
  obtain ⟨dj, d', g, v, ve, wN, wQ, vp, hv, rfl⟩ := hs
  rw [hd] at wQ; cases wQ
  refine ⟨.put (.cnd g v), rfl, trivial, (fun t j v os h => by cases h), fun _ => ⟨_, rfl⟩, (fun h => by rw [hg] at h; cases h), fun σ wh _ => ?_⟩
  have vH : Operand.tmp dj ∈ Jd ops o := by simp [Jd, hg, ve]
  have vC : σ.get dj = σ1.get dj := (wh.look _ vH 0).symm
  unfold YT
  simp only [hg]
  refine ⟨dj, d, g, v, ve, by rw [<- wh.len]; exact wN, hd, by rw [vC]; exact vp, fun ry => ?_, rfl⟩
  have vy := hv ry
  have sV := wh.left
  unfold T6 at vy ⊢
  split at vy
  ·rename_i c wA
   split at vy
   ·rename_i f hc
    obtain ⟨own, res, nq, rfl⟩ := vy
    rw [wA] at sV
    exact ⟨own, res, VS (Ti sV) nq, rfl⟩
   ·obtain ⟨v0, h1, h2⟩ := vy
    exact ⟨v0, xK h1 sV, h2⟩
  ·obtain ⟨v0, h1, h2⟩ := vy
   exact ⟨v0, xK h1 sV, h2⟩
theorem JK (e : Eff) : (e.ap d σ).length = σ.length := by
 cases e <;> simp [Eff.ap, St.XZ, St.yy, St.Yr]
theorem T9 (e : Eff) {t : Nat} (wC : t ≠ d) : (e.ap d σ).get t = σ.get t := by
 cases e with
 | put v => simp [Eff.ap, St.Qp, wC]
 | new v os => simp [Eff.ap, St.xp, wC]
 | drop a j v os => simp [Eff.ap, St.xp, St.XT, wC]
theorem GR {t u : Nat} (h : (σ.get t).ref u = true) : ∃ e, σ[t]? = some e /\ e.1.ref u = true := by
 unfold St.get at h
 split at h
 ·rename_i e he; exact ⟨e, he, h⟩
 ·cases h
end
end Go.Vm
namespace Go.Vm
open Go.RowKit
section
variable {P : Program} {ops : Array Oper} {x y : Oper} {dx dy : Nat} {σ σ1 σ2 : St}
theorem Qz {d : Nat} (hf : ∀ t e, σ[t]? = some e -> t ≠ d -> e.1.ref d = false) {z : Operand} (hz : z ≠ .tmp d) (ty : TypeId) : (look P σ ty z).ref d = false := by
 cases z with
 | tmp t =>
  have wC : t ≠ d := fun h => hz (by rw [h])
  cases hr : (look P σ ty (.tmp t)).ref d with
  | false => rfl
  | true =>
   obtain ⟨e, he, vR⟩ := GR (σ := σ) (t := t) hr
   rw [hf t e he wC] at vR; cases vR
 | const v => exact kd ty v d
 | global g => rfl
 | func f => rfl
theorem look_eq {d : Nat} (hg : ∀ t, t ≠ d -> σ1.get t = σ.get t) {z : Operand} (hz : z ≠ .tmp d) (ty : TypeId) : look P σ1 ty z = look P σ ty z := by
 cases z with
 | tmp t => exact hg t (fun h => hz (by rw [h]))
 | const v => rfl
 | global g => rfl
 | func f => rfl
theorem yB {e : Eff} {d : Nat} (h : e.ok d σ) (wC : ∀ v, e ≠ .put v) : ∀ t en, σ[t]? = some en -> t ≠ d -> en.1.ref d = false := by
 intro t en he ht
 cases e with
 | put v => exact absurd rfl (wC v)
 | new v os => exact ((XI.1 h).2 t en he ht).1
 | drop a j v os =>
  have := (XI.1 h.2).2 t
  rw [XU] at this
  by_cases sj : t = a
  ·rw [if_pos sj, he] at this
   exact (this _ rfl ht).1
  ·rw [if_neg sj] at this
   exact (this en he ht).1
theorem Ut {e : Eff} {d : Nat} (h : e.ok d σ) (wC : ∀ v, e ≠ .put v) : ∀ t en, σ[t]? = some en -> t ≠ d -> YH d en.2 = false := by
 intro t en he ht
 cases e with
 | put v => exact absurd rfl (wC v)
 | new v os => exact ((XI.1 h).2 t en he ht).2
 | drop a j v os =>
  obtain ⟨⟨q, s, r, ho⟩, hf⟩ := h
  have := (XI.1 hf).2 t
  rw [XU] at this
  by_cases sj : t = a
  ·rw [if_pos sj, he] at this
   have h2 := (this _ rfl ht).2
   subst sj
   rw [Py he] at ho
   rw [KV ho] at h2
   exact h2
  ·rw [if_neg sj] at this
   exact (this en he ht).2
theorem EJ {e : Eff} {d : Nat} (h : e.ok d σ) (wC : ∀ v, e ≠ .put v) : d < σ.length := by
 cases e with
 | put v => exact absurd rfl (wC v)
 | new v os => exact (XI.1 h).1
 | drop a j v os => have := (XI.1 h.2).1; rwa [St.Yr] at this
theorem HO {e : Eff} {d : Nat} (h : e.ok d σ) {u j : Nat} (hu : (∀ v, e ≠ .put v) -> u ≠ d) (hn : (e.ap d σ).ob u j ≠ .none) : σ.ob u j = (e.ap d σ).ob u j := by
 cases e with
 | put v => simp only [Eff.ap, St.XY]
 | new v os =>
  have := hu (by intro v h; cases h)
  simp only [Eff.ap, St.X7, this, false_and, if_false]
 | drop a k v os =>
  have ri := hu (by intro v h; cases h)
  obtain ⟨⟨q, s, r, ho⟩, _⟩ := h
  simp only [Eff.ap, St.X7, ri, false_and, if_false] at hn ⊢
  rw [St.Xf σ a k _ u j (by rw [ho]; simp)] at hn ⊢
  split at hn
  ·exact absurd rfl hn
  ·rename_i hh; rw [if_neg hh]
theorem TM {e : Eff} {d : Nat} (w9 : ∀ t j v os, e ≠ .drop t j v os) {u j : Nat} (hu : (∀ v, e ≠ .put v) -> u ≠ d) : (e.ap d σ).ob u j = σ.ob u j := by
 cases e with
 | put v => simp only [Eff.ap, St.XY]
 | new v os =>
  have := hu (by intro v h; cases h)
  simp only [Eff.ap, St.X7, this, false_and, if_false]
 | drop a k v os => exact absurd rfl (w9 a k v os)
theorem FK {e : Eff} {d t : Nat} {en : Ent} (wb : e.ok d σ) (ht : t ≠ d) (he : (e.ap d σ)[t]? = some en) : ∃ l5, σ[t]? = some l5 /\ l5.1 = en.1 /\ ∀ u, YH u l5.2 = YH u en.2 := by
 cases e with
 | put v => simp only [Eff.ap, yX, if_neg ht] at he; exact ⟨en, he, rfl, fun _ => rfl⟩
 | new v os => simp only [Eff.ap, Jj, if_neg ht] at he; exact ⟨en, he, rfl, fun _ => rfl⟩
 | drop a j v os =>
  simp only [Eff.ap, Jj, if_neg ht, XU] at he
  split at he
  ·rename_i sj
   subst sj
   obtain ⟨⟨q, s, r, ho⟩, _⟩ := wb
   obtain ⟨e0, tL, vA⟩ := VN ho (by simp)
   rw [tL] at he
   simp at he
   subst he
   exact ⟨e0, tL, rfl, fun u => (KV vA).symm⟩
  ·exact ⟨en, he, rfl, fun _ => rfl⟩
theorem swap (vf : x.dst = some dx) (v7 : y.dst = some dy) (wC : dx ≠ dy) (tA : ∀ z ∈ Jd ops y, z ≠ .tmp dx) (si : ∀ z ∈ Jd ops x, z ≠ .tmp dy) (w9 : qd y = false) (mo : y.guard = none \/ Qm x = true \/ x.guard.isSome = true)
  (wk : Yc σ dx = true) (h1 : YT P ops x σ σ1) (h2 : YT P ops y σ1 σ2) : ∃ σ1', YT P ops y σ σ1' /\ YT P ops x σ1' σ2 := by
 obtain ⟨ex, rfl, tq, sU, nr, _, gv⟩ := yu vf h1
 obtain ⟨ey, rfl, gw, nt, _, lg, gx⟩ := yu v7 h2
 have oh : ∀ t j v os, ey ≠ .drop t j v os := by
  intro t j v os h
  have := (nt t j v os h).1
  rw [w9] at this; cases this
 have lr : Sub P (Jd ops y) (ex.ap dx σ) σ := by
  refine ⟨JK ex, fun z hz ty => look_eq (fun t ht => T9 ex ht) (tA z hz) ty, fun z hz ty u hr j hn => ?_⟩
  refine HO tq (fun v8 hu => ?_) hn
  subst hu
  rw [look_eq (fun t ht => T9 ex ht) (tA z hz) ty, Qz (yB tq v8) (tA z hz)] at hr
  cases hr
 have pK : ey.ok dy σ := by
  cases ey with
  | put v => trivial
  | drop a j v os => exact absurd rfl (oh a j v os)
  | new v os =>
   have hf := XI.1 gw
   refine XI.2 ⟨by rw [<- JK ex (d := dx)]; exact hf.1, fun t e he ht => ?_⟩
   by_cases pd : t = dx
   ·subst pd; exact T5 wk he dy
   ·cases ex with
    | put v' => exact hf.2 t e (by simp only [Eff.ap, yX, if_neg pd]; exact he) ht
    | new v' rq => exact hf.2 t e (by simp only [Eff.ap, Jj, if_neg pd]; exact he) ht
    | drop a j v' rq =>
     obtain ⟨⟨q, s, r, ho⟩, _⟩ := tq
     by_cases sj : t = a
     ·subst sj
      have := hf.2 t (e.1, e.2.set j .none) (by simp only [Eff.ap, Jj, if_neg pd, XU, if_true, he, Option.map_some]) ht
      rw [Py he] at ho
      rw [KV ho] at this
      exact this
     ·exact hf.2 t e (by simp only [Eff.ap, Jj, if_neg pd, XU, if_neg sj]; exact he) ht
 have nu := gx σ lr pK
 have nv : Sub P (Jd ops x) σ (ey.ap dy σ) := by
  refine ⟨(JK ey).symm, fun z hz ty => (look_eq (fun t ht => T9 ey ht) (si z hz) ty).symm, fun z hz ty u hr j hn => ?_⟩
  refine TM oh (fun v8 hu => ?_)
  subst hu
  rw [Qz (yB pK v8) (si z hz)] at hr
  cases hr
 have lu : (∀ v, ex ≠ .put v) -> ey.ref dx = false := by
  intro v8
  have hg : y.guard = none := by
   rcases mo with h | h
   ·exact h
   ·obtain ⟨v, hv⟩ := nr h; exact absurd hv (v8 v)
  cases hr : ey.ref dx with
  | false => rfl
  | true =>
   obtain ⟨z, hz, ty, w6⟩ := lg hg dx wC hr
   have hl : look P (ex.ap dx σ) ty z = look P σ ty z := look_eq (fun t ht => T9 ex ht) (tA z hz) ty
   rw [hl] at w6
   rcases w6 with w6 | ⟨t', cells, mR, ho, hc⟩
   ·rw [Qz (yB tq v8) (tA z hz)] at w6; cases w6
   ·have pd : t' ≠ dx := by
     intro h; subst h
     rw [Qz (yB tq v8) (tA z hz)] at mR; cases mR
    have wX : σ.ob t' 0 = .box cells := by rw [HO tq (fun _ => pd) (by rw [ho]; simp), ho]
    obtain ⟨en, lh, lj⟩ := VN wX (by simp)
    have := Ut tq v8 t' en lh pd
    rw [Ux lj hc] at this; cases this
 have entries : (∀ v, ex ≠ .put v) -> ∀ t e, (ey.ap dy σ)[t]? = some e -> t ≠ dx -> e.1.ref dx = false /\ YH dx e.2 = false := by
  intro v8 t e he ht
  have hy := lu v8
  by_cases uO : t = dy
  ·subst uO
   cases ey with
   | put v =>
    simp only [Eff.ap, yX, if_true, Option.map_eq_some_iff] at he
    obtain ⟨e0, tL, rfl⟩ := he
    exact ⟨hy, Ut tq v8 t e0 tL ht⟩
   | new v os =>
    simp only [Eff.ap, Jj, if_true, Option.map_eq_some_iff] at he
    obtain ⟨e0, tL, rfl⟩ := he
    simp only [Eff.ref, Bool.or_eq_false_iff] at hy
    exact hy
   | drop a j v os => exact absurd rfl (oh a j v os)
  ·obtain ⟨e0, tL, h1, h2⟩ := FK pK uO he
   rw [<- h1, <- h2]
   exact ⟨yB tq v8 t e0 tL ht, Ut tq v8 t e0 tL ht⟩
 have lv : ex.ok dx (ey.ap dy σ) := by
  cases ex with
  | put v => trivial
  | new v os =>
   have v8 : ∀ v', Eff.new v os ≠ .put v' := by intro v' h; cases h
   exact XI.2 ⟨by rw [JK]; exact EJ tq v8, entries v8⟩
  | drop a j v os =>
   have v8 : ∀ v', Eff.drop a j v os ≠ .put v' := by intro v' h; cases h
   obtain ⟨z, hz, ty, hr⟩ := (sU a j v os rfl).2
   obtain ⟨q, s, r, ho⟩ := tq.1
   have wX : (ey.ap dy σ).ob a j = .arr q s r := by rw [<- ho]; exact nv.ob z hz ty a hr j (by rw [ho]; simp)
   refine ⟨⟨q, s, r, wX⟩, XI.2 ⟨by rw [St.Yr, JK]; exact EJ tq v8, fun t e he ht => ?_⟩⟩
   rw [XU] at he
   split at he
   ·rename_i sj
    subst sj
    obtain ⟨e0, tL, vA⟩ := VN wX (by simp)
    rw [tL] at he; simp at he; subst he
    have := entries v8 t e0 tL ht
    exact ⟨this.1, by rw [KV vA]; exact this.2⟩
   ·exact entries v8 t e he ht
 refine ⟨_, nu, ?_⟩
 have := gv _ nv lv
 have heq : ex.ap dx (ey.ap dy σ) = ey.ap dy (ex.ap dx σ) := by
  apply List.ext_getElem?
  intro t
  have iZ := wC
  cases ex with
  | put v =>
   cases ey with
   | put v' => simp only [Eff.ap, yX]; by_cases h1 : t = dx <;> by_cases h2 : t = dy <;> simp_all
   | new v' rq => simp only [Eff.ap, yX, Jj]; by_cases h1 : t = dx <;> by_cases h2 : t = dy <;> simp_all
   | drop a j v' rq => exact absurd rfl (oh a j v' rq)
  | new v os =>
   cases ey with
   | put v' => simp only [Eff.ap, yX, Jj]; by_cases h1 : t = dx <;> by_cases h2 : t = dy <;> simp_all
   | new v' rq => simp only [Eff.ap, Jj]; by_cases h1 : t = dx <;> by_cases h2 : t = dy <;> simp_all
   | drop a j v' rq => exact absurd rfl (oh a j v' rq)
  | drop a j v os =>
   obtain ⟨z, hz, ty, hr⟩ := (sU a j v os rfl).2
   cases ey with
   | put v' =>
    simp only [Eff.ap, yX, Jj, XU]
    by_cases h1 : t = dx <;> by_cases h2 : t = dy <;> by_cases h3 : t = a <;> simp_all
    all_goals (first | (cases σ[dy]? <;> rfl) | (cases σ[t]? <;> rfl) | (cases σ[a]? <;> rfl))
   | new v' rq =>
    have fY : a ≠ dy := by
     intro h; subst h
     rw [Qz (yB pK (by intro v h; cases h)) (si z hz)] at hr; cases hr
    simp only [Eff.ap, Jj, XU]
    by_cases h1 : t = dx <;> by_cases h2 : t = dy <;> by_cases h3 : t = a <;> simp_all
   | drop a' j' v' rq => exact absurd rfl (oh a' j' v' rq)
 rw [<- heq]
 exact this
end
end Go.Vm
namespace Go.Vm
open Go.RowKit
def LH (ops : Array Oper) (bar : Oper -> Bool) (x y : Oper) : Bool := !bar x && !bar y &&
 (match x.dst, y.dst with
 | some dx, some dy => dx != dy && !(Jd ops y).any (Jt dx) && !(Jd ops x).any (Jt dy) && !qd y && (y.guard.isNone || Qm x || x.guard.isSome)
 | _, _ => false)
def LP (bar : Oper -> Bool) (x y : Oper) : Bool := !bar x && !bar y && x.guard.isNone && y.guard.isNone &&
 (match x.dst, y.dst, y.op with
 | some dx, none, .store _ p q => (match x.op with | .move _ => true | .assign _ => true | .extract _ _ => true | _ => false) && !Jt dx p && !Jt dx q
 | _, _, _ => false)
def Lq (bar : Oper -> Bool) (x y : Oper) : Bool := !bar x && bar y && x.guard.isNone && kA y && y.guard.isNone && y.dst.isNone &&
 (match x.dst with
 | some dx => (match x.op with | .move _ => true | .assign _ => true | .extract _ _ => true | _ => false) && qB y dx
 | none => false)
def UH (PT : List (Nat × Nat)) (σ : St) : Prop := ∀ p ∈ PT, σ.get p.1 = .any \/ ∃ c, unc (σ.get p.1) = .one (.bptr p.2 c)
def ptB (PT : List (Nat × Nat)) (σ : St) : Bool := PT.all fun p => match σ.get p.1 with | .any => true | v => (match unc v with | .one (.bptr b _) => b == p.2 | _ => false)
def TG (ops : Array Oper) (PT : List (Nat × Nat)) : Bool := ops.toList.all fun o => match o.dst with
 | none => true
 | some d => PT.all fun p => p.1 != d || (o.guard.isNone && (match o.op with | .fieldAddr _ (.tmp r) _ => PT.contains (r, p.2) | .move (.tmp r) => PT.contains (r, p.2) | _ => false))
def Vo (PT : List (Nat × Nat)) (b : Nat) : Op -> Bool
 | .load _ (.tmp t) => PT.any fun r => r.1 == t && r.2 != b
 | .fieldAddr _ _ _ => true
 | .move _ => true
 | .assign _ => true
 | .extract _ _ => true
 | .binOp _ _ _ _ _ => true
 | .call ⟨.builtin .len, ⟨[_]⟩, ⟨[_]⟩⟩ => true
 | _ => false
def swapT (PT : List (Nat × Nat)) (bar : Oper -> Bool) (x y : Oper) : Bool := !bar x && !bar y && x.guard.isNone && y.guard.isNone &&
 (match x.dst, y.dst, y.op with
 | some dx, none, .store _ (.tmp tp) q => tp != dx && !Jt dx q && PT.any fun p => p.1 == tp && Vo PT p.2 x.op
 | _, _, _ => false)
def Pf (NB : List Nat) (σ : St) : Prop := ∀ t ∈ NB, ∀ b c, unc (σ.get t) ≠ .one (.bptr b c)
def nbB (NB : List Nat) (σ : St) : Bool := NB.all fun t => match unc (σ.get t) with | .one (.bptr _ _) => false | _ => true
def Pq (P : Program) (ops : Array Oper) (NB : List Nat) : Bool := ops.toList.all fun o => match o.dst with
 | none => true
 | some d => NB.all fun t => t != d || (o.guard.isNone && (match o.op with | .indexAddr T _ _ => Ya P T | _ => false))
def On (PT : List (Nat × Nat)) (NB : List Nat) (σ : St) : Prop := UH PT σ /\ Pf NB σ
def LC (PT : List (Nat × Nat)) (NB : List Nat) (bar : Oper -> Bool) (x y : Oper) : Bool := !bar x && bar y && x.guard.isNone && kA y && y.guard.isNone && y.dst.isNone &&
 (match x.dst, y.op with
 | some dx, .store _ (.tmp tp) q => NB.contains tp && tp != dx && !Jt dx q && (match x.op with | .load _ (.tmp t) => PT.any fun r => r.1 == t | .fieldAddr _ (.tmp t) _ => PT.any fun r => r.1 == t | _ => false)
 | _, _ => false)
def IY (PT : List (Nat × Nat)) : Op -> Bool
 | .move _ => true
 | .load _ (.tmp t) => PT.any fun r => r.1 == t
 | .fieldAddr _ (.tmp _) _ => true
 | .slice _ (.tmp _) _ _ none => true
 | _ => false
def LU (PT : List (Nat × Nat)) (ops : Array Oper) (bar : Oper -> Bool) (x y : Oper) : Bool := bar x && !bar y && xF x && x.guard.isNone && y.guard.isNone && IY PT y.op &&
 (match x.dst, y.dst with
 | some dx, some dy => dx != dy && !(Jd ops y).any (Jt dx) && !(Jd ops x).any (Jt dy)
 | _, _ => false)
def Nw (PT : List (Nat × Nat)) (o : Oper) : Option Nat := match o.op with | .call ⟨.value (.func _), ⟨.tmp z :: _⟩, _⟩ => (PT.find? (fun p => p.1 == z)).map (·.2) | _ => none
def DO : Operand -> Bool
 | .const _ => true
 | _ => false
def SM (PT : List (Nat × Nat)) (y x : Oper) : Bool := (x.op.operands.toList.all DO && !qd x) || (match Nw PT y with | some b => Vo PT b x.op | none => false)
def Lg (P : Program) (PT : List (Nat × Nat)) (ops : Array Oper) (bar : Oper -> Bool) (x y : Oper) : Bool := x.guard.isNone && y.guard.isNone && UP bar x && UP bar y && (match x.dst, y.dst with
 | some dx, some dy => dx != dy && !(Jd ops y).any (Jt dx) && !(Jd ops x).any (Jt dy) && ((!bar x && bar y && Qw P y && SM PT y x) || (bar x && Qw P x && !bar y && SM PT x y))
 | _, _ => false)
def TR (o : Oper) (j : Nat) : Bool := o.after.any fun e => e.on == j && Region.binds .any e
def UK : List Oper -> List Nat -> List Nat
 | [], acc => acc
 | o :: rest, acc => UK rest (acc ++ [o.after.toList.foldl (fun m e => if Region.binds .any e then m ||| (1 <<< e.on) ||| acc.getD e.on 0 else m) 0])
def Hj (ms : List Nat) (i j : Nat) : Bool := (ms.getD i 0).testBit j
inductive Pre (ops : Array Oper) : Nat -> Nat -> Prop
 | one {i j : Nat} {o : Oper} (ho : ops[i]? = some o) (hp : TR o j = true) : Pre ops i j
 | more {i m j : Nat} {o : Oper} (ho : ops[i]? = some o) (hp : TR o m = true) (h : Pre ops m j) : Pre ops i j
theorem NK {ops : Array Oper} : ∀ {l : List Oper} {acc : List Nat}, (∀ k o, l[k]? = some o -> ops[acc.length + k]? = some o) -> (∀ i j, (acc.getD i 0).testBit j = true -> Pre ops i j) -> ∀ i j, Hj (UK l acc) i j = true -> Pre ops i j
 | [], acc, _, ha, i, j, h => ha i j h
 | o :: rest, acc, hl, ha, i, j, h => by
  refine NK (l := rest) (fun k o' hk => ?_) (fun i j s5 => ?_) i j h
  ·have := hl (k + 1) o' (by simpa using hk)
   rw [List.length_append, List.length_singleton, Nat.add_assoc, Nat.add_comm 1 k]; exact this
  ·rw [List.getD_eq_getElem?_getD] at s5
   rcases Nat.lt_trichotomy i acc.length with wN | heq | ry
   ·rw [List.getElem?_append_left wN, <- List.getD_eq_getElem?_getD] at s5
    exact ha i j s5
   ·subst heq
    rw [List.getElem?_append_right (Nat.le_refl _)] at s5
    simp only [Nat.sub_self, List.getElem?_cons_zero, Option.getD_some] at s5
    have ho := hl 0 o (by simp)
    rw [Nat.add_zero] at ho
    have key : ∀ (es : List Edge) (m : Nat), (∀ e ∈ es, e ∈ o.after) -> (∀ j, m.testBit j = true -> Pre ops acc.length j) -> ∀ j, (es.foldl (fun m e => if Region.binds .any e then m ||| (1 <<< e.on) ||| acc.getD e.on 0 else m) m).testBit j = true -> Pre ops acc.length j := by
     intro es
     induction es with
     | nil => intro m _ hm j hj; exact hm j hj
     | cons e es ih =>
      intro m iW hm j hj
      refine ih _ (fun e' ou => iW e' (by simp [ou])) (fun j hj => ?_) j hj
      by_cases hb : Region.binds .any e = true
      ·simp only [hb, if_true] at hj
       have hp : TR o e.on = true := by
        unfold TR
        rw [<- Array.any_toList]
        exact List.any_eq_true.2 ⟨e, by simpa using iW e (by simp), by simp [hb]⟩
       rw [Nat.testBit_or, Nat.testBit_or, Bool.or_eq_true, Bool.or_eq_true] at hj
       rcases hj with (hj | hj) | hj
       ·exact hm j hj
       ·rw [Nat.testBit_shiftLeft] at hj
        simp only [Bool.and_eq_true, decide_eq_true_eq] at hj
        have h1 : j - e.on = 0 := by
         have := hj.2
         rw [show (1 : Nat) = 2 ^ 0 from rfl, Nat.testBit_two_pow] at this
         have h3 : 0 = j - e.on := by simpa using this
         omega
        have : j = e.on := by omega
        subst this
        exact .one ho hp
       ·exact .more ho hp (ha e.on j hj)
      ·simp only [hb, Bool.false_eq_true, if_false] at hj; exact hm j hj
    exact key o.after.toList 0 (fun e he => by simpa using he) (fun j hj => by simp at hj) j s5
   ·rw [List.getElem?_eq_none (by simp; omega)] at s5
    simp at s5
def Lv (ops : Array Oper) (i j : Nat) : Bool := Hj (UK ops.toList []) i j
theorem Hv {ops : Array Oper} {i j : Nat} (h : Lv ops i j = true) : Pre ops i j :=
 NK (l := ops.toList) (acc := []) (fun k o hk => by simpa using hk) (fun i j h => by simp at h) i j h
def EE (P : Program) (ops : Array Oper) (bar : Oper -> Bool) (PT : List (Nat × Nat)) (NB : List Nat) (ms : List Nat) (i j : Nat) : Bool := match ops[i]?, ops[j]? with | some oi, some oj => Hj ms i j || LH ops bar oj oi || LP bar oj oi || swapT PT bar oj oi || Lq bar oj oi || LU PT ops bar oj oi || LC PT NB bar oj oi || Lg P PT ops bar oj oi | _, _ => false
def ER (ops : Array Oper) (pos : Nat -> Nat) (i : Nat) : Bool := match ops[i]? with | some o => o.after.all fun e => !Region.binds .any e || (decide (pos e.on < pos i) && decide (e.on < ops.size)) | none => false
def Hc (ops : Array Oper) (j : Nat) : Bool := match ops[j]? with
 | some o => (match o.dst with | some d => (List.range ops.size).all fun k => k == j || (match ops[k]? with | some q => q.dst != some d | none => true) | none => false)
 | none => false
def MI (ops : Array Oper) (pos : Nat -> Nat) (ms : List Nat) (j : Nat) : Bool := (List.range ops.size).any fun i => decide (pos j < pos i) && !Hj ms i j
def VX (ops : Array Oper) (pos : Nat -> Nat) (j : Nat) : Bool := MI ops pos (UK ops.toList []) j
def M9 (P : Program) (ops : Array Oper) (pos : Nat -> Nat) (bar : Oper -> Bool) (PT : List (Nat × Nat)) (NB : List Nat) (ms : List Nat) : Bool :=
 (List.range ops.size).all fun i => ER ops pos i && ((List.range ops.size).all fun j => !decide (pos j < pos i) || EE P ops bar PT NB ms i j) && (!MI ops pos ms i || Hc ops i)
def Sx (P : Program) (ops : Array Oper) (pos : Nat -> Nat) (bar : Oper -> Bool) : Bool := M9 P ops pos bar [] [] (UK ops.toList [])
def KX (ops : Array Oper) (pos : Nat -> Nat) (σ : St) : Bool :=
 let ms := UK ops.toList []
 (List.range ops.size).all fun j => !MI ops pos ms j || (match (ops[j]?).bind (·.dst) with | some d => Yc σ d | none => false)
theorem qK {xs : List Operand} {d : Nat} (h : xs.any (Jt d) = false) : ∀ z ∈ xs, z ≠ .tmp d := by
 intro z hz he
 subst he
 have := List.any_eq_false.1 h _ hz
 simp [Jt] at this
theorem Ip {ops : Array Oper} {bar : Oper -> Bool} {x y : Oper} (h : LH ops bar x y = true) : bar x = false /\ bar y = false /\ ∃ dx dy, x.dst = some dx /\ y.dst = some dy /\ dx ≠ dy /\ (∀ z ∈ Jd ops y, z ≠ .tmp dx) /\ (∀ z ∈ Jd ops x, z ≠ .tmp dy) /\ qd y = false /\ (y.guard = none \/ Qm x = true \/ x.guard.isSome = true) := by
 unfold LH at h
 rw [Bool.and_eq_true, Bool.and_eq_true] at h
 obtain ⟨⟨vM, wo⟩, h⟩ := h
 refine ⟨by simpa using vM, by simpa using wo, ?_⟩
 split at h
 ·rename_i dx dy h1 h2
  simp only [Bool.and_eq_true, bne_iff_ne, ne_eq, Bool.not_eq_true', Bool.or_eq_true, Option.isNone_iff_eq_none] at h
  exact ⟨dx, dy, h1, h2, h.1.1.1.1, qK h.1.1.1.2, qK h.1.1.2, h.1.2, or_assoc.1 h.2⟩
 ·cases h
theorem Q8 {P : Program} {σ : St} {t j : Nat} {o : Ob} {T : TypeId} {x : Operand} : look P (σ.Zh t j o) T x = look P σ T x := by
 cases x with
 | tmp u => simp [look, St.XT]
 | const c => rfl
 | global g => rfl
 | func f => rfl
theorem Vz {σ : St} {d : Nat} {v : V} : ∀ (xs : List At), rowOf (σ.put d v) xs = rowOf σ xs
 | [] => rfl
 | x :: xs => by
  have : JN (σ.put d v) x = JN σ x := by cases x <;> simp [JN, St.XY]
  simp only [rowOf, this, Vz xs]
theorem Fj {P : Program} {ops : Array Oper} {bar : Oper -> Bool} {x y : Oper} {σ σ1 σ2 : St} (h : LP bar x y = true) (w5 : Qg P ops bar x σ σ1) (wO : Qg P ops bar y σ1 σ2) : ∃ σ1', YT P ops y σ σ1' /\ YT P ops x σ1' σ2 := by
 unfold LP at h
 simp only [Bool.and_eq_true, Bool.not_eq_true', Option.isNone_iff_eq_none] at h
 obtain ⟨⟨⟨⟨vM, wo⟩, sG⟩, uU⟩, h⟩ := h
 have w5 := w5.resolve_right (fun hh => by rw [vM] at hh; cases hh.1)
 have wO := wO.resolve_right (fun hh => by rw [wo] at hh; cases hh.1)
 split at h
 ·rename_i dx T p q vf v7 wA
  simp only [Bool.and_eq_true, Bool.not_eq_true'] at h
  obtain ⟨⟨hv, hp⟩, hq⟩ := h
  unfold YT at w5 wO
  simp only [sG, vf] at w5
  simp only [uU, v7, wA] at wO
  have e1 : ∃ v, Z1 P σ x.op x.type v /\ σ1 = σ.put dx v := by
   unfold Step at w5
   cases hx : x.op <;> rw [hx] at w5 hv <;> first | exact w5 | (exact Bool.noConfusion hv)
  obtain ⟨v, vy, rfl⟩ := e1
  have vB : ∀ (t j : Nat) (o : Ob), Z1 P (σ.Zh t j o) x.op x.type v := by
   intro t j o
   cases hx : x.op <;> rw [hx] at hv vy <;> first | (exact Bool.noConfusion hv) | (simp only [Z1, Q8] at vy ⊢; exact vy)
  have o8 : ∀ (t j : Nat) (o : Ob), YT P ops x (σ.Zh t j o) ((σ.put dx v).Zh t j o) := by
   intro t j o
   unfold YT
   simp only [sG, vf]
   have := vB t j o
   rw [Kj]
   unfold Step
   cases hx : x.op <;> rw [hx] at hv this <;> first | exact ⟨v, this, rfl⟩ | (exact Bool.noConfusion hv)
  unfold KR at wO
  rw [YX hp, YX hq] at wO
  obtain ⟨k1, k2, k3, k4, wO⟩ := wO
  split at wO
  ·rename_i t c hl
   obtain ⟨cells, c1, c2, c3, rfl⟩ := wO
   rw [St.XY] at c1
   refine ⟨_, ?_, o8 _ _ _⟩
   unfold YT KR
   simp only [uU, v7, wA]
   refine ⟨k1, k2, k3, k4, ?_⟩
   rw [hl]
   exact ⟨cells, c1, c2, c3, rfl⟩
  ·rename_i t j i c hl
   obtain ⟨q', size, rows, ds, c1, c2, c3, c4, c5, c6, c7, rfl⟩ := wO
   rw [St.XY] at c1
   rw [Vz] at c3
   refine ⟨_, ?_, o8 _ _ _⟩
   unfold YT KR
   simp only [uU, v7, wA]
   refine ⟨k1, k2, k3, k4, ?_⟩
   rw [hl]
   exact ⟨q', size, rows, ds, c1, c2, c3, c4, c5, c6, c7, rfl⟩
  ·exact wO.elim
 ·cases h
theorem KK {P : Program} {σ : St} {T : TypeId} {t : Nat} : look P σ T (.tmp t) = σ.get t := rfl
theorem V3 {P : Program} {PT : List (Nat × Nat)} {b : Nat} {o : Oper} {op : Op} {d : Nat} {σ σ' : St} (ho : o.op = op) (h : Vo PT b op = true) : Step P o d σ σ' ↔ ∃ v, Z1 P σ op o.type v /\ σ' = σ.put d v := by
 unfold Step
 rw [ho]
 unfold Vo at h
 split at h <;> first | exact Iff.rfl | (exact Bool.noConfusion h)
theorem Im {P : Program} {PT : List (Nat × Nat)} {b : Nat} {op : Op} {ty : TypeId} {v : V} {σ : St} {cells cs : List At} (h : Vo PT b op = true) (hp : UH PT σ) (c1 : σ.ob b 0 = .box cells) (hv : Z1 P σ op ty v) : Z1 P (σ.Zh b 0 (.box cs)) op ty v := by
 have wC : σ.ob b 0 ≠ .none := by rw [c1]; intro e; cases e
 have ho := fun u i => St.Xf σ b 0 (.box cs) u i wC
 have vS : ∀ t j, (∃ q size rows, σ.ob t j = .arr q size rows) -> ∃ q size rows, (σ.Zh b 0 (.box cs)).ob t j = .arr q size rows := by
  rintro t j ⟨q, size, rows, e⟩
  by_cases hh : t = b /\ j = 0
  ·obtain ⟨rfl, rfl⟩ := hh; rw [c1] at e; cases e
  ·exact ⟨q, size, rows, by rw [ho, if_neg hh]; exact e⟩
 have rM : ∀ t j, (∃ size rows, σ.ob t j = .lit size rows) -> ∃ size rows, (σ.Zh b 0 (.box cs)).ob t j = .lit size rows := by
  rintro t j ⟨size, rows, e⟩
  by_cases hh : t = b /\ j = 0
  ·obtain ⟨rfl, rfl⟩ := hh; rw [c1] at e; cases e
  ·exact ⟨size, rows, by rw [ho, if_neg hh]; exact e⟩
 have pJ : ∀ t, (∃ cells, σ.ob t 0 = .box cells) -> ∃ cells, (σ.Zh b 0 (.box cs)).ob t 0 = .box cells := by
  rintro t ⟨ce, e⟩
  by_cases hh : t = b
  ·subst hh; exact ⟨cs, by rw [ho, if_pos ⟨rfl, rfl⟩]⟩
  ·exact ⟨ce, by rw [ho, if_neg (fun gm => hh gm.1)]; exact e⟩
 unfold Vo at h
 split at h
 ·rename_i T t
  simp only [List.any_eq_true, Bool.and_eq_true, beq_iff_eq, bne_iff_ne, ne_eq] at h
  obtain ⟨r, gy, rfl, gz⟩ := h
  simp only [Z1, Q8] at hv ⊢
  refine ⟨hv.1, hv.2.1, ?_⟩
  have hv := hv.2.2
  rw [KK] at hv ⊢
  rcases hp r gy with e | ⟨c, e⟩
  ·rw [e] at hv; exact hv.elim
  ·rw [e] at hv ⊢
   obtain ⟨ce, e1, e2, e3⟩ := hv
   exact ⟨ce, by rw [ho, if_neg (fun hh => gz hh.1)]; exact e1, e2, e3⟩
 ·simp only [Z1, Q8] at hv ⊢
  refine ⟨hv.1, hv.2.1, ?_⟩
  have hv := hv.2.2
  split at hv
  ·rename_i e; first | exact ⟨pJ _ hv.1, hv.2⟩ | (simp only [e]; exact ⟨pJ _ hv.1, hv.2⟩)
  ·rename_i e; first | exact ⟨vS _ _ hv.1, hv.2⟩ | (simp only [e]; exact ⟨vS _ _ hv.1, hv.2⟩)
  ·rename_i e; first | exact hv | (simp only [e]; exact hv)
  ·rename_i e
   have hq : ∀ t j, (∃ size rows, σ.ob t j = .arr true size rows) -> ∃ size rows, (σ.Zh b 0 (.box cs)).ob t j = .arr true size rows := by
    rintro t j ⟨size, rows, e⟩
    by_cases hh : t = b /\ j = 0
    ·obtain ⟨rfl, rfl⟩ := hh; rw [c1] at e; cases e
    ·exact ⟨size, rows, by rw [ho, if_neg hh]; exact e⟩
   first | exact ⟨hq _ _ hv.1, hv.2⟩ | (simp only [e]; exact ⟨hq _ _ hv.1, hv.2⟩)
  ·exact hv.elim
 ·simp only [Z1, Q8] at hv ⊢; exact hv
 ·simp only [Z1, Q8] at hv ⊢; exact hv
 ·simp only [Z1, Q8] at hv ⊢; exact hv
 ·simp only [Z1, Q8] at hv ⊢; exact hv
 ·simp only [Z1, Q8] at hv ⊢
  refine ⟨hv.1, ?_⟩
  have hv := hv.2
  split at hv
  ·rename_i e; first | exact hv | (simp only [e]; exact hv)
  ·rename_i e; first | exact hv | (simp only [e]; exact hv)
  ·rename_i e; first | exact hv | (simp only [e]; exact hv)
  ·rename_i e; first | exact ⟨hv.1, hv.2.1.imp (vS _ _) (rM _ _), hv.2.2⟩ | (simp only [e]; exact ⟨hv.1, hv.2.1.imp (vS _ _) (rM _ _), hv.2.2⟩)
  ·rename_i u j i c e
   obtain ⟨g1, size, rows, n, s, g2, g3⟩ := hv
   have g4 : (σ.Zh b 0 (.box cs)).ob u j = .arr true size rows := by
    rw [ho]
    by_cases hh : u = b /\ j = 0
    ·obtain ⟨rfl, rfl⟩ := hh; rw [c1] at g2; cases g2
    ·rw [if_neg hh]; exact g2
   first | exact ⟨g1, size, rows, n, s, g4, g3⟩ | (simp only [e]; exact ⟨g1, size, rows, n, s, g4, g3⟩)
  ·exact hv.elim
 ·exact Bool.noConfusion h
theorem Eb {P : Program} {ops : Array Oper} {bar : Oper -> Bool} {PT : List (Nat × Nat)} {x y : Oper} {σ σ1 σ2 : St} (h : swapT PT bar x y = true) (hp : UH PT σ) (w5 : Qg P ops bar x σ σ1) (wO : Qg P ops bar y σ1 σ2) : ∃ σ1', YT P ops y σ σ1' /\ YT P ops x σ1' σ2 := by
 unfold swapT at h
 simp only [Bool.and_eq_true, Bool.not_eq_true', Option.isNone_iff_eq_none] at h
 obtain ⟨⟨⟨⟨vM, wo⟩, sG⟩, uU⟩, h⟩ := h
 have w5 := w5.resolve_right (fun hh => by rw [vM] at hh; cases hh.1)
 have wO := wO.resolve_right (fun hh => by rw [wo] at hh; cases hh.1)
 split at h
 ·rename_i dx T tp q vf v7 wA
  simp only [Bool.and_eq_true, Bool.not_eq_true', List.any_eq_true, beq_iff_eq, bne_iff_ne, ne_eq] at h
  obtain ⟨⟨wC, hq⟩, p, oO, uM, hv⟩ := h
  have wz : Jt dx (.tmp tp) = false := by simp [Jt, wC]
  unfold YT at w5 wO
  simp only [sG, vf] at w5
  simp only [uU, v7, wA] at wO
  obtain ⟨v, vy, rfl⟩ := (V3 rfl hv).1 w5
  unfold KR at wO
  rw [YX wz, YX hq, KK] at wO
  obtain ⟨k1, k2, k3, k4, wO⟩ := wO
  have uG := hp p oO
  rw [uM] at uG
  rcases uG with uG | ⟨c, uG⟩
  ·rw [uG] at wO; exact wO.elim
  ·rw [uG] at wO
   obtain ⟨cells, c1, c2, c3, rfl⟩ := wO
   rw [St.XY] at c1
   refine ⟨σ.Zh p.2 0 (.box (place cells c (unc (look P σ T q)).cells)), ?_, ?_⟩
   ·unfold YT KR
    simp only [uU, v7, wA]
    refine ⟨k1, by rw [KK]; exact k2, k3, k4, ?_⟩
    rw [KK, uG]
    exact ⟨cells, c1, c2, c3, rfl⟩
   ·unfold YT
    simp only [sG, vf]
    rw [Kj]
    exact (V3 rfl hv).2 ⟨v, Im hv hp c1 vy, rfl⟩
 ·cases h
theorem yM : ∀ (σ : St) (d : Nat), σ.put d (σ.get d) = σ
 | [], _ => rfl
 | e :: σ, 0 => by simp [St.put, St.get]
 | e :: σ, d + 1 => by have := yM σ d; simp only [St.put, St.get, List.getElem?_cons_succ] at this ⊢; rw [this]
theorem U6 : ∀ (σ : St) (d : Nat) (v v' : V), (σ.put d v).put d v' = σ.put d v'
 | [], _, _, _ => rfl
 | e :: σ, 0, _, _ => rfl
 | e :: σ, d + 1, v, v' => by simp [St.put, U6 σ d v v']
theorem Ps {P : Program} {σ σ' : St} (h : ∀ u, σ'.get u = σ.get u) {T : TypeId} {x : Operand} : look P σ' T x = look P σ T x := by
 cases x with
 | tmp u => exact h u
 | const c => rfl
 | global g => rfl
 | func f => rfl
theorem Es {P : Program} {ops : Array Oper} {bar : Oper -> Bool} {x y : Oper} {σ σ1 σ2 : St} {d : Nat} (h : Lq bar x y = true) (vf : x.dst = some d) (wk : Yc σ d = true) (w5 : Qg P ops bar x σ σ1) (wO : Qg P ops bar y σ1 σ2) : ∃ σ1', Qg P ops bar y σ σ1' /\ YT P ops x σ1' σ2 := by
 unfold Lq at h
 simp only [vf, Bool.and_eq_true, Bool.not_eq_true', Option.isNone_iff_eq_none] at h
 obtain ⟨⟨⟨⟨⟨⟨vM, wo⟩, sG⟩, wa⟩, uU⟩, v7⟩, hv, hu⟩ := h
 have w5 := w5.resolve_right (fun hh => by rw [vM] at hh; cases hh.1)
 unfold YT at w5
 simp only [sG, vf] at w5
 have e1 : ∃ v, Z1 P σ x.op x.type v /\ σ1 = σ.put d v := by
  unfold Step at w5
  cases hx : x.op <;> rw [hx] at w5 hv <;> first | exact w5 | (exact Bool.noConfusion hv)
 obtain ⟨v, vy, rfl⟩ := e1
 have back : ∀ σ', (∀ u, σ'.get u = σ.get u) -> YT P ops x σ' (σ'.put d v) := by
  intro σ' hg
  unfold YT
  simp only [sG, vf]
  have : Z1 P σ' x.op x.type v := by
   cases hx : x.op <;> rw [hx] at hv vy <;> first | (exact Bool.noConfusion hv) | (simp only [Z1, Ps hg] at vy ⊢; exact vy)
  unfold Step
  cases hx : x.op <;> rw [hx] at hv this <;> first | exact ⟨v, this, rfl⟩ | (exact Bool.noConfusion hv)
 rcases wO with wO | ⟨_, _, _, hk, _⟩
 · -- a plain store
  unfold kA at wa
  split at wa
  ·rename_i T p q wA
   simp only [qB, wA, Bool.and_eq_true, Bool.not_eq_true'] at hu
   unfold YT at wO
   simp only [uU, v7, wA] at wO
   unfold KR at wO
   rw [YX hu.1, YX hu.2] at wO
   obtain ⟨k1, k2, k3, k4, wO⟩ := wO
   split at wO
   ·rename_i t c hl
    obtain ⟨cells, c1, c2, c3, rfl⟩ := wO
    rw [St.XY] at c1
    refine ⟨σ.Zh t 0 (.box (place cells c (unc (look P σ T q)).cells)), .inl ?_, ?_⟩
    ·unfold YT KR
     simp only [uU, v7, wA]
     refine ⟨k1, k2, k3, k4, ?_⟩
     rw [hl]
     exact ⟨cells, c1, c2, c3, rfl⟩
    ·rw [Kj]; exact back _ (fun u => St.XT _ _ _ _ _)
   ·rename_i t j i c hl
    obtain ⟨q', size, rows, ds, c1, c2, c3, c4, c5, c6, c7, rfl⟩ := wO
    rw [St.XY] at c1
    rw [Vz] at c3
    refine ⟨σ.Zh t j (.arr q' size (rows.set i (place (rows.getD i []) c ds))), .inl ?_, ?_⟩
    ·unfold YT KR
     simp only [uU, v7, wA]
     refine ⟨k1, k2, k3, k4, ?_⟩
     rw [hl]
     exact ⟨q', size, rows, ds, c1, c2, c3, c4, c5, c6, c7, rfl⟩
    ·rw [Kj]; exact back _ (fun u => St.XT _ _ _ _ _)
   ·exact wO.elim
  ·cases wa
 ·obtain ⟨⟨ui, vC⟩, w8, pJ⟩ := hk wa
  rw [St.XZ] at ui
  have tx : SL (σ.get d) = true := by
   rw [Ku] at wk
   unfold St.get
   rcases wk with e | ⟨x', e⟩ <;> rw [e] <;> rfl
  have hq : ∀ l : List (Nat × V), (σ.put d v).Qc ((d, σ.get d) :: l) = σ.Qc l := fun l => by rw [St.Qc, U6, yM]
  have h0 := w8 [(d, σ.get d)] (fun p hp => by cases List.mem_singleton.1 hp; exact ⟨hu, tx⟩)
  rw [hq []] at h0
  have hlen : d < σ.length := by
   rw [Ku] at wk
   rcases wk with e | ⟨x', e⟩ <;> exact (List.getElem?_eq_some_iff.1 e).1
  have s4 : ∀ u, (σ2.put d (σ.get d)).get u = σ.get u := fun u => by
   rw [St.Qp]
   by_cases ri : u = d /\ d < σ2.length
   ·rw [if_pos ri, ri.1]
   ·rw [if_neg ri, vC, St.Qp]
    have oR : ¬ u = d := fun e => ri ⟨e, by rw [ui]; exact hlen⟩
    rw [if_neg (fun hh => oR hh.1)]
  refine ⟨σ2.put d (σ.get d), .inr ⟨wo, h0.1, h0.2, fun _ => ⟨⟨by rw [St.XZ]; exact ui, s4⟩, fun l hl => ?_, fun t cells hb => by rw [St.XY]; exact pJ t cells (by rw [St.XY]; exact hb)⟩, fun hh => (by rw [MR wa] at hh; cases hh), fun hh _ => (by rw [L2 wa] at hh; cases hh)⟩, ?_⟩
  ·have := w8 ((d, σ.get d) :: l) (fun p hp => by
    rcases List.mem_cons.1 hp with rfl | hp
    ·exact ⟨hu, tx⟩
    ·exact hl p hp)
   rw [hq l] at this
   exact this
  ·have := back _ s4
   rw [U6] at this
   have e : σ2.put d v = σ2 := by
    have g1 := vC d
    rw [St.Qp, if_pos ⟨rfl, hlen⟩] at g1
    rw [<- g1]; exact yM σ2 d
   rw [e] at this
   exact this
theorem Ep {P : Program} {ops : Array Oper} {bar : Oper -> Bool} {PT : List (Nat × Nat)} {NB : List Nat} {x y : Oper} {σ σ1 σ2 : St} {d : Nat} (h : LC PT NB bar x y = true) (hp : UH PT σ) (lY : Pf NB σ) (vf : x.dst = some d) (wk : Yc σ d = true) (w5 : Qg P ops bar x σ σ1) (wO : Qg P ops bar y σ1 σ2) : ∃ σ1', Qg P ops bar y σ σ1' /\ YT P ops x σ1' σ2 := by
 unfold LC at h
 simp only [vf, Bool.and_eq_true, Bool.not_eq_true', Option.isNone_iff_eq_none] at h
 obtain ⟨⟨⟨⟨⟨⟨vM, wo⟩, sG⟩, wa⟩, uU⟩, v7⟩, h⟩ := h
 have w5 := w5.resolve_right (fun hh => by rw [vM] at hh; cases hh.1)
 split at h
 ·rename_i dx T tp q ld wA
  cases ld
  simp only [Bool.and_eq_true, Bool.not_eq_true', bne_iff_ne, ne_eq, List.contains_iff_mem] at h
  obtain ⟨⟨⟨g5, wC⟩, hq⟩, hv⟩ := h
  have wz : Jt d (.tmp tp) = false := by simp [Jt, wC]
  have hu : qB y d = true := by simp only [qB, wA, wz, hq]; rfl
  unfold YT at w5
  simp only [sG, vf] at w5
  have e1 : ∃ v, Z1 P σ x.op x.type v /\ σ1 = σ.put d v := by
   unfold Step at w5
   cases hx : x.op <;> rw [hx] at w5 hv <;> first | exact w5 | (exact Bool.noConfusion hv)
  obtain ⟨v, vy, rfl⟩ := e1
  have back : ∀ σ', (∀ u, σ'.get u = σ.get u) -> (∀ t cells, σ.ob t 0 = .box cells -> σ'.ob t 0 = .box cells) -> YT P ops x σ' (σ'.put d v) := by
   intro σ' hg pJ
   unfold YT
   simp only [sG, vf]
   have : Z1 P σ' x.op x.type v := by
    cases hx : x.op <;> rw [hx] at hv vy <;> try exact Bool.noConfusion hv
    case load T' z =>
     cases z with
     | tmp t =>
      simp only [List.any_eq_true, beq_iff_eq] at hv
      obtain ⟨p, oO, uM⟩ := hv
      simp only [Z1, Ps hg] at vy ⊢
      refine ⟨vy.1, vy.2.1, ?_⟩
      have vB := vy.2.2
      have uG := hp p oO
      rw [uM] at uG
      rw [KK] at vB ⊢
      rcases uG with e | ⟨c, e⟩
      ·rw [e] at vB; exact vB.elim
      ·rw [e] at vB ⊢
       obtain ⟨ce, k1, k2⟩ := vB
       exact ⟨ce, pJ _ _ k1, k2⟩
     | _ => exact Bool.noConfusion hv
    case fieldAddr T' z f =>
     cases z with
     | tmp t =>
      simp only [List.any_eq_true, beq_iff_eq] at hv
      obtain ⟨p, oO, uM⟩ := hv
      simp only [Z1, Ps hg] at vy ⊢
      refine ⟨vy.1, vy.2.1, ?_⟩
      have vB := vy.2.2
      have uG := hp p oO
      rw [uM] at uG
      rw [KK] at vB ⊢
      rcases uG with e | ⟨c, e⟩
      ·rw [e] at vB; exact vB.elim
      ·rw [e] at vB ⊢
       obtain ⟨⟨ce, k1⟩, k2⟩ := vB
       exact ⟨⟨ce, pJ _ _ k1⟩, k2⟩
     | _ => exact Bool.noConfusion hv
   unfold Step
   cases hx : x.op <;> rw [hx] at hv this <;> first | exact ⟨v, this, rfl⟩ | (exact Bool.noConfusion hv)
  rcases wO with wO | ⟨_, _, _, hk, _⟩
  ·unfold YT at wO
   simp only [uU, v7, wA] at wO
   unfold KR at wO
   rw [YX wz, YX hq] at wO
   obtain ⟨k1, k2, k3, k4, wO⟩ := wO
   split at wO
   ·rename_i t c hl
    exact absurd hl (lY tp g5 t c)
   ·rename_i t j i c hl
    obtain ⟨q', size, rows, ds, c1, c2, c3, c4, c5, c6, c7, rfl⟩ := wO
    rw [St.XY] at c1
    rw [Vz] at c3
    refine ⟨σ.Zh t j (.arr q' size (rows.set i (place (rows.getD i []) c ds))), .inl ?_, ?_⟩
    ·unfold YT KR
     simp only [uU, v7, wA]
     refine ⟨k1, k2, k3, k4, ?_⟩
     rw [hl]
     exact ⟨q', size, rows, ds, c1, c2, c3, c4, c5, c6, c7, rfl⟩
    ·rw [Kj]
     refine back _ (fun u => St.XT _ _ _ _ _) (fun b cells hb => ?_)
     have po : σ.ob t j ≠ .none := by rw [c1]; simp
     rw [St.Xf σ t j _ b 0 po]
     split
     ·rename_i hc; rw [hc.1, hc.2] at hb; rw [c1] at hb; cases hb
     ·exact hb
   ·exact wO.elim
  ·obtain ⟨⟨ui, vC⟩, w8, pJ⟩ := hk wa
   rw [St.XZ] at ui
   have tx : SL (σ.get d) = true := by
    rw [Ku] at wk
    unfold St.get
    rcases wk with e | ⟨x', e⟩ <;> rw [e] <;> rfl
   have ia : ∀ l : List (Nat × V), (σ.put d v).Qc ((d, σ.get d) :: l) = σ.Qc l := fun l => by rw [St.Qc, U6, yM]
   have h0 := w8 [(d, σ.get d)] (fun p hp => by cases List.mem_singleton.1 hp; exact ⟨hu, tx⟩)
   rw [ia []] at h0
   have hlen : d < σ.length := by
    rw [Ku] at wk
    rcases wk with e | ⟨x', e⟩ <;> exact (List.getElem?_eq_some_iff.1 e).1
   have s4 : ∀ u, (σ2.put d (σ.get d)).get u = σ.get u := fun u => by
    rw [St.Qp]
    by_cases ri : u = d /\ d < σ2.length
    ·rw [if_pos ri, ri.1]
    ·rw [if_neg ri, vC, St.Qp]
     have oR : ¬ u = d := fun e => ri ⟨e, by rw [ui]; exact hlen⟩
     rw [if_neg (fun hh => oR hh.1)]
   have nw : ∀ t cells, σ.ob t 0 = .box cells -> (σ2.put d (σ.get d)).ob t 0 = .box cells := fun t cells hb => by rw [St.XY]; exact pJ t cells (by rw [St.XY]; exact hb)
   refine ⟨σ2.put d (σ.get d), .inr ⟨wo, h0.1, h0.2, fun _ => ⟨⟨by rw [St.XZ]; exact ui, s4⟩, fun l hl => ?_, nw⟩, fun hh => (by rw [MR wa] at hh; cases hh), fun hh _ => (by rw [L2 wa] at hh; cases hh)⟩, ?_⟩
   ·have := w8 ((d, σ.get d) :: l) (fun p hp => by
     rcases List.mem_cons.1 hp with rfl | hp
     ·exact ⟨hu, tx⟩
     ·exact hl p hp)
    rw [ia l] at this
    exact this
   ·have := back _ s4 nw
    rw [U6] at this
    have e : σ2.put d v = σ2 := by
     have g1 := vC d
     rw [St.Qp, if_pos ⟨rfl, hlen⟩] at g1
     rw [<- g1]; exact yM σ2 d
    rw [e] at this
    exact this
 ·cases h
theorem Dk {P : Program} {PT : List (Nat × Nat)} {σ σ1 : St} {d : Nat} (vC : ∀ t, t ≠ d -> σ1.get t = σ.get t /\ (σ.get t).ref d = false) (uC : ∀ t j cells, t ≠ d -> σ1.ob t j = .box cells -> σ.ob t j = .box cells /\ Zw d cells = false)
  (vS : ∀ t j q s rows, t ≠ d -> σ1.ob t j = .arr q s rows -> ∃ wT, σ.ob t j = .arr q s wT) (hp : UH PT σ) {op : Op} {ty : TypeId} {v : V} (tn : IY PT op = true) (tK : ∀ z ∈ op.operands.toList, z ≠ .tmp d) (hv : Z1 P σ1 op ty v) : Z1 P σ op ty v /\ v.ref d = false := by
 have hl : ∀ (z : Operand) (T : TypeId), z ≠ .tmp d -> look P σ1 T z = look P σ T z := by
  intro z T hz
  cases z with
  | tmp u => exact (vC u (fun e => hz (by rw [e]))).1
  | const c => rfl
  | global g => rfl
  | func f => rfl
 have hr : ∀ (z : Operand) (T : TypeId), z ≠ .tmp d -> (look P σ T z).ref d = false := by
  intro z T hz
  cases z with
  | tmp u => exact (vC u (fun e => hz (by rw [e]))).2
  | const c => exact kd T c d
  | global g => rfl
  | func f => rfl
 have wC : ∀ (z : Operand) (T : TypeId) (x : At), z ≠ .tmp d -> unc (look P σ T z) = .one x -> x.ref d = false := by
  intro z T x hz hu
  cases hx : x.ref d with
  | false => rfl
  | true => have := Y6 hu hx; rw [hr z T hz] at this; cases this
 refine ⟨?_, ?_⟩
 ·cases op <;> simp only [IY] at tn <;> try exact Bool.noConfusion tn
  case move x =>
   simp only [Z1] at hv ⊢
   rw [hv, hl x ty (tK x (by simp [Op.operands]))]
  case load T x =>
   cases x with
   | tmp t =>
    have ht : Operand.tmp t ≠ .tmp d := tK _ (by simp [Op.operands])
    simp only [List.any_eq_true, beq_iff_eq] at tn
    obtain ⟨p, oO, uM⟩ := tn
    simp only [Z1] at hv ⊢
    rw [hl _ 0 ht] at hv
    refine ⟨hv.1, hv.2.1, ?_⟩
    have vB := hv.2.2
    have uG := hp p oO
    rw [uM] at uG
    rw [KK] at vB ⊢
    rcases uG with e | ⟨c, e⟩
    ·rw [e] at vB; exact vB.elim
    ·rw [e] at vB ⊢
     obtain ⟨ce, e1, e2⟩ := vB
     have hb : p.2 ≠ d := by
      have := wC (.tmp t) 0 (.bptr p.2 c) ht (by rw [KK]; exact e)
      simpa [At.ref] using this
     exact ⟨ce, (uC _ _ _ hb e1).1, e2⟩
   | _ => exact Bool.noConfusion tn
  case fieldAddr T x f =>
   cases x with
   | tmp t =>
    have ht : Operand.tmp t ≠ .tmp d := tK _ (by simp [Op.operands])
    simp only [Z1] at hv ⊢
    rw [hl _ 0 ht] at hv
    refine ⟨hv.1, hv.2.1, ?_⟩
    have vB := hv.2.2
    split at vB
    ·rename_i t' c e
     have hb : t' ≠ d := by have := wC _ _ _ ht e; simpa [At.ref] using this
     obtain ⟨⟨ce, e1⟩, e2⟩ := vB
     first | exact ⟨⟨ce, (uC _ _ _ hb e1).1⟩, e2⟩ | (simp only [e]; exact ⟨⟨ce, (uC _ _ _ hb e1).1⟩, e2⟩)
    ·rename_i t' j i c e
     have hb : t' ≠ d := by have := wC _ _ _ ht e; simpa [At.ref] using this
     obtain ⟨⟨q, s, rows, e1⟩, e2⟩ := vB
     obtain ⟨wT, e3⟩ := vS _ _ _ _ _ hb e1
     first | exact ⟨⟨q, s, wT, e3⟩, e2⟩ | (simp only [e]; exact ⟨⟨q, s, wT, e3⟩, e2⟩)
    ·rename_i rr c e; first | exact vB | (simp only [e]; exact vB)
    ·rename_i t' j i c k e
     have hb : t' ≠ d := by have := wC _ _ _ ht e; simpa [At.ref] using this
     obtain ⟨⟨s, rows, e1⟩, e2⟩ := vB
     obtain ⟨wT, e3⟩ := vS _ _ _ _ _ hb e1
     first | exact ⟨⟨s, wT, e3⟩, e2⟩ | (simp only [e]; exact ⟨⟨s, wT, e3⟩, e2⟩)
    ·exact vB.elim
   | _ => exact Bool.noConfusion tn
  case slice T x lo hi mx =>
   cases x with
   | tmp t =>
    cases mx with
    | some m => exact Bool.noConfusion tn
    | none =>
     have ht : Operand.tmp t ≠ .tmp d := tK _ (by simp [Op.operands])
     have s7 : ∀ (df n : Nat) (z : Option Operand), (∀ y, z = some y -> y ≠ .tmp d) -> bnd P σ1 df z n -> bnd P σ df z n := by
      intro df n z hz h
      cases z with
      | none => exact h
      | some z => simp only [bnd] at h ⊢; rw [hl z 0 (hz z rfl)] at h; exact h
     have uj : ∀ y, lo = some y -> y ≠ .tmp d := fun y e => tK y (by subst e; simp [Op.operands])
     have tw : ∀ y, hi = some y -> y ≠ .tmp d := fun y e => tK y (by subst e; simp [Op.operands])
     simp only [Z1] at hv ⊢
     rw [hl _ 0 ht] at hv
     refine ⟨hv.1, ?_⟩
     have vB := hv.2
     split at vB
     ·rename_i s e
      obtain ⟨h1, l, h, h2, h3, h4⟩ := vB
      first | exact ⟨h1, l, h, s7 _ _ _ uj h2, s7 _ _ _ tw h3, h4⟩ | (simp only [e]; exact ⟨h1, l, h, s7 _ _ _ uj h2, s7 _ _ _ tw h3, h4⟩)
     ·rename_i s rows e
      obtain ⟨h1, h0, l, h, h2, h3, h4⟩ := vB
      first | exact ⟨h1, h0, l, h, s7 _ _ _ uj h2, s7 _ _ _ tw h3, h4⟩ | (simp only [e]; exact ⟨h1, h0, l, h, s7 _ _ _ uj h2, s7 _ _ _ tw h3, h4⟩)
     ·rename_i t' j o len e
      have hb : t' ≠ d := by have := wC _ _ _ ht e; simpa [At.ref] using this
      obtain ⟨h1, ⟨q, rows, e1⟩, l, h, h2, h3, h4⟩ := vB
      obtain ⟨wT, e3⟩ := vS _ _ _ _ _ hb e1
      first | exact ⟨h1, ⟨q, wT, e3⟩, l, h, s7 _ _ _ uj h2, s7 _ _ _ tw h3, h4⟩ | (simp only [e]; exact ⟨h1, ⟨q, wT, e3⟩, l, h, s7 _ _ _ uj h2, s7 _ _ _ tw h3, h4⟩)
     ·exact vB.elim
   | _ => exact Bool.noConfusion tn
 ·cases hx : v.ref d with
  | false => rfl
  | true =>
   obtain ⟨z, hz, T, h1⟩ := Sc hv hx
   rw [hl z T (tK z hz)] at h1
   rcases h1 with h1 | ⟨t, cells, h1, h2, h3⟩
   ·rw [hr z T (tK z hz)] at h1; cases h1
   ·by_cases oT : t = d
    ·rw [oT, hr z T (tK z hz)] at h1; cases h1
    ·have := (uC t 0 cells oT h2).2
     rw [this] at h3; cases h3
theorem El {P : Program} {ops : Array Oper} {bar : Oper -> Bool} {PT : List (Nat × Nat)} {x y : Oper} {σ σ1 σ2 : St} {d : Nat} (h : LU PT ops bar x y = true) (hp : UH PT σ) (vf : x.dst = some d) (wk : Yc σ d = true) (w5 : Qg P ops bar x σ σ1) (wO : Qg P ops bar y σ1 σ2) : ∃ σ1', Qg P ops bar y σ σ1' /\ Qg P ops bar x σ1' σ2 := by
 unfold LU at h
 simp only [Bool.and_eq_true, Bool.not_eq_true', Option.isNone_iff_eq_none] at h
 obtain ⟨⟨⟨⟨⟨⟨vM, wo⟩, rH⟩, sG⟩, uU⟩, tn⟩, h⟩ := h
 rw [vf] at h
 cases v7 : y.dst with
 | none => rw [v7] at h; cases h
 | some dy =>
  rw [v7] at h
  simp only [Bool.and_eq_true, Bool.not_eq_true', bne_iff_ne, ne_eq] at h
  obtain ⟨⟨wC, tA⟩, si⟩ := h
  have nx := qK tA
  have ny := qK si
  have wO := wO.resolve_right (fun hh => by rw [wo] at hh; cases hh.1)
  rcases w5 with w5 | ⟨_, fT, fU, _, pb, _⟩
  ·have w9 : qd y = false := by
    unfold qd
    cases wA : y.op <;> rw [wA] at tn <;> first | rfl | (exact Bool.noConfusion tn)
   obtain ⟨σ1', hy, hx⟩ := swap vf v7 wC nx ny w9 (.inl uU) wk w5 wO
   exact ⟨σ1', .inl hy, .inl hx⟩
  ·obtain ⟨d', wQ, hlen, vC, uC, vS, w8⟩ := pb rH
   rw [vf] at wQ; cases wQ
   have e2 : ∃ v, Z1 P σ1 y.op y.type v /\ σ2 = σ1.put dy v := by
    unfold YT at wO
    simp only [uU, v7] at wO
    unfold Step at wO
    cases wA : y.op <;> rw [wA] at wO tn <;> first | exact wO | (exact Bool.noConfusion tn)
   obtain ⟨v, hv, rfl⟩ := e2
   obtain ⟨rC, oP⟩ := Dk vC uC vS hp tn (fun z hz => nx z (by simp only [Jd, List.mem_append]; exact .inl hz)) hv
   have g7 : S9 x dy = true := by
    simp only [S9, Bool.not_eq_true']
    refine List.any_eq_false.2 (fun z hz => ?_)
    have := ny z (by simp only [Jd, List.mem_append]; exact .inl hz)
    cases z <;> simp [Jt] at this ⊢
    exact this
   have wb : ∀ p ∈ [(dy, v)], p.1 ≠ d /\ S9 x p.1 = true /\ p.2.ref d = false := fun p hp => by
    cases List.mem_singleton.1 hp; exact ⟨fun e => wC e.symm, g7, oP⟩
   have h0 := w8 [(dy, v)] wb
   refine ⟨σ.put dy v, .inl ?_, .inr ⟨vM, h0.1, h0.2, fun hh => (by rw [MR hh] at rH; cases rH), fun _ => ⟨d, vf, by rw [St.XZ, St.XZ]; exact hlen, fun t ht => ?_, fun t j cells ht hb => ?_, fun t j q s rows ht hb => ?_, fun l hl => ?_⟩, fun hh _ => (by rw [FM rH] at hh; cases hh)⟩⟩
   ·unfold YT
    simp only [uU, v7]
    unfold Step
    cases wA : y.op <;> rw [wA] at rC tn <;> first | exact ⟨v, rC, rfl⟩ | (exact Bool.noConfusion tn)
   ·have h1 := vC t ht
    rw [St.Qp, St.Qp, hlen]
    by_cases hc : t = dy /\ dy < σ.length
    ·simp only [if_pos hc]; exact ⟨trivial, oP⟩
    ·simp only [if_neg hc]; exact h1
   ·rw [St.XY] at hb ⊢; exact uC t j cells ht hb
   ·rw [St.XY] at hb ⊢; exact vS t j q s rows ht hb
   ·exact w8 ((dy, v) :: l) (fun p hp => by
     rcases List.mem_cons.1 hp with rfl | hp
     ·exact wb _ (by simp)
     ·exact hl p hp)
theorem H0 {σ : St} {t j : Nat} (hn : σ.ob t j ≠ .none) : σ.Zh t j (σ.ob t j) = σ := by
 apply List.ext_getElem?
 intro u
 rw [XU]
 by_cases hu : u = t
 ·subst hu
  obtain ⟨e, he, ho⟩ := VN (σ := σ) (t := u) (j := j) rfl hn
  rw [if_pos rfl, he, Option.map_some]
  have : e.2.set j (σ.ob u j) = e.2 := by
   rw [<- ho]
   apply List.ext_getElem?
   intro k
   rw [List.getElem?_set]
   by_cases hk : j = k
   ·subst hk
    rw [if_pos rfl]
    split
    ·rename_i wN; unfold YB; rw [List.getElem?_eq_getElem wN]
    ·rename_i wN; exact (List.getElem?_eq_none (by omega)).symm
   ·rw [if_neg hk]
  rw [this]
 ·rw [if_neg hu]
theorem Lt (σ : St) (t j : Nat) (o o' : Ob) : (σ.Zh t j o).Zh t j o' = σ.Zh t j o' := by
 apply List.ext_getElem?
 intro u
 rw [XU, XU, XU]
 by_cases hu : u = t
 ·simp only [if_pos hu]
  cases σ[u]? <;> simp
 ·simp only [if_neg hu]
section
variable {P : Program} {ops : Array Oper} {σ : St} {t d dx : Nat} {cells cs : List At} {v : V} {os : Option (List Ob)}
theorem V0 : (JY t d cs v os σ).length = σ.length := by
 cases os <;> simp [JY, St.XZ, St.yy, St.Yr]
theorem N7 {u : Nat} (h : u ≠ d) : (JY t d cs v os σ).get u = σ.get u := by
 cases os <;> simp [JY, St.Qp, St.xp, St.XT, h]
theorem EZ {u j : Nat} (hb : σ.ob t 0 = .box cells) (hu : os ≠ none -> u ≠ d) : (JY t d cs v os σ).ob u j = if u = t /\ j = 0 then .box cs else σ.ob u j := by
 have hn : σ.ob t 0 ≠ .none := by rw [hb]; simp
 cases os with
 | none => simp only [JY, St.XY]; exact St.Xf σ t 0 _ u j hn
 | some l =>
  have := hu (by simp)
  simp only [JY, St.X7, this, false_and, if_false]
  exact St.Xf σ t 0 _ u j hn
theorem Su {u : Nat} : (JY t d cs v os σ)[u]? = if u = d then (σ[u]?).map (fun e => (v, match os with | some l => l | none => if u = t then e.2.set 0 (.box cs) else e.2)) else if u = t then (σ[u]?).map (fun e => (e.1, e.2.set 0 (.box cs))) else σ[u]? := by
 cases os <;> simp only [JY, yX, Jj, XU] <;> by_cases h1 : u = d <;> by_cases h2 : u = t <;> simp [h1, h2] <;> (try subst h1) <;> (try subst h2) <;> (try simp_all) <;> (first | (cases σ[u]? <;> rfl) | (cases σ[t]? <;> rfl) | (cases σ[d]? <;> rfl))
theorem PU {e : Eff} (w9 : ∀ a j w l, e ≠ .drop a j w l) (h1 : dx ≠ d) (h2 : (∀ w, e ≠ .put w) -> t ≠ dx) : e.ap dx (JY t d cs v os σ) = JY t d cs v os (e.ap dx σ) := by
 apply List.ext_getElem?
 intro u
 rw [Su]
 cases e with
 | put w =>
  simp only [Eff.ap, yX, Su]
  by_cases e1 : u = dx
  ·subst e1
   simp only [if_true, if_neg h1]
   by_cases e2 : u = t <;> simp [e2] <;> (first | (cases σ[u]? <;> rfl) | (cases σ[t]? <;> rfl) | rfl)
  ·simp only [if_neg e1]
 | new w l =>
  have h3 := h2 (by intro w h; cases h)
  simp only [Eff.ap, Jj, Su]
  by_cases e1 : u = dx
  ·subst e1
   simp only [if_true, if_neg h1, if_neg (Ne.symm h3)]
  ·simp only [if_neg e1]
 | drop a j w l => exact absurd rfl (w9 a j w l)
theorem H9 {u : Nat} (h : σ.fresh u = true) (uB : Zw u cs = false) (hv : v.ref u = false /\ ∀ l, os = some l -> YH u l = false) : (JY t d cs v os σ).fresh u = true := by
 have hf := XI.1 h
 refine XI.2 ⟨by rw [V0]; exact hf.1, fun k e he hk => ?_⟩
 rw [Su] at he
 have nz : ∀ oe, YH u oe = false -> YH u (oe.set 0 (.box cs)) = false := by
  intro oe h0
  cases oe with
  | nil => exact h0
  | cons o oe =>
   simp only [List.set_cons_zero]
   cases o <;> simp_all [YH]
 by_cases h1 : k = d
 ·rw [if_pos h1] at he
  simp only [Option.map_eq_some_iff] at he
  obtain ⟨e0, tL, rfl⟩ := he
  refine ⟨hv.1, ?_⟩
  cases os with
  | some l => exact hv.2 l rfl
  | none =>
   have := (hf.2 k e0 tL hk).2
   simp only
   split
   ·exact nz _ this
   ·exact this
 ·rw [if_neg h1] at he
  split at he
  ·simp only [Option.map_eq_some_iff] at he
   obtain ⟨e0, tL, rfl⟩ := he
   exact ⟨(hf.2 k e0 tL hk).1, nz _ (hf.2 k e0 tL hk).2⟩
  ·exact hf.2 k e he hk
theorem L1 {u : Nat} (hb : σ.ob t 0 = .box cells) (h : (JY t d cs v os σ).fresh u = true) (wk : Yc σ d = true) (gk : Zw u cells = false) : σ.fresh u = true := by
 have hf := XI.1 h
 refine XI.2 ⟨by rw [<- V0 (σ := σ)]; exact hf.1, fun k e he hk => ?_⟩
 by_cases h1 : k = d
 ·rw [h1] at he; exact T5 wk he u
 ·by_cases h2 : k = t
  ·have := hf.2 k (e.1, e.2.set 0 (.box cs)) (by rw [Su, if_neg h1, if_pos h2, he]; rfl) hk
   refine ⟨this.1, ?_⟩
   have h3 := this.2
   rw [h2] at he
   rw [Py he] at hb
   cases nC : e.2 with
   | nil => rfl
   | cons o oe =>
    rw [nC] at hb h3
    have hb : o = .box cells := hb
    subst hb
    simp only [List.set_cons_zero, YH, Bool.or_eq_false_iff] at h3 ⊢
    exact ⟨gk, h3.2⟩
  ·exact hf.2 k e (by rw [Su, if_neg h1, if_neg h2]; exact he) hk
theorem IH {PT : List (Nat × Nat)} {x y : Oper} {A : St} {σ2 : St} (hg : x.guard = none) (vf : x.dst = some dx) (wC : dx ≠ d) (pN : ∀ z ∈ Jd ops x, z ≠ .tmp d) (hb : σ.ob t 0 = .box cells) (vG : os ≠ none -> (σ.Zh t 0 (.box cs)).fresh d = true)
  (uM : UH PT σ) (uC : ∀ b, Nw PT y = some b -> b = t) (wj : SM PT y x = true) (hA : A = σ \/ A = JY t d cs v os σ) (hs : YT P ops x A σ2) :
  ∃ e : Eff, σ2 = e.ap dx A /\ (∀ a j w l, e ≠ .drop a j w l) /\ e.ok dx A /\ ∀ B, (B = σ \/ B = JY t d cs v os σ) -> e.ok dx B -> YT P ops x B (e.ap dx B) /\ ∀ u, u ≠ dx -> e.ref u = true -> TL P (Jd ops x) B u := by
 have wA : Jd ops x = x.op.operands.toList := by simp [Jd, hg]
 simp only [SM, Bool.or_eq_true, Bool.and_eq_true, Bool.not_eq_true'] at wj
 have n7 : A.length = σ.length := by rcases hA with rfl | rfl <;> simp [V0]
 rcases wj with ⟨hc, w9⟩ | hf
 ·obtain ⟨e, rfl, wb, hdr, _, rf, lk⟩ := yu vf hs
  refine ⟨e, rfl, (fun a j w l h => by have := (hdr a j w l h).1; rw [w9] at this; cases this), wb, fun B hB lZ => ?_⟩
  have n8 : B.length = σ.length := by rcases hB with rfl | rfl <;> simp [V0]
  have hk : ∀ z ∈ Jd ops x, ∃ c, z = .const c := by
   intro z hz
   rw [wA] at hz
   have := List.all_eq_true.1 hc z hz
   cases z <;> first | exact ⟨_, rfl⟩ | cases this
  have wh : Sub P (Jd ops x) A B := ⟨by rw [n7, n8], fun z hz ty => by obtain ⟨c, rfl⟩ := hk z hz; rfl, fun z hz ty u hr => by obtain ⟨c, rfl⟩ := hk z hz; have h0 := kd (P := P) ty c u; simp only [look] at hr; rw [h0] at hr; cases hr⟩
  have tu : ∀ u, ¬ TL P (Jd ops x) A u := by
   rintro u ⟨z, hz, ty, h | ⟨_, _, h, _, _⟩⟩ <;> (obtain ⟨c, rfl⟩ := hk z hz; have h0 := kd (P := P) ty c; simp only [look] at h; rw [h0] at h; cases h)
  exact ⟨lk B wh lZ, fun u hu hr => absurd (rf hg u hu hr) (tu u)⟩
 ·split at hf
  ·rename_i b gp
   have ov := uC b gp
   subst ov
   have g8 : Step P x dx A σ2 := by unfold YT at hs; simp only [hg, vf] at hs; exact hs
   obtain ⟨w, hw, rfl⟩ := (V3 rfl hf).1 g8
   refine ⟨.put w, rfl, (fun a j w' l h => by cases h), trivial, fun B hB _ => ?_⟩
   have oS : ∀ z ∈ x.op.operands.toList, ∀ ty, look P (JY b d cs v os σ) ty z = look P (σ.Zh b 0 (.box cs)) ty z := fun z hz ty => by
    rw [Q8]; exact look_eq (fun u hu => N7 hu) (pN z (by rw [wA]; exact hz)) ty
   have tu : os ≠ none -> ∀ z ∈ x.op.operands.toList, ∀ ty, (look P (σ.Zh b 0 (.box cs)) ty z).ref d = false := fun hn z hz ty =>
    Qz (fun t' e he mR => ((XI.1 (vG hn)).2 t' e he mR).1) (pN z (by rw [wA]; exact hz)) ty
   have n9 : ∀ u, (os ≠ none -> u ≠ d) -> ∀ j, (JY b d cs v os σ).ob u j = (σ.Zh b 0 (.box cs)).ob u j := fun u hu j => by
    rw [EZ hb hu, St.Xf _ _ _ _ _ _ (by rw [hb]; simp)]
   have fw : Z1 P (σ.Zh b 0 (.box cs)) x.op x.type w -> Z1 P (JY b d cs v os σ) x.op x.type w := fun hv => xK hv
    ⟨by rw [V0, St.Yr], fun z hz ty => (oS z hz ty).symm, fun z hz ty u hr j _ => n9 u (fun hn e => by subst e; rw [tu hn z hz ty] at hr; cases hr) j⟩
   have bw : Z1 P (JY b d cs v os σ) x.op x.type w -> Z1 P (σ.Zh b 0 (.box cs)) x.op x.type w := fun hv => xK hv
    ⟨by rw [V0, St.Yr], fun z hz ty => oS z hz ty, fun z hz ty u hr j _ => (n9 u (fun hn e => by subst e; rw [oS z hz ty, tu hn z hz ty] at hr; cases hr) j).symm⟩
   have lz : UH PT (σ.Zh b 0 (.box cs)) := fun p hp => by rw [St.XT]; exact uM p hp
   have wo : (σ.Zh b 0 (.box cs)).ob b 0 = .box cs := by rw [St.Xf _ _ _ _ _ _ (by rw [hb]; simp), if_pos ⟨rfl, rfl⟩]
   have tD : (σ.Zh b 0 (.box cs)).Zh b 0 (.box cells) = σ := by rw [Lt, <- hb]; exact H0 (by rw [hb]; simp)
   have hσ : Z1 P σ x.op x.type w := by
    rcases hA with rfl | rfl
    ·exact hw
    ·have := Im (cs := cells) hf lz wo (bw hw)
     rw [tD] at this; exact this
   have ib : Z1 P B x.op x.type w := by
    rcases hB with rfl | rfl
    ·exact hσ
    ·exact fw (Im hf uM hb hσ)
   refine ⟨?_, fun u hu hr => ?_⟩
   ·unfold YT; simp only [hg, vf]; exact (V3 rfl hf).2 ⟨w, ib, rfl⟩
   ·rw [wA]; exact Sc ib hr
  ·cases hf
end
theorem Tk {P : Program} {o : Oper} (h : Qw P o = true) : kA o = false /\ xF o = false := by
 unfold Qw at h
 split at h
 ·rename_i wA; simp [kA, xF, wA]
 ·cases h
theorem HW {P : Program} {PT : List (Nat × Nat)} {σ : St} {y : Oper} {t : Nat} (uM : UH PT σ) (h : ∃ z r, (∃ f ts, y.op = .call ⟨.value (.func f), ⟨z :: r⟩, ts⟩) /\ ∃ ty, unc (look P σ ty z) = .one (.bptr t 0)) : ∀ b, Nw PT y = some b -> b = t := by
 obtain ⟨z, r, ⟨f, ts, wA⟩, ty, hz⟩ := h
 intro b hb
 unfold Nw at hb
 rw [wA] at hb
 cases z with
 | tmp k =>
  simp only [Option.map_eq_some_iff] at hb
  obtain ⟨p, hp, rfl⟩ := hb
  have hk : p.1 = k := by simpa using List.find?_some hp
  have hm := List.mem_of_find?_eq_some hp
  rw [KK] at hz
  rcases uM p hm with e | ⟨c, e⟩ <;> rw [hk] at e <;> rw [e] at hz <;> simp [unc] at hz
  exact hz.1
 | _ => cases hb
theorem IQ {P : Program} {o : Oper} (h : Qw P o = true) : qd o = false := by
 unfold Qw at h
 split at h
 ·rename_i wA; simp [qd, wA]
 ·cases h
theorem S5 {PT : List (Nat × Nat)} {x y : Oper} (h : SM PT y x = true) : qd x = false := by
 simp only [SM, Bool.or_eq_true, Bool.and_eq_true, Bool.not_eq_true'] at h
 rcases h with ⟨_, h⟩ | h
 ·exact h
 ·split at h
  ·rename_i b _
   have key : ∀ op, Vo PT b op = true -> (match op with | .call ⟨.builtin .append, ⟨.const _ :: _⟩, _⟩ => false | .call ⟨.builtin .append, _, _⟩ => true | _ => false) = false := by
    intro op h
    unfold Vo at h
    split at h <;> first | rfl | (exact Bool.noConfusion h)
   exact key _ h
  ·cases h
theorem Em {P : Program} {ops : Array Oper} {bar : Oper -> Bool} {PT : List (Nat × Nat)} {x y : Oper} {σ σ1 σ2 : St} {d : Nat} (h : Lg P PT ops bar x y = true) (hp : UH PT σ) (gl : UH PT σ1) (vf : x.dst = some d) (wk : Yc σ d = true) (w5 : Qg P ops bar x σ σ1) (wO : Qg P ops bar y σ1 σ2) : ∃ σ1', Qg P ops bar y σ σ1' /\ Qg P ops bar x σ1' σ2 := by
 unfold Lg at h
 simp only [vf, Bool.and_eq_true, Option.isNone_iff_eq_none] at h
 obtain ⟨⟨⟨⟨sG, uU⟩, lT⟩, tH⟩, h⟩ := h
 cases v7 : y.dst with
 | none => rw [v7] at h; cases h
 | some dy =>
  rw [v7] at h
  simp only [Bool.and_eq_true, Bool.or_eq_true, Bool.not_eq_true', bne_iff_ne, ne_eq] at h
  obtain ⟨⟨⟨wC, tA⟩, si⟩, h⟩ := h
  have tA := qK tA
  have si := qK si
  have sk : Jd ops y = y.op.operands.toList := by simp [Jd, uU]
  have sn : Jd ops x = x.op.operands.toList := by simp [Jd, sG]
  have mA : ∀ j, σ.ob d j = .none := fun j => by
   rw [Ku] at wk
   unfold St.ob
   rcases wk with e | ⟨_, e⟩ <;> rw [e] <;> simp [YB]
  rcases h with ⟨⟨⟨vM, wo⟩, tB⟩, wj⟩ | ⟨⟨⟨vM, tB⟩, wo⟩, wj⟩
  ·have w5 := w5.resolve_right (fun hh => by rw [vM] at hh; cases hh.1)
   rcases wO with wO | ⟨_, _, _, _, _, ll⟩
   ·obtain ⟨σ1', hy, hx⟩ := swap vf v7 wC tA si (IQ tB) (.inl uU) wk w5 wO
    exact ⟨σ1', .inl hy, .inl hx⟩
   ·obtain ⟨d', t, cells, cs, v, os, wQ, hb, hz, uR, oP, vG, rfl, w8⟩ := ll tB tH
    rw [v7] at wQ; cases wQ
    obtain ⟨ex, rfl, tq, sU, _⟩ := yu vf w5
    have l0 : ∀ a j w l, ex ≠ .drop a j w l := fun a j w l hh => by have := (sU a j w l hh).1; rw [S5 wj] at this; cases this
    have tk : ∀ z ∈ Jd ops y, ∀ ty, look P (ex.ap d σ) ty z = look P σ ty z := fun z hz ty => look_eq (fun u hu => T9 ex hu) (tA z hz) ty
    have pO : ∀ z ∈ Jd ops y, ∀ ty u, (look P (ex.ap d σ) ty z).ref u = true -> (∀ w, ex ≠ .put w) -> u ≠ d := fun z hz ty u hr v8 e => by
     rw [e, tk z hz, Qz (yB tq v8) (tA z hz)] at hr; cases hr
    have tj := hz
    obtain ⟨z, r, ⟨f, ts, wA⟩, ty, og⟩ := hz
    have oo : z ∈ Jd ops y := by rw [sk, wA]; exact JE (c := ⟨.value (.func f), ⟨z :: r⟩, ts⟩) (by simp)
    have l3 : (∀ w, ex ≠ .put w) -> t ≠ d := pO z oo ty t (Y6 og (by simp [At.ref]))
    have mT : σ.ob t 0 = .box cells := by rw [HO tq l3 (by rw [hb]; simp), hb]
    have oT : t ≠ d := fun e => by rw [e, mA] at mT; cases mT
    have oU : os ≠ none -> (σ.Zh t 0 (.box cs)).fresh dy = true := fun hn => by
     have hf := XI.1 (vG hn)
     refine XI.2 ⟨by have := hf.1; rw [St.Yr] at this ⊢; rwa [JK] at this, fun k e he hk => ?_⟩
     by_cases hkd : k = d
     ·rw [hkd, XU, if_neg oT.symm] at he
      rw [hkd] at *
      exact T5 wk he dy
     ·refine hf.2 k e ?_ hk
      rw [XU] at he ⊢
      have : (ex.ap d σ)[k]? = σ[k]? := by
       cases ex with
       | put w => simp only [Eff.ap, yX, if_neg hkd]
       | new w l => simp only [Eff.ap, Jj, if_neg hkd]
       | drop a j w l => exact absurd rfl (l0 a j w l)
      rw [this]; exact he
    obtain ⟨e, heq, w9, wb, hB⟩ := IH (v := v) sG vf wC si mT oU hp (HW gl tj) wj (.inl rfl) w5
    rw [heq] at hb tj vG w8 tk pO ⊢
    have vI : ∀ z ∈ Jd ops y, ∀ ty u, (look P (e.ap d σ) ty z).ref u = true -> ∀ j, (e.ap d σ).ob u j ≠ .none -> σ.ob u j = (e.ap d σ).ob u j := fun z hz ty u hr j hn =>
     HO wb (fun v8 hu => by rw [hu, tk z hz, Qz (yB wb v8) (tA z hz)] at hr; cases hr) hn
    have h0 := w8 σ (JK e) (fun z hz ty => tk z (by rw [sk]; exact hz) ty) (fun z hz ty u hr j hn => vI z (by rw [sk]; exact hz) ty u hr j hn) oU
    refine ⟨JY t dy cs v os σ, .inr ⟨wo, h0.1, h0.2, fun hh => (by rw [(Tk tB).1] at hh; cases hh), fun hh => (by rw [(Tk tB).2] at hh; cases hh), fun _ _ => ?_⟩, .inl ?_⟩
    ·refine ⟨dy, t, cells, cs, v, os, v7, mT, ⟨z, r, ⟨f, ts, wA⟩, ty, by rw [<- tk z oo, <- heq]; exact og⟩, uR, oP, oU, rfl, fun σ3 nJ oL oM la => ?_⟩
     refine w8 σ3 (by rw [JK]; exact nJ) (fun z hz ty => by rw [tk z (by rw [sk]; exact hz), oL z hz]) (fun z hz ty u hr j hn => ?_) la
     have h1 := vI z (by rw [sk]; exact hz) ty u hr j hn
     rw [<- h1]
     exact oM z hz ty u (by rw [<- tk z (by rw [sk]; exact hz)]; exact hr) j (by rw [h1]; exact hn)
    ·rw [<- PU w9 wC (fun _ => oT)]
     refine (hB _ (.inr rfl) ?_).1
     cases e with
     | put w => trivial
     | new w l => exact H9 wb (uR d).2 (oP d (.inr wC))
     | drop a j w l => exact absurd rfl (w9 a j w l)
  ·have wO := wO.resolve_right (fun hh => by rw [wo] at hh; cases hh.1)
   rcases w5 with w5 | ⟨_, _, _, _, _, ll⟩
   ·obtain ⟨σ1', hy, hx⟩ := swap vf v7 wC tA si (S5 wj) (.inl uU) wk w5 wO
    exact ⟨σ1', .inl hy, .inl hx⟩
   ·obtain ⟨d', t, cells, cs, v, os, wQ, hb, hz, uR, oP, vG, rfl, w8⟩ := ll tB lT
    rw [vf] at wQ; cases wQ
    have tj := hz
    obtain ⟨z, r, ⟨f, ts, wA⟩, ty, og⟩ := hz
    have oo : z ∈ Jd ops x := by rw [sn, wA]; exact JE (c := ⟨.value (.func f), ⟨z :: r⟩, ts⟩) (by simp)
    obtain ⟨e, rfl, w9, wb, hB⟩ := IH uU v7 (Ne.symm wC) tA hb vG hp (HW hp tj) wj (.inr rfl) wO
    have mB : e.ok dy σ := by
     cases e with
     | put w => trivial
     | new w l => exact L1 hb wb wk (uR dy).1
     | drop a j w l => exact absurd rfl (w9 a j w l)
    have tk : ∀ z ∈ Jd ops x, ∀ ty, look P (e.ap dy σ) ty z = look P σ ty z := fun z hz ty => look_eq (fun u hu => T9 e hu) (si z hz) ty
    have pO : ∀ z ∈ Jd ops x, ∀ ty u, (look P σ ty z).ref u = true -> (∀ w, e ≠ .put w) -> u ≠ dy := fun z hz ty u hr v8 he => by
     rw [he, Qz (yB mB v8) (si z hz)] at hr; cases hr
    have uO : (∀ w, e ≠ .put w) -> t ≠ dy := pO z oo ty t (Y6 og (by simp [At.ref]))
    have wY : ∀ z ∈ Jd ops x, ∀ ty u, (look P σ ty z).ref u = true -> ∀ j, (e.ap dy σ).ob u j = σ.ob u j := fun z hz ty u hr j => TM w9 (pO z hz ty u hr)
    have tR := hB σ (.inl rfl) mB
    have mC : os ≠ none -> ((e.ap dy σ).Zh t 0 (.box cs)).fresh d = true := fun hn => by
     have hf := XI.1 (vG hn)
     have l4 : e.ref d = false := by
      cases hr : e.ref d with
      | false => rfl
      | true =>
       obtain ⟨z', uw, iY, h1 | ⟨t', wJ, h1, h2, h3⟩⟩ := tR.2 d wC hr
       ·rw [<- Q8 (t := t) (j := 0) (o := .box cs), Qz (fun k e0 he hk => (hf.2 k e0 he hk).1) (tA z' uw)] at h1; cases h1
       ·by_cases htt : t' = t
        ·subst htt; rw [hb] at h2; cases h2; rw [(uR d).1] at h3; cases h3
        ·have oT : t' ≠ d := fun e0 => by rw [e0, mA] at h2; cases h2
         obtain ⟨en, lh, lj⟩ := VN h2 (by simp)
         have := (hf.2 t' en (by rw [XU, if_neg htt]; exact lh) oT).2
         rw [Ux lj h3] at this; cases this
     refine XI.2 ⟨by have := hf.1; rw [St.Yr] at this ⊢; rwa [JK], fun k en he hk => ?_⟩
     cases e with
     | put w =>
      simp only [Eff.ap, Kj, yX] at he
      split at he
      ·simp only [Option.map_eq_some_iff] at he
       obtain ⟨e0, tL, rfl⟩ := he
       exact ⟨l4, (hf.2 k e0 tL hk).2⟩
      ·exact hf.2 k en he hk
     | new w l =>
      have ht := uO (by intro w h; cases h)
      simp only [Eff.ap, XU, Jj] at he
      by_cases hkt : k = t
      ·subst hkt
       simp only [if_true, if_neg ht] at he
       exact hf.2 k en (by rw [XU, if_pos rfl]; exact he) hk
      ·simp only [if_neg hkt] at he
       split at he
       ·simp only [Option.map_eq_some_iff] at he
        obtain ⟨e0, tL, rfl⟩ := he
        simp only [Eff.ref, Bool.or_eq_false_iff] at l4
        exact l4
       ·exact hf.2 k en (by rw [XU, if_neg hkt]; exact he) hk
     | drop a j w l => exact absurd rfl (w9 a j w l)
    have h0 := w8 (e.ap dy σ) (JK e).symm (fun z hz ty => (tk z (by rw [sn]; exact hz) ty).symm) (fun z hz ty u hr j _ => wY z (by rw [sn]; exact hz) ty u hr j) mC
    have mD : e.ap dy (JY t d cs v os σ) = JY t d cs v os (e.ap dy σ) := by
     cases e with
     | put w => exact PU w9 (Ne.symm wC) (fun hh => absurd rfl (hh w))
     | new w l => exact PU w9 (Ne.symm wC) uO
     | drop a j w l => exact absurd rfl (w9 a j w l)
    refine ⟨e.ap dy σ, .inl tR.1, .inr ?_⟩
    rw [mD]
    refine ⟨vM, h0.1, h0.2, fun hh => (by rw [(Tk tB).1] at hh; cases hh), fun hh => (by rw [(Tk tB).2] at hh; cases hh), fun _ _ => ?_⟩
    refine ⟨d, t, cells, cs, v, os, vf, ?_, ⟨z, r, ⟨f, ts, wA⟩, ty, by rw [tk z oo]; exact og⟩, uR, oP, mC, rfl, fun σ3 nJ oL oM la => ?_⟩
    ·rw [wY z oo ty t (Y6 og (by simp [At.ref])) 0]; exact hb
    ·refine w8 σ3 (by rw [<- nJ, JK]) (fun z hz ty => by rw [<- oL z hz, tk z (by rw [sn]; exact hz)]) (fun z hz ty u hr j hn => ?_) la
     have h1 := wY z (by rw [sn]; exact hz) ty u hr j
     rw [<- h1]
     exact oM z hz ty u (by rw [tk z (by rw [sn]; exact hz)]; exact hr) j (by rw [h1]; exact hn)
theorem Gg {PT : List (Nat × Nat)} {σ : St} (h : ptB PT σ = true) : UH PT σ := by
 intro p hp
 have := List.all_eq_true.1 h p hp
 split at this
 ·rename_i e; exact .inl e
 ·split at this
  ·rename_i b c e
   have hb : b = p.2 := by simpa using this
   subst hb; exact .inr ⟨c, e⟩
  ·cases this
section
variable {P : Program} {ops : Array Oper}
def Ii (P : Program) (ops : Array Oper) (bar : Oper -> Bool) : List Nat -> St -> (St -> Prop) -> Prop
 | [], σ, Q => Q σ
 | i :: rem, σ, Q => ∃ o σ', ops[i]? = some o /\ Qg P ops bar o σ σ' /\ Ii P ops bar rem σ' Q
theorem Po {o : Oper} {σ σ' : St} {d : Nat} (hs : YT P ops o σ σ') (hd : o.dst ≠ some d) (h : Yc σ d = true) : Yc σ' d = true := by
 cases hdo : o.dst with
 | some d' =>
  have wC : d ≠ d' := fun e => hd (by rw [hdo, e])
  obtain ⟨e, rfl, _⟩ := yu hdo hs
  cases e with
  | put v => unfold Yc at *; simp only [Eff.ap, yX, if_neg wC]; exact h
  | new v os => unfold Yc at *; simp only [Eff.ap, Jj, if_neg wC]; exact h
  | drop a j v os =>
   have := Qs (a := a) (j := j) (o := .none) h
   unfold Yc at *; simp only [Eff.ap, Jj, if_neg wC]; exact this
 | none =>
  unfold YT at hs
  split at hs
  ·simp only [hdo] at hs
   split at hs
   ·unfold KR at hs
    obtain ⟨_, _, _, _, hs⟩ := hs
    split at hs
    ·obtain ⟨_, _, _, _, rfl⟩ := hs; exact Qs h
    ·obtain ⟨_, _, _, _, _, _, _, _, _, _, _, rfl⟩ := hs; exact Qs h
    ·exact hs.elim
   ·exact hs.elim
  ·obtain ⟨_, _, _, _, _, _, wQ, _⟩ := hs
   rw [hdo] at wQ; cases wQ
theorem He {PT : List (Nat × Nat)} {i : Nat} {o : Oper} {σ σ' : St} (pI : TG ops PT = true) (hi : ops[i]? = some o) (hs : YT P ops o σ σ') (h : UH PT σ) : UH PT σ' := by
 have hc := List.all_eq_true.1 pI o (by rw [Array.mem_toList_iff]; exact Array.mem_of_getElem? hi)
 cases hdo : o.dst with
 | none =>
  have : ∃ t j ob, σ' = σ.Zh t j ob := by
   unfold YT at hs
   split at hs
   ·simp only [hdo] at hs
    split at hs
    ·unfold KR at hs
     obtain ⟨_, _, _, _, hs⟩ := hs
     split at hs
     ·obtain ⟨_, _, _, _, rfl⟩ := hs; exact ⟨_, _, _, rfl⟩
     ·obtain ⟨_, _, _, _, _, _, _, _, _, _, _, rfl⟩ := hs; exact ⟨_, _, _, rfl⟩
     ·exact hs.elim
    ·exact hs.elim
   ·obtain ⟨_, _, _, _, _, _, wQ, _⟩ := hs
    rw [hdo] at wQ; cases wQ
  obtain ⟨t, j, ob, rfl⟩ := this
  intro p hp
  rw [St.XT]; exact h p hp
 | some d =>
  intro p hp
  rw [hdo] at hc
  have hc := List.all_eq_true.1 hc p hp
  by_cases sb : p.1 = d
  ·simp only [sb, bne_self_eq_false, Bool.false_or, Bool.and_eq_true, Option.isNone_iff_eq_none] at hc
   obtain ⟨hg, hc⟩ := hc
   split at hc
   ·rename_i T r f wA
    have hr := h (r, p.2) (by simpa using hc)
    unfold YT at hs
    simp only [hg, hdo] at hs
    unfold Step at hs
    rw [wA] at hs
    obtain ⟨v, hv, rfl⟩ := hs
    simp only [Z1] at hv
    have hv := hv.2.2
    rw [KK] at hv
    rcases hr with e | ⟨c, e⟩
    ·rw [e] at hv; exact hv.elim
    ·rw [e] at hv
     rw [St.Qp, sb]
     by_cases hl : d < σ.length
     ·rw [if_pos ⟨rfl, hl⟩]; exact .inr ⟨_, by rw [hv.2]; rfl⟩
     ·rw [if_neg (fun hh => hl hh.2)]; have := h p hp; rw [sb] at this; exact this
   ·rename_i r wA
    have hr := h (r, p.2) (by simpa using hc)
    unfold YT at hs
    simp only [hg, hdo] at hs
    unfold Step at hs
    rw [wA] at hs
    obtain ⟨v, hv, rfl⟩ := hs
    simp only [Z1] at hv
    rw [KK] at hv
    rw [St.Qp, sb]
    by_cases hl : d < σ.length
    ·rw [if_pos ⟨rfl, hl⟩, hv]; exact hr
    ·rw [if_neg (fun hh => hl hh.2)]; have := h p hp; rw [sb] at this; exact this
   ·cases hc
  ·obtain ⟨e, rfl, _⟩ := yu hdo hs
   have hg : ∀ σ0 : St, σ0.get p.1 = σ.get p.1 -> (σ0.get p.1 = .any \/ ∃ c, unc (σ0.get p.1) = .one (.bptr p.2 c)) := fun σ0 e => by rw [e]; exact h p hp
   cases e with
   | put v => exact hg _ (by simp only [Eff.ap]; rw [St.Qp, if_neg (fun hh => sb hh.1)])
   | new v os => exact hg _ (by simp only [Eff.ap]; rw [St.xp, if_neg (fun hh => sb hh.1)])
   | drop a j v os => exact hg _ (by simp only [Eff.ap]; rw [St.xp, if_neg (fun hh => sb hh.1), St.XT])
theorem R9 {σ : St} : On [] [] σ := ⟨fun _ hp => absurd hp List.not_mem_nil, fun _ hp => absurd hp List.not_mem_nil⟩
theorem G3 {NB : List Nat} {σ : St} {d : Nat} {v : V} (h : Pf NB σ) (hd : d ∈ NB -> ∀ b c, unc v ≠ .one (.bptr b c)) : Pf NB (σ.put d v) := by
 intro t ht b c
 rw [St.Qp]
 split
 ·rename_i hc; exact hd (hc.1 ▸ ht) b c
 ·exact h t ht b c
theorem FB {NB : List Nat} {σ : St} {d : Nat} {v : V} {os : List Ob} (h : Pf NB σ) (hd : d ∉ NB) : Pf NB (σ.new d v os) := by
 intro t ht b c
 have wC : ¬ (t = d /\ d < σ.length) := fun hc => hd (by rw [<- hc.1]; exact ht)
 rw [St.xp, if_neg wC]
 exact h t ht b c
theorem Fq {NB : List Nat} {i : Nat} {o : Oper} {σ σ' : St} (v9 : Pq P ops NB = true) (hi : ops[i]? = some o) (hs : YT P ops o σ σ') (h : Pf NB σ) : Pf NB σ' := by
 have hc := List.all_eq_true.1 v9 o (by rw [Array.mem_toList_iff]; exact Array.mem_of_getElem? hi)
 cases hdo : o.dst with
 | none =>
  have : ∃ t j ob, σ' = σ.Zh t j ob := by
   unfold YT at hs
   split at hs
   ·simp only [hdo] at hs
    split at hs
    ·unfold KR at hs
     obtain ⟨_, _, _, _, hs⟩ := hs
     split at hs
     ·obtain ⟨_, _, _, _, rfl⟩ := hs; exact ⟨_, _, _, rfl⟩
     ·obtain ⟨_, _, _, _, _, _, _, _, _, _, _, rfl⟩ := hs; exact ⟨_, _, _, rfl⟩
     ·exact hs.elim
    ·exact hs.elim
   ·obtain ⟨_, _, _, _, _, _, wQ, _⟩ := hs
    rw [hdo] at wQ; cases wQ
  obtain ⟨t, j, ob, rfl⟩ := this
  intro p hp
  rw [St.XT]; exact h p hp
 | some d =>
  rw [hdo] at hc
  by_cases hd : d ∈ NB
  ·have hc := List.all_eq_true.1 hc d hd
   simp only [bne_self_eq_false, Bool.false_or, Bool.and_eq_true, Option.isNone_iff_eq_none] at hc
   obtain ⟨hg, hc⟩ := hc
   split at hc
   ·rename_i T r ix wA
    unfold YT at hs
    simp only [hg, hdo] at hs
    unfold Step at hs
    rw [wA] at hs
    obtain ⟨v, hv, rfl⟩ := hs
    refine G3 h (fun _ b c => ?_)
    simp only [Z1] at hv
    obtain ⟨_, _, _, _, _, hv⟩ := hv
    split at hv
    ·obtain ⟨_, _, _, _, rfl⟩ := hv; intro e; cases e
    ·obtain ⟨_, _, _, _, rfl⟩ := hv; intro e; cases e
    ·obtain ⟨_, ⟨n, ha, _⟩, _⟩ := hv
     unfold Ya at hc
     unfold P9 at ha
     split at hc
     ·rename_i e he; rw [he] at ha; cases ha
     ·cases hc
    ·obtain ⟨_, _, _, rfl⟩ := hv; intro e; cases e
    ·exact hv.elim
   ·cases hc
  ·obtain ⟨e, rfl, _⟩ := yu hdo hs
   cases e with
   | put v => exact G3 h (fun hh => absurd hh hd)
   | new v os => exact FB h hd
   | drop a j v os =>
    refine FB (σ := σ.Zh a j .none) (fun t ht b c => ?_) hd
    rw [St.XT]; exact h t ht b c
theorem E0 {NB : List Nat} {σ : St} (h : nbB NB σ = true) : Pf NB σ := by
 intro t ht b c e
 have := List.all_eq_true.1 h t ht
 rw [e] at this; cases this
def MJ (ops : Array Oper) (pos : Nat -> Nat) (rem : List Nat) (σ : St) : Prop :=
 ∀ j ∈ rem, VX ops pos j = true -> Hc ops j = true /\ ∃ o d, ops[j]? = some o /\ o.dst = some d /\ Yc σ d = true
theorem Ff {j k : Nat} {oj ok : Oper} {d : Nat} (h : Hc ops j = true) (hj : ops[j]? = some oj) (hd : oj.dst = some d) (hk : ops[k]? = some ok) (wC : k ≠ j) : ok.dst ≠ some d := by
 unfold Hc at h
 simp only [hj, hd] at h
 have wN : k < ops.size := (Array.getElem?_eq_some_iff.1 hk).1
 have := List.all_eq_true.1 h k (List.mem_range.2 wN)
 simp only [hk, Bool.or_eq_true, beq_iff_eq, bne_iff_ne, ne_eq] at this
 exact this.resolve_left wC
theorem L4 {bar : Oper -> Bool} {o : Oper} {σ σ' : St} {d : Nat} (hs : Qg P ops bar o σ σ') (hd : o.dst ≠ some d) (h : Yc σ d = true) : Yc σ' d = true := by
 rcases hs with hs | hs
 ·exact Po hs hd h
 ·exact hs.2.2.1 d hd h
theorem RI {pos : Nat -> Nat} {bar : Oper -> Bool} {rem oK : List Nat} {i : Nat} {o : Oper} {σ σ' : St} (hi : ops[i]? = some o) (hs : Qg P ops bar o σ σ') (mQ : i ∉ oK) (wh : ∀ j ∈ oK, j ∈ rem) (h : MJ ops pos rem σ) : MJ ops pos oK σ' := by
 intro j hj hl
 obtain ⟨pc, oj, d, h1, h2, h3⟩ := h j (wh j hj) hl
 exact ⟨pc, oj, d, h1, h2, L4 hs (Ff pc h1 h2 hi (fun e => mQ (e ▸ hj))) h3⟩
theorem pull {pos : Nat -> Nat} {bar : Oper -> Bool} {PT : List (Nat × Nat)} {NB : List Nat} (uG : ∀ (i : Nat) (o : Oper) (σ σ' : St), ops[i]? = some o -> Qg P ops bar o σ σ' -> On PT NB σ -> On PT NB σ') {i : Nat} {post : List Nat} {Q : St -> Prop} {oi : Oper} (hi : ops[i]? = some oi) : ∀ {pre : List Nat} {σ : St}, (pre ++ i :: post).Nodup -> (∀ j ∈ pre, VX ops pos j = true /\ ∃ oj, ops[j]? = some oj /\ (LH ops bar oj oi = true \/ LP bar oj oi = true \/ swapT PT bar oj oi = true \/ Lq bar oj oi = true \/ LU PT ops bar oj oi = true \/ LC PT NB bar oj oi = true \/ Lg P PT ops bar oj oi = true)) -> MJ ops pos (pre ++ i :: post) σ -> On PT NB σ ->
  Ii P ops bar (pre ++ i :: post) σ Q -> ∃ σ', Qg P ops bar oi σ σ' /\ Ii P ops bar (pre ++ post) σ' Q
 | [], σ, _, _, _, _, h => by
  obtain ⟨o, σ', ho, hs, hr⟩ := h
  rw [hi] at ho; cases ho
  exact ⟨σ', hs, hr⟩
 | j :: pre, σ, w9, mU, wk, uM, h => by
  obtain ⟨oj, σ1, hj, w5, hr⟩ := h
  have mE := List.nodup_cons.1 w9
  obtain ⟨σ2, wO, ss⟩ := pull uG hi (pre := pre) mE.2 (fun k hk => mU k (by simp [hk])) (RI (rem := (j :: pre) ++ i :: post) hj w5 mE.1 (fun k hk => by simp only [List.cons_append, List.mem_cons]; exact .inr hk) wk) (uG j oj σ σ1 hj w5 uM) hr
  obtain ⟨hl, fS, uY, sH⟩ := mU j (by simp)
  rw [hj] at uY; cases uY
  rcases sH with sH | sH | sH | sH | sH | sH | sH
  rotate_left
  ·obtain ⟨σ1', hy, hx⟩ := Fj sH w5 wO
   exact ⟨σ1', .inl hy, oj, σ2, hj, .inl hx, ss⟩
  ·obtain ⟨σ1', hy, hx⟩ := Eb sH uM.1 w5 wO
   exact ⟨σ1', .inl hy, oj, σ2, hj, .inl hx, ss⟩
  ·obtain ⟨_, o', d', wX, wQ, wu⟩ := wk j (by simp) hl
   rw [hj] at wX; cases wX
   obtain ⟨σ1', hy, hx⟩ := Es sH wQ wu w5 wO
   exact ⟨σ1', hy, oj, σ2, hj, .inl hx, ss⟩
  ·obtain ⟨_, o', d', wX, wQ, wu⟩ := wk j (by simp) hl
   rw [hj] at wX; cases wX
   obtain ⟨σ1', hy, hx⟩ := El sH uM.1 wQ wu w5 wO
   exact ⟨σ1', hy, oj, σ2, hj, hx, ss⟩
  ·obtain ⟨_, o', d', wX, wQ, wu⟩ := wk j (by simp) hl
   rw [hj] at wX; cases wX
   obtain ⟨σ1', hy, hx⟩ := Ep sH uM.1 uM.2 wQ wu w5 wO
   exact ⟨σ1', hy, oj, σ2, hj, .inl hx, ss⟩
  ·obtain ⟨_, o', d', wX, wQ, wu⟩ := wk j (by simp) hl
   rw [hj] at wX; cases wX
   obtain ⟨σ1', hy, hx⟩ := Em sH uM.1 (uG j oj σ σ1 hj w5 uM).1 wQ wu w5 wO
   exact ⟨σ1', hy, oj, σ2, hj, hx, ss⟩
  obtain ⟨vM, wo, dx, dy, h1, h2, h3, h4, h5, h6, h7⟩ := Ip sH
  have w5 := w5.resolve_right (fun hh => by rw [vM] at hh; cases hh.1)
  have wO := wO.resolve_right (fun hh => by rw [wo] at hh; cases hh.1)
  obtain ⟨_, o', d', wX, wQ, wu⟩ := wk j (by simp) hl
  rw [hj] at wX; cases wX
  rw [h1] at wQ; cases wQ
  obtain ⟨σ1', hy, hx⟩ := swap h1 h2 h3 h4 h5 h6 h7 wu w5 wO
  exact ⟨σ1', .inl hy, oj, σ2, hj, .inl hx, ss⟩
end
end Go.Vm
namespace Go.Vm
open Go.RowKit
section
variable {P : Program} {ops : Array Oper} {T0 : CS} {B : Nat -> Prop}
theorem TB {wm : Array Bool} {j : Nat} (h1 : wm.getD j true = false) (h2 : wm.getD j false = true) : False := by
 rw [Array.getD_eq_getD_getElem?] at h1 h2
 cases h : wm[j]? with
 | none => rw [h] at h1; simp at h1
 | some b => rw [h] at h1 h2; simp at h1 h2; rw [h1] at h2; cases h2
theorem Nj {pos : Nat -> Nat} {bar : Oper -> Bool} {PT : List (Nat × Nat)} {NB : List Nat} (uG : ∀ (i : Nat) (o : Oper) (σ σ' : St), ops[i]? = some o -> Qg P ops bar o σ σ' -> On PT NB σ -> On PT NB σ') (hdr : M9 P ops pos bar PT NB (UK ops.toList []) = true) {Qa : St -> Prop} {Q : Exit -> Act -> World -> Prop} {w0 : World} (hK : ∀ σ a w, Qa σ -> QK T0 B σ a w -> Y0 B w0 w -> Q .normal a w) :
  ∀ (fuel : Nat) (rem : List Nat) (wm : Array Bool) (σ : St) (a : Act) (w : World), rem.length = fuel -> wm.size = ops.size -> rem.Pairwise (fun i j => pos i < pos j) -> (∀ i, i ∈ rem ↔ wm.getD i true = false) -> (∀ i ∈ rem, i < ops.size) -> (∀ m om, ops[m]? = some om -> m ∉ rem -> ∀ j, TR om j = true -> j ∉ rem) ->
   MJ ops pos rem σ -> On PT NB σ -> Ii P ops bar rem σ Qa -> QK T0 B σ a w -> Y0 B w0 w -> wpAny P .any ops Q fuel wm a w := by
 have w8 := List.all_eq_true.1 hdr
 have first : ∀ (rem : List Nat) (wm : Array Bool), wm.size = ops.size -> rem.Pairwise (fun i j => pos i < pos j) -> (∀ i, i ∈ rem ↔ wm.getD i true = false) -> (∀ i ∈ rem, i < ops.size) -> Region.ready .any ops wm = [] -> rem = [] := by
  intro rem wm vK oN vH wN nn
  cases rem with
  | nil => rfl
  | cons i rem =>
   exfalso
   have hi := wN i (by simp)
   have hb := w8 i (List.mem_range.2 hi)
   simp only [Bool.and_eq_true] at hb
   have tD := hb.1.1
   unfold ER at tD
   rw [Array.getElem?_eq_getElem hi] at tD
   simp only [Array.all_eq_true_iff_forall_mem, decide_eq_true_eq, Bool.and_eq_true, Bool.or_eq_true, Bool.not_eq_true'] at tD
   have : i ∈ Region.ready .any ops wm := by
    refine mem_ready.2 ⟨(vH i).1 (by simp), ops[i], Array.getElem?_eq_getElem hi, fun e he lb => ?_⟩
    have rj := (tD e he).resolve_left (by rw [lb]; simp)
    have rD := rj.1
    have lO := rj.2
    have u5 : e.on ∉ i :: rem := by
     intro hm
     rcases List.mem_cons.1 hm with h | h
     ·rw [h] at rD; omega
     ·have := (List.pairwise_cons.1 oN).1 _ h; omega
    have wC : wm.getD e.on true ≠ false := fun h => u5 ((vH _).2 h)
    have pT : e.on < wm.size := by rw [vK]; omega
    rw [Array.getD_eq_getD_getElem?, Array.getElem?_eq_getElem pT] at wC ⊢
    simpa using wC
   rw [nn] at this; cases this
 intro fuel
 induction fuel with
 | zero =>
  intro rem wm σ a w hl vK oN vH wN lf wk uM wV vY hb
  have ux : rem = [] := List.eq_nil_of_length_eq_zero hl
  subst ux
  refine ⟨?_, hK σ a w wV vY hb⟩
  cases nn : Region.ready .any ops wm with
  | nil => rfl
  | cons i l =>
   have hi : i ∈ Region.ready .any ops wm := by rw [nn]; simp
   have := (vH i).2 (mem_ready.1 hi).1
   cases this
 | succ fuel ih =>
  intro rem wm σ a w hl vK oN vH wN lf wk uM wV vY hb
  refine ⟨fun nn => ?_, fun i hi => ?_⟩
  ·have := first rem wm vK oN vH wN nn
   subst this; simp at hl
  ·obtain ⟨h0, oi, oQ, rh⟩ := mem_ready.1 hi
   obtain ⟨pre, post, rfl⟩ := List.append_of_mem ((vH i).2 h0)
   have w9 : (pre ++ i :: post).Nodup := oN.imp (fun h e => by rw [e] at h; omega)
   have tE : ∀ j ∈ pre, pos j < pos i := fun j hj => (List.pairwise_append.1 oN).2.2 j hj i (by simp)
   have uz : i < ops.size := wN i (by simp)
   have ic : ∀ e ∈ oi.after, Region.binds .any e = true -> e.on ∉ pre ++ i :: post := by
    intro e he lb hm
    exact TB ((vH e.on).1 hm) (rh e he lb)
   have mF : ∀ j, j ∈ pre ++ i :: post -> TR oi j = false := by
    intro j hj
    cases hp : TR oi j with
    | false => rfl
    | true =>
     unfold TR at hp
     rw [<- Array.any_toList] at hp
     obtain ⟨e, he, wo⟩ := List.any_eq_true.1 hp
     rw [Array.mem_toList_iff] at he
     simp only [Bool.and_eq_true, beq_iff_eq] at wo
     exact (TB ((vH j).1 hj) (by rw [<- wo.1]; exact rh e he wo.2)).elim
   have sb : ∀ m j, Pre ops m j -> (∀ om, ops[m]? = some om -> ∀ k, TR om k = true -> k ∉ pre ++ i :: post) -> j ∉ pre ++ i :: post := by
    intro m j hp
    induction hp with
    | one ho hp => intro h; exact h _ ho _ hp
    | more ho hp _ ih =>
     intro h
     exact ih (fun om s6 k hk => lf _ om s6 (h _ ho _ hp) k hk)
   have v8 : ∀ j ∈ pre, Lv ops i j = false := by
    intro j hj
    have g9 : j ∈ pre ++ i :: post := by simp [hj]
    cases hq : Lv ops i j with
    | false => rfl
    | true =>
     refine absurd g9 (sb i j (Hv hq) (fun om s6 k hk gn => ?_))
     rw [oQ] at s6; cases s6
     have := mF k gn
     rw [hk] at this; cases this
   have mU : ∀ j ∈ pre, VX ops pos j = true /\ ∃ oj, ops[j]? = some oj /\ (LH ops bar oj oi = true \/ LP bar oj oi = true \/ swapT PT bar oj oi = true \/ Lq bar oj oi = true \/ LU PT ops bar oj oi = true \/ LC PT NB bar oj oi = true \/ Lg P PT ops bar oj oi = true) := by
    intro j hj
    have ig := tE j hj
    have oV : j < ops.size := wN j (by simp [hj])
    refine ⟨?_, ops[j], Array.getElem?_eq_getElem oV, ?_⟩
    ·unfold VX MI
     refine List.any_eq_true.2 ⟨i, List.mem_range.2 uz, ?_⟩
     have := v8 j hj
     unfold Lv at this
     simp only [this, Bool.not_false, Bool.and_true, decide_eq_true_eq]; exact ig
    ·have := w8 i (List.mem_range.2 uz)
     simp only [Bool.and_eq_true] at this
     have hp := List.all_eq_true.1 this.1.2 j (List.mem_range.2 oV)
     simp only [ig, decide_true, Bool.not_true, Bool.false_or] at hp
     unfold EE at hp
     rw [oQ, Array.getElem?_eq_getElem oV] at hp
     have := v8 j hj
     unfold Lv at this
     simpa [this, or_assoc] using hp
   obtain ⟨σ', hs, hr⟩ := pull uG oQ w9 mU wk uM wV
   have mQ : i ∉ pre ++ post := by
    have := List.nodup_append.1 w9
    intro hm
    rcases List.mem_append.1 hm with h | h
    ·exact Nat.lt_irrefl _ (tE i h)
    ·exact (List.nodup_cons.1 this.2.1).1 h
   have sW : ∀ j ∈ pre ++ post, j ∈ pre ++ i :: post := by
    intro j hj
    rcases List.mem_append.1 hj with h | h
    ·simp [h]
    ·simp [h]
   have key : ∀ a' w', QK T0 B σ' a' w' -> Y0 B w w' -> wpAny P .any ops Q fuel (wm.setIfInBounds i true) a' w' := by
    intro a' w' np wW
    refine ih (pre ++ post) _ σ' a' w' (by simp at hl ⊢; omega) (by simp [vK]) ?_ (fun j => ?_) (fun j hj => wN j (sW j hj)) ?_ (RI oQ hs mQ sW wk) (uG i oi σ σ' oQ hs uM) hr np (hb.trans wW)
    ·exact oN.sublist (List.Sublist.append (List.Sublist.refl pre) (List.sublist_cons_self i post))
    ·by_cases s5 : i = j
     ·subst s5
      constructor
      ·intro hm; exact absurd hm mQ
      ·intro hm
       rw [Array.getD_eq_getD_getElem?] at hm
       simp [vK, uz] at hm
     ·rw [getD_set_ne true s5, <- vH j]
      simp only [List.mem_append, List.mem_cons]
      constructor
      ·rintro (h | h)
       ·exact .inl h
       ·exact .inr (.inr h)
      ·rintro (h | h | h)
       ·exact .inl h
       ·exact absurd h.symm s5
       ·exact .inr h
    ·intro m om s6 hm j iX hj
     by_cases hmi : m = i
     ·subst hmi
      rw [oQ] at s6; cases s6
      have := mF j (sW j hj)
      rw [iX] at this; cases this
     ·have fA : m ∉ pre ++ i :: post := by
       intro h
       rcases List.mem_append.1 h with h | h
       ·exact hm (by simp [h])
       ·rcases List.mem_cons.1 h with h | h
        ·exact hmi h
        ·exact hm (by simp [h])
      exact lf m om s6 fA j iX (sW j hj)
   have wa := Vn hs T0 B a w (wpAny P .any ops Q fuel (wm.setIfInBounds i true)) Q vY key
   unfold wpOp
   simp only [oQ]
   split
   ·rename_i hw; rw [if_pos hw] at wa; exact .inl wa
   ·rename_i hw; rw [if_neg hw] at wa; exact wa
theorem Nb {σ : St} {a : Act} {w : World} (h : QK T0 B σ a w) : QK T0 B σ a { w with drawn := w.drawn + 1 } := by
 obtain ⟨X, hh, r⟩ := h
 exact ⟨X, hh, r.grow (w' := { w with drawn := w.drawn + 1 }) ⟨rfl, rfl, rfl, Nat.le_refl _, fun _ _ _ => rfl⟩ (fun _ hb => hb) (fun _ hb => .inl hb)⟩
theorem Hg {bar : Oper -> Bool} {Q : St -> Prop} : ∀ {n k : Nat} {σ : St}, k + n = ops.size -> N0 P ops bar (ops.toList.drop k) σ Q -> Ii P ops bar (List.range' k n) σ Q
 | 0, k, σ, hk, h => by
  rw [List.drop_eq_nil_of_le (by simp; omega)] at h
  exact h
 | n + 1, k, σ, hk, h => by
  have wN : k < ops.toList.length := by simp; omega
  rw [List.drop_eq_getElem_cons wN] at h
  obtain ⟨σ', hs, hr⟩ := h
  rw [List.range'_succ]
  exact ⟨ops.toList[k], σ', by rw [<- Array.getElem?_toList]; exact List.getElem?_eq_getElem wN, hs, Hg (by omega) hr⟩
theorem T2 {bar : Oper -> Bool} {PT : List (Nat × Nat)} {NB : List Nat} {id : Nat} {Q : Exit -> St -> Prop} {σ : St} (uG : ∀ (i : Nat) (o : Oper) (σ σ' : St), ops[i]? = some o -> Qg P ops bar o σ σ' -> On PT NB σ -> On PT NB σ') (uM : On PT NB σ) (hm : P.follows .mixedOrders = true) (hdr : M9 P ops (fun i => i) bar PT NB (UK ops.toList []) = true) (wk : KX ops (fun i => i) σ = true) (h : N0 P ops bar ops.toList σ (Q .normal)) : AWP P (.region id ops true) Q σ := by
 intro T0 B a w vY
 refine wp_region_any hm ?_
 have w8 := List.all_eq_true.1 hdr
 refine Nj (T0 := T0) (B := B) (w0 := w) uG hdr (Qa := Q .normal) (fun σ' a' w' hq hr hb => ⟨σ', hq, hr, hb⟩) ops.size (List.range' 0 ops.size) _ σ a _ (by simp) (by simp) ?_ (fun i => ?_) (fun i hi => by simp [List.mem_range'] at hi; omega) (fun m om s6 hm => absurd (by simp only [List.mem_range'_1]; have := (Array.getElem?_eq_some_iff.1 s6).1; omega) hm) ?_ uM (Hg (by omega) (by simpa using h)) (Nb vY) ⟨rfl, rfl, rfl, Nat.le_refl _, fun _ _ => rfl⟩
 ·exact List.pairwise_lt_range'
 ·rw [Array.getD_eq_getD_getElem?, Array.getElem?_replicate]
  simp only [List.mem_range'_1]
  constructor
  ·intro hh; rw [if_pos (by omega)]; rfl
  ·intro hh
   split at hh
   ·omega
   ·cases hh
 ·intro j hj hl
  simp only [List.mem_range'_1] at hj
  have hb := w8 j (List.mem_range.2 (by omega))
  simp only [Bool.and_eq_true, Bool.or_eq_true, Bool.not_eq_true'] at hb
  refine ⟨hb.2.resolve_left (by unfold VX at hl; rw [hl]; simp), ?_⟩
  have hc := List.all_eq_true.1 wk j (List.mem_range.2 (by omega))
  unfold VX at hl
  simp only [hl, Bool.not_true, Bool.false_or] at hc
  have wN : j < ops.size := by omega
  rw [Array.getElem?_eq_getElem wN] at hc
  simp only [Option.bind_some] at hc
  cases hd : ops[j].dst with
  | none => rw [hd] at hc; cases hc
  | some d => rw [hd] at hc; exact ⟨_, d, Array.getElem?_eq_getElem wN, hd, hc⟩
theorem L9 {bar : Oper -> Bool} {id : Nat} {Q : Exit -> St -> Prop} {σ : St} (hm : P.follows .mixedOrders = true) (hdr : Sx P ops (fun i => i) bar = true) (wk : KX ops (fun i => i) σ = true) (h : N0 P ops bar ops.toList σ (Q .normal)) : AWP P (.region id ops true) Q σ :=
 T2 (PT := []) (NB := []) (fun _ _ _ _ _ _ _ => R9) R9 hm hdr wk h
theorem qR {id : Nat} {σ : St} {l : List Oper} {br : Oper -> Bool} {k : Fr} (PT : List (Nat × Nat)) (hm : P.follows .mixedOrders = true) (hdr : M9 P ⟨l⟩ (fun i => i) (fun _ => false) PT [] (UK l []) = true) (wk : KX ⟨l⟩ (fun i => i) σ = true) (pI : TG ⟨l⟩ PT = true) (hp : ptB PT σ = true) (h : @EI P σ ⟨⟨l⟩, fun _ => false⟩ ⟨l⟩ k) : @DI P id σ ⟨⟨l⟩, br⟩ k :=
 T2 (bar := fun _ => false) (PT := PT) (NB := []) (fun _ _ _ _ hi hs hq => ⟨He pI hi (hs.resolve_right (fun hh => by cases hh.1)) hq.1, fun p hp => by cases hp⟩) ⟨Gg hp, fun p hp => by cases hp⟩ hm hdr wk (Xy h)
theorem ED {id : Nat} {σ : St} {l : List Oper} {br : Oper -> Bool} {k : Fr} (hm : P.follows .mixedOrders = true) (hdr : Sx P ⟨l⟩ (fun i => i) (fun _ => false) = true) (wk : KX ⟨l⟩ (fun i => i) σ = true) (h : @EI P σ ⟨⟨l⟩, fun _ => false⟩ ⟨l⟩ k) : @DI P id σ ⟨⟨l⟩, br⟩ k :=
 L9 hm hdr wk (Xy h)
def TI (bs : List Nat) (o : Oper) : Bool := match o.dst with | some d => bs.contains d | none => !bs.contains 3000001
theorem Eg {ops : Array Oper} {PT : List (Nat × Nat)} {bar : Oper -> Bool} {i : Nat} {o : Oper} {σ σ' : St} (pI : TG ops PT = true) (pb : (ops.toList.all fun o => !bar o || kA o || xF o || (Qw P o && UP bar o)) = true) (hi : ops[i]? = some o) (hs : Qg P ops bar o σ σ') (h : UH PT σ) : UH PT σ' := by
 rcases hs with hs | ⟨hb, _, _, ln, s3, lp⟩
 ·exact He pI hi hs h
 ·have vH : o ∈ ops.toList := by rw [Array.mem_toList_iff]; exact Array.mem_of_getElem? hi
  have h1 := List.all_eq_true.1 pb o vH
  simp only [hb, Bool.not_true, Bool.false_or, Bool.or_eq_true, Bool.and_eq_true] at h1
  rcases h1 with (h1 | h1) | ⟨h1, h1o⟩
  ·obtain ⟨⟨_, hg⟩, _⟩ := ln h1
   intro p hp
   rw [hg]; exact h p hp
  ·obtain ⟨d, hd, _, hg, _⟩ := s3 h1
   intro p hp
   have wC : p.1 ≠ d := by
    intro e
    have hc := List.all_eq_true.1 pI o vH
    rw [hd] at hc
    have hc := List.all_eq_true.1 hc p hp
    simp only [e, bne_self_eq_false, Bool.false_or, Bool.and_eq_true] at hc
    have hc := hc.2
    unfold xF at h1
    cases wA : o.op <;> rw [wA] at h1 hc <;> first | (exact Bool.noConfusion h1) | (exact Bool.noConfusion hc)
   rw [(hg p.1 wC).1]; exact h p hp
  ·obtain ⟨d, t, cells, cs, v, os, hd, _, _, _, _, _, rfl, _⟩ := lp h1 h1o
   intro p hp
   have wC : p.1 ≠ d := by
    intro e
    have hc := List.all_eq_true.1 pI o vH
    rw [hd] at hc
    have hc := List.all_eq_true.1 hc p hp
    simp only [e, bne_self_eq_false, Bool.false_or, Bool.and_eq_true] at hc
    have hc := hc.2
    unfold Qw at h1
    cases wA : o.op <;> rw [wA] at h1 hc <;> first | (exact Bool.noConfusion h1) | (exact Bool.noConfusion hc)
   rw [N7 wC]; exact h p hp
theorem Ey {ops : Array Oper} {NB : List Nat} {bar : Oper -> Bool} {i : Nat} {o : Oper} {σ σ' : St} (v9 : Pq P ops NB = true) (pb : (ops.toList.all fun o => !bar o || kA o || xF o || (Qw P o && UP bar o)) = true) (hi : ops[i]? = some o) (hs : Qg P ops bar o σ σ') (h : Pf NB σ) : Pf NB σ' := by
 rcases hs with hs | ⟨hb, _, _, ln, s3, lp⟩
 ·exact Fq v9 hi hs h
 ·have vH : o ∈ ops.toList := by rw [Array.mem_toList_iff]; exact Array.mem_of_getElem? hi
  have h1 := List.all_eq_true.1 pb o vH
  simp only [hb, Bool.not_true, Bool.false_or, Bool.or_eq_true, Bool.and_eq_true] at h1
  rcases h1 with (h1 | h1) | ⟨h1, h1o⟩
  ·obtain ⟨⟨_, hg⟩, _⟩ := ln h1
   intro p hp
   rw [hg]; exact h p hp
  ·obtain ⟨d, hd, _, hg, _⟩ := s3 h1
   intro p hp
   have wC : p ≠ d := by
    intro e
    have hc := List.all_eq_true.1 v9 o vH
    rw [hd] at hc
    have hc := List.all_eq_true.1 hc p hp
    simp only [e, bne_self_eq_false, Bool.false_or, Bool.and_eq_true] at hc
    have hc := hc.2
    unfold xF at h1
    cases wA : o.op <;> rw [wA] at h1 hc <;> first | (exact Bool.noConfusion h1) | (exact Bool.noConfusion hc)
   rw [(hg p wC).1]; exact h p hp
  ·obtain ⟨d, t, cells, cs, v, os, hd, _, _, _, _, _, rfl, _⟩ := lp h1 h1o
   intro p hp
   have wC : p ≠ d := by
    intro e
    have hc := List.all_eq_true.1 v9 o vH
    rw [hd] at hc
    have hc := List.all_eq_true.1 hc p hp
    simp only [e, bne_self_eq_false, Bool.false_or, Bool.and_eq_true] at hc
    have hc := hc.2
    unfold Qw at h1
    cases wA : o.op <;> rw [wA] at h1 hc <;> first | (exact Bool.noConfusion h1) | (exact Bool.noConfusion hc)
   rw [N7 wC]; exact h p hp
theorem UX {id : Nat} {σ : St} {l : List Oper} {br : Oper -> Bool} {k : Fr} (PT : List (Nat × Nat)) (NB bs : List Nat) (hm : P.follows .mixedOrders = true) (hdr : M9 P ⟨l⟩ (fun i => i) (TI bs) PT NB (UK l []) = true) (wk : KX ⟨l⟩ (fun i => i) σ = true) (pI : TG ⟨l⟩ PT = true) (hp : ptB PT σ = true) (v9 : Pq P ⟨l⟩ NB = true) (lY : nbB NB σ = true) (pb : (l.all fun o => !TI bs o || kA o || xF o || (Qw P o && UP (TI bs) o)) = true) (h : @EI P σ ⟨⟨l⟩, TI bs⟩ ⟨l⟩ k) : @DI P id σ ⟨⟨l⟩, br⟩ k :=
 T2 (bar := TI bs) (PT := PT) (NB := NB) (fun _ _ _ _ hi hs hq => ⟨Eg pI pb hi hs hq.1, Ey v9 pb hi hs hq.2⟩) ⟨Gg hp, E0 lY⟩ hm hdr wk (Xy h)
theorem E7 {id : Nat} {σ : St} {l : List Oper} {br : Oper -> Bool} {k : Fr} (bs : List Nat) (hm : P.follows .mixedOrders = true) (hdr : Vm.Sx P ⟨l⟩ (fun i => i) (TI bs) = true) (wk : KX ⟨l⟩ (fun i => i) σ = true) (h : @EI P σ ⟨⟨l⟩, TI bs⟩ ⟨l⟩ k) : @DI P id σ ⟨⟨l⟩, br⟩ k :=
 L9 hm hdr wk (Xy h)
def pwB (pos : Nat -> Nat) : List Nat -> Bool
 | [] => true
 | i :: r => r.all (fun j => decide (pos i < pos j)) && pwB pos r
theorem G9 {pos : Nat -> Nat} : ∀ {l : List Nat}, pwB pos l = true -> l.Pairwise (fun i j => pos i < pos j)
 | [], _ => .nil
 | i :: r, h => by
  simp only [pwB, Bool.and_eq_true, List.all_eq_true, decide_eq_true_eq] at h
  exact .cons h.1 (G9 h.2)
def posOf : List Nat -> Nat -> Nat
 | [], _ => 0
 | i :: r, k => if i == k then 0 else posOf r k + 1
def Fc (n : Nat) (ord : List Nat) : Bool := ord.length == n && pwB (posOf ord) ord && ord.all (fun i => decide (i < n)) && (List.range n).all (fun i => ord.contains i)
@[reducible] def Eu : List Oper -> Nat -> Oper -> Oper
 | [], _, d => d
 | o :: _, 0, _ => o
 | _ :: l, i + 1, d => Eu l i d
@[reducible] def G0 (l : List Oper) (d : Oper) : List Nat -> List Oper
 | [] => []
 | i :: r => Eu l i d :: G0 l d r
theorem Lz {d : Oper} : ∀ {l : List Oper} {i : Nat}, i < l.length -> l[i]? = some (Eu l i d)
 | [], i, h => by simp at h
 | o :: l, 0, _ => rfl
 | o :: l, i + 1, h => by simpa using Lz (l := l) (i := i) (by simpa using h)
theorem NH {bar : Oper -> Bool} {Q : St -> Prop} {l : List Oper} {d : Oper} : ∀ {ord : List Nat} {σ : St}, (∀ i ∈ ord, i < l.length) -> N0 P l.toArray bar (G0 l d ord) σ Q -> Ii P l.toArray bar ord σ Q
 | [], σ, _, h => h
 | i :: r, σ, hi, h => by
  obtain ⟨σ', hs, hr⟩ := h
  exact ⟨_, σ', by rw [List.getElem?_toArray]; exact Lz (hi i (by simp)), hs, NH (fun j hj => hi j (by simp [hj])) hr⟩
theorem H7 {bar : Oper -> Bool} {id : Nat} {Q : Exit -> St -> Prop} {σ : St} {ord : List Nat} (hm : P.follows .mixedOrders = true) (ho : Fc ops.size ord = true) (hdr : Sx P ops (posOf ord) bar = true) (wk : KX ops (posOf ord) σ = true) (h : Ii P ops bar ord σ (Q .normal)) : AWP P (.region id ops true) Q σ := by
 intro T0 B a w vY
 refine wp_region_any hm ?_
 have w8 := List.all_eq_true.1 hdr
 simp only [Fc, Bool.and_eq_true, beq_iff_eq, List.all_eq_true, decide_eq_true_eq, List.mem_range, List.contains_iff_mem] at ho
 obtain ⟨⟨⟨o1, o2⟩, o3⟩, o4⟩ := ho
 refine Nj (T0 := T0) (B := B) (w0 := w) (PT := []) (NB := []) (fun _ _ _ _ _ _ _ => R9) hdr (Qa := Q .normal) (fun σ' a' w' hq hr hb => ⟨σ', hq, hr, hb⟩) ops.size ord _ σ a _ o1 (by simp) (G9 o2) (fun i => ?_) o3 (fun m om s6 hm => absurd (o4 m (Array.getElem?_eq_some_iff.1 s6).1) hm) ?_ R9 h (Nb vY) ⟨rfl, rfl, rfl, Nat.le_refl _, fun _ _ => rfl⟩
 ·rw [Array.getD_eq_getD_getElem?, Array.getElem?_replicate]
  constructor
  ·intro hh; rw [if_pos (o3 i hh)]; rfl
  ·intro hh
   split at hh
   ·rename_i wN; exact o4 i wN
   ·cases hh
 ·intro j hj hl
  have mV := o3 j hj
  have hb := w8 j (List.mem_range.2 mV)
  simp only [Bool.and_eq_true, Bool.or_eq_true, Bool.not_eq_true'] at hb
  refine ⟨hb.2.resolve_left (by unfold VX at hl; rw [hl]; simp), ?_⟩
  have hc := List.all_eq_true.1 wk j (List.mem_range.2 mV)
  unfold VX at hl
  simp only [hl, Bool.not_true, Bool.false_or] at hc
  rw [Array.getElem?_eq_getElem mV] at hc
  simp only [Option.bind_some] at hc
  cases hd : ops[j].dst with
  | none => rw [hd] at hc; cases hc
  | some d => rw [hd] at hc; exact ⟨_, d, Array.getElem?_eq_getElem mV, hd, hc⟩
theorem Nd {id : Nat} {σ : St} {o : Oper} {l : List Oper} {br : Oper -> Bool} {k : Fr} (ord : List Nat) (hm : P.follows .mixedOrders = true) (ho : Fc (o :: l).length ord = true) (hdr : Sx P ⟨o :: l⟩ (posOf ord) (fun _ => false) = true) (wk : KX ⟨o :: l⟩ (posOf ord) σ = true)
  (h : @EI P σ ⟨⟨o :: l⟩, fun _ => false⟩ ⟨G0 (o :: l) o ord⟩ k) : @DI P id σ ⟨⟨o :: l⟩, br⟩ k := by
 have h2 : ∀ i ∈ ord, i < (o :: l).length := by
  simp only [Fc, Bool.and_eq_true, List.all_eq_true, decide_eq_true_eq] at ho
  exact ho.1.2
 exact H7 hm ho hdr wk (NH h2 (Xy h))
end
end Go.Vm
