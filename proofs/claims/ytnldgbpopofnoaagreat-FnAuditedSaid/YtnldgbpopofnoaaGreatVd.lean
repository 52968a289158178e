/- An abstract machine OB the model of Go, by value, and that it is sound: part Vd. No condition. -/
import Derived.Test.YtnldgbpopofnoaaGreatVc
import Derived.Orders
set_option linter.unusedVariables false
set_option linter.unusedSimpArgs false
namespace Go.Vm
open Go.RowKit
structure Sub (P : Program) (xs : List Operand) (σ1 σ : St) : Prop where
 len : σ1.length = σ.length
 look : ∀ x ∈ xs, ∀ ty, look P σ1 ty x = look P σ ty x
 ob : ∀ x ∈ xs, ∀ ty u, (Vm.look P σ1 ty x).ref u = true -> ∀ j, σ1.ob u j ≠ .none -> σ.ob u j = σ1.ob u j
theorem XQ {v : V} {x : At} {u : Nat} (h : unc v = .one x) (hx : x.ref u = true) : v.ref u = true := by
 cases v with
 | cnd g y => simp only [unc] at h; subst h; simp only [V.ref, V.RB, Bool.or_eq_true]; exact .inl hx
 | one y => simp only [unc] at h; cases h; exact hx
 | any => simp [unc] at h
 | agg xs => simp [unc] at h
 | tup xs => simp [unc] at h
 | fix g y => simp only [unc] at h; subst h; simp only [V.ref, V.RB, Bool.or_eq_true]; exact .inl hx
theorem Th {v : V} {xs : List At} {u : Nat} (h : unc v = .agg xs) (hx : YG u xs = true) : v.ref u = true := by
 cases v with
 | cnd g y => simp only [unc] at h; subst h; simp only [V.ref, V.RB, Bool.or_eq_true]; exact .inl hx
 | agg y => simp only [unc] at h; cases h; exact hx
 | any => simp [unc] at h
 | one xs => simp [unc] at h
 | tup xs => simp [unc] at h
 | fix g y => simp only [unc] at h; subst h; simp only [V.ref, V.RB, Bool.or_eq_true]; exact .inl hx
theorem jA {v : V} {u : Nat} (hx : YG u (unc v).cells = true) : v.ref u = true := by
 cases h : unc v with
 | one x => rw [h] at hx; simp [V.cells, YG] at hx; exact XQ h hx
 | agg xs => rw [h] at hx; exact Th h hx
 | any => rw [h] at hx; simp [V.cells, YG] at hx
 | tup xs => rw [h] at hx; simp [V.cells, YG] at hx
 | cnd g x => rw [h] at hx; simp [V.cells, YG] at hx
 | fix u x => rw [h] at hx; simp [V.cells, YG] at hx
section
variable {P : Program} {σ1 σ : St}
theorem Sub.same {xs : List Operand} {x : Operand} {ty : TypeId} {a : At} {u j : Nat} {o : Ob} (h : Sub P xs σ1 σ) (hx : x ∈ xs) (hv : unc (Vm.look P σ ty x) = .one a) (ha : a.ref u = true) (ho : σ1.ob u j = o) (hn : o ≠ .none) : σ.ob u j = o := by
 rw [<- ho]
 refine h.ob x hx ty u ?_ j (by rw [ho]; exact hn)
 rw [h.look x hx ty]
 exact XQ hv ha
theorem K7 {xs : List Operand} {x : Operand} {k : IntKind} {n : Int} (h : Sub P xs σ1 σ) (hx : x ∈ xs) (hl : jm P σ1 x k n) : jm P σ x k n := by
 unfold jm at *
 rw [<- h.look x hx]; exact hl
theorem LB {xs : List Operand} {df n : Nat} {x : Option Operand} (h : Sub P xs σ1 σ) (hx : ∀ y, x = some y -> y ∈ xs) (hl : bnd P σ1 df x n) : bnd P σ df x n := by
 cases x with
 | none => exact hl
 | some x =>
  simp only [bnd] at *
  rw [<- h.look x (hx x rfl)]; exact hl
theorem RG {T : TypeId} : ∀ {ps : List (Nat × Operand)} {z out : List At}, Sub P (ps.map (·.2)) σ1 σ -> WC P σ1 T ps z out -> WC P σ T ps z out
 | [], _, _, _, h => h
 | (i, x) :: ps, z, out, hs, h => by
  have e := hs.look x (by simp)
  simp only [WC] at h ⊢
  rw [<- e]
  refine ⟨h.1, h.2.1, h.2.2.1, h.2.2.2.1, h.2.2.2.2.1, RG ⟨hs.len, fun y hy => hs.look y (by simp at hy ⊢; exact .inr hy), fun y hy => hs.ob y (by simp at hy ⊢; exact .inr hy)⟩ h.2.2.2.2.2⟩
theorem qD {op : Op} {ty : TypeId} {v : V} (hs : YH P σ1 op ty v) (h : Sub P op.operands.toList σ1 σ) : YH P σ op ty v := by
 cases op <;> simp only [YH] at hs ⊢
 case move x => rw [<- h.look x (by simp [Op.operands])]; exact hs
 case assign x => rw [<- h.look x (by simp [Op.operands])]; exact hs
 case pick c a b =>
  rw [<- h.look c (by simp [Op.operands]), <- h.look a (by simp [Op.operands]), <- h.look b (by simp [Op.operands])]; exact hs
 case load T x =>
  rw [h.look x (by simp [Op.operands])] at hs
  refine ⟨hs.1, hs.2.1, ?_⟩
  have wN := hs.2.2
  split at wN
  ·rename_i t c hx
   obtain ⟨cells, ho, hr⟩ := wN
   exact ⟨cells, h.same (by simp [Op.operands]) hx (by simp [At.ref]) ho (by simp), hr⟩
  ·rename_i t j i c hx
   obtain ⟨q, size, rows, ho, hr⟩ := wN
   exact ⟨q, size, rows, h.same (by simp [Op.operands]) hx (by simp [At.ref]) ho (by simp), hr⟩
  ·exact wN
  ·rename_i t j i c k hx
   obtain ⟨size, rows, s, ho, hr⟩ := wN
   exact ⟨size, rows, s, h.same (by simp [Op.operands]) hx (by simp [At.ref]) ho (by simp), hr⟩
  ·exact wN.elim
 case nilCheck x =>
  rw [h.look x (by simp [Op.operands])] at hs
  refine ⟨hs.1, ?_⟩
  have wN := hs.2
  split at wN
  ·rename_i t c hx
   obtain ⟨⟨cells, ho⟩, hr⟩ := wN
   exact ⟨⟨cells, h.same (by simp [Op.operands]) hx (by simp [At.ref]) ho (by simp)⟩, hr⟩
  ·exact wN.elim
 case fieldAddr T x f =>
  rw [h.look x (by simp [Op.operands])] at hs
  refine ⟨hs.1, hs.2.1, ?_⟩
  have wN := hs.2.2
  split at wN
  ·rename_i t c hx
   obtain ⟨⟨cells, ho⟩, hr⟩ := wN
   exact ⟨⟨cells, h.same (by simp [Op.operands]) hx (by simp [At.ref]) ho (by simp)⟩, hr⟩
  ·rename_i t j i c hx
   obtain ⟨⟨q, size, rows, ho⟩, hr⟩ := wN
   exact ⟨⟨q, size, rows, h.same (by simp [Op.operands]) hx (by simp [At.ref]) ho (by simp)⟩, hr⟩
  ·exact wN
  ·rename_i t j i c k hx
   obtain ⟨⟨size, rows, ho⟩, hr⟩ := wN
   exact ⟨⟨size, rows, h.same (by simp [Op.operands]) hx (by simp [At.ref]) ho (by simp)⟩, hr⟩
  ·exact wN.elim
 case indexAddr T x ix =>
  obtain ⟨k, i, hk, h0, hg, wN⟩ := hs
  rw [h.look x (by simp [Op.operands])] at hg wN
  refine ⟨k, i, K7 h (by simp [Op.operands]) hk, h0, hg, ?_⟩
  split at wN
  ·exact wN
  ·rename_i t j lo len hx
   obtain ⟨h1, h2, ⟨q, rows, ho⟩, hr⟩ := wN
   exact ⟨h1, h2, ⟨q, rows, h.same (by simp [Op.operands]) hx (by simp [At.ref]) ho (by simp)⟩, hr⟩
  ·rename_i t c hx
   obtain ⟨⟨cells, ho⟩, hr⟩ := wN
   exact ⟨⟨cells, h.same (by simp [Op.operands]) hx (by simp [At.ref]) ho (by simp)⟩, hr⟩
  ·rename_i t j m c hx
   obtain ⟨h1, h2, ⟨size, rows, s, ho, hr⟩, hv⟩ := wN
   exact ⟨h1, h2, ⟨size, rows, s, h.same (by simp [Op.operands]) hx (by simp [At.ref]) ho (by simp), hr⟩, hv⟩
  ·exact wN.elim
 case index T x ix =>
  obtain ⟨k, i, hk, h0, hg, wN⟩ := hs
  rw [h.look x (by simp [Op.operands])] at hg wN
  exact ⟨k, i, K7 h (by simp [Op.operands]) hk, h0, hg, wN⟩
 case slice T x lo hi mx =>
  cases mx with
  | some m => exact hs.elim
  | none =>
   simp only at hs ⊢
   rw [h.look x (by simp [Op.operands])] at hs
   refine ⟨hs.1, ?_⟩
   have wN := hs.2
   have b1 : ∀ df n, bnd P σ1 df lo n -> bnd P σ df lo n := fun df n => LB h (fun y hy => by subst hy; simp [Op.operands])
   have b2 : ∀ df n, bnd P σ1 df hi n -> bnd P σ df hi n := fun df n => LB h (fun y hy => by subst hy; simp [Op.operands])
   split at wN
   ·obtain ⟨h1, l, hh, h2, h3, hr⟩ := wN
    exact ⟨h1, l, hh, b1 _ _ h2, b2 _ _ h3, hr⟩
   ·obtain ⟨h1, gI, l, hh, h2, h3, hr⟩ := wN
    exact ⟨h1, gI, l, hh, b1 _ _ h2, b2 _ _ h3, hr⟩
   ·rename_i t j o len hx
    obtain ⟨h1, ⟨q, rows, ho⟩, l, hh, h2, h3, hr⟩ := wN
    exact ⟨h1, ⟨q, rows, h.same (by simp [Op.operands]) hx (by simp [At.ref]) ho (by simp)⟩, l, hh, b1 _ _ h2, b2 _ _ h3, hr⟩
   ·exact wN.elim
 case binOp op T x y yt =>
  rw [<- h.look x (by simp [Op.operands]), <- h.look y (by simp [Op.operands])]; exact hs
 case unOp op T x => rw [<- h.look x (by simp [Op.operands])]; exact hs
 case convert S T x => rw [<- h.look x (by simp [Op.operands])]; exact hs
 case extract x i => rw [<- h.look x (by simp [Op.operands])]; exact hs
 case field T x f => rw [<- h.look x (by simp [Op.operands])]; exact hs
 case build T parts =>
  obtain ⟨h1, h2, z, out, h3, h4, h5⟩ := hs
  refine ⟨h1, h2, z, out, h3, RG ?_ h4, h5⟩
  simpa [Op.operands] using h
 case call c =>
  obtain ⟨mi, args, tW⟩ := c
  have hm : ∀ x ∈ args.toList, x ∈ (Op.operands (.call ⟨mi, args, tW⟩)).toList := by
   intro x hx
   simp only [Op.operands, Call.operands]
   cases mi <;> simp at hx ⊢ <;> simp [hx]
  split at hs
  ·rename_i x t hc ha ht
   rw [h.look x (hm x (by rw [ha]; simp))] at hs
   try simp only [hc, ha, ht]
   refine ⟨hs.1, ?_⟩
   have wN := hs.2
   split at wN
   ·exact wN
   ·exact wN
   ·exact wN
   ·rename_i u j lo len hx
    obtain ⟨h1, ⟨q, size, rows, ho⟩ | ⟨size, rows, ho⟩, hr⟩ := wN
    ·exact ⟨h1, .inl ⟨q, size, rows, h.same (hm x (by rw [ha]; simp)) hx (by simp [At.ref]) ho (by simp)⟩, hr⟩
    ·exact ⟨h1, .inr ⟨size, rows, h.same (hm x (by rw [ha]; simp)) hx (by simp [At.ref]) ho (by simp)⟩, hr⟩
   ·rename_i u j i c hx
    obtain ⟨h1, size, rows, n, s, ho, hr⟩ := wN
    exact ⟨h1, size, rows, n, s, h.same (hm x (by rw [ha]; simp)) hx (by simp [At.ref]) ho (by simp), hr⟩
   ·exact wN.elim
  ·rename_i x y hc ha
   try simp only [hc, ha]
   obtain ⟨k, m, n, h1, h2, h3⟩ := hs
   exact ⟨k, m, n, K7 h (hm x (by rw [ha]; simp)) h1, K7 h (hm y (by rw [ha]; simp)) h2, h3⟩
  ·rename_i x y hc ha
   try simp only [hc, ha]
   obtain ⟨k, m, n, h1, h2, h3⟩ := hs
   exact ⟨k, m, n, K7 h (hm x (by rw [ha]; simp)) h1, K7 h (hm y (by rw [ha]; simp)) h2, h3⟩
  ·exact hs.elim
end
end Go.Vm
namespace Go.Vm
open Go.RowKit
def RH (P : Program) (xs : List Operand) (σ : St) (u : Nat) : Prop :=
 ∃ x ∈ xs, ∃ ty, (look P σ ty x).ref u = true \/ ∃ t cells, (look P σ ty x).ref t = true /\ σ.ob t 0 = .box cells /\ YG u cells = true
theorem Js {u : Nat} : ∀ {xs : List At}, YG u xs = true ↔ ∃ x ∈ xs, x.ref u = true
 | [] => by simp [YG]
 | x :: xs => by simp [YG, Js]
theorem Gs {u : Nat} {xs ys : List At} (h : ∀ x ∈ xs, x ∈ ys) (hx : YG u xs = true) : YG u ys = true := by
 obtain ⟨x, h1, h2⟩ := Js.1 hx
 exact Js.2 ⟨x, h x h1, h2⟩
theorem Tz {u a b : Nat} {xs : List At} (hx : YG u (cut xs a b) = true) : YG u xs = true :=
 Gs (fun _ h => List.mem_of_mem_drop (List.mem_of_mem_take h)) hx
theorem jk {u : Nat} (xs : List D) : YG u (xs.map .d) = false := by
 induction xs with
 | nil => rfl
 | cons x xs ih => simp [YG, At.ref, ih]
theorem U8 {P : Program} {T : TypeId} {u : Nat} {xs : List At} (h : (ldV P T xs).ref u = true) : YG u xs = true := by
 unfold ldV at h
 split at h
 ·exact h
 ·split at h
  ·simpa [V.ref, YG] using h
  ·simp [V.ref] at h
theorem F0 {u o : Nat} {r xs : List At} (h : YG u (place r o xs) = true) : YG u r = true \/ YG u xs = true := by
 obtain ⟨x, h1, h2⟩ := Js.1 h
 simp only [place, List.mem_append] at h1
 rcases h1 with (h1 | h1) | h1
 ·exact .inl (Js.2 ⟨x, List.mem_of_mem_take h1, h2⟩)
 ·exact .inr (Js.2 ⟨x, h1, h2⟩)
 ·exact .inl (Js.2 ⟨x, List.mem_of_mem_drop h1, h2⟩)
theorem Dm {v : V} {u : Nat} (h : (unc v).ref u = true) (hc : ∀ g x, unc v ≠ .cnd g x) (hf : ∀ g x, unc v ≠ .fix g x) : v.ref u = true := by
 cases v with
 | cnd g x =>
  simp only [unc] at h hc hf
  simp only [V.ref, Bool.or_eq_true]
  cases x with
  | tup xs => exact .inr h
  | cnd g y => exact absurd rfl (hc g y)
  | fix g y => exact absurd rfl (hf g y)
  | one x => exact .inl h
  | agg x => exact .inl h
  | any => exact .inl h
 | fix g x =>
  simp only [unc] at h hc hf
  simp only [V.ref, Bool.or_eq_true]
  cases x with
  | tup xs => exact .inr h
  | cnd g y => exact absurd rfl (hc g y)
  | fix g y => exact absurd rfl (hf g y)
  | one x => exact .inl h
  | agg x => exact .inl h
  | any => exact .inl h
 | _ => exact h
theorem O3 {u t j i : Nat} : ∀ {c : Nat} {xs : List D}, YG u (qY t j i c xs) = true -> u = t
 | _, [], h => by simp [qY, YG] at h
 | c, x :: xs, h => by
  simp only [qY, YG, Bool.or_eq_true] at h
  rcases h with h | h
  ·cases x <;> simp [At.ref] at h; exact h.symm
  ·exact O3 h
theorem Gt {u t j i c : Nat} {q : Bool} {xs : List D} (h : YG u (W8 q t j i c xs) = true) : u = t := by
 cases q with
 | true => exact O3 h
 | false => simp only [W8] at h; rw [jk] at h; cases h
theorem Hr {op : BinOp} {k : IntKind} {x y : Int} {v : V} (h : Ng op k x y v) (u : Nat) : v.ref u = false := by
 cases op <;> simp only [Ng] at h <;> first | (subst h; rfl) | (obtain ⟨_, rfl⟩ := h; rfl) | exact h.elim
theorem HC {op : BinOp} {x y : ByteArray} {v : V} (h : O0 op x y v) (u : Nat) : v.ref u = false := by
 cases op <;> simp only [O0] at h <;> first | (subst h; rfl) | (obtain ⟨_, rfl⟩ := h; rfl) | exact h.elim
theorem IL {op : BinOp} {x y : Bool} {v : V} (h : SV op x y v) (u : Nat) : v.ref u = false := by
 cases op <;> simp only [SV] at h <;> first | (subst h; rfl) | (obtain ⟨_, rfl⟩ := h; rfl) | exact h.elim
theorem G1 {P : Program} {op : BinOp} {T : TypeId} {x y v : V} (h : I7 P op T x y v) (u : Nat) : v.ref u = false := by
 unfold I7 at h
 split at h
 ·exact Hr h.2 u
 ·exact HC h u
 ·exact IL h.2 u
 ·obtain ⟨_, q, _, ⟨_, rfl⟩ | ⟨_, rfl⟩⟩ := h <;> rfl
 ·exact h.elim
theorem LK {u : Nat} : ∀ {xs : List V} {i : Nat} {v : V}, xs[i]? = some v -> v.RB u = true -> Ws u xs = true
 | [], _, _, h, _ => by simp at h
 | x :: xs, 0, v, h, hr => by simp at h; subst h; simp [Ws, hr]
 | x :: xs, i + 1, v, h, hr => by simp only [Ws, Bool.or_eq_true]; exact .inr (LK (by simpa using h) hr)
theorem LL {v : V} (hf : v.flat = true) (u : Nat) : v.ref u = v.RB u := by
 cases v <;> first | rfl | (simp [V.flat] at hf)
theorem ME {P : Program} {σ : St} {T : TypeId} {u : Nat} : ∀ {ps : List (Nat × Operand)} {z out : List At}, WC P σ T ps z out -> YG u out = true ->
  YG u z = true \/ ∃ x ∈ ps.map (·.2), ∃ ty, (look P σ ty x).ref u = true
 | [], z, out, h, hr => by simp only [WC] at h; subst h; exact .inl hr
 | (i, x) :: ps, z, out, h, hr => by
  simp only [WC] at h
  rcases ME h.2.2.2.2.2 hr with h1 | ⟨y, hy, ty, h1⟩
  ·rcases F0 h1 with h1 | h1
   ·exact .inl h1
   ·exact .inr ⟨x, by simp, _, jA h1⟩
  ·exact .inr ⟨y, by simp at hy ⊢; exact .inr hy, ty, h1⟩
theorem RO {P : Program} {σ : St} {op : Op} {ty : TypeId} {v : V} {u : Nat} (hs : YH P σ op ty v) (hr : v.ref u = true) : RH P op.operands.toList σ u := by
 have eH : ∀ {x : D}, v = .one (.d x) -> False := by intro x e; rw [e] at hr; cases hr
 cases op <;> simp only [YH] at hs
 case move x => subst hs; exact ⟨x, by simp [Op.operands], ty, .inl hr⟩
 case assign x => subst hs; exact ⟨x, by simp [Op.operands], ty, .inl hr⟩
 case pick c a b => obtain ⟨bc, p, q, _, _, _, _, _, _, rfl⟩ := hs; cases hr
 case load T x =>
  have wN := hs.2.2
  split at wN
  ·rename_i t c hx
   obtain ⟨cells, ho, _, rfl⟩ := wN
   exact ⟨x, by simp [Op.operands], 0, .inr ⟨t, cells, XQ hx (by simp [At.ref]), ho, Tz (U8 hr)⟩⟩
  ·rename_i t j i c hx
   obtain ⟨q, size, rows, _, _, _, rfl⟩ := wN
   have := Gt (U8 hr)
   exact ⟨x, by simp [Op.operands], 0, .inl (XQ hx (by simp [At.ref, this]))⟩
  ·obtain ⟨_, rfl⟩ := wN
   have := U8 hr; rw [jk] at this; cases this
  ·obtain ⟨_, _, _, _, _, _, _, _, _, rfl⟩ := wN
   have := U8 hr; rw [jk] at this; cases this
  ·exact wN.elim
 case nilCheck x =>
  have wN := hs.2
  split at wN
  ·rename_i t c hx
   obtain ⟨_, rfl⟩ := wN
   exact ⟨x, by simp [Op.operands], 0, .inl (XQ hx hr)⟩
  ·exact wN.elim
 case fieldAddr T x f =>
  have wN := hs.2.2
  split at wN
  ·rename_i t c hx
   obtain ⟨_, rfl⟩ := wN
   exact ⟨x, by simp [Op.operands], 0, .inl (XQ hx hr)⟩
  ·rename_i t j i c hx
   obtain ⟨_, rfl⟩ := wN
   exact ⟨x, by simp [Op.operands], 0, .inl (XQ hx hr)⟩
  ·subst wN; cases hr
  ·rename_i t j i c k hx
   obtain ⟨_, rfl⟩ := wN
   exact ⟨x, by simp [Op.operands], 0, .inl (XQ hx hr)⟩
  ·exact wN.elim
 case indexAddr T x ix =>
  obtain ⟨k, i, _, _, _, wN⟩ := hs
  split at wN
  ·obtain ⟨_, _, _, _, rfl⟩ := wN; cases hr
  ·rename_i t j lo len hx
   obtain ⟨_, _, _, _, rfl⟩ := wN
   exact ⟨x, by simp [Op.operands], 0, .inl (XQ hx hr)⟩
  ·rename_i t c hx
   obtain ⟨_, _, rfl⟩ := wN
   exact ⟨x, by simp [Op.operands], 0, .inl (XQ hx hr)⟩
  ·rename_i t j m c hx
   obtain ⟨_, _, _, rfl⟩ := wN
   exact ⟨x, by simp [Op.operands], 0, .inl (XQ hx hr)⟩
  ·exact wN.elim
 case index T x ix =>
  obtain ⟨k, i, _, _, _, wN⟩ := hs
  split at wN
  ·obtain ⟨_, _, rfl⟩ := wN; cases hr
  ·rename_i xs hx
   obtain ⟨_, _, _, rfl⟩ := wN
   exact ⟨x, by simp [Op.operands], 0, .inl (Th hx (Tz (U8 hr)))⟩
  ·exact wN.elim
 case slice T x lo hi mx =>
  cases mx with
  | some m => exact hs.elim
  | none =>
   simp only at hs
   have wN := hs.2
   split at wN
   ·obtain ⟨_, _, _, _, _, _, _, rfl⟩ := wN; cases hr
   ·obtain ⟨_, _, _, _, _, _, _, _, rfl⟩ := wN; cases hr
   ·rename_i t j o len hx
    obtain ⟨_, _, _, _, _, _, _, _, rfl⟩ := wN
    exact ⟨x, by simp [Op.operands], 0, .inl (XQ hx hr)⟩
   ·exact wN.elim
 case binOp op T x y yt => rw [G1 hs.2.2 u] at hr; cases hr
 case unOp op T x =>
  have wN := hs.2
  split at wN
  ·subst wN; cases hr
  ·subst wN; cases hr
  ·exact wN.elim
 case convert S T x =>
  have wN := hs.2.2
  split at wN
  ·obtain ⟨_, _, rfl⟩ := wN; cases hr
  ·exact wN.elim
 case extract x i =>
  have wN := hs.2
  split at wN
  ·rename_i xs hx
   refine ⟨x, by simp [Op.operands], 0, .inl (Dm ?_ (by rw [hx]; simp) (by rw [hx]; simp))⟩
   rw [hx]
   rw [LL wN.2] at hr
   exact LK wN.1 hr
  ·exact wN.elim
 case field T x f =>
  have wN := hs.2.2.2
  split at wN
  ·rename_i xs hx
   obtain ⟨_, rfl⟩ := wN
   exact ⟨x, by simp [Op.operands], 0, .inl (Th hx (Tz (U8 hr)))⟩
  ·exact wN.elim
 case build T parts =>
  obtain ⟨_, _, z, out, h3, h4, rfl⟩ := hs
  rcases ME h4 hr with h1 | ⟨x, hx, ia, h1⟩
  ·rw [SA u _ _ _ h3] at h1; cases h1
  ·exact ⟨x, by simpa [Op.operands] using hx, ia, .inl h1⟩
 case call c =>
  split at hs
  ·have wN := hs.2
   split at wN
   ·obtain ⟨_, rfl⟩ := wN; cases hr
   ·obtain ⟨_, rfl⟩ := wN; cases hr
   ·obtain ⟨_, rfl⟩ := wN; cases hr
   ·obtain ⟨_, _, rfl⟩ := wN; cases hr
   ·obtain ⟨_, _, _, _, _, _, _, _, rfl⟩ := wN; cases hr
   ·exact wN.elim
  ·obtain ⟨_, _, _, _, _, rfl⟩ := hs; cases hr
  ·obtain ⟨_, _, _, _, _, rfl⟩ := hs; cases hr
  ·exact hs.elim
end Go.Vm
namespace Go.Vm
open Go.RowKit
inductive Eff where
 | put (v : V)
 | new (v : V) (os : List Ob)
 | drop (t j : Nat) (v : V) (os : List Ob)
def Eff.ap (d : Nat) : Eff -> St -> St
 | .put v, σ => σ.put d v
 | .new v os, σ => σ.new d v os
 | .drop t j v os, σ => (σ.Zt t j .none).new d v os
def Eff.ok (d : Nat) : Eff -> St -> Prop
 | .put _, _ => True
 | .new _ _, σ => σ.fresh d = true
 | .drop t j _ _, σ => (∃ q s r, σ.ob t j = .arr q s r) /\ (σ.Zt t j .none).fresh d = true
def Eff.ref (u : Nat) : Eff -> Bool
 | .put v => v.ref u
 | .new v os => v.ref u || Yf u os
 | .drop _ _ v os => v.ref u || Yf u os
def jb (o : Oper) : Bool :=
 match o.op with
 | .call ⟨.builtin .append, ⟨.const _ :: _⟩, _⟩ => false
 | .call ⟨.builtin .append, _, _⟩ => true
 | _ => false
def Jd (o : Oper) : Bool :=
 match o.op with
 | .alloc _ => false
 | .box _ _ => false
 | .buildSlice _ _ _ => false
 | .makeSlice _ _ _ => false
 | .call ⟨.builtin .append, _, _⟩ => false
 | .call ⟨.value _, _, _⟩ => false
 | _ => true
def KY (ops : Array Oper) (o : Oper) : List Operand :=
 o.op.operands.toList ++ (match o.guard with | some (j, _) => (match (ops[j]?).bind (·.dst) with | some dj => [.tmp dj] | none => []) | none => [])
section
variable {P : Program} {σ1 σ : St}
theorem Sub.left {xs ys : List Operand} (h : Sub P (xs ++ ys) σ1 σ) : Sub P xs σ1 σ := ⟨h.len, fun x hx => h.look x (by simp [hx]), fun x hx => h.ob x (by simp [hx])⟩
theorem Im {x : At} {d : D} (h : ∀ u, x.ref u = true -> ∀ j, σ1.ob u j ≠ .none -> σ.ob u j = σ1.ob u j) (hd : J0 σ1 x = some d) : J0 σ x = some d := by
 cases x with
 | sref t j lo len =>
  simp only [J0] at hd ⊢
  split at hd
  ·rename_i q size rows ho
   rw [h t (by simp [At.ref]) j (by rw [ho]; simp), ho]; exact hd
  ·cases hd
 | _ => exact hd
theorem qJ : ∀ {xs : List At} {r : List D}, (∀ u, YG u xs = true -> ∀ j, σ1.ob u j ≠ .none -> σ.ob u j = σ1.ob u j) -> rowOf σ1 xs = some r -> rowOf σ xs = some r
 | [], _, _, h => h
 | x :: xs, r, h, hr => by
  simp only [rowOf] at hr ⊢
  split at hr
  ·rename_i d ds h1 h2
   rw [Im (fun u hu => h u (by rw [YG, hu]; rfl)) h1, qJ (fun u hu => h u (by rw [YG, hu, Bool.or_true])) h2]
   exact hr
  ·cases hr
theorem M8 {v : V} {r : List D} (h : ∀ u, YG u v.cells = true -> ∀ j, σ1.ob u j ≠ .none -> σ.ob u j = σ1.ob u j) (hr : v.JU σ1 = some r) : v.JU σ = some r := by
 cases v with
 | one x => exact qJ h hr
 | agg xs =>
  match xs, h, hr with
  | [], h, hr => exact qJ h hr
  | [_], _, hr => simp [V.JU] at hr
  | x :: y :: xs, h, hr => exact qJ h hr
 | any => simp [V.JU] at hr
 | tup xs => simp [V.JU] at hr
 | cnd g x => simp [V.JU] at hr
 | fix u x => simp [V.JU] at hr
theorem Sub.cells {xs : List Operand} {x : Operand} (h : Sub P xs σ1 σ) (hx : x ∈ xs) (ty : TypeId) : ∀ u, YG u (unc (Vm.look P σ1 ty x)).cells = true -> ∀ j, σ1.ob u j ≠ .none -> σ.ob u j = σ1.ob u j :=
 fun u hu j hn => h.ob x hx ty u (jA hu) j hn
theorem xu : ∀ {xs : List Operand} {ts : List TypeId} {rs : List (List D)}, Sub P xs σ1 σ -> Xg P σ1 xs ts rs -> Xg P σ xs ts rs
 | [], _, _, _, h => h
 | x :: xs, [], _, _, h => h.elim
 | x :: xs, t :: ts, rs, hs, h => by
  obtain ⟨hg, r, rest, h1, h2, h3⟩ := h
  have e := hs.look x (by simp) t
  refine ⟨by rw [<- e]; exact hg, r, rest, ?_, xu ⟨hs.len, fun y hy => hs.look y (by simp [hy]), fun y hy => hs.ob y (by simp [hy])⟩ h2, h3⟩
  rw [<- e]
  exact M8 (hs.cells (by simp) t) h1
theorem xl : ∀ {xs : List Operand} {ts : List TypeId}, Sub P xs σ1 σ -> YI P σ xs ts = YI P σ1 xs ts
 | [], _, _ => by simp [YI]
 | x :: xs, [], _ => by simp [YI]
 | x :: xs, t :: ts, hs => by
  simp only [YI]
  rw [hs.look x (by simp) t, xl ⟨hs.len, fun y hy => hs.look y (by simp [hy]), fun y hy => hs.ob y (by simp [hy])⟩]
theorem Uc {c : Call} {f : FuncId} {own : Bool} {res : List (List D)} (hs : Sub P c.args.toList σ1 σ) (h : HW P σ1 c f own res) : HW P σ c f own res := by
 obtain ⟨rows, h1, h2, h3⟩ := h
 exact ⟨rows, xu hs h1, h2, by rw [xl hs]; exact h3⟩
theorem V9 {T : TypeId} {size : Nat} : ∀ {ps : List (Nat × Operand)} {k : Nat} {rs : List (List D)}, Sub P (ps.map (·.2)) σ1 σ -> Se P σ1 T size ps k rs -> Se P σ T size ps k rs
 | [], _, _, _, h => h
 | (i, x) :: ps, k, rs, hs, h => by
  have e := hs.look x (by simp) T
  obtain ⟨h1, h2, h3, h4, r, rest, h5, h6, h7, h8⟩ := h
  refine ⟨h1, by rw [<- e]; exact h2, by rw [<- e]; exact h3, by rw [<- e]; exact h4, r, rest, ?_, h6, V9 ⟨hs.len, fun y hy => hs.look y (by simp at hy ⊢; exact .inr hy), fun y hy => hs.ob y (by simp at hy ⊢; exact .inr hy)⟩ h7, h8⟩
  rw [<- e]
  exact qJ (hs.cells (by simp) T) h5
theorem PZ {T : TypeId} {size : Nat} : ∀ {ps : List (Nat × Operand)} {k : Nat} {rs : List (List At)}, Sub P (ps.map (·.2)) σ1 σ -> Ss P σ1 T size ps k rs -> Ss P σ T size ps k rs
 | [], _, _, _, h => h
 | (i, x) :: ps, k, rs, hs, h => by
  obtain ⟨h1, h2, h3, h4, rest, h5, h6⟩ := h
  have e := hs.look x (by simp) T
  rw [e] at h2 h3 h4 h6
  exact ⟨h1, h2, h3, h4, rest, PZ ⟨hs.len, fun y hy => hs.look y (by simp at hy ⊢; exact .inr hy), fun y hy => hs.ob y (by simp at hy ⊢; exact .inr hy)⟩ h5, h6⟩
theorem LD {T : TypeId} {size u : Nat} : ∀ {ps : List (Nat × Operand)} {k : Nat} {rs : List (List At)}, Ss P σ T size ps k rs -> YG u rs.flatten = true -> ∃ x ∈ ps.map (·.2), (Vm.look P σ T x).ref u = true
 | [], _, _, h, hr => by simp only [Ss] at h; subst h; simp [YG] at hr
 | (i, x) :: ps, k, rs, h, hr => by
  obtain ⟨h1, h2, h3, h4, rest, h5, rfl⟩ := h
  rw [List.flatten_cons] at hr
  obtain ⟨z, hz, ud⟩ := Js.1 hr
  rcases List.mem_append.1 hz with hz | hz
  ·exact ⟨x, by simp, jA (Js.2 ⟨z, hz, ud⟩)⟩
  ·obtain ⟨y, hy, gJ⟩ := LD h5 (Js.2 ⟨z, hz, ud⟩)
   exact ⟨y, by simp at hy ⊢; exact .inr hy, gJ⟩
theorem KJ (u : Nat) : ∀ (qs : List Bool) (ds : List D), Yf u (YC qs ds) = false
 | qs, [] => by cases qs <;> rfl
 | q :: qs, .sl size rows :: ds => by simp [YC, Yf, KJ u qs ds]
 | [], .sl size rows :: ds => by simp [YC, Yf, KJ u [] ds]
 | qs, .int _ _ :: ds => by cases qs <;> simp [YC, Yf, KJ u _ ds]
 | qs, .bool _ :: ds => by cases qs <;> simp [YC, Yf, KJ u _ ds]
 | qs, .str _ :: ds => by cases qs <;> simp [YC, Yf, KJ u _ ds]
 | qs, .unk :: ds => by cases qs <;> simp [YC, Yf, KJ u _ ds]
theorem WO {xs : List Operand} {x : Operand} {ty : TypeId} {size : Nat} {news : List (List D)} (hs : Sub P xs σ1 σ) (hx : x ∈ xs) (h : xt σ1 (unc (Vm.look P σ1 ty x)) size news) : xt σ (unc (Vm.look P σ ty x)) size news := by
 rw [hs.look x hx] at h
 unfold xt at h ⊢
 split at h
 ·exact h
 ·exact h
 ·rename_i t j lo len hv
  obtain ⟨rows, ho, hr⟩ := h
  exact ⟨rows, hs.same hx hv (by simp [At.ref]) ho (by simp), hr⟩
 ·exact h.elim
theorem Fx (u : Nat) (r : List D) : (vOf (r.map At.d)).ref u = false := by
 have := jk (u := u) r
 match r, this with
 | [], _ => rfl
 | [x], _ => rfl
 | x :: y :: r, h => exact h
theorem GY (u : Nat) (r : List D) : (vOf (r.map At.d)).RB u = false := by
 have := jk (u := u) r
 match r, this with
 | [], _ => rfl
 | [x], _ => rfl
 | x :: y :: r, h => exact h
theorem Lf (u : Nat) (res : List (List D)) : (zx res).ref u = false := by
 have tl : ∀ rs : List (List D), Ws u (rs.map fun r => vOf (r.map At.d)) = false := by
  intro rs
  induction rs with
  | nil => rfl
  | cons r rs ih => simp only [List.map_cons, Ws, GY, ih, Bool.or_false]
 match res with
 | [] => rfl
 | [r] => exact Fx u r
 | r :: r' :: rs => exact tl (r :: r' :: rs)
theorem Tw {u d : Nat} (hu : u ≠ d) : ∀ (k : Nat) (r : List D), YG u (Qz d k r) = false
 | _, [] => rfl
 | k, x :: r => by cases x <;> simp [Qz, YG, At.ref, Tw hu, Ne.symm hu]
theorem Ha {u : Nat} {xs : List At} (h : YG u xs = false) : (vOf xs).RB u = false := by
 match xs, h with
 | [], _ => rfl
 | [x], h => simpa [vOf, V.RB, YG] using h
 | x :: y :: xs, h => exact h
theorem N6 {u d : Nat} (hu : u ≠ d) (res : List (List D)) : (yh d res).ref u = false := by
 have tl : ∀ (k : Nat) (rs : List (List D)), Ws u (Lo d k rs) = false := by
  intro k rs
  induction rs generalizing k with
  | nil => rfl
  | cons r rs ih => simp only [Lo, Ws, Ha (Tw hu _ _), ih, Bool.or_false]
 match res with
 | [] => exact tl 0 []
 | [r] =>
  have h1 : (vOf (Qz d 0 r)).flat = true := by
   match Qz d 0 r with
   | [] => rfl
   | [x] => rfl
   | x :: y :: xs => rfl
  have := Ha (Tw hu 0 r)
  rw [<- LL h1] at this
  exact this
 | r :: r' :: rs => exact tl 0 (r :: r' :: rs)
theorem MC (u : Nat) : ∀ (ds : List D), Yf u (Kv ds) = false
 | [] => rfl
 | x :: ds => by cases x <;> simp [Kv, Yf, MC u ds]
theorem Wr (ty : TypeId) (v : Value) (u : Nat) : (cst P ty v).ref u = false := by
 unfold cst
 split <;> first | rfl | skip
 all_goals (repeat' split) <;> first | rfl | skip
end
end Go.Vm
namespace Go.Vm
open Go.RowKit
def On (P : Program) (ops : Array Oper) (o : Oper) (d : Nat) (σ1 : St) (e : Eff) : Prop :=
 e.ok d σ1 /\ (∀ t j v os, e = .drop t j v os -> jb o = true /\ ∃ x ∈ KY ops o, ∃ ty, (look P σ1 ty x).ref t = true) /\
 (Jd o = true \/ o.guard.isSome = true -> ∃ v, e = .put v) /\
 (o.guard = none -> ∀ u, u ≠ d -> e.ref u = true -> RH P (KY ops o) σ1 u) /\
 ∀ σ, Sub P (KY ops o) σ1 σ -> e.ok d σ -> Y1 P ops o σ (e.ap d σ)
section
variable {P : Program} {ops : Array Oper} {o : Oper} {d : Nat} {σ1 σ2 : St}
theorem T2 {xs ys : List Operand} {u : Nat} (h : RH P xs σ1 u) : RH P (xs ++ ys) σ1 u := by
 obtain ⟨x, hx, r⟩ := h
 exact ⟨x, by simp [hx], r⟩
theorem Wb {σ σ' : St} (hg : o.guard = none) (hd : o.dst = some d) (h : Step P o d σ σ') : Y1 P ops o σ σ' := by
 unfold Y1; simp only [hg, hd]; exact h
theorem SE {v : V} (hg : o.guard = none) (hd : o.dst = some d) (rV : ∀ u, u ≠ d -> v.ref u = true -> RH P o.op.operands.toList σ1 u)
  (w8 : ∀ σ, Sub P o.op.operands.toList σ1 σ -> Step P o d σ (σ.put d v)) : On P ops o d σ1 (.put v) :=
 ⟨trivial, (fun t j v os h => by cases h), fun _ => ⟨v, rfl⟩, fun _ u hu hr => T2 (rV u hu hr), fun σ hs _ => Wb hg hd (w8 σ hs.left)⟩
theorem kE {v : V} {os : List Ob} (hg : o.guard = none) (hd : o.dst = some d) (hp : Jd o = false) (we : σ1.fresh d = true) (rV : ∀ u, u ≠ d -> (v.ref u || Yf u os) = true -> RH P o.op.operands.toList σ1 u)
  (w8 : ∀ σ, Sub P o.op.operands.toList σ1 σ -> σ.fresh d = true -> Step P o d σ (σ.new d v os)) : On P ops o d σ1 (.new v os) :=
 ⟨we, (fun t j v os h => by cases h), (fun h => h.elim (fun h => by rw [hp] at h; cases h) (fun h => by rw [hg] at h; cases h)), fun _ u hu hr => T2 (rV u hu hr), fun σ hs hf => Wb hg hd (w8 σ hs.left hf)⟩
theorem Jr {c : Call} {x : Operand} (hx : x ∈ c.args.toList) : x ∈ (Op.operands (.call c)).toList := by
 obtain ⟨mi, args, tW⟩ := c
 simp only [Op.operands, Call.operands]
 cases mi <;> simp at hx ⊢ <;> simp [hx]
theorem SR {c : Call} {σ : St} (h : Sub P (Op.operands (.call c)).toList σ1 σ) : Sub P c.args.toList σ1 σ :=
 ⟨h.len, fun x hx => h.look x (Jr hx), fun x hx => h.ob x (Jr hx)⟩
theorem Em (hg : o.guard = none) (hd : o.dst = some d) (hs : Step P o d σ1 σ2) : ∃ e : Eff, σ2 = e.ap d σ1 /\ On P ops o d σ1 e := by
 have vi : (∃ v, YH P σ1 o.op o.type v /\ σ2 = σ1.put d v) -> (∀ σ v, YH P σ o.op o.type v -> Step P o d σ (σ.put d v)) -> ∃ e : Eff, σ2 = e.ap d σ1 /\ On P ops o d σ1 e := by
  rintro ⟨v, hv, rfl⟩ wb
  exact ⟨.put v, rfl, SE hg hd (fun u _ hr => RO hv hr) (fun σ wk => wb σ v (qD hv wk))⟩
 have eJ := hs
 unfold Step at hs
 split at hs
 ·rename_i T wA
  obtain ⟨hf, hz, row, wh, rfl⟩ := hs
  refine ⟨.new _ _, rfl, kE hg hd (by simp [Jd, wA]) hf (fun u hu hr => ?_) (fun σ wk tk => ?_)⟩
  ·simp only [V.ref, At.ref, Yf, SA u _ _ _ wh, Bool.or_false, beq_iff_eq] at hr
   exact absurd hr.symm hu
  ·unfold Step; rw [wA]; exact ⟨tk, hz, row, wh, rfl⟩
 ·rename_i T x wA
  obtain ⟨hf, h1, h2, h3, rfl⟩ := hs
  refine ⟨.new _ _, rfl, kE hg hd (by simp [Jd, wA]) hf (fun u hu hr => ?_) (fun σ wk tk => ?_)⟩
  ·simp only [V.ref, At.ref, Yf, Bool.or_false, Bool.or_eq_true, beq_iff_eq] at hr
   rcases hr with hr | hr
   ·exact absurd hr.symm hu
   ·exact ⟨x, by simp [wA, Op.operands], T, .inl (jA hr)⟩
  ·have e := wk.look x (by simp [wA, Op.operands]) T
   unfold Step; rw [wA]
   simp only
   rw [<- e]
   exact ⟨tk, h1, h2, h3, rfl⟩
 ·rename_i T n parts wA
  rcases hs with ⟨hf, h1, h2, h3, h4, h5, ⟨rows, h6, rfl⟩ | ⟨rows, h6, h7, rfl⟩⟩ | ⟨h1, rows, h6, rfl⟩
  ·refine ⟨.new _ _, rfl, kE hg hd (by simp [Jd, wA]) hf (fun u hu hr => ?_) (fun σ wk tk => ?_)⟩
   ·simp only [V.ref, At.ref, Yf, Bool.or_false, beq_iff_eq] at hr
    exact absurd hr.symm hu
   ·unfold Step; rw [wA]
    refine .inl ⟨tk, h1, h2, h3, h4, h5, .inl ⟨rows, V9 ?_ h6, rfl⟩⟩
    rw [wA] at wk
    simpa [Op.operands] using wk
  ·refine ⟨.new _ _, rfl, kE hg hd (by simp [Jd, wA]) hf (fun u hu hr => ?_) (fun σ wk tk => ?_)⟩
   ·simp only [V.ref, At.ref, Yf, Bool.or_false, Bool.or_eq_true, beq_iff_eq] at hr
    rcases hr with hr | hr
    ·exact absurd hr.symm hu
    ·obtain ⟨x, hx, gL⟩ := LD h6 hr
     exact ⟨x, by simpa [wA, Op.operands] using hx, _, .inl gL⟩
   ·unfold Step; rw [wA]
    refine .inl ⟨tk, h1, h2, h3, h4, h5, .inr ⟨rows, PZ ?_ h6, h7, rfl⟩⟩
    rw [wA] at wk
    simpa [Op.operands] using wk
  ·refine ⟨.put _, rfl, SE hg hd (fun u _ hr => by cases hr) (fun σ wk => ?_)⟩
   unfold Step; rw [wA]
   refine .inr ⟨h1, rows, V9 ?_ h6, rfl⟩
   rw [wA] at wk
   simpa [Op.operands] using wk
 ·rename_i T x y wA
  obtain ⟨rfl, hf, h1, h2, h3, q, z, zr, k, n, hq, h4, h5, h6, h7, h8, rfl⟩ := hs
  refine ⟨.new _ _, rfl, kE hg hd (by simp [Jd, wA]) hf (fun u hu hr => ?_) (fun σ wk tk => ?_)⟩
  ·simp only [V.ref, At.ref, Yf, Bool.or_false, beq_iff_eq] at hr
   exact absurd hr.symm hu
  ·unfold Step; rw [wA]
   exact ⟨rfl, tk, h1, h2, h3, q, z, zr, k, n, hq, h4, h5, K7 wk (by simp [wA, Op.operands]) h6, h7, h8, rfl⟩
 ·rename_i c wA
  split at hs
  ·rename_i hc
   obtain ⟨x, y, t, ha, uh, h1, h2, h3, h4, h5, wH, news, σd, h6, h7, h8, h9, tc, rfl⟩ := hs
   have hx : x ∈ o.op.operands.toList := by rw [wA]; exact Jr (by rw [ha]; simp)
   have hy : y ∈ o.op.operands.toList := by rw [wA]; exact Jr (by rw [ha]; simp)
   have tn : Jd o = false := by
    obtain ⟨cc, ca, ct⟩ := c
    simp only at hc; subst hc
    simp [Jd, wA]
   have refs : ∀ u, u ≠ d -> (V.ref u (.one (.sref d 0 0 (wH.length + news.length))) || Yf u [.arr false (P.cellsOf (ZP P t)) (wH ++ news)]) = true -> RH P o.op.operands.toList σ1 u := by
    intro u hu hr
    simp only [V.ref, At.ref, Yf, Bool.or_false, beq_iff_eq] at hr
    exact absurd hr.symm hu
   have eK := h6
   unfold VK at h6
   split at h6
   ·rename_i s heq
    obtain ⟨rfl, rfl⟩ := h6
    refine ⟨.new _ _, rfl, kE hg hd tn h8 refs (fun σ wk tk => ?_)⟩
    unfold Step; rw [wA]
    simp only [hc]
    refine ⟨x, y, t, ha, uh, ?_, ?_, h3, h4, h5, [], news, σ, ?_, WO wk hy h7, tk, h9, tc, rfl⟩
    ·rw [<- wk.look x hx]; exact h1
    ·rw [<- wk.look y hy]; exact h2
    ·rw [<- wk.look x hx]; unfold VK; rw [heq]; exact ⟨rfl, rfl⟩
   ·rename_i tt j lo len heq
    obtain ⟨rows, ho, u7, hlen, holds, rfl⟩ := h6
    have lN : (look P σ1 t x).ref tt = true := XQ heq (by simp [At.ref])
    refine ⟨.drop tt j _ _, rfl, ⟨⟨_, _, _, ho⟩, h8⟩, ?_, (fun hh => hh.elim (fun hh => by rw [tn] at hh; cases hh) (fun hh => by rw [hg] at hh; cases hh)), fun _ u hu hr => T2 (refs u hu hr), fun σ wk tk => Wb hg hd ?_⟩
    ·intro t' j' v os he
     cases he
     refine ⟨?_, x, by simp only [KY, List.mem_append]; exact .inl hx, t, lN⟩
     obtain ⟨cc, ca, ct⟩ := c
     simp only at hc ha; subst hc ha
     cases x with
     | const v => rw [Vm.look, Wr] at lN; cases lN
     | _ => simp [jb, wA]
    ·have tq := wk.left
     unfold Step; rw [wA]
     simp only [hc]
     have tB : unc (look P σ t x) = .one (.sref tt j lo len) := by rw [<- tq.look x hx]; exact heq
     refine ⟨x, y, t, ha, uh, ?_, ?_, h3, h4, h5, wH, news, _, ?_, WO tq hy h7, tk.2, h9, tc, rfl⟩
     ·rw [<- tq.look x hx]; exact h1
     ·rw [<- tq.look y hy]; exact h2
     ·unfold VK; rw [tB]
      exact ⟨rows, tq.same hx tB (by simp [At.ref]) ho (by simp), u7, hlen, holds, rfl⟩
   ·exact h6.elim
  ·rename_i f hc
   have tn : Jd o = false := by
    obtain ⟨cc, ca, ct⟩ := c
    simp only at hc; subst hc
    simp [Jd, wA]
   rcases hs with ⟨own, res, nO, rfl⟩ | ⟨res, nO, hf, rfl⟩ | ⟨rows, res, qs, ha, gS, hq, hf, rfl⟩
   ·refine ⟨.put _, rfl, SE hg hd (fun u _ hr => by rw [Lf] at hr; cases hr) (fun σ wk => ?_)⟩
    rw [wA] at wk
    unfold Step; rw [wA]
    simp only [hc]
    exact .inl ⟨own, res, Uc (SR wk) nO, rfl⟩
   ·refine ⟨.new _ _, rfl, kE hg hd tn hf (fun u hu hr => ?_) (fun σ wk tk => ?_)⟩
    ·rw [N6 hu, MC] at hr; cases hr
    ·rw [wA] at wk
     unfold Step; rw [wA]
     simp only [hc]
     exact .inr (.inl ⟨res, Uc (SR wk) nO, tk, rfl⟩)
   ·refine ⟨.new _ _, rfl, kE hg hd tn hf (fun u hu hr => ?_) (fun σ wk tk => ?_)⟩
    ·rw [N6 hu, KJ] at hr; cases hr
    ·rw [wA] at wk
     unfold Step; rw [wA]
     simp only [hc]
     exact .inr (.inr ⟨rows, res, qs, xu (SR wk) ha, gS, hq, tk, rfl⟩)
  ·rename_i h1 h2
   refine vi hs (fun σ v hv => ?_)
   unfold Step; rw [wA]
   simp only
   exact ⟨v, by rw [wA] at hv; exact hv, rfl⟩
 ·rename_i S T x wA
  rcases hs with hs | ⟨l, h1, h2, h3, h4, rfl⟩ | ⟨s, h1, h2, h3, h4, h5, rfl⟩
  ·refine vi hs (fun σ v hv => ?_)
   unfold Step; rw [wA]
   exact .inl ⟨v, by rw [wA] at hv; exact hv, rfl⟩
  ·refine ⟨.put _, rfl, SE hg hd (fun u _ hr => by cases hr) (fun σ wk => ?_)⟩
   have hx : x ∈ o.op.operands.toList := by simp [wA, Op.operands]
   unfold Step; rw [wA]
   exact .inr (.inl ⟨l, by rw [<- wk.look x hx]; exact h1, h2, h3, WO wk hx h4, rfl⟩)
  ·refine ⟨.put _, rfl, SE hg hd (fun u _ hr => by cases hr) (fun σ wk => ?_)⟩
   have hx : x ∈ o.op.operands.toList := by simp [wA, Op.operands]
   unfold Step; rw [wA]
   exact .inr (.inr ⟨s, by rw [<- wk.look x hx]; exact h1, h2, h3, by rw [<- wk.look x hx]; exact h4, h5, rfl⟩)
 ·rename_i n1 n2 n3 n4 n5 n6
  refine vi hs (fun σ v hv => ?_)
  unfold Step
  split
  ·rename_i T wA; exact absurd wA (n1 T)
  ·rename_i T x wA; exact absurd wA (n2 T x)
  ·rename_i T n ps wA; exact absurd wA (n3 T n ps)
  ·rename_i T x y wA; exact absurd wA (n4 T x y)
  ·rename_i c wA; exact absurd wA (n5 c)
  ·rename_i S T x wA; exact absurd wA (n6 S T x)
  ·exact ⟨v, hv, rfl⟩
end
end Go.Vm
namespace Go.Vm
open Go.RowKit
theorem Xh {σ : St} {d : Nat} : σ.fresh d = true ↔ d < σ.length /\ ∀ t e, σ[t]? = some e -> t ≠ d -> e.1.ref d = false /\ Yf d e.2 = false := by
 unfold St.fresh
 rw [Bool.and_eq_true, decide_eq_true_eq]
 refine and_congr_right fun _ => ⟨fun h t e he wE => Ko h t e he (by omega), fun h => ?_⟩
 have : ∀ (σ : St) (k : Nat), (∀ t e, σ[t]? = some e -> k + t ≠ d -> e.1.ref d = false /\ Yf d e.2 = false) -> J8 d k σ = true := by
  intro σ
  induction σ with
  | nil => intro k _; rfl
  | cons e σ ih =>
   intro k hk
   simp only [J8, Bool.and_eq_true, Bool.or_eq_true, beq_iff_eq, Bool.not_eq_true']
   refine ⟨?_, ih (k + 1) fun t e' he wE => hk (t + 1) e' (by simpa using he) (by omega)⟩
   by_cases h0 : k = d
   ·exact .inl h0
   ·exact .inr (hk 0 e (by simp) (by omega))
 exact this σ 0 (fun t e he wE => h t e he (by omega))
theorem NO {σ : St} {t : Nat} {e : Ent} (h : σ[t]? = some e) (j : Nat) : σ.ob t j = YO e.2 j := by unfold St.ob; rw [h]
theorem Uf {σ : St} {t j : Nat} {o : Ob} (h : σ.ob t j = o) (hn : o ≠ .none) : ∃ e, σ[t]? = some e /\ YO e.2 j = o := by
 unfold St.ob at h
 split at h
 ·rename_i e he; exact ⟨e, he, h⟩
 ·exact absurd h.symm hn
theorem Tq {u : Nat} : ∀ {os : List Ob} {j : Nat} {cells : List At}, YO os j = .box cells -> YG u cells = true -> Yf u os = true
 | [], _, _, h, _ => by simp [YO] at h
 | o :: os, 0, cells, h, hr => by
  have : o = .box cells := h
  subst this
  simp [Yf, hr]
 | o :: os, j + 1, cells, h, hr => by
  have h' : YO os j = .box cells := by simpa [YO] using h
  have := Tq h' hr
  cases o <;> simp [Yf, this]
theorem zO {u s : Nat} {q : Bool} {r : List (List D)} : ∀ {os : List Ob} {j : Nat}, YO os j = .arr q s r -> Yf u (os.set j .none) = Yf u os
 | [], _, h => by simp [YO] at h
 | o :: os, 0, h => by
  have : o = .arr q s r := h
  subst this
  simp [Yf]
 | o :: os, j + 1, h => by
  have h' : YO os j = .arr q s r := by simpa [YO] using h
  have := zO (u := u) h'
  cases o <;> simp [Yf, this]
theorem RX {σ : St} {d : Nat} (h : Yx σ d = true) {e : Ent} (he : σ[d]? = some e) (u : Nat) : e.1.ref u = false /\ Yf u e.2 = false := by
 unfold Yx at h
 split at h
 ·rename_i h1; rw [he] at h1; cases h1; exact ⟨rfl, rfl⟩
 ·rename_i h1; rw [he] at h1; cases h1; exact ⟨rfl, rfl⟩
 ·cases h
section
variable {P : Program} {ops : Array Oper} {o x y : Oper} {d dx dy : Nat} {σ σ1 σ2 : St}
theorem jK (hd : o.dst = some d) (hs : Y1 P ops o σ1 σ2) : ∃ e : Eff, σ2 = e.ap d σ1 /\ On P ops o d σ1 e := by
 unfold Y1 at hs
 split at hs
 ·rename_i hg
  simp only [hd] at hs
  exact Em hg hd hs
 ·rename_i j want hg
  obtain ⟨dj, d', g, v, vo, wO, wR, vx, hv, rfl⟩ := hs
  rw [hd] at wR; cases wR
  refine ⟨.put (.cnd g v), rfl, trivial, (fun t j v os h => by cases h), fun _ => ⟨_, rfl⟩, (fun h => by rw [hg] at h; cases h), fun σ wk _ => ?_⟩
  have vw : Operand.tmp dj ∈ KY ops o := by simp [KY, hg, vo]
  have vK : σ.get dj = σ1.get dj := (wk.look _ vw 0).symm
  unfold Y1
  simp only [hg]
  refine ⟨dj, d, g, v, vo, by rw [<- wk.len]; exact wO, hd, by rw [vK]; exact vx, fun rW => ?_, rfl⟩
  have uG := hv rW
  have sn := wk.left
  unfold Rl at uG ⊢
  split at uG
  ·rename_i c wA
   split at uG
   ·rename_i f hc
    obtain ⟨own, res, nO, rfl⟩ := uG
    rw [wA] at sn
    exact ⟨own, res, Uc (SR sn) nO, rfl⟩
   ·obtain ⟨v0, h1, h2⟩ := uG
    exact ⟨v0, qD h1 sn, h2⟩
  ·obtain ⟨v0, h1, h2⟩ := uG
   exact ⟨v0, qD h1 sn, h2⟩
theorem KA (e : Eff) : (e.ap d σ).length = σ.length := by
 cases e <;> simp [Eff.ap, St.Xx, St.xq, St.Y3]
theorem Rr (e : Eff) {t : Nat} (wE : t ≠ d) : (e.ap d σ).get t = σ.get t := by
 cases e with
 | put v => simp [Eff.ap, St.Jz, wE]
 | new v os => simp [Eff.ap, St.kS, wE]
 | drop a j v os => simp [Eff.ap, St.kS, St.Xp, wE]
theorem FZ {t u : Nat} (h : (σ.get t).ref u = true) : ∃ e, σ[t]? = some e /\ e.1.ref u = true := by
 unfold St.get at h
 split at h
 ·rename_i e he; exact ⟨e, he, h⟩
 ·cases h
end
end Go.Vm
namespace Go.Vm
open Go.RowKit
section
variable {P : Program} {ops : Array Oper} {x y : Oper} {dx dy : Nat} {σ σ1 σ2 : St}
theorem Jv {d : Nat} (hf : ∀ t e, σ[t]? = some e -> t ≠ d -> e.1.ref d = false) {z : Operand} (hz : z ≠ .tmp d) (ty : TypeId) : (look P σ ty z).ref d = false := by
 cases z with
 | tmp t =>
  have wE : t ≠ d := fun h => hz (by rw [h])
  cases hr : (look P σ ty (.tmp t)).ref d with
  | false => rfl
  | true =>
   obtain ⟨e, he, vS⟩ := FZ (σ := σ) (t := t) hr
   rw [hf t e he wE] at vS; cases vS
 | const v => exact Wr ty v d
 | global g => rfl
 | func f => rfl
theorem look_eq {d : Nat} (hg : ∀ t, t ≠ d -> σ1.get t = σ.get t) {z : Operand} (hz : z ≠ .tmp d) (ty : TypeId) : look P σ1 ty z = look P σ ty z := by
 cases z with
 | tmp t => exact hg t (fun h => hz (by rw [h]))
 | const v => rfl
 | global g => rfl
 | func f => rfl
theorem xN {e : Eff} {d : Nat} (h : e.ok d σ) (wE : ∀ v, e ≠ .put v) : ∀ t en, σ[t]? = some en -> t ≠ d -> en.1.ref d = false := by
 intro t en he ht
 cases e with
 | put v => exact absurd rfl (wE v)
 | new v os => exact ((Xh.1 h).2 t en he ht).1
 | drop a j v os =>
  have := (Xh.1 h.2).2 t
  rw [Xq] at this
  by_cases s9 : t = a
  ·rw [if_pos s9, he] at this
   exact (this _ rfl ht).1
  ·rw [if_neg s9] at this
   exact (this en he ht).1
theorem T6 {e : Eff} {d : Nat} (h : e.ok d σ) (wE : ∀ v, e ≠ .put v) : ∀ t en, σ[t]? = some en -> t ≠ d -> Yf d en.2 = false := by
 intro t en he ht
 cases e with
 | put v => exact absurd rfl (wE v)
 | new v os => exact ((Xh.1 h).2 t en he ht).2
 | drop a j v os =>
  obtain ⟨⟨q, s, r, ho⟩, hf⟩ := h
  have := (Xh.1 hf).2 t
  rw [Xq] at this
  by_cases s9 : t = a
  ·rw [if_pos s9, he] at this
   have h2 := (this _ rfl ht).2
   subst s9
   rw [NO he] at ho
   rw [zO ho] at h2
   exact h2
  ·rw [if_neg s9] at this
   exact (this en he ht).2
theorem D6 {e : Eff} {d : Nat} (h : e.ok d σ) (wE : ∀ v, e ≠ .put v) : d < σ.length := by
 cases e with
 | put v => exact absurd rfl (wE v)
 | new v os => exact (Xh.1 h).1
 | drop a j v os => have := (Xh.1 h.2).1; rwa [St.Y3] at this
theorem G7 {e : Eff} {d : Nat} (h : e.ok d σ) {u j : Nat} (hu : (∀ v, e ≠ .put v) -> u ≠ d) (hn : (e.ap d σ).ob u j ≠ .none) : σ.ob u j = (e.ap d σ).ob u j := by
 cases e with
 | put v => simp only [Eff.ap, St.Xw]
 | new v os =>
  have := hu (by intro v h; cases h)
  simp only [Eff.ap, St.QE, this, false_and, if_false]
 | drop a k v os =>
  have rZ := hu (by intro v h; cases h)
  obtain ⟨⟨q, s, r, ho⟩, _⟩ := h
  simp only [Eff.ap, St.QE, rZ, false_and, if_false] at hn ⊢
  rw [St.XH σ a k _ u j (by rw [ho]; simp)] at hn ⊢
  split at hn
  ·exact absurd rfl hn
  ·rename_i hh; rw [if_neg hh]
theorem S4 {e : Eff} {d : Nat} (vB : ∀ t j v os, e ≠ .drop t j v os) {u j : Nat} (hu : (∀ v, e ≠ .put v) -> u ≠ d) : (e.ap d σ).ob u j = σ.ob u j := by
 cases e with
 | put v => simp only [Eff.ap, St.Xw]
 | new v os =>
  have := hu (by intro v h; cases h)
  simp only [Eff.ap, St.QE, this, false_and, if_false]
 | drop a k v os => exact absurd rfl (vB a k v os)
theorem Ed {e : Eff} {d t : Nat} {en : Ent} (we : e.ok d σ) (ht : t ≠ d) (he : (e.ap d σ)[t]? = some en) : ∃ lY, σ[t]? = some lY /\ lY.1 = en.1 /\ ∀ u, Yf u lY.2 = Yf u en.2 := by
 cases e with
 | put v => simp only [Eff.ap, y0, if_neg ht] at he; exact ⟨en, he, rfl, fun _ => rfl⟩
 | new v os => simp only [Eff.ap, KO, if_neg ht] at he; exact ⟨en, he, rfl, fun _ => rfl⟩
 | drop a j v os =>
  simp only [Eff.ap, KO, if_neg ht, Xq] at he
  split at he
  ·rename_i s9
   subst s9
   obtain ⟨⟨q, s, r, ho⟩, _⟩ := we
   obtain ⟨e0, tX, vI⟩ := Uf ho (by simp)
   rw [tX] at he
   simp at he
   subst he
   exact ⟨e0, tX, rfl, fun u => (zO vI).symm⟩
  ·exact ⟨en, he, rfl, fun _ => rfl⟩
theorem swap (vv : x.dst = some dx) (uH : y.dst = some dy) (wE : dx ≠ dy) (tQ : ∀ z ∈ KY ops y, z ≠ .tmp dx) (s8 : ∀ z ∈ KY ops x, z ≠ .tmp dy) (vB : jb y = false) (lA : y.guard = none \/ Jd x = true \/ x.guard.isSome = true)
  (wq : Yx σ dx = true) (h1 : Y1 P ops x σ σ1) (h2 : Y1 P ops y σ1 σ2) : ∃ σ1', Y1 P ops y σ σ1' /\ Y1 P ops x σ1' σ2 := by
 obtain ⟨ex, rfl, sI, sk, nP, _, gM⟩ := jK vv h1
 obtain ⟨ey, rfl, gN, nQ, _, lH, gO⟩ := jK uH h2
 have o8 : ∀ t j v os, ey ≠ .drop t j v os := by
  intro t j v os h
  have := (nQ t j v os h).1
  rw [vB] at this; cases this
 have lO : Sub P (KY ops y) (ex.ap dx σ) σ := by
  refine ⟨KA ex, fun z hz ty => look_eq (fun t ht => Rr ex ht) (tQ z hz) ty, fun z hz ty u hr j hn => ?_⟩
  refine G7 sI (fun uJ hu => ?_) hn
  subst hu
  rw [look_eq (fun t ht => Rr ex ht) (tQ z hz) ty, Jv (xN sI uJ) (tQ z hz)] at hr
  cases hr
 have pR : ey.ok dy σ := by
  cases ey with
  | put v => trivial
  | drop a j v os => exact absurd rfl (o8 a j v os)
  | new v os =>
   have hf := Xh.1 gN
   refine Xh.2 ⟨by rw [<- KA ex (d := dx)]; exact hf.1, fun t e he ht => ?_⟩
   by_cases po : t = dx
   ·subst po; exact RX wq he dy
   ·cases ex with
    | put v' => exact hf.2 t e (by simp only [Eff.ap, y0, if_neg po]; exact he) ht
    | new v' pJ => exact hf.2 t e (by simp only [Eff.ap, KO, if_neg po]; exact he) ht
    | drop a j v' pJ =>
     obtain ⟨⟨q, s, r, ho⟩, _⟩ := sI
     by_cases s9 : t = a
     ·subst s9
      have := hf.2 t (e.1, e.2.set j .none) (by simp only [Eff.ap, KO, if_neg po, Xq, if_true, he, Option.map_some]) ht
      rw [NO he] at ho
      rw [zO ho] at this
      exact this
     ·exact hf.2 t e (by simp only [Eff.ap, KO, if_neg po, Xq, if_neg s9]; exact he) ht
 have nR := gO σ lO pR
 have nS : Sub P (KY ops x) σ (ey.ap dy σ) := by
  refine ⟨(KA ey).symm, fun z hz ty => (look_eq (fun t ht => Rr ey ht) (s8 z hz) ty).symm, fun z hz ty u hr j hn => ?_⟩
  refine S4 o8 (fun uJ hu => ?_)
  subst hu
  rw [Jv (xN pR uJ) (s8 z hz)] at hr
  cases hr
 have lP : (∀ v, ex ≠ .put v) -> ey.ref dx = false := by
  intro uJ
  have hg : y.guard = none := by
   rcases lA with h | h
   ·exact h
   ·obtain ⟨v, hv⟩ := nP h; exact absurd hv (uJ v)
  cases hr : ey.ref dx with
  | false => rfl
  | true =>
   obtain ⟨z, hz, ty, vC⟩ := lH hg dx wE hr
   have hl : look P (ex.ap dx σ) ty z = look P σ ty z := look_eq (fun t ht => Rr ex ht) (tQ z hz) ty
   rw [hl] at vC
   rcases vC with vC | ⟨t', cells, mh, ho, hc⟩
   ·rw [Jv (xN sI uJ) (tQ z hz)] at vC; cases vC
   ·have po : t' ≠ dx := by
     intro h; subst h
     rw [Jv (xN sI uJ) (tQ z hz)] at mh; cases mh
    have wY : σ.ob t' 0 = .box cells := by rw [G7 sI (fun _ => po) (by rw [ho]; simp), ho]
    obtain ⟨en, lI, lJ⟩ := Uf wY (by simp)
    have := T6 sI uJ t' en lI po
    rw [Tq lJ hc] at this; cases this
 have entries : (∀ v, ex ≠ .put v) -> ∀ t e, (ey.ap dy σ)[t]? = some e -> t ≠ dx -> e.1.ref dx = false /\ Yf dx e.2 = false := by
  intro uJ t e he ht
  have hy := lP uJ
  by_cases ue : t = dy
  ·subst ue
   cases ey with
   | put v =>
    simp only [Eff.ap, y0, if_true, Option.map_eq_some_iff] at he
    obtain ⟨e0, tX, rfl⟩ := he
    exact ⟨hy, T6 sI uJ t e0 tX ht⟩
   | new v os =>
    simp only [Eff.ap, KO, if_true, Option.map_eq_some_iff] at he
    obtain ⟨e0, tX, rfl⟩ := he
    simp only [Eff.ref, Bool.or_eq_false_iff] at hy
    exact hy
   | drop a j v os => exact absurd rfl (o8 a j v os)
  ·obtain ⟨e0, tX, h1, h2⟩ := Ed pR ue he
   rw [<- h1, <- h2]
   exact ⟨xN sI uJ t e0 tX ht, T6 sI uJ t e0 tX ht⟩
 have lQ : ex.ok dx (ey.ap dy σ) := by
  cases ex with
  | put v => trivial
  | new v os =>
   have uJ : ∀ v', Eff.new v os ≠ .put v' := by intro v' h; cases h
   exact Xh.2 ⟨by rw [KA]; exact D6 sI uJ, entries uJ⟩
  | drop a j v os =>
   have uJ : ∀ v', Eff.drop a j v os ≠ .put v' := by intro v' h; cases h
   obtain ⟨z, hz, ty, hr⟩ := (sk a j v os rfl).2
   obtain ⟨q, s, r, ho⟩ := sI.1
   have wY : (ey.ap dy σ).ob a j = .arr q s r := by rw [<- ho]; exact nS.ob z hz ty a hr j (by rw [ho]; simp)
   refine ⟨⟨q, s, r, wY⟩, Xh.2 ⟨by rw [St.Y3, KA]; exact D6 sI uJ, fun t e he ht => ?_⟩⟩
   rw [Xq] at he
   split at he
   ·rename_i s9
    subst s9
    obtain ⟨e0, tX, vI⟩ := Uf wY (by simp)
    rw [tX] at he; simp at he; subst he
    have := entries uJ t e0 tX ht
    exact ⟨this.1, by rw [zO vI]; exact this.2⟩
   ·exact entries uJ t e he ht
 refine ⟨_, nR, ?_⟩
 have := gM _ nS lQ
 have heq : ex.ap dx (ey.ap dy σ) = ey.ap dy (ex.ap dx σ) := by
  apply List.ext_getElem?
  intro t
  have ib := wE
  cases ex with
  | put v =>
   cases ey with
   | put v' => simp only [Eff.ap, y0]; by_cases h1 : t = dx <;> by_cases h2 : t = dy <;> simp_all
   | new v' pJ => simp only [Eff.ap, y0, KO]; by_cases h1 : t = dx <;> by_cases h2 : t = dy <;> simp_all
   | drop a j v' pJ => exact absurd rfl (o8 a j v' pJ)
  | new v os =>
   cases ey with
   | put v' => simp only [Eff.ap, y0, KO]; by_cases h1 : t = dx <;> by_cases h2 : t = dy <;> simp_all
   | new v' pJ => simp only [Eff.ap, KO]; by_cases h1 : t = dx <;> by_cases h2 : t = dy <;> simp_all
   | drop a j v' pJ => exact absurd rfl (o8 a j v' pJ)
  | drop a j v os =>
   obtain ⟨z, hz, ty, hr⟩ := (sk a j v os rfl).2
   cases ey with
   | put v' =>
    simp only [Eff.ap, y0, KO, Xq]
    by_cases h1 : t = dx <;> by_cases h2 : t = dy <;> by_cases h3 : t = a <;> simp_all
    all_goals (first | (cases σ[dy]? <;> rfl) | (cases σ[t]? <;> rfl) | (cases σ[a]? <;> rfl))
   | new v' pJ =>
    have eM : a ≠ dy := by
     intro h; subst h
     rw [Jv (xN pR (by intro v h; cases h)) (s8 z hz)] at hr; cases hr
    simp only [Eff.ap, KO, Xq]
    by_cases h1 : t = dx <;> by_cases h2 : t = dy <;> by_cases h3 : t = a <;> simp_all
   | drop a' j' v' pJ => exact absurd rfl (o8 a' j' v' pJ)
 rw [<- heq]
 exact this
end
end Go.Vm
namespace Go.Vm
open Go.RowKit
def Hl (ops : Array Oper) (bar : Oper -> Bool) (x y : Oper) : Bool := !bar x && !bar y &&
 (match x.dst, y.dst with
 | some dx, some dy => dx != dy && !(KY ops y).any (Kd dx) && !(KY ops x).any (Kd dy) && !jb y && (y.guard.isNone || Jd x || x.guard.isSome)
 | _, _ => false)
def H0 (bar : Oper -> Bool) (x y : Oper) : Bool := !bar x && !bar y && x.guard.isNone && y.guard.isNone &&
 (match x.dst, y.dst, y.op with
 | some dx, none, .store _ p q => (match x.op with | .move _ => true | .assign _ => true | .extract _ _ => true | _ => false) && !Kd dx p && !Kd dx q
 | _, _, _ => false)
def HP (bar : Oper -> Bool) (x y : Oper) : Bool := !bar x && bar y && x.guard.isNone && V4 y && y.guard.isNone && y.dst.isNone &&
 (match x.dst with
 | some dx => (match x.op with | .move _ => true | .assign _ => true | .extract _ _ => true | _ => false) && qh y dx
 | none => false)
def Sl (PT : List (Nat × Nat)) (σ : St) : Prop := ∀ p ∈ PT, σ.get p.1 = .any \/ ∃ c, unc (σ.get p.1) = .one (.bptr p.2 c)
def ptB (PT : List (Nat × Nat)) (σ : St) : Bool := PT.all fun p => match σ.get p.1 with | .any => true | v => (match unc v with | .one (.bptr b _) => b == p.2 | _ => false)
def Hb (ops : Array Oper) (PT : List (Nat × Nat)) : Bool := ops.toList.all fun o => match o.dst with
 | none => true
 | some d => PT.all fun p => p.1 != d || (o.guard.isNone && (match o.op with | .fieldAddr _ (.tmp r) _ => PT.contains (r, p.2) | .move (.tmp r) => PT.contains (r, p.2) | _ => false))
def Ut (PT : List (Nat × Nat)) (b : Nat) : Op -> Bool
 | .load _ (.tmp t) => PT.any fun r => r.1 == t && r.2 != b
 | .fieldAddr _ _ _ => true
 | .move _ => true
 | .assign _ => true
 | .extract _ _ => true
 | .binOp _ _ _ _ _ => true
 | .call ⟨.builtin .len, ⟨[_]⟩, ⟨[_]⟩⟩ => true
 | _ => false
def swapT (PT : List (Nat × Nat)) (bar : Oper -> Bool) (x y : Oper) : Bool := !bar x && !bar y && x.guard.isNone && y.guard.isNone &&
 (match x.dst, y.dst, y.op with
 | some dx, none, .store _ (.tmp tp) q => tp != dx && !Kd dx q && PT.any fun p => p.1 == tp && Ut PT p.2 x.op
 | _, _, _ => false)
def C9 (NB : List Nat) (σ : St) : Prop := ∀ t ∈ NB, ∀ b c, unc (σ.get t) ≠ .one (.bptr b c)
def Mn (PT : List (Nat × Nat)) (NB : List Nat) (σ : St) : Prop := Sl PT σ /\ C9 NB σ
def Ht (PT : List (Nat × Nat)) (NB : List Nat) (bar : Oper -> Bool) (x y : Oper) : Bool := !bar x && bar y && x.guard.isNone && V4 y && y.guard.isNone && y.dst.isNone &&
 (match x.dst, y.op with
 | some dx, .store _ (.tmp tp) q => NB.contains tp && tp != dx && !Kd dx q && (match x.op with | .load _ (.tmp t) => PT.any fun r => r.1 == t | .fieldAddr _ (.tmp t) _ => PT.any fun r => r.1 == t | _ => false)
 | _, _ => false)
def GI (PT : List (Nat × Nat)) : Op -> Bool
 | .move _ => true
 | .load _ (.tmp t) => PT.any fun r => r.1 == t
 | .fieldAddr _ (.tmp _) _ => true
 | .slice _ (.tmp _) _ _ none => true
 | _ => false
def HF (PT : List (Nat × Nat)) (ops : Array Oper) (bar : Oper -> Bool) (x y : Oper) : Bool := bar x && !bar y && jg x && x.guard.isNone && y.guard.isNone && GI PT y.op &&
 (match x.dst, y.dst with
 | some dx, some dy => dx != dy && !(KY ops y).any (Kd dx) && !(KY ops x).any (Kd dy)
 | _, _ => false)
def Iq (PT : List (Nat × Nat)) (o : Oper) : Option Nat := match o.op with | .call ⟨.value (.func _), ⟨.tmp z :: _⟩, _⟩ => (PT.find? (fun p => p.1 == z)).map (·.2) | _ => none
def Cj : Operand -> Bool
 | .const _ => true
 | _ => false
def Rs (PT : List (Nat × Nat)) (y x : Oper) : Bool := (x.op.operands.toList.all Cj && !jb x) || (match Iq PT y with | some b => Ut PT b x.op | none => false)
def Hx (P : Program) (PT : List (Nat × Nat)) (ops : Array Oper) (bar : Oper -> Bool) (x y : Oper) : Bool := x.guard.isNone && y.guard.isNone && Ou bar x && Ou bar y && (match x.dst, y.dst with
 | some dx, some dy => dx != dy && !(KY ops y).any (Kd dx) && !(KY ops x).any (Kd dy) && ((!bar x && bar y && KG P y && Rs PT y x) || (bar x && KG P x && !bar y && Rs PT x y))
 | _, _ => false)
def SL (o : Oper) (j : Nat) : Bool := o.after.any fun e => e.on == j && Region.binds .any e
def S9 : List Oper -> List Nat -> List Nat
 | [], acc => acc
 | o :: rest, acc => S9 rest (acc ++ [o.after.toList.foldl (fun m e => if Region.binds .any e then m ||| (1 <<< e.on) ||| acc.getD e.on 0 else m) 0])
def FE (ms : List Nat) (i j : Nat) : Bool := (ms.getD i 0).testBit j
inductive Pre (ops : Array Oper) : Nat -> Nat -> Prop
 | one {i j : Nat} {o : Oper} (ho : ops[i]? = some o) (hp : SL o j = true) : Pre ops i j
 | more {i m j : Nat} {o : Oper} (ho : ops[i]? = some o) (hp : SL o m = true) (h : Pre ops m j) : Pre ops i j
theorem LZ {ops : Array Oper} : ∀ {l : List Oper} {acc : List Nat}, (∀ k o, l[k]? = some o -> ops[acc.length + k]? = some o) -> (∀ i j, (acc.getD i 0).testBit j = true -> Pre ops i j) -> ∀ i j, FE (S9 l acc) i j = true -> Pre ops i j
 | [], acc, _, ha, i, j, h => ha i j h
 | o :: rest, acc, hl, ha, i, j, h => by
  refine LZ (l := rest) (fun k o' hk => ?_) (fun i j rK => ?_) i j h
  ·have := hl (k + 1) o' (by simpa using hk)
   rw [List.length_append, List.length_singleton, Nat.add_assoc, Nat.add_comm 1 k]; exact this
  ·rw [List.getD_eq_getElem?_getD] at rK
   rcases Nat.lt_trichotomy i acc.length with wO | heq | rW
   ·rw [List.getElem?_append_left wO, <- List.getD_eq_getElem?_getD] at rK
    exact ha i j rK
   ·subst heq
    rw [List.getElem?_append_right (Nat.le_refl _)] at rK
    simp only [Nat.sub_self, List.getElem?_cons_zero, Option.getD_some] at rK
    have ho := hl 0 o (by simp)
    rw [Nat.add_zero] at ho
    have key : ∀ (es : List Edge) (m : Nat), (∀ e ∈ es, e ∈ o.after) -> (∀ j, m.testBit j = true -> Pre ops acc.length j) -> ∀ j, (es.foldl (fun m e => if Region.binds .any e then m ||| (1 <<< e.on) ||| acc.getD e.on 0 else m) m).testBit j = true -> Pre ops acc.length j := by
     intro es
     induction es with
     | nil => intro m _ hm j hj; exact hm j hj
     | cons e es ih =>
      intro m iY hm j hj
      refine ih _ (fun e' nK => iY e' (by simp [nK])) (fun j hj => ?_) j hj
      by_cases hb : Region.binds .any e = true
      ·simp only [hb, if_true] at hj
       have hp : SL o e.on = true := by
        unfold SL
        rw [<- Array.any_toList]
        exact List.any_eq_true.2 ⟨e, by simpa using iY e (by simp), by simp [hb]⟩
       rw [Nat.testBit_or, Nat.testBit_or, Bool.or_eq_true, Bool.or_eq_true] at hj
       rcases hj with (hj | hj) | hj
       ·exact hm j hj
       ·rw [Nat.testBit_shiftLeft] at hj
        simp only [Bool.and_eq_true, decide_eq_true_eq] at hj
        have h1 : j - e.on = 0 := by
         have := hj.2
         rw [show (1 : Nat) = 2 ^ 0 from rfl, Nat.testBit_two_pow] at this
         have h3 : 0 = j - e.on := by simpa using this
         omega
        have : j = e.on := by omega
        subst this
        exact .one ho hp
       ·exact .more ho hp (ha e.on j hj)
      ·simp only [hb, Bool.false_eq_true, if_false] at hj; exact hm j hj
    exact key o.after.toList 0 (fun e he => by simpa using he) (fun j hj => by simp at hj) j rK
   ·rw [List.getElem?_eq_none (by simp; omega)] at rK
    simp at rK
def Ho (ops : Array Oper) (i j : Nat) : Bool := FE (S9 ops.toList []) i j
theorem Fo {ops : Array Oper} {i j : Nat} (h : Ho ops i j = true) : Pre ops i j :=
 LZ (l := ops.toList) (acc := []) (fun k o hk => by simpa using hk) (fun i j h => by simp at h) i j h
def Dr (P : Program) (ops : Array Oper) (bar : Oper -> Bool) (PT : List (Nat × Nat)) (NB : List Nat) (ms : List Nat) (i j : Nat) : Bool := match ops[i]?, ops[j]? with | some oi, some oj => FE ms i j || Hl ops bar oj oi || H0 bar oj oi || swapT PT bar oj oi || HP bar oj oi || HF PT ops bar oj oi || Ht PT NB bar oj oi || Hx P PT ops bar oj oi | _, _ => false
def D3 (ops : Array Oper) (pos : Nat -> Nat) (i : Nat) : Bool := match ops[i]? with | some o => o.after.all fun e => !Region.binds .any e || (decide (pos e.on < pos i) && decide (e.on < ops.size)) | none => false
def FN (ops : Array Oper) (j : Nat) : Bool := match ops[j]? with
 | some o => (match o.dst with | some d => (List.range ops.size).all fun k => k == j || (match ops[k]? with | some q => q.dst != some d | none => true) | none => false)
 | none => false
def IU (ops : Array Oper) (pos : Nat -> Nat) (ms : List Nat) (j : Nat) : Bool := (List.range ops.size).any fun i => decide (pos j < pos i) && !FE ms i j
def UC (ops : Array Oper) (pos : Nat -> Nat) (j : Nat) : Bool := IU ops pos (S9 ops.toList []) j
def FH (P : Program) (ops : Array Oper) (pos : Nat -> Nat) (bar : Oper -> Bool) (PT : List (Nat × Nat)) (NB : List Nat) (ms : List Nat) : Bool :=
 (List.range ops.size).all fun i => D3 ops pos i && ((List.range ops.size).all fun j => !decide (pos j < pos i) || Dr P ops bar PT NB ms i j) && (!IU ops pos ms i || FN ops i)
def SO (P : Program) (ops : Array Oper) (pos : Nat -> Nat) (bar : Oper -> Bool) : Bool := FH P ops pos bar [] [] (S9 ops.toList [])
def K9 (ops : Array Oper) (pos : Nat -> Nat) (σ : St) : Bool :=
 let ms := S9 ops.toList []
 (List.range ops.size).all fun j => !IU ops pos ms j || (match (ops[j]?).bind (·.dst) with | some d => Yx σ d | none => false)
theorem jE {xs : List Operand} {d : Nat} (h : xs.any (Kd d) = false) : ∀ z ∈ xs, z ≠ .tmp d := by
 intro z hz he
 subst he
 have := List.any_eq_false.1 h _ hz
 simp [Kd] at this
theorem GN {ops : Array Oper} {bar : Oper -> Bool} {x y : Oper} (h : Hl ops bar x y = true) : bar x = false /\ bar y = false /\ ∃ dx dy, x.dst = some dx /\ y.dst = some dy /\ dx ≠ dy /\ (∀ z ∈ KY ops y, z ≠ .tmp dx) /\ (∀ z ∈ KY ops x, z ≠ .tmp dy) /\ jb y = false /\ (y.guard = none \/ Jd x = true \/ x.guard.isSome = true) := by
 unfold Hl at h
 rw [Bool.and_eq_true, Bool.and_eq_true] at h
 obtain ⟨⟨vW, wm⟩, h⟩ := h
 refine ⟨by simpa using vW, by simpa using wm, ?_⟩
 split at h
 ·rename_i dx dy h1 h2
  simp only [Bool.and_eq_true, bne_iff_ne, ne_eq, Bool.not_eq_true', Bool.or_eq_true, Option.isNone_iff_eq_none] at h
  exact ⟨dx, dy, h1, h2, h.1.1.1.1, jE h.1.1.1.2, jE h.1.1.2, h.1.2, or_assoc.1 h.2⟩
 ·cases h
theorem Jq {P : Program} {σ : St} {t j : Nat} {o : Ob} {T : TypeId} {x : Operand} : look P (σ.Zt t j o) T x = look P σ T x := by
 cases x with
 | tmp u => simp [look, St.Xp]
 | const c => rfl
 | global g => rfl
 | func f => rfl
theorem TF {σ : St} {d : Nat} {v : V} : ∀ (xs : List At), rowOf (σ.put d v) xs = rowOf σ xs
 | [] => rfl
 | x :: xs => by
  have : J0 (σ.put d v) x = J0 σ x := by cases x <;> simp [J0, St.Xw]
  simp only [rowOf, this, TF xs]
theorem Dg {P : Program} {ops : Array Oper} {bar : Oper -> Bool} {x y : Oper} {σ σ1 σ2 : St} (h : H0 bar x y = true) (w9 : Jy P ops bar x σ σ1) (wN : Jy P ops bar y σ1 σ2) : ∃ σ1', Y1 P ops y σ σ1' /\ Y1 P ops x σ1' σ2 := by
 unfold H0 at h
 simp only [Bool.and_eq_true, Bool.not_eq_true', Option.isNone_iff_eq_none] at h
 obtain ⟨⟨⟨⟨vW, wm⟩, sS⟩, ui⟩, h⟩ := h
 have w9 := w9.resolve_right (fun hh => by rw [vW] at hh; cases hh.1)
 have wN := wN.resolve_right (fun hh => by rw [wm] at hh; cases hh.1)
 split at h
 ·rename_i dx T p q vv uH wA
  simp only [Bool.and_eq_true, Bool.not_eq_true'] at h
  obtain ⟨⟨hv, hp⟩, hq⟩ := h
  unfold Y1 at w9 wN
  simp only [sS, vv] at w9
  simp only [ui, uH, wA] at wN
  have e1 : ∃ v, YH P σ x.op x.type v /\ σ1 = σ.put dx v := by
   unfold Step at w9
   cases hx : x.op <;> rw [hx] at w9 hv <;> first | exact w9 | (exact Bool.noConfusion hv)
  obtain ⟨v, uG, rfl⟩ := e1
  have vJ : ∀ (t j : Nat) (o : Ob), YH P (σ.Zt t j o) x.op x.type v := by
   intro t j o
   cases hx : x.op <;> rw [hx] at hv uG <;> first | (exact Bool.noConfusion hv) | (simp only [YH, Jq] at uG ⊢; exact uG)
  have nT : ∀ (t j : Nat) (o : Ob), Y1 P ops x (σ.Zt t j o) ((σ.put dx v).Zt t j o) := by
   intro t j o
   unfold Y1
   simp only [sS, vv]
   have := vJ t j o
   rw [zw]
   unfold Step
   cases hx : x.op <;> rw [hx] at hv this <;> first | exact ⟨v, this, rfl⟩ | (exact Bool.noConfusion hv)
  unfold z4 at wN
  rw [Yu hp, Yu hq] at wN
  obtain ⟨k1, k2, k3, k4, wN⟩ := wN
  split at wN
  ·rename_i t c hl
   obtain ⟨cells, c1, c2, c3, rfl⟩ := wN
   rw [St.Xw] at c1
   refine ⟨_, ?_, nT _ _ _⟩
   unfold Y1 z4
   simp only [ui, uH, wA]
   refine ⟨k1, k2, k3, k4, ?_⟩
   rw [hl]
   exact ⟨cells, c1, c2, c3, rfl⟩
  ·rename_i t j i c hl
   obtain ⟨q', size, rows, ds, c1, c2, c3, c4, c5, c6, c7, rfl⟩ := wN
   rw [St.Xw] at c1
   rw [TF] at c3
   refine ⟨_, ?_, nT _ _ _⟩
   unfold Y1 z4
   simp only [ui, uH, wA]
   refine ⟨k1, k2, k3, k4, ?_⟩
   rw [hl]
   exact ⟨q', size, rows, ds, c1, c2, c3, c4, c5, c6, c7, rfl⟩
  ·exact wN.elim
 ·cases h
theorem zI {P : Program} {σ : St} {T : TypeId} {t : Nat} : look P σ T (.tmp t) = σ.get t := rfl
theorem U9 {P : Program} {PT : List (Nat × Nat)} {b : Nat} {o : Oper} {op : Op} {d : Nat} {σ σ' : St} (ho : o.op = op) (h : Ut PT b op = true) : Step P o d σ σ' ↔ ∃ v, YH P σ op o.type v /\ σ' = σ.put d v := by
 unfold Step
 rw [ho]
 unfold Ut at h
 split at h <;> first | exact Iff.rfl | (exact Bool.noConfusion h)
theorem Gv {P : Program} {PT : List (Nat × Nat)} {b : Nat} {op : Op} {ty : TypeId} {v : V} {σ : St} {cells cs : List At} (h : Ut PT b op = true) (hp : Sl PT σ) (c1 : σ.ob b 0 = .box cells) (hv : YH P σ op ty v) : YH P (σ.Zt b 0 (.box cs)) op ty v := by
 have wE : σ.ob b 0 ≠ .none := by rw [c1]; intro e; cases e
 have ho := fun u i => St.XH σ b 0 (.box cs) u i wE
 have vc : ∀ t j, (∃ q size rows, σ.ob t j = .arr q size rows) -> ∃ q size rows, (σ.Zt b 0 (.box cs)).ob t j = .arr q size rows := by
  rintro t j ⟨q, size, rows, e⟩
  by_cases hh : t = b /\ j = 0
  ·obtain ⟨rfl, rfl⟩ := hh; rw [c1] at e; cases e
  ·exact ⟨q, size, rows, by rw [ho, if_neg hh]; exact e⟩
 have ra : ∀ t j, (∃ size rows, σ.ob t j = .lit size rows) -> ∃ size rows, (σ.Zt b 0 (.box cs)).ob t j = .lit size rows := by
  rintro t j ⟨size, rows, e⟩
  by_cases hh : t = b /\ j = 0
  ·obtain ⟨rfl, rfl⟩ := hh; rw [c1] at e; cases e
  ·exact ⟨size, rows, by rw [ho, if_neg hh]; exact e⟩
 have pP : ∀ t, (∃ cells, σ.ob t 0 = .box cells) -> ∃ cells, (σ.Zt b 0 (.box cs)).ob t 0 = .box cells := by
  rintro t ⟨ce, e⟩
  by_cases hh : t = b
  ·subst hh; exact ⟨cs, by rw [ho, if_pos ⟨rfl, rfl⟩]⟩
  ·exact ⟨ce, by rw [ho, if_neg (fun gF => hh gF.1)]; exact e⟩
 unfold Ut at h
 split at h
 ·rename_i T t
  simp only [List.any_eq_true, Bool.and_eq_true, beq_iff_eq, bne_iff_ne, ne_eq] at h
  obtain ⟨r, gP, rfl, gQ⟩ := h
  simp only [YH, Jq] at hv ⊢
  refine ⟨hv.1, hv.2.1, ?_⟩
  have hv := hv.2.2
  rw [zI] at hv ⊢
  rcases hp r gP with e | ⟨c, e⟩
  ·rw [e] at hv; exact hv.elim
  ·rw [e] at hv ⊢
   obtain ⟨ce, e1, e2, e3⟩ := hv
   exact ⟨ce, by rw [ho, if_neg (fun hh => gQ hh.1)]; exact e1, e2, e3⟩
 ·simp only [YH, Jq] at hv ⊢
  refine ⟨hv.1, hv.2.1, ?_⟩
  have hv := hv.2.2
  split at hv
  ·rename_i e; first | exact ⟨pP _ hv.1, hv.2⟩ | (simp only [e]; exact ⟨pP _ hv.1, hv.2⟩)
  ·rename_i e; first | exact ⟨vc _ _ hv.1, hv.2⟩ | (simp only [e]; exact ⟨vc _ _ hv.1, hv.2⟩)
  ·rename_i e; first | exact hv | (simp only [e]; exact hv)
  ·rename_i e
   have hq : ∀ t j, (∃ size rows, σ.ob t j = .arr true size rows) -> ∃ size rows, (σ.Zt b 0 (.box cs)).ob t j = .arr true size rows := by
    rintro t j ⟨size, rows, e⟩
    by_cases hh : t = b /\ j = 0
    ·obtain ⟨rfl, rfl⟩ := hh; rw [c1] at e; cases e
    ·exact ⟨size, rows, by rw [ho, if_neg hh]; exact e⟩
   first | exact ⟨hq _ _ hv.1, hv.2⟩ | (simp only [e]; exact ⟨hq _ _ hv.1, hv.2⟩)
  ·exact hv.elim
 ·simp only [YH, Jq] at hv ⊢; exact hv
 ·simp only [YH, Jq] at hv ⊢; exact hv
 ·simp only [YH, Jq] at hv ⊢; exact hv
 ·simp only [YH, Jq] at hv ⊢; exact hv
 ·simp only [YH, Jq] at hv ⊢
  refine ⟨hv.1, ?_⟩
  have hv := hv.2
  split at hv
  ·rename_i e; first | exact hv | (simp only [e]; exact hv)
  ·rename_i e; first | exact hv | (simp only [e]; exact hv)
  ·rename_i e; first | exact hv | (simp only [e]; exact hv)
  ·rename_i e; first | exact ⟨hv.1, hv.2.1.imp (vc _ _) (ra _ _), hv.2.2⟩ | (simp only [e]; exact ⟨hv.1, hv.2.1.imp (vc _ _) (ra _ _), hv.2.2⟩)
  ·rename_i u j i c e
   obtain ⟨g1, size, rows, n, s, g2, g3⟩ := hv
   have g4 : (σ.Zt b 0 (.box cs)).ob u j = .arr true size rows := by
    rw [ho]
    by_cases hh : u = b /\ j = 0
    ·obtain ⟨rfl, rfl⟩ := hh; rw [c1] at g2; cases g2
    ·rw [if_neg hh]; exact g2
   first | exact ⟨g1, size, rows, n, s, g4, g3⟩ | (simp only [e]; exact ⟨g1, size, rows, n, s, g4, g3⟩)
  ·exact hv.elim
 ·exact Bool.noConfusion h
theorem CH {P : Program} {ops : Array Oper} {bar : Oper -> Bool} {PT : List (Nat × Nat)} {x y : Oper} {σ σ1 σ2 : St} (h : swapT PT bar x y = true) (hp : Sl PT σ) (w9 : Jy P ops bar x σ σ1) (wN : Jy P ops bar y σ1 σ2) : ∃ σ1', Y1 P ops y σ σ1' /\ Y1 P ops x σ1' σ2 := by
 unfold swapT at h
 simp only [Bool.and_eq_true, Bool.not_eq_true', Option.isNone_iff_eq_none] at h
 obtain ⟨⟨⟨⟨vW, wm⟩, sS⟩, ui⟩, h⟩ := h
 have w9 := w9.resolve_right (fun hh => by rw [vW] at hh; cases hh.1)
 have wN := wN.resolve_right (fun hh => by rw [wm] at hh; cases hh.1)
 split at h
 ·rename_i dx T tp q vv uH wA
  simp only [Bool.and_eq_true, Bool.not_eq_true', List.any_eq_true, beq_iff_eq, bne_iff_ne, ne_eq] at h
  obtain ⟨⟨wE, hq⟩, p, oK, uW, hv⟩ := h
  have w6 : Kd dx (.tmp tp) = false := by simp [Kd, wE]
  unfold Y1 at w9 wN
  simp only [sS, vv] at w9
  simp only [ui, uH, wA] at wN
  obtain ⟨v, uG, rfl⟩ := (U9 rfl hv).1 w9
  unfold z4 at wN
  rw [Yu w6, Yu hq, zI] at wN
  obtain ⟨k1, k2, k3, k4, wN⟩ := wN
  have uR := hp p oK
  rw [uW] at uR
  rcases uR with uR | ⟨c, uR⟩
  ·rw [uR] at wN; exact wN.elim
  ·rw [uR] at wN
   obtain ⟨cells, c1, c2, c3, rfl⟩ := wN
   rw [St.Xw] at c1
   refine ⟨σ.Zt p.2 0 (.box (place cells c (unc (look P σ T q)).cells)), ?_, ?_⟩
   ·unfold Y1 z4
    simp only [ui, uH, wA]
    refine ⟨k1, by rw [zI]; exact k2, k3, k4, ?_⟩
    rw [zI, uR]
    exact ⟨cells, c1, c2, c3, rfl⟩
   ·unfold Y1
    simp only [sS, vv]
    rw [zw]
    exact (U9 rfl hv).2 ⟨v, Gv hv hp c1 uG, rfl⟩
 ·cases h
theorem yn : ∀ (σ : St) (d : Nat), σ.put d (σ.get d) = σ
 | [], _ => rfl
 | e :: σ, 0 => by simp [St.put, St.get]
 | e :: σ, d + 1 => by have := yn σ d; simp only [St.put, St.get, List.getElem?_cons_succ] at this ⊢; rw [this]
theorem SM : ∀ (σ : St) (d : Nat) (v v' : V), (σ.put d v).put d v' = σ.put d v'
 | [], _, _, _ => rfl
 | e :: σ, 0, _, _ => rfl
 | e :: σ, d + 1, v, v' => by simp [St.put, SM σ d v v']
theorem Oj {P : Program} {σ σ' : St} (h : ∀ u, σ'.get u = σ.get u) {T : TypeId} {x : Operand} : look P σ' T x = look P σ T x := by
 cases x with
 | tmp u => exact h u
 | const c => rfl
 | global g => rfl
 | func f => rfl
theorem CP {P : Program} {ops : Array Oper} {bar : Oper -> Bool} {x y : Oper} {σ σ1 σ2 : St} {d : Nat} (h : HP bar x y = true) (vv : x.dst = some d) (wq : Yx σ d = true) (w9 : Jy P ops bar x σ σ1) (wN : Jy P ops bar y σ1 σ2) : ∃ σ1', Jy P ops bar y σ σ1' /\ Y1 P ops x σ1' σ2 := by
 unfold HP at h
 simp only [vv, Bool.and_eq_true, Bool.not_eq_true', Option.isNone_iff_eq_none] at h
 obtain ⟨⟨⟨⟨⟨⟨vW, wm⟩, sS⟩, wb⟩, ui⟩, uH⟩, hv, hu⟩ := h
 have w9 := w9.resolve_right (fun hh => by rw [vW] at hh; cases hh.1)
 unfold Y1 at w9
 simp only [sS, vv] at w9
 have e1 : ∃ v, YH P σ x.op x.type v /\ σ1 = σ.put d v := by
  unfold Step at w9
  cases hx : x.op <;> rw [hx] at w9 hv <;> first | exact w9 | (exact Bool.noConfusion hv)
 obtain ⟨v, uG, rfl⟩ := e1
 have back : ∀ σ', (∀ u, σ'.get u = σ.get u) -> Y1 P ops x σ' (σ'.put d v) := by
  intro σ' hg
  unfold Y1
  simp only [sS, vv]
  have : YH P σ' x.op x.type v := by
   cases hx : x.op <;> rw [hx] at hv uG <;> first | (exact Bool.noConfusion hv) | (simp only [YH, Oj hg] at uG ⊢; exact uG)
  unfold Step
  cases hx : x.op <;> rw [hx] at hv this <;> first | exact ⟨v, this, rfl⟩ | (exact Bool.noConfusion hv)
 rcases wN with wN | ⟨_, _, _, hk, _⟩
 · -- a plain store
  unfold V4 at wb
  split at wb
  ·rename_i T p q wA
   simp only [qh, wA, Bool.and_eq_true, Bool.not_eq_true'] at hu
   unfold Y1 at wN
   simp only [ui, uH, wA] at wN
   unfold z4 at wN
   rw [Yu hu.1, Yu hu.2] at wN
   obtain ⟨k1, k2, k3, k4, wN⟩ := wN
   split at wN
   ·rename_i t c hl
    obtain ⟨cells, c1, c2, c3, rfl⟩ := wN
    rw [St.Xw] at c1
    refine ⟨σ.Zt t 0 (.box (place cells c (unc (look P σ T q)).cells)), .inl ?_, ?_⟩
    ·unfold Y1 z4
     simp only [ui, uH, wA]
     refine ⟨k1, k2, k3, k4, ?_⟩
     rw [hl]
     exact ⟨cells, c1, c2, c3, rfl⟩
    ·rw [zw]; exact back _ (fun u => St.Xp _ _ _ _ _)
   ·rename_i t j i c hl
    obtain ⟨q', size, rows, ds, c1, c2, c3, c4, c5, c6, c7, rfl⟩ := wN
    rw [St.Xw] at c1
    rw [TF] at c3
    refine ⟨σ.Zt t j (.arr q' size (rows.set i (place (rows.getD i []) c ds))), .inl ?_, ?_⟩
    ·unfold Y1 z4
     simp only [ui, uH, wA]
     refine ⟨k1, k2, k3, k4, ?_⟩
     rw [hl]
     exact ⟨q', size, rows, ds, c1, c2, c3, c4, c5, c6, c7, rfl⟩
    ·rw [zw]; exact back _ (fun u => St.Xp _ _ _ _ _)
   ·exact wN.elim
  ·cases wb
 ·obtain ⟨⟨uq, vK⟩, vD, pP⟩ := hk wb
  rw [St.Xx] at uq
  have sU : Rz (σ.get d) = true := by
   rw [zV] at wq
   unfold St.get
   rcases wq with e | ⟨x', e⟩ <;> rw [e] <;> rfl
  have hq : ∀ l : List (Nat × V), (σ.put d v).Qw ((d, σ.get d) :: l) = σ.Qw l := fun l => by rw [St.Qw, SM, yn]
  have h0 := vD [(d, σ.get d)] (fun p hp => by cases List.mem_singleton.1 hp; exact ⟨hu, sU⟩)
  rw [hq []] at h0
  have hlen : d < σ.length := by
   rw [zV] at wq
   rcases wq with e | ⟨x', e⟩ <;> exact (List.getElem?_eq_some_iff.1 e).1
  have rO : ∀ u, (σ2.put d (σ.get d)).get u = σ.get u := fun u => by
   rw [St.Jz]
   by_cases rZ : u = d /\ d < σ2.length
   ·rw [if_pos rZ, rZ.1]
   ·rw [if_neg rZ, vK, St.Jz]
    have oM : ¬ u = d := fun e => rZ ⟨e, by rw [uq]; exact hlen⟩
    rw [if_neg (fun hh => oM hh.1)]
  refine ⟨σ2.put d (σ.get d), .inr ⟨wm, h0.1, h0.2, fun _ => ⟨⟨by rw [St.Xx]; exact uq, rO⟩, fun l hl => ?_, fun t cells hb => by rw [St.Xw]; exact pP t cells (by rw [St.Xw]; exact hb)⟩, fun hh => (by rw [IN wb] at hh; cases hh), fun hh _ => (by rw [Hz wb] at hh; cases hh)⟩, ?_⟩
  ·have := vD ((d, σ.get d) :: l) (fun p hp => by
    rcases List.mem_cons.1 hp with rfl | hp
    ·exact ⟨hu, sU⟩
    ·exact hl p hp)
   rw [hq l] at this
   exact this
  ·have := back _ rO
   rw [SM] at this
   have e : σ2.put d v = σ2 := by
    have g1 := vK d
    rw [St.Jz, if_pos ⟨rfl, hlen⟩] at g1
    rw [<- g1]; exact yn σ2 d
   rw [e] at this
   exact this
theorem Ca {P : Program} {ops : Array Oper} {bar : Oper -> Bool} {PT : List (Nat × Nat)} {NB : List Nat} {x y : Oper} {σ σ1 σ2 : St} {d : Nat} (h : Ht PT NB bar x y = true) (hp : Sl PT σ) (gC : C9 NB σ) (vv : x.dst = some d) (wq : Yx σ d = true) (w9 : Jy P ops bar x σ σ1) (wN : Jy P ops bar y σ1 σ2) : ∃ σ1', Jy P ops bar y σ σ1' /\ Y1 P ops x σ1' σ2 := by
 unfold Ht at h
 simp only [vv, Bool.and_eq_true, Bool.not_eq_true', Option.isNone_iff_eq_none] at h
 obtain ⟨⟨⟨⟨⟨⟨vW, wm⟩, sS⟩, wb⟩, ui⟩, uH⟩, h⟩ := h
 have w9 := w9.resolve_right (fun hh => by rw [vW] at hh; cases hh.1)
 split at h
 ·rename_i dx T tp q lF wA
  cases lF
  simp only [Bool.and_eq_true, Bool.not_eq_true', bne_iff_ne, ne_eq, List.contains_iff_mem] at h
  obtain ⟨⟨⟨gR, wE⟩, hq⟩, hv⟩ := h
  have w6 : Kd d (.tmp tp) = false := by simp [Kd, wE]
  have hu : qh y d = true := by simp only [qh, wA, w6, hq]; rfl
  unfold Y1 at w9
  simp only [sS, vv] at w9
  have e1 : ∃ v, YH P σ x.op x.type v /\ σ1 = σ.put d v := by
   unfold Step at w9
   cases hx : x.op <;> rw [hx] at w9 hv <;> first | exact w9 | (exact Bool.noConfusion hv)
  obtain ⟨v, uG, rfl⟩ := e1
  have back : ∀ σ', (∀ u, σ'.get u = σ.get u) -> (∀ t cells, σ.ob t 0 = .box cells -> σ'.ob t 0 = .box cells) -> Y1 P ops x σ' (σ'.put d v) := by
   intro σ' hg pP
   unfold Y1
   simp only [sS, vv]
   have : YH P σ' x.op x.type v := by
    cases hx : x.op <;> rw [hx] at hv uG <;> try exact Bool.noConfusion hv
    case load T' z =>
     cases z with
     | tmp t =>
      simp only [List.any_eq_true, beq_iff_eq] at hv
      obtain ⟨p, oK, uW⟩ := hv
      simp only [YH, Oj hg] at uG ⊢
      refine ⟨uG.1, uG.2.1, ?_⟩
      have vJ := uG.2.2
      have uR := hp p oK
      rw [uW] at uR
      rw [zI] at vJ ⊢
      rcases uR with e | ⟨c, e⟩
      ·rw [e] at vJ; exact vJ.elim
      ·rw [e] at vJ ⊢
       obtain ⟨ce, k1, k2⟩ := vJ
       exact ⟨ce, pP _ _ k1, k2⟩
     | _ => exact Bool.noConfusion hv
    case fieldAddr T' z f =>
     cases z with
     | tmp t =>
      simp only [List.any_eq_true, beq_iff_eq] at hv
      obtain ⟨p, oK, uW⟩ := hv
      simp only [YH, Oj hg] at uG ⊢
      refine ⟨uG.1, uG.2.1, ?_⟩
      have vJ := uG.2.2
      have uR := hp p oK
      rw [uW] at uR
      rw [zI] at vJ ⊢
      rcases uR with e | ⟨c, e⟩
      ·rw [e] at vJ; exact vJ.elim
      ·rw [e] at vJ ⊢
       obtain ⟨⟨ce, k1⟩, k2⟩ := vJ
       exact ⟨⟨ce, pP _ _ k1⟩, k2⟩
     | _ => exact Bool.noConfusion hv
   unfold Step
   cases hx : x.op <;> rw [hx] at hv this <;> first | exact ⟨v, this, rfl⟩ | (exact Bool.noConfusion hv)
  rcases wN with wN | ⟨_, _, _, hk, _⟩
  ·unfold Y1 at wN
   simp only [ui, uH, wA] at wN
   unfold z4 at wN
   rw [Yu w6, Yu hq] at wN
   obtain ⟨k1, k2, k3, k4, wN⟩ := wN
   split at wN
   ·rename_i t c hl
    exact absurd hl (gC tp gR t c)
   ·rename_i t j i c hl
    obtain ⟨q', size, rows, ds, c1, c2, c3, c4, c5, c6, c7, rfl⟩ := wN
    rw [St.Xw] at c1
    rw [TF] at c3
    refine ⟨σ.Zt t j (.arr q' size (rows.set i (place (rows.getD i []) c ds))), .inl ?_, ?_⟩
    ·unfold Y1 z4
     simp only [ui, uH, wA]
     refine ⟨k1, k2, k3, k4, ?_⟩
     rw [hl]
     exact ⟨q', size, rows, ds, c1, c2, c3, c4, c5, c6, c7, rfl⟩
    ·rw [zw]
     refine back _ (fun u => St.Xp _ _ _ _ _) (fun b cells hb => ?_)
     have pH : σ.ob t j ≠ .none := by rw [c1]; simp
     rw [St.XH σ t j _ b 0 pH]
     split
     ·rename_i hc; rw [hc.1, hc.2] at hb; rw [c1] at hb; cases hb
     ·exact hb
   ·exact wN.elim
  ·obtain ⟨⟨uq, vK⟩, vD, pP⟩ := hk wb
   rw [St.Xx] at uq
   have sU : Rz (σ.get d) = true := by
    rw [zV] at wq
    unfold St.get
    rcases wq with e | ⟨x', e⟩ <;> rw [e] <;> rfl
   have mj : ∀ l : List (Nat × V), (σ.put d v).Qw ((d, σ.get d) :: l) = σ.Qw l := fun l => by rw [St.Qw, SM, yn]
   have h0 := vD [(d, σ.get d)] (fun p hp => by cases List.mem_singleton.1 hp; exact ⟨hu, sU⟩)
   rw [mj []] at h0
   have hlen : d < σ.length := by
    rw [zV] at wq
    rcases wq with e | ⟨x', e⟩ <;> exact (List.getElem?_eq_some_iff.1 e).1
   have rO : ∀ u, (σ2.put d (σ.get d)).get u = σ.get u := fun u => by
    rw [St.Jz]
    by_cases rZ : u = d /\ d < σ2.length
    ·rw [if_pos rZ, rZ.1]
    ·rw [if_neg rZ, vK, St.Jz]
     have oM : ¬ u = d := fun e => rZ ⟨e, by rw [uq]; exact hlen⟩
     rw [if_neg (fun hh => oM hh.1)]
   have nU : ∀ t cells, σ.ob t 0 = .box cells -> (σ2.put d (σ.get d)).ob t 0 = .box cells := fun t cells hb => by rw [St.Xw]; exact pP t cells (by rw [St.Xw]; exact hb)
   refine ⟨σ2.put d (σ.get d), .inr ⟨wm, h0.1, h0.2, fun _ => ⟨⟨by rw [St.Xx]; exact uq, rO⟩, fun l hl => ?_, nU⟩, fun hh => (by rw [IN wb] at hh; cases hh), fun hh _ => (by rw [Hz wb] at hh; cases hh)⟩, ?_⟩
   ·have := vD ((d, σ.get d) :: l) (fun p hp => by
     rcases List.mem_cons.1 hp with rfl | hp
     ·exact ⟨hu, sU⟩
     ·exact hl p hp)
    rw [mj l] at this
    exact this
   ·have := back _ rO nU
    rw [SM] at this
    have e : σ2.put d v = σ2 := by
     have g1 := vK d
     rw [St.Jz, if_pos ⟨rfl, hlen⟩] at g1
     rw [<- g1]; exact yn σ2 d
    rw [e] at this
    exact this
 ·cases h
theorem BL {P : Program} {PT : List (Nat × Nat)} {σ σ1 : St} {d : Nat} (vK : ∀ t, t ≠ d -> σ1.get t = σ.get t /\ (σ.get t).ref d = false) (uQ : ∀ t j cells, t ≠ d -> σ1.ob t j = .box cells -> σ.ob t j = .box cells /\ YG d cells = false)
  (vc : ∀ t j q s rows, t ≠ d -> σ1.ob t j = .arr q s rows -> ∃ wS, σ.ob t j = .arr q s wS) (hp : Sl PT σ) {op : Op} {ty : TypeId} {v : V} (sH : GI PT op = true) (tV : ∀ z ∈ op.operands.toList, z ≠ .tmp d) (hv : YH P σ1 op ty v) : YH P σ op ty v /\ v.ref d = false := by
 have hl : ∀ (z : Operand) (T : TypeId), z ≠ .tmp d -> look P σ1 T z = look P σ T z := by
  intro z T hz
  cases z with
  | tmp u => exact (vK u (fun e => hz (by rw [e]))).1
  | const c => rfl
  | global g => rfl
  | func f => rfl
 have hr : ∀ (z : Operand) (T : TypeId), z ≠ .tmp d -> (look P σ T z).ref d = false := by
  intro z T hz
  cases z with
  | tmp u => exact (vK u (fun e => hz (by rw [e]))).2
  | const c => exact Wr T c d
  | global g => rfl
  | func f => rfl
 have wE : ∀ (z : Operand) (T : TypeId) (x : At), z ≠ .tmp d -> unc (look P σ T z) = .one x -> x.ref d = false := by
  intro z T x hz hu
  cases hx : x.ref d with
  | false => rfl
  | true => have := XQ hu hx; rw [hr z T hz] at this; cases this
 refine ⟨?_, ?_⟩
 ·cases op <;> simp only [GI] at sH <;> try exact Bool.noConfusion sH
  case move x =>
   simp only [YH] at hv ⊢
   rw [hv, hl x ty (tV x (by simp [Op.operands]))]
  case load T x =>
   cases x with
   | tmp t =>
    have ht : Operand.tmp t ≠ .tmp d := tV _ (by simp [Op.operands])
    simp only [List.any_eq_true, beq_iff_eq] at sH
    obtain ⟨p, oK, uW⟩ := sH
    simp only [YH] at hv ⊢
    rw [hl _ 0 ht] at hv
    refine ⟨hv.1, hv.2.1, ?_⟩
    have vJ := hv.2.2
    have uR := hp p oK
    rw [uW] at uR
    rw [zI] at vJ ⊢
    rcases uR with e | ⟨c, e⟩
    ·rw [e] at vJ; exact vJ.elim
    ·rw [e] at vJ ⊢
     obtain ⟨ce, e1, e2⟩ := vJ
     have hb : p.2 ≠ d := by
      have := wE (.tmp t) 0 (.bptr p.2 c) ht (by rw [zI]; exact e)
      simpa [At.ref] using this
     exact ⟨ce, (uQ _ _ _ hb e1).1, e2⟩
   | _ => exact Bool.noConfusion sH
  case fieldAddr T x f =>
   cases x with
   | tmp t =>
    have ht : Operand.tmp t ≠ .tmp d := tV _ (by simp [Op.operands])
    simp only [YH] at hv ⊢
    rw [hl _ 0 ht] at hv
    refine ⟨hv.1, hv.2.1, ?_⟩
    have vJ := hv.2.2
    split at vJ
    ·rename_i t' c e
     have hb : t' ≠ d := by have := wE _ _ _ ht e; simpa [At.ref] using this
     obtain ⟨⟨ce, e1⟩, e2⟩ := vJ
     first | exact ⟨⟨ce, (uQ _ _ _ hb e1).1⟩, e2⟩ | (simp only [e]; exact ⟨⟨ce, (uQ _ _ _ hb e1).1⟩, e2⟩)
    ·rename_i t' j i c e
     have hb : t' ≠ d := by have := wE _ _ _ ht e; simpa [At.ref] using this
     obtain ⟨⟨q, s, rows, e1⟩, e2⟩ := vJ
     obtain ⟨wS, e3⟩ := vc _ _ _ _ _ hb e1
     first | exact ⟨⟨q, s, wS, e3⟩, e2⟩ | (simp only [e]; exact ⟨⟨q, s, wS, e3⟩, e2⟩)
    ·rename_i rr c e; first | exact vJ | (simp only [e]; exact vJ)
    ·rename_i t' j i c k e
     have hb : t' ≠ d := by have := wE _ _ _ ht e; simpa [At.ref] using this
     obtain ⟨⟨s, rows, e1⟩, e2⟩ := vJ
     obtain ⟨wS, e3⟩ := vc _ _ _ _ _ hb e1
     first | exact ⟨⟨s, wS, e3⟩, e2⟩ | (simp only [e]; exact ⟨⟨s, wS, e3⟩, e2⟩)
    ·exact vJ.elim
   | _ => exact Bool.noConfusion sH
  case slice T x lo hi mx =>
   cases x with
   | tmp t =>
    cases mx with
    | some m => exact Bool.noConfusion sH
    | none =>
     have ht : Operand.tmp t ≠ .tmp d := tV _ (by simp [Op.operands])
     have rP : ∀ (df n : Nat) (z : Option Operand), (∀ y, z = some y -> y ≠ .tmp d) -> bnd P σ1 df z n -> bnd P σ df z n := by
      intro df n z hz h
      cases z with
      | none => exact h
      | some z => simp only [bnd] at h ⊢; rw [hl z 0 (hz z rfl)] at h; exact h
     have u7 : ∀ y, lo = some y -> y ≠ .tmp d := fun y e => tV y (by subst e; simp [Op.operands])
     have sV : ∀ y, hi = some y -> y ≠ .tmp d := fun y e => tV y (by subst e; simp [Op.operands])
     simp only [YH] at hv ⊢
     rw [hl _ 0 ht] at hv
     refine ⟨hv.1, ?_⟩
     have vJ := hv.2
     split at vJ
     ·rename_i s e
      obtain ⟨h1, l, h, h2, h3, h4⟩ := vJ
      first | exact ⟨h1, l, h, rP _ _ _ u7 h2, rP _ _ _ sV h3, h4⟩ | (simp only [e]; exact ⟨h1, l, h, rP _ _ _ u7 h2, rP _ _ _ sV h3, h4⟩)
     ·rename_i s rows e
      obtain ⟨h1, h0, l, h, h2, h3, h4⟩ := vJ
      first | exact ⟨h1, h0, l, h, rP _ _ _ u7 h2, rP _ _ _ sV h3, h4⟩ | (simp only [e]; exact ⟨h1, h0, l, h, rP _ _ _ u7 h2, rP _ _ _ sV h3, h4⟩)
     ·rename_i t' j o len e
      have hb : t' ≠ d := by have := wE _ _ _ ht e; simpa [At.ref] using this
      obtain ⟨h1, ⟨q, rows, e1⟩, l, h, h2, h3, h4⟩ := vJ
      obtain ⟨wS, e3⟩ := vc _ _ _ _ _ hb e1
      first | exact ⟨h1, ⟨q, wS, e3⟩, l, h, rP _ _ _ u7 h2, rP _ _ _ sV h3, h4⟩ | (simp only [e]; exact ⟨h1, ⟨q, wS, e3⟩, l, h, rP _ _ _ u7 h2, rP _ _ _ sV h3, h4⟩)
     ·exact vJ.elim
   | _ => exact Bool.noConfusion sH
 ·cases hx : v.ref d with
  | false => rfl
  | true =>
   obtain ⟨z, hz, T, h1⟩ := RO hv hx
   rw [hl z T (tV z hz)] at h1
   rcases h1 with h1 | ⟨t, cells, h1, h2, h3⟩
   ·rw [hr z T (tV z hz)] at h1; cases h1
   ·by_cases oO : t = d
    ·rw [oO, hr z T (tV z hz)] at h1; cases h1
    ·have := (uQ t 0 cells oO h2).2
     rw [this] at h3; cases h3
theorem CU {P : Program} {ops : Array Oper} {bar : Oper -> Bool} {PT : List (Nat × Nat)} {x y : Oper} {σ σ1 σ2 : St} {d : Nat} (h : HF PT ops bar x y = true) (hp : Sl PT σ) (vv : x.dst = some d) (wq : Yx σ d = true) (w9 : Jy P ops bar x σ σ1) (wN : Jy P ops bar y σ1 σ2) : ∃ σ1', Jy P ops bar y σ σ1' /\ Jy P ops bar x σ1' σ2 := by
 unfold HF at h
 simp only [Bool.and_eq_true, Bool.not_eq_true', Option.isNone_iff_eq_none] at h
 obtain ⟨⟨⟨⟨⟨⟨vW, wm⟩, rX⟩, sS⟩, ui⟩, sH⟩, h⟩ := h
 rw [vv] at h
 cases uH : y.dst with
 | none => rw [uH] at h; cases h
 | some dy =>
  rw [uH] at h
  simp only [Bool.and_eq_true, Bool.not_eq_true', bne_iff_ne, ne_eq] at h
  obtain ⟨⟨wE, tQ⟩, s8⟩ := h
  have nV := jE tQ
  have nW := jE s8
  have wN := wN.resolve_right (fun hh => by rw [wm] at hh; cases hh.1)
  rcases w9 with w9 | ⟨_, eE, eF, _, gT, _⟩
  ·have vB : jb y = false := by
    unfold jb
    cases wA : y.op <;> rw [wA] at sH <;> first | rfl | (exact Bool.noConfusion sH)
   obtain ⟨σ1', hy, hx⟩ := swap vv uH wE nV nW vB (.inl ui) wq w9 wN
   exact ⟨σ1', .inl hy, .inl hx⟩
  ·obtain ⟨d', wR, hlen, vK, uQ, vc, vD⟩ := gT rX
   rw [vv] at wR; cases wR
   have e2 : ∃ v, YH P σ1 y.op y.type v /\ σ2 = σ1.put dy v := by
    unfold Y1 at wN
    simp only [ui, uH] at wN
    unfold Step at wN
    cases wA : y.op <;> rw [wA] at wN sH <;> first | exact wN | (exact Bool.noConfusion sH)
   obtain ⟨v, hv, rfl⟩ := e2
   obtain ⟨pQ, rA⟩ := BL vK uQ vc hp sH (fun z hz => nV z (by simp only [KY, List.mem_append]; exact .inl hz)) hv
   have gU : PU x dy = true := by
    simp only [PU, Bool.not_eq_true']
    refine List.any_eq_false.2 (fun z hz => ?_)
    have := nW z (by simp only [KY, List.mem_append]; exact .inl hz)
    cases z <;> simp [Kd] at this ⊢
    exact this
   have we : ∀ p ∈ [(dy, v)], p.1 ≠ d /\ PU x p.1 = true /\ p.2.ref d = false := fun p hp => by
    cases List.mem_singleton.1 hp; exact ⟨fun e => wE e.symm, gU, rA⟩
   have h0 := vD [(dy, v)] we
   refine ⟨σ.put dy v, .inl ?_, .inr ⟨vW, h0.1, h0.2, fun hh => (by rw [IN hh] at rX; cases rX), fun _ => ⟨d, vv, by rw [St.Xx, St.Xx]; exact hlen, fun t ht => ?_, fun t j cells ht hb => ?_, fun t j q s rows ht hb => ?_, fun l hl => ?_⟩, fun hh _ => (by rw [E8 rX] at hh; cases hh)⟩⟩
   ·unfold Y1
    simp only [ui, uH]
    unfold Step
    cases wA : y.op <;> rw [wA] at pQ sH <;> first | exact ⟨v, pQ, rfl⟩ | (exact Bool.noConfusion sH)
   ·have h1 := vK t ht
    rw [St.Jz, St.Jz, hlen]
    by_cases hc : t = dy /\ dy < σ.length
    ·simp only [if_pos hc]; exact ⟨trivial, rA⟩
    ·simp only [if_neg hc]; exact h1
   ·rw [St.Xw] at hb ⊢; exact uQ t j cells ht hb
   ·rw [St.Xw] at hb ⊢; exact vc t j q s rows ht hb
   ·exact vD ((dy, v) :: l) (fun p hp => by
     rcases List.mem_cons.1 hp with rfl | hp
     ·exact we _ (by simp)
     ·exact hl p hp)
theorem Fk {σ : St} {t j : Nat} (hn : σ.ob t j ≠ .none) : σ.Zt t j (σ.ob t j) = σ := by
 apply List.ext_getElem?
 intro u
 rw [Xq]
 by_cases hu : u = t
 ·subst hu
  obtain ⟨e, he, ho⟩ := Uf (σ := σ) (t := u) (j := j) rfl hn
  rw [if_pos rfl, he, Option.map_some]
  have : e.2.set j (σ.ob u j) = e.2 := by
   rw [<- ho]
   apply List.ext_getElem?
   intro k
   rw [List.getElem?_set]
   by_cases hk : j = k
   ·subst hk
    rw [if_pos rfl]
    split
    ·rename_i wO; unfold YO; rw [List.getElem?_eq_getElem wO]
    ·rename_i wO; exact (List.getElem?_eq_none (by omega)).symm
   ·rw [if_neg hk]
  rw [this]
 ·rw [if_neg hu]
theorem HJ (σ : St) (t j : Nat) (o o' : Ob) : (σ.Zt t j o).Zt t j o' = σ.Zt t j o' := by
 apply List.ext_getElem?
 intro u
 rw [Xq, Xq, Xq]
 by_cases hu : u = t
 ·simp only [if_pos hu]
  cases σ[u]? <;> simp
 ·simp only [if_neg hu]
section
variable {P : Program} {ops : Array Oper} {σ : St} {t d dx : Nat} {cells cs : List At} {v : V} {os : Option (List Ob)}
theorem TH : (KE t d cs v os σ).length = σ.length := by
 cases os <;> simp [KE, St.Xx, St.xq, St.Y3]
theorem Dk {u : Nat} (h : u ≠ d) : (KE t d cs v os σ).get u = σ.get u := by
 cases os <;> simp [KE, St.Jz, St.kS, St.Xp, h]
theorem CJ {u j : Nat} (hb : σ.ob t 0 = .box cells) (hu : os ≠ none -> u ≠ d) : (KE t d cs v os σ).ob u j = if u = t /\ j = 0 then .box cs else σ.ob u j := by
 have hn : σ.ob t 0 ≠ .none := by rw [hb]; simp
 cases os with
 | none => simp only [KE, St.Xw]; exact St.XH σ t 0 _ u j hn
 | some l =>
  have := hu (by simp)
  simp only [KE, St.QE, this, false_and, if_false]
  exact St.XH σ t 0 _ u j hn
theorem Rn {u : Nat} : (KE t d cs v os σ)[u]? = if u = d then (σ[u]?).map (fun e => (v, match os with | some l => l | none => if u = t then e.2.set 0 (.box cs) else e.2)) else if u = t then (σ[u]?).map (fun e => (e.1, e.2.set 0 (.box cs))) else σ[u]? := by
 cases os <;> simp only [KE, y0, KO, Xq] <;> by_cases h1 : u = d <;> by_cases h2 : u = t <;> simp [h1, h2] <;> (try subst h1) <;> (try subst h2) <;> (try simp_all) <;> (first | (cases σ[u]? <;> rfl) | (cases σ[t]? <;> rfl) | (cases σ[d]? <;> rfl))
theorem NQ {e : Eff} (vB : ∀ a j w l, e ≠ .drop a j w l) (h1 : dx ≠ d) (h2 : (∀ w, e ≠ .put w) -> t ≠ dx) : e.ap dx (KE t d cs v os σ) = KE t d cs v os (e.ap dx σ) := by
 apply List.ext_getElem?
 intro u
 rw [Rn]
 cases e with
 | put w =>
  simp only [Eff.ap, y0, Rn]
  by_cases e1 : u = dx
  ·subst e1
   simp only [if_true, if_neg h1]
   by_cases e2 : u = t <;> simp [e2] <;> (first | (cases σ[u]? <;> rfl) | (cases σ[t]? <;> rfl) | rfl)
  ·simp only [if_neg e1]
 | new w l =>
  have h3 := h2 (by intro w h; cases h)
  simp only [Eff.ap, KO, Rn]
  by_cases e1 : u = dx
  ·subst e1
   simp only [if_true, if_neg h1, if_neg (Ne.symm h3)]
  ·simp only [if_neg e1]
 | drop a j w l => exact absurd rfl (vB a j w l)
theorem F8 {u : Nat} (h : σ.fresh u = true) (uI : YG u cs = false) (hv : v.ref u = false /\ ∀ l, os = some l -> Yf u l = false) : (KE t d cs v os σ).fresh u = true := by
 have hf := Xh.1 h
 refine Xh.2 ⟨by rw [TH]; exact hf.1, fun k e he hk => ?_⟩
 rw [Rn] at he
 have nX : ∀ o6, Yf u o6 = false -> Yf u (o6.set 0 (.box cs)) = false := by
  intro o6 h0
  cases o6 with
  | nil => exact h0
  | cons o o6 =>
   simp only [List.set_cons_zero]
   cases o <;> simp_all [Yf]
 by_cases h1 : k = d
 ·rw [if_pos h1] at he
  simp only [Option.map_eq_some_iff] at he
  obtain ⟨e0, tX, rfl⟩ := he
  refine ⟨hv.1, ?_⟩
  cases os with
  | some l => exact hv.2 l rfl
  | none =>
   have := (hf.2 k e0 tX hk).2
   simp only
   split
   ·exact nX _ this
   ·exact this
 ·rw [if_neg h1] at he
  split at he
  ·simp only [Option.map_eq_some_iff] at he
   obtain ⟨e0, tX, rfl⟩ := he
   exact ⟨(hf.2 k e0 tX hk).1, nX _ (hf.2 k e0 tX hk).2⟩
  ·exact hf.2 k e he hk
theorem GC {u : Nat} (hb : σ.ob t 0 = .box cells) (h : (KE t d cs v os σ).fresh u = true) (wq : Yx σ d = true) (gD : YG u cells = false) : σ.fresh u = true := by
 have hf := Xh.1 h
 refine Xh.2 ⟨by rw [<- TH (σ := σ)]; exact hf.1, fun k e he hk => ?_⟩
 by_cases h1 : k = d
 ·rw [h1] at he; exact RX wq he u
 ·by_cases h2 : k = t
  ·have := hf.2 k (e.1, e.2.set 0 (.box cs)) (by rw [Rn, if_neg h1, if_pos h2, he]; rfl) hk
   refine ⟨this.1, ?_⟩
   have h3 := this.2
   rw [h2] at he
   rw [NO he] at hb
   cases mQ : e.2 with
   | nil => rfl
   | cons o o6 =>
    rw [mQ] at hb h3
    have hb : o = .box cells := hb
    subst hb
    simp only [List.set_cons_zero, Yf, Bool.or_eq_false_iff] at h3 ⊢
    exact ⟨gD, h3.2⟩
  ·exact hf.2 k e (by rw [Rn, if_neg h1, if_neg h2]; exact he) hk
theorem I5 {PT : List (Nat × Nat)} {x y : Oper} {A : St} {σ2 : St} (hg : x.guard = none) (vv : x.dst = some dx) (wE : dx ≠ d) (pj : ∀ z ∈ KY ops x, z ≠ .tmp d) (hb : σ.ob t 0 = .box cells) (w8 : os ≠ none -> (σ.Zt t 0 (.box cs)).fresh d = true)
  (uW : Sl PT σ) (uQ : ∀ b, Iq PT y = some b -> b = t) (wj : Rs PT y x = true) (hA : A = σ \/ A = KE t d cs v os σ) (hs : Y1 P ops x A σ2) :
  ∃ e : Eff, σ2 = e.ap dx A /\ (∀ a j w l, e ≠ .drop a j w l) /\ e.ok dx A /\ ∀ B, (B = σ \/ B = KE t d cs v os σ) -> e.ok dx B -> Y1 P ops x B (e.ap dx B) /\ ∀ u, u ≠ dx -> e.ref u = true -> RH P (KY ops x) B u := by
 have wA : KY ops x = x.op.operands.toList := by simp [KY, hg]
 simp only [Rs, Bool.or_eq_true, Bool.and_eq_true, Bool.not_eq_true'] at wj
 have nY : A.length = σ.length := by rcases hA with rfl | rfl <;> simp [TH]
 rcases wj with ⟨hc, vB⟩ | hf
 ·obtain ⟨e, rfl, we, hdr, _, rV, lK⟩ := jK vv hs
  refine ⟨e, rfl, (fun a j w l h => by have := (hdr a j w l h).1; rw [vB] at this; cases this), we, fun B hB lC => ?_⟩
  have nZ : B.length = σ.length := by rcases hB with rfl | rfl <;> simp [TH]
  have hk : ∀ z ∈ KY ops x, ∃ c, z = .const c := by
   intro z hz
   rw [wA] at hz
   have := List.all_eq_true.1 hc z hz
   cases z <;> first | exact ⟨_, rfl⟩ | cases this
  have wk : Sub P (KY ops x) A B := ⟨by rw [nY, nZ], fun z hz ty => by obtain ⟨c, rfl⟩ := hk z hz; rfl, fun z hz ty u hr => by obtain ⟨c, rfl⟩ := hk z hz; have h0 := Wr (P := P) ty c u; simp only [look] at hr; rw [h0] at hr; cases hr⟩
  have sW : ∀ u, ¬ RH P (KY ops x) A u := by
   rintro u ⟨z, hz, ty, h | ⟨_, _, h, _, _⟩⟩ <;> (obtain ⟨c, rfl⟩ := hk z hz; have h0 := Wr (P := P) ty c; simp only [look] at h; rw [h0] at h; cases h)
  exact ⟨lK B wk lC, fun u hu hr => absurd (rV hg u hu hr) (sW u)⟩
 ·split at hf
  ·rename_i b gH
   have lS := uQ b gH
   subst lS
   have gV : Step P x dx A σ2 := by unfold Y1 at hs; simp only [hg, vv] at hs; exact hs
   obtain ⟨w, hw, rfl⟩ := (U9 rfl hf).1 gV
   refine ⟨.put w, rfl, (fun a j w' l h => by cases h), trivial, fun B hB _ => ?_⟩
   have oN : ∀ z ∈ x.op.operands.toList, ∀ ty, look P (KE b d cs v os σ) ty z = look P (σ.Zt b 0 (.box cs)) ty z := fun z hz ty => by
    rw [Jq]; exact look_eq (fun u hu => Dk hu) (pj z (by rw [wA]; exact hz)) ty
   have sW : os ≠ none -> ∀ z ∈ x.op.operands.toList, ∀ ty, (look P (σ.Zt b 0 (.box cs)) ty z).ref d = false := fun hn z hz ty =>
    Jv (fun t' e he mh => ((Xh.1 (w8 hn)).2 t' e he mh).1) (pj z (by rw [wA]; exact hz)) ty
   have na : ∀ u, (os ≠ none -> u ≠ d) -> ∀ j, (KE b d cs v os σ).ob u j = (σ.Zt b 0 (.box cs)).ob u j := fun u hu j => by
    rw [CJ hb hu, St.XH _ _ _ _ _ _ (by rw [hb]; simp)]
   have fw : YH P (σ.Zt b 0 (.box cs)) x.op x.type w -> YH P (KE b d cs v os σ) x.op x.type w := fun hv => qD hv
    ⟨by rw [TH, St.Y3], fun z hz ty => (oN z hz ty).symm, fun z hz ty u hr j _ => na u (fun hn e => by subst e; rw [sW hn z hz ty] at hr; cases hr) j⟩
   have bw : YH P (KE b d cs v os σ) x.op x.type w -> YH P (σ.Zt b 0 (.box cs)) x.op x.type w := fun hv => qD hv
    ⟨by rw [TH, St.Y3], fun z hz ty => oN z hz ty, fun z hz ty u hr j _ => (na u (fun hn e => by subst e; rw [oN z hz ty, sW hn z hz ty] at hr; cases hr) j).symm⟩
   have lT : Sl PT (σ.Zt b 0 (.box cs)) := fun p hp => by rw [St.Xp]; exact uW p hp
   have wm : (σ.Zt b 0 (.box cs)).ob b 0 = .box cs := by rw [St.XH _ _ _ _ _ _ (by rw [hb]; simp), if_pos ⟨rfl, rfl⟩]
   have tS : (σ.Zt b 0 (.box cs)).Zt b 0 (.box cells) = σ := by rw [HJ, <- hb]; exact Fk (by rw [hb]; simp)
   have hσ : YH P σ x.op x.type w := by
    rcases hA with rfl | rfl
    ·exact hw
    ·have := Gv (cs := cells) hf lT wm (bw hw)
     rw [tS] at this; exact this
   have ic : YH P B x.op x.type w := by
    rcases hB with rfl | rfl
    ·exact hσ
    ·exact fw (Gv hf uW hb hσ)
   refine ⟨?_, fun u hu hr => ?_⟩
   ·unfold Y1; simp only [hg, vv]; exact (U9 rfl hf).2 ⟨w, ic, rfl⟩
   ·rw [wA]; exact RO ic hr
  ·cases hf
end
theorem SK {P : Program} {o : Oper} (h : KG P o = true) : V4 o = false /\ jg o = false := by
 unfold KG at h
 split at h
 ·rename_i wA; simp [V4, jg, wA]
 ·cases h
theorem FF {P : Program} {PT : List (Nat × Nat)} {σ : St} {y : Oper} {t : Nat} (uW : Sl PT σ) (h : ∃ z r, (∃ f ts, y.op = .call ⟨.value (.func f), ⟨z :: r⟩, ts⟩) /\ ∃ ty, unc (look P σ ty z) = .one (.bptr t 0)) : ∀ b, Iq PT y = some b -> b = t := by
 obtain ⟨z, r, ⟨f, ts, wA⟩, ty, hz⟩ := h
 intro b hb
 unfold Iq at hb
 rw [wA] at hb
 cases z with
 | tmp k =>
  simp only [Option.map_eq_some_iff] at hb
  obtain ⟨p, hp, rfl⟩ := hb
  have hk : p.1 = k := by simpa using List.find?_some hp
  have hm := List.mem_of_find?_eq_some hp
  rw [zI] at hz
  rcases uW p hm with e | ⟨c, e⟩ <;> rw [hk] at e <;> rw [e] at hz <;> simp [unc] at hz
  exact hz.1
 | _ => cases hb
theorem GX {P : Program} {o : Oper} (h : KG P o = true) : jb o = false := by
 unfold KG at h
 split at h
 ·rename_i wA; simp [jb, wA]
 ·cases h
theorem PV {PT : List (Nat × Nat)} {x y : Oper} (h : Rs PT y x = true) : jb x = false := by
 simp only [Rs, Bool.or_eq_true, Bool.and_eq_true, Bool.not_eq_true'] at h
 rcases h with ⟨_, h⟩ | h
 ·exact h
 ·split at h
  ·rename_i b _
   have key : ∀ op, Ut PT b op = true -> (match op with | .call ⟨.builtin .append, ⟨.const _ :: _⟩, _⟩ => false | .call ⟨.builtin .append, _, _⟩ => true | _ => false) = false := by
    intro op h
    unfold Ut at h
    split at h <;> first | rfl | (exact Bool.noConfusion h)
   exact key _ h
  ·cases h
theorem CB {P : Program} {ops : Array Oper} {bar : Oper -> Bool} {PT : List (Nat × Nat)} {x y : Oper} {σ σ1 σ2 : St} {d : Nat} (h : Hx P PT ops bar x y = true) (hp : Sl PT σ) (gE : Sl PT σ1) (vv : x.dst = some d) (wq : Yx σ d = true) (w9 : Jy P ops bar x σ σ1) (wN : Jy P ops bar y σ1 σ2) : ∃ σ1', Jy P ops bar y σ σ1' /\ Jy P ops bar x σ1' σ2 := by
 unfold Hx at h
 simp only [vv, Bool.and_eq_true, Option.isNone_iff_eq_none] at h
 obtain ⟨⟨⟨⟨sS, ui⟩, lL⟩, tY⟩, h⟩ := h
 cases uH : y.dst with
 | none => rw [uH] at h; cases h
 | some dy =>
  rw [uH] at h
  simp only [Bool.and_eq_true, Bool.or_eq_true, Bool.not_eq_true', bne_iff_ne, ne_eq] at h
  obtain ⟨⟨⟨wE, tQ⟩, s8⟩, h⟩ := h
  have tQ := jE tQ
  have s8 := jE s8
  have rC : KY ops y = y.op.operands.toList := by simp [KY, ui]
  have rD : KY ops x = x.op.operands.toList := by simp [KY, sS]
  have nb : ∀ j, σ.ob d j = .none := fun j => by
   rw [zV] at wq
   unfold St.ob
   rcases wq with e | ⟨_, e⟩ <;> rw [e] <;> simp [YO]
  rcases h with ⟨⟨⟨vW, wm⟩, tR⟩, wj⟩ | ⟨⟨⟨vW, tR⟩, wm⟩, wj⟩
  ·have w9 := w9.resolve_right (fun hh => by rw [vW] at hh; cases hh.1)
   rcases wN with wN | ⟨_, _, _, _, _, lM⟩
   ·obtain ⟨σ1', hy, hx⟩ := swap vv uH wE tQ s8 (GX tR) (.inl ui) wq w9 wN
    exact ⟨σ1', .inl hy, .inl hx⟩
   ·obtain ⟨d', t, cells, cs, v, os, wR, hb, hz, uh, rA, w8, rfl, vD⟩ := lM tR tY
    rw [uH] at wR; cases wR
    obtain ⟨ex, rfl, sI, sk, _⟩ := jK vv w9
    have lU : ∀ a j w l, ex ≠ .drop a j w l := fun a j w l hh => by have := (sk a j w l hh).1; rw [PV wj] at this; cases this
    have sJ : ∀ z ∈ KY ops y, ∀ ty, look P (ex.ap d σ) ty z = look P σ ty z := fun z hz ty => look_eq (fun u hu => Rr ex hu) (tQ z hz) ty
    have pq : ∀ z ∈ KY ops y, ∀ ty u, (look P (ex.ap d σ) ty z).ref u = true -> (∀ w, ex ≠ .put w) -> u ≠ d := fun z hz ty u hr uJ e => by
     rw [e, sJ z hz, Jv (xN sI uJ) (tQ z hz)] at hr; cases hr
    have sK := hz
    obtain ⟨z, r, ⟨f, ts, wA⟩, ty, o7⟩ := hz
    have o9 : z ∈ KY ops y := by rw [rC, wA]; exact Jr (c := ⟨.value (.func f), ⟨z :: r⟩, ts⟩) (by simp)
    have lV : (∀ w, ex ≠ .put w) -> t ≠ d := pq z o9 ty t (XQ o7 (by simp [At.ref]))
    have mn : σ.ob t 0 = .box cells := by rw [G7 sI lV (by rw [hb]; simp), hb]
    have oO : t ≠ d := fun e => by rw [e, nb] at mn; cases mn
    have oP : os ≠ none -> (σ.Zt t 0 (.box cs)).fresh dy = true := fun hn => by
     have hf := Xh.1 (w8 hn)
     refine Xh.2 ⟨by have := hf.1; rw [St.Y3] at this ⊢; rwa [KA] at this, fun k e he hk => ?_⟩
     by_cases hkd : k = d
     ·rw [hkd, Xq, if_neg oO.symm] at he
      rw [hkd] at *
      exact RX wq he dy
     ·refine hf.2 k e ?_ hk
      rw [Xq] at he ⊢
      have : (ex.ap d σ)[k]? = σ[k]? := by
       cases ex with
       | put w => simp only [Eff.ap, y0, if_neg hkd]
       | new w l => simp only [Eff.ap, KO, if_neg hkd]
       | drop a j w l => exact absurd rfl (lU a j w l)
      rw [this]; exact he
    obtain ⟨e, heq, vB, we, hB⟩ := I5 (v := v) sS vv wE s8 mn oP hp (FF gE sK) wj (.inl rfl) w9
    rw [heq] at hb sK w8 vD sJ pq ⊢
    have vT : ∀ z ∈ KY ops y, ∀ ty u, (look P (e.ap d σ) ty z).ref u = true -> ∀ j, (e.ap d σ).ob u j ≠ .none -> σ.ob u j = (e.ap d σ).ob u j := fun z hz ty u hr j hn =>
     G7 we (fun uJ hu => by rw [hu, sJ z hz, Jv (xN we uJ) (tQ z hz)] at hr; cases hr) hn
    have h0 := vD σ (KA e) (fun z hz ty => sJ z (by rw [rC]; exact hz) ty) (fun z hz ty u hr j hn => vT z (by rw [rC]; exact hz) ty u hr j hn) oP
    refine ⟨KE t dy cs v os σ, .inr ⟨wm, h0.1, h0.2, fun hh => (by rw [(SK tR).1] at hh; cases hh), fun hh => (by rw [(SK tR).2] at hh; cases hh), fun _ _ => ?_⟩, .inl ?_⟩
    ·refine ⟨dy, t, cells, cs, v, os, uH, mn, ⟨z, r, ⟨f, ts, wA⟩, ty, by rw [<- sJ z o9, <- heq]; exact o7⟩, uh, rA, oP, rfl, fun σ3 nL oH oI lD => ?_⟩
     refine vD σ3 (by rw [KA]; exact nL) (fun z hz ty => by rw [sJ z (by rw [rC]; exact hz), oH z hz]) (fun z hz ty u hr j hn => ?_) lD
     have h1 := vT z (by rw [rC]; exact hz) ty u hr j hn
     rw [<- h1]
     exact oI z hz ty u (by rw [<- sJ z (by rw [rC]; exact hz)]; exact hr) j (by rw [h1]; exact hn)
    ·rw [<- NQ vB wE (fun _ => oO)]
     refine (hB _ (.inr rfl) ?_).1
     cases e with
     | put w => trivial
     | new w l => exact F8 we (uh d).2 (rA d (.inr wE))
     | drop a j w l => exact absurd rfl (vB a j w l)
  ·have wN := wN.resolve_right (fun hh => by rw [wm] at hh; cases hh.1)
   rcases w9 with w9 | ⟨_, _, _, _, _, lM⟩
   ·obtain ⟨σ1', hy, hx⟩ := swap vv uH wE tQ s8 (PV wj) (.inl ui) wq w9 wN
    exact ⟨σ1', .inl hy, .inl hx⟩
   ·obtain ⟨d', t, cells, cs, v, os, wR, hb, hz, uh, rA, w8, rfl, vD⟩ := lM tR lL
    rw [vv] at wR; cases wR
    have sK := hz
    obtain ⟨z, r, ⟨f, ts, wA⟩, ty, o7⟩ := hz
    have o9 : z ∈ KY ops x := by rw [rD, wA]; exact Jr (c := ⟨.value (.func f), ⟨z :: r⟩, ts⟩) (by simp)
    obtain ⟨e, rfl, vB, we, hB⟩ := I5 ui uH (Ne.symm wE) tQ hb w8 hp (FF hp sK) wj (.inr rfl) wN
    have nc : e.ok dy σ := by
     cases e with
     | put w => trivial
     | new w l => exact GC hb we wq (uh dy).1
     | drop a j w l => exact absurd rfl (vB a j w l)
    have sJ : ∀ z ∈ KY ops x, ∀ ty, look P (e.ap dy σ) ty z = look P σ ty z := fun z hz ty => look_eq (fun u hu => Rr e hu) (s8 z hz) ty
    have pq : ∀ z ∈ KY ops x, ∀ ty u, (look P σ ty z).ref u = true -> (∀ w, e ≠ .put w) -> u ≠ dy := fun z hz ty u hr uJ he => by
     rw [he, Jv (xN nc uJ) (s8 z hz)] at hr; cases hr
    have ue : (∀ w, e ≠ .put w) -> t ≠ dy := pq z o9 ty t (XQ o7 (by simp [At.ref]))
    have wV : ∀ z ∈ KY ops x, ∀ ty u, (look P σ ty z).ref u = true -> ∀ j, (e.ap dy σ).ob u j = σ.ob u j := fun z hz ty u hr j => S4 vB (pq z hz ty u hr)
    have tr := hB σ (.inl rfl) nc
    have nd : os ≠ none -> ((e.ap dy σ).Zt t 0 (.box cs)).fresh d = true := fun hn => by
     have hf := Xh.1 (w8 hn)
     have lW : e.ref d = false := by
      cases hr : e.ref d with
      | false => rfl
      | true =>
       obtain ⟨z', ur, ia, h1 | ⟨t', wK, h1, h2, h3⟩⟩ := tr.2 d wE hr
       ·rw [<- Jq (t := t) (j := 0) (o := .box cs), Jv (fun k e0 he hk => (hf.2 k e0 he hk).1) (tQ z' ur)] at h1; cases h1
       ·by_cases htt : t' = t
        ·subst htt; rw [hb] at h2; cases h2; rw [(uh d).1] at h3; cases h3
        ·have oO : t' ≠ d := fun e0 => by rw [e0, nb] at h2; cases h2
         obtain ⟨en, lI, lJ⟩ := Uf h2 (by simp)
         have := (hf.2 t' en (by rw [Xq, if_neg htt]; exact lI) oO).2
         rw [Tq lJ h3] at this; cases this
     refine Xh.2 ⟨by have := hf.1; rw [St.Y3] at this ⊢; rwa [KA], fun k en he hk => ?_⟩
     cases e with
     | put w =>
      simp only [Eff.ap, zw, y0] at he
      split at he
      ·simp only [Option.map_eq_some_iff] at he
       obtain ⟨e0, tX, rfl⟩ := he
       exact ⟨lW, (hf.2 k e0 tX hk).2⟩
      ·exact hf.2 k en he hk
     | new w l =>
      have ht := ue (by intro w h; cases h)
      simp only [Eff.ap, Xq, KO] at he
      by_cases hkt : k = t
      ·subst hkt
       simp only [if_true, if_neg ht] at he
       exact hf.2 k en (by rw [Xq, if_pos rfl]; exact he) hk
      ·simp only [if_neg hkt] at he
       split at he
       ·simp only [Option.map_eq_some_iff] at he
        obtain ⟨e0, tX, rfl⟩ := he
        simp only [Eff.ref, Bool.or_eq_false_iff] at lW
        exact lW
       ·exact hf.2 k en (by rw [Xq, if_neg hkt]; exact he) hk
     | drop a j w l => exact absurd rfl (vB a j w l)
    have h0 := vD (e.ap dy σ) (KA e).symm (fun z hz ty => (sJ z (by rw [rD]; exact hz) ty).symm) (fun z hz ty u hr j _ => wV z (by rw [rD]; exact hz) ty u hr j) nd
    have nf : e.ap dy (KE t d cs v os σ) = KE t d cs v os (e.ap dy σ) := by
     cases e with
     | put w => exact NQ vB (Ne.symm wE) (fun hh => absurd rfl (hh w))
     | new w l => exact NQ vB (Ne.symm wE) ue
     | drop a j w l => exact absurd rfl (vB a j w l)
    refine ⟨e.ap dy σ, .inl tr.1, .inr ?_⟩
    rw [nf]
    refine ⟨vW, h0.1, h0.2, fun hh => (by rw [(SK tR).1] at hh; cases hh), fun hh => (by rw [(SK tR).2] at hh; cases hh), fun _ _ => ?_⟩
    refine ⟨d, t, cells, cs, v, os, vv, ?_, ⟨z, r, ⟨f, ts, wA⟩, ty, by rw [sJ z o9]; exact o7⟩, uh, rA, nd, rfl, fun σ3 nL oH oI lD => ?_⟩
    ·rw [wV z o9 ty t (XQ o7 (by simp [At.ref])) 0]; exact hb
    ·refine vD σ3 (by rw [<- nL, KA]) (fun z hz ty => by rw [<- oH z hz, sJ z (by rw [rD]; exact hz)]) (fun z hz ty u hr j hn => ?_) lD
     have h1 := wV z (by rw [rD]; exact hz) ty u hr j
     rw [<- h1]
     exact oI z hz ty u (by rw [sJ z (by rw [rD]; exact hz)]; exact hr) j (by rw [h1]; exact hn)
theorem CK {PT : List (Nat × Nat)} {σ : St} (h : ptB PT σ = true) : Sl PT σ := by
 intro p hp
 have := List.all_eq_true.1 h p hp
 split at this
 ·rename_i e; exact .inl e
 ·split at this
  ·rename_i b c e
   have hb : b = p.2 := by simpa using this
   subst hb; exact .inr ⟨c, e⟩
  ·cases this
section
variable {P : Program} {ops : Array Oper}
def Ga (P : Program) (ops : Array Oper) (bar : Oper -> Bool) : List Nat -> St -> (St -> Prop) -> Prop
 | [], σ, Q => Q σ
 | i :: rem, σ, Q => ∃ o σ', ops[i]? = some o /\ Jy P ops bar o σ σ' /\ Ga P ops bar rem σ' Q
theorem NN {o : Oper} {σ σ' : St} {d : Nat} (hs : Y1 P ops o σ σ') (hd : o.dst ≠ some d) (h : Yx σ d = true) : Yx σ' d = true := by
 cases hdo : o.dst with
 | some d' =>
  have wE : d ≠ d' := fun e => hd (by rw [hdo, e])
  obtain ⟨e, rfl, _⟩ := jK hdo hs
  cases e with
  | put v => unfold Yx at *; simp only [Eff.ap, y0, if_neg wE]; exact h
  | new v os => unfold Yx at *; simp only [Eff.ap, KO, if_neg wE]; exact h
  | drop a j v os =>
   have := X5 (a := a) (j := j) (o := .none) h
   unfold Yx at *; simp only [Eff.ap, KO, if_neg wE]; exact this
 | none =>
  unfold Y1 at hs
  split at hs
  ·simp only [hdo] at hs
   split at hs
   ·unfold z4 at hs
    obtain ⟨_, _, _, _, hs⟩ := hs
    split at hs
    ·obtain ⟨_, _, _, _, rfl⟩ := hs; exact X5 h
    ·obtain ⟨_, _, _, _, _, _, _, _, _, _, _, rfl⟩ := hs; exact X5 h
    ·exact hs.elim
   ·exact hs.elim
  ·obtain ⟨_, _, _, _, _, _, wR, _⟩ := hs
   rw [hdo] at wR; cases wR
theorem DY {PT : List (Nat × Nat)} {i : Nat} {o : Oper} {σ σ' : St} (lB : Hb ops PT = true) (hi : ops[i]? = some o) (hs : Y1 P ops o σ σ') (h : Sl PT σ) : Sl PT σ' := by
 have hc := List.all_eq_true.1 lB o (by rw [Array.mem_toList_iff]; exact Array.mem_of_getElem? hi)
 cases hdo : o.dst with
 | none =>
  have : ∃ t j ob, σ' = σ.Zt t j ob := by
   unfold Y1 at hs
   split at hs
   ·simp only [hdo] at hs
    split at hs
    ·unfold z4 at hs
     obtain ⟨_, _, _, _, hs⟩ := hs
     split at hs
     ·obtain ⟨_, _, _, _, rfl⟩ := hs; exact ⟨_, _, _, rfl⟩
     ·obtain ⟨_, _, _, _, _, _, _, _, _, _, _, rfl⟩ := hs; exact ⟨_, _, _, rfl⟩
     ·exact hs.elim
    ·exact hs.elim
   ·obtain ⟨_, _, _, _, _, _, wR, _⟩ := hs
    rw [hdo] at wR; cases wR
  obtain ⟨t, j, ob, rfl⟩ := this
  intro p hp
  rw [St.Xp]; exact h p hp
 | some d =>
  intro p hp
  rw [hdo] at hc
  have hc := List.all_eq_true.1 hc p hp
  by_cases rE : p.1 = d
  ·simp only [rE, bne_self_eq_false, Bool.false_or, Bool.and_eq_true, Option.isNone_iff_eq_none] at hc
   obtain ⟨hg, hc⟩ := hc
   split at hc
   ·rename_i T r f wA
    have hr := h (r, p.2) (by simpa using hc)
    unfold Y1 at hs
    simp only [hg, hdo] at hs
    unfold Step at hs
    rw [wA] at hs
    obtain ⟨v, hv, rfl⟩ := hs
    simp only [YH] at hv
    have hv := hv.2.2
    rw [zI] at hv
    rcases hr with e | ⟨c, e⟩
    ·rw [e] at hv; exact hv.elim
    ·rw [e] at hv
     rw [St.Jz, rE]
     by_cases hl : d < σ.length
     ·rw [if_pos ⟨rfl, hl⟩]; exact .inr ⟨_, by rw [hv.2]; rfl⟩
     ·rw [if_neg (fun hh => hl hh.2)]; have := h p hp; rw [rE] at this; exact this
   ·rename_i r wA
    have hr := h (r, p.2) (by simpa using hc)
    unfold Y1 at hs
    simp only [hg, hdo] at hs
    unfold Step at hs
    rw [wA] at hs
    obtain ⟨v, hv, rfl⟩ := hs
    simp only [YH] at hv
    rw [zI] at hv
    rw [St.Jz, rE]
    by_cases hl : d < σ.length
    ·rw [if_pos ⟨rfl, hl⟩, hv]; exact hr
    ·rw [if_neg (fun hh => hl hh.2)]; have := h p hp; rw [rE] at this; exact this
   ·cases hc
  ·obtain ⟨e, rfl, _⟩ := jK hdo hs
   have hg : ∀ σ0 : St, σ0.get p.1 = σ.get p.1 -> (σ0.get p.1 = .any \/ ∃ c, unc (σ0.get p.1) = .one (.bptr p.2 c)) := fun σ0 e => by rw [e]; exact h p hp
   cases e with
   | put v => exact hg _ (by simp only [Eff.ap]; rw [St.Jz, if_neg (fun hh => rE hh.1)])
   | new v os => exact hg _ (by simp only [Eff.ap]; rw [St.kS, if_neg (fun hh => rE hh.1)])
   | drop a j v os => exact hg _ (by simp only [Eff.ap]; rw [St.kS, if_neg (fun hh => rE hh.1), St.Xp])
theorem Oc {σ : St} : Mn [] [] σ := ⟨fun _ hp => absurd hp List.not_mem_nil, fun _ hp => absurd hp List.not_mem_nil⟩
def IT (ops : Array Oper) (pos : Nat -> Nat) (rem : List Nat) (σ : St) : Prop :=
 ∀ j ∈ rem, UC ops pos j = true -> FN ops j = true /\ ∃ o d, ops[j]? = some o /\ o.dst = some d /\ Yx σ d = true
theorem DK {j k : Nat} {oj ok : Oper} {d : Nat} (h : FN ops j = true) (hj : ops[j]? = some oj) (hd : oj.dst = some d) (hk : ops[k]? = some ok) (wE : k ≠ j) : ok.dst ≠ some d := by
 unfold FN at h
 simp only [hj, hd] at h
 have wO : k < ops.size := (Array.getElem?_eq_some_iff.1 hk).1
 have := List.all_eq_true.1 h k (List.mem_range.2 wO)
 simp only [hk, Bool.or_eq_true, beq_iff_eq, bne_iff_ne, ne_eq] at this
 exact this.resolve_left wE
theorem H3 {bar : Oper -> Bool} {o : Oper} {σ σ' : St} {d : Nat} (hs : Jy P ops bar o σ σ') (hd : o.dst ≠ some d) (h : Yx σ d = true) : Yx σ' d = true := by
 rcases hs with hs | hs
 ·exact NN hs hd h
 ·exact hs.2.2.1 d hd h
theorem PL {pos : Nat -> Nat} {bar : Oper -> Bool} {rem oG : List Nat} {i : Nat} {o : Oper} {σ σ' : St} (hi : ops[i]? = some o) (hs : Jy P ops bar o σ σ') (mg : i ∉ oG) (wk : ∀ j ∈ oG, j ∈ rem) (h : IT ops pos rem σ) : IT ops pos oG σ' := by
 intro j hj hl
 obtain ⟨pn, oj, d, h1, h2, h3⟩ := h j (wk j hj) hl
 exact ⟨pn, oj, d, h1, h2, H3 hs (DK pn h1 h2 hi (fun e => mg (e ▸ hj))) h3⟩
theorem pull {pos : Nat -> Nat} {bar : Oper -> Bool} {PT : List (Nat × Nat)} {NB : List Nat} (uR : ∀ (i : Nat) (o : Oper) (σ σ' : St), ops[i]? = some o -> Jy P ops bar o σ σ' -> Mn PT NB σ -> Mn PT NB σ') {i : Nat} {post : List Nat} {Q : St -> Prop} {oi : Oper} (hi : ops[i]? = some oi) : ∀ {pre : List Nat} {σ : St}, (pre ++ i :: post).Nodup -> (∀ j ∈ pre, UC ops pos j = true /\ ∃ oj, ops[j]? = some oj /\ (Hl ops bar oj oi = true \/ H0 bar oj oi = true \/ swapT PT bar oj oi = true \/ HP bar oj oi = true \/ HF PT ops bar oj oi = true \/ Ht PT NB bar oj oi = true \/ Hx P PT ops bar oj oi = true)) -> IT ops pos (pre ++ i :: post) σ -> Mn PT NB σ ->
  Ga P ops bar (pre ++ i :: post) σ Q -> ∃ σ', Jy P ops bar oi σ σ' /\ Ga P ops bar (pre ++ post) σ' Q
 | [], σ, _, _, _, _, h => by
  obtain ⟨o, σ', ho, hs, hr⟩ := h
  rw [hi] at ho; cases ho
  exact ⟨σ', hs, hr⟩
 | j :: pre, σ, vB, mo, wq, uW, h => by
  obtain ⟨oj, σ1, hj, w9, hr⟩ := h
  have ng := List.nodup_cons.1 vB
  obtain ⟨σ2, wN, rN⟩ := pull uR hi (pre := pre) ng.2 (fun k hk => mo k (by simp [hk])) (PL (rem := (j :: pre) ++ i :: post) hj w9 ng.1 (fun k hk => by simp only [List.cons_append, List.mem_cons]; exact .inr hk) wq) (uR j oj σ σ1 hj w9 uW) hr
  obtain ⟨hl, eD, uu, sT⟩ := mo j (by simp)
  rw [hj] at uu; cases uu
  rcases sT with sT | sT | sT | sT | sT | sT | sT
  rotate_left
  ·obtain ⟨σ1', hy, hx⟩ := Dg sT w9 wN
   exact ⟨σ1', .inl hy, oj, σ2, hj, .inl hx, rN⟩
  ·obtain ⟨σ1', hy, hx⟩ := CH sT uW.1 w9 wN
   exact ⟨σ1', .inl hy, oj, σ2, hj, .inl hx, rN⟩
  ·obtain ⟨_, o', d', wY, wR, wv⟩ := wq j (by simp) hl
   rw [hj] at wY; cases wY
   obtain ⟨σ1', hy, hx⟩ := CP sT wR wv w9 wN
   exact ⟨σ1', hy, oj, σ2, hj, .inl hx, rN⟩
  ·obtain ⟨_, o', d', wY, wR, wv⟩ := wq j (by simp) hl
   rw [hj] at wY; cases wY
   obtain ⟨σ1', hy, hx⟩ := CU sT uW.1 wR wv w9 wN
   exact ⟨σ1', hy, oj, σ2, hj, hx, rN⟩
  ·obtain ⟨_, o', d', wY, wR, wv⟩ := wq j (by simp) hl
   rw [hj] at wY; cases wY
   obtain ⟨σ1', hy, hx⟩ := Ca sT uW.1 uW.2 wR wv w9 wN
   exact ⟨σ1', hy, oj, σ2, hj, .inl hx, rN⟩
  ·obtain ⟨_, o', d', wY, wR, wv⟩ := wq j (by simp) hl
   rw [hj] at wY; cases wY
   obtain ⟨σ1', hy, hx⟩ := CB sT uW.1 (uR j oj σ σ1 hj w9 uW).1 wR wv w9 wN
   exact ⟨σ1', hy, oj, σ2, hj, hx, rN⟩
  obtain ⟨vW, wm, dx, dy, h1, h2, h3, h4, h5, h6, h7⟩ := GN sT
  have w9 := w9.resolve_right (fun hh => by rw [vW] at hh; cases hh.1)
  have wN := wN.resolve_right (fun hh => by rw [wm] at hh; cases hh.1)
  obtain ⟨_, o', d', wY, wR, wv⟩ := wq j (by simp) hl
  rw [hj] at wY; cases wY
  rw [h1] at wR; cases wR
  obtain ⟨σ1', hy, hx⟩ := swap h1 h2 h3 h4 h5 h6 h7 wv w9 wN
  exact ⟨σ1', .inl hy, oj, σ2, hj, .inl hx, rN⟩
end
end Go.Vm
namespace Go.Vm
open Go.RowKit
section
variable {P : Program} {ops : Array Oper} {T0 : CS} {B : Nat -> Prop}
theorem SU {wu : Array Bool} {j : Nat} (h1 : wu.getD j true = false) (h2 : wu.getD j false = true) : False := by
 rw [Array.getD_eq_getD_getElem?] at h1 h2
 cases h : wu[j]? with
 | none => rw [h] at h1; simp at h1
 | some b => rw [h] at h1 h2; simp at h1 h2; rw [h1] at h2; cases h2
theorem LO {pos : Nat -> Nat} {bar : Oper -> Bool} {PT : List (Nat × Nat)} {NB : List Nat} (uR : ∀ (i : Nat) (o : Oper) (σ σ' : St), ops[i]? = some o -> Jy P ops bar o σ σ' -> Mn PT NB σ -> Mn PT NB σ') (hdr : FH P ops pos bar PT NB (S9 ops.toList []) = true) {Qa : St -> Prop} {Q : Exit -> Act -> World -> Prop} {w0 : World} (hK : ∀ σ a w, Qa σ -> QX T0 B σ a w -> Yw B w0 w -> Q .normal a w) :
  ∀ (fuel : Nat) (rem : List Nat) (wu : Array Bool) (σ : St) (a : Act) (w : World), rem.length = fuel -> wu.size = ops.size -> rem.Pairwise (fun i j => pos i < pos j) -> (∀ i, i ∈ rem ↔ wu.getD i true = false) -> (∀ i ∈ rem, i < ops.size) -> (∀ m om, ops[m]? = some om -> m ∉ rem -> ∀ j, SL om j = true -> j ∉ rem) ->
   IT ops pos rem σ -> Mn PT NB σ -> Ga P ops bar rem σ Qa -> QX T0 B σ a w -> Yw B w0 w -> wpAny P .any ops Q fuel wu a w := by
 have vD := List.all_eq_true.1 hdr
 have first : ∀ (rem : List Nat) (wu : Array Bool), wu.size = ops.size -> rem.Pairwise (fun i j => pos i < pos j) -> (∀ i, i ∈ rem ↔ wu.getD i true = false) -> (∀ i ∈ rem, i < ops.size) -> Region.ready .any ops wu = [] -> rem = [] := by
  intro rem wu vV oJ vw wO nM
  cases rem with
  | nil => rfl
  | cons i rem =>
   exfalso
   have hi := wO i (by simp)
   have hb := vD i (List.mem_range.2 hi)
   simp only [Bool.and_eq_true] at hb
   have tS := hb.1.1
   unfold D3 at tS
   rw [Array.getElem?_eq_getElem hi] at tS
   simp only [Array.all_eq_true_iff_forall_mem, decide_eq_true_eq, Bool.and_eq_true, Bool.or_eq_true, Bool.not_eq_true'] at tS
   have : i ∈ Region.ready .any ops wu := by
    refine mem_ready.2 ⟨(vw i).1 (by simp), ops[i], Array.getElem?_eq_getElem hi, fun e he lE => ?_⟩
    have rb := (tS e he).resolve_left (by rw [lE]; simp)
    have re := rb.1
    have lX := rb.2
    have tC : e.on ∉ i :: rem := by
     intro hm
     rcases List.mem_cons.1 hm with h | h
     ·rw [h] at re; omega
     ·have := (List.pairwise_cons.1 oJ).1 _ h; omega
    have wE : wu.getD e.on true ≠ false := fun h => tC ((vw _).2 h)
    have pI : e.on < wu.size := by rw [vV]; omega
    rw [Array.getD_eq_getD_getElem?, Array.getElem?_eq_getElem pI] at wE ⊢
    simpa using wE
   rw [nM] at this; cases this
 intro fuel
 induction fuel with
 | zero =>
  intro rem wu σ a w hl vV oJ vw wO lG wq uW wW vk hb
  have tD : rem = [] := List.eq_nil_of_length_eq_zero hl
  subst tD
  refine ⟨?_, hK σ a w wW vk hb⟩
  cases nM : Region.ready .any ops wu with
  | nil => rfl
  | cons i l =>
   have hi : i ∈ Region.ready .any ops wu := by rw [nM]; simp
   have := (vw i).2 (mem_ready.1 hi).1
   cases this
 | succ fuel ih =>
  intro rem wu σ a w hl vV oJ vw wO lG wq uW wW vk hb
  refine ⟨fun nM => ?_, fun i hi => ?_⟩
  ·have := first rem wu vV oJ vw wO nM
   subst this; simp at hl
  ·obtain ⟨h0, oi, oL, rY⟩ := mem_ready.1 hi
   obtain ⟨pre, post, rfl⟩ := List.append_of_mem ((vw i).2 h0)
   have vB : (pre ++ i :: post).Nodup := oJ.imp (fun h e => by rw [e] at h; omega)
   have uE : ∀ j ∈ pre, pos j < pos i := fun j hj => (List.pairwise_append.1 oJ).2.2 j hj i (by simp)
   have tE : i < ops.size := wO i (by simp)
   have ig : ∀ e ∈ oi.after, Region.binds .any e = true -> e.on ∉ pre ++ i :: post := by
    intro e he lE hm
    exact SU ((vw e.on).1 hm) (rY e he lE)
   have nh : ∀ j, j ∈ pre ++ i :: post -> SL oi j = false := by
    intro j hj
    cases hp : SL oi j with
    | false => rfl
    | true =>
     unfold SL at hp
     rw [<- Array.any_toList] at hp
     obtain ⟨e, he, wm⟩ := List.any_eq_true.1 hp
     rw [Array.mem_toList_iff] at he
     simp only [Bool.and_eq_true, beq_iff_eq] at wm
     exact (SU ((vw j).1 hj) (by rw [<- wm.1]; exact rY e he wm.2)).elim
   have rE : ∀ m j, Pre ops m j -> (∀ om, ops[m]? = some om -> ∀ k, SL om k = true -> k ∉ pre ++ i :: post) -> j ∉ pre ++ i :: post := by
    intro m j hp
    induction hp with
    | one ho hp => intro h; exact h _ ho _ hp
    | more ho hp _ ih =>
     intro h
     exact ih (fun om rM k hk => lG _ om rM (h _ ho _ hp) k hk)
   have uJ : ∀ j ∈ pre, Ho ops i j = false := by
    intro j hj
    have gW : j ∈ pre ++ i :: post := by simp [hj]
    cases hq : Ho ops i j with
    | false => rfl
    | true =>
     refine absurd gW (rE i j (Fo hq) (fun om rM k hk gG => ?_))
     rw [oL] at rM; cases rM
     have := nh k gG
     rw [hk] at this; cases this
   have mo : ∀ j ∈ pre, UC ops pos j = true /\ ∃ oj, ops[j]? = some oj /\ (Hl ops bar oj oi = true \/ H0 bar oj oi = true \/ swapT PT bar oj oi = true \/ HP bar oj oi = true \/ HF PT ops bar oj oi = true \/ Ht PT NB bar oj oi = true \/ Hx P PT ops bar oj oi = true) := by
    intro j hj
    have ij := uE j hj
    have oQ : j < ops.size := wO j (by simp [hj])
    refine ⟨?_, ops[j], Array.getElem?_eq_getElem oQ, ?_⟩
    ·unfold UC IU
     refine List.any_eq_true.2 ⟨i, List.mem_range.2 tE, ?_⟩
     have := uJ j hj
     unfold Ho at this
     simp only [this, Bool.not_false, Bool.and_true, decide_eq_true_eq]; exact ij
    ·have := vD i (List.mem_range.2 tE)
     simp only [Bool.and_eq_true] at this
     have hp := List.all_eq_true.1 this.1.2 j (List.mem_range.2 oQ)
     simp only [ij, decide_true, Bool.not_true, Bool.false_or] at hp
     unfold Dr at hp
     rw [oL, Array.getElem?_eq_getElem oQ] at hp
     have := uJ j hj
     unfold Ho at this
     simpa [this, or_assoc] using hp
   obtain ⟨σ', hs, hr⟩ := pull uR oL vB mo wq uW wW
   have mg : i ∉ pre ++ post := by
    have := List.nodup_append.1 vB
    intro hm
    rcases List.mem_append.1 hm with h | h
    ·exact Nat.lt_irrefl _ (uE i h)
    ·exact (List.nodup_cons.1 this.2.1).1 h
   have sr : ∀ j ∈ pre ++ post, j ∈ pre ++ i :: post := by
    intro j hj
    rcases List.mem_append.1 hj with h | h
    ·simp [h]
    ·simp [h]
   have key : ∀ a' w', QX T0 B σ' a' w' -> Yw B w w' -> wpAny P .any ops Q fuel (wu.setIfInBounds i true) a' w' := by
    intro a' w' nN wU
    refine ih (pre ++ post) _ σ' a' w' (by simp at hl ⊢; omega) (by simp [vV]) ?_ (fun j => ?_) (fun j hj => wO j (sr j hj)) ?_ (PL oL hs mg sr wq) (uR i oi σ σ' oL hs uW) hr nN (hb.trans wU)
    ·exact oJ.sublist (List.Sublist.append (List.Sublist.refl pre) (List.sublist_cons_self i post))
    ·by_cases rK : i = j
     ·subst rK
      constructor
      ·intro hm; exact absurd hm mg
      ·intro hm
       rw [Array.getD_eq_getD_getElem?] at hm
       simp [vV, tE] at hm
     ·rw [getD_set_ne true rK, <- vw j]
      simp only [List.mem_append, List.mem_cons]
      constructor
      ·rintro (h | h)
       ·exact .inl h
       ·exact .inr (.inr h)
      ·rintro (h | h | h)
       ·exact .inl h
       ·exact absurd h.symm rK
       ·exact .inr h
    ·intro m om rM hm j iZ hj
     by_cases hmi : m = i
     ·subst hmi
      rw [oL] at rM; cases rM
      have := nh j (sr j hj)
      rw [iZ] at this; cases this
     ·have gX : m ∉ pre ++ i :: post := by
       intro h
       rcases List.mem_append.1 h with h | h
       ·exact hm (by simp [h])
       ·rcases List.mem_cons.1 h with h | h
        ·exact hmi h
        ·exact hm (by simp [h])
      exact lG m om rM gX j iZ (sr j hj)
   have wb := UK hs T0 B a w (wpAny P .any ops Q fuel (wu.setIfInBounds i true)) Q vk key
   unfold wpOp
   simp only [oL]
   split
   ·rename_i hw; rw [if_pos hw] at wb; exact .inl wb
   ·rename_i hw; rw [if_neg hw] at wb; exact wb
theorem Lp {σ : St} {a : Act} {w : World} (h : QX T0 B σ a w) : QX T0 B σ a { w with drawn := w.drawn + 1 } := by
 obtain ⟨X, hh, r⟩ := h
 exact ⟨X, hh, r.grow (w' := { w with drawn := w.drawn + 1 }) ⟨rfl, rfl, rfl, Nat.le_refl _, fun _ _ _ => rfl⟩ (fun _ hb => hb) (fun _ hb => .inl hb)⟩
theorem FT {bar : Oper -> Bool} {Q : St -> Prop} : ∀ {n k : Nat} {σ : St}, k + n = ops.size -> Ib P ops bar (ops.toList.drop k) σ Q -> Ga P ops bar (List.range' k n) σ Q
 | 0, k, σ, hk, h => by
  rw [List.drop_eq_nil_of_le (by simp; omega)] at h
  exact h
 | n + 1, k, σ, hk, h => by
  have wO : k < ops.toList.length := by simp; omega
  rw [List.drop_eq_getElem_cons wO] at h
  obtain ⟨σ', hs, hr⟩ := h
  rw [List.range'_succ]
  exact ⟨ops.toList[k], σ', by rw [<- Array.getElem?_toList]; exact List.getElem?_eq_getElem wO, hs, FT (by omega) hr⟩
theorem Lc {bar : Oper -> Bool} {PT : List (Nat × Nat)} {NB : List Nat} {id : Nat} {Q : Exit -> St -> Prop} {σ : St} (uR : ∀ (i : Nat) (o : Oper) (σ σ' : St), ops[i]? = some o -> Jy P ops bar o σ σ' -> Mn PT NB σ -> Mn PT NB σ') (uW : Mn PT NB σ) (hm : P.follows .mixedOrders = true) (hdr : FH P ops (fun i => i) bar PT NB (S9 ops.toList []) = true) (wq : K9 ops (fun i => i) σ = true) (h : Ib P ops bar ops.toList σ (Q .normal)) : AWP P (.region id ops true) Q σ := by
 intro T0 B a w vk
 refine wp_region_any hm ?_
 have vD := List.all_eq_true.1 hdr
 refine LO (T0 := T0) (B := B) (w0 := w) uR hdr (Qa := Q .normal) (fun σ' a' w' hq hr hb => ⟨σ', hq, hr, hb⟩) ops.size (List.range' 0 ops.size) _ σ a _ (by simp) (by simp) ?_ (fun i => ?_) (fun i hi => by simp [List.mem_range'] at hi; omega) (fun m om rM hm => absurd (by simp only [List.mem_range'_1]; have := (Array.getElem?_eq_some_iff.1 rM).1; omega) hm) ?_ uW (FT (by omega) (by simpa using h)) (Lp vk) ⟨rfl, rfl, rfl, Nat.le_refl _, fun _ _ => rfl⟩
 ·exact List.pairwise_lt_range'
 ·rw [Array.getD_eq_getD_getElem?, Array.getElem?_replicate]
  simp only [List.mem_range'_1]
  constructor
  ·intro hh; rw [if_pos (by omega)]; rfl
  ·intro hh
   split at hh
   ·omega
   ·cases hh
 ·intro j hj hl
  simp only [List.mem_range'_1] at hj
  have hb := vD j (List.mem_range.2 (by omega))
  simp only [Bool.and_eq_true, Bool.or_eq_true, Bool.not_eq_true'] at hb
  refine ⟨hb.2.resolve_left (by unfold UC at hl; rw [hl]; simp), ?_⟩
  have hc := List.all_eq_true.1 wq j (List.mem_range.2 (by omega))
  unfold UC at hl
  simp only [hl, Bool.not_true, Bool.false_or] at hc
  have wO : j < ops.size := by omega
  rw [Array.getElem?_eq_getElem wO] at hc
  simp only [Option.bind_some] at hc
  cases hd : ops[j].dst with
  | none => rw [hd] at hc; cases hc
  | some d => rw [hd] at hc; exact ⟨_, d, Array.getElem?_eq_getElem wO, hd, hc⟩
theorem Hk {bar : Oper -> Bool} {id : Nat} {Q : Exit -> St -> Prop} {σ : St} (hm : P.follows .mixedOrders = true) (hdr : SO P ops (fun i => i) bar = true) (wq : K9 ops (fun i => i) σ = true) (h : Ib P ops bar ops.toList σ (Q .normal)) : AWP P (.region id ops true) Q σ :=
 Lc (PT := []) (NB := []) (fun _ _ _ _ _ _ _ => Oc) Oc hm hdr wq h
theorem Ch {id : Nat} {σ : St} {l : List Oper} {br : Oper -> Bool} {k : Fr} (PT : List (Nat × Nat)) (hm : P.follows .mixedOrders = true) (hdr : FH P ⟨l⟩ (fun i => i) (fun _ => false) PT [] (S9 l []) = true) (wq : K9 ⟨l⟩ (fun i => i) σ = true) (lB : Hb ⟨l⟩ PT = true) (hp : ptB PT σ = true) (h : @EI P σ ⟨⟨l⟩, fun _ => false⟩ ⟨l⟩ k) : @DI P id σ ⟨⟨l⟩, br⟩ k :=
 Lc (bar := fun _ => false) (PT := PT) (NB := []) (fun _ _ _ _ hi hs hq => ⟨DY lB hi (hs.resolve_right (fun hh => by cases hh.1)) hq.1, fun p hp => by cases hp⟩) ⟨CK hp, fun p hp => by cases hp⟩ hm hdr wq (QW h)
theorem Eg {id : Nat} {σ : St} {l : List Oper} {br : Oper -> Bool} {k : Fr} (hm : P.follows .mixedOrders = true) (hdr : SO P ⟨l⟩ (fun i => i) (fun _ => false) = true) (wq : K9 ⟨l⟩ (fun i => i) σ = true) (h : @EI P σ ⟨⟨l⟩, fun _ => false⟩ ⟨l⟩ k) : @DI P id σ ⟨⟨l⟩, br⟩ k :=
 Hk hm hdr wq (QW h)
def G6 (bs : List Nat) (o : Oper) : Bool := match o.dst with | some d => bs.contains d | none => !bs.contains 3000001
theorem Cg {id : Nat} {σ : St} {l : List Oper} {br : Oper -> Bool} {k : Fr} (bs : List Nat) (hm : P.follows .mixedOrders = true) (hdr : Vm.SO P ⟨l⟩ (fun i => i) (G6 bs) = true) (wq : K9 ⟨l⟩ (fun i => i) σ = true) (h : @EI P σ ⟨⟨l⟩, G6 bs⟩ ⟨l⟩ k) : @DI P id σ ⟨⟨l⟩, br⟩ k :=
 Hk hm hdr wq (QW h)
def pwB (pos : Nat -> Nat) : List Nat -> Bool
 | [] => true
 | i :: r => r.all (fun j => decide (pos i < pos j)) && pwB pos r
theorem Ei {pos : Nat -> Nat} : ∀ {l : List Nat}, pwB pos l = true -> l.Pairwise (fun i j => pos i < pos j)
 | [], _ => .nil
 | i :: r, h => by
  simp only [pwB, Bool.and_eq_true, List.all_eq_true, decide_eq_true_eq] at h
  exact .cons h.1 (Ei h.2)
def posOf : List Nat -> Nat -> Nat
 | [], _ => 0
 | i :: r, k => if i == k then 0 else posOf r k + 1
def DZ (n : Nat) (ord : List Nat) : Bool := ord.length == n && pwB (posOf ord) ord && ord.all (fun i => decide (i < n)) && (List.range n).all (fun i => ord.contains i)
@[reducible] def CN : List Oper -> Nat -> Oper -> Oper
 | [], _, d => d
 | o :: _, 0, _ => o
 | _ :: l, i + 1, d => CN l i d
@[reducible] def EZ (l : List Oper) (d : Oper) : List Nat -> List Oper
 | [] => []
 | i :: r => CN l i d :: EZ l d r
theorem GF {d : Oper} : ∀ {l : List Oper} {i : Nat}, i < l.length -> l[i]? = some (CN l i d)
 | [], i, h => by simp at h
 | o :: l, 0, _ => rfl
 | o :: l, i + 1, h => by simpa using GF (l := l) (i := i) (by simpa using h)
theorem LP {bar : Oper -> Bool} {Q : St -> Prop} {l : List Oper} {d : Oper} : ∀ {ord : List Nat} {σ : St}, (∀ i ∈ ord, i < l.length) -> Ib P l.toArray bar (EZ l d ord) σ Q -> Ga P l.toArray bar ord σ Q
 | [], σ, _, h => h
 | i :: r, σ, hi, h => by
  obtain ⟨σ', hs, hr⟩ := h
  exact ⟨_, σ', by rw [List.getElem?_toArray]; exact GF (hi i (by simp)), hs, LP (fun j hj => hi j (by simp [hj])) hr⟩
theorem F1 {bar : Oper -> Bool} {id : Nat} {Q : Exit -> St -> Prop} {σ : St} {ord : List Nat} (hm : P.follows .mixedOrders = true) (ho : DZ ops.size ord = true) (hdr : SO P ops (posOf ord) bar = true) (wq : K9 ops (posOf ord) σ = true) (h : Ga P ops bar ord σ (Q .normal)) : AWP P (.region id ops true) Q σ := by
 intro T0 B a w vk
 refine wp_region_any hm ?_
 have vD := List.all_eq_true.1 hdr
 simp only [DZ, Bool.and_eq_true, beq_iff_eq, List.all_eq_true, decide_eq_true_eq, List.mem_range, List.contains_iff_mem] at ho
 obtain ⟨⟨⟨o1, o2⟩, o3⟩, o4⟩ := ho
 refine LO (T0 := T0) (B := B) (w0 := w) (PT := []) (NB := []) (fun _ _ _ _ _ _ _ => Oc) hdr (Qa := Q .normal) (fun σ' a' w' hq hr hb => ⟨σ', hq, hr, hb⟩) ops.size ord _ σ a _ o1 (by simp) (Ei o2) (fun i => ?_) o3 (fun m om rM hm => absurd (o4 m (Array.getElem?_eq_some_iff.1 rM).1) hm) ?_ Oc h (Lp vk) ⟨rfl, rfl, rfl, Nat.le_refl _, fun _ _ => rfl⟩
 ·rw [Array.getD_eq_getD_getElem?, Array.getElem?_replicate]
  constructor
  ·intro hh; rw [if_pos (o3 i hh)]; rfl
  ·intro hh
   split at hh
   ·rename_i wO; exact o4 i wO
   ·cases hh
 ·intro j hj hl
  have mq := o3 j hj
  have hb := vD j (List.mem_range.2 mq)
  simp only [Bool.and_eq_true, Bool.or_eq_true, Bool.not_eq_true'] at hb
  refine ⟨hb.2.resolve_left (by unfold UC at hl; rw [hl]; simp), ?_⟩
  have hc := List.all_eq_true.1 wq j (List.mem_range.2 mq)
  unfold UC at hl
  simp only [hl, Bool.not_true, Bool.false_or] at hc
  rw [Array.getElem?_eq_getElem mq] at hc
  simp only [Option.bind_some] at hc
  cases hd : ops[j].dst with
  | none => rw [hd] at hc; cases hc
  | some d => rw [hd] at hc; exact ⟨_, d, Array.getElem?_eq_getElem mq, hd, hc⟩
theorem LQ {id : Nat} {σ : St} {o : Oper} {l : List Oper} {br : Oper -> Bool} {k : Fr} (ord : List Nat) (hm : P.follows .mixedOrders = true) (ho : DZ (o :: l).length ord = true) (hdr : SO P ⟨o :: l⟩ (posOf ord) (fun _ => false) = true) (wq : K9 ⟨o :: l⟩ (posOf ord) σ = true)
  (h : @EI P σ ⟨⟨o :: l⟩, fun _ => false⟩ ⟨EZ (o :: l) o ord⟩ k) : @DI P id σ ⟨⟨o :: l⟩, br⟩ k := by
 have h2 : ∀ i ∈ ord, i < (o :: l).length := by
  simp only [DZ, Bool.and_eq_true, List.all_eq_true, decide_eq_true_eq] at ho
  exact ho.1.2
 exact F1 hm ho hdr wq (LP h2 (QW h))
end
end Go.Vm
