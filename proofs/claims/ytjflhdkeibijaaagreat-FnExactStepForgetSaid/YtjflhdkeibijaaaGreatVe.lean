/- An abstract machine SD the model of Go, by value, and that it is sound: part Ve. No condition. -/
import Derived.Test.YtjflhdkeibijaaaGreatVd
namespace Go.Vm
open Go.RowKit
section
variable {P : Program} {σ : St} {k : Fr}
end
end Go.Vm
namespace Go.Vm
open Go.RowKit
def Ex (σ : St) : V → Option Nat
 | .one (.d (.sl _ rows)) => some rows.length
 | .one (.sref t j _ len) => (match σ.ob t j with | .arr _ _ _ => some len | _ => none)
 | .fix _ (.one (.sref t j _ len)) => (match σ.ob t j with | .arr _ _ _ => some len | _ => none)
 | _ => none
def qO (σ : St) : Prop := ∀ t n, Ex σ (σ.get t) = some n → n ≤ 9223372036854775807
theorem Dz {T : CS} {h : Nat → Nat → Hd} {σ : St} {w : World} : ∀ {v : V} {val : Value} {n : Nat}, Ex σ v = some n → X0 T h σ.ob w v val → n ≤ maxLen
 | .one (.d (.sl s rows)), val, n, hn, hv => by
  simp only [Ex] at hn
  cases hn
  obtain ⟨base, cap, _, h1, h2⟩ := Gm (r := (show Rd T w val (.sl s rows) from hv))
  omega
 | .one (.sref u j lo len), val, n, hn, hv => by
  simp only [Ex] at hn
  split at hn
  ·rename_i q s rows ho
   cases hn
   have hh := (show Z8 T h σ.ob w (.sref u j lo len) val from hv).2.1 _ _ _ ho
   obtain ⟨_, _, base, cap, _, h1, h2, _⟩ := hh
   omega
  ·cases hn
 | .fix u0 (.one (.sref u j lo len)), val, n, hn, hv => by
  simp only [Ex] at hn
  split at hn
  ·rename_i q s rows ho
   cases hn
   have hh := (show Z8 T h σ.ob w (.sref u j lo len) val from hv.2).2.1 _ _ _ ho
   obtain ⟨_, _, base, cap, _, h1, h2, _⟩ := hh
   omega
  ·cases hn
theorem GF {T0 : CS} {B : Nat → Prop} {σ : St} {a : Act} {w : World} (r : JV T0 B σ a w) : qO σ := by
 obtain ⟨X, h, r⟩ := r
 intro t n hn
 exact Dz hn (r.get t)
theorem IB {P : Program} {c : Code} {Q : Exit → St → Prop} {σ : St} (h : qO σ → AWP P c Q σ) : AWP P c Q σ := fun T0 B a w r => h (GF r) T0 B a w r
section
variable {P : Program} {σ : St} {k : Fr}
theorem Ba {b : Bool} {x y : zw} (ht : qO σ → b = true → @WI P σ x k) (hf : qO σ → b = false → @WI P σ y k) : @CI P b σ x y k :=
 ⟨fun h => IB fun hk => j7 (ht hk h), fun h => IB fun hk => j7 (hf hk h)⟩
theorem RC {b c : Bool} {x y : zw} (hc : c = b) (ht : qO σ → c = true → @WI P σ x k) (hf : qO σ → c = false → @WI P σ y k) : @CI P b σ x y k := by
 subst hc; exact Ba ht hf
theorem okL {c : zw} (h : qO σ → @RM P σ c k) : @RM P σ c k := IB h
theorem okD {id : Nat} {A : KQ} (h : qO σ → @DI P id σ A k) : @DI P id σ A k := IB h
def NG : Op → Bool
 | .call _ => true
 | _ => false
theorem IC {A : KQ} {o : OpI} {l : zC} {j dj d : Nat} {want g : Bool} (hop : NG o.o.op = false) (hg : o.o.guard = some (j, want)) (hd : o.o.dst = some d)
  (hdj : (A.ops[j]?).bind (·.dst) = some dj) (hgc : yL want (σ.get dj) = some g) (hlt : dj < σ.length)
  (ht : g = true → ((evV P σ o.o.op o.o.type).1 ∧ gOf (evV P σ o.o.op o.o.type).2 = true ∧ (unc (evV P σ o.o.op o.o.type).2).flat = true) ∧ @EI P (σ.put d (.cnd true (unc (evV P σ o.o.op o.o.type).2))) A l k)
  (hf : g = false → @EI P (σ.put d (.cnd false .any)) A l k) : @SI P σ A o l k := by
 have step : ∀ v, (g = true → (evV P σ o.o.op o.o.type).1 ∧ gOf (evV P σ o.o.op o.o.type).2 = true ∧ v = unc (evV P σ o.o.op o.o.type).2 ∧ v.flat = true) → XK P A.ops o.o σ (σ.put d (.cnd g v)) := by
  intro v hv
  unfold XK
  simp only [hg]
  refine ⟨dj, d, g, v, hdj, hlt, hd, hgc, fun hgt => ?_, rfl⟩
  obtain ⟨h1, h2, h3, h4⟩ := hv hgt
  have base : ∃ v0, YX P σ o.o.op o.o.type v0 ∧ gOf v0 = true ∧ v = unc v0 ∧ v.flat = true := ⟨_, FN h1, h2, h3, h4⟩
  unfold SC
  split
  ·rename_i c hc; rw [hc] at hop; cases hop
  ·exact base
 cases g with
 | true =>
  obtain ⟨⟨h1, h2, h3⟩, h4⟩ := ht rfl
  exact ⟨_, .inl (step _ fun _ => ⟨h1, h2, rfl, h3⟩), Qf h4⟩
 | false => exact ⟨_, .inl (step .any (fun h => by cases h)), Qf (hf rfl)⟩
end
theorem CP {P : Program} {σ : St} {k : Fr} {A : KQ} {o : OpI} {l : zC} {j dj d : Nat} {want g : Bool} (hg : o.o.guard = some (j, want)) (hd : o.o.dst = some d)
  (hdj : (A.ops[j]?).bind (·.dst) = some dj) (hgc : yL want (σ.get dj) = some g) (hlt : dj < σ.length) (hgf : g = false)
  (h : @EI P (σ.put d (.cnd false .any)) A l k) : @SI P σ A o l k := by
 subst hgf
 refine ⟨_, .inl ?_, Qf h⟩
 unfold XK
 simp only [hg]
 exact ⟨dj, d, false, .any, hdj, hlt, hd, hgc, (fun h => by cases h), rfl⟩
def Vg (P : Program) : List TypeId → List At → List At → Option Bool
 | [], _, _ => some true
 | f :: fs, x :: xs, y :: ys => (match Es P f x y, Vg P fs xs ys with | some p, some q => some (p && q) | _, _ => none)
 | _, _, _ => none
theorem RT (P : Program) : ∀ (fs : List Field) (xs ys : List At), ym P fs xs ys = Vg P (fs.map (·.type)) xs ys
 | [], _, _ => by simp [ym, Vg]
 | f :: fs, [], _ => by simp [ym, Vg]
 | f :: fs, x :: xs, [] => by simp [ym, Vg]
 | f :: fs, x :: xs, y :: ys => by simp only [ym, List.map_cons, Vg, RT P fs xs ys]; rfl
def Jj (P : Program) (T : TypeId) : List TypeId := (P.fieldsOf T).toList.map (·.type)
@[simp] theorem CO (P : Program) (T : TypeId) (xs ys : List At) : ym P (P.fieldsOf T).toList xs ys = Vg P (Jj P T) xs ys := RT P _ _ _
attribute [simp] Vg
def nth {α : Type} [Inhabited α] (l : List α) (i : Nat) : α := l.getD i default
theorem ZD {α : Type} [Inhabited α] {f : α → List D} {l : List α} {i : Nat} (h : i < l.length) : rowAt (l.map f) i = f (nth l i) := by
 simp [rowAt, nth, h]
theorem Zp {α : Type} {f : α → List D} {l : List α} {i : Nat} {x : α} {r : List D} (h : r = f x) : (l.map f).set i r = (l.set i x).map f := by
 rw [h, List.map_set]
abbrev W (x : Int) : Int := IntKind.i64.wrap x
theorem ZW {x : Int} (h1 : -9223372036854775808 ≤ x) (h2 : x ≤ 9223372036854775807) : IntKind.i64.wrap x = x := by
 have hr : IntKind.i64.min ≤ x ∧ x ≤ IntKind.i64.max := by
  constructor
  ·show -9223372036854775808 ≤ x; exact h1
  ·show x ≤ 9223372036854775807; exact h2
 simp only [IntKind.wrap]
 first
  | (simp [IntKind.bits, IntKind.signed]; omega)
  | omega
theorem zn (i : Nat) : ((i : Int) - 1).toNat = i - 1 := by omega
attribute [simp] St.fresh xE V.ref V.Ti Yu kN
end Go.Vm
namespace Go.Vm
open Go.RowKit
attribute [simp] St.xu zc VR At.Dq Vh
section
variable {P : Program} {σ : St} {k : Fr}
theorem QS {f : FuncId} {fn : Func} {c : Code} (hf : P.funcs[f]? = some fn) (hb : fn.body = some c) (hok : SN P f = true) {row : List D} {args : List (List D)} {row' : List D} {x : D}
  (hw : ∀ v, @WI P (Vh fn.ntmps v row args) ⟨c⟩ (.fin (C9 P fn v row' x))) : Q5 P f row args row' x := MA hf hb hok (fun v => j7 (hw v))
theorem TP {fn : Func} {v : Value} {row' : List D} {x : D} {rv : List ResultVar} (hf : fn.results = rv.toArray) (h : (Qs P σ rv).1 ∧ (Qs P σ rv).2 = [[.d x]] ∧ x.scalar = true ∧ σ.head? = some (.fix v (vOf (Qh 0 0 row')), YC [] row')) : C9 P fn v row' x .ret σ :=
 ⟨.inl rfl, by rw [hf]; have := VU h.1; rw [h.2.1] at this; simpa using this, h.2.2⟩
theorem W2 {A : KQ} {o : OpI} {l : zC} {cl : Call} {f : FuncId} {d : Nat} {x0 : Operand} {xs : List Operand} {t0 : TypeId} {ts : List TypeId} {rows0 : List (List D)} {s s' : List (List D)} {n : Nat} {y : D} {t j i c : Nat} {size : Nat} {rows : List (List D)} (hop : o.o.op = .call cl) (hc : cl.callee = .value (.func f)) (hgd : o.o.guard = none) (hd : o.o.dst = some d) (hbar : A.bar o.o = true)
  (ha : cl.args.toList = x0 :: xs) (hat : cl.argTypes.toList = t0 :: ts) (hs : Q5 P f [.sl n s] rows0 [.sl n s'] y) (hx : gOf (look P σ t0 x0) = true ∧ unc (look P σ t0 x0) = .one (.tref t j i c)) (ho : σ.ob t j = .arr true size rows) (hi : i < rows.length)
  (hcell : (rowAt rows i)[c]? = some (.sl n s)) (hargs : (XH P σ xs ts).1) (hrows : (XH P σ xs ts).2 = some rows0) (hst : YM P σ xs ts = true)
  (h : @EI P ((σ.YQ t j (.arr true size (rows.set i (place (rowAt rows i) c [.sl n s'])))).put d (.one (.d y))) A l k) : @SI P σ A o l k := H6 hop hc hgd hd hbar ha hat hx.1 hx.2 ho hi hcell (y5 hargs hrows) hst hs h
theorem zd {A : KQ} {o : OpI} {l : zC} {cl : Call} {f : FuncId} {d : Nat} {x0 : Operand} {xs : List Operand} {t0 : TypeId} {ts : List TypeId} {rows0 : List (List D)} {row row' : List D} {y : D} {ats : List At} (hop : o.o.op = .call cl) (hc : cl.callee = .value (.func f)) (hgd : o.o.guard = none) (hd : o.o.dst = some d) (hbar : A.bar o.o = true)
  (ha : cl.args.toList = x0 :: xs) (_hat : cl.argTypes.toList = t0 :: ts) (hs : Q5 P f row rows0 row' y) (hx : gOf (look P σ t0 x0) = true ∧ unc (look P σ t0 x0) = vOf ats) (hmv : JN σ ats = some row) (hdp : VR σ ats) (hnd : (YW ats).Nodup) (htr : σ.KT At.Dq = false)
  (hargs : (XH P σ xs ts).1) (hrows : (XH P σ xs ts).2 = some rows0) (hst : YM P σ xs ts = true) (hlk : zc row row')
  (h : @EI P ((σ.xu ats row').put d (.one (.d y))) A l k) : @SI P σ A o l k := H9 hop hc hgd hd hbar ha hx.1 hx.2 hmv hdp hnd htr (y5 hargs hrows) hst hs hlk h
end
end Go.Vm
namespace Go.Vm
open Go.RowKit
def At.isP (t : Nat) : At → Bool
 | .tref u _ _ _ => u == t
 | .ptr u _ _ _ => u == t
 | _ => false
section
variable {P : Program} {T0 : CS} {B : Nat → Prop} {σ : St} {a : Act} {w w' : World} {X X' : Nat → Prop} {h : Nat → Nat → Hd}
end
section
variable {P : Program} {σ : St} {k : Fr}
end
attribute [simp] At.isP
theorem Y4.own {P : Program} {f : FuncId} {args res : List (List D)} (hs : Y4 P f args res) : Xr P f true args res := by
 refine ⟨hs.1, fun T w vals hT ha => (hs.2 T w vals hT ha).mono ?_⟩
 rintro e w' ⟨vs, css, he, hb, hf, hl, ⟨hlen, Sk, h1, h2, h3⟩⟩
 refine ⟨vs, css, fun b => (w.heap.size ≤ b ∧ b < w'.heap.size) ∧ ∀ (k : Nat) (c : Value) (d : D), css.flatten[k]? = some c → res.flatten[k]? = some d → d.scalar = false → blk c ≠ some b, he, hb, fun b hb => hb.1, hf, xN hl (fun k x d hx hd => ?_), fun _ => ⟨fun i c d b hc hd hsc hbl => ?_, fun i j c c' d d' b hc hd hc' hd' hsc hsc' hbl hbl' => ?_⟩⟩
 ·simp only [K2, if_true]
  have ho := h1 k x d hx hd
  cases ho with
  | int k n => exact .int _ _
  | bool b => exact .bool _
  | str s => exact .str _
  | sl v size rows S e' xs Sk' ho hz hb' hl' hk hs' hd' =>
   refine ⟨e', xs, ho, hz, Zt.yi hl' (fun i y dd hy hdd => (hk i y dd hy hdd).rd (fun b k' hb => .inr ⟨h2 k b (hs' i b hb).1, fun k2 c2 d2 hc2 hd2 hsc2 hbl2 => ?_⟩))⟩
   have ho2 := h1 k2 c2 d2 hc2 hd2
   have hin : Sk k2 b := by
    cases ho2 with
    | int k n => cases hsc2
    | bool b => cases hsc2
    | str s => cases hsc2
    | sl v2 size2 rows2 S2 e2 xs2 Sk2 ho2 hz2 hb2 hl2 hk2 hs2 hd2' => exact hb2 b hbl2
   have := h3 k k2 b (hs' i b hb).1 hin
   subst this
   rw [hx] at hc2; cases hc2
   exact (hs' i b hb).2 hbl2
 ·have ho2 := h1 i c d hc hd
  have hin : Sk i b := by
   cases ho2 with
   | int k n => cases hsc
   | bool b => cases hsc
   | str s => cases hsc
   | sl v2 size2 rows2 S2 e2 xs2 Sk2 ho2 hz2 hb2 hl2 hk2 hs2 hd2' => exact hb2 b hbl
  have := h2 i b hin
  exact ⟨this.1, this.2, fun hy => hy.2 i c d hc hd hsc hbl⟩
 ·have hin : ∀ (i : Nat) (c : Value) (d : D), css.flatten[i]? = some c → res.flatten[i]? = some d → d.scalar = false → blk c = some b → Sk i b := by
   intro i c d hc hd hsc hbl
   have ho2 := h1 i c d hc hd
   cases ho2 with
   | int k n => cases hsc
   | bool b => cases hsc
   | str s => cases hsc
   | sl v2 size2 rows2 S2 e2 xs2 Sk2 ho2 hz2 hb2 hl2 hk2 hs2 hd2' => exact hb2 b hbl
  exact h3 i j b (hin i c d hc hd hsc hbl) (hin j c' d' hc' hd' hsc' hbl')
end Go.Vm
namespace Go.Vm
open Go.RowKit
def LG (σ : St) (F : List (Nat × Nat)) : At → At
 | .sref t j lo len => if inF F t j then (match σ.ob t j with | .arr _ s rows => .d (.sl s (cut rows lo len)) | _ => .any) else .sref t j lo len
 | .ptr t j i c => if inF F t j then .any else .ptr t j i c
 | .tref t j i c => if inF F t j then .any else .tref t j i c
 | x => x
def BY (σ : St) (F : List (Nat × Nat)) : V → V
 | .one x => .one (LG σ F x)
 | .agg xs => .agg (xs.map (LG σ F))
 | .fix u (.one x) => .fix u (.one (LG σ F x))
 | .fix u (.agg xs) => .fix u (.agg (xs.map (LG σ F)))
 | _ => .any
def Cc (σ : St) (F : List (Nat × Nat)) (t j : Nat) (o : Ob) : Ob :=
 if inF F t j then .none else match o with | .box cs => .box (cs.map (LG σ F)) | .lit _ _ => .none | o => o
def FM (σ : St) (F : List (Nat × Nat)) (t : Nat) : List Ob → Nat → List Ob
 | [], _ => []
 | o :: os, j => Cc σ F t j o :: FM σ F t os (j + 1)
def Tp (σ : St) (F : List (Nat × Nat)) : List Ent → Nat → List Ent
 | [], _ => []
 | e :: es, t => (BY σ F e.1, FM σ F t e.2 0) :: Tp σ F es (t + 1)
def St.frz (σ : St) (F : List (Nat × Nat)) : St := Tp σ F σ 0
theorem Mx {F : List (Nat × Nat)} : ∀ {σ0 : St} {es : List Ent} {t d : Nat}, XV es d = true → XV (Tp σ0 F es t) d = true
 | σ0, [], t, d, h => by simp [XV] at h
 | σ0, e :: es, t, 0, h => by
  rw [qf] at h ⊢
  rcases h with h | ⟨x, h⟩
  ·left; simp only [List.getElem?_cons_zero, Option.some.injEq] at h; subst h; rfl
  ·right; simp only [List.getElem?_cons_zero, Option.some.injEq] at h; subst h; exact ⟨x, rfl⟩
 | σ0, e :: es, t, d + 1, h => by
  have : XV es d = true := by rw [qf] at h ⊢; simpa using h
  have := Mx (F := F) (σ0 := σ0) (es := es) (t := t + 1) this
  rw [qf] at this ⊢
  simpa [Tp] using this
section
variable {P : Program} {σ : St} {k : Fr}
theorem Bm {A : KQ} {o : OpI} {l : zC} {σ' : St} (hbar : A.bar o.o = true) (hw : Wk σ σ') (hc : ∀ d, XV σ d = true → XV σ' d = true) (hns : Hz o.o = false) (h : @SI P σ' A o l k) : @SI P σ A o l k := by
 obtain ⟨σ'', hs, hr⟩ := h
 refine ⟨σ'', .inr ⟨hbar, fun T0 B a w K Q hrel hK => Ws hs T0 B a w K Q (hw T0 B a w hrel) hK, fun d hd hcl => ?_, fun hh => by rw [hns] at hh; cases hh⟩, hr⟩
 have h1 := hc d hcl
 rcases hs with hs | hs
 ·exact Pm hs hd h1
 ·exact hs.2.2.1 d hd h1
theorem BX {A : KQ} {o : OpI} {l : zC} (F : List (Nat × Nat)) (hbar : A.bar o.o = true) (hw : Uk σ [] F σ (σ.frz F) 0) (h : @SI P (σ.frz F) A o l k) (hns : Hz o.o = false := by exact rfl) : @SI P σ A o l k :=
 Bm hbar (Yj [] F rfl hw) (fun _ hd => Mx hd) hns h
end
attribute [simp] LG BY Cc FM Tp St.frz
end Go.Vm
namespace Go.Vm
end Go.Vm
namespace Go.Vm
open Go.RowKit
abbrev ptr (b : Nat) : Value := .pointer (some ⟨b, 0, none⟩)
def B6 (n : Nat) (pre : List (List D)) (v : Value) (cells : List At) (obs : List Ob) (post : List (List D)) : St :=
 T6 pre ++ (.fix v (.one (.bptr pre.length 0)), .box cells :: obs) :: (T6 post ++ List.replicate (n - (pre.length + 1 + post.length)) (V.any, []))
section
variable {P : Program} {T0 : CS} {B : Nat → Prop} {σ : St} {a : Act} {w w' : World} {X X' : Nat → Prop} {h : Nat → Nat → Hd}
end
end Go.Vm
namespace Go.Vm
open Go.RowKit
section
variable {P : Program} {T0 : CS} {B : Nat → Prop} {σ : St} {a : Act} {w w' : World} {X X' : Nat → Prop} {h : Nat → Nat → Hd}
end
end Go.Vm
namespace Go.Vm
open Go.RowKit
section
variable {P : Program} {T0 : CS} {B : Nat → Prop} {σ : St} {a : Act} {w w' : World} {X X' : Nat → Prop} {h : Nat → Nat → Hd}
def AY (dp : Bool) (σ : St) (d : Nat) (res : List (List D)) (qs : List Bool) : St := match dp with | true => σ.new d (jS d res) (YC qs res.flatten) | false => σ.put d (yP res)
end
section
variable {P : Program} {σ : St} {k : Fr}
attribute [simp] AY
end
end Go.Vm
namespace Go.Vm
open Go.RowKit
def Bp (n : Nat) (sz : Nat) (rows : List (List D)) (args : List (List D)) : St := (.one (.sref 0 0 0 rows.length), [.arr false sz rows]) :: (T6 args ++ List.replicate (n - (args.length + 1)) (V.any, []))
def At.isO (u : Nat) : At → Bool
 | .sref t _ _ _ => t == u
 | .ptr t _ _ _ => t == u
 | .tref t _ _ _ => t == u
 | _ => false
section
variable {P : Program} {T0 : CS} {B : Nat → Prop} {σ : St} {a : Act} {w w' : World} {X X' : Nat → Prop} {h : Nat → Nat → Hd}
end
end Go.Vm
namespace Go.Vm
open Go.RowKit
section
variable {P : Program} {T0 : CS} {B : Nat → Prop} {σ : St} {a : Act} {w w' : World} {X X' : Nat → Prop} {h : Nat → Nat → Hd}
end
section
variable {P : Program} {σ : St} {k : Fr}
end
attribute [simp] B6 Bp At.isO
end Go.Vm
namespace Go.Vm
open Go.RowKit
section
variable {P : Program} {σ : St} {k : Fr}
end
end Go.Vm
namespace Go.Vm
open Go.RowKit
section
variable {P : Program} {σ : St} {k : Fr}
theorem cR {A : KQ} {o : OpI} {l : zC} {c : Call} {f : FuncId} {d : Nat} {own : Bool} {rows res : List (List D)} (hs : Xr P f own rows res) (h : @EI P (σ.put d (yP res)) A l k) (hop : o.o.op = .call c := by exact rfl) (hc : c.callee = .value (.func f) := by exact rfl) (hg : o.o.guard = none := by exact rfl) (hd : o.o.dst = some d := by exact rfl)
  (hrows : (XH P σ c.args.toList c.argTypes.toList).2 = some rows := by simp) (hargs : (XH P σ c.args.toList c.argTypes.toList).1 := by simp) (hst : YM P σ c.args.toList c.argTypes.toList = true ∨ Qe own res := by simp) : @SI P σ A o l k :=
 PU hop hc hg hd hs hrows hargs hst h
theorem cC {b : Bool} {x y : zw} (c : Bool) (ht : qO σ → c = true → @WI P σ x k) (hf : qO σ → c = false → @WI P σ y k) (hc : c = b := by simp) : @CI P b σ x y k := RC hc ht hf
end
section
variable {P : Program} {σ : St} {k : Fr}
end
@[simp] abbrev eI (t : Nat) (n : Int) : Nat × V × List Ob := (t, .one (.d (.int .i64 n)), [])
@[simp] abbrev eB (t : Nat) (b : Bool) : Nat × V × List Ob := (t, .one (.d (.bool b)), [])
@[simp] abbrev eL {α : Type} (t s : Nat) (l : List α) (f : α → List D) : Nat × V × List Ob := (t, .one (.d (.sl s (l.map f))), [])
@[simp] abbrev eP (t u c : Nat) : Nat × V × List Ob := (t, .one (.bptr u c), [])
@[simp] abbrev eG (t : Nat) (xs : List At) : Nat × V × List Ob := (t, .agg xs, [])
@[simp] abbrev eX (t : Nat) (xs : List At) : Nat × V × List Ob := (t, .one (.bptr t 0), [.box xs])
end Go.Vm
namespace Go.Vm
open Go.RowKit
structure Me {α : Type} (x y : α) : Prop where
 h : x = y
structure Bx (p : Prop) : Prop where
 h : p
theorem me {α : Type} {x y : α} (h : x = y) : Me x y := ⟨h⟩
theorem ms {α β : Type} {x y y' : α} {l r : β} (f : Me x y) (e : Me l r) (h : l = r → y = y' := by intro e; simp only [e]; exact rfl) : Me x y' := ⟨f.h.trans (h e.h)⟩
theorem an {p q : Prop} (h : p) (k : q) : p ∧ q := ⟨h, k⟩
theorem ix {α : Type} {v : Nat} {l : List α} (h : decide ((v : Int) < (l.length : Int)) = true) : v < l.length := by simpa using h
theorem ml {α : Type} {q : Prop} (l : List α) (m : q) (h : q → l.length ≤ 9223372036854775807 := by intro m; simpa using m) : l.length ≤ 9223372036854775807 := h m
theorem wr (n : Nat) (h : (n : Int) + 1 ≤ 9223372036854775807 := by first | omega | (simp only [decide_eq_true_eq, decide_eq_false_iff_not, beq_iff_eq, beq_eq_false_iff_ne, bne_iff_ne, ne_eq, Bool.or_eq_false_iff, Bool.or_eq_true, Bool.and_eq_true, Bool.not_eq_true', Bool.not_eq_false'] at *; omega)) : IntKind.i64.wrap ((n : Int) + 1) = (n : Int) + 1 := ZW (by omega) (by omega)
section
variable {P : Program} {σ : St} {k : Fr}
theorem so {f : FuncId} {fn : Func} {n : Nat} {own : Bool} {args res : List (List D)} {p : Prop} (hf : P.funcs[f]? = some fn) (hn : fn.ntmps = n) (h : p) {c : Code} (hb : fn.body = some c := by exact rfl) (hok : SN P f = true := by kernel_rfl)
  (kk : Bx p → @WI P (qA n args) ⟨c⟩ (.fin (H7 P fn own res)) := by (intro z; simp; (repeat (with_reducible refine Go.Mo.sd ?_)); exact z.h)) : Xr P f own args res := DV hf hb hok (by rw [hn]; exact kk ⟨h⟩)
theorem soD {f : FuncId} {fn : Func} {n : Nat} {args res : List (List D)} {p : Prop} (hf : P.funcs[f]? = some fn) (hn : fn.ntmps = n) (h : p) {c : Code} (hb : fn.body = some c := by exact rfl) (hok : SN P f = true := by kernel_rfl)
  (kk : Bx p → @WI P (qA n args) ⟨c⟩ (.fin (F5 P fn res)) := by (intro z; simp; (repeat (with_reducible refine Go.Mo.sd ?_)); exact z.h)) : Y4 P f args res := F4 hf hb hok (by rw [hn]; exact kk ⟨h⟩)
theorem cF {α : Type} {u y z : α} {b c : Bool} {xc yc : zw} {p q : Prop} (f : Me u (bif c then y else z)) (ht : qO σ → c = true → Me u y → p) (hf : qO σ → c = false → Me u z → q) (hc : c = b := by simp) (kt : Bx p → @WI P σ xc k := by (intro z; simp; (repeat (with_reducible refine Go.Mo.sd ?_)); exact z.h)) (kf : Bx q → @WI P σ yc k := by (intro z; simp; (repeat (with_reducible refine Go.Mo.sd ?_)); exact z.h)) : @CI P b σ xc yc k :=
 RC hc (fun s h => kt ⟨(ht s h ⟨f.h.trans (by rw [h]; rfl)⟩)⟩) (fun s h => kf ⟨(hf s h ⟨f.h.trans (by rw [h]; rfl)⟩)⟩)
theorem cFt {α : Type} {u y z : α} {b c : Bool} {xc yc : zw} {p : Prop} (f : Me u (bif c then y else z)) (ht : qO σ → c = true → Me u y → p) (hf : qO σ → c = false → Me u z → @WI P σ yc k) (hc : c = b := by simp) (kt : Bx p → @WI P σ xc k := by (intro z; simp; (repeat (with_reducible refine Go.Mo.sd ?_)); exact z.h)) : @CI P b σ xc yc k :=
 RC hc (fun s h => kt ⟨(ht s h ⟨f.h.trans (by rw [h]; rfl)⟩)⟩) (fun s h => (hf s h ⟨f.h.trans (by rw [h]; rfl)⟩))
theorem cFf {α : Type} {u y z : α} {b c : Bool} {xc yc : zw} {q : Prop} (f : Me u (bif c then y else z)) (ht : qO σ → c = true → Me u y → @WI P σ xc k) (hf : qO σ → c = false → Me u z → q) (hc : c = b := by simp) (kf : Bx q → @WI P σ yc k := by (intro z; simp; (repeat (with_reducible refine Go.Mo.sd ?_)); exact z.h)) : @CI P b σ xc yc k :=
 RC hc (fun s h => (ht s h ⟨f.h.trans (by rw [h]; rfl)⟩)) (fun s h => kf ⟨(hf s h ⟨f.h.trans (by rw [h]; rfl)⟩)⟩)
theorem cFo {α : Type} {u y z : α} {b c : Bool} {xc yc : zw} (f : Me u (bif c then y else z)) (ht : qO σ → c = true → Me u y → @WI P σ xc k) (hf : qO σ → c = false → Me u z → @WI P σ yc k) (hc : c = b := by simp) : @CI P b σ xc yc k :=
 RC hc (fun s h => (ht s h ⟨f.h.trans (by rw [h]; rfl)⟩)) (fun s h => (hf s h ⟨f.h.trans (by rw [h]; rfl)⟩))
theorem cK {α : Type} {u y z : α} {b c : Bool} {xc yc : zw} {p q : Prop} (f : Me u (bif c then y else z)) (ht : qO σ → c = true → Me u y → p) (hf : qO σ → c = false → Me u z → q) (hc : c = b := by first | (simp [G]; done) | grind) (kt : Bx p → @WI P σ xc k := by (intro z; simp [G, Go.Vm.ZD]; (repeat (with_reducible refine Go.Mo.sdg ?_)); exact z.h)) (kf : Bx q → @WI P σ yc k := by (intro z; simp [G, Go.Vm.ZD]; (repeat (with_reducible refine Go.Mo.sdg ?_)); exact z.h)) : @CI P b σ xc yc k :=
 RC hc (fun s h => kt ⟨(ht s h ⟨f.h.trans (by rw [h]; rfl)⟩)⟩) (fun s h => kf ⟨(hf s h ⟨f.h.trans (by rw [h]; rfl)⟩)⟩)
theorem cKt {α : Type} {u y z : α} {b c : Bool} {xc yc : zw} {p : Prop} (f : Me u (bif c then y else z)) (ht : qO σ → c = true → Me u y → p) (hf : qO σ → c = false → Me u z → @WI P σ yc k) (hc : c = b := by first | (simp [G]; done) | grind) (kt : Bx p → @WI P σ xc k := by (intro z; simp [G, Go.Vm.ZD]; (repeat (with_reducible refine Go.Mo.sdg ?_)); exact z.h)) : @CI P b σ xc yc k :=
 RC hc (fun s h => kt ⟨(ht s h ⟨f.h.trans (by rw [h]; rfl)⟩)⟩) (fun s h => (hf s h ⟨f.h.trans (by rw [h]; rfl)⟩))
theorem cKo {α : Type} {u y z : α} {b c : Bool} {xc yc : zw} (f : Me u (bif c then y else z)) (ht : qO σ → c = true → Me u y → @WI P σ xc k) (hf : qO σ → c = false → Me u z → @WI P σ yc k) (hc : c = b := by first | (simp [G]; done) | grind) : @CI P b σ xc yc k :=
 RC hc (fun s h => (ht s h ⟨f.h.trans (by rw [h]; rfl)⟩)) (fun s h => (hf s h ⟨f.h.trans (by rw [h]; rfl)⟩))
theorem cRg {A : KQ} {o : OpI} {l : zC} {c : Call} {f : FuncId} {d : Nat} {own : Bool} {rows res : List (List D)} {p : Prop} (hs : Xr P f own rows res) (h : p) (hop : o.o.op = .call c := by exact rfl) (hc : c.callee = .value (.func f) := by exact rfl) (hg : o.o.guard = none := by exact rfl) (hd : o.o.dst = some d := by exact rfl) (hrows : (XH P σ c.args.toList c.argTypes.toList).2 = some rows := by simp) (hargs : (XH P σ c.args.toList c.argTypes.toList).1 := by simp) (hst : YM P σ c.args.toList c.argTypes.toList = true ∨ Qe own res := by simp) (kk : Bx p → @EI P (σ.put d (yP res)) A l k := by (intro z; simp [G, Go.Vm.ZD]; (repeat (with_reducible refine Go.Mo.sdg ?_)); exact z.h)) : @SI P σ A o l k := PU hop hc hg hd hs hrows hargs hst (kk ⟨h⟩)
theorem cRs {A : KQ} {o : OpI} {l : zC} {c : Call} {f : FuncId} {d : Nat} {own : Bool} {rows res : List (List D)} {p : Prop} (hs : Xr P f own rows res) (h : p) (hop : o.o.op = .call c := by exact rfl) (hc : c.callee = .value (.func f) := by exact rfl) (hg : o.o.guard = none := by exact rfl) (hd : o.o.dst = some d := by exact rfl) (hrows : (XH P σ c.args.toList c.argTypes.toList).2 = some rows := by simp) (hargs : (XH P σ c.args.toList c.argTypes.toList).1 := by simp) (hst : YM P σ c.args.toList c.argTypes.toList = true ∨ Qe own res := by simp) (kk : Bx p → @EI P (σ.put d (yP res)) A l k := by (intro z; simp; (repeat (with_reducible refine Go.Mo.sd ?_)); exact z.h)) : @SI P σ A o l k := PU hop hc hg hd hs hrows hargs hst (kk ⟨h⟩)
theorem cRf {A : KQ} {o : OpI} {l : zC} {c : Call} {f : FuncId} {d : Nat} {own : Bool} {rows res : List (List D)} {p q : Prop} (F : q) (hs : Xr P f own rows res) (h : p) (hop : o.o.op = .call c := by exact rfl) (hc : c.callee = .value (.func f) := by exact rfl) (hg : o.o.guard = none := by exact rfl) (hd : o.o.dst = some d := by exact rfl) (hrows : (XH P σ c.args.toList c.argTypes.toList).2 = some rows := by simp) (hargs : (XH P σ c.args.toList c.argTypes.toList).1 := by simp) (hst : YM P σ c.args.toList c.argTypes.toList = true ∨ Qe own res := by simp) (kk : q → Bx p → @EI P (σ.put d (yP res)) A l k := by (intro F z; simp [F, Go.Vm.ZD]; (repeat (with_reducible refine Go.Mo.sd ?_)); exact z.h)) : @SI P σ A o l k := PU hop hc hg hd hs hrows hargs hst (kk F ⟨h⟩)
theorem cOs {A : KQ} {o : OpI} {l : zC} {c : Call} {f : FuncId} {d : Nat} {rows res : List (List D)} {p : Prop} (hs : Xr P f true rows res) (h : p) (hop : o.o.op = .call c := by exact rfl) (hc : c.callee = .value (.func f) := by exact rfl) (hg : o.o.guard = none := by exact rfl) (hd : o.o.dst = some d := by exact rfl) (hrows : (XH P σ c.args.toList c.argTypes.toList).2 = some rows := by simp) (hargs : (XH P σ c.args.toList c.argTypes.toList).1 := by simp) (hst : YM P σ c.args.toList c.argTypes.toList = true ∨ Qe true res := by simp) (hf : σ.fresh d = true := by simp) (kk : Bx p → @EI P (σ.new d (jS d res) (KP res.flatten)) A l k := by (intro z; simp; (repeat (with_reducible refine Go.Mo.sd ?_)); exact z.h)) : @SI P σ A o l k := E8 hop hc hg hd hs hrows hargs hst hf (kk ⟨h⟩)
theorem cDg {A : KQ} {o : OpI} {l : zC} {c : Call} {f : FuncId} {d : Nat} {rows res : List (List D)} {p : Prop} (qs : List Bool) (hs : Y4 P f rows res) (h : p) (hop : o.o.op = .call c := by exact rfl) (hc : c.callee = .value (.func f) := by exact rfl) (hg : o.o.guard = none := by exact rfl) (hd : o.o.dst = some d := by exact rfl) (hrows : (XH P σ c.args.toList c.argTypes.toList).2 = some rows := by simp) (hargs : (XH P σ c.args.toList c.argTypes.toList).1 := by simp) (hq : Wp qs res.flatten := by simp) (hf : σ.fresh d = true := by simp) (kk : Bx p → @EI P (σ.new d (jS d res) (YC qs res.flatten)) A l k := by (intro z; simp [G, Go.Vm.ZD]; (repeat (with_reducible refine Go.Mo.sdg ?_)); exact z.h)) : @SI P σ A o l k := G8 qs hop hc hg hd hs hrows hargs hq hf (kk ⟨h⟩)
theorem cDs {A : KQ} {o : OpI} {l : zC} {c : Call} {f : FuncId} {d : Nat} {rows res : List (List D)} {p : Prop} (qs : List Bool) (hs : Y4 P f rows res) (h : p) (hop : o.o.op = .call c := by exact rfl) (hc : c.callee = .value (.func f) := by exact rfl) (hg : o.o.guard = none := by exact rfl) (hd : o.o.dst = some d := by exact rfl) (hrows : (XH P σ c.args.toList c.argTypes.toList).2 = some rows := by simp) (hargs : (XH P σ c.args.toList c.argTypes.toList).1 := by simp) (hq : Wp qs res.flatten := by simp) (hf : σ.fresh d = true := by simp) (kk : Bx p → @EI P (σ.new d (jS d res) (YC qs res.flatten)) A l k := by (intro z; simp; (repeat (with_reducible refine Go.Mo.sd ?_)); exact z.h)) : @SI P σ A o l k := G8 qs hop hc hg hd hs hrows hargs hq hf (kk ⟨h⟩)
theorem cDf {A : KQ} {o : OpI} {l : zC} {c : Call} {f : FuncId} {d : Nat} {rows res : List (List D)} {p q : Prop} (F : q) (qs : List Bool) (hs : Y4 P f rows res) (h : p) (hop : o.o.op = .call c := by exact rfl) (hc : c.callee = .value (.func f) := by exact rfl) (hg : o.o.guard = none := by exact rfl) (hd : o.o.dst = some d := by exact rfl) (hrows : (XH P σ c.args.toList c.argTypes.toList).2 = some rows := by simp) (hargs : (XH P σ c.args.toList c.argTypes.toList).1 := by simp) (hq : Wp qs res.flatten := by simp) (hf : σ.fresh d = true := by simp) (kk : q → Bx p → @EI P (σ.new d (jS d res) (YC qs res.flatten)) A l k := by (intro F z; simp [F, Go.Vm.ZD]; (repeat (with_reducible refine Go.Mo.sd ?_)); exact z.h)) : @SI P σ A o l k := G8 qs hop hc hg hd hs hrows hargs hq hf (kk F ⟨h⟩)
theorem cGo {A : KQ} {o : OpI} {l : zC} {c : Call} {f : FuncId} {d : Nat} {j dj : Nat} {want g own : Bool} {rows : List (List D)} {res : List D} (hs : g = true → Xr P f own rows [res]) (h : @EI P (σ.put d (.cnd g (yP [res]))) A l k) (hop : o.o.op = .call c := by exact rfl) (hc : c.callee = .value (.func f) := by exact rfl) (hg : o.o.guard = some (j, want) := by exact rfl) (hd : o.o.dst = some d := by exact rfl) (hdj : (A.ops[j]?).bind (·.dst) = some dj := by exact rfl) (hgc : yL want (σ.get dj) = some g := by exact rfl) (hrows : (XH P σ c.args.toList c.argTypes.toList).2 = some rows := by first | (simp; done) | (simp [G]; done) | (simp [G]; omega) | (simp_all; done)) (hlt : dj < σ.length := by first | (simp; done) | (simp [G]; done) | (simp [G]; omega) | (simp_all; done)) (hargs : g = true → (XH P σ c.args.toList c.argTypes.toList).1 := by first | (simp; done) | (simp [G]; done) | (simp [G]; omega) | (simp_all; done)) (hst : YM P σ c.args.toList c.argTypes.toList = true ∨ Qe own [res] := by first | (simp; done) | (simp [G]; done) | (simp [G]; omega) | (simp_all; done)) : @SI P σ A o l k := G3 hop hc hg hd hdj hgc hs hrows hlt hargs hst h
theorem cGg {A : KQ} {o : OpI} {l : zC} {c : Call} {f : FuncId} {d : Nat} {j dj : Nat} {want g own : Bool} {rows : List (List D)} {res : List D} {p : Prop} (hs : g = true → Xr P f own rows [res]) (h : p) (hop : o.o.op = .call c := by exact rfl) (hc : c.callee = .value (.func f) := by exact rfl) (hg : o.o.guard = some (j, want) := by exact rfl) (hd : o.o.dst = some d := by exact rfl) (hdj : (A.ops[j]?).bind (·.dst) = some dj := by exact rfl) (hgc : yL want (σ.get dj) = some g := by exact rfl) (hrows : (XH P σ c.args.toList c.argTypes.toList).2 = some rows := by first | (simp; done) | (simp [G]; done) | (simp [G]; omega) | (simp_all; done)) (hlt : dj < σ.length := by first | (simp; done) | (simp [G]; done) | (simp [G]; omega) | (simp_all; done)) (hargs : g = true → (XH P σ c.args.toList c.argTypes.toList).1 := by first | (simp; done) | (simp [G]; done) | (simp [G]; omega) | (simp_all; done)) (hst : YM P σ c.args.toList c.argTypes.toList = true ∨ Qe own [res] := by first | (simp; done) | (simp [G]; done) | (simp [G]; omega) | (simp_all; done)) (kk : Bx p → @EI P (σ.put d (.cnd g (yP [res]))) A l k := by (intro z; simp [G, Go.Vm.ZD]; (repeat (with_reducible refine Go.Mo.sdg ?_)); exact z.h)) : @SI P σ A o l k := G3 hop hc hg hd hdj hgc hs hrows hlt hargs hst (kk ⟨h⟩)
theorem cGs {A : KQ} {o : OpI} {l : zC} {c : Call} {f : FuncId} {d : Nat} {j dj : Nat} {want g own : Bool} {rows : List (List D)} {res : List D} {p : Prop} (hs : g = true → Xr P f own rows [res]) (h : p) (hop : o.o.op = .call c := by exact rfl) (hc : c.callee = .value (.func f) := by exact rfl) (hg : o.o.guard = some (j, want) := by exact rfl) (hd : o.o.dst = some d := by exact rfl) (hdj : (A.ops[j]?).bind (·.dst) = some dj := by exact rfl) (hgc : yL want (σ.get dj) = some g := by exact rfl) (hrows : (XH P σ c.args.toList c.argTypes.toList).2 = some rows := by simp) (hlt : dj < σ.length := by simp) (hargs : g = true → (XH P σ c.args.toList c.argTypes.toList).1 := by simp) (hst : YM P σ c.args.toList c.argTypes.toList = true ∨ Qe own [res] := by simp) (kk : Bx p → @EI P (σ.put d (.cnd g (yP [res]))) A l k := by (intro z; simp; (repeat (with_reducible refine Go.Mo.sd ?_)); exact z.h)) : @SI P σ A o l k := G3 hop hc hg hd hdj hgc hs hrows hlt hargs hst (kk ⟨h⟩)
theorem dIo {id : Nat} {l : List Oper} {br : Oper → Bool} (hm : P.follows .mixedOrders = true) (h : @EI P σ ⟨⟨l⟩, fun _ => false⟩ ⟨l⟩ k) (hdr : RI ⟨l⟩ (fun i => i) (fun _ => false) = true := by kernel_rfl) (hcl : zK ⟨l⟩ (fun i => i) σ = true := by kernel_rfl) : @DI P id σ ⟨⟨l⟩, br⟩ k := E0 hm hdr hcl h
theorem dIg {id : Nat} {l : List Oper} {br : Oper → Bool} {p : Prop} (hm : P.follows .mixedOrders = true) (h : p) (hdr : RI ⟨l⟩ (fun i => i) (fun _ => false) = true := by kernel_rfl) (hcl : zK ⟨l⟩ (fun i => i) σ = true := by kernel_rfl) (kk : Bx p → @EI P σ ⟨⟨l⟩, fun _ => false⟩ ⟨l⟩ k := by (intro z; simp [G, Go.Vm.ZD]; (repeat (with_reducible refine Go.Mo.sdg ?_)); exact z.h)) : @DI P id σ ⟨⟨l⟩, br⟩ k := E0 hm hdr hcl (kk ⟨h⟩)
theorem dIs {id : Nat} {l : List Oper} {br : Oper → Bool} {p : Prop} (hm : P.follows .mixedOrders = true) (h : p) (hdr : RI ⟨l⟩ (fun i => i) (fun _ => false) = true := by kernel_rfl) (hcl : zK ⟨l⟩ (fun i => i) σ = true := by kernel_rfl) (kk : Bx p → @EI P σ ⟨⟨l⟩, fun _ => false⟩ ⟨l⟩ k := by (intro z; simp; (repeat (with_reducible refine Go.Mo.sd ?_)); exact z.h)) : @DI P id σ ⟨⟨l⟩, br⟩ k := E0 hm hdr hcl (kk ⟨h⟩)
theorem eIs {A : KQ} {o : OpI} {l : zC} {d : Nat} {p : Prop}  (h : p) (hp : Iu o.o = true := by exact rfl) (hg : o.o.guard = none := by exact rfl) (hd : o.o.dst = some d := by exact rfl) (kk : Bx p → (evS P σ o.o d).1 ∧ @EI P (evS P σ o.o d).2 A l k := by (intro z; simp; (repeat (with_reducible refine Go.Mo.sd ?_)); exact z.h)) : @SI P σ A o l k := evI hp hg hd (kk ⟨h⟩)
theorem sGo {A : KQ} {o : OpI} {l : zC} {j dj d : Nat} {want g : Bool}  (h : @EI P (σ.put d (.cnd false .any)) A l k) (hg : o.o.guard = some (j, want) := by exact rfl) (hd : o.o.dst = some d := by exact rfl) (hdj : (A.ops[j]?).bind (·.dst) = some dj := by exact rfl) (hgc : yL want (σ.get dj) = some g := by exact rfl) (hlt : dj < σ.length := by simp) (hgf : g = false := by simp [G]) : @SI P σ A o l k := CP hg hd hdj hgc hlt hgf h
theorem sGg {A : KQ} {o : OpI} {l : zC} {j dj d : Nat} {want g : Bool} {p : Prop}  (h : p) (hg : o.o.guard = some (j, want) := by exact rfl) (hd : o.o.dst = some d := by exact rfl) (hdj : (A.ops[j]?).bind (·.dst) = some dj := by exact rfl) (hgc : yL want (σ.get dj) = some g := by exact rfl) (hlt : dj < σ.length := by simp) (hgf : g = false := by simp [G]) (kk : Bx p → @EI P (σ.put d (.cnd false .any)) A l k := by (intro z; simp [G, Go.Vm.ZD]; (repeat (with_reducible refine Go.Mo.sdg ?_)); exact z.h)) : @SI P σ A o l k := CP hg hd hdj hgc hlt hgf (kk ⟨h⟩)
theorem gIf {A : KQ} {o : OpI} {l : zC} {j dj d : Nat} {want g : Bool} {r1 r2 : Prop} {q : Prop} (ht : r1 → ((evV P σ o.o.op o.o.type).1 ∧ gOf (evV P σ o.o.op o.o.type).2 = true ∧ (unc (evV P σ o.o.op o.o.type).2).flat = true) ∧ @EI P (σ.put d (.cnd true (unc (evV P σ o.o.op o.o.type).2))) A l k) (hf : r2 → q) (hop : NG o.o.op = false := by exact rfl) (hg : o.o.guard = some (j, want) := by exact rfl) (hd : o.o.dst = some d := by exact rfl) (hdj : (A.ops[j]?).bind (·.dst) = some dj := by exact rfl) (hgc : yL want (σ.get dj) = some g := by exact rfl) (hlt : dj < σ.length := by simp) (k1 : g = true → r1 := by (intro h; (try simp only [beq_true, beq_false, Bool.not_eq_true', Bool.not_eq_false', Bool.true_and, Bool.and_true] at h); exact h)) (k2 : g = false → r2 := by (intro h; (try simp only [beq_true, beq_false, Bool.not_eq_true', Bool.not_eq_false', Bool.true_and, Bool.and_true] at h); exact h)) (kf : r2 → Bx q → @EI P (σ.put d (.cnd false .any)) A l k := by (intro G z; simp [G, Go.Vm.ZD]; (repeat (with_reducible refine Go.Mo.sdg ?_)); exact z.h)) : @SI P σ A o l k := IC hop hg hd hdj hgc hlt (fun h => ht (k1 h)) (fun h => (fun G => kf G ⟨hf G⟩) (k2 h))
theorem gIo {A : KQ} {o : OpI} {l : zC} {j dj d : Nat} {want g : Bool} {r1 r2 : Prop} (ht : r1 → ((evV P σ o.o.op o.o.type).1 ∧ gOf (evV P σ o.o.op o.o.type).2 = true ∧ (unc (evV P σ o.o.op o.o.type).2).flat = true) ∧ @EI P (σ.put d (.cnd true (unc (evV P σ o.o.op o.o.type).2))) A l k) (hf : r2 → @EI P (σ.put d (.cnd false .any)) A l k) (hop : NG o.o.op = false := by exact rfl) (hg : o.o.guard = some (j, want) := by exact rfl) (hd : o.o.dst = some d := by exact rfl) (hdj : (A.ops[j]?).bind (·.dst) = some dj := by exact rfl) (hgc : yL want (σ.get dj) = some g := by exact rfl) (hlt : dj < σ.length := by simp) (k1 : g = true → r1 := by (intro h; (try simp only [beq_true, beq_false, Bool.not_eq_true', Bool.not_eq_false', Bool.true_and, Bool.and_true] at h); exact h)) (k2 : g = false → r2 := by (intro h; (try simp only [beq_true, beq_false, Bool.not_eq_true', Bool.not_eq_false', Bool.true_and, Bool.and_true] at h); exact h)) : @SI P σ A o l k := IC hop hg hd hdj hgc hlt (fun h => ht (k1 h)) (fun h => hf (k2 h))
theorem gJf {A : KQ} {o : OpI} {l : zC} {j dj d : Nat} {want g : Bool} {r1 r2 s : Prop} {q : Prop} (G : s) (ht : s ∧ r1 → ((evV P σ o.o.op o.o.type).1 ∧ gOf (evV P σ o.o.op o.o.type).2 = true ∧ (unc (evV P σ o.o.op o.o.type).2).flat = true) ∧ @EI P (σ.put d (.cnd true (unc (evV P σ o.o.op o.o.type).2))) A l k) (hf : s ∧ r2 → q) (hop : NG o.o.op = false := by exact rfl) (hg : o.o.guard = some (j, want) := by exact rfl) (hd : o.o.dst = some d := by exact rfl) (hdj : (A.ops[j]?).bind (·.dst) = some dj := by exact rfl) (hgc : yL want (σ.get dj) = some g := by exact rfl) (hlt : dj < σ.length := by simp) (k1 : g = true → r1 := by (intro h; (try simp only [beq_true, beq_false, Bool.not_eq_true', Bool.not_eq_false', Bool.true_and, Bool.and_true] at h); exact h)) (k2 : g = false → r2 := by (intro h; (try simp only [beq_true, beq_false, Bool.not_eq_true', Bool.not_eq_false', Bool.true_and, Bool.and_true] at h); exact h)) (kf : s ∧ r2 → Bx q → @EI P (σ.put d (.cnd false .any)) A l k := by (intro G z; simp [G, Go.Vm.ZD]; (repeat (with_reducible refine Go.Mo.sdg ?_)); exact z.h)) : @SI P σ A o l k := IC hop hg hd hdj hgc hlt (fun h => ht ⟨G, k1 h⟩) (fun h => (fun G => kf G ⟨hf G⟩) ⟨G, k2 h⟩)
theorem gK {A : KQ} {o : OpI} {l : zC} {j dj d : Nat} {want g : Bool} {r1 : Prop} (ht : r1 → ((evV P σ o.o.op o.o.type).1 ∧ gOf (evV P σ o.o.op o.o.type).2 = true ∧ (unc (evV P σ o.o.op o.o.type).2).flat = true) ∧ @EI P (σ.put d (.cnd true (unc (evV P σ o.o.op o.o.type).2))) A l k) (hop : NG o.o.op = false := by exact rfl) (hg : o.o.guard = some (j, want) := by exact rfl) (hd : o.o.dst = some d := by exact rfl) (hdj : (A.ops[j]?).bind (·.dst) = some dj := by exact rfl) (hgc : yL want (σ.get dj) = some g := by exact rfl) (hlt : dj < σ.length := by simp) (k1 : g = true → r1 := by (intro h; (try simp only [beq_true, beq_false, Bool.not_eq_true', Bool.not_eq_false', Bool.true_and, Bool.and_true] at h); exact h)) (k2 : g = false → False := by first | (intro g0; simp at g0; done) | (intro g0; simp [G] at g0; done)) : @SI P σ A o l k := IC hop hg hd hdj hgc hlt (fun h => ht (k1 h)) (fun h => (k2 h).elim)
theorem rt {α : Type} {x y : α} {fn : Func} {res : List (List D)} (rv : List ResultVar) (f : Me x y) (hf : fn.results = rv.toArray := by exact rfl) (h : x = y → (Qs P σ rv).1 ∧ kp σ (Qs P σ rv).2 = some res := by (intro f; simp [f])) : H7 P fn false res .ret σ := CQ hf (h f.h)
theorem rtg {α : Type} {x y : α} {fn : Func} {res : List (List D)} (rv : List ResultVar) (f : Me x y) (hf : fn.results = rv.toArray := by exact rfl) (h : x = y → (Qs P σ rv).1 ∧ kp σ (Qs P σ rv).2 = some res := by (intro f; simp [f, G])) : H7 P fn false res .ret σ := CQ hf (h f.h)
theorem rtO {α : Type} {x y : α} {fn : Func} {res : List (List D)} (rv : List ResultVar) (f : Me x y) (hf : fn.results = rv.toArray := by exact rfl) (h : x = y → (Qs P σ rv).1 ∧ jT σ (Qs P σ rv).2 = some res ∧ (YW (Qs P σ rv).2.flatten).Nodup := by (intro f; simp [f])) : H7 P fn true res .ret σ := BU hf (h f.h)
theorem rtD {α : Type} {x y : α} {fn : Func} {res : List (List D)} (rv : List ResultVar) (f : Me x y) (hf : fn.results = rv.toArray := by exact rfl) (h : x = y → (Qs P σ rv).1 ∧ zk σ (Qs P σ rv).2 = some res ∧ zT σ (Qs P σ rv).2 ∧ (YW (Qs P σ rv).2.flatten).Nodup := by (intro f; simp [f])) : F5 P fn res .ret σ := Bj hf (h f.h)
theorem EL {α : Type} {x y : α} {fn : Func} {res : List (List D)} (rv : List ResultVar) (f : Me x y) (hf : fn.results = rv.toArray := by exact rfl) (h : x = y → (Qs P σ rv).1 ∧ zk σ (Qs P σ rv).2 = some res ∧ zT σ (Qs P σ rv).2 ∧ (YW (Qs P σ rv).2.flatten).Nodup := by (intro f; simp [f, G])) : F5 P fn res .ret σ := Bj hf (h f.h)
end
class NxI where
 p : St → Prop
def Nx (σ : St) [n : NxI] : Prop := n.p σ
section
variable {P : Program} {σ : St} {k : Fr}
theorem FH {c : zw} {n n' : St → Prop} (hn : ∀ σ', n σ' → n' σ') (h : @WI P σ c (.nxt n k)) : AWP P c.c (Fr.run P (.nxt n' k)) σ :=
 HP (fun e σ' hq => by cases e <;> first | exact hn _ hq | exact hq) (j7 h)
abbrev Q1 {R : Type} {A0 : Type} (L : Nat → A0 → R) (S : A0 → St) (I : Nat → A0 → Prop) (t : R) (b : Nat) : NxI := ⟨fun τ => ∃ a0, Me t (L b a0) ∧ (1 ≤ b ∧ I b a0) ∧ Wk τ (S a0)⟩
theorem nx1 {R : Type} {A0 : Type} {L : Nat → A0 → R} {S : A0 → St} {I : Nat → A0 → Prop} {t : R} {b : Nat} {a0 : A0} (e : Me t (L b a0)) (hI : 1 ≤ b ∧ I b a0 := by ((try dsimp only); first | omega | (simp at *; omega))) (hw : Wk σ (S a0) := by exact XG (by simp)) : @Nx σ (Q1 L S I t b) := ⟨a0, e, hI, hw⟩
theorem ny1 {R : Type} {A0 : Type} {L : Nat → A0 → R} {S : A0 → St} {I : Nat → A0 → Prop} {t : R} {b : Nat} {a0 : A0} {q : Prop} (F : q) (e : Me t (L b a0)) (hI : 1 ≤ b ∧ I b a0 := by ((try dsimp only); first | omega | (simp at *; omega))) (kw : q → Wk σ (S a0) := by (intro F; exact XG (by simp [F]))) : @Nx σ (Q1 L S I t b) := ⟨a0, e, hI, kw F⟩
theorem lp1 {c : zw} {R : Type} {A0 : Type} {L B : Nat → A0 → R} (hL : ∀ (a0 : A0) (n : Nat), L (Nat.succ n) a0 = B n a0) (S : A0 → St) (I : Nat → A0 → Prop) (n0 : Nat) (b0 : A0) {p : Nat → A0 → Prop}
  (round : ∀ n (a0 : A0), Me (L n0 b0) (B n a0) → 1 ≤ n + 1 ∧ I (n + 1) a0 → p n a0) (hI : 1 ≤ n0 ∧ I n0 b0 := by first | omega | (dsimp only; omega) | simp) (h0 : Wk σ (S b0) := by exact XG (by simp)) (kk : ∀ n (a0 : A0), Bx (p n a0) → @WI P (S a0) c (.nxt (fun σ' => @Nx σ' (Q1 L S I (L n0 b0) n)) k) := by (intro n_ a0_ z; simp; (repeat (with_reducible refine Go.Mo.sd ?_)); exact z.h)) : @RM P σ c k := by
 refine Tz (ι := { s : Nat × A0 // Me (L n0 b0) (L s.1 s.2) ∧ (1 ≤ s.1 ∧ I s.1 s.2) }) (fun s => S s.1.2) (fun s => s.1.1) ⟨(n0, b0), ⟨rfl⟩, hI⟩ h0 ?_
 rintro ⟨⟨n1, a0⟩, e, j⟩
 obtain ⟨n, rfl⟩ : ∃ q, n1 = q + 1 := ⟨n1 - 1, by have := j.1; (try dsimp only at this); omega⟩
 refine FH (fun σ' hn => ?_) (kk n a0 ⟨round n a0 ⟨by have := e.h; (try dsimp only at this); rw [this, hL]⟩ j⟩)
 obtain ⟨c0, e2, j2, w2⟩ := hn
 exact ⟨⟨(n, c0), e2, j2⟩, Nat.lt_succ_self n, w2⟩
abbrev Q2 {R : Type} {A0 A1 : Type} (L : Nat → A0 → A1 → R) (S : A0 → A1 → St) (I : Nat → A0 → A1 → Prop) (t : R) (b : Nat) : NxI := ⟨fun τ => ∃ a0 a1, Me t (L b a0 a1) ∧ (1 ≤ b ∧ I b a0 a1) ∧ Wk τ (S a0 a1)⟩
theorem nx2 {R : Type} {A0 A1 : Type} {L : Nat → A0 → A1 → R} {S : A0 → A1 → St} {I : Nat → A0 → A1 → Prop} {t : R} {b : Nat} {a0 : A0} {a1 : A1} (e : Me t (L b a0 a1)) (hI : 1 ≤ b ∧ I b a0 a1 := by ((try dsimp only); first | omega | (simp at *; omega))) (hw : Wk σ (S a0 a1) := by exact XG (by simp)) : @Nx σ (Q2 L S I t b) := ⟨a0, a1, e, hI, hw⟩
theorem ny2 {R : Type} {A0 A1 : Type} {L : Nat → A0 → A1 → R} {S : A0 → A1 → St} {I : Nat → A0 → A1 → Prop} {t : R} {b : Nat} {a0 : A0} {a1 : A1} {q : Prop} (F : q) (e : Me t (L b a0 a1)) (hI : 1 ≤ b ∧ I b a0 a1 := by ((try dsimp only); first | omega | (simp at *; omega))) (kw : q → Wk σ (S a0 a1) := by (intro F; exact XG (by simp [F]))) : @Nx σ (Q2 L S I t b) := ⟨a0, a1, e, hI, kw F⟩
theorem lp2 {c : zw} {R : Type} {A0 A1 : Type} {L B : Nat → A0 → A1 → R} (hL : ∀ (a0 : A0) (a1 : A1) (n : Nat), L (Nat.succ n) a0 a1 = B n a0 a1) (S : A0 → A1 → St) (I : Nat → A0 → A1 → Prop) (n0 : Nat) (b0 : A0) (b1 : A1) {p : Nat → A0 → A1 → Prop}
  (round : ∀ n (a0 : A0) (a1 : A1), Me (L n0 b0 b1) (B n a0 a1) → 1 ≤ n + 1 ∧ I (n + 1) a0 a1 → p n a0 a1) (hI : 1 ≤ n0 ∧ I n0 b0 b1 := by first | omega | (dsimp only; omega) | simp) (h0 : Wk σ (S b0 b1) := by exact XG (by simp)) (kk : ∀ n (a0 : A0) (a1 : A1), Bx (p n a0 a1) → @WI P (S a0 a1) c (.nxt (fun σ' => @Nx σ' (Q2 L S I (L n0 b0 b1) n)) k) := by (intro n_ a0_ a1_ z; simp; (repeat (with_reducible refine Go.Mo.sd ?_)); exact z.h)) : @RM P σ c k := by
 refine Tz (ι := { s : Nat × A0 × A1 // Me (L n0 b0 b1) (L s.1 s.2.1 s.2.2) ∧ (1 ≤ s.1 ∧ I s.1 s.2.1 s.2.2) }) (fun s => S s.1.2.1 s.1.2.2) (fun s => s.1.1) ⟨(n0, b0, b1), ⟨rfl⟩, hI⟩ h0 ?_
 rintro ⟨⟨n1, a0, a1⟩, e, j⟩
 obtain ⟨n, rfl⟩ : ∃ q, n1 = q + 1 := ⟨n1 - 1, by have := j.1; (try dsimp only at this); omega⟩
 refine FH (fun σ' hn => ?_) (kk n a0 a1 ⟨round n a0 a1 ⟨by have := e.h; (try dsimp only at this); rw [this, hL]⟩ j⟩)
 obtain ⟨c0, c1, e2, j2, w2⟩ := hn
 exact ⟨⟨(n, c0, c1), e2, j2⟩, Nat.lt_succ_self n, w2⟩
abbrev Q3 {R : Type} {A0 A1 A2 : Type} (L : Nat → A0 → A1 → A2 → R) (S : A0 → A1 → A2 → St) (I : Nat → A0 → A1 → A2 → Prop) (t : R) (b : Nat) : NxI := ⟨fun τ => ∃ a0 a1 a2, Me t (L b a0 a1 a2) ∧ (1 ≤ b ∧ I b a0 a1 a2) ∧ Wk τ (S a0 a1 a2)⟩
theorem nx3 {R : Type} {A0 A1 A2 : Type} {L : Nat → A0 → A1 → A2 → R} {S : A0 → A1 → A2 → St} {I : Nat → A0 → A1 → A2 → Prop} {t : R} {b : Nat} {a0 : A0} {a1 : A1} {a2 : A2} (e : Me t (L b a0 a1 a2)) (hI : 1 ≤ b ∧ I b a0 a1 a2 := by ((try dsimp only); first | omega | (simp at *; omega))) (hw : Wk σ (S a0 a1 a2) := by exact XG (by simp)) : @Nx σ (Q3 L S I t b) := ⟨a0, a1, a2, e, hI, hw⟩
theorem ny3 {R : Type} {A0 A1 A2 : Type} {L : Nat → A0 → A1 → A2 → R} {S : A0 → A1 → A2 → St} {I : Nat → A0 → A1 → A2 → Prop} {t : R} {b : Nat} {a0 : A0} {a1 : A1} {a2 : A2} {q : Prop} (F : q) (e : Me t (L b a0 a1 a2)) (hI : 1 ≤ b ∧ I b a0 a1 a2 := by ((try dsimp only); first | omega | (simp at *; omega))) (kw : q → Wk σ (S a0 a1 a2) := by (intro F; exact XG (by simp [F]))) : @Nx σ (Q3 L S I t b) := ⟨a0, a1, a2, e, hI, kw F⟩
theorem lp3 {c : zw} {R : Type} {A0 A1 A2 : Type} {L B : Nat → A0 → A1 → A2 → R} (hL : ∀ (a0 : A0) (a1 : A1) (a2 : A2) (n : Nat), L (Nat.succ n) a0 a1 a2 = B n a0 a1 a2) (S : A0 → A1 → A2 → St) (I : Nat → A0 → A1 → A2 → Prop) (n0 : Nat) (b0 : A0) (b1 : A1) (b2 : A2) {p : Nat → A0 → A1 → A2 → Prop}
  (round : ∀ n (a0 : A0) (a1 : A1) (a2 : A2), Me (L n0 b0 b1 b2) (B n a0 a1 a2) → 1 ≤ n + 1 ∧ I (n + 1) a0 a1 a2 → p n a0 a1 a2) (hI : 1 ≤ n0 ∧ I n0 b0 b1 b2 := by first | omega | (dsimp only; omega) | simp) (h0 : Wk σ (S b0 b1 b2) := by exact XG (by simp)) (kk : ∀ n (a0 : A0) (a1 : A1) (a2 : A2), Bx (p n a0 a1 a2) → @WI P (S a0 a1 a2) c (.nxt (fun σ' => @Nx σ' (Q3 L S I (L n0 b0 b1 b2) n)) k) := by (intro n_ a0_ a1_ a2_ z; simp; (repeat (with_reducible refine Go.Mo.sd ?_)); exact z.h)) : @RM P σ c k := by
 refine Tz (ι := { s : Nat × A0 × A1 × A2 // Me (L n0 b0 b1 b2) (L s.1 s.2.1 s.2.2.1 s.2.2.2) ∧ (1 ≤ s.1 ∧ I s.1 s.2.1 s.2.2.1 s.2.2.2) }) (fun s => S s.1.2.1 s.1.2.2.1 s.1.2.2.2) (fun s => s.1.1) ⟨(n0, b0, b1, b2), ⟨rfl⟩, hI⟩ h0 ?_
 rintro ⟨⟨n1, a0, a1, a2⟩, e, j⟩
 obtain ⟨n, rfl⟩ : ∃ q, n1 = q + 1 := ⟨n1 - 1, by have := j.1; (try dsimp only at this); omega⟩
 refine FH (fun σ' hn => ?_) (kk n a0 a1 a2 ⟨round n a0 a1 a2 ⟨by have := e.h; (try dsimp only at this); rw [this, hL]⟩ j⟩)
 obtain ⟨c0, c1, c2, e2, j2, w2⟩ := hn
 exact ⟨⟨(n, c0, c1, c2), e2, j2⟩, Nat.lt_succ_self n, w2⟩
end
@[simp] abbrev rI (x : Int) : List D := [.int .i64 x]
@[simp] abbrev rB (b : Bool) : List D := [.bool b]
@[simp] abbrev rS (s : ByteArray) : List D := [.str s]
@[simp] abbrev rL {α : Type} (n : Nat) (f : α → List D) (l : List α) : List D := [.sl n (l.map f)]
end Go.Vm
