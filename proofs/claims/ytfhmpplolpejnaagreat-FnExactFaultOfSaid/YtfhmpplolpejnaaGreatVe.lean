/- An abstract machine Hz the model of Go, by value, and that it is sound: part Ve. No condition. -/
import Derived.Test.YtfhmpplolpejnaaGreatVd
namespace Go.Vm
open Go.RowKit
section
variable {P : Program} {σ : St} {k : Fr}
end
end Go.Vm
namespace Go.Vm
open Go.RowKit
def vr (σ : St) : V → Option Nat
 | .one (.d (.sl _ rows)) => some rows.length
 | .one (.sref t j _ len) => (match σ.ob t j with | .arr _ _ _ => some len | _ => none)
 | .fix _ (.one (.sref t j _ len)) => (match σ.ob t j with | .arr _ _ _ => some len | _ => none)
 | _ => none
def kc (σ : St) : Prop := ∀ t n, vr σ (σ.get t) = some n → n ≤ 9223372036854775807
theorem sC {T : CS} {h : Nat → Nat → Hd} {σ : St} {w : World} : ∀ {v : V} {val : Value} {n : Nat}, vr σ v = some n → Xl T h σ.ob w v val → n ≤ maxLen
 | .one (.d (.sl s rows)), val, n, hn, hv => by
  simp only [vr] at hn
  cases hn
  obtain ⟨base, cap, _, h1, h2⟩ := B8 (r := (show Rd T w val (.sl s rows) from hv))
  omega
 | .one (.sref u j lo len), val, n, hn, hv => by
  simp only [vr] at hn
  split at hn
  ·rename_i q s rows ho
   cases hn
   have hh := (show Z7 T h σ.ob w (.sref u j lo len) val from hv).2.1 _ _ _ ho
   obtain ⟨_, _, base, cap, _, h1, h2, _⟩ := hh
   omega
  ·cases hn
 | .fix u0 (.one (.sref u j lo len)), val, n, hn, hv => by
  simp only [vr] at hn
  split at hn
  ·rename_i q s rows ho
   cases hn
   have hh := (show Z7 T h σ.ob w (.sref u j lo len) val from hv.2).2.1 _ _ _ ho
   obtain ⟨_, _, base, cap, _, h1, h2, _⟩ := hh
   omega
  ·cases hn
theorem CJ {T0 : CS} {B : Nat → Prop} {σ : St} {a : Act} {w : World} (r : Jc T0 B σ a w) : kc σ := by
 obtain ⟨X, h, r⟩ := r
 intro t n hn
 exact sC hn (r.get t)
theorem Dj {P : Program} {c : Code} {Q : Exit → St → Prop} {σ : St} (h : kc σ → AWP P c Q σ) : AWP P c Q σ := fun T0 B a w r => h (CJ r) T0 B a w r
section
variable {P : Program} {σ : St} {k : Fr}
theorem pO {b : Bool} {x y : yM} (ht : kc σ → b = true → @WI P σ x k) (hf : kc σ → b = false → @WI P σ y k) : @CI P b σ x y k :=
 ⟨fun h => Dj fun hk => US (ht hk h), fun h => Dj fun hk => US (hf hk h)⟩
theorem Ol {b c : Bool} {x y : yM} (hc : c = b) (ht : kc σ → c = true → @WI P σ x k) (hf : kc σ → c = false → @WI P σ y k) : @CI P b σ x y k := by
 subst hc; exact pO ht hf
theorem okL {c : yM} (h : kc σ → @Pf P σ c k) : @Pf P σ c k := Dj h
theorem okD {id : Nat} {A : yF} (h : kc σ → @DI P id σ A k) : @DI P id σ A k := Dj h
def IP : Op → Bool
 | .call _ => true
 | _ => false
theorem DH {A : yF} {o : OpI} {l : xZ} {j dj d : Nat} {want g : Bool} (hop : IP o.o.op = false) (hg : o.o.guard = some (j, want)) (hd : o.o.dst = some d)
  (hdj : (A.ops[j]?).bind (·.dst) = some dj) (hgc : qj want (σ.get dj) = some g) (hlt : dj < σ.length)
  (ht : g = true → ((evV P σ o.o.op o.o.type).1 ∧ gOf (evV P σ o.o.op o.o.type).2 = true ∧ (unc (evV P σ o.o.op o.o.type).2).flat = true) ∧ @EI P (σ.put d (.cnd true (unc (evV P σ o.o.op o.o.type).2))) A l k)
  (hf : g = false → @EI P (σ.put d (.cnd false .any)) A l k) : @SI P σ A o l k := by
 have step : ∀ v, (g = true → (evV P σ o.o.op o.o.type).1 ∧ gOf (evV P σ o.o.op o.o.type).2 = true ∧ v = unc (evV P σ o.o.op o.o.type).2 ∧ v.flat = true) → XS P A.ops o.o σ (σ.put d (.cnd g v)) := by
  intro v hv
  unfold XS
  simp only [hg]
  refine ⟨dj, d, g, v, hdj, hlt, hd, hgc, fun hgt => ?_, rfl⟩
  obtain ⟨h1, h2, h3, h4⟩ := hv hgt
  have base : ∃ v0, Yj P σ o.o.op o.o.type v0 ∧ gOf v0 = true ∧ v = unc v0 ∧ v.flat = true := ⟨_, Ac h1, h2, h3, h4⟩
  unfold MO
  split
  ·rename_i c hc; rw [hc] at hop; cases hop
  ·exact base
 cases g with
 | true =>
  obtain ⟨⟨h1, h2, h3⟩, h4⟩ := ht rfl
  exact ⟨_, .inl (step _ fun _ => ⟨h1, h2, rfl, h3⟩), JL h4⟩
 | false => exact ⟨_, .inl (step .any (fun h => by cases h)), JL (hf rfl)⟩
end
theorem sj {P : Program} {σ : St} {k : Fr} {A : yF} {o : OpI} {l : xZ} {j dj d : Nat} {want g : Bool} (hg : o.o.guard = some (j, want)) (hd : o.o.dst = some d)
  (hdj : (A.ops[j]?).bind (·.dst) = some dj) (hgc : qj want (σ.get dj) = some g) (hlt : dj < σ.length) (hgf : g = false)
  (h : @EI P (σ.put d (.cnd false .any)) A l k) : @SI P σ A o l k := by
 subst hgf
 refine ⟨_, .inl ?_, JL h⟩
 unfold XS
 simp only [hg]
 exact ⟨dj, d, false, .any, hdj, hlt, hd, hgc, (fun h => by cases h), rfl⟩
def Sw (P : Program) : List TypeId → List At → List At → Option Bool
 | [], _, _ => some true
 | f :: fs, x :: xs, y :: ys => (match vy P f x y, Sw P fs xs ys with | some p, some q => some (p && q) | _, _ => none)
 | _, _, _ => none
theorem Ma (P : Program) : ∀ (fs : List Field) (xs ys : List At), jH P fs xs ys = Sw P (fs.map (·.type)) xs ys
 | [], _, _ => by simp [jH, Sw]
 | f :: fs, [], _ => by simp [jH, Sw]
 | f :: fs, x :: xs, [] => by simp [jH, Sw]
 | f :: fs, x :: xs, y :: ys => by simp only [jH, List.map_cons, Sw, Ma P fs xs ys]; rfl
def Jv (P : Program) (T : TypeId) : List TypeId := (P.fieldsOf T).toList.map (·.type)
@[simp] theorem sE (P : Program) (T : TypeId) (xs ys : List At) : jH P (P.fieldsOf T).toList xs ys = Sw P (Jv P T) xs ys := Ma P _ _ _
attribute [simp] Sw
def nth {α : Type} [Inhabited α] (l : List α) (i : Nat) : α := l.getD i default
theorem ZA {α : Type} [Inhabited α] {f : α → List D} {l : List α} {i : Nat} (h : i < l.length) : rowAt (l.map f) i = f (nth l i) := by
 simp [rowAt, nth, h]
theorem qA {α : Type} {f : α → List D} {l : List α} {i : Nat} {x : α} {r : List D} (h : r = f x) : (l.map f).set i r = (l.set i x).map f := by
 rw [h, List.map_set]
abbrev W (x : Int) : Int := IntKind.i64.wrap x
theorem YA {x : Int} (h1 : -9223372036854775808 ≤ x) (h2 : x ≤ 9223372036854775807) : IntKind.i64.wrap x = x := by
 have hr : IntKind.i64.min ≤ x ∧ x ≤ IntKind.i64.max := by
  constructor
  ·show -9223372036854775808 ≤ x; exact h1
  ·show x ≤ 9223372036854775807; exact h2
 simp only [IntKind.wrap]
 first
  | (simp [IntKind.bits, IntKind.signed]; omega)
  | omega
theorem Y7 (i : Nat) : ((i : Int) - 1).toNat = i - 1 := by omega
attribute [simp] St.fresh j0 V.ref V.O3 Yu U1
end Go.Vm
namespace Go.Vm
open Go.RowKit
attribute [simp] St.rM D4 AE At.E6 O8
section
variable {P : Program} {σ : St} {k : Fr}
end
end Go.Vm
namespace Go.Vm
open Go.RowKit
def At.isP (t : Nat) : At → Bool
 | .tref u _ _ _ => u == t
 | .ptr u _ _ _ => u == t
 | _ => false
section
variable {P : Program} {T0 : CS} {B : Nat → Prop} {σ : St} {a : Act} {w w' : World} {X X' : Nat → Prop} {h : Nat → Nat → Hd}
theorem Rel.rn (r : Rel T0 B σ a w X h) {t : Nat} {size : Nat} {rows : List (List At)} {news : List (List D)} {L : List (Nat × Nat)} (ho : σ.ob t 0 = .lit size rows) (hmv : xa σ rows = some news) (hok : yl σ rows)
  (hL : YW rows.flatten = L) (hnd : L.Nodup) (hnt : (t, 0) ∉ L) (hp : (σ.YB L).Jq (At.isP t) = false) : Jc T0 B ((σ.YB L).Ya t 0 (.arr true size news)) a w := by
 have hob : σ.ob t 0 ≠ .none := by rw [ho]; simp
 have h0 := r.obj t 0
 rw [ho] at h0
 obtain ⟨e, xs, how, hz, hal⟩ := h0
 obtain ⟨hm1, hm2, hm3⟩ := Vr hmv
 have hown := RW r hal hm1 (kB hok) (by rw [hL]; exact hnd)
 rw [hL] at hown
 have r1 := r.YB L
 have hfree := r.yK L
 have hdis : ∀ b', (h t 0).u b' → JG σ h L b' → False := by
  rintro b' hu' ⟨p, hp', hne, hup⟩
  obtain ⟨q1, q2⟩ := r.inj t 0 p.1 p.2 b' hob hne hu' hup
  exact hnt (by rw [q1, q2]; exact hp')
 have hob1 : (σ.YB L).ob t 0 = .lit size rows := by rw [St.jj, if_neg hnt, ho]
 have hobn : (σ.YB L).ob t 0 ≠ .none := by rw [hob1]; simp
 have hobs : ∀ u i, ¬ (u = t ∧ i = 0) → ((σ.YB L).Ya t 0 (.arr true size news)).ob u i = (σ.YB L).ob u i := by
  intro u i hne
  rw [St.y5 _ t 0 _ u i hobn, if_neg hne]
 have hself : ((σ.YB L).Ya t 0 (.arr true size news)).ob t 0 = .arr true size news := by rw [St.y5 _ t 0 _ t 0 hobn]; simp
 generalize hσ : (σ.YB L).Ya t 0 (.arr true size news) = σ2 at *
 generalize hσ1 : σ.YB L = σ1 at *
 have hlen : σ2.length = σ1.length := by rw [← hσ, St.JN]
 have hget : ∀ u, σ2.get u = σ1.get u := fun u => by rw [← hσ, St.yC]
 let hd' : Hd := ⟨(h t 0).v, fun k => (xs[k]?).getD undef, fun b => (h t 0).u b ∨ JG σ h L b⟩
 let h' : Nat → Nat → Hd := fun u i => if u = t ∧ i = 0 then hd' else h u i
 have hh' : ∀ u i, ¬ (u = t ∧ i = 0) → h' u i = h u i := fun u i hne => if_neg hne
 have hht : h' t 0 = hd' := by simp [h']
 have hv : ∀ u i, (h' u i).v = (h u i).v := by
  intro u i
  by_cases hc : u = t ∧ i = 0
  ·obtain ⟨rfl, rfl⟩ := hc; rw [hht]
  ·rw [hh' u i hc]
 have at_ : ∀ {x : At} {v : Value}, At.isP t x = false → Z7 (Tof T0 X) h σ1.ob w x v → Z7 (Tof T0 X) h' σ2.ob w x v := by
  intro x v hpx rx
  cases x with
  | any => exact rx
  | d x => exact rx
  | nil s => exact rx
  | sref u i lo len =>
   refine ⟨rx.1, fun q s rws hq => ?_, fun s rws hq => ?_⟩
   ·by_cases hc : u = t ∧ i = 0
    ·obtain ⟨rfl, rfl⟩ := hc
     rw [hself] at hq; cases hq
     rw [hv, ← hm2]; exact rx.2.2 _ _ hob1
    ·rw [hobs u i hc] at hq; rw [hv]; exact rx.2.1 _ _ _ hq
   ·by_cases hc : u = t ∧ i = 0
    ·obtain ⟨rfl, rfl⟩ := hc
     rw [hself] at hq; cases hq
    ·rw [hobs u i hc] at hq; rw [hv]; exact rx.2.2 _ _ hq
  | ptr u i k c =>
   refine ⟨rx.1, fun q s rws hq => ?_⟩
   have hc : ¬ (u = t ∧ i = 0) := fun hc => by simp [At.isP, hc.1] at hpx
   rw [hobs u i hc] at hq; rw [hv]; exact rx.2 _ _ _ hq
  | bptr u c =>
   refine ⟨rx.1, fun cells hq => ?_⟩
   by_cases hc : u = t
   ·subst hc; rw [hself] at hq; cases hq
   ·rw [hobs u 0 (fun hh => hc hh.1)] at hq; rw [hv]; exact rx.2 _ hq
  | fn f u =>
   refine ⟨rx.1, fun cells hq => ?_⟩
   by_cases hc : u = t
   ·subst hc; rw [hself] at hq; cases hq
   ·rw [hobs u 0 (fun hh => hc hh.1)] at hq; rw [hv]; exact rx.2 _ hq
  | tref u i k c =>
   refine ⟨rx.1, fun s rws hq => ?_⟩
   have hc : ¬ (u = t ∧ i = 0) := fun hc => by simp [At.isP, hc.1] at hpx
   rw [hobs u i hc] at hq; rw [hh' u i hc]; exact rx.2 _ _ hq
  | rptr rr c => exact rx
 have hne_ : ∀ u i, σ2.ob u i ≠ .none → σ1.ob u i ≠ .none := by
  intro u i hn
  by_cases hc : u = t ∧ i = 0
  ·obtain ⟨rfl, rfl⟩ := hc; exact hobn
  ·rw [hobs u i hc] at hn; exact hn
 refine ⟨X, h', by rw [r1.size, hlen], r1.defers, r1.hB, r1.hX, r1.hT, fun u hu => ?_, fun u i => ?_, fun u i b hn hb => ?_, fun u i b hn hb => ?_, fun u i u' i' b hn hn' hb hb' => ?_⟩
 ·rw [hlen] at hu
  rw [hget]; exact Xl.map at_ (St.RV hp u) (r1.slot u hu)
 ·by_cases hc : u = t ∧ i = 0
  ·obtain ⟨rfl, rfl⟩ := hc
   rw [hself, hht]
   refine ⟨e, xs, by rw [← hm2]; exact how, hm3 size hz, hown.mono (fun b hb => ⟨.inr hb, fun hbb => hdis b (r.ub u 0 b hob hbb) hb⟩), fun k x d hx _ _ => by simp [hd', hx]⟩
  ·rw [hobs u i hc, hh' u i hc]
   exact Qq.map at_ (fun b k v hb hc => ⟨hc, hb⟩) (fun ho b => r1.ub u i b ho) (fun _ _ _ => rfl) (St.NH hp u i) (r1.obj u i)
 ·by_cases hc : u = t ∧ i = 0
  ·obtain ⟨rfl, rfl⟩ := hc
   rw [hht] at hb ⊢; exact .inl (r.ub u 0 b hob hb)
  ·rw [hh' u i hc] at hb ⊢; exact r1.ub u i b (hne_ u i hn) hb
 ·by_cases hc : u = t ∧ i = 0
  ·obtain ⟨rfl, rfl⟩ := hc
   rw [hht] at hb
   rcases hb with hb | hb
   ·exact r.own u 0 b hob hb
   ·have := hfree b hb; exact ⟨this.1, this.2.1, this.2.2.1⟩
  ·rw [hh' u i hc] at hb; exact r1.own u i b (hne_ u i hn) hb
 ·have key : ∀ u i b, ¬ (u = t ∧ i = 0) → σ1.ob u i ≠ .none → (h u i).u b → (h' t 0).u b → False := by
   intro u i b hc hn hb hb'
   rw [hht] at hb'
   rcases hb' with hb' | hb'
   ·exact hc (r1.inj u i t 0 b hn hobn hb hb')
   ·exact (hfree b hb').2.2.2 u i hn hb
  by_cases hc : u = t ∧ i = 0
  ·by_cases hc' : u' = t ∧ i' = 0
   ·exact ⟨hc.1.trans hc'.1.symm, hc.2.trans hc'.2.symm⟩
   ·obtain ⟨rfl, rfl⟩ := hc
    rw [hh' u' i' hc'] at hb'
    exact (key u' i' b hc' (hne_ u' i' hn') hb' hb).elim
  ·rw [hh' u i hc] at hb
   by_cases hc' : u' = t ∧ i' = 0
   ·obtain ⟨rfl, rfl⟩ := hc'
    exact (key u i b hc (hne_ u i hn) hb hb').elim
   ·rw [hh' u' i' hc'] at hb'
    exact r1.inj u i u' i' b (hne_ u i hn) (hne_ u' i' hn') hb hb'
end
section
variable {P : Program} {σ : St} {k : Fr}
theorem pJ {A : yF} {o : OpI} {l : xZ} {d : Nat} {T : TypeId} {n : Nat} {parts : Array (Nat × Operand)} {news : List (List D)} {L : List (Nat × Nat)} (hop : o.o.op = .buildSlice T n parts) (hg : o.o.guard = none) (hd : o.o.dst = some d) (hbar : A.bar o.o = true)
  (h1 : (σ.fresh d = true ∧ d < σ.length) ∧ YV P T = true ∧ Zq P (ZP P T) = true ∧ 0 < P.cellsOf (ZP P T) ∧ parts.toList.length = n ∧ n * P.cellsOf (ZP P T) ≤ 16777216) (h2 : (zU P σ (ZP P T) (P.cellsOf (ZP P T)) parts.toList 0).1)
  (h3 : YM d (zU P σ (ZP P T) (P.cellsOf (ZP P T)) parts.toList 0).2.flatten = false)
  (h4 : xa (σ.new d (.one (.sref d 0 0 (zU P σ (ZP P T) (P.cellsOf (ZP P T)) parts.toList 0).2.length)) [.lit (P.cellsOf (ZP P T)) (zU P σ (ZP P T) (P.cellsOf (ZP P T)) parts.toList 0).2]) (zU P σ (ZP P T) (P.cellsOf (ZP P T)) parts.toList 0).2 = some news ∧
   yl (σ.new d (.one (.sref d 0 0 (zU P σ (ZP P T) (P.cellsOf (ZP P T)) parts.toList 0).2.length)) [.lit (P.cellsOf (ZP P T)) (zU P σ (ZP P T) (P.cellsOf (ZP P T)) parts.toList 0).2]) (zU P σ (ZP P T) (P.cellsOf (ZP P T)) parts.toList 0).2)
  (h5 : YW (zU P σ (ZP P T) (P.cellsOf (ZP P T)) parts.toList 0).2.flatten = L ∧ L.Nodup ∧ (d, 0) ∉ L)
  (h6 : ((σ.new d (.one (.sref d 0 0 (zU P σ (ZP P T) (P.cellsOf (ZP P T)) parts.toList 0).2.length)) [.lit (P.cellsOf (ZP P T)) (zU P σ (ZP P T) (P.cellsOf (ZP P T)) parts.toList 0).2]).YB L).Jq (At.isP d) = false)
  (h : @EI P (((σ.new d (.one (.sref d 0 0 (zU P σ (ZP P T) (P.cellsOf (ZP P T)) parts.toList 0).2.length)) [.lit (P.cellsOf (ZP P T)) (zU P σ (ZP P T) (P.cellsOf (ZP P T)) parts.toList 0).2]).YB L).Ya d 0 (.arr true (P.cellsOf (ZP P T)) news)) A l k) : @SI P σ A o l k := by
 refine ⟨_, .inr ⟨hbar, ?_, fun d' hd' hc => yZ (Kc (R5 (fun e => hd' (by rw [hd, e])) hc)), fun hh => by simp [CH, hop] at hh⟩, JL h⟩
 rintro T0 B a w K Q' ⟨X, hh, r⟩ hK
 have hw : Region.wanted o.o (yielded A.ops a.tmps) = true := by simp [Region.wanted, hg]
 rw [if_pos hw]
 refine S3 r hop hd h1.1.1 h1.2.1 h1.2.2.1 h1.2.2.2.1 h1.2.2.2.2.1 h1.2.2.2.2.2 (Hm h2) h3 (fun a' w' hr hkp => hK a' w' ?_ hkp)
 obtain ⟨X', hh', r'⟩ := hr
 exact Rel.rn r' (by rw [St.Jw, if_pos ⟨rfl, h1.1.2⟩]; rfl) h4.1 h4.2 h5.1 h5.2.1 h5.2.2 h6
end
attribute [simp] At.isP
theorem YZ.own {P : Program} {f : FuncId} {args res : List (List D)} (hs : YZ P f args res) : Xi P f true args res := by
 refine ⟨hs.1, fun T w vals hT ha => (hs.2 T w vals hT ha).mono ?_⟩
 rintro e w' ⟨vs, css, he, hb, hf, hl, ⟨hlen, Sk, h1, h2, h3⟩⟩
 refine ⟨vs, css, fun b => (w.heap.size ≤ b ∧ b < w'.heap.size) ∧ ∀ (k : Nat) (c : Value) (d : D), css.flatten[k]? = some c → res.flatten[k]? = some d → d.scalar = false → blk c ≠ some b, he, hb, fun b hb => hb.1, hf, kJ hl (fun k x d hx hd => ?_), fun _ => ⟨fun i c d b hc hd hsc hbl => ?_, fun i j c c' d d' b hc hd hc' hd' hsc hsc' hbl hbl' => ?_⟩⟩
 ·simp only [xE, if_true]
  have ho := h1 k x d hx hd
  cases ho with
  | int k n => exact .int _ _
  | bool b => exact .bool _
  | str s => exact .str _
  | sl v size rows S e' xs Sk' ho hz hb' hl' hk hs' hd' =>
   refine ⟨e', xs, ho, hz, Z3.xW hl' (fun i y dd hy hdd => (hk i y dd hy hdd).rd (fun b k' hb => .inr ⟨h2 k b (hs' i b hb).1, fun k2 c2 d2 hc2 hd2 hsc2 hbl2 => ?_⟩))⟩
   have ho2 := h1 k2 c2 d2 hc2 hd2
   have hin : Sk k2 b := by
    cases ho2 with
    | int k n => cases hsc2
    | bool b => cases hsc2
    | str s => cases hsc2
    | sl v2 size2 rows2 S2 e2 xs2 Sk2 ho2 hz2 hb2 hl2 hk2 hs2 hd2' => exact hb2 b hbl2
   have := h3 k k2 b (hs' i b hb).1 hin
   subst this
   rw [hx] at hc2; cases hc2
   exact (hs' i b hb).2 hbl2
 ·have ho2 := h1 i c d hc hd
  have hin : Sk i b := by
   cases ho2 with
   | int k n => cases hsc
   | bool b => cases hsc
   | str s => cases hsc
   | sl v2 size2 rows2 S2 e2 xs2 Sk2 ho2 hz2 hb2 hl2 hk2 hs2 hd2' => exact hb2 b hbl
  have := h2 i b hin
  exact ⟨this.1, this.2, fun hy => hy.2 i c d hc hd hsc hbl⟩
 ·have hin : ∀ (i : Nat) (c : Value) (d : D), css.flatten[i]? = some c → res.flatten[i]? = some d → d.scalar = false → blk c = some b → Sk i b := by
   intro i c d hc hd hsc hbl
   have ho2 := h1 i c d hc hd
   cases ho2 with
   | int k n => cases hsc
   | bool b => cases hsc
   | str s => cases hsc
   | sl v2 size2 rows2 S2 e2 xs2 Sk2 ho2 hz2 hb2 hl2 hk2 hs2 hd2' => exact hb2 b hbl
  exact h3 i j b (hin i c d hc hd hsc hbl) (hin j c' d' hc' hd' hsc' hbl')
end Go.Vm
namespace Go.Vm
open Go.RowKit
def Fy (σ : St) (F : List (Nat × Nat)) : At → At
 | .sref t j lo len => if inF F t j then (match σ.ob t j with | .arr _ s rows => .d (.sl s (cut rows lo len)) | _ => .any) else .sref t j lo len
 | .ptr t j i c => if inF F t j then .any else .ptr t j i c
 | .tref t j i c => if inF F t j then .any else .tref t j i c
 | x => x
def pC (σ : St) (F : List (Nat × Nat)) : V → V
 | .one x => .one (Fy σ F x)
 | .agg xs => .agg (xs.map (Fy σ F))
 | .fix u (.one x) => .fix u (.one (Fy σ F x))
 | .fix u (.agg xs) => .fix u (.agg (xs.map (Fy σ F)))
 | _ => .any
def sQ (σ : St) (F : List (Nat × Nat)) (t j : Nat) (o : Ob) : Ob :=
 if inF F t j then .none else match o with | .box cs => .box (cs.map (Fy σ F)) | .lit _ _ => .none | o => o
def B2 (σ : St) (F : List (Nat × Nat)) (t : Nat) : List Ob → Nat → List Ob
 | [], _ => []
 | o :: os, j => sQ σ F t j o :: B2 σ F t os (j + 1)
def Dy (σ : St) (F : List (Nat × Nat)) : List Ent → Nat → List Ent
 | [], _ => []
 | e :: es, t => (pC σ F e.1, B2 σ F t e.2 0) :: Dy σ F es (t + 1)
def St.frz (σ : St) (F : List (Nat × Nat)) : St := Dy σ F σ 0
section
variable {P : Program} {σ : St} {k : Fr}
end
attribute [simp] Fy pC sQ B2 Dy St.frz
end Go.Vm
namespace Go.Vm
end Go.Vm
namespace Go.Vm
open Go.RowKit
abbrev ptr (b : Nat) : Value := .pointer (some ⟨b, 0, none⟩)
abbrev Cp (T : CS) (w : World) (vals : List Value) (args : List (List D)) : Prop := Z3 (fun v row => ∃ cs, zE v cs ∧ Z3 (Rd T w) cs row) vals args
def xh (n : Nat) (pre : List (List D)) (v : Value) (cells : List At) (obs : List Ob) (post : List (List D)) : St :=
 Sl pre ++ (.fix v (.one (.bptr pre.length 0)), .box cells :: obs) :: (Sl post ++ List.replicate (n - (pre.length + 1 + post.length)) (V.any, []))
section
variable {P : Program} {T0 : CS} {B : Nat → Prop} {σ : St} {a : Act} {w w' : World} {X X' : Nat → Prop} {h : Nat → Nat → Hd}
theorem wa (post : List (List D)) (m t : Nat) : ∃ x, (match (Sl post ++ List.replicate m ((V.any, []) : Ent))[t]? with | some e => e | none => (V.any, [])) = (x, []) ∧ (x = .any ∨ ∃ r, post[t]? = some r ∧ x = vOf (r.map .d)) := by
 rcases Nat.lt_or_ge t post.length with h | h
 ·rw [List.getElem?_append_left (by rw [XC]; exact h), VW, List.getElem?_eq_getElem h]
  exact ⟨_, rfl, .inr ⟨_, rfl, rfl⟩⟩
 ·rw [List.getElem?_append_right (by rw [XC]; exact h), List.getElem?_replicate]
  refine ⟨.any, ?_, .inl rfl⟩
  split
  ·rename_i e he
   split at he
   ·cases he; rfl
   ·cases he
  ·rfl
theorem ue (n : Nat) (pre : List (List D)) (v : Value) (cells : List At) (obs : List Ob) (post : List (List D)) (t : Nat) :
  (t = pre.length ∧ (xh n pre v cells obs post)[t]? = some (.fix v (.one (.bptr pre.length 0)), .box cells :: obs)) ∨
  (t ≠ pre.length ∧ (∀ j, (xh n pre v cells obs post).ob t j = .none) ∧ ((xh n pre v cells obs post).get t = .any ∨ ∃ r, (xh n pre v cells obs post).get t = vOf (r.map .d) ∧ ((t < pre.length ∧ pre[t]? = some r) ∨ (pre.length < t ∧ post[t - pre.length - 1]? = some r)))) := by
 rcases Nat.lt_trichotomy t pre.length with h | h | h
 ·refine .inr ⟨by omega, ?_⟩
  have : (xh n pre v cells obs post)[t]? = some (vOf (pre[t].map .d), []) := by
   unfold xh
   rw [List.getElem?_append_left (by rw [XC]; exact h), VW, List.getElem?_eq_getElem h]; rfl
  refine ⟨fun j => by unfold St.ob; rw [this]; simp [YR], .inr ⟨pre[t], by unfold St.get; rw [this], .inl ⟨h, List.getElem?_eq_getElem h⟩⟩⟩
 ·refine .inl ⟨h, ?_⟩
  unfold xh
  rw [List.getElem?_append_right (by rw [XC]; omega), XC, h, Nat.sub_self]; rfl
 ·refine .inr ⟨by omega, ?_⟩
  have e1 : (xh n pre v cells obs post)[t]? = (Sl post ++ List.replicate (n - (pre.length + 1 + post.length)) ((V.any, []) : Ent))[t - pre.length - 1]? := by
   unfold xh
   rw [List.getElem?_append_right (by rw [XC]; omega), XC, show t - pre.length = (t - pre.length - 1) + 1 by omega, List.getElem?_cons_succ]; rfl
  obtain ⟨x, hx, hr⟩ := wa post (n - (pre.length + 1 + post.length)) (t - pre.length - 1)
  rw [← e1] at hx
  constructor
  ·intro j
   unfold St.ob
   cases hq : (xh n pre v cells obs post)[t]? with
   | none => rfl
   | some e => rw [hq] at hx; simp only at hx; rw [hx]; simp [YR]
  ·have hg : (xh n pre v cells obs post).get t = x := by
    unfold St.get
    cases hq : (xh n pre v cells obs post)[t]? with
    | none => rw [hq] at hx; simp only at hx; injection hx
    | some e => rw [hq] at hx; simp only at hx; rw [hx]
   rcases hr with rfl | ⟨r, hr, rfl⟩
   ·exact .inl hg
   ·exact .inr ⟨r, hg, .inr ⟨h, hr⟩⟩
theorem vK {T : CS} {S : Nat → Prop} {n b : Nat} {pre post : List (List D)} {cells : List At} {obs : List Ob} {vals1 vals2 : List Value} (hd : Nat → Hd)
  (hT : ∀ k i, T k i → k < w.heap.size ∧ k ≠ b ∧ ¬ S k) (hS : ∀ k, S k → k < w.heap.size ∧ k ≠ b) (hb : b < w.heap.size) (h0 : hd 0 = Hd.of (ptr b))
  (hbox : ∀ (h : Nat → Nat → Hd) (ob : Nat → Nat → Ob), (∀ j, h pre.length j = hd j) → (∀ j, ob pre.length j = YR (.box cells :: obs) j) → Qq (Tof T (fun _ => False)) h ob w (hd 0) (.box cells))
  (hobs : ∀ (h : Nat → Nat → Hd) (ob : Nat → Nat → Ob) (j : Nat), Qq (Tof T (fun _ => False)) h ob w (hd (j + 1)) (YR obs j))
  (hub : ∀ j k, YR obs j ≠ .none → blk (hd (j + 1)).v = some k → (hd (j + 1)).u k) (hown : ∀ j k, YR obs j ≠ .none → (hd (j + 1)).u k → S k)
  (hinj : ∀ i j k, YR obs i ≠ .none → YR obs j ≠ .none → (hd (i + 1)).u k → (hd (j + 1)).u k → i = j) (ha1 : Cp T w vals1 pre) (ha2 : Cp T w vals2 post) :
  Jc T (fun k => k < w.heap.size ∧ k ≠ b ∧ ¬ S k) (xh n pre (ptr b) cells obs post) { tmps := (vals1 ++ ptr b :: vals2).toArray ++ Array.replicate (n - (vals1 ++ ptr b :: vals2).toArray.size) undef, defers := [] } w := by
 have hl1 := ha1.length
 have hl2 := ha2.length
 have hat := ue n pre (ptr b) cells obs post
 have hob0 : ∀ j, (xh n pre (ptr b) cells obs post).ob pre.length j = YR (.box cells :: obs) j := by
  intro j
  rcases hat pre.length with ⟨_, h⟩ | ⟨h, _⟩
  ·unfold St.ob; rw [h]
  ·exact absurd rfl h
 have hne0 : ∀ t j, (xh n pre (ptr b) cells obs post).ob t j ≠ .none → t = pre.length := by
  intro t j hn
  rcases hat t with ⟨h, _⟩ | ⟨_, h, _⟩
  ·exact h
  ·exact absurd (h j) hn
 have hTT : ∀ b k v, T b k → w.cell? ⟨b, k, none⟩ = some v → w.cell? ⟨b, k, none⟩ = some v ∧ Tof T (fun _ => False) b k := fun b k v hb hc => ⟨hc, .inl hb⟩
 have hu0 : ∀ k, (hd 0).u k ↔ k = b := fun k => by rw [h0]; simp [Hd.of, blk, eq_comm]
 have hobj : ∀ j, YR (.box cells :: obs) j ≠ .none → (j = 0 ∨ ∃ i, j = i + 1 ∧ YR obs i ≠ .none) := by
  intro j hn
  cases j with
  | zero => exact .inl rfl
  | succ j => exact .inr ⟨j, rfl, by rw [ji] at hn; exact hn⟩
 have hS' : ∀ j k, YR (.box cells :: obs) j ≠ .none → (hd j).u k → k = b ∨ S k := by
  intro j k hn hu
  rcases hobj j hn with rfl | ⟨i, rfl, hi⟩
  ·exact .inl ((hu0 k).1 hu)
  ·exact .inr (hown i k hi hu)
 have argrd : ∀ {vals : List Value} {args : List (List D)} {t : Nat} {r : List D}, Cp T w vals args → args[t]? = some r → ∃ v, vals[t]? = some v ∧ Xl (Tof T (fun _ => False)) (fun t j => if t = pre.length then hd j else Hd.of undef) (xh n pre (ptr b) cells obs post).ob w (vOf (r.map .d)) v := by
  intro vals args t r ha hr
  obtain ⟨v, hv, cs, hf, hal⟩ := ha.get' t r hr
  exact ⟨v, hv, (PE hf (R0 (hal.imp fun _ _ => Rd.mono hTT))).up⟩
 refine ⟨fun _ => False, fun t j => if t = pre.length then hd j else Hd.of undef, ?_⟩
 refine ⟨?_, rfl, (fun k hk => hk.1), (fun b hb => hb.elim), (fun k i hk => hT k i hk), fun t ht => ?_, fun t j => ?_, fun t j k hn hk => ?_, fun t j k hn hk => ?_, fun t j t' j' k hn hn' hk hk' => ?_⟩
 ·simp [xh, XC, hl1, hl2]; omega
 ·rcases hat t with ⟨rfl, h⟩ | ⟨hne, _, h⟩
  ·have hval : ((vals1 ++ ptr b :: vals2).toArray ++ Array.replicate (n - (vals1 ++ ptr b :: vals2).toArray.size) undef).getD pre.length undef = ptr b := by
    rw [Array.getD_eq_getD_getElem?, Array.getElem?_append_left (by simp; omega)]
    simp [← hl1]
   rw [hval]
   unfold St.get; rw [h]
   exact ⟨rfl, rfl, fun cells' _ => ⟨b, by simp [h0, Hd.of], rfl⟩⟩
  ·rcases h with h | ⟨r, h, hr⟩
   ·rw [h]; trivial
   ·rw [h]
    rcases hr with ⟨hlt, hr⟩ | ⟨hlt, hr⟩
    ·obtain ⟨v, hv, hrel⟩ := argrd ha1 hr
     have hval : ((vals1 ++ ptr b :: vals2).toArray ++ Array.replicate (n - (vals1 ++ ptr b :: vals2).toArray.size) undef).getD t undef = v := by
      rw [Array.getD_eq_getD_getElem?, Array.getElem?_append_left (by simp; omega)]
      simp [List.getElem?_append_left (show t < vals1.length by omega), hv]
     simp only [hval]; exact hrel
    ·obtain ⟨v, hv, hrel⟩ := argrd ha2 hr
     have hlt2 := (List.getElem?_eq_some_iff.1 hv).1
     have hval : ((vals1 ++ ptr b :: vals2).toArray ++ Array.replicate (n - (vals1 ++ ptr b :: vals2).toArray.size) undef).getD t undef = v := by
      rw [Array.getD_eq_getD_getElem?, Array.getElem?_append_left (by simp; omega)]
      simp only [List.getElem?_toArray]
      rw [List.getElem?_append_right (by omega), show t - vals1.length = (t - pre.length - 1) + 1 by omega, List.getElem?_cons_succ, hv]; rfl
     simp only [hval]; exact hrel
 ·by_cases hn : (xh n pre (ptr b) cells obs post).ob t j = .none
  ·rw [hn]; trivial
  ·obtain rfl := hne0 t j hn
   rw [hob0]
   simp only [if_true]
   cases j with
   | zero => exact hbox _ _ (fun j => by simp) hob0
   | succ j => rw [ji]; exact hobs _ _ j
 ·obtain rfl := hne0 t j hn
  rw [hob0] at hn
  simp only [if_true] at hk ⊢
  rcases hobj j hn with rfl | ⟨i, rfl, hi⟩
  ·rw [h0] at hk ⊢; exact hk
  ·exact hub i k hi hk
 ·obtain rfl := hne0 t j hn
  rw [hob0] at hn
  simp only [if_true] at hk
  rcases hS' j k hn hk with rfl | hs
  ·exact ⟨fun hh => hh.2.1 rfl, fun hh => hh, hb⟩
  ·exact ⟨fun hh => hh.2.2 hs, fun hh => hh, (hS k hs).1⟩
 ·obtain rfl := hne0 t j hn
  obtain rfl := hne0 t' j' hn'
  rw [hob0] at hn hn'
  simp only [if_true] at hk hk'
  refine ⟨rfl, ?_⟩
  rcases hobj j hn with rfl | ⟨i, rfl, hi⟩
  ·rcases hobj j' hn' with rfl | ⟨i', rfl, hi'⟩
   ·rfl
   ·exact absurd ((hu0 k).1 hk) (hS k (hown i' k hi' hk')).2
  ·rcases hobj j' hn' with rfl | ⟨i', rfl, hi'⟩
   ·exact absurd ((hu0 k).1 hk') (hS k (hown i k hi hk)).2
   ·rw [hinj i i' k hi hi' hk hk']
end
end Go.Vm
namespace Go.Vm
open Go.RowKit
section
variable {P : Program} {T0 : CS} {B : Nat → Prop} {σ : St} {a : Act} {w w' : World} {X X' : Nat → Prop} {h : Nat → Nat → Hd}
end
end Go.Vm
namespace Go.Vm
open Go.RowKit
section
variable {P : Program} {T0 : CS} {B : Nat → Prop} {σ : St} {a : Act} {w w' : World} {X X' : Nat → Prop} {h : Nat → Nat → Hd}
theorem Ed {T : CS} {ob : Nat → Nat → Ob} {hd : Hd} {size : Nat} {rows : List (List D)} (hr : Qq T h ob w hd (.arr true size rows)) (hf : ∀ r ∈ rows, ∀ x ∈ r, x.scalar = true) : Qq T h ob w hd (.arr false size rows) := by
 obtain ⟨e, xs, ho, hz, ⟨hl, Sk, hk, _, _⟩, _⟩ := hr
 refine ⟨e, xs, ho, hz, Z3.xW hl (fun k x d hx hd => ?_)⟩
 obtain ⟨r0, hr0, hdr⟩ := List.mem_flatten.1 (List.mem_of_getElem? hd)
 have hsc := hf r0 hr0 d hdr
 have := hk k x d hx hd
 cases this with
 | int k n => exact .int _ _
 | bool b => exact .bool _
 | str s => exact .str _
 | sl => cases hsc
def oX (dp : Bool) (σ : St) (d : Nat) (res : List (List D)) (qs : List Bool) : St := match dp with | true => σ.new d (Ui d res) (Z8 qs res.flatten) | false => σ.put d (qM res)
end
section
variable {P : Program} {σ : St} {k : Fr}
attribute [simp] oX
end
end Go.Vm
namespace Go.Vm
open Go.RowKit
def sN (w : World) (S : Nat → Prop) (b : Nat) (row' : List D) (e : Ending) (w' : World) : Prop :=
 e = .returned (.tuple #[]) ∧ XM (fun k => k < w.heap.size ∧ k ≠ b ∧ ¬ S k) w w' ∧ ∃ cs e', w'.heap[b]? = some (.cells cs e' (0, 0)) ∧ zL w' cs.toList row' (fun k => (S k ∨ (w.heap.size ≤ k ∧ k < w'.heap.size)) ∧ k ≠ b)
def Io (P : Program) (f : FuncId) (args : List (List D)) (row row' : List D) : Prop :=
 Sn P f = true ∧ ∀ (T : CS) (S : Nat → Prop) (w : World) (b : Nat) (vals : List Value), (∀ k i, T k i → k < w.heap.size ∧ k ≠ b ∧ ¬ S k) → (∀ k, S k → k < w.heap.size ∧ k ≠ b) → b < w.heap.size →
  (∃ cs e, w.heap[b]? = some (.cells cs e (0, 0)) ∧ zL w cs.toList row S) → Cp T w vals args → Calls P f (vals ++ [ptr b]).toArray w (sN w S b row')
def rK (P : Program) (fn : Func) (p : Nat) (v : Value) (row' : List D) (e : Exit) (σ : St) : Prop :=
 (e = .ret ∨ e = .normal) ∧ RL P σ fn.results.toList [] ∧ ∃ ats obs, σ[p]? = some (.fix v (.one (.bptr p 0)), .box ats :: obs) ∧ KI σ ats = some row' ∧ Xz σ ats ∧ (YW ats).Nodup
def sP (w : World) (S : Nat → Prop) (sz : Nat) (rows' : List (List D)) (e : Ending) (w' : World) : Prop :=
 ∃ u, e = .returned u ∧ XM (fun k => k < w.heap.size ∧ ¬ S k) w w' ∧ Own w' u (.sl sz rows') (fun k => S k ∨ (w.heap.size ≤ k ∧ k < w'.heap.size))
def HP (P : Program) (f : FuncId) (sz : Nat) (rows : List (List D)) (args : List (List D)) (rows' : List (List D)) : Prop :=
 Sn P f = true ∧ ∀ (T : CS) (S : Nat → Prop) (w : World) (v : Value) (vals : List Value), (∀ k i, T k i → k < w.heap.size ∧ ¬ S k) → (∀ k, S k → k < w.heap.size) → Own w v (.sl sz rows) S →
  Cp T w vals args → Calls P f (v :: vals).toArray w (sP w S sz rows')
def rb (P : Program) (fn : Func) (sz : Nat) (rows' : List (List D)) (e : Exit) (σ : St) : Prop :=
 (e = .ret ∨ e = .normal) ∧ ∃ x, RL P σ fn.results.toList [[x]] ∧ KI σ [x] = some [.sl sz rows'] ∧ Xz σ [x]
def wM (n : Nat) (sz : Nat) (rows : List (List D)) (args : List (List D)) : St := (.one (.sref 0 0 0 rows.length), [.arr false sz rows]) :: (Sl args ++ List.replicate (n - (args.length + 1)) (V.any, []))
def At.isO (u : Nat) : At → Bool
 | .sref t _ _ _ => t == u
 | .ptr t _ _ _ => t == u
 | .tref t _ _ _ => t == u
 | _ => false
def Kp (rows : List (List D)) : Prop := ∀ r ∈ rows, ∀ x ∈ r, x.scalar = true
section
variable {P : Program} {T0 : CS} {B : Nat → Prop} {σ : St} {a : Act} {w w' : World} {X X' : Nat → Prop} {h : Nat → Nat → Hd}
theorem wJ {hf : Nat → Hd} {row : List D} {qs : List Bool} (hq : kY qs row) (k4 : ∀ j size rows, row[j]? = some (.sl size rows) → ∀ T h ob, Qq T h ob w (hf j) (.arr true size rows)) (T : CS) (ob : Nat → Nat → Ob) (j : Nat) : Qq T h ob w (hf j) (YR (Z8 qs row) j) := by
 by_cases hne : YR (Z8 qs row) j = .none
 ·rw [hne]; trivial
 ·obtain ⟨size, rows, hj⟩ := (Yy qs row j hq).2 hne
  obtain ⟨q, hq', hqf⟩ := (Yy qs row j hq).1 size rows hj
  rw [hq']
  have := k4 j size rows hj T h ob
  cases q with
  | true => exact this
  | false => exact Ed this (hqf rfl)
theorem GS {f : FuncId} {fn : Func} {c : Code} (hf : P.funcs[f]? = some fn) (hb : fn.body = some c) (hok : Sn P f = true) {args : List (List D)} {row row' : List D} (qs : List Bool) (hq : kY qs row)
  (hw : ∀ v, AWP P c (rK P fn args.length v row') (xh fn.ntmps args v (JM args.length 1 row) (Z8 qs row) [])) : Io P f args row row' := by
 refine ⟨hok, fun T S w b vals hT hS hb' ⟨cs0, e0, hh0, hown0⟩ hargs => calls_of_wp hf hb ?_⟩
 obtain ⟨hfd, Sk, k1, k2, k3, k4⟩ := Ek hown0
 have hinit := vK (w := w) (T := T) (S := S) (n := fn.ntmps) (b := b) (pre := args) (post := []) (cells := JM args.length 1 row) (obs := Z8 qs row) (vals1 := vals) (vals2 := []) (fun j => match j with | 0 => Hd.of (ptr b) | j + 1 => hfd j)
  hT hS hb' rfl (fun h ob hh hob => ⟨b, cs0, e0, rfl, hh0, W9 hown0.top (fun i size rows hi => by
    obtain ⟨q, hq', _⟩ := (Yy qs row i hq).1 size rows hi
    exact ⟨q, by rw [hob, Nat.add_comm, ji]; exact hq'⟩) (fun i c hc => by rw [hh, Nat.add_comm]; exact k1 i c hc)⟩)
  (fun h ob j => wJ hq (fun j size rows hj => (k4 j size rows hj).2.2) _ _ j)
  (fun j k hn hk => by
   obtain ⟨size, rows, hj⟩ := (Yy qs row j hq).2 hn
   exact (k4 j size rows hj).2.1 k hk)
  (fun j k hn hk => by
   obtain ⟨size, rows, hj⟩ := (Yy qs row j hq).2 hn
   exact k2 j k ((k4 j size rows hj).1 k hk))
  (fun i j k hn hn' hk hk' => by
   obtain ⟨size, rows, hj⟩ := (Yy qs row i hq).2 hn
   obtain ⟨size', rows', hj'⟩ := (Yy qs row j hq).2 hn'
   exact k3 i j k ((k4 i size rows hj).1 k hk) ((k4 j size' rows' hj').1 k hk')) hargs .nil
 refine wp_mono (hw (ptr b) T _ _ w hinit) ?_
 rintro e a' w' ⟨σ', ⟨he, hres, ats, obs, hat, hmv, hmok, hnd⟩, ⟨X, h, r⟩, hkeep⟩
 obtain ⟨vs, css, hrun, hform, hal⟩ := V9 r hres
 cases hal
 cases hform
 have hpos : args.length < σ'.length := (List.getElem?_eq_some_iff.1 hat).1
 have hg0 : σ'.get args.length = .fix (ptr b) (.one (.bptr args.length 0)) := by unfold St.get; rw [hat]
 have ho0 : σ'.ob args.length 0 = .box ats := by unfold St.ob; rw [hat]; rfl
 have hslot := r.slot _ hpos
 rw [hg0] at hslot
 obtain ⟨hveq, hv1⟩ := hslot
 obtain ⟨b1, hb1, hv2⟩ := hv1.2 _ ho0
 rw [hveq] at hv2
 have hbb : b1 = b := by injection hv2 with hv2; injection hv2 with hv2; injection hv2 with hv2; exact hv2.symm
 subst hbb
 have hobj := r.obj args.length 0
 rw [ho0] at hobj
 obtain ⟨b2, cs', e', hb2, hh', hal'⟩ := hobj
 rw [hb1] at hb2
 have hbb : b2 = b1 := by injection hb2 with hb2; injection hb2 with hb2; injection hb2 with hb2; exact hb2.symm
 subst hbb
 have hub := r.ub args.length 0 b2 (by rw [ho0]; simp) (by rw [hb1]; rfl)
 have goal : a'.defers = [] ∧ ∃ v, (results fn a'.tmps).run P w' = .ok v w' ∧ sN w S b2 row' (.returned v) w' := by
  refine ⟨r.defers, _, hrun, rfl, hkeep, cs', e', hh', (RW r hal' hmv hmok hnd).mono (fun k hk => ?_)⟩
  have hg := r.yK _ k hk
  have hne : k ≠ b2 := by
   rintro rfl
   obtain ⟨p, hp, hne, hu⟩ := hk
   obtain ⟨e1, e2⟩ := r.inj p.1 p.2 args.length 0 k hne (by rw [ho0]; simp) hu hub
   obtain ⟨i, lo, len, hx⟩ := Nv hp
   obtain ⟨d, hd, hmd⟩ := (Z3.get (R := fun x d => mvD σ' x = some d) (Z3.xW (Wp hmv).1 (fun i a b h1 h2 => (Wp hmv).2 i a b h1 h2)) i _ hx)
   rw [e1, e2] at hmd
   simp [mvD, ho0] at hmd
  refine ⟨?_, hne⟩
  by_cases hs : S k
  ·exact .inl hs
  ·refine .inr ⟨?_, hg.2.2.1⟩
   rcases Nat.lt_or_ge k w.heap.size with hlt | hge
   ·exact absurd ⟨hlt, hne, hs⟩ hg.1
   ·exact hge
 rcases he with rfl | rfl
 ·exact goal
 ·exact goal
theorem Rel.pT (r : Rel T0 B σ a w X h) {u b : Nat} {cells : List At} {row' : List D} {qs : List Bool} (ho : σ.ob u 0 = .box cells) (hv : (h u 0).v = ptr b) (hlt : u < σ.length) (M S' : Nat → Prop) (hsz : w.heap.size ≤ w'.heap.size) (hw : ∀ k, k < w.heap.size → k ≠ b → ¬ M k → w'.heap[k]? = w.heap[k]?)
  (hm : ∀ k, M k → ¬ B k ∧ ¬ X k ∧ ∀ t j, σ.ob t j ≠ .none → ¬ (h t j).u k) (hone : (σ.Ya u 0 .none).Jq (At.isO u) = false) (hq : kY qs row') {cs' : Array Value} {e' : TypeId} (hh' : w'.heap[b]? = some (.cells cs' e' (0, 0)))
  (hown : zL w' cs'.toList row' S') (hS' : ∀ k, S' k → (w.heap.size ≤ k ∨ M k) ∧ k < w'.heap.size ∧ k ≠ b) : Jc T0 B (σ.new u (σ.get u) (.box (JM u 1 row') :: Z8 qs row')) a w' := by
 have hob : σ.ob u 0 ≠ .none := by rw [ho]; simp
 have hblk : blk (h u 0).v = some b := by rw [hv]; rfl
 have hub := r.ub u 0 b hob hblk
 have hbB := r.own u 0 b hob hub
 obtain ⟨hfd, Sk, k1, k2, k3, k4⟩ := Ek hown
 generalize hσ : σ.new u (σ.get u) (.box (JM u 1 row') :: Z8 qs row') = σ2
 have hobu : ∀ j, σ2.ob u j = YR (.box (JM u 1 row') :: Z8 qs row') j := fun j => by rw [← hσ, St.Jw]; simp [hlt]
 have hobn : ∀ t j, t ≠ u → σ2.ob t j = σ.ob t j := fun t j hne => by rw [← hσ, St.Jw, if_neg (fun hh => hne hh.1)]
 have hget : ∀ t, σ2.get t = σ.get t := by
  intro t
  rw [← hσ, St.II]
  split
  ·rename_i hh; rw [hh.1]
  ·rfl
 have hlen : σ2.length = σ.length := by rw [← hσ, St.SL]
 let hd' : Nat → Hd := fun j => match j with | 0 => h u 0 | j + 1 => hfd j
 let h' : Nat → Nat → Hd := fun t j => if t = u then hd' j else h t j
 have hT : ∀ k i v, Tof T0 X k i → w.cell? ⟨k, i, none⟩ = some v → w'.cell? ⟨k, i, none⟩ = some v ∧ Tof T0 X k i := by
  intro k i v hk hc
  refine ⟨?_, hk⟩
  have hne : k ≠ b := by
   rintro rfl
   rcases hk with hk | hk
   ·exact hbB.1 (r.hT _ _ hk)
   ·exact hbB.2.1 hk
  have hnm : ¬ M k := by
   intro hmk
   rcases hk with hk | hk
   ·exact (hm k hmk).1 (r.hT _ _ hk)
   ·exact (hm k hmk).2.1 hk
  rw [World.cell?_of_block (hw k (r.Tlt hk) hne hnm)]; exact hc
 have at_ : ∀ {x : At} {v : Value}, At.isO u x = false → Z7 (Tof T0 X) h σ.ob w x v → Z7 (Tof T0 X) h' σ2.ob w' x v := by
  intro x v hpx rx
  cases x with
  | any => exact rx
  | d x => exact Rd.mono hT rx
  | nil s => exact rx
  | sref t j lo len =>
   have hne : t ≠ u := by simpa [At.isO] using hpx
   simp only [Z7, h', if_neg hne, hobn t j hne]; exact rx
  | ptr t j i c =>
   have hne : t ≠ u := by simpa [At.isO] using hpx
   simp only [Z7, h', if_neg hne, hobn t j hne]; exact rx
  | tref t j i c =>
   have hne : t ≠ u := by simpa [At.isO] using hpx
   simp only [Z7, h', if_neg hne, hobn t j hne]; exact rx
  | bptr t c =>
   by_cases hc : t = u
   ·subst hc
    refine ⟨rx.1, fun cells' _ => ?_⟩
    simp only [h', if_true, hd']; exact rx.2 _ ho
   ·simp only [Z7, h', if_neg hc, hobn t 0 hc]; exact rx
  | fn f t =>
   by_cases hc : t = u
   ·subst hc
    refine ⟨rx.1, fun cells' _ => ?_⟩
    simp only [h', if_true, hd']; exact rx.2 _ ho
   ·simp only [Z7, h', if_neg hc, hobn t 0 hc]; exact rx
  | rptr rr c =>
   obtain ⟨b, off, g, e, hk⟩ := rx
   exact ⟨b, off, g, e, fun k d hd => ⟨(hT _ _ _ (hk k d hd).2.1 (hk k d hd).1).1, (hk k d hd).2.1, Rd.mono hT (hk k d hd).2.2⟩⟩
 have hobj : ∀ j, YR (.box (JM u 1 row') :: Z8 qs row') j ≠ .none → j = 0 ∨ ∃ i size rows, j = i + 1 ∧ row'[i]? = some (.sl size rows) := by
  intro j hn
  cases j with
  | zero => exact .inl rfl
  | succ j =>
   rw [ji] at hn
   obtain ⟨size, rows, hj⟩ := (Yy qs row' j hq).2 hn
   exact .inr ⟨j, size, rows, rfl, hj⟩
 have hu0 : ∀ k, (h u 0).u k → k < w.heap.size ∧ ¬ M k ∧ ¬ B k ∧ ¬ X k := fun k hk => ⟨(r.own u 0 k hob hk).2.2, fun hmk => (hm k hmk).2.2 u 0 hob hk, (r.own u 0 k hob hk).1, (r.own u 0 k hob hk).2.1⟩
 have hfu : ∀ i size rows k, row'[i]? = some (.sl size rows) → (hfd i).u k → (w.heap.size ≤ k ∨ M k) ∧ k < w'.heap.size ∧ k ≠ b := fun i size rows k hi hk => hS' k (k2 i k ((k4 i size rows hi).1 k hk))
 have hkeepu : ∀ t j, t ≠ u → σ.ob t j ≠ .none → ∀ k, (h t j).u k → w'.heap[k]? = w.heap[k]? := by
  intro t j hne hn k hk
  refine hw k (r.own t j k hn hk).2.2 ?_ (fun hmk => (hm k hmk).2.2 t j hn hk)
  rintro rfl
  exact hne (r.inj t j u 0 k hn hob hk hub).1
 refine ⟨X, h', by rw [r.size, hlen], r.defers, fun k hk => Nat.lt_of_lt_of_le (r.hB k hk) hsz, fun k hk => ⟨(r.hX k hk).1, Nat.lt_of_lt_of_le (r.hX k hk).2 hsz⟩, r.hT, fun t ht => ?_, fun t j => ?_, fun t j k hn hk => ?_, fun t j k hn hk => ?_, fun t j t' j' k hn hn' hk hk' => ?_⟩
 ·rw [hlen] at ht
  rw [hget]
  have hp : (σ.get t).Jq (At.isO u) = false := by have := St.RV hone t; rwa [St.yC] at this
  exact Xl.map at_ hp (r.slot t ht)
 ·by_cases hc : t = u
  ·subst hc
   rw [hobu]
   cases j with
   | zero =>
    simp only [h', if_true, hd', Fv]
    exact ⟨b, cs', e', hv, hh', W9 hown.top (fun i size rows hi => by
     obtain ⟨q, hq', _⟩ := (Yy qs row' i hq).1 size rows hi
     exact ⟨q, by rw [hobu, Nat.add_comm, ji]; exact hq'⟩) (fun i c hc => by simp only [if_true, Nat.add_comm 1 i]; exact k1 i c hc)⟩
   | succ j =>
    simp only [h', if_true, hd', ji]
    exact wJ hq (fun j size rows hj => (k4 j size rows hj).2.2) _ _ j
  ·rw [hobn t j hc]
   simp only [h', if_neg hc]
   by_cases hn : σ.ob t j = .none
   ·rw [hn]; trivial
   ·have hp : Jx (At.isO u) [σ.ob t j] = false := by
     have := St.NH hone t j
     rwa [St.UQ, if_neg (fun hh => hc hh.1)] at this
    exact Qq.map at_ hT (fun ho b => r.ub t j b ho) (fun hn k hk => hkeepu t j hc hn k hk) hp (r.obj t j)
 ·by_cases hc : t = u
  ·subst hc
   rw [hobu] at hn
   rcases hobj j hn with rfl | ⟨i, size, rows, rfl, hi⟩
   ·simp only [h', if_true, hd'] at hk ⊢; exact r.ub t 0 k hob hk
   ·simp only [h', if_true, hd'] at hk ⊢; exact (k4 i size rows hi).2.1 k hk
  ·rw [hobn t j hc] at hn
   simp only [h', if_neg hc] at hk ⊢; exact r.ub t j k hn hk
 ·by_cases hc : t = u
  ·subst hc
   rw [hobu] at hn
   rcases hobj j hn with rfl | ⟨i, size, rows, rfl, hi⟩
   ·simp only [h', if_true, hd'] at hk
    have := hu0 k hk; exact ⟨this.2.2.1, this.2.2.2, by omega⟩
   ·simp only [h', if_true, hd'] at hk
    have := hfu i size rows k hi hk
    rcases this.1 with h1 | h1
    ·exact ⟨fun hb => by have := r.hB k hb; omega, fun hx => by have := (r.hX k hx).2; omega, this.2.1⟩
    ·exact ⟨(hm k h1).1, (hm k h1).2.1, this.2.1⟩
  ·rw [hobn t j hc] at hn
   simp only [h', if_neg hc] at hk
   have := r.own t j k hn hk; exact ⟨this.1, this.2.1, by omega⟩
 ·have key : ∀ t j i k, t ≠ u → σ.ob t j ≠ .none → (h t j).u k → YR (.box (JM u 1 row') :: Z8 qs row') i ≠ .none → (hd' i).u k → False := by
   intro t j i k hne hn hk hn' hk'
   rcases hobj i hn' with rfl | ⟨i, size, rows, rfl, hi⟩
   ·exact hne (r.inj t j u 0 k hn hob hk hk').1
   ·have h1 := hfu i size rows k hi hk'
    have h2 := r.own t j k hn hk
    rcases h1.1 with h3 | h3
    ·omega
    ·exact (hm k h3).2.2 t j hn hk
  by_cases hc : t = u
  ·by_cases hc' : t' = u
   ·subst hc; subst hc'
    rw [hobu] at hn hn'
    simp only [h', if_true] at hk hk'
    refine ⟨rfl, ?_⟩
    rcases hobj j hn with rfl | ⟨i, size, rows, rfl, hi⟩
    ·rcases hobj j' hn' with rfl | ⟨i', size', rows', rfl, hi'⟩
     ·rfl
     ·have h1 := hu0 k hk
      have h2 := hfu i' size' rows' k hi' hk'
      rcases h2.1 with h3 | h3
      ·omega
      ·exact absurd h3 h1.2.1
    ·rcases hobj j' hn' with rfl | ⟨i', size', rows', rfl, hi'⟩
     ·have h1 := hu0 k hk'
      have h2 := hfu i size rows k hi hk
      rcases h2.1 with h3 | h3
      ·omega
      ·exact absurd h3 h1.2.1
     ·rw [k3 i i' k ((k4 i size rows hi).1 k hk) ((k4 i' size' rows' hi').1 k hk')]
   ·subst hc
    rw [hobu] at hn
    rw [hobn t' j' hc'] at hn'
    simp only [h', if_true, if_neg hc'] at hk hk'
    exact (key t' j' j k hc' hn' hk' hn hk).elim
  ·rw [hobn t j hc] at hn
   simp only [h', if_neg hc] at hk
   by_cases hc' : t' = u
   ·subst hc'
    rw [hobu] at hn'
    simp only [h', if_true] at hk'
    exact (key t j j' k hc hn hk hn' hk').elim
   ·rw [hobn t' j' hc'] at hn'
    simp only [h', if_neg hc'] at hk'
    exact r.inj t j t' j' k hn hn' hk hk'
end
end Go.Vm
namespace Go.Vm
open Go.RowKit
section
variable {P : Program} {T0 : CS} {B : Nat → Prop} {σ : St} {a : Act} {w w' : World} {X X' : Nat → Prop} {h : Nat → Nat → Hd}
theorem By {o : Oper} {c : Call} {t : Nat} {f : FuncId} {x : Value} (hop : o.op = .call c) (hc : c.callee = .value (.tmp t)) (hv : a.tmps.getD t undef = .func (.func f) #[] #[x]) (hf : Sn P f = true) :
  (execOp a.eval o).run P w = .ok (.enter f (c.args.toList.map a.eval ++ [x]).toArray) w := by
 unfold Sn at hf
 split at hf
 ·rename_i fn hfn
  simp only [Bool.and_eq_true, bne_iff_ne, ne_eq] at hf
  obtain ⟨cd, hb⟩ := Option.isSome_iff_exists.1 hf.1
  obtain ⟨callee, args, ats⟩ := c
  simp only at hc; subst hc
  have hm : (args.toList.map a.eval ++ [x]).toArray = args.map a.eval ++ #[x] := by apply Array.toList_inj.1; simp
  have he : a.eval (.tmp t) = .func (.func f) #[] #[x] := hv
  rw [hm]
  simp [execOp, hop, resolve, he, Deferred.ofValue, invoke, callFunc, hfn, hf.2, hb]
 ·cases hf
theorem CN (r : Rel T0 B σ a w X h) {o : Oper} {cl : Call} {f : FuncId} {tf u : Nat} {rows0 : List (List D)} {row row' : List D} {cells : List At} (qs : List Bool) (hop : o.op = .call cl) (hc : cl.callee = .value (.tmp tf)) (hx : σ.get tf = .one (.fn f u)) (ho : σ.ob u 0 = .box cells) (hlt : u < σ.length)
  (hargs : Xy P σ cl.args.toList cl.argTypes.toList rows0) (hst : YT P σ cl.args.toList cl.argTypes.toList = true) (hs : Io P f rows0 row row') (hmv : KI σ cells = some row) (hmok : Xz σ cells) (hnd : (YW cells).Nodup) (hnu : (u, 0) ∉ YW cells)
  (hone : ((σ.YB (YW cells)).Ya u 0 .none).Jq (At.isO u) = false) (hq : kY qs row')
  {K : Act → World → Prop} {Q : Exit → Act → World → Prop} (hK : ∀ a' w', Jc T0 B (match o.dst with | some d => ((σ.YB (YW cells)).new u (σ.get u) (.box (JM u 1 row') :: Z8 qs row')).put d .any | none => (σ.YB (YW cells)).new u (σ.get u) (.box (JM u 1 row') :: Z8 qs row')) a' w' → XM B w w' → K a' w') : o.wp P a w K Q := by
 have hob : σ.ob u 0 ≠ .none := by rw [ho]; simp
 have hfn := r.get tf
 rw [hx] at hfn
 obtain ⟨b, hb1, hv⟩ := hfn.2 _ ho
 have hobj := r.obj u 0
 rw [ho] at hobj
 obtain ⟨b2, cs, e, hb2, hh, hal⟩ := hobj
 rw [hb1] at hb2
 have hbb : b2 = b := by injection hb2 with hb2; injection hb2 with hb2; injection hb2 with hb2; exact hb2.symm
 subst hbb
 have hub := r.ub u 0 b2 hob (by rw [hb1]; rfl)
 have hown := r.own u 0 b2 hob hub
 have hvals := r.Xy true hargs (fun _ => hst)
 simp only [if_true] at hvals
 have hgiv : ∀ k, JG σ h (YW cells) k → k < w.heap.size ∧ k ≠ b2 := by
  rintro k ⟨p, hp, hne, hu⟩
  refine ⟨(r.own _ _ k hne hu).2.2, ?_⟩
  rintro rfl
  obtain ⟨e1, e2⟩ := r.inj p.1 p.2 u 0 k hne hob hu hub
  exact hnu (by rw [← e1, ← e2]; exact hp)
 have hfree := r.yK (YW cells)
 have hT : ∀ k i, Tof T0 X k i → k < w.heap.size ∧ k ≠ b2 ∧ ¬ JG σ h (YW cells) k := by
  intro k i hk
  refine ⟨r.Tlt hk, ?_, fun hg => ?_⟩
  ·rintro rfl
   rcases hk with hk | hk
   ·exact hown.1 (r.hT _ _ hk)
   ·exact hown.2.1 hk
  ·rcases hk with hk | hk
   ·exact (hfree k hg).1 (r.hT _ _ hk)
   ·exact (hfree k hg).2.1 hk
 unfold Oper.wp
 rw [By hop hc hv hs.1, Oper.upon_enter]
 refine (hs.2 (Tof T0 X) (JG σ h (YW cells)) w b2 _ hT hgiv hown.2.2 ⟨cs, e, hh, RW r hal hmv hmok hnd⟩ hvals).mono ?_
 rintro e' w' ⟨rfl, hkeep, cs', e2, hh', hown'⟩
 have r1 := r.YB (YW cells)
 have ho1 : (σ.YB (YW cells)).ob u 0 = .box cells := by rw [St.jj, if_neg hnu, ho]
 have R := r1.pT (w' := w') (row' := row') (qs := qs) ho1 hb1 (by rw [St.ja]; exact hlt) (JG σ h (YW cells)) _ hkeep.size (fun k hk hne hg => hkeep.block k ⟨hk, hne, hg⟩) (fun k hk => ⟨(hfree k hk).1, (hfree k hk).2.1, (hfree k hk).2.2.2⟩) hone hq hh' hown' (fun k hk => ⟨hk.1.elim .inr (fun h1 => .inl h1.1), by
  rcases hk.1 with h1 | h1
  ·have := (hgiv k h1).1; have := hkeep.size; omega
  ·exact h1.2, hk.2⟩)
 rw [St.UH] at R
 have hBk : XM B w w' := ⟨hkeep.os, hkeep.tape, hkeep.output, hkeep.size, fun k hk => hkeep.block k ⟨r.hB k hk, fun e => hown.1 (e ▸ hk), fun hg => (hfree k hg).1 hk⟩⟩
 cases hd : o.dst with
 | none =>
  rw [hd] at hK
  exact hK _ _ R hBk
 | some d =>
  rw [hd] at hK
  obtain ⟨X2, h2, R2⟩ := R
  exact hK _ _ ⟨X2, h2, R2.put d .any _ trivial⟩ hBk
theorem B6 (r : Rel T0 B σ a w X h) {o : Oper} {f : FuncId} {x : Operand} {d t : Nat} (hop : o.op = .makeFunc (.func f) #[] #[x]) (hd : o.dst = some d) (hg : gOf (look P σ 0 x) = true) (hx : unc (look P σ 0 x) = .one (.bptr t 0)) {cells : List At} (ho : σ.ob t 0 = .box cells)
  {K : Act → World → Prop} {Q : Exit → Act → World → Prop} (hK : ∀ a' w', Jc T0 B (σ.put d (.one (.fn f t))) a' w' → XM B w w' → K a' w') : o.wp P a w K Q := by
 have har := r.arg (P := P) 0 x hx hg
 obtain ⟨b, hb1, hv⟩ := har.2 _ ho
 exact Vi (v := .one (.fn f t)) r hd ⟨.func (.func f) #[] #[a.eval x], by simp [execOp, hop, Instr.makeFunc], ⟨rfl, fun cells' _ => ⟨b, hb1, by rw [hv]⟩⟩⟩ hK
theorem Rel.uo {x : V} {v : Value} {s : Nat} {rows : List (List D)} (r : Rel T0 B ((.fix v x, [.arr true s rows]) :: σ) a w X h) (hf : Kp rows) (hp : St.Jq At.E6 ((.fix v x, [.arr true s rows]) :: σ) = false) : Rel T0 B ((x, [.arr false s rows]) :: σ) a w X h := by
 have hob0 : St.ob ((x, [.arr false s rows]) :: σ) 0 0 = .arr false s rows := rfl
 have hob : ∀ t j, ¬ (t = 0 ∧ j = 0) → St.ob ((x, [.arr false s rows]) :: σ) t j = St.ob ((.fix v x, [.arr true s rows]) :: σ) t j := by
  intro t j hne
  cases t with
  | zero => cases j with
   | zero => exact absurd ⟨rfl, rfl⟩ hne
   | succ j => rfl
  | succ t => rw [St.Ea, St.Ea]
 have hne_ : ∀ t j, St.ob ((x, [.arr false s rows]) :: σ) t j ≠ .none → St.ob ((.fix v x, [.arr true s rows]) :: σ) t j ≠ .none := by
  intro t j hn
  by_cases hc : t = 0 ∧ j = 0
  ·obtain ⟨rfl, rfl⟩ := hc; intro hh; cases hh
  ·rwa [hob t j hc] at hn
 have at_ : ∀ {y : At} {u : Value}, At.E6 y = false → Z7 (Tof T0 X) h (St.ob ((.fix v x, [.arr true s rows]) :: σ)) w y u → Z7 (Tof T0 X) h (St.ob ((x, [.arr false s rows]) :: σ)) w y u := by
  intro y u hpy ry
  cases y with
  | any => exact ry
  | d z => exact ry
  | nil q => exact ry
  | sref t j lo len =>
   by_cases hc : t = 0 ∧ j = 0
   ·obtain ⟨rfl, rfl⟩ := hc
    exact ⟨ry.1, fun q size rws hq => by rw [hob0] at hq; cases hq; exact ry.2.1 _ _ _ rfl, fun size rws hq => by rw [hob0] at hq; cases hq⟩
   ·simp only [Z7, hob t j hc]; exact ry
  | ptr t j i c =>
   by_cases hc : t = 0 ∧ j = 0
   ·obtain ⟨rfl, rfl⟩ := hc
    exact ⟨ry.1, fun q size rws hq => by rw [hob0] at hq; cases hq; exact ry.2 _ _ _ rfl⟩
   ·simp only [Z7, hob t j hc]; exact ry
  | tref t j i c => cases hpy
  | bptr t c =>
   by_cases hc : t = 0
   ·subst hc; exact ⟨ry.1, fun cells hq => by rw [hob0] at hq; cases hq⟩
   ·simp only [Z7, hob t 0 (fun hh => hc hh.1)]; exact ry
  | fn f t =>
   by_cases hc : t = 0
   ·subst hc; exact ⟨ry.1, fun cells hq => by rw [hob0] at hq; cases hq⟩
   ·simp only [Z7, hob t 0 (fun hh => hc hh.1)]; exact ry
  | rptr rr c => exact ry
 refine ⟨by simpa using r.size, r.defers, r.hB, r.hX, r.hT, fun t ht => ?_, fun t j => ?_, fun t j k hn => r.ub t j k (hne_ t j hn), fun t j k hn => r.own t j k (hne_ t j hn), fun t j t' j' k hn hn' => r.inj t j t' j' k (hne_ t j hn) (hne_ t' j' hn')⟩
 ·have hs := r.slot t (by simpa using ht)
  have hpa := St.RV hp t
  cases t with
  | zero =>
   have hs' : Xl (Tof T0 X) h (St.ob ((.fix v x, [.arr true s rows]) :: σ)) w (.fix v x) (a.tmps.getD 0 undef) := hs
   have hpa' : V.Jq At.E6 (.fix v x) = false := hpa
   refine (Xl.map at_ (x := x) ?_ hs'.2.up)
   cases x <;> first | exact hpa' | rfl | exact hs'.2.elim
  | succ t =>
   rw [St.BZ] at hs hpa ⊢
   exact Xl.map at_ hpa hs
 ·by_cases hc : t = 0 ∧ j = 0
  ·obtain ⟨rfl, rfl⟩ := hc
   rw [hob0]
   exact Ed (h := h) (ob := St.ob ((x, [.arr false s rows]) :: σ)) (r.obj 0 0) hf
  ·rw [hob t j hc]
   exact Qq.map at_ (fun k i v hk hc => ⟨hc, hk⟩) (fun ho k => r.ub t j k ho) (fun _ _ _ => rfl) (St.NH hp t j) (r.obj t j)
theorem ES : ∀ (args : List (List D)) (m : Nat), St.Jq At.E6 (Sl args ++ List.replicate m (V.any, [])) = false
 | [], m => by
  induction m with
  | zero => rfl
  | succ m ih => simpa [List.replicate_succ, Sl, St.Jq, V.Jq, V.Gs, Jx] using ih
 | r :: rs, m => by
  have ih := ES rs m
  have h1 : ∀ (l : List D), WM At.E6 (l.map .d) = false := fun l => by induction l with
   | nil => rfl
   | cons x l ih => simpa [WM, At.E6] using ih
  have : V.Jq At.E6 (vOf (r.map .d)) = false := by
   match r with
   | [] => rfl
   | [x] => rfl
   | x :: y :: l => exact h1 (x :: y :: l)
  simp only [Sl, List.cons_append, St.Jq, this, Jx, ih, Bool.or_false]
theorem Gb {f : FuncId} {fn : Func} {c : Code} (hf : P.funcs[f]? = some fn) (hb : fn.body = some c) (hok : Sn P f = true) {sz : Nat} {rows : List (List D)} {args : List (List D)} {rows' : List (List D)} (hfl : Kp rows)
  (hw : AWP P c (rb P fn sz rows') (wM fn.ntmps sz rows args)) : HP P f sz rows args rows' := by
 refine ⟨hok, fun T S w v vals hT hS hown hargs => calls_of_wp hf hb ?_⟩
 have hone : v.oneCell' = true := hown.QA
 have hC : zL w [v] [D.sl sz rows] S := ⟨rfl, fun k b => k = 0 ∧ S b, fun k x dd hx hdd => by
   cases k with
   | zero => simp at hx hdd; subst hx; subst hdd; exact hown.mono (fun b hb => ⟨rfl, hb⟩)
   | succ k => simp at hx, fun k b hb => hb.2, fun p q b hp hq => by rw [hp.1, hq.1]⟩
 obtain ⟨X0, h0, r0⟩ := wm (n := fn.ntmps) hT hS (.inl ⟨v, rfl, rfl, hone⟩) hC hargs
 have r1 : Rel T (fun b => b < w.heap.size ∧ ¬ S b) (wM fn.ntmps sz rows args) _ w X0 h0 := Rel.uo (x := .one (.sref 0 0 0 rows.length)) (s := sz) r0 hfl (by
  have := ES args (fn.ntmps - (args.length + 1))
  simp only [St.Jq, V.Jq, V.Gs, At.E6, Jx, this, Bool.or_false])
 refine wp_mono (hw T _ _ w ⟨X0, h0, r1⟩) ?_
 rintro e a' w' ⟨σ', ⟨he, x, hres, hmv, hmok⟩, ⟨X, h, r⟩, hkeep⟩
 obtain ⟨vs, css, hrun, hform, hal⟩ := V9 r hres
 cases hal with
 | cons h1 hal =>
  cases hal
  cases h1 with
  | @cons _ c0 _ _ hx h1 =>
   cases h1
   cases hform with
   | @cons v0 _ _ _ hu hn =>
    cases hn
    have hu' : v0 = c0 := by
     rcases hu with ⟨c', he', rfl, _⟩ | ⟨hn, _⟩
     ·cases he'; rfl
     ·simp at hn
    subst hu'
    have hnd : (YW [x]).Nodup := by cases x <;> simp [YW]
    have hC' := RW r (.cons hx .nil) hmv hmok hnd
    have goal : a'.defers = [] ∧ ∃ v, (results fn a'.tmps).run P w' = .ok v w' ∧ sP w S sz rows' (.returned v) w' := by
     refine ⟨r.defers, _, hrun, v0, rfl, hkeep, ?_⟩
     obtain ⟨_, Sk, q1, q2, q3⟩ := hC'
     refine ((q1 0 _ _ rfl rfl).mono (q2 0)).mono (fun k hk => ?_)
     have hg := r.yK _ k hk
     by_cases hs : S k
     ·exact .inl hs
     ·refine .inr ⟨?_, hg.2.2.1⟩
      rcases Nat.lt_or_ge k w.heap.size with hlt | hge
      ·exact absurd ⟨hlt, hs⟩ hg.1
      ·exact hge
    rcases he with rfl | rfl
    ·exact goal
    ·exact goal
theorem Cj (r : Rel T0 B σ a w X h) {o : Oper} {cl : Call} {f : FuncId} {d : Nat} {x0 : Operand} {xs : List Operand} {t0 : TypeId} {ts : List TypeId} {rows0 : List (List D)} {sz : Nat} {rows rows' : List (List D)} {c : At} (hop : o.op = .call cl) (hc : cl.callee = .value (.func f)) (hd : o.dst = some d)
  (ha : cl.args.toList = x0 :: xs) (hg : gOf (look P σ t0 x0) = true) (hx : unc (look P σ t0 x0) = .one c) (hmv : KI σ [c] = some [.sl sz rows]) (hmok : Xz σ [c]) (hargs : Xy P σ xs ts rows0) (hst : YT P σ xs ts = true) (hs : HP P f sz rows rows0 rows')
  (hfl : Kp rows') (hfr : (σ.YB (YW [c])).fresh d = true)
  {K : Act → World → Prop} {Q : Exit → Act → World → Prop} (hK : ∀ a' w', Jc T0 B ((σ.YB (YW [c])).new d (.one (.sref d 0 0 rows'.length)) [.arr false sz rows']) a' w' → XM B w w' → K a' w') : o.wp P a w K Q := by
 have hlt := St.xb hfr
 have har : Z7 (Tof T0 X) h σ.ob w c (a.eval x0) := r.arg (P := P) t0 x0 hx hg
 have hvals := r.Xy true hargs (fun _ => hst)
 simp only [if_true] at hvals
 have hnd : (YW [c]).Nodup := by cases c <;> simp [YW]
 obtain ⟨_, Sk, q1, q2, q3⟩ := RW r (.cons har .nil) hmv hmok hnd
 have hown := (q1 0 _ _ rfl rfl).mono (q2 0)
 have hfree := r.yK (YW [c])
 unfold Oper.wp
 rw [Tb hop hc hs.1, Oper.upon_enter]
 rw [show (cl.args.toList.map a.eval).toArray = (a.eval x0 :: xs.map a.eval).toArray by rw [ha]; simp]
 have hT : ∀ k i, Tof T0 X k i → k < w.heap.size ∧ ¬ JG σ h (YW [c]) k := by
  intro k i hk
  refine ⟨r.Tlt hk, fun hg => ?_⟩
  rcases hk with hk | hk
  ·exact (hfree k hg).1 (r.hT _ _ hk)
  ·exact (hfree k hg).2.1 hk
 refine (hs.2 (Tof T0 X) (JG σ h (YW [c])) w _ _ hT (fun k hk => (hfree k hk).2.2.1) hown hvals).mono ?_
 rintro e' w' ⟨u, rfl, hkeep, hown'⟩
 rw [hd]
 have r1 := r.YB (YW [c])
 have hBk : XM B w w' := ⟨hkeep.os, hkeep.tape, hkeep.output, hkeep.size, fun k hk => hkeep.block k ⟨r.hB k hk, fun hg => (hfree k hg).1 hk⟩⟩
 obtain ⟨e, xs', ho, hz, hb, hl, Sk', hk', hs', hd'⟩ : ∃ e xs, w'.ownsRow 0 e sz u rows'.length xs ∧ (∀ r ∈ rows', r.length = sz) ∧ (∀ b, blk u = some b → (JG σ h (YW [c]) b ∨ (w.heap.size ≤ b ∧ b < w'.heap.size))) ∧ xs.length = rows'.flatten.length ∧ ∃ Sk : Nat → Nat → Prop, (∀ k x d, xs[k]? = some x → rows'.flatten[k]? = some d → Own w' x d (Sk k)) ∧ (∀ k b, Sk k b → (JG σ h (YW [c]) b ∨ (w.heap.size ≤ b ∧ b < w'.heap.size)) ∧ blk u ≠ some b) ∧ (∀ i j b, Sk i b → Sk j b → i = j) := by
  cases hown' with
  | sl v size rows S e xs Sk ho hz hb hl hk hs hd => exact ⟨e, xs, ho, hz, hb, hl, Sk, hk, hs, hd⟩
 have hob : (( σ.YB (YW [c])).new d (.one (.sref d 0 0 rows'.length)) [.arr false sz rows']).ob d 0 = .arr false sz rows' := by rw [St.Jw]; simp [hlt, YR]
 have hdeep : ∀ T h ob, Qq T h ob w' ⟨u, fun k => (xs'[k]?).getD undef, fun b => JG σ (fun t j => h t j) (YW [c]) b ∨ True⟩ (.arr true sz rows') := fun T h ob => ⟨e, xs', ho, hz, ⟨hl, Sk', hk', fun k b hb => ⟨.inr trivial, (hs' k b hb).2⟩, hd'⟩, fun k x d hx _ _ => by simp [hx]⟩
 refine hK _ _ ⟨X, fun t j => if t = d then Hd.of u else h t j, ?_⟩ hBk
 refine r1.tM hfr (JG σ h (YW [c])) hkeep.size (fun k hk hg => hkeep.block k ⟨hk, hg⟩) (fun k hk => ⟨(hfree k hk).1, (hfree k hk).2.1, fun t j _ hn => (hfree k hk).2.2.2 t j hn⟩) (fun k hk => hk) (fun k hk => .inl hk) _ _ _ (fun _ => Hd.of u) ?_ (fun j => ?_) (fun j k _ hk => hk) (fun j k _ hk => ?_) (fun i j k hi hj _ _ => ?_)
 ·refine ⟨KK ho, fun q size rws hq => ?_, fun size rws hq => by rw [hob] at hq; cases hq⟩
  rw [hob] at hq; cases hq
  simp only [if_true]
  exact Ts ho
 ·cases j with
  | zero =>
   have := Ed (hdeep (Tof T0 X) (fun t j => if t = d then Hd.of u else h t j) ((σ.YB (YW [c])).new d (.one (.sref d 0 0 rows'.length)) [.arr false sz rows']).ob) hfl
   exact this
  | succ j => simp [YR, Qq]
 ·have h1 := hb k hk
  rcases h1 with h1 | h1
  ·have := hfree k h1
   exact ⟨.inr h1, this.2.1, by have := this.2.2.1; have := hkeep.size; omega⟩
  ·exact ⟨.inl h1.1, fun hx => by have := (r.hX k hx).2; omega, h1.2⟩
 ·have hz : ∀ j, YR [Ob.arr false sz rows'] j ≠ .none → j = 0 := by
   intro j hj
   cases j with
   | zero => rfl
   | succ j => simp [YR] at hj
  rw [hz i hi, hz j hj]
end
section
variable {P : Program} {σ : St} {k : Fr}
theorem pX {A : yF} {o : OpI} {l : xZ} {f : FuncId} {x : Operand} {d t : Nat} {cells : List At} (hop : o.o.op = .makeFunc (.func f) #[] #[x]) (hgd : o.o.guard = none) (hd : o.o.dst = some d) (hbar : A.bar o.o = true) (hx : gOf (look P σ 0 x) = true ∧ unc (look P σ 0 x) = .one (.bptr t 0)) (ho : σ.ob t 0 = .box cells)
  (h : @EI P (σ.put d (.one (.fn f t))) A l k) : @SI P σ A o l k := by
 refine ⟨_, .inr ⟨hbar, ?_, fun d' hd' hcl => EN (fun e => hd' (by rw [hd, e])) hcl, fun hh => by simp [CH, hop] at hh⟩, JL h⟩
 rintro T0 B a w K Q' ⟨X, hh, r⟩ hK
 have hw : Region.wanted o.o (yielded A.ops a.tmps) = true := by simp [Region.wanted, hgd]
 rw [if_pos hw]
 exact B6 r hop hd hx.1 hx.2 ho hK
theorem wW {f : FuncId} {fn : Func} {c : Code} (hf : P.funcs[f]? = some fn) (hb : fn.body = some c) (hok : Sn P f = true) {args : List (List D)} {row row' : List D} (qs : List Bool) (hq : kY qs row)
  (hw : ∀ v, @WI P (xh fn.ntmps args v (JM args.length 1 row) (Z8 qs row) []) ⟨c⟩ (.fin (rK P fn args.length v row'))) : Io P f args row row' := GS hf hb hok qs hq (fun v => US (hw v))
theorem pW {fn : Func} {p : Nat} {v : Value} {row' : List D} {ats : List At} (hf : fn.results = #[]) (h : σ[p]? = some (.fix v (.one (.bptr p 0)), .box ats :: ((σ[p]?).map (fun e => e.2.tail)).getD []) ∧ KI σ ats = some row' ∧ Xz σ ats ∧ (YW ats).Nodup) {e : Exit} (he : e = .ret ∨ e = .normal) : rK P fn p v row' e σ :=
 ⟨he, by rw [hf]; rfl, ats, _, h.1, h.2.1, h.2.2.1, h.2.2.2⟩
theorem IV {A : yF} {o : OpI} {l : xZ} {cl : Call} {f : FuncId} {tf u : Nat} {rows0 : List (List D)} {row row' : List D} {cells : List At} (qs : List Bool) (hop : o.o.op = .call cl) (hc : cl.callee = .value (.tmp tf)) (hgd : o.o.guard = none) (hbar : A.bar o.o = true) (hs : Io P f rows0 row row') (hx : σ.get tf = .one (.fn f u)) (ho : σ.ob u 0 = .box cells) (hlt : u < σ.length)
  (hargs : (XF P σ cl.args.toList cl.argTypes.toList).1) (hrows : (XF P σ cl.args.toList cl.argTypes.toList).2 = some rows0) (hst : YT P σ cl.args.toList cl.argTypes.toList = true) (hmv : KI σ cells = some row) (hmok : Xz σ cells) (hnd : (YW cells).Nodup) (hnu : (u, 0) ∉ YW cells) (hcl : XU σ u = false)
  (hone : ((σ.YB (YW cells)).Ya u 0 .none).Jq (At.isO u) = false) (hq : kY qs row')
  (h : @EI P (match o.o.dst with | some d => ((σ.YB (YW cells)).new u (σ.get u) (.box (JM u 1 row') :: Z8 qs row')).put d .any | none => (σ.YB (YW cells)).new u (σ.get u) (.box (JM u 1 row') :: Z8 qs row')) A l k) : @SI P σ A o l k := by
 refine ⟨_, .inr ⟨hbar, ?_, fun d' hd' hc' => ?_, fun hh => by simp [CH, hop] at hh⟩, JL h⟩
 ·rintro T0 B a w K Q' ⟨X, hh, r⟩ hK
  have hw : Region.wanted o.o (yielded A.ops a.tmps) = true := by simp [Region.wanted, hgd]
  rw [if_pos hw]
  exact CN r qs hop hc hx ho hlt (jt hargs hrows) hst hs hmv hmok hnd hnu hone hq hK
 ·have h1 := R5 (v := σ.get u) (os := .box (JM u 1 row') :: Z8 qs row') (fun e => by rw [e, hcl] at hc'; cases hc') (Kc (l := YW cells) hc')
  cases hd : o.o.dst with
  | none => exact h1
  | some d => exact EN (fun e => hd' (by rw [hd, e])) h1
theorem wk {f : FuncId} {fn : Func} {c : Code} (hf : P.funcs[f]? = some fn) (hb : fn.body = some c) (hok : Sn P f = true) {sz : Nat} {rows : List (List D)} {args : List (List D)} {rows' : List (List D)} (hfl : Kp rows)
  (hw : @WI P (wM fn.ntmps sz rows args) ⟨c⟩ (.fin (rb P fn sz rows'))) : HP P f sz rows args rows' := Gb hf hb hok hfl (US hw)
theorem pB {fn : Func} {sz : Nat} {rows' : List (List D)} {rv : List ResultVar} (x : At) (hf : fn.results = rv.toArray) (h : (zA P σ rv).1 ∧ (zA P σ rv).2 = [[x]] ∧ KI σ [x] = some [.sl sz rows'] ∧ Xz σ [x]) : rb P fn sz rows' .ret σ :=
 ⟨.inl rfl, x, by rw [hf, ← h.2.1]; exact Rw h.1, h.2.2⟩
theorem HJ {A : yF} {o : OpI} {l : xZ} {cl : Call} {f : FuncId} {d : Nat} {x0 : Operand} {xs : List Operand} {t0 : TypeId} {ts : List TypeId} {rows0 : List (List D)} {sz : Nat} {rows rows' : List (List D)} {c : At} {L : List (Nat × Nat)} (hop : o.o.op = .call cl) (hc : cl.callee = .value (.func f)) (hgd : o.o.guard = none) (hd : o.o.dst = some d) (hbar : A.bar o.o = true)
  (ha : cl.args.toList = x0 :: xs) (_hat : cl.argTypes.toList = t0 :: ts) (hs : HP P f sz rows rows0 rows') (hx : gOf (look P σ t0 x0) = true ∧ unc (look P σ t0 x0) = .one c) (hmv : KI σ [c] = some [.sl sz rows]) (hmok : Xz σ [c]) (hL : YW [c] = L)
  (hargs : (XF P σ xs ts).1) (hrows : (XF P σ xs ts).2 = some rows0) (hst : YT P σ xs ts = true) (hfl : Kp rows') (hfr : (σ.YB L).fresh d = true)
  (h : @EI P ((σ.YB L).new d (.one (.sref d 0 0 rows'.length)) [.arr false sz rows']) A l k) : @SI P σ A o l k := by
 subst hL
 refine ⟨_, .inr ⟨hbar, ?_, fun d' hd' hcl => R5 (fun e => hd' (by rw [hd, e])) (Kc hcl), fun hh => by simp [CH, hop] at hh⟩, JL h⟩
 rintro T0 B a w K Q' ⟨X, hh, r⟩ hK
 have hw : Region.wanted o.o (yielded A.ops a.tmps) = true := by simp [Region.wanted, hgd]
 rw [if_pos hw]
 exact Cj r hop hc hd ha hx.1 hx.2 hmv hmok (jt hargs hrows) hst hs hfl hfr hK
end
attribute [simp] xh wM At.isO
end Go.Vm
namespace Go.Vm
open Go.RowKit
section
variable {P : Program} {σ : St} {k : Fr}
end
end Go.Vm
namespace Go.Vm
open Go.RowKit
section
variable {P : Program} {σ : St} {k : Fr}
theorem cR {A : yF} {o : OpI} {l : xZ} {c : Call} {f : FuncId} {d : Nat} {own : Bool} {rows res : List (List D)} (hs : Xi P f own rows res) (h : @EI P (σ.put d (qM res)) A l k) (hop : o.o.op = .call c := by exact rfl) (hc : c.callee = .value (.func f) := by exact rfl) (hg : o.o.guard = none := by exact rfl) (hd : o.o.dst = some d := by exact rfl)
  (hrows : (XF P σ c.args.toList c.argTypes.toList).2 = some rows := by simp) (hargs : (XF P σ c.args.toList c.argTypes.toList).1 := by simp) (hst : YT P σ c.args.toList c.argTypes.toList = true ∨ Qr own res := by simp) : @SI P σ A o l k :=
 IG hop hc hg hd hs hrows hargs hst h
theorem cC {b : Bool} {x y : yM} (c : Bool) (ht : kc σ → c = true → @WI P σ x k) (hf : kc σ → c = false → @WI P σ y k) (hc : c = b := by simp) : @CI P b σ x y k := Ol hc ht hf
end
section
variable {P : Program} {σ : St} {k : Fr}
end
@[simp] abbrev eI (t : Nat) (n : Int) : Nat × V × List Ob := (t, .one (.d (.int .i64 n)), [])
@[simp] abbrev eB (t : Nat) (b : Bool) : Nat × V × List Ob := (t, .one (.d (.bool b)), [])
@[simp] abbrev eL {α : Type} (t s : Nat) (l : List α) (f : α → List D) : Nat × V × List Ob := (t, .one (.d (.sl s (l.map f))), [])
@[simp] abbrev eP (t u c : Nat) : Nat × V × List Ob := (t, .one (.bptr u c), [])
@[simp] abbrev eG (t : Nat) (xs : List At) : Nat × V × List Ob := (t, .agg xs, [])
@[simp] abbrev eX (t : Nat) (xs : List At) : Nat × V × List Ob := (t, .one (.bptr t 0), [.box xs])
end Go.Vm
namespace Go.Vm
open Go.RowKit
structure Me {α : Type} (x y : α) : Prop where
 h : x = y
structure Bx (p : Prop) : Prop where
 h : p
theorem me {α : Type} {x y : α} (h : x = y) : Me x y := ⟨h⟩
theorem ms {α β : Type} {x y y' : α} {l r : β} (f : Me x y) (e : Me l r) (h : l = r → y = y' := by intro e; simp only [e]; exact rfl) : Me x y' := ⟨f.h.trans (h e.h)⟩
theorem an {p q : Prop} (h : p) (k : q) : p ∧ q := ⟨h, k⟩
theorem ix {α : Type} {v : Nat} {l : List α} (h : decide ((v : Int) < (l.length : Int)) = true) : v < l.length := by simpa using h
theorem ml {α : Type} {q : Prop} (l : List α) (m : q) (h : q → l.length ≤ 9223372036854775807 := by intro m; simpa using m) : l.length ≤ 9223372036854775807 := h m
theorem wr (n : Nat) (h : (n : Int) + 1 ≤ 9223372036854775807 := by first | omega | (simp only [decide_eq_true_eq, decide_eq_false_iff_not, beq_iff_eq, beq_eq_false_iff_ne, bne_iff_ne, ne_eq, Bool.or_eq_false_iff, Bool.or_eq_true, Bool.and_eq_true, Bool.not_eq_true', Bool.not_eq_false'] at *; omega)) : IntKind.i64.wrap ((n : Int) + 1) = (n : Int) + 1 := YA (by omega) (by omega)
section
variable {P : Program} {σ : St} {k : Fr}
theorem so {f : FuncId} {fn : Func} {n : Nat} {own : Bool} {args res : List (List D)} {p : Prop} (hf : P.funcs[f]? = some fn) (hn : fn.ntmps = n) (h : p) {c : Code} (hb : fn.body = some c := by exact rfl) (hok : Sn P f = true := by kernel_rfl)
  (kk : Bx p → @WI P (WN n args) ⟨c⟩ (.fin (CU P fn own res)) := by (intro z; simp; (repeat (with_reducible refine Go.Mo.sd ?_)); exact z.h)) : Xi P f own args res := uh hf hb hok (by rw [hn]; exact kk ⟨h⟩)
theorem soD {f : FuncId} {fn : Func} {n : Nat} {args res : List (List D)} {p : Prop} (hf : P.funcs[f]? = some fn) (hn : fn.ntmps = n) (h : p) {c : Code} (hb : fn.body = some c := by exact rfl) (hok : Sn P f = true := by kernel_rfl)
  (kk : Bx p → @WI P (WN n args) ⟨c⟩ (.fin (u4 P fn res)) := by (intro z; simp; (repeat (with_reducible refine Go.Mo.sd ?_)); exact z.h)) : YZ P f args res := wc hf hb hok (by rw [hn]; exact kk ⟨h⟩)
theorem cF {α : Type} {u y z : α} {b c : Bool} {xc yc : yM} {p q : Prop} (f : Me u (bif c then y else z)) (ht : kc σ → c = true → Me u y → p) (hf : kc σ → c = false → Me u z → q) (hc : c = b := by simp) (kt : Bx p → @WI P σ xc k := by (intro z; simp; (repeat (with_reducible refine Go.Mo.sd ?_)); exact z.h)) (kf : Bx q → @WI P σ yc k := by (intro z; simp; (repeat (with_reducible refine Go.Mo.sd ?_)); exact z.h)) : @CI P b σ xc yc k :=
 Ol hc (fun s h => kt ⟨(ht s h ⟨f.h.trans (by rw [h]; rfl)⟩)⟩) (fun s h => kf ⟨(hf s h ⟨f.h.trans (by rw [h]; rfl)⟩)⟩)
theorem cFt {α : Type} {u y z : α} {b c : Bool} {xc yc : yM} {p : Prop} (f : Me u (bif c then y else z)) (ht : kc σ → c = true → Me u y → p) (hf : kc σ → c = false → Me u z → @WI P σ yc k) (hc : c = b := by simp) (kt : Bx p → @WI P σ xc k := by (intro z; simp; (repeat (with_reducible refine Go.Mo.sd ?_)); exact z.h)) : @CI P b σ xc yc k :=
 Ol hc (fun s h => kt ⟨(ht s h ⟨f.h.trans (by rw [h]; rfl)⟩)⟩) (fun s h => (hf s h ⟨f.h.trans (by rw [h]; rfl)⟩))
theorem cFf {α : Type} {u y z : α} {b c : Bool} {xc yc : yM} {q : Prop} (f : Me u (bif c then y else z)) (ht : kc σ → c = true → Me u y → @WI P σ xc k) (hf : kc σ → c = false → Me u z → q) (hc : c = b := by simp) (kf : Bx q → @WI P σ yc k := by (intro z; simp; (repeat (with_reducible refine Go.Mo.sd ?_)); exact z.h)) : @CI P b σ xc yc k :=
 Ol hc (fun s h => (ht s h ⟨f.h.trans (by rw [h]; rfl)⟩)) (fun s h => kf ⟨(hf s h ⟨f.h.trans (by rw [h]; rfl)⟩)⟩)
theorem cFo {α : Type} {u y z : α} {b c : Bool} {xc yc : yM} (f : Me u (bif c then y else z)) (ht : kc σ → c = true → Me u y → @WI P σ xc k) (hf : kc σ → c = false → Me u z → @WI P σ yc k) (hc : c = b := by simp) : @CI P b σ xc yc k :=
 Ol hc (fun s h => (ht s h ⟨f.h.trans (by rw [h]; rfl)⟩)) (fun s h => (hf s h ⟨f.h.trans (by rw [h]; rfl)⟩))
theorem cK {α : Type} {u y z : α} {b c : Bool} {xc yc : yM} {p q : Prop} (f : Me u (bif c then y else z)) (ht : kc σ → c = true → Me u y → p) (hf : kc σ → c = false → Me u z → q) (hc : c = b := by first | (simp [G]; done) | grind) (kt : Bx p → @WI P σ xc k := by (intro z; simp [G, Go.Vm.ZA]; (repeat (with_reducible refine Go.Mo.sdg ?_)); exact z.h)) (kf : Bx q → @WI P σ yc k := by (intro z; simp [G, Go.Vm.ZA]; (repeat (with_reducible refine Go.Mo.sdg ?_)); exact z.h)) : @CI P b σ xc yc k :=
 Ol hc (fun s h => kt ⟨(ht s h ⟨f.h.trans (by rw [h]; rfl)⟩)⟩) (fun s h => kf ⟨(hf s h ⟨f.h.trans (by rw [h]; rfl)⟩)⟩)
theorem cKt {α : Type} {u y z : α} {b c : Bool} {xc yc : yM} {p : Prop} (f : Me u (bif c then y else z)) (ht : kc σ → c = true → Me u y → p) (hf : kc σ → c = false → Me u z → @WI P σ yc k) (hc : c = b := by first | (simp [G]; done) | grind) (kt : Bx p → @WI P σ xc k := by (intro z; simp [G, Go.Vm.ZA]; (repeat (with_reducible refine Go.Mo.sdg ?_)); exact z.h)) : @CI P b σ xc yc k :=
 Ol hc (fun s h => kt ⟨(ht s h ⟨f.h.trans (by rw [h]; rfl)⟩)⟩) (fun s h => (hf s h ⟨f.h.trans (by rw [h]; rfl)⟩))
theorem cKf {α : Type} {u y z : α} {b c : Bool} {xc yc : yM} {q : Prop} (f : Me u (bif c then y else z)) (ht : kc σ → c = true → Me u y → @WI P σ xc k) (hf : kc σ → c = false → Me u z → q) (hc : c = b := by first | (simp [G]; done) | grind) (kf : Bx q → @WI P σ yc k := by (intro z; simp [G, Go.Vm.ZA]; (repeat (with_reducible refine Go.Mo.sdg ?_)); exact z.h)) : @CI P b σ xc yc k :=
 Ol hc (fun s h => (ht s h ⟨f.h.trans (by rw [h]; rfl)⟩)) (fun s h => kf ⟨(hf s h ⟨f.h.trans (by rw [h]; rfl)⟩)⟩)
theorem cKo {α : Type} {u y z : α} {b c : Bool} {xc yc : yM} (f : Me u (bif c then y else z)) (ht : kc σ → c = true → Me u y → @WI P σ xc k) (hf : kc σ → c = false → Me u z → @WI P σ yc k) (hc : c = b := by first | (simp [G]; done) | grind) : @CI P b σ xc yc k :=
 Ol hc (fun s h => (ht s h ⟨f.h.trans (by rw [h]; rfl)⟩)) (fun s h => (hf s h ⟨f.h.trans (by rw [h]; rfl)⟩))
theorem cRg {A : yF} {o : OpI} {l : xZ} {c : Call} {f : FuncId} {d : Nat} {own : Bool} {rows res : List (List D)} {p : Prop} (hs : Xi P f own rows res) (h : p) (hop : o.o.op = .call c := by exact rfl) (hc : c.callee = .value (.func f) := by exact rfl) (hg : o.o.guard = none := by exact rfl) (hd : o.o.dst = some d := by exact rfl) (hrows : (XF P σ c.args.toList c.argTypes.toList).2 = some rows := by simp) (hargs : (XF P σ c.args.toList c.argTypes.toList).1 := by simp) (hst : YT P σ c.args.toList c.argTypes.toList = true ∨ Qr own res := by simp) (kk : Bx p → @EI P (σ.put d (qM res)) A l k := by (intro z; simp [G, Go.Vm.ZA]; (repeat (with_reducible refine Go.Mo.sdg ?_)); exact z.h)) : @SI P σ A o l k := IG hop hc hg hd hs hrows hargs hst (kk ⟨h⟩)
theorem cRs {A : yF} {o : OpI} {l : xZ} {c : Call} {f : FuncId} {d : Nat} {own : Bool} {rows res : List (List D)} {p : Prop} (hs : Xi P f own rows res) (h : p) (hop : o.o.op = .call c := by exact rfl) (hc : c.callee = .value (.func f) := by exact rfl) (hg : o.o.guard = none := by exact rfl) (hd : o.o.dst = some d := by exact rfl) (hrows : (XF P σ c.args.toList c.argTypes.toList).2 = some rows := by simp) (hargs : (XF P σ c.args.toList c.argTypes.toList).1 := by simp) (hst : YT P σ c.args.toList c.argTypes.toList = true ∨ Qr own res := by simp) (kk : Bx p → @EI P (σ.put d (qM res)) A l k := by (intro z; simp; (repeat (with_reducible refine Go.Mo.sd ?_)); exact z.h)) : @SI P σ A o l k := IG hop hc hg hd hs hrows hargs hst (kk ⟨h⟩)
theorem cRf {A : yF} {o : OpI} {l : xZ} {c : Call} {f : FuncId} {d : Nat} {own : Bool} {rows res : List (List D)} {p q : Prop} (F : q) (hs : Xi P f own rows res) (h : p) (hop : o.o.op = .call c := by exact rfl) (hc : c.callee = .value (.func f) := by exact rfl) (hg : o.o.guard = none := by exact rfl) (hd : o.o.dst = some d := by exact rfl) (hrows : (XF P σ c.args.toList c.argTypes.toList).2 = some rows := by simp) (hargs : (XF P σ c.args.toList c.argTypes.toList).1 := by simp) (hst : YT P σ c.args.toList c.argTypes.toList = true ∨ Qr own res := by simp) (kk : q → Bx p → @EI P (σ.put d (qM res)) A l k := by (intro F z; simp [F, Go.Vm.ZA]; (repeat (with_reducible refine Go.Mo.sd ?_)); exact z.h)) : @SI P σ A o l k := IG hop hc hg hd hs hrows hargs hst (kk F ⟨h⟩)
theorem cOs {A : yF} {o : OpI} {l : xZ} {c : Call} {f : FuncId} {d : Nat} {rows res : List (List D)} {p : Prop} (hs : Xi P f true rows res) (h : p) (hop : o.o.op = .call c := by exact rfl) (hc : c.callee = .value (.func f) := by exact rfl) (hg : o.o.guard = none := by exact rfl) (hd : o.o.dst = some d := by exact rfl) (hrows : (XF P σ c.args.toList c.argTypes.toList).2 = some rows := by simp) (hargs : (XF P σ c.args.toList c.argTypes.toList).1 := by simp) (hst : YT P σ c.args.toList c.argTypes.toList = true ∨ Qr true res := by simp) (hf : σ.fresh d = true := by simp) (kk : Bx p → @EI P (σ.new d (Ui d res) (yE res.flatten)) A l k := by (intro z; simp; (repeat (with_reducible refine Go.Mo.sd ?_)); exact z.h)) : @SI P σ A o l k := u9 hop hc hg hd hs hrows hargs hst hf (kk ⟨h⟩)
theorem cDs {A : yF} {o : OpI} {l : xZ} {c : Call} {f : FuncId} {d : Nat} {rows res : List (List D)} {p : Prop} (qs : List Bool) (hs : YZ P f rows res) (h : p) (hop : o.o.op = .call c := by exact rfl) (hc : c.callee = .value (.func f) := by exact rfl) (hg : o.o.guard = none := by exact rfl) (hd : o.o.dst = some d := by exact rfl) (hrows : (XF P σ c.args.toList c.argTypes.toList).2 = some rows := by simp) (hargs : (XF P σ c.args.toList c.argTypes.toList).1 := by simp) (hq : kY qs res.flatten := by simp) (hf : σ.fresh d = true := by simp) (kk : Bx p → @EI P (σ.new d (Ui d res) (Z8 qs res.flatten)) A l k := by (intro z; simp; (repeat (with_reducible refine Go.Mo.sd ?_)); exact z.h)) : @SI P σ A o l k := vv qs hop hc hg hd hs hrows hargs hq hf (kk ⟨h⟩)
theorem cDf {A : yF} {o : OpI} {l : xZ} {c : Call} {f : FuncId} {d : Nat} {rows res : List (List D)} {p q : Prop} (F : q) (qs : List Bool) (hs : YZ P f rows res) (h : p) (hop : o.o.op = .call c := by exact rfl) (hc : c.callee = .value (.func f) := by exact rfl) (hg : o.o.guard = none := by exact rfl) (hd : o.o.dst = some d := by exact rfl) (hrows : (XF P σ c.args.toList c.argTypes.toList).2 = some rows := by simp) (hargs : (XF P σ c.args.toList c.argTypes.toList).1 := by simp) (hq : kY qs res.flatten := by simp) (hf : σ.fresh d = true := by simp) (kk : q → Bx p → @EI P (σ.new d (Ui d res) (Z8 qs res.flatten)) A l k := by (intro F z; simp [F, Go.Vm.ZA]; (repeat (with_reducible refine Go.Mo.sd ?_)); exact z.h)) : @SI P σ A o l k := vv qs hop hc hg hd hs hrows hargs hq hf (kk F ⟨h⟩)
theorem cGo {A : yF} {o : OpI} {l : xZ} {c : Call} {f : FuncId} {d : Nat} {j dj : Nat} {want g own : Bool} {rows : List (List D)} {res : List D} (hs : g = true → Xi P f own rows [res]) (h : @EI P (σ.put d (.cnd g (qM [res]))) A l k) (hop : o.o.op = .call c := by exact rfl) (hc : c.callee = .value (.func f) := by exact rfl) (hg : o.o.guard = some (j, want) := by exact rfl) (hd : o.o.dst = some d := by exact rfl) (hdj : (A.ops[j]?).bind (·.dst) = some dj := by exact rfl) (hgc : qj want (σ.get dj) = some g := by exact rfl) (hrows : (XF P σ c.args.toList c.argTypes.toList).2 = some rows := by first | (simp; done) | (simp [G]; done) | (simp [G]; omega) | (simp_all; done)) (hlt : dj < σ.length := by first | (simp; done) | (simp [G]; done) | (simp [G]; omega) | (simp_all; done)) (hargs : g = true → (XF P σ c.args.toList c.argTypes.toList).1 := by first | (simp; done) | (simp [G]; done) | (simp [G]; omega) | (simp_all; done)) (hst : YT P σ c.args.toList c.argTypes.toList = true ∨ Qr own [res] := by first | (simp; done) | (simp [G]; done) | (simp [G]; omega) | (simp_all; done)) : @SI P σ A o l k := DN hop hc hg hd hdj hgc hs hrows hlt hargs hst h
theorem cGg {A : yF} {o : OpI} {l : xZ} {c : Call} {f : FuncId} {d : Nat} {j dj : Nat} {want g own : Bool} {rows : List (List D)} {res : List D} {p : Prop} (hs : g = true → Xi P f own rows [res]) (h : p) (hop : o.o.op = .call c := by exact rfl) (hc : c.callee = .value (.func f) := by exact rfl) (hg : o.o.guard = some (j, want) := by exact rfl) (hd : o.o.dst = some d := by exact rfl) (hdj : (A.ops[j]?).bind (·.dst) = some dj := by exact rfl) (hgc : qj want (σ.get dj) = some g := by exact rfl) (hrows : (XF P σ c.args.toList c.argTypes.toList).2 = some rows := by first | (simp; done) | (simp [G]; done) | (simp [G]; omega) | (simp_all; done)) (hlt : dj < σ.length := by first | (simp; done) | (simp [G]; done) | (simp [G]; omega) | (simp_all; done)) (hargs : g = true → (XF P σ c.args.toList c.argTypes.toList).1 := by first | (simp; done) | (simp [G]; done) | (simp [G]; omega) | (simp_all; done)) (hst : YT P σ c.args.toList c.argTypes.toList = true ∨ Qr own [res] := by first | (simp; done) | (simp [G]; done) | (simp [G]; omega) | (simp_all; done)) (kk : Bx p → @EI P (σ.put d (.cnd g (qM [res]))) A l k := by (intro z; simp [G, Go.Vm.ZA]; (repeat (with_reducible refine Go.Mo.sdg ?_)); exact z.h)) : @SI P σ A o l k := DN hop hc hg hd hdj hgc hs hrows hlt hargs hst (kk ⟨h⟩)
theorem cGs {A : yF} {o : OpI} {l : xZ} {c : Call} {f : FuncId} {d : Nat} {j dj : Nat} {want g own : Bool} {rows : List (List D)} {res : List D} {p : Prop} (hs : g = true → Xi P f own rows [res]) (h : p) (hop : o.o.op = .call c := by exact rfl) (hc : c.callee = .value (.func f) := by exact rfl) (hg : o.o.guard = some (j, want) := by exact rfl) (hd : o.o.dst = some d := by exact rfl) (hdj : (A.ops[j]?).bind (·.dst) = some dj := by exact rfl) (hgc : qj want (σ.get dj) = some g := by exact rfl) (hrows : (XF P σ c.args.toList c.argTypes.toList).2 = some rows := by simp) (hlt : dj < σ.length := by simp) (hargs : g = true → (XF P σ c.args.toList c.argTypes.toList).1 := by simp) (hst : YT P σ c.args.toList c.argTypes.toList = true ∨ Qr own [res] := by simp) (kk : Bx p → @EI P (σ.put d (.cnd g (qM [res]))) A l k := by (intro z; simp; (repeat (with_reducible refine Go.Mo.sd ?_)); exact z.h)) : @SI P σ A o l k := DN hop hc hg hd hdj hgc hs hrows hlt hargs hst (kk ⟨h⟩)
theorem dIo {id : Nat} {l : List Oper} {br : Oper → Bool} (hm : P.follows .mixedOrders = true) (h : @EI P σ ⟨⟨l⟩, fun _ => false⟩ ⟨l⟩ k) (hdr : Mn ⟨l⟩ (fun i => i) (fun _ => false) = true := by kernel_rfl) (hcl : qw ⟨l⟩ (fun i => i) σ = true := by kernel_rfl) : @DI P id σ ⟨⟨l⟩, br⟩ k := uA hm hdr hcl h
theorem dIg {id : Nat} {l : List Oper} {br : Oper → Bool} {p : Prop} (hm : P.follows .mixedOrders = true) (h : p) (hdr : Mn ⟨l⟩ (fun i => i) (fun _ => false) = true := by kernel_rfl) (hcl : qw ⟨l⟩ (fun i => i) σ = true := by kernel_rfl) (kk : Bx p → @EI P σ ⟨⟨l⟩, fun _ => false⟩ ⟨l⟩ k := by (intro z; simp [G, Go.Vm.ZA]; (repeat (with_reducible refine Go.Mo.sdg ?_)); exact z.h)) : @DI P id σ ⟨⟨l⟩, br⟩ k := uA hm hdr hcl (kk ⟨h⟩)
theorem dIs {id : Nat} {l : List Oper} {br : Oper → Bool} {p : Prop} (hm : P.follows .mixedOrders = true) (h : p) (hdr : Mn ⟨l⟩ (fun i => i) (fun _ => false) = true := by kernel_rfl) (hcl : qw ⟨l⟩ (fun i => i) σ = true := by kernel_rfl) (kk : Bx p → @EI P σ ⟨⟨l⟩, fun _ => false⟩ ⟨l⟩ k := by (intro z; simp; (repeat (with_reducible refine Go.Mo.sd ?_)); exact z.h)) : @DI P id σ ⟨⟨l⟩, br⟩ k := uA hm hdr hcl (kk ⟨h⟩)
theorem eIg {A : yF} {o : OpI} {l : xZ} {d : Nat} {p : Prop}  (h : p) (hp : IH o.o = true := by exact rfl) (hg : o.o.guard = none := by exact rfl) (hd : o.o.dst = some d := by exact rfl) (kk : Bx p → (evS P σ o.o d).1 ∧ @EI P (evS P σ o.o d).2 A l k := by (intro z; simp [G, Go.Vm.ZA]; (repeat (with_reducible refine Go.Mo.sdg ?_)); exact z.h)) : @SI P σ A o l k := evI hp hg hd (kk ⟨h⟩)
theorem eIs {A : yF} {o : OpI} {l : xZ} {d : Nat} {p : Prop}  (h : p) (hp : IH o.o = true := by exact rfl) (hg : o.o.guard = none := by exact rfl) (hd : o.o.dst = some d := by exact rfl) (kk : Bx p → (evS P σ o.o d).1 ∧ @EI P (evS P σ o.o d).2 A l k := by (intro z; simp; (repeat (with_reducible refine Go.Mo.sd ?_)); exact z.h)) : @SI P σ A o l k := evI hp hg hd (kk ⟨h⟩)
theorem sGo {A : yF} {o : OpI} {l : xZ} {j dj d : Nat} {want g : Bool}  (h : @EI P (σ.put d (.cnd false .any)) A l k) (hg : o.o.guard = some (j, want) := by exact rfl) (hd : o.o.dst = some d := by exact rfl) (hdj : (A.ops[j]?).bind (·.dst) = some dj := by exact rfl) (hgc : qj want (σ.get dj) = some g := by exact rfl) (hlt : dj < σ.length := by simp) (hgf : g = false := by simp [G]) : @SI P σ A o l k := sj hg hd hdj hgc hlt hgf h
theorem sGg {A : yF} {o : OpI} {l : xZ} {j dj d : Nat} {want g : Bool} {p : Prop}  (h : p) (hg : o.o.guard = some (j, want) := by exact rfl) (hd : o.o.dst = some d := by exact rfl) (hdj : (A.ops[j]?).bind (·.dst) = some dj := by exact rfl) (hgc : qj want (σ.get dj) = some g := by exact rfl) (hlt : dj < σ.length := by simp) (hgf : g = false := by simp [G]) (kk : Bx p → @EI P (σ.put d (.cnd false .any)) A l k := by (intro z; simp [G, Go.Vm.ZA]; (repeat (with_reducible refine Go.Mo.sdg ?_)); exact z.h)) : @SI P σ A o l k := sj hg hd hdj hgc hlt hgf (kk ⟨h⟩)
theorem gIf {A : yF} {o : OpI} {l : xZ} {j dj d : Nat} {want g : Bool} {r1 r2 : Prop} {q : Prop} (ht : r1 → ((evV P σ o.o.op o.o.type).1 ∧ gOf (evV P σ o.o.op o.o.type).2 = true ∧ (unc (evV P σ o.o.op o.o.type).2).flat = true) ∧ @EI P (σ.put d (.cnd true (unc (evV P σ o.o.op o.o.type).2))) A l k) (hf : r2 → q) (hop : IP o.o.op = false := by exact rfl) (hg : o.o.guard = some (j, want) := by exact rfl) (hd : o.o.dst = some d := by exact rfl) (hdj : (A.ops[j]?).bind (·.dst) = some dj := by exact rfl) (hgc : qj want (σ.get dj) = some g := by exact rfl) (hlt : dj < σ.length := by simp) (k1 : g = true → r1 := by (intro h; (try simp only [beq_true, beq_false, Bool.not_eq_true', Bool.not_eq_false', Bool.true_and, Bool.and_true] at h); exact h)) (k2 : g = false → r2 := by (intro h; (try simp only [beq_true, beq_false, Bool.not_eq_true', Bool.not_eq_false', Bool.true_and, Bool.and_true] at h); exact h)) (kf : r2 → Bx q → @EI P (σ.put d (.cnd false .any)) A l k := by (intro G z; simp [G, Go.Vm.ZA]; (repeat (with_reducible refine Go.Mo.sdg ?_)); exact z.h)) : @SI P σ A o l k := DH hop hg hd hdj hgc hlt (fun h => ht (k1 h)) (fun h => (fun G => kf G ⟨hf G⟩) (k2 h))
theorem gIo {A : yF} {o : OpI} {l : xZ} {j dj d : Nat} {want g : Bool} {r1 r2 : Prop} (ht : r1 → ((evV P σ o.o.op o.o.type).1 ∧ gOf (evV P σ o.o.op o.o.type).2 = true ∧ (unc (evV P σ o.o.op o.o.type).2).flat = true) ∧ @EI P (σ.put d (.cnd true (unc (evV P σ o.o.op o.o.type).2))) A l k) (hf : r2 → @EI P (σ.put d (.cnd false .any)) A l k) (hop : IP o.o.op = false := by exact rfl) (hg : o.o.guard = some (j, want) := by exact rfl) (hd : o.o.dst = some d := by exact rfl) (hdj : (A.ops[j]?).bind (·.dst) = some dj := by exact rfl) (hgc : qj want (σ.get dj) = some g := by exact rfl) (hlt : dj < σ.length := by simp) (k1 : g = true → r1 := by (intro h; (try simp only [beq_true, beq_false, Bool.not_eq_true', Bool.not_eq_false', Bool.true_and, Bool.and_true] at h); exact h)) (k2 : g = false → r2 := by (intro h; (try simp only [beq_true, beq_false, Bool.not_eq_true', Bool.not_eq_false', Bool.true_and, Bool.and_true] at h); exact h)) : @SI P σ A o l k := DH hop hg hd hdj hgc hlt (fun h => ht (k1 h)) (fun h => hf (k2 h))
theorem gJf {A : yF} {o : OpI} {l : xZ} {j dj d : Nat} {want g : Bool} {r1 r2 s : Prop} {q : Prop} (G : s) (ht : s ∧ r1 → ((evV P σ o.o.op o.o.type).1 ∧ gOf (evV P σ o.o.op o.o.type).2 = true ∧ (unc (evV P σ o.o.op o.o.type).2).flat = true) ∧ @EI P (σ.put d (.cnd true (unc (evV P σ o.o.op o.o.type).2))) A l k) (hf : s ∧ r2 → q) (hop : IP o.o.op = false := by exact rfl) (hg : o.o.guard = some (j, want) := by exact rfl) (hd : o.o.dst = some d := by exact rfl) (hdj : (A.ops[j]?).bind (·.dst) = some dj := by exact rfl) (hgc : qj want (σ.get dj) = some g := by exact rfl) (hlt : dj < σ.length := by simp) (k1 : g = true → r1 := by (intro h; (try simp only [beq_true, beq_false, Bool.not_eq_true', Bool.not_eq_false', Bool.true_and, Bool.and_true] at h); exact h)) (k2 : g = false → r2 := by (intro h; (try simp only [beq_true, beq_false, Bool.not_eq_true', Bool.not_eq_false', Bool.true_and, Bool.and_true] at h); exact h)) (kf : s ∧ r2 → Bx q → @EI P (σ.put d (.cnd false .any)) A l k := by (intro G z; simp [G, Go.Vm.ZA]; (repeat (with_reducible refine Go.Mo.sdg ?_)); exact z.h)) : @SI P σ A o l k := DH hop hg hd hdj hgc hlt (fun h => ht ⟨G, k1 h⟩) (fun h => (fun G => kf G ⟨hf G⟩) ⟨G, k2 h⟩)
theorem gK {A : yF} {o : OpI} {l : xZ} {j dj d : Nat} {want g : Bool} {r1 : Prop} (ht : r1 → ((evV P σ o.o.op o.o.type).1 ∧ gOf (evV P σ o.o.op o.o.type).2 = true ∧ (unc (evV P σ o.o.op o.o.type).2).flat = true) ∧ @EI P (σ.put d (.cnd true (unc (evV P σ o.o.op o.o.type).2))) A l k) (hop : IP o.o.op = false := by exact rfl) (hg : o.o.guard = some (j, want) := by exact rfl) (hd : o.o.dst = some d := by exact rfl) (hdj : (A.ops[j]?).bind (·.dst) = some dj := by exact rfl) (hgc : qj want (σ.get dj) = some g := by exact rfl) (hlt : dj < σ.length := by simp) (k1 : g = true → r1 := by (intro h; (try simp only [beq_true, beq_false, Bool.not_eq_true', Bool.not_eq_false', Bool.true_and, Bool.and_true] at h); exact h)) (k2 : g = false → False := by first | (intro g0; simp at g0; done) | (intro g0; simp [G] at g0; done)) : @SI P σ A o l k := DH hop hg hd hdj hgc hlt (fun h => ht (k1 h)) (fun h => (k2 h).elim)
theorem rt {α : Type} {x y : α} {fn : Func} {res : List (List D)} (rv : List ResultVar) (f : Me x y) (hf : fn.results = rv.toArray := by exact rfl) (h : x = y → (zA P σ rv).1 ∧ T2 σ (zA P σ rv).2 = some res := by (intro f; simp [f])) : CU P fn false res .ret σ := sc hf (h f.h)
theorem rtg {α : Type} {x y : α} {fn : Func} {res : List (List D)} (rv : List ResultVar) (f : Me x y) (hf : fn.results = rv.toArray := by exact rfl) (h : x = y → (zA P σ rv).1 ∧ T2 σ (zA P σ rv).2 = some res := by (intro f; simp [f, G])) : CU P fn false res .ret σ := sc hf (h f.h)
theorem rtO {α : Type} {x y : α} {fn : Func} {res : List (List D)} (rv : List ResultVar) (f : Me x y) (hf : fn.results = rv.toArray := by exact rfl) (h : x = y → (zA P σ rv).1 ∧ UC σ (zA P σ rv).2 = some res ∧ (YW (zA P σ rv).2.flatten).Nodup := by (intro f; simp [f])) : CU P fn true res .ret σ := rF hf (h f.h)
theorem rtD {α : Type} {x y : α} {fn : Func} {res : List (List D)} (rv : List ResultVar) (f : Me x y) (hf : fn.results = rv.toArray := by exact rfl) (h : x = y → (zA P σ rv).1 ∧ xa σ (zA P σ rv).2 = some res ∧ yl σ (zA P σ rv).2 ∧ (YW (zA P σ rv).2.flatten).Nodup := by (intro f; simp [f])) : u4 P fn res .ret σ := tN hf (h f.h)
end
class NxI where
 p : St → Prop
def Nx (σ : St) [n : NxI] : Prop := n.p σ
section
variable {P : Program} {σ : St} {k : Fr}
theorem N2 {c : yM} {n n' : St → Prop} (hn : ∀ σ', n σ' → n' σ') (h : @WI P σ c (.nxt n k)) : AWP P c.c (Fr.run P (.nxt n' k)) σ :=
 Ck (fun e σ' hq => by cases e <;> first | exact hn _ hq | exact hq) (US h)
abbrev Q1 {R : Type} {A0 : Type} (L : Nat → A0 → R) (S : A0 → St) (I : Nat → A0 → Prop) (t : R) (b : Nat) : NxI := ⟨fun τ => ∃ a0, Me t (L b a0) ∧ (1 ≤ b ∧ I b a0) ∧ Wk τ (S a0)⟩
theorem ny1 {R : Type} {A0 : Type} {L : Nat → A0 → R} {S : A0 → St} {I : Nat → A0 → Prop} {t : R} {b : Nat} {a0 : A0} {q : Prop} (F : q) (e : Me t (L b a0)) (hI : 1 ≤ b ∧ I b a0 := by ((try dsimp only); first | omega | (simp at *; omega))) (kw : q → Wk σ (S a0) := by (intro F; exact xS (by simp [F]))) : @Nx σ (Q1 L S I t b) := ⟨a0, e, hI, kw F⟩
theorem lp1 {c : yM} {R : Type} {A0 : Type} {L B : Nat → A0 → R} (hL : ∀ (a0 : A0) (n : Nat), L (Nat.succ n) a0 = B n a0) (S : A0 → St) (I : Nat → A0 → Prop) (n0 : Nat) (b0 : A0) {p : Nat → A0 → Prop}
  (round : ∀ n (a0 : A0), Me (L n0 b0) (B n a0) → 1 ≤ n + 1 ∧ I (n + 1) a0 → p n a0) (hI : 1 ≤ n0 ∧ I n0 b0 := by first | omega | (dsimp only; omega) | simp) (h0 : Wk σ (S b0) := by exact xS (by simp)) (kk : ∀ n (a0 : A0), Bx (p n a0) → @WI P (S a0) c (.nxt (fun σ' => @Nx σ' (Q1 L S I (L n0 b0) n)) k) := by (intro n_ a0_ z; simp; (repeat (with_reducible refine Go.Mo.sd ?_)); exact z.h)) : @Pf P σ c k := by
 refine U7 (ι := { s : Nat × A0 // Me (L n0 b0) (L s.1 s.2) ∧ (1 ≤ s.1 ∧ I s.1 s.2) }) (fun s => S s.1.2) (fun s => s.1.1) ⟨(n0, b0), ⟨rfl⟩, hI⟩ h0 ?_
 rintro ⟨⟨n1, a0⟩, e, j⟩
 obtain ⟨n, rfl⟩ : ∃ q, n1 = q + 1 := ⟨n1 - 1, by have := j.1; (try dsimp only at this); omega⟩
 refine N2 (fun σ' hn => ?_) (kk n a0 ⟨round n a0 ⟨by have := e.h; (try dsimp only at this); rw [this, hL]⟩ j⟩)
 obtain ⟨c0, e2, j2, w2⟩ := hn
 exact ⟨⟨(n, c0), e2, j2⟩, Nat.lt_succ_self n, w2⟩
abbrev Q2 {R : Type} {A0 A1 : Type} (L : Nat → A0 → A1 → R) (S : A0 → A1 → St) (I : Nat → A0 → A1 → Prop) (t : R) (b : Nat) : NxI := ⟨fun τ => ∃ a0 a1, Me t (L b a0 a1) ∧ (1 ≤ b ∧ I b a0 a1) ∧ Wk τ (S a0 a1)⟩
theorem nx2 {R : Type} {A0 A1 : Type} {L : Nat → A0 → A1 → R} {S : A0 → A1 → St} {I : Nat → A0 → A1 → Prop} {t : R} {b : Nat} {a0 : A0} {a1 : A1} (e : Me t (L b a0 a1)) (hI : 1 ≤ b ∧ I b a0 a1 := by ((try dsimp only); first | omega | (simp at *; omega))) (hw : Wk σ (S a0 a1) := by exact xS (by simp)) : @Nx σ (Q2 L S I t b) := ⟨a0, a1, e, hI, hw⟩
theorem ny2 {R : Type} {A0 A1 : Type} {L : Nat → A0 → A1 → R} {S : A0 → A1 → St} {I : Nat → A0 → A1 → Prop} {t : R} {b : Nat} {a0 : A0} {a1 : A1} {q : Prop} (F : q) (e : Me t (L b a0 a1)) (hI : 1 ≤ b ∧ I b a0 a1 := by ((try dsimp only); first | omega | (simp at *; omega))) (kw : q → Wk σ (S a0 a1) := by (intro F; exact xS (by simp [F]))) : @Nx σ (Q2 L S I t b) := ⟨a0, a1, e, hI, kw F⟩
theorem lp2 {c : yM} {R : Type} {A0 A1 : Type} {L B : Nat → A0 → A1 → R} (hL : ∀ (a0 : A0) (a1 : A1) (n : Nat), L (Nat.succ n) a0 a1 = B n a0 a1) (S : A0 → A1 → St) (I : Nat → A0 → A1 → Prop) (n0 : Nat) (b0 : A0) (b1 : A1) {p : Nat → A0 → A1 → Prop}
  (round : ∀ n (a0 : A0) (a1 : A1), Me (L n0 b0 b1) (B n a0 a1) → 1 ≤ n + 1 ∧ I (n + 1) a0 a1 → p n a0 a1) (hI : 1 ≤ n0 ∧ I n0 b0 b1 := by first | omega | (dsimp only; omega) | simp) (h0 : Wk σ (S b0 b1) := by exact xS (by simp)) (kk : ∀ n (a0 : A0) (a1 : A1), Bx (p n a0 a1) → @WI P (S a0 a1) c (.nxt (fun σ' => @Nx σ' (Q2 L S I (L n0 b0 b1) n)) k) := by (intro n_ a0_ a1_ z; simp; (repeat (with_reducible refine Go.Mo.sd ?_)); exact z.h)) : @Pf P σ c k := by
 refine U7 (ι := { s : Nat × A0 × A1 // Me (L n0 b0 b1) (L s.1 s.2.1 s.2.2) ∧ (1 ≤ s.1 ∧ I s.1 s.2.1 s.2.2) }) (fun s => S s.1.2.1 s.1.2.2) (fun s => s.1.1) ⟨(n0, b0, b1), ⟨rfl⟩, hI⟩ h0 ?_
 rintro ⟨⟨n1, a0, a1⟩, e, j⟩
 obtain ⟨n, rfl⟩ : ∃ q, n1 = q + 1 := ⟨n1 - 1, by have := j.1; (try dsimp only at this); omega⟩
 refine N2 (fun σ' hn => ?_) (kk n a0 a1 ⟨round n a0 a1 ⟨by have := e.h; (try dsimp only at this); rw [this, hL]⟩ j⟩)
 obtain ⟨c0, c1, e2, j2, w2⟩ := hn
 exact ⟨⟨(n, c0, c1), e2, j2⟩, Nat.lt_succ_self n, w2⟩
theorem sF {c : yM} {R : Type} {A0 A1 : Type} {L B : Nat → A0 → A1 → R} (hL : ∀ (a0 : A0) (a1 : A1) (n : Nat), L (Nat.succ n) a0 a1 = B n a0 a1) (S : A0 → A1 → St) (I : Nat → A0 → A1 → Prop) (n0 : Nat) (b0 : A0) (b1 : A1)
  (round : ∀ n (a0 : A0) (a1 : A1), Me (L n0 b0 b1) (B n a0 a1) → 1 ≤ n + 1 ∧ I (n + 1) a0 a1 → @WI P (S a0 a1) c (.nxt (fun σ' => @Nx σ' (Q2 L S I (L n0 b0 b1) n)) k)) (hI : 1 ≤ n0 ∧ I n0 b0 b1 := by first | omega | (dsimp only; omega) | simp) (h0 : Wk σ (S b0 b1) := by exact xS (by simp)) : @Pf P σ c k := by
 refine U7 (ι := { s : Nat × A0 × A1 // Me (L n0 b0 b1) (L s.1 s.2.1 s.2.2) ∧ (1 ≤ s.1 ∧ I s.1 s.2.1 s.2.2) }) (fun s => S s.1.2.1 s.1.2.2) (fun s => s.1.1) ⟨(n0, b0, b1), ⟨rfl⟩, hI⟩ h0 ?_
 rintro ⟨⟨n1, a0, a1⟩, e, j⟩
 obtain ⟨n, rfl⟩ : ∃ q, n1 = q + 1 := ⟨n1 - 1, by have := j.1; (try dsimp only at this); omega⟩
 refine N2 (fun σ' hn => ?_) (round n a0 a1 ⟨by have := e.h; (try dsimp only at this); rw [this, hL]⟩ j)
 obtain ⟨c0, c1, e2, j2, w2⟩ := hn
 exact ⟨⟨(n, c0, c1), e2, j2⟩, Nat.lt_succ_self n, w2⟩
abbrev Q3 {R : Type} {A0 A1 A2 : Type} (L : Nat → A0 → A1 → A2 → R) (S : A0 → A1 → A2 → St) (I : Nat → A0 → A1 → A2 → Prop) (t : R) (b : Nat) : NxI := ⟨fun τ => ∃ a0 a1 a2, Me t (L b a0 a1 a2) ∧ (1 ≤ b ∧ I b a0 a1 a2) ∧ Wk τ (S a0 a1 a2)⟩
theorem ny3 {R : Type} {A0 A1 A2 : Type} {L : Nat → A0 → A1 → A2 → R} {S : A0 → A1 → A2 → St} {I : Nat → A0 → A1 → A2 → Prop} {t : R} {b : Nat} {a0 : A0} {a1 : A1} {a2 : A2} {q : Prop} (F : q) (e : Me t (L b a0 a1 a2)) (hI : 1 ≤ b ∧ I b a0 a1 a2 := by ((try dsimp only); first | omega | (simp at *; omega))) (kw : q → Wk σ (S a0 a1 a2) := by (intro F; exact xS (by simp [F]))) : @Nx σ (Q3 L S I t b) := ⟨a0, a1, a2, e, hI, kw F⟩
theorem lp3 {c : yM} {R : Type} {A0 A1 A2 : Type} {L B : Nat → A0 → A1 → A2 → R} (hL : ∀ (a0 : A0) (a1 : A1) (a2 : A2) (n : Nat), L (Nat.succ n) a0 a1 a2 = B n a0 a1 a2) (S : A0 → A1 → A2 → St) (I : Nat → A0 → A1 → A2 → Prop) (n0 : Nat) (b0 : A0) (b1 : A1) (b2 : A2) {p : Nat → A0 → A1 → A2 → Prop}
  (round : ∀ n (a0 : A0) (a1 : A1) (a2 : A2), Me (L n0 b0 b1 b2) (B n a0 a1 a2) → 1 ≤ n + 1 ∧ I (n + 1) a0 a1 a2 → p n a0 a1 a2) (hI : 1 ≤ n0 ∧ I n0 b0 b1 b2 := by first | omega | (dsimp only; omega) | simp) (h0 : Wk σ (S b0 b1 b2) := by exact xS (by simp)) (kk : ∀ n (a0 : A0) (a1 : A1) (a2 : A2), Bx (p n a0 a1 a2) → @WI P (S a0 a1 a2) c (.nxt (fun σ' => @Nx σ' (Q3 L S I (L n0 b0 b1 b2) n)) k) := by (intro n_ a0_ a1_ a2_ z; simp; (repeat (with_reducible refine Go.Mo.sd ?_)); exact z.h)) : @Pf P σ c k := by
 refine U7 (ι := { s : Nat × A0 × A1 × A2 // Me (L n0 b0 b1 b2) (L s.1 s.2.1 s.2.2.1 s.2.2.2) ∧ (1 ≤ s.1 ∧ I s.1 s.2.1 s.2.2.1 s.2.2.2) }) (fun s => S s.1.2.1 s.1.2.2.1 s.1.2.2.2) (fun s => s.1.1) ⟨(n0, b0, b1, b2), ⟨rfl⟩, hI⟩ h0 ?_
 rintro ⟨⟨n1, a0, a1, a2⟩, e, j⟩
 obtain ⟨n, rfl⟩ : ∃ q, n1 = q + 1 := ⟨n1 - 1, by have := j.1; (try dsimp only at this); omega⟩
 refine N2 (fun σ' hn => ?_) (kk n a0 a1 a2 ⟨round n a0 a1 a2 ⟨by have := e.h; (try dsimp only at this); rw [this, hL]⟩ j⟩)
 obtain ⟨c0, c1, c2, e2, j2, w2⟩ := hn
 exact ⟨⟨(n, c0, c1, c2), e2, j2⟩, Nat.lt_succ_self n, w2⟩
abbrev Q4 {R : Type} {A0 A1 A2 A3 : Type} (L : Nat → A0 → A1 → A2 → A3 → R) (S : A0 → A1 → A2 → A3 → St) (I : Nat → A0 → A1 → A2 → A3 → Prop) (t : R) (b : Nat) : NxI := ⟨fun τ => ∃ a0 a1 a2 a3, Me t (L b a0 a1 a2 a3) ∧ (1 ≤ b ∧ I b a0 a1 a2 a3) ∧ Wk τ (S a0 a1 a2 a3)⟩
theorem nx4 {R : Type} {A0 A1 A2 A3 : Type} {L : Nat → A0 → A1 → A2 → A3 → R} {S : A0 → A1 → A2 → A3 → St} {I : Nat → A0 → A1 → A2 → A3 → Prop} {t : R} {b : Nat} {a0 : A0} {a1 : A1} {a2 : A2} {a3 : A3} (e : Me t (L b a0 a1 a2 a3)) (hI : 1 ≤ b ∧ I b a0 a1 a2 a3 := by ((try dsimp only); first | omega | (simp at *; omega))) (hw : Wk σ (S a0 a1 a2 a3) := by exact xS (by simp)) : @Nx σ (Q4 L S I t b) := ⟨a0, a1, a2, a3, e, hI, hw⟩
theorem ny4 {R : Type} {A0 A1 A2 A3 : Type} {L : Nat → A0 → A1 → A2 → A3 → R} {S : A0 → A1 → A2 → A3 → St} {I : Nat → A0 → A1 → A2 → A3 → Prop} {t : R} {b : Nat} {a0 : A0} {a1 : A1} {a2 : A2} {a3 : A3} {q : Prop} (F : q) (e : Me t (L b a0 a1 a2 a3)) (hI : 1 ≤ b ∧ I b a0 a1 a2 a3 := by ((try dsimp only); first | omega | (simp at *; omega))) (kw : q → Wk σ (S a0 a1 a2 a3) := by (intro F; exact xS (by simp [F]))) : @Nx σ (Q4 L S I t b) := ⟨a0, a1, a2, a3, e, hI, kw F⟩
theorem lp4 {c : yM} {R : Type} {A0 A1 A2 A3 : Type} {L B : Nat → A0 → A1 → A2 → A3 → R} (hL : ∀ (a0 : A0) (a1 : A1) (a2 : A2) (a3 : A3) (n : Nat), L (Nat.succ n) a0 a1 a2 a3 = B n a0 a1 a2 a3) (S : A0 → A1 → A2 → A3 → St) (I : Nat → A0 → A1 → A2 → A3 → Prop) (n0 : Nat) (b0 : A0) (b1 : A1) (b2 : A2) (b3 : A3) {p : Nat → A0 → A1 → A2 → A3 → Prop}
  (round : ∀ n (a0 : A0) (a1 : A1) (a2 : A2) (a3 : A3), Me (L n0 b0 b1 b2 b3) (B n a0 a1 a2 a3) → 1 ≤ n + 1 ∧ I (n + 1) a0 a1 a2 a3 → p n a0 a1 a2 a3) (hI : 1 ≤ n0 ∧ I n0 b0 b1 b2 b3 := by first | omega | (dsimp only; omega) | simp) (h0 : Wk σ (S b0 b1 b2 b3) := by exact xS (by simp)) (kk : ∀ n (a0 : A0) (a1 : A1) (a2 : A2) (a3 : A3), Bx (p n a0 a1 a2 a3) → @WI P (S a0 a1 a2 a3) c (.nxt (fun σ' => @Nx σ' (Q4 L S I (L n0 b0 b1 b2 b3) n)) k) := by (intro n_ a0_ a1_ a2_ a3_ z; simp; (repeat (with_reducible refine Go.Mo.sd ?_)); exact z.h)) : @Pf P σ c k := by
 refine U7 (ι := { s : Nat × A0 × A1 × A2 × A3 // Me (L n0 b0 b1 b2 b3) (L s.1 s.2.1 s.2.2.1 s.2.2.2.1 s.2.2.2.2) ∧ (1 ≤ s.1 ∧ I s.1 s.2.1 s.2.2.1 s.2.2.2.1 s.2.2.2.2) }) (fun s => S s.1.2.1 s.1.2.2.1 s.1.2.2.2.1 s.1.2.2.2.2) (fun s => s.1.1) ⟨(n0, b0, b1, b2, b3), ⟨rfl⟩, hI⟩ h0 ?_
 rintro ⟨⟨n1, a0, a1, a2, a3⟩, e, j⟩
 obtain ⟨n, rfl⟩ : ∃ q, n1 = q + 1 := ⟨n1 - 1, by have := j.1; (try dsimp only at this); omega⟩
 refine N2 (fun σ' hn => ?_) (kk n a0 a1 a2 a3 ⟨round n a0 a1 a2 a3 ⟨by have := e.h; (try dsimp only at this); rw [this, hL]⟩ j⟩)
 obtain ⟨c0, c1, c2, c3, e2, j2, w2⟩ := hn
 exact ⟨⟨(n, c0, c1, c2, c3), e2, j2⟩, Nat.lt_succ_self n, w2⟩
abbrev Q9 {R : Type} {A0 A1 A2 A3 A4 A5 A6 A7 A8 : Type} (L : Nat → A0 → A1 → A2 → A3 → A4 → A5 → A6 → A7 → A8 → R) (S : A0 → A1 → A2 → A3 → A4 → A5 → A6 → A7 → A8 → St) (I : Nat → A0 → A1 → A2 → A3 → A4 → A5 → A6 → A7 → A8 → Prop) (t : R) (b : Nat) : NxI := ⟨fun τ => ∃ a0 a1 a2 a3 a4 a5 a6 a7 a8, Me t (L b a0 a1 a2 a3 a4 a5 a6 a7 a8) ∧ (1 ≤ b ∧ I b a0 a1 a2 a3 a4 a5 a6 a7 a8) ∧ Wk τ (S a0 a1 a2 a3 a4 a5 a6 a7 a8)⟩
theorem ny9 {R : Type} {A0 A1 A2 A3 A4 A5 A6 A7 A8 : Type} {L : Nat → A0 → A1 → A2 → A3 → A4 → A5 → A6 → A7 → A8 → R} {S : A0 → A1 → A2 → A3 → A4 → A5 → A6 → A7 → A8 → St} {I : Nat → A0 → A1 → A2 → A3 → A4 → A5 → A6 → A7 → A8 → Prop} {t : R} {b : Nat} {a0 : A0} {a1 : A1} {a2 : A2} {a3 : A3} {a4 : A4} {a5 : A5} {a6 : A6} {a7 : A7} {a8 : A8} {q : Prop} (F : q) (e : Me t (L b a0 a1 a2 a3 a4 a5 a6 a7 a8)) (hI : 1 ≤ b ∧ I b a0 a1 a2 a3 a4 a5 a6 a7 a8 := by ((try dsimp only); first | omega | (simp at *; omega))) (kw : q → Wk σ (S a0 a1 a2 a3 a4 a5 a6 a7 a8) := by (intro F; exact xS (by simp [F]))) : @Nx σ (Q9 L S I t b) := ⟨a0, a1, a2, a3, a4, a5, a6, a7, a8, e, hI, kw F⟩
theorem lp9 {c : yM} {R : Type} {A0 A1 A2 A3 A4 A5 A6 A7 A8 : Type} {L B : Nat → A0 → A1 → A2 → A3 → A4 → A5 → A6 → A7 → A8 → R} (hL : ∀ (a0 : A0) (a1 : A1) (a2 : A2) (a3 : A3) (a4 : A4) (a5 : A5) (a6 : A6) (a7 : A7) (a8 : A8) (n : Nat), L (Nat.succ n) a0 a1 a2 a3 a4 a5 a6 a7 a8 = B n a0 a1 a2 a3 a4 a5 a6 a7 a8) (S : A0 → A1 → A2 → A3 → A4 → A5 → A6 → A7 → A8 → St) (I : Nat → A0 → A1 → A2 → A3 → A4 → A5 → A6 → A7 → A8 → Prop) (n0 : Nat) (b0 : A0) (b1 : A1) (b2 : A2) (b3 : A3) (b4 : A4) (b5 : A5) (b6 : A6) (b7 : A7) (b8 : A8) {p : Nat → A0 → A1 → A2 → A3 → A4 → A5 → A6 → A7 → A8 → Prop}
  (round : ∀ n (a0 : A0) (a1 : A1) (a2 : A2) (a3 : A3) (a4 : A4) (a5 : A5) (a6 : A6) (a7 : A7) (a8 : A8), Me (L n0 b0 b1 b2 b3 b4 b5 b6 b7 b8) (B n a0 a1 a2 a3 a4 a5 a6 a7 a8) → 1 ≤ n + 1 ∧ I (n + 1) a0 a1 a2 a3 a4 a5 a6 a7 a8 → p n a0 a1 a2 a3 a4 a5 a6 a7 a8) (hI : 1 ≤ n0 ∧ I n0 b0 b1 b2 b3 b4 b5 b6 b7 b8 := by first | omega | (dsimp only; omega) | simp) (h0 : Wk σ (S b0 b1 b2 b3 b4 b5 b6 b7 b8) := by exact xS (by simp)) (kk : ∀ n (a0 : A0) (a1 : A1) (a2 : A2) (a3 : A3) (a4 : A4) (a5 : A5) (a6 : A6) (a7 : A7) (a8 : A8), Bx (p n a0 a1 a2 a3 a4 a5 a6 a7 a8) → @WI P (S a0 a1 a2 a3 a4 a5 a6 a7 a8) c (.nxt (fun σ' => @Nx σ' (Q9 L S I (L n0 b0 b1 b2 b3 b4 b5 b6 b7 b8) n)) k) := by (intro n_ a0_ a1_ a2_ a3_ a4_ a5_ a6_ a7_ a8_ z; simp; (repeat (with_reducible refine Go.Mo.sd ?_)); exact z.h)) : @Pf P σ c k := by
 refine U7 (ι := { s : Nat × A0 × A1 × A2 × A3 × A4 × A5 × A6 × A7 × A8 // Me (L n0 b0 b1 b2 b3 b4 b5 b6 b7 b8) (L s.1 s.2.1 s.2.2.1 s.2.2.2.1 s.2.2.2.2.1 s.2.2.2.2.2.1 s.2.2.2.2.2.2.1 s.2.2.2.2.2.2.2.1 s.2.2.2.2.2.2.2.2.1 s.2.2.2.2.2.2.2.2.2) ∧ (1 ≤ s.1 ∧ I s.1 s.2.1 s.2.2.1 s.2.2.2.1 s.2.2.2.2.1 s.2.2.2.2.2.1 s.2.2.2.2.2.2.1 s.2.2.2.2.2.2.2.1 s.2.2.2.2.2.2.2.2.1 s.2.2.2.2.2.2.2.2.2) }) (fun s => S s.1.2.1 s.1.2.2.1 s.1.2.2.2.1 s.1.2.2.2.2.1 s.1.2.2.2.2.2.1 s.1.2.2.2.2.2.2.1 s.1.2.2.2.2.2.2.2.1 s.1.2.2.2.2.2.2.2.2.1 s.1.2.2.2.2.2.2.2.2.2) (fun s => s.1.1) ⟨(n0, b0, b1, b2, b3, b4, b5, b6, b7, b8), ⟨rfl⟩, hI⟩ h0 ?_
 rintro ⟨⟨n1, a0, a1, a2, a3, a4, a5, a6, a7, a8⟩, e, j⟩
 obtain ⟨n, rfl⟩ : ∃ q, n1 = q + 1 := ⟨n1 - 1, by have := j.1; (try dsimp only at this); omega⟩
 refine N2 (fun σ' hn => ?_) (kk n a0 a1 a2 a3 a4 a5 a6 a7 a8 ⟨round n a0 a1 a2 a3 a4 a5 a6 a7 a8 ⟨by have := e.h; (try dsimp only at this); rw [this, hL]⟩ j⟩)
 obtain ⟨c0, c1, c2, c3, c4, c5, c6, c7, c8, e2, j2, w2⟩ := hn
 exact ⟨⟨(n, c0, c1, c2, c3, c4, c5, c6, c7, c8), e2, j2⟩, Nat.lt_succ_self n, w2⟩
end
@[simp] abbrev rI (x : Int) : List D := [.int .i64 x]
@[simp] abbrev rB (b : Bool) : List D := [.bool b]
@[simp] abbrev rS (s : ByteArray) : List D := [.str s]
@[simp] abbrev rL {α : Type} (n : Nat) (f : α → List D) (l : List α) : List D := [.sl n (l.map f)]
end Go.Vm
