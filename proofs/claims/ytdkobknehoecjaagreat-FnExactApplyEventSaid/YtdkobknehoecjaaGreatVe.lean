/- An abstract machine GQ the model of Go, by value, and that it is sound: part Ve. No condition. -/
import Derived.Test.YtdkobknehoecjaaGreatVd
namespace Go.Vm
open Go.RowKit
section
variable {P : Program} {σ : St} {k : Fr}
end
end Go.Vm
namespace Go.Vm
open Go.RowKit
def sL (σ : St) : V -> Option Nat
 | .one (.d (.sl _ rows)) => some rows.length
 | .one (.sref t j _ len) => (match σ.ob t j with | .arr _ _ _ => some len | _ => none)
 | .fix _ (.one (.sref t j _ len)) => (match σ.ob t j with | .arr _ _ _ => some len | _ => none)
 | _ => none
def Wo (σ : St) : Prop := ∀ t n, sL σ (σ.get t) = some n -> n <= 9223372036854775807
theorem rD {T : CS} {h : Nat -> Nat -> Hd} {σ : St} {w : World} : ∀ {v : V} {val : Value} {n : Nat}, sL σ v = some n -> JD T h σ.ob w v val -> n <= maxLen
 | .one (.d (.sl s rows)), val, n, hn, hv => by
  simp only [sL] at hn
  cases hn
  obtain ⟨base, cap, _, h1, h2⟩ := vC (r := (show Rd T w val (.sl s rows) from hv))
  omega
 | .one (.sref u j lo len), val, n, hn, hv => by
  simp only [sL] at hn
  split at hn
  ·rename_i q s rows ho
   cases hn
   have hh := (show YK T h σ.ob w (.sref u j lo len) val from hv).2.1 _ _ _ ho
   obtain ⟨_, _, _, base, cap, _, h1, h2, _⟩ := hh
   omega
  ·cases hn
 | .fix u0 (.one (.sref u j lo len)), val, n, hn, hv => by
  simp only [sL] at hn
  split at hn
  ·rename_i q s rows ho
   cases hn
   have hh := (show YK T h σ.ob w (.sref u j lo len) val from hv.2).2.1 _ _ _ ho
   obtain ⟨_, _, _, base, cap, _, h1, h2, _⟩ := hh
   omega
  ·cases hn
theorem Bl {T0 : CS} {B : Nat -> Prop} {σ : St} {a : Act} {w : World} (r : Ku T0 B σ a w) : Wo σ := by
 obtain ⟨X, h, r⟩ := r
 intro t n hn
 exact rD hn (r.get t)
theorem BG {P : Program} {c : Code} {Q : Exit -> St -> Prop} {σ : St} (h : Wo σ -> AWP P c Q σ) : AWP P c Q σ := fun T0 B a w r => h (Bl r) T0 B a w r
section
variable {P : Program} {σ : St} {k : Fr}
theorem ow {b : Bool} {x y : qK} (ht : Wo σ -> b = true -> @WI P σ x k) (hf : Wo σ -> b = false -> @WI P σ y k) : @CI P b σ x y k :=
 ⟨fun h => BG fun hk => UO (ht hk h), fun h => BG fun hk => UO (hf hk h)⟩
theorem Mx {b c : Bool} {x y : qK} (hc : c = b) (ht : Wo σ -> c = true -> @WI P σ x k) (hf : Wo σ -> c = false -> @WI P σ y k) : @CI P b σ x y k := by
 subst hc; exact ow ht hf
theorem okL {c : qK} (h : Wo σ -> @Ov P σ c k) : @Ov P σ c k := BG h
theorem okD {id : Nat} {A : Kx} (h : Wo σ -> @DI P id σ A k) : @DI P id σ A k := BG h
def Ny : Op -> Bool
 | .call _ => true
 | _ => false
theorem GF {A : Kx} {o : OpI} {l : zh} {j dj d : Nat} {want g : Bool} (lB : Ny o.o.op = false) (hg : o.o.guard = some (j, want)) (hd : o.o.dst = some d)
  (ig : (A.ops[j]?).bind (·.dst) = some dj) (iu : jF want (σ.get dj) = some g) (lN : dj < σ.length)
  (ht : g = true -> ((evV P σ o.o.op o.o.type).1 /\ gOf (evV P σ o.o.op o.o.type).2 = true /\ (unc (evV P σ o.o.op o.o.type).2).flat = true) /\ @EI P (σ.put d (.cnd true (unc (evV P σ o.o.op o.o.type).2))) A l k)
  (hf : g = false -> @EI P (σ.put d (.cnd false .any)) A l k) : @SI P σ A o l k := by
 have step : ∀ v, (g = true -> (evV P σ o.o.op o.o.type).1 /\ gOf (evV P σ o.o.op o.o.type).2 = true /\ v = unc (evV P σ o.o.op o.o.type).2 /\ v.flat = true) -> XS P A.ops o.o σ (σ.put d (.cnd g v)) := by
  intro v hv
  unfold XS
  simp only [hg]
  refine ⟨dj, d, g, v, ig, lN, hd, iu, fun dq => ?_, rfl⟩
  obtain ⟨h1, h2, h3, h4⟩ := hv dq
  have base : ∃ v0, Yh P σ o.o.op o.o.type v0 /\ gOf v0 = true /\ v = unc v0 /\ v.flat = true := ⟨_, wJ h1, h2, h3, h4⟩
  unfold MK
  split
  ·rename_i c hc; rw [hc] at lB; cases lB
  ·exact base
 cases g with
 | true =>
  obtain ⟨⟨h1, h2, h3⟩, h4⟩ := ht rfl
  exact ⟨_, .inl (step _ fun _ => ⟨h1, h2, rfl, h3⟩), JO h4⟩
 | false => exact ⟨_, .inl (step .any (fun h => by cases h)), JO (hf rfl)⟩
end
theorem pF {P : Program} {σ : St} {k : Fr} {A : Kx} {o : OpI} {l : zh} {j dj d : Nat} {want g : Bool} (hg : o.o.guard = some (j, want)) (hd : o.o.dst = some d)
  (ig : (A.ops[j]?).bind (·.dst) = some dj) (iu : jF want (σ.get dj) = some g) (lN : dj < σ.length) (b6 : g = false)
  (h : @EI P (σ.put d (.cnd false .any)) A l k) : @SI P σ A o l k := by
 subst b6
 refine ⟨_, .inl ?_, JO h⟩
 unfold XS
 simp only [hg]
 exact ⟨dj, d, false, .any, ig, lN, hd, iu, (fun h => by cases h), rfl⟩
def Ri (P : Program) : List TypeId -> List At -> List At -> Option Bool
 | [], _, _ => some true
 | f :: fs, x :: xs, y :: ys => (match sX P f x y, Ri P fs xs ys with | some p, some q => some (p && q) | _, _ => none)
 | _, _, _ => none
theorem M1 (P : Program) : ∀ (fs : List Field) (xs ys : List At), jz P fs xs ys = Ri P (fs.map (·.type)) xs ys
 | [], _, _ => by simp [jz, Ri]
 | f :: fs, [], _ => by simp [jz, Ri]
 | f :: fs, x :: xs, [] => by simp [jz, Ri]
 | f :: fs, x :: xs, y :: ys => by simp only [jz, List.map_cons, Ri, M1 P fs xs ys]; rfl
def K7 (P : Program) (T : TypeId) : List TypeId := (P.fieldsOf T).toList.map (·.type)
@[simp] theorem rP (P : Program) (T : TypeId) (xs ys : List At) : jz P (P.fieldsOf T).toList xs ys = Ri P (K7 P T) xs ys := M1 P _ _ _
attribute [simp] Ri
def nth {α : Type} [Inhabited α] (l : List α) (i : Nat) : α := l.getD i default
theorem ZE {α : Type} [Inhabited α] {f : α -> List D} {l : List α} {i : Nat} (h : i < l.length) : rowAt (l.map f) i = f (nth l i) := by
 simp [rowAt, nth, h]
theorem YV {α : Type} {f : α -> List D} {l : List α} {i : Nat} {x : α} {r : List D} (h : r = f x) : (l.map f).set i r = (l.set i x).map f := by
 rw [h, List.map_set]
abbrev W (x : Int) : Int := IntKind.i64.wrap x
theorem Zb {x : Int} (h1 : -9223372036854775808 <= x) (h2 : x <= 9223372036854775807) : IntKind.i64.wrap x = x := by
 have hr : IntKind.i64.min <= x /\ x <= IntKind.i64.max := by
  constructor
  ·show -9223372036854775808 <= x; exact h1
  ·show x <= 9223372036854775807; exact h2
 simp only [IntKind.wrap]
 first
  | (simp [IntKind.bits, IntKind.signed]; omega)
  | omega
theorem qp (i : Nat) : ((i : Int) - 1).toNat = i - 1 := by omega
attribute [simp] St.fresh zy V.ref V.Oo Y2 U5
end Go.Vm
namespace Go.Vm
open Go.RowKit
attribute [simp] St.WG xl RZ At.sI Sw
section
variable {P : Program} {σ : St} {k : Fr}
theorem Jg {f : FuncId} {fn : Func} {c : Code} (hf : P.funcs[f]? = some fn) (hb : fn.body = some c) (la : MP P f = true) {row : List D} {args : List (List D)} {lj : List D} {x : D}
  (hw : ∀ v, @WI P (Sw fn.ntmps v row args) ⟨c⟩ (.fin (pr P fn v lj x))) : KQ P f row args lj x := Ei hf hb la (fun v => UO (hw v))
theorem PK {fn : Func} {v : Value} {lj : List D} {x : D} {rv : List ResultVar} (hf : fn.results = rv.toArray) (h : (Kp P σ rv).1 /\ (Kp P σ rv).2 = [[.d x]] /\ x.scalar = true /\ σ.head? = some (.fix v (vOf (KG 0 0 lj)), YO [] lj)) : pr P fn v lj x .ret σ :=
 ⟨.inl rfl, by rw [hf]; have := S9 h.1; rw [h.2.1] at this; simpa using this, h.2.2⟩
theorem Ro {A : Kx} {o : OpI} {l : zh} {cl : Call} {f : FuncId} {d : Nat} {x0 : Operand} {xs : List Operand} {t0 : TypeId} {ts : List TypeId} {lJ : List (List D)} {s s' : List (List D)} {n : Nat} {y : D} {t j i c : Nat} {size : Nat} {rows : List (List D)} (lB : o.o.op = .call cl) (hc : cl.callee = .value (.func f)) (dm : o.o.guard = none) (hd : o.o.dst = some d) (ln : A.bar o.o = true)
  (ha : cl.args.toList = x0 :: xs) (dn : cl.argTypes.toList = t0 :: ts) (hs : KQ P f [.sl n s] lJ [.sl n s'] y) (hx : gOf (look P σ t0 x0) = true /\ unc (look P σ t0 x0) = .one (.tref t j i c none)) (ho : σ.ob t j = .arr true size rows) (hi : i < rows.length)
  (lK : (rowAt rows i)[c]? = some (.sl n s)) (lH : (Xm P σ xs ts).1) (lP : (Xm P σ xs ts).2 = some lJ) (lZ : Yn P σ xs ts = true)
  (h : @EI P ((σ.Z7 t j (.arr true size (rows.set i (place (rowAt rows i) c [.sl n s'])))).put d (.one (.d y))) A l k) : @SI P σ A o l k := AX lB hc dm hd ln ha dn hx.1 hx.2 ho hi lK (kO lH lP) lZ hs h
theorem xO {A : Kx} {o : OpI} {l : zh} {cl : Call} {f : FuncId} {d : Nat} {x0 : Operand} {xs : List Operand} {t0 : TypeId} {ts : List TypeId} {lJ : List (List D)} {row lj : List D} {y : D} {l6 : List At} (lB : o.o.op = .call cl) (hc : cl.callee = .value (.func f)) (dm : o.o.guard = none) (hd : o.o.dst = some d) (ln : A.bar o.o = true)
  (ha : cl.args.toList = x0 :: xs) (_hat : cl.argTypes.toList = t0 :: ts) (hs : KQ P f row lJ lj y) (hx : gOf (look P σ t0 x0) = true /\ unc (look P σ t0 x0) = vOf l6) (gM : Q7 σ l6 = some row) (cQ : RZ σ l6) (l9 : (Yg l6).Nodup) (bA : σ.zl At.sI = false)
  (lH : (Xm P σ xs ts).1) (lP : (Xm P σ xs ts).2 = some lJ) (lZ : Yn P σ xs ts = true) (bB : xl row lj)
  (h : @EI P ((σ.WG l6 lj).put d (.one (.d y))) A l k) : @SI P σ A o l k := Ai lB hc dm hd ln ha hx.1 hx.2 gM cQ l9 bA (kO lH lP) lZ hs bB h
end
end Go.Vm
namespace Go.Vm
open Go.RowKit
def At.isP (t : Nat) : At -> Bool
 | .tref u _ _ _ _ => u == t
 | .ptr u _ _ _ => u == t
 | _ => false
section
variable {P : Program} {T0 : CS} {B : Nat -> Prop} {σ : St} {a : Act} {w w' : World} {X X' : Nat -> Prop} {h : Nat -> Nat -> Hd}
theorem Rel.py (r : Rel T0 B σ a w X h) {t : Nat} {size : Nat} {rows : List (List At)} {news : List (List D)} {L : List (Nat × Nat)} (ho : σ.ob t 0 = .lit size rows) (gM : zd σ rows = some news) (la : Kk σ rows)
  (hL : Yg rows.flatten = L) (l9 : L.Nodup) (cS : (t, 0) ∉ L) (hp : (σ.Zx L).zl (At.isP t) = false) : Ku T0 B ((σ.Zx L).Z7 t 0 (.arr true size news)) a w := by
 have lV : σ.ob t 0 ≠ .none := by rw [ho]; simp
 have h0 := r.obj t 0
 rw [ho] at h0
 obtain ⟨e, xs, gA, hz, lE⟩ := h0
 obtain ⟨hm1, bD, hm3⟩ := Vy gM
 have lG := P4 r lE hm1 (kn la) (by rw [hL]; exact l9)
 rw [hL] at lG
 have r1 := r.Zx L
 have lY := r.yN L
 have iv : ∀ b', (h t 0).u b' -> JI σ h L b' -> False := by
  rintro b' iP ⟨p, fN, lD, b9⟩
  obtain ⟨q1, q2⟩ := r.inj t 0 p.1 p.2 b' lV lD iP b9
  exact cS (by rw [q1, q2]; exact fN)
 have gN : (σ.Zx L).ob t 0 = .lit size rows := by rw [St.Kl, if_neg cS, ho]
 have dt : (σ.Zx L).ob t 0 ≠ .none := by rw [gN]; simp
 have iG : ∀ u i, ¬ (u = t /\ i = 0) -> ((σ.Zx L).Z7 t 0 (.arr true size news)).ob u i = (σ.Zx L).ob u i := by
  intro u i lD
  rw [St.JH _ t 0 _ u i dt, if_neg lD]
 have iF : ((σ.Zx L).Z7 t 0 (.arr true size news)).ob t 0 = .arr true size news := by rw [St.JH _ t 0 _ t 0 dt]; simp
 generalize hσ : (σ.Zx L).Z7 t 0 (.arr true size news) = σ2 at *
 generalize hσ1 : σ.Zx L = σ1 at *
 have hlen : σ2.length = σ1.length := by rw [<- hσ, St.Xv]
 have l8 : ∀ u, σ2.get u = σ1.get u := fun u => by rw [<- hσ, St.QK]
 let lQ : Hd := ⟨(h t 0).v, fun k => (xs[k]?).getD undef, fun b => (h t 0).u b \/ JI σ h L b⟩
 let h' : Nat -> Nat -> Hd := fun u i => if u = t /\ i = 0 then lQ else h u i
 have eY : ∀ u i, ¬ (u = t /\ i = 0) -> h' u i = h u i := fun u i lD => if_neg lD
 have aA : h' t 0 = lQ := by simp [h']
 have hv : ∀ u i, (h' u i).v = (h u i).v := by
  intro u i
  by_cases hc : u = t /\ i = 0
  ·obtain ⟨rfl, rfl⟩ := hc; rw [aA]
  ·rw [eY u i hc]
 have at_ : ∀ {x : At} {v : Value}, At.isP t x = false -> YK (Tof T0 X) h σ1.ob w x v -> YK (Tof T0 X) h' σ2.ob w x v := by
  intro x v cT rx
  cases x with
  | any => exact rx
  | d x => exact rx
  | nil s => exact rx
  | sref u i lo len =>
   refine ⟨rx.1, fun q s rws hq => ?_, fun s rws hq => ?_⟩
   ·by_cases hc : u = t /\ i = 0
    ·obtain ⟨rfl, rfl⟩ := hc
     rw [iF] at hq; cases hq
     rw [hv, <- bD]; exact rx.2.2 _ _ gN
    ·rw [iG u i hc] at hq; rw [hv]; exact rx.2.1 _ _ _ hq
   ·by_cases hc : u = t /\ i = 0
    ·obtain ⟨rfl, rfl⟩ := hc
     rw [iF] at hq; cases hq
    ·rw [iG u i hc] at hq; rw [hv]; exact rx.2.2 _ _ hq
  | ptr u i k c =>
   refine ⟨rx.1, fun q s rws hq => ?_⟩
   have hc : ¬ (u = t /\ i = 0) := fun hc => by simp [At.isP, hc.1] at cT
   rw [iG u i hc] at hq; rw [hv]; exact rx.2 _ _ _ hq
  | bptr u c =>
   refine ⟨rx.1, fun cells hq => ?_⟩
   by_cases hc : u = t
   ·subst hc; rw [iF] at hq; cases hq
   ·rw [iG u 0 (fun hh => hc hh.1)] at hq; rw [hv]; exact rx.2 _ hq
  | fn f u =>
   refine ⟨rx.1, fun cells hq => ?_⟩
   by_cases hc : u = t
   ·subst hc; rw [iF] at hq; cases hq
   ·rw [iG u 0 (fun hh => hc hh.1)] at hq; rw [hv]; exact rx.2 _ hq
  | tref u i k c o =>
   refine ⟨rx.1, fun s rws hq => ?_⟩
   have hc : ¬ (u = t /\ i = 0) := fun hc => by simp [At.isP, hc.1] at cT
   rw [iG u i hc] at hq; rw [eY u i hc]; exact rx.2 _ _ hq
  | rptr rr c => exact rx
 have l4 : ∀ u i, σ2.ob u i ≠ .none -> σ1.ob u i ≠ .none := by
  intro u i hn
  by_cases hc : u = t /\ i = 0
  ·obtain ⟨rfl, rfl⟩ := hc; exact dt
  ·rw [iG u i hc] at hn; exact hn
 refine ⟨X, h', by rw [r1.size, hlen], r1.defers, r1.hB, r1.hX, r1.hT, fun u hu => ?_, fun u i => ?_, fun u i b hn hb => ?_, fun u i b hn hb => ?_, fun u i u' i' b hn l0 hb lM => ?_⟩
 ·rw [hlen] at hu
  rw [l8]; exact JD.map at_ (St.NW hp u) (r1.slot u hu)
 ·by_cases hc : u = t /\ i = 0
  ·obtain ⟨rfl, rfl⟩ := hc
   rw [iF, aA]
   refine ⟨e, xs, by rw [<- bD]; exact gA, hm3 size hz, lG.mono (fun b hb => ⟨.inr hb, fun ej => iv b (r.ub u 0 b lV ej) hb⟩), fun k x d hx _ _ => by simp [lQ, hx]⟩
  ·rw [iG u i hc, eY u i hc]
   exact zR.map at_ (fun b k v hb hc => ⟨hc, hb⟩) (fun ho b => r1.ub u i b ho) (fun _ _ _ => rfl) (St.Iw hp u i) (r1.obj u i)
 ·by_cases hc : u = t /\ i = 0
  ·obtain ⟨rfl, rfl⟩ := hc
   rw [aA] at hb ⊢; exact .inl (r.ub u 0 b lV hb)
  ·rw [eY u i hc] at hb ⊢; exact r1.ub u i b (l4 u i hn) hb
 ·by_cases hc : u = t /\ i = 0
  ·obtain ⟨rfl, rfl⟩ := hc
   rw [aA] at hb
   rcases hb with hb | hb
   ·exact r.own u 0 b lV hb
   ·have := lY b hb; exact ⟨this.1, this.2.1, this.2.2.1⟩
  ·rw [eY u i hc] at hb; exact r1.own u i b (l4 u i hn) hb
 ·have key : ∀ u i b, ¬ (u = t /\ i = 0) -> σ1.ob u i ≠ .none -> (h u i).u b -> (h' t 0).u b -> False := by
   intro u i b hc hn hb lM
   rw [aA] at lM
   rcases lM with lM | lM
   ·exact hc (r1.inj u i t 0 b hn dt hb lM)
   ·exact (lY b lM).2.2.2 u i hn hb
  by_cases hc : u = t /\ i = 0
  ·by_cases lg : u' = t /\ i' = 0
   ·exact ⟨hc.1.trans lg.1.symm, hc.2.trans lg.2.symm⟩
   ·obtain ⟨rfl, rfl⟩ := hc
    rw [eY u' i' lg] at lM
    exact (key u' i' b lg (l4 u' i' l0) lM hb).elim
  ·rw [eY u i hc] at hb
   by_cases lg : u' = t /\ i' = 0
   ·obtain ⟨rfl, rfl⟩ := lg
    exact (key u i b hc (l4 u i hn) hb lM).elim
   ·rw [eY u' i' lg] at lM
    exact r1.inj u i u' i' b (l4 u i hn) (l4 u' i' l0) hb lM
end
section
variable {P : Program} {σ : St} {k : Fr}
theorem o9 {A : Kx} {o : OpI} {l : zh} {d : Nat} {T : TypeId} {n : Nat} {parts : Array (Nat × Operand)} {news : List (List D)} {L : List (Nat × Nat)} (lB : o.o.op = .buildSlice T n parts) (hg : o.o.guard = none) (hd : o.o.dst = some d) (ln : A.bar o.o = true)
  (h1 : (σ.fresh d = true /\ d < σ.length) /\ XK P T = true /\ QF P (ZU P T) = true /\ 0 < P.cellsOf (ZU P T) /\ parts.toList.length = n /\ n * P.cellsOf (ZU P T) <= 16777216) (h2 : (Kw P σ (ZU P T) (P.cellsOf (ZU P T)) parts.toList 0).1)
  (h3 : YS d (Kw P σ (ZU P T) (P.cellsOf (ZU P T)) parts.toList 0).2.flatten = false)
  (h4 : zd (σ.new d (.one (.sref d 0 0 (Kw P σ (ZU P T) (P.cellsOf (ZU P T)) parts.toList 0).2.length)) [.lit (P.cellsOf (ZU P T)) (Kw P σ (ZU P T) (P.cellsOf (ZU P T)) parts.toList 0).2]) (Kw P σ (ZU P T) (P.cellsOf (ZU P T)) parts.toList 0).2 = some news /\
   Kk (σ.new d (.one (.sref d 0 0 (Kw P σ (ZU P T) (P.cellsOf (ZU P T)) parts.toList 0).2.length)) [.lit (P.cellsOf (ZU P T)) (Kw P σ (ZU P T) (P.cellsOf (ZU P T)) parts.toList 0).2]) (Kw P σ (ZU P T) (P.cellsOf (ZU P T)) parts.toList 0).2)
  (h5 : Yg (Kw P σ (ZU P T) (P.cellsOf (ZU P T)) parts.toList 0).2.flatten = L /\ L.Nodup /\ (d, 0) ∉ L)
  (h6 : ((σ.new d (.one (.sref d 0 0 (Kw P σ (ZU P T) (P.cellsOf (ZU P T)) parts.toList 0).2.length)) [.lit (P.cellsOf (ZU P T)) (Kw P σ (ZU P T) (P.cellsOf (ZU P T)) parts.toList 0).2]).Zx L).zl (At.isP d) = false)
  (h : @EI P (((σ.new d (.one (.sref d 0 0 (Kw P σ (ZU P T) (P.cellsOf (ZU P T)) parts.toList 0).2.length)) [.lit (P.cellsOf (ZU P T)) (Kw P σ (ZU P T) (P.cellsOf (ZU P T)) parts.toList 0).2]).Zx L).Z7 d 0 (.arr true (P.cellsOf (ZU P T)) news)) A l k) : @SI P σ A o l k := by
 refine ⟨_, .inr ⟨ln, ?_, fun d' lQ hc => QL (JQ (R2 (fun e => lQ (by rw [hd, e])) hc)), fun hh => by simp [OO, lB] at hh, fun hh => by first | (simp [Sj, lB] at hh; done) | (unfold Sj at hh; rw [lB] at hh; split at hh <;> simp_all)⟩, JO h⟩
 rintro T0 B a w K Q' ⟨X, hh, r⟩ hK
 have hw : Region.wanted o.o (yielded A.ops a.tmps) = true := by simp [Region.wanted, hg]
 rw [if_pos hw]
 refine Sx r lB hd h1.1.1 h1.2.1 h1.2.2.1 h1.2.2.2.1 h1.2.2.2.2.1 h1.2.2.2.2.2 (FI h2) h3 (fun a' w' hr b7 => hK a' w' ?_ b7)
 obtain ⟨X', eY, r'⟩ := hr
 exact Rel.py r' (by rw [St.Ko, if_pos ⟨rfl, h1.1.2⟩]; rfl) h4.1 h4.2 h5.1 h5.2.1 h5.2.2 h6
end
attribute [simp] At.isP
theorem Yv.own {P : Program} {f : FuncId} {args res : List (List D)} (hs : Yv P f args res) : Qz P f true args res := by
 refine ⟨hs.1, fun T w lu hT ha => (hs.2 T w lu hT ha).mono ?_⟩
 rintro e w' ⟨vs, lf, he, hb, hf, hl, ⟨hlen, Sk, h1, h2, h3⟩⟩
 refine ⟨vs, lf, fun b => (w.heap.size <= b /\ b < w'.heap.size) /\ ∀ (k : Nat) (c : Value) (d : D), lf.flatten[k]? = some c -> res.flatten[k]? = some d -> d.scalar = false -> blk c ≠ some b, he, hb, fun b hb => hb.1, hf, kV hl (fun k x d hx hd => ?_), fun _ => ⟨fun i c d b hc hd iK eW => ?_, fun i j c c' d d' b hc hd lg lQ iK bC eW hbl' => ?_⟩⟩
 ·simp only [xg, if_true]
  have ho := h1 k x d hx hd
  cases ho with
  | int k n => exact .int _ _
  | bool b => exact .bool _
  | str s => exact .str _
  | unk v h => exact .unk _ h
  | sl v size rows S e' xs da ho hz lM hl' hk gS lQ =>
   refine ⟨e', xs, ho, hz, YA.jf hl' (fun i y dd hy ic => (hk i y dd hy ic).rd (fun b k' hb => .inr ⟨h2 k b (gS i b hb).1, fun k2 c2 d2 fh fH dr b8 => ?_⟩))⟩
   have gk := h1 k2 c2 d2 fh fH
   have fc : Sk k2 b := by
    cases gk with
    | int k n => cases dr
    | bool b => cases dr
    | str s => cases dr
    | unk => cases dr
    | sl v2 cU ek S2 e2 xs2 Sk2 gk bE iJ di eZ lL aB => exact iJ b b8
   have := h3 k k2 b (gS i b hb).1 fc
   subst this
   rw [hx] at fh; cases fh
   exact (gS i b hb).2 b8
 ·have gk := h1 i c d hc hd
  have fc : Sk i b := by
   cases gk with
   | int k n => cases iK
   | bool b => cases iK
   | str s => cases iK
   | unk => cases iK
   | sl v2 cU ek S2 e2 xs2 Sk2 gk bE iJ di eZ lL aB => exact iJ b eW
  have := h2 i b fc
  exact ⟨this.1, this.2, fun hy => hy.2 i c d hc hd iK eW⟩
 ·have fc : ∀ (i : Nat) (c : Value) (d : D), lf.flatten[i]? = some c -> res.flatten[i]? = some d -> d.scalar = false -> blk c = some b -> Sk i b := by
   intro i c d hc hd iK eW
   have gk := h1 i c d hc hd
   cases gk with
   | int k n => cases iK
   | bool b => cases iK
   | str s => cases iK
   | unk => cases iK
   | sl v2 cU ek S2 e2 xs2 Sk2 gk bE iJ di eZ lL aB => exact iJ b eW
  exact h3 i j b (fc i c d hc hd iK eW) (fc j c' d' lg lQ bC hbl')
end Go.Vm
namespace Go.Vm
open Go.RowKit
def DN (σ : St) (F : List (Nat × Nat)) : At -> At
 | .sref t j lo len => if inF F t j then (match σ.ob t j with | .arr _ s rows => .d (.sl s (cut rows lo len)) | _ => .any) else .sref t j lo len
 | .ptr t j i c => if inF F t j then .any else .ptr t j i c
 | .tref t j i c o => if inF F t j then .any else .tref t j i c o
 | x => x
def ot (σ : St) (F : List (Nat × Nat)) : V -> V
 | .one x => .one (DN σ F x)
 | .agg xs => .agg (xs.map (DN σ F))
 | .fix u (.one x) => .fix u (.one (DN σ F x))
 | .fix u (.agg xs) => .fix u (.agg (xs.map (DN σ F)))
 | _ => .any
def r9 (σ : St) (F : List (Nat × Nat)) (t j : Nat) (o : Ob) : Ob :=
 if inF F t j then .none else match o with | .box cs => .box (cs.map (DN σ F)) | .lit _ _ => .none | o => o
def wK (σ : St) (F : List (Nat × Nat)) (t : Nat) : List Ob -> Nat -> List Ob
 | [], _ => []
 | o :: os, j => r9 σ F t j o :: wK σ F t os (j + 1)
def BQ (σ : St) (F : List (Nat × Nat)) : List Ent -> Nat -> List Ent
 | [], _ => []
 | e :: es, t => (ot σ F e.1, wK σ F t e.2 0) :: BQ σ F es (t + 1)
def St.frz (σ : St) (F : List (Nat × Nat)) : St := BQ σ F σ 0
section
variable {P : Program} {σ : St} {k : Fr}
end
attribute [simp] DN ot r9 wK BQ St.frz
end Go.Vm
namespace Go.Vm
end Go.Vm
namespace Go.Vm
open Go.RowKit
abbrev ptr (b : Nat) : Value := .pointer (some ⟨b, 0, none⟩)
def nJ (n : Nat) (pre : List (List D)) (v : Value) (cells : List At) (obs : List Ob) (post : List (List D)) : St :=
 Nt pre ++ (.fix v (.one (.bptr pre.length 0)), .box cells :: obs) :: (Nt post ++ List.replicate (n - (pre.length + 1 + post.length)) (V.any, []))
section
variable {P : Program} {T0 : CS} {B : Nat -> Prop} {σ : St} {a : Act} {w w' : World} {X X' : Nat -> Prop} {h : Nat -> Nat -> Hd}
end
end Go.Vm
namespace Go.Vm
open Go.RowKit
section
variable {P : Program} {T0 : CS} {B : Nat -> Prop} {σ : St} {a : Act} {w w' : World} {X X' : Nat -> Prop} {h : Nat -> Nat -> Hd}
end
end Go.Vm
namespace Go.Vm
open Go.RowKit
section
variable {P : Program} {T0 : CS} {B : Nat -> Prop} {σ : St} {a : Act} {w w' : World} {X X' : Nat -> Prop} {h : Nat -> Nat -> Hd}
def mB (dp : Bool) (σ : St) (d : Nat) (res : List (List D)) (qs : List Bool) : St := match dp with | true => σ.new d (VS d res) (YO qs res.flatten) | false => σ.put d (jj res)
end
section
variable {P : Program} {σ : St} {k : Fr}
attribute [simp] mB
end
end Go.Vm
namespace Go.Vm
open Go.RowKit
def oZ (n : Nat) (sz : Nat) (rows : List (List D)) (args : List (List D)) : St := (.one (.sref 0 0 0 rows.length), [.arr false sz rows]) :: (Nt args ++ List.replicate (n - (args.length + 1)) (V.any, []))
def At.isO (u : Nat) : At -> Bool
 | .sref t _ _ _ => t == u
 | .ptr t _ _ _ => t == u
 | .tref t _ _ _ _ => t == u
 | _ => false
section
variable {P : Program} {T0 : CS} {B : Nat -> Prop} {σ : St} {a : Act} {w w' : World} {X X' : Nat -> Prop} {h : Nat -> Nat -> Hd}
end
end Go.Vm
namespace Go.Vm
open Go.RowKit
section
variable {P : Program} {T0 : CS} {B : Nat -> Prop} {σ : St} {a : Act} {w w' : World} {X X' : Nat -> Prop} {h : Nat -> Nat -> Hd}
end
section
variable {P : Program} {σ : St} {k : Fr}
end
attribute [simp] nJ oZ At.isO
end Go.Vm
namespace Go.Vm
open Go.RowKit
section
variable {P : Program} {σ : St} {k : Fr}
end
end Go.Vm
namespace Go.Vm
open Go.RowKit
section
variable {P : Program} {σ : St} {k : Fr}
theorem cR {A : Kx} {o : OpI} {l : zh} {c : Call} {f : FuncId} {d : Nat} {own : Bool} {rows res : List (List D)} (hs : Qz P f own rows res) (h : @EI P (σ.put d (jj res)) A l k) (lB : o.o.op = .call c := by exact rfl) (hc : c.callee = .value (.func f) := by exact rfl) (hg : o.o.guard = none := by exact rfl) (hd : o.o.dst = some d := by exact rfl)
  (lP : (Xm P σ c.args.toList c.argTypes.toList).2 = some rows := by simp) (lH : (Xm P σ c.args.toList c.argTypes.toList).1 := by simp) (lZ : Yn P σ c.args.toList c.argTypes.toList = true \/ KR own res := by simp) : @SI P σ A o l k :=
 Is lB hc hg hd hs lP lH lZ h
theorem cD {A : Kx} {o : OpI} {l : zh} {c : Call} {f : FuncId} {d : Nat} {rows res : List (List D)} (qs : List Bool) (hs : Yv P f rows res) (h : @EI P (σ.new d (VS d res) (YO qs res.flatten)) A l k) (lB : o.o.op = .call c := by exact rfl) (hc : c.callee = .value (.func f) := by exact rfl) (hg : o.o.guard = none := by exact rfl) (hd : o.o.dst = some d := by exact rfl)
  (lP : (Xm P σ c.args.toList c.argTypes.toList).2 = some rows := by simp) (lH : (Xm P σ c.args.toList c.argTypes.toList).1 := by simp) (hq : TH qs res.flatten := by simp) (hf : σ.fresh d = true := by simp) : @SI P σ A o l k := D5 qs lB hc hg hd hs lP lH hq hf h
theorem cC {b : Bool} {x y : qK} (c : Bool) (ht : Wo σ -> c = true -> @WI P σ x k) (hf : Wo σ -> c = false -> @WI P σ y k) (hc : c = b := by simp) : @CI P b σ x y k := Mx hc ht hf
end
section
variable {P : Program} {σ : St} {k : Fr}
end
@[simp] abbrev eI (t : Nat) (n : Int) : Nat × V × List Ob := (t, .one (.d (.int .i64 n)), [])
@[simp] abbrev eB (t : Nat) (b : Bool) : Nat × V × List Ob := (t, .one (.d (.bool b)), [])
@[simp] abbrev eL {α : Type} (t s : Nat) (l : List α) (f : α -> List D) : Nat × V × List Ob := (t, .one (.d (.sl s (l.map f))), [])
@[simp] abbrev eP (t u c : Nat) : Nat × V × List Ob := (t, .one (.bptr u c), [])
@[simp] abbrev eG (t : Nat) (xs : List At) : Nat × V × List Ob := (t, .agg xs, [])
@[simp] abbrev eX (t : Nat) (xs : List At) : Nat × V × List Ob := (t, .one (.bptr t 0), [.box xs])
end Go.Vm
namespace Go.Vm
open Go.RowKit
structure Me {α : Type} (x y : α) : Prop where
 h : x = y
structure Bx (p : Prop) : Prop where
 h : p
theorem me {α : Type} {x y : α} (h : x = y) : Me x y := ⟨h⟩
theorem ms {α β : Type} {x y y' : α} {l r : β} (f : Me x y) (e : Me l r) (h : l = r -> y = y' := by intro e; simp only [e]; exact rfl) : Me x y' := ⟨f.h.trans (h e.h)⟩
theorem an {p q : Prop} (h : p) (k : q) : p /\ q := ⟨h, k⟩
theorem ix {α : Type} {v : Nat} {l : List α} (h : decide ((v : Int) < (l.length : Int)) = true) : v < l.length := by simpa using h
theorem ml {α : Type} {q : Prop} (l : List α) (m : q) (h : q -> l.length <= 9223372036854775807 := by intro m; simpa using m) : l.length <= 9223372036854775807 := h m
theorem wr (n : Nat) (h : (n : Int) + 1 <= 9223372036854775807 := by first | omega | (simp only [decide_eq_true_eq, decide_eq_false_iff_not, beq_iff_eq, beq_eq_false_iff_ne, bne_iff_ne, ne_eq, Bool.or_eq_false_iff, Bool.or_eq_true, Bool.and_eq_true, Bool.not_eq_true', Bool.not_eq_false'] at *; omega)) : IntKind.i64.wrap ((n : Int) + 1) = (n : Int) + 1 := Zb (by omega) (by omega)
section
variable {P : Program} {σ : St} {k : Fr}
theorem so {f : FuncId} {fn : Func} {n : Nat} {own : Bool} {args res : List (List D)} {p : Prop} (hf : P.funcs[f]? = some fn) (hn : fn.ntmps = n) (h : p) {c : Code} (hb : fn.body = some c := by exact rfl) (la : MP P f = true := by kernel_rfl)
  (kk : Bx p -> @WI P (WQ n args) ⟨c⟩ (.fin (AM P fn own res)) := by (intro z; simp; (repeat (with_reducible refine Go.Mo.sd ?_)); exact z.h)) : Qz P f own args res := u7 hf hb la (by rw [hn]; exact kk ⟨h⟩)
theorem soD {f : FuncId} {fn : Func} {n : Nat} {args res : List (List D)} {p : Prop} (hf : P.funcs[f]? = some fn) (hn : fn.ntmps = n) (h : p) {c : Code} (hb : fn.body = some c := by exact rfl) (la : MP P f = true := by kernel_rfl)
  (kk : Bx p -> @WI P (WQ n args) ⟨c⟩ (.fin (uX P fn res)) := by (intro z; simp; (repeat (with_reducible refine Go.Mo.sd ?_)); exact z.h)) : Yv P f args res := v5 hf hb la (by rw [hn]; exact kk ⟨h⟩)
theorem cF {α : Type} {u y z : α} {b c : Bool} {xc yc : qK} {p q : Prop} (f : Me u (bif c then y else z)) (ht : Wo σ -> c = true -> Me u y -> p) (hf : Wo σ -> c = false -> Me u z -> q) (hc : c = b := by simp) (kt : Bx p -> @WI P σ xc k := by (intro z; simp; (repeat (with_reducible refine Go.Mo.sd ?_)); exact z.h)) (kf : Bx q -> @WI P σ yc k := by (intro z; simp; (repeat (with_reducible refine Go.Mo.sd ?_)); exact z.h)) : @CI P b σ xc yc k :=
 Mx hc (fun s h => kt ⟨(ht s h ⟨f.h.trans (by rw [h]; rfl)⟩)⟩) (fun s h => kf ⟨(hf s h ⟨f.h.trans (by rw [h]; rfl)⟩)⟩)
theorem cFt {α : Type} {u y z : α} {b c : Bool} {xc yc : qK} {p : Prop} (f : Me u (bif c then y else z)) (ht : Wo σ -> c = true -> Me u y -> p) (hf : Wo σ -> c = false -> Me u z -> @WI P σ yc k) (hc : c = b := by simp) (kt : Bx p -> @WI P σ xc k := by (intro z; simp; (repeat (with_reducible refine Go.Mo.sd ?_)); exact z.h)) : @CI P b σ xc yc k :=
 Mx hc (fun s h => kt ⟨(ht s h ⟨f.h.trans (by rw [h]; rfl)⟩)⟩) (fun s h => (hf s h ⟨f.h.trans (by rw [h]; rfl)⟩))
theorem cFf {α : Type} {u y z : α} {b c : Bool} {xc yc : qK} {q : Prop} (f : Me u (bif c then y else z)) (ht : Wo σ -> c = true -> Me u y -> @WI P σ xc k) (hf : Wo σ -> c = false -> Me u z -> q) (hc : c = b := by simp) (kf : Bx q -> @WI P σ yc k := by (intro z; simp; (repeat (with_reducible refine Go.Mo.sd ?_)); exact z.h)) : @CI P b σ xc yc k :=
 Mx hc (fun s h => (ht s h ⟨f.h.trans (by rw [h]; rfl)⟩)) (fun s h => kf ⟨(hf s h ⟨f.h.trans (by rw [h]; rfl)⟩)⟩)
theorem cFo {α : Type} {u y z : α} {b c : Bool} {xc yc : qK} (f : Me u (bif c then y else z)) (ht : Wo σ -> c = true -> Me u y -> @WI P σ xc k) (hf : Wo σ -> c = false -> Me u z -> @WI P σ yc k) (hc : c = b := by simp) : @CI P b σ xc yc k :=
 Mx hc (fun s h => (ht s h ⟨f.h.trans (by rw [h]; rfl)⟩)) (fun s h => (hf s h ⟨f.h.trans (by rw [h]; rfl)⟩))
theorem cK {α : Type} {u y z : α} {b c : Bool} {xc yc : qK} {p q : Prop} (f : Me u (bif c then y else z)) (ht : Wo σ -> c = true -> Me u y -> p) (hf : Wo σ -> c = false -> Me u z -> q) (hc : c = b := by first | (simp [G]; done) | grind) (kt : Bx p -> @WI P σ xc k := by (intro z; simp [G, Go.Vm.ZE]; (repeat (with_reducible refine Go.Mo.sdg ?_)); exact z.h)) (kf : Bx q -> @WI P σ yc k := by (intro z; simp [G, Go.Vm.ZE]; (repeat (with_reducible refine Go.Mo.sdg ?_)); exact z.h)) : @CI P b σ xc yc k :=
 Mx hc (fun s h => kt ⟨(ht s h ⟨f.h.trans (by rw [h]; rfl)⟩)⟩) (fun s h => kf ⟨(hf s h ⟨f.h.trans (by rw [h]; rfl)⟩)⟩)
theorem cKt {α : Type} {u y z : α} {b c : Bool} {xc yc : qK} {p : Prop} (f : Me u (bif c then y else z)) (ht : Wo σ -> c = true -> Me u y -> p) (hf : Wo σ -> c = false -> Me u z -> @WI P σ yc k) (hc : c = b := by first | (simp [G]; done) | grind) (kt : Bx p -> @WI P σ xc k := by (intro z; simp [G, Go.Vm.ZE]; (repeat (with_reducible refine Go.Mo.sdg ?_)); exact z.h)) : @CI P b σ xc yc k :=
 Mx hc (fun s h => kt ⟨(ht s h ⟨f.h.trans (by rw [h]; rfl)⟩)⟩) (fun s h => (hf s h ⟨f.h.trans (by rw [h]; rfl)⟩))
theorem cKo {α : Type} {u y z : α} {b c : Bool} {xc yc : qK} (f : Me u (bif c then y else z)) (ht : Wo σ -> c = true -> Me u y -> @WI P σ xc k) (hf : Wo σ -> c = false -> Me u z -> @WI P σ yc k) (hc : c = b := by first | (simp [G]; done) | grind) : @CI P b σ xc yc k :=
 Mx hc (fun s h => (ht s h ⟨f.h.trans (by rw [h]; rfl)⟩)) (fun s h => (hf s h ⟨f.h.trans (by rw [h]; rfl)⟩))
theorem cRg {A : Kx} {o : OpI} {l : zh} {c : Call} {f : FuncId} {d : Nat} {own : Bool} {rows res : List (List D)} {p : Prop} (hs : Qz P f own rows res) (h : p) (lB : o.o.op = .call c := by exact rfl) (hc : c.callee = .value (.func f) := by exact rfl) (hg : o.o.guard = none := by exact rfl) (hd : o.o.dst = some d := by exact rfl) (lP : (Xm P σ c.args.toList c.argTypes.toList).2 = some rows := by simp) (lH : (Xm P σ c.args.toList c.argTypes.toList).1 := by simp) (lZ : Yn P σ c.args.toList c.argTypes.toList = true \/ KR own res := by simp) (kk : Bx p -> @EI P (σ.put d (jj res)) A l k := by (intro z; simp [G, Go.Vm.ZE]; (repeat (with_reducible refine Go.Mo.sdg ?_)); exact z.h)) : @SI P σ A o l k := Is lB hc hg hd hs lP lH lZ (kk ⟨h⟩)
theorem cRs {A : Kx} {o : OpI} {l : zh} {c : Call} {f : FuncId} {d : Nat} {own : Bool} {rows res : List (List D)} {p : Prop} (hs : Qz P f own rows res) (h : p) (lB : o.o.op = .call c := by exact rfl) (hc : c.callee = .value (.func f) := by exact rfl) (hg : o.o.guard = none := by exact rfl) (hd : o.o.dst = some d := by exact rfl) (lP : (Xm P σ c.args.toList c.argTypes.toList).2 = some rows := by simp) (lH : (Xm P σ c.args.toList c.argTypes.toList).1 := by simp) (lZ : Yn P σ c.args.toList c.argTypes.toList = true \/ KR own res := by simp) (kk : Bx p -> @EI P (σ.put d (jj res)) A l k := by (intro z; simp; (repeat (with_reducible refine Go.Mo.sd ?_)); exact z.h)) : @SI P σ A o l k := Is lB hc hg hd hs lP lH lZ (kk ⟨h⟩)
theorem cRf {A : Kx} {o : OpI} {l : zh} {c : Call} {f : FuncId} {d : Nat} {own : Bool} {rows res : List (List D)} {p q : Prop} (F : q) (hs : Qz P f own rows res) (h : p) (lB : o.o.op = .call c := by exact rfl) (hc : c.callee = .value (.func f) := by exact rfl) (hg : o.o.guard = none := by exact rfl) (hd : o.o.dst = some d := by exact rfl) (lP : (Xm P σ c.args.toList c.argTypes.toList).2 = some rows := by simp) (lH : (Xm P σ c.args.toList c.argTypes.toList).1 := by simp) (lZ : Yn P σ c.args.toList c.argTypes.toList = true \/ KR own res := by simp) (kk : q -> Bx p -> @EI P (σ.put d (jj res)) A l k := by (intro F z; simp [F, Go.Vm.ZE]; (repeat (with_reducible refine Go.Mo.sd ?_)); exact z.h)) : @SI P σ A o l k := Is lB hc hg hd hs lP lH lZ (kk F ⟨h⟩)
theorem cOs {A : Kx} {o : OpI} {l : zh} {c : Call} {f : FuncId} {d : Nat} {rows res : List (List D)} {p : Prop} (hs : Qz P f true rows res) (h : p) (lB : o.o.op = .call c := by exact rfl) (hc : c.callee = .value (.func f) := by exact rfl) (hg : o.o.guard = none := by exact rfl) (hd : o.o.dst = some d := by exact rfl) (lP : (Xm P σ c.args.toList c.argTypes.toList).2 = some rows := by simp) (lH : (Xm P σ c.args.toList c.argTypes.toList).1 := by simp) (lZ : Yn P σ c.args.toList c.argTypes.toList = true \/ KR true res := by simp) (hf : σ.fresh d = true := by simp) (kk : Bx p -> @EI P (σ.new d (VS d res) (yq res.flatten)) A l k := by (intro z; simp; (repeat (with_reducible refine Go.Mo.sd ?_)); exact z.h)) : @SI P σ A o l k := ta lB hc hg hd hs lP lH lZ hf (kk ⟨h⟩)
theorem cDg {A : Kx} {o : OpI} {l : zh} {c : Call} {f : FuncId} {d : Nat} {rows res : List (List D)} {p : Prop} (qs : List Bool) (hs : Yv P f rows res) (h : p) (lB : o.o.op = .call c := by exact rfl) (hc : c.callee = .value (.func f) := by exact rfl) (hg : o.o.guard = none := by exact rfl) (hd : o.o.dst = some d := by exact rfl) (lP : (Xm P σ c.args.toList c.argTypes.toList).2 = some rows := by simp) (lH : (Xm P σ c.args.toList c.argTypes.toList).1 := by simp) (hq : TH qs res.flatten := by simp) (hf : σ.fresh d = true := by simp) (kk : Bx p -> @EI P (σ.new d (VS d res) (YO qs res.flatten)) A l k := by (intro z; simp [G, Go.Vm.ZE]; (repeat (with_reducible refine Go.Mo.sdg ?_)); exact z.h)) : @SI P σ A o l k := D5 qs lB hc hg hd hs lP lH hq hf (kk ⟨h⟩)
theorem cDs {A : Kx} {o : OpI} {l : zh} {c : Call} {f : FuncId} {d : Nat} {rows res : List (List D)} {p : Prop} (qs : List Bool) (hs : Yv P f rows res) (h : p) (lB : o.o.op = .call c := by exact rfl) (hc : c.callee = .value (.func f) := by exact rfl) (hg : o.o.guard = none := by exact rfl) (hd : o.o.dst = some d := by exact rfl) (lP : (Xm P σ c.args.toList c.argTypes.toList).2 = some rows := by simp) (lH : (Xm P σ c.args.toList c.argTypes.toList).1 := by simp) (hq : TH qs res.flatten := by simp) (hf : σ.fresh d = true := by simp) (kk : Bx p -> @EI P (σ.new d (VS d res) (YO qs res.flatten)) A l k := by (intro z; simp; (repeat (with_reducible refine Go.Mo.sd ?_)); exact z.h)) : @SI P σ A o l k := D5 qs lB hc hg hd hs lP lH hq hf (kk ⟨h⟩)
theorem cDf {A : Kx} {o : OpI} {l : zh} {c : Call} {f : FuncId} {d : Nat} {rows res : List (List D)} {p q : Prop} (F : q) (qs : List Bool) (hs : Yv P f rows res) (h : p) (lB : o.o.op = .call c := by exact rfl) (hc : c.callee = .value (.func f) := by exact rfl) (hg : o.o.guard = none := by exact rfl) (hd : o.o.dst = some d := by exact rfl) (lP : (Xm P σ c.args.toList c.argTypes.toList).2 = some rows := by simp) (lH : (Xm P σ c.args.toList c.argTypes.toList).1 := by simp) (hq : TH qs res.flatten := by simp) (hf : σ.fresh d = true := by simp) (kk : q -> Bx p -> @EI P (σ.new d (VS d res) (YO qs res.flatten)) A l k := by (intro F z; simp [F, Go.Vm.ZE]; (repeat (with_reducible refine Go.Mo.sd ?_)); exact z.h)) : @SI P σ A o l k := D5 qs lB hc hg hd hs lP lH hq hf (kk F ⟨h⟩)
theorem cGo {A : Kx} {o : OpI} {l : zh} {c : Call} {f : FuncId} {d : Nat} {j dj : Nat} {want g own : Bool} {rows : List (List D)} {res : List D} (hs : g = true -> Qz P f own rows [res]) (h : @EI P (σ.put d (.cnd g (jj [res]))) A l k) (lB : o.o.op = .call c := by exact rfl) (hc : c.callee = .value (.func f) := by exact rfl) (hg : o.o.guard = some (j, want) := by exact rfl) (hd : o.o.dst = some d := by exact rfl) (ig : (A.ops[j]?).bind (·.dst) = some dj := by exact rfl) (iu : jF want (σ.get dj) = some g := by exact rfl) (lP : (Xm P σ c.args.toList c.argTypes.toList).2 = some rows := by first | (simp; done) | (simp [G]; done) | (simp [G]; omega) | (simp_all; done)) (lN : dj < σ.length := by first | (simp; done) | (simp [G]; done) | (simp [G]; omega) | (simp_all; done)) (lH : g = true -> (Xm P σ c.args.toList c.argTypes.toList).1 := by first | (simp; done) | (simp [G]; done) | (simp [G]; omega) | (simp_all; done)) (lZ : Yn P σ c.args.toList c.argTypes.toList = true \/ KR own [res] := by first | (simp; done) | (simp [G]; done) | (simp [G]; omega) | (simp_all; done)) : @SI P σ A o l k := vB lB hc hg hd ig iu hs lP lN lH lZ h
theorem cGg {A : Kx} {o : OpI} {l : zh} {c : Call} {f : FuncId} {d : Nat} {j dj : Nat} {want g own : Bool} {rows : List (List D)} {res : List D} {p : Prop} (hs : g = true -> Qz P f own rows [res]) (h : p) (lB : o.o.op = .call c := by exact rfl) (hc : c.callee = .value (.func f) := by exact rfl) (hg : o.o.guard = some (j, want) := by exact rfl) (hd : o.o.dst = some d := by exact rfl) (ig : (A.ops[j]?).bind (·.dst) = some dj := by exact rfl) (iu : jF want (σ.get dj) = some g := by exact rfl) (lP : (Xm P σ c.args.toList c.argTypes.toList).2 = some rows := by first | (simp; done) | (simp [G]; done) | (simp [G]; omega) | (simp_all; done)) (lN : dj < σ.length := by first | (simp; done) | (simp [G]; done) | (simp [G]; omega) | (simp_all; done)) (lH : g = true -> (Xm P σ c.args.toList c.argTypes.toList).1 := by first | (simp; done) | (simp [G]; done) | (simp [G]; omega) | (simp_all; done)) (lZ : Yn P σ c.args.toList c.argTypes.toList = true \/ KR own [res] := by first | (simp; done) | (simp [G]; done) | (simp [G]; omega) | (simp_all; done)) (kk : Bx p -> @EI P (σ.put d (.cnd g (jj [res]))) A l k := by (intro z; simp [G, Go.Vm.ZE]; (repeat (with_reducible refine Go.Mo.sdg ?_)); exact z.h)) : @SI P σ A o l k := vB lB hc hg hd ig iu hs lP lN lH lZ (kk ⟨h⟩)
theorem cGs {A : Kx} {o : OpI} {l : zh} {c : Call} {f : FuncId} {d : Nat} {j dj : Nat} {want g own : Bool} {rows : List (List D)} {res : List D} {p : Prop} (hs : g = true -> Qz P f own rows [res]) (h : p) (lB : o.o.op = .call c := by exact rfl) (hc : c.callee = .value (.func f) := by exact rfl) (hg : o.o.guard = some (j, want) := by exact rfl) (hd : o.o.dst = some d := by exact rfl) (ig : (A.ops[j]?).bind (·.dst) = some dj := by exact rfl) (iu : jF want (σ.get dj) = some g := by exact rfl) (lP : (Xm P σ c.args.toList c.argTypes.toList).2 = some rows := by simp) (lN : dj < σ.length := by simp) (lH : g = true -> (Xm P σ c.args.toList c.argTypes.toList).1 := by simp) (lZ : Yn P σ c.args.toList c.argTypes.toList = true \/ KR own [res] := by simp) (kk : Bx p -> @EI P (σ.put d (.cnd g (jj [res]))) A l k := by (intro z; simp; (repeat (with_reducible refine Go.Mo.sd ?_)); exact z.h)) : @SI P σ A o l k := vB lB hc hg hd ig iu hs lP lN lH lZ (kk ⟨h⟩)
theorem dIo {id : Nat} {l : List Oper} {br : Oper -> Bool} (hm : P.follows .mixedOrders = true) (h : @EI P σ ⟨⟨l⟩, fun _ => false⟩ ⟨l⟩ k) (hdr : NR ⟨l⟩ (fun i => i) (fun _ => false) = true := by kernel_rfl) (lr : yZ ⟨l⟩ (fun i => i) σ = true := by kernel_rfl) : @DI P id σ ⟨⟨l⟩, br⟩ k := tN hm hdr lr h
theorem dIg {id : Nat} {l : List Oper} {br : Oper -> Bool} {p : Prop} (hm : P.follows .mixedOrders = true) (h : p) (hdr : NR ⟨l⟩ (fun i => i) (fun _ => false) = true := by kernel_rfl) (lr : yZ ⟨l⟩ (fun i => i) σ = true := by kernel_rfl) (kk : Bx p -> @EI P σ ⟨⟨l⟩, fun _ => false⟩ ⟨l⟩ k := by (intro z; simp [G, Go.Vm.ZE]; (repeat (with_reducible refine Go.Mo.sdg ?_)); exact z.h)) : @DI P id σ ⟨⟨l⟩, br⟩ k := tN hm hdr lr (kk ⟨h⟩)
theorem dIs {id : Nat} {l : List Oper} {br : Oper -> Bool} {p : Prop} (hm : P.follows .mixedOrders = true) (h : p) (hdr : NR ⟨l⟩ (fun i => i) (fun _ => false) = true := by kernel_rfl) (lr : yZ ⟨l⟩ (fun i => i) σ = true := by kernel_rfl) (kk : Bx p -> @EI P σ ⟨⟨l⟩, fun _ => false⟩ ⟨l⟩ k := by (intro z; simp; (repeat (with_reducible refine Go.Mo.sd ?_)); exact z.h)) : @DI P id σ ⟨⟨l⟩, br⟩ k := tN hm hdr lr (kk ⟨h⟩)
theorem eIs {A : Kx} {o : OpI} {l : zh} {d : Nat} {p : Prop}  (h : p) (hp : D0 o.o = true := by exact rfl) (hg : o.o.guard = none := by exact rfl) (hd : o.o.dst = some d := by exact rfl) (kk : Bx p -> (evS P σ o.o d).1 /\ @EI P (evS P σ o.o d).2 A l k := by (intro z; simp; (repeat (with_reducible refine Go.Mo.sd ?_)); exact z.h)) : @SI P σ A o l k := evI hp hg hd (kk ⟨h⟩)
theorem sGo {A : Kx} {o : OpI} {l : zh} {j dj d : Nat} {want g : Bool}  (h : @EI P (σ.put d (.cnd false .any)) A l k) (hg : o.o.guard = some (j, want) := by exact rfl) (hd : o.o.dst = some d := by exact rfl) (ig : (A.ops[j]?).bind (·.dst) = some dj := by exact rfl) (iu : jF want (σ.get dj) = some g := by exact rfl) (lN : dj < σ.length := by simp) (b6 : g = false := by simp [G]) : @SI P σ A o l k := pF hg hd ig iu lN b6 h
theorem sGg {A : Kx} {o : OpI} {l : zh} {j dj d : Nat} {want g : Bool} {p : Prop}  (h : p) (hg : o.o.guard = some (j, want) := by exact rfl) (hd : o.o.dst = some d := by exact rfl) (ig : (A.ops[j]?).bind (·.dst) = some dj := by exact rfl) (iu : jF want (σ.get dj) = some g := by exact rfl) (lN : dj < σ.length := by simp) (b6 : g = false := by simp [G]) (kk : Bx p -> @EI P (σ.put d (.cnd false .any)) A l k := by (intro z; simp [G, Go.Vm.ZE]; (repeat (with_reducible refine Go.Mo.sdg ?_)); exact z.h)) : @SI P σ A o l k := pF hg hd ig iu lN b6 (kk ⟨h⟩)
theorem gIf {A : Kx} {o : OpI} {l : zh} {j dj d : Nat} {want g : Bool} {r1 r2 : Prop} {q : Prop} (ht : r1 -> ((evV P σ o.o.op o.o.type).1 /\ gOf (evV P σ o.o.op o.o.type).2 = true /\ (unc (evV P σ o.o.op o.o.type).2).flat = true) /\ @EI P (σ.put d (.cnd true (unc (evV P σ o.o.op o.o.type).2))) A l k) (hf : r2 -> q) (lB : Ny o.o.op = false := by exact rfl) (hg : o.o.guard = some (j, want) := by exact rfl) (hd : o.o.dst = some d := by exact rfl) (ig : (A.ops[j]?).bind (·.dst) = some dj := by exact rfl) (iu : jF want (σ.get dj) = some g := by exact rfl) (lN : dj < σ.length := by simp) (k1 : g = true -> r1 := by (intro h; (try simp only [beq_true, beq_false, Bool.not_eq_true', Bool.not_eq_false', Bool.true_and, Bool.and_true] at h); exact h)) (k2 : g = false -> r2 := by (intro h; (try simp only [beq_true, beq_false, Bool.not_eq_true', Bool.not_eq_false', Bool.true_and, Bool.and_true] at h); exact h)) (kf : r2 -> Bx q -> @EI P (σ.put d (.cnd false .any)) A l k := by (intro G z; simp [G, Go.Vm.ZE]; (repeat (with_reducible refine Go.Mo.sdg ?_)); exact z.h)) : @SI P σ A o l k := GF lB hg hd ig iu lN (fun h => ht (k1 h)) (fun h => (fun G => kf G ⟨hf G⟩) (k2 h))
theorem gIo {A : Kx} {o : OpI} {l : zh} {j dj d : Nat} {want g : Bool} {r1 r2 : Prop} (ht : r1 -> ((evV P σ o.o.op o.o.type).1 /\ gOf (evV P σ o.o.op o.o.type).2 = true /\ (unc (evV P σ o.o.op o.o.type).2).flat = true) /\ @EI P (σ.put d (.cnd true (unc (evV P σ o.o.op o.o.type).2))) A l k) (hf : r2 -> @EI P (σ.put d (.cnd false .any)) A l k) (lB : Ny o.o.op = false := by exact rfl) (hg : o.o.guard = some (j, want) := by exact rfl) (hd : o.o.dst = some d := by exact rfl) (ig : (A.ops[j]?).bind (·.dst) = some dj := by exact rfl) (iu : jF want (σ.get dj) = some g := by exact rfl) (lN : dj < σ.length := by simp) (k1 : g = true -> r1 := by (intro h; (try simp only [beq_true, beq_false, Bool.not_eq_true', Bool.not_eq_false', Bool.true_and, Bool.and_true] at h); exact h)) (k2 : g = false -> r2 := by (intro h; (try simp only [beq_true, beq_false, Bool.not_eq_true', Bool.not_eq_false', Bool.true_and, Bool.and_true] at h); exact h)) : @SI P σ A o l k := GF lB hg hd ig iu lN (fun h => ht (k1 h)) (fun h => hf (k2 h))
theorem gJf {A : Kx} {o : OpI} {l : zh} {j dj d : Nat} {want g : Bool} {r1 r2 s : Prop} {q : Prop} (G : s) (ht : s /\ r1 -> ((evV P σ o.o.op o.o.type).1 /\ gOf (evV P σ o.o.op o.o.type).2 = true /\ (unc (evV P σ o.o.op o.o.type).2).flat = true) /\ @EI P (σ.put d (.cnd true (unc (evV P σ o.o.op o.o.type).2))) A l k) (hf : s /\ r2 -> q) (lB : Ny o.o.op = false := by exact rfl) (hg : o.o.guard = some (j, want) := by exact rfl) (hd : o.o.dst = some d := by exact rfl) (ig : (A.ops[j]?).bind (·.dst) = some dj := by exact rfl) (iu : jF want (σ.get dj) = some g := by exact rfl) (lN : dj < σ.length := by simp) (k1 : g = true -> r1 := by (intro h; (try simp only [beq_true, beq_false, Bool.not_eq_true', Bool.not_eq_false', Bool.true_and, Bool.and_true] at h); exact h)) (k2 : g = false -> r2 := by (intro h; (try simp only [beq_true, beq_false, Bool.not_eq_true', Bool.not_eq_false', Bool.true_and, Bool.and_true] at h); exact h)) (kf : s /\ r2 -> Bx q -> @EI P (σ.put d (.cnd false .any)) A l k := by (intro G z; simp [G, Go.Vm.ZE]; (repeat (with_reducible refine Go.Mo.sdg ?_)); exact z.h)) : @SI P σ A o l k := GF lB hg hd ig iu lN (fun h => ht ⟨G, k1 h⟩) (fun h => (fun G => kf G ⟨hf G⟩) ⟨G, k2 h⟩)
theorem gJo {A : Kx} {o : OpI} {l : zh} {j dj d : Nat} {want g : Bool} {r1 r2 s : Prop} (G : s) (ht : s /\ r1 -> ((evV P σ o.o.op o.o.type).1 /\ gOf (evV P σ o.o.op o.o.type).2 = true /\ (unc (evV P σ o.o.op o.o.type).2).flat = true) /\ @EI P (σ.put d (.cnd true (unc (evV P σ o.o.op o.o.type).2))) A l k) (hf : s /\ r2 -> @EI P (σ.put d (.cnd false .any)) A l k) (lB : Ny o.o.op = false := by exact rfl) (hg : o.o.guard = some (j, want) := by exact rfl) (hd : o.o.dst = some d := by exact rfl) (ig : (A.ops[j]?).bind (·.dst) = some dj := by exact rfl) (iu : jF want (σ.get dj) = some g := by exact rfl) (lN : dj < σ.length := by simp) (k1 : g = true -> r1 := by (intro h; (try simp only [beq_true, beq_false, Bool.not_eq_true', Bool.not_eq_false', Bool.true_and, Bool.and_true] at h); exact h)) (k2 : g = false -> r2 := by (intro h; (try simp only [beq_true, beq_false, Bool.not_eq_true', Bool.not_eq_false', Bool.true_and, Bool.and_true] at h); exact h)) : @SI P σ A o l k := GF lB hg hd ig iu lN (fun h => ht ⟨G, k1 h⟩) (fun h => hf ⟨G, k2 h⟩)
theorem gK {A : Kx} {o : OpI} {l : zh} {j dj d : Nat} {want g : Bool} {r1 : Prop} (ht : r1 -> ((evV P σ o.o.op o.o.type).1 /\ gOf (evV P σ o.o.op o.o.type).2 = true /\ (unc (evV P σ o.o.op o.o.type).2).flat = true) /\ @EI P (σ.put d (.cnd true (unc (evV P σ o.o.op o.o.type).2))) A l k) (lB : Ny o.o.op = false := by exact rfl) (hg : o.o.guard = some (j, want) := by exact rfl) (hd : o.o.dst = some d := by exact rfl) (ig : (A.ops[j]?).bind (·.dst) = some dj := by exact rfl) (iu : jF want (σ.get dj) = some g := by exact rfl) (lN : dj < σ.length := by simp) (k1 : g = true -> r1 := by (intro h; (try simp only [beq_true, beq_false, Bool.not_eq_true', Bool.not_eq_false', Bool.true_and, Bool.and_true] at h); exact h)) (k2 : g = false -> False := by first | (intro g0; simp at g0; done) | (intro g0; simp [G] at g0; done)) : @SI P σ A o l k := GF lB hg hd ig iu lN (fun h => ht (k1 h)) (fun h => (k2 h).elim)
theorem rt {α : Type} {x y : α} {fn : Func} {res : List (List D)} (rv : List ResultVar) (f : Me x y) (hf : fn.results = rv.toArray := by exact rfl) (h : x = y -> (Kp P σ rv).1 /\ TW σ (Kp P σ rv).2 = some res := by (intro f; simp [f])) : AM P fn false res .ret σ := pH hf (h f.h)
theorem rtg {α : Type} {x y : α} {fn : Func} {res : List (List D)} (rv : List ResultVar) (f : Me x y) (hf : fn.results = rv.toArray := by exact rfl) (h : x = y -> (Kp P σ rv).1 /\ TW σ (Kp P σ rv).2 = some res := by (intro f; simp [f, G])) : AM P fn false res .ret σ := pH hf (h f.h)
theorem rtO {α : Type} {x y : α} {fn : Func} {res : List (List D)} (rv : List ResultVar) (f : Me x y) (hf : fn.results = rv.toArray := by exact rfl) (h : x = y -> (Kp P σ rv).1 /\ UJ σ (Kp P σ rv).2 = some res /\ (Yg (Kp P σ rv).2.flatten).Nodup := by (intro f; simp [f])) : AM P fn true res .ret σ := oT hf (h f.h)
theorem rtD {α : Type} {x y : α} {fn : Func} {res : List (List D)} (rv : List ResultVar) (f : Me x y) (hf : fn.results = rv.toArray := by exact rfl) (h : x = y -> (Kp P σ rv).1 /\ zd σ (Kp P σ rv).2 = some res /\ Kk σ (Kp P σ rv).2 /\ (Yg (Kp P σ rv).2.flatten).Nodup := by (intro f; simp [f])) : uX P fn res .ret σ := FL hf (h f.h)
theorem zb {α : Type} {x y : α} {fn : Func} {res : List (List D)} (rv : List ResultVar) (f : Me x y) (hf : fn.results = rv.toArray := by exact rfl) (h : x = y -> (Kp P σ rv).1 /\ zd σ (Kp P σ rv).2 = some res /\ Kk σ (Kp P σ rv).2 /\ (Yg (Kp P σ rv).2.flatten).Nodup := by (intro f; simp [f, G])) : uX P fn res .ret σ := FL hf (h f.h)
end
class NxI where
 p : St -> Prop
def Nx (σ : St) [n : NxI] : Prop := n.p σ
section
variable {P : Program} {σ : St} {k : Fr}
theorem BI {c : qK} {n n' : St -> Prop} (hn : ∀ σ', n σ' -> n' σ') (h : @WI P σ c (.nxt n k)) : AWP P c.c (Fr.run P (.nxt n' k)) σ :=
 B7 (fun e σ' hq => by cases e <;> first | exact hn _ hq | exact hq) (UO h)
abbrev Q1 {R : Type} {A0 : Type} (L : Nat -> A0 -> R) (S : A0 -> St) (I : Nat -> A0 -> Prop) (t : R) (b : Nat) : NxI := ⟨fun τ => ∃ a0, Me t (L b a0) /\ (1 <= b /\ I b a0) /\ Wk τ (S a0)⟩
theorem nx1 {R : Type} {A0 : Type} {L : Nat -> A0 -> R} {S : A0 -> St} {I : Nat -> A0 -> Prop} {t : R} {b : Nat} {a0 : A0} (e : Me t (L b a0)) (hI : 1 <= b /\ I b a0 := by ((try dsimp only); first | omega | (simp at *; omega))) (hw : Wk σ (S a0) := by exact Xf (by simp)) : @Nx σ (Q1 L S I t b) := ⟨a0, e, hI, hw⟩
theorem ny1 {R : Type} {A0 : Type} {L : Nat -> A0 -> R} {S : A0 -> St} {I : Nat -> A0 -> Prop} {t : R} {b : Nat} {a0 : A0} {q : Prop} (F : q) (e : Me t (L b a0)) (hI : 1 <= b /\ I b a0 := by ((try dsimp only); first | omega | (simp at *; omega))) (kw : q -> Wk σ (S a0) := by (intro F; exact Xf (by simp [F]))) : @Nx σ (Q1 L S I t b) := ⟨a0, e, hI, kw F⟩
theorem lp1 {c : qK} {R : Type} {A0 : Type} {L B : Nat -> A0 -> R} (hL : ∀ (a0 : A0) (n : Nat), L (Nat.succ n) a0 = B n a0) (S : A0 -> St) (I : Nat -> A0 -> Prop) (n0 : Nat) (b0 : A0) {p : Nat -> A0 -> Prop}
  (round : ∀ n (a0 : A0), Me (L n0 b0) (B n a0) -> 1 <= n + 1 /\ I (n + 1) a0 -> p n a0) (hI : 1 <= n0 /\ I n0 b0 := by first | omega | (dsimp only; omega) | simp) (h0 : Wk σ (S b0) := by exact Xf (by simp)) (kk : ∀ n (a0 : A0), Bx (p n a0) -> @WI P (S a0) c (.nxt (fun σ' => @Nx σ' (Q1 L S I (L n0 b0) n)) k) := by (intro n_ a0_ z; simp; (repeat (with_reducible refine Go.Mo.sd ?_)); exact z.h)) : @Ov P σ c k := by
 refine Rt (ι := { s : Nat × A0 // Me (L n0 b0) (L s.1 s.2) /\ (1 <= s.1 /\ I s.1 s.2) }) (fun s => S s.1.2) (fun s => s.1.1) ⟨(n0, b0), ⟨rfl⟩, hI⟩ h0 ?_
 rintro ⟨⟨n1, a0⟩, e, j⟩
 obtain ⟨n, rfl⟩ : ∃ q, n1 = q + 1 := ⟨n1 - 1, by have := j.1; (try dsimp only at this); omega⟩
 refine BI (fun σ' hn => ?_) (kk n a0 ⟨round n a0 ⟨by have := e.h; (try dsimp only at this); rw [this, hL]⟩ j⟩)
 obtain ⟨c0, e2, j2, w2⟩ := hn
 exact ⟨⟨(n, c0), e2, j2⟩, Nat.lt_succ_self n, w2⟩
abbrev Q2 {R : Type} {A0 A1 : Type} (L : Nat -> A0 -> A1 -> R) (S : A0 -> A1 -> St) (I : Nat -> A0 -> A1 -> Prop) (t : R) (b : Nat) : NxI := ⟨fun τ => ∃ a0 a1, Me t (L b a0 a1) /\ (1 <= b /\ I b a0 a1) /\ Wk τ (S a0 a1)⟩
theorem nx2 {R : Type} {A0 A1 : Type} {L : Nat -> A0 -> A1 -> R} {S : A0 -> A1 -> St} {I : Nat -> A0 -> A1 -> Prop} {t : R} {b : Nat} {a0 : A0} {a1 : A1} (e : Me t (L b a0 a1)) (hI : 1 <= b /\ I b a0 a1 := by ((try dsimp only); first | omega | (simp at *; omega))) (hw : Wk σ (S a0 a1) := by exact Xf (by simp)) : @Nx σ (Q2 L S I t b) := ⟨a0, a1, e, hI, hw⟩
theorem ny2 {R : Type} {A0 A1 : Type} {L : Nat -> A0 -> A1 -> R} {S : A0 -> A1 -> St} {I : Nat -> A0 -> A1 -> Prop} {t : R} {b : Nat} {a0 : A0} {a1 : A1} {q : Prop} (F : q) (e : Me t (L b a0 a1)) (hI : 1 <= b /\ I b a0 a1 := by ((try dsimp only); first | omega | (simp at *; omega))) (kw : q -> Wk σ (S a0 a1) := by (intro F; exact Xf (by simp [F]))) : @Nx σ (Q2 L S I t b) := ⟨a0, a1, e, hI, kw F⟩
theorem lp2 {c : qK} {R : Type} {A0 A1 : Type} {L B : Nat -> A0 -> A1 -> R} (hL : ∀ (a0 : A0) (a1 : A1) (n : Nat), L (Nat.succ n) a0 a1 = B n a0 a1) (S : A0 -> A1 -> St) (I : Nat -> A0 -> A1 -> Prop) (n0 : Nat) (b0 : A0) (b1 : A1) {p : Nat -> A0 -> A1 -> Prop}
  (round : ∀ n (a0 : A0) (a1 : A1), Me (L n0 b0 b1) (B n a0 a1) -> 1 <= n + 1 /\ I (n + 1) a0 a1 -> p n a0 a1) (hI : 1 <= n0 /\ I n0 b0 b1 := by first | omega | (dsimp only; omega) | simp) (h0 : Wk σ (S b0 b1) := by exact Xf (by simp)) (kk : ∀ n (a0 : A0) (a1 : A1), Bx (p n a0 a1) -> @WI P (S a0 a1) c (.nxt (fun σ' => @Nx σ' (Q2 L S I (L n0 b0 b1) n)) k) := by (intro n_ a0_ a1_ z; simp; (repeat (with_reducible refine Go.Mo.sd ?_)); exact z.h)) : @Ov P σ c k := by
 refine Rt (ι := { s : Nat × A0 × A1 // Me (L n0 b0 b1) (L s.1 s.2.1 s.2.2) /\ (1 <= s.1 /\ I s.1 s.2.1 s.2.2) }) (fun s => S s.1.2.1 s.1.2.2) (fun s => s.1.1) ⟨(n0, b0, b1), ⟨rfl⟩, hI⟩ h0 ?_
 rintro ⟨⟨n1, a0, a1⟩, e, j⟩
 obtain ⟨n, rfl⟩ : ∃ q, n1 = q + 1 := ⟨n1 - 1, by have := j.1; (try dsimp only at this); omega⟩
 refine BI (fun σ' hn => ?_) (kk n a0 a1 ⟨round n a0 a1 ⟨by have := e.h; (try dsimp only at this); rw [this, hL]⟩ j⟩)
 obtain ⟨c0, c1, e2, j2, w2⟩ := hn
 exact ⟨⟨(n, c0, c1), e2, j2⟩, Nat.lt_succ_self n, w2⟩
abbrev Q3 {R : Type} {A0 A1 A2 : Type} (L : Nat -> A0 -> A1 -> A2 -> R) (S : A0 -> A1 -> A2 -> St) (I : Nat -> A0 -> A1 -> A2 -> Prop) (t : R) (b : Nat) : NxI := ⟨fun τ => ∃ a0 a1 a2, Me t (L b a0 a1 a2) /\ (1 <= b /\ I b a0 a1 a2) /\ Wk τ (S a0 a1 a2)⟩
theorem nx3 {R : Type} {A0 A1 A2 : Type} {L : Nat -> A0 -> A1 -> A2 -> R} {S : A0 -> A1 -> A2 -> St} {I : Nat -> A0 -> A1 -> A2 -> Prop} {t : R} {b : Nat} {a0 : A0} {a1 : A1} {a2 : A2} (e : Me t (L b a0 a1 a2)) (hI : 1 <= b /\ I b a0 a1 a2 := by ((try dsimp only); first | omega | (simp at *; omega))) (hw : Wk σ (S a0 a1 a2) := by exact Xf (by simp)) : @Nx σ (Q3 L S I t b) := ⟨a0, a1, a2, e, hI, hw⟩
theorem ny3 {R : Type} {A0 A1 A2 : Type} {L : Nat -> A0 -> A1 -> A2 -> R} {S : A0 -> A1 -> A2 -> St} {I : Nat -> A0 -> A1 -> A2 -> Prop} {t : R} {b : Nat} {a0 : A0} {a1 : A1} {a2 : A2} {q : Prop} (F : q) (e : Me t (L b a0 a1 a2)) (hI : 1 <= b /\ I b a0 a1 a2 := by ((try dsimp only); first | omega | (simp at *; omega))) (kw : q -> Wk σ (S a0 a1 a2) := by (intro F; exact Xf (by simp [F]))) : @Nx σ (Q3 L S I t b) := ⟨a0, a1, a2, e, hI, kw F⟩
theorem lp3 {c : qK} {R : Type} {A0 A1 A2 : Type} {L B : Nat -> A0 -> A1 -> A2 -> R} (hL : ∀ (a0 : A0) (a1 : A1) (a2 : A2) (n : Nat), L (Nat.succ n) a0 a1 a2 = B n a0 a1 a2) (S : A0 -> A1 -> A2 -> St) (I : Nat -> A0 -> A1 -> A2 -> Prop) (n0 : Nat) (b0 : A0) (b1 : A1) (b2 : A2) {p : Nat -> A0 -> A1 -> A2 -> Prop}
  (round : ∀ n (a0 : A0) (a1 : A1) (a2 : A2), Me (L n0 b0 b1 b2) (B n a0 a1 a2) -> 1 <= n + 1 /\ I (n + 1) a0 a1 a2 -> p n a0 a1 a2) (hI : 1 <= n0 /\ I n0 b0 b1 b2 := by first | omega | (dsimp only; omega) | simp) (h0 : Wk σ (S b0 b1 b2) := by exact Xf (by simp)) (kk : ∀ n (a0 : A0) (a1 : A1) (a2 : A2), Bx (p n a0 a1 a2) -> @WI P (S a0 a1 a2) c (.nxt (fun σ' => @Nx σ' (Q3 L S I (L n0 b0 b1 b2) n)) k) := by (intro n_ a0_ a1_ a2_ z; simp; (repeat (with_reducible refine Go.Mo.sd ?_)); exact z.h)) : @Ov P σ c k := by
 refine Rt (ι := { s : Nat × A0 × A1 × A2 // Me (L n0 b0 b1 b2) (L s.1 s.2.1 s.2.2.1 s.2.2.2) /\ (1 <= s.1 /\ I s.1 s.2.1 s.2.2.1 s.2.2.2) }) (fun s => S s.1.2.1 s.1.2.2.1 s.1.2.2.2) (fun s => s.1.1) ⟨(n0, b0, b1, b2), ⟨rfl⟩, hI⟩ h0 ?_
 rintro ⟨⟨n1, a0, a1, a2⟩, e, j⟩
 obtain ⟨n, rfl⟩ : ∃ q, n1 = q + 1 := ⟨n1 - 1, by have := j.1; (try dsimp only at this); omega⟩
 refine BI (fun σ' hn => ?_) (kk n a0 a1 a2 ⟨round n a0 a1 a2 ⟨by have := e.h; (try dsimp only at this); rw [this, hL]⟩ j⟩)
 obtain ⟨c0, c1, c2, e2, j2, w2⟩ := hn
 exact ⟨⟨(n, c0, c1, c2), e2, j2⟩, Nat.lt_succ_self n, w2⟩
abbrev Q4 {R : Type} {A0 A1 A2 A3 : Type} (L : Nat -> A0 -> A1 -> A2 -> A3 -> R) (S : A0 -> A1 -> A2 -> A3 -> St) (I : Nat -> A0 -> A1 -> A2 -> A3 -> Prop) (t : R) (b : Nat) : NxI := ⟨fun τ => ∃ a0 a1 a2 a3, Me t (L b a0 a1 a2 a3) /\ (1 <= b /\ I b a0 a1 a2 a3) /\ Wk τ (S a0 a1 a2 a3)⟩
theorem nx4 {R : Type} {A0 A1 A2 A3 : Type} {L : Nat -> A0 -> A1 -> A2 -> A3 -> R} {S : A0 -> A1 -> A2 -> A3 -> St} {I : Nat -> A0 -> A1 -> A2 -> A3 -> Prop} {t : R} {b : Nat} {a0 : A0} {a1 : A1} {a2 : A2} {a3 : A3} (e : Me t (L b a0 a1 a2 a3)) (hI : 1 <= b /\ I b a0 a1 a2 a3 := by ((try dsimp only); first | omega | (simp at *; omega))) (hw : Wk σ (S a0 a1 a2 a3) := by exact Xf (by simp)) : @Nx σ (Q4 L S I t b) := ⟨a0, a1, a2, a3, e, hI, hw⟩
theorem lp4 {c : qK} {R : Type} {A0 A1 A2 A3 : Type} {L B : Nat -> A0 -> A1 -> A2 -> A3 -> R} (hL : ∀ (a0 : A0) (a1 : A1) (a2 : A2) (a3 : A3) (n : Nat), L (Nat.succ n) a0 a1 a2 a3 = B n a0 a1 a2 a3) (S : A0 -> A1 -> A2 -> A3 -> St) (I : Nat -> A0 -> A1 -> A2 -> A3 -> Prop) (n0 : Nat) (b0 : A0) (b1 : A1) (b2 : A2) (b3 : A3) {p : Nat -> A0 -> A1 -> A2 -> A3 -> Prop}
  (round : ∀ n (a0 : A0) (a1 : A1) (a2 : A2) (a3 : A3), Me (L n0 b0 b1 b2 b3) (B n a0 a1 a2 a3) -> 1 <= n + 1 /\ I (n + 1) a0 a1 a2 a3 -> p n a0 a1 a2 a3) (hI : 1 <= n0 /\ I n0 b0 b1 b2 b3 := by first | omega | (dsimp only; omega) | simp) (h0 : Wk σ (S b0 b1 b2 b3) := by exact Xf (by simp)) (kk : ∀ n (a0 : A0) (a1 : A1) (a2 : A2) (a3 : A3), Bx (p n a0 a1 a2 a3) -> @WI P (S a0 a1 a2 a3) c (.nxt (fun σ' => @Nx σ' (Q4 L S I (L n0 b0 b1 b2 b3) n)) k) := by (intro n_ a0_ a1_ a2_ a3_ z; simp; (repeat (with_reducible refine Go.Mo.sd ?_)); exact z.h)) : @Ov P σ c k := by
 refine Rt (ι := { s : Nat × A0 × A1 × A2 × A3 // Me (L n0 b0 b1 b2 b3) (L s.1 s.2.1 s.2.2.1 s.2.2.2.1 s.2.2.2.2) /\ (1 <= s.1 /\ I s.1 s.2.1 s.2.2.1 s.2.2.2.1 s.2.2.2.2) }) (fun s => S s.1.2.1 s.1.2.2.1 s.1.2.2.2.1 s.1.2.2.2.2) (fun s => s.1.1) ⟨(n0, b0, b1, b2, b3), ⟨rfl⟩, hI⟩ h0 ?_
 rintro ⟨⟨n1, a0, a1, a2, a3⟩, e, j⟩
 obtain ⟨n, rfl⟩ : ∃ q, n1 = q + 1 := ⟨n1 - 1, by have := j.1; (try dsimp only at this); omega⟩
 refine BI (fun σ' hn => ?_) (kk n a0 a1 a2 a3 ⟨round n a0 a1 a2 a3 ⟨by have := e.h; (try dsimp only at this); rw [this, hL]⟩ j⟩)
 obtain ⟨c0, c1, c2, c3, e2, j2, w2⟩ := hn
 exact ⟨⟨(n, c0, c1, c2, c3), e2, j2⟩, Nat.lt_succ_self n, w2⟩
end
section
variable {P : Program} {σ : St} {k : Fr}
theorem Wd {A : Kx} {o : OpI} {l : zh} {d : Nat} {T : TypeId} {n : Nat} {parts : Array (Nat × Operand)} (h : @EI P (σ.new d (.one (.sref d 0 0 (Kw P σ (ZU P T) (P.cellsOf (ZU P T)) parts.toList 0).2.length)) [.lit (P.cellsOf (ZU P T)) (Kw P σ (ZU P T) (P.cellsOf (ZU P T)) parts.toList 0).2]) A l k) (lB : o.o.op = .buildSlice T n parts := by exact rfl) (hg : o.o.guard = none := by exact rfl) (hd : o.o.dst = some d := by exact rfl)
  (h1 : σ.fresh d = true /\ XK P T = true /\ QF P (ZU P T) = true /\ 0 < P.cellsOf (ZU P T) /\ parts.toList.length = n /\ n * P.cellsOf (ZU P T) <= 16777216 := by simp) (h2 : (Kw P σ (ZU P T) (P.cellsOf (ZU P T)) parts.toList 0).1 := by simp)
  (h3 : YS d (Kw P σ (ZU P T) (P.cellsOf (ZU P T)) parts.toList 0).2.flatten = false := by simp)
  : @SI P σ A o l k := mC lB hg hd h1 h2 h3 h
theorem Vl {A : Kx} {o : OpI} {l : zh} {d : Nat} {x y : Operand} {t : TypeId} {lC news : List (List D)} {l1 l2 : List (Nat × Nat)} {size : Nat} (h : @EI P ((σ.Zx (l1 ++ l2)).new d (.one (.sref d 0 0 (lC.length + news.length))) [.arr true size (lC ++ news)]) A l k) (lB : o.o.op = .call ⟨.builtin .append, #[x, y], #[t, t]⟩ := by exact rfl) (hg : o.o.guard = none := by exact rfl) (hd : o.o.dst = some d := by exact rfl) (ln : A.bar o.o = true := by exact rfl)
  (l7 : size = P.cellsOf (ZU P t) := by simp) (h1 : gOf (look P σ t x) = true /\ gOf (look P σ t y) = true /\ XK P t = true /\ QF P (ZU P t) = true /\ 0 < P.cellsOf (ZU P t) := by simp)
  (h2 : (W0 σ (unc (look P σ t x)) size).1 /\ (W0 σ (unc (look P σ t x)) size).2 = (lC, l1) := by simp) (h3 : (VV σ (unc (look P σ t y)) size).1 /\ (VV σ (unc (look P σ t y)) size).2 = (news, l2) := by simp)
  (h4 : (l1 ++ l2).Nodup /\ (σ.Zx (l1 ++ l2)).fresh d = true := by simp) (h5 : (lC.length + news.length) * P.bytesOf (ZU P t) <= 140737488355328 /\ lC.length + news.length <= 9223372036854775807 := by (simp; omega))
  : @SI P σ A o l k := n9 lB hg hd ln l7 h1 h2 h3 h4 h5 h
theorem Si {A : Kx} {o : OpI} {l : zh} {T : TypeId} {x y : Operand} {t j i size : Nat} {rows : List (List D)} {ds : List D} {L : List (Nat × Nat)} (h : @EI P ((σ.Zx L).Z7 t j (.arr true size (rows.set i ds))) A l k) (lB : o.o.op = .store T x y := by exact rfl) (hg : o.o.guard = none := by exact rfl) (hd : o.o.dst = none := by exact rfl) (ln : A.bar o.o = true := by exact rfl)
  (hx : unc (look P σ 0 x) = .one (.ptr t j i 0) := by simp) (ho : σ.ob t j = .arr true size rows := by simp) (hi : i < rows.length := by (simp; try omega)) (h1 : qU P T = true /\ gOf (look P σ 0 x) = true /\ gOf (look P σ T y) = true /\ (unc (look P σ T y)).flat = true := by simp)
  (h2 : Q7 σ (unc (look P σ T y)).cells = some ds := by simp) (h3 : Qe σ (unc (look P σ T y)).cells := by simp) (h4 : Yg (unc (look P σ T y)).cells = L := by simp) (h5 : L.Nodup /\ (t, j) ∉ L /\ (σ.Zx L).zl (At.isT t) = false := by simp) (h6 : ds.length = P.cellsOf T /\ P.cellsOf T = size := by simp)
  : @SI P σ A o l k := nz lB hg hd ln hx ho hi h1 h2 h3 h4 h5 h6 h
end
theorem wkS {σ σ' : St} (ρ : Ren) (F : List (Nat × Nat)) (la : VJ σ' ρ ρ = true := by exact rfl) (h : Pu σ ρ F σ σ' 0 := by simp) : Wk σ σ' := Xh ρ F la h
theorem drJ {P : Program} {id : Nat} {σ : St} {l : List Oper} {br : Oper -> Bool} {k : Fr} (bs : List Nat) (hm : P.follows .mixedOrders = true) (h : @EI P σ ⟨⟨l⟩, LA bs⟩ ⟨l⟩ k) (hdr : Vm.NR ⟨l⟩ (fun i => i) (LA bs) = true := by kernel_rfl) (lr : yZ ⟨l⟩ (fun i => i) σ = true := by kernel_rfl) : @DI P id σ ⟨⟨l⟩, br⟩ k := nQ bs hm hdr lr h
theorem rpS {g p : Prop} (h : p) (kk : Bx p -> g := by (intro z; (repeat (with_reducible refine Go.Mo.sd ?_)); exact z.h)) : g := kk ⟨h⟩
theorem rpG {g p : Prop} (h : p) (kk : Bx p -> g := by (intro z; (repeat (with_reducible refine Go.Mo.sdg ?_)); exact z.h)) : g := kk ⟨h⟩
theorem xs {p q : Prop} (u : q) (h : q -> p := by (intro u; simp (maxDischargeDepth := 12) [u])) : p := h u
@[simp] abbrev rI (x : Int) : List D := [.int .i64 x]
@[simp] abbrev rB (b : Bool) : List D := [.bool b]
@[simp] abbrev rS (s : ByteArray) : List D := [.str s]
@[simp] abbrev rL {α : Type} (n : Nat) (f : α -> List D) (l : List α) : List D := [.sl n (l.map f)]
end Go.Vm
