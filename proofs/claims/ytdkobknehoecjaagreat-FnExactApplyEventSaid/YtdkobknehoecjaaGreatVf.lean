/- An abstract machine GQ the model of Go, by value, and that it is sound: part Vf. No condition. -/
import Derived.Test.YtdkobknehoecjaaGreatVb
namespace Go.Vm
open Go.RowKit
def AU (P : Program) (σ : St) (c : Call) (f : FuncId) (own : Bool) (res : List (List D)) : Prop :=
 ∃ rows, Qp P σ c.args.toList c.argTypes.toList rows /\ Qz P f own rows res /\ (Yn P σ c.args.toList c.argTypes.toList = true \/ KR own res)
def Step (P : Program) (o : Oper) (d : Nat) (σ σ' : St) : Prop :=
 match o.op with
 | .alloc T => σ.fresh d = true /\ QF P T = true /\ ∃ row, j5 P 12 T = some row /\ σ' = σ.new d (.one (.bptr d 0)) [.box row]
 | .box T x => σ.fresh d = true /\ gOf (look P σ T x) = true /\ (unc (look P σ T x)).flat = true /\ YS d (unc (look P σ T x)).cells = false /\ σ' = σ.new d (.one (.bptr d 0)) [.box (unc (look P σ T x)).cells]
 | .buildSlice T n parts => σ.fresh d = true /\ XK P T = true /\ QF P (ZU P T) = true /\ 0 < P.cellsOf (ZU P T) /\ parts.toList.length = n /\ n * P.cellsOf (ZU P T) <= 16777216 /\
   ((∃ rows, Gx P σ (ZU P T) (P.cellsOf (ZU P T)) parts.toList 0 rows /\ σ' = σ.new d (.one (.sref d 0 0 rows.length)) [.arr false (P.cellsOf (ZU P T)) rows]) \/
   (∃ rows, NN P σ (ZU P T) (P.cellsOf (ZU P T)) parts.toList 0 rows /\ YS d rows.flatten = false /\ σ' = σ.new d (.one (.sref d 0 0 rows.length)) [.lit (P.cellsOf (ZU P T)) rows]))
 | .makeSlice T x y => x = y /\ σ.fresh d = true /\ XK P T = true /\ QF P (ZU P T) = true /\ 0 < P.cellsOf (ZU P T) /\
   ∃ q z zr k n, (q = true -> Mr z = true) /\ j5 P 12 (ZU P T) = some z /\ zD z = some zr /\ W5 P σ x k (n : Nat) /\ P.bytesOf (ZU P T) * n <= 281474976710656 /\ n <= 9223372036854775807 /\ σ' = σ.new d (.one (.sref d 0 0 n)) [.arr q (P.cellsOf (ZU P T)) (List.replicate n zr)]
 | .call c =>
  (match c.callee with
  | .builtin .append => ∃ x y t, c.args = #[x, y] /\ c.argTypes = #[t, t] /\ gOf (look P σ t x) = true /\ gOf (look P σ t y) = true /\ XK P t = true /\ QF P (ZU P t) = true /\ 0 < P.cellsOf (ZU P t) /\
    ∃ lC news σ1, Tu σ (unc (look P σ t x)) (P.cellsOf (ZU P t)) lC σ1 /\ xh σ (unc (look P σ t y)) (P.cellsOf (ZU P t)) news /\ σ1.fresh d = true /\
     (lC.length + news.length) * P.bytesOf (ZU P t) <= 140737488355328 /\ lC.length + news.length <= 9223372036854775807 /\ σ' = σ1.new d (.one (.sref d 0 0 (lC.length + news.length))) [.arr false (P.cellsOf (ZU P t)) (lC ++ news)]
  | .value (.func f) => (∃ own res, AU P σ c f own res /\ σ' = σ.put d (jj res)) \/ (∃ res, AU P σ c f true res /\ σ.fresh d = true /\ σ' = σ.new d (VS d res) (yq res.flatten)) \/
    (∃ rows res qs, Qp P σ c.args.toList c.argTypes.toList rows /\ Yv P f rows res /\ TH qs res.flatten /\ σ.fresh d = true /\ σ' = σ.new d (VS d res) (YO qs res.flatten))
  | _ => ∃ v, Yh P σ o.op o.type v /\ σ' = σ.put d v)
 | .convert S T x =>
   (∃ v, Yh P σ o.op o.type v /\ σ' = σ.put d v) \/
   (∃ l, gOf (look P σ S x) = true /\ Ss P S = true /\ Uc P T = true /\ xh σ (unc (look P σ S x)) 1 (KM l) /\ σ' = σ.put d (.one (.d (.str ⟨l.toArray⟩)))) \/
   (∃ s, gOf (look P σ S x) = true /\ Uc P S = true /\ Ss P T = true /\ unc (look P σ S x) = .one (.d (.str s)) /\ s.size <= 9223372036854775807 /\ σ' = σ.put d (.one (.d (.sl 1 (KM s.data.toList)))))
 | _ => ∃ v, Yh P σ o.op o.type v /\ σ' = σ.put d v
def y6 (P : Program) (σ : St) (T : TypeId) (x y : Operand) (σ' : St) : Prop :=
 qU P T = true /\ gOf (look P σ 0 x) = true /\ gOf (look P σ T y) = true /\ (unc (look P σ T y)).flat = true /\
  (match unc (look P σ 0 x) with
  | .one (.bptr t c) => ∃ cells, σ.ob t 0 = .box cells /\ (unc (look P σ T y)).cells.length = P.cellsOf T /\ c + P.cellsOf T <= cells.length /\ σ' = σ.Z7 t 0 (.box (place cells c (unc (look P σ T y)).cells))
  | .one (.ptr t j i c) => ∃ q size rows ds, σ.ob t j = .arr q size rows /\ i < rows.length /\ rowOf σ (unc (look P σ T y)).cells = some ds /\ Kz (unc (look P σ T y)).cells = true /\ ds.length = P.cellsOf T /\ c + P.cellsOf T <= size /\
    (q = true -> ds.all D.scalar = true /\ (cut (rows.getD i []) c (P.cellsOf T)).all D.scalar = true) /\ σ' = σ.Z7 t j (.arr q size (rows.set i (place (rows.getD i []) c ds)))
  | _ => False)
def jF (want : Bool) : V -> Option Bool
 | .one (.d (.bool b)) => some (b == want)
 | .cnd g (.one (.d (.bool b))) => some (g && (b == want))
 | .cnd false _ => some false
 | _ => none
def MK (P : Program) (o : Oper) (σ : St) (v : V) : Prop :=
 match o.op with
 | .call c =>
  (match c.callee with
  | .value (.func f) => ∃ own res, AU P σ c f own [res] /\ v = jj [res]
  | _ => ∃ v0, Yh P σ o.op o.type v0 /\ gOf v0 = true /\ v = unc v0 /\ v.flat = true)
 | _ => ∃ v0, Yh P σ o.op o.type v0 /\ gOf v0 = true /\ v = unc v0 /\ v.flat = true
def XS (P : Program) (ops : Array Oper) (o : Oper) (σ σ' : St) : Prop :=
 match o.guard with
 | none =>
  (match o.dst with
  | some d => Step P o d σ σ'
  | none => (match o.op with | .store T x y => y6 P σ T x y σ' | _ => False))
 | some (j, want) => ∃ dj d g v, (ops[j]?).bind (·.dst) = some dj /\ dj < σ.length /\ o.dst = some d /\ jF want (σ.get dj) = some g /\ (g = true -> MK P o σ v) /\ σ' = σ.put d (.cnd g v)
def Vv (P : Program) (ops : Array Oper) (o : Oper) (σ σ' : St) : Prop :=
 ∀ (T0 : CS) (B : Nat -> Prop) (a : Act) (w : World) (K : Act -> World -> Prop) (Q : Exit -> Act -> World -> Prop), Ku T0 B σ a w -> (∀ a' w', Ku T0 B σ' a' w' -> Y7 B w w' -> K a' w') ->
  if Region.wanted o (yielded ops a.tmps) then o.wp P a w K Q else K (a.put o.dst undef) w
def JB (σ : St) (d : Nat) : Bool := match σ[d]? with | some (.any, []) => true | some (.one (.d _), []) => true | _ => false
def Px (o : Oper) (σ σ' : St) : Prop := ∀ d, o.dst ≠ some d -> JB σ d = true -> JB σ' d = true
def OO (o : Oper) : Bool := match o.op with | .store _ _ _ => true | _ => false
def xA (d : Nat) : Operand -> Bool
 | .tmp t => t == d
 | _ => false
def Wh (o : Oper) (d : Nat) : Bool := match o.op with | .store _ p q => !xA d p && !xA d q | _ => false
def Mg : V -> Bool
 | .any => true
 | .one (.d _) => true
 | _ => false
def St.JN : St -> List (Nat × V) -> St
 | σ, [] => σ
 | σ, p :: l => St.JN (σ.put p.1 p.2) l
def n7 (P : Program) (ops : Array Oper) (o : Oper) (σ σ' : St) : Prop :=
 (σ'.length = σ.length /\ ∀ u, σ'.get u = σ.get u) /\ (∀ l : List (Nat × V), (∀ p ∈ l, Wh o p.1 = true /\ Mg p.2 = true) -> Vv P ops o (σ.JN l) (σ'.JN l) /\ Px o (σ.JN l) (σ'.JN l)) /\ ∀ t cells, σ.ob t 0 = .box cells -> σ'.ob t 0 = .box cells
def Sj (o : Oper) : Bool := match o.op with | .call ⟨.builtin .append, _, _⟩ => true | _ => false
theorem CE {o : Oper} (h : OO o = true) : Sj o = false := by
 unfold OO at h
 split at h
 ·rename_i lB; simp [Sj, lB]
 ·cases h
def Pf (o : Oper) (d : Nat) : Bool := !(o.op.operands.toList.any (xA d))
def nS (P : Program) (ops : Array Oper) (o : Oper) (σ σ' : St) : Prop :=
 ∃ d, o.dst = some d /\ σ'.length = σ.length /\ (∀ t, t ≠ d -> σ'.get t = σ.get t /\ (σ.get t).ref d = false) /\ (∀ t j cells, t ≠ d -> σ'.ob t j = .box cells -> σ.ob t j = .box cells /\ YS d cells = false) /\
  (∀ t j q s rows, t ≠ d -> σ'.ob t j = .arr q s rows -> ∃ lF, σ.ob t j = .arr q s lF) /\
  ∀ l : List (Nat × V), (∀ p ∈ l, p.1 ≠ d /\ Pf o p.1 = true /\ p.2.ref d = false) -> Vv P ops o (σ.JN l) (σ'.JN l) /\ Px o (σ.JN l) (σ'.JN l)
def yB (P : Program) (ops : Array Oper) (bar : Oper -> Bool) (o : Oper) (σ σ' : St) : Prop := XS P ops o σ σ' \/ (bar o = true /\ Vv P ops o σ σ' /\ Px o σ σ' /\ (OO o = true -> n7 P ops o σ σ') /\ (Sj o = true -> nS P ops o σ σ'))
def Cd (P : Program) (ops : Array Oper) (bar : Oper -> Bool) : List Oper -> St -> (St -> Prop) -> Prop
 | [], σ, Q => Q σ
 | o :: rest, σ, Q => ∃ σ', yB P ops bar o σ σ' /\ Cd P ops bar rest σ' Q
section
variable {P : Program} {T0 : CS} {B : Nat -> Prop} {σ : St} {a : Act} {w w' : World} {X X' : Nat -> Prop} {h : Nat -> Nat -> Hd}
theorem P9 (d : Nat) : ∀ (n : Nat) (t : TypeId) (row : List At), j5 P n t = some row -> YS d row = false := by
 intro n
 induction n with
 | zero => intro t row hr; simp [j5] at hr
 | succ n ih =>
  intro t row hr
  have aX : ∀ (rs : List (List At)), (∀ r ∈ rs, YS d r = false) -> YS d rs.flatten = false := by
   intro rs gi
   have app : ∀ (xs ys : List At), YS d xs = false -> YS d ys = false -> YS d (xs ++ ys) = false := by
    intro xs ys hx hy
    induction xs with
    | nil => exact hy
    | cons x xs cH => simp only [List.cons_append, YS, Bool.or_eq_false_iff] at hx ⊢; exact ⟨hx.1, cH hx.2⟩
   induction rs with
   | nil => rfl
   | cons r rs cH => rw [List.flatten_cons]; exact app _ _ (gi r (by simp)) (cH (fun r hr => gi r (by simp [hr])))
  rw [j5] at hr
  split at hr
  ·cases hr; rfl
  ·cases hr; rfl
  ·cases hr; rfl
  ·cases hr; rfl
  ·rename_i fs _
   simp only [Option.map_eq_some_iff] at hr
   obtain ⟨rs, gi, rfl⟩ := hr
   refine aX rs ?_
   have : ∀ (l : List Field) (rs : List (List At)), l.mapM (fun f => j5 P n f.type) = some rs -> ∀ r ∈ rs, YS d r = false := by
    intro l
    induction l with
    | nil => intro rs hh r hr; simp at hh; subst hh; cases hr
    | cons f l cH =>
     intro rs hh r hr
     simp only [List.mapM_cons, Option.bind_eq_bind, Option.bind_eq_some_iff] at hh
     obtain ⟨r0, g4, bm, bM, hh⟩ := hh
     simp at hh; subst hh
     rcases List.mem_cons.1 hr with rfl | hr
     ·exact ih f.type _ g4
     ·exact cH bm bM r hr
   exact this fs.toList rs gi
  ·simp only [Option.map_eq_some_iff] at hr
   obtain ⟨r0, g4, rfl⟩ := hr
   exact aX _ (fun r hr => by rw [List.eq_of_mem_replicate hr]; exact ih _ _ g4)
  ·cases hr
theorem Rf {o : Oper} {d : Nat} {v : V} (r : Rel T0 B σ a w X h) (hd : o.dst = some d) (hex : ∃ val, (execOp a.eval o).run P w = .ok (.value val) w /\ JD (Tof T0 X) h σ.ob w v val)
  {K : Act -> World -> Prop} {Q : Exit -> Act -> World -> Prop} (hK : ∀ a' w', Ku T0 B (σ.put d v) a' w' -> Y7 B w w' -> K a' w') : o.wp P a w K Q := by
 obtain ⟨val, lT, hv⟩ := hex
 unfold Oper.wp
 rw [lT, Oper.upon_value, hd]
 exact hK _ _ ⟨X, h, r.put d v val hv⟩ (Y7.refl _ _)
theorem wh (r : Rel T0 B σ a w X h) {o : Oper} {d : Nat} {σ' : St} (hd : o.dst = some d) (hs : Step P o d σ σ') {K : Act -> World -> Prop} {Q : Exit -> Act -> World -> Prop}
  (hK : ∀ a' w', Ku T0 B σ' a' w' -> Y7 B w w' -> K a' w') : o.wp P a w K Q := by
 have iW : (∃ v, Yh P σ o.op o.type v /\ σ' = σ.put d v) -> o.wp P a w K Q := by
  rintro ⟨v, hv, rfl⟩
  exact Rf r hd (LS r hv) hK
 unfold Step at hs
 split at hs
 ·rename_i T lB
  obtain ⟨hf, hz, row, lX, rfl⟩ := hs
  exact A8 r lB hd hf hz lX (P9 d _ _ _ lX) hK
 ·rename_i T x lB
  obtain ⟨hf, hg, iV, hr, rfl⟩ := hs
  exact uE r lB hd hf hg iV hr hK
 ·rename_i T n parts lB
  obtain ⟨hf, h1, h2, h3, h4, h5, ⟨rows, h6, rfl⟩ | ⟨rows, h6, h7, rfl⟩⟩ := hs
  ·exact N0 r lB hd hf h1 h2 h3 h4 h5 h6 hK
  ·exact Sx r lB hd hf h1 h2 h3 h4 h5 h6 h7 hK
 ·rename_i T x y lB
  obtain ⟨rfl, hf, h1, h2, h3, q, z, zr, k, n, hq, h4, h5, h6, h7, h8, rfl⟩ := hs
  cases q with
  | false => exact L6 r lB hd hf h1 h2 h4 h5 h3 h6 h7 h8 hK
  | true => exact I7 r lB hd hf h1 h2 h4 h5 (hq rfl) h3 h6 h7 h8 hK
 ·rename_i c lB
  split at hs
  ·rename_i hc
   obtain ⟨x, y, t, ha, dn, h1, h2, h3, h4, h5, lC, news, σ1, h6, h7, h8, h9, fg, rfl⟩ := hs
   refine CP r (t := t) (x := x) (y := y) ?_ hd h1 h2 h3 h4 h5 h6 h7 h8 h9 fg hK
   rw [lB]
   obtain ⟨cc, ca, ct⟩ := c
   simp only at hc ha dn
   rw [hc, ha, dn]
  ·rename_i f hc
   rcases hs with ⟨own, res, ⟨rows, ha, hs, l3⟩, rfl⟩ | ⟨res, ⟨rows, ha, hs, l3⟩, hf, rfl⟩ | ⟨rows, res, qs, ha, hs, hq, hf, rfl⟩
   ·rcases l3 with l3 | l3
    ·exact Wm r lB hc hd ha true (fun _ => l3) (fun hh => by cases hh) hs hK
    ·exact Wm r lB hc hd ha false (fun hh => by cases hh) (fun _ => l3) hs hK
   ·rcases l3 with l3 | l3
    ·exact Pc r lB hc hd hf ha true (fun _ => l3) (fun hh => by cases hh) hs hK
    ·exact Pc r lB hc hd hf ha false (fun hh => by cases hh) (fun _ => l3) hs hK
   ·exact AI r qs lB hc hd hf ha hs hq hK
  ·exact iW hs
 ·rename_i S T x lB
  rcases hs with hs | ⟨l, h1, h2, h3, h4, rfl⟩ | ⟨s, h1, h2, h3, h4, h5, rfl⟩
  ·exact iW hs
  ·exact Rf r hd (PL r lB h1 h2 h3 h4) hK
  ·exact PM r lB hd h1 h2 h3 h4 h5 hK
 ·exact iW hs
theorem BA (r : Rel T0 B σ a w X h) {o : Oper} {T : TypeId} {x y : Operand} {σ' : St} (lB : o.op = .store T x y) (hd : o.dst = none) (hs : y6 P σ T x y σ') {K : Act -> World -> Prop} {Q : Exit -> Act -> World -> Prop}
  (hK : ∀ a' w', Ku T0 B σ' a' w' -> Y7 B w w' -> K a' w') : o.wp P a w K Q := by
 obtain ⟨ht, gw, gx, iV, hs⟩ := hs
 split at hs
 ·rename_i t c hx
  obtain ⟨cells, ho, hl, hle, rfl⟩ := hs
  exact Hb r lB hd ht gw gx hx ho iV hl hle hK
 ·rename_i t j i c hx
  obtain ⟨q, size, rows, ds, ho, hi, eH, lZ, hl, hle, hq, rfl⟩ := hs
  refine Gq r lB hd ht gw gx hx ho hi iV eH lZ hl hle (fun hh => ⟨fun d lQ => ?_, fun k d hk lQ => ?_⟩) hK
  ·exact List.all_eq_true.1 (hq hh).1 d lQ
  ·refine List.all_eq_true.1 (hq hh).2 d (List.mem_of_getElem? (i := k) ?_)
   simp only [cut, List.getElem?_take, if_pos hk, List.getElem?_drop]; exact lQ
 ·exact hs.elim
theorem Mw {T : CS} {ob : Nat -> Nat -> Ob} {v : V} {val : Value} (hf : (unc v).flat = true) (hv : JD T h ob w (unc v) val) : Ks T h ob w (unc v) val := by
 cases hu : unc v with
 | one x => rw [hu] at hv; exact hv
 | agg xs => rw [hu] at hv; exact hv
 | any => rw [hu] at hf; cases hf
 | tup xs => rw [hu] at hf; cases hf
 | cnd g x => rw [hu] at hf; cases hf
 | fix u x => rw [hu] at hf; cases hf
theorem Bf (r : Rel T0 B σ a w X h) {ops : Array Oper} {o : Oper} {j dj : Nat} {want g : Bool} (dm : o.guard = some (j, want)) (ig : (ops[j]?).bind (·.dst) = some dj) (lN : dj < σ.length) (hg : jF want (σ.get dj) = some g) :
  Region.wanted o (yielded ops a.tmps) = g := by
 have l7 : dj < a.tmps.size := by rw [r.size]; exact lN
 have hv := r.slot dj lN
 have aY : a.tmps.getD dj undef = a.tmps[dj] := by simp [l7]
 rw [aY] at hv
 have hy : yielded ops a.tmps j = (match a.tmps[dj] with | .bool b => some b | _ => none) := by
  unfold yielded
  rw [ig]
  simp only [Option.bind_some, Array.getElem?_eq_getElem l7]
  cases a.tmps[dj] <;> rfl
 simp only [Region.wanted, dm, hy]
 unfold jF at hg
 split at hg
 ·rename_i b aQ
  rw [aQ] at hv
  rw [jy hv]
  cases hg
  cases b <;> cases want <;> rfl
 ·rename_i g0 b aQ
  rw [aQ] at hv
  cases hg
  cases g0 with
  | true =>
   rw [jy (hv.1 rfl)]
   cases b <;> cases want <;> rfl
  | false =>
   rw [hv.2 rfl]
   simp [undef]
 ·rename_i aQ
  rw [aQ] at hv
  cases hg
  rw [hv.2 rfl]
  simp [undef]
 ·cases hg
theorem B8 (r : Rel T0 B σ a w X h) {ops : Array Oper} {o : Oper} {σ' : St} (hs : XS P ops o σ σ') {K : Act -> World -> Prop} {Q : Exit -> Act -> World -> Prop}
  (hK : ∀ a' w', Ku T0 B σ' a' w' -> Y7 B w w' -> K a' w') : if Region.wanted o (yielded ops a.tmps) then o.wp P a w K Q else K (a.put o.dst undef) w := by
 unfold XS at hs
 split at hs
 ·rename_i hg
  have hw : Region.wanted o (yielded ops a.tmps) = true := by simp [Region.wanted, hg]
  rw [if_pos hw]
  split at hs
  ·rename_i d hd; exact wh r hd hs hK
  ·rename_i hd
   split at hs
   ·rename_i T x y lB; exact BA r lB hd hs hK
   ·exact hs.elim
 ·rename_i j want hg
  obtain ⟨dj, d, g, v, ig, lN, hd, iu, hs, rfl⟩ := hs
  rw [Bf r hg ig lN iu]
  cases g with
  | false =>
   simp only [Bool.false_eq_true, if_false]
   rw [hd]
   exact hK _ _ ⟨X, h, r.put d _ _ ⟨(fun hh => by cases hh), fun _ => rfl⟩⟩ (Y7.refl _ _)
  | true =>
   simp only [if_true]
   have iD := hs rfl
   clear hs
   have iW : (∃ v0, Yh P σ o.op o.type v0 /\ gOf v0 = true /\ v = unc v0 /\ v.flat = true) -> o.wp P a w K Q := by
    rintro ⟨v0, ef, bp, rfl, iV⟩
    obtain ⟨val, lT, hv⟩ := LS r ef
    refine Rf (v := .cnd true (unc v0)) r hd ⟨val, lT, ⟨fun _ => Mw iV (hv.unc bp), fun hh => by cases hh⟩⟩ hK
   unfold MK at iD
   split at iD
   ·rename_i c lB
    split at iD
    ·rename_i f hc
     obtain ⟨own, res, ⟨rows, ha, hs, l3⟩, rfl⟩ := iD
     have fin : ∀ a' w', Ku T0 B (σ.put d (jj [res])) a' w' -> Y7 B w w' -> K a' w' := by
      rintro a' w' ⟨X', h', r'⟩ hb
      refine hK a' w' ⟨X', h', ?_⟩ hb
      refine ⟨by rw [r'.size, St.JU, St.JU], r'.defers, r'.hB, r'.hX, r'.hT, fun t ht => ?_, fun t j => ?_, fun t j b => ?_, fun t j b => ?_, fun t j t' j' b => ?_⟩
      ·rw [St.JU] at ht
       have h0 := r'.slot t (by rw [St.JU]; exact ht)
       rw [St.JP] at h0 ⊢
       rw [St.yS] at h0 ⊢
       by_cases hh : t = d /\ d < σ.length
       ·rw [if_pos hh] at h0 ⊢
        refine ⟨fun _ => ?_, fun hh => by cases hh⟩
        have iV : (unc (vOf (res.map At.d))).flat = true := by
         match res.map At.d with
         | [] => rfl
         | [x] => rfl
         | x :: y :: xs => rfl
        have hu : unc (vOf (res.map At.d)) = vOf (res.map At.d) := by
         match res.map At.d with
         | [] => rfl
         | [x] => rfl
         | x :: y :: xs => rfl
        have := Mw (v := vOf (res.map At.d)) iV (by rw [hu]; exact h0)
        rw [hu] at this; exact this
       ·rw [if_neg hh] at h0 ⊢; exact h0
      ·have := r'.obj t j; rw [St.JP] at this ⊢; exact this
      ·have := r'.ub t j b; rw [St.JP] at this ⊢; exact this
      ·have := r'.own t j b; rw [St.JP] at this ⊢; exact this
      ·have := r'.inj t j t' j' b; rw [St.JP] at this ⊢; exact this
     rcases l3 with l3 | l3
     ·exact Wm r lB hc hd ha true (fun _ => l3) (fun hh => by cases hh) hs fin
     ·exact Wm r lB hc hd ha false (fun hh => by cases hh) (fun _ => l3) hs fin
    ·exact iW iD
   ·exact iW iD
theorem LQ {ops : Array Oper} {bar : Oper -> Bool} {o : Oper} {σ' : St} (hs : yB P ops bar o σ σ') : Vv P ops o σ σ' := by
 rcases hs with hs | hs
 ·rintro T0 B a w K Q ⟨X, h, r⟩ hK
  exact B8 r hs hK
 ·exact hs.2.1
theorem GZ {ops : Array Oper} {bar : Oper -> Bool} : ∀ {l : List Oper} {σ : St} {a : Act} {w : World} {Q : St -> Prop} {Q' : Exit -> Act -> World -> Prop}, Cd P ops bar l σ Q -> Ku T0 B σ a w ->
  (∀ σ' a' w', Q σ' -> Ku T0 B σ' a' w' -> Y7 B w w' -> Q' .normal a' w') -> wpList P ops Q' l a w
 | [], σ, a, w, Q, Q', hr, gG, hK => hK σ a w hr gG (Y7.refl _ _)
 | o :: l, σ, a, w, Q, Q', ⟨σ', hs, hr⟩, gG, hK => by
  refine wpList_step fun K hKK => ?_
  exact LQ hs _ _ _ _ _ _ gG (fun a' w' gG hb => hKK _ _ (GZ hr gG (fun σ2 a2 w2 hq ep iJ => hK σ2 a2 w2 hq ep (hb.trans iJ))))
end
end Go.Vm
namespace Go.Vm
open Go.RowKit
def AWP (P : Program) (c : Code) (Q : Exit -> St -> Prop) (σ : St) : Prop :=
 ∀ (T0 : CS) (B : Nat -> Prop) (a : Act) (w : World), Ku T0 B σ a w -> c.wp P (fun e a' w' => ∃ σ', Q e σ' /\ Ku T0 B σ' a' w' /\ Y7 B w w') a w
def Wk (σ σ' : St) : Prop := ∀ (T0 : CS) (B : Nat -> Prop) (a : Act) (w : World), Ku T0 B σ a w -> Ku T0 B σ' a w
def G8 (next : St -> Prop) (Q : Exit -> St -> Prop) : Exit -> St -> Prop
 | .normal, σ => next σ
 | e, σ => Q e σ
def RW (id : Nat) (Q : Exit -> St -> Prop) : Exit -> St -> Prop
 | .exit cx, σ => if cx = id then Q .normal σ else Q (.exit cx) σ
 | e, σ => Q e σ
section
variable {P : Program} {Q : Exit -> St -> Prop} {σ : St}
theorem Wk.refl (σ : St) : Wk σ σ := fun _ _ _ _ h => h
theorem Wk.trans {σ σ' σ'' : St} (h : Wk σ σ') (k : Wk σ' σ'') : Wk σ σ'' := fun _ _ _ _ r => k _ _ _ _ (h _ _ _ _ r)
theorem B7 {c : Code} {Q' : Exit -> St -> Prop} (h : ∀ e σ, Q e σ -> Q' e σ) (k : AWP P c Q σ) : AWP P c Q' σ :=
 fun T0 B a w r => wp_mono (k T0 B a w r) fun e _ _ ⟨σ', hq, hr⟩ => ⟨σ', h e σ' hq, hr⟩
theorem tz (h : Q .normal σ) : AWP P .skip Q σ := fun _ B _ w r => wp_skip ⟨σ, h, r, Y7.refl B w⟩
theorem tv {id : Nat} (h : Q (.exit id) σ) : AWP P (.exit id) Q σ := fun _ B _ w r => wp_exit ⟨σ, h, r, Y7.refl B w⟩
theorem rl (h : Q .ret σ) : AWP P .ret Q σ := fun _ B _ w r => wp_ret ⟨σ, h, r, Y7.refl B w⟩
theorem vF {id : Nat} {l : List Oper} {bar : Oper -> Bool} (h : Cd P l.toArray bar l σ (Q .normal)) : AWP P (.region id l.toArray false) Q σ :=
 fun _ _ _ _ r => wp_region_lit (GZ h r fun σ' _ _ hq hr hb => ⟨σ', hq, hr, hb⟩)
theorem rZ {x y : Code} (h : AWP P x (G8 (AWP P y Q) Q) σ) : AWP P (.seq x y) Q σ := by
 intro T0 B a w r
 refine wp_seq (wp_mono (h T0 B a w r) ?_)
 rintro e a' w' ⟨σ', hq, hr, hb⟩
 cases e with
 | normal => exact wp_mono (hq T0 B a' w' hr) fun e _ _ ⟨σ2, h1, h2, h3⟩ => ⟨σ2, h1, h2, hb.trans h3⟩
 | exit id => exact ⟨σ', hq, hr, hb⟩
 | goto l => exact ⟨σ', hq, hr, hb⟩
 | ret => exact ⟨σ', hq, hr, hb⟩
 | panic ch => exact ⟨σ', hq, hr, hb⟩
 | outgrown => exact ⟨σ', hq, hr, hb⟩
theorem tZ {c : Operand} {x y : Code} {b : Bool} (hc : look P σ 0 c = .one (.d (.bool b))) (ht : b = true -> AWP P x Q σ) (hf : b = false -> AWP P y Q σ) : AWP P (.cond c x y) Q σ := by
 intro T0 B a w r
 obtain ⟨X, h, rr⟩ := r
 have hv := rr.look (P := P) 0 c
 rw [hc] at hv
 exact wp_cond_split (jy hv) (fun hb => ht hb T0 B a w ⟨X, h, rr⟩) (fun hb => hf hb T0 B a w ⟨X, h, rr⟩)
theorem vt {id : Nat} {c : Code} (h : AWP P c (RW id Q) σ) : AWP P (.block id c) Q σ := by
 intro T0 B a w r
 refine wp_block (wp_mono (h T0 B a w r) ?_)
 rintro e a' w' ⟨σ', hq, hr, hb⟩
 cases e with
 | exit cx =>
  simp only [RW] at hq
  simp only [Exit.inBlock]
  split at hq
  ·rename_i hh; rw [if_pos hh]; exact ⟨σ', hq, hr, hb⟩
  ·rename_i hh; rw [if_neg hh]; exact ⟨σ', hq, hr, hb⟩
 | normal => exact ⟨σ', hq, hr, hb⟩
 | goto l => exact ⟨σ', hq, hr, hb⟩
 | ret => exact ⟨σ', hq, hr, hb⟩
 | panic ch => exact ⟨σ', hq, hr, hb⟩
 | outgrown => exact ⟨σ', hq, hr, hb⟩
theorem Rt {c : Code} {ι : Type} (S : ι -> St) (μ : ι -> Nat) (i0 : ι) (h0 : Wk σ (S i0))
  (round : ∀ i, AWP P c (G8 (fun σ' => ∃ i', μ i' < μ i /\ Wk σ' (S i')) Q) (S i)) : AWP P (.loop c) Q σ := by
 intro T0 B a w r b k cs
 have key : ∀ n i a w, μ i = n -> Ku T0 B (S i) a w ->
   ∃ e a' w', (∃ σ', Q e σ' /\ Ku T0 B σ' a' w' /\ Y7 B w w') /\ Arrives P (lone (b.at a (.code c :: .inLoop c :: k)) cs w) b k cs e a' w' := by
  intro n
  induction n using Nat.strongRecOn with
  | _ n ih =>
   intro i a w hn hr
   obtain ⟨e, a₁, w₁, ⟨σ₁, hq, bq, bt⟩, iQ⟩ := round i T0 B a w hr b (.inLoop c :: k) cs
   cases e with
   | normal =>
    obtain ⟨i', lN, hwk⟩ := hq
    obtain ⟨e₂, a₂, w₂, ⟨σ₂, hq₂, hr₂, hb₂⟩, aR⟩ := ih (μ i') (hn ▸ lN) i' a₁ w₁ rfl (hwk T0 B a₁ w₁ bq)
    exact ⟨e₂, a₂, w₂, ⟨σ₂, hq₂, hr₂, bt.trans hb₂⟩, .of_steps (Steps.trans iQ (.one step_inLoop)) aR⟩
   | exit id => exact ⟨_, a₁, w₁, ⟨σ₁, hq, bq, bt⟩, .pass (x := .inLoop c) rfl (fun _ _ => .inl (by simp)) iQ⟩
   | goto l => exact ⟨_, a₁, w₁, ⟨σ₁, hq, bq, bt⟩, .pass (x := .inLoop c) rfl (fun _ _ => .inl (by simp)) iQ⟩
   | ret => exact ⟨_, a₁, w₁, ⟨σ₁, hq, bq, bt⟩, .pass (x := .inLoop c) rfl (fun _ _ => .inl (by simp)) iQ⟩
   | panic ch => exact ⟨_, a₁, w₁, ⟨σ₁, hq, bq, bt⟩, .pass (x := .inLoop c) rfl (fun _ _ => .inl (by simp)) iQ⟩
   | outgrown => exact ⟨_, a₁, w₁, ⟨σ₁, hq, bq, bt⟩, .pass (x := .inLoop c) rfl (fun _ _ => .inl (by simp)) iQ⟩
 obtain ⟨e, a', w', hq, iQ⟩ := key _ i0 a w rfl (h0 T0 B a w r)
 exact ⟨e, a', w', hq, .of_steps (.one step_loop) iQ⟩
end
/-! ### entering a function, and leaving it -/
def Nt : List (List D) -> St
 | [] => []
 | r :: rs => (vOf (r.map .d), []) :: Nt rs
def WQ (n : Nat) (args : List (List D)) : St := Nt args ++ List.replicate (n - args.length) (V.any, [])
def GW (P : Program) (σ : St) : ResultVar -> List At -> Prop
 | .tmp t, xs => (σ.get t = vOf xs) /\ t < σ.length
 | .cell t T, xs => ∃ u c cells, σ.get t = .one (.bptr u c) /\ σ.ob u 0 = .box cells /\ qU P T = true /\ TQ P T = true /\ P.cellsOf T ≠ 1 /\ c + P.cellsOf T <= cells.length /\ xs = cut cells c (P.cellsOf T)
def OG (P : Program) (σ : St) : List ResultVar -> List (List At) -> Prop
 | [], iT => iT = []
 | r :: rs, iT => ∃ xs rest, GW P σ r xs /\ OG P σ rs rest /\ iT = xs :: rest
def TW (σ : St) : List (List At) -> Option (List (List D))
 | [] => some []
 | xs :: rest => (match rowOf σ xs, TW σ rest with | some r, some rs => some (r :: rs) | _, _ => none)
def je (σ : St) : At -> Option D
 | .d (.sl _ _) => none
 | .d x => some x
 | .nil s => some (.sl s [])
 | .sref t j lo len => (match σ.ob t j with | .arr false size rows => if lo = 0 /\ len = rows.length then some (.sl size rows) else none | _ => none)
 | _ => none
def ownRow (σ : St) : List At -> Option (List D)
 | [] => some []
 | x :: xs => (match je σ x, ownRow σ xs with | some d, some ds => some (d :: ds) | _, _ => none)
def UJ (σ : St) : List (List At) -> Option (List (List D))
 | [] => some []
 | xs :: rest => (match ownRow σ xs, UJ σ rest with | some r, some rs => some (r :: rs) | _, _ => none)
def AM (P : Program) (fn : Func) (own : Bool) (res : List (List D)) (e : Exit) (σ : St) : Prop :=
 (e = .ret \/ e = .normal) /\ ∃ iT, OG P σ fn.results.toList iT /\ (if own then UJ σ iT = some res /\ (Yg iT.flatten).Nodup else TW σ iT = some res)
def uX (P : Program) (fn : Func) (res : List (List D)) (e : Exit) (σ : St) : Prop :=
 (e = .ret \/ e = .normal) /\ ∃ iT, OG P σ fn.results.toList iT /\ zd σ iT = some res /\ Kk σ iT /\ (Yg iT.flatten).Nodup
end Go.Vm
namespace Go.Vm
open Go.RowKit
section
variable {P : Program} {T0 : CS} {B : Nat -> Prop} {σ : St} {a : Act} {w w' : World} {X X' : Nat -> Prop} {h : Nat -> Nat -> Hd}
theorem Rl : ∀ (args : List (List D)) (t : Nat), (Nt args)[t]? = (args[t]?).map fun r => (vOf (r.map .d), [])
 | [], t => by simp [Nt]
 | r :: rs, 0 => by simp [Nt]
 | r :: rs, t + 1 => by simpa [Nt] using Rl rs t
theorem KY (args : List (List D)) : (Nt args).length = args.length := by
 induction args with
 | nil => rfl
 | cons r rs ih => simp [Nt, ih]
theorem Ak {T : CS} {n : Nat} {args : List (List D)} {lu : List Value} (hT : ∀ b k, T b k -> b < w.heap.size) (ha : YA (fun v row => ∃ cs, Kr v cs /\ YA (Rd T w) cs row) lu args) :
  Ku T (fun b => b < w.heap.size) (WQ n args) { tmps := lu.toArray ++ Array.replicate (n - lu.toArray.size) undef, defers := [] } w := by
 have hl := ha.length
 refine ⟨fun _ => False, fun _ _ => Hd.of undef, ?_⟩
 have lV : ∀ t j, (WQ n args).ob t j = .none := by
  intro t j
  unfold St.ob WQ
  rcases Nat.lt_or_ge t args.length with h | h
  ·rw [List.getElem?_append_left (by rw [KY]; exact h), Rl, List.getElem?_eq_getElem h]
   simp [Yr]
  ·rw [List.getElem?_append_right (by rw [KY]; exact h), List.getElem?_replicate]
   split
   ·rename_i e he
    split at he
    ·cases he; simp [Yr]
    ·cases he
   ·rfl
 have c9 : ∀ b k v, T b k -> w.cell? ⟨b, k, none⟩ = some v -> w.cell? ⟨b, k, none⟩ = some v /\ Tof T (fun _ => False) b k := fun b k v hb hc => ⟨hc, .inl hb⟩
 refine ⟨by simp [WQ, KY, hl], rfl, (fun b hb => hb), (fun b hb => hb.elim), hT, fun t ht => ?_, fun t j => by rw [lV]; trivial, fun t j b lD => absurd (lV t j) lD, fun t j b lD => absurd (lV t j) lD, fun t j t' j' b lD => absurd (lV t j) lD⟩
 unfold St.get WQ
 rcases Nat.lt_or_ge t args.length with lN | fb
 ·rw [List.getElem?_append_left (by rw [KY]; exact lN), Rl, List.getElem?_eq_getElem lN]
  obtain ⟨v, hv, cs, hf, lE⟩ := ha.get' t args[t] (List.getElem?_eq_getElem lN)
  have fA : (lu.toArray ++ Array.replicate (n - lu.toArray.size) undef).getD t undef = v := by
   rw [Array.getD_eq_getD_getElem?, Array.getElem?_append_left (by simp; omega)]
   simp [hv]
  simp only [fA]
  exact (Nk hf (Ma (lE.imp fun _ _ => Rd.mono c9))).up
 ·rw [List.getElem?_append_right (by rw [KY]; exact fb), List.getElem?_replicate]
  split
  ·rename_i e he
   split at he
   ·cases he; trivial
   ·cases he
  ·trivial
theorem BL {T : CS} {ob : Nat -> Nat -> Ob} {xs : List At} {v : Value} (hv : JD T h ob w (vOf xs) v) : ∃ cs, Kr v cs /\ YA (YK T h ob w) xs cs := by
 match xs, hv with
 | [], hv =>
  obtain ⟨cs, rfl, lE⟩ := hv
  exact ⟨cs.toList, .inr ⟨by rw [<- lE.length]; simp, by simp⟩, lE⟩
 | [x], hv => exact ⟨[v], .inl ⟨v, rfl, rfl, YK.Xy hv⟩, .cons hv .nil⟩
 | x :: y :: xs, hv =>
  obtain ⟨cs, rfl, lE⟩ := hv
  exact ⟨cs.toList, .inr ⟨by rw [<- lE.length]; simp, by simp⟩, lE⟩
theorem vb (r : Rel T0 B σ a w X h) : ∀ {rs : List ResultVar} {iT : List (List At)}, OG P σ rs iT ->
  ∃ vs lf, (rs.mapM (m := Sem) fun | .tmp t => pure (a.tmps.getD t undef) | .cell u t => do loadVar t (<- asAddr (a.tmps.getD u undef))).run P w = .ok vs w /\ YA Kr vs lf /\ YA (fun xs cs => YA (YK (Tof T0 X) h σ.ob w) xs cs) iT lf
 | [], iT, hr => by cases hr; exact ⟨[], [], by simp, .nil, .nil⟩
 | rv :: rs, iT, hr => by
  obtain ⟨xs, rest, h1, h2, rfl⟩ := hr
  obtain ⟨vs, lf, lT, hf, lE⟩ := vb r h2
  have one : ∃ v cs, (match rv with | .tmp t => (pure (a.tmps.getD t undef) : Sem Value) | .cell u t => do loadVar t (<- asAddr (a.tmps.getD u undef))).run P w = .ok v w /\ Kr v cs /\ YA (YK (Tof T0 X) h σ.ob w) xs cs := by
   cases rv with
   | tmp t =>
    obtain ⟨hg, lN⟩ := h1
    have hv := r.slot t lN
    rw [hg] at hv
    obtain ⟨cs, hf, lE⟩ := BL hv
    exact ⟨_, cs, by simp, hf, lE⟩
   | cell t T =>
    obtain ⟨u, c, cells, hg, ho, gh, ff, lD, hle, rfl⟩ := h1
    have hv := r.get t
    rw [hg] at hv
    obtain ⟨b, cs, e, hb, he, hh, lE⟩ := r.box ho hv
    have hlen := lE.length
    obtain ⟨val, hld, hagg, _⟩ := tC (P := P) (w := w) gh (b := b) (off := c) (cs := cut cs.toList c (P.cellsOf T)) (XH _ _ _ (by omega)) (fun j u hu => zj hh _ _ (yI _ _ _ _ _ hu))
    refine ⟨val, cut cs.toList c (P.cellsOf T), ?_, .inr ⟨by rw [XH _ _ _ (by omega)]; exact lD, hagg ff⟩, lE.cut _ _⟩
    simp only [Instr.loadAt, Instr.sureAddr, Sem.run_bind, Sem.run_pure, Result.andThen_ok] at hld
    simp only [he, asAddr, Sem.run_bind, Sem.run_pure, Result.andThen_ok]
    exact hld
  obtain ⟨v, cs, aS, hf1, hal1⟩ := one
  refine ⟨v :: vs, cs :: lf, ?_, .cons hf1 hf, .cons hal1 lE⟩
  simp only [List.mapM_cons, Sem.run_bind, aS, Result.andThen_ok, lT, Sem.run_pure]
theorem Sy (r : Rel T0 B σ a w X h) {fn : Func} {iT : List (List At)} (hr : OG P σ fn.results.toList iT) :
  ∃ vs lf, (results fn a.tmps).run P w = .ok (M8 vs) w /\ YA Kr vs lf /\ YA (fun xs cs => YA (YK (Tof T0 X) h σ.ob w) xs cs) iT lf := by
 obtain ⟨vs, lf, lT, hf, lE⟩ := vb r hr
 refine ⟨vs, lf, ?_, hf, lE⟩
 unfold results
 rw [Array.mapM_eq_mapM_toList]
 change ((((fn.results.toList.mapM (m := Sem) fun | .tmp t => pure (a.tmps.getD t undef) | .cell u t => do loadVar t (<- asAddr (a.tmps.getD u undef))) >>= fun l => pure l.toArray) >>= fun (vs : Array Value) => pure (if h : vs.size = 1 then vs[0] else .tuple vs))).run P w = _
 simp only [Sem.run_bind, lT, Result.andThen_ok, Sem.run_pure]
 congr 1
 match vs with
 | [] => rfl
 | [v] => rfl
 | v :: v' :: vs => simp [M8]
theorem ND (r : Rel T0 B σ a w X h) {T : CS} (hT : ∀ b k, Pw T0 X h σ b k -> T b k) : ∀ {iT : List (List At)} {lf : List (List Value)} {res : List (List D)}, TW σ iT = some res -> YA (fun xs cs => YA (YK (Tof T0 X) h σ.ob w) xs cs) iT lf ->
  YA (fun cs row => YA (xg false T w) cs row) lf res
 | [], lf, res, hr, lE => by cases lE; simp [TW] at hr; subst hr; exact .nil
 | xs :: iT, lf, res, hr, lE => by
  cases lE with
  | cons h1 lE =>
   simp only [TW] at hr
   split at hr
   ·rename_i row rs lX gi
    cases hr
    refine .cons ?_ (ND r hT gi lE)
    have := r.rowOf false lX h1 (fun hh => by cases hh)
    refine this.imp fun v d hd => ?_
    simp only [xg, Bool.false_eq_true, if_false] at hd ⊢
    exact Rd.mono (fun b k v hb hc => ⟨hc, hT b k hb⟩) hd
   ·cases hr
theorem HF : ∀ {xs : List At} {ds : List D}, ownRow σ xs = some ds -> YA (fun x d => je σ x = some d) xs ds
 | [], ds, hr => by simp [ownRow] at hr; subst hr; exact .nil
 | x :: xs, ds, hr => by
  simp only [ownRow] at hr
  split at hr
  ·rename_i d hQ h1 h2; cases hr; exact .cons h1 (HF h2)
  ·cases hr
theorem M6 : ∀ {iT : List (List At)} {res : List (List D)}, UJ σ iT = some res -> YA (fun xs row => YA (fun x d => je σ x = some d) xs row) iT res
 | [], res, hr => by simp [UJ] at hr; subst hr; exact .nil
 | xs :: iT, res, hr => by
  simp only [UJ] at hr
  split at hr
  ·rename_i d hQ h1 h2; cases hr; exact .cons (HF h1) (M6 h2)
  ·cases hr
theorem Tr (r : Rel T0 B σ a w X h) {x : At} {d : D} {v : Value} (hx : je σ x = some d) (hv : YK (Tof T0 X) h σ.ob w x v) : Js (Tof T0 X) w v d /\ (∀ b, d.scalar = false -> blk v = some b -> ∃ t j lo len, x = .sref t j lo len /\ σ.ob t j ≠ .none /\ (h t j).u b) := by
 cases x with
 | d x =>
  cases x with
  | sl s rows => simp [je] at hx
  | int k n => simp [je] at hx; subst hx; exact ⟨hv, fun b hb => by cases hb⟩
  | bool b => simp [je] at hx; subst hx; exact ⟨hv, fun b hb => by cases hb⟩
  | str s => simp [je] at hx; subst hx; exact ⟨hv, fun b hb => by cases hb⟩
  | unk => simp [je] at hx; subst hx; exact ⟨hv, fun b hb => by cases hb⟩
 | nil s =>
  simp [je] at hx; subst hx
  cases hv
  exact ⟨⟨0, [], World.ownsRow_nil w 0 0 s, (by intro q hq; cases hq), .nil⟩, fun b _ hb => by cases hb⟩
 | sref t j lo len =>
  simp only [je] at hx
  split at hx
  ·rename_i size rows ho
   split at hx
   ·rename_i hc
    obtain ⟨rfl, rfl⟩ := hc
    cases hx
    obtain ⟨_, iN, _⟩ := hv.2.1 _ size rows ho
    have he := iN rfl rfl
    have h0 := r.obj t j
    have hO := r.ub t j
    rw [ho] at h0 hO
    refine ⟨by rw [he]; exact h0, fun b _ hb => ⟨t, j, 0, rows.length, rfl, by rw [ho]; simp, hO b (by simp) (by rw [<- he]; exact hb)⟩⟩
   ·cases hx
  ·cases hx
 | any => simp [je] at hx
 | ptr => simp [je] at hx
 | bptr => simp [je] at hx
 | fn => simp [je] at hx
 | rptr => simp [je] at hx
 | tref => simp [je] at hx
theorem Cu {f : FuncId} {fn : Func} {c : Code} (hf : P.funcs[f]? = some fn) (hb : fn.body = some c) (la : MP P f = true) {own : Bool} {args res : List (List D)}
  (hw : AWP P c (AM P fn own res) (WQ fn.ntmps args)) : Qz P f own args res := by
 refine ⟨la, fun T w lu hT lH => calls_of_wp hf hb ?_⟩
 refine wp_mono (hw T (fun b => b < w.heap.size) _ w (Ak hT lH)) ?_
 rintro e a' w' ⟨σ', ⟨he, iT, fp, lK⟩, ⟨X, h, r⟩, lS⟩
 have gI : Below w.heap.size w w' := ⟨lS.os, lS.tape, lS.output, lS.size, lS.block⟩
 obtain ⟨vs, lf, lT, lk, lE⟩ := Sy r fp
 have goal : a'.defers = [] /\ ∃ v, (results fn a'.tmps).run P w' = .ok v w' /\ nW own T w res (.returned v) w' := by
  refine ⟨r.defers, _, lT, ?_⟩
  cases own with
  | false =>
   refine ⟨vs, lf, fun b => w.heap.size <= b /\ b < w'.heap.size, rfl, gI, fun b hb => hb, lk, ?_, fun hh => by cases hh⟩
   refine ND r (fun b k hb => ?_) (by simpa using lK) lE
   rcases hb with hb | ⟨t, j, q, size, rows, ho, hb⟩
   ·rcases hb with hb | hb
    ·exact .inl hb
    ·have := r.hX b hb; exact .inr ⟨by omega, this.2⟩
   ·have := r.own t j b (by rw [ho]; simp) hb
    exact .inr ⟨by omega, this.2.2⟩
  | true =>
   simp only [if_true] at lK
   obtain ⟨lG, l9⟩ := lK
   have iS := M6 lG
   have fB : YA (fun x d => je σ' x = some d) iT.flatten res.flatten := jx iS
   have fC : YA (YK (Tof T X) h σ'.ob w') iT.flatten lf.flatten := jx lE
   refine ⟨vs, lf, X, rfl, gI, (fun b hb => by have := r.hX b hb; exact ⟨by omega, this.2⟩), lk, ?_, fun _ => ⟨fun i cc d b hc hd iK hb => ?_, fun i j cc cc' d d' b hc hd lg lQ iK bC hb lM => ?_⟩⟩
   ·clear fB fC lk lT fp lG l9 he hw
    induction iS generalizing lf with
    | nil => cases lE; exact .nil
    | cons hr _ ih =>
     cases lE with
     | cons ep lE =>
      refine .cons ?_ (ih _ lE)
      clear ih lE
      refine YA.jf (by rw [<- ep.length, hr.length]) (fun i v d hv hd => ?_)
      obtain ⟨x, hx, aT⟩ := hr.get' i d hd
      obtain ⟨v', gH, aU⟩ := ep.get i x hx
      rw [hv] at gH; cases gH
      simp only [xg, if_true]
      exact (Tr r aT aU).1
   ·obtain ⟨x, hx, aT⟩ := fB.get' i d hd
    obtain ⟨v', gH, aU⟩ := fC.get i x hx
    rw [hc] at gH; cases gH
    obtain ⟨t, j, lo, len, _, lD, ej⟩ := (Tr r aT aU).2 b iK hb
    have := r.own t j b lD ej
    exact ⟨by omega, this.2.2, this.2.1⟩
   ·obtain ⟨x, hx, aT⟩ := fB.get' i d hd
    obtain ⟨v', gH, aU⟩ := fC.get i x hx
    rw [hc] at gH; cases gH
    obtain ⟨x2, aK, hxd2⟩ := fB.get' j d' lQ
    obtain ⟨v2, ia, hxv2⟩ := fC.get j x2 aK
    rw [lg] at ia; cases ia
    obtain ⟨t, u, lo, len, rfl, lD, ej⟩ := (Tr r aT aU).2 b iK hb
    obtain ⟨t2, u2, lo2, aV, rfl, fq, hbb2⟩ := (Tr r hxd2 hxv2).2 b bC lM
    obtain ⟨rfl, rfl⟩ := r.inj t u t2 u2 b lD fq ej hbb2
    exact RE _ i j t u lo len lo2 aV l9 hx aK
 rcases he with rfl | rfl
 ·exact goal
 ·exact goal
theorem EN {f : FuncId} {fn : Func} {c : Code} (hf : P.funcs[f]? = some fn) (hb : fn.body = some c) (la : MP P f = true) {args res : List (List D)}
  (hw : AWP P c (uX P fn res) (WQ fn.ntmps args)) : Yv P f args res := by
 refine ⟨la, fun T w lu hT lH => calls_of_wp hf hb ?_⟩
 refine wp_mono (hw T (fun b => b < w.heap.size) _ w (Ak hT lH)) ?_
 rintro e a' w' ⟨σ', ⟨he, iT, fp, gM, cA, l9⟩, ⟨X, h, r⟩, lS⟩
 have gI : Below w.heap.size w w' := ⟨lS.os, lS.tape, lS.output, lS.size, lS.block⟩
 obtain ⟨vs, lf, lT, lk, lE⟩ := Sy r fp
 have goal : a'.defers = [] /\ ∃ v, (results fn a'.tmps).run P w' = .ok v w' /\ pR w res (.returned v) w' := by
  refine ⟨r.defers, _, lT, vs, lf, rfl, gI, lk, ?_, ?_⟩
  ·clear l9 cA fp lT lk hw
   induction lE generalizing res with
   | nil => simp [zd] at gM; subst gM; exact .nil
   | cons h1 _ ih =>
    simp only [zd] at gM
    split at gM
    ·rename_i row rs lX gi
     cases gM
     exact .cons (by rw [<- h1.length]; exact (Uv lX).1) (ih gi)
    ·cases gM
  ·refine (P4 r (jx lE) (Vy gM).1 (kn cA) l9).mono (fun b hb => ?_)
   have := r.yN _ b hb
   exact ⟨by omega, this.2.2.1⟩
 rcases he with rfl | rfl
 ·exact goal
 ·exact goal
end
end Go.Vm
namespace Go.Vm
open Go.RowKit
theorem St.tg (e : Ent) (σ : St) : St.get (e :: σ) 0 = e.1 := rfl
theorem St.tu (e : Ent) (σ : St) (n : Nat) : St.get (e :: σ) (n + 1) = St.get σ n := by simp [St.get]
theorem St.rb (e : Ent) (σ : St) (j : Nat) : St.ob (e :: σ) 0 j = Yr e.2 j := rfl
theorem St.ri (e : Ent) (σ : St) (n j : Nat) : St.ob (e :: σ) (n + 1) j = St.ob σ n j := by simp [St.ob]
theorem uM (o : Ob) (os : List Ob) : Yr (o :: os) 0 = o := rfl
theorem uc (o : Ob) (os : List Ob) (n : Nat) : Yr (o :: os) (n + 1) = Yr os n := by simp [Yr]
theorem tj (n : Nat) : Yr [] n = .none := by simp [Yr]
def lkI (P : Program) (σ : St) (x : Operand) : Prop × Int :=
 match unc (look P σ 0 x) with
 | .one (.d (.int _ n)) => (gOf (look P σ 0 x) = true, n)
 | _ => (False, 0)
def lkK (P : Program) (σ : St) (x : Operand) : IntKind :=
 match unc (look P σ 0 x) with
 | .one (.d (.int k _)) => k
 | _ => .i64
theorem kG {P : Program} {σ : St} {x : Operand} (h : (lkI P σ x).1) : W5 P σ x (lkK P σ x) (lkI P σ x).2 := by
 unfold lkI at h ⊢
 unfold lkK
 unfold W5
 split at h
 ·rename_i k n heq
  rw [heq]; exact ⟨h, rfl⟩
 ·exact h.elim
def z7 (P : Program) (σ : St) (iW : Nat) : Option Operand -> Prop × Nat
 | none => (True, iW)
 | some x => ((lkI P σ x).1 /\ 0 <= (lkI P σ x).2, (lkI P σ x).2.toNat)
theorem U9 {P : Program} {σ : St} {iW : Nat} {x : Option Operand} (h : (z7 P σ iW x).1) : bnd P σ iW x (z7 P σ iW x).2 := by
 cases x with
 | none => rfl
 | some x =>
  have h1 := kG h.1
  exact ⟨_, _, h1.1, h1.2, h.2, rfl⟩
def rowAt (rows : List (List D)) (i : Nat) : List D := rows.getD i []
def bAt (s : ByteArray) (i : Nat) : Nat := (s.data.toList.getD i 0).toNat
def RG (P : Program) (σ : St) (T : TypeId) (x ix : Operand) : Prop × V :=
 match unc (look P σ 0 x) with
 | .one (.d (.sl size rows)) => ((gOf (look P σ 0 x) = true /\ (lkI P σ ix).1) /\ 0 <= (lkI P σ ix).2 /\ (XK P T = true /\ size = P.cellsOf (ZU P T) /\ 0 < size) /\ (lkI P σ ix).2 < (rows.length : Int), .one (.rptr (rowAt rows (lkI P σ ix).2.toNat) 0))
 | .one (.sref t j lo len) => ((gOf (look P σ 0 x) = true /\ (lkI P σ ix).1) /\ 0 <= (lkI P σ ix).2 /\ (XK P T = true /\ 0 < P.cellsOf (ZU P T) /\ (match σ.ob t j with | .arr _ size _ => size = P.cellsOf (ZU P T) | _ => False)) /\ (lkI P σ ix).2 < (len : Int), .one (.ptr t j (lo + (lkI P σ ix).2.toNat) 0))
 | .one (.tref t j m c none) => ((gOf (look P σ 0 x) = true /\ (lkI P σ ix).1) /\ 0 <= (lkI P σ ix).2 /\ (XK P T = true /\ 0 < P.cellsOf (ZU P T)) /\ (match σ.ob t j with | .arr true _ rows => m < rows.length /\ (match (rowAt rows m)[c]? with | some (.sl n s) => n = P.cellsOf (ZU P T) /\ (lkI P σ ix).2 < (s.length : Int) | _ => False) | _ => False), .one (.tref t j m c (some ((lkI P σ ix).2.toNat * P.cellsOf (ZU P T)))))
 | .one (.bptr t c) => ((gOf (look P σ 0 x) = true /\ (lkI P σ ix).1) /\ 0 <= (lkI P σ ix).2 /\ (match σ.ob t 0 with | .box _ => True | _ => False) /\ (match CD P T with | some n => 1 < n /\ (lkI P σ ix).2 < (n : Int) | none => False), .one (.bptr t (c + (lkI P σ ix).2.toNat * P.cellsOf (ZU P T))))
 | _ => (False, .any)
def wW (P : Program) (σ : St) (T : TypeId) (x : Operand) : Prop × V :=
 match unc (look P σ 0 x) with
 | .one (.bptr t c) => (match σ.ob t 0 with | .box cells => (gOf (look P σ 0 x) = true /\ qU P T = true /\ c + P.cellsOf T <= cells.length, ldV P T (cut cells c (P.cellsOf T))) | _ => (False, .any))
 | .one (.ptr t j i c) => (match σ.ob t j with | .arr q size rows => ((gOf (look P σ 0 x) = true /\ qU P T = true /\ c + P.cellsOf T <= size) /\ i < rows.length, ldV P T (Tj q t j i c (cut (rowAt rows i) c (P.cellsOf T)))) | _ => (False, .any))
 | .one (.rptr r c) => (gOf (look P σ 0 x) = true /\ qU P T = true /\ c + P.cellsOf T <= r.length, ldV P T ((cut r c (P.cellsOf T)).map .d))
 | _ => (False, .any)
def Sq (P : Program) (σ : St) (T : TypeId) (x : Operand) (f : Nat) : Prop × V :=
 match unc (look P σ 0 x) with
 | .one (.bptr t c) => (gOf (look P σ 0 x) = true /\ jV P T f = true /\ (match σ.ob t 0 with | .box _ => True | _ => False), .one (.bptr t (c + Qh P T f)))
 | .one (.ptr t j i c) => (gOf (look P σ 0 x) = true /\ jV P T f = true /\ (match σ.ob t j with | .arr _ _ _ => True | _ => False), .one (.ptr t j i (c + Qh P T f)))
 | .one (.rptr r c) => (gOf (look P σ 0 x) = true /\ jV P T f = true, .one (.rptr r (c + Qh P T f)))
 | .one (.tref t j i c (some k)) => (gOf (look P σ 0 x) = true /\ jV P T f = true /\ (match σ.ob t j with | .arr true _ _ => True | _ => False), .one (.tref t j i c (some (k + Qh P T f))))
 | _ => (False, .any)
def DQ (P : Program) (op : BinOp) (T : TypeId) (x y : V) : Prop × V :=
 match op, x, y with
 | .eql, .one (.d (.int k m)), .one (.d (.int k' n)) => (k' = k, .one (.d (.bool (m == n))))
 | .neq, .one (.d (.int k m)), .one (.d (.int k' n)) => (k' = k, .one (.d (.bool (m != n))))
 | .lss, .one (.d (.int k m)), .one (.d (.int k' n)) => (k' = k, .one (.d (.bool (decide (m < n)))))
 | .leq, .one (.d (.int k m)), .one (.d (.int k' n)) => (k' = k, .one (.d (.bool (decide (m <= n)))))
 | .gtr, .one (.d (.int k m)), .one (.d (.int k' n)) => (k' = k, .one (.d (.bool (decide (m > n)))))
 | .geq, .one (.d (.int k m)), .one (.d (.int k' n)) => (k' = k, .one (.d (.bool (decide (m >= n)))))
 | .add, .one (.d (.int k m)), .one (.d (.int k' n)) => (k' = k, .one (.d (.int k (k.wrap (m + n)))))
 | .sub, .one (.d (.int k m)), .one (.d (.int k' n)) => (k' = k, .one (.d (.int k (k.wrap (m - n)))))
 | .mul, .one (.d (.int k m)), .one (.d (.int k' n)) => (k' = k, .one (.d (.int k (k.wrap (m * n)))))
 | .quo, .one (.d (.int k m)), .one (.d (.int k' n)) => (k' = k /\ n ≠ 0, .one (.d (.int k (k.wrap (m.tdiv n)))))
 | .rem, .one (.d (.int k m)), .one (.d (.int k' n)) => (k' = k /\ n ≠ 0, .one (.d (.int k (m.tmod n))))
 | .and, .one (.d (.int k m)), .one (.d (.int k' n)) => (k' = k, .one (.d (.int k (oC k m n))))
 | .or, .one (.d (.int k m)), .one (.d (.int k' n)) => (k' = k, .one (.d (.int k (iOr k m n))))
 | .xor, .one (.d (.int k m)), .one (.d (.int k' n)) => (k' = k, .one (.d (.int k (oO k m n))))
 | .shl, .one (.d (.int k m)), .one (.d (.int _ n)) => (0 <= n, .one (.d (.int k (k.wrap (m * 2 ^ (min n.toNat k.bits))))))
 | .shr, .one (.d (.int k m)), .one (.d (.int _ n)) => (0 <= n, .one (.d (.int k (m.fdiv (2 ^ (min n.toNat k.bits))))))
 | .add, .one (.d (.str m)), .one (.d (.str n)) => (((m.size + n.size : Nat) : Int) <= 9223372036854775807, .one (.d (.str (m ++ n))))
 | .eql, .one (.d (.str m)), .one (.d (.str n)) => (True, .one (.d (.bool (decide (m = n)))))
 | .neq, .one (.d (.str m)), .one (.d (.str n)) => (True, .one (.d (.bool (!decide (m = n)))))
 | .eql, .one (.d (.bool m)), .one (.d (.bool n)) => (M3 P T = true, .one (.d (.bool (m == n))))
 | .neq, .one (.d (.bool m)), .one (.d (.bool n)) => (M3 P T = true, .one (.d (.bool (!(m == n)))))
 | .eql, .agg xs, .agg ys => (Uj P T = true /\ (jz P (P.fieldsOf T).toList xs ys).isSome = true, .one (.d (.bool ((jz P (P.fieldsOf T).toList xs ys).getD false))))
 | .neq, .agg xs, .agg ys => (Uj P T = true /\ (jz P (P.fieldsOf T).toList xs ys).isSome = true, .one (.d (.bool (!(jz P (P.fieldsOf T).toList xs ys).getD false))))
 | _, _, _ => (False, .any)
def Tn (P : Program) (σ : St) (T : TypeId) : List (Nat × Operand) -> List At -> Prop × List At
 | [], r => (True, r)
 | (i, x) :: ps, r => ((bOk P T i = true /\ gOf (look P σ (bTy P T i) x) = true /\ (unc (look P σ (bTy P T i) x)).flat = true /\
   (unc (look P σ (bTy P T i) x)).cells.length = P.cellsOf (bTy P T i) /\ Sl P T i + P.cellsOf (bTy P T i) <= r.length) /\ (Tn P σ T ps (place r (Sl P T i) (unc (look P σ (bTy P T i) x)).cells)).1,
   (Tn P σ T ps (place r (Sl P T i) (unc (look P σ (bTy P T i) x)).cells)).2)
theorem FC {P : Program} {σ : St} {T : TypeId} : ∀ {ps : List (Nat × Operand)} {r : List At}, (Tn P σ T ps r).1 -> Uk P σ T ps r (Tn P σ T ps r).2
 | [], _, _ => rfl
 | (_, _) :: _, _, h => ⟨h.1.1, h.1.2.1, h.1.2.2.1, h.1.2.2.2.1, h.1.2.2.2.2, FC h.2⟩
def isB : V -> Bool
 | .one (.d (.bool _)) => true
 | _ => false
def bOf : V -> Bool
 | .one (.d (.bool b)) => b
 | _ => false
theorem sE : ∀ {v : V}, isB v = true -> v = .one (.d (.bool (bOf v)))
 | .one (.d (.bool _)), _ => rfl
def evV (P : Program) (σ : St) (op : Op) (ty : TypeId) : Prop × V :=
 match op with
 | .move x => (True, look P σ ty x)
 | .assign x => (True, look P σ ty x)
 | .pick c a b =>
  (match unc (look P σ ty c) with
  | .one (.d (.bool bc)) => ((gOf (look P σ ty c) = true /\ (bc = true -> isB (unc (look P σ ty a)) = true) /\ (bc = false -> isB (unc (look P σ ty b)) = true)) /\ (bc = true -> gOf (look P σ ty a) = true) /\ (bc = false -> gOf (look P σ ty b) = true), .one (.d (.bool (cond bc (bOf (unc (look P σ ty a))) (bOf (unc (look P σ ty b)))))))
  | _ => (False, .any))
 | .load T x => wW P σ T x
 | .fieldAddr T x f => Sq P σ T x f
 | .nilCheck x => (match unc (look P σ 0 x) with
  | .one (.bptr t c) => (gOf (look P σ 0 x) = true /\ (match σ.ob t 0 with | .box _ => True | _ => False), .one (.bptr t c))
  | _ => (False, .any))
 | .indexAddr T x ix => RG P σ T x ix
 | .index T x ix =>
  (match unc (look P σ 0 x) with
  | .one (.d (.str s)) => ((gOf (look P σ 0 x) = true /\ (lkI P σ ix).1) /\ 0 <= (lkI P σ ix).2 /\ Uc P T = true /\ (lkI P σ ix).2 < (s.size : Int), .one (.d (.int .u8 (bAt s (lkI P σ ix).2.toNat))))
  | .agg xs => ((gOf (look P σ 0 x) = true /\ (lkI P σ ix).1) /\ 0 <= (lkI P σ ix).2 /\ (match CD P T with | some n => (lkI P σ ix).2 < (n : Int) | none => False) /\ qU P (ZU P T) = true /\ (lkI P σ ix).2.toNat * P.cellsOf (ZU P T) + P.cellsOf (ZU P T) <= xs.length,
    ldV P (ZU P T) (cut xs ((lkI P σ ix).2.toNat * P.cellsOf (ZU P T)) (P.cellsOf (ZU P T))))
  | _ => (False, .any))
 | .slice T x lo hi none =>
  (match unc (look P σ 0 x) with
  | .one (.d (.str s)) => ((gOf (look P σ 0 x) = true /\ Uc P T = true /\ (z7 P σ 0 lo).1 /\ (z7 P σ s.size hi).1) /\ (z7 P σ 0 lo).2 <= (z7 P σ s.size hi).2 /\ (z7 P σ s.size hi).2 <= s.size, .one (.d (.str (s.extract (z7 P σ 0 lo).2 (z7 P σ s.size hi).2))))
  | .one (.d (.sl size rows)) => ((gOf (look P σ 0 x) = true /\ XK P T = true /\ size = P.cellsOf (ZU P T) /\ (z7 P σ 0 lo).1 /\ (z7 P σ rows.length hi).1) /\ (z7 P σ 0 lo).2 <= (z7 P σ rows.length hi).2 /\ (z7 P σ rows.length hi).2 <= rows.length,
    .one (.d (.sl size (cut rows (z7 P σ 0 lo).2 ((z7 P σ rows.length hi).2 - (z7 P σ 0 lo).2)))))
  | .one (.sref t j o len) => ((gOf (look P σ 0 x) = true /\ XK P T = true /\ (match σ.ob t j with | .arr _ size _ => size = P.cellsOf (ZU P T) | _ => False) /\ (z7 P σ 0 lo).1 /\ (z7 P σ len hi).1) /\ (z7 P σ 0 lo).2 <= (z7 P σ len hi).2 /\ (z7 P σ len hi).2 <= len,
    .one (.sref t j (o + (z7 P σ 0 lo).2) ((z7 P σ len hi).2 - (z7 P σ 0 lo).2)))
  | _ => (False, .any))
 | .binOp op T x y _ => ((gOf (look P σ T x) = true /\ gOf (look P σ T y) = true) /\ (DQ P op T (unc (look P σ T x)) (unc (look P σ T y))).1, (DQ P op T (unc (look P σ T x)) (unc (look P σ T y))).2)
 | .unOp .not _ x => (match unc (look P σ 0 x) with | .one (.d (.bool b)) => (gOf (look P σ 0 x) = true, .one (.d (.bool (!b)))) | _ => (False, .any))
 | .unOp .neg _ x => (match unc (look P σ 0 x) with | .one (.d (.int k n)) => (gOf (look P σ 0 x) = true, .one (.d (.int k (k.wrap (-n))))) | _ => (False, .any))
 | .convert S T x => (match unc (look P σ 0 x), wq P T with | .one (.d (.int _ n)), some k => (gOf (look P σ 0 x) = true /\ (P.underlying S).isSome = true, .one (.d (.int k (k.wrap n)))) | _, _ => (False, .any))
 | .extract x i => (match unc (look P σ 0 x) with | .tup xs => (gOf (look P σ 0 x) = true /\ i < xs.length /\ (xs.getD i .any).flat = true, xs.getD i .any) | _ => (False, .any))
 | .field T x f =>
  (match unc (look P σ 0 x) with
  | .agg xs => (gOf (look P σ 0 x) = true /\ jV P T f = true /\ qU P (xv P T f) = true /\ Qh P T f + P.cellsOf (xv P T f) <= xs.length, ldV P (xv P T f) (cut xs (Qh P T f) (P.cellsOf (xv P T f))))
  | _ => (False, .any))
 | .build T parts => (match j5 P 12 T with | some z => ((QF P T = true /\ TQ P T = true) /\ (Tn P σ T parts.toList z).1, .agg (Tn P σ T parts.toList z).2) | none => (False, .any))
 | .call ⟨.builtin .len, ⟨[x]⟩, ⟨[t]⟩⟩ =>
  (match unc (look P σ t x) with
  | .one (.d (.str s)) => (gOf (look P σ t x) = true /\ Uc P t = true, .one (.d (.int .i64 s.size)))
  | .one (.d (.sl _ rows)) => (gOf (look P σ t x) = true /\ XK P t = true, .one (.d (.int .i64 rows.length)))
  | .one (.nil _) => (gOf (look P σ t x) = true /\ XK P t = true, .one (.d (.int .i64 0)))
  | .one (.sref u j _ len) => (gOf (look P σ t x) = true /\ XK P t = true /\ (match σ.ob u j with | .arr _ _ _ => True | .lit _ _ => True | _ => False), .one (.d (.int .i64 len)))
  | _ => (False, .any))
 | .call ⟨.builtin .max, ⟨[x, y]⟩, _⟩ => ((lkI P σ x).1 /\ (lkI P σ y).1 /\ lkK P σ y = lkK P σ x, .one (.d (.int (lkK P σ x) (if (lkI P σ y).2 > (lkI P σ x).2 then (lkI P σ y).2 else (lkI P σ x).2))))
 | .call ⟨.builtin .min, ⟨[x, y]⟩, _⟩ => ((lkI P σ x).1 /\ (lkI P σ y).1 /\ lkK P σ y = lkK P σ x, .one (.d (.int (lkK P σ x) (if (lkI P σ y).2 < (lkI P σ x).2 then (lkI P σ y).2 else (lkI P σ x).2))))
 | _ => (False, .any)
theorem wu {o : Ob} (h : (match o with | .box _ => True | _ => False)) : ∃ cells, o = .box cells := by
 cases o with
 | box c => exact ⟨c, rfl⟩
 | none => exact h.elim
 | arr q s r => exact h.elim
 | lit s r => exact h.elim
theorem pc {o : Ob} (h : (match o with | .arr _ _ _ => True | _ => False)) : ∃ q size rows, o = .arr q size rows := by
 cases o with
 | arr q s r => exact ⟨q, s, r, rfl⟩
 | none => exact h.elim
 | box c => exact h.elim
 | lit s r => exact h.elim
theorem oK {o : Ob} (h : (match o with | .arr _ _ _ => True | .lit _ _ => True | _ => False)) : (∃ q size rows, o = .arr q size rows) \/ ∃ size rows, o = .lit size rows := by
 cases o with
 | arr q s r => exact .inl ⟨q, s, r, rfl⟩
 | none => exact h.elim
 | box c => exact h.elim
 | lit s r => exact .inr ⟨s, r, rfl⟩
theorem va {o : Ob} {n : Nat} (h : (match o with | .arr _ size _ => size = n | _ => False)) : ∃ q rows, o = .arr q n rows := by
 cases o with
 | arr q s r => simp at h; subst h; exact ⟨q, r, rfl⟩
 | none => exact h.elim
 | box c => exact h.elim
 | lit s r => exact h.elim
theorem tK {P : Program} {op : BinOp} {T : TypeId} {x y : V} (hc : (DQ P op T x y).1) : AS P op T x y (DQ P op T x y).2 := by
 unfold DQ at hc ⊢
 split at hc
 all_goals first
  | exact hc.elim
  | exact ⟨.inr hc, rfl⟩
  | exact ⟨.inr hc.1, hc.2, rfl⟩
  | exact ⟨.inl (.inl rfl), hc, rfl⟩
  | exact ⟨.inl (.inr rfl), hc, rfl⟩
  | exact ⟨hc, rfl⟩
  | rfl
  | (obtain ⟨q, hq⟩ := Option.isSome_iff_exists.1 hc.2; exact ⟨hc.1, q, hq, .inl ⟨rfl, by rw [hq]; rfl⟩⟩)
  | (obtain ⟨q, hq⟩ := Option.isSome_iff_exists.1 hc.2; exact ⟨hc.1, q, hq, .inr ⟨rfl, by rw [hq]; rfl⟩⟩)
theorem wJ {P : Program} {σ : St} {op : Op} {ty : TypeId} (hc : (evV P σ op ty).1) : Yh P σ op ty (evV P σ op ty).2 := by
 unfold evV at hc ⊢
 split at hc
 ·rfl
 ·rfl
 ·rename_i c a b
  split at hc
  ·rename_i bc h1; exact ⟨bc, _, _, hc.1.1, h1, (fun hh => sE (hc.1.2.1 hh)), (fun hh => sE (hc.1.2.2 hh)), hc.2.1, hc.2.2, (by first | rfl | trivial)⟩
  ·exact hc.elim
 ·rename_i T x
  unfold wW at hc ⊢
  simp only [Yh]
  split at hc
  ·rename_i t c hx
   split at hc
   ·rename_i cells ho; simp only [hx, ho]; exact ⟨hc.1, hc.2.1, cells, rfl, hc.2.2, (by first | rfl | trivial)⟩
   ·exact hc.elim
  ·rename_i t j i c hx
   split at hc
   ·rename_i size rows ho; simp only [hx, ho]; exact ⟨hc.1.1, hc.1.2.1, _, size, rows, rfl, hc.2, hc.1.2.2, (by first | rfl | trivial)⟩
   ·exact hc.elim
  ·rename_i r c hx; simp only [hx]; exact ⟨hc.1, hc.2.1, hc.2.2, (by first | rfl | trivial)⟩
  ·exact hc.elim
 ·rename_i T x f
  unfold Sq at hc ⊢
  simp only [Yh]
  split at hc
  ·rename_i t c hx; simp only [hx]; exact ⟨hc.1, hc.2.1, wu hc.2.2, (by first | rfl | trivial)⟩
  ·rename_i t j i c hx; simp only [hx]; exact ⟨hc.1, hc.2.1, pc hc.2.2, (by first | rfl | trivial)⟩
  ·rename_i r c hx; simp only [hx]; exact ⟨hc.1, hc.2, (by first | rfl | trivial)⟩
  ·rename_i t j i c k hx
   have h3 := hc.2.2
   split at h3
   ·rename_i size rows ho; simp only [hx]; exact ⟨hc.1, hc.2.1, ⟨size, rows, ho⟩, (by first | rfl | trivial)⟩
   ·exact h3.elim
  ·exact hc.elim
 ·rename_i x
  simp only [Yh]
  split at hc
  ·rename_i t c hx; simp only [hx]; exact ⟨hc.1, wu hc.2, (by first | rfl | trivial)⟩
  ·exact hc.elim
 ·rename_i T x ix
  unfold RG at hc ⊢
  simp only [Yh]
  split at hc
  ·rename_i size rows hx
   simp only [hx]
   exact ⟨_, _, kG hc.1.2, hc.2.1, hc.1.1, hc.2.2.1.1, hc.2.2.1.2.1, hc.2.2.1.2.2, hc.2.2.2, (by first | rfl | trivial)⟩
  ·rename_i t j lo len hx
   simp only [hx]
   exact ⟨_, _, kG hc.1.2, hc.2.1, hc.1.1, hc.2.2.1.1, hc.2.2.1.2.1, va hc.2.2.1.2.2, hc.2.2.2, (by first | rfl | trivial)⟩
  ·rename_i t j m c hx
   have h3 := hc.2.2.2
   split at h3
   ·rename_i size rows ho
    obtain ⟨hm, h4⟩ := h3
    split at h4
    ·rename_i n s hr
     obtain ⟨rfl, lN⟩ := h4
     simp only [hx]
     exact ⟨_, _, kG hc.1.2, hc.2.1, hc.1.1, hc.2.2.1.1, hc.2.2.1.2, ⟨size, rows, s, ho, hm, hr, lN⟩, (by first | rfl | trivial)⟩
    ·exact h4.elim
   ·exact h3.elim
  ·rename_i t c hx
   simp only [hx]
   refine ⟨_, _, kG hc.1.2, hc.2.1, hc.1.1, wu hc.2.2.1, ?_, (by first | rfl | trivial)⟩
   have := hc.2.2.2
   split at this
   ·rename_i n hn; exact ⟨n, hn, this.1, this.2⟩
   ·exact this.elim
  ·exact hc.elim
 ·rename_i T x ix
  simp only [Yh]
  split at hc
  ·rename_i s hx; simp only [hx]; exact ⟨_, _, kG hc.1.2, hc.2.1, hc.1.1, hc.2.2.1, hc.2.2.2, (by first | rfl | trivial)⟩
  ·rename_i xs hx
   simp only [hx]
   refine ⟨_, _, kG hc.1.2, hc.2.1, hc.1.1, ?_, hc.2.2.2.1, hc.2.2.2.2, (by first | rfl | trivial)⟩
   have := hc.2.2.1
   split at this
   ·rename_i n hn; exact ⟨n, hn, this⟩
   ·exact this.elim
  ·exact hc.elim
 ·rename_i T x lo hi
  simp only [Yh]
  split at hc
  ·rename_i s hx; simp only [hx]; exact ⟨hc.1.1, hc.1.2.1, _, _, U9 hc.1.2.2.1, U9 hc.1.2.2.2, hc.2.1, hc.2.2, (by first | rfl | trivial)⟩
  ·rename_i size rows hx; simp only [hx]; exact ⟨hc.1.1, hc.1.2.1, hc.1.2.2.1, _, _, U9 hc.1.2.2.2.1, U9 hc.1.2.2.2.2, hc.2.1, hc.2.2, (by first | rfl | trivial)⟩
  ·rename_i t j o len hx; simp only [hx]; exact ⟨hc.1.1, hc.1.2.1, va hc.1.2.2.1, _, _, U9 hc.1.2.2.2.1, U9 hc.1.2.2.2.2, hc.2.1, hc.2.2, (by first | rfl | trivial)⟩
  ·exact hc.elim
 ·exact ⟨hc.1.1, hc.1.2, tK hc.2⟩
 ·simp only [Yh]
  split at hc
  ·rename_i b hx; simp only [hx]; exact ⟨hc, (by first | rfl | trivial)⟩
  ·exact hc.elim
 ·simp only [Yh]
  split at hc
  ·rename_i k n hx; simp only [hx]; exact ⟨hc, (by first | rfl | trivial)⟩
  ·exact hc.elim
 ·rename_i S T x
  simp only [Yh]
  split at hc
  ·rename_i k0 n k hx hk; simp only [hx, hk]; exact ⟨hc.1, hc.2, k, rfl, (by first | rfl | trivial)⟩
  ·exact hc.elim
 ·rename_i x i
  simp only [Yh]
  split at hc
  ·rename_i xs hx
   simp only [hx]
   exact ⟨hc.1, by simp [List.getD_eq_getElem?_getD, List.getElem?_eq_getElem hc.2.1], hc.2.2⟩
  ·exact hc.elim
 ·simp only [Yh]
  split at hc
  ·rename_i xs hx; simp only [hx]; exact ⟨hc.1, hc.2.1, hc.2.2.1, hc.2.2.2, (by first | rfl | trivial)⟩
  ·exact hc.elim
 ·simp only [Yh]
  split at hc
  ·rename_i z hz; exact ⟨hc.1.1, hc.1.2, z, _, hz, FC hc.2, (by first | rfl | trivial)⟩
  ·exact hc.elim
 ·simp only [Yh]
  split at hc
  ·rename_i s hx; simp only [hx]; exact ⟨hc.1, hc.2, (by first | rfl | trivial)⟩
  ·rename_i s rows hx; simp only [hx]; exact ⟨hc.1, hc.2, (by first | rfl | trivial)⟩
  ·rename_i s hx; simp only [hx]; exact ⟨hc.1, hc.2, (by first | rfl | trivial)⟩
  ·rename_i u j lo len hx; simp only [hx]; exact ⟨hc.1, hc.2.1, oK hc.2.2, (by first | rfl | trivial)⟩
  ·exact hc.elim
 ·simp only [Yh]
  have hy := kG hc.2.1
  rw [hc.2.2] at hy
  exact ⟨_, _, _, kG hc.1, hy, (by first | rfl | trivial)⟩
 ·simp only [Yh]
  have hy := kG hc.2.1
  rw [hc.2.2] at hy
  exact ⟨_, _, _, kG hc.1, hy, (by first | rfl | trivial)⟩
 ·exact hc.elim
end Go.Vm
namespace Go.Vm
open Go.RowKit
def TY (P : Program) (σ : St) (T : TypeId) (size : Nat) : List (Nat × Operand) -> Nat -> Prop × List (List D)
 | [], _ => (True, [])
 | (i, x) :: ps, k => ((i = k /\ gOf (look P σ T x) = true /\ (unc (look P σ T x)).flat = true /\ Kz (unc (look P σ T x)).cells = true /\ (rowOf σ (unc (look P σ T x)).cells).isSome = true /\ ((rowOf σ (unc (look P σ T x)).cells).getD []).length = size) /\ (TY P σ T size ps (k + 1)).1,
   (rowOf σ (unc (look P σ T x)).cells).getD [] :: (TY P σ T size ps (k + 1)).2)
theorem DG {P : Program} {σ : St} {T : TypeId} {size : Nat} : ∀ {ps : List (Nat × Operand)} {k : Nat}, (TY P σ T size ps k).1 -> Gx P σ T size ps k (TY P σ T size ps k).2
 | [], _, _ => rfl
 | (_, x) :: _, _, h => by
  obtain ⟨⟨h1, h2, h3, h4, h5, h6⟩, h7⟩ := h
  obtain ⟨r, hr⟩ := Option.isSome_iff_exists.1 h5
  refine ⟨h1, h2, h3, h4, r, _, hr, ?_, DG h7, ?_⟩
  ·rw [hr] at h6; exact h6
  ·simp only [TY, hr, Option.getD_some]
def T8 (σ : St) (x : V) (size : Nat) : Prop × List (List D) × St :=
 match x with
 | .one (.nil _) => (True, [], σ)
 | .one (.sref t j lo len) => (match σ.ob t j with | .arr false s lC => (s = size /\ lo = 0 /\ len = lC.length, lC, σ.Z7 t j .none) | _ => (False, [], σ))
 | _ => (False, [], σ)
theorem tn {σ : St} {x : V} {size : Nat} (h : (T8 σ x size).1) : Tu σ x size (T8 σ x size).2.1 (T8 σ x size).2.2 := by
 unfold T8 at h ⊢
 split at h
 ·exact ⟨rfl, rfl⟩
 ·rename_i t j lo len
  split at h
  ·rename_i s lC ho
   obtain ⟨rfl, rfl, rfl⟩ := h
   exact ⟨lC, ho, rfl, Nat.le_refl _, (List.take_length).symm, rfl⟩
  ·exact h.elim
 ·exact h.elim
def Nc (σ : St) (x : V) (size : Nat) : Prop × List (List D) :=
 match x with
 | .one (.d (.sl s rows)) => (s = size, rows)
 | .one (.nil _) => (True, [])
 | .one (.sref t j lo len) => (match σ.ob t j with | .arr false s rows => (s = size /\ lo + len <= rows.length, cut rows lo len) | _ => (False, []))
 | _ => (False, [])
theorem sO {σ : St} {x : V} {size : Nat} (h : (Nc σ x size).1) : xh σ x size (Nc σ x size).2 := by
 unfold Nc at h ⊢
 split at h
 ·exact ⟨h, rfl⟩
 ·rfl
 ·rename_i t j lo len
  split at h
  ·rename_i s rows ho
   obtain ⟨rfl, hle⟩ := h
   exact ⟨rows, ho, hle, rfl⟩
  ·exact h.elim
 ·exact h.elim
def evS (P : Program) (σ : St) (o : Oper) (d : Nat) : Prop × St :=
 match o.op with
 | .alloc T => (match j5 P 12 T with | some row => (σ.fresh d = true /\ QF P T = true, σ.new d (.one (.bptr d 0)) [.box row]) | none => (False, σ))
 | .box T x => (σ.fresh d = true /\ gOf (look P σ T x) = true /\ (unc (look P σ T x)).flat = true /\ YS d (unc (look P σ T x)).cells = false, σ.new d (.one (.bptr d 0)) [.box (unc (look P σ T x)).cells])
 | .buildSlice T n parts => ((σ.fresh d = true /\ XK P T = true /\ QF P (ZU P T) = true /\ 0 < P.cellsOf (ZU P T) /\ parts.toList.length = n /\ n * P.cellsOf (ZU P T) <= 16777216) /\ (TY P σ (ZU P T) (P.cellsOf (ZU P T)) parts.toList 0).1,
   σ.new d (.one (.sref d 0 0 (TY P σ (ZU P T) (P.cellsOf (ZU P T)) parts.toList 0).2.length)) [.arr false (P.cellsOf (ZU P T)) (TY P σ (ZU P T) (P.cellsOf (ZU P T)) parts.toList 0).2])
 | .makeSlice T x y => (match j5 P 12 (ZU P T) with
   | some z => (match zD z with
    | some zr => ((x = y /\ σ.fresh d = true /\ XK P T = true /\ QF P (ZU P T) = true /\ 0 < P.cellsOf (ZU P T) /\ (lkI P σ x).1) /\ 0 <= (lkI P σ x).2 /\ P.bytesOf (ZU P T) * (lkI P σ x).2.toNat <= 281474976710656 /\ (lkI P σ x).2 <= 9223372036854775807,
      σ.new d (.one (.sref d 0 0 (lkI P σ x).2.toNat)) [.arr false (P.cellsOf (ZU P T)) (List.replicate (lkI P σ x).2.toNat zr)])
    | none => (False, σ))
   | none => (False, σ))
 | .call ⟨.builtin .append, ⟨[x, y]⟩, ⟨[t, t']⟩⟩ =>
   (((t = t' /\ gOf (look P σ t x) = true /\ gOf (look P σ t y) = true /\ XK P t = true /\ QF P (ZU P t) = true /\ 0 < P.cellsOf (ZU P t)) /\ (T8 σ (unc (look P σ t x)) (P.cellsOf (ZU P t))).1 /\ (Nc σ (unc (look P σ t y)) (P.cellsOf (ZU P t))).1 /\ (T8 σ (unc (look P σ t x)) (P.cellsOf (ZU P t))).2.2.fresh d = true) /\
    ((T8 σ (unc (look P σ t x)) (P.cellsOf (ZU P t))).2.1.length + (Nc σ (unc (look P σ t y)) (P.cellsOf (ZU P t))).2.length) * P.bytesOf (ZU P t) <= 140737488355328 /\
    (T8 σ (unc (look P σ t x)) (P.cellsOf (ZU P t))).2.1.length + (Nc σ (unc (look P σ t y)) (P.cellsOf (ZU P t))).2.length <= 9223372036854775807,
   (T8 σ (unc (look P σ t x)) (P.cellsOf (ZU P t))).2.2.new d (.one (.sref d 0 0 ((T8 σ (unc (look P σ t x)) (P.cellsOf (ZU P t))).2.1.length + (Nc σ (unc (look P σ t y)) (P.cellsOf (ZU P t))).2.length)))
    [.arr false (P.cellsOf (ZU P t)) ((T8 σ (unc (look P σ t x)) (P.cellsOf (ZU P t))).2.1 ++ (Nc σ (unc (look P σ t y)) (P.cellsOf (ZU P t))).2)])
 | op => ((evV P σ op o.type).1, σ.put d (evV P σ op o.type).2)
def B3 (P : Program) (σ : St) (T : TypeId) (x y : Operand) : Prop × St :=
 match unc (look P σ 0 x) with
 | .one (.bptr t c) => (match σ.ob t 0 with
  | .box cells => (qU P T = true /\ gOf (look P σ 0 x) = true /\ gOf (look P σ T y) = true /\ (unc (look P σ T y)).flat = true /\ (unc (look P σ T y)).cells.length = P.cellsOf T /\ c + P.cellsOf T <= cells.length, σ.Z7 t 0 (.box (place cells c (unc (look P σ T y)).cells)))
  | _ => (False, σ))
 | .one (.ptr t j i c) => (match σ.ob t j with
  | .arr q size rows => ((qU P T = true /\ gOf (look P σ 0 x) = true /\ gOf (look P σ T y) = true /\ (unc (look P σ T y)).flat = true /\ (rowOf σ (unc (look P σ T y)).cells).isSome = true /\ Kz (unc (look P σ T y)).cells = true /\ ((rowOf σ (unc (look P σ T y)).cells).getD []).length = P.cellsOf T /\ c + P.cellsOf T <= size) /\ i < rows.length /\ (q = true -> ((rowOf σ (unc (look P σ T y)).cells).getD []).all D.scalar = true /\ (cut (rowAt rows i) c (P.cellsOf T)).all D.scalar = true),
    σ.Z7 t j (.arr q size (rows.set i (place (rowAt rows i) c ((rowOf σ (unc (look P σ T y)).cells).getD [])))))
  | _ => (False, σ))
 | _ => (False, σ)
theorem tG {P : Program} {σ : St} {o : Oper} {d : Nat} (fe : ∀ c, o.op = .call c -> ∀ f, c.callee ≠ .value (.func f)) (hc : (evS P σ o d).1) : Step P o d σ (evS P σ o d).2 := by
 unfold evS at hc ⊢
 split at hc
 ·rename_i T lB
  unfold Step
  rw [lB]
  split at hc
  ·rename_i row lX; simp only [lX]; exact ⟨hc.1, hc.2, row, rfl, rfl⟩
  ·exact hc.elim
 ·rename_i T x lB
  unfold Step; rw [lB]
  exact ⟨hc.1, hc.2.1, hc.2.2.1, hc.2.2.2, rfl⟩
 ·rename_i T n parts lB
  unfold Step; rw [lB]
  obtain ⟨⟨h1, h2, h3, h4, h5, h6⟩, h7⟩ := hc
  exact ⟨h1, h2, h3, h4, h5, h6, .inl ⟨_, DG h7, rfl⟩⟩
 ·rename_i T x y lB
  unfold Step; rw [lB]
  split at hc
  ·rename_i z hz
   split at hc
   ·rename_i zr hP
    obtain ⟨⟨h1, h2, h3, h4, h5, h6⟩, h7, h8, h9⟩ := hc
    have hl := kG h6
    simp only [hz]
    refine ⟨h1, h2, h3, h4, h5, false, z, zr, lkK P σ x, (lkI P σ x).2.toNat, (fun hh => by cases hh), rfl, hP, ?_, h8, by omega, rfl⟩
    rw [Int.toNat_of_nonneg h7]; exact hl
   ·exact hc.elim
  ·exact hc.elim
 ·rename_i x y t t' lB
  unfold Step; rw [lB]
  obtain ⟨⟨⟨rfl, h1, h2, h3, h4, h5⟩, h6, h7, h8⟩, h9, fg⟩ := hc
  exact ⟨x, y, t, rfl, rfl, h1, h2, h3, h4, h5, _, _, _, tn h6, sO h7, h8, h9, fg, rfl⟩
 ·rename_i op h1 h2 h3 h4 h5
  have hv := wJ hc
  unfold Step
  split
  ·rename_i T lB; exact absurd lB (h1 T)
  ·rename_i T x lB; exact absurd lB (h2 T x)
  ·rename_i T n ps lB; exact absurd lB (h3 T n ps)
  ·rename_i T x y lB; exact absurd lB (h4 T x y)
  ·rename_i c lB
   split
   ·rename_i gr
    rw [lB] at hv
    simp only [Yh] at hv
    split at hv
    ·rename_i fh _ _; rw [gr] at fh; cases fh
    ·rename_i fh _; rw [gr] at fh; cases fh
    ·rename_i fh _; rw [gr] at fh; cases fh
    ·exact hv.elim
   ·rename_i f gr; exact absurd gr (fe c lB f)
   ·exact ⟨_, hv, rfl⟩
  ·exact .inl ⟨_, hv, rfl⟩
  ·exact ⟨_, hv, rfl⟩
theorem r4 {P : Program} {σ : St} {T : TypeId} {x y : Operand} (hc : (B3 P σ T x y).1) : y6 P σ T x y (B3 P σ T x y).2 := by
 unfold B3 at hc ⊢
 unfold y6
 split at hc
 ·rename_i t c hx
  split at hc
  ·rename_i cells ho
   obtain ⟨h1, h2, h3, h4, h5, h6⟩ := hc
   first | (rw [hx]; simp only [ho]) | simp only [ho]
   exact ⟨h1, h2, h3, h4, cells, rfl, h5, h6, rfl⟩
  ·exact hc.elim
 ·rename_i t j i c hx
  split at hc
  ·rename_i q size rows ho
   obtain ⟨⟨h1, h2, h3, h4, h5, h6, h7, h8⟩, h9, fg⟩ := hc
   obtain ⟨ds, eH⟩ := Option.isSome_iff_exists.1 h5
   first | (rw [hx]; simp only [ho]) | simp only [ho]
   refine ⟨h1, h2, h3, h4, q, size, rows, ds, rfl, h9, eH, h6, ?_, h8, fun hq => ?_, ?_⟩
   ·rw [eH] at h7; exact h7
   ·have := fg hq
    rw [eH] at this; exact this
   ·rw [eH]; rfl
  ·exact hc.elim
 ·exact hc.elim
def vE : List At -> Bool
 | [] => false
 | .nil _ :: _ => true
 | _ :: xs => vE xs
def vT (P : Program) (T : TypeId) : Bool := match j5 P 12 (ZU P T) with | some z => vE z | none => false
def CR : List At -> Bool
 | [] => true
 | .d (.sl _ _) :: _ => false
 | .d _ :: xs => CR xs
 | _ => false
def pd (P : Program) (σ : St) (T : TypeId) (x y : Operand) : Bool :=
 match unc (look P σ 0 x) with
 | .one (.ptr t j _ _) => (match σ.ob t j with | .arr true _ _ => !CR (unc (look P σ T y)).cells | _ => false)
 | .one (.tref _ _ _ _ (some _)) => true
 | _ => false
def stops (P : Program) (o : Oper) : Bool :=
 match o.op with
 | .call ⟨.value _, _, _⟩ => true
 | .call ⟨.builtin .append, _, ⟨t :: _⟩⟩ => vT P t
 | .buildSlice T _ _ => vT P T
 | .makeSlice T _ _ => vT P T
 | .makeFunc _ _ _ => true
 | .convert _ T _ => (wq P T).isNone
 | .indexAddr _ _ _ => o.guard.isSome
 | .index _ _ _ => o.guard.isSome
 | .slice _ _ _ _ _ => o.guard.isSome
 | _ => false
def yu (P : Program) (ops : Array Oper) (bar : Oper -> Bool) (o : Oper) (rest : List Oper) (σ : St) (Q : St -> Prop) : Prop := ∃ σ', yB P ops bar o σ σ' /\ Cd P ops bar rest σ' Q
def Ev (P : Program) (ops : Array Oper) (bar : Oper -> Bool) : List Oper -> St -> (St -> Prop) -> Prop
 | [], σ, Q => Q σ
 | o :: rest, σ, Q =>
  if stops P o then yu P ops bar o rest σ Q else
  match o.guard with
  | none =>
   (match o.dst with
   | some d => (evS P σ o d).1 /\ Ev P ops bar rest (evS P σ o d).2 Q
   | none => (match o.op with | .store T x y => if pd P σ T x y then yu P ops bar o rest σ Q else (B3 P σ T x y).1 /\ Ev P ops bar rest (B3 P σ T x y).2 Q | _ => False))
  | some (j, want) =>
   (match (ops[j]?).bind (·.dst), o.dst with
   | some dj, some d => (match jF want (σ.get dj) with
    | some g => (dj < σ.length /\ (g = true -> (evV P σ o.op o.type).1 /\ gOf (evV P σ o.op o.type).2 = true /\ (unc (evV P σ o.op o.type).2).flat = true)) /\ Ev P ops bar rest (σ.put d (.cnd g (unc (evV P σ o.op o.type).2))) Q
    | none => False)
   | _, _ => False)
theorem JO {P : Program} {ops : Array Oper} {bar : Oper -> Bool} : ∀ {l : List Oper} {σ : St} {Q : St -> Prop}, Ev P ops bar l σ Q -> Cd P ops bar l σ Q
 | [], _, _, h => h
 | o :: rest, σ, Q, h => by
  unfold Ev at h
  split at h
  ·exact h
  ·rename_i lZ
   have fe : ∀ c, o.op = .call c -> ∀ f, c.callee ≠ .value (.func f) := by
    intro c lB f gr
    obtain ⟨cc, ca, ct⟩ := c
    simp only at gr; subst gr
    exact lZ (by simp [stops, lB])
   split at h
   ·rename_i hg
    split at h
    ·rename_i d hd
     refine ⟨_, .inl ?_, JO h.2⟩
     unfold XS
     simp only [hg, hd]
     exact tG fe h.1
    ·rename_i hd
     split at h
     ·rename_i T x y lB
      split at h
      ·exact h
      ·refine ⟨_, .inl ?_, JO h.2⟩
       unfold XS
       simp only [hg, hd, lB]
       exact r4 h.1
     ·exact h.elim
   ·rename_i j want hg
    split at h
    ·rename_i dj d ig hd
     split at h
     ·rename_i g iu
      refine ⟨_, .inl ?_, JO h.2⟩
      unfold XS
      simp only [hg]
      refine ⟨dj, d, g, _, ig, h.1.1, hd, iu, fun dq => ?_, rfl⟩
      obtain ⟨h1, h2, h3⟩ := h.1.2 dq
      have base : ∃ v0, Yh P σ o.op o.type v0 /\ gOf v0 = true /\ unc (evV P σ o.op o.type).2 = unc v0 /\ (unc (evV P σ o.op o.type).2).flat = true := ⟨_, wJ h1, h2, rfl, h3⟩
      unfold MK
      split
      ·rename_i c lB
       split
       ·rename_i f gr; exact absurd gr (fe c lB f)
       ·exact base
      ·exact base
     ·exact h.elim
    ·exact h.elim
theorem oQ {P : Program} {Q : Exit -> St -> Prop} {σ : St} {id : Nat} {l : List Oper} {bar : Oper -> Bool} (h : Ev P l.toArray bar l σ (Q .normal)) : AWP P (.region id l.toArray false) Q σ := vF (JO h)
theorem Ao {P : Program} {ops : Array Oper} {bar : Oper -> Bool} {o : Oper} {rest : List Oper} {σ : St} {Q : St -> Prop} {c : Call} {f : FuncId} {d : Nat} {own : Bool} {rows res : List (List D)} (lB : o.op = .call c) (hc : c.callee = .value (.func f)) (hg : o.guard = none) (hd : o.dst = some d)
  (lH : Qp P σ c.args.toList c.argTypes.toList rows) (hs : Qz P f own rows res) (lZ : Yn P σ c.args.toList c.argTypes.toList = true \/ KR own res) (h : Ev P ops bar rest (σ.put d (jj res)) Q) : yu P ops bar o rest σ Q := by
 refine ⟨_, .inl ?_, JO h⟩
 unfold XS; simp only [hg, hd]
 unfold Step
 rw [lB]
 simp only [hc]
 exact .inl ⟨own, res, ⟨rows, lH, hs, lZ⟩, rfl⟩
theorem BM {P : Program} {ops : Array Oper} {bar : Oper -> Bool} {o : Oper} {rest : List Oper} {σ : St} {Q : St -> Prop} {c : Call} {f : FuncId} {d : Nat} {rows res : List (List D)} (lB : o.op = .call c) (hc : c.callee = .value (.func f)) (hg : o.guard = none) (hd : o.dst = some d)
  (lH : Qp P σ c.args.toList c.argTypes.toList rows) (hs : Qz P f true rows res) (lZ : Yn P σ c.args.toList c.argTypes.toList = true \/ KR true res) (hf : σ.fresh d = true) (h : Ev P ops bar rest (σ.new d (VS d res) (yq res.flatten)) Q) : yu P ops bar o rest σ Q := by
 refine ⟨_, .inl ?_, JO h⟩
 unfold XS; simp only [hg, hd]
 unfold Step
 rw [lB]
 simp only [hc]
 exact .inr (.inl ⟨res, ⟨rows, lH, hs, lZ⟩, hf, rfl⟩)
theorem wb {P : Program} {ops : Array Oper} {bar : Oper -> Bool} {o : Oper} {rest : List Oper} {σ : St} {Q : St -> Prop} {c : Call} {f : FuncId} {d j dj : Nat} {want g own : Bool} {rows : List (List D)} {res : List D} (lB : o.op = .call c) (hc : c.callee = .value (.func f)) (hg : o.guard = some (j, want)) (hd : o.dst = some d)
  (ig : (ops[j]?).bind (·.dst) = some dj) (lN : dj < σ.length) (iu : jF want (σ.get dj) = some g)
  (lH : g = true -> Qp P σ c.args.toList c.argTypes.toList rows) (hs : g = true -> Qz P f own rows [res]) (lZ : Yn P σ c.args.toList c.argTypes.toList = true \/ KR own [res]) (h : Ev P ops bar rest (σ.put d (.cnd g (jj [res]))) Q) : yu P ops bar o rest σ Q := by
 refine ⟨_, .inl ?_, JO h⟩
 unfold XS; simp only [hg]
 refine ⟨dj, d, g, _, ig, lN, hd, iu, fun dq => ?_, rfl⟩
 unfold MK
 rw [lB]
 simp only [hc]
 exact ⟨own, res, ⟨rows, lH dq, hs dq, lZ⟩, rfl⟩
theorem wc {P : Program} {ops : Array Oper} {bar : Oper -> Bool} {o : Oper} {rest : List Oper} {σ : St} {Q : St -> Prop} {S T : TypeId} {x : Operand} {d : Nat} {l : List UInt8} (lB : o.op = .convert S T x) (hg : o.guard = none) (hd : o.dst = some d)
  (h1 : gOf (look P σ S x) = true) (h2 : Ss P S = true) (h3 : Uc P T = true) (h4 : xh σ (unc (look P σ S x)) 1 (KM l)) (h : Ev P ops bar rest (σ.put d (.one (.d (.str ⟨l.toArray⟩)))) Q) : yu P ops bar o rest σ Q := by
 refine ⟨_, .inl ?_, JO h⟩
 unfold XS; simp only [hg, hd]
 unfold Step
 rw [lB]
 exact .inr (.inl ⟨l, h1, h2, h3, h4, rfl⟩)
theorem CN {P : Program} {ops : Array Oper} {bar : Oper -> Bool} {o : Oper} {rest : List Oper} {σ : St} {Q : St -> Prop} {S T : TypeId} {x : Operand} {d : Nat} {s : ByteArray} (lB : o.op = .convert S T x) (hg : o.guard = none) (hd : o.dst = some d)
  (h1 : gOf (look P σ S x) = true) (h2 : Uc P S = true) (h3 : Ss P T = true) (h4 : unc (look P σ S x) = .one (.d (.str s))) (h5 : s.size <= 9223372036854775807) (h : Ev P ops bar rest (σ.put d (.one (.d (.sl 1 (KM s.data.toList))))) Q) : yu P ops bar o rest σ Q := by
 refine ⟨_, .inl ?_, JO h⟩
 unfold XS; simp only [hg, hd]
 unfold Step
 rw [lB]
 exact .inr (.inr ⟨s, h1, h2, h3, h4, h5, rfl⟩)
theorem rk {P : Program} {ops : Array Oper} {bar : Oper -> Bool} {o : Oper} {rest : List Oper} {σ : St} {Q : St -> Prop} {d : Nat} (fe : ∀ c, o.op = .call c -> ∀ f, c.callee ≠ .value (.func f)) (hg : o.guard = none) (hd : o.dst = some d)
  (h1 : (evS P σ o d).1) (h : Ev P ops bar rest (evS P σ o d).2 Q) : yu P ops bar o rest σ Q := by
 refine ⟨_, .inl ?_, JO h⟩
 unfold XS; simp only [hg, hd]
 exact tG fe h1
theorem wE {P : Program} {ops : Array Oper} {bar : Oper -> Bool} {o : Oper} {rest : List Oper} {σ : St} {Q : St -> Prop} {c : Call} {f : FuncId} {d : Nat} {rows res : List (List D)} (qs : List Bool) (lB : o.op = .call c) (hc : c.callee = .value (.func f)) (hg : o.guard = none) (hd : o.dst = some d)
  (lH : Qp P σ c.args.toList c.argTypes.toList rows) (hs : Yv P f rows res) (hq : TH qs res.flatten) (hf : σ.fresh d = true) (h : Ev P ops bar rest (σ.new d (VS d res) (YO qs res.flatten)) Q) : yu P ops bar o rest σ Q := by
 refine ⟨_, .inl ?_, JO h⟩
 unfold XS; simp only [hg, hd]
 unfold Step
 rw [lB]
 simp only [hc]
 exact .inr (.inr ⟨rows, res, qs, lH, hs, hq, hf, rfl⟩)
def Kw (P : Program) (σ : St) (T : TypeId) (size : Nat) : List (Nat × Operand) -> Nat -> Prop × List (List At)
 | [], _ => (True, [])
 | (i, x) :: ps, k => ((i = k /\ gOf (look P σ T x) = true /\ (unc (look P σ T x)).flat = true /\ (unc (look P σ T x)).cells.length = size) /\ (Kw P σ T size ps (k + 1)).1, (unc (look P σ T x)).cells :: (Kw P σ T size ps (k + 1)).2)
theorem FI {P : Program} {σ : St} {T : TypeId} {size : Nat} : ∀ {ps : List (Nat × Operand)} {k : Nat}, (Kw P σ T size ps k).1 -> NN P σ T size ps k (Kw P σ T size ps k).2
 | [], _, _ => rfl
 | (_, x) :: _, _, h => by
  obtain ⟨⟨h1, h2, h3, h4⟩, h7⟩ := h
  exact ⟨h1, h2, h3, h4, _, FI h7, rfl⟩
theorem tP {P : Program} {ops : Array Oper} {bar : Oper -> Bool} {o : Oper} {rest : List Oper} {σ : St} {Q : St -> Prop} {d : Nat} {T : TypeId} {n : Nat} {parts : Array (Nat × Operand)} (lB : o.op = .buildSlice T n parts) (hg : o.guard = none) (hd : o.dst = some d)
  (h1 : σ.fresh d = true /\ XK P T = true /\ QF P (ZU P T) = true /\ 0 < P.cellsOf (ZU P T) /\ parts.toList.length = n /\ n * P.cellsOf (ZU P T) <= 16777216) (h2 : (Kw P σ (ZU P T) (P.cellsOf (ZU P T)) parts.toList 0).1)
  (h3 : YS d (Kw P σ (ZU P T) (P.cellsOf (ZU P T)) parts.toList 0).2.flatten = false)
  (h : Ev P ops bar rest (σ.new d (.one (.sref d 0 0 (Kw P σ (ZU P T) (P.cellsOf (ZU P T)) parts.toList 0).2.length)) [.lit (P.cellsOf (ZU P T)) (Kw P σ (ZU P T) (P.cellsOf (ZU P T)) parts.toList 0).2]) Q) : yu P ops bar o rest σ Q := by
 refine ⟨_, .inl ?_, JO h⟩
 unfold XS; simp only [hg, hd]
 unfold Step
 rw [lB]
 exact ⟨h1.1, h1.2.1, h1.2.2.1, h1.2.2.2.1, h1.2.2.2.2.1, h1.2.2.2.2.2, .inr ⟨_, FI h2, h3, rfl⟩⟩
theorem u9 {P : Program} {ops : Array Oper} {bar : Oper -> Bool} {o : Oper} {rest : List Oper} {σ : St} {Q : St -> Prop} {d : Nat} {T : TypeId} {x : Operand} {z : List At} {zr : List D} {n : Nat} (lB : o.op = .makeSlice T x x) (hg : o.guard = none) (hd : o.dst = some d)
  (hz : j5 P 12 (ZU P T) = some z) (hP : zD z = some zr) (bx : Mr z = true) (h1 : σ.fresh d = true /\ XK P T = true /\ QF P (ZU P T) = true /\ 0 < P.cellsOf (ZU P T) /\ (lkI P σ x).1) (hn : (lkI P σ x).2 = (n : Int)) (hb : P.bytesOf (ZU P T) * n <= 281474976710656) (hm : n <= 9223372036854775807)
  (h : Ev P ops bar rest (σ.new d (.one (.sref d 0 0 n)) [.arr true (P.cellsOf (ZU P T)) (List.replicate n zr)]) Q) : yu P ops bar o rest σ Q := by
 refine ⟨_, .inl ?_, JO h⟩
 unfold XS; simp only [hg, hd]
 unfold Step
 rw [lB]
 have hl := kG h1.2.2.2.2
 rw [hn] at hl
 exact ⟨rfl, h1.1, h1.2.1, h1.2.2.1, h1.2.2.2.1, true, z, zr, _, n, fun _ => bx, hz, hP, hl, hb, hm, rfl⟩
def W0 (σ : St) (x : V) (size : Nat) : Prop × List (List D) × List (Nat × Nat) :=
 match x with
 | .one (.nil _) => (True, [], [])
 | .one (.sref t j lo len) => (match σ.ob t j with | .arr true s lC => (s = size /\ lo = 0 /\ len = lC.length, lC, [(t, j)]) | _ => (False, [], []))
 | _ => (False, [], [])
theorem uD {σ : St} {x : V} {size : Nat} (h : (W0 σ x size).1) : ud σ x size (W0 σ x size).2.1 (W0 σ x size).2.2 := by
 unfold W0 at h ⊢
 split at h
 ·exact ⟨rfl, rfl⟩
 ·rename_i t j lo len
  split at h
  ·rename_i s lC ho
   obtain ⟨rfl, rfl, rfl⟩ := h
   exact ⟨ho, rfl, rfl, rfl⟩
  ·exact h.elim
 ·exact h.elim
def VV (σ : St) (x : V) (size : Nat) : Prop × List (List D) × List (Nat × Nat) :=
 match x with
 | .one (.sref t j lo len) => (match σ.ob t j with | .lit s rows => ((s = size /\ lo = 0 /\ len = rows.length) /\ (zd σ rows).isSome = true /\ Kk σ rows, (zd σ rows).getD [], Yg rows.flatten) | _ => (False, [], []))
 | _ => (False, [], [])
theorem uJ {σ : St} {x : V} {size : Nat} (h : (VV σ x size).1) : uA σ x size (VV σ x size).2.1 (VV σ x size).2.2 := by
 unfold VV at h ⊢
 split at h
 ·rename_i t j lo len
  split at h
  ·rename_i s rows ho
   obtain ⟨⟨rfl, rfl, rfl⟩, h1, h2⟩ := h
   obtain ⟨ns, fe⟩ := Option.isSome_iff_exists.1 h1
   exact ⟨rows, ho, rfl, rfl, by rw [fe]; rfl, h2, rfl⟩
  ·exact h.elim
 ·exact h.elim
theorem UX : ∀ (σ : St) (d : Nat) (v : V) (t : Nat), (σ.put d v)[t]? = if t = d then (σ[t]?).map (fun e => (v, e.2)) else σ[t]?
 | [], _, _, _ => by simp [St.put]
 | e :: σ, 0, v, t => by cases t <;> simp [St.put]
 | e :: σ, d + 1, v, t => by
  cases t with
  | zero => simp [St.put]
  | succ t => have := UX σ d v t; simpa [St.put] using this
theorem ql : ∀ (σ : St) (d : Nat) (v : V) (os : List Ob) (t : Nat), (σ.new d v os)[t]? = if t = d then (σ[t]?).map (fun _ => (v, os)) else σ[t]?
 | [], _, _, _, _ => by simp [St.new]
 | e :: σ, 0, v, os, t => by cases t <;> simp [St.new]
 | e :: σ, d + 1, v, os, t => by
  cases t with
  | zero => simp [St.new]
  | succ t => have := ql σ d v os t; simpa [St.new] using this
theorem qJ : ∀ (σ : St) (a j : Nat) (o : Ob) (t : Nat), (σ.Z7 a j o)[t]? = if t = a then (σ[t]?).map (fun e => (e.1, e.2.set j o)) else σ[t]?
 | [], _, _, _, _ => by simp [St.Z7]
 | e :: σ, 0, j, o, t => by cases t <;> simp [St.Z7]
 | e :: σ, a + 1, j, o, t => by
  cases t with
  | zero => simp [St.Z7]
  | succ t => have := qJ σ a j o t; simpa [St.Z7] using this
theorem Ux {σ : St} {d : Nat} : JB σ d = true ↔ σ[d]? = some (.any, []) \/ ∃ x, σ[d]? = some (.one (.d x), []) := by
 unfold JB
 constructor
 ·intro h
  split at h
  ·rename_i h1; exact .inl h1
  ·rename_i x h1; exact .inr ⟨x, h1⟩
  ·cases h
 ·rintro (h | ⟨x, h⟩) <;> rw [h]
theorem QL {σ : St} {d a j : Nat} {o : Ob} (h : JB σ d = true) : JB (σ.Z7 a j o) d = true := by
 rw [Ux] at *
 rw [qJ]
 rcases h with h | ⟨x, h⟩
 ·left; rw [h]; split <;> rfl
 ·right; refine ⟨x, ?_⟩; rw [h]; split <;> rfl
theorem JQ : ∀ {l : List (Nat × Nat)} {σ : St} {d : Nat}, JB σ d = true -> JB (σ.Zx l) d = true
 | [], _, _, h => h
 | p :: l, σ, d, h => by rw [St.Zx]; exact JQ (l := l) (QL h)
theorem R2 {σ : St} {d d' : Nat} {v : V} {os : List Ob} (lD : d ≠ d') (h : JB σ d = true) : JB (σ.new d' v os) d = true := by
 unfold JB at *; simp only [ql, if_neg lD]; exact h
theorem XQ {P : Program} {σ : St} {d : Nat} {v : V} {T : TypeId} {x : Operand} (h : xA d x = false) : look P (σ.put d v) T x = look P σ T x := by
 cases x with
 | tmp t =>
  have lD : t ≠ d := fun e => by subst e; simp [xA] at h
  simp [look, St.yS, lD]
 | const c => rfl
 | global g => rfl
 | func f => rfl
theorem xu : ∀ (σ : St) (d : Nat) (v : V) (t j : Nat) (o : Ob), (σ.put d v).Z7 t j o = (σ.Z7 t j o).put d v
 | [], _, _, _, _, _ => rfl
 | e :: σ, 0, v, 0, j, o => rfl
 | e :: σ, d + 1, v, 0, j, o => rfl
 | e :: σ, 0, v, t + 1, j, o => rfl
 | e :: σ, d + 1, v, t + 1, j, o => by simp [St.put, St.Z7, xu σ d v t j o]
theorem V3 {d : Nat} {v : V} : ∀ (l : List (Nat × Nat)) (σ : St), (σ.put d v).Zx l = (σ.Zx l).put d v
 | [], _ => rfl
 | p :: l, σ => by rw [St.Zx, St.Zx, xu, V3 l]
theorem MV {σ : St} {d : Nat} {v : V} : ∀ (xs : List At), Q7 (σ.put d v) xs = Q7 σ xs
 | [] => rfl
 | x :: xs => by
  have : mvD (σ.put d v) x = mvD σ x := by cases x <;> simp [mvD, St.JP]
  simp only [Q7, this, MV xs]
theorem S3 {σ : St} {d : Nat} {v : V} : ∀ (xs : List At), Qe (σ.put d v) xs = Qe σ xs
 | [] => rfl
 | x :: xs => by
  have : La (σ.put d v) x = La σ x := by cases x <;> simp [La, St.JP]
  simp only [Qe, this, S3 xs]
theorem Rz : ∀ (l : List (Nat × V)) (σ : St), (σ.JN l).ob = σ.ob
 | [], _ => rfl
 | p :: l, σ => by rw [St.JN, Rz l, St.JP]
theorem kM {P : Program} {T : TypeId} {x : Operand} : ∀ (l : List (Nat × V)) (σ : St), (∀ p ∈ l, xA p.1 x = false) -> look P (σ.JN l) T x = look P σ T x
 | [], _, _ => rfl
 | p :: l, σ, h => by rw [St.JN, kM l _ (fun q hq => h q (by simp [hq])), XQ (h p (by simp))]
theorem qf {t j : Nat} {o : Ob} : ∀ (l : List (Nat × V)) (σ : St), (σ.JN l).Z7 t j o = (σ.Z7 t j o).JN l
 | [], _ => rfl
 | p :: l, σ => by rw [St.JN, qf l, xu, St.JN]
theorem yH {L : List (Nat × Nat)} : ∀ (l : List (Nat × V)) (σ : St), (σ.JN l).Zx L = (σ.Zx L).JN l
 | [], _ => rfl
 | p :: l, σ => by rw [St.JN, yH l, V3, St.JN]
theorem vU : ∀ {σ : St} {t d : Nat} {v v' : V} {os : List Ob}, t ≠ d -> (σ.put t v').new d v os = (σ.new d v os).put t v'
 | [], _, _, _, _, _, _ => rfl
 | e :: σ, 0, 0, _, _, _, h => absurd rfl h
 | e :: σ, 0, d + 1, _, _, _, _ => rfl
 | e :: σ, t + 1, 0, _, _, _, _ => rfl
 | e :: σ, t + 1, d + 1, v, v', os, h => by simp [St.put, St.new, vU (σ := σ) (v := v) (v' := v') (os := os) (fun hh => h (congrArg (· + 1) hh))]
theorem B9 {d : Nat} {v : V} {os : List Ob} : ∀ (l : List (Nat × V)) (σ : St), (∀ p ∈ l, p.1 ≠ d) -> (σ.JN l).new d v os = (σ.new d v os).JN l
 | [], _, _ => rfl
 | p :: l, σ, h => by rw [St.JN, B9 l _ (fun q hq => h q (by simp [hq])), vU (h p (by simp)), St.JN]
theorem Pg {d : Nat} {v : V} (hv : v.ref d = false) : ∀ {σ : St} {k t : Nat}, zy d k σ = true -> zy d k (σ.put t v) = true
 | [], _, _, h => h
 | e :: σ, k, 0, h => by
  simp only [zy, St.put, Bool.and_eq_true, Bool.or_eq_true, Bool.not_eq_true'] at h ⊢
  exact ⟨h.1.imp id (fun hh => ⟨hv, hh.2⟩), h.2⟩
 | e :: σ, k, t + 1, h => by
  simp only [zy, St.put, Bool.and_eq_true] at h ⊢
  exact ⟨h.1, Pg hv h.2⟩
theorem Tv {d : Nat} : ∀ (l : List (Nat × V)) {σ : St}, (∀ p ∈ l, p.2.ref d = false) -> σ.fresh d = true -> (σ.JN l).fresh d = true
 | [], _, _, h => h
 | p :: l, σ, hl, h => by
  refine Tv l (fun q hq => hl q (by simp [hq])) ?_
  simp only [St.fresh, Bool.and_eq_true, decide_eq_true_eq, St.JU] at h ⊢
  exact ⟨h.1, Pg (hl p (by simp)) h.2⟩
theorem Wt {o : Oper} {x y : Operand} {t : TypeId} (lB : o.op = .call ⟨.builtin .append, #[x, y], #[t, t]⟩) {n : Nat} (h : Pf o n = true) : xA n x = false /\ xA n y = false := by
 have hx : x ∈ o.op.operands.toList := by rw [lB]; simp [Op.operands, Call.operands]
 have hy : y ∈ o.op.operands.toList := by rw [lB]; simp [Op.operands, Call.operands]
 simp only [Pf, Bool.not_eq_true'] at h
 exact ⟨Bool.eq_false_iff.2 (List.any_eq_false.1 h x hx), Bool.eq_false_iff.2 (List.any_eq_false.1 h y hy)⟩
theorem As {σ σ' : St} (h : σ'.ob = σ.ob) : ∀ (xs : List At), Q7 σ' xs = Q7 σ xs
 | [] => rfl
 | x :: xs => by
  have : mvD σ' x = mvD σ x := by cases x <;> simp [mvD, h]
  simp only [Q7, this, As h xs]
theorem I2 {σ σ' : St} (h : σ'.ob = σ.ob) : ∀ (xs : List At), Qe σ' xs = Qe σ xs
 | [] => rfl
 | x :: xs => by
  have : La σ' x = La σ x := by cases x <;> simp [La, h]
  simp only [Qe, this, I2 h xs]
theorem DZ {σ σ' : St} (h : σ'.ob = σ.ob) : ∀ (xs : List (List At)), zd σ' xs = zd σ xs
 | [] => rfl
 | x :: xs => by simp only [zd, As h, DZ h xs]
theorem LO {σ σ' : St} (h : σ'.ob = σ.ob) : ∀ (xs : List (List At)), Kk σ' xs = Kk σ xs
 | [] => rfl
 | x :: xs => by simp only [Kk, I2 h, LO h xs]
theorem rE {σ σ' : St} (h : σ'.ob = σ.ob) {x : V} {size : Nat} {lC : List (List D)} {l : List (Nat × Nat)} (hd : ud σ x size lC l) : ud σ' x size lC l := by
 unfold ud at *; rw [h]; exact hd
theorem rR {σ σ' : St} (h : σ'.ob = σ.ob) {x : V} {size : Nat} {news : List (List D)} {l : List (Nat × Nat)} (hd : uA σ x size news l) : uA σ' x size news l := by
 unfold uA at *
 simp only [h, DZ h, LO h]; exact hd
theorem rO {σ σ' : St} (h : σ'.ob = σ.ob) {x : V} {size : Nat} {lC : List (List D)} {l : List (Nat × Nat)} (hd : B1 σ x size lC l) : B1 σ' x size lC l := by
 unfold B1 at *; rw [h]; exact hd
theorem Dp {d : Nat} : ∀ {os : List Ob} {j : Nat} {cells : List At}, Y2 d os = false -> Yr os j = .box cells -> YS d cells = false
 | [], j, cells, _, h => by simp [Yr] at h
 | o :: os, 0, cells, hr, h => by
  simp only [Yr, List.getElem?_cons_zero] at h
  subst h
  simp only [Y2, Bool.or_eq_false_iff] at hr; exact hr.1
 | o :: os, j + 1, cells, hr, h => by
  have h' : Yr os j = .box cells := by simpa [Yr] using h
  refine Dp (os := os) (j := j) ?_ h'
  cases o <;> simp only [Y2, Bool.or_eq_false_iff] at hr <;> first | exact hr.2 | exact hr
theorem Gu {P : Program} {ops : Array Oper} {o : Oper} {σ X : St} {d : Nat} {v : V} {os : List Ob} (hd : o.dst = some d) (hlen : X.length = σ.length) (l8 : ∀ t, X.get t = σ.get t) (g6 : ∀ t j cells, X.ob t j = .box cells -> σ.ob t j = .box cells)
  (iQ : ∀ t j q s rows, X.ob t j = .arr q s rows -> ∃ lF, σ.ob t j = .arr q s lF) (hf : X.fresh d = true)
  (hs : ∀ l : List (Nat × V), (∀ p ∈ l, p.1 ≠ d /\ Pf o p.1 = true /\ p.2.ref d = false) -> Vv P ops o (σ.JN l) ((X.JN l).new d v os)) (hc : ∀ l : List (Nat × V), Px o (σ.JN l) ((X.JN l).new d v os)) : nS P ops o σ (X.new d v os) := by
 have lN := St.yY hf
 have aZ : ∀ t e, X[t]? = some e -> t ≠ d -> e.1.ref d = false /\ Y2 d e.2 = false := fun t e he lD => by
  have h1 := hf
  simp only [St.fresh, Bool.and_eq_true] at h1
  exact yh h1.2 t e he (by omega)
 refine ⟨d, hd, by rw [St.TZ, hlen], fun t lD => ?_, fun t j cells lD hb => ?_, fun t j q s rows lD hb => ?_, fun l hl => ?_⟩
 ·rw [St.Tb, if_neg (fun hh => lD hh.1), l8]
  refine ⟨rfl, ?_⟩
  rw [<- l8]
  unfold St.get
  cases he : X[t]? with
  | none => rfl
  | some e => exact (aZ t e he lD).1
 ·rw [St.Ko, if_neg (fun hh => lD hh.1)] at hb
  refine ⟨g6 t j cells hb, ?_⟩
  unfold St.ob at hb
  cases he : X[t]? with
  | none => rw [he] at hb; cases hb
  | some e => rw [he] at hb; exact Dp (aZ t e he lD).2 hb
 ·rw [St.Ko, if_neg (fun hh => lD hh.1)] at hb
  exact iQ t j q s rows hb
 ·have e := B9 (d := d) (v := v) (os := os) l X (fun p hp => (hl p hp).1)
  rw [<- e]
  exact ⟨hs l hl, hc l⟩
theorem HC {σ : St} {L : List (Nat × Nat)} {t j : Nat} {cells : List At} (h : (σ.Zx L).ob t j = .box cells) : σ.ob t j = .box cells := by
 rw [St.Kl] at h
 split at h
 ·cases h
 ·exact h
theorem HI {σ : St} {L : List (Nat × Nat)} {t j : Nat} {q : Bool} {s : Nat} {rows : List (List D)} (h : (σ.Zx L).ob t j = .arr q s rows) : σ.ob t j = .arr q s rows := by
 rw [St.Kl] at h
 split at h
 ·cases h
 ·exact h
theorem tk {P : Program} {ops : Array Oper} {bar : Oper -> Bool} {o : Oper} {rest : List Oper} {σ : St} {Q : St -> Prop} {d : Nat} {x y : Operand} {t : TypeId} {lC news : List (List D)} {l1 l2 : List (Nat × Nat)} {size : Nat} (lB : o.op = .call ⟨.builtin .append, #[x, y], #[t, t]⟩) (hg : o.guard = none) (hd : o.dst = some d) (ln : bar o = true)
  (l7 : size = P.cellsOf (ZU P t)) (h1 : gOf (look P σ t x) = true /\ gOf (look P σ t y) = true /\ XK P t = true /\ QF P (ZU P t) = true /\ 0 < P.cellsOf (ZU P t))
  (h2 : (W0 σ (unc (look P σ t x)) size).1 /\ (W0 σ (unc (look P σ t x)) size).2 = (lC, l1)) (h3 : (VV σ (unc (look P σ t y)) size).1 /\ (VV σ (unc (look P σ t y)) size).2 = (news, l2))
  (h4 : (l1 ++ l2).Nodup /\ (σ.Zx (l1 ++ l2)).fresh d = true) (h5 : (lC.length + news.length) * P.bytesOf (ZU P t) <= 140737488355328 /\ lC.length + news.length <= 9223372036854775807)
  (h : Ev P ops bar rest ((σ.Zx (l1 ++ l2)).new d (.one (.sref d 0 0 (lC.length + news.length))) [.arr true size (lC ++ news)]) Q) : yu P ops bar o rest σ Q := by
 subst l7
 have e1 := uD h2.1
 have e2 := uJ h3.1
 rw [h2.2] at e1
 rw [h3.2] at e2
 have cl : ∀ σ0 : St, Px o σ0 ((σ0.Zx (l1 ++ l2)).new d (.one (.sref d 0 0 (lC.length + news.length))) [.arr true (P.cellsOf (ZU P t)) (lC ++ news)]) := fun σ0 d' lQ hc => R2 (fun e => lQ (by rw [hd, e])) (JQ hc)
 have go : ∀ l : List (Nat × V), (∀ p ∈ l, p.1 ≠ d /\ Pf o p.1 = true /\ p.2.ref d = false) -> Vv P ops o (σ.JN l) (((σ.JN l).Zx (l1 ++ l2)).new d (.one (.sref d 0 0 (lC.length + news.length))) [.arr true (P.cellsOf (ZU P t)) (lC ++ news)]) := by
  rintro l hl T0 B a w K Q' ⟨X, hh, r⟩ hK
  have hw : Region.wanted o (yielded ops a.tmps) = true := by simp [Region.wanted, hg]
  rw [if_pos hw]
  have lx : look P (σ.JN l) t x = look P σ t x := kM l σ (fun p hp => (Wt lB (hl p hp).2.1).1)
  have ly : look P (σ.JN l) t y = look P σ t y := kM l σ (fun p hp => (Wt lB (hl p hp).2.1).2)
  refine EK r lB hd (by rw [lx]; exact h1.1) (by rw [ly]; exact h1.2.1) h1.2.2.1 h1.2.2.2.1 h1.2.2.2.2 (by rw [lx]; exact rE (Rz l σ) e1) (by rw [ly]; exact rR (Rz l σ) e2) h4.1 ?_ h5.1 h5.2 hK
  rw [yH]
  exact Tv l (fun p hp => (hl p hp).2.2) h4.2
 have aa : Vv P ops o σ ((σ.Zx (l1 ++ l2)).new d (.one (.sref d 0 0 (lC.length + news.length))) [.arr true (P.cellsOf (ZU P t)) (lC ++ news)]) := go [] (fun p hp => by cases hp)
 refine ⟨_, .inr ⟨ln, aa, cl σ, fun hh => by simp [OO, lB] at hh, fun _ => Gu hd (St.Kn _ _) (fun t => St.xW _ _ t) (fun t j cells hb => HC hb) (fun t j q s rows hb => ⟨rows, HI hb⟩) h4.2 (fun l hl => ?_) (fun l => ?_)⟩, JO h⟩
 ·rw [<- yH]; exact go l hl
 ·rw [<- yH]; exact cl _
theorem tL {P : Program} {ops : Array Oper} {bar : Oper -> Bool} {o : Oper} {rest : List Oper} {σ : St} {Q : St -> Prop} {d : Nat} {x y : Operand} {t : TypeId} {rows : List (List D)} {size u j len lo n : Nat} (lB : o.op = .call ⟨.builtin .append, #[x, y], #[t, t]⟩) (hg : o.guard = none) (hd : o.dst = some d) (ln : bar o = true)
  (l7 : size = P.cellsOf (ZU P t)) (h1 : gOf (look P σ t x) = true /\ gOf (look P σ t y) = true /\ XK P t = true /\ QF P (ZU P t) = true /\ 0 < P.cellsOf (ZU P t))
  (h2 : unc (look P σ t x) = .one (.sref u j 0 len)) (h3 : unc (look P σ t y) = .one (.sref u j lo n)) (ho : σ.ob u j = .arr true size rows) (hle : len <= lo) (fL : lo + n <= rows.length)
  {news : List (List D)} (iE : cut rows lo n = news) (h4 : (σ.Z7 u j .none).fresh d = true) (h5 : (len + n) * P.bytesOf (ZU P t) <= 140737488355328 /\ len + n <= 9223372036854775807)
  (h : Ev P ops bar rest ((σ.Z7 u j .none).new d (.one (.sref d 0 0 ((rows.take len).length + news.length))) [.arr true size (rows.take len ++ news)]) Q) : yu P ops bar o rest σ Q := by
 subst l7
 subst iE
 rw [XH _ _ _ fL, List.length_take, Nat.min_eq_left (by omega)] at h
 have cl : ∀ σ0 : St, Px o σ0 ((σ0.Z7 u j .none).new d (.one (.sref d 0 0 (len + n))) [.arr true (P.cellsOf (ZU P t)) (rows.take len ++ cut rows lo n)]) := fun σ0 d' lQ hc => R2 (fun e => lQ (by rw [hd, e])) (QL hc)
 have go : ∀ l : List (Nat × V), (∀ p ∈ l, p.1 ≠ d /\ Pf o p.1 = true /\ p.2.ref d = false) -> Vv P ops o (σ.JN l) (((σ.JN l).Z7 u j .none).new d (.one (.sref d 0 0 (len + n))) [.arr true (P.cellsOf (ZU P t)) (rows.take len ++ cut rows lo n)]) := by
  rintro l hl T0 B a w K Q' ⟨X, hh, r⟩ hK
  have hw : Region.wanted o (yielded ops a.tmps) = true := by simp [Region.wanted, hg]
  rw [if_pos hw]
  have lx : look P (σ.JN l) t x = look P σ t x := kM l σ (fun p hp => (Wt lB (hl p hp).2.1).1)
  have ly : look P (σ.JN l) t y = look P σ t y := kM l σ (fun p hp => (Wt lB (hl p hp).2.1).2)
  refine F8 r lB hd (by rw [lx]; exact h1.1) (by rw [ly]; exact h1.2.1) h1.2.2.1 h1.2.2.2.1 h1.2.2.2.2 (by rw [lx]; exact h2) (by rw [ly]; exact h3) (by rw [Rz]; exact ho) hle fL ?_ h5.1 h5.2 hK
  show ((σ.JN l).Z7 u j .none).fresh d = true
  rw [qf]
  exact Tv l (fun p hp => (hl p hp).2.2) h4
 have aa : Vv P ops o σ ((σ.Z7 u j .none).new d (.one (.sref d 0 0 (len + n))) [.arr true (P.cellsOf (ZU P t)) (rows.take len ++ cut rows lo n)]) := go [] (fun p hp => by cases hp)
 refine ⟨_, .inr ⟨ln, aa, cl σ, fun hh => by simp [OO, lB] at hh, fun _ => Gu hd (St.Xv _ _ _ _) (fun t => St.QK _ _ _ _ t) (fun t i cells hb => HC (L := [(u, j)]) hb) (fun t i q s rows hb => ⟨rows, HI (L := [(u, j)]) hb⟩) h4 (fun l hl => ?_) (fun l => ?_)⟩, JO h⟩
 ·rw [<- qf]; exact go l hl
 ·rw [<- qf]; exact cl _
theorem tF {P : Program} {ops : Array Oper} {bar : Oper -> Bool} {o : Oper} {rest : List Oper} {σ : St} {Q : St -> Prop} {d : Nat} {x y : Operand} {t : TypeId} {lC rows news : List (List D)} {l1 : List (Nat × Nat)} {size u j lo n : Nat} (lB : o.op = .call ⟨.builtin .append, #[x, y], #[t, t]⟩) (hg : o.guard = none) (hd : o.dst = some d) (ln : bar o = true)
  (l7 : size = P.cellsOf (ZU P t)) (h1 : gOf (look P σ t x) = true /\ gOf (look P σ t y) = true /\ XK P t = true /\ QF P (ZU P t) = true /\ 0 < P.cellsOf (ZU P t))
  (h2 : B1 σ (unc (look P σ t x)) size lC l1) (h3 : unc (look P σ t y) = .one (.sref u j lo n)) (ho : σ.ob u j = .arr true size rows) (cy : (u, j) ∉ l1) (hle : lo + n <= rows.length) (iE : cut rows lo n = news)
  (h4 : ((σ.Z7 u j (.arr true size (JY rows lo n))).Zx l1).fresh d = true) (h5 : (lC.length + n) * P.bytesOf (ZU P t) <= 140737488355328 /\ lC.length + n <= 9223372036854775807)
  (h : Ev P ops bar rest (((σ.Z7 u j (.arr true size (JY rows lo n))).Zx l1).new d (.one (.sref d 0 0 (lC.length + news.length))) [.arr true size (lC ++ news)]) Q) : yu P ops bar o rest σ Q := by
 subst l7
 subst iE
 rw [XH _ _ _ hle] at h
 have cl : ∀ σ0 : St, Px o σ0 (((σ0.Z7 u j (.arr true (P.cellsOf (ZU P t)) (JY rows lo n))).Zx l1).new d (.one (.sref d 0 0 (lC.length + n))) [.arr true (P.cellsOf (ZU P t)) (lC ++ cut rows lo n)]) := fun σ0 d' lQ hc => R2 (fun e => lQ (by rw [hd, e])) (JQ (QL hc))
 have go : ∀ l : List (Nat × V), (∀ p ∈ l, p.1 ≠ d /\ Pf o p.1 = true /\ p.2.ref d = false) -> Vv P ops o (σ.JN l) ((((σ.JN l).Z7 u j (.arr true (P.cellsOf (ZU P t)) (JY rows lo n))).Zx l1).new d (.one (.sref d 0 0 (lC.length + n))) [.arr true (P.cellsOf (ZU P t)) (lC ++ cut rows lo n)]) := by
  rintro l hl T0 B a w K Q' ⟨X, hh, r⟩ hK
  have hw : Region.wanted o (yielded ops a.tmps) = true := by simp [Region.wanted, hg]
  rw [if_pos hw]
  have lx : look P (σ.JN l) t x = look P σ t x := kM l σ (fun p hp => (Wt lB (hl p hp).2.1).1)
  have ly : look P (σ.JN l) t y = look P σ t y := kM l σ (fun p hp => (Wt lB (hl p hp).2.1).2)
  refine EZ r lB hd (by rw [lx]; exact h1.1) (by rw [ly]; exact h1.2.1) h1.2.2.1 h1.2.2.2.1 h1.2.2.2.2 (by rw [lx]; exact rO (Rz l σ) h2) (by rw [ly]; exact h3) (by rw [Rz]; exact ho) hle cy ?_ h5.1 h5.2 hK
  rw [qf, yH]
  exact Tv l (fun p hp => (hl p hp).2.2) h4
 have lV : σ.ob u j ≠ .none := by rw [ho]; simp
 have aa : Vv P ops o σ (((σ.Z7 u j (.arr true (P.cellsOf (ZU P t)) (JY rows lo n))).Zx l1).new d (.one (.sref d 0 0 (lC.length + n))) [.arr true (P.cellsOf (ZU P t)) (lC ++ cut rows lo n)]) := go [] (fun p hp => by cases hp)
 refine ⟨_, .inr ⟨ln, aa, cl σ, fun hh => by simp [OO, lB] at hh, fun _ => Gu hd (by rw [St.Kn, St.Xv]) (fun t => by rw [St.xW, St.QK]) (fun t i cells hb => ?_) (fun t i q s lF hb => ?_) h4 (fun l hl => ?_) (fun l => ?_)⟩, JO h⟩
 ·have hb := HC hb
  rw [St.JH σ u j _ t i lV] at hb
  split at hb
  ·cases hb
  ·exact hb
 ·have hb := HI hb
  rw [St.JH σ u j _ t i lV] at hb
  split at hb
  ·rename_i hc; cases hb; rw [hc.1, hc.2]; exact ⟨rows, ho⟩
  ·exact ⟨lF, hb⟩
 ·rw [<- yH, <- qf]; exact go l hl
 ·rw [<- yH, <- qf]; exact cl _
theorem A7 {f : At -> Bool} {v : V} (hv : v.zl f = false) : ∀ {σ : St} {d : Nat}, σ.zl f = false -> (σ.put d v).zl f = false
 | [], _, _ => rfl
 | e :: σ, 0, h => by simp only [St.zl, Bool.or_eq_false_iff] at h; simp [St.put, St.zl, hv, h.1.2, h.2]
 | e :: σ, d + 1, h => by simp only [St.zl, Bool.or_eq_false_iff] at h; simp [St.put, St.zl, h.1.1, h.1.2, A7 hv h.2]
theorem LP {σ : St} : ∀ {xs : List At} {ds : List D}, Q7 σ xs = some ds -> ∀ p ∈ Yg xs, ∃ q s rows, σ.ob p.1 p.2 = .arr q s rows
 | [], _, _, p, hp => by cases hp
 | x :: xs, ds, h, p, hp => by
  simp only [Q7] at h
  split at h
  ·rename_i d hQ h1 h2
   have ih := LP h2
   cases x with
   | sref t j lo len =>
    simp only [Yg, List.mem_cons] at hp
    rcases hp with rfl | hp
    ·simp only [mvD] at h1
     split at h1
     ·rename_i q s rows ho; exact ⟨q, s, rows, ho⟩
     ·cases h1
    ·exact ih p hp
   | _ => exact ih p hp
  ·cases h
theorem N7 {σ : St} {L : List (Nat × Nat)} {t j t' size lW : Nat} {q q' : Bool} {rows lF : List (List D)} {cells : List At} {xs : List At} {ds : List D} (hm : Q7 σ xs = some ds) (hL : Yg xs = L) (ho : σ.ob t j = .arr q size rows) (hn : (t, j) ∉ L) (hb : σ.ob t' 0 = .box cells) :
  ((σ.Zx L).Z7 t j (.arr q' lW lF)).ob t' 0 = .box cells := by
 have h1 : (σ.Zx L).ob t j ≠ .none := by rw [St.Kl, if_neg hn, ho]; simp
 rw [St.JH _ t j _ t' 0 h1]
 split
 ·rename_i hc; rw [hc.1, hc.2, ho] at hb; cases hb
 ·rw [St.Kl]
  split
  ·rename_i hc
   obtain ⟨q, s, rows, he⟩ := LP hm (t', 0) (by rw [hL]; exact hc)
   rw [he] at hb; cases hb
  ·exact hb
structure StM (P : Program) (σ : St) (T : TypeId) (x y : Operand) (t j i c size : Nat) (rows : List (List D)) (ds : List D) (l : List (Nat × Nat)) : Prop where
 hx : unc (look P σ 0 x) = .one (.ptr t j i c)
 ho : σ.ob t j = .arr true size rows
 hi : i < rows.length
 h1 : qU P T = true /\ gOf (look P σ 0 x) = true /\ gOf (look P σ T y) = true /\ (unc (look P σ T y)).flat = true
 h2 : Q7 σ (unc (look P σ T y)).cells = some ds
 h3 : Qe σ (unc (look P σ T y)).cells
 h4 : Yg (unc (look P σ T y)).cells = l
 h5 : l.Nodup /\ (t, j) ∉ l /\ (σ.Zx l).zl (At.isT t) = false
 h6 : ds.length = P.cellsOf T /\ c + P.cellsOf T <= size
theorem StM.JN {P : Program} {o : Oper} {T : TypeId} {x y : Operand} (lB : o.op = .store T x y) {t j i c size : Nat} {rows : List (List D)} {ds : List D} {l : List (Nat × Nat)} : ∀ (q : List (Nat × V)) {σ : St}, (∀ p ∈ q, Wh o p.1 = true /\ Mg p.2 = true) -> StM P σ T x y t j i c size rows ds l -> StM P (σ.JN q) T x y t j i c size rows ds l
 | [], _, _, h => h
 | p :: q, σ, hq, h => by
  refine StM.JN lB q (fun p' fN => hq p' (by simp [fN])) ?_
  obtain ⟨hu, hp⟩ := hq p (by simp)
  simp only [Wh, lB, Bool.and_eq_true, Bool.not_eq_true'] at hu
  have hv : p.2.zl (At.isT t) = false := by
   generalize p.2 = v at hp
   unfold Mg at hp
   split at hp <;> first | rfl | cases hp
  refine ⟨?_, ?_, h.hi, ?_, ?_, ?_, ?_, ⟨h.h5.1, h.h5.2.1, ?_⟩, h.h6⟩
  ·rw [XQ hu.1]; exact h.hx
  ·rw [St.JP]; exact h.ho
  ·rw [XQ hu.1, XQ hu.2]; exact h.h1
  ·rw [XQ hu.2, MV]; exact h.h2
  ·rw [XQ hu.2, S3]; exact h.h3
  ·rw [XQ hu.2]; exact h.h4
  ·rw [V3]; exact A7 hv h.h5.2.2
theorem NJ {l : List (Nat × Nat)} {t j : Nat} {ob : Ob} : ∀ (q : List (Nat × V)) (σ : St), ((σ.JN q).Zx l).Z7 t j ob = ((σ.Zx l).Z7 t j ob).JN q
 | [], _ => rfl
 | p :: q, σ => by rw [St.JN, St.JN, NJ q, V3, xu]
theorem MM {P : Program} {ops : Array Oper} {o : Oper} {σ : St} {T : TypeId} {x y : Operand} {t j i c size : Nat} {rows : List (List D)} {ds : List D} {l : List (Nat × Nat)} (lB : o.op = .store T x y) (hg : o.guard = none) (hd : o.dst = none) (h : StM P σ T x y t j i c size rows ds l) :
  Vv P ops o σ ((σ.Zx l).Z7 t j (.arr true size (rows.set i (place (rowAt rows i) c ds)))) := by
 obtain ⟨hx, ho, hi, h1, h2, h3, h4, h5, h6⟩ := h
 subst h4
 rintro T0 B a w K Q' ⟨X, hh, r⟩ hK
 have hw : Region.wanted o (yielded ops a.tmps) = true := by simp [Region.wanted, hg]
 rw [if_pos hw]
 exact IS r lB hd h1.1 h1.2.1 h1.2.2.1 hx ho hi h1.2.2.2 h2 h3 h5.1 h5.2.1 h5.2.2 h6.1 h6.2 hK
theorem tB {P : Program} {ops : Array Oper} {bar : Oper -> Bool} {o : Oper} {rest : List Oper} {σ : St} {Q : St -> Prop} {T : TypeId} {x y : Operand} {t j i c size : Nat} {rows : List (List D)} {ds : List D} {l : List (Nat × Nat)} (lB : o.op = .store T x y) (hg : o.guard = none) (hd : o.dst = none) (ln : bar o = true)
  (hx : unc (look P σ 0 x) = .one (.ptr t j i c)) (ho : σ.ob t j = .arr true size rows) (hi : i < rows.length) (h1 : qU P T = true /\ gOf (look P σ 0 x) = true /\ gOf (look P σ T y) = true /\ (unc (look P σ T y)).flat = true)
  (h2 : Q7 σ (unc (look P σ T y)).cells = some ds) (h3 : Qe σ (unc (look P σ T y)).cells) (h4 : Yg (unc (look P σ T y)).cells = l) (h5 : l.Nodup /\ (t, j) ∉ l /\ (σ.Zx l).zl (At.isT t) = false) (h6 : ds.length = P.cellsOf T /\ c + P.cellsOf T <= size)
  (h : Ev P ops bar rest ((σ.Zx l).Z7 t j (.arr true size (rows.set i (place (rowAt rows i) c ds)))) Q) : yu P ops bar o rest σ Q := by
 have hm : StM P σ T x y t j i c size rows ds l := ⟨hx, ho, hi, h1, h2, h3, h4, h5, h6⟩
 refine ⟨_, .inr ⟨ln, MM lB hg hd hm, fun d' _ hc => QL (JQ hc), fun _ => ⟨⟨by rw [St.Xv, St.Kn], fun u => by rw [St.QK, St.xW]⟩, fun q hq => ?_, fun t' cells hb => ?_⟩, fun hh => by simp [Sj, lB] at hh⟩, JO h⟩
 ·rw [<- NJ]
  exact ⟨MM lB hg hd (hm.JN lB q hq), fun d' _ hc => QL (JQ hc)⟩
 ·exact N7 hm.h2 hm.h4 hm.ho hm.h5.2.1 hb
theorem E9 {P : Program} {ops : Array Oper} {o : Oper} {σ : St} {T : TypeId} {x y : Operand} {t j i size : Nat} {rows : List (List D)} {ds : List D} {l : List (Nat × Nat)} (lB : o.op = .store T x y) (hg : o.guard = none) (hd : o.dst = none) (iN : ds.length = size) (h : StM P σ T x y t j i 0 size rows ds l) :
  Vv P ops o σ ((σ.Zx l).Z7 t j (.arr true size (rows.set i ds))) := by
 rintro T0 B a w K Q' ⟨X, hh, r⟩ hK
 refine MM lB hg hd h T0 B a w K Q' ⟨X, hh, r⟩ ?_
 have h0 := r.obj t j
 rw [h.ho] at h0
 obtain ⟨_, _, _, hz, _⟩ := h0
 have e : place (rowAt rows i) 0 ds = ds := by
  have hr : (rowAt rows i).length = size := by
   have : rowAt rows i = rows[i]'h.hi := by simp [rowAt, List.getD_eq_getElem?_getD, List.getElem?_eq_getElem h.hi]
   rw [this]; exact hz _ (List.getElem_mem h.hi)
  unfold place
  rw [List.take_zero, List.nil_append, List.drop_eq_nil_of_le (by omega), List.append_nil]
 rw [e]; exact hK
theorem tQ {P : Program} {ops : Array Oper} {bar : Oper -> Bool} {o : Oper} {rest : List Oper} {σ : St} {Q : St -> Prop} {T : TypeId} {x y : Operand} {t j i size : Nat} {rows : List (List D)} {ds : List D} {l : List (Nat × Nat)} (lB : o.op = .store T x y) (hg : o.guard = none) (hd : o.dst = none) (ln : bar o = true)
  (hx : unc (look P σ 0 x) = .one (.ptr t j i 0)) (ho : σ.ob t j = .arr true size rows) (hi : i < rows.length) (h1 : qU P T = true /\ gOf (look P σ 0 x) = true /\ gOf (look P σ T y) = true /\ (unc (look P σ T y)).flat = true)
  (h2 : Q7 σ (unc (look P σ T y)).cells = some ds) (h3 : Qe σ (unc (look P σ T y)).cells) (h4 : Yg (unc (look P σ T y)).cells = l) (h5 : l.Nodup /\ (t, j) ∉ l /\ (σ.Zx l).zl (At.isT t) = false) (h6 : ds.length = P.cellsOf T /\ P.cellsOf T = size)
  (h : Ev P ops bar rest ((σ.Zx l).Z7 t j (.arr true size (rows.set i ds))) Q) : yu P ops bar o rest σ Q := by
 have hm : StM P σ T x y t j i 0 size rows ds l := ⟨hx, ho, hi, h1, h2, h3, h4, h5, h6.1, by omega⟩
 have hf : ds.length = size := by omega
 refine ⟨_, .inr ⟨ln, E9 lB hg hd hf hm, fun d' _ hc => QL (JQ hc), fun _ => ⟨⟨by rw [St.Xv, St.Kn], fun u => by rw [St.QK, St.xW]⟩, fun q hq => ?_, fun t' cells hb => ?_⟩, fun hh => by simp [Sj, lB] at hh⟩, JO h⟩
 ·rw [<- NJ]
  exact ⟨E9 lB hg hd hf (hm.JN lB q hq), fun d' _ hc => QL (JQ hc)⟩
 ·exact N7 hm.h2 hm.h4 hm.ho hm.h5.2.1 hb
structure StN (P : Program) (σ : St) (T : TypeId) (x y : Operand) (t j i c k q n size : Nat) (s rows : List (List D)) (ds : List D) (l : List (Nat × Nat)) : Prop where
 hx : unc (look P σ 0 x) = .one (.tref t j i c (some (k * n + q)))
 ho : σ.ob t j = .arr true size rows
 hi : i < rows.length
 hc : (rows.getD i [])[c]? = some (.sl n s)
 hk : k < s.length
 h1 : qU P T = true /\ gOf (look P σ 0 x) = true /\ gOf (look P σ T y) = true /\ (unc (look P σ T y)).flat = true
 h2 : Q7 σ (unc (look P σ T y)).cells = some ds
 h3 : Qe σ (unc (look P σ T y)).cells
 h4 : Yg (unc (look P σ T y)).cells = l
 h5 : l.Nodup /\ (t, j) ∉ l
 h6 : ds.length = P.cellsOf T /\ q + P.cellsOf T <= n
theorem StN.JN {P : Program} {o : Oper} {T : TypeId} {x y : Operand} (lB : o.op = .store T x y) {t j i c k n0 n size : Nat} {s rows : List (List D)} {ds : List D} {l : List (Nat × Nat)} : ∀ (q : List (Nat × V)) {σ : St}, (∀ p ∈ q, Wh o p.1 = true /\ Mg p.2 = true) -> StN P σ T x y t j i c k n0 n size s rows ds l -> StN P (σ.JN q) T x y t j i c k n0 n size s rows ds l
 | [], _, _, h => h
 | p :: q, σ, hq, h => by
  refine StN.JN lB q (fun p' fN => hq p' (by simp [fN])) ?_
  obtain ⟨hu, hp⟩ := hq p (by simp)
  simp only [Wh, lB, Bool.and_eq_true, Bool.not_eq_true'] at hu
  refine ⟨?_, ?_, h.hi, h.hc, h.hk, ?_, ?_, ?_, ?_, h.h5, h.h6⟩
  ·rw [XQ hu.1]; exact h.hx
  ·rw [St.JP]; exact h.ho
  ·rw [XQ hu.1, XQ hu.2]; exact h.h1
  ·rw [XQ hu.2, MV]; exact h.h2
  ·rw [XQ hu.2, S3]; exact h.h3
  ·rw [XQ hu.2]; exact h.h4
theorem E6 {P : Program} {ops : Array Oper} {o : Oper} {σ : St} {T : TypeId} {x y : Operand} {t j i c k q n size : Nat} {s rows : List (List D)} {ds : List D} {l : List (Nat × Nat)} (lB : o.op = .store T x y) (hg : o.guard = none) (hd : o.dst = none) (h : StN P σ T x y t j i c k q n size s rows ds l) :
  Vv P ops o σ ((σ.Zx l).Z7 t j (.arr true size (rows.set i (place (rowAt rows i) c [.sl n (s.set k (place (rowAt s k) q ds))])))) := by
 obtain ⟨hx, ho, hi, hc, hk, h1, h2, h3, h4, h5, h6⟩ := h
 subst h4
 rintro T0 B a w K Q' ⟨X, hh, r⟩ hK
 have hw : Region.wanted o (yielded ops a.tmps) = true := by simp [Region.wanted, hg]
 rw [if_pos hw]
 exact Ii r lB hd h1.1 h1.2.1 h1.2.2.1 hx ho hi hc hk h1.2.2.2 h2 h3 h5.1 h5.2 h6.1 h6.2 hK
theorem tf {P : Program} {ops : Array Oper} {bar : Oper -> Bool} {o : Oper} {rest : List Oper} {σ : St} {Q : St -> Prop} {T : TypeId} {x y : Operand} {t j i c k q n size : Nat} {s rows : List (List D)} {ds : List D} {l : List (Nat × Nat)} (lB : o.op = .store T x y) (hg : o.guard = none) (hd : o.dst = none) (ln : bar o = true)
  (hm : StN P σ T x y t j i c k q n size s rows ds l)
  (h : Ev P ops bar rest ((σ.Zx l).Z7 t j (.arr true size (rows.set i (place (rowAt rows i) c [.sl n (s.set k (place (rowAt s k) q ds))])))) Q) : yu P ops bar o rest σ Q := by
 refine ⟨_, .inr ⟨ln, E6 lB hg hd hm, fun d' _ hc => QL (JQ hc), fun _ => ⟨⟨by rw [St.Xv, St.Kn], fun u => by rw [St.QK, St.xW]⟩, fun q hq => ?_, fun t' cells hb => ?_⟩, fun hh => by simp [Sj, lB] at hh⟩, JO h⟩
 ·rw [<- NJ]
  exact ⟨E6 lB hg hd (hm.JN lB q hq), fun d' _ hc => QL (JQ hc)⟩
 ·exact N7 hm.h2 hm.h4 hm.ho hm.h5.2 hb
end Go.Vm
namespace Go.Vm
open Go.RowKit
def P7 (P : Program) (σ : St) : ResultVar -> Prop × List At
 | .tmp t => (match σ.get t with
  | .one x => (t < σ.length, [x])
  | .agg [] => (t < σ.length, [])
  | .agg (x :: y :: xs) => (t < σ.length, x :: y :: xs)
  | _ => (False, []))
 | .cell t T => (match σ.get t with
  | .one (.bptr u c) => (match σ.ob u 0 with
    | .box cells => (qU P T = true /\ TQ P T = true /\ P.cellsOf T ≠ 1 /\ c + P.cellsOf T <= cells.length, cut cells c (P.cellsOf T))
    | _ => (False, []))
  | _ => (False, []))
def Kp (P : Program) (σ : St) : List ResultVar -> Prop × List (List At)
 | [] => (True, [])
 | r :: rs => ((P7 P σ r).1 /\ (Kp P σ rs).1, (P7 P σ r).2 :: (Kp P σ rs).2)
theorem uW {P : Program} {σ : St} {r : ResultVar} (h : (P7 P σ r).1) : GW P σ r (P7 P σ r).2 := by
 cases r with
 | tmp t =>
  simp only [P7] at h ⊢
  simp only [GW]
  cases hx : σ.get t with
  | one x => rw [hx] at h; exact ⟨rfl, h⟩
  | agg xs =>
   rw [hx] at h
   match xs, h with
   | [], h => exact ⟨rfl, h⟩
   | [x], h => exact h.elim
   | x :: y :: xs, h => exact ⟨rfl, h⟩
  | any => rw [hx] at h; exact h.elim
  | tup xs => rw [hx] at h; exact h.elim
  | cnd g x => rw [hx] at h; exact h.elim
  | fix u x => rw [hx] at h; exact h.elim
 | cell t T =>
  simp only [P7] at h ⊢
  split at h
  ·rename_i u c hx
   split at h
   ·rename_i cells ho
    exact ⟨u, c, cells, hx, ho, h.1, h.2.1, h.2.2.1, h.2.2.2, rfl⟩
   ·exact h.elim
  ·exact h.elim
theorem S9 {P : Program} {σ : St} : ∀ {rs : List ResultVar}, (Kp P σ rs).1 -> OG P σ rs (Kp P σ rs).2
 | [], _ => rfl
 | _ :: _, h => ⟨_, _, uW h.1, S9 h.2, rfl⟩
theorem pH {P : Program} {fn : Func} {σ : St} {res : List (List D)} {rv : List ResultVar} (hf : fn.results = rv.toArray) (h : (Kp P σ rv).1 /\ TW σ (Kp P σ rv).2 = some res) : AM P fn false res .ret σ :=
 ⟨.inl rfl, _, by rw [hf]; exact S9 h.1, by simpa using h.2⟩
theorem oT {P : Program} {fn : Func} {σ : St} {res : List (List D)} {rv : List ResultVar} (hf : fn.results = rv.toArray) (h : (Kp P σ rv).1 /\ UJ σ (Kp P σ rv).2 = some res /\ (Yg (Kp P σ rv).2.flatten).Nodup) : AM P fn true res .ret σ :=
 ⟨.inl rfl, _, by rw [hf]; exact S9 h.1, by simpa using h.2⟩
theorem FL {P : Program} {fn : Func} {σ : St} {res : List (List D)} {rv : List ResultVar} (hf : fn.results = rv.toArray) (h : (Kp P σ rv).1 /\ zd σ (Kp P σ rv).2 = some res /\ Kk σ (Kp P σ rv).2 /\ (Yg (Kp P σ rv).2.flatten).Nodup) : uX P fn res .ret σ :=
 ⟨.inl rfl, _, by rw [hf]; exact S9 h.1, h.2⟩
attribute [simp] B1 zd Q7 mvD Kk Qe La YO TH Kw W0 VV St.Zx vE vT CR pd WS Tj Mr St.zl V.zl V.AY Di Uo yp At.isT
attribute [simp] isB bOf Ev stops evS B3 evV DQ wW Sq RG z7 Tn TY T8 Nc lkI lkK Vm.look cst unc gOf jF V.flat V.cells St.put St.Z7 St.new St.tg St.tu St.rb St.ri uM uc tj
 G8 RW ldV cut place rowOf z4 Kz At.Cm Qp V.Kv Yn jj VS DS vOf KG yq Kp P7 TW UJ ownRow je Yg WQ Nt YS At.ref D.scalar KR D.Cf zD sX jz
end Go.Vm
namespace Go.Vm
open Go.RowKit
def pL (w : World) (S : Nat -> Prop) (cs : List Value) (lj : List D) (x : D) (e : Ending) (w' : World) : Prop :=
 ∃ u, e = .returned u /\ Rd (fun _ _ => False) w' u x /\ Y7 (fun b => b < w.heap.size /\ ¬ S b) w w' /\ Jo w' cs lj (fun b => S b \/ (w.heap.size <= b /\ b < w'.heap.size))
def KQ (P : Program) (f : FuncId) (row : List D) (args : List (List D)) (lj : List D) (x : D) : Prop :=
 MP P f = true /\ ∀ (T : CS) (S : Nat -> Prop) (w : World) (v : Value) (cs lu : List Value), (∀ b k, T b k -> b < w.heap.size /\ ¬ S b) -> (∀ b, S b -> b < w.heap.size) -> Kr v cs -> Jo w cs row S ->
  YA (fun v row => ∃ cs, Kr v cs /\ YA (Rd T w) cs row) lu args -> Calls P f (v :: lu).toArray w (pL w S cs lj x)
section
variable {P : Program} {T0 : CS} {B : Nat -> Prop} {σ : St} {a : Act} {w w' : World} {X X' : Nat -> Prop} {h : Nat -> Nat -> Hd}
theorem Rel.vW (r : Rel T0 B σ a w X h) (σ' : St) (hlen : σ'.length = σ.length) (l8 : ∀ t, σ'.get t = σ.get t) (L : Nat -> Nat -> Prop) (hL : ∀ t j, L t j -> σ.ob t j ≠ .none) (lV : ∀ t j, ¬ L t j -> σ'.ob t j = σ.ob t j) (gC : ∀ t j, L t j -> (σ.ob t j).wN (σ'.ob t j))
  (l7 : w.heap.size <= w'.heap.size) (hw : ∀ k, k < w.heap.size -> (∀ t j, L t j -> ¬ (h t j).u k) -> w'.heap[k]? = w.heap[k]?)
  (h' : Nat -> Nat -> Hd) (hh : ∀ t j, ¬ L t j -> h' t j = h t j) (hv : ∀ t j, L t j -> (h' t j).v = (h t j).v) (hu : ∀ t j b, L t j -> (h' t j).u b -> (∃ t' j', L t' j' /\ (h t' j').u b) \/ (w.heap.size <= b /\ b < w'.heap.size))
  (hO : ∀ t j b, L t j -> blk (h' t j).v = some b -> (h' t j).u b) (dB : ∀ t j t' j' b, L t j -> L t' j' -> (h' t j).u b -> (h' t' j').u b -> t = t' /\ j = j')
  (p : At -> Bool) (hp : σ.zl p = false) (hn : ∀ t j, L t j -> (∀ i c o, p (.tref t j i c o) = true) \/ (h' t j).n = (h t j).n)
  (fQ : ∀ t j, L t j -> zR (Tof T0 X) h' σ'.ob w' (h' t j) (σ'.ob t j)) : Rel T0 B σ' a w' X h' := by
 have hT : ∀ b k v, Tof T0 X b k -> w.cell? ⟨b, k, none⟩ = some v -> w'.cell? ⟨b, k, none⟩ = some v /\ Tof T0 X b k := by
  intro b k v hb lK
  refine ⟨?_, hb⟩
  have hk : ∀ t j, L t j -> ¬ (h t j).u b := by
   intro t j hl iP
   have lG := r.own t j b (hL t j hl) iP
   rcases hb with hb | hb
   ·exact lG.1 (r.hT _ _ hb)
   ·exact lG.2.1 hb
  rw [World.cell?_of_block (hw b (r.Tlt hb) hk)]; exact lK
 have dD : ∀ u i, (h' u i).v = (h u i).v := by
  intro u i
  by_cases hc : L u i
  ·exact hv u i hc
  ·rw [hh u i hc]
 have dE : ∀ u i q size rows, σ'.ob u i = .arr q size rows -> ∃ lJ, σ.ob u i = .arr q size lJ /\ lJ.length = rows.length := by
  intro u i q size rows ho
  by_cases hc : L u i
  ·have h1 := gC u i hc
   rw [ho] at h1
   cases lz : σ.ob u i with
   | arr q0 s0 r0 => rw [lz] at h1; obtain ⟨rfl, rfl, hl⟩ := h1; exact ⟨r0, rfl, hl⟩
   | none => rw [lz] at h1; exact h1.elim
   | box c => rw [lz] at h1; exact h1.elim
   | lit s r => rw [lz] at h1; exact h1.elim
  ·rw [lV u i hc] at ho; exact ⟨rows, ho, rfl⟩
 have hll : ∀ u i size rows, σ'.ob u i = .lit size rows -> ∃ lJ, σ.ob u i = .lit size lJ /\ lJ.length = rows.length := by
  intro u i size rows ho
  by_cases hc : L u i
  ·have h1 := gC u i hc
   rw [ho] at h1
   cases lz : σ.ob u i with
   | arr q0 s0 r0 => rw [lz] at h1; exact h1.elim
   | none => rw [lz] at h1; exact h1.elim
   | box c => rw [lz] at h1; exact h1.elim
   | lit s r => rw [lz] at h1; obtain ⟨rfl, hl⟩ := h1; exact ⟨r, rfl, hl⟩
  ·rw [lV u i hc] at ho; exact ⟨rows, ho, rfl⟩
 have eW : ∀ u i cells, σ'.ob u i = .box cells -> ∃ lv, σ.ob u i = .box lv := by
  intro u i cells ho
  by_cases hc : L u i
  ·have h1 := gC u i hc
   rw [ho] at h1
   cases lz : σ.ob u i with
   | arr q0 s0 r0 => rw [lz] at h1; exact h1.elim
   | none => rw [lz] at h1; exact h1.elim
   | box c => exact ⟨c, rfl⟩
   | lit s r => rw [lz] at h1; exact h1.elim
  ·rw [lV u i hc] at ho; exact ⟨cells, ho⟩
 have at_ : ∀ {x : At} {v : Value}, p x = false -> YK (Tof T0 X) h σ.ob w x v -> YK (Tof T0 X) h' σ'.ob w' x v := by
  intro x v cT rx
  cases x with
  | any => exact rx
  | d x => exact Rd.mono hT rx
  | nil s => exact rx
  | sref u i lo len =>
   refine ⟨rx.1, fun q size rows ho => ?_, fun size rows ho => ?_⟩
   ·obtain ⟨lJ, lz, hl⟩ := dE u i q size rows ho
    rw [dD, <- hl]; exact rx.2.1 q size lJ lz
   ·obtain ⟨lJ, lz, hl⟩ := hll u i size rows ho
    rw [dD, <- hl]; exact rx.2.2 size lJ lz
  | ptr u i k c =>
   refine ⟨rx.1, fun q size rows ho => ?_⟩
   obtain ⟨lJ, lz, hl⟩ := dE u i q size rows ho
   rw [dD]; exact rx.2 q size lJ lz
  | bptr u c =>
   refine ⟨rx.1, fun cells ho => ?_⟩
   obtain ⟨lv, lz⟩ := eW u 0 cells ho
   rw [dD]; exact rx.2 lv lz
  | fn f u =>
   refine ⟨rx.1, fun cells ho => ?_⟩
   obtain ⟨lv, lz⟩ := eW u 0 cells ho
   rw [dD]; exact rx.2 lv lz
  | tref u i k c o =>
   refine ⟨rx.1, fun size rows ho => ?_⟩
   obtain ⟨lJ, lz, hl⟩ := dE u i true size rows ho
   have h1 := rx.2 size lJ lz
   by_cases hc : L u i
   ·rcases hn u i hc with hn | hn
    ·rw [hn] at cT; cases cT
    ·rw [hn]; exact h1
   ·rw [hh u i hc]; exact h1
  | rptr rr c =>
   obtain ⟨b, off, g, e, hk⟩ := rx
   exact ⟨b, off, g, e, fun k d hd => ⟨(hT _ _ _ (hk k d hd).2.1 (hk k d hd).1).1, (hk k d hd).2.1, Rd.mono hT (hk k d hd).2.2⟩⟩
 have l4 : ∀ u i, σ'.ob u i ≠ .none -> σ.ob u i ≠ .none := by
  intro u i l0
  by_cases iP : L u i
  ·exact hL u i iP
  ·rw [lV u i iP] at l0; exact l0
 refine ⟨by rw [r.size, hlen], r.defers, fun b hb => Nat.lt_of_lt_of_le (r.hB b hb) l7, fun b hb => ⟨(r.hX b hb).1, Nat.lt_of_lt_of_le (r.hX b hb).2 l7⟩, r.hT, fun u iP => ?_, fun u i => ?_, fun u i b' lD lM => ?_, fun u i b' lD lM => ?_, fun u i u' i' b' lD ld iz iJ => ?_⟩
 ·rw [hlen] at iP
  rw [l8]; exact JD.map at_ (St.NW hp u) (r.slot u iP)
 ·by_cases hc : L u i
  ·exact fQ u i hc
  ·rw [lV u i hc, hh u i hc]
   exact zR.map at_ hT (fun ho b => r.ub u i b ho) (fun ho b hb => hw b (r.own u i b ho hb).2.2 (fun t j hl hbt => by
    obtain ⟨e1, e2⟩ := r.inj u i t j b ho (hL t j hl) hb hbt
    rw [e1, e2] at hc; exact hc hl)) (St.Iw hp u i) (r.obj u i)
 ·by_cases hc : L u i
  ·exact hO u i b' hc lM
  ·rw [hh u i hc] at lM ⊢; exact r.ub u i b' (l4 u i lD) lM
 ·by_cases hc : L u i
  ·rcases hu u i b' hc lM with ⟨t, j, hl, h1⟩ | h1
   ·have := r.own t j b' (hL t j hl) h1; exact ⟨this.1, this.2.1, by omega⟩
   ·exact ⟨fun hb => by have := r.hB b' hb; omega, fun hx => by have := (r.hX b' hx).2; omega, h1.2⟩
  ·rw [hh u i hc] at lM; have := r.own u i b' (l4 u i lD) lM; exact ⟨this.1, this.2.1, by omega⟩
 ·by_cases hc : L u i
  ·by_cases lg : L u' i'
   ·exact dB u i u' i' b' hc lg iz iJ
   ·rw [hh u' i' lg] at iJ
    rcases hu u i b' hc iz with ⟨t, j, hl, h1⟩ | h1
    ·obtain ⟨e1, e2⟩ := r.inj t j u' i' b' (hL t j hl) (l4 u' i' ld) h1 iJ
     rw [e1, e2] at hl; exact absurd hl lg
    ·have := r.own u' i' b' (l4 u' i' ld) iJ; omega
  ·rw [hh u i hc] at iz
   by_cases lg : L u' i'
   ·rcases hu u' i' b' lg iJ with ⟨t, j, hl, h1⟩ | h1
    ·obtain ⟨e1, e2⟩ := r.inj t j u i b' (hL t j hl) (l4 u i lD) h1 iz
     rw [e1, e2] at hl; exact absurd hl hc
    ·have := r.own u i b' (l4 u i lD) iz; omega
   ·rw [hh u' i' lg] at iJ
    exact r.inj u i u' i' b' (l4 u i lD) (l4 u' i' ld) iz iJ
theorem vg {cs : List Value} {row : List D} {S : Nat -> Prop} (ho : Jo w cs row S) : ∃ (hf : Nat -> Hd) (Sk : Nat -> Nat -> Prop), (∀ j c, cs[j]? = some c -> (hf j).v = c) /\ (∀ k b, Sk k b -> S b) /\ (∀ i j b, Sk i b -> Sk j b -> i = j) /\
  ∀ j size rows, row[j]? = some (.sl size rows) -> (∀ b, (hf j).u b -> Sk j b) /\ (∀ b, blk (hf j).v = some b -> (hf j).u b) /\ ∀ T h ob, zR T h ob w (hf j) (.arr true size rows) := by
 obtain ⟨hl, Sk, h1, h2, h3⟩ := ho
 have hex : ∀ j, ∃ hd : Hd, (∀ c, cs[j]? = some c -> hd.v = c) /\ (∀ size rows, row[j]? = some (.sl size rows) -> (∀ b, hd.u b -> Sk j b) /\ (∀ b, blk hd.v = some b -> hd.u b) /\ ∀ T h ob, zR T h ob w hd (.arr true size rows)) := by
  intro j
  cases hj : row[j]? with
  | none => exact ⟨Hd.of ((cs[j]?).getD undef), fun c lg => by simp [Hd.of, lg], fun size rows hh => by cases hh⟩
  | some dd =>
   have fk : j < cs.length := by rw [hl]; exact (List.getElem?_eq_some_iff.1 hj).1
   have eT : cs[j]? = some cs[j] := List.getElem?_eq_getElem fk
   cases dd with
   | int k n => exact ⟨Hd.of cs[j], fun c lg => by rw [eT] at lg; cases lg; rfl, fun size rows hh => by cases hh⟩
   | bool k => exact ⟨Hd.of cs[j], fun c lg => by rw [eT] at lg; cases lg; rfl, fun size rows hh => by cases hh⟩
   | str k => exact ⟨Hd.of cs[j], fun c lg => by rw [eT] at lg; cases lg; rfl, fun size rows hh => by cases hh⟩
   | unk => exact ⟨Hd.of cs[j], fun c lg => by rw [eT] at lg; cases lg; rfl, fun size rows hh => by cases hh⟩
   | sl size rows =>
    have ho := h1 j _ _ eT hj
    generalize hv : cs[j] = v at ho
    cases ho with
    | sl v size rows S e xs da ho hz hb hl hk gS lQ =>
     refine ⟨⟨v, fun k => (xs[k]?).getD undef, Sk j⟩, fun c lg => by rw [eT, hv] at lg; cases lg; rfl, fun lW lF hh => ?_⟩
     cases hh
     exact ⟨fun b hb => hb, hb, fun T h ob => ⟨e, xs, ho, hz, ⟨hl, da, hk, fun k b hb => gS k b hb, lQ⟩, fun k x d hx _ _ => by simp [hx]⟩⟩
 obtain ⟨hf, ee⟩ := Classical.axiomOfChoice hex
 exact ⟨hf, Sk, fun j => (ee j).1, h2, h3, fun j => (ee j).2⟩
theorem Jo.top {T : CS} {cs : List Value} {row : List D} {S : Nat -> Prop} (ho : Jo w cs row S) : YA (Wj T w) cs row := by
 obtain ⟨hl, Sk, h1, h2, h3⟩ := ho
 refine YA.jf hl (fun k x d hx hd => ?_)
 have ho := h1 k x d hx hd
 cases ho with
 | int k n => exact Rd.int _ _
 | bool b => exact Rd.bool _
 | str s => exact Rd.str _
 | unk v h => exact Rd.unk _ h
 | sl v size rows S e xs da ho hz hb hl hk gS lQ => exact ⟨e, xs, ho⟩
theorem yC : ∀ (ds : List D) (k : Nat) (size : Nat) (rows : List (List D)), ds[k]? = some (.sl size rows) -> Yr (YO [] ds) k = .arr true size rows
 | [], k, size, rows, h => by simp at h
 | .sl s r :: ds, 0, size, rows, h => by simp at h; obtain ⟨rfl, rfl⟩ := h; rfl
 | .int _ _ :: ds, 0, size, rows, h => by simp at h
 | .bool _ :: ds, 0, size, rows, h => by simp at h
 | .str _ :: ds, 0, size, rows, h => by simp at h
 | .unk :: ds, 0, size, rows, h => by simp at h
 | .sl s r :: ds, k + 1, size, rows, h => by have := yC ds k size rows (by simpa using h); simpa [YO, Yr] using this
 | .int _ _ :: ds, k + 1, size, rows, h => by have := yC ds k size rows (by simpa using h); simpa [YO, Yr] using this
 | .bool _ :: ds, k + 1, size, rows, h => by have := yC ds k size rows (by simpa using h); simpa [YO, Yr] using this
 | .str _ :: ds, k + 1, size, rows, h => by have := yC ds k size rows (by simpa using h); simpa [YO, Yr] using this
 | .unk :: ds, k + 1, size, rows, h => by have := yC ds k size rows (by simpa using h); simpa [YO, Yr] using this
theorem xr : ∀ (ds : List D) (k : Nat), Yr (YO [] ds) k ≠ .none -> ∃ size rows, ds[k]? = some (.sl size rows)
 | [], k, h => by simp [YO, Yr] at h
 | .sl s r :: ds, 0, h => ⟨s, r, rfl⟩
 | .int _ _ :: ds, 0, h => by simp [YO, Yr] at h
 | .bool _ :: ds, 0, h => by simp [YO, Yr] at h
 | .str _ :: ds, 0, h => by simp [YO, Yr] at h
 | .unk :: ds, 0, h => by simp [YO, Yr] at h
 | .sl s r :: ds, k + 1, h => by have := xr ds k (by simpa [YO, Yr] using h); simpa using this
 | .int _ _ :: ds, k + 1, h => by have := xr ds k (by simpa [YO, Yr] using h); simpa using this
 | .bool _ :: ds, k + 1, h => by have := xr ds k (by simpa [YO, Yr] using h); simpa using this
 | .str _ :: ds, k + 1, h => by have := xr ds k (by simpa [YO, Yr] using h); simpa using this
 | .unk :: ds, k + 1, h => by have := xr ds k (by simpa [YO, Yr] using h); simpa using this
theorem DK {σ : St} {t : Nat} : ∀ (ds : List D) (k : Nat), (∀ i size rows, ds[i]? = some (.sl size rows) -> σ.ob t (k + i) = .arr true size rows) ->
  Q7 σ (KG t k ds) = some ds /\ Qe σ (KG t k ds) /\ (Yg (KG t k ds)).Nodup /\ ∀ p ∈ Yg (KG t k ds), p.1 = t /\ k <= p.2
 | [], k, _ => ⟨rfl, trivial, List.nodup_nil, fun p hp => by cases hp⟩
 | d :: ds, k, ho => by
  obtain ⟨h1, h2, h3, h4⟩ := DK ds (k + 1) (fun i size rows hi => by rw [show k + 1 + i = k + (i + 1) by omega]; exact ho (i + 1) size rows (by simpa using hi))
  cases d with
  | sl size rows =>
   have h0 := ho 0 size rows (by simp)
   rw [Nat.add_zero] at h0
   refine ⟨by simp [KG, Q7, mvD, h0, h1], ⟨by simp [La, h0], h2⟩, ?_, fun p hp => ?_⟩
   ·simp only [KG, Yg, List.nodup_cons]
    exact ⟨fun hm => by have := (h4 _ hm).2; simp at this; omega, h3⟩
   ·simp only [KG, Yg, List.mem_cons] at hp
    rcases hp with rfl | hp
    ·exact ⟨rfl, Nat.le_refl _⟩
    ·have := h4 p hp; exact ⟨this.1, by omega⟩
  | int k' n => exact ⟨by simp [KG, Q7, mvD, h1], ⟨trivial, h2⟩, h3, fun p hp => by have := h4 p hp; exact ⟨this.1, by omega⟩⟩
  | bool b => exact ⟨by simp [KG, Q7, mvD, h1], ⟨trivial, h2⟩, h3, fun p hp => by have := h4 p hp; exact ⟨this.1, by omega⟩⟩
  | str s => exact ⟨by simp [KG, Q7, mvD, h1], ⟨trivial, h2⟩, h3, fun p hp => by have := h4 p hp; exact ⟨this.1, by omega⟩⟩
  | unk => exact ⟨by simp [KG, Q7, mvD, h1], ⟨trivial, h2⟩, h3, fun p hp => by have := h4 p hp; exact ⟨this.1, by omega⟩⟩
def Sw (n : Nat) (v : Value) (row : List D) (args : List (List D)) : St := (.fix v (vOf (KG 0 0 row)), YO [] row) :: (Nt args ++ List.replicate (n - (args.length + 1)) (V.any, []))
theorem uL {T : CS} {S : Nat -> Prop} {n : Nat} {v : Value} {cs : List Value} {row : List D} {args : List (List D)} {lu : List Value} (hT : ∀ b k, T b k -> b < w.heap.size /\ ¬ S b) (hS : ∀ b, S b -> b < w.heap.size) (hf : Kr v cs) (ho : Jo w cs row S)
  (ha : YA (fun v row => ∃ cs, Kr v cs /\ YA (Rd T w) cs row) lu args) :
  Ku T (fun b => b < w.heap.size /\ ¬ S b) (Sw n v row args) { tmps := (v :: lu).toArray ++ Array.replicate (n - (v :: lu).toArray.size) undef, defers := [] } w := by
 have hl := ha.length
 obtain ⟨aW, Sk, k1, k2, k3, k4⟩ := vg ho
 refine ⟨fun _ => False, fun t j => if t = 0 then aW j else Hd.of undef, ?_⟩
 have iH : ∀ j, (Sw n v row args).ob 0 j = Yr (YO [] row) j := fun j => rfl
 have iG : ∀ t j, (Sw n v row args).ob (t + 1) j = .none := by
  intro t j
  unfold St.ob Sw
  rw [List.getElem?_cons_succ]
  rcases Nat.lt_or_ge t args.length with h | h
  ·rw [List.getElem?_append_left (by rw [KY]; exact h), Rl, List.getElem?_eq_getElem h]
   simp [Yr]
  ·rw [List.getElem?_append_right (by rw [KY]; exact h), List.getElem?_replicate]
   split
   ·rename_i e he
    split at he
    ·cases he; simp [Yr]
    ·cases he
   ·rfl
 have hz : ∀ t j, (Sw n v row args).ob t j ≠ .none -> t = 0 /\ ∃ size rows, row[j]? = some (.sl size rows) := by
  intro t j lD
  cases t with
  | zero => exact ⟨rfl, xr row j lD⟩
  | succ t => exact absurd (iG t j) lD
 have c9 : ∀ b k v, T b k -> w.cell? ⟨b, k, none⟩ = some v -> w.cell? ⟨b, k, none⟩ = some v /\ Tof T (fun _ => False) b k := fun b k v hb hc => ⟨hc, .inl hb⟩
 refine ⟨by simp [Sw, KY, hl]; omega, rfl, (fun b hb => hb.1), (fun b hb => hb.elim), hT, fun t ht => ?_, fun t j => ?_, fun t j b lD hb => ?_, fun t j b lD hb => ?_, fun t j t' j' b lD ld hb lM => ?_⟩
 ·cases t with
  | zero =>
   have fA : ((v :: lu).toArray ++ Array.replicate (n - (v :: lu).toArray.size) undef).getD 0 undef = v := by
    rw [Array.getD_eq_getD_getElem?, Array.getElem?_append_left (by simp)]
    simp
   rw [fA]
   refine ⟨rfl, Nk hf (OQ ho.top (fun i size rows hi => ⟨true, ?_⟩) (fun i c hc => ?_))⟩
   ·rw [Nat.zero_add, iH]; exact yC row i size rows hi
   ·rw [Nat.zero_add]; simp only [if_true]; exact k1 i c hc
  | succ t =>
   unfold St.get Sw
   rw [List.getElem?_cons_succ]
   rcases Nat.lt_or_ge t args.length with lN | fb
   ·rw [List.getElem?_append_left (by rw [KY]; exact lN), Rl, List.getElem?_eq_getElem lN]
    obtain ⟨v', gH, cs', gm, cB⟩ := ha.get' t args[t] (List.getElem?_eq_getElem lN)
    have fA : ((v :: lu).toArray ++ Array.replicate (n - (v :: lu).toArray.size) undef).getD (t + 1) undef = v' := by
     rw [Array.getD_eq_getD_getElem?, Array.getElem?_append_left (by simp; omega)]
     simp [gH]
    simp only [fA]
    exact (Nk gm (Ma (cB.imp fun _ _ => Rd.mono c9))).up
   ·rw [List.getElem?_append_right (by rw [KY]; exact fb), List.getElem?_replicate]
    split
    ·rename_i e he
     split at he
     ·cases he; trivial
     ·cases he
    ·trivial
 ·by_cases lD : (Sw n v row args).ob t j = .none
  ·rw [lD]; trivial
  ·obtain ⟨rfl, size, rows, hj⟩ := hz t j lD
   rw [iH, yC row j size rows hj]
   simp only [if_true]
   exact (k4 j size rows hj).2.2 _ _ _
 ·obtain ⟨rfl, size, rows, hj⟩ := hz t j lD
  simp only [if_true] at hb ⊢
  exact (k4 j size rows hj).2.1 b hb
 ·obtain ⟨rfl, size, rows, hj⟩ := hz t j lD
  simp only [if_true] at hb
  have := k2 j b ((k4 j size rows hj).1 b hb)
  exact ⟨fun hh => hh.2 this, fun hh => hh, hS b this⟩
 ·obtain ⟨rfl, size, rows, hj⟩ := hz t j lD
  obtain ⟨rfl, lW, lF, gn⟩ := hz t' j' ld
  simp only [if_true] at hb lM
  exact ⟨rfl, k3 j j' b ((k4 j size rows hj).1 b hb) ((k4 j' lW lF gn).1 b lM)⟩
def pr (P : Program) (fn : Func) (v : Value) (lj : List D) (x : D) (e : Exit) (σ : St) : Prop :=
 (e = .ret \/ e = .normal) /\ OG P σ fn.results.toList [[.d x]] /\ x.scalar = true /\ σ.head? = some (.fix v (vOf (KG 0 0 lj)), YO [] lj)
theorem vG {v : Value} {cs cs' : List Value} (h1 : Kr v cs) (h2 : Kr v cs') : cs = cs' := by
 rcases h1 with ⟨c, rfl, rfl, ho⟩ | ⟨hn, rfl⟩
 ·rcases h2 with ⟨c', rfl, rfl, _⟩ | ⟨l0, rfl⟩
  ·rfl
  ·cases ho
 ·rcases h2 with ⟨c', rfl, rfl, lU⟩ | ⟨l0, he⟩
  ·cases lU
  ·injection he with he; simpa using he
theorem Ei {f : FuncId} {fn : Func} {c : Code} (hf : P.funcs[f]? = some fn) (hb : fn.body = some c) (la : MP P f = true) {row : List D} {args : List (List D)} {lj : List D} {x : D}
  (hw : ∀ v, AWP P c (pr P fn v lj x) (Sw fn.ntmps v row args)) : KQ P f row args lj x := by
 refine ⟨la, fun T S w v cs lu hT hS lk lG lH => calls_of_wp hf hb ?_⟩
 refine wp_mono (hw v T (fun b => b < w.heap.size /\ ¬ S b) _ w (uL hT hS lk lG lH)) ?_
 rintro e a' w' ⟨σ', ⟨he, fp, iK, dC⟩, ⟨X, h, r⟩, lS⟩
 obtain ⟨vs, lf, lT, bN, lE⟩ := Sy r fp
 cases lE with
 | cons h1 lE =>
  cases lE
  cases h1 with
  | @cons _ c0 _ _ hx h1 =>
   cases h1
   cases bN with
   | @cons u _ _ _ hu hn =>
    cases hn
    have iP : u = c0 := by
     rcases hu with ⟨c', b4, rfl, _⟩ | ⟨hn, _⟩
     ·cases b4; rfl
     ·simp at hn
    subst iP
    have goal : a'.defers = [] /\ ∃ v, (results fn a'.tmps).run P w' = .ok v w' /\ pL w S cs lj x (.returned v) w' := by
     refine ⟨r.defers, _, lT, u, rfl, ?_, lS, ?_⟩
     ·cases hx with
      | int k n => exact .int _ _
      | bool b => exact .bool _
      | str s => exact .str _
      | unk v h => exact .unk _ h
      | nil => cases iK
      | sl => cases iK
     ·have iI : 0 < σ'.length := by
       cases σ' with
       | nil => simp at dC
       | cons e σ => simp
      have bp : σ'.get 0 = .fix v (vOf (KG 0 0 lj)) := by
       cases σ' with
       | nil => simp at dC
       | cons e σ => simp at dC; simp [St.get, dC]
      have lz : ∀ j, σ'.ob 0 j = Yr (YO [] lj) j := by
       intro j
       cases σ' with
       | nil => simp at dC
       | cons e σ => simp at dC; simp [St.ob, dC]
      have cf := r.slot 0 iI
      rw [bp] at cf
      obtain ⟨hveq, hR⟩ := cf
      rw [hveq] at hR
      obtain ⟨cs', gm, cB⟩ := BL hR.up
      rw [vG gm lk] at cB
      obtain ⟨m1, m2, m3, _⟩ := DK (σ := σ') (t := 0) lj 0 (fun i size rows hi => by rw [Nat.zero_add, lz]; exact yC lj i size rows hi)
      refine (P4 r cB m1 m2 m3).mono (fun b hb => ?_)
      have := r.yN _ b hb
      by_cases hs : S b
      ·exact .inl hs
      ·refine .inr ⟨?_, this.2.2.1⟩
       rcases Nat.lt_or_ge b w.heap.size with h | h
       ·exact absurd ⟨h, hs⟩ this.1
       ·exact h
    rcases he with rfl | rfl
    ·exact goal
    ·exact goal
theorem CJ (r : Rel T0 B σ a w X h) {o : Oper} {cl : Call} {f : FuncId} {d : Nat} {x0 : Operand} {xs : List Operand} {t0 : TypeId} {ts : List TypeId} {lJ : List (List D)} {s s' : List (List D)} {n : Nat} {y : D} (lB : o.op = .call cl) (hc : cl.callee = .value (.func f)) (hd : o.dst = some d)
  (ha : cl.args.toList = x0 :: xs) (_hat : cl.argTypes.toList = t0 :: ts) {t j i c : Nat} (hg : gOf (look P σ t0 x0) = true) (hx : unc (look P σ t0 x0) = .one (.tref t j i c none)) {size : Nat} {rows : List (List D)} (ho : σ.ob t j = .arr true size rows) (hi : i < rows.length)
  (lK : (rows.getD i [])[c]? = some (.sl n s)) (lH : Qp P σ xs ts lJ) (lZ : Yn P σ xs ts = true) (hs : KQ P f [.sl n s] lJ [.sl n s'] y)
  {K : Act -> World -> Prop} {Q : Exit -> Act -> World -> Prop} (hK : ∀ a' w', Ku T0 B ((σ.Z7 t j (.arr true size (rows.set i (place (rows.getD i []) c [.sl n s'])))).put d (.one (.d y))) a' w' -> Y7 B w w' -> K a' w') : o.wp P a w K Q := by
 have lV : σ.ob t j ≠ .none := by rw [ho]; simp
 have h0 := r.obj t j
 rw [ho] at h0
 obtain ⟨e, vs, gA, hz, ⟨hl, Sk, o1, o2, o3⟩, hn⟩ := h0
 have lX : rows[i]? = some (rows.getD i []) := by simp [List.getD_eq_getElem?_getD, List.getElem?_eq_getElem hi]
 have iA : rows.flatten[i * size + c]? = some (.sl n s) := jH rows size hz i _ lX c _ lK
 have lN : i * size + c < vs.length := by rw [hl]; exact (List.getElem?_eq_some_iff.1 iA).1
 have eJ : vs[i * size + c]? = some vs[i * size + c] := List.getElem?_eq_getElem lN
 have ab := hn _ _ _ eJ iA rfl
 have har := r.arg (P := P) t0 x0 hx hg
 have hv : a.eval x0 = vs[i * size + c] := (har.2 size rows ho).trans ab
 have lG := o1 _ _ _ eJ iA
 have cg : ∀ b, Sk (i * size + c) b -> (h t j).u b := fun b hb => (o2 _ b hb).1
 have fR := r.Qp true lH (fun _ => lZ)
 simp only [if_true] at fR
 unfold Oper.wp
 rw [W2 lB hc hs.1, Oper.upon_enter]
 rw [show (cl.args.toList.map a.eval).toArray = (vs[i * size + c] :: xs.map a.eval).toArray by rw [ha]; simp [hv]]
 have hT : ∀ b k, Tof T0 X b k -> b < w.heap.size /\ ¬ Sk (i * size + c) b := by
  intro b k hb
  refine ⟨r.Tlt hb, fun gS => ?_⟩
  have := r.own t j b lV (cg b gS)
  rcases hb with hb | hb
  ·exact this.1 (r.hT _ _ hb)
  ·exact this.2.1 hb
 refine (hs.2 (Tof T0 X) (Sk (i * size + c)) w _ [vs[i * size + c]] _ hT (fun b hb => (r.own t j b lV (cg b hb)).2.2) (.inl ⟨_, rfl, rfl, lG.Xy⟩)
  ⟨rfl, fun k b => k = 0 /\ Sk (i * size + c) b, fun k x dd hx ic => by
   cases k with
   | zero => simp at hx ic; subst hx; subst ic; exact lG.mono (fun b hb => ⟨rfl, hb⟩)
   | succ k => simp at hx, fun k b hb => hb.2, fun p q b hp hq => by rw [hp.1, hq.1]⟩ fR).mono ?_
 rintro e' w' ⟨u, rfl, hu, lS, ib⟩
 rw [hd]
 obtain ⟨_, Sk2, q1, q2, q3⟩ := ib
 have own1 := (q1 0 _ _ rfl rfl).mono (q2 0)
 have hBk : Y7 B w w' := ⟨lS.os, lS.tape, lS.output, lS.size, fun b hb => lS.block b ⟨r.hB b hb, fun gS => (r.own t j b lV (cg b gS)).1 hb⟩⟩
 have iy : c + 1 <= size := by
  have h1 := (List.getElem?_eq_some_iff.1 lK).1
  have h2 := hz _ (List.mem_of_getElem? lX)
  omega
 have bP := zY size c [D.sl n s'] (by simpa using iy) rows i _ lX hz
 have cE : i * size + c + [D.sl n s'].length <= rows.flatten.length := by rw [<- hl]; simp; omega
 have g5 : (rows.getD i []).length = size := hz _ (List.mem_of_getElem? lX)
 have hZ : ∀ q ∈ rows.set i (place (rows.getD i []) c [.sl n s']), q.length = size := by
  intro q hq
  rcases List.mem_or_eq_of_mem_set hq with hq | hq
  ·exact hz q hq
  ·rw [hq, XX _ _ _ (by rw [g5]; simpa using iy), g5]
 have iB : ∀ b, blk (h t j).v = some b -> w'.heap[b]? = w.heap[b]? := fun b hb => lS.block b ⟨(r.sJ lV hb).2.2, fun gS => (o2 _ b gS).2 hb⟩
 have iG : ∀ u v, ¬ (u = t /\ v = j) -> (σ.Z7 t j (.arr true size (rows.set i (place (rows.getD i []) c [.sl n s'])))).ob u v = σ.ob u v := fun u v lD => by rw [St.JH σ t j _ u v lV, if_neg lD]
 have iF : (σ.Z7 t j (.arr true size (rows.set i (place (rows.getD i []) c [.sl n s'])))).ob t j = .arr true size (rows.set i (place (rows.getD i []) c [.sl n s'])) := by rw [St.JH σ t j _ t j lV]; simp
 have R := r.vW (w' := w') (σ.Z7 t j (.arr true size (rows.set i (place (rows.getD i []) c [.sl n s'])))) (St.Xv _ _ _ _) (fun u => St.QK _ _ _ _ u) (fun u v => u = t /\ v = j) (fun u v hh => by rw [hh.1, hh.2]; exact lV) iG (fun u v hh => by rw [hh.1, hh.2, iF, ho]; simp [Ob.wN])
  lS.size (fun k hk iP => lS.block k ⟨hk, fun gS => iP t j ⟨rfl, rfl⟩ (cg k gS)⟩)
  (fun u v => if u = t /\ v = j then ⟨(h t j).v, (h t j).n, fun b => (h t j).u b \/ (w.heap.size <= b /\ b < w'.heap.size)⟩ else h u v) (fun u v hh => by simp [hh]) (fun u v hh => by simp [hh])
  (fun u v b hh hb => by
   simp only [hh, and_self, if_true] at hb
   rcases hb with hb | hb
   ·exact .inl ⟨t, j, ⟨rfl, rfl⟩, hb⟩
   ·exact .inr hb)
  (fun u v b hh hb => by simp only [hh, and_self, if_true] at hb ⊢; exact .inl (r.ub t j b lV hb))
  (fun u v u' v' b hh eY _ _ => ⟨by rw [hh.1, eY.1], by rw [hh.2, eY.2]⟩)
  (fun _ => false) (St.xF σ) (fun u v hh => .inr (by simp [hh]))
  (fun u v hh => by
   obtain ⟨rfl, rfl⟩ := hh
   rw [iF]
   simp only [and_self, if_true]
   refine ⟨e, vs, by rw [List.length_set]; exact yg iB gA, hZ, ⟨?_, fun k => if k = i * size + c then (fun b => Sk (i * size + c) b \/ (w.heap.size <= b /\ b < w'.heap.size)) else Sk k, fun k x dd hx ic => ?_, fun k b hb => ?_, fun p q b hp hq => ?_⟩, fun k x dd hx ic iK => ?_⟩
   ·rw [bP, XX _ _ _ cE, hl]
   ·rw [bP] at ic
    rcases xf _ _ _ cE k dd ic with ⟨k1, k2, k3⟩ | ⟨k1, k3⟩
    ·have hk : k = i * size + c := by simp at k2; omega
     subst hk
     rw [eJ] at hx; cases hx
     simp at k3; subst k3
     simp only [if_true]; exact own1
    ·have hk : ¬ k = i * size + c := fun hk => k1 ⟨by omega, by simp; omega⟩
     simp only [hk, if_false]
     refine (o1 k x dd hx k3).Tz (fun b hb => lS.block b ⟨(r.own u v b lV (o2 k b hb).1).2.2, fun gS => hk (o3 k _ b hb gS)⟩)
   ·by_cases hk : k = i * size + c
    ·simp only [hk, if_true] at hb
     rcases hb with hb | hb
     ·exact ⟨.inl (o2 _ b hb).1, (o2 _ b hb).2⟩
     ·exact ⟨.inr hb, fun hh => by have := (r.sJ lV hh).2.2; omega⟩
    ·simp only [hk, if_false] at hb; exact ⟨.inl (o2 k b hb).1, (o2 k b hb).2⟩
   ·by_cases fN : p = i * size + c
    ·by_cases fF : q = i * size + c
     ·rw [fN, fF]
     ·simp only [fN, if_true] at hp
      simp only [fF, if_false] at hq
      rcases hp with hp | hp
      ·rw [fN]; exact (o3 _ _ b hp hq)
      ·have := (r.own u v b lV (o2 q b hq).1).2.2; omega
    ·simp only [fN, if_false] at hp
     by_cases fF : q = i * size + c
     ·simp only [fF, if_true] at hq
      rcases hq with hq | hq
      ·rw [fF]; exact (o3 _ _ b hp hq)
      ·have := (r.own u v b lV (o2 p b hp).1).2.2; omega
     ·simp only [fF, if_false] at hq; exact o3 p q b hp hq
   ·rw [bP] at ic
    rcases xf _ _ _ cE k dd ic with ⟨k1, k2, k3⟩ | ⟨k1, k3⟩
    ·have hk : k = i * size + c := by simp at k2; omega
     subst hk
     rw [eJ] at hx; cases hx; exact ab
    ·exact hn k x dd hx k3 iK)
 refine hK _ _ ⟨X, _, R.put d (.one (.d y)) u ?_⟩ hBk
 exact Rd.mono (fun _ _ _ hh => hh.elim) hu
def St.WG : St -> List At -> List D -> St
 | σ, .sref t j _ _ :: xs, .sl size rows :: ds => St.WG (σ.Z7 t j (.arr true size rows)) xs ds
 | σ, _ :: xs, _ :: ds => St.WG σ xs ds
 | σ, _, _ => σ
def xl : List D -> List D -> Prop
 | .sl s r :: ds, .sl s' r' :: hQ => s = s' /\ r.length = r'.length /\ xl ds hQ
 | .sl _ _ :: _, _ => False
 | _ :: ds, _ :: hQ => xl ds hQ
 | [], [] => True
 | _, _ => False
def RZ (σ : St) : List At -> Prop
 | [] => True
 | .sref t j _ _ :: xs => (match σ.ob t j with | .arr true _ _ => True | _ => False) /\ RZ σ xs
 | _ :: xs => RZ σ xs
def At.sI : At -> Bool
 | .tref _ _ _ _ _ => true
 | _ => false
theorem jC : ∀ {ds hQ : List D}, xl ds hQ -> ds.length = hQ.length /\ ∀ (k s : Nat) (r : List (List D)), ds[k]? = some (D.sl s r) -> ∃ r' : List (List D), hQ[k]? = some (D.sl s r') /\ r.length = r'.length
 | [], [], _ => ⟨rfl, fun k s r h => by simp at h⟩
 | [], _ :: _, h => by simp [xl] at h
 | .sl s r :: ds, [], h => by simp [xl] at h
 | .int _ _ :: ds, [], h => by simp [xl] at h
 | .bool _ :: ds, [], h => by simp [xl] at h
 | .str _ :: ds, [], h => by simp [xl] at h
 | .unk :: ds, [], h => by simp [xl] at h
 | .sl s r :: ds, d' :: hQ, h => by
  cases d' with
  | sl s' r' =>
   obtain ⟨rfl, h2, h3⟩ := h
   obtain ⟨i1, i2⟩ := jC h3
   refine ⟨by simp [i1], fun k s0 r0 hk => ?_⟩
   cases k with
   | zero => simp at hk; obtain ⟨rfl, rfl⟩ := hk; exact ⟨r', by simp, h2⟩
   | succ k => simpa using i2 k s0 r0 (by simpa using hk)
  | int _ _ => exact h.elim
  | bool _ => exact h.elim
  | str _ => exact h.elim
  | unk => exact h.elim
 | .int _ _ :: ds, d' :: hQ, h => by
  obtain ⟨i1, i2⟩ := jC (ds := ds) (hQ := hQ) h
  refine ⟨by simp [i1], fun k s0 r0 hk => ?_⟩
  cases k with
  | zero => simp at hk
  | succ k => simpa using i2 k s0 r0 (by simpa using hk)
 | .bool _ :: ds, d' :: hQ, h => by
  obtain ⟨i1, i2⟩ := jC (ds := ds) (hQ := hQ) h
  refine ⟨by simp [i1], fun k s0 r0 hk => ?_⟩
  cases k with
  | zero => simp at hk
  | succ k => simpa using i2 k s0 r0 (by simpa using hk)
 | .str _ :: ds, d' :: hQ, h => by
  obtain ⟨i1, i2⟩ := jC (ds := ds) (hQ := hQ) h
  refine ⟨by simp [i1], fun k s0 r0 hk => ?_⟩
  cases k with
  | zero => simp at hk
  | succ k => simpa using i2 k s0 r0 (by simpa using hk)
 | .unk :: ds, d' :: hQ, h => by
  obtain ⟨i1, i2⟩ := jC (ds := ds) (hQ := hQ) h
  refine ⟨by simp [i1], fun k s0 r0 hk => ?_⟩
  cases k with
  | zero => simp at hk
  | succ k => simpa using i2 k s0 r0 (by simpa using hk)
theorem G0 : ∀ {xs : List At}, RZ σ xs -> ∀ (k t j lo len : Nat), xs[k]? = some (At.sref t j lo len) -> ∃ size rows, σ.ob t j = .arr true size rows
 | [], _, k, t, j, lo, len, hk => by simp at hk
 | x :: xs, h, 0, t, j, lo, len, hk => by
  simp at hk; subst hk
  have := h.1
  split at this
  ·rename_i s r e; exact ⟨s, r, e⟩
  ·exact this.elim
 | x :: xs, h, k + 1, t, j, lo, len, hk => by
  have h' : RZ σ xs := by cases x <;> first | exact h | exact h.2
  exact G0 h' k t j lo len (by simpa using hk)
theorem R7 : ∀ {xs : List At} {t j : Nat}, (t, j) ∈ Yg xs -> ∃ (k lo len : Nat), xs[k]? = some (At.sref t j lo len)
 | [], t, j, h => by cases h
 | x :: xs, t, j, h => by
  cases x with
  | sref t' j' lo len =>
   simp only [Yg, List.mem_cons, Prod.mk.injEq] at h
   rcases h with ⟨rfl, rfl⟩ | h
   ·exact ⟨0, lo, len, rfl⟩
   ·obtain ⟨k, lo, len, hk⟩ := R7 h; exact ⟨k + 1, lo, len, by simpa using hk⟩
  | _ => obtain ⟨k, lo, len, hk⟩ := R7 (xs := xs) h; exact ⟨k + 1, lo, len, by simpa using hk⟩
theorem St.UA : ∀ (xs : List At) (ds : List D) (σ : St), (σ.WG xs ds).length = σ.length
 | [], ds, σ => by cases ds <;> rfl
 | x :: xs, [], σ => by cases x <;> rfl
 | x :: xs, d :: ds, σ => by
  cases x <;> first | exact St.UA xs ds σ | (cases d <;> first | exact St.UA xs ds σ | (rw [St.WG, St.UA xs ds, St.Xv]))
theorem St.NQ : ∀ (xs : List At) (ds : List D) (σ : St) (t : Nat), (σ.WG xs ds).get t = σ.get t
 | [], ds, σ, t => by cases ds <;> rfl
 | x :: xs, [], σ, t => by cases x <;> rfl
 | x :: xs, d :: ds, σ, t => by
  cases x <;> first | exact St.NQ xs ds σ t | (cases d <;> first | exact St.NQ xs ds σ t | (rw [St.WG, St.NQ xs ds, St.QK]))
theorem St.It : ∀ (xs : List At) (ds : List D) (σ : St), (Yg xs).Nodup -> (∀ p ∈ Yg xs, σ.ob p.1 p.2 ≠ .none) ->
  (∀ t j, (t, j) ∉ Yg xs -> (σ.WG xs ds).ob t j = σ.ob t j) /\ (∀ (k t j lo len size : Nat) (rows : List (List D)), xs[k]? = some (At.sref t j lo len) -> ds[k]? = some (D.sl size rows) -> (σ.WG xs ds).ob t j = .arr true size rows)
 | [], ds, σ, _, _ => ⟨fun t j _ => by cases ds <;> rfl, fun k t j lo len size rows h => by simp at h⟩
 | x :: xs, [], σ, _, _ => ⟨fun t j _ => by cases x <;> rfl, fun k t j lo len size rows _ h => by simp at h⟩
 | x :: xs, d :: ds, σ, l9, lD => by
  have other : ∀ (hx : Yg (x :: xs) = Yg xs) (hm : σ.WG (x :: xs) (d :: ds) = σ.WG xs ds) (_ : ∀ t j lo len, x ≠ .sref t j lo len),
    (∀ t j, (t, j) ∉ Yg (x :: xs) -> (σ.WG (x :: xs) (d :: ds)).ob t j = σ.ob t j) /\ (∀ (k t j lo len size : Nat) (rows : List (List D)), (x :: xs)[k]? = some (At.sref t j lo len) -> (d :: ds)[k]? = some (D.sl size rows) -> (σ.WG (x :: xs) (d :: ds)).ob t j = .arr true size rows) := by
   intro hx hm fe
   rw [hx] at l9 lD
   obtain ⟨i1, i2⟩ := St.It xs ds σ l9 lD
   rw [hx, hm]
   refine ⟨i1, fun k t j lo len size rows hk dz => ?_⟩
   cases k with
   | zero => simp at hk; exact absurd hk (fe _ _ _ _)
   | succ k => exact i2 k t j lo len size rows (by simpa using hk) (by simpa using dz)
  cases x with
  | sref t0 j0 bu dF =>
   simp only [Yg, List.nodup_cons] at l9
   have h0 : σ.ob t0 j0 ≠ .none := lD (t0, j0) (by simp [Yg])
   have cG : ∀ (hm : σ.WG (.sref t0 j0 bu dF :: xs) (d :: ds) = σ.WG xs ds) (_ : ∀ s r, d ≠ .sl s r),
     (∀ t j, (t, j) ∉ Yg (.sref t0 j0 bu dF :: xs) -> (σ.WG (.sref t0 j0 bu dF :: xs) (d :: ds)).ob t j = σ.ob t j) /\ (∀ (k t j lo len size : Nat) (rows : List (List D)), (At.sref t0 j0 bu dF :: xs)[k]? = some (At.sref t j lo len) -> (d :: ds)[k]? = some (D.sl size rows) -> (σ.WG (.sref t0 j0 bu dF :: xs) (d :: ds)).ob t j = .arr true size rows) := by
    intro hm fe
    obtain ⟨i1, i2⟩ := St.It xs ds σ l9.2 (fun p hp => lD p (by simp [Yg, hp]))
    rw [hm]
    refine ⟨fun t j hn => i1 t j (fun hh => hn (by simp [Yg, hh])), fun k t j lo len size rows hk dz => ?_⟩
    cases k with
    | zero => simp at dz; exact absurd dz (fe _ _)
    | succ k => exact i2 k t j lo len size rows (by simpa using hk) (by simpa using dz)
   cases d with
   | sl size rows =>
    have iG : ∀ t j, (σ.Z7 t0 j0 (.arr true size rows)).ob t j = if t = t0 /\ j = j0 then .arr true size rows else σ.ob t j := fun t j => St.JH σ t0 j0 _ t j h0
    obtain ⟨i1, i2⟩ := St.It xs ds (σ.Z7 t0 j0 (.arr true size rows)) l9.2 (fun p hp => by
     rw [iG]; split
     ·simp
     ·exact lD p (by simp [Yg, hp]))
    refine ⟨fun t j hn => ?_, fun k t j lo len lW lF hk dz => ?_⟩
    ·simp only [Yg, List.mem_cons, Prod.mk.injEq, not_or] at hn
     rw [St.WG, i1 t j hn.2, iG, if_neg hn.1]
    ·rw [St.WG]
     cases k with
     | zero =>
      simp at hk dz
      obtain ⟨rfl, rfl, _, _⟩ := hk
      obtain ⟨rfl, rfl⟩ := dz
      rw [i1 _ _ l9.1, iG]; simp
     | succ k => exact i2 k t j lo len lW lF (by simpa using hk) (by simpa using dz)
   | int _ _ => exact cG rfl (fun _ _ h => by cases h)
   | bool _ => exact cG rfl (fun _ _ h => by cases h)
   | str _ => exact cG rfl (fun _ _ h => by cases h)
   | unk => exact cG rfl (fun _ _ h => by cases h)
  | any => exact other rfl rfl (fun _ _ _ _ h => by cases h)
  | d _ => exact other rfl rfl (fun _ _ _ _ h => by cases h)
  | nil _ => exact other rfl rfl (fun _ _ _ _ h => by cases h)
  | ptr _ _ _ _ => exact other rfl rfl (fun _ _ _ _ h => by cases h)
  | bptr _ _ => exact other rfl rfl (fun _ _ _ _ h => by cases h)
  | fn _ _ => exact other rfl rfl (fun _ _ _ _ h => by cases h)
  | rptr _ _ => exact other rfl rfl (fun _ _ _ _ h => by cases h)
  | tref _ _ _ _ _ => exact other rfl rfl (fun _ _ _ _ h => by cases h)
theorem BR (r : Rel T0 B σ a w X h) {o : Oper} {cl : Call} {f : FuncId} {d : Nat} {x0 : Operand} {xs : List Operand} {t0 : TypeId} {ts : List TypeId} {lJ : List (List D)} {row lj : List D} {y : D} (lB : o.op = .call cl) (hc : cl.callee = .value (.func f)) (hd : o.dst = some d)
  (ha : cl.args.toList = x0 :: xs) (hg : gOf (look P σ t0 x0) = true) {l6 : List At} (hx : unc (look P σ t0 x0) = vOf l6) (gM : Q7 σ l6 = some row) (cQ : RZ σ l6) (l9 : (Yg l6).Nodup) (bA : σ.zl At.sI = false)
  (lH : Qp P σ xs ts lJ) (lZ : Yn P σ xs ts = true) (hs : KQ P f row lJ lj y) (bB : xl row lj)
  {K : Act -> World -> Prop} {Q : Exit -> Act -> World -> Prop} (hK : ∀ a' w', Ku T0 B ((σ.WG l6 lj).put d (.one (.d y))) a' w' -> Y7 B w w' -> K a' w') : o.wp P a w K Q := by
 obtain ⟨cs, lk, lE⟩ := BL (r.arg (P := P) t0 x0 hx hg)
 have la : Qe σ l6 := by
  clear hx gM l9 lE hK
  induction l6 with
  | nil => trivial
  | cons x l6 ih =>
   cases x with
   | sref t j lo len =>
    refine ⟨?_, ih cQ.2⟩
    have := cQ.1
    simp only [La]
    split at this
    ·rename_i e; rw [e]; trivial
    ·exact this.elim
   | _ => exact ⟨trivial, ih cQ⟩
 have lG := P4 r lE gM la l9
 obtain ⟨hll, bB⟩ := jC bB
 obtain ⟨cE, gM⟩ := Uv gM
 have fR := r.Qp true lH (fun _ => lZ)
 simp only [if_true] at fR
 have lY := r.yN (Yg l6)
 unfold Oper.wp
 rw [W2 lB hc hs.1, Oper.upon_enter]
 rw [show (cl.args.toList.map a.eval).toArray = (a.eval x0 :: xs.map a.eval).toArray by rw [ha]; rfl]
 have hT : ∀ b k, Tof T0 X b k -> b < w.heap.size /\ ¬ JI σ h (Yg l6) b := by
  intro b k hb
  refine ⟨r.Tlt hb, fun gS => ?_⟩
  have := lY b gS
  rcases hb with hb | hb
  ·exact this.1 (r.hT _ _ hb)
  ·exact this.2.1 hb
 refine (hs.2 (Tof T0 X) (JI σ h (Yg l6)) w _ cs _ hT (fun b hb => (lY b hb).2.2.1) lk lG fR).mono ?_
 rintro e' w' ⟨u, rfl, hu, lS, ib⟩
 rw [hd]
 have hBk : Y7 B w w' := ⟨lS.os, lS.tape, lS.output, lS.size, fun b hb => lS.block b ⟨r.hB b hb, fun gS => (lY b gS).1 hb⟩⟩
 obtain ⟨hf, Sk, k1, k2, k3, k4⟩ := vg ib
 have fI : ∀ t j, (t, j) ∈ Yg l6 -> ∃ (k size : Nat) (rows lF : List (List D)), l6[k]? = some (At.sref t j 0 rows.length) /\ σ.ob t j = .arr true size rows /\ lj[k]? = some (D.sl size lF) /\ rows.length = lF.length /\ cs[k]? = some (h t j).v := by
  intro t j hm
  obtain ⟨k, lo, len, hk⟩ := R7 hm
  obtain ⟨size, rows, ho⟩ := G0 cQ k t j lo len hk
  have lN : k < row.length := by rw [<- cE]; exact (List.getElem?_eq_some_iff.1 hk).1
  have lQ := gM k _ _ hk (List.getElem?_eq_getElem lN)
  simp only [mvD, ho] at lQ
  split at lQ
  ·rename_i lg
   obtain ⟨rfl, rfl⟩ := lg
   have lX : row[k]? = some (.sl size rows) := by rw [List.getElem?_eq_getElem lN]; exact lQ.symm ▸ rfl
   obtain ⟨lF, lp, hl'⟩ := bB k size rows lX
   obtain ⟨v, hv, har⟩ := lE.get k _ hk
   obtain ⟨_, iN, _⟩ := har.2.1 true size rows ho
   exact ⟨k, size, rows, lF, hk, ho, lp, hl', by rw [hv, iN rfl rfl]⟩
  ·cases lQ
 have lD : ∀ p ∈ Yg l6, σ.ob p.1 p.2 ≠ .none := by
  intro p hp
  obtain ⟨k, size, rows, lF, _, ho, _⟩ := fI p.1 p.2 hp
  rw [ho]; simp
 obtain ⟨m1, m2⟩ := St.It l6 lj σ l9 lD
 have hch : ∀ p : Nat × Nat, ∃ hd : Hd, (p ∉ Yg l6 -> hd = h p.1 p.2) /\ (p ∈ Yg l6 -> ∃ k lo len : Nat, l6[k]? = some (At.sref p.1 p.2 lo len) /\ hd = hf k) := by
  intro p
  by_cases hp : p ∈ Yg l6
  ·obtain ⟨k, lo, len, hk⟩ := R7 (t := p.1) (j := p.2) hp
   exact ⟨hf k, fun hh => absurd hp hh, fun _ => ⟨k, lo, len, hk, rfl⟩⟩
  ·exact ⟨h p.1 p.2, fun _ => rfl, fun hh => absurd hh hp⟩
 obtain ⟨hh, hhs⟩ := Classical.axiomOfChoice hch
 have fc : ∀ t j, (t, j) ∈ Yg l6 -> ∃ (k size : Nat) (rows lF : List (List D)), l6[k]? = some (At.sref t j 0 rows.length) /\ σ.ob t j = .arr true size rows /\ lj[k]? = some (D.sl size lF) /\ rows.length = lF.length /\ cs[k]? = some (h t j).v /\ hh (t, j) = hf k /\ (σ.WG l6 lj).ob t j = .arr true size lF := by
  intro t j hm
  obtain ⟨k, size, rows, lF, a1, a2, a3, a4, a5⟩ := fI t j hm
  obtain ⟨k', lo, len, b1, b2⟩ := (hhs (t, j)).2 hm
  have : k = k' := RE l6 k k' t j 0 rows.length lo len l9 a1 b1
  subst this
  exact ⟨k, size, rows, lF, a1, a2, a3, a4, a5, b2, m2 k t j 0 rows.length size lF a1 a3⟩
 have R := r.vW (w' := w') (σ.WG l6 lj) (St.UA _ _ _) (fun t => St.NQ _ _ _ t) (fun t j => (t, j) ∈ Yg l6) (fun t j hm => lD (t, j) hm) (fun t j hm => m1 t j hm)
  (fun t j hm => by obtain ⟨k, size, rows, lF, _, a2, _, a4, _, _, a7⟩ := fc t j hm; rw [a2, a7]; exact ⟨rfl, rfl, a4⟩)
  lS.size (fun k hk iP => lS.block k ⟨hk, fun ⟨p, hp, _, gv⟩ => iP p.1 p.2 hp gv⟩) (fun t j => hh (t, j)) (fun t j hm => (hhs (t, j)).1 hm)
  (fun t j hm => by obtain ⟨k, size, rows, lF, _, _, _, _, a5, a6, _⟩ := fc t j hm; rw [a6]; exact k1 k _ a5)
  (fun t j b hm hb => by
   obtain ⟨k, size, rows, lF, _, _, a3, _, _, a6, _⟩ := fc t j hm
   rw [a6] at hb
   rcases k2 k b ((k4 k size lF a3).1 b hb) with ⟨p, hp, _, gv⟩ | hb
   ·exact .inl ⟨p.1, p.2, hp, gv⟩
   ·exact .inr hb)
  (fun t j b hm hb => by
   obtain ⟨k, size, rows, lF, _, _, a3, _, _, a6, _⟩ := fc t j hm
   rw [a6] at hb ⊢; exact (k4 k size lF a3).2.1 b hb)
  (fun t j t' j' b hm hm' hb lM => by
   obtain ⟨k, size, rows, lF, a1, _, a3, _, _, a6, _⟩ := fc t j hm
   obtain ⟨k', lW, ek, bO, c1, _, c3, _, _, c6, _⟩ := fc t' j' hm'
   rw [a6] at hb; rw [c6] at lM
   have := k3 k k' b ((k4 k size lF a3).1 b hb) ((k4 k' lW bO c3).1 b lM)
   subst this
   rw [a1] at c1; injection c1 with c1; injection c1 with e1 e2; exact ⟨e1, e2⟩)
  At.sI bA (fun t j _ => .inl (fun _ _ _ => rfl))
  (fun t j hm => by
   obtain ⟨k, size, rows, lF, _, _, a3, _, _, a6, a7⟩ := fc t j hm
   rw [a7, a6]; exact (k4 k size lF a3).2.2 _ _ _)
 refine hK _ _ ⟨X, _, R.put d (.one (.d y)) u ?_⟩ hBk
 exact Rd.mono (fun _ _ _ hh => hh.elim) hu
end
theorem DD {σ : St} {d d' : Nat} {v : V} (lD : d ≠ d') (h : JB σ d = true) : JB (σ.put d' v) d = true := by
 unfold JB at *; simp only [UX, if_neg lD]; exact h
theorem Tl : ∀ (xs : List At) (ds : List D) (σ : St) {d : Nat}, JB σ d = true -> JB (σ.WG xs ds) d = true
 | [], ds, σ, d, h => by cases ds <;> exact h
 | x :: xs, [], σ, d, h => by cases x <;> exact h
 | x :: xs, e :: ds, σ, d, h => by
  cases x <;> first | exact Tl xs ds σ h | (cases e <;> first | exact Tl xs ds σ h | (rw [St.WG]; exact Tl xs ds _ (QL h)))
theorem AX {P : Program} {ops : Array Oper} {bar : Oper -> Bool} {o : Oper} {rest : List Oper} {σ : St} {Q : St -> Prop} {cl : Call} {f : FuncId} {d : Nat} {x0 : Operand} {xs : List Operand} {t0 : TypeId} {ts : List TypeId} {lJ : List (List D)} {s s' : List (List D)} {n : Nat} {y : D} {t j i c : Nat} {size : Nat} {rows : List (List D)} (lB : o.op = .call cl) (hc : cl.callee = .value (.func f)) (dm : o.guard = none) (hd : o.dst = some d) (ln : bar o = true)
  (ha : cl.args.toList = x0 :: xs) (dn : cl.argTypes.toList = t0 :: ts) (hg : gOf (look P σ t0 x0) = true) (hx : unc (look P σ t0 x0) = .one (.tref t j i c none)) (ho : σ.ob t j = .arr true size rows) (hi : i < rows.length)
  (lK : (rowAt rows i)[c]? = some (.sl n s)) (lH : Qp P σ xs ts lJ) (lZ : Yn P σ xs ts = true) (hs : KQ P f [.sl n s] lJ [.sl n s'] y)
  (h : Ev P ops bar rest ((σ.Z7 t j (.arr true size (rows.set i (place (rowAt rows i) c [.sl n s'])))).put d (.one (.d y))) Q) : yu P ops bar o rest σ Q := by
 refine ⟨_, .inr ⟨ln, ?_, fun d' lQ lr => DD (fun e => lQ (by rw [hd, e])) (QL lr), fun hh => by simp [OO, lB] at hh, fun hh => by first | (simp [Sj, lB] at hh; done) | (unfold Sj at hh; rw [lB] at hh; split at hh <;> simp_all)⟩, JO h⟩
 rintro T0 B a w K Q' ⟨X, hh, r⟩ hK
 have hw : Region.wanted o (yielded ops a.tmps) = true := by simp [Region.wanted, dm]
 rw [if_pos hw]
 exact CJ r lB hc hd ha dn hg hx ho hi lK lH lZ hs hK
theorem Ai {P : Program} {ops : Array Oper} {bar : Oper -> Bool} {o : Oper} {rest : List Oper} {σ : St} {Q : St -> Prop} {cl : Call} {f : FuncId} {d : Nat} {x0 : Operand} {xs : List Operand} {t0 : TypeId} {ts : List TypeId} {lJ : List (List D)} {row lj : List D} {y : D} {l6 : List At} (lB : o.op = .call cl) (hc : cl.callee = .value (.func f)) (dm : o.guard = none) (hd : o.dst = some d) (ln : bar o = true)
  (ha : cl.args.toList = x0 :: xs) (hg : gOf (look P σ t0 x0) = true) (hx : unc (look P σ t0 x0) = vOf l6) (gM : Q7 σ l6 = some row) (cQ : RZ σ l6) (l9 : (Yg l6).Nodup) (bA : σ.zl At.sI = false)
  (lH : Qp P σ xs ts lJ) (lZ : Yn P σ xs ts = true) (hs : KQ P f row lJ lj y) (bB : xl row lj)
  (h : Ev P ops bar rest ((σ.WG l6 lj).put d (.one (.d y))) Q) : yu P ops bar o rest σ Q := by
 refine ⟨_, .inr ⟨ln, ?_, fun d' lQ lr => DD (fun e => lQ (by rw [hd, e])) (Tl _ _ _ lr), fun hh => by simp [OO, lB] at hh, fun hh => by first | (simp [Sj, lB] at hh; done) | (unfold Sj at hh; rw [lB] at hh; split at hh <;> simp_all)⟩, JO h⟩
 rintro T0 B a w K Q' ⟨X, hh, r⟩ hK
 have hw : Region.wanted o (yielded ops a.tmps) = true := by simp [Region.wanted, dm]
 rw [if_pos hw]
 exact BR r lB hc hd ha hg hx gM cQ l9 bA lH lZ hs bB hK
end Go.Vm
