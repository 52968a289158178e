/- An abstract machine Hz the model of Go, by value, and that it is sound: part Vf. No condition. -/
import Derived.Test.YtfhmpplolpejnaaGreatVb
namespace Go.Vm
open Go.RowKit
def Cx (P : Program) (σ : St) (c : Call) (f : FuncId) (own : Bool) (res : List (List D)) : Prop :=
 ∃ rows, Xy P σ c.args.toList c.argTypes.toList rows ∧ Xi P f own rows res ∧ (YT P σ c.args.toList c.argTypes.toList = true ∨ Qr own res)
def Step (P : Program) (o : Oper) (d : Nat) (σ σ' : St) : Prop :=
 match o.op with
 | .alloc T => σ.fresh d = true ∧ Zq P T = true ∧ ∃ row, Yp P 12 T = some row ∧ σ' = σ.new d (.one (.bptr d 0)) [.box row]
 | .box T x => σ.fresh d = true ∧ gOf (look P σ T x) = true ∧ (unc (look P σ T x)).flat = true ∧ YM d (unc (look P σ T x)).cells = false ∧ σ' = σ.new d (.one (.bptr d 0)) [.box (unc (look P σ T x)).cells]
 | .buildSlice T n parts => σ.fresh d = true ∧ YV P T = true ∧ Zq P (ZP P T) = true ∧ 0 < P.cellsOf (ZP P T) ∧ parts.toList.length = n ∧ n * P.cellsOf (ZP P T) ≤ 16777216 ∧
   ((∃ rows, HF P σ (ZP P T) (P.cellsOf (ZP P T)) parts.toList 0 rows ∧ σ' = σ.new d (.one (.sref d 0 0 rows.length)) [.arr false (P.cellsOf (ZP P T)) rows]) ∨
   (∃ rows, Oi P σ (ZP P T) (P.cellsOf (ZP P T)) parts.toList 0 rows ∧ YM d rows.flatten = false ∧ σ' = σ.new d (.one (.sref d 0 0 rows.length)) [.lit (P.cellsOf (ZP P T)) rows]))
 | .makeSlice T x y => x = y ∧ σ.fresh d = true ∧ YV P T = true ∧ Zq P (ZP P T) = true ∧ 0 < P.cellsOf (ZP P T) ∧
   ∃ q z zr k n, (q = true → Mv z = true) ∧ Yp P 12 (ZP P T) = some z ∧ zD z = some zr ∧ VH P σ x k (n : Nat) ∧ P.bytesOf (ZP P T) * n ≤ 281474976710656 ∧ n ≤ 9223372036854775807 ∧ σ' = σ.new d (.one (.sref d 0 0 n)) [.arr q (P.cellsOf (ZP P T)) (List.replicate n zr)]
 | .call c =>
  (match c.callee with
  | .builtin .append => ∃ x y t, c.args = #[x, y] ∧ c.argTypes = #[t, t] ∧ gOf (look P σ t x) = true ∧ gOf (look P σ t y) = true ∧ YV P t = true ∧ Zq P (ZP P t) = true ∧ 0 < P.cellsOf (ZP P t) ∧
    ∃ olds news σ1, Tq σ (unc (look P σ t x)) (P.cellsOf (ZP P t)) olds σ1 ∧ kL σ (unc (look P σ t y)) (P.cellsOf (ZP P t)) news ∧ σ1.fresh d = true ∧
     (olds.length + news.length) * P.bytesOf (ZP P t) ≤ 140737488355328 ∧ olds.length + news.length ≤ 9223372036854775807 ∧ σ' = σ1.new d (.one (.sref d 0 0 (olds.length + news.length))) [.arr false (P.cellsOf (ZP P t)) (olds ++ news)]
  | .value (.func f) => (∃ own res, Cx P σ c f own res ∧ σ' = σ.put d (qM res)) ∨ (∃ res, Cx P σ c f true res ∧ σ.fresh d = true ∧ σ' = σ.new d (Ui d res) (yE res.flatten)) ∨
    (∃ rows res qs, Xy P σ c.args.toList c.argTypes.toList rows ∧ YZ P f rows res ∧ kY qs res.flatten ∧ σ.fresh d = true ∧ σ' = σ.new d (Ui d res) (Z8 qs res.flatten))
  | _ => ∃ v, Yj P σ o.op o.type v ∧ σ' = σ.put d v)
 | .convert S T x =>
   (∃ v, Yj P σ o.op o.type v ∧ σ' = σ.put d v) ∨
   (∃ l, gOf (look P σ S x) = true ∧ QL P S = true ∧ Jf P T = true ∧ kL σ (unc (look P σ S x)) 1 (KQ l) ∧ σ' = σ.put d (.one (.d (.str ⟨l.toArray⟩)))) ∨
   (∃ s, gOf (look P σ S x) = true ∧ Jf P S = true ∧ QL P T = true ∧ unc (look P σ S x) = .one (.d (.str s)) ∧ s.size ≤ 9223372036854775807 ∧ σ' = σ.put d (.one (.d (.sl 1 (KQ s.data.toList)))))
 | _ => ∃ v, Yj P σ o.op o.type v ∧ σ' = σ.put d v
def j6 (P : Program) (σ : St) (T : TypeId) (x y : Operand) (σ' : St) : Prop :=
 Yr P T = true ∧ gOf (look P σ 0 x) = true ∧ gOf (look P σ T y) = true ∧ (unc (look P σ T y)).flat = true ∧
  (match unc (look P σ 0 x) with
  | .one (.bptr t c) => ∃ cells, σ.ob t 0 = .box cells ∧ (unc (look P σ T y)).cells.length = P.cellsOf T ∧ c + P.cellsOf T ≤ cells.length ∧ σ' = σ.Ya t 0 (.box (place cells c (unc (look P σ T y)).cells))
  | .one (.ptr t j i c) => ∃ q size rows ds, σ.ob t j = .arr q size rows ∧ i < rows.length ∧ rowOf σ (unc (look P σ T y)).cells = some ds ∧ Jz (unc (look P σ T y)).cells = true ∧ ds.length = P.cellsOf T ∧ c + P.cellsOf T ≤ size ∧
    (q = true → ds.all D.scalar = true ∧ (cut (rows.getD i []) c (P.cellsOf T)).all D.scalar = true) ∧ σ' = σ.Ya t j (.arr q size (rows.set i (place (rows.getD i []) c ds)))
  | _ => False)
def qj (want : Bool) : V → Option Bool
 | .one (.d (.bool b)) => some (b == want)
 | .cnd g (.one (.d (.bool b))) => some (g && (b == want))
 | .cnd false _ => some false
 | _ => none
def MO (P : Program) (o : Oper) (σ : St) (v : V) : Prop :=
 match o.op with
 | .call c =>
  (match c.callee with
  | .value (.func f) => ∃ own res, Cx P σ c f own [res] ∧ v = qM [res]
  | _ => ∃ v0, Yj P σ o.op o.type v0 ∧ gOf v0 = true ∧ v = unc v0 ∧ v.flat = true)
 | _ => ∃ v0, Yj P σ o.op o.type v0 ∧ gOf v0 = true ∧ v = unc v0 ∧ v.flat = true
def XS (P : Program) (ops : Array Oper) (o : Oper) (σ σ' : St) : Prop :=
 match o.guard with
 | none =>
  (match o.dst with
  | some d => Step P o d σ σ'
  | none => (match o.op with | .store T x y => j6 P σ T x y σ' | _ => False))
 | some (j, want) => ∃ dj d g v, (ops[j]?).bind (·.dst) = some dj ∧ dj < σ.length ∧ o.dst = some d ∧ qj want (σ.get dj) = some g ∧ (g = true → MO P o σ v) ∧ σ' = σ.put d (.cnd g v)
def Au (P : Program) (ops : Array Oper) (o : Oper) (σ σ' : St) : Prop :=
 ∀ (T0 : CS) (B : Nat → Prop) (a : Act) (w : World) (K : Act → World → Prop) (Q : Exit → Act → World → Prop), Jc T0 B σ a w → (∀ a' w', Jc T0 B σ' a' w' → XM B w w' → K a' w') →
  if Region.wanted o (yielded ops a.tmps) then o.wp P a w K Q else K (a.put o.dst undef) w
def XU (σ : St) (d : Nat) : Bool := match σ[d]? with | some (.any, []) => true | some (.one (.d _), []) => true | _ => false
def vq (o : Oper) (σ σ' : St) : Prop := ∀ d, o.dst ≠ some d → XU σ d = true → XU σ' d = true
def CH (o : Oper) : Bool := match o.op with | .store _ _ _ => true | _ => false
def TL (d : Nat) : Operand → Bool
 | .tmp t => t == d
 | _ => false
def OH (o : Oper) (d : Nat) : Bool := match o.op with | .store _ p q => !TL d p && !TL d q | _ => false
def E4 : V → Bool
 | .any => true
 | .one (.d _) => true
 | _ => false
def St.PH : St → List (Nat × V) → St
 | σ, [] => σ
 | σ, p :: l => St.PH (σ.put p.1 p.2) l
def oW (P : Program) (ops : Array Oper) (o : Oper) (σ σ' : St) : Prop :=
 (σ'.length = σ.length ∧ ∀ u, σ'.get u = σ.get u) ∧ ∀ l : List (Nat × V), (∀ p ∈ l, OH o p.1 = true ∧ E4 p.2 = true) → Au P ops o (σ.PH l) (σ'.PH l) ∧ vq o (σ.PH l) (σ'.PH l)
def kd (P : Program) (ops : Array Oper) (bar : Oper → Bool) (o : Oper) (σ σ' : St) : Prop := XS P ops o σ σ' ∨ (bar o = true ∧ Au P ops o σ σ' ∧ vq o σ σ' ∧ (CH o = true → oW P ops o σ σ'))
def Ex (P : Program) (ops : Array Oper) (bar : Oper → Bool) : List Oper → St → (St → Prop) → Prop
 | [], σ, Q => Q σ
 | o :: rest, σ, Q => ∃ σ', kd P ops bar o σ σ' ∧ Ex P ops bar rest σ' Q
section
variable {P : Program} {T0 : CS} {B : Nat → Prop} {σ : St} {a : Act} {w w' : World} {X X' : Nat → Prop} {h : Nat → Nat → Hd}
theorem Pp (d : Nat) : ∀ (n : Nat) (t : TypeId) (row : List At), Yp P n t = some row → YM d row = false := by
 intro n
 induction n with
 | zero => intro t row hr; simp [Yp] at hr
 | succ n ih =>
  intro t row hr
  have happ : ∀ (rs : List (List At)), (∀ r ∈ rs, YM d r = false) → YM d rs.flatten = false := by
   intro rs hrs
   have app : ∀ (xs ys : List At), YM d xs = false → YM d ys = false → YM d (xs ++ ys) = false := by
    intro xs ys hx hy
    induction xs with
    | nil => exact hy
    | cons x xs ih2 => simp only [List.cons_append, YM, Bool.or_eq_false_iff] at hx ⊢; exact ⟨hx.1, ih2 hx.2⟩
   induction rs with
   | nil => rfl
   | cons r rs ih2 => rw [List.flatten_cons]; exact app _ _ (hrs r (by simp)) (ih2 (fun r hr => hrs r (by simp [hr])))
  rw [Yp] at hr
  split at hr
  ·cases hr; rfl
  ·cases hr; rfl
  ·cases hr; rfl
  ·cases hr; rfl
  ·rename_i fs _
   simp only [Option.map_eq_some_iff] at hr
   obtain ⟨rs, hrs, rfl⟩ := hr
   refine happ rs ?_
   have : ∀ (l : List Field) (rs : List (List At)), l.mapM (fun f => Yp P n f.type) = some rs → ∀ r ∈ rs, YM d r = false := by
    intro l
    induction l with
    | nil => intro rs hh r hr; simp at hh; subst hh; cases hr
    | cons f l ih2 =>
     intro rs hh r hr
     simp only [List.mapM_cons, Option.bind_eq_bind, Option.bind_eq_some_iff] at hh
     obtain ⟨r0, hr0, rs', hrs', hh⟩ := hh
     simp at hh; subst hh
     rcases List.mem_cons.1 hr with rfl | hr
     ·exact ih f.type _ hr0
     ·exact ih2 rs' hrs' r hr
   exact this fs.toList rs hrs
  ·simp only [Option.map_eq_some_iff] at hr
   obtain ⟨r0, hr0, rfl⟩ := hr
   exact happ _ (fun r hr => by rw [List.eq_of_mem_replicate hr]; exact ih _ _ hr0)
  ·cases hr
theorem Vi {o : Oper} {d : Nat} {v : V} (r : Rel T0 B σ a w X h) (hd : o.dst = some d) (hex : ∃ val, (execOp a.eval o).run P w = .ok (.value val) w ∧ Xl (Tof T0 X) h σ.ob w v val)
  {K : Act → World → Prop} {Q : Exit → Act → World → Prop} (hK : ∀ a' w', Jc T0 B (σ.put d v) a' w' → XM B w w' → K a' w') : o.wp P a w K Q := by
 obtain ⟨val, hrun, hv⟩ := hex
 unfold Oper.wp
 rw [hrun, Oper.upon_value, hd]
 exact hK _ _ ⟨X, h, r.put d v val hv⟩ (XM.refl _ _)
theorem AT (r : Rel T0 B σ a w X h) {o : Oper} {d : Nat} {σ' : St} (hd : o.dst = some d) (hs : Step P o d σ σ') {K : Act → World → Prop} {Q : Exit → Act → World → Prop}
  (hK : ∀ a' w', Jc T0 B σ' a' w' → XM B w w' → K a' w') : o.wp P a w K Q := by
 have dflt : (∃ v, Yj P σ o.op o.type v ∧ σ' = σ.put d v) → o.wp P a w K Q := by
  rintro ⟨v, hv, rfl⟩
  exact Vi r hd (Mp r hv) hK
 unfold Step at hs
 split at hs
 ·rename_i T hop
  obtain ⟨hf, hz, row, hrow, rfl⟩ := hs
  exact Cr r hop hd hf hz hrow (Pp d _ _ _ hrow) hK
 ·rename_i T x hop
  obtain ⟨hf, hg, hfl, hr, rfl⟩ := hs
  exact vL r hop hd hf hg hfl hr hK
 ·rename_i T n parts hop
  obtain ⟨hf, h1, h2, h3, h4, h5, ⟨rows, h6, rfl⟩ | ⟨rows, h6, h7, rfl⟩⟩ := hs
  ·exact Np r hop hd hf h1 h2 h3 h4 h5 h6 hK
  ·exact S3 r hop hd hf h1 h2 h3 h4 h5 h6 h7 hK
 ·rename_i T x y hop
  obtain ⟨rfl, hf, h1, h2, h3, q, z, zr, k, n, hq, h4, h5, h6, h7, h8, rfl⟩ := hs
  cases q with
  | false => exact Lp r hop hd hf h1 h2 h4 h5 h3 h6 h7 h8 hK
  | true => exact Hc r hop hd hf h1 h2 h4 h5 (hq rfl) h3 h6 h7 h8 hK
 ·rename_i c hop
  split at hs
  ·rename_i hc
   obtain ⟨x, y, t, ha, hat, h1, h2, h3, h4, h5, olds, news, σ1, h6, h7, h8, h9, h10, rfl⟩ := hs
   refine DO r (t := t) (x := x) (y := y) ?_ hd h1 h2 h3 h4 h5 h6 h7 h8 h9 h10 hK
   rw [hop]
   obtain ⟨cc, ca, ct⟩ := c
   simp only at hc ha hat
   rw [hc, ha, hat]
  ·rename_i f hc
   rcases hs with ⟨own, res, ⟨rows, ha, hs, hor⟩, rfl⟩ | ⟨res, ⟨rows, ha, hs, hor⟩, hf, rfl⟩ | ⟨rows, res, qs, ha, hs, hq, hf, rfl⟩
   ·rcases hor with hor | hor
    ·exact WW r hop hc hd ha true (fun _ => hor) (fun hh => by cases hh) hs hK
    ·exact WW r hop hc hd ha false (fun hh => by cases hh) (fun _ => hor) hs hK
   ·rcases hor with hor | hor
    ·exact Pg r hop hc hd hf ha true (fun _ => hor) (fun hh => by cases hh) hs hK
    ·exact Pg r hop hc hd hf ha false (fun hh => by cases hh) (fun _ => hor) hs hK
   ·exact CG r qs hop hc hd hf ha hs hq hK
  ·exact dflt hs
 ·rename_i S T x hop
  rcases hs with hs | ⟨l, h1, h2, h3, h4, rfl⟩ | ⟨s, h1, h2, h3, h4, h5, rfl⟩
  ·exact dflt hs
  ·exact Vi r hd (PN r hop h1 h2 h3 h4) hK
  ·exact PJ r hop hd h1 h2 h3 h4 h5 hK
 ·exact dflt hs
theorem En (r : Rel T0 B σ a w X h) {o : Oper} {T : TypeId} {x y : Operand} {σ' : St} (hop : o.op = .store T x y) (hd : o.dst = none) (hs : j6 P σ T x y σ') {K : Act → World → Prop} {Q : Exit → Act → World → Prop}
  (hK : ∀ a' w', Jc T0 B σ' a' w' → XM B w w' → K a' w') : o.wp P a w K Q := by
 obtain ⟨ht, hgx, hgy, hfl, hs⟩ := hs
 split at hs
 ·rename_i t c hx
  obtain ⟨cells, ho, hl, hle, rfl⟩ := hs
  exact Iw r hop hd ht hgx hgy hx ho hfl hl hle hK
 ·rename_i t j i c hx
  obtain ⟨q, size, rows, ds, ho, hi, hds, hst, hl, hle, hq, rfl⟩ := hs
  refine GK r hop hd ht hgx hgy hx ho hi hfl hds hst hl hle (fun hh => ⟨fun d hd' => ?_, fun k d hk hd' => ?_⟩) hK
  ·exact List.all_eq_true.1 (hq hh).1 d hd'
  ·refine List.all_eq_true.1 (hq hh).2 d (List.mem_of_getElem? (i := k) ?_)
   simp only [cut, List.getElem?_take, if_pos hk, List.getElem?_drop]; exact hd'
 ·exact hs.elim
theorem Mh {T : CS} {ob : Nat → Nat → Ob} {v : V} {val : Value} (hf : (unc v).flat = true) (hv : Xl T h ob w (unc v) val) : Ja T h ob w (unc v) val := by
 cases hu : unc v with
 | one x => rw [hu] at hv; exact hv
 | agg xs => rw [hu] at hv; exact hv
 | any => rw [hu] at hf; cases hf
 | tup xs => rw [hu] at hf; cases hf
 | cnd g x => rw [hu] at hf; cases hf
 | fix u x => rw [hu] at hf; cases hf
theorem Ci (r : Rel T0 B σ a w X h) {ops : Array Oper} {o : Oper} {j dj : Nat} {want g : Bool} (hgd : o.guard = some (j, want)) (hdj : (ops[j]?).bind (·.dst) = some dj) (hlt : dj < σ.length) (hg : qj want (σ.get dj) = some g) :
  Region.wanted o (yielded ops a.tmps) = g := by
 have hsz : dj < a.tmps.size := by rw [r.size]; exact hlt
 have hv := r.slot dj hlt
 have hgetD : a.tmps.getD dj undef = a.tmps[dj] := by simp [hsz]
 rw [hgetD] at hv
 have hy : yielded ops a.tmps j = (match a.tmps[dj] with | .bool b => some b | _ => none) := by
  unfold yielded
  rw [hdj]
  simp only [Option.bind_some, Array.getElem?_eq_getElem hsz]
  cases a.tmps[dj] <;> rfl
 simp only [Region.wanted, hgd, hy]
 unfold qj at hg
 split at hg
 ·rename_i b hgv
  rw [hgv] at hv
  rw [jf hv]
  cases hg
  cases b <;> cases want <;> rfl
 ·rename_i g0 b hgv
  rw [hgv] at hv
  cases hg
  cases g0 with
  | true =>
   rw [jf (hv.1 rfl)]
   cases b <;> cases want <;> rfl
  | false =>
   rw [hv.2 rfl]
   simp [undef]
 ·rename_i hgv
  rw [hgv] at hv
  cases hg
  rw [hv.2 rfl]
  simp [undef]
 ·cases hg
theorem Bg (r : Rel T0 B σ a w X h) {ops : Array Oper} {o : Oper} {σ' : St} (hs : XS P ops o σ σ') {K : Act → World → Prop} {Q : Exit → Act → World → Prop}
  (hK : ∀ a' w', Jc T0 B σ' a' w' → XM B w w' → K a' w') : if Region.wanted o (yielded ops a.tmps) then o.wp P a w K Q else K (a.put o.dst undef) w := by
 unfold XS at hs
 split at hs
 ·rename_i hg
  have hw : Region.wanted o (yielded ops a.tmps) = true := by simp [Region.wanted, hg]
  rw [if_pos hw]
  split at hs
  ·rename_i d hd; exact AT r hd hs hK
  ·rename_i hd
   split at hs
   ·rename_i T x y hop; exact En r hop hd hs hK
   ·exact hs.elim
 ·rename_i j want hg
  obtain ⟨dj, d, g, v, hdj, hlt, hd, hgc, hs, rfl⟩ := hs
  rw [Ci r hg hdj hlt hgc]
  cases g with
  | false =>
   simp only [Bool.false_eq_true, if_false]
   rw [hd]
   exact hK _ _ ⟨X, h, r.put d _ _ ⟨(fun hh => by cases hh), fun _ => rfl⟩⟩ (XM.refl _ _)
  | true =>
   simp only [if_true]
   have hs1 := hs rfl
   clear hs
   have dflt : (∃ v0, Yj P σ o.op o.type v0 ∧ gOf v0 = true ∧ v = unc v0 ∧ v.flat = true) → o.wp P a w K Q := by
    rintro ⟨v0, hv0, hg0, rfl, hfl⟩
    obtain ⟨val, hrun, hv⟩ := Mp r hv0
    refine Vi (v := .cnd true (unc v0)) r hd ⟨val, hrun, ⟨fun _ => Mh hfl (hv.unc hg0), fun hh => by cases hh⟩⟩ hK
   unfold MO at hs1
   split at hs1
   ·rename_i c hop
    split at hs1
    ·rename_i f hc
     obtain ⟨own, res, ⟨rows, ha, hs, hor⟩, rfl⟩ := hs1
     have fin : ∀ a' w', Jc T0 B (σ.put d (qM [res])) a' w' → XM B w w' → K a' w' := by
      rintro a' w' ⟨X', h', r'⟩ hb
      refine hK a' w' ⟨X', h', ?_⟩ hb
      -- the slot holds what the contract gives: it may be taken as given under the guard
      refine ⟨by rw [r'.size, St.zn, St.zn], r'.defers, r'.hB, r'.hX, r'.hT, fun t ht => ?_, fun t j => ?_, fun t j b => ?_, fun t j b => ?_, fun t j t' j' b => ?_⟩
      ·rw [St.zn] at ht
       have h0 := r'.slot t (by rw [St.zn]; exact ht)
       rw [St.Ki] at h0 ⊢
       rw [St.Tk] at h0 ⊢
       by_cases hh : t = d ∧ d < σ.length
       ·rw [if_pos hh] at h0 ⊢
        refine ⟨fun _ => ?_, fun hh => by cases hh⟩
        have hfl : (unc (vOf (res.map At.d))).flat = true := by
         match res.map At.d with
         | [] => rfl
         | [x] => rfl
         | x :: y :: xs => rfl
        have hu : unc (vOf (res.map At.d)) = vOf (res.map At.d) := by
         match res.map At.d with
         | [] => rfl
         | [x] => rfl
         | x :: y :: xs => rfl
        have := Mh (v := vOf (res.map At.d)) hfl (by rw [hu]; exact h0)
        rw [hu] at this; exact this
       ·rw [if_neg hh] at h0 ⊢; exact h0
      ·have := r'.obj t j; rw [St.Ki] at this ⊢; exact this
      ·have := r'.ub t j b; rw [St.Ki] at this ⊢; exact this
      ·have := r'.own t j b; rw [St.Ki] at this ⊢; exact this
      ·have := r'.inj t j t' j' b; rw [St.Ki] at this ⊢; exact this
     rcases hor with hor | hor
     ·exact WW r hop hc hd ha true (fun _ => hor) (fun hh => by cases hh) hs fin
     ·exact WW r hop hc hd ha false (fun hh => by cases hh) (fun _ => hor) hs fin
    ·exact dflt hs1
   ·exact dflt hs1
theorem Mb {ops : Array Oper} {bar : Oper → Bool} {o : Oper} {σ' : St} (hs : kd P ops bar o σ σ') : Au P ops o σ σ' := by
 rcases hs with hs | hs
 ·rintro T0 B a w K Q ⟨X, h, r⟩ hK
  exact Bg r hs hK
 ·exact hs.2.1
theorem I5 {ops : Array Oper} {bar : Oper → Bool} : ∀ {l : List Oper} {σ : St} {a : Act} {w : World} {Q : St → Prop} {Q' : Exit → Act → World → Prop}, Ex P ops bar l σ Q → Jc T0 B σ a w →
  (∀ σ' a' w', Q σ' → Jc T0 B σ' a' w' → XM B w w' → Q' .normal a' w') → wpList P ops Q' l a w
 | [], σ, a, w, Q, Q', hr, hrel, hK => hK σ a w hr hrel (XM.refl _ _)
 | o :: l, σ, a, w, Q, Q', ⟨σ', hs, hr⟩, hrel, hK => by
  refine wpList_step fun K hKK => ?_
  exact Mb hs _ _ _ _ _ _ hrel (fun a' w' hrel hb => hKK _ _ (I5 hr hrel (fun σ2 a2 w2 hq hr2 hb2 => hK σ2 a2 w2 hq hr2 (hb.trans hb2))))
end
end Go.Vm
namespace Go.Vm
open Go.RowKit
def AWP (P : Program) (c : Code) (Q : Exit → St → Prop) (σ : St) : Prop :=
 ∀ (T0 : CS) (B : Nat → Prop) (a : Act) (w : World), Jc T0 B σ a w → c.wp P (fun e a' w' => ∃ σ', Q e σ' ∧ Jc T0 B σ' a' w' ∧ XM B w w') a w
def Wk (σ σ' : St) : Prop := ∀ (T0 : CS) (B : Nat → Prop) (a : Act) (w : World), Jc T0 B σ a w → Jc T0 B σ' a w
def Ir (next : St → Prop) (Q : Exit → St → Prop) : Exit → St → Prop
 | .normal, σ => next σ
 | e, σ => Q e σ
def Rh (id : Nat) (Q : Exit → St → Prop) : Exit → St → Prop
 | .exit id', σ => if id' = id then Q .normal σ else Q (.exit id') σ
 | e, σ => Q e σ
section
variable {P : Program} {Q : Exit → St → Prop} {σ : St}
theorem Wk.refl (σ : St) : Wk σ σ := fun _ _ _ _ h => h
theorem Wk.trans {σ σ' σ'' : St} (h : Wk σ σ') (k : Wk σ' σ'') : Wk σ σ'' := fun _ _ _ _ r => k _ _ _ _ (h _ _ _ _ r)
theorem Ck {c : Code} {Q' : Exit → St → Prop} (h : ∀ e σ, Q e σ → Q' e σ) (k : AWP P c Q σ) : AWP P c Q' σ :=
 fun T0 B a w r => wp_mono (k T0 B a w r) fun e _ _ ⟨σ', hq, hr⟩ => ⟨σ', h e σ' hq, hr⟩
theorem uQ (h : Q .normal σ) : AWP P .skip Q σ := fun _ B _ w r => wp_skip ⟨σ, h, r, XM.refl B w⟩
theorem vh {id : Nat} (h : Q (.exit id) σ) : AWP P (.exit id) Q σ := fun _ B _ w r => wp_exit ⟨σ, h, r, XM.refl B w⟩
theorem tg (h : Q .ret σ) : AWP P .ret Q σ := fun _ B _ w r => wp_ret ⟨σ, h, r, XM.refl B w⟩
theorem AL {id : Nat} {l : List Oper} {bar : Oper → Bool} (h : Ex P l.toArray bar l σ (Q .normal)) : AWP P (.region id l.toArray false) Q σ :=
 fun _ _ _ _ r => wp_region_lit (I5 h r fun σ' _ _ hq hr hb => ⟨σ', hq, hr, hb⟩)
theorem tY {x y : Code} (h : AWP P x (Ir (AWP P y Q) Q) σ) : AWP P (.seq x y) Q σ := by
 intro T0 B a w r
 refine wp_seq (wp_mono (h T0 B a w r) ?_)
 rintro e a' w' ⟨σ', hq, hr, hb⟩
 cases e with
 | normal => exact wp_mono (hq T0 B a' w' hr) fun e _ _ ⟨σ2, h1, h2, h3⟩ => ⟨σ2, h1, h2, hb.trans h3⟩
 | exit id => exact ⟨σ', hq, hr, hb⟩
 | goto l => exact ⟨σ', hq, hr, hb⟩
 | ret => exact ⟨σ', hq, hr, hb⟩
 | panic ch => exact ⟨σ', hq, hr, hb⟩
 | outgrown => exact ⟨σ', hq, hr, hb⟩
theorem uc {c : Operand} {x y : Code} {b : Bool} (hc : look P σ 0 c = .one (.d (.bool b))) (ht : b = true → AWP P x Q σ) (hf : b = false → AWP P y Q σ) : AWP P (.cond c x y) Q σ := by
 intro T0 B a w r
 obtain ⟨X, h, rr⟩ := r
 have hv := rr.look (P := P) 0 c
 rw [hc] at hv
 exact wp_cond_split (jf hv) (fun hb => ht hb T0 B a w ⟨X, h, rr⟩) (fun hb => hf hb T0 B a w ⟨X, h, rr⟩)
theorem wb {id : Nat} {c : Code} (h : AWP P c (Rh id Q) σ) : AWP P (.block id c) Q σ := by
 intro T0 B a w r
 refine wp_block (wp_mono (h T0 B a w r) ?_)
 rintro e a' w' ⟨σ', hq, hr, hb⟩
 cases e with
 | exit id' =>
  simp only [Rh] at hq
  simp only [Exit.inBlock]
  split at hq
  ·rename_i hh; rw [if_pos hh]; exact ⟨σ', hq, hr, hb⟩
  ·rename_i hh; rw [if_neg hh]; exact ⟨σ', hq, hr, hb⟩
 | normal => exact ⟨σ', hq, hr, hb⟩
 | goto l => exact ⟨σ', hq, hr, hb⟩
 | ret => exact ⟨σ', hq, hr, hb⟩
 | panic ch => exact ⟨σ', hq, hr, hb⟩
 | outgrown => exact ⟨σ', hq, hr, hb⟩
theorem U7 {c : Code} {ι : Type} (S : ι → St) (μ : ι → Nat) (i0 : ι) (h0 : Wk σ (S i0))
  (round : ∀ i, AWP P c (Ir (fun σ' => ∃ i', μ i' < μ i ∧ Wk σ' (S i')) Q) (S i)) : AWP P (.loop c) Q σ := by
 intro T0 B a w r b k cs
 have key : ∀ n i a w, μ i = n → Jc T0 B (S i) a w →
   ∃ e a' w', (∃ σ', Q e σ' ∧ Jc T0 B σ' a' w' ∧ XM B w w') ∧ Arrives P (lone (b.at a (.code c :: .inLoop c :: k)) cs w) b k cs e a' w' := by
  intro n
  induction n using Nat.strongRecOn with
  | _ n ih =>
   intro i a w hn hr
   obtain ⟨e, a₁, w₁, ⟨σ₁, hq, hr₁, hb₁⟩, harr⟩ := round i T0 B a w hr b (.inLoop c :: k) cs
   cases e with
   | normal =>
    obtain ⟨i', hlt, hwk⟩ := hq
    obtain ⟨e₂, a₂, w₂, ⟨σ₂, hq₂, hr₂, hb₂⟩, harr₂⟩ := ih (μ i') (hn ▸ hlt) i' a₁ w₁ rfl (hwk T0 B a₁ w₁ hr₁)
    exact ⟨e₂, a₂, w₂, ⟨σ₂, hq₂, hr₂, hb₁.trans hb₂⟩, .of_steps (Steps.trans harr (.one step_inLoop)) harr₂⟩
   | exit id => exact ⟨_, a₁, w₁, ⟨σ₁, hq, hr₁, hb₁⟩, .pass (x := .inLoop c) rfl (fun _ _ => .inl (by simp)) harr⟩
   | goto l => exact ⟨_, a₁, w₁, ⟨σ₁, hq, hr₁, hb₁⟩, .pass (x := .inLoop c) rfl (fun _ _ => .inl (by simp)) harr⟩
   | ret => exact ⟨_, a₁, w₁, ⟨σ₁, hq, hr₁, hb₁⟩, .pass (x := .inLoop c) rfl (fun _ _ => .inl (by simp)) harr⟩
   | panic ch => exact ⟨_, a₁, w₁, ⟨σ₁, hq, hr₁, hb₁⟩, .pass (x := .inLoop c) rfl (fun _ _ => .inl (by simp)) harr⟩
   | outgrown => exact ⟨_, a₁, w₁, ⟨σ₁, hq, hr₁, hb₁⟩, .pass (x := .inLoop c) rfl (fun _ _ => .inl (by simp)) harr⟩
 obtain ⟨e, a', w', hq, harr⟩ := key _ i0 a w rfl (h0 T0 B a w r)
 exact ⟨e, a', w', hq, .of_steps (.one step_loop) harr⟩
end
/-! ### entering a function, and leaving it -/
def Sl : List (List D) → St
 | [] => []
 | r :: rs => (vOf (r.map .d), []) :: Sl rs
def WN (n : Nat) (args : List (List D)) : St := Sl args ++ List.replicate (n - args.length) (V.any, [])
def H9 (P : Program) (σ : St) : ResultVar → List At → Prop
 | .tmp t, xs => (σ.get t = vOf xs) ∧ t < σ.length
 | .cell t T, xs => ∃ u c cells, σ.get t = .one (.bptr u c) ∧ σ.ob u 0 = .box cells ∧ Yr P T = true ∧ Yw P T = true ∧ P.cellsOf T ≠ 1 ∧ c + P.cellsOf T ≤ cells.length ∧ xs = cut cells c (P.cellsOf T)
def RL (P : Program) (σ : St) : List ResultVar → List (List At) → Prop
 | [], xss => xss = []
 | r :: rs, xss => ∃ xs rest, H9 P σ r xs ∧ RL P σ rs rest ∧ xss = xs :: rest
def T2 (σ : St) : List (List At) → Option (List (List D))
 | [] => some []
 | xs :: rest => (match rowOf σ xs, T2 σ rest with | some r, some rs => some (r :: rs) | _, _ => none)
def jh (σ : St) : At → Option D
 | .d (.sl _ _) => none
 | .d x => some x
 | .nil s => some (.sl s [])
 | .sref t j lo len => (match σ.ob t j with | .arr false size rows => if lo = 0 ∧ len = rows.length then some (.sl size rows) else none | _ => none)
 | _ => none
def ownRow (σ : St) : List At → Option (List D)
 | [] => some []
 | x :: xs => (match jh σ x, ownRow σ xs with | some d, some ds => some (d :: ds) | _, _ => none)
def UC (σ : St) : List (List At) → Option (List (List D))
 | [] => some []
 | xs :: rest => (match ownRow σ xs, UC σ rest with | some r, some rs => some (r :: rs) | _, _ => none)
def CU (P : Program) (fn : Func) (own : Bool) (res : List (List D)) (e : Exit) (σ : St) : Prop :=
 (e = .ret ∨ e = .normal) ∧ ∃ xss, RL P σ fn.results.toList xss ∧ (if own then UC σ xss = some res ∧ (YW xss.flatten).Nodup else T2 σ xss = some res)
def u4 (P : Program) (fn : Func) (res : List (List D)) (e : Exit) (σ : St) : Prop :=
 (e = .ret ∨ e = .normal) ∧ ∃ xss, RL P σ fn.results.toList xss ∧ xa σ xss = some res ∧ yl σ xss ∧ (YW xss.flatten).Nodup
end Go.Vm
namespace Go.Vm
open Go.RowKit
section
variable {P : Program} {T0 : CS} {B : Nat → Prop} {σ : St} {a : Act} {w w' : World} {X X' : Nat → Prop} {h : Nat → Nat → Hd}
theorem VW : ∀ (args : List (List D)) (t : Nat), (Sl args)[t]? = (args[t]?).map fun r => (vOf (r.map .d), [])
 | [], t => by simp [Sl]
 | r :: rs, 0 => by simp [Sl]
 | r :: rs, t + 1 => by simpa [Sl] using VW rs t
theorem XC (args : List (List D)) : (Sl args).length = args.length := by
 induction args with
 | nil => rfl
 | cons r rs ih => simp [Sl, ih]
theorem CE {T : CS} {n : Nat} {args : List (List D)} {vals : List Value} (hT : ∀ b k, T b k → b < w.heap.size) (ha : Z3 (fun v row => ∃ cs, zE v cs ∧ Z3 (Rd T w) cs row) vals args) :
  Jc T (fun b => b < w.heap.size) (WN n args) { tmps := vals.toArray ++ Array.replicate (n - vals.toArray.size) undef, defers := [] } w := by
 have hl := ha.length
 refine ⟨fun _ => False, fun _ _ => Hd.of undef, ?_⟩
 have hob : ∀ t j, (WN n args).ob t j = .none := by
  intro t j
  unfold St.ob WN
  rcases Nat.lt_or_ge t args.length with h | h
  ·rw [List.getElem?_append_left (by rw [XC]; exact h), VW, List.getElem?_eq_getElem h]
   simp [YR]
  ·rw [List.getElem?_append_right (by rw [XC]; exact h), List.getElem?_replicate]
   split
   ·rename_i e he
    split at he
    ·cases he; simp [YR]
    ·cases he
   ·rfl
 have hTT : ∀ b k v, T b k → w.cell? ⟨b, k, none⟩ = some v → w.cell? ⟨b, k, none⟩ = some v ∧ Tof T (fun _ => False) b k := fun b k v hb hc => ⟨hc, .inl hb⟩
 refine ⟨by simp [WN, XC, hl], rfl, (fun b hb => hb), (fun b hb => hb.elim), hT, fun t ht => ?_, fun t j => by rw [hob]; trivial, fun t j b hne => absurd (hob t j) hne, fun t j b hne => absurd (hob t j) hne, fun t j t' j' b hne => absurd (hob t j) hne⟩
 unfold St.get WN
 rcases Nat.lt_or_ge t args.length with hlt | hge
 ·rw [List.getElem?_append_left (by rw [XC]; exact hlt), VW, List.getElem?_eq_getElem hlt]
  obtain ⟨v, hv, cs, hf, hal⟩ := ha.get' t args[t] (List.getElem?_eq_getElem hlt)
  have hval : (vals.toArray ++ Array.replicate (n - vals.toArray.size) undef).getD t undef = v := by
   rw [Array.getD_eq_getD_getElem?, Array.getElem?_append_left (by simp; omega)]
   simp [hv]
  simp only [hval]
  exact (PE hf (R0 (hal.imp fun _ _ => Rd.mono hTT))).up
 ·rw [List.getElem?_append_right (by rw [XC]; exact hge), List.getElem?_replicate]
  split
  ·rename_i e he
   split at he
   ·cases he; trivial
   ·cases he
  ·trivial
theorem tX {T : CS} {ob : Nat → Nat → Ob} {xs : List At} {v : Value} (hv : Xl T h ob w (vOf xs) v) : ∃ cs, zE v cs ∧ Z3 (Z7 T h ob w) xs cs := by
 match xs, hv with
 | [], hv =>
  obtain ⟨cs, rfl, hal⟩ := hv
  exact ⟨cs.toList, .inr ⟨by rw [← hal.length]; simp, by simp⟩, hal⟩
 | [x], hv => exact ⟨[v], .inl ⟨v, rfl, rfl, Z7.QA hv⟩, .cons hv .nil⟩
 | x :: y :: xs, hv =>
  obtain ⟨cs, rfl, hal⟩ := hv
  exact ⟨cs.toList, .inr ⟨by rw [← hal.length]; simp, by simp⟩, hal⟩
theorem wN (r : Rel T0 B σ a w X h) : ∀ {rs : List ResultVar} {xss : List (List At)}, RL P σ rs xss →
  ∃ vs css, (rs.mapM (m := Sem) fun | .tmp t => pure (a.tmps.getD t undef) | .cell u t => do loadVar t (← asAddr (a.tmps.getD u undef))).run P w = .ok vs w ∧ Z3 zE vs css ∧ Z3 (fun xs cs => Z3 (Z7 (Tof T0 X) h σ.ob w) xs cs) xss css
 | [], xss, hr => by cases hr; exact ⟨[], [], by simp, .nil, .nil⟩
 | rv :: rs, xss, hr => by
  obtain ⟨xs, rest, h1, h2, rfl⟩ := hr
  obtain ⟨vs, css, hrun, hf, hal⟩ := wN r h2
  have one : ∃ v cs, (match rv with | .tmp t => (pure (a.tmps.getD t undef) : Sem Value) | .cell u t => do loadVar t (← asAddr (a.tmps.getD u undef))).run P w = .ok v w ∧ zE v cs ∧ Z3 (Z7 (Tof T0 X) h σ.ob w) xs cs := by
   cases rv with
   | tmp t =>
    obtain ⟨hg, hlt⟩ := h1
    have hv := r.slot t hlt
    rw [hg] at hv
    obtain ⟨cs, hf, hal⟩ := tX hv
    exact ⟨_, cs, by simp, hf, hal⟩
   | cell t T =>
    obtain ⟨u, c, cells, hg, ho, hty, hag, hne, hle, rfl⟩ := h1
    have hv := r.get t
    rw [hg] at hv
    obtain ⟨b, cs, e, hb, he, hh, hal⟩ := r.box ho hv
    have hlen := hal.length
    obtain ⟨val, hld, hagg, _⟩ := ux (P := P) (w := w) hty (b := b) (off := c) (cs := cut cs.toList c (P.cellsOf T)) (Q6 _ _ _ (by omega)) (fun j u hu => xN hh _ _ (Vj _ _ _ _ _ hu))
    refine ⟨val, cut cs.toList c (P.cellsOf T), ?_, .inr ⟨by rw [Q6 _ _ _ (by omega)]; exact hne, hagg hag⟩, hal.cut _ _⟩
    simp only [Instr.loadAt, Instr.sureAddr, Sem.run_bind, Sem.run_pure, Result.andThen_ok] at hld
    simp only [he, asAddr, Sem.run_bind, Sem.run_pure, Result.andThen_ok]
    exact hld
  obtain ⟨v, cs, hrun1, hf1, hal1⟩ := one
  refine ⟨v :: vs, cs :: css, ?_, .cons hf1 hf, .cons hal1 hal⟩
  simp only [List.mapM_cons, Sem.run_bind, hrun1, Result.andThen_ok, hrun, Sem.run_pure]
theorem V9 (r : Rel T0 B σ a w X h) {fn : Func} {xss : List (List At)} (hr : RL P σ fn.results.toList xss) :
  ∃ vs css, (results fn a.tmps).run P w = .ok (Ms vs) w ∧ Z3 zE vs css ∧ Z3 (fun xs cs => Z3 (Z7 (Tof T0 X) h σ.ob w) xs cs) xss css := by
 obtain ⟨vs, css, hrun, hf, hal⟩ := wN r hr
 refine ⟨vs, css, ?_, hf, hal⟩
 unfold results
 rw [Array.mapM_eq_mapM_toList]
 change ((((fn.results.toList.mapM (m := Sem) fun | .tmp t => pure (a.tmps.getD t undef) | .cell u t => do loadVar t (← asAddr (a.tmps.getD u undef))) >>= fun l => pure l.toArray) >>= fun (vs : Array Value) => pure (if h : vs.size = 1 then vs[0] else .tuple vs))).run P w = _
 simp only [Sem.run_bind, hrun, Result.andThen_ok, Sem.run_pure]
 congr 1
 match vs with
 | [] => rfl
 | [v] => rfl
 | v :: v' :: vs => simp [Ms]
theorem OS (r : Rel T0 B σ a w X h) {T : CS} (hT : ∀ b k, Pz T0 X h σ b k → T b k) : ∀ {xss : List (List At)} {css : List (List Value)} {res : List (List D)}, T2 σ xss = some res → Z3 (fun xs cs => Z3 (Z7 (Tof T0 X) h σ.ob w) xs cs) xss css →
  Z3 (fun cs row => Z3 (xE false T w) cs row) css res
 | [], css, res, hr, hal => by cases hal; simp [T2] at hr; subst hr; exact .nil
 | xs :: xss, css, res, hr, hal => by
  cases hal with
  | cons h1 hal =>
   simp only [T2] at hr
   split at hr
   ·rename_i row rs hrow hrs
    cases hr
    refine .cons ?_ (OS r hT hrs hal)
    have := r.rowOf false hrow h1 (fun hh => by cases hh)
    refine this.imp fun v d hd => ?_
    simp only [xE, Bool.false_eq_true, if_false] at hd ⊢
    exact Rd.mono (fun b k v hb hc => ⟨hc, hT b k hb⟩) hd
   ·cases hr
theorem GJ : ∀ {xs : List At} {ds : List D}, ownRow σ xs = some ds → Z3 (fun x d => jh σ x = some d) xs ds
 | [], ds, hr => by simp [ownRow] at hr; subst hr; exact .nil
 | x :: xs, ds, hr => by
  simp only [ownRow] at hr
  split at hr
  ·rename_i d ds' h1 h2; cases hr; exact .cons h1 (GJ h2)
  ·cases hr
theorem Mr : ∀ {xss : List (List At)} {res : List (List D)}, UC σ xss = some res → Z3 (fun xs row => Z3 (fun x d => jh σ x = some d) xs row) xss res
 | [], res, hr => by simp [UC] at hr; subst hr; exact .nil
 | xs :: xss, res, hr => by
  simp only [UC] at hr
  split at hr
  ·rename_i d ds' h1 h2; cases hr; exact .cons (GJ h1) (Mr h2)
  ·cases hr
theorem Th (r : Rel T0 B σ a w X h) {x : At} {d : D} {v : Value} (hx : jh σ x = some d) (hv : Z7 (Tof T0 X) h σ.ob w x v) : Qd (Tof T0 X) w v d ∧ (∀ b, d.scalar = false → blk v = some b → ∃ t j lo len, x = .sref t j lo len ∧ σ.ob t j ≠ .none ∧ (h t j).u b) := by
 cases x with
 | d x =>
  cases x with
  | sl s rows => simp [jh] at hx
  | int k n => simp [jh] at hx; subst hx; exact ⟨hv, fun b hb => by cases hb⟩
  | bool b => simp [jh] at hx; subst hx; exact ⟨hv, fun b hb => by cases hb⟩
  | str s => simp [jh] at hx; subst hx; exact ⟨hv, fun b hb => by cases hb⟩
 | nil s =>
  simp [jh] at hx; subst hx
  cases hv
  exact ⟨⟨0, [], World.ownsRow_nil w 0 0 s, (by intro q hq; cases hq), .nil⟩, fun b _ hb => by cases hb⟩
 | sref t j lo len =>
  simp only [jh] at hx
  split at hx
  ·rename_i size rows ho
   split at hx
   ·rename_i hc
    obtain ⟨rfl, rfl⟩ := hc
    cases hx
    obtain ⟨_, hfull, _⟩ := hv.2.1 _ size rows ho
    have he := hfull rfl rfl
    have h0 := r.obj t j
    have hub := r.ub t j
    rw [ho] at h0 hub
    refine ⟨by rw [he]; exact h0, fun b _ hb => ⟨t, j, 0, rows.length, rfl, by rw [ho]; simp, hub b (by simp) (by rw [← he]; exact hb)⟩⟩
   ·cases hx
  ·cases hx
 | any => simp [jh] at hx
 | ptr => simp [jh] at hx
 | bptr => simp [jh] at hx
 | fn => simp [jh] at hx
 | rptr => simp [jh] at hx
 | tref => simp [jh] at hx
theorem Ei {f : FuncId} {fn : Func} {c : Code} (hf : P.funcs[f]? = some fn) (hb : fn.body = some c) (hok : Sn P f = true) {own : Bool} {args res : List (List D)}
  (hw : AWP P c (CU P fn own res) (WN fn.ntmps args)) : Xi P f own args res := by
 refine ⟨hok, fun T w vals hT hargs => calls_of_wp hf hb ?_⟩
 refine wp_mono (hw T (fun b => b < w.heap.size) _ w (CE hT hargs)) ?_
 rintro e a' w' ⟨σ', ⟨he, xss, hres, hcell⟩, ⟨X, h, r⟩, hkeep⟩
 have hbel : Below w.heap.size w w' := ⟨hkeep.os, hkeep.tape, hkeep.output, hkeep.size, hkeep.block⟩
 obtain ⟨vs, css, hrun, hform, hal⟩ := V9 r hres
 have goal : a'.defers = [] ∧ ∃ v, (results fn a'.tmps).run P w' = .ok v w' ∧ rz own T w res (.returned v) w' := by
  refine ⟨r.defers, _, hrun, ?_⟩
  cases own with
  | false =>
   refine ⟨vs, css, fun b => w.heap.size ≤ b ∧ b < w'.heap.size, rfl, hbel, fun b hb => hb, hform, ?_, fun hh => by cases hh⟩
   refine OS r (fun b k hb => ?_) (by simpa using hcell) hal
   rcases hb with hb | ⟨t, j, q, size, rows, ho, hb⟩
   ·rcases hb with hb | hb
    ·exact .inl hb
    ·have := r.hX b hb; exact .inr ⟨by omega, this.2⟩
   ·have := r.own t j b (by rw [ho]; simp) hb
    exact .inr ⟨by omega, this.2.2⟩
  | true =>
   simp only [if_true] at hcell
   obtain ⟨hown, hnd⟩ := hcell
   have hall := Mr hown
   have hflat1 : Z3 (fun x d => jh σ' x = some d) xss.flatten res.flatten := jG hall
   have hflat2 : Z3 (Z7 (Tof T X) h σ'.ob w') xss.flatten css.flatten := jG hal
   refine ⟨vs, css, X, rfl, hbel, (fun b hb => by have := r.hX b hb; exact ⟨by omega, this.2⟩), hform, ?_, fun _ => ⟨fun i cc d b hc hd hsc hb => ?_, fun i j cc cc' d d' b hc hd hc' hd' hsc hsc' hb hb' => ?_⟩⟩
   ·clear hflat1 hflat2 hform hrun hres hown hnd he hw
    induction hall generalizing css with
    | nil => cases hal; exact .nil
    | cons hr _ ih =>
     cases hal with
     | cons hr2 hal =>
      refine .cons ?_ (ih _ hal)
      clear ih hal
      refine Z3.xW (by rw [← hr2.length, hr.length]) (fun i v d hv hd => ?_)
      obtain ⟨x, hx, hxd⟩ := hr.get' i d hd
      obtain ⟨v', hv', hxv⟩ := hr2.get i x hx
      rw [hv] at hv'; cases hv'
      simp only [xE, if_true]
      exact (Th r hxd hxv).1
   ·obtain ⟨x, hx, hxd⟩ := hflat1.get' i d hd
    obtain ⟨v', hv', hxv⟩ := hflat2.get i x hx
    rw [hc] at hv'; cases hv'
    obtain ⟨t, j, lo, len, _, hne, hbb⟩ := (Th r hxd hxv).2 b hsc hb
    have := r.own t j b hne hbb
    exact ⟨by omega, this.2.2, this.2.1⟩
   ·obtain ⟨x, hx, hxd⟩ := hflat1.get' i d hd
    obtain ⟨v', hv', hxv⟩ := hflat2.get i x hx
    rw [hc] at hv'; cases hv'
    obtain ⟨x2, hx2, hxd2⟩ := hflat1.get' j d' hd'
    obtain ⟨v2, hv2, hxv2⟩ := hflat2.get j x2 hx2
    rw [hc'] at hv2; cases hv2
    obtain ⟨t, u, lo, len, rfl, hne, hbb⟩ := (Th r hxd hxv).2 b hsc hb
    obtain ⟨t2, u2, lo2, len2, rfl, hne2, hbb2⟩ := (Th r hxd2 hxv2).2 b hsc' hb'
    obtain ⟨rfl, rfl⟩ := r.inj t u t2 u2 b hne hne2 hbb hbb2
    exact Mj _ i j t u lo len lo2 len2 hnd hx hx2
 rcases he with rfl | rfl
 ·exact goal
 ·exact goal
theorem FP {f : FuncId} {fn : Func} {c : Code} (hf : P.funcs[f]? = some fn) (hb : fn.body = some c) (hok : Sn P f = true) {args res : List (List D)}
  (hw : AWP P c (u4 P fn res) (WN fn.ntmps args)) : YZ P f args res := by
 refine ⟨hok, fun T w vals hT hargs => calls_of_wp hf hb ?_⟩
 refine wp_mono (hw T (fun b => b < w.heap.size) _ w (CE hT hargs)) ?_
 rintro e a' w' ⟨σ', ⟨he, xss, hres, hmv, hmok, hnd⟩, ⟨X, h, r⟩, hkeep⟩
 have hbel : Below w.heap.size w w' := ⟨hkeep.os, hkeep.tape, hkeep.output, hkeep.size, hkeep.block⟩
 obtain ⟨vs, css, hrun, hform, hal⟩ := V9 r hres
 have goal : a'.defers = [] ∧ ∃ v, (results fn a'.tmps).run P w' = .ok v w' ∧ sY w res (.returned v) w' := by
  refine ⟨r.defers, _, hrun, vs, css, rfl, hbel, hform, ?_, ?_⟩
  ·clear hnd hmok hres hrun hform hw
   induction hal generalizing res with
   | nil => simp [xa] at hmv; subst hmv; exact .nil
   | cons h1 _ ih =>
    simp only [xa] at hmv
    split at hmv
    ·rename_i row rs hrow hrs
     cases hmv
     exact .cons (by rw [← h1.length]; exact (Wp hrow).1) (ih hrs)
    ·cases hmv
  ·refine (RW r (jG hal) (Vr hmv).1 (kB hmok) hnd).mono (fun b hb => ?_)
   have := r.yK _ b hb
   exact ⟨by omega, this.2.2.1⟩
 rcases he with rfl | rfl
 ·exact goal
 ·exact goal
end
end Go.Vm
namespace Go.Vm
open Go.RowKit
theorem St.uI (e : Ent) (σ : St) : St.get (e :: σ) 0 = e.1 := rfl
theorem St.BZ (e : Ent) (σ : St) (n : Nat) : St.get (e :: σ) (n + 1) = St.get σ n := by simp [St.get]
theorem St.tS (e : Ent) (σ : St) (j : Nat) : St.ob (e :: σ) 0 j = YR e.2 j := rfl
theorem St.Ea (e : Ent) (σ : St) (n j : Nat) : St.ob (e :: σ) (n + 1) j = St.ob σ n j := by simp [St.ob]
theorem Fv (o : Ob) (os : List Ob) : YR (o :: os) 0 = o := rfl
theorem ji (o : Ob) (os : List Ob) (n : Nat) : YR (o :: os) (n + 1) = YR os n := by simp [YR]
theorem u7 (n : Nat) : YR [] n = .none := by simp [YR]
def lkI (P : Program) (σ : St) (x : Operand) : Prop × Int :=
 match unc (look P σ 0 x) with
 | .one (.d (.int _ n)) => (gOf (look P σ 0 x) = true, n)
 | _ => (False, 0)
def lkK (P : Program) (σ : St) (x : Operand) : IntKind :=
 match unc (look P σ 0 x) with
 | .one (.d (.int k _)) => k
 | _ => .i64
theorem kz {P : Program} {σ : St} {x : Operand} (h : (lkI P σ x).1) : VH P σ x (lkK P σ x) (lkI P σ x).2 := by
 unfold lkI at h ⊢
 unfold lkK
 unfold VH
 split at h
 ·rename_i k n heq
  rw [heq]; exact ⟨h, rfl⟩
 ·exact h.elim
def za (P : Program) (σ : St) (dflt : Nat) : Option Operand → Prop × Nat
 | none => (True, dflt)
 | some x => ((lkI P σ x).1 ∧ 0 ≤ (lkI P σ x).2, (lkI P σ x).2.toNat)
theorem Uk {P : Program} {σ : St} {dflt : Nat} {x : Option Operand} (h : (za P σ dflt x).1) : bnd P σ dflt x (za P σ dflt x).2 := by
 cases x with
 | none => rfl
 | some x =>
  have h1 := kz h.1
  exact ⟨_, _, h1.1, h1.2, h.2, rfl⟩
def rowAt (rows : List (List D)) (i : Nat) : List D := rows.getD i []
def bAt (s : ByteArray) (i : Nat) : Nat := (s.data.toList.getD i 0).toNat
def RH (P : Program) (σ : St) (T : TypeId) (x ix : Operand) : Prop × V :=
 match unc (look P σ 0 x) with
 | .one (.d (.sl size rows)) => ((gOf (look P σ 0 x) = true ∧ (lkI P σ ix).1) ∧ 0 ≤ (lkI P σ ix).2 ∧ (YV P T = true ∧ size = P.cellsOf (ZP P T) ∧ 0 < size) ∧ (lkI P σ ix).2 < (rows.length : Int), .one (.rptr (rowAt rows (lkI P σ ix).2.toNat) 0))
 | .one (.sref t j lo len) => ((gOf (look P σ 0 x) = true ∧ (lkI P σ ix).1) ∧ 0 ≤ (lkI P σ ix).2 ∧ (YV P T = true ∧ 0 < P.cellsOf (ZP P T) ∧ (match σ.ob t j with | .arr _ size _ => size = P.cellsOf (ZP P T) | _ => False)) ∧ (lkI P σ ix).2 < (len : Int), .one (.ptr t j (lo + (lkI P σ ix).2.toNat) 0))
 | .one (.bptr t c) => ((gOf (look P σ 0 x) = true ∧ (lkI P σ ix).1) ∧ 0 ≤ (lkI P σ ix).2 ∧ (match σ.ob t 0 with | .box _ => True | _ => False) ∧ (match Gg P T with | some n => 1 < n ∧ (lkI P σ ix).2 < (n : Int) | none => False), .one (.bptr t (c + (lkI P σ ix).2.toNat * P.cellsOf (ZP P T))))
 | _ => (False, .any)
def AI (P : Program) (σ : St) (T : TypeId) (x : Operand) : Prop × V :=
 match unc (look P σ 0 x) with
 | .one (.bptr t c) => (match σ.ob t 0 with | .box cells => (gOf (look P σ 0 x) = true ∧ Yr P T = true ∧ c + P.cellsOf T ≤ cells.length, ldV P T (cut cells c (P.cellsOf T))) | _ => (False, .any))
 | .one (.ptr t j i c) => (match σ.ob t j with | .arr q size rows => ((gOf (look P σ 0 x) = true ∧ Yr P T = true ∧ c + P.cellsOf T ≤ size) ∧ i < rows.length, ldV P T (Te q t j i c (cut (rowAt rows i) c (P.cellsOf T)))) | _ => (False, .any))
 | .one (.rptr r c) => (gOf (look P σ 0 x) = true ∧ Yr P T = true ∧ c + P.cellsOf T ≤ r.length, ldV P T ((cut r c (P.cellsOf T)).map .d))
 | _ => (False, .any)
def RA (P : Program) (σ : St) (T : TypeId) (x : Operand) (f : Nat) : Prop × V :=
 match unc (look P σ 0 x) with
 | .one (.bptr t c) => (gOf (look P σ 0 x) = true ∧ ZR P T f = true ∧ (match σ.ob t 0 with | .box _ => True | _ => False), .one (.bptr t (c + ZG P T f)))
 | .one (.ptr t j i c) => (gOf (look P σ 0 x) = true ∧ ZR P T f = true ∧ (match σ.ob t j with | .arr _ _ _ => True | _ => False), .one (.ptr t j i (c + ZG P T f)))
 | .one (.rptr r c) => (gOf (look P σ 0 x) = true ∧ ZR P T f = true, .one (.rptr r (c + ZG P T f)))
 | _ => (False, .any)
def F2 (P : Program) (op : BinOp) (T : TypeId) (x y : V) : Prop × V :=
 match op, x, y with
 | .eql, .one (.d (.int k m)), .one (.d (.int k' n)) => (k' = k, .one (.d (.bool (m == n))))
 | .neq, .one (.d (.int k m)), .one (.d (.int k' n)) => (k' = k, .one (.d (.bool (m != n))))
 | .lss, .one (.d (.int k m)), .one (.d (.int k' n)) => (k' = k, .one (.d (.bool (decide (m < n)))))
 | .leq, .one (.d (.int k m)), .one (.d (.int k' n)) => (k' = k, .one (.d (.bool (decide (m ≤ n)))))
 | .gtr, .one (.d (.int k m)), .one (.d (.int k' n)) => (k' = k, .one (.d (.bool (decide (m > n)))))
 | .geq, .one (.d (.int k m)), .one (.d (.int k' n)) => (k' = k, .one (.d (.bool (decide (m ≥ n)))))
 | .add, .one (.d (.int k m)), .one (.d (.int k' n)) => (k' = k, .one (.d (.int k (k.wrap (m + n)))))
 | .sub, .one (.d (.int k m)), .one (.d (.int k' n)) => (k' = k, .one (.d (.int k (k.wrap (m - n)))))
 | .mul, .one (.d (.int k m)), .one (.d (.int k' n)) => (k' = k, .one (.d (.int k (k.wrap (m * n)))))
 | .quo, .one (.d (.int k m)), .one (.d (.int k' n)) => (k' = k ∧ n ≠ 0, .one (.d (.int k (k.wrap (m.tdiv n)))))
 | .rem, .one (.d (.int k m)), .one (.d (.int k' n)) => (k' = k ∧ n ≠ 0, .one (.d (.int k (m.tmod n))))
 | .and, .one (.d (.int k m)), .one (.d (.int k' n)) => (k' = k, .one (.d (.int k (k.wrap (BitVec.ofInt k.bits m &&& BitVec.ofInt k.bits n).toNat))))
 | .or, .one (.d (.int k m)), .one (.d (.int k' n)) => (k' = k, .one (.d (.int k (k.wrap (BitVec.ofInt k.bits m ||| BitVec.ofInt k.bits n).toNat))))
 | .shl, .one (.d (.int k m)), .one (.d (.int _ n)) => (0 ≤ n, .one (.d (.int k (k.wrap (m * 2 ^ (min n.toNat k.bits))))))
 | .shr, .one (.d (.int k m)), .one (.d (.int _ n)) => (0 ≤ n, .one (.d (.int k (m.fdiv (2 ^ (min n.toNat k.bits))))))
 | .add, .one (.d (.str m)), .one (.d (.str n)) => (((m.size + n.size : Nat) : Int) ≤ 9223372036854775807, .one (.d (.str (m ++ n))))
 | .eql, .one (.d (.str m)), .one (.d (.str n)) => (True, .one (.d (.bool (decide (m = n)))))
 | .neq, .one (.d (.str m)), .one (.d (.str n)) => (True, .one (.d (.bool (!decide (m = n)))))
 | .eql, .one (.d (.bool m)), .one (.d (.bool n)) => (Mf P T = true, .one (.d (.bool (m == n))))
 | .neq, .one (.d (.bool m)), .one (.d (.bool n)) => (Mf P T = true, .one (.d (.bool (!(m == n)))))
 | .eql, .agg xs, .agg ys => (Vh P T = true ∧ (jH P (P.fieldsOf T).toList xs ys).isSome = true, .one (.d (.bool ((jH P (P.fieldsOf T).toList xs ys).getD false))))
 | .neq, .agg xs, .agg ys => (Vh P T = true ∧ (jH P (P.fieldsOf T).toList xs ys).isSome = true, .one (.d (.bool (!(jH P (P.fieldsOf T).toList xs ys).getD false))))
 | _, _, _ => (False, .any)
def Td (P : Program) (σ : St) (T : TypeId) : List (Nat × Operand) → List At → Prop × List At
 | [], r => (True, r)
 | (i, x) :: ps, r => ((bOk P T i = true ∧ gOf (look P σ (bTy P T i) x) = true ∧ (unc (look P σ (bTy P T i) x)).flat = true ∧
   (unc (look P σ (bTy P T i) x)).cells.length = P.cellsOf (bTy P T i) ∧ Zz P T i + P.cellsOf (bTy P T i) ≤ r.length) ∧ (Td P σ T ps (place r (Zz P T i) (unc (look P σ (bTy P T i) x)).cells)).1,
   (Td P σ T ps (place r (Zz P T i) (unc (look P σ (bTy P T i) x)).cells)).2)
theorem GL {P : Program} {σ : St} {T : TypeId} : ∀ {ps : List (Nat × Operand)} {r : List At}, (Td P σ T ps r).1 → UX P σ T ps r (Td P σ T ps r).2
 | [], _, _ => rfl
 | (_, _) :: _, _, h => ⟨h.1.1, h.1.2.1, h.1.2.2.1, h.1.2.2.2.1, h.1.2.2.2.2, GL h.2⟩
def isB : V → Bool
 | .one (.d (.bool _)) => true
 | _ => false
def bOf : V → Bool
 | .one (.d (.bool b)) => b
 | _ => false
theorem uW : ∀ {v : V}, isB v = true → v = .one (.d (.bool (bOf v)))
 | .one (.d (.bool _)), _ => rfl
def evV (P : Program) (σ : St) (op : Op) (ty : TypeId) : Prop × V :=
 match op with
 | .move x => (True, look P σ ty x)
 | .assign x => (True, look P σ ty x)
 | .pick c a b =>
  (match unc (look P σ ty c) with
  | .one (.d (.bool bc)) => ((gOf (look P σ ty c) = true ∧ (bc = true → isB (unc (look P σ ty a)) = true) ∧ (bc = false → isB (unc (look P σ ty b)) = true)) ∧ (bc = true → gOf (look P σ ty a) = true) ∧ (bc = false → gOf (look P σ ty b) = true), .one (.d (.bool (cond bc (bOf (unc (look P σ ty a))) (bOf (unc (look P σ ty b)))))))
  | _ => (False, .any))
 | .load T x => AI P σ T x
 | .fieldAddr T x f => RA P σ T x f
 | .indexAddr T x ix => RH P σ T x ix
 | .index T x ix =>
  (match unc (look P σ 0 x) with
  | .one (.d (.str s)) => ((gOf (look P σ 0 x) = true ∧ (lkI P σ ix).1) ∧ 0 ≤ (lkI P σ ix).2 ∧ Jf P T = true ∧ (lkI P σ ix).2 < (s.size : Int), .one (.d (.int .u8 (bAt s (lkI P σ ix).2.toNat))))
  | .agg xs => ((gOf (look P σ 0 x) = true ∧ (lkI P σ ix).1) ∧ 0 ≤ (lkI P σ ix).2 ∧ (match Gg P T with | some n => (lkI P σ ix).2 < (n : Int) | none => False) ∧ Yr P (ZP P T) = true ∧ (lkI P σ ix).2.toNat * P.cellsOf (ZP P T) + P.cellsOf (ZP P T) ≤ xs.length,
    ldV P (ZP P T) (cut xs ((lkI P σ ix).2.toNat * P.cellsOf (ZP P T)) (P.cellsOf (ZP P T))))
  | _ => (False, .any))
 | .slice T x lo hi none =>
  (match unc (look P σ 0 x) with
  | .one (.d (.str s)) => ((gOf (look P σ 0 x) = true ∧ Jf P T = true ∧ (za P σ 0 lo).1 ∧ (za P σ s.size hi).1) ∧ (za P σ 0 lo).2 ≤ (za P σ s.size hi).2 ∧ (za P σ s.size hi).2 ≤ s.size, .one (.d (.str (s.extract (za P σ 0 lo).2 (za P σ s.size hi).2))))
  | .one (.d (.sl size rows)) => ((gOf (look P σ 0 x) = true ∧ YV P T = true ∧ size = P.cellsOf (ZP P T) ∧ (za P σ 0 lo).1 ∧ (za P σ rows.length hi).1) ∧ (za P σ 0 lo).2 ≤ (za P σ rows.length hi).2 ∧ (za P σ rows.length hi).2 ≤ rows.length,
    .one (.d (.sl size (cut rows (za P σ 0 lo).2 ((za P σ rows.length hi).2 - (za P σ 0 lo).2)))))
  | .one (.sref t j o len) => ((gOf (look P σ 0 x) = true ∧ YV P T = true ∧ (match σ.ob t j with | .arr _ size _ => size = P.cellsOf (ZP P T) | _ => False) ∧ (za P σ 0 lo).1 ∧ (za P σ len hi).1) ∧ (za P σ 0 lo).2 ≤ (za P σ len hi).2 ∧ (za P σ len hi).2 ≤ len,
    .one (.sref t j (o + (za P σ 0 lo).2) ((za P σ len hi).2 - (za P σ 0 lo).2)))
  | _ => (False, .any))
 | .binOp op T x y _ => ((gOf (look P σ T x) = true ∧ gOf (look P σ T y) = true) ∧ (F2 P op T (unc (look P σ T x)) (unc (look P σ T y))).1, (F2 P op T (unc (look P σ T x)) (unc (look P σ T y))).2)
 | .unOp .not _ x => (match unc (look P σ 0 x) with | .one (.d (.bool b)) => (gOf (look P σ 0 x) = true, .one (.d (.bool (!b)))) | _ => (False, .any))
 | .unOp .neg _ x => (match unc (look P σ 0 x) with | .one (.d (.int k n)) => (gOf (look P σ 0 x) = true, .one (.d (.int k (k.wrap (-n))))) | _ => (False, .any))
 | .convert S T x => (match unc (look P σ 0 x), Y9 P T with | .one (.d (.int _ n)), some k => (gOf (look P σ 0 x) = true ∧ (P.underlying S).isSome = true, .one (.d (.int k (k.wrap n)))) | _, _ => (False, .any))
 | .extract x i => (match unc (look P σ 0 x) with | .tup xs => (gOf (look P σ 0 x) = true ∧ i < xs.length ∧ (xs.getD i .any).flat = true, xs.getD i .any) | _ => (False, .any))
 | .field T x f =>
  (match unc (look P σ 0 x) with
  | .agg xs => (gOf (look P σ 0 x) = true ∧ ZR P T f = true ∧ Yr P (ZQ P T f) = true ∧ ZG P T f + P.cellsOf (ZQ P T f) ≤ xs.length, ldV P (ZQ P T f) (cut xs (ZG P T f) (P.cellsOf (ZQ P T f))))
  | _ => (False, .any))
 | .build T parts => (match Yp P 12 T with | some z => ((Zq P T = true ∧ Yw P T = true) ∧ (Td P σ T parts.toList z).1, .agg (Td P σ T parts.toList z).2) | none => (False, .any))
 | .call ⟨.builtin .len, ⟨[x]⟩, ⟨[t]⟩⟩ =>
  (match unc (look P σ t x) with
  | .one (.d (.str s)) => (gOf (look P σ t x) = true ∧ Jf P t = true, .one (.d (.int .i64 s.size)))
  | .one (.d (.sl _ rows)) => (gOf (look P σ t x) = true ∧ YV P t = true, .one (.d (.int .i64 rows.length)))
  | .one (.nil _) => (gOf (look P σ t x) = true ∧ YV P t = true, .one (.d (.int .i64 0)))
  | .one (.sref u j _ len) => (gOf (look P σ t x) = true ∧ YV P t = true ∧ (match σ.ob u j with | .arr _ _ _ => True | .lit _ _ => True | _ => False), .one (.d (.int .i64 len)))
  | _ => (False, .any))
 | .call ⟨.builtin .max, ⟨[x, y]⟩, _⟩ => ((lkI P σ x).1 ∧ (lkI P σ y).1 ∧ lkK P σ y = lkK P σ x, .one (.d (.int (lkK P σ x) (if (lkI P σ y).2 > (lkI P σ x).2 then (lkI P σ y).2 else (lkI P σ x).2))))
 | .call ⟨.builtin .min, ⟨[x, y]⟩, _⟩ => ((lkI P σ x).1 ∧ (lkI P σ y).1 ∧ lkK P σ y = lkK P σ x, .one (.d (.int (lkK P σ x) (if (lkI P σ y).2 < (lkI P σ x).2 then (lkI P σ y).2 else (lkI P σ x).2))))
 | _ => (False, .any)
theorem uH {o : Ob} (h : (match o with | .box _ => True | _ => False)) : ∃ cells, o = .box cells := by
 cases o with
 | box c => exact ⟨c, rfl⟩
 | none => exact h.elim
 | arr q s r => exact h.elim
 | lit s r => exact h.elim
theorem rj {o : Ob} (h : (match o with | .arr _ _ _ => True | _ => False)) : ∃ q size rows, o = .arr q size rows := by
 cases o with
 | arr q s r => exact ⟨q, s, r, rfl⟩
 | none => exact h.elim
 | box c => exact h.elim
 | lit s r => exact h.elim
theorem rZ {o : Ob} (h : (match o with | .arr _ _ _ => True | .lit _ _ => True | _ => False)) : (∃ q size rows, o = .arr q size rows) ∨ ∃ size rows, o = .lit size rows := by
 cases o with
 | arr q s r => exact .inl ⟨q, s, r, rfl⟩
 | none => exact h.elim
 | box c => exact h.elim
 | lit s r => exact .inr ⟨s, r, rfl⟩
theorem Ar {o : Ob} {n : Nat} (h : (match o with | .arr _ size _ => size = n | _ => False)) : ∃ q rows, o = .arr q n rows := by
 cases o with
 | arr q s r => simp at h; subst h; exact ⟨q, r, rfl⟩
 | none => exact h.elim
 | box c => exact h.elim
 | lit s r => exact h.elim
theorem vm {P : Program} {op : BinOp} {T : TypeId} {x y : V} (hc : (F2 P op T x y).1) : BY P op T x y (F2 P op T x y).2 := by
 unfold F2 at hc ⊢
 split at hc
 all_goals first
  | exact hc.elim
  | exact ⟨.inr hc, rfl⟩
  | exact ⟨.inr hc.1, hc.2, rfl⟩
  | exact ⟨.inl (.inl rfl), hc, rfl⟩
  | exact ⟨.inl (.inr rfl), hc, rfl⟩
  | exact ⟨hc, rfl⟩
  | rfl
  | (obtain ⟨q, hq⟩ := Option.isSome_iff_exists.1 hc.2; exact ⟨hc.1, q, hq, .inl ⟨rfl, by rw [hq]; rfl⟩⟩)
  | (obtain ⟨q, hq⟩ := Option.isSome_iff_exists.1 hc.2; exact ⟨hc.1, q, hq, .inr ⟨rfl, by rw [hq]; rfl⟩⟩)
theorem Ac {P : Program} {σ : St} {op : Op} {ty : TypeId} (hc : (evV P σ op ty).1) : Yj P σ op ty (evV P σ op ty).2 := by
 unfold evV at hc ⊢
 split at hc
 ·rfl
 ·rfl
 ·rename_i c a b
  split at hc
  ·rename_i bc h1; exact ⟨bc, _, _, hc.1.1, h1, (fun hh => uW (hc.1.2.1 hh)), (fun hh => uW (hc.1.2.2 hh)), hc.2.1, hc.2.2, (by first | rfl | trivial)⟩
  ·exact hc.elim
 ·rename_i T x
  unfold AI at hc ⊢
  simp only [Yj]
  split at hc
  ·rename_i t c hx
   split at hc
   ·rename_i cells ho; simp only [hx, ho]; exact ⟨hc.1, hc.2.1, cells, rfl, hc.2.2, (by first | rfl | trivial)⟩
   ·exact hc.elim
  ·rename_i t j i c hx
   split at hc
   ·rename_i size rows ho; simp only [hx, ho]; exact ⟨hc.1.1, hc.1.2.1, _, size, rows, rfl, hc.2, hc.1.2.2, (by first | rfl | trivial)⟩
   ·exact hc.elim
  ·rename_i r c hx; simp only [hx]; exact ⟨hc.1, hc.2.1, hc.2.2, (by first | rfl | trivial)⟩
  ·exact hc.elim
 ·rename_i T x f
  unfold RA at hc ⊢
  simp only [Yj]
  split at hc
  ·rename_i t c hx; simp only [hx]; exact ⟨hc.1, hc.2.1, uH hc.2.2, (by first | rfl | trivial)⟩
  ·rename_i t j i c hx; simp only [hx]; exact ⟨hc.1, hc.2.1, rj hc.2.2, (by first | rfl | trivial)⟩
  ·rename_i r c hx; simp only [hx]; exact ⟨hc.1, hc.2, (by first | rfl | trivial)⟩
  ·exact hc.elim
 ·rename_i T x ix
  unfold RH at hc ⊢
  simp only [Yj]
  split at hc
  ·rename_i size rows hx
   simp only [hx]
   exact ⟨_, _, kz hc.1.2, hc.2.1, hc.1.1, hc.2.2.1.1, hc.2.2.1.2.1, hc.2.2.1.2.2, hc.2.2.2, (by first | rfl | trivial)⟩
  ·rename_i t j lo len hx
   simp only [hx]
   exact ⟨_, _, kz hc.1.2, hc.2.1, hc.1.1, hc.2.2.1.1, hc.2.2.1.2.1, Ar hc.2.2.1.2.2, hc.2.2.2, (by first | rfl | trivial)⟩
  ·rename_i t c hx
   simp only [hx]
   refine ⟨_, _, kz hc.1.2, hc.2.1, hc.1.1, uH hc.2.2.1, ?_, (by first | rfl | trivial)⟩
   have := hc.2.2.2
   split at this
   ·rename_i n hn; exact ⟨n, hn, this.1, this.2⟩
   ·exact this.elim
  ·exact hc.elim
 ·rename_i T x ix
  simp only [Yj]
  split at hc
  ·rename_i s hx; simp only [hx]; exact ⟨_, _, kz hc.1.2, hc.2.1, hc.1.1, hc.2.2.1, hc.2.2.2, (by first | rfl | trivial)⟩
  ·rename_i xs hx
   simp only [hx]
   refine ⟨_, _, kz hc.1.2, hc.2.1, hc.1.1, ?_, hc.2.2.2.1, hc.2.2.2.2, (by first | rfl | trivial)⟩
   have := hc.2.2.1
   split at this
   ·rename_i n hn; exact ⟨n, hn, this⟩
   ·exact this.elim
  ·exact hc.elim
 ·rename_i T x lo hi
  simp only [Yj]
  split at hc
  ·rename_i s hx; simp only [hx]; exact ⟨hc.1.1, hc.1.2.1, _, _, Uk hc.1.2.2.1, Uk hc.1.2.2.2, hc.2.1, hc.2.2, (by first | rfl | trivial)⟩
  ·rename_i size rows hx; simp only [hx]; exact ⟨hc.1.1, hc.1.2.1, hc.1.2.2.1, _, _, Uk hc.1.2.2.2.1, Uk hc.1.2.2.2.2, hc.2.1, hc.2.2, (by first | rfl | trivial)⟩
  ·rename_i t j o len hx; simp only [hx]; exact ⟨hc.1.1, hc.1.2.1, Ar hc.1.2.2.1, _, _, Uk hc.1.2.2.2.1, Uk hc.1.2.2.2.2, hc.2.1, hc.2.2, (by first | rfl | trivial)⟩
  ·exact hc.elim
 ·exact ⟨hc.1.1, hc.1.2, vm hc.2⟩
 ·simp only [Yj]
  split at hc
  ·rename_i b hx; simp only [hx]; exact ⟨hc, (by first | rfl | trivial)⟩
  ·exact hc.elim
 ·simp only [Yj]
  split at hc
  ·rename_i k n hx; simp only [hx]; exact ⟨hc, (by first | rfl | trivial)⟩
  ·exact hc.elim
 ·rename_i S T x
  simp only [Yj]
  split at hc
  ·rename_i k0 n k hx hk; simp only [hx, hk]; exact ⟨hc.1, hc.2, k, rfl, (by first | rfl | trivial)⟩
  ·exact hc.elim
 ·rename_i x i
  simp only [Yj]
  split at hc
  ·rename_i xs hx
   simp only [hx]
   exact ⟨hc.1, by simp [List.getD_eq_getElem?_getD, List.getElem?_eq_getElem hc.2.1], hc.2.2⟩
  ·exact hc.elim
 ·simp only [Yj]
  split at hc
  ·rename_i xs hx; simp only [hx]; exact ⟨hc.1, hc.2.1, hc.2.2.1, hc.2.2.2, (by first | rfl | trivial)⟩
  ·exact hc.elim
 ·simp only [Yj]
  split at hc
  ·rename_i z hz; exact ⟨hc.1.1, hc.1.2, z, _, hz, GL hc.2, (by first | rfl | trivial)⟩
  ·exact hc.elim
 ·simp only [Yj]
  split at hc
  ·rename_i s hx; simp only [hx]; exact ⟨hc.1, hc.2, (by first | rfl | trivial)⟩
  ·rename_i s rows hx; simp only [hx]; exact ⟨hc.1, hc.2, (by first | rfl | trivial)⟩
  ·rename_i s hx; simp only [hx]; exact ⟨hc.1, hc.2, (by first | rfl | trivial)⟩
  ·rename_i u j lo len hx; simp only [hx]; exact ⟨hc.1, hc.2.1, rZ hc.2.2, (by first | rfl | trivial)⟩
  ·exact hc.elim
 ·simp only [Yj]
  have hy := kz hc.2.1
  rw [hc.2.2] at hy
  exact ⟨_, _, _, kz hc.1, hy, (by first | rfl | trivial)⟩
 ·simp only [Yj]
  have hy := kz hc.2.1
  rw [hc.2.2] at hy
  exact ⟨_, _, _, kz hc.1, hy, (by first | rfl | trivial)⟩
 ·exact hc.elim
end Go.Vm
namespace Go.Vm
open Go.RowKit
def Tz (P : Program) (σ : St) (T : TypeId) (size : Nat) : List (Nat × Operand) → Nat → Prop × List (List D)
 | [], _ => (True, [])
 | (i, x) :: ps, k => ((i = k ∧ gOf (look P σ T x) = true ∧ (unc (look P σ T x)).flat = true ∧ Jz (unc (look P σ T x)).cells = true ∧ (rowOf σ (unc (look P σ T x)).cells).isSome = true ∧ ((rowOf σ (unc (look P σ T x)).cells).getD []).length = size) ∧ (Tz P σ T size ps (k + 1)).1,
   (rowOf σ (unc (look P σ T x)).cells).getD [] :: (Tz P σ T size ps (k + 1)).2)
theorem ED {P : Program} {σ : St} {T : TypeId} {size : Nat} : ∀ {ps : List (Nat × Operand)} {k : Nat}, (Tz P σ T size ps k).1 → HF P σ T size ps k (Tz P σ T size ps k).2
 | [], _, _ => rfl
 | (_, x) :: _, _, h => by
  obtain ⟨⟨h1, h2, h3, h4, h5, h6⟩, h7⟩ := h
  obtain ⟨r, hr⟩ := Option.isSome_iff_exists.1 h5
  refine ⟨h1, h2, h3, h4, r, _, hr, ?_, ED h7, ?_⟩
  ·rw [hr] at h6; exact h6
  ·simp only [Tz, hr, Option.getD_some]
def Sc (σ : St) (x : V) (size : Nat) : Prop × List (List D) × St :=
 match x with
 | .one (.nil _) => (True, [], σ)
 | .one (.sref t j lo len) => (match σ.ob t j with | .arr false s olds => (s = size ∧ lo = 0 ∧ len = olds.length, olds, σ.Ya t j .none) | _ => (False, [], σ))
 | _ => (False, [], σ)
theorem uU {σ : St} {x : V} {size : Nat} (h : (Sc σ x size).1) : Tq σ x size (Sc σ x size).2.1 (Sc σ x size).2.2 := by
 unfold Sc at h ⊢
 split at h
 ·exact ⟨rfl, rfl⟩
 ·rename_i t j lo len
  split at h
  ·rename_i s olds ho
   obtain ⟨rfl, rfl, rfl⟩ := h
   exact ⟨ho, rfl, rfl, rfl⟩
  ·exact h.elim
 ·exact h.elim
def OA (σ : St) (x : V) (size : Nat) : Prop × List (List D) :=
 match x with
 | .one (.d (.sl s rows)) => (s = size, rows)
 | .one (.nil _) => (True, [])
 | .one (.sref t j lo len) => (match σ.ob t j with | .arr false s rows => (s = size ∧ lo + len ≤ rows.length, cut rows lo len) | _ => (False, []))
 | _ => (False, [])
theorem uT {σ : St} {x : V} {size : Nat} (h : (OA σ x size).1) : kL σ x size (OA σ x size).2 := by
 unfold OA at h ⊢
 split at h
 ·exact ⟨h, rfl⟩
 ·rfl
 ·rename_i t j lo len
  split at h
  ·rename_i s rows ho
   obtain ⟨rfl, hle⟩ := h
   exact ⟨rows, ho, hle, rfl⟩
  ·exact h.elim
 ·exact h.elim
def evS (P : Program) (σ : St) (o : Oper) (d : Nat) : Prop × St :=
 match o.op with
 | .alloc T => (match Yp P 12 T with | some row => (σ.fresh d = true ∧ Zq P T = true, σ.new d (.one (.bptr d 0)) [.box row]) | none => (False, σ))
 | .box T x => (σ.fresh d = true ∧ gOf (look P σ T x) = true ∧ (unc (look P σ T x)).flat = true ∧ YM d (unc (look P σ T x)).cells = false, σ.new d (.one (.bptr d 0)) [.box (unc (look P σ T x)).cells])
 | .buildSlice T n parts => ((σ.fresh d = true ∧ YV P T = true ∧ Zq P (ZP P T) = true ∧ 0 < P.cellsOf (ZP P T) ∧ parts.toList.length = n ∧ n * P.cellsOf (ZP P T) ≤ 16777216) ∧ (Tz P σ (ZP P T) (P.cellsOf (ZP P T)) parts.toList 0).1,
   σ.new d (.one (.sref d 0 0 (Tz P σ (ZP P T) (P.cellsOf (ZP P T)) parts.toList 0).2.length)) [.arr false (P.cellsOf (ZP P T)) (Tz P σ (ZP P T) (P.cellsOf (ZP P T)) parts.toList 0).2])
 | .makeSlice T x y => (match Yp P 12 (ZP P T) with
   | some z => (match zD z with
    | some zr => ((x = y ∧ σ.fresh d = true ∧ YV P T = true ∧ Zq P (ZP P T) = true ∧ 0 < P.cellsOf (ZP P T) ∧ (lkI P σ x).1) ∧ 0 ≤ (lkI P σ x).2 ∧ P.bytesOf (ZP P T) * (lkI P σ x).2.toNat ≤ 281474976710656 ∧ (lkI P σ x).2 ≤ 9223372036854775807,
      σ.new d (.one (.sref d 0 0 (lkI P σ x).2.toNat)) [.arr false (P.cellsOf (ZP P T)) (List.replicate (lkI P σ x).2.toNat zr)])
    | none => (False, σ))
   | none => (False, σ))
 | .call ⟨.builtin .append, ⟨[x, y]⟩, ⟨[t, t']⟩⟩ =>
   (((t = t' ∧ gOf (look P σ t x) = true ∧ gOf (look P σ t y) = true ∧ YV P t = true ∧ Zq P (ZP P t) = true ∧ 0 < P.cellsOf (ZP P t)) ∧ (Sc σ (unc (look P σ t x)) (P.cellsOf (ZP P t))).1 ∧ (OA σ (unc (look P σ t y)) (P.cellsOf (ZP P t))).1 ∧ (Sc σ (unc (look P σ t x)) (P.cellsOf (ZP P t))).2.2.fresh d = true) ∧
    ((Sc σ (unc (look P σ t x)) (P.cellsOf (ZP P t))).2.1.length + (OA σ (unc (look P σ t y)) (P.cellsOf (ZP P t))).2.length) * P.bytesOf (ZP P t) ≤ 140737488355328 ∧
    (Sc σ (unc (look P σ t x)) (P.cellsOf (ZP P t))).2.1.length + (OA σ (unc (look P σ t y)) (P.cellsOf (ZP P t))).2.length ≤ 9223372036854775807,
   (Sc σ (unc (look P σ t x)) (P.cellsOf (ZP P t))).2.2.new d (.one (.sref d 0 0 ((Sc σ (unc (look P σ t x)) (P.cellsOf (ZP P t))).2.1.length + (OA σ (unc (look P σ t y)) (P.cellsOf (ZP P t))).2.length)))
    [.arr false (P.cellsOf (ZP P t)) ((Sc σ (unc (look P σ t x)) (P.cellsOf (ZP P t))).2.1 ++ (OA σ (unc (look P σ t y)) (P.cellsOf (ZP P t))).2)])
 | op => ((evV P σ op o.type).1, σ.put d (evV P σ op o.type).2)
def C7 (P : Program) (σ : St) (T : TypeId) (x y : Operand) : Prop × St :=
 match unc (look P σ 0 x) with
 | .one (.bptr t c) => (match σ.ob t 0 with
  | .box cells => (Yr P T = true ∧ gOf (look P σ 0 x) = true ∧ gOf (look P σ T y) = true ∧ (unc (look P σ T y)).flat = true ∧ (unc (look P σ T y)).cells.length = P.cellsOf T ∧ c + P.cellsOf T ≤ cells.length, σ.Ya t 0 (.box (place cells c (unc (look P σ T y)).cells)))
  | _ => (False, σ))
 | .one (.ptr t j i c) => (match σ.ob t j with
  | .arr q size rows => ((Yr P T = true ∧ gOf (look P σ 0 x) = true ∧ gOf (look P σ T y) = true ∧ (unc (look P σ T y)).flat = true ∧ (rowOf σ (unc (look P σ T y)).cells).isSome = true ∧ Jz (unc (look P σ T y)).cells = true ∧ ((rowOf σ (unc (look P σ T y)).cells).getD []).length = P.cellsOf T ∧ c + P.cellsOf T ≤ size) ∧ i < rows.length ∧ (q = true → ((rowOf σ (unc (look P σ T y)).cells).getD []).all D.scalar = true ∧ (cut (rowAt rows i) c (P.cellsOf T)).all D.scalar = true),
    σ.Ya t j (.arr q size (rows.set i (place (rowAt rows i) c ((rowOf σ (unc (look P σ T y)).cells).getD [])))))
  | _ => (False, σ))
 | _ => (False, σ)
theorem vk {P : Program} {σ : St} {o : Oper} {d : Nat} (hns : ∀ c, o.op = .call c → ∀ f, c.callee ≠ .value (.func f)) (hc : (evS P σ o d).1) : Step P o d σ (evS P σ o d).2 := by
 unfold evS at hc ⊢
 split at hc
 ·rename_i T hop
  unfold Step
  rw [hop]
  split at hc
  ·rename_i row hrow; simp only [hrow]; exact ⟨hc.1, hc.2, row, rfl, rfl⟩
  ·exact hc.elim
 ·rename_i T x hop
  unfold Step; rw [hop]
  exact ⟨hc.1, hc.2.1, hc.2.2.1, hc.2.2.2, rfl⟩
 ·rename_i T n parts hop
  unfold Step; rw [hop]
  obtain ⟨⟨h1, h2, h3, h4, h5, h6⟩, h7⟩ := hc
  exact ⟨h1, h2, h3, h4, h5, h6, .inl ⟨_, ED h7, rfl⟩⟩
 ·rename_i T x y hop
  unfold Step; rw [hop]
  split at hc
  ·rename_i z hz
   split at hc
   ·rename_i zr hzr
    obtain ⟨⟨h1, h2, h3, h4, h5, h6⟩, h7, h8, h9⟩ := hc
    have hl := kz h6
    simp only [hz]
    refine ⟨h1, h2, h3, h4, h5, false, z, zr, lkK P σ x, (lkI P σ x).2.toNat, (fun hh => by cases hh), rfl, hzr, ?_, h8, by omega, rfl⟩
    rw [Int.toNat_of_nonneg h7]; exact hl
   ·exact hc.elim
  ·exact hc.elim
 ·rename_i x y t t' hop
  unfold Step; rw [hop]
  obtain ⟨⟨⟨rfl, h1, h2, h3, h4, h5⟩, h6, h7, h8⟩, h9, h10⟩ := hc
  exact ⟨x, y, t, rfl, rfl, h1, h2, h3, h4, h5, _, _, _, uU h6, uT h7, h8, h9, h10, rfl⟩
 ·rename_i op h1 h2 h3 h4 h5
  have hv := Ac hc
  unfold Step
  split
  ·rename_i T hop; exact absurd hop (h1 T)
  ·rename_i T x hop; exact absurd hop (h2 T x)
  ·rename_i T n ps hop; exact absurd hop (h3 T n ps)
  ·rename_i T x y hop; exact absurd hop (h4 T x y)
  ·rename_i c hop
   split
   ·rename_i hcal
    rw [hop] at hv
    simp only [Yj] at hv
    split at hv
    ·rename_i hc2 _ _; rw [hcal] at hc2; cases hc2
    ·rename_i hc2 _; rw [hcal] at hc2; cases hc2
    ·rename_i hc2 _; rw [hcal] at hc2; cases hc2
    ·exact hv.elim
   ·rename_i f hcal; exact absurd hcal (hns c hop f)
   ·exact ⟨_, hv, rfl⟩
  ·exact .inl ⟨_, hv, rfl⟩
  ·exact ⟨_, hv, rfl⟩
theorem tm {P : Program} {σ : St} {T : TypeId} {x y : Operand} (hc : (C7 P σ T x y).1) : j6 P σ T x y (C7 P σ T x y).2 := by
 unfold C7 at hc ⊢
 unfold j6
 split at hc
 ·rename_i t c hx
  split at hc
  ·rename_i cells ho
   obtain ⟨h1, h2, h3, h4, h5, h6⟩ := hc
   first | (rw [hx]; simp only [ho]) | simp only [ho]
   exact ⟨h1, h2, h3, h4, cells, rfl, h5, h6, rfl⟩
  ·exact hc.elim
 ·rename_i t j i c hx
  split at hc
  ·rename_i q size rows ho
   obtain ⟨⟨h1, h2, h3, h4, h5, h6, h7, h8⟩, h9, h10⟩ := hc
   obtain ⟨ds, hds⟩ := Option.isSome_iff_exists.1 h5
   first | (rw [hx]; simp only [ho]) | simp only [ho]
   refine ⟨h1, h2, h3, h4, q, size, rows, ds, rfl, h9, hds, h6, ?_, h8, fun hq => ?_, ?_⟩
   ·rw [hds] at h7; exact h7
   ·have := h10 hq
    rw [hds] at this; exact this
   ·rw [hds]; rfl
  ·exact hc.elim
 ·exact hc.elim
def AR : List At → Bool
 | [] => false
 | .nil _ :: _ => true
 | _ :: xs => AR xs
def wE (P : Program) (T : TypeId) : Bool := match Yp P 12 (ZP P T) with | some z => AR z | none => false
def Db : List At → Bool
 | [] => true
 | .d (.sl _ _) :: _ => false
 | .d _ :: xs => Db xs
 | _ => false
def rf (P : Program) (σ : St) (T : TypeId) (x y : Operand) : Bool :=
 match unc (look P σ 0 x) with
 | .one (.ptr t j _ _) => (match σ.ob t j with | .arr true _ _ => !Db (unc (look P σ T y)).cells | _ => false)
 | _ => false
def stops (P : Program) (o : Oper) : Bool :=
 match o.op with
 | .call ⟨.value _, _, _⟩ => true
 | .call ⟨.builtin .append, _, ⟨t :: _⟩⟩ => wE P t
 | .buildSlice T _ _ => wE P T
 | .makeSlice T _ _ => wE P T
 | .makeFunc _ _ _ => true
 | .convert _ T _ => (Y9 P T).isNone
 | .indexAddr _ _ _ => o.guard.isSome
 | .index _ _ _ => o.guard.isSome
 | .slice _ _ _ _ _ => o.guard.isSome
 | _ => false
def kv (P : Program) (ops : Array Oper) (bar : Oper → Bool) (o : Oper) (rest : List Oper) (σ : St) (Q : St → Prop) : Prop := ∃ σ', kd P ops bar o σ σ' ∧ Ex P ops bar rest σ' Q
def Ev (P : Program) (ops : Array Oper) (bar : Oper → Bool) : List Oper → St → (St → Prop) → Prop
 | [], σ, Q => Q σ
 | o :: rest, σ, Q =>
  if stops P o then kv P ops bar o rest σ Q else
  match o.guard with
  | none =>
   (match o.dst with
   | some d => (evS P σ o d).1 ∧ Ev P ops bar rest (evS P σ o d).2 Q
   | none => (match o.op with | .store T x y => if rf P σ T x y then kv P ops bar o rest σ Q else (C7 P σ T x y).1 ∧ Ev P ops bar rest (C7 P σ T x y).2 Q | _ => False))
  | some (j, want) =>
   (match (ops[j]?).bind (·.dst), o.dst with
   | some dj, some d => (match qj want (σ.get dj) with
    | some g => (dj < σ.length ∧ (g = true → (evV P σ o.op o.type).1 ∧ gOf (evV P σ o.op o.type).2 = true ∧ (unc (evV P σ o.op o.type).2).flat = true)) ∧ Ev P ops bar rest (σ.put d (.cnd g (unc (evV P σ o.op o.type).2))) Q
    | none => False)
   | _, _ => False)
theorem JL {P : Program} {ops : Array Oper} {bar : Oper → Bool} : ∀ {l : List Oper} {σ : St} {Q : St → Prop}, Ev P ops bar l σ Q → Ex P ops bar l σ Q
 | [], _, _, h => h
 | o :: rest, σ, Q, h => by
  unfold Ev at h
  split at h
  ·exact h
  ·rename_i hst
   have hns : ∀ c, o.op = .call c → ∀ f, c.callee ≠ .value (.func f) := by
    intro c hop f hcal
    obtain ⟨cc, ca, ct⟩ := c
    simp only at hcal; subst hcal
    exact hst (by simp [stops, hop])
   split at h
   ·rename_i hg
    split at h
    ·rename_i d hd
     refine ⟨_, .inl ?_, JL h.2⟩
     unfold XS
     simp only [hg, hd]
     exact vk hns h.1
    ·rename_i hd
     split at h
     ·rename_i T x y hop
      split at h
      ·exact h
      ·refine ⟨_, .inl ?_, JL h.2⟩
       unfold XS
       simp only [hg, hd, hop]
       exact tm h.1
     ·exact h.elim
   ·rename_i j want hg
    split at h
    ·rename_i dj d hdj hd
     split at h
     ·rename_i g hgc
      refine ⟨_, .inl ?_, JL h.2⟩
      unfold XS
      simp only [hg]
      refine ⟨dj, d, g, _, hdj, h.1.1, hd, hgc, fun hgt => ?_, rfl⟩
      obtain ⟨h1, h2, h3⟩ := h.1.2 hgt
      have base : ∃ v0, Yj P σ o.op o.type v0 ∧ gOf v0 = true ∧ unc (evV P σ o.op o.type).2 = unc v0 ∧ (unc (evV P σ o.op o.type).2).flat = true := ⟨_, Ac h1, h2, rfl, h3⟩
      unfold MO
      split
      ·rename_i c hop
       split
       ·rename_i f hcal; exact absurd hcal (hns c hop f)
       ·exact base
      ·exact base
     ·exact h.elim
    ·exact h.elim
theorem rW {P : Program} {Q : Exit → St → Prop} {σ : St} {id : Nat} {l : List Oper} {bar : Oper → Bool} (h : Ev P l.toArray bar l σ (Q .normal)) : AWP P (.region id l.toArray false) Q σ := AL (JL h)
theorem Cy {P : Program} {ops : Array Oper} {bar : Oper → Bool} {o : Oper} {rest : List Oper} {σ : St} {Q : St → Prop} {c : Call} {f : FuncId} {d : Nat} {own : Bool} {rows res : List (List D)} (hop : o.op = .call c) (hc : c.callee = .value (.func f)) (hg : o.guard = none) (hd : o.dst = some d)
  (hargs : Xy P σ c.args.toList c.argTypes.toList rows) (hs : Xi P f own rows res) (hst : YT P σ c.args.toList c.argTypes.toList = true ∨ Qr own res) (h : Ev P ops bar rest (σ.put d (qM res)) Q) : kv P ops bar o rest σ Q := by
 refine ⟨_, .inl ?_, JL h⟩
 unfold XS; simp only [hg, hd]
 unfold Step
 rw [hop]
 simp only [hc]
 exact .inl ⟨own, res, ⟨rows, hargs, hs, hst⟩, rfl⟩
theorem Eu {P : Program} {ops : Array Oper} {bar : Oper → Bool} {o : Oper} {rest : List Oper} {σ : St} {Q : St → Prop} {c : Call} {f : FuncId} {d : Nat} {rows res : List (List D)} (hop : o.op = .call c) (hc : c.callee = .value (.func f)) (hg : o.guard = none) (hd : o.dst = some d)
  (hargs : Xy P σ c.args.toList c.argTypes.toList rows) (hs : Xi P f true rows res) (hst : YT P σ c.args.toList c.argTypes.toList = true ∨ Qr true res) (hf : σ.fresh d = true) (h : Ev P ops bar rest (σ.new d (Ui d res) (yE res.flatten)) Q) : kv P ops bar o rest σ Q := by
 refine ⟨_, .inl ?_, JL h⟩
 unfold XS; simp only [hg, hd]
 unfold Step
 rw [hop]
 simp only [hc]
 exact .inr (.inl ⟨res, ⟨rows, hargs, hs, hst⟩, hf, rfl⟩)
theorem B4 {P : Program} {ops : Array Oper} {bar : Oper → Bool} {o : Oper} {rest : List Oper} {σ : St} {Q : St → Prop} {c : Call} {f : FuncId} {d j dj : Nat} {want g own : Bool} {rows : List (List D)} {res : List D} (hop : o.op = .call c) (hc : c.callee = .value (.func f)) (hg : o.guard = some (j, want)) (hd : o.dst = some d)
  (hdj : (ops[j]?).bind (·.dst) = some dj) (hlt : dj < σ.length) (hgc : qj want (σ.get dj) = some g)
  (hargs : g = true → Xy P σ c.args.toList c.argTypes.toList rows) (hs : g = true → Xi P f own rows [res]) (hst : YT P σ c.args.toList c.argTypes.toList = true ∨ Qr own [res]) (h : Ev P ops bar rest (σ.put d (.cnd g (qM [res]))) Q) : kv P ops bar o rest σ Q := by
 refine ⟨_, .inl ?_, JL h⟩
 unfold XS; simp only [hg]
 refine ⟨dj, d, g, _, hdj, hlt, hd, hgc, fun hgt => ?_, rfl⟩
 unfold MO
 rw [hop]
 simp only [hc]
 exact ⟨own, res, ⟨rows, hargs hgt, hs hgt, hst⟩, rfl⟩
theorem DV {P : Program} {ops : Array Oper} {bar : Oper → Bool} {o : Oper} {rest : List Oper} {σ : St} {Q : St → Prop} {S T : TypeId} {x : Operand} {d : Nat} {s : ByteArray} (hop : o.op = .convert S T x) (hg : o.guard = none) (hd : o.dst = some d)
  (h1 : gOf (look P σ S x) = true) (h2 : Jf P S = true) (h3 : QL P T = true) (h4 : unc (look P σ S x) = .one (.d (.str s))) (h5 : s.size ≤ 9223372036854775807) (h : Ev P ops bar rest (σ.put d (.one (.d (.sl 1 (KQ s.data.toList))))) Q) : kv P ops bar o rest σ Q := by
 refine ⟨_, .inl ?_, JL h⟩
 unfold XS; simp only [hg, hd]
 unfold Step
 rw [hop]
 exact .inr (.inr ⟨s, h1, h2, h3, h4, h5, rfl⟩)
theorem tu {P : Program} {ops : Array Oper} {bar : Oper → Bool} {o : Oper} {rest : List Oper} {σ : St} {Q : St → Prop} {d : Nat} (hns : ∀ c, o.op = .call c → ∀ f, c.callee ≠ .value (.func f)) (hg : o.guard = none) (hd : o.dst = some d)
  (h1 : (evS P σ o d).1) (h : Ev P ops bar rest (evS P σ o d).2 Q) : kv P ops bar o rest σ Q := by
 refine ⟨_, .inl ?_, JL h⟩
 unfold XS; simp only [hg, hd]
 exact vk hns h1
theorem B7 {P : Program} {ops : Array Oper} {bar : Oper → Bool} {o : Oper} {rest : List Oper} {σ : St} {Q : St → Prop} {c : Call} {f : FuncId} {d : Nat} {rows res : List (List D)} (qs : List Bool) (hop : o.op = .call c) (hc : c.callee = .value (.func f)) (hg : o.guard = none) (hd : o.dst = some d)
  (hargs : Xy P σ c.args.toList c.argTypes.toList rows) (hs : YZ P f rows res) (hq : kY qs res.flatten) (hf : σ.fresh d = true) (h : Ev P ops bar rest (σ.new d (Ui d res) (Z8 qs res.flatten)) Q) : kv P ops bar o rest σ Q := by
 refine ⟨_, .inl ?_, JL h⟩
 unfold XS; simp only [hg, hd]
 unfold Step
 rw [hop]
 simp only [hc]
 exact .inr (.inr ⟨rows, res, qs, hargs, hs, hq, hf, rfl⟩)
def zU (P : Program) (σ : St) (T : TypeId) (size : Nat) : List (Nat × Operand) → Nat → Prop × List (List At)
 | [], _ => (True, [])
 | (i, x) :: ps, k => ((i = k ∧ gOf (look P σ T x) = true ∧ (unc (look P σ T x)).flat = true ∧ (unc (look P σ T x)).cells.length = size) ∧ (zU P σ T size ps (k + 1)).1, (unc (look P σ T x)).cells :: (zU P σ T size ps (k + 1)).2)
theorem Hm {P : Program} {σ : St} {T : TypeId} {size : Nat} : ∀ {ps : List (Nat × Operand)} {k : Nat}, (zU P σ T size ps k).1 → Oi P σ T size ps k (zU P σ T size ps k).2
 | [], _, _ => rfl
 | (_, x) :: _, _, h => by
  obtain ⟨⟨h1, h2, h3, h4⟩, h7⟩ := h
  exact ⟨h1, h2, h3, h4, _, Hm h7, rfl⟩
theorem vn {P : Program} {ops : Array Oper} {bar : Oper → Bool} {o : Oper} {rest : List Oper} {σ : St} {Q : St → Prop} {d : Nat} {T : TypeId} {n : Nat} {parts : Array (Nat × Operand)} (hop : o.op = .buildSlice T n parts) (hg : o.guard = none) (hd : o.dst = some d)
  (h1 : σ.fresh d = true ∧ YV P T = true ∧ Zq P (ZP P T) = true ∧ 0 < P.cellsOf (ZP P T) ∧ parts.toList.length = n ∧ n * P.cellsOf (ZP P T) ≤ 16777216) (h2 : (zU P σ (ZP P T) (P.cellsOf (ZP P T)) parts.toList 0).1)
  (h3 : YM d (zU P σ (ZP P T) (P.cellsOf (ZP P T)) parts.toList 0).2.flatten = false)
  (h : Ev P ops bar rest (σ.new d (.one (.sref d 0 0 (zU P σ (ZP P T) (P.cellsOf (ZP P T)) parts.toList 0).2.length)) [.lit (P.cellsOf (ZP P T)) (zU P σ (ZP P T) (P.cellsOf (ZP P T)) parts.toList 0).2]) Q) : kv P ops bar o rest σ Q := by
 refine ⟨_, .inl ?_, JL h⟩
 unfold XS; simp only [hg, hd]
 unfold Step
 rw [hop]
 exact ⟨h1.1, h1.2.1, h1.2.2.1, h1.2.2.2.1, h1.2.2.2.2.1, h1.2.2.2.2.2, .inr ⟨_, Hm h2, h3, rfl⟩⟩
theorem u6 {P : Program} {ops : Array Oper} {bar : Oper → Bool} {o : Oper} {rest : List Oper} {σ : St} {Q : St → Prop} {d : Nat} {T : TypeId} {x : Operand} {z : List At} {zr : List D} {n : Nat} (hop : o.op = .makeSlice T x x) (hg : o.guard = none) (hd : o.dst = some d)
  (hz : Yp P 12 (ZP P T) = some z) (hzr : zD z = some zr) (hzf : Mv z = true) (h1 : σ.fresh d = true ∧ YV P T = true ∧ Zq P (ZP P T) = true ∧ 0 < P.cellsOf (ZP P T) ∧ (lkI P σ x).1) (hn : (lkI P σ x).2 = (n : Int)) (hb : P.bytesOf (ZP P T) * n ≤ 281474976710656) (hm : n ≤ 9223372036854775807)
  (h : Ev P ops bar rest (σ.new d (.one (.sref d 0 0 n)) [.arr true (P.cellsOf (ZP P T)) (List.replicate n zr)]) Q) : kv P ops bar o rest σ Q := by
 refine ⟨_, .inl ?_, JL h⟩
 unfold XS; simp only [hg, hd]
 unfold Step
 rw [hop]
 have hl := kz h1.2.2.2.2
 rw [hn] at hl
 exact ⟨rfl, h1.1, h1.2.1, h1.2.2.1, h1.2.2.2.1, true, z, zr, _, n, fun _ => hzf, hz, hzr, hl, hb, hm, rfl⟩
def SK (σ : St) (x : V) (size : Nat) : Prop × List (List D) × List (Nat × Nat) :=
 match x with
 | .one (.nil _) => (True, [], [])
 | .one (.sref t j lo len) => (match σ.ob t j with | .arr true s olds => (s = size ∧ lo = 0 ∧ len = olds.length, olds, [(t, j)]) | _ => (False, [], []))
 | _ => (False, [], [])
theorem vR {σ : St} {x : V} {size : Nat} (h : (SK σ x size).1) : rA σ x size (SK σ x size).2.1 (SK σ x size).2.2 := by
 unfold SK at h ⊢
 split at h
 ·exact ⟨rfl, rfl⟩
 ·rename_i t j lo len
  split at h
  ·rename_i s olds ho
   obtain ⟨rfl, rfl, rfl⟩ := h
   exact ⟨ho, rfl, rfl, rfl⟩
  ·exact h.elim
 ·exact h.elim
def Tu (σ : St) (x : V) (size : Nat) : Prop × List (List D) × List (Nat × Nat) :=
 match x with
 | .one (.sref t j lo len) => (match σ.ob t j with | .lit s rows => ((s = size ∧ lo = 0 ∧ len = rows.length) ∧ (xa σ rows).isSome = true ∧ yl σ rows, (xa σ rows).getD [], YW rows.flatten) | _ => (False, [], []))
 | _ => (False, [], [])
theorem wq {σ : St} {x : V} {size : Nat} (h : (Tu σ x size).1) : ri σ x size (Tu σ x size).2.1 (Tu σ x size).2.2 := by
 unfold Tu at h ⊢
 split at h
 ·rename_i t j lo len
  split at h
  ·rename_i s rows ho
   obtain ⟨⟨rfl, rfl, rfl⟩, h1, h2⟩ := h
   obtain ⟨ns, hns⟩ := Option.isSome_iff_exists.1 h1
   exact ⟨rows, ho, rfl, rfl, by rw [hns]; rfl, h2, rfl⟩
  ·exact h.elim
 ·exact h.elim
theorem UW : ∀ (σ : St) (d : Nat) (v : V) (t : Nat), (σ.put d v)[t]? = if t = d then (σ[t]?).map (fun e => (v, e.2)) else σ[t]?
 | [], _, _, _ => by simp [St.put]
 | e :: σ, 0, v, t => by cases t <;> simp [St.put]
 | e :: σ, d + 1, v, t => by
  cases t with
  | zero => simp [St.put]
  | succ t => have := UW σ d v t; simpa [St.put] using this
theorem qF : ∀ (σ : St) (d : Nat) (v : V) (os : List Ob) (t : Nat), (σ.new d v os)[t]? = if t = d then (σ[t]?).map (fun _ => (v, os)) else σ[t]?
 | [], _, _, _, _ => by simp [St.new]
 | e :: σ, 0, v, os, t => by cases t <;> simp [St.new]
 | e :: σ, d + 1, v, os, t => by
  cases t with
  | zero => simp [St.new]
  | succ t => have := qF σ d v os t; simpa [St.new] using this
theorem xw : ∀ (σ : St) (a j : Nat) (o : Ob) (t : Nat), (σ.Ya a j o)[t]? = if t = a then (σ[t]?).map (fun e => (e.1, e.2.set j o)) else σ[t]?
 | [], _, _, _, _ => by simp [St.Ya]
 | e :: σ, 0, j, o, t => by cases t <;> simp [St.Ya]
 | e :: σ, a + 1, j, o, t => by
  cases t with
  | zero => simp [St.Ya]
  | succ t => have := xw σ a j o t; simpa [St.Ya] using this
theorem NZ {σ : St} {d : Nat} : XU σ d = true ↔ σ[d]? = some (.any, []) ∨ ∃ x, σ[d]? = some (.one (.d x), []) := by
 unfold XU
 constructor
 ·intro h
  split at h
  ·rename_i h1; exact .inl h1
  ·rename_i x h1; exact .inr ⟨x, h1⟩
  ·cases h
 ·rintro (h | ⟨x, h⟩) <;> rw [h]
theorem yZ {σ : St} {d a j : Nat} {o : Ob} (h : XU σ d = true) : XU (σ.Ya a j o) d = true := by
 rw [NZ] at *
 rw [xw]
 rcases h with h | ⟨x, h⟩
 ·left; rw [h]; split <;> rfl
 ·right; refine ⟨x, ?_⟩; rw [h]; split <;> rfl
theorem Kc : ∀ {l : List (Nat × Nat)} {σ : St} {d : Nat}, XU σ d = true → XU (σ.YB l) d = true
 | [], _, _, h => h
 | p :: l, σ, d, h => by rw [St.YB]; exact Kc (l := l) (yZ h)
theorem R5 {σ : St} {d d' : Nat} {v : V} {os : List Ob} (hne : d ≠ d') (h : XU σ d = true) : XU (σ.new d' v os) d = true := by
 unfold XU at *; simp only [qF, if_neg hne]; exact h
theorem uY {P : Program} {ops : Array Oper} {bar : Oper → Bool} {o : Oper} {rest : List Oper} {σ : St} {Q : St → Prop} {d : Nat} {x y : Operand} {t : TypeId} {olds news : List (List D)} {l1 l2 : List (Nat × Nat)} {size : Nat} (hop : o.op = .call ⟨.builtin .append, #[x, y], #[t, t]⟩) (hg : o.guard = none) (hd : o.dst = some d) (hbar : bar o = true)
  (hsz : size = P.cellsOf (ZP P t)) (h1 : gOf (look P σ t x) = true ∧ gOf (look P σ t y) = true ∧ YV P t = true ∧ Zq P (ZP P t) = true ∧ 0 < P.cellsOf (ZP P t))
  (h2 : (SK σ (unc (look P σ t x)) size).1 ∧ (SK σ (unc (look P σ t x)) size).2 = (olds, l1)) (h3 : (Tu σ (unc (look P σ t y)) size).1 ∧ (Tu σ (unc (look P σ t y)) size).2 = (news, l2))
  (h4 : (l1 ++ l2).Nodup ∧ (σ.YB (l1 ++ l2)).fresh d = true) (h5 : (olds.length + news.length) * P.bytesOf (ZP P t) ≤ 140737488355328 ∧ olds.length + news.length ≤ 9223372036854775807)
  (h : Ev P ops bar rest ((σ.YB (l1 ++ l2)).new d (.one (.sref d 0 0 (olds.length + news.length))) [.arr true size (olds ++ news)]) Q) : kv P ops bar o rest σ Q := by
 subst hsz
 refine ⟨_, .inr ⟨hbar, ?_, fun d' hd' hc => R5 (fun e => hd' (by rw [hd, e])) (Kc hc), fun hh => by simp [CH, hop] at hh⟩, JL h⟩
 rintro T0 B a w K Q' ⟨X, hh, r⟩ hK
 have hw : Region.wanted o (yielded ops a.tmps) = true := by simp [Region.wanted, hg]
 rw [if_pos hw]
 have e1 := vR h2.1
 have e2 := wq h3.1
 rw [h2.2] at e1
 rw [h3.2] at e2
 exact Gm r hop hd h1.1 h1.2.1 h1.2.2.1 h1.2.2.2.1 h1.2.2.2.2 e1 e2 h4.1 h4.2 h5.1 h5.2 hK
theorem QH {P : Program} {σ : St} {d : Nat} {v : V} {T : TypeId} {x : Operand} (h : TL d x = false) : look P (σ.put d v) T x = look P σ T x := by
 cases x with
 | tmp t =>
  have hne : t ≠ d := fun e => by subst e; simp [TL] at h
  simp [look, St.Tk, hne]
 | const c => rfl
 | global g => rfl
 | func f => rfl
theorem jv : ∀ (σ : St) (d : Nat) (v : V) (t j : Nat) (o : Ob), (σ.put d v).Ya t j o = (σ.Ya t j o).put d v
 | [], _, _, _, _, _ => rfl
 | e :: σ, 0, v, 0, j, o => rfl
 | e :: σ, d + 1, v, 0, j, o => rfl
 | e :: σ, 0, v, t + 1, j, o => rfl
 | e :: σ, d + 1, v, t + 1, j, o => by simp [St.put, St.Ya, jv σ d v t j o]
theorem RG {d : Nat} {v : V} : ∀ (l : List (Nat × Nat)) (σ : St), (σ.put d v).YB l = (σ.YB l).put d v
 | [], _ => rfl
 | p :: l, σ => by rw [St.YB, St.YB, jv, RG l]
theorem Fl {σ : St} {d : Nat} {v : V} : ∀ (xs : List At), KI (σ.put d v) xs = KI σ xs
 | [] => rfl
 | x :: xs => by
  have : mvD (σ.put d v) x = mvD σ x := by cases x <;> simp [mvD, St.Ki]
  simp only [KI, this, Fl xs]
theorem My {σ : St} {d : Nat} {v : V} : ∀ (xs : List At), Xz (σ.put d v) xs = Xz σ xs
 | [] => rfl
 | x :: xs => by
  have : AZ (σ.put d v) x = AZ σ x := by cases x <;> simp [AZ, St.Ki]
  simp only [Xz, this, My xs]
theorem BR {f : At → Bool} {v : V} (hv : v.Jq f = false) : ∀ {σ : St} {d : Nat}, σ.Jq f = false → (σ.put d v).Jq f = false
 | [], _, _ => rfl
 | e :: σ, 0, h => by simp only [St.Jq, Bool.or_eq_false_iff] at h; simp [St.put, St.Jq, hv, h.1.2, h.2]
 | e :: σ, d + 1, h => by simp only [St.Jq, Bool.or_eq_false_iff] at h; simp [St.put, St.Jq, h.1.1, h.1.2, BR hv h.2]
structure StM (P : Program) (σ : St) (T : TypeId) (x y : Operand) (t j i c size : Nat) (rows : List (List D)) (ds : List D) (l : List (Nat × Nat)) : Prop where
 hx : unc (look P σ 0 x) = .one (.ptr t j i c)
 ho : σ.ob t j = .arr true size rows
 hi : i < rows.length
 h1 : Yr P T = true ∧ gOf (look P σ 0 x) = true ∧ gOf (look P σ T y) = true ∧ (unc (look P σ T y)).flat = true
 h2 : KI σ (unc (look P σ T y)).cells = some ds
 h3 : Xz σ (unc (look P σ T y)).cells
 h4 : YW (unc (look P σ T y)).cells = l
 h5 : l.Nodup ∧ (t, j) ∉ l ∧ (σ.YB l).Jq (At.isT t) = false
 h6 : ds.length = P.cellsOf T ∧ c + P.cellsOf T ≤ size
theorem StM.PH {P : Program} {o : Oper} {T : TypeId} {x y : Operand} (hop : o.op = .store T x y) {t j i c size : Nat} {rows : List (List D)} {ds : List D} {l : List (Nat × Nat)} : ∀ (q : List (Nat × V)) {σ : St}, (∀ p ∈ q, OH o p.1 = true ∧ E4 p.2 = true) → StM P σ T x y t j i c size rows ds l → StM P (σ.PH q) T x y t j i c size rows ds l
 | [], _, _, h => h
 | p :: q, σ, hq, h => by
  refine StM.PH hop q (fun p' hp' => hq p' (by simp [hp'])) ?_
  obtain ⟨hu, hp⟩ := hq p (by simp)
  simp only [OH, hop, Bool.and_eq_true, Bool.not_eq_true'] at hu
  have hv : p.2.Jq (At.isT t) = false := by
   generalize p.2 = v at hp
   unfold E4 at hp
   split at hp <;> first | rfl | cases hp
  refine ⟨?_, ?_, h.hi, ?_, ?_, ?_, ?_, ⟨h.h5.1, h.h5.2.1, ?_⟩, h.h6⟩
  ·rw [QH hu.1]; exact h.hx
  ·rw [St.Ki]; exact h.ho
  ·rw [QH hu.1, QH hu.2]; exact h.h1
  ·rw [QH hu.2, Fl]; exact h.h2
  ·rw [QH hu.2, My]; exact h.h3
  ·rw [QH hu.2]; exact h.h4
  ·rw [RG]; exact BR hv h.h5.2.2
theorem CX {l : List (Nat × Nat)} {t j : Nat} {ob : Ob} : ∀ (q : List (Nat × V)) (σ : St), ((σ.PH q).YB l).Ya t j ob = ((σ.YB l).Ya t j ob).PH q
 | [], _ => rfl
 | p :: q, σ => by rw [St.PH, St.PH, CX q, RG, jv]
theorem F3 {P : Program} {ops : Array Oper} {o : Oper} {σ : St} {T : TypeId} {x y : Operand} {t j i c size : Nat} {rows : List (List D)} {ds : List D} {l : List (Nat × Nat)} (hop : o.op = .store T x y) (hg : o.guard = none) (hd : o.dst = none) (h : StM P σ T x y t j i c size rows ds l) :
  Au P ops o σ ((σ.YB l).Ya t j (.arr true size (rows.set i (place (rowAt rows i) c ds)))) := by
 obtain ⟨hx, ho, hi, h1, h2, h3, h4, h5, h6⟩ := h
 subst h4
 rintro T0 B a w K Q' ⟨X, hh, r⟩ hK
 have hw : Region.wanted o (yielded ops a.tmps) = true := by simp [Region.wanted, hg]
 rw [if_pos hw]
 exact LM r hop hd h1.1 h1.2.1 h1.2.2.1 hx ho hi h1.2.2.2 h2 h3 h5.1 h5.2.1 h5.2.2 h6.1 h6.2 hK
theorem ug {P : Program} {ops : Array Oper} {bar : Oper → Bool} {o : Oper} {rest : List Oper} {σ : St} {Q : St → Prop} {T : TypeId} {x y : Operand} {t j i c size : Nat} {rows : List (List D)} {ds : List D} {l : List (Nat × Nat)} (hop : o.op = .store T x y) (hg : o.guard = none) (hd : o.dst = none) (hbar : bar o = true)
  (hx : unc (look P σ 0 x) = .one (.ptr t j i c)) (ho : σ.ob t j = .arr true size rows) (hi : i < rows.length) (h1 : Yr P T = true ∧ gOf (look P σ 0 x) = true ∧ gOf (look P σ T y) = true ∧ (unc (look P σ T y)).flat = true)
  (h2 : KI σ (unc (look P σ T y)).cells = some ds) (h3 : Xz σ (unc (look P σ T y)).cells) (h4 : YW (unc (look P σ T y)).cells = l) (h5 : l.Nodup ∧ (t, j) ∉ l ∧ (σ.YB l).Jq (At.isT t) = false) (h6 : ds.length = P.cellsOf T ∧ c + P.cellsOf T ≤ size)
  (h : Ev P ops bar rest ((σ.YB l).Ya t j (.arr true size (rows.set i (place (rowAt rows i) c ds)))) Q) : kv P ops bar o rest σ Q := by
 have hm : StM P σ T x y t j i c size rows ds l := ⟨hx, ho, hi, h1, h2, h3, h4, h5, h6⟩
 refine ⟨_, .inr ⟨hbar, F3 hop hg hd hm, fun d' _ hc => yZ (Kc hc), fun _ => ⟨⟨by rw [St.JN, St.ja], fun u => by rw [St.yC, St.UH]⟩, fun q hq => ?_⟩⟩, JL h⟩
 rw [← CX]
 exact ⟨F3 hop hg hd (hm.PH hop q hq), fun d' _ hc => yZ (Kc hc)⟩
end Go.Vm
namespace Go.Vm
open Go.RowKit
def Pv (P : Program) (σ : St) : ResultVar → Prop × List At
 | .tmp t => (match σ.get t with
  | .one x => (t < σ.length, [x])
  | .agg [] => (t < σ.length, [])
  | .agg (x :: y :: xs) => (t < σ.length, x :: y :: xs)
  | _ => (False, []))
 | .cell t T => (match σ.get t with
  | .one (.bptr u c) => (match σ.ob u 0 with
    | .box cells => (Yr P T = true ∧ Yw P T = true ∧ P.cellsOf T ≠ 1 ∧ c + P.cellsOf T ≤ cells.length, cut cells c (P.cellsOf T))
    | _ => (False, []))
  | _ => (False, []))
def zA (P : Program) (σ : St) : List ResultVar → Prop × List (List At)
 | [] => (True, [])
 | r :: rs => ((Pv P σ r).1 ∧ (zA P σ rs).1, (Pv P σ r).2 :: (zA P σ rs).2)
theorem vP {P : Program} {σ : St} {r : ResultVar} (h : (Pv P σ r).1) : H9 P σ r (Pv P σ r).2 := by
 cases r with
 | tmp t =>
  simp only [Pv] at h ⊢
  simp only [H9]
  cases hx : σ.get t with
  | one x => rw [hx] at h; exact ⟨rfl, h⟩
  | agg xs =>
   rw [hx] at h
   match xs, h with
   | [], h => exact ⟨rfl, h⟩
   | [x], h => exact h.elim
   | x :: y :: xs, h => exact ⟨rfl, h⟩
  | any => rw [hx] at h; exact h.elim
  | tup xs => rw [hx] at h; exact h.elim
  | cnd g x => rw [hx] at h; exact h.elim
  | fix u x => rw [hx] at h; exact h.elim
 | cell t T =>
  simp only [Pv] at h ⊢
  split at h
  ·rename_i u c hx
   split at h
   ·rename_i cells ho
    exact ⟨u, c, cells, hx, ho, h.1, h.2.1, h.2.2.1, h.2.2.2, rfl⟩
   ·exact h.elim
  ·exact h.elim
theorem Rw {P : Program} {σ : St} : ∀ {rs : List ResultVar}, (zA P σ rs).1 → RL P σ rs (zA P σ rs).2
 | [], _ => rfl
 | _ :: _, h => ⟨_, _, vP h.1, Rw h.2, rfl⟩
theorem sc {P : Program} {fn : Func} {σ : St} {res : List (List D)} {rv : List ResultVar} (hf : fn.results = rv.toArray) (h : (zA P σ rv).1 ∧ T2 σ (zA P σ rv).2 = some res) : CU P fn false res .ret σ :=
 ⟨.inl rfl, _, by rw [hf]; exact Rw h.1, by simpa using h.2⟩
theorem rF {P : Program} {fn : Func} {σ : St} {res : List (List D)} {rv : List ResultVar} (hf : fn.results = rv.toArray) (h : (zA P σ rv).1 ∧ UC σ (zA P σ rv).2 = some res ∧ (YW (zA P σ rv).2.flatten).Nodup) : CU P fn true res .ret σ :=
 ⟨.inl rfl, _, by rw [hf]; exact Rw h.1, by simpa using h.2⟩
theorem tN {P : Program} {fn : Func} {σ : St} {res : List (List D)} {rv : List ResultVar} (hf : fn.results = rv.toArray) (h : (zA P σ rv).1 ∧ xa σ (zA P σ rv).2 = some res ∧ yl σ (zA P σ rv).2 ∧ (YW (zA P σ rv).2.flatten).Nodup) : u4 P fn res .ret σ :=
 ⟨.inl rfl, _, by rw [hf]; exact Rw h.1, h.2⟩
attribute [simp] xa KI mvD yl Xz AZ Z8 kY zU SK Tu St.YB AR wE Db rf WH Te Mv St.Jq V.Jq V.Gs Ft WM Jx At.isT
attribute [simp] isB bOf Ev stops evS C7 evV F2 AI RA RH za Td Tz Sc OA lkI lkK Vm.look cst unc gOf qj V.flat V.cells St.put St.Ya St.new St.uI St.BZ St.tS St.Ea Fv ji u7
 Ir Rh ldV cut place rowOf K1 Jz At.D0 Xy V.Ju YT qM Ui EM vOf JM yE zA Pv T2 UC ownRow jh YW WN Sl YM At.ref D.scalar Qr D.Eb zD vy jH
end Go.Vm
namespace Go.Vm
open Go.RowKit
section
variable {P : Program} {T0 : CS} {B : Nat → Prop} {σ : St} {a : Act} {w w' : World} {X X' : Nat → Prop} {h : Nat → Nat → Hd}
theorem Ek {cs : List Value} {row : List D} {S : Nat → Prop} (ho : zL w cs row S) : ∃ (hf : Nat → Hd) (Sk : Nat → Nat → Prop), (∀ j c, cs[j]? = some c → (hf j).v = c) ∧ (∀ k b, Sk k b → S b) ∧ (∀ i j b, Sk i b → Sk j b → i = j) ∧
  ∀ j size rows, row[j]? = some (.sl size rows) → (∀ b, (hf j).u b → Sk j b) ∧ (∀ b, blk (hf j).v = some b → (hf j).u b) ∧ ∀ T h ob, Qq T h ob w (hf j) (.arr true size rows) := by
 obtain ⟨hl, Sk, h1, h2, h3⟩ := ho
 have hex : ∀ j, ∃ hd : Hd, (∀ c, cs[j]? = some c → hd.v = c) ∧ (∀ size rows, row[j]? = some (.sl size rows) → (∀ b, hd.u b → Sk j b) ∧ (∀ b, blk hd.v = some b → hd.u b) ∧ ∀ T h ob, Qq T h ob w hd (.arr true size rows)) := by
  intro j
  cases hj : row[j]? with
  | none => exact ⟨Hd.of ((cs[j]?).getD undef), fun c hc' => by simp [Hd.of, hc'], fun size rows hh => by cases hh⟩
  | some dd =>
   have hlt' : j < cs.length := by rw [hl]; exact (List.getElem?_eq_some_iff.1 hj).1
   have hcj : cs[j]? = some cs[j] := List.getElem?_eq_getElem hlt'
   cases dd with
   | int k n => exact ⟨Hd.of cs[j], fun c hc' => by rw [hcj] at hc'; cases hc'; rfl, fun size rows hh => by cases hh⟩
   | bool k => exact ⟨Hd.of cs[j], fun c hc' => by rw [hcj] at hc'; cases hc'; rfl, fun size rows hh => by cases hh⟩
   | str k => exact ⟨Hd.of cs[j], fun c hc' => by rw [hcj] at hc'; cases hc'; rfl, fun size rows hh => by cases hh⟩
   | sl size rows =>
    have ho := h1 j _ _ hcj hj
    generalize hv : cs[j] = v at ho
    cases ho with
    | sl v size rows S e xs Sk' ho hz hb hl hk hs' hd' =>
     refine ⟨⟨v, fun k => (xs[k]?).getD undef, Sk j⟩, fun c hc' => by rw [hcj, hv] at hc'; cases hc'; rfl, fun size' rows' hh => ?_⟩
     cases hh
     exact ⟨fun b hb => hb, hb, fun T h ob => ⟨e, xs, ho, hz, ⟨hl, Sk', hk, fun k b hb => hs' k b hb, hd'⟩, fun k x d hx _ _ => by simp [hx]⟩⟩
 obtain ⟨hf, hfs⟩ := Classical.axiomOfChoice hex
 exact ⟨hf, Sk, fun j => (hfs j).1, h2, h3, fun j => (hfs j).2⟩
theorem zL.top {T : CS} {cs : List Value} {row : List D} {S : Nat → Prop} (ho : zL w cs row S) : Z3 (Wc T w) cs row := by
 obtain ⟨hl, Sk, h1, h2, h3⟩ := ho
 refine Z3.xW hl (fun k x d hx hd => ?_)
 have ho := h1 k x d hx hd
 cases ho with
 | int k n => exact Rd.int _ _
 | bool b => exact Rd.bool _
 | str s => exact Rd.str _
 | sl v size rows S e xs Sk' ho hz hb hl hk hs' hd' => exact ⟨e, xs, ho⟩
theorem qT : ∀ (ds : List D) (k : Nat) (size : Nat) (rows : List (List D)), ds[k]? = some (.sl size rows) → YR (Z8 [] ds) k = .arr true size rows
 | [], k, size, rows, h => by simp at h
 | .sl s r :: ds, 0, size, rows, h => by simp at h; obtain ⟨rfl, rfl⟩ := h; rfl
 | .int _ _ :: ds, 0, size, rows, h => by simp at h
 | .bool _ :: ds, 0, size, rows, h => by simp at h
 | .str _ :: ds, 0, size, rows, h => by simp at h
 | .sl s r :: ds, k + 1, size, rows, h => by have := qT ds k size rows (by simpa using h); simpa [Z8, YR] using this
 | .int _ _ :: ds, k + 1, size, rows, h => by have := qT ds k size rows (by simpa using h); simpa [Z8, YR] using this
 | .bool _ :: ds, k + 1, size, rows, h => by have := qT ds k size rows (by simpa using h); simpa [Z8, YR] using this
 | .str _ :: ds, k + 1, size, rows, h => by have := qT ds k size rows (by simpa using h); simpa [Z8, YR] using this
theorem qv : ∀ (ds : List D) (k : Nat), YR (Z8 [] ds) k ≠ .none → ∃ size rows, ds[k]? = some (.sl size rows)
 | [], k, h => by simp [Z8, YR] at h
 | .sl s r :: ds, 0, h => ⟨s, r, rfl⟩
 | .int _ _ :: ds, 0, h => by simp [Z8, YR] at h
 | .bool _ :: ds, 0, h => by simp [Z8, YR] at h
 | .str _ :: ds, 0, h => by simp [Z8, YR] at h
 | .sl s r :: ds, k + 1, h => by have := qv ds k (by simpa [Z8, YR] using h); simpa using this
 | .int _ _ :: ds, k + 1, h => by have := qv ds k (by simpa [Z8, YR] using h); simpa using this
 | .bool _ :: ds, k + 1, h => by have := qv ds k (by simpa [Z8, YR] using h); simpa using this
 | .str _ :: ds, k + 1, h => by have := qv ds k (by simpa [Z8, YR] using h); simpa using this
def O8 (n : Nat) (v : Value) (row : List D) (args : List (List D)) : St := (.fix v (vOf (JM 0 0 row)), Z8 [] row) :: (Sl args ++ List.replicate (n - (args.length + 1)) (V.any, []))
theorem wm {T : CS} {S : Nat → Prop} {n : Nat} {v : Value} {cs : List Value} {row : List D} {args : List (List D)} {vals : List Value} (hT : ∀ b k, T b k → b < w.heap.size ∧ ¬ S b) (hS : ∀ b, S b → b < w.heap.size) (hf : zE v cs) (ho : zL w cs row S)
  (ha : Z3 (fun v row => ∃ cs, zE v cs ∧ Z3 (Rd T w) cs row) vals args) :
  Jc T (fun b => b < w.heap.size ∧ ¬ S b) (O8 n v row args) { tmps := (v :: vals).toArray ++ Array.replicate (n - (v :: vals).toArray.size) undef, defers := [] } w := by
 have hl := ha.length
 obtain ⟨hfd, Sk, k1, k2, k3, k4⟩ := Ek ho
 refine ⟨fun _ => False, fun t j => if t = 0 then hfd j else Hd.of undef, ?_⟩
 have hob0 : ∀ j, (O8 n v row args).ob 0 j = YR (Z8 [] row) j := fun j => rfl
 have hobs : ∀ t j, (O8 n v row args).ob (t + 1) j = .none := by
  intro t j
  unfold St.ob O8
  rw [List.getElem?_cons_succ]
  rcases Nat.lt_or_ge t args.length with h | h
  ·rw [List.getElem?_append_left (by rw [XC]; exact h), VW, List.getElem?_eq_getElem h]
   simp [YR]
  ·rw [List.getElem?_append_right (by rw [XC]; exact h), List.getElem?_replicate]
   split
   ·rename_i e he
    split at he
    ·cases he; simp [YR]
    ·cases he
   ·rfl
 have hz : ∀ t j, (O8 n v row args).ob t j ≠ .none → t = 0 ∧ ∃ size rows, row[j]? = some (.sl size rows) := by
  intro t j hne
  cases t with
  | zero => exact ⟨rfl, qv row j hne⟩
  | succ t => exact absurd (hobs t j) hne
 have hTT : ∀ b k v, T b k → w.cell? ⟨b, k, none⟩ = some v → w.cell? ⟨b, k, none⟩ = some v ∧ Tof T (fun _ => False) b k := fun b k v hb hc => ⟨hc, .inl hb⟩
 refine ⟨by simp [O8, XC, hl]; omega, rfl, (fun b hb => hb.1), (fun b hb => hb.elim), hT, fun t ht => ?_, fun t j => ?_, fun t j b hne hb => ?_, fun t j b hne hb => ?_, fun t j t' j' b hne hne' hb hb' => ?_⟩
 ·cases t with
  | zero =>
   have hval : ((v :: vals).toArray ++ Array.replicate (n - (v :: vals).toArray.size) undef).getD 0 undef = v := by
    rw [Array.getD_eq_getD_getElem?, Array.getElem?_append_left (by simp)]
    simp
   rw [hval]
   refine ⟨rfl, PE hf (W9 ho.top (fun i size rows hi => ⟨true, ?_⟩) (fun i c hc => ?_))⟩
   ·rw [Nat.zero_add, hob0]; exact qT row i size rows hi
   ·rw [Nat.zero_add]; simp only [if_true]; exact k1 i c hc
  | succ t =>
   unfold St.get O8
   rw [List.getElem?_cons_succ]
   rcases Nat.lt_or_ge t args.length with hlt | hge
   ·rw [List.getElem?_append_left (by rw [XC]; exact hlt), VW, List.getElem?_eq_getElem hlt]
    obtain ⟨v', hv', cs', hf', hal'⟩ := ha.get' t args[t] (List.getElem?_eq_getElem hlt)
    have hval : ((v :: vals).toArray ++ Array.replicate (n - (v :: vals).toArray.size) undef).getD (t + 1) undef = v' := by
     rw [Array.getD_eq_getD_getElem?, Array.getElem?_append_left (by simp; omega)]
     simp [hv']
    simp only [hval]
    exact (PE hf' (R0 (hal'.imp fun _ _ => Rd.mono hTT))).up
   ·rw [List.getElem?_append_right (by rw [XC]; exact hge), List.getElem?_replicate]
    split
    ·rename_i e he
     split at he
     ·cases he; trivial
     ·cases he
    ·trivial
 ·by_cases hne : (O8 n v row args).ob t j = .none
  ·rw [hne]; trivial
  ·obtain ⟨rfl, size, rows, hj⟩ := hz t j hne
   rw [hob0, qT row j size rows hj]
   simp only [if_true]
   exact (k4 j size rows hj).2.2 _ _ _
 ·obtain ⟨rfl, size, rows, hj⟩ := hz t j hne
  simp only [if_true] at hb ⊢
  exact (k4 j size rows hj).2.1 b hb
 ·obtain ⟨rfl, size, rows, hj⟩ := hz t j hne
  simp only [if_true] at hb
  have := k2 j b ((k4 j size rows hj).1 b hb)
  exact ⟨fun hh => hh.2 this, fun hh => hh, hS b this⟩
 ·obtain ⟨rfl, size, rows, hj⟩ := hz t j hne
  obtain ⟨rfl, size', rows', hj'⟩ := hz t' j' hne'
  simp only [if_true] at hb hb'
  exact ⟨rfl, k3 j j' b ((k4 j size rows hj).1 b hb) ((k4 j' size' rows' hj').1 b hb')⟩
def St.rM : St → List At → List D → St
 | σ, .sref t j _ _ :: xs, .sl size rows :: ds => St.rM (σ.Ya t j (.arr true size rows)) xs ds
 | σ, _ :: xs, _ :: ds => St.rM σ xs ds
 | σ, _, _ => σ
def D4 : List D → List D → Prop
 | .sl s r :: ds, .sl s' r' :: ds' => s = s' ∧ r.length = r'.length ∧ D4 ds ds'
 | .sl _ _ :: _, _ => False
 | _ :: ds, _ :: ds' => D4 ds ds'
 | [], [] => True
 | _, _ => False
def AE (σ : St) : List At → Prop
 | [] => True
 | .sref t j _ _ :: xs => (match σ.ob t j with | .arr true _ _ => True | _ => False) ∧ AE σ xs
 | _ :: xs => AE σ xs
def At.E6 : At → Bool
 | .tref _ _ _ _ => true
 | _ => false
theorem Nv : ∀ {xs : List At} {t j : Nat}, (t, j) ∈ YW xs → ∃ (k lo len : Nat), xs[k]? = some (At.sref t j lo len)
 | [], t, j, h => by cases h
 | x :: xs, t, j, h => by
  cases x with
  | sref t' j' lo len =>
   simp only [YW, List.mem_cons, Prod.mk.injEq] at h
   rcases h with ⟨rfl, rfl⟩ | h
   ·exact ⟨0, lo, len, rfl⟩
   ·obtain ⟨k, lo, len, hk⟩ := Nv h; exact ⟨k + 1, lo, len, by simpa using hk⟩
  | _ => obtain ⟨k, lo, len, hk⟩ := Nv (xs := xs) h; exact ⟨k + 1, lo, len, by simpa using hk⟩
end
theorem EN {σ : St} {d d' : Nat} {v : V} (hne : d ≠ d') (h : XU σ d = true) : XU (σ.put d' v) d = true := by
 unfold XU at *; simp only [UW, if_neg hne]; exact h
end Go.Vm
