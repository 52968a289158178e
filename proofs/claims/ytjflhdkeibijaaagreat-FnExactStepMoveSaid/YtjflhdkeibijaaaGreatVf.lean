/- An abstract machine Oj the model of Go, by value, and that it is sound: part Vf. No condition. -/
import Derived.Test.YtjflhdkeibijaaaGreatVb
namespace Go.Vm
open Go.RowKit
def Ha (P : Program) (σ : St) (c : Call) (f : FuncId) (own : Bool) (res : List (List D)) : Prop :=
 ∃ rows, XQ P σ c.args.toList c.argTypes.toList rows ∧ X6 P f own rows res ∧ (YI P σ c.args.toList c.argTypes.toList = true ∨ Jz own res)
def Step (P : Program) (o : Oper) (d : Nat) (σ σ' : St) : Prop :=
 match o.op with
 | .alloc T => σ.fresh d = true ∧ Zl P T = true ∧ ∃ row, Yb P 12 T = some row ∧ σ' = σ.new d (.one (.bptr d 0)) [.box row]
 | .box T x => σ.fresh d = true ∧ gOf (look P σ T x) = true ∧ (unc (look P σ T x)).flat = true ∧ Z7 d (unc (look P σ T x)).cells = false ∧ σ' = σ.new d (.one (.bptr d 0)) [.box (unc (look P σ T x)).cells]
 | .buildSlice T n parts => σ.fresh d = true ∧ Z9 P T = true ∧ Zl P (ZK P T) = true ∧ 0 < P.cellsOf (ZK P T) ∧ parts.toList.length = n ∧ n * P.cellsOf (ZK P T) ≤ 16777216 ∧
   ((∃ rows, P5 P σ (ZK P T) (P.cellsOf (ZK P T)) parts.toList 0 rows ∧ σ' = σ.new d (.one (.sref d 0 0 rows.length)) [.arr false (P.cellsOf (ZK P T)) rows]) ∨
   (∃ rows, Um P σ (ZK P T) (P.cellsOf (ZK P T)) parts.toList 0 rows ∧ Z7 d rows.flatten = false ∧ σ' = σ.new d (.one (.sref d 0 0 rows.length)) [.lit (P.cellsOf (ZK P T)) rows]))
 | .makeSlice T x y => x = y ∧ σ.fresh d = true ∧ Z9 P T = true ∧ Zl P (ZK P T) = true ∧ 0 < P.cellsOf (ZK P T) ∧
   ∃ q z zr k n, (q = true → SL z = true) ∧ Yb P 12 (ZK P T) = some z ∧ zD z = some zr ∧ qe P σ x k (n : Nat) ∧ P.bytesOf (ZK P T) * n ≤ 281474976710656 ∧ n ≤ 9223372036854775807 ∧ σ' = σ.new d (.one (.sref d 0 0 n)) [.arr q (P.cellsOf (ZK P T)) (List.replicate n zr)]
 | .call c =>
  (match c.callee with
  | .builtin .append => ∃ x y t, c.args = #[x, y] ∧ c.argTypes = #[t, t] ∧ gOf (look P σ t x) = true ∧ gOf (look P σ t y) = true ∧ Z9 P t = true ∧ Zl P (ZK P t) = true ∧ 0 < P.cellsOf (ZK P t) ∧
    ∃ olds news σ1, kc σ (unc (look P σ t x)) (P.cellsOf (ZK P t)) olds σ1 ∧ Kr σ (unc (look P σ t y)) (P.cellsOf (ZK P t)) news ∧ σ1.fresh d = true ∧
     (olds.length + news.length) * P.bytesOf (ZK P t) ≤ 140737488355328 ∧ olds.length + news.length ≤ 9223372036854775807 ∧ σ' = σ1.new d (.one (.sref d 0 0 (olds.length + news.length))) [.arr false (P.cellsOf (ZK P t)) (olds ++ news)]
  | .value (.func f) => (∃ own res, Ha P σ c f own res ∧ σ' = σ.put d (ya res)) ∨ (∃ res, Ha P σ c f true res ∧ σ.fresh d = true ∧ σ' = σ.new d (kT d res) (zO res.flatten)) ∨
    (∃ rows res qs, XQ P σ c.args.toList c.argTypes.toList rows ∧ Xz P f rows res ∧ ks qs res.flatten ∧ σ.fresh d = true ∧ σ' = σ.new d (kT d res) (Z3 qs res.flatten))
  | _ => ∃ v, Z8 P σ o.op o.type v ∧ σ' = σ.put d v)
 | .convert S T x =>
   (∃ v, Z8 P σ o.op o.type v ∧ σ' = σ.put d v) ∨
   (∃ l, gOf (look P σ S x) = true ∧ QP P S = true ∧ JO P T = true ∧ Kr σ (unc (look P σ S x)) 1 (QN l) ∧ σ' = σ.put d (.one (.d (.str ⟨l.toArray⟩)))) ∨
   (∃ s, gOf (look P σ S x) = true ∧ JO P S = true ∧ QP P T = true ∧ unc (look P σ S x) = .one (.d (.str s)) ∧ s.size ≤ 9223372036854775807 ∧ σ' = σ.put d (.one (.d (.sl 1 (QN s.data.toList)))))
 | _ => ∃ v, Z8 P σ o.op o.type v ∧ σ' = σ.put d v
def Ki (P : Program) (σ : St) (T : TypeId) (x y : Operand) (σ' : St) : Prop :=
 Yd P T = true ∧ gOf (look P σ 0 x) = true ∧ gOf (look P σ T y) = true ∧ (unc (look P σ T y)).flat = true ∧
  (match unc (look P σ 0 x) with
  | .one (.bptr t c) => ∃ cells, σ.ob t 0 = .box cells ∧ (unc (look P σ T y)).cells.length = P.cellsOf T ∧ c + P.cellsOf T ≤ cells.length ∧ σ' = σ.Zt t 0 (.box (place cells c (unc (look P σ T y)).cells))
  | .one (.ptr t j i c) => ∃ q size rows ds, σ.ob t j = .arr q size rows ∧ i < rows.length ∧ rowOf σ (unc (look P σ T y)).cells = some ds ∧ Qr (unc (look P σ T y)).cells = true ∧ ds.length = P.cellsOf T ∧ c + P.cellsOf T ≤ size ∧
    (q = true → ds.all D.scalar = true ∧ (cut (rows.getD i []) c (P.cellsOf T)).all D.scalar = true) ∧ σ' = σ.Zt t j (.arr q size (rows.set i (place (rows.getD i []) c ds)))
  | _ => False)
def xP (want : Bool) : V → Option Bool
 | .one (.d (.bool b)) => some (b == want)
 | .cnd g (.one (.d (.bool b))) => some (g && (b == want))
 | .cnd false _ => some false
 | _ => none
def Tt (P : Program) (o : Oper) (σ : St) (v : V) : Prop :=
 match o.op with
 | .call c =>
  (match c.callee with
  | .value (.func f) => ∃ own res, Ha P σ c f own [res] ∧ v = ya [res]
  | _ => ∃ v0, Z8 P σ o.op o.type v0 ∧ gOf v0 = true ∧ v = unc v0 ∧ v.flat = true)
 | _ => ∃ v0, Z8 P σ o.op o.type v0 ∧ gOf v0 = true ∧ v = unc v0 ∧ v.flat = true
def Yc (P : Program) (ops : Array Oper) (o : Oper) (σ σ' : St) : Prop :=
 match o.guard with
 | none =>
  (match o.dst with
  | some d => Step P o d σ σ'
  | none => (match o.op with | .store T x y => Ki P σ T x y σ' | _ => False))
 | some (j, want) => ∃ dj d g v, (ops[j]?).bind (·.dst) = some dj ∧ dj < σ.length ∧ o.dst = some d ∧ xP want (σ.get dj) = some g ∧ (g = true → Tt P o σ v) ∧ σ' = σ.put d (.cnd g v)
def jw (P : Program) (ops : Array Oper) (o : Oper) (σ σ' : St) : Prop :=
 ∀ (T0 : CS) (B : Nat → Prop) (a : Act) (w : World) (K : Act → World → Prop) (Q : Exit → Act → World → Prop), Qo T0 B σ a w → (∀ a' w', Qo T0 B σ' a' w' → Yo B w w' → K a' w') →
  if Region.wanted o (yielded ops a.tmps) then o.wp P a w K Q else K (a.put o.dst undef) w
def XT (σ : St) (d : Nat) : Bool := match σ[d]? with | some (.any, []) => true | some (.one (.d _), []) => true | _ => false
def V8 (o : Oper) (σ σ' : St) : Prop := ∀ d, o.dst ≠ some d → XT σ d = true → XT σ' d = true
def UE (o : Oper) : Bool := match o.op with | .store _ _ _ => true | _ => false
def Kk (d : Nat) : Operand → Bool
 | .tmp t => t == d
 | _ => false
def xz (o : Oper) (d : Nat) : Bool := match o.op with | .store _ p q => !Kk d p && !Kk d q | _ => false
def SF : V → Bool
 | .any => true
 | .one (.d _) => true
 | _ => false
def St.Xf : St → List (Nat × V) → St
 | σ, [] => σ
 | σ, p :: l => St.Xf (σ.put p.1 p.2) l
def Ad (P : Program) (ops : Array Oper) (o : Oper) (σ σ' : St) : Prop :=
 (σ'.length = σ.length ∧ ∀ u, σ'.get u = σ.get u) ∧ (∀ l : List (Nat × V), (∀ p ∈ l, xz o p.1 = true ∧ SF p.2 = true) → jw P ops o (σ.Xf l) (σ'.Xf l) ∧ V8 o (σ.Xf l) (σ'.Xf l)) ∧ ∀ t cells, σ.ob t 0 = .box cells → σ'.ob t 0 = .box cells
def VQ (o : Oper) : Bool := match o.op with | .call ⟨.builtin .append, _, _⟩ => true | _ => false
theorem Ic {o : Oper} (h : UE o = true) : VQ o = false := by
 unfold UE at h
 split at h
 ·rename_i hop; simp [VQ, hop]
 ·cases h
def Vk (o : Oper) (d : Nat) : Bool := !(o.op.operands.toList.any (Kk d))
def Bn (P : Program) (ops : Array Oper) (o : Oper) (σ σ' : St) : Prop :=
 ∃ d, o.dst = some d ∧ σ'.length = σ.length ∧ (∀ t, t ≠ d → σ'.get t = σ.get t ∧ (σ.get t).ref d = false) ∧ (∀ t j cells, t ≠ d → σ'.ob t j = .box cells → σ.ob t j = .box cells ∧ Z7 d cells = false) ∧
  (∀ t j q s rows, t ≠ d → σ'.ob t j = .arr q s rows → ∃ rows', σ.ob t j = .arr q s rows') ∧
  ∀ l : List (Nat × V), (∀ p ∈ l, p.1 ≠ d ∧ Vk o p.1 = true ∧ p.2.ref d = false) → jw P ops o (σ.Xf l) (σ'.Xf l) ∧ V8 o (σ.Xf l) (σ'.Xf l)
def Jk (P : Program) (ops : Array Oper) (bar : Oper → Bool) (o : Oper) (σ σ' : St) : Prop := Yc P ops o σ σ' ∨ (bar o = true ∧ jw P ops o σ σ' ∧ V8 o σ σ' ∧ (UE o = true → Ad P ops o σ σ') ∧ (VQ o = true → Bn P ops o σ σ'))
def IS (P : Program) (ops : Array Oper) (bar : Oper → Bool) : List Oper → St → (St → Prop) → Prop
 | [], σ, Q => Q σ
 | o :: rest, σ, Q => ∃ σ', Jk P ops bar o σ σ' ∧ IS P ops bar rest σ' Q
section
variable {P : Program} {T0 : CS} {B : Nat → Prop} {σ : St} {a : Act} {w w' : World} {X X' : Nat → Prop} {h : Nat → Nat → Hd}
theorem V3 (d : Nat) : ∀ (n : Nat) (t : TypeId) (row : List At), Yb P n t = some row → Z7 d row = false := by
 intro n
 induction n with
 | zero => intro t row hr; simp [Yb] at hr
 | succ n ih =>
  intro t row hr
  have happ : ∀ (rs : List (List At)), (∀ r ∈ rs, Z7 d r = false) → Z7 d rs.flatten = false := by
   intro rs hrs
   have app : ∀ (xs ys : List At), Z7 d xs = false → Z7 d ys = false → Z7 d (xs ++ ys) = false := by
    intro xs ys hx hy
    induction xs with
    | nil => exact hy
    | cons x xs ih2 => simp only [List.cons_append, Z7, Bool.or_eq_false_iff] at hx ⊢; exact ⟨hx.1, ih2 hx.2⟩
   induction rs with
   | nil => rfl
   | cons r rs ih2 => rw [List.flatten_cons]; exact app _ _ (hrs r (by simp)) (ih2 (fun r hr => hrs r (by simp [hr])))
  rw [Yb] at hr
  split at hr
  ·cases hr; rfl
  ·cases hr; rfl
  ·cases hr; rfl
  ·cases hr; rfl
  ·rename_i fs _
   simp only [Option.map_eq_some_iff] at hr
   obtain ⟨rs, hrs, rfl⟩ := hr
   refine happ rs ?_
   have : ∀ (l : List Field) (rs : List (List At)), l.mapM (fun f => Yb P n f.type) = some rs → ∀ r ∈ rs, Z7 d r = false := by
    intro l
    induction l with
    | nil => intro rs hh r hr; simp at hh; subst hh; cases hr
    | cons f l ih2 =>
     intro rs hh r hr
     simp only [List.mapM_cons, Option.bind_eq_bind, Option.bind_eq_some_iff] at hh
     obtain ⟨r0, hr0, rs', hrs', hh⟩ := hh
     simp at hh; subst hh
     rcases List.mem_cons.1 hr with rfl | hr
     ·exact ih f.type _ hr0
     ·exact ih2 rs' hrs' r hr
   exact this fs.toList rs hrs
  ·simp only [Option.map_eq_some_iff] at hr
   obtain ⟨r0, hr0, rfl⟩ := hr
   exact happ _ (fun r hr => by rw [List.eq_of_mem_replicate hr]; exact ih _ _ hr0)
  ·cases hr
theorem Wt {o : Oper} {d : Nat} {v : V} (r : Rel T0 B σ a w X h) (hd : o.dst = some d) (hex : ∃ val, (execOp a.eval o).run P w = .ok (.value val) w ∧ XZ (Tof T0 X) h σ.ob w v val)
  {K : Act → World → Prop} {Q : Exit → Act → World → Prop} (hK : ∀ a' w', Qo T0 B (σ.put d v) a' w' → Yo B w w' → K a' w') : o.wp P a w K Q := by
 obtain ⟨val, hrun, hv⟩ := hex
 unfold Oper.wp
 rw [hrun, Oper.upon_value, hd]
 exact hK _ _ ⟨X, h, r.put d v val hv⟩ (Yo.refl _ _)
theorem GY (r : Rel T0 B σ a w X h) {o : Oper} {d : Nat} {σ' : St} (hd : o.dst = some d) (hs : Step P o d σ σ') {K : Act → World → Prop} {Q : Exit → Act → World → Prop}
  (hK : ∀ a' w', Qo T0 B σ' a' w' → Yo B w w' → K a' w') : o.wp P a w K Q := by
 have dflt : (∃ v, Z8 P σ o.op o.type v ∧ σ' = σ.put d v) → o.wp P a w K Q := by
  rintro ⟨v, hv, rfl⟩
  exact Wt r hd (SN r hv) hK
 unfold Step at hs
 split at hs
 ·rename_i T hop
  obtain ⟨hf, hz, row, hrow, rfl⟩ := hs
  exact HI r hop hd hf hz hrow (V3 d _ _ _ hrow) hK
 ·rename_i T x hop
  obtain ⟨hf, hg, hfl, hr, rfl⟩ := hs
  exact Fb r hop hd hf hg hfl hr hK
 ·rename_i T n parts hop
  obtain ⟨hf, h1, h2, h3, h4, h5, ⟨rows, h6, rfl⟩ | ⟨rows, h6, h7, rfl⟩⟩ := hs
  ·exact Ti r hop hd hf h1 h2 h3 h4 h5 h6 hK
  ·exact Wj r hop hd hf h1 h2 h3 h4 h5 h6 h7 hK
 ·rename_i T x y hop
  obtain ⟨rfl, hf, h1, h2, h3, q, z, zr, k, n, hq, h4, h5, h6, h7, h8, rfl⟩ := hs
  cases q with
  | false => exact Re r hop hd hf h1 h2 h4 h5 h3 h6 h7 h8 hK
  | true => exact PJ r hop hd hf h1 h2 h4 h5 (hq rfl) h3 h6 h7 h8 hK
 ·rename_i c hop
  split at hs
  ·rename_i hc
   obtain ⟨x, y, t, ha, hat, h1, h2, h3, h4, h5, olds, news, σ1, h6, h7, h8, h9, h10, rfl⟩ := hs
   refine Le r (t := t) (x := x) (y := y) ?_ hd h1 h2 h3 h4 h5 h6 h7 h8 h9 h10 hK
   rw [hop]
   obtain ⟨cc, ca, ct⟩ := c
   simp only at hc ha hat
   rw [hc, ha, hat]
  ·rename_i f hc
   rcases hs with ⟨own, res, ⟨rows, ha, hs, hor⟩, rfl⟩ | ⟨res, ⟨rows, ha, hs, hor⟩, hf, rfl⟩ | ⟨rows, res, qs, ha, hs, hq, hf, rfl⟩
   ·rcases hor with hor | hor
    ·exact xk r hop hc hd ha true (fun _ => hor) (fun hh => by cases hh) hs hK
    ·exact xk r hop hc hd ha false (fun hh => by cases hh) (fun _ => hor) hs hK
   ·rcases hor with hor | hor
    ·exact Vj r hop hc hd hf ha true (fun _ => hor) (fun hh => by cases hh) hs hK
    ·exact Vj r hop hc hd hf ha false (fun hh => by cases hh) (fun _ => hor) hs hK
   ·exact Hj r qs hop hc hd hf ha hs hq hK
  ·exact dflt hs
 ·rename_i S T x hop
  rcases hs with hs | ⟨l, h1, h2, h3, h4, rfl⟩ | ⟨s, h1, h2, h3, h4, h5, rfl⟩
  ·exact dflt hs
  ·exact Wt r hd (VV r hop h1 h2 h3 h4) hK
  ·exact VR r hop hd h1 h2 h3 h4 h5 hK
 ·exact dflt hs
theorem LZ (r : Rel T0 B σ a w X h) {o : Oper} {T : TypeId} {x y : Operand} {σ' : St} (hop : o.op = .store T x y) (hd : o.dst = none) (hs : Ki P σ T x y σ') {K : Act → World → Prop} {Q : Exit → Act → World → Prop}
  (hK : ∀ a' w', Qo T0 B σ' a' w' → Yo B w w' → K a' w') : o.wp P a w K Q := by
 obtain ⟨ht, hgx, hgy, hfl, hs⟩ := hs
 split at hs
 ·rename_i t c hx
  obtain ⟨cells, ho, hl, hle, rfl⟩ := hs
  exact PK r hop hd ht hgx hgy hx ho hfl hl hle hK
 ·rename_i t j i c hx
  obtain ⟨q, size, rows, ds, ho, hi, hds, hst, hl, hle, hq, rfl⟩ := hs
  refine PY r hop hd ht hgx hgy hx ho hi hfl hds hst hl hle (fun hh => ⟨fun d hd' => ?_, fun k d hk hd' => ?_⟩) hK
  ·exact List.all_eq_true.1 (hq hh).1 d hd'
  ·refine List.all_eq_true.1 (hq hh).2 d (List.mem_of_getElem? (i := k) ?_)
   simp only [cut, List.getElem?_take, if_pos hk, List.getElem?_drop]; exact hd'
 ·exact hs.elim
theorem Sj {T : CS} {ob : Nat → Nat → Ob} {v : V} {val : Value} (hf : (unc v).flat = true) (hv : XZ T h ob w (unc v) val) : Qe T h ob w (unc v) val := by
 cases hu : unc v with
 | one x => rw [hu] at hv; exact hv
 | agg xs => rw [hu] at hv; exact hv
 | any => rw [hu] at hf; cases hf
 | tup xs => rw [hu] at hf; cases hf
 | cnd g x => rw [hu] at hf; cases hf
 | fix u x => rw [hu] at hf; cases hf
theorem GC (r : Rel T0 B σ a w X h) {ops : Array Oper} {o : Oper} {j dj : Nat} {want g : Bool} (hgd : o.guard = some (j, want)) (hdj : (ops[j]?).bind (·.dst) = some dj) (hlt : dj < σ.length) (hg : xP want (σ.get dj) = some g) :
  Region.wanted o (yielded ops a.tmps) = g := by
 have hsz : dj < a.tmps.size := by rw [r.size]; exact hlt
 have hv := r.slot dj hlt
 have hgetD : a.tmps.getD dj undef = a.tmps[dj] := by simp [hsz]
 rw [hgetD] at hv
 have hy : yielded ops a.tmps j = (match a.tmps[dj] with | .bool b => some b | _ => none) := by
  unfold yielded
  rw [hdj]
  simp only [Option.bind_some, Array.getElem?_eq_getElem hsz]
  cases a.tmps[dj] <;> rfl
 simp only [Region.wanted, hgd, hy]
 unfold xP at hg
 split at hg
 ·rename_i b hgv
  rw [hgv] at hv
  rw [yS hv]
  cases hg
  cases b <;> cases want <;> rfl
 ·rename_i g0 b hgv
  rw [hgv] at hv
  cases hg
  cases g0 with
  | true =>
   rw [yS (hv.1 rfl)]
   cases b <;> cases want <;> rfl
  | false =>
   rw [hv.2 rfl]
   simp [undef]
 ·rename_i hgv
  rw [hgv] at hv
  cases hg
  rw [hv.2 rfl]
  simp [undef]
 ·cases hg
theorem Iv (r : Rel T0 B σ a w X h) {ops : Array Oper} {o : Oper} {σ' : St} (hs : Yc P ops o σ σ') {K : Act → World → Prop} {Q : Exit → Act → World → Prop}
  (hK : ∀ a' w', Qo T0 B σ' a' w' → Yo B w w' → K a' w') : if Region.wanted o (yielded ops a.tmps) then o.wp P a w K Q else K (a.put o.dst undef) w := by
 unfold Yc at hs
 split at hs
 ·rename_i hg
  have hw : Region.wanted o (yielded ops a.tmps) = true := by simp [Region.wanted, hg]
  rw [if_pos hw]
  split at hs
  ·rename_i d hd; exact GY r hd hs hK
  ·rename_i hd
   split at hs
   ·rename_i T x y hop; exact LZ r hop hd hs hK
   ·exact hs.elim
 ·rename_i j want hg
  obtain ⟨dj, d, g, v, hdj, hlt, hd, hgc, hs, rfl⟩ := hs
  rw [GC r hg hdj hlt hgc]
  cases g with
  | false =>
   simp only [Bool.false_eq_true, if_false]
   rw [hd]
   exact hK _ _ ⟨X, h, r.put d _ _ ⟨(fun hh => by cases hh), fun _ => rfl⟩⟩ (Yo.refl _ _)
  | true =>
   simp only [if_true]
   have hs1 := hs rfl
   clear hs
   have dflt : (∃ v0, Z8 P σ o.op o.type v0 ∧ gOf v0 = true ∧ v = unc v0 ∧ v.flat = true) → o.wp P a w K Q := by
    rintro ⟨v0, hv0, hg0, rfl, hfl⟩
    obtain ⟨val, hrun, hv⟩ := SN r hv0
    refine Wt (v := .cnd true (unc v0)) r hd ⟨val, hrun, ⟨fun _ => Sj hfl (hv.unc hg0), fun hh => by cases hh⟩⟩ hK
   unfold Tt at hs1
   split at hs1
   ·rename_i c hop
    split at hs1
    ·rename_i f hc
     obtain ⟨own, res, ⟨rows, ha, hs, hor⟩, rfl⟩ := hs1
     have fin : ∀ a' w', Qo T0 B (σ.put d (ya [res])) a' w' → Yo B w w' → K a' w' := by
      rintro a' w' ⟨X', h', r'⟩ hb
      refine hK a' w' ⟨X', h', ?_⟩ hb
      -- the slot holds what the contract gives: it may be taken as given under the guard
      refine ⟨by rw [r'.size, St.Xp, St.Xp], r'.defers, r'.hB, r'.hX, r'.hT, fun t ht => ?_, fun t j => ?_, fun t j b => ?_, fun t j b => ?_, fun t j t' j' b => ?_⟩
      ·rw [St.Xp] at ht
       have h0 := r'.slot t (by rw [St.Xp]; exact ht)
       rw [St.Xe] at h0 ⊢
       rw [St.Jy] at h0 ⊢
       by_cases hh : t = d ∧ d < σ.length
       ·rw [if_pos hh] at h0 ⊢
        refine ⟨fun _ => ?_, fun hh => by cases hh⟩
        have hfl : (unc (vOf (res.map At.d))).flat = true := by
         match res.map At.d with
         | [] => rfl
         | [x] => rfl
         | x :: y :: xs => rfl
        have hu : unc (vOf (res.map At.d)) = vOf (res.map At.d) := by
         match res.map At.d with
         | [] => rfl
         | [x] => rfl
         | x :: y :: xs => rfl
        have := Sj (v := vOf (res.map At.d)) hfl (by rw [hu]; exact h0)
        rw [hu] at this; exact this
       ·rw [if_neg hh] at h0 ⊢; exact h0
      ·have := r'.obj t j; rw [St.Xe] at this ⊢; exact this
      ·have := r'.ub t j b; rw [St.Xe] at this ⊢; exact this
      ·have := r'.own t j b; rw [St.Xe] at this ⊢; exact this
      ·have := r'.inj t j t' j' b; rw [St.Xe] at this ⊢; exact this
     rcases hor with hor | hor
     ·exact xk r hop hc hd ha true (fun _ => hor) (fun hh => by cases hh) hs fin
     ·exact xk r hop hc hd ha false (fun hh => by cases hh) (fun _ => hor) hs fin
    ·exact dflt hs1
   ·exact dflt hs1
theorem Sq {ops : Array Oper} {bar : Oper → Bool} {o : Oper} {σ' : St} (hs : Jk P ops bar o σ σ') : jw P ops o σ σ' := by
 rcases hs with hs | hs
 ·rintro T0 B a w K Q ⟨X, h, r⟩ hK
  exact Iv r hs hK
 ·exact hs.2.1
theorem P4 {ops : Array Oper} {bar : Oper → Bool} : ∀ {l : List Oper} {σ : St} {a : Act} {w : World} {Q : St → Prop} {Q' : Exit → Act → World → Prop}, IS P ops bar l σ Q → Qo T0 B σ a w →
  (∀ σ' a' w', Q σ' → Qo T0 B σ' a' w' → Yo B w w' → Q' .normal a' w') → wpList P ops Q' l a w
 | [], σ, a, w, Q, Q', hr, hrel, hK => hK σ a w hr hrel (Yo.refl _ _)
 | o :: l, σ, a, w, Q, Q', ⟨σ', hs, hr⟩, hrel, hK => by
  refine wpList_step fun K hKK => ?_
  exact Sq hs _ _ _ _ _ _ hrel (fun a' w' hrel hb => hKK _ _ (P4 hr hrel (fun σ2 a2 w2 hq hr2 hb2 => hK σ2 a2 w2 hq hr2 (hb.trans hb2))))
end
end Go.Vm
namespace Go.Vm
open Go.RowKit
def AWP (P : Program) (c : Code) (Q : Exit → St → Prop) (σ : St) : Prop :=
 ∀ (T0 : CS) (B : Nat → Prop) (a : Act) (w : World), Qo T0 B σ a w → c.wp P (fun e a' w' => ∃ σ', Q e σ' ∧ Qo T0 B σ' a' w' ∧ Yo B w w') a w
def Wk (σ σ' : St) : Prop := ∀ (T0 : CS) (B : Nat → Prop) (a : Act) (w : World), Qo T0 B σ a w → Qo T0 B σ' a w
def R7 (next : St → Prop) (Q : Exit → St → Prop) : Exit → St → Prop
 | .normal, σ => next σ
 | e, σ => Q e σ
def W5 (id : Nat) (Q : Exit → St → Prop) : Exit → St → Prop
 | .exit id', σ => if id' = id then Q .normal σ else Q (.exit id') σ
 | e, σ => Q e σ
section
variable {P : Program} {Q : Exit → St → Prop} {σ : St}
theorem Wk.refl (σ : St) : Wk σ σ := fun _ _ _ _ h => h
theorem Wk.trans {σ σ' σ'' : St} (h : Wk σ σ') (k : Wk σ' σ'') : Wk σ σ'' := fun _ _ _ _ r => k _ _ _ _ (h _ _ _ _ r)
theorem Hr {c : Code} {Q' : Exit → St → Prop} (h : ∀ e σ, Q e σ → Q' e σ) (k : AWP P c Q σ) : AWP P c Q' σ :=
 fun T0 B a w r => wp_mono (k T0 B a w r) fun e _ _ ⟨σ', hq, hr⟩ => ⟨σ', h e σ' hq, hr⟩
theorem DA (h : Q .normal σ) : AWP P .skip Q σ := fun _ B _ w r => wp_skip ⟨σ, h, r, Yo.refl B w⟩
theorem Ej {id : Nat} (h : Q (.exit id) σ) : AWP P (.exit id) Q σ := fun _ B _ w r => wp_exit ⟨σ, h, r, Yo.refl B w⟩
theorem Dz (h : Q .ret σ) : AWP P .ret Q σ := fun _ B _ w r => wp_ret ⟨σ, h, r, Yo.refl B w⟩
theorem Gz {id : Nat} {l : List Oper} {bar : Oper → Bool} (h : IS P l.toArray bar l σ (Q .normal)) : AWP P (.region id l.toArray false) Q σ :=
 fun _ _ _ _ r => wp_region_lit (P4 h r fun σ' _ _ hq hr hb => ⟨σ', hq, hr, hb⟩)
theorem Dl {x y : Code} (h : AWP P x (R7 (AWP P y Q) Q) σ) : AWP P (.seq x y) Q σ := by
 intro T0 B a w r
 refine wp_seq (wp_mono (h T0 B a w r) ?_)
 rintro e a' w' ⟨σ', hq, hr, hb⟩
 cases e with
 | normal => exact wp_mono (hq T0 B a' w' hr) fun e _ _ ⟨σ2, h1, h2, h3⟩ => ⟨σ2, h1, h2, hb.trans h3⟩
 | exit id => exact ⟨σ', hq, hr, hb⟩
 | goto l => exact ⟨σ', hq, hr, hb⟩
 | ret => exact ⟨σ', hq, hr, hb⟩
 | panic ch => exact ⟨σ', hq, hr, hb⟩
 | outgrown => exact ⟨σ', hq, hr, hb⟩
theorem Er {c : Operand} {x y : Code} {b : Bool} (hc : look P σ 0 c = .one (.d (.bool b))) (ht : b = true → AWP P x Q σ) (hf : b = false → AWP P y Q σ) : AWP P (.cond c x y) Q σ := by
 intro T0 B a w r
 obtain ⟨X, h, rr⟩ := r
 have hv := rr.look (P := P) 0 c
 rw [hc] at hv
 exact wp_cond_split (yS hv) (fun hb => ht hb T0 B a w ⟨X, h, rr⟩) (fun hb => hf hb T0 B a w ⟨X, h, rr⟩)
theorem F7 {id : Nat} {c : Code} (h : AWP P c (W5 id Q) σ) : AWP P (.block id c) Q σ := by
 intro T0 B a w r
 refine wp_block (wp_mono (h T0 B a w r) ?_)
 rintro e a' w' ⟨σ', hq, hr, hb⟩
 cases e with
 | exit id' =>
  simp only [W5] at hq
  simp only [Exit.inBlock]
  split at hq
  ·rename_i hh; rw [if_pos hh]; exact ⟨σ', hq, hr, hb⟩
  ·rename_i hh; rw [if_neg hh]; exact ⟨σ', hq, hr, hb⟩
 | normal => exact ⟨σ', hq, hr, hb⟩
 | goto l => exact ⟨σ', hq, hr, hb⟩
 | ret => exact ⟨σ', hq, hr, hb⟩
 | panic ch => exact ⟨σ', hq, hr, hb⟩
 | outgrown => exact ⟨σ', hq, hr, hb⟩
theorem Wu {c : Code} {ι : Type} (S : ι → St) (μ : ι → Nat) (i0 : ι) (h0 : Wk σ (S i0))
  (round : ∀ i, AWP P c (R7 (fun σ' => ∃ i', μ i' < μ i ∧ Wk σ' (S i')) Q) (S i)) : AWP P (.loop c) Q σ := by
 intro T0 B a w r b k cs
 have key : ∀ n i a w, μ i = n → Qo T0 B (S i) a w →
   ∃ e a' w', (∃ σ', Q e σ' ∧ Qo T0 B σ' a' w' ∧ Yo B w w') ∧ Arrives P (lone (b.at a (.code c :: .inLoop c :: k)) cs w) b k cs e a' w' := by
  intro n
  induction n using Nat.strongRecOn with
  | _ n ih =>
   intro i a w hn hr
   obtain ⟨e, a₁, w₁, ⟨σ₁, hq, hr₁, hb₁⟩, harr⟩ := round i T0 B a w hr b (.inLoop c :: k) cs
   cases e with
   | normal =>
    obtain ⟨i', hlt, hwk⟩ := hq
    obtain ⟨e₂, a₂, w₂, ⟨σ₂, hq₂, hr₂, hb₂⟩, harr₂⟩ := ih (μ i') (hn ▸ hlt) i' a₁ w₁ rfl (hwk T0 B a₁ w₁ hr₁)
    exact ⟨e₂, a₂, w₂, ⟨σ₂, hq₂, hr₂, hb₁.trans hb₂⟩, .of_steps (Steps.trans harr (.one step_inLoop)) harr₂⟩
   | exit id => exact ⟨_, a₁, w₁, ⟨σ₁, hq, hr₁, hb₁⟩, .pass (x := .inLoop c) rfl (fun _ _ => .inl (by simp)) harr⟩
   | goto l => exact ⟨_, a₁, w₁, ⟨σ₁, hq, hr₁, hb₁⟩, .pass (x := .inLoop c) rfl (fun _ _ => .inl (by simp)) harr⟩
   | ret => exact ⟨_, a₁, w₁, ⟨σ₁, hq, hr₁, hb₁⟩, .pass (x := .inLoop c) rfl (fun _ _ => .inl (by simp)) harr⟩
   | panic ch => exact ⟨_, a₁, w₁, ⟨σ₁, hq, hr₁, hb₁⟩, .pass (x := .inLoop c) rfl (fun _ _ => .inl (by simp)) harr⟩
   | outgrown => exact ⟨_, a₁, w₁, ⟨σ₁, hq, hr₁, hb₁⟩, .pass (x := .inLoop c) rfl (fun _ _ => .inl (by simp)) harr⟩
 obtain ⟨e, a', w', hq, harr⟩ := key _ i0 a w rfl (h0 T0 B a w r)
 exact ⟨e, a', w', hq, .of_steps (.one step_loop) harr⟩
end
/-! ### entering a function, and leaving it -/
def Tp : List (List D) → St
 | [] => []
 | r :: rs => (vOf (r.map .d), []) :: Tp rs
def xa (n : Nat) (args : List (List D)) : St := Tp args ++ List.replicate (n - args.length) (V.any, [])
def O3 (P : Program) (σ : St) : ResultVar → List At → Prop
 | .tmp t, xs => (σ.get t = vOf xs) ∧ t < σ.length
 | .cell t T, xs => ∃ u c cells, σ.get t = .one (.bptr u c) ∧ σ.ob u 0 = .box cells ∧ Yd P T = true ∧ Yk P T = true ∧ P.cellsOf T ≠ 1 ∧ c + P.cellsOf T ≤ cells.length ∧ xs = cut cells c (P.cellsOf T)
def V6 (P : Program) (σ : St) : List ResultVar → List (List At) → Prop
 | [], xss => xss = []
 | r :: rs, xss => ∃ xs rest, O3 P σ r xs ∧ V6 P σ rs rest ∧ xss = xs :: rest
def kQ (σ : St) : List (List At) → Option (List (List D))
 | [] => some []
 | xs :: rest => (match rowOf σ xs, kQ σ rest with | some r, some rs => some (r :: rs) | _, _ => none)
def z7 (σ : St) : At → Option D
 | .d (.sl _ _) => none
 | .d x => some x
 | .nil s => some (.sl s [])
 | .sref t j lo len => (match σ.ob t j with | .arr false size rows => if lo = 0 ∧ len = rows.length then some (.sl size rows) else none | _ => none)
 | _ => none
def ownRow (σ : St) : List At → Option (List D)
 | [] => some []
 | x :: xs => (match z7 σ x, ownRow σ xs with | some d, some ds => some (d :: ds) | _, _ => none)
def jG (σ : St) : List (List At) → Option (List (List D))
 | [] => some []
 | xs :: rest => (match ownRow σ xs, jG σ rest with | some r, some rs => some (r :: rs) | _, _ => none)
def I7 (P : Program) (fn : Func) (own : Bool) (res : List (List D)) (e : Exit) (σ : St) : Prop :=
 (e = .ret ∨ e = .normal) ∧ ∃ xss, V6 P σ fn.results.toList xss ∧ (if own then jG σ xss = some res ∧ (YF xss.flatten).Nodup else kQ σ xss = some res)
def F0 (P : Program) (fn : Func) (res : List (List D)) (e : Exit) (σ : St) : Prop :=
 (e = .ret ∨ e = .normal) ∧ ∃ xss, V6 P σ fn.results.toList xss ∧ JV σ xss = some res ∧ Qf σ xss ∧ (YF xss.flatten).Nodup
end Go.Vm
namespace Go.Vm
open Go.RowKit
section
variable {P : Program} {T0 : CS} {B : Nat → Prop} {σ : St} {a : Act} {w w' : World} {X X' : Nat → Prop} {h : Nat → Nat → Hd}
theorem Ws : ∀ (args : List (List D)) (t : Nat), (Tp args)[t]? = (args[t]?).map fun r => (vOf (r.map .d), [])
 | [], t => by simp [Tp]
 | r :: rs, 0 => by simp [Tp]
 | r :: rs, t + 1 => by simpa [Tp] using Ws rs t
theorem Qb (args : List (List D)) : (Tp args).length = args.length := by
 induction args with
 | nil => rfl
 | cons r rs ih => simp [Tp, ih]
theorem H7 {T : CS} {n : Nat} {args : List (List D)} {vals : List Value} (hT : ∀ b k, T b k → b < w.heap.size) (ha : Zp (fun v row => ∃ cs, Qk v cs ∧ Zp (Rd T w) cs row) vals args) :
  Qo T (fun b => b < w.heap.size) (xa n args) { tmps := vals.toArray ++ Array.replicate (n - vals.toArray.size) undef, defers := [] } w := by
 have hl := ha.length
 refine ⟨fun _ => False, fun _ _ => Hd.of undef, ?_⟩
 have hob : ∀ t j, (xa n args).ob t j = .none := by
  intro t j
  unfold St.ob xa
  rcases Nat.lt_or_ge t args.length with h | h
  ·rw [List.getElem?_append_left (by rw [Qb]; exact h), Ws, List.getElem?_eq_getElem h]
   simp [YD]
  ·rw [List.getElem?_append_right (by rw [Qb]; exact h), List.getElem?_replicate]
   split
   ·rename_i e he
    split at he
    ·cases he; simp [YD]
    ·cases he
   ·rfl
 have hTT : ∀ b k v, T b k → w.cell? ⟨b, k, none⟩ = some v → w.cell? ⟨b, k, none⟩ = some v ∧ Tof T (fun _ => False) b k := fun b k v hb hc => ⟨hc, .inl hb⟩
 refine ⟨by simp [xa, Qb, hl], rfl, (fun b hb => hb), (fun b hb => hb.elim), hT, fun t ht => ?_, fun t j => by rw [hob]; trivial, fun t j b hne => absurd (hob t j) hne, fun t j b hne => absurd (hob t j) hne, fun t j t' j' b hne => absurd (hob t j) hne⟩
 unfold St.get xa
 rcases Nat.lt_or_ge t args.length with hlt | hge
 ·rw [List.getElem?_append_left (by rw [Qb]; exact hlt), Ws, List.getElem?_eq_getElem hlt]
  obtain ⟨v, hv, cs, hf, hal⟩ := ha.get' t args[t] (List.getElem?_eq_getElem hlt)
  have hval : (vals.toArray ++ Array.replicate (n - vals.toArray.size) undef).getD t undef = v := by
   rw [Array.getD_eq_getD_getElem?, Array.getElem?_append_left (by simp; omega)]
   simp [hv]
  simp only [hval]
  exact (TN hf (T9 (hal.imp fun _ _ => Rd.mono hTT))).up
 ·rw [List.getElem?_append_right (by rw [Qb]; exact hge), List.getElem?_replicate]
  split
  ·rename_i e he
   split at he
   ·cases he; trivial
   ·cases he
  ·trivial
theorem L0 {T : CS} {ob : Nat → Nat → Ob} {xs : List At} {v : Value} (hv : XZ T h ob w (vOf xs) v) : ∃ cs, Qk v cs ∧ Zp (Z2 T h ob w) xs cs := by
 match xs, hv with
 | [], hv =>
  obtain ⟨cs, rfl, hal⟩ := hv
  exact ⟨cs.toList, .inr ⟨by rw [← hal.length]; simp, by simp⟩, hal⟩
 | [x], hv => exact ⟨[v], .inl ⟨v, rfl, rfl, Z2.Yv hv⟩, .cons hv .nil⟩
 | x :: y :: xs, hv =>
  obtain ⟨cs, rfl, hal⟩ := hv
  exact ⟨cs.toList, .inr ⟨by rw [← hal.length]; simp, by simp⟩, hal⟩
theorem FO (r : Rel T0 B σ a w X h) : ∀ {rs : List ResultVar} {xss : List (List At)}, V6 P σ rs xss →
  ∃ vs css, (rs.mapM (m := Sem) fun | .tmp t => pure (a.tmps.getD t undef) | .cell u t => do loadVar t (← asAddr (a.tmps.getD u undef))).run P w = .ok vs w ∧ Zp Qk vs css ∧ Zp (fun xs cs => Zp (Z2 (Tof T0 X) h σ.ob w) xs cs) xss css
 | [], xss, hr => by cases hr; exact ⟨[], [], by simp, .nil, .nil⟩
 | rv :: rs, xss, hr => by
  obtain ⟨xs, rest, h1, h2, rfl⟩ := hr
  obtain ⟨vs, css, hrun, hf, hal⟩ := FO r h2
  have one : ∃ v cs, (match rv with | .tmp t => (pure (a.tmps.getD t undef) : Sem Value) | .cell u t => do loadVar t (← asAddr (a.tmps.getD u undef))).run P w = .ok v w ∧ Qk v cs ∧ Zp (Z2 (Tof T0 X) h σ.ob w) xs cs := by
   cases rv with
   | tmp t =>
    obtain ⟨hg, hlt⟩ := h1
    have hv := r.slot t hlt
    rw [hg] at hv
    obtain ⟨cs, hf, hal⟩ := L0 hv
    exact ⟨_, cs, by simp, hf, hal⟩
   | cell t T =>
    obtain ⟨u, c, cells, hg, ho, hty, hag, hne, hle, rfl⟩ := h1
    have hv := r.get t
    rw [hg] at hv
    obtain ⟨b, cs, e, hb, he, hh, hal⟩ := r.box ho hv
    have hlen := hal.length
    obtain ⟨val, hld, hagg, _⟩ := EZ (P := P) (w := w) hty (b := b) (off := c) (cs := cut cs.toList c (P.cellsOf T)) (YT _ _ _ (by omega)) (fun j u hu => Jh hh _ _ (J2 _ _ _ _ _ hu))
    refine ⟨val, cut cs.toList c (P.cellsOf T), ?_, .inr ⟨by rw [YT _ _ _ (by omega)]; exact hne, hagg hag⟩, hal.cut _ _⟩
    simp only [Instr.loadAt, Instr.sureAddr, Sem.run_bind, Sem.run_pure, Result.andThen_ok] at hld
    simp only [he, asAddr, Sem.run_bind, Sem.run_pure, Result.andThen_ok]
    exact hld
  obtain ⟨v, cs, hrun1, hf1, hal1⟩ := one
  refine ⟨v :: vs, cs :: css, ?_, .cons hf1 hf, .cons hal1 hal⟩
  simp only [List.mapM_cons, Sem.run_bind, hrun1, Result.andThen_ok, hrun, Sem.run_pure]
theorem Ww (r : Rel T0 B σ a w X h) {fn : Func} {xss : List (List At)} (hr : V6 P σ fn.results.toList xss) :
  ∃ vs css, (results fn a.tmps).run P w = .ok (SK vs) w ∧ Zp Qk vs css ∧ Zp (fun xs cs => Zp (Z2 (Tof T0 X) h σ.ob w) xs cs) xss css := by
 obtain ⟨vs, css, hrun, hf, hal⟩ := FO r hr
 refine ⟨vs, css, ?_, hf, hal⟩
 unfold results
 rw [Array.mapM_eq_mapM_toList]
 change ((((fn.results.toList.mapM (m := Sem) fun | .tmp t => pure (a.tmps.getD t undef) | .cell u t => do loadVar t (← asAddr (a.tmps.getD u undef))) >>= fun l => pure l.toArray) >>= fun (vs : Array Value) => pure (if h : vs.size = 1 then vs[0] else .tuple vs))).run P w = _
 simp only [Sem.run_bind, hrun, Result.andThen_ok, Sem.run_pure]
 congr 1
 match vs with
 | [] => rfl
 | [v] => rfl
 | v :: v' :: vs => simp [SK]
theorem TJ (r : Rel T0 B σ a w X h) {T : CS} (hT : ∀ b k, UN T0 X h σ b k → T b k) : ∀ {xss : List (List At)} {css : List (List Value)} {res : List (List D)}, kQ σ xss = some res → Zp (fun xs cs => Zp (Z2 (Tof T0 X) h σ.ob w) xs cs) xss css →
  Zp (fun cs row => Zp (Ky false T w) cs row) css res
 | [], css, res, hr, hal => by cases hal; simp [kQ] at hr; subst hr; exact .nil
 | xs :: xss, css, res, hr, hal => by
  cases hal with
  | cons h1 hal =>
   simp only [kQ] at hr
   split at hr
   ·rename_i row rs hrow hrs
    cases hr
    refine .cons ?_ (TJ r hT hrs hal)
    have := r.rowOf false hrow h1 (fun hh => by cases hh)
    refine this.imp fun v d hd => ?_
    simp only [Ky, Bool.false_eq_true, if_false] at hd ⊢
    exact Rd.mono (fun b k v hb hc => ⟨hc, hT b k hb⟩) hd
   ·cases hr
theorem Pa : ∀ {xs : List At} {ds : List D}, ownRow σ xs = some ds → Zp (fun x d => z7 σ x = some d) xs ds
 | [], ds, hr => by simp [ownRow] at hr; subst hr; exact .nil
 | x :: xs, ds, hr => by
  simp only [ownRow] at hr
  split at hr
  ·rename_i d ds' h1 h2; cases hr; exact .cons h1 (Pa h2)
  ·cases hr
theorem Sp : ∀ {xss : List (List At)} {res : List (List D)}, jG σ xss = some res → Zp (fun xs row => Zp (fun x d => z7 σ x = some d) xs row) xss res
 | [], res, hr => by simp [jG] at hr; subst hr; exact .nil
 | xs :: xss, res, hr => by
  simp only [jG] at hr
  split at hr
  ·rename_i d ds' h1 h2; cases hr; exact .cons (Pa h1) (Sp h2)
  ·cases hr
theorem kp (r : Rel T0 B σ a w X h) {x : At} {d : D} {v : Value} (hx : z7 σ x = some d) (hv : Z2 (Tof T0 X) h σ.ob w x v) : X5 (Tof T0 X) w v d ∧ (∀ b, d.scalar = false → blk v = some b → ∃ t j lo len, x = .sref t j lo len ∧ σ.ob t j ≠ .none ∧ (h t j).u b) := by
 cases x with
 | d x =>
  cases x with
  | sl s rows => simp [z7] at hx
  | int k n => simp [z7] at hx; subst hx; exact ⟨hv, fun b hb => by cases hb⟩
  | bool b => simp [z7] at hx; subst hx; exact ⟨hv, fun b hb => by cases hb⟩
  | str s => simp [z7] at hx; subst hx; exact ⟨hv, fun b hb => by cases hb⟩
  | unk => simp [z7] at hx; subst hx; exact ⟨hv, fun b hb => by cases hb⟩
 | nil s =>
  simp [z7] at hx; subst hx
  cases hv
  exact ⟨⟨0, [], World.ownsRow_nil w 0 0 s, (by intro q hq; cases hq), .nil⟩, fun b _ hb => by cases hb⟩
 | sref t j lo len =>
  simp only [z7] at hx
  split at hx
  ·rename_i size rows ho
   split at hx
   ·rename_i hc
    obtain ⟨rfl, rfl⟩ := hc
    cases hx
    obtain ⟨_, hfull, _⟩ := hv.2.1 _ size rows ho
    have he := hfull rfl rfl
    have h0 := r.obj t j
    have hub := r.ub t j
    rw [ho] at h0 hub
    refine ⟨by rw [he]; exact h0, fun b _ hb => ⟨t, j, 0, rows.length, rfl, by rw [ho]; simp, hub b (by simp) (by rw [← he]; exact hb)⟩⟩
   ·cases hx
  ·cases hx
 | any => simp [z7] at hx
 | ptr => simp [z7] at hx
 | bptr => simp [z7] at hx
 | fn => simp [z7] at hx
 | rptr => simp [z7] at hx
 | tref => simp [z7] at hx
theorem Lm {f : FuncId} {fn : Func} {c : Code} (hf : P.funcs[f]? = some fn) (hb : fn.body = some c) (hok : Ts P f = true) {own : Bool} {args res : List (List D)}
  (hw : AWP P c (I7 P fn own res) (xa fn.ntmps args)) : X6 P f own args res := by
 refine ⟨hok, fun T w vals hT hargs => calls_of_wp hf hb ?_⟩
 refine wp_mono (hw T (fun b => b < w.heap.size) _ w (H7 hT hargs)) ?_
 rintro e a' w' ⟨σ', ⟨he, xss, hres, hcell⟩, ⟨X, h, r⟩, hkeep⟩
 have hbel : Below w.heap.size w w' := ⟨hkeep.os, hkeep.tape, hkeep.output, hkeep.size, hkeep.block⟩
 obtain ⟨vs, css, hrun, hform, hal⟩ := Ww r hres
 have goal : a'.defers = [] ∧ ∃ v, (results fn a'.tmps).run P w' = .ok v w' ∧ Bd own T w res (.returned v) w' := by
  refine ⟨r.defers, _, hrun, ?_⟩
  cases own with
  | false =>
   refine ⟨vs, css, fun b => w.heap.size ≤ b ∧ b < w'.heap.size, rfl, hbel, fun b hb => hb, hform, ?_, fun hh => by cases hh⟩
   refine TJ r (fun b k hb => ?_) (by simpa using hcell) hal
   rcases hb with hb | ⟨t, j, q, size, rows, ho, hb⟩
   ·rcases hb with hb | hb
    ·exact .inl hb
    ·have := r.hX b hb; exact .inr ⟨by omega, this.2⟩
   ·have := r.own t j b (by rw [ho]; simp) hb
    exact .inr ⟨by omega, this.2.2⟩
  | true =>
   simp only [if_true] at hcell
   obtain ⟨hown, hnd⟩ := hcell
   have hall := Sp hown
   have hflat1 : Zp (fun x d => z7 σ' x = some d) xss.flatten res.flatten := z4 hall
   have hflat2 : Zp (Z2 (Tof T X) h σ'.ob w') xss.flatten css.flatten := z4 hal
   refine ⟨vs, css, X, rfl, hbel, (fun b hb => by have := r.hX b hb; exact ⟨by omega, this.2⟩), hform, ?_, fun _ => ⟨fun i cc d b hc hd hsc hb => ?_, fun i j cc cc' d d' b hc hd hc' hd' hsc hsc' hb hb' => ?_⟩⟩
   ·clear hflat1 hflat2 hform hrun hres hown hnd he hw
    induction hall generalizing css with
    | nil => cases hal; exact .nil
    | cons hr _ ih =>
     cases hal with
     | cons hr2 hal =>
      refine .cons ?_ (ih _ hal)
      clear ih hal
      refine Zp.yG (by rw [← hr2.length, hr.length]) (fun i v d hv hd => ?_)
      obtain ⟨x, hx, hxd⟩ := hr.get' i d hd
      obtain ⟨v', hv', hxv⟩ := hr2.get i x hx
      rw [hv] at hv'; cases hv'
      simp only [Ky, if_true]
      exact (kp r hxd hxv).1
   ·obtain ⟨x, hx, hxd⟩ := hflat1.get' i d hd
    obtain ⟨v', hv', hxv⟩ := hflat2.get i x hx
    rw [hc] at hv'; cases hv'
    obtain ⟨t, j, lo, len, _, hne, hbb⟩ := (kp r hxd hxv).2 b hsc hb
    have := r.own t j b hne hbb
    exact ⟨by omega, this.2.2, this.2.1⟩
   ·obtain ⟨x, hx, hxd⟩ := hflat1.get' i d hd
    obtain ⟨v', hv', hxv⟩ := hflat2.get i x hx
    rw [hc] at hv'; cases hv'
    obtain ⟨x2, hx2, hxd2⟩ := hflat1.get' j d' hd'
    obtain ⟨v2, hv2, hxv2⟩ := hflat2.get j x2 hx2
    rw [hc'] at hv2; cases hv2
    obtain ⟨t, u, lo, len, rfl, hne, hbb⟩ := (kp r hxd hxv).2 b hsc hb
    obtain ⟨t2, u2, lo2, len2, rfl, hne2, hbb2⟩ := (kp r hxd2 hxv2).2 b hsc' hb'
    obtain ⟨rfl, rfl⟩ := r.inj t u t2 u2 b hne hne2 hbb hbb2
    exact Wp _ i j t u lo len lo2 len2 hnd hx hx2
 rcases he with rfl | rfl
 ·exact goal
 ·exact goal
theorem NY {f : FuncId} {fn : Func} {c : Code} (hf : P.funcs[f]? = some fn) (hb : fn.body = some c) (hok : Ts P f = true) {args res : List (List D)}
  (hw : AWP P c (F0 P fn res) (xa fn.ntmps args)) : Xz P f args res := by
 refine ⟨hok, fun T w vals hT hargs => calls_of_wp hf hb ?_⟩
 refine wp_mono (hw T (fun b => b < w.heap.size) _ w (H7 hT hargs)) ?_
 rintro e a' w' ⟨σ', ⟨he, xss, hres, hmv, hmok, hnd⟩, ⟨X, h, r⟩, hkeep⟩
 have hbel : Below w.heap.size w w' := ⟨hkeep.os, hkeep.tape, hkeep.output, hkeep.size, hkeep.block⟩
 obtain ⟨vs, css, hrun, hform, hal⟩ := Ww r hres
 have goal : a'.defers = [] ∧ ∃ v, (results fn a'.tmps).run P w' = .ok v w' ∧ Ca w res (.returned v) w' := by
  refine ⟨r.defers, _, hrun, vs, css, rfl, hbel, hform, ?_, ?_⟩
  ·clear hnd hmok hres hrun hform hw
   induction hal generalizing res with
   | nil => simp [JV] at hmv; subst hmv; exact .nil
   | cons h1 _ ih =>
    simp only [JV] at hmv
    split at hmv
    ·rename_i row rs hrow hrs
     cases hmv
     exact .cons (by rw [← h1.length]; exact (j4 hrow).1) (ih hrs)
    ·cases hmv
  ·refine (SC r (z4 hal) (qv hmv).1 (y7 hmok) hnd).mono (fun b hb => ?_)
   have := r.KP _ b hb
   exact ⟨by omega, this.2.2.1⟩
 rcases he with rfl | rfl
 ·exact goal
 ·exact goal
end
end Go.Vm
namespace Go.Vm
open Go.RowKit
theorem St.DK (e : Ent) (σ : St) : St.get (e :: σ) 0 = e.1 := rfl
theorem St.DP (e : Ent) (σ : St) (n : Nat) : St.get (e :: σ) (n + 1) = St.get σ n := by simp [St.get]
theorem St.D8 (e : Ent) (σ : St) (j : Nat) : St.ob (e :: σ) 0 j = YD e.2 j := rfl
theorem St.CE (e : Ent) (σ : St) (n j : Nat) : St.ob (e :: σ) (n + 1) j = St.ob σ n j := by simp [St.ob]
theorem Fi (o : Ob) (os : List Ob) : YD (o :: os) 0 = o := rfl
theorem Fm (o : Ob) (os : List Ob) (n : Nat) : YD (o :: os) (n + 1) = YD os n := by simp [YD]
theorem En (n : Nat) : YD [] n = .none := by simp [YD]
def lkI (P : Program) (σ : St) (x : Operand) : Prop × Int :=
 match unc (look P σ 0 x) with
 | .one (.d (.int _ n)) => (gOf (look P σ 0 x) = true, n)
 | _ => (False, 0)
def lkK (P : Program) (σ : St) (x : Operand) : IntKind :=
 match unc (look P σ 0 x) with
 | .one (.d (.int k _)) => k
 | _ => .i64
theorem yh {P : Program} {σ : St} {x : Operand} (h : (lkI P σ x).1) : qe P σ x (lkK P σ x) (lkI P σ x).2 := by
 unfold lkI at h ⊢
 unfold lkK
 unfold qe
 split at h
 ·rename_i k n heq
  rw [heq]; exact ⟨h, rfl⟩
 ·exact h.elim
def Jl (P : Program) (σ : St) (dflt : Nat) : Option Operand → Prop × Nat
 | none => (True, dflt)
 | some x => ((lkI P σ x).1 ∧ 0 ≤ (lkI P σ x).2, (lkI P σ x).2.toNat)
theorem j6 {P : Program} {σ : St} {dflt : Nat} {x : Option Operand} (h : (Jl P σ dflt x).1) : bnd P σ dflt x (Jl P σ dflt x).2 := by
 cases x with
 | none => rfl
 | some x =>
  have h1 := yh h.1
  exact ⟨_, _, h1.1, h1.2, h.2, rfl⟩
def rowAt (rows : List (List D)) (i : Nat) : List D := rows.getD i []
def bAt (s : ByteArray) (i : Nat) : Nat := (s.data.toList.getD i 0).toNat
def Wo (P : Program) (σ : St) (T : TypeId) (x ix : Operand) : Prop × V :=
 match unc (look P σ 0 x) with
 | .one (.d (.sl size rows)) => ((gOf (look P σ 0 x) = true ∧ (lkI P σ ix).1) ∧ 0 ≤ (lkI P σ ix).2 ∧ (Z9 P T = true ∧ size = P.cellsOf (ZK P T) ∧ 0 < size) ∧ (lkI P σ ix).2 < (rows.length : Int), .one (.rptr (rowAt rows (lkI P σ ix).2.toNat) 0))
 | .one (.sref t j lo len) => ((gOf (look P σ 0 x) = true ∧ (lkI P σ ix).1) ∧ 0 ≤ (lkI P σ ix).2 ∧ (Z9 P T = true ∧ 0 < P.cellsOf (ZK P T) ∧ (match σ.ob t j with | .arr _ size _ => size = P.cellsOf (ZK P T) | _ => False)) ∧ (lkI P σ ix).2 < (len : Int), .one (.ptr t j (lo + (lkI P σ ix).2.toNat) 0))
 | .one (.tref t j m c none) => ((gOf (look P σ 0 x) = true ∧ (lkI P σ ix).1) ∧ 0 ≤ (lkI P σ ix).2 ∧ (Z9 P T = true ∧ 0 < P.cellsOf (ZK P T)) ∧ (match σ.ob t j with | .arr true _ rows => m < rows.length ∧ (match (rowAt rows m)[c]? with | some (.sl n s) => n = P.cellsOf (ZK P T) ∧ (lkI P σ ix).2 < (s.length : Int) | _ => False) | _ => False), .one (.tref t j m c (some ((lkI P σ ix).2.toNat * P.cellsOf (ZK P T)))))
 | .one (.bptr t c) => ((gOf (look P σ 0 x) = true ∧ (lkI P σ ix).1) ∧ 0 ≤ (lkI P σ ix).2 ∧ (match σ.ob t 0 with | .box _ => True | _ => False) ∧ (match Hq P T with | some n => 1 < n ∧ (lkI P σ ix).2 < (n : Int) | none => False), .one (.bptr t (c + (lkI P σ ix).2.toNat * P.cellsOf (ZK P T))))
 | _ => (False, .any)
def GJ (P : Program) (σ : St) (T : TypeId) (x : Operand) : Prop × V :=
 match unc (look P σ 0 x) with
 | .one (.bptr t c) => (match σ.ob t 0 with | .box cells => (gOf (look P σ 0 x) = true ∧ Yd P T = true ∧ c + P.cellsOf T ≤ cells.length, ldV P T (cut cells c (P.cellsOf T))) | _ => (False, .any))
 | .one (.ptr t j i c) => (match σ.ob t j with | .arr q size rows => ((gOf (look P σ 0 x) = true ∧ Yd P T = true ∧ c + P.cellsOf T ≤ size) ∧ i < rows.length, ldV P T (kg q t j i c (cut (rowAt rows i) c (P.cellsOf T)))) | _ => (False, .any))
 | .one (.rptr r c) => (gOf (look P σ 0 x) = true ∧ Yd P T = true ∧ c + P.cellsOf T ≤ r.length, ldV P T ((cut r c (P.cellsOf T)).map .d))
 | _ => (False, .any)
def W7 (P : Program) (σ : St) (T : TypeId) (x : Operand) (f : Nat) : Prop × V :=
 match unc (look P σ 0 x) with
 | .one (.bptr t c) => (gOf (look P σ 0 x) = true ∧ ZP P T f = true ∧ (match σ.ob t 0 with | .box _ => True | _ => False), .one (.bptr t (c + ZJ P T f)))
 | .one (.ptr t j i c) => (gOf (look P σ 0 x) = true ∧ ZP P T f = true ∧ (match σ.ob t j with | .arr _ _ _ => True | _ => False), .one (.ptr t j i (c + ZJ P T f)))
 | .one (.rptr r c) => (gOf (look P σ 0 x) = true ∧ ZP P T f = true, .one (.rptr r (c + ZJ P T f)))
 | .one (.tref t j i c (some k)) => (gOf (look P σ 0 x) = true ∧ ZP P T f = true ∧ (match σ.ob t j with | .arr true _ _ => True | _ => False), .one (.tref t j i c (some (k + ZJ P T f))))
 | _ => (False, .any)
def MS (P : Program) (op : BinOp) (T : TypeId) (x y : V) : Prop × V :=
 match op, x, y with
 | .eql, .one (.d (.int k m)), .one (.d (.int k' n)) => (k' = k, .one (.d (.bool (m == n))))
 | .neq, .one (.d (.int k m)), .one (.d (.int k' n)) => (k' = k, .one (.d (.bool (m != n))))
 | .lss, .one (.d (.int k m)), .one (.d (.int k' n)) => (k' = k, .one (.d (.bool (decide (m < n)))))
 | .leq, .one (.d (.int k m)), .one (.d (.int k' n)) => (k' = k, .one (.d (.bool (decide (m ≤ n)))))
 | .gtr, .one (.d (.int k m)), .one (.d (.int k' n)) => (k' = k, .one (.d (.bool (decide (m > n)))))
 | .geq, .one (.d (.int k m)), .one (.d (.int k' n)) => (k' = k, .one (.d (.bool (decide (m ≥ n)))))
 | .add, .one (.d (.int k m)), .one (.d (.int k' n)) => (k' = k, .one (.d (.int k (k.wrap (m + n)))))
 | .sub, .one (.d (.int k m)), .one (.d (.int k' n)) => (k' = k, .one (.d (.int k (k.wrap (m - n)))))
 | .mul, .one (.d (.int k m)), .one (.d (.int k' n)) => (k' = k, .one (.d (.int k (k.wrap (m * n)))))
 | .quo, .one (.d (.int k m)), .one (.d (.int k' n)) => (k' = k ∧ n ≠ 0, .one (.d (.int k (k.wrap (m.tdiv n)))))
 | .rem, .one (.d (.int k m)), .one (.d (.int k' n)) => (k' = k ∧ n ≠ 0, .one (.d (.int k (m.tmod n))))
 | .and, .one (.d (.int k m)), .one (.d (.int k' n)) => (k' = k, .one (.d (.int k (Cz k m n))))
 | .or, .one (.d (.int k m)), .one (.d (.int k' n)) => (k' = k, .one (.d (.int k (iOr k m n))))
 | .xor, .one (.d (.int k m)), .one (.d (.int k' n)) => (k' = k, .one (.d (.int k (BS k m n))))
 | .shl, .one (.d (.int k m)), .one (.d (.int _ n)) => (0 ≤ n, .one (.d (.int k (k.wrap (m * 2 ^ (min n.toNat k.bits))))))
 | .shr, .one (.d (.int k m)), .one (.d (.int _ n)) => (0 ≤ n, .one (.d (.int k (m.fdiv (2 ^ (min n.toNat k.bits))))))
 | .add, .one (.d (.str m)), .one (.d (.str n)) => (((m.size + n.size : Nat) : Int) ≤ 9223372036854775807, .one (.d (.str (m ++ n))))
 | .eql, .one (.d (.str m)), .one (.d (.str n)) => (True, .one (.d (.bool (decide (m = n)))))
 | .neq, .one (.d (.str m)), .one (.d (.str n)) => (True, .one (.d (.bool (!decide (m = n)))))
 | .eql, .one (.d (.bool m)), .one (.d (.bool n)) => (Sc P T = true, .one (.d (.bool (m == n))))
 | .neq, .one (.d (.bool m)), .one (.d (.bool n)) => (Sc P T = true, .one (.d (.bool (!(m == n)))))
 | .eql, .agg xs, .agg ys => (j8 P T = true ∧ (yA P (P.fieldsOf T).toList xs ys).isSome = true, .one (.d (.bool ((yA P (P.fieldsOf T).toList xs ys).getD false))))
 | .neq, .agg xs, .agg ys => (j8 P T = true ∧ (yA P (P.fieldsOf T).toList xs ys).isSome = true, .one (.d (.bool (!(yA P (P.fieldsOf T).toList xs ys).getD false))))
 | _, _, _ => (False, .any)
def kb (P : Program) (σ : St) (T : TypeId) : List (Nat × Operand) → List At → Prop × List At
 | [], r => (True, r)
 | (i, x) :: ps, r => ((bOk P T i = true ∧ gOf (look P σ (bTy P T i) x) = true ∧ (unc (look P σ (bTy P T i) x)).flat = true ∧
   (unc (look P σ (bTy P T i) x)).cells.length = P.cellsOf (bTy P T i) ∧ Z0 P T i + P.cellsOf (bTy P T i) ≤ r.length) ∧ (kb P σ T ps (place r (Z0 P T i) (unc (look P σ (bTy P T i) x)).cells)).1,
   (kb P σ T ps (place r (Z0 P T i) (unc (look P σ (bTy P T i) x)).cells)).2)
theorem Ps {P : Program} {σ : St} {T : TypeId} : ∀ {ps : List (Nat × Operand)} {r : List At}, (kb P σ T ps r).1 → jP P σ T ps r (kb P σ T ps r).2
 | [], _, _ => rfl
 | (_, _) :: _, _, h => ⟨h.1.1, h.1.2.1, h.1.2.2.1, h.1.2.2.2.1, h.1.2.2.2.2, Ps h.2⟩
def isB : V → Bool
 | .one (.d (.bool _)) => true
 | _ => false
def bOf : V → Bool
 | .one (.d (.bool b)) => b
 | _ => false
theorem Ew : ∀ {v : V}, isB v = true → v = .one (.d (.bool (bOf v)))
 | .one (.d (.bool _)), _ => rfl
def evV (P : Program) (σ : St) (op : Op) (ty : TypeId) : Prop × V :=
 match op with
 | .move x => (True, look P σ ty x)
 | .assign x => (True, look P σ ty x)
 | .pick c a b =>
  (match unc (look P σ ty c) with
  | .one (.d (.bool bc)) => ((gOf (look P σ ty c) = true ∧ (bc = true → isB (unc (look P σ ty a)) = true) ∧ (bc = false → isB (unc (look P σ ty b)) = true)) ∧ (bc = true → gOf (look P σ ty a) = true) ∧ (bc = false → gOf (look P σ ty b) = true), .one (.d (.bool (cond bc (bOf (unc (look P σ ty a))) (bOf (unc (look P σ ty b)))))))
  | _ => (False, .any))
 | .load T x => GJ P σ T x
 | .fieldAddr T x f => W7 P σ T x f
 | .nilCheck x => (match unc (look P σ 0 x) with
  | .one (.bptr t c) => (gOf (look P σ 0 x) = true ∧ (match σ.ob t 0 with | .box _ => True | _ => False), .one (.bptr t c))
  | _ => (False, .any))
 | .indexAddr T x ix => Wo P σ T x ix
 | .index T x ix =>
  (match unc (look P σ 0 x) with
  | .one (.d (.str s)) => ((gOf (look P σ 0 x) = true ∧ (lkI P σ ix).1) ∧ 0 ≤ (lkI P σ ix).2 ∧ JO P T = true ∧ (lkI P σ ix).2 < (s.size : Int), .one (.d (.int .u8 (bAt s (lkI P σ ix).2.toNat))))
  | .agg xs => ((gOf (look P σ 0 x) = true ∧ (lkI P σ ix).1) ∧ 0 ≤ (lkI P σ ix).2 ∧ (match Hq P T with | some n => (lkI P σ ix).2 < (n : Int) | none => False) ∧ Yd P (ZK P T) = true ∧ (lkI P σ ix).2.toNat * P.cellsOf (ZK P T) + P.cellsOf (ZK P T) ≤ xs.length,
    ldV P (ZK P T) (cut xs ((lkI P σ ix).2.toNat * P.cellsOf (ZK P T)) (P.cellsOf (ZK P T))))
  | _ => (False, .any))
 | .slice T x lo hi none =>
  (match unc (look P σ 0 x) with
  | .one (.d (.str s)) => ((gOf (look P σ 0 x) = true ∧ JO P T = true ∧ (Jl P σ 0 lo).1 ∧ (Jl P σ s.size hi).1) ∧ (Jl P σ 0 lo).2 ≤ (Jl P σ s.size hi).2 ∧ (Jl P σ s.size hi).2 ≤ s.size, .one (.d (.str (s.extract (Jl P σ 0 lo).2 (Jl P σ s.size hi).2))))
  | .one (.d (.sl size rows)) => ((gOf (look P σ 0 x) = true ∧ Z9 P T = true ∧ size = P.cellsOf (ZK P T) ∧ (Jl P σ 0 lo).1 ∧ (Jl P σ rows.length hi).1) ∧ (Jl P σ 0 lo).2 ≤ (Jl P σ rows.length hi).2 ∧ (Jl P σ rows.length hi).2 ≤ rows.length,
    .one (.d (.sl size (cut rows (Jl P σ 0 lo).2 ((Jl P σ rows.length hi).2 - (Jl P σ 0 lo).2)))))
  | .one (.sref t j o len) => ((gOf (look P σ 0 x) = true ∧ Z9 P T = true ∧ (match σ.ob t j with | .arr _ size _ => size = P.cellsOf (ZK P T) | _ => False) ∧ (Jl P σ 0 lo).1 ∧ (Jl P σ len hi).1) ∧ (Jl P σ 0 lo).2 ≤ (Jl P σ len hi).2 ∧ (Jl P σ len hi).2 ≤ len,
    .one (.sref t j (o + (Jl P σ 0 lo).2) ((Jl P σ len hi).2 - (Jl P σ 0 lo).2)))
  | _ => (False, .any))
 | .binOp op T x y _ => ((gOf (look P σ T x) = true ∧ gOf (look P σ T y) = true) ∧ (MS P op T (unc (look P σ T x)) (unc (look P σ T y))).1, (MS P op T (unc (look P σ T x)) (unc (look P σ T y))).2)
 | .unOp .not _ x => (match unc (look P σ 0 x) with | .one (.d (.bool b)) => (gOf (look P σ 0 x) = true, .one (.d (.bool (!b)))) | _ => (False, .any))
 | .unOp .neg _ x => (match unc (look P σ 0 x) with | .one (.d (.int k n)) => (gOf (look P σ 0 x) = true, .one (.d (.int k (k.wrap (-n))))) | _ => (False, .any))
 | .convert S T x => (match unc (look P σ 0 x), Y2 P T with | .one (.d (.int _ n)), some k => (gOf (look P σ 0 x) = true ∧ (P.underlying S).isSome = true, .one (.d (.int k (k.wrap n)))) | _, _ => (False, .any))
 | .extract x i => (match unc (look P σ 0 x) with | .tup xs => (gOf (look P σ 0 x) = true ∧ i < xs.length ∧ (xs.getD i .any).flat = true, xs.getD i .any) | _ => (False, .any))
 | .field T x f =>
  (match unc (look P σ 0 x) with
  | .agg xs => (gOf (look P σ 0 x) = true ∧ ZP P T f = true ∧ Yd P (ZO P T f) = true ∧ ZJ P T f + P.cellsOf (ZO P T f) ≤ xs.length, ldV P (ZO P T f) (cut xs (ZJ P T f) (P.cellsOf (ZO P T f))))
  | _ => (False, .any))
 | .build T parts => (match Yb P 12 T with | some z => ((Zl P T = true ∧ Yk P T = true) ∧ (kb P σ T parts.toList z).1, .agg (kb P σ T parts.toList z).2) | none => (False, .any))
 | .call ⟨.builtin .len, ⟨[x]⟩, ⟨[t]⟩⟩ =>
  (match unc (look P σ t x) with
  | .one (.d (.str s)) => (gOf (look P σ t x) = true ∧ JO P t = true, .one (.d (.int .i64 s.size)))
  | .one (.d (.sl _ rows)) => (gOf (look P σ t x) = true ∧ Z9 P t = true, .one (.d (.int .i64 rows.length)))
  | .one (.nil _) => (gOf (look P σ t x) = true ∧ Z9 P t = true, .one (.d (.int .i64 0)))
  | .one (.sref u j _ len) => (gOf (look P σ t x) = true ∧ Z9 P t = true ∧ (match σ.ob u j with | .arr _ _ _ => True | .lit _ _ => True | _ => False), .one (.d (.int .i64 len)))
  | _ => (False, .any))
 | .call ⟨.builtin .max, ⟨[x, y]⟩, _⟩ => ((lkI P σ x).1 ∧ (lkI P σ y).1 ∧ lkK P σ y = lkK P σ x, .one (.d (.int (lkK P σ x) (if (lkI P σ y).2 > (lkI P σ x).2 then (lkI P σ y).2 else (lkI P σ x).2))))
 | .call ⟨.builtin .min, ⟨[x, y]⟩, _⟩ => ((lkI P σ x).1 ∧ (lkI P σ y).1 ∧ lkK P σ y = lkK P σ x, .one (.d (.int (lkK P σ x) (if (lkI P σ y).2 < (lkI P σ x).2 then (lkI P σ y).2 else (lkI P σ x).2))))
 | _ => (False, .any)
theorem GR {o : Ob} (h : (match o with | .box _ => True | _ => False)) : ∃ cells, o = .box cells := by
 cases o with
 | box c => exact ⟨c, rfl⟩
 | none => exact h.elim
 | arr q s r => exact h.elim
 | lit s r => exact h.elim
theorem Ci {o : Ob} (h : (match o with | .arr _ _ _ => True | _ => False)) : ∃ q size rows, o = .arr q size rows := by
 cases o with
 | arr q s r => exact ⟨q, s, r, rfl⟩
 | none => exact h.elim
 | box c => exact h.elim
 | lit s r => exact h.elim
theorem BP {o : Ob} (h : (match o with | .arr _ _ _ => True | .lit _ _ => True | _ => False)) : (∃ q size rows, o = .arr q size rows) ∨ ∃ size rows, o = .lit size rows := by
 cases o with
 | arr q s r => exact .inl ⟨q, s, r, rfl⟩
 | none => exact h.elim
 | box c => exact h.elim
 | lit s r => exact .inr ⟨s, r, rfl⟩
theorem FD {o : Ob} {n : Nat} (h : (match o with | .arr _ size _ => size = n | _ => False)) : ∃ q rows, o = .arr q n rows := by
 cases o with
 | arr q s r => simp at h; subst h; exact ⟨q, r, rfl⟩
 | none => exact h.elim
 | box c => exact h.elim
 | lit s r => exact h.elim
theorem Ep {P : Program} {op : BinOp} {T : TypeId} {x y : V} (hc : (MS P op T x y).1) : H0 P op T x y (MS P op T x y).2 := by
 unfold MS at hc ⊢
 split at hc
 all_goals first
  | exact hc.elim
  | exact ⟨.inr hc, rfl⟩
  | exact ⟨.inr hc.1, hc.2, rfl⟩
  | exact ⟨.inl (.inl rfl), hc, rfl⟩
  | exact ⟨.inl (.inr rfl), hc, rfl⟩
  | exact ⟨hc, rfl⟩
  | rfl
  | (obtain ⟨q, hq⟩ := Option.isSome_iff_exists.1 hc.2; exact ⟨hc.1, q, hq, .inl ⟨rfl, by rw [hq]; rfl⟩⟩)
  | (obtain ⟨q, hq⟩ := Option.isSome_iff_exists.1 hc.2; exact ⟨hc.1, q, hq, .inr ⟨rfl, by rw [hq]; rfl⟩⟩)
theorem GP {P : Program} {σ : St} {op : Op} {ty : TypeId} (hc : (evV P σ op ty).1) : Z8 P σ op ty (evV P σ op ty).2 := by
 unfold evV at hc ⊢
 split at hc
 ·rfl
 ·rfl
 ·rename_i c a b
  split at hc
  ·rename_i bc h1; exact ⟨bc, _, _, hc.1.1, h1, (fun hh => Ew (hc.1.2.1 hh)), (fun hh => Ew (hc.1.2.2 hh)), hc.2.1, hc.2.2, (by first | rfl | trivial)⟩
  ·exact hc.elim
 ·rename_i T x
  unfold GJ at hc ⊢
  simp only [Z8]
  split at hc
  ·rename_i t c hx
   split at hc
   ·rename_i cells ho; simp only [hx, ho]; exact ⟨hc.1, hc.2.1, cells, rfl, hc.2.2, (by first | rfl | trivial)⟩
   ·exact hc.elim
  ·rename_i t j i c hx
   split at hc
   ·rename_i size rows ho; simp only [hx, ho]; exact ⟨hc.1.1, hc.1.2.1, _, size, rows, rfl, hc.2, hc.1.2.2, (by first | rfl | trivial)⟩
   ·exact hc.elim
  ·rename_i r c hx; simp only [hx]; exact ⟨hc.1, hc.2.1, hc.2.2, (by first | rfl | trivial)⟩
  ·exact hc.elim
 ·rename_i T x f
  unfold W7 at hc ⊢
  simp only [Z8]
  split at hc
  ·rename_i t c hx; simp only [hx]; exact ⟨hc.1, hc.2.1, GR hc.2.2, (by first | rfl | trivial)⟩
  ·rename_i t j i c hx; simp only [hx]; exact ⟨hc.1, hc.2.1, Ci hc.2.2, (by first | rfl | trivial)⟩
  ·rename_i r c hx; simp only [hx]; exact ⟨hc.1, hc.2, (by first | rfl | trivial)⟩
  ·rename_i t j i c k hx
   have h3 := hc.2.2
   split at h3
   ·rename_i size rows ho; simp only [hx]; exact ⟨hc.1, hc.2.1, ⟨size, rows, ho⟩, (by first | rfl | trivial)⟩
   ·exact h3.elim
  ·exact hc.elim
 ·rename_i x
  simp only [Z8]
  split at hc
  ·rename_i t c hx; simp only [hx]; exact ⟨hc.1, GR hc.2, (by first | rfl | trivial)⟩
  ·exact hc.elim
 ·rename_i T x ix
  unfold Wo at hc ⊢
  simp only [Z8]
  split at hc
  ·rename_i size rows hx
   simp only [hx]
   exact ⟨_, _, yh hc.1.2, hc.2.1, hc.1.1, hc.2.2.1.1, hc.2.2.1.2.1, hc.2.2.1.2.2, hc.2.2.2, (by first | rfl | trivial)⟩
  ·rename_i t j lo len hx
   simp only [hx]
   exact ⟨_, _, yh hc.1.2, hc.2.1, hc.1.1, hc.2.2.1.1, hc.2.2.1.2.1, FD hc.2.2.1.2.2, hc.2.2.2, (by first | rfl | trivial)⟩
  ·rename_i t j m c hx
   have h3 := hc.2.2.2
   split at h3
   ·rename_i size rows ho
    obtain ⟨hm, h4⟩ := h3
    split at h4
    ·rename_i n s hr
     obtain ⟨rfl, hlt⟩ := h4
     simp only [hx]
     exact ⟨_, _, yh hc.1.2, hc.2.1, hc.1.1, hc.2.2.1.1, hc.2.2.1.2, ⟨size, rows, s, ho, hm, hr, hlt⟩, (by first | rfl | trivial)⟩
    ·exact h4.elim
   ·exact h3.elim
  ·rename_i t c hx
   simp only [hx]
   refine ⟨_, _, yh hc.1.2, hc.2.1, hc.1.1, GR hc.2.2.1, ?_, (by first | rfl | trivial)⟩
   have := hc.2.2.2
   split at this
   ·rename_i n hn; exact ⟨n, hn, this.1, this.2⟩
   ·exact this.elim
  ·exact hc.elim
 ·rename_i T x ix
  simp only [Z8]
  split at hc
  ·rename_i s hx; simp only [hx]; exact ⟨_, _, yh hc.1.2, hc.2.1, hc.1.1, hc.2.2.1, hc.2.2.2, (by first | rfl | trivial)⟩
  ·rename_i xs hx
   simp only [hx]
   refine ⟨_, _, yh hc.1.2, hc.2.1, hc.1.1, ?_, hc.2.2.2.1, hc.2.2.2.2, (by first | rfl | trivial)⟩
   have := hc.2.2.1
   split at this
   ·rename_i n hn; exact ⟨n, hn, this⟩
   ·exact this.elim
  ·exact hc.elim
 ·rename_i T x lo hi
  simp only [Z8]
  split at hc
  ·rename_i s hx; simp only [hx]; exact ⟨hc.1.1, hc.1.2.1, _, _, j6 hc.1.2.2.1, j6 hc.1.2.2.2, hc.2.1, hc.2.2, (by first | rfl | trivial)⟩
  ·rename_i size rows hx; simp only [hx]; exact ⟨hc.1.1, hc.1.2.1, hc.1.2.2.1, _, _, j6 hc.1.2.2.2.1, j6 hc.1.2.2.2.2, hc.2.1, hc.2.2, (by first | rfl | trivial)⟩
  ·rename_i t j o len hx; simp only [hx]; exact ⟨hc.1.1, hc.1.2.1, FD hc.1.2.2.1, _, _, j6 hc.1.2.2.2.1, j6 hc.1.2.2.2.2, hc.2.1, hc.2.2, (by first | rfl | trivial)⟩
  ·exact hc.elim
 ·exact ⟨hc.1.1, hc.1.2, Ep hc.2⟩
 ·simp only [Z8]
  split at hc
  ·rename_i b hx; simp only [hx]; exact ⟨hc, (by first | rfl | trivial)⟩
  ·exact hc.elim
 ·simp only [Z8]
  split at hc
  ·rename_i k n hx; simp only [hx]; exact ⟨hc, (by first | rfl | trivial)⟩
  ·exact hc.elim
 ·rename_i S T x
  simp only [Z8]
  split at hc
  ·rename_i k0 n k hx hk; simp only [hx, hk]; exact ⟨hc.1, hc.2, k, rfl, (by first | rfl | trivial)⟩
  ·exact hc.elim
 ·rename_i x i
  simp only [Z8]
  split at hc
  ·rename_i xs hx
   simp only [hx]
   exact ⟨hc.1, by simp [List.getD_eq_getElem?_getD, List.getElem?_eq_getElem hc.2.1], hc.2.2⟩
  ·exact hc.elim
 ·simp only [Z8]
  split at hc
  ·rename_i xs hx; simp only [hx]; exact ⟨hc.1, hc.2.1, hc.2.2.1, hc.2.2.2, (by first | rfl | trivial)⟩
  ·exact hc.elim
 ·simp only [Z8]
  split at hc
  ·rename_i z hz; exact ⟨hc.1.1, hc.1.2, z, _, hz, Ps hc.2, (by first | rfl | trivial)⟩
  ·exact hc.elim
 ·simp only [Z8]
  split at hc
  ·rename_i s hx; simp only [hx]; exact ⟨hc.1, hc.2, (by first | rfl | trivial)⟩
  ·rename_i s rows hx; simp only [hx]; exact ⟨hc.1, hc.2, (by first | rfl | trivial)⟩
  ·rename_i s hx; simp only [hx]; exact ⟨hc.1, hc.2, (by first | rfl | trivial)⟩
  ·rename_i u j lo len hx; simp only [hx]; exact ⟨hc.1, hc.2.1, BP hc.2.2, (by first | rfl | trivial)⟩
  ·exact hc.elim
 ·simp only [Z8]
  have hy := yh hc.2.1
  rw [hc.2.2] at hy
  exact ⟨_, _, _, yh hc.1, hy, (by first | rfl | trivial)⟩
 ·simp only [Z8]
  have hy := yh hc.2.1
  rw [hc.2.2] at hy
  exact ⟨_, _, _, yh hc.1, hy, (by first | rfl | trivial)⟩
 ·exact hc.elim
end Go.Vm
namespace Go.Vm
open Go.RowKit
def kK (P : Program) (σ : St) (T : TypeId) (size : Nat) : List (Nat × Operand) → Nat → Prop × List (List D)
 | [], _ => (True, [])
 | (i, x) :: ps, k => ((i = k ∧ gOf (look P σ T x) = true ∧ (unc (look P σ T x)).flat = true ∧ Qr (unc (look P σ T x)).cells = true ∧ (rowOf σ (unc (look P σ T x)).cells).isSome = true ∧ ((rowOf σ (unc (look P σ T x)).cells).getD []).length = size) ∧ (kK P σ T size ps (k + 1)).1,
   (rowOf σ (unc (look P σ T x)).cells).getD [] :: (kK P σ T size ps (k + 1)).2)
theorem Ma {P : Program} {σ : St} {T : TypeId} {size : Nat} : ∀ {ps : List (Nat × Operand)} {k : Nat}, (kK P σ T size ps k).1 → P5 P σ T size ps k (kK P σ T size ps k).2
 | [], _, _ => rfl
 | (_, x) :: _, _, h => by
  obtain ⟨⟨h1, h2, h3, h4, h5, h6⟩, h7⟩ := h
  obtain ⟨r, hr⟩ := Option.isSome_iff_exists.1 h5
  refine ⟨h1, h2, h3, h4, r, _, hr, ?_, Ma h7, ?_⟩
  ·rw [hr] at h6; exact h6
  ·simp only [kK, hr, Option.getD_some]
def WJ (σ : St) (x : V) (size : Nat) : Prop × List (List D) × St :=
 match x with
 | .one (.nil _) => (True, [], σ)
 | .one (.sref t j lo len) => (match σ.ob t j with | .arr false s olds => (s = size ∧ lo = 0 ∧ len = olds.length, olds, σ.Zt t j .none) | _ => (False, [], σ))
 | _ => (False, [], σ)
theorem DN {σ : St} {x : V} {size : Nat} (h : (WJ σ x size).1) : kc σ x size (WJ σ x size).2.1 (WJ σ x size).2.2 := by
 unfold WJ at h ⊢
 split at h
 ·exact ⟨rfl, rfl⟩
 ·rename_i t j lo len
  split at h
  ·rename_i s olds ho
   obtain ⟨rfl, rfl, rfl⟩ := h
   exact ⟨olds, ho, rfl, Nat.le_refl _, (List.take_length).symm, rfl⟩
  ·exact h.elim
 ·exact h.elim
def TO (σ : St) (x : V) (size : Nat) : Prop × List (List D) :=
 match x with
 | .one (.d (.sl s rows)) => (s = size, rows)
 | .one (.nil _) => (True, [])
 | .one (.sref t j lo len) => (match σ.ob t j with | .arr false s rows => (s = size ∧ lo + len ≤ rows.length, cut rows lo len) | _ => (False, []))
 | _ => (False, [])
theorem Eu {σ : St} {x : V} {size : Nat} (h : (TO σ x size).1) : Kr σ x size (TO σ x size).2 := by
 unfold TO at h ⊢
 split at h
 ·exact ⟨h, rfl⟩
 ·rfl
 ·rename_i t j lo len
  split at h
  ·rename_i s rows ho
   obtain ⟨rfl, hle⟩ := h
   exact ⟨rows, ho, hle, rfl⟩
  ·exact h.elim
 ·exact h.elim
def evS (P : Program) (σ : St) (o : Oper) (d : Nat) : Prop × St :=
 match o.op with
 | .alloc T => (match Yb P 12 T with | some row => (σ.fresh d = true ∧ Zl P T = true, σ.new d (.one (.bptr d 0)) [.box row]) | none => (False, σ))
 | .box T x => (σ.fresh d = true ∧ gOf (look P σ T x) = true ∧ (unc (look P σ T x)).flat = true ∧ Z7 d (unc (look P σ T x)).cells = false, σ.new d (.one (.bptr d 0)) [.box (unc (look P σ T x)).cells])
 | .buildSlice T n parts => ((σ.fresh d = true ∧ Z9 P T = true ∧ Zl P (ZK P T) = true ∧ 0 < P.cellsOf (ZK P T) ∧ parts.toList.length = n ∧ n * P.cellsOf (ZK P T) ≤ 16777216) ∧ (kK P σ (ZK P T) (P.cellsOf (ZK P T)) parts.toList 0).1,
   σ.new d (.one (.sref d 0 0 (kK P σ (ZK P T) (P.cellsOf (ZK P T)) parts.toList 0).2.length)) [.arr false (P.cellsOf (ZK P T)) (kK P σ (ZK P T) (P.cellsOf (ZK P T)) parts.toList 0).2])
 | .makeSlice T x y => (match Yb P 12 (ZK P T) with
   | some z => (match zD z with
    | some zr => ((x = y ∧ σ.fresh d = true ∧ Z9 P T = true ∧ Zl P (ZK P T) = true ∧ 0 < P.cellsOf (ZK P T) ∧ (lkI P σ x).1) ∧ 0 ≤ (lkI P σ x).2 ∧ P.bytesOf (ZK P T) * (lkI P σ x).2.toNat ≤ 281474976710656 ∧ (lkI P σ x).2 ≤ 9223372036854775807,
      σ.new d (.one (.sref d 0 0 (lkI P σ x).2.toNat)) [.arr false (P.cellsOf (ZK P T)) (List.replicate (lkI P σ x).2.toNat zr)])
    | none => (False, σ))
   | none => (False, σ))
 | .call ⟨.builtin .append, ⟨[x, y]⟩, ⟨[t, t']⟩⟩ =>
   (((t = t' ∧ gOf (look P σ t x) = true ∧ gOf (look P σ t y) = true ∧ Z9 P t = true ∧ Zl P (ZK P t) = true ∧ 0 < P.cellsOf (ZK P t)) ∧ (WJ σ (unc (look P σ t x)) (P.cellsOf (ZK P t))).1 ∧ (TO σ (unc (look P σ t y)) (P.cellsOf (ZK P t))).1 ∧ (WJ σ (unc (look P σ t x)) (P.cellsOf (ZK P t))).2.2.fresh d = true) ∧
    ((WJ σ (unc (look P σ t x)) (P.cellsOf (ZK P t))).2.1.length + (TO σ (unc (look P σ t y)) (P.cellsOf (ZK P t))).2.length) * P.bytesOf (ZK P t) ≤ 140737488355328 ∧
    (WJ σ (unc (look P σ t x)) (P.cellsOf (ZK P t))).2.1.length + (TO σ (unc (look P σ t y)) (P.cellsOf (ZK P t))).2.length ≤ 9223372036854775807,
   (WJ σ (unc (look P σ t x)) (P.cellsOf (ZK P t))).2.2.new d (.one (.sref d 0 0 ((WJ σ (unc (look P σ t x)) (P.cellsOf (ZK P t))).2.1.length + (TO σ (unc (look P σ t y)) (P.cellsOf (ZK P t))).2.length)))
    [.arr false (P.cellsOf (ZK P t)) ((WJ σ (unc (look P σ t x)) (P.cellsOf (ZK P t))).2.1 ++ (TO σ (unc (look P σ t y)) (P.cellsOf (ZK P t))).2)])
 | op => ((evV P σ op o.type).1, σ.put d (evV P σ op o.type).2)
def I2 (P : Program) (σ : St) (T : TypeId) (x y : Operand) : Prop × St :=
 match unc (look P σ 0 x) with
 | .one (.bptr t c) => (match σ.ob t 0 with
  | .box cells => (Yd P T = true ∧ gOf (look P σ 0 x) = true ∧ gOf (look P σ T y) = true ∧ (unc (look P σ T y)).flat = true ∧ (unc (look P σ T y)).cells.length = P.cellsOf T ∧ c + P.cellsOf T ≤ cells.length, σ.Zt t 0 (.box (place cells c (unc (look P σ T y)).cells)))
  | _ => (False, σ))
 | .one (.ptr t j i c) => (match σ.ob t j with
  | .arr q size rows => ((Yd P T = true ∧ gOf (look P σ 0 x) = true ∧ gOf (look P σ T y) = true ∧ (unc (look P σ T y)).flat = true ∧ (rowOf σ (unc (look P σ T y)).cells).isSome = true ∧ Qr (unc (look P σ T y)).cells = true ∧ ((rowOf σ (unc (look P σ T y)).cells).getD []).length = P.cellsOf T ∧ c + P.cellsOf T ≤ size) ∧ i < rows.length ∧ (q = true → ((rowOf σ (unc (look P σ T y)).cells).getD []).all D.scalar = true ∧ (cut (rowAt rows i) c (P.cellsOf T)).all D.scalar = true),
    σ.Zt t j (.arr q size (rows.set i (place (rowAt rows i) c ((rowOf σ (unc (look P σ T y)).cells).getD [])))))
  | _ => (False, σ))
 | _ => (False, σ)
theorem E1 {P : Program} {σ : St} {o : Oper} {d : Nat} (hns : ∀ c, o.op = .call c → ∀ f, c.callee ≠ .value (.func f)) (hc : (evS P σ o d).1) : Step P o d σ (evS P σ o d).2 := by
 unfold evS at hc ⊢
 split at hc
 ·rename_i T hop
  unfold Step
  rw [hop]
  split at hc
  ·rename_i row hrow; simp only [hrow]; exact ⟨hc.1, hc.2, row, rfl, rfl⟩
  ·exact hc.elim
 ·rename_i T x hop
  unfold Step; rw [hop]
  exact ⟨hc.1, hc.2.1, hc.2.2.1, hc.2.2.2, rfl⟩
 ·rename_i T n parts hop
  unfold Step; rw [hop]
  obtain ⟨⟨h1, h2, h3, h4, h5, h6⟩, h7⟩ := hc
  exact ⟨h1, h2, h3, h4, h5, h6, .inl ⟨_, Ma h7, rfl⟩⟩
 ·rename_i T x y hop
  unfold Step; rw [hop]
  split at hc
  ·rename_i z hz
   split at hc
   ·rename_i zr hzr
    obtain ⟨⟨h1, h2, h3, h4, h5, h6⟩, h7, h8, h9⟩ := hc
    have hl := yh h6
    simp only [hz]
    refine ⟨h1, h2, h3, h4, h5, false, z, zr, lkK P σ x, (lkI P σ x).2.toNat, (fun hh => by cases hh), rfl, hzr, ?_, h8, by omega, rfl⟩
    rw [Int.toNat_of_nonneg h7]; exact hl
   ·exact hc.elim
  ·exact hc.elim
 ·rename_i x y t t' hop
  unfold Step; rw [hop]
  obtain ⟨⟨⟨rfl, h1, h2, h3, h4, h5⟩, h6, h7, h8⟩, h9, h10⟩ := hc
  exact ⟨x, y, t, rfl, rfl, h1, h2, h3, h4, h5, _, _, _, DN h6, Eu h7, h8, h9, h10, rfl⟩
 ·rename_i op h1 h2 h3 h4 h5
  have hv := GP hc
  unfold Step
  split
  ·rename_i T hop; exact absurd hop (h1 T)
  ·rename_i T x hop; exact absurd hop (h2 T x)
  ·rename_i T n ps hop; exact absurd hop (h3 T n ps)
  ·rename_i T x y hop; exact absurd hop (h4 T x y)
  ·rename_i c hop
   split
   ·rename_i hcal
    rw [hop] at hv
    simp only [Z8] at hv
    split at hv
    ·rename_i hc2 _ _; rw [hcal] at hc2; cases hc2
    ·rename_i hc2 _; rw [hcal] at hc2; cases hc2
    ·rename_i hc2 _; rw [hcal] at hc2; cases hc2
    ·exact hv.elim
   ·rename_i f hcal; exact absurd hcal (hns c hop f)
   ·exact ⟨_, hv, rfl⟩
  ·exact .inl ⟨_, hv, rfl⟩
  ·exact ⟨_, hv, rfl⟩
theorem CB {P : Program} {σ : St} {T : TypeId} {x y : Operand} (hc : (I2 P σ T x y).1) : Ki P σ T x y (I2 P σ T x y).2 := by
 unfold I2 at hc ⊢
 unfold Ki
 split at hc
 ·rename_i t c hx
  split at hc
  ·rename_i cells ho
   obtain ⟨h1, h2, h3, h4, h5, h6⟩ := hc
   first | (rw [hx]; simp only [ho]) | simp only [ho]
   exact ⟨h1, h2, h3, h4, cells, rfl, h5, h6, rfl⟩
  ·exact hc.elim
 ·rename_i t j i c hx
  split at hc
  ·rename_i q size rows ho
   obtain ⟨⟨h1, h2, h3, h4, h5, h6, h7, h8⟩, h9, h10⟩ := hc
   obtain ⟨ds, hds⟩ := Option.isSome_iff_exists.1 h5
   first | (rw [hx]; simp only [ho]) | simp only [ho]
   refine ⟨h1, h2, h3, h4, q, size, rows, ds, rfl, h9, hds, h6, ?_, h8, fun hq => ?_, ?_⟩
   ·rw [hds] at h7; exact h7
   ·have := h10 hq
    rw [hds] at this; exact this
   ·rw [hds]; rfl
  ·exact hc.elim
 ·exact hc.elim
def Gr : List At → Bool
 | [] => false
 | .nil _ :: _ => true
 | _ :: xs => Gr xs
def FQ (P : Program) (T : TypeId) : Bool := match Yb P 12 (ZK P T) with | some z => Gr z | none => false
def IL : List At → Bool
 | [] => true
 | .d (.sl _ _) :: _ => false
 | .d _ :: xs => IL xs
 | _ => false
def Cm (P : Program) (σ : St) (T : TypeId) (x y : Operand) : Bool :=
 match unc (look P σ 0 x) with
 | .one (.ptr t j _ _) => (match σ.ob t j with | .arr true _ _ => !IL (unc (look P σ T y)).cells | _ => false)
 | .one (.tref _ _ _ _ (some _)) => true
 | _ => false
def stops (P : Program) (o : Oper) : Bool :=
 match o.op with
 | .call ⟨.value _, _, _⟩ => true
 | .call ⟨.builtin .append, _, ⟨t :: _⟩⟩ => FQ P t
 | .buildSlice T _ _ => FQ P T
 | .makeSlice T _ _ => FQ P T
 | .makeFunc _ _ _ => true
 | .convert _ T _ => (Y2 P T).isNone
 | .indexAddr _ _ _ => o.guard.isSome
 | .index _ _ _ => o.guard.isSome
 | .slice _ _ _ _ _ => o.guard.isSome
 | _ => false
def zn (P : Program) (ops : Array Oper) (bar : Oper → Bool) (o : Oper) (rest : List Oper) (σ : St) (Q : St → Prop) : Prop := ∃ σ', Jk P ops bar o σ σ' ∧ IS P ops bar rest σ' Q
def Ev (P : Program) (ops : Array Oper) (bar : Oper → Bool) : List Oper → St → (St → Prop) → Prop
 | [], σ, Q => Q σ
 | o :: rest, σ, Q =>
  if stops P o then zn P ops bar o rest σ Q else
  match o.guard with
  | none =>
   (match o.dst with
   | some d => (evS P σ o d).1 ∧ Ev P ops bar rest (evS P σ o d).2 Q
   | none => (match o.op with | .store T x y => if Cm P σ T x y then zn P ops bar o rest σ Q else (I2 P σ T x y).1 ∧ Ev P ops bar rest (I2 P σ T x y).2 Q | _ => False))
  | some (j, want) =>
   (match (ops[j]?).bind (·.dst), o.dst with
   | some dj, some d => (match xP want (σ.get dj) with
    | some g => (dj < σ.length ∧ (g = true → (evV P σ o.op o.type).1 ∧ gOf (evV P σ o.op o.type).2 = true ∧ (unc (evV P σ o.op o.type).2).flat = true)) ∧ Ev P ops bar rest (σ.put d (.cnd g (unc (evV P σ o.op o.type).2))) Q
    | none => False)
   | _, _ => False)
theorem X3 {P : Program} {ops : Array Oper} {bar : Oper → Bool} : ∀ {l : List Oper} {σ : St} {Q : St → Prop}, Ev P ops bar l σ Q → IS P ops bar l σ Q
 | [], _, _, h => h
 | o :: rest, σ, Q, h => by
  unfold Ev at h
  split at h
  ·exact h
  ·rename_i hst
   have hns : ∀ c, o.op = .call c → ∀ f, c.callee ≠ .value (.func f) := by
    intro c hop f hcal
    obtain ⟨cc, ca, ct⟩ := c
    simp only at hcal; subst hcal
    exact hst (by simp [stops, hop])
   split at h
   ·rename_i hg
    split at h
    ·rename_i d hd
     refine ⟨_, .inl ?_, X3 h.2⟩
     unfold Yc
     simp only [hg, hd]
     exact E1 hns h.1
    ·rename_i hd
     split at h
     ·rename_i T x y hop
      split at h
      ·exact h
      ·refine ⟨_, .inl ?_, X3 h.2⟩
       unfold Yc
       simp only [hg, hd, hop]
       exact CB h.1
     ·exact h.elim
   ·rename_i j want hg
    split at h
    ·rename_i dj d hdj hd
     split at h
     ·rename_i g hgc
      refine ⟨_, .inl ?_, X3 h.2⟩
      unfold Yc
      simp only [hg]
      refine ⟨dj, d, g, _, hdj, h.1.1, hd, hgc, fun hgt => ?_, rfl⟩
      obtain ⟨h1, h2, h3⟩ := h.1.2 hgt
      have base : ∃ v0, Z8 P σ o.op o.type v0 ∧ gOf v0 = true ∧ unc (evV P σ o.op o.type).2 = unc v0 ∧ (unc (evV P σ o.op o.type).2).flat = true := ⟨_, GP h1, h2, rfl, h3⟩
      unfold Tt
      split
      ·rename_i c hop
       split
       ·rename_i f hcal; exact absurd hcal (hns c hop f)
       ·exact base
      ·exact base
     ·exact h.elim
    ·exact h.elim
theorem Co {P : Program} {Q : Exit → St → Prop} {σ : St} {id : Nat} {l : List Oper} {bar : Oper → Bool} (h : Ev P l.toArray bar l σ (Q .normal)) : AWP P (.region id l.toArray false) Q σ := Gz (X3 h)
theorem H3 {P : Program} {ops : Array Oper} {bar : Oper → Bool} {o : Oper} {rest : List Oper} {σ : St} {Q : St → Prop} {c : Call} {f : FuncId} {d : Nat} {own : Bool} {rows res : List (List D)} (hop : o.op = .call c) (hc : c.callee = .value (.func f)) (hg : o.guard = none) (hd : o.dst = some d)
  (hargs : XQ P σ c.args.toList c.argTypes.toList rows) (hs : X6 P f own rows res) (hst : YI P σ c.args.toList c.argTypes.toList = true ∨ Jz own res) (h : Ev P ops bar rest (σ.put d (ya res)) Q) : zn P ops bar o rest σ Q := by
 refine ⟨_, .inl ?_, X3 h⟩
 unfold Yc; simp only [hg, hd]
 unfold Step
 rw [hop]
 simp only [hc]
 exact .inl ⟨own, res, ⟨rows, hargs, hs, hst⟩, rfl⟩
theorem Ge {P : Program} {ops : Array Oper} {bar : Oper → Bool} {o : Oper} {rest : List Oper} {σ : St} {Q : St → Prop} {c : Call} {f : FuncId} {d j dj : Nat} {want g own : Bool} {rows : List (List D)} {res : List D} (hop : o.op = .call c) (hc : c.callee = .value (.func f)) (hg : o.guard = some (j, want)) (hd : o.dst = some d)
  (hdj : (ops[j]?).bind (·.dst) = some dj) (hlt : dj < σ.length) (hgc : xP want (σ.get dj) = some g)
  (hargs : g = true → XQ P σ c.args.toList c.argTypes.toList rows) (hs : g = true → X6 P f own rows [res]) (hst : YI P σ c.args.toList c.argTypes.toList = true ∨ Jz own [res]) (h : Ev P ops bar rest (σ.put d (.cnd g (ya [res]))) Q) : zn P ops bar o rest σ Q := by
 refine ⟨_, .inl ?_, X3 h⟩
 unfold Yc; simp only [hg]
 refine ⟨dj, d, g, _, hdj, hlt, hd, hgc, fun hgt => ?_, rfl⟩
 unfold Tt
 rw [hop]
 simp only [hc]
 exact ⟨own, res, ⟨rows, hargs hgt, hs hgt, hst⟩, rfl⟩
theorem Gh {P : Program} {ops : Array Oper} {bar : Oper → Bool} {o : Oper} {rest : List Oper} {σ : St} {Q : St → Prop} {S T : TypeId} {x : Operand} {d : Nat} {l : List UInt8} (hop : o.op = .convert S T x) (hg : o.guard = none) (hd : o.dst = some d)
  (h1 : gOf (look P σ S x) = true) (h2 : QP P S = true) (h3 : JO P T = true) (h4 : Kr σ (unc (look P σ S x)) 1 (QN l)) (h : Ev P ops bar rest (σ.put d (.one (.d (.str ⟨l.toArray⟩)))) Q) : zn P ops bar o rest σ Q := by
 refine ⟨_, .inl ?_, X3 h⟩
 unfold Yc; simp only [hg, hd]
 unfold Step
 rw [hop]
 exact .inr (.inl ⟨l, h1, h2, h3, h4, rfl⟩)
theorem IX {P : Program} {ops : Array Oper} {bar : Oper → Bool} {o : Oper} {rest : List Oper} {σ : St} {Q : St → Prop} {S T : TypeId} {x : Operand} {d : Nat} {s : ByteArray} (hop : o.op = .convert S T x) (hg : o.guard = none) (hd : o.dst = some d)
  (h1 : gOf (look P σ S x) = true) (h2 : JO P S = true) (h3 : QP P T = true) (h4 : unc (look P σ S x) = .one (.d (.str s))) (h5 : s.size ≤ 9223372036854775807) (h : Ev P ops bar rest (σ.put d (.one (.d (.sl 1 (QN s.data.toList))))) Q) : zn P ops bar o rest σ Q := by
 refine ⟨_, .inl ?_, X3 h⟩
 unfold Yc; simp only [hg, hd]
 unfold Step
 rw [hop]
 exact .inr (.inr ⟨s, h1, h2, h3, h4, h5, rfl⟩)
theorem Df {P : Program} {ops : Array Oper} {bar : Oper → Bool} {o : Oper} {rest : List Oper} {σ : St} {Q : St → Prop} {d : Nat} (hns : ∀ c, o.op = .call c → ∀ f, c.callee ≠ .value (.func f)) (hg : o.guard = none) (hd : o.dst = some d)
  (h1 : (evS P σ o d).1) (h : Ev P ops bar rest (evS P σ o d).2 Q) : zn P ops bar o rest σ Q := by
 refine ⟨_, .inl ?_, X3 h⟩
 unfold Yc; simp only [hg, hd]
 exact E1 hns h1
theorem GW {P : Program} {ops : Array Oper} {bar : Oper → Bool} {o : Oper} {rest : List Oper} {σ : St} {Q : St → Prop} {c : Call} {f : FuncId} {d : Nat} {rows res : List (List D)} (qs : List Bool) (hop : o.op = .call c) (hc : c.callee = .value (.func f)) (hg : o.guard = none) (hd : o.dst = some d)
  (hargs : XQ P σ c.args.toList c.argTypes.toList rows) (hs : Xz P f rows res) (hq : ks qs res.flatten) (hf : σ.fresh d = true) (h : Ev P ops bar rest (σ.new d (kT d res) (Z3 qs res.flatten)) Q) : zn P ops bar o rest σ Q := by
 refine ⟨_, .inl ?_, X3 h⟩
 unfold Yc; simp only [hg, hd]
 unfold Step
 rw [hop]
 simp only [hc]
 exact .inr (.inr ⟨rows, res, qs, hargs, hs, hq, hf, rfl⟩)
def Jr (P : Program) (σ : St) (T : TypeId) (size : Nat) : List (Nat × Operand) → Nat → Prop × List (List At)
 | [], _ => (True, [])
 | (i, x) :: ps, k => ((i = k ∧ gOf (look P σ T x) = true ∧ (unc (look P σ T x)).flat = true ∧ (unc (look P σ T x)).cells.length = size) ∧ (Jr P σ T size ps (k + 1)).1, (unc (look P σ T x)).cells :: (Jr P σ T size ps (k + 1)).2)
theorem Od {P : Program} {σ : St} {T : TypeId} {size : Nat} : ∀ {ps : List (Nat × Operand)} {k : Nat}, (Jr P σ T size ps k).1 → Um P σ T size ps k (Jr P σ T size ps k).2
 | [], _, _ => rfl
 | (_, x) :: _, _, h => by
  obtain ⟨⟨h1, h2, h3, h4⟩, h7⟩ := h
  exact ⟨h1, h2, h3, h4, _, Od h7, rfl⟩
theorem EY {P : Program} {ops : Array Oper} {bar : Oper → Bool} {o : Oper} {rest : List Oper} {σ : St} {Q : St → Prop} {d : Nat} {T : TypeId} {n : Nat} {parts : Array (Nat × Operand)} (hop : o.op = .buildSlice T n parts) (hg : o.guard = none) (hd : o.dst = some d)
  (h1 : σ.fresh d = true ∧ Z9 P T = true ∧ Zl P (ZK P T) = true ∧ 0 < P.cellsOf (ZK P T) ∧ parts.toList.length = n ∧ n * P.cellsOf (ZK P T) ≤ 16777216) (h2 : (Jr P σ (ZK P T) (P.cellsOf (ZK P T)) parts.toList 0).1)
  (h3 : Z7 d (Jr P σ (ZK P T) (P.cellsOf (ZK P T)) parts.toList 0).2.flatten = false)
  (h : Ev P ops bar rest (σ.new d (.one (.sref d 0 0 (Jr P σ (ZK P T) (P.cellsOf (ZK P T)) parts.toList 0).2.length)) [.lit (P.cellsOf (ZK P T)) (Jr P σ (ZK P T) (P.cellsOf (ZK P T)) parts.toList 0).2]) Q) : zn P ops bar o rest σ Q := by
 refine ⟨_, .inl ?_, X3 h⟩
 unfold Yc; simp only [hg, hd]
 unfold Step
 rw [hop]
 exact ⟨h1.1, h1.2.1, h1.2.2.1, h1.2.2.2.1, h1.2.2.2.2.1, h1.2.2.2.2.2, .inr ⟨_, Od h2, h3, rfl⟩⟩
theorem Ea {P : Program} {ops : Array Oper} {bar : Oper → Bool} {o : Oper} {rest : List Oper} {σ : St} {Q : St → Prop} {d : Nat} {T : TypeId} {x : Operand} {z : List At} {zr : List D} {n : Nat} (hop : o.op = .makeSlice T x x) (hg : o.guard = none) (hd : o.dst = some d)
  (hz : Yb P 12 (ZK P T) = some z) (hzr : zD z = some zr) (hzf : SL z = true) (h1 : σ.fresh d = true ∧ Z9 P T = true ∧ Zl P (ZK P T) = true ∧ 0 < P.cellsOf (ZK P T) ∧ (lkI P σ x).1) (hn : (lkI P σ x).2 = (n : Int)) (hb : P.bytesOf (ZK P T) * n ≤ 281474976710656) (hm : n ≤ 9223372036854775807)
  (h : Ev P ops bar rest (σ.new d (.one (.sref d 0 0 n)) [.arr true (P.cellsOf (ZK P T)) (List.replicate n zr)]) Q) : zn P ops bar o rest σ Q := by
 refine ⟨_, .inl ?_, X3 h⟩
 unfold Yc; simp only [hg, hd]
 unfold Step
 rw [hop]
 have hl := yh h1.2.2.2.2
 rw [hn] at hl
 exact ⟨rfl, h1.1, h1.2.1, h1.2.2.1, h1.2.2.2.1, true, z, zr, _, n, fun _ => hzf, hz, hzr, hl, hb, hm, rfl⟩
def kD (σ : St) (x : V) (size : Nat) : Prop × List (List D) × List (Nat × Nat) :=
 match x with
 | .one (.nil _) => (True, [], [])
 | .one (.sref t j lo len) => (match σ.ob t j with | .arr true s olds => (s = size ∧ lo = 0 ∧ len = olds.length, olds, [(t, j)]) | _ => (False, [], []))
 | _ => (False, [], [])
theorem Ff {σ : St} {x : V} {size : Nat} (h : (kD σ x size).1) : EB σ x size (kD σ x size).2.1 (kD σ x size).2.2 := by
 unfold kD at h ⊢
 split at h
 ·exact ⟨rfl, rfl⟩
 ·rename_i t j lo len
  split at h
  ·rename_i s olds ho
   obtain ⟨rfl, rfl, rfl⟩ := h
   exact ⟨ho, rfl, rfl, rfl⟩
  ·exact h.elim
 ·exact h.elim
def kr (σ : St) (x : V) (size : Nat) : Prop × List (List D) × List (Nat × Nat) :=
 match x with
 | .one (.sref t j lo len) => (match σ.ob t j with | .lit s rows => ((s = size ∧ lo = 0 ∧ len = rows.length) ∧ (JV σ rows).isSome = true ∧ Qf σ rows, (JV σ rows).getD [], YF rows.flatten) | _ => (False, [], []))
 | _ => (False, [], [])
theorem EE {σ : St} {x : V} {size : Nat} (h : (kr σ x size).1) : EA σ x size (kr σ x size).2.1 (kr σ x size).2.2 := by
 unfold kr at h ⊢
 split at h
 ·rename_i t j lo len
  split at h
  ·rename_i s rows ho
   obtain ⟨⟨rfl, rfl, rfl⟩, h1, h2⟩ := h
   obtain ⟨ns, hns⟩ := Option.isSome_iff_exists.1 h1
   exact ⟨rows, ho, rfl, rfl, by rw [hns]; rfl, h2, rfl⟩
  ·exact h.elim
 ·exact h.elim
theorem jW : ∀ (σ : St) (d : Nat) (v : V) (t : Nat), (σ.put d v)[t]? = if t = d then (σ[t]?).map (fun e => (v, e.2)) else σ[t]?
 | [], _, _, _ => by simp [St.put]
 | e :: σ, 0, v, t => by cases t <;> simp [St.put]
 | e :: σ, d + 1, v, t => by
  cases t with
  | zero => simp [St.put]
  | succ t => have := jW σ d v t; simpa [St.put] using this
theorem zW : ∀ (σ : St) (d : Nat) (v : V) (os : List Ob) (t : Nat), (σ.new d v os)[t]? = if t = d then (σ[t]?).map (fun _ => (v, os)) else σ[t]?
 | [], _, _, _, _ => by simp [St.new]
 | e :: σ, 0, v, os, t => by cases t <;> simp [St.new]
 | e :: σ, d + 1, v, os, t => by
  cases t with
  | zero => simp [St.new]
  | succ t => have := zW σ d v os t; simpa [St.new] using this
theorem K6 : ∀ (σ : St) (a j : Nat) (o : Ob) (t : Nat), (σ.Zt a j o)[t]? = if t = a then (σ[t]?).map (fun e => (e.1, e.2.set j o)) else σ[t]?
 | [], _, _, _, _ => by simp [St.Zt]
 | e :: σ, 0, j, o, t => by cases t <;> simp [St.Zt]
 | e :: σ, a + 1, j, o, t => by
  cases t with
  | zero => simp [St.Zt]
  | succ t => have := K6 σ a j o t; simpa [St.Zt] using this
theorem js {σ : St} {d : Nat} : XT σ d = true ↔ σ[d]? = some (.any, []) ∨ ∃ x, σ[d]? = some (.one (.d x), []) := by
 unfold XT
 constructor
 ·intro h
  split at h
  ·rename_i h1; exact .inl h1
  ·rename_i x h1; exact .inr ⟨x, h1⟩
  ·cases h
 ·rintro (h | ⟨x, h⟩) <;> rw [h]
theorem QC {σ : St} {d a j : Nat} {o : Ob} (h : XT σ d = true) : XT (σ.Zt a j o) d = true := by
 rw [js] at *
 rw [K6]
 rcases h with h | ⟨x, h⟩
 ·left; rw [h]; split <;> rfl
 ·right; refine ⟨x, ?_⟩; rw [h]; split <;> rfl
theorem KE : ∀ {l : List (Nat × Nat)} {σ : St} {d : Nat}, XT σ d = true → XT (σ.Zn l) d = true
 | [], _, _, h => h
 | p :: l, σ, d, h => by rw [St.Zn]; exact KE (l := l) (QC h)
theorem VJ {σ : St} {d d' : Nat} {v : V} {os : List Ob} (hne : d ≠ d') (h : XT σ d = true) : XT (σ.new d' v os) d = true := by
 unfold XT at *; simp only [zW, if_neg hne]; exact h
theorem YY {P : Program} {σ : St} {d : Nat} {v : V} {T : TypeId} {x : Operand} (h : Kk d x = false) : look P (σ.put d v) T x = look P σ T x := by
 cases x with
 | tmp t =>
  have hne : t ≠ d := fun e => by subst e; simp [Kk] at h
  simp [look, St.Jy, hne]
 | const c => rfl
 | global g => rfl
 | func f => rfl
theorem Kq : ∀ (σ : St) (d : Nat) (v : V) (t j : Nat) (o : Ob), (σ.put d v).Zt t j o = (σ.Zt t j o).put d v
 | [], _, _, _, _, _ => rfl
 | e :: σ, 0, v, 0, j, o => rfl
 | e :: σ, d + 1, v, 0, j, o => rfl
 | e :: σ, 0, v, t + 1, j, o => rfl
 | e :: σ, d + 1, v, t + 1, j, o => by simp [St.put, St.Zt, Kq σ d v t j o]
theorem qj {d : Nat} {v : V} : ∀ (l : List (Nat × Nat)) (σ : St), (σ.put d v).Zn l = (σ.Zn l).put d v
 | [], _ => rfl
 | p :: l, σ => by rw [St.Zn, St.Zn, Kq, qj l]
theorem T1 {σ : St} {d : Nat} {v : V} : ∀ (xs : List At), X1 (σ.put d v) xs = X1 σ xs
 | [] => rfl
 | x :: xs => by
  have : mvD (σ.put d v) x = mvD σ x := by cases x <;> simp [mvD, St.Xe]
  simp only [X1, this, T1 xs]
theorem WR {σ : St} {d : Nat} {v : V} : ∀ (xs : List At), X0 (σ.put d v) xs = X0 σ xs
 | [] => rfl
 | x :: xs => by
  have : Ru (σ.put d v) x = Ru σ x := by cases x <;> simp [Ru, St.Xe]
  simp only [X0, this, WR xs]
theorem VA : ∀ (l : List (Nat × V)) (σ : St), (σ.Xf l).ob = σ.ob
 | [], _ => rfl
 | p :: l, σ => by rw [St.Xf, VA l, St.Xe]
theorem yf {P : Program} {T : TypeId} {x : Operand} : ∀ (l : List (Nat × V)) (σ : St), (∀ p ∈ l, Kk p.1 x = false) → look P (σ.Xf l) T x = look P σ T x
 | [], _, _ => rfl
 | p :: l, σ, h => by rw [St.Xf, yf l _ (fun q hq => h q (by simp [hq])), YY (h p (by simp))]
theorem zN {t j : Nat} {o : Ob} : ∀ (l : List (Nat × V)) (σ : St), (σ.Xf l).Zt t j o = (σ.Zt t j o).Xf l
 | [], _ => rfl
 | p :: l, σ => by rw [St.Xf, zN l, Kq, St.Xf]
theorem J4 {L : List (Nat × Nat)} : ∀ (l : List (Nat × V)) (σ : St), (σ.Xf l).Zn L = (σ.Zn L).Xf l
 | [], _ => rfl
 | p :: l, σ => by rw [St.Xf, J4 l, qj, St.Xf]
theorem FP : ∀ {σ : St} {t d : Nat} {v v' : V} {os : List Ob}, t ≠ d → (σ.put t v').new d v os = (σ.new d v os).put t v'
 | [], _, _, _, _, _, _ => rfl
 | e :: σ, 0, 0, _, _, _, h => absurd rfl h
 | e :: σ, 0, d + 1, _, _, _, _ => rfl
 | e :: σ, t + 1, 0, _, _, _, _ => rfl
 | e :: σ, t + 1, d + 1, v, v', os, h => by simp [St.put, St.new, FP (σ := σ) (v := v) (v' := v') (os := os) (fun hh => h (congrArg (· + 1) hh))]
theorem I9 {d : Nat} {v : V} {os : List Ob} : ∀ (l : List (Nat × V)) (σ : St), (∀ p ∈ l, p.1 ≠ d) → (σ.Xf l).new d v os = (σ.new d v os).Xf l
 | [], _, _ => rfl
 | p :: l, σ, h => by rw [St.Xf, I9 l _ (fun q hq => h q (by simp [hq])), FP (h p (by simp)), St.Xf]
theorem Vo {d : Nat} {v : V} (hv : v.ref d = false) : ∀ {σ : St} {k t : Nat}, JY d k σ = true → JY d k (σ.put t v) = true
 | [], _, _, h => h
 | e :: σ, k, 0, h => by
  simp only [JY, St.put, Bool.and_eq_true, Bool.or_eq_true, Bool.not_eq_true'] at h ⊢
  exact ⟨h.1.imp id (fun hh => ⟨hv, hh.2⟩), h.2⟩
 | e :: σ, k, t + 1, h => by
  simp only [JY, St.put, Bool.and_eq_true] at h ⊢
  exact ⟨h.1, Vo hv h.2⟩
theorem km {d : Nat} : ∀ (l : List (Nat × V)) {σ : St}, (∀ p ∈ l, p.2.ref d = false) → σ.fresh d = true → (σ.Xf l).fresh d = true
 | [], _, _, h => h
 | p :: l, σ, hl, h => by
  refine km l (fun q hq => hl q (by simp [hq])) ?_
  simp only [St.fresh, Bool.and_eq_true, decide_eq_true_eq, St.Xp] at h ⊢
  exact ⟨h.1, Vo (hl p (by simp)) h.2⟩
theorem qE {o : Oper} {x y : Operand} {t : TypeId} (hop : o.op = .call ⟨.builtin .append, #[x, y], #[t, t]⟩) {n : Nat} (h : Vk o n = true) : Kk n x = false ∧ Kk n y = false := by
 have hx : x ∈ o.op.operands.toList := by rw [hop]; simp [Op.operands, Call.operands]
 have hy : y ∈ o.op.operands.toList := by rw [hop]; simp [Op.operands, Call.operands]
 simp only [Vk, Bool.not_eq_true'] at h
 exact ⟨Bool.eq_false_iff.2 (List.any_eq_false.1 h x hx), Bool.eq_false_iff.2 (List.any_eq_false.1 h y hy)⟩
theorem HF {σ σ' : St} (h : σ'.ob = σ.ob) : ∀ (xs : List At), X1 σ' xs = X1 σ xs
 | [] => rfl
 | x :: xs => by
  have : mvD σ' x = mvD σ x := by cases x <;> simp [mvD, h]
  simp only [X1, this, HF h xs]
theorem Ol {σ σ' : St} (h : σ'.ob = σ.ob) : ∀ (xs : List At), X0 σ' xs = X0 σ xs
 | [] => rfl
 | x :: xs => by
  have : Ru σ' x = Ru σ x := by cases x <;> simp [Ru, h]
  simp only [X0, this, Ol h xs]
theorem Mw {σ σ' : St} (h : σ'.ob = σ.ob) : ∀ (xs : List (List At)), JV σ' xs = JV σ xs
 | [] => rfl
 | x :: xs => by simp only [JV, HF h, Mw h xs]
theorem SP {σ σ' : St} (h : σ'.ob = σ.ob) : ∀ (xs : List (List At)), Qf σ' xs = Qf σ xs
 | [] => rfl
 | x :: xs => by simp only [Qf, Ol h, SP h xs]
theorem CD {σ σ' : St} (h : σ'.ob = σ.ob) {x : V} {size : Nat} {olds : List (List D)} {l : List (Nat × Nat)} (hd : EB σ x size olds l) : EB σ' x size olds l := by
 unfold EB at *; rw [h]; exact hd
theorem Dg {σ σ' : St} (h : σ'.ob = σ.ob) {x : V} {size : Nat} {news : List (List D)} {l : List (Nat × Nat)} (hd : EA σ x size news l) : EA σ' x size news l := by
 unfold EA at *
 simp only [h, Mw h, SP h]; exact hd
theorem De {σ σ' : St} (h : σ'.ob = σ.ob) {x : V} {size : Nat} {olds : List (List D)} {l : List (Nat × Nat)} (hd : HC σ x size olds l) : HC σ' x size olds l := by
 unfold HC at *; rw [h]; exact hd
theorem MT {d : Nat} : ∀ {os : List Ob} {j : Nat} {cells : List At}, YP d os = false → YD os j = .box cells → Z7 d cells = false
 | [], j, cells, _, h => by simp [YD] at h
 | o :: os, 0, cells, hr, h => by
  simp only [YD, List.getElem?_cons_zero] at h
  subst h
  simp only [YP, Bool.or_eq_false_iff] at hr; exact hr.1
 | o :: os, j + 1, cells, hr, h => by
  have h' : YD os j = .box cells := by simpa [YD] using h
  refine MT (os := os) (j := j) ?_ h'
  cases o <;> simp only [YP, Bool.or_eq_false_iff] at hr <;> first | exact hr.2 | exact hr
theorem PD {P : Program} {ops : Array Oper} {o : Oper} {σ X : St} {d : Nat} {v : V} {os : List Ob} (hd : o.dst = some d) (hlen : X.length = σ.length) (hget : ∀ t, X.get t = σ.get t) (hbox : ∀ t j cells, X.ob t j = .box cells → σ.ob t j = .box cells)
  (harr : ∀ t j q s rows, X.ob t j = .arr q s rows → ∃ rows', σ.ob t j = .arr q s rows') (hf : X.fresh d = true)
  (hs : ∀ l : List (Nat × V), (∀ p ∈ l, p.1 ≠ d ∧ Vk o p.1 = true ∧ p.2.ref d = false) → jw P ops o (σ.Xf l) ((X.Xf l).new d v os)) (hc : ∀ l : List (Nat × V), V8 o (σ.Xf l) ((X.Xf l).new d v os)) : Bn P ops o σ (X.new d v os) := by
 have hlt := St.J5 hf
 have hent : ∀ t e, X[t]? = some e → t ≠ d → e.1.ref d = false ∧ YP d e.2 = false := fun t e he hne => by
  have h1 := hf
  simp only [St.fresh, Bool.and_eq_true] at h1
  exact KC h1.2 t e he (by omega)
 refine ⟨d, hd, by rw [St.kM, hlen], fun t hne => ?_, fun t j cells hne hb => ?_, fun t j q s rows hne hb => ?_, fun l hl => ?_⟩
 ·rw [St.kR, if_neg (fun hh => hne hh.1), hget]
  refine ⟨rfl, ?_⟩
  rw [← hget]
  unfold St.get
  cases he : X[t]? with
  | none => rfl
  | some e => exact (hent t e he hne).1
 ·rw [St.Qg, if_neg (fun hh => hne hh.1)] at hb
  refine ⟨hbox t j cells hb, ?_⟩
  unfold St.ob at hb
  cases he : X[t]? with
  | none => rw [he] at hb; cases hb
  | some e => rw [he] at hb; exact MT (hent t e he hne).2 hb
 ·rw [St.Qg, if_neg (fun hh => hne hh.1)] at hb
  exact harr t j q s rows hb
 ·have e := I9 (d := d) (v := v) (os := os) l X (fun p hp => (hl p hp).1)
  rw [← e]
  exact ⟨hs l hl, hc l⟩
theorem Ox {σ : St} {L : List (Nat × Nat)} {t j : Nat} {cells : List At} (h : (σ.Zn L).ob t j = .box cells) : σ.ob t j = .box cells := by
 rw [St.JR] at h
 split at h
 ·cases h
 ·exact h
theorem OF {σ : St} {L : List (Nat × Nat)} {t j : Nat} {q : Bool} {s : Nat} {rows : List (List D)} (h : (σ.Zn L).ob t j = .arr q s rows) : σ.ob t j = .arr q s rows := by
 rw [St.JR] at h
 split at h
 ·cases h
 ·exact h
theorem DO {P : Program} {ops : Array Oper} {bar : Oper → Bool} {o : Oper} {rest : List Oper} {σ : St} {Q : St → Prop} {d : Nat} {x y : Operand} {t : TypeId} {olds news : List (List D)} {l1 l2 : List (Nat × Nat)} {size : Nat} (hop : o.op = .call ⟨.builtin .append, #[x, y], #[t, t]⟩) (hg : o.guard = none) (hd : o.dst = some d) (hbar : bar o = true)
  (hsz : size = P.cellsOf (ZK P t)) (h1 : gOf (look P σ t x) = true ∧ gOf (look P σ t y) = true ∧ Z9 P t = true ∧ Zl P (ZK P t) = true ∧ 0 < P.cellsOf (ZK P t))
  (h2 : (kD σ (unc (look P σ t x)) size).1 ∧ (kD σ (unc (look P σ t x)) size).2 = (olds, l1)) (h3 : (kr σ (unc (look P σ t y)) size).1 ∧ (kr σ (unc (look P σ t y)) size).2 = (news, l2))
  (h4 : (l1 ++ l2).Nodup ∧ (σ.Zn (l1 ++ l2)).fresh d = true) (h5 : (olds.length + news.length) * P.bytesOf (ZK P t) ≤ 140737488355328 ∧ olds.length + news.length ≤ 9223372036854775807)
  (h : Ev P ops bar rest ((σ.Zn (l1 ++ l2)).new d (.one (.sref d 0 0 (olds.length + news.length))) [.arr true size (olds ++ news)]) Q) : zn P ops bar o rest σ Q := by
 subst hsz
 have e1 := Ff h2.1
 have e2 := EE h3.1
 rw [h2.2] at e1
 rw [h3.2] at e2
 have cl : ∀ σ0 : St, V8 o σ0 ((σ0.Zn (l1 ++ l2)).new d (.one (.sref d 0 0 (olds.length + news.length))) [.arr true (P.cellsOf (ZK P t)) (olds ++ news)]) := fun σ0 d' hd' hc => VJ (fun e => hd' (by rw [hd, e])) (KE hc)
 have go : ∀ l : List (Nat × V), (∀ p ∈ l, p.1 ≠ d ∧ Vk o p.1 = true ∧ p.2.ref d = false) → jw P ops o (σ.Xf l) (((σ.Xf l).Zn (l1 ++ l2)).new d (.one (.sref d 0 0 (olds.length + news.length))) [.arr true (P.cellsOf (ZK P t)) (olds ++ news)]) := by
  rintro l hl T0 B a w K Q' ⟨X, hh, r⟩ hK
  have hw : Region.wanted o (yielded ops a.tmps) = true := by simp [Region.wanted, hg]
  rw [if_pos hw]
  have lx : look P (σ.Xf l) t x = look P σ t x := yf l σ (fun p hp => (qE hop (hl p hp).2.1).1)
  have ly : look P (σ.Xf l) t y = look P σ t y := yf l σ (fun p hp => (qE hop (hl p hp).2.1).2)
  refine NX r hop hd (by rw [lx]; exact h1.1) (by rw [ly]; exact h1.2.1) h1.2.2.1 h1.2.2.2.1 h1.2.2.2.2 (by rw [lx]; exact CD (VA l σ) e1) (by rw [ly]; exact Dg (VA l σ) e2) h4.1 ?_ h5.1 h5.2 hK
  rw [J4]
  exact km l (fun p hp => (hl p hp).2.2) h4.2
 have go0 : jw P ops o σ ((σ.Zn (l1 ++ l2)).new d (.one (.sref d 0 0 (olds.length + news.length))) [.arr true (P.cellsOf (ZK P t)) (olds ++ news)]) := go [] (fun p hp => by cases hp)
 refine ⟨_, .inr ⟨hbar, go0, cl σ, fun hh => by simp [UE, hop] at hh, fun _ => PD hd (St.KR _ _) (fun t => St.xI _ _ t) (fun t j cells hb => Ox hb) (fun t j q s rows hb => ⟨rows, OF hb⟩) h4.2 (fun l hl => ?_) (fun l => ?_)⟩, X3 h⟩
 ·rw [← J4]; exact go l hl
 ·rw [← J4]; exact cl _
theorem EX {P : Program} {ops : Array Oper} {bar : Oper → Bool} {o : Oper} {rest : List Oper} {σ : St} {Q : St → Prop} {d : Nat} {x y : Operand} {t : TypeId} {rows : List (List D)} {size u j len lo n : Nat} (hop : o.op = .call ⟨.builtin .append, #[x, y], #[t, t]⟩) (hg : o.guard = none) (hd : o.dst = some d) (hbar : bar o = true)
  (hsz : size = P.cellsOf (ZK P t)) (h1 : gOf (look P σ t x) = true ∧ gOf (look P σ t y) = true ∧ Z9 P t = true ∧ Zl P (ZK P t) = true ∧ 0 < P.cellsOf (ZK P t))
  (h2 : unc (look P σ t x) = .one (.sref u j 0 len)) (h3 : unc (look P σ t y) = .one (.sref u j lo n)) (ho : σ.ob u j = .arr true size rows) (hle : len ≤ lo) (hle2 : lo + n ≤ rows.length)
  {news : List (List D)} (hnews : cut rows lo n = news) (h4 : (σ.Zt u j .none).fresh d = true) (h5 : (len + n) * P.bytesOf (ZK P t) ≤ 140737488355328 ∧ len + n ≤ 9223372036854775807)
  (h : Ev P ops bar rest ((σ.Zt u j .none).new d (.one (.sref d 0 0 ((rows.take len).length + news.length))) [.arr true size (rows.take len ++ news)]) Q) : zn P ops bar o rest σ Q := by
 subst hsz
 subst hnews
 rw [YT _ _ _ hle2, List.length_take, Nat.min_eq_left (by omega)] at h
 have cl : ∀ σ0 : St, V8 o σ0 ((σ0.Zt u j .none).new d (.one (.sref d 0 0 (len + n))) [.arr true (P.cellsOf (ZK P t)) (rows.take len ++ cut rows lo n)]) := fun σ0 d' hd' hc => VJ (fun e => hd' (by rw [hd, e])) (QC hc)
 have go : ∀ l : List (Nat × V), (∀ p ∈ l, p.1 ≠ d ∧ Vk o p.1 = true ∧ p.2.ref d = false) → jw P ops o (σ.Xf l) (((σ.Xf l).Zt u j .none).new d (.one (.sref d 0 0 (len + n))) [.arr true (P.cellsOf (ZK P t)) (rows.take len ++ cut rows lo n)]) := by
  rintro l hl T0 B a w K Q' ⟨X, hh, r⟩ hK
  have hw : Region.wanted o (yielded ops a.tmps) = true := by simp [Region.wanted, hg]
  rw [if_pos hw]
  have lx : look P (σ.Xf l) t x = look P σ t x := yf l σ (fun p hp => (qE hop (hl p hp).2.1).1)
  have ly : look P (σ.Xf l) t y = look P σ t y := yf l σ (fun p hp => (qE hop (hl p hp).2.1).2)
  refine NF r hop hd (by rw [lx]; exact h1.1) (by rw [ly]; exact h1.2.1) h1.2.2.1 h1.2.2.2.1 h1.2.2.2.2 (by rw [lx]; exact h2) (by rw [ly]; exact h3) (by rw [VA]; exact ho) hle hle2 ?_ h5.1 h5.2 hK
  show ((σ.Xf l).Zt u j .none).fresh d = true
  rw [zN]
  exact km l (fun p hp => (hl p hp).2.2) h4
 have go0 : jw P ops o σ ((σ.Zt u j .none).new d (.one (.sref d 0 0 (len + n))) [.arr true (P.cellsOf (ZK P t)) (rows.take len ++ cut rows lo n)]) := go [] (fun p hp => by cases hp)
 refine ⟨_, .inr ⟨hbar, go0, cl σ, fun hh => by simp [UE, hop] at hh, fun _ => PD hd (St.XA _ _ _ _) (fun t => St.XJ _ _ _ _ t) (fun t i cells hb => Ox (L := [(u, j)]) hb) (fun t i q s rows hb => ⟨rows, OF (L := [(u, j)]) hb⟩) h4 (fun l hl => ?_) (fun l => ?_)⟩, X3 h⟩
 ·rw [← zN]; exact go l hl
 ·rw [← zN]; exact cl _
theorem E6 {P : Program} {ops : Array Oper} {bar : Oper → Bool} {o : Oper} {rest : List Oper} {σ : St} {Q : St → Prop} {d : Nat} {x y : Operand} {t : TypeId} {olds rows news : List (List D)} {l1 : List (Nat × Nat)} {size u j lo n : Nat} (hop : o.op = .call ⟨.builtin .append, #[x, y], #[t, t]⟩) (hg : o.guard = none) (hd : o.dst = some d) (hbar : bar o = true)
  (hsz : size = P.cellsOf (ZK P t)) (h1 : gOf (look P σ t x) = true ∧ gOf (look P σ t y) = true ∧ Z9 P t = true ∧ Zl P (ZK P t) = true ∧ 0 < P.cellsOf (ZK P t))
  (h2 : HC σ (unc (look P σ t x)) size olds l1) (h3 : unc (look P σ t y) = .one (.sref u j lo n)) (ho : σ.ob u j = .arr true size rows) (hnm : (u, j) ∉ l1) (hle : lo + n ≤ rows.length) (hnews : cut rows lo n = news)
  (h4 : ((σ.Zt u j (.arr true size (Xm rows lo n))).Zn l1).fresh d = true) (h5 : (olds.length + n) * P.bytesOf (ZK P t) ≤ 140737488355328 ∧ olds.length + n ≤ 9223372036854775807)
  (h : Ev P ops bar rest (((σ.Zt u j (.arr true size (Xm rows lo n))).Zn l1).new d (.one (.sref d 0 0 (olds.length + news.length))) [.arr true size (olds ++ news)]) Q) : zn P ops bar o rest σ Q := by
 subst hsz
 subst hnews
 rw [YT _ _ _ hle] at h
 have cl : ∀ σ0 : St, V8 o σ0 (((σ0.Zt u j (.arr true (P.cellsOf (ZK P t)) (Xm rows lo n))).Zn l1).new d (.one (.sref d 0 0 (olds.length + n))) [.arr true (P.cellsOf (ZK P t)) (olds ++ cut rows lo n)]) := fun σ0 d' hd' hc => VJ (fun e => hd' (by rw [hd, e])) (KE (QC hc))
 have go : ∀ l : List (Nat × V), (∀ p ∈ l, p.1 ≠ d ∧ Vk o p.1 = true ∧ p.2.ref d = false) → jw P ops o (σ.Xf l) ((((σ.Xf l).Zt u j (.arr true (P.cellsOf (ZK P t)) (Xm rows lo n))).Zn l1).new d (.one (.sref d 0 0 (olds.length + n))) [.arr true (P.cellsOf (ZK P t)) (olds ++ cut rows lo n)]) := by
  rintro l hl T0 B a w K Q' ⟨X, hh, r⟩ hK
  have hw : Region.wanted o (yielded ops a.tmps) = true := by simp [Region.wanted, hg]
  rw [if_pos hw]
  have lx : look P (σ.Xf l) t x = look P σ t x := yf l σ (fun p hp => (qE hop (hl p hp).2.1).1)
  have ly : look P (σ.Xf l) t y = look P σ t y := yf l σ (fun p hp => (qE hop (hl p hp).2.1).2)
  refine MG r hop hd (by rw [lx]; exact h1.1) (by rw [ly]; exact h1.2.1) h1.2.2.1 h1.2.2.2.1 h1.2.2.2.2 (by rw [lx]; exact De (VA l σ) h2) (by rw [ly]; exact h3) (by rw [VA]; exact ho) hle hnm ?_ h5.1 h5.2 hK
  rw [zN, J4]
  exact km l (fun p hp => (hl p hp).2.2) h4
 have hob : σ.ob u j ≠ .none := by rw [ho]; simp
 have go0 : jw P ops o σ (((σ.Zt u j (.arr true (P.cellsOf (ZK P t)) (Xm rows lo n))).Zn l1).new d (.one (.sref d 0 0 (olds.length + n))) [.arr true (P.cellsOf (ZK P t)) (olds ++ cut rows lo n)]) := go [] (fun p hp => by cases hp)
 refine ⟨_, .inr ⟨hbar, go0, cl σ, fun hh => by simp [UE, hop] at hh, fun _ => PD hd (by rw [St.KR, St.XA]) (fun t => by rw [St.xI, St.XJ]) (fun t i cells hb => ?_) (fun t i q s rows' hb => ?_) h4 (fun l hl => ?_) (fun l => ?_)⟩, X3 h⟩
 ·have hb := Ox hb
  rw [St.XX σ u j _ t i hob] at hb
  split at hb
  ·cases hb
  ·exact hb
 ·have hb := OF hb
  rw [St.XX σ u j _ t i hob] at hb
  split at hb
  ·rename_i hc; cases hb; rw [hc.1, hc.2]; exact ⟨rows, ho⟩
  ·exact ⟨rows', hb⟩
 ·rw [← J4, ← zN]; exact go l hl
 ·rw [← J4, ← zN]; exact cl _
theorem Is {f : At → Bool} {v : V} (hv : v.J9 f = false) : ∀ {σ : St} {d : Nat}, σ.J9 f = false → (σ.put d v).J9 f = false
 | [], _, _ => rfl
 | e :: σ, 0, h => by simp only [St.J9, Bool.or_eq_false_iff] at h; simp [St.put, St.J9, hv, h.1.2, h.2]
 | e :: σ, d + 1, h => by simp only [St.J9, Bool.or_eq_false_iff] at h; simp [St.put, St.J9, h.1.1, h.1.2, Is hv h.2]
theorem Se {σ : St} : ∀ {xs : List At} {ds : List D}, X1 σ xs = some ds → ∀ p ∈ YF xs, ∃ q s rows, σ.ob p.1 p.2 = .arr q s rows
 | [], _, _, p, hp => by cases hp
 | x :: xs, ds, h, p, hp => by
  simp only [X1] at h
  split at h
  ·rename_i d ds' h1 h2
   have ih := Se h2
   cases x with
   | sref t j lo len =>
    simp only [YF, List.mem_cons] at hp
    rcases hp with rfl | hp
    ·simp only [mvD] at h1
     split at h1
     ·rename_i q s rows ho; exact ⟨q, s, rows, ho⟩
     ·cases h1
    ·exact ih p hp
   | _ => exact ih p hp
  ·cases h
theorem F6 {σ : St} {L : List (Nat × Nat)} {t j t' size size' : Nat} {q q' : Bool} {rows rows' : List (List D)} {cells : List At} {xs : List At} {ds : List D} (hm : X1 σ xs = some ds) (hL : YF xs = L) (ho : σ.ob t j = .arr q size rows) (hn : (t, j) ∉ L) (hb : σ.ob t' 0 = .box cells) :
  ((σ.Zn L).Zt t j (.arr q' size' rows')).ob t' 0 = .box cells := by
 have h1 : (σ.Zn L).ob t j ≠ .none := by rw [St.JR, if_neg hn, ho]; simp
 rw [St.XX _ t j _ t' 0 h1]
 split
 ·rename_i hc; rw [hc.1, hc.2, ho] at hb; cases hb
 ·rw [St.JR]
  split
  ·rename_i hc
   obtain ⟨q, s, rows, he⟩ := Se hm (t', 0) (by rw [hL]; exact hc)
   rw [he] at hb; cases hb
  ·exact hb
structure StM (P : Program) (σ : St) (T : TypeId) (x y : Operand) (t j i c size : Nat) (rows : List (List D)) (ds : List D) (l : List (Nat × Nat)) : Prop where
 hx : unc (look P σ 0 x) = .one (.ptr t j i c)
 ho : σ.ob t j = .arr true size rows
 hi : i < rows.length
 h1 : Yd P T = true ∧ gOf (look P σ 0 x) = true ∧ gOf (look P σ T y) = true ∧ (unc (look P σ T y)).flat = true
 h2 : X1 σ (unc (look P σ T y)).cells = some ds
 h3 : X0 σ (unc (look P σ T y)).cells
 h4 : YF (unc (look P σ T y)).cells = l
 h5 : l.Nodup ∧ (t, j) ∉ l ∧ (σ.Zn l).J9 (At.isT t) = false
 h6 : ds.length = P.cellsOf T ∧ c + P.cellsOf T ≤ size
theorem StM.Xf {P : Program} {o : Oper} {T : TypeId} {x y : Operand} (hop : o.op = .store T x y) {t j i c size : Nat} {rows : List (List D)} {ds : List D} {l : List (Nat × Nat)} : ∀ (q : List (Nat × V)) {σ : St}, (∀ p ∈ q, xz o p.1 = true ∧ SF p.2 = true) → StM P σ T x y t j i c size rows ds l → StM P (σ.Xf q) T x y t j i c size rows ds l
 | [], _, _, h => h
 | p :: q, σ, hq, h => by
  refine StM.Xf hop q (fun p' hp' => hq p' (by simp [hp'])) ?_
  obtain ⟨hu, hp⟩ := hq p (by simp)
  simp only [xz, hop, Bool.and_eq_true, Bool.not_eq_true'] at hu
  have hv : p.2.J9 (At.isT t) = false := by
   generalize p.2 = v at hp
   unfold SF at hp
   split at hp <;> first | rfl | cases hp
  refine ⟨?_, ?_, h.hi, ?_, ?_, ?_, ?_, ⟨h.h5.1, h.h5.2.1, ?_⟩, h.h6⟩
  ·rw [YY hu.1]; exact h.hx
  ·rw [St.Xe]; exact h.ho
  ·rw [YY hu.1, YY hu.2]; exact h.h1
  ·rw [YY hu.2, T1]; exact h.h2
  ·rw [YY hu.2, WR]; exact h.h3
  ·rw [YY hu.2]; exact h.h4
  ·rw [qj]; exact Is hv h.h5.2.2
theorem Ht {l : List (Nat × Nat)} {t j : Nat} {ob : Ob} : ∀ (q : List (Nat × V)) (σ : St), ((σ.Xf q).Zn l).Zt t j ob = ((σ.Zn l).Zt t j ob).Xf q
 | [], _ => rfl
 | p :: q, σ => by rw [St.Xf, St.Xf, Ht q, qj, Kq]
theorem Fe {P : Program} {ops : Array Oper} {o : Oper} {σ : St} {T : TypeId} {x y : Operand} {t j i c size : Nat} {rows : List (List D)} {ds : List D} {l : List (Nat × Nat)} (hop : o.op = .store T x y) (hg : o.guard = none) (hd : o.dst = none) (h : StM P σ T x y t j i c size rows ds l) :
  jw P ops o σ ((σ.Zn l).Zt t j (.arr true size (rows.set i (place (rowAt rows i) c ds)))) := by
 obtain ⟨hx, ho, hi, h1, h2, h3, h4, h5, h6⟩ := h
 subst h4
 rintro T0 B a w K Q' ⟨X, hh, r⟩ hK
 have hw : Region.wanted o (yielded ops a.tmps) = true := by simp [Region.wanted, hg]
 rw [if_pos hw]
 exact Rn r hop hd h1.1 h1.2.1 h1.2.2.1 hx ho hi h1.2.2.2 h2 h3 h5.1 h5.2.1 h5.2.2 h6.1 h6.2 hK
theorem Mx {P : Program} {ops : Array Oper} {o : Oper} {σ : St} {T : TypeId} {x y : Operand} {t j i size : Nat} {rows : List (List D)} {ds : List D} {l : List (Nat × Nat)} (hop : o.op = .store T x y) (hg : o.guard = none) (hd : o.dst = none) (hfull : ds.length = size) (h : StM P σ T x y t j i 0 size rows ds l) :
  jw P ops o σ ((σ.Zn l).Zt t j (.arr true size (rows.set i ds))) := by
 rintro T0 B a w K Q' ⟨X, hh, r⟩ hK
 refine Fe hop hg hd h T0 B a w K Q' ⟨X, hh, r⟩ ?_
 have h0 := r.obj t j
 rw [h.ho] at h0
 obtain ⟨_, _, _, hz, _⟩ := h0
 have e : place (rowAt rows i) 0 ds = ds := by
  have hr : (rowAt rows i).length = size := by
   have : rowAt rows i = rows[i]'h.hi := by simp [rowAt, List.getD_eq_getElem?_getD, List.getElem?_eq_getElem h.hi]
   rw [this]; exact hz _ (List.getElem_mem h.hi)
  unfold place
  rw [List.take_zero, List.nil_append, List.drop_eq_nil_of_le (by omega), List.append_nil]
 rw [e]; exact hK
theorem Ec {P : Program} {ops : Array Oper} {bar : Oper → Bool} {o : Oper} {rest : List Oper} {σ : St} {Q : St → Prop} {T : TypeId} {x y : Operand} {t j i size : Nat} {rows : List (List D)} {ds : List D} {l : List (Nat × Nat)} (hop : o.op = .store T x y) (hg : o.guard = none) (hd : o.dst = none) (hbar : bar o = true)
  (hx : unc (look P σ 0 x) = .one (.ptr t j i 0)) (ho : σ.ob t j = .arr true size rows) (hi : i < rows.length) (h1 : Yd P T = true ∧ gOf (look P σ 0 x) = true ∧ gOf (look P σ T y) = true ∧ (unc (look P σ T y)).flat = true)
  (h2 : X1 σ (unc (look P σ T y)).cells = some ds) (h3 : X0 σ (unc (look P σ T y)).cells) (h4 : YF (unc (look P σ T y)).cells = l) (h5 : l.Nodup ∧ (t, j) ∉ l ∧ (σ.Zn l).J9 (At.isT t) = false) (h6 : ds.length = P.cellsOf T ∧ P.cellsOf T = size)
  (h : Ev P ops bar rest ((σ.Zn l).Zt t j (.arr true size (rows.set i ds))) Q) : zn P ops bar o rest σ Q := by
 have hm : StM P σ T x y t j i 0 size rows ds l := ⟨hx, ho, hi, h1, h2, h3, h4, h5, h6.1, by omega⟩
 have hf : ds.length = size := by omega
 refine ⟨_, .inr ⟨hbar, Mx hop hg hd hf hm, fun d' _ hc => QC (KE hc), fun _ => ⟨⟨by rw [St.XA, St.KR], fun u => by rw [St.XJ, St.xI]⟩, fun q hq => ?_, fun t' cells hb => ?_⟩, fun hh => by simp [VQ, hop] at hh⟩, X3 h⟩
 ·rw [← Ht]
  exact ⟨Mx hop hg hd hf (hm.Xf hop q hq), fun d' _ hc => QC (KE hc)⟩
 ·exact F6 hm.h2 hm.h4 hm.ho hm.h5.2.1 hb
structure StN (P : Program) (σ : St) (T : TypeId) (x y : Operand) (t j i c k q n size : Nat) (s rows : List (List D)) (ds : List D) (l : List (Nat × Nat)) : Prop where
 hx : unc (look P σ 0 x) = .one (.tref t j i c (some (k * n + q)))
 ho : σ.ob t j = .arr true size rows
 hi : i < rows.length
 hc : (rows.getD i [])[c]? = some (.sl n s)
 hk : k < s.length
 h1 : Yd P T = true ∧ gOf (look P σ 0 x) = true ∧ gOf (look P σ T y) = true ∧ (unc (look P σ T y)).flat = true
 h2 : X1 σ (unc (look P σ T y)).cells = some ds
 h3 : X0 σ (unc (look P σ T y)).cells
 h4 : YF (unc (look P σ T y)).cells = l
 h5 : l.Nodup ∧ (t, j) ∉ l
 h6 : ds.length = P.cellsOf T ∧ q + P.cellsOf T ≤ n
theorem StN.Xf {P : Program} {o : Oper} {T : TypeId} {x y : Operand} (hop : o.op = .store T x y) {t j i c k n0 n size : Nat} {s rows : List (List D)} {ds : List D} {l : List (Nat × Nat)} : ∀ (q : List (Nat × V)) {σ : St}, (∀ p ∈ q, xz o p.1 = true ∧ SF p.2 = true) → StN P σ T x y t j i c k n0 n size s rows ds l → StN P (σ.Xf q) T x y t j i c k n0 n size s rows ds l
 | [], _, _, h => h
 | p :: q, σ, hq, h => by
  refine StN.Xf hop q (fun p' hp' => hq p' (by simp [hp'])) ?_
  obtain ⟨hu, hp⟩ := hq p (by simp)
  simp only [xz, hop, Bool.and_eq_true, Bool.not_eq_true'] at hu
  refine ⟨?_, ?_, h.hi, h.hc, h.hk, ?_, ?_, ?_, ?_, h.h5, h.h6⟩
  ·rw [YY hu.1]; exact h.hx
  ·rw [St.Xe]; exact h.ho
  ·rw [YY hu.1, YY hu.2]; exact h.h1
  ·rw [YY hu.2, T1]; exact h.h2
  ·rw [YY hu.2, WR]; exact h.h3
  ·rw [YY hu.2]; exact h.h4
end Go.Vm
namespace Go.Vm
open Go.RowKit
def V4 (P : Program) (σ : St) : ResultVar → Prop × List At
 | .tmp t => (match σ.get t with
  | .one x => (t < σ.length, [x])
  | .agg [] => (t < σ.length, [])
  | .agg (x :: y :: xs) => (t < σ.length, x :: y :: xs)
  | _ => (False, []))
 | .cell t T => (match σ.get t with
  | .one (.bptr u c) => (match σ.ob u 0 with
    | .box cells => (Yd P T = true ∧ Yk P T = true ∧ P.cellsOf T ≠ 1 ∧ c + P.cellsOf T ≤ cells.length, cut cells c (P.cellsOf T))
    | _ => (False, []))
  | _ => (False, []))
def Ql (P : Program) (σ : St) : List ResultVar → Prop × List (List At)
 | [] => (True, [])
 | r :: rs => ((V4 P σ r).1 ∧ (Ql P σ rs).1, (V4 P σ r).2 :: (Ql P σ rs).2)
theorem Fy {P : Program} {σ : St} {r : ResultVar} (h : (V4 P σ r).1) : O3 P σ r (V4 P σ r).2 := by
 cases r with
 | tmp t =>
  simp only [V4] at h ⊢
  simp only [O3]
  cases hx : σ.get t with
  | one x => rw [hx] at h; exact ⟨rfl, h⟩
  | agg xs =>
   rw [hx] at h
   match xs, h with
   | [], h => exact ⟨rfl, h⟩
   | [x], h => exact h.elim
   | x :: y :: xs, h => exact ⟨rfl, h⟩
  | any => rw [hx] at h; exact h.elim
  | tup xs => rw [hx] at h; exact h.elim
  | cnd g x => rw [hx] at h; exact h.elim
  | fix u x => rw [hx] at h; exact h.elim
 | cell t T =>
  simp only [V4] at h ⊢
  split at h
  ·rename_i u c hx
   split at h
   ·rename_i cells ho
    exact ⟨u, c, cells, hx, ho, h.1, h.2.1, h.2.2.1, h.2.2.2, rfl⟩
   ·exact h.elim
  ·exact h.elim
theorem W1 {P : Program} {σ : St} : ∀ {rs : List ResultVar}, (Ql P σ rs).1 → V6 P σ rs (Ql P σ rs).2
 | [], _ => rfl
 | _ :: _, h => ⟨_, _, Fy h.1, W1 h.2, rfl⟩
theorem Ce {P : Program} {fn : Func} {σ : St} {res : List (List D)} {rv : List ResultVar} (hf : fn.results = rv.toArray) (h : (Ql P σ rv).1 ∧ kQ σ (Ql P σ rv).2 = some res) : I7 P fn false res .ret σ :=
 ⟨.inl rfl, _, by rw [hf]; exact W1 h.1, by simpa using h.2⟩
theorem BJ {P : Program} {fn : Func} {σ : St} {res : List (List D)} {rv : List ResultVar} (hf : fn.results = rv.toArray) (h : (Ql P σ rv).1 ∧ jG σ (Ql P σ rv).2 = some res ∧ (YF (Ql P σ rv).2.flatten).Nodup) : I7 P fn true res .ret σ :=
 ⟨.inl rfl, _, by rw [hf]; exact W1 h.1, by simpa using h.2⟩
theorem B8 {P : Program} {fn : Func} {σ : St} {res : List (List D)} {rv : List ResultVar} (hf : fn.results = rv.toArray) (h : (Ql P σ rv).1 ∧ JV σ (Ql P σ rv).2 = some res ∧ Qf σ (Ql P σ rv).2 ∧ (YF (Ql P σ rv).2.flatten).Nodup) : F0 P fn res .ret σ :=
 ⟨.inl rfl, _, by rw [hf]; exact W1 h.1, h.2⟩
attribute [simp] HC JV X1 mvD Qf X0 Ru Z3 ks Jr kD kr St.Zn Gr FQ IL Cm xT kg SL St.J9 V.J9 V.It MM jQ KL At.isT
attribute [simp] isB bOf Ev stops evS I2 evV MS GJ W7 Wo Jl kb kK WJ TO lkI lkK Vm.look cst unc gOf xP V.flat V.cells St.put St.Zt St.new St.DK St.DP St.D8 St.CE Fi Fm En
 R7 W5 ldV cut place rowOf Jc Qr At.Ib XQ V.Qn YI ya kT Mg vOf QL zO Ql V4 kQ jG ownRow z7 YF xa Tp Z7 At.ref D.scalar Jz D.IQ zD DJ yA
end Go.Vm
namespace Go.Vm
open Go.RowKit
def CT (w : World) (S : Nat → Prop) (cs : List Value) (row' : List D) (x : D) (e : Ending) (w' : World) : Prop :=
 ∃ u, e = .returned u ∧ Rd (fun _ _ => False) w' u x ∧ Yo (fun b => b < w.heap.size ∧ ¬ S b) w w' ∧ QK w' cs row' (fun b => S b ∨ (w.heap.size ≤ b ∧ b < w'.heap.size))
def Qq (P : Program) (f : FuncId) (row : List D) (args : List (List D)) (row' : List D) (x : D) : Prop :=
 Ts P f = true ∧ ∀ (T : CS) (S : Nat → Prop) (w : World) (v : Value) (cs vals : List Value), (∀ b k, T b k → b < w.heap.size ∧ ¬ S b) → (∀ b, S b → b < w.heap.size) → Qk v cs → QK w cs row S →
  Zp (fun v row => ∃ cs, Qk v cs ∧ Zp (Rd T w) cs row) vals args → Calls P f (v :: vals).toArray w (CT w S cs row' x)
section
variable {P : Program} {T0 : CS} {B : Nat → Prop} {σ : St} {a : Act} {w w' : World} {X X' : Nat → Prop} {h : Nat → Nat → Hd}
theorem Rel.FG (r : Rel T0 B σ a w X h) (σ' : St) (hlen : σ'.length = σ.length) (hget : ∀ t, σ'.get t = σ.get t) (L : Nat → Nat → Prop) (hL : ∀ t j, L t j → σ.ob t j ≠ .none) (hob : ∀ t j, ¬ L t j → σ'.ob t j = σ.ob t j) (hsh : ∀ t j, L t j → (σ.ob t j).F8 (σ'.ob t j))
  (hsz : w.heap.size ≤ w'.heap.size) (hw : ∀ k, k < w.heap.size → (∀ t j, L t j → ¬ (h t j).u k) → w'.heap[k]? = w.heap[k]?)
  (h' : Nat → Nat → Hd) (hh : ∀ t j, ¬ L t j → h' t j = h t j) (hv : ∀ t j, L t j → (h' t j).v = (h t j).v) (hu : ∀ t j b, L t j → (h' t j).u b → (∃ t' j', L t' j' ∧ (h t' j').u b) ∨ (w.heap.size ≤ b ∧ b < w'.heap.size))
  (hub : ∀ t j b, L t j → blk (h' t j).v = some b → (h' t j).u b) (hinj : ∀ t j t' j' b, L t j → L t' j' → (h' t j).u b → (h' t' j').u b → t = t' ∧ j = j')
  (p : At → Bool) (hp : σ.J9 p = false) (hn : ∀ t j, L t j → (∀ i c o, p (.tref t j i c o) = true) ∨ (h' t j).n = (h t j).n)
  (hnew : ∀ t j, L t j → Q5 (Tof T0 X) h' σ'.ob w' (h' t j) (σ'.ob t j)) : Rel T0 B σ' a w' X h' := by
 have hT : ∀ b k v, Tof T0 X b k → w.cell? ⟨b, k, none⟩ = some v → w'.cell? ⟨b, k, none⟩ = some v ∧ Tof T0 X b k := by
  intro b k v hb hcell
  refine ⟨?_, hb⟩
  have hk : ∀ t j, L t j → ¬ (h t j).u b := by
   intro t j hl hu'
   have hown := r.own t j b (hL t j hl) hu'
   rcases hb with hb | hb
   ·exact hown.1 (r.hT _ _ hb)
   ·exact hown.2.1 hb
  rw [World.cell?_of_block (hw b (r.Tlt hb) hk)]; exact hcell
 have hhv : ∀ u i, (h' u i).v = (h u i).v := by
  intro u i
  by_cases hc : L u i
  ·exact hv u i hc
  ·rw [hh u i hc]
 have hsl : ∀ u i q size rows, σ'.ob u i = .arr q size rows → ∃ rows0, σ.ob u i = .arr q size rows0 ∧ rows0.length = rows.length := by
  intro u i q size rows ho
  by_cases hc : L u i
  ·have h1 := hsh u i hc
   rw [ho] at h1
   cases ho0 : σ.ob u i with
   | arr q0 s0 r0 => rw [ho0] at h1; obtain ⟨rfl, rfl, hl⟩ := h1; exact ⟨r0, rfl, hl⟩
   | none => rw [ho0] at h1; exact h1.elim
   | box c => rw [ho0] at h1; exact h1.elim
   | lit s r => rw [ho0] at h1; exact h1.elim
  ·rw [hob u i hc] at ho; exact ⟨rows, ho, rfl⟩
 have hll : ∀ u i size rows, σ'.ob u i = .lit size rows → ∃ rows0, σ.ob u i = .lit size rows0 ∧ rows0.length = rows.length := by
  intro u i size rows ho
  by_cases hc : L u i
  ·have h1 := hsh u i hc
   rw [ho] at h1
   cases ho0 : σ.ob u i with
   | arr q0 s0 r0 => rw [ho0] at h1; exact h1.elim
   | none => rw [ho0] at h1; exact h1.elim
   | box c => rw [ho0] at h1; exact h1.elim
   | lit s r => rw [ho0] at h1; obtain ⟨rfl, hl⟩ := h1; exact ⟨r, rfl, hl⟩
  ·rw [hob u i hc] at ho; exact ⟨rows, ho, rfl⟩
 have hbl : ∀ u i cells, σ'.ob u i = .box cells → ∃ cells0, σ.ob u i = .box cells0 := by
  intro u i cells ho
  by_cases hc : L u i
  ·have h1 := hsh u i hc
   rw [ho] at h1
   cases ho0 : σ.ob u i with
   | arr q0 s0 r0 => rw [ho0] at h1; exact h1.elim
   | none => rw [ho0] at h1; exact h1.elim
   | box c => exact ⟨c, rfl⟩
   | lit s r => rw [ho0] at h1; exact h1.elim
  ·rw [hob u i hc] at ho; exact ⟨cells, ho⟩
 have at_ : ∀ {x : At} {v : Value}, p x = false → Z2 (Tof T0 X) h σ.ob w x v → Z2 (Tof T0 X) h' σ'.ob w' x v := by
  intro x v hpx rx
  cases x with
  | any => exact rx
  | d x => exact Rd.mono hT rx
  | nil s => exact rx
  | sref u i lo len =>
   refine ⟨rx.1, fun q size rows ho => ?_, fun size rows ho => ?_⟩
   ·obtain ⟨rows0, ho0, hl⟩ := hsl u i q size rows ho
    rw [hhv, ← hl]; exact rx.2.1 q size rows0 ho0
   ·obtain ⟨rows0, ho0, hl⟩ := hll u i size rows ho
    rw [hhv, ← hl]; exact rx.2.2 size rows0 ho0
  | ptr u i k c =>
   refine ⟨rx.1, fun q size rows ho => ?_⟩
   obtain ⟨rows0, ho0, hl⟩ := hsl u i q size rows ho
   rw [hhv]; exact rx.2 q size rows0 ho0
  | bptr u c =>
   refine ⟨rx.1, fun cells ho => ?_⟩
   obtain ⟨cells0, ho0⟩ := hbl u 0 cells ho
   rw [hhv]; exact rx.2 cells0 ho0
  | fn f u =>
   refine ⟨rx.1, fun cells ho => ?_⟩
   obtain ⟨cells0, ho0⟩ := hbl u 0 cells ho
   rw [hhv]; exact rx.2 cells0 ho0
  | tref u i k c o =>
   refine ⟨rx.1, fun size rows ho => ?_⟩
   obtain ⟨rows0, ho0, hl⟩ := hsl u i true size rows ho
   have h1 := rx.2 size rows0 ho0
   by_cases hc : L u i
   ·rcases hn u i hc with hn | hn
    ·rw [hn] at hpx; cases hpx
    ·rw [hn]; exact h1
   ·rw [hh u i hc]; exact h1
  | rptr rr c =>
   obtain ⟨b, off, g, e, hk⟩ := rx
   exact ⟨b, off, g, e, fun k d hd => ⟨(hT _ _ _ (hk k d hd).2.1 (hk k d hd).1).1, (hk k d hd).2.1, Rd.mono hT (hk k d hd).2.2⟩⟩
 have hne_ : ∀ u i, σ'.ob u i ≠ .none → σ.ob u i ≠ .none := by
  intro u i hn'
  by_cases hu' : L u i
  ·exact hL u i hu'
  ·rw [hob u i hu'] at hn'; exact hn'
 refine ⟨by rw [r.size, hlen], r.defers, fun b hb => Nat.lt_of_lt_of_le (r.hB b hb) hsz, fun b hb => ⟨(r.hX b hb).1, Nat.lt_of_lt_of_le (r.hX b hb).2 hsz⟩, r.hT, fun u hu' => ?_, fun u i => ?_, fun u i b' hne hb' => ?_, fun u i b' hne hb' => ?_, fun u i u' i' b' hne hne' hb1 hb2 => ?_⟩
 ·rw [hlen] at hu'
  rw [hget]; exact XZ.map at_ (St.Ug hp u) (r.slot u hu')
 ·by_cases hc : L u i
  ·exact hnew u i hc
  ·rw [hob u i hc, hh u i hc]
   exact Q5.map at_ hT (fun ho b => r.ub u i b ho) (fun ho b hb => hw b (r.own u i b ho hb).2.2 (fun t j hl hbt => by
    obtain ⟨e1, e2⟩ := r.inj u i t j b ho (hL t j hl) hb hbt
    rw [e1, e2] at hc; exact hc hl)) (St.Rz hp u i) (r.obj u i)
 ·by_cases hc : L u i
  ·exact hub u i b' hc hb'
  ·rw [hh u i hc] at hb' ⊢; exact r.ub u i b' (hne_ u i hne) hb'
 ·by_cases hc : L u i
  ·rcases hu u i b' hc hb' with ⟨t, j, hl, h1⟩ | h1
   ·have := r.own t j b' (hL t j hl) h1; exact ⟨this.1, this.2.1, by omega⟩
   ·exact ⟨fun hb => by have := r.hB b' hb; omega, fun hx => by have := (r.hX b' hx).2; omega, h1.2⟩
  ·rw [hh u i hc] at hb'; have := r.own u i b' (hne_ u i hne) hb'; exact ⟨this.1, this.2.1, by omega⟩
 ·by_cases hc : L u i
  ·by_cases hc' : L u' i'
   ·exact hinj u i u' i' b' hc hc' hb1 hb2
   ·rw [hh u' i' hc'] at hb2
    rcases hu u i b' hc hb1 with ⟨t, j, hl, h1⟩ | h1
    ·obtain ⟨e1, e2⟩ := r.inj t j u' i' b' (hL t j hl) (hne_ u' i' hne') h1 hb2
     rw [e1, e2] at hl; exact absurd hl hc'
    ·have := r.own u' i' b' (hne_ u' i' hne') hb2; omega
  ·rw [hh u i hc] at hb1
   by_cases hc' : L u' i'
   ·rcases hu u' i' b' hc' hb2 with ⟨t, j, hl, h1⟩ | h1
    ·obtain ⟨e1, e2⟩ := r.inj t j u i b' (hL t j hl) (hne_ u i hne) h1 hb1
     rw [e1, e2] at hl; exact absurd hl hc
    ·have := r.own u i b' (hne_ u i hne) hb1; omega
   ·rw [hh u' i' hc'] at hb2
    exact r.inj u i u' i' b' (hne_ u i hne) (hne_ u' i' hne') hb1 hb2
theorem FJ {cs : List Value} {row : List D} {S : Nat → Prop} (ho : QK w cs row S) : ∃ (hf : Nat → Hd) (Sk : Nat → Nat → Prop), (∀ j c, cs[j]? = some c → (hf j).v = c) ∧ (∀ k b, Sk k b → S b) ∧ (∀ i j b, Sk i b → Sk j b → i = j) ∧
  ∀ j size rows, row[j]? = some (.sl size rows) → (∀ b, (hf j).u b → Sk j b) ∧ (∀ b, blk (hf j).v = some b → (hf j).u b) ∧ ∀ T h ob, Q5 T h ob w (hf j) (.arr true size rows) := by
 obtain ⟨hl, Sk, h1, h2, h3⟩ := ho
 have hex : ∀ j, ∃ hd : Hd, (∀ c, cs[j]? = some c → hd.v = c) ∧ (∀ size rows, row[j]? = some (.sl size rows) → (∀ b, hd.u b → Sk j b) ∧ (∀ b, blk hd.v = some b → hd.u b) ∧ ∀ T h ob, Q5 T h ob w hd (.arr true size rows)) := by
  intro j
  cases hj : row[j]? with
  | none => exact ⟨Hd.of ((cs[j]?).getD undef), fun c hc' => by simp [Hd.of, hc'], fun size rows hh => by cases hh⟩
  | some dd =>
   have hlt' : j < cs.length := by rw [hl]; exact (List.getElem?_eq_some_iff.1 hj).1
   have hcj : cs[j]? = some cs[j] := List.getElem?_eq_getElem hlt'
   cases dd with
   | int k n => exact ⟨Hd.of cs[j], fun c hc' => by rw [hcj] at hc'; cases hc'; rfl, fun size rows hh => by cases hh⟩
   | bool k => exact ⟨Hd.of cs[j], fun c hc' => by rw [hcj] at hc'; cases hc'; rfl, fun size rows hh => by cases hh⟩
   | str k => exact ⟨Hd.of cs[j], fun c hc' => by rw [hcj] at hc'; cases hc'; rfl, fun size rows hh => by cases hh⟩
   | unk => exact ⟨Hd.of cs[j], fun c hc' => by rw [hcj] at hc'; cases hc'; rfl, fun size rows hh => by cases hh⟩
   | sl size rows =>
    have ho := h1 j _ _ hcj hj
    generalize hv : cs[j] = v at ho
    cases ho with
    | sl v size rows S e xs Sk' ho hz hb hl hk hs' hd' =>
     refine ⟨⟨v, fun k => (xs[k]?).getD undef, Sk j⟩, fun c hc' => by rw [hcj, hv] at hc'; cases hc'; rfl, fun size' rows' hh => ?_⟩
     cases hh
     exact ⟨fun b hb => hb, hb, fun T h ob => ⟨e, xs, ho, hz, ⟨hl, Sk', hk, fun k b hb => hs' k b hb, hd'⟩, fun k x d hx _ _ => by simp [hx]⟩⟩
 obtain ⟨hf, hfs⟩ := Classical.axiomOfChoice hex
 exact ⟨hf, Sk, fun j => (hfs j).1, h2, h3, fun j => (hfs j).2⟩
theorem QK.top {T : CS} {cs : List Value} {row : List D} {S : Nat → Prop} (ho : QK w cs row S) : Zp (xq T w) cs row := by
 obtain ⟨hl, Sk, h1, h2, h3⟩ := ho
 refine Zp.yG hl (fun k x d hx hd => ?_)
 have ho := h1 k x d hx hd
 cases ho with
 | int k n => exact Rd.int _ _
 | bool b => exact Rd.bool _
 | str s => exact Rd.str _
 | unk v h => exact Rd.unk _ h
 | sl v size rows S e xs Sk' ho hz hb hl hk hs' hd' => exact ⟨e, xs, ho⟩
theorem Jq : ∀ (ds : List D) (k : Nat) (size : Nat) (rows : List (List D)), ds[k]? = some (.sl size rows) → YD (Z3 [] ds) k = .arr true size rows
 | [], k, size, rows, h => by simp at h
 | .sl s r :: ds, 0, size, rows, h => by simp at h; obtain ⟨rfl, rfl⟩ := h; rfl
 | .int _ _ :: ds, 0, size, rows, h => by simp at h
 | .bool _ :: ds, 0, size, rows, h => by simp at h
 | .str _ :: ds, 0, size, rows, h => by simp at h
 | .unk :: ds, 0, size, rows, h => by simp at h
 | .sl s r :: ds, k + 1, size, rows, h => by have := Jq ds k size rows (by simpa using h); simpa [Z3, YD] using this
 | .int _ _ :: ds, k + 1, size, rows, h => by have := Jq ds k size rows (by simpa using h); simpa [Z3, YD] using this
 | .bool _ :: ds, k + 1, size, rows, h => by have := Jq ds k size rows (by simpa using h); simpa [Z3, YD] using this
 | .str _ :: ds, k + 1, size, rows, h => by have := Jq ds k size rows (by simpa using h); simpa [Z3, YD] using this
 | .unk :: ds, k + 1, size, rows, h => by have := Jq ds k size rows (by simpa using h); simpa [Z3, YD] using this
theorem Ku : ∀ (ds : List D) (k : Nat), YD (Z3 [] ds) k ≠ .none → ∃ size rows, ds[k]? = some (.sl size rows)
 | [], k, h => by simp [Z3, YD] at h
 | .sl s r :: ds, 0, h => ⟨s, r, rfl⟩
 | .int _ _ :: ds, 0, h => by simp [Z3, YD] at h
 | .bool _ :: ds, 0, h => by simp [Z3, YD] at h
 | .str _ :: ds, 0, h => by simp [Z3, YD] at h
 | .unk :: ds, 0, h => by simp [Z3, YD] at h
 | .sl s r :: ds, k + 1, h => by have := Ku ds k (by simpa [Z3, YD] using h); simpa using this
 | .int _ _ :: ds, k + 1, h => by have := Ku ds k (by simpa [Z3, YD] using h); simpa using this
 | .bool _ :: ds, k + 1, h => by have := Ku ds k (by simpa [Z3, YD] using h); simpa using this
 | .str _ :: ds, k + 1, h => by have := Ku ds k (by simpa [Z3, YD] using h); simpa using this
 | .unk :: ds, k + 1, h => by have := Ku ds k (by simpa [Z3, YD] using h); simpa using this
theorem MO {σ : St} {t : Nat} : ∀ (ds : List D) (k : Nat), (∀ i size rows, ds[i]? = some (.sl size rows) → σ.ob t (k + i) = .arr true size rows) →
  X1 σ (QL t k ds) = some ds ∧ X0 σ (QL t k ds) ∧ (YF (QL t k ds)).Nodup ∧ ∀ p ∈ YF (QL t k ds), p.1 = t ∧ k ≤ p.2
 | [], k, _ => ⟨rfl, trivial, List.nodup_nil, fun p hp => by cases hp⟩
 | d :: ds, k, ho => by
  obtain ⟨h1, h2, h3, h4⟩ := MO ds (k + 1) (fun i size rows hi => by rw [show k + 1 + i = k + (i + 1) by omega]; exact ho (i + 1) size rows (by simpa using hi))
  cases d with
  | sl size rows =>
   have h0 := ho 0 size rows (by simp)
   rw [Nat.add_zero] at h0
   refine ⟨by simp [QL, X1, mvD, h0, h1], ⟨by simp [Ru, h0], h2⟩, ?_, fun p hp => ?_⟩
   ·simp only [QL, YF, List.nodup_cons]
    exact ⟨fun hm => by have := (h4 _ hm).2; simp at this; omega, h3⟩
   ·simp only [QL, YF, List.mem_cons] at hp
    rcases hp with rfl | hp
    ·exact ⟨rfl, Nat.le_refl _⟩
    ·have := h4 p hp; exact ⟨this.1, by omega⟩
  | int k' n => exact ⟨by simp [QL, X1, mvD, h1], ⟨trivial, h2⟩, h3, fun p hp => by have := h4 p hp; exact ⟨this.1, by omega⟩⟩
  | bool b => exact ⟨by simp [QL, X1, mvD, h1], ⟨trivial, h2⟩, h3, fun p hp => by have := h4 p hp; exact ⟨this.1, by omega⟩⟩
  | str s => exact ⟨by simp [QL, X1, mvD, h1], ⟨trivial, h2⟩, h3, fun p hp => by have := h4 p hp; exact ⟨this.1, by omega⟩⟩
  | unk => exact ⟨by simp [QL, X1, mvD, h1], ⟨trivial, h2⟩, h3, fun p hp => by have := h4 p hp; exact ⟨this.1, by omega⟩⟩
def Wd (n : Nat) (v : Value) (row : List D) (args : List (List D)) : St := (.fix v (vOf (QL 0 0 row)), Z3 [] row) :: (Tp args ++ List.replicate (n - (args.length + 1)) (V.any, []))
theorem EJ {T : CS} {S : Nat → Prop} {n : Nat} {v : Value} {cs : List Value} {row : List D} {args : List (List D)} {vals : List Value} (hT : ∀ b k, T b k → b < w.heap.size ∧ ¬ S b) (hS : ∀ b, S b → b < w.heap.size) (hf : Qk v cs) (ho : QK w cs row S)
  (ha : Zp (fun v row => ∃ cs, Qk v cs ∧ Zp (Rd T w) cs row) vals args) :
  Qo T (fun b => b < w.heap.size ∧ ¬ S b) (Wd n v row args) { tmps := (v :: vals).toArray ++ Array.replicate (n - (v :: vals).toArray.size) undef, defers := [] } w := by
 have hl := ha.length
 obtain ⟨hfd, Sk, k1, k2, k3, k4⟩ := FJ ho
 refine ⟨fun _ => False, fun t j => if t = 0 then hfd j else Hd.of undef, ?_⟩
 have hob0 : ∀ j, (Wd n v row args).ob 0 j = YD (Z3 [] row) j := fun j => rfl
 have hobs : ∀ t j, (Wd n v row args).ob (t + 1) j = .none := by
  intro t j
  unfold St.ob Wd
  rw [List.getElem?_cons_succ]
  rcases Nat.lt_or_ge t args.length with h | h
  ·rw [List.getElem?_append_left (by rw [Qb]; exact h), Ws, List.getElem?_eq_getElem h]
   simp [YD]
  ·rw [List.getElem?_append_right (by rw [Qb]; exact h), List.getElem?_replicate]
   split
   ·rename_i e he
    split at he
    ·cases he; simp [YD]
    ·cases he
   ·rfl
 have hz : ∀ t j, (Wd n v row args).ob t j ≠ .none → t = 0 ∧ ∃ size rows, row[j]? = some (.sl size rows) := by
  intro t j hne
  cases t with
  | zero => exact ⟨rfl, Ku row j hne⟩
  | succ t => exact absurd (hobs t j) hne
 have hTT : ∀ b k v, T b k → w.cell? ⟨b, k, none⟩ = some v → w.cell? ⟨b, k, none⟩ = some v ∧ Tof T (fun _ => False) b k := fun b k v hb hc => ⟨hc, .inl hb⟩
 refine ⟨by simp [Wd, Qb, hl]; omega, rfl, (fun b hb => hb.1), (fun b hb => hb.elim), hT, fun t ht => ?_, fun t j => ?_, fun t j b hne hb => ?_, fun t j b hne hb => ?_, fun t j t' j' b hne hne' hb hb' => ?_⟩
 ·cases t with
  | zero =>
   have hval : ((v :: vals).toArray ++ Array.replicate (n - (v :: vals).toArray.size) undef).getD 0 undef = v := by
    rw [Array.getD_eq_getD_getElem?, Array.getElem?_append_left (by simp)]
    simp
   rw [hval]
   refine ⟨rfl, TN hf (V9 ho.top (fun i size rows hi => ⟨true, ?_⟩) (fun i c hc => ?_))⟩
   ·rw [Nat.zero_add, hob0]; exact Jq row i size rows hi
   ·rw [Nat.zero_add]; simp only [if_true]; exact k1 i c hc
  | succ t =>
   unfold St.get Wd
   rw [List.getElem?_cons_succ]
   rcases Nat.lt_or_ge t args.length with hlt | hge
   ·rw [List.getElem?_append_left (by rw [Qb]; exact hlt), Ws, List.getElem?_eq_getElem hlt]
    obtain ⟨v', hv', cs', hf', hal'⟩ := ha.get' t args[t] (List.getElem?_eq_getElem hlt)
    have hval : ((v :: vals).toArray ++ Array.replicate (n - (v :: vals).toArray.size) undef).getD (t + 1) undef = v' := by
     rw [Array.getD_eq_getD_getElem?, Array.getElem?_append_left (by simp; omega)]
     simp [hv']
    simp only [hval]
    exact (TN hf' (T9 (hal'.imp fun _ _ => Rd.mono hTT))).up
   ·rw [List.getElem?_append_right (by rw [Qb]; exact hge), List.getElem?_replicate]
    split
    ·rename_i e he
     split at he
     ·cases he; trivial
     ·cases he
    ·trivial
 ·by_cases hne : (Wd n v row args).ob t j = .none
  ·rw [hne]; trivial
  ·obtain ⟨rfl, size, rows, hj⟩ := hz t j hne
   rw [hob0, Jq row j size rows hj]
   simp only [if_true]
   exact (k4 j size rows hj).2.2 _ _ _
 ·obtain ⟨rfl, size, rows, hj⟩ := hz t j hne
  simp only [if_true] at hb ⊢
  exact (k4 j size rows hj).2.1 b hb
 ·obtain ⟨rfl, size, rows, hj⟩ := hz t j hne
  simp only [if_true] at hb
  have := k2 j b ((k4 j size rows hj).1 b hb)
  exact ⟨fun hh => hh.2 this, fun hh => hh, hS b this⟩
 ·obtain ⟨rfl, size, rows, hj⟩ := hz t j hne
  obtain ⟨rfl, size', rows', hj'⟩ := hz t' j' hne'
  simp only [if_true] at hb hb'
  exact ⟨rfl, k3 j j' b ((k4 j size rows hj).1 b hb) ((k4 j' size' rows' hj').1 b hb')⟩
def Cp (P : Program) (fn : Func) (v : Value) (row' : List D) (x : D) (e : Exit) (σ : St) : Prop :=
 (e = .ret ∨ e = .normal) ∧ V6 P σ fn.results.toList [[.d x]] ∧ x.scalar = true ∧ σ.head? = some (.fix v (vOf (QL 0 0 row')), Z3 [] row')
theorem Gj {v : Value} {cs cs' : List Value} (h1 : Qk v cs) (h2 : Qk v cs') : cs = cs' := by
 rcases h1 with ⟨c, rfl, rfl, ho⟩ | ⟨hn, rfl⟩
 ·rcases h2 with ⟨c', rfl, rfl, _⟩ | ⟨hn', rfl⟩
  ·rfl
  ·cases ho
 ·rcases h2 with ⟨c', rfl, rfl, ho'⟩ | ⟨hn', he⟩
  ·cases ho'
  ·injection he with he; simpa using he
theorem O9 {f : FuncId} {fn : Func} {c : Code} (hf : P.funcs[f]? = some fn) (hb : fn.body = some c) (hok : Ts P f = true) {row : List D} {args : List (List D)} {row' : List D} {x : D}
  (hw : ∀ v, AWP P c (Cp P fn v row' x) (Wd fn.ntmps v row args)) : Qq P f row args row' x := by
 refine ⟨hok, fun T S w v cs vals hT hS hform hown hargs => calls_of_wp hf hb ?_⟩
 refine wp_mono (hw v T (fun b => b < w.heap.size ∧ ¬ S b) _ w (EJ hT hS hform hown hargs)) ?_
 rintro e a' w' ⟨σ', ⟨he, hres, hsc, hhd⟩, ⟨X, h, r⟩, hkeep⟩
 obtain ⟨vs, css, hrun, hform', hal⟩ := Ww r hres
 cases hal with
 | cons h1 hal =>
  cases hal
  cases h1 with
  | @cons _ c0 _ _ hx h1 =>
   cases h1
   cases hform' with
   | @cons u _ _ _ hu hn =>
    cases hn
    have hu' : u = c0 := by
     rcases hu with ⟨c', he', rfl, _⟩ | ⟨hn, _⟩
     ·cases he'; rfl
     ·simp at hn
    subst hu'
    have goal : a'.defers = [] ∧ ∃ v, (results fn a'.tmps).run P w' = .ok v w' ∧ CT w S cs row' x (.returned v) w' := by
     refine ⟨r.defers, _, hrun, u, rfl, ?_, hkeep, ?_⟩
     ·cases hx with
      | int k n => exact .int _ _
      | bool b => exact .bool _
      | str s => exact .str _
      | unk v h => exact .unk _ h
      | nil => cases hsc
      | sl => cases hsc
     ·have hpos : 0 < σ'.length := by
       cases σ' with
       | nil => simp at hhd
       | cons e σ => simp
      have hg0 : σ'.get 0 = .fix v (vOf (QL 0 0 row')) := by
       cases σ' with
       | nil => simp at hhd
       | cons e σ => simp at hhd; simp [St.get, hhd]
      have ho0 : ∀ j, σ'.ob 0 j = YD (Z3 [] row') j := by
       intro j
       cases σ' with
       | nil => simp at hhd
       | cons e σ => simp at hhd; simp [St.ob, hhd]
      have hslot := r.slot 0 hpos
      rw [hg0] at hslot
      obtain ⟨hveq, hv1⟩ := hslot
      rw [hveq] at hv1
      obtain ⟨cs', hf', hal'⟩ := L0 hv1.up
      rw [Gj hf' hform] at hal'
      obtain ⟨m1, m2, m3, _⟩ := MO (σ := σ') (t := 0) row' 0 (fun i size rows hi => by rw [Nat.zero_add, ho0]; exact Jq row' i size rows hi)
      refine (SC r hal' m1 m2 m3).mono (fun b hb => ?_)
      have := r.KP _ b hb
      by_cases hs : S b
      ·exact .inl hs
      ·refine .inr ⟨?_, this.2.2.1⟩
       rcases Nat.lt_or_ge b w.heap.size with h | h
       ·exact absurd ⟨h, hs⟩ this.1
       ·exact h
    rcases he with rfl | rfl
    ·exact goal
    ·exact goal
theorem L3 (r : Rel T0 B σ a w X h) {o : Oper} {cl : Call} {f : FuncId} {d : Nat} {x0 : Operand} {xs : List Operand} {t0 : TypeId} {ts : List TypeId} {rows0 : List (List D)} {s s' : List (List D)} {n : Nat} {y : D} (hop : o.op = .call cl) (hc : cl.callee = .value (.func f)) (hd : o.dst = some d)
  (ha : cl.args.toList = x0 :: xs) (_hat : cl.argTypes.toList = t0 :: ts) {t j i c : Nat} (hg : gOf (look P σ t0 x0) = true) (hx : unc (look P σ t0 x0) = .one (.tref t j i c none)) {size : Nat} {rows : List (List D)} (ho : σ.ob t j = .arr true size rows) (hi : i < rows.length)
  (hcell : (rows.getD i [])[c]? = some (.sl n s)) (hargs : XQ P σ xs ts rows0) (hst : YI P σ xs ts = true) (hs : Qq P f [.sl n s] rows0 [.sl n s'] y)
  {K : Act → World → Prop} {Q : Exit → Act → World → Prop} (hK : ∀ a' w', Qo T0 B ((σ.Zt t j (.arr true size (rows.set i (place (rows.getD i []) c [.sl n s'])))).put d (.one (.d y))) a' w' → Yo B w w' → K a' w') : o.wp P a w K Q := by
 have hob : σ.ob t j ≠ .none := by rw [ho]; simp
 have h0 := r.obj t j
 rw [ho] at h0
 obtain ⟨e, vs, how, hz, ⟨hl, Sk, o1, o2, o3⟩, hn⟩ := h0
 have hrow : rows[i]? = some (rows.getD i []) := by simp [List.getD_eq_getElem?_getD, List.getElem?_eq_getElem hi]
 have hflat : rows.flatten[i * size + c]? = some (.sl n s) := xM rows size hz i _ hrow c _ hcell
 have hlt : i * size + c < vs.length := by rw [hl]; exact (List.getElem?_eq_some_iff.1 hflat).1
 have hvs : vs[i * size + c]? = some vs[i * size + c] := List.getElem?_eq_getElem hlt
 have hnv := hn _ _ _ hvs hflat rfl
 have har := r.arg (P := P) t0 x0 hx hg
 have hv : a.eval x0 = vs[i * size + c] := (har.2 size rows ho).trans hnv
 have hown := o1 _ _ _ hvs hflat
 have hSu : ∀ b, Sk (i * size + c) b → (h t j).u b := fun b hb => (o2 _ b hb).1
 have hvals := r.XQ true hargs (fun _ => hst)
 simp only [if_true] at hvals
 unfold Oper.wp
 rw [qf hop hc hs.1, Oper.upon_enter]
 rw [show (cl.args.toList.map a.eval).toArray = (vs[i * size + c] :: xs.map a.eval).toArray by rw [ha]; simp [hv]]
 have hT : ∀ b k, Tof T0 X b k → b < w.heap.size ∧ ¬ Sk (i * size + c) b := by
  intro b k hb
  refine ⟨r.Tlt hb, fun hs' => ?_⟩
  have := r.own t j b hob (hSu b hs')
  rcases hb with hb | hb
  ·exact this.1 (r.hT _ _ hb)
  ·exact this.2.1 hb
 refine (hs.2 (Tof T0 X) (Sk (i * size + c)) w _ [vs[i * size + c]] _ hT (fun b hb => (r.own t j b hob (hSu b hb)).2.2) (.inl ⟨_, rfl, rfl, hown.Yv⟩)
  ⟨rfl, fun k b => k = 0 ∧ Sk (i * size + c) b, fun k x dd hx hdd => by
   cases k with
   | zero => simp at hx hdd; subst hx; subst hdd; exact hown.mono (fun b hb => ⟨rfl, hb⟩)
   | succ k => simp at hx, fun k b hb => hb.2, fun p q b hp hq => by rw [hp.1, hq.1]⟩ hvals).mono ?_
 rintro e' w' ⟨u, rfl, hu, hkeep, hown'⟩
 rw [hd]
 obtain ⟨_, Sk2, q1, q2, q3⟩ := hown'
 have own1 := (q1 0 _ _ rfl rfl).mono (q2 0)
 have hBk : Yo B w w' := ⟨hkeep.os, hkeep.tape, hkeep.output, hkeep.size, fun b hb => hkeep.block b ⟨r.hB b hb, fun hs' => (r.own t j b hob (hSu b hs')).1 hb⟩⟩
 have hcs : c + 1 ≤ size := by
  have h1 := (List.getElem?_eq_some_iff.1 hcell).1
  have h2 := hz _ (List.mem_of_getElem? hrow)
  omega
 have hfp := zB size c [D.sl n s'] (by simpa using hcs) rows i _ hrow hz
 have hml : i * size + c + [D.sl n s'].length ≤ rows.flatten.length := by rw [← hl]; simp; omega
 have hrl : (rows.getD i []).length = size := hz _ (List.mem_of_getElem? hrow)
 have hz' : ∀ q ∈ rows.set i (place (rows.getD i []) c [.sl n s']), q.length = size := by
  intro q hq
  rcases List.mem_or_eq_of_mem_set hq with hq | hq
  ·exact hz q hq
  ·rw [hq, XB _ _ _ (by rw [hrl]; simpa using hcs), hrl]
 have hblk : ∀ b, blk (h t j).v = some b → w'.heap[b]? = w.heap[b]? := fun b hb => hkeep.block b ⟨(r.Et hob hb).2.2, fun hs' => (o2 _ b hs').2 hb⟩
 have hobs : ∀ u v, ¬ (u = t ∧ v = j) → (σ.Zt t j (.arr true size (rows.set i (place (rows.getD i []) c [.sl n s'])))).ob u v = σ.ob u v := fun u v hne => by rw [St.XX σ t j _ u v hob, if_neg hne]
 have hself : (σ.Zt t j (.arr true size (rows.set i (place (rows.getD i []) c [.sl n s'])))).ob t j = .arr true size (rows.set i (place (rows.getD i []) c [.sl n s'])) := by rw [St.XX σ t j _ t j hob]; simp
 have R := r.FG (w' := w') (σ.Zt t j (.arr true size (rows.set i (place (rows.getD i []) c [.sl n s'])))) (St.XA _ _ _ _) (fun u => St.XJ _ _ _ _ u) (fun u v => u = t ∧ v = j) (fun u v hh => by rw [hh.1, hh.2]; exact hob) hobs (fun u v hh => by rw [hh.1, hh.2, hself, ho]; simp [Ob.F8])
  hkeep.size (fun k hk hu' => hkeep.block k ⟨hk, fun hs' => hu' t j ⟨rfl, rfl⟩ (hSu k hs')⟩)
  (fun u v => if u = t ∧ v = j then ⟨(h t j).v, (h t j).n, fun b => (h t j).u b ∨ (w.heap.size ≤ b ∧ b < w'.heap.size)⟩ else h u v) (fun u v hh => by simp [hh]) (fun u v hh => by simp [hh])
  (fun u v b hh hb => by
   simp only [hh, and_self, if_true] at hb
   rcases hb with hb | hb
   ·exact .inl ⟨t, j, ⟨rfl, rfl⟩, hb⟩
   ·exact .inr hb)
  (fun u v b hh hb => by simp only [hh, and_self, if_true] at hb ⊢; exact .inl (r.ub t j b hob hb))
  (fun u v u' v' b hh hh' _ _ => ⟨by rw [hh.1, hh'.1], by rw [hh.2, hh'.2]⟩)
  (fun _ => false) (St.zT σ) (fun u v hh => .inr (by simp [hh]))
  (fun u v hh => by
   obtain ⟨rfl, rfl⟩ := hh
   rw [hself]
   simp only [and_self, if_true]
   refine ⟨e, vs, by rw [List.length_set]; exact K2 hblk how, hz', ⟨?_, fun k => if k = i * size + c then (fun b => Sk (i * size + c) b ∨ (w.heap.size ≤ b ∧ b < w'.heap.size)) else Sk k, fun k x dd hx hdd => ?_, fun k b hb => ?_, fun p q b hp hq => ?_⟩, fun k x dd hx hdd hsc => ?_⟩
   ·rw [hfp, XB _ _ _ hml, hl]
   ·rw [hfp] at hdd
    rcases yr _ _ _ hml k dd hdd with ⟨k1, k2, k3⟩ | ⟨k1, k3⟩
    ·have hk : k = i * size + c := by simp at k2; omega
     subst hk
     rw [hvs] at hx; cases hx
     simp at k3; subst k3
     simp only [if_true]; exact own1
    ·have hk : ¬ k = i * size + c := fun hk => k1 ⟨by omega, by simp; omega⟩
     simp only [hk, if_false]
     refine (o1 k x dd hx k3).VS (fun b hb => hkeep.block b ⟨(r.own u v b hob (o2 k b hb).1).2.2, fun hs' => hk (o3 k _ b hb hs')⟩)
   ·by_cases hk : k = i * size + c
    ·simp only [hk, if_true] at hb
     rcases hb with hb | hb
     ·exact ⟨.inl (o2 _ b hb).1, (o2 _ b hb).2⟩
     ·exact ⟨.inr hb, fun hh => by have := (r.Et hob hh).2.2; omega⟩
    ·simp only [hk, if_false] at hb; exact ⟨.inl (o2 k b hb).1, (o2 k b hb).2⟩
   ·by_cases hp' : p = i * size + c
    ·by_cases hq' : q = i * size + c
     ·rw [hp', hq']
     ·simp only [hp', if_true] at hp
      simp only [hq', if_false] at hq
      rcases hp with hp | hp
      ·rw [hp']; exact (o3 _ _ b hp hq)
      ·have := (r.own u v b hob (o2 q b hq).1).2.2; omega
    ·simp only [hp', if_false] at hp
     by_cases hq' : q = i * size + c
     ·simp only [hq', if_true] at hq
      rcases hq with hq | hq
      ·rw [hq']; exact (o3 _ _ b hp hq)
      ·have := (r.own u v b hob (o2 p b hp).1).2.2; omega
     ·simp only [hq', if_false] at hq; exact o3 p q b hp hq
   ·rw [hfp] at hdd
    rcases yr _ _ _ hml k dd hdd with ⟨k1, k2, k3⟩ | ⟨k1, k3⟩
    ·have hk : k = i * size + c := by simp at k2; omega
     subst hk
     rw [hvs] at hx; cases hx; exact hnv
    ·exact hn k x dd hx k3 hsc)
 refine hK _ _ ⟨X, _, R.put d (.one (.d y)) u ?_⟩ hBk
 exact Rd.mono (fun _ _ _ hh => hh.elim) hu
def St.xL : St → List At → List D → St
 | σ, .sref t j _ _ :: xs, .sl size rows :: ds => St.xL (σ.Zt t j (.arr true size rows)) xs ds
 | σ, _ :: xs, _ :: ds => St.xL σ xs ds
 | σ, _, _ => σ
def Kz : List D → List D → Prop
 | .sl s r :: ds, .sl s' r' :: ds' => s = s' ∧ r.length = r'.length ∧ Kz ds ds'
 | .sl _ _ :: _, _ => False
 | _ :: ds, _ :: ds' => Kz ds ds'
 | [], [] => True
 | _, _ => False
def W3 (σ : St) : List At → Prop
 | [] => True
 | .sref t j _ _ :: xs => (match σ.ob t j with | .arr true _ _ => True | _ => False) ∧ W3 σ xs
 | _ :: xs => W3 σ xs
def At.Ey : At → Bool
 | .tref _ _ _ _ _ => true
 | _ => false
theorem zh : ∀ {ds ds' : List D}, Kz ds ds' → ds.length = ds'.length ∧ ∀ (k s : Nat) (r : List (List D)), ds[k]? = some (D.sl s r) → ∃ r' : List (List D), ds'[k]? = some (D.sl s r') ∧ r.length = r'.length
 | [], [], _ => ⟨rfl, fun k s r h => by simp at h⟩
 | [], _ :: _, h => by simp [Kz] at h
 | .sl s r :: ds, [], h => by simp [Kz] at h
 | .int _ _ :: ds, [], h => by simp [Kz] at h
 | .bool _ :: ds, [], h => by simp [Kz] at h
 | .str _ :: ds, [], h => by simp [Kz] at h
 | .unk :: ds, [], h => by simp [Kz] at h
 | .sl s r :: ds, d' :: ds', h => by
  cases d' with
  | sl s' r' =>
   obtain ⟨rfl, h2, h3⟩ := h
   obtain ⟨i1, i2⟩ := zh h3
   refine ⟨by simp [i1], fun k s0 r0 hk => ?_⟩
   cases k with
   | zero => simp at hk; obtain ⟨rfl, rfl⟩ := hk; exact ⟨r', by simp, h2⟩
   | succ k => simpa using i2 k s0 r0 (by simpa using hk)
  | int _ _ => exact h.elim
  | bool _ => exact h.elim
  | str _ => exact h.elim
  | unk => exact h.elim
 | .int _ _ :: ds, d' :: ds', h => by
  obtain ⟨i1, i2⟩ := zh (ds := ds) (ds' := ds') h
  refine ⟨by simp [i1], fun k s0 r0 hk => ?_⟩
  cases k with
  | zero => simp at hk
  | succ k => simpa using i2 k s0 r0 (by simpa using hk)
 | .bool _ :: ds, d' :: ds', h => by
  obtain ⟨i1, i2⟩ := zh (ds := ds) (ds' := ds') h
  refine ⟨by simp [i1], fun k s0 r0 hk => ?_⟩
  cases k with
  | zero => simp at hk
  | succ k => simpa using i2 k s0 r0 (by simpa using hk)
 | .str _ :: ds, d' :: ds', h => by
  obtain ⟨i1, i2⟩ := zh (ds := ds) (ds' := ds') h
  refine ⟨by simp [i1], fun k s0 r0 hk => ?_⟩
  cases k with
  | zero => simp at hk
  | succ k => simpa using i2 k s0 r0 (by simpa using hk)
 | .unk :: ds, d' :: ds', h => by
  obtain ⟨i1, i2⟩ := zh (ds := ds) (ds' := ds') h
  refine ⟨by simp [i1], fun k s0 r0 hk => ?_⟩
  cases k with
  | zero => simp at hk
  | succ k => simpa using i2 k s0 r0 (by simpa using hk)
theorem OQ : ∀ {xs : List At}, W3 σ xs → ∀ (k t j lo len : Nat), xs[k]? = some (At.sref t j lo len) → ∃ size rows, σ.ob t j = .arr true size rows
 | [], _, k, t, j, lo, len, hk => by simp at hk
 | x :: xs, h, 0, t, j, lo, len, hk => by
  simp at hk; subst hk
  have := h.1
  split at this
  ·rename_i s r e; exact ⟨s, r, e⟩
  ·exact this.elim
 | x :: xs, h, k + 1, t, j, lo, len, hk => by
  have h' : W3 σ xs := by cases x <;> first | exact h | exact h.2
  exact OQ h' k t j lo len (by simpa using hk)
theorem VI : ∀ {xs : List At} {t j : Nat}, (t, j) ∈ YF xs → ∃ (k lo len : Nat), xs[k]? = some (At.sref t j lo len)
 | [], t, j, h => by cases h
 | x :: xs, t, j, h => by
  cases x with
  | sref t' j' lo len =>
   simp only [YF, List.mem_cons, Prod.mk.injEq] at h
   rcases h with ⟨rfl, rfl⟩ | h
   ·exact ⟨0, lo, len, rfl⟩
   ·obtain ⟨k, lo, len, hk⟩ := VI h; exact ⟨k + 1, lo, len, by simpa using hk⟩
  | _ => obtain ⟨k, lo, len, hk⟩ := VI (xs := xs) h; exact ⟨k + 1, lo, len, by simpa using hk⟩
theorem St.jA : ∀ (xs : List At) (ds : List D) (σ : St), (σ.xL xs ds).length = σ.length
 | [], ds, σ => by cases ds <;> rfl
 | x :: xs, [], σ => by cases x <;> rfl
 | x :: xs, d :: ds, σ => by
  cases x <;> first | exact St.jA xs ds σ | (cases d <;> first | exact St.jA xs ds σ | (rw [St.xL, St.jA xs ds, St.XA]))
theorem St.Un : ∀ (xs : List At) (ds : List D) (σ : St) (t : Nat), (σ.xL xs ds).get t = σ.get t
 | [], ds, σ, t => by cases ds <;> rfl
 | x :: xs, [], σ, t => by cases x <;> rfl
 | x :: xs, d :: ds, σ, t => by
  cases x <;> first | exact St.Un xs ds σ t | (cases d <;> first | exact St.Un xs ds σ t | (rw [St.xL, St.Un xs ds, St.XJ]))
theorem St.Ry : ∀ (xs : List At) (ds : List D) (σ : St), (YF xs).Nodup → (∀ p ∈ YF xs, σ.ob p.1 p.2 ≠ .none) →
  (∀ t j, (t, j) ∉ YF xs → (σ.xL xs ds).ob t j = σ.ob t j) ∧ (∀ (k t j lo len size : Nat) (rows : List (List D)), xs[k]? = some (At.sref t j lo len) → ds[k]? = some (D.sl size rows) → (σ.xL xs ds).ob t j = .arr true size rows)
 | [], ds, σ, _, _ => ⟨fun t j _ => by cases ds <;> rfl, fun k t j lo len size rows h => by simp at h⟩
 | x :: xs, [], σ, _, _ => ⟨fun t j _ => by cases x <;> rfl, fun k t j lo len size rows _ h => by simp at h⟩
 | x :: xs, d :: ds, σ, hnd, hne => by
  have other : ∀ (hx : YF (x :: xs) = YF xs) (hm : σ.xL (x :: xs) (d :: ds) = σ.xL xs ds) (_ : ∀ t j lo len, x ≠ .sref t j lo len),
    (∀ t j, (t, j) ∉ YF (x :: xs) → (σ.xL (x :: xs) (d :: ds)).ob t j = σ.ob t j) ∧ (∀ (k t j lo len size : Nat) (rows : List (List D)), (x :: xs)[k]? = some (At.sref t j lo len) → (d :: ds)[k]? = some (D.sl size rows) → (σ.xL (x :: xs) (d :: ds)).ob t j = .arr true size rows) := by
   intro hx hm hns
   rw [hx] at hnd hne
   obtain ⟨i1, i2⟩ := St.Ry xs ds σ hnd hne
   rw [hx, hm]
   refine ⟨i1, fun k t j lo len size rows hk hdk => ?_⟩
   cases k with
   | zero => simp at hk; exact absurd hk (hns _ _ _ _)
   | succ k => exact i2 k t j lo len size rows (by simpa using hk) (by simpa using hdk)
  cases x with
  | sref t0 j0 lo0 len0 =>
   simp only [YF, List.nodup_cons] at hnd
   have h0 : σ.ob t0 j0 ≠ .none := hne (t0, j0) (by simp [YF])
   have noSl : ∀ (hm : σ.xL (.sref t0 j0 lo0 len0 :: xs) (d :: ds) = σ.xL xs ds) (_ : ∀ s r, d ≠ .sl s r),
     (∀ t j, (t, j) ∉ YF (.sref t0 j0 lo0 len0 :: xs) → (σ.xL (.sref t0 j0 lo0 len0 :: xs) (d :: ds)).ob t j = σ.ob t j) ∧ (∀ (k t j lo len size : Nat) (rows : List (List D)), (At.sref t0 j0 lo0 len0 :: xs)[k]? = some (At.sref t j lo len) → (d :: ds)[k]? = some (D.sl size rows) → (σ.xL (.sref t0 j0 lo0 len0 :: xs) (d :: ds)).ob t j = .arr true size rows) := by
    intro hm hns
    obtain ⟨i1, i2⟩ := St.Ry xs ds σ hnd.2 (fun p hp => hne p (by simp [YF, hp]))
    rw [hm]
    refine ⟨fun t j hn => i1 t j (fun hh => hn (by simp [YF, hh])), fun k t j lo len size rows hk hdk => ?_⟩
    cases k with
    | zero => simp at hdk; exact absurd hdk (hns _ _)
    | succ k => exact i2 k t j lo len size rows (by simpa using hk) (by simpa using hdk)
   cases d with
   | sl size rows =>
    have hobs : ∀ t j, (σ.Zt t0 j0 (.arr true size rows)).ob t j = if t = t0 ∧ j = j0 then .arr true size rows else σ.ob t j := fun t j => St.XX σ t0 j0 _ t j h0
    obtain ⟨i1, i2⟩ := St.Ry xs ds (σ.Zt t0 j0 (.arr true size rows)) hnd.2 (fun p hp => by
     rw [hobs]; split
     ·simp
     ·exact hne p (by simp [YF, hp]))
    refine ⟨fun t j hn => ?_, fun k t j lo len size' rows' hk hdk => ?_⟩
    ·simp only [YF, List.mem_cons, Prod.mk.injEq, not_or] at hn
     rw [St.xL, i1 t j hn.2, hobs, if_neg hn.1]
    ·rw [St.xL]
     cases k with
     | zero =>
      simp at hk hdk
      obtain ⟨rfl, rfl, _, _⟩ := hk
      obtain ⟨rfl, rfl⟩ := hdk
      rw [i1 _ _ hnd.1, hobs]; simp
     | succ k => exact i2 k t j lo len size' rows' (by simpa using hk) (by simpa using hdk)
   | int _ _ => exact noSl rfl (fun _ _ h => by cases h)
   | bool _ => exact noSl rfl (fun _ _ h => by cases h)
   | str _ => exact noSl rfl (fun _ _ h => by cases h)
   | unk => exact noSl rfl (fun _ _ h => by cases h)
  | any => exact other rfl rfl (fun _ _ _ _ h => by cases h)
  | d _ => exact other rfl rfl (fun _ _ _ _ h => by cases h)
  | nil _ => exact other rfl rfl (fun _ _ _ _ h => by cases h)
  | ptr _ _ _ _ => exact other rfl rfl (fun _ _ _ _ h => by cases h)
  | bptr _ _ => exact other rfl rfl (fun _ _ _ _ h => by cases h)
  | fn _ _ => exact other rfl rfl (fun _ _ _ _ h => by cases h)
  | rptr _ _ => exact other rfl rfl (fun _ _ _ _ h => by cases h)
  | tref _ _ _ _ _ => exact other rfl rfl (fun _ _ _ _ h => by cases h)
theorem LH (r : Rel T0 B σ a w X h) {o : Oper} {cl : Call} {f : FuncId} {d : Nat} {x0 : Operand} {xs : List Operand} {t0 : TypeId} {ts : List TypeId} {rows0 : List (List D)} {row row' : List D} {y : D} (hop : o.op = .call cl) (hc : cl.callee = .value (.func f)) (hd : o.dst = some d)
  (ha : cl.args.toList = x0 :: xs) (hg : gOf (look P σ t0 x0) = true) {ats : List At} (hx : unc (look P σ t0 x0) = vOf ats) (hmv : X1 σ ats = some row) (hdp : W3 σ ats) (hnd : (YF ats).Nodup) (htr : σ.J9 At.Ey = false)
  (hargs : XQ P σ xs ts rows0) (hst : YI P σ xs ts = true) (hs : Qq P f row rows0 row' y) (hlk : Kz row row')
  {K : Act → World → Prop} {Q : Exit → Act → World → Prop} (hK : ∀ a' w', Qo T0 B ((σ.xL ats row').put d (.one (.d y))) a' w' → Yo B w w' → K a' w') : o.wp P a w K Q := by
 obtain ⟨cs, hform, hal⟩ := L0 (r.arg (P := P) t0 x0 hx hg)
 have hok : X0 σ ats := by
  clear hx hmv hnd hal hK
  induction ats with
  | nil => trivial
  | cons x ats ih =>
   cases x with
   | sref t j lo len =>
    refine ⟨?_, ih hdp.2⟩
    have := hdp.1
    simp only [Ru]
    split at this
    ·rename_i e; rw [e]; trivial
    ·exact this.elim
   | _ => exact ⟨trivial, ih hdp⟩
 have hown := SC r hal hmv hok hnd
 obtain ⟨hll, hlk⟩ := zh hlk
 obtain ⟨hml, hmv⟩ := j4 hmv
 have hvals := r.XQ true hargs (fun _ => hst)
 simp only [if_true] at hvals
 have hfree := r.KP (YF ats)
 unfold Oper.wp
 rw [qf hop hc hs.1, Oper.upon_enter]
 rw [show (cl.args.toList.map a.eval).toArray = (a.eval x0 :: xs.map a.eval).toArray by rw [ha]; rfl]
 have hT : ∀ b k, Tof T0 X b k → b < w.heap.size ∧ ¬ X2 σ h (YF ats) b := by
  intro b k hb
  refine ⟨r.Tlt hb, fun hs' => ?_⟩
  have := hfree b hs'
  rcases hb with hb | hb
  ·exact this.1 (r.hT _ _ hb)
  ·exact this.2.1 hb
 refine (hs.2 (Tof T0 X) (X2 σ h (YF ats)) w _ cs _ hT (fun b hb => (hfree b hb).2.2.1) hform hown hvals).mono ?_
 rintro e' w' ⟨u, rfl, hu, hkeep, hown'⟩
 rw [hd]
 have hBk : Yo B w w' := ⟨hkeep.os, hkeep.tape, hkeep.output, hkeep.size, fun b hb => hkeep.block b ⟨r.hB b hb, fun hs' => (hfree b hs').1 hb⟩⟩
 obtain ⟨hf, Sk, k1, k2, k3, k4⟩ := FJ hown'
 -- the place of an object among the atoms
 have hpl : ∀ t j, (t, j) ∈ YF ats → ∃ (k size : Nat) (rows rows' : List (List D)), ats[k]? = some (At.sref t j 0 rows.length) ∧ σ.ob t j = .arr true size rows ∧ row'[k]? = some (D.sl size rows') ∧ rows.length = rows'.length ∧ cs[k]? = some (h t j).v := by
  intro t j hm
  obtain ⟨k, lo, len, hk⟩ := VI hm
  obtain ⟨size, rows, ho⟩ := OQ hdp k t j lo len hk
  have hlt : k < row.length := by rw [← hml]; exact (List.getElem?_eq_some_iff.1 hk).1
  have hd' := hmv k _ _ hk (List.getElem?_eq_getElem hlt)
  simp only [mvD, ho] at hd'
  split at hd'
  ·rename_i hc'
   obtain ⟨rfl, rfl⟩ := hc'
   have hrow : row[k]? = some (.sl size rows) := by rw [List.getElem?_eq_getElem hlt]; exact hd'.symm ▸ rfl
   obtain ⟨rows', hr', hl'⟩ := hlk k size rows hrow
   obtain ⟨v, hv, har⟩ := hal.get k _ hk
   obtain ⟨_, hfull, _⟩ := har.2.1 true size rows ho
   exact ⟨k, size, rows, rows', hk, ho, hr', hl', by rw [hv, hfull rfl rfl]⟩
  ·cases hd'
 have hne : ∀ p ∈ YF ats, σ.ob p.1 p.2 ≠ .none := by
  intro p hp
  obtain ⟨k, size, rows, rows', _, ho, _⟩ := hpl p.1 p.2 hp
  rw [ho]; simp
 obtain ⟨m1, m2⟩ := St.Ry ats row' σ hnd hne
 -- the headers
 have hch : ∀ p : Nat × Nat, ∃ hd : Hd, (p ∉ YF ats → hd = h p.1 p.2) ∧ (p ∈ YF ats → ∃ k lo len : Nat, ats[k]? = some (At.sref p.1 p.2 lo len) ∧ hd = hf k) := by
  intro p
  by_cases hp : p ∈ YF ats
  ·obtain ⟨k, lo, len, hk⟩ := VI (t := p.1) (j := p.2) hp
   exact ⟨hf k, fun hh => absurd hp hh, fun _ => ⟨k, lo, len, hk, rfl⟩⟩
  ·exact ⟨h p.1 p.2, fun _ => rfl, fun hh => absurd hh hp⟩
 obtain ⟨hh, hhs⟩ := Classical.axiomOfChoice hch
 have hin : ∀ t j, (t, j) ∈ YF ats → ∃ (k size : Nat) (rows rows' : List (List D)), ats[k]? = some (At.sref t j 0 rows.length) ∧ σ.ob t j = .arr true size rows ∧ row'[k]? = some (D.sl size rows') ∧ rows.length = rows'.length ∧ cs[k]? = some (h t j).v ∧ hh (t, j) = hf k ∧ (σ.xL ats row').ob t j = .arr true size rows' := by
  intro t j hm
  obtain ⟨k, size, rows, rows', a1, a2, a3, a4, a5⟩ := hpl t j hm
  obtain ⟨k', lo, len, b1, b2⟩ := (hhs (t, j)).2 hm
  have : k = k' := Wp ats k k' t j 0 rows.length lo len hnd a1 b1
  subst this
  exact ⟨k, size, rows, rows', a1, a2, a3, a4, a5, b2, m2 k t j 0 rows.length size rows' a1 a3⟩
 have R := r.FG (w' := w') (σ.xL ats row') (St.jA _ _ _) (fun t => St.Un _ _ _ t) (fun t j => (t, j) ∈ YF ats) (fun t j hm => hne (t, j) hm) (fun t j hm => m1 t j hm)
  (fun t j hm => by obtain ⟨k, size, rows, rows', _, a2, _, a4, _, _, a7⟩ := hin t j hm; rw [a2, a7]; exact ⟨rfl, rfl, a4⟩)
  hkeep.size (fun k hk hu' => hkeep.block k ⟨hk, fun ⟨p, hp, _, hpu⟩ => hu' p.1 p.2 hp hpu⟩) (fun t j => hh (t, j)) (fun t j hm => (hhs (t, j)).1 hm)
  (fun t j hm => by obtain ⟨k, size, rows, rows', _, _, _, _, a5, a6, _⟩ := hin t j hm; rw [a6]; exact k1 k _ a5)
  (fun t j b hm hb => by
   obtain ⟨k, size, rows, rows', _, _, a3, _, _, a6, _⟩ := hin t j hm
   rw [a6] at hb
   rcases k2 k b ((k4 k size rows' a3).1 b hb) with ⟨p, hp, _, hpu⟩ | hb
   ·exact .inl ⟨p.1, p.2, hp, hpu⟩
   ·exact .inr hb)
  (fun t j b hm hb => by
   obtain ⟨k, size, rows, rows', _, _, a3, _, _, a6, _⟩ := hin t j hm
   rw [a6] at hb ⊢; exact (k4 k size rows' a3).2.1 b hb)
  (fun t j t' j' b hm hm' hb hb' => by
   obtain ⟨k, size, rows, rows', a1, _, a3, _, _, a6, _⟩ := hin t j hm
   obtain ⟨k', size', rows2, rows2', c1, _, c3, _, _, c6, _⟩ := hin t' j' hm'
   rw [a6] at hb; rw [c6] at hb'
   have := k3 k k' b ((k4 k size rows' a3).1 b hb) ((k4 k' size' rows2' c3).1 b hb')
   subst this
   rw [a1] at c1; injection c1 with c1; injection c1 with e1 e2; exact ⟨e1, e2⟩)
  At.Ey htr (fun t j _ => .inl (fun _ _ _ => rfl))
  (fun t j hm => by
   obtain ⟨k, size, rows, rows', _, _, a3, _, _, a6, a7⟩ := hin t j hm
   rw [a7, a6]; exact (k4 k size rows' a3).2.2 _ _ _)
 refine hK _ _ ⟨X, _, R.put d (.one (.d y)) u ?_⟩ hBk
 exact Rd.mono (fun _ _ _ hh => hh.elim) hu
end
theorem MX {σ : St} {d d' : Nat} {v : V} (hne : d ≠ d') (h : XT σ d = true) : XT (σ.put d' v) d = true := by
 unfold XT at *; simp only [jW, if_neg hne]; exact h
theorem kX : ∀ (xs : List At) (ds : List D) (σ : St) {d : Nat}, XT σ d = true → XT (σ.xL xs ds) d = true
 | [], ds, σ, d, h => by cases ds <;> exact h
 | x :: xs, [], σ, d, h => by cases x <;> exact h
 | x :: xs, e :: ds, σ, d, h => by
  cases x <;> first | exact kX xs ds σ h | (cases e <;> first | exact kX xs ds σ h | (rw [St.xL]; exact kX xs ds _ (QC h)))
theorem I4 {P : Program} {ops : Array Oper} {bar : Oper → Bool} {o : Oper} {rest : List Oper} {σ : St} {Q : St → Prop} {cl : Call} {f : FuncId} {d : Nat} {x0 : Operand} {xs : List Operand} {t0 : TypeId} {ts : List TypeId} {rows0 : List (List D)} {s s' : List (List D)} {n : Nat} {y : D} {t j i c : Nat} {size : Nat} {rows : List (List D)} (hop : o.op = .call cl) (hc : cl.callee = .value (.func f)) (hgd : o.guard = none) (hd : o.dst = some d) (hbar : bar o = true)
  (ha : cl.args.toList = x0 :: xs) (hat : cl.argTypes.toList = t0 :: ts) (hg : gOf (look P σ t0 x0) = true) (hx : unc (look P σ t0 x0) = .one (.tref t j i c none)) (ho : σ.ob t j = .arr true size rows) (hi : i < rows.length)
  (hcell : (rowAt rows i)[c]? = some (.sl n s)) (hargs : XQ P σ xs ts rows0) (hst : YI P σ xs ts = true) (hs : Qq P f [.sl n s] rows0 [.sl n s'] y)
  (h : Ev P ops bar rest ((σ.Zt t j (.arr true size (rows.set i (place (rowAt rows i) c [.sl n s'])))).put d (.one (.d y))) Q) : zn P ops bar o rest σ Q := by
 refine ⟨_, .inr ⟨hbar, ?_, fun d' hd' hcl => MX (fun e => hd' (by rw [hd, e])) (QC hcl), fun hh => by simp [UE, hop] at hh, fun hh => by first | (simp [VQ, hop] at hh; done) | (unfold VQ at hh; rw [hop] at hh; split at hh <;> simp_all)⟩, X3 h⟩
 rintro T0 B a w K Q' ⟨X, hh, r⟩ hK
 have hw : Region.wanted o (yielded ops a.tmps) = true := by simp [Region.wanted, hgd]
 rw [if_pos hw]
 exact L3 r hop hc hd ha hat hg hx ho hi hcell hargs hst hs hK
theorem H9 {P : Program} {ops : Array Oper} {bar : Oper → Bool} {o : Oper} {rest : List Oper} {σ : St} {Q : St → Prop} {cl : Call} {f : FuncId} {d : Nat} {x0 : Operand} {xs : List Operand} {t0 : TypeId} {ts : List TypeId} {rows0 : List (List D)} {row row' : List D} {y : D} {ats : List At} (hop : o.op = .call cl) (hc : cl.callee = .value (.func f)) (hgd : o.guard = none) (hd : o.dst = some d) (hbar : bar o = true)
  (ha : cl.args.toList = x0 :: xs) (hg : gOf (look P σ t0 x0) = true) (hx : unc (look P σ t0 x0) = vOf ats) (hmv : X1 σ ats = some row) (hdp : W3 σ ats) (hnd : (YF ats).Nodup) (htr : σ.J9 At.Ey = false)
  (hargs : XQ P σ xs ts rows0) (hst : YI P σ xs ts = true) (hs : Qq P f row rows0 row' y) (hlk : Kz row row')
  (h : Ev P ops bar rest ((σ.xL ats row').put d (.one (.d y))) Q) : zn P ops bar o rest σ Q := by
 refine ⟨_, .inr ⟨hbar, ?_, fun d' hd' hcl => MX (fun e => hd' (by rw [hd, e])) (kX _ _ _ hcl), fun hh => by simp [UE, hop] at hh, fun hh => by first | (simp [VQ, hop] at hh; done) | (unfold VQ at hh; rw [hop] at hh; split at hh <;> simp_all)⟩, X3 h⟩
 rintro T0 B a w K Q' ⟨X, hh, r⟩ hK
 have hw : Region.wanted o (yielded ops a.tmps) = true := by simp [Region.wanted, hgd]
 rw [if_pos hw]
 exact LH r hop hc hd ha hg hx hmv hdp hnd htr hargs hst hs hlk hK
end Go.Vm
