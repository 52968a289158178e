/- An abstract machine GP the model of Go, by value, and that it is sound: part Vf. No condition. -/
import Derived.Test.YtngnbcmfckmklaaGreatVb
namespace Go.Vm
open Go.RowKit
def w5 (P : Program) (σ : St) (c : Call) (f : FuncId) (own : Bool) (res : List (List D)) : Prop :=
 ∃ rows, Qs P σ c.args.toList c.argTypes.toList rows /\ JC P f own rows res /\ (Ym P σ c.args.toList c.argTypes.toList = true \/ Kh own res)
def Step (P : Program) (o : Oper) (d : Nat) (σ σ' : St) : Prop :=
 match o.op with
 | .alloc T => σ.fresh d = true /\ QK P T = true /\ ∃ row, kQ P 12 T = some row /\ σ' = σ.new d (.one (.bptr d 0)) [.box row]
 | .box T x => σ.fresh d = true /\ gOf (look P σ T x) = true /\ (unc (look P σ T x)).flat = true /\ YU d (unc (look P σ T x)).cells = false /\ σ' = σ.new d (.one (.bptr d 0)) [.box (unc (look P σ T x)).cells]
 | .buildSlice T n parts => σ.fresh d = true /\ XK P T = true /\ QK P (ZQ P T) = true /\ 0 < P.cellsOf (ZQ P T) /\ parts.toList.length = n /\ n * P.cellsOf (ZQ P T) <= 16777216 /\
   ((∃ rows, FZ P σ (ZQ P T) (P.cellsOf (ZQ P T)) parts.toList 0 rows /\ σ' = σ.new d (.one (.sref d 0 0 rows.length)) [.arr false (P.cellsOf (ZQ P T)) rows]) \/
   (∃ rows, Ns P σ (ZQ P T) (P.cellsOf (ZQ P T)) parts.toList 0 rows /\ YU d rows.flatten = false /\ σ' = σ.new d (.one (.sref d 0 0 rows.length)) [.lit (P.cellsOf (ZQ P T)) rows]))
 | .makeSlice T x y => x = y /\ σ.fresh d = true /\ XK P T = true /\ QK P (ZQ P T) = true /\ 0 < P.cellsOf (ZQ P T) /\
   ∃ q z zr k n, (q = true -> L6 z = true) /\ kQ P 12 (ZQ P T) = some z /\ zD z = some zr /\ UI P σ x k (n : Nat) /\ P.bytesOf (ZQ P T) * n <= 281474976710656 /\ n <= 9223372036854775807 /\ σ' = σ.new d (.one (.sref d 0 0 n)) [.arr q (P.cellsOf (ZQ P T)) (List.replicate n zr)]
 | .call c =>
  (match c.callee with
  | .builtin .append => ∃ x y t, c.args = #[x, y] /\ c.argTypes = #[t, t] /\ gOf (look P σ t x) = true /\ gOf (look P σ t y) = true /\ XK P t = true /\ QK P (ZQ P t) = true /\ 0 < P.cellsOf (ZQ P t) /\
    ∃ iT news σ1, SL σ (unc (look P σ t x)) (P.cellsOf (ZQ P t)) iT σ1 /\ qJ σ (unc (look P σ t y)) (P.cellsOf (ZQ P t)) news /\ σ1.fresh d = true /\
     (iT.length + news.length) * P.bytesOf (ZQ P t) <= 140737488355328 /\ iT.length + news.length <= 9223372036854775807 /\ σ' = σ1.new d (.one (.sref d 0 0 (iT.length + news.length))) [.arr false (P.cellsOf (ZQ P t)) (iT ++ news)]
  | .value (.func f) => (∃ own res, w5 P σ c f own res /\ σ' = σ.put d (j4 res)) \/ (∃ res, w5 P σ c f true res /\ σ.fresh d = true /\ σ' = σ.new d (Vg d res) (xE res.flatten)) \/
    (∃ rows res qs, Qs P σ c.args.toList c.argTypes.toList rows /\ Yv P f rows res /\ Tu qs res.flatten /\ σ.fresh d = true /\ σ' = σ.new d (Vg d res) (YM qs res.flatten))
  | _ => ∃ v, Yg P σ o.op o.type v /\ σ' = σ.put d v)
 | .convert S T x =>
   (∃ v, Yg P σ o.op o.type v /\ σ' = σ.put d v) \/
   (∃ l, gOf (look P σ S x) = true /\ Pe P S = true /\ U0 P T = true /\ qJ σ (unc (look P σ S x)) 1 (Ka l) /\ σ' = σ.put d (.one (.d (.str ⟨l.toArray⟩)))) \/
   (∃ s, gOf (look P σ S x) = true /\ U0 P S = true /\ Pe P T = true /\ unc (look P σ S x) = .one (.d (.str s)) /\ s.size <= 9223372036854775807 /\ σ' = σ.put d (.one (.d (.sl 1 (Ka s.data.toList)))))
 | _ => ∃ v, Yg P σ o.op o.type v /\ σ' = σ.put d v
def xl (P : Program) (σ : St) (T : TypeId) (x y : Operand) (σ' : St) : Prop :=
 qf P T = true /\ gOf (look P σ 0 x) = true /\ gOf (look P σ T y) = true /\ (unc (look P σ T y)).flat = true /\
  (match unc (look P σ 0 x) with
  | .one (.bptr t c) => ∃ cells, σ.ob t 0 = .box cells /\ (unc (look P σ T y)).cells.length = P.cellsOf T /\ c + P.cellsOf T <= cells.length /\ σ' = σ.Z5 t 0 (.box (place cells c (unc (look P σ T y)).cells))
  | .one (.ptr t j i c) => ∃ q size rows ds, σ.ob t j = .arr q size rows /\ i < rows.length /\ rowOf σ (unc (look P σ T y)).cells = some ds /\ zO (unc (look P σ T y)).cells = true /\ ds.length = P.cellsOf T /\ c + P.cellsOf T <= size /\
    (q = true -> ds.all D.scalar = true /\ (cut (rows.getD i []) c (P.cellsOf T)).all D.scalar = true) /\ σ' = σ.Z5 t j (.arr q size (rows.set i (place (rows.getD i []) c ds)))
  | _ => False)
def jU (want : Bool) : V -> Option Bool
 | .one (.d (.bool b)) => some (b == want)
 | .cnd g (.one (.d (.bool b))) => some (g && (b == want))
 | .cnd false _ => some false
 | _ => none
def M8 (P : Program) (o : Oper) (σ : St) (v : V) : Prop :=
 match o.op with
 | .call c =>
  (match c.callee with
  | .value (.func f) => ∃ own res, w5 P σ c f own [res] /\ v = j4 [res]
  | _ => ∃ v0, Yg P σ o.op o.type v0 /\ gOf v0 = true /\ v = unc v0 /\ v.flat = true)
 | _ => ∃ v0, Yg P σ o.op o.type v0 /\ gOf v0 = true /\ v = unc v0 /\ v.flat = true
def XS (P : Program) (ops : Array Oper) (o : Oper) (σ σ' : St) : Prop :=
 match o.guard with
 | none =>
  (match o.dst with
  | some d => Step P o d σ σ'
  | none => (match o.op with | .store T x y => xl P σ T x y σ' | _ => False))
 | some (j, want) => ∃ dj d g v, (ops[j]?).bind (·.dst) = some dj /\ dj < σ.length /\ o.dst = some d /\ jU want (σ.get dj) = some g /\ (g = true -> M8 P o σ v) /\ σ' = σ.put d (.cnd g v)
def Ud (P : Program) (ops : Array Oper) (o : Oper) (σ σ' : St) : Prop :=
 ∀ (T0 : CS) (B : Nat -> Prop) (a : Act) (w : World) (K : Act -> World -> Prop) (Q : Exit -> Act -> World -> Prop), K6 T0 B σ a w -> (∀ a' w', K6 T0 B σ' a' w' -> XB B w w' -> K a' w') ->
  if Region.wanted o (yielded ops a.tmps) then o.wp P a w K Q else K (a.put o.dst undef) w
def JH (σ : St) (d : Nat) : Bool := match σ[d]? with | some (.any, []) => true | some (.one (.d _), []) => true | _ => false
def O3 (o : Oper) (σ σ' : St) : Prop := ∀ d, o.dst ≠ some d -> JH σ d = true -> JH σ' d = true
def Oq (o : Oper) : Bool := match o.op with | .store _ _ _ => true | _ => false
def xT (d : Nat) : Operand -> Bool
 | .tmp t => t == d
 | _ => false
def VI (o : Oper) (d : Nat) : Bool := match o.op with | .store _ p q => !xT d p && !xT d q | _ => false
def Mn : V -> Bool
 | .any => true
 | .one (.d _) => true
 | _ => false
def St.JQ : St -> List (Nat × V) -> St
 | σ, [] => σ
 | σ, p :: l => St.JQ (σ.put p.1 p.2) l
def lG (P : Program) (ops : Array Oper) (o : Oper) (σ σ' : St) : Prop :=
 (σ'.length = σ.length /\ ∀ u, σ'.get u = σ.get u) /\ (∀ l : List (Nat × V), (∀ p ∈ l, VI o p.1 = true /\ Mn p.2 = true) -> Ud P ops o (σ.JQ l) (σ'.JQ l) /\ O3 o (σ.JQ l) (σ'.JQ l)) /\ ∀ t cells, σ.ob t 0 = .box cells -> σ'.ob t 0 = .box cells
def RZ (o : Oper) : Bool := match o.op with | .call ⟨.builtin .append, _, _⟩ => true | _ => false
theorem AL {o : Oper} (h : Oq o = true) : RZ o = false := by
 unfold Oq at h
 split at h
 ·rename_i iS; simp [RZ, iS]
 ·cases h
def OE (o : Oper) (d : Nat) : Bool := !(o.op.operands.toList.any (xT d))
def mo (P : Program) (ops : Array Oper) (o : Oper) (σ σ' : St) : Prop :=
 ∃ d, o.dst = some d /\ σ'.length = σ.length /\ (∀ t, t ≠ d -> σ'.get t = σ.get t /\ (σ.get t).ref d = false) /\ (∀ t j cells, t ≠ d -> σ'.ob t j = .box cells -> σ.ob t j = .box cells /\ YU d cells = false) /\
  (∀ t j q s rows, t ≠ d -> σ'.ob t j = .arr q s rows -> ∃ iW, σ.ob t j = .arr q s iW) /\
  ∀ l : List (Nat × V), (∀ p ∈ l, p.1 ≠ d /\ OE o p.1 = true /\ p.2.ref d = false) -> Ud P ops o (σ.JQ l) (σ'.JQ l) /\ O3 o (σ.JQ l) (σ'.JQ l)
def yQ (P : Program) (ops : Array Oper) (bar : Oper -> Bool) (o : Oper) (σ σ' : St) : Prop := XS P ops o σ σ' \/ (bar o = true /\ Ud P ops o σ σ' /\ O3 o σ σ' /\ (Oq o = true -> lG P ops o σ σ') /\ (RZ o = true -> mo P ops o σ σ'))
def Aa (P : Program) (ops : Array Oper) (bar : Oper -> Bool) : List Oper -> St -> (St -> Prop) -> Prop
 | [], σ, Q => Q σ
 | o :: rest, σ, Q => ∃ σ', yQ P ops bar o σ σ' /\ Aa P ops bar rest σ' Q
section
variable {P : Program} {T0 : CS} {B : Nat -> Prop} {σ : St} {a : Act} {w w' : World} {X X' : Nat -> Prop} {h : Nat -> Nat -> Hd}
theorem NH (d : Nat) : ∀ (n : Nat) (t : TypeId) (row : List At), kQ P n t = some row -> YU d row = false := by
 intro n
 induction n with
 | zero => intro t row hr; simp [kQ] at hr
 | succ n ih =>
  intro t row hr
  have happ : ∀ (rs : List (List At)), (∀ r ∈ rs, YU d r = false) -> YU d rs.flatten = false := by
   intro rs eQ
   have app : ∀ (xs ys : List At), YU d xs = false -> YU d ys = false -> YU d (xs ++ ys) = false := by
    intro xs ys hx hy
    induction xs with
    | nil => exact hy
    | cons x xs bl => simp only [List.cons_append, YU, Bool.or_eq_false_iff] at hx ⊢; exact ⟨hx.1, bl hx.2⟩
   induction rs with
   | nil => rfl
   | cons r rs bl => rw [List.flatten_cons]; exact app _ _ (eQ r (by simp)) (bl (fun r hr => eQ r (by simp [hr])))
  rw [kQ] at hr
  split at hr
  ·cases hr; rfl
  ·cases hr; rfl
  ·cases hr; rfl
  ·cases hr; rfl
  ·rename_i fs _
   simp only [Option.map_eq_some_iff] at hr
   obtain ⟨rs, eQ, rfl⟩ := hr
   refine happ rs ?_
   have : ∀ (l : List Field) (rs : List (List At)), l.mapM (fun f => kQ P n f.type) = some rs -> ∀ r ∈ rs, YU d r = false := by
    intro l
    induction l with
    | nil => intro rs hh r hr; simp at hh; subst hh; cases hr
    | cons f l bl =>
     intro rs hh r hr
     simp only [List.mapM_cons, Option.bind_eq_bind, Option.bind_eq_some_iff] at hh
     obtain ⟨r0, eo, rs', ah, hh⟩ := hh
     simp at hh; subst hh
     rcases List.mem_cons.1 hr with rfl | hr
     ·exact ih f.type _ eo
     ·exact bl rs' ah r hr
   exact this fs.toList rs eQ
  ·simp only [Option.map_eq_some_iff] at hr
   obtain ⟨r0, eo, rfl⟩ := hr
   exact happ _ (fun r hr => by rw [List.eq_of_mem_replicate hr]; exact ih _ _ eo)
  ·cases hr
theorem Ri {o : Oper} {d : Nat} {v : V} (r : Rel T0 B σ a w X h) (hd : o.dst = some d) (hex : ∃ val, (execOp a.eval o).run P w = .ok (.value val) w /\ JN (Tof T0 X) h σ.ob w v val)
  {K : Act -> World -> Prop} {Q : Exit -> Act -> World -> Prop} (hK : ∀ a' w', K6 T0 B (σ.put d v) a' w' -> XB B w w' -> K a' w') : o.wp P a w K Q := by
 obtain ⟨val, iw, hv⟩ := hex
 unfold Oper.wp
 rw [iw, Oper.upon_value, hd]
 exact hK _ _ ⟨X, h, r.put d v val hv⟩ (XB.refl _ _)
theorem uV (r : Rel T0 B σ a w X h) {o : Oper} {d : Nat} {σ' : St} (hd : o.dst = some d) (hs : Step P o d σ σ') {K : Act -> World -> Prop} {Q : Exit -> Act -> World -> Prop}
  (hK : ∀ a' w', K6 T0 B σ' a' w' -> XB B w w' -> K a' w') : o.wp P a w K Q := by
 have g4 : (∃ v, Yg P σ o.op o.type v /\ σ' = σ.put d v) -> o.wp P a w K Q := by
  rintro ⟨v, hv, rfl⟩
  exact Ri r hd (IE r hv) hK
 unfold Step at hs
 split at hs
 ·rename_i T iS
  obtain ⟨hf, hz, row, hO, rfl⟩ := hs
  exact vE r iS hd hf hz hO (NH d _ _ _ hO) hK
 ·rename_i T x iS
  obtain ⟨hf, hg, g5, hr, rfl⟩ := hs
  exact tF r iS hd hf hg g5 hr hK
 ·rename_i T n parts iS
  obtain ⟨hf, h1, h2, h3, h4, h5, ⟨rows, h6, rfl⟩ | ⟨rows, h6, h7, rfl⟩⟩ := hs
  ·exact LU r iS hd hf h1 h2 h3 h4 h5 h6 hK
  ·exact R5 r iS hd hf h1 h2 h3 h4 h5 h6 h7 hK
 ·rename_i T x y iS
  obtain ⟨rfl, hf, h1, h2, h3, q, z, zr, k, n, hq, h4, h5, h6, h7, h8, rfl⟩ := hs
  cases q with
  | false => exact IM r iS hd hf h1 h2 h4 h5 h3 h6 h7 h8 hK
  | true => exact GX r iS hd hf h1 h2 h4 h5 (hq rfl) h3 h6 h7 h8 hK
 ·rename_i c iS
  split at hs
  ·rename_i hc
   obtain ⟨x, y, t, ha, bn, h1, h2, h3, h4, h5, iT, news, σ1, h6, h7, h8, h9, dY, rfl⟩ := hs
   refine By r (t := t) (x := x) (y := y) ?_ hd h1 h2 h3 h4 h5 h6 h7 h8 h9 dY hK
   rw [iS]
   obtain ⟨cc, ca, ct⟩ := c
   simp only at hc ha bn
   rw [hc, ha, bn]
  ·rename_i f hc
   rcases hs with ⟨own, res, ⟨rows, ha, hs, gT⟩, rfl⟩ | ⟨res, ⟨rows, ha, hs, gT⟩, hf, rfl⟩ | ⟨rows, res, qs, ha, hs, hq, hf, rfl⟩
   ·rcases gT with gT | gT
    ·exact W8 r iS hc hd ha true (fun _ => gT) (fun hh => by cases hh) hs hK
    ·exact W8 r iS hc hd ha false (fun hh => by cases hh) (fun _ => gT) hs hK
   ·rcases gT with gT | gT
    ·exact OF r iS hc hd hf ha true (fun _ => gT) (fun hh => by cases hh) hs hK
    ·exact OF r iS hc hd hf ha false (fun hh => by cases hh) (fun _ => gT) hs hK
   ·exact wQ r qs iS hc hd hf ha hs hq hK
  ·exact g4 hs
 ·rename_i S T x iS
  rcases hs with hs | ⟨l, h1, h2, h3, h4, rfl⟩ | ⟨s, h1, h2, h3, h4, h5, rfl⟩
  ·exact g4 hs
  ·exact Ri r hd (OB r iS h1 h2 h3 h4) hK
  ·exact P9 r iS hd h1 h2 h3 h4 h5 hK
 ·exact g4 hs
theorem AN (r : Rel T0 B σ a w X h) {o : Oper} {T : TypeId} {x y : Operand} {σ' : St} (iS : o.op = .store T x y) (hd : o.dst = none) (hs : xl P σ T x y σ') {K : Act -> World -> Prop} {Q : Exit -> Act -> World -> Prop}
  (hK : ∀ a' w', K6 T0 B σ' a' w' -> XB B w w' -> K a' w') : o.wp P a w K Q := by
 obtain ⟨ht, eb, ec, g5, hs⟩ := hs
 split at hs
 ·rename_i t c hx
  obtain ⟨cells, ho, hl, hle, rfl⟩ := hs
  exact Hw r iS hd ht eb ec hx ho g5 hl hle hK
 ·rename_i t j i c hx
  obtain ⟨q, size, rows, ds, ho, hi, dt, hQ, hl, hle, hq, rfl⟩ := hs
  refine EK r iS hd ht eb ec hx ho hi g5 dt hQ hl hle (fun hh => ⟨fun d ir => ?_, fun k d hk ir => ?_⟩) hK
  ·exact List.all_eq_true.1 (hq hh).1 d ir
  ·refine List.all_eq_true.1 (hq hh).2 d (List.mem_of_getElem? (i := k) ?_)
   simp only [cut, List.getElem?_take, if_pos hk, List.getElem?_drop]; exact ir
 ·exact hs.elim
theorem L0 {T : CS} {ob : Nat -> Nat -> Ob} {v : V} {val : Value} (hf : (unc v).flat = true) (hv : JN T h ob w (unc v) val) : K4 T h ob w (unc v) val := by
 cases hu : unc v with
 | one x => rw [hu] at hv; exact hv
 | agg xs => rw [hu] at hv; exact hv
 | any => rw [hu] at hf; cases hf
 | tup xs => rw [hu] at hf; cases hf
 | cnd g x => rw [hu] at hf; cases hf
 | fix u x => rw [hu] at hf; cases hf
theorem vT (r : Rel T0 B σ a w X h) {ops : Array Oper} {o : Oper} {j dj : Nat} {want g : Bool} (bm : o.guard = some (j, want)) (fD : (ops[j]?).bind (·.dst) = some dj) (ij : dj < σ.length) (hg : jU want (σ.get dj) = some g) :
  Region.wanted o (yielded ops a.tmps) = g := by
 have gX : dj < a.tmps.size := by rw [r.size]; exact ij
 have hv := r.slot dj ij
 have hgetD : a.tmps.getD dj undef = a.tmps[dj] := by simp [gX]
 rw [hgetD] at hv
 have hy : yielded ops a.tmps j = (match a.tmps[dj] with | .bool b => some b | _ => none) := by
  unfold yielded
  rw [fD]
  simp only [Option.bind_some, Array.getElem?_eq_getElem gX]
  cases a.tmps[dj] <;> rfl
 simp only [Region.wanted, bm, hy]
 unfold jU at hg
 split at hg
 ·rename_i b hgv
  rw [hgv] at hv
  rw [jm hv]
  cases hg
  cases b <;> cases want <;> rfl
 ·rename_i g0 b hgv
  rw [hgv] at hv
  cases hg
  cases g0 with
  | true =>
   rw [jm (hv.1 rfl)]
   cases b <;> cases want <;> rfl
  | false =>
   rw [hv.2 rfl]
   simp [undef]
 ·rename_i hgv
  rw [hgv] at hv
  cases hg
  rw [hv.2 rfl]
  simp [undef]
 ·cases hg
theorem Al (r : Rel T0 B σ a w X h) {ops : Array Oper} {o : Oper} {σ' : St} (hs : XS P ops o σ σ') {K : Act -> World -> Prop} {Q : Exit -> Act -> World -> Prop}
  (hK : ∀ a' w', K6 T0 B σ' a' w' -> XB B w w' -> K a' w') : if Region.wanted o (yielded ops a.tmps) then o.wp P a w K Q else K (a.put o.dst undef) w := by
 unfold XS at hs
 split at hs
 ·rename_i hg
  have hw : Region.wanted o (yielded ops a.tmps) = true := by simp [Region.wanted, hg]
  rw [if_pos hw]
  split at hs
  ·rename_i d hd; exact uV r hd hs hK
  ·rename_i hd
   split at hs
   ·rename_i T x y iS; exact AN r iS hd hs hK
   ·exact hs.elim
 ·rename_i j want hg
  obtain ⟨dj, d, g, v, fD, ij, hd, fI, hs, rfl⟩ := hs
  rw [vT r hg fD ij fI]
  cases g with
  | false =>
   simp only [Bool.false_eq_true, if_false]
   rw [hd]
   exact hK _ _ ⟨X, h, r.put d _ _ ⟨(fun hh => by cases hh), fun _ => rfl⟩⟩ (XB.refl _ _)
  | true =>
   simp only [if_true]
   have gh := hs rfl
   clear hs
   have g4 : (∃ v0, Yg P σ o.op o.type v0 /\ gOf v0 = true /\ v = unc v0 /\ v.flat = true) -> o.wp P a w K Q := by
    rintro ⟨v0, ck, hg0, rfl, g5⟩
    obtain ⟨val, iw, hv⟩ := IE r ck
    refine Ri (v := .cnd true (unc v0)) r hd ⟨val, iw, ⟨fun _ => L0 g5 (hv.unc hg0), fun hh => by cases hh⟩⟩ hK
   unfold M8 at gh
   split at gh
   ·rename_i c iS
    split at gh
    ·rename_i f hc
     obtain ⟨own, res, ⟨rows, ha, hs, gT⟩, rfl⟩ := gh
     have fin : ∀ a' w', K6 T0 B (σ.put d (j4 [res])) a' w' -> XB B w w' -> K a' w' := by
      rintro a' w' ⟨X', h', r'⟩ hb
      refine hK a' w' ⟨X', h', ?_⟩ hb
      refine ⟨by rw [r'.size, St.Jk, St.Jk], r'.defers, r'.hB, r'.hX, r'.hT, fun t ht => ?_, fun t j => ?_, fun t j b => ?_, fun t j b => ?_, fun t j t' j' b => ?_⟩
      ·rw [St.Jk] at ht
       have h0 := r'.slot t (by rw [St.Jk]; exact ht)
       rw [St.JW] at h0 ⊢
       rw [St.yb] at h0 ⊢
       by_cases hh : t = d /\ d < σ.length
       ·rw [if_pos hh] at h0 ⊢
        refine ⟨fun _ => ?_, fun hh => by cases hh⟩
        have g5 : (unc (vOf (res.map At.d))).flat = true := by
         match res.map At.d with
         | [] => rfl
         | [x] => rfl
         | x :: y :: xs => rfl
        have hu : unc (vOf (res.map At.d)) = vOf (res.map At.d) := by
         match res.map At.d with
         | [] => rfl
         | [x] => rfl
         | x :: y :: xs => rfl
        have := L0 (v := vOf (res.map At.d)) g5 (by rw [hu]; exact h0)
        rw [hu] at this; exact this
       ·rw [if_neg hh] at h0 ⊢; exact h0
      ·have := r'.obj t j; rw [St.JW] at this ⊢; exact this
      ·have := r'.ub t j b; rw [St.JW] at this ⊢; exact this
      ·have := r'.own t j b; rw [St.JW] at this ⊢; exact this
      ·have := r'.inj t j t' j' b; rw [St.JW] at this ⊢; exact this
     rcases gT with gT | gT
     ·exact W8 r iS hc hd ha true (fun _ => gT) (fun hh => by cases hh) hs fin
     ·exact W8 r iS hc hd ha false (fun hh => by cases hh) (fun _ => gT) hs fin
    ·exact g4 gh
   ·exact g4 gh
theorem Lw {ops : Array Oper} {bar : Oper -> Bool} {o : Oper} {σ' : St} (hs : yQ P ops bar o σ σ') : Ud P ops o σ σ' := by
 rcases hs with hs | hs
 ·rintro T0 B a w K Q ⟨X, h, r⟩ hK
  exact Al r hs hK
 ·exact hs.2.1
theorem FN {ops : Array Oper} {bar : Oper -> Bool} : ∀ {l : List Oper} {σ : St} {a : Act} {w : World} {Q : St -> Prop} {Q' : Exit -> Act -> World -> Prop}, Aa P ops bar l σ Q -> K6 T0 B σ a w ->
  (∀ σ' a' w', Q σ' -> K6 T0 B σ' a' w' -> XB B w w' -> Q' .normal a' w') -> wpList P ops Q' l a w
 | [], σ, a, w, Q, Q', hr, fe, hK => hK σ a w hr fe (XB.refl _ _)
 | o :: l, σ, a, w, Q, Q', ⟨σ', hs, hr⟩, fe, hK => by
  refine wpList_step fun K hKK => ?_
  exact Lw hs _ _ _ _ _ _ fe (fun a' w' fe hb => hKK _ _ (FN hr fe (fun σ2 a2 w2 hq cu gr => hK σ2 a2 w2 hq cu (hb.trans gr))))
end
end Go.Vm
namespace Go.Vm
open Go.RowKit
def AWP (P : Program) (c : Code) (Q : Exit -> St -> Prop) (σ : St) : Prop :=
 ∀ (T0 : CS) (B : Nat -> Prop) (a : Act) (w : World), K6 T0 B σ a w -> c.wp P (fun e a' w' => ∃ σ', Q e σ' /\ K6 T0 B σ' a' w' /\ XB B w w') a w
def Wk (σ σ' : St) : Prop := ∀ (T0 : CS) (B : Nat -> Prop) (a : Act) (w : World), K6 T0 B σ a w -> K6 T0 B σ' a w
def G6 (next : St -> Prop) (Q : Exit -> St -> Prop) : Exit -> St -> Prop
 | .normal, σ => next σ
 | e, σ => Q e σ
def Rx (id : Nat) (Q : Exit -> St -> Prop) : Exit -> St -> Prop
 | .exit az, σ => if az = id then Q .normal σ else Q (.exit az) σ
 | e, σ => Q e σ
section
variable {P : Program} {Q : Exit -> St -> Prop} {σ : St}
theorem Wk.refl (σ : St) : Wk σ σ := fun _ _ _ _ h => h
theorem Wk.trans {σ σ' σ'' : St} (h : Wk σ σ') (k : Wk σ' σ'') : Wk σ σ'' := fun _ _ _ _ r => k _ _ _ _ (h _ _ _ _ r)
theorem w9 {c : Code} {Q' : Exit -> St -> Prop} (h : ∀ e σ, Q e σ -> Q' e σ) (k : AWP P c Q σ) : AWP P c Q' σ :=
 fun T0 B a w r => wp_mono (k T0 B a w r) fun e _ _ ⟨σ', hq, hr⟩ => ⟨σ', h e σ' hq, hr⟩
theorem rM (h : Q .normal σ) : AWP P .skip Q σ := fun _ B _ w r => wp_skip ⟨σ, h, r, XB.refl B w⟩
theorem sk {id : Nat} (h : Q (.exit id) σ) : AWP P (.exit id) Q σ := fun _ B _ w r => wp_exit ⟨σ, h, r, XB.refl B w⟩
theorem pr (h : Q .ret σ) : AWP P .ret Q σ := fun _ B _ w r => wp_ret ⟨σ, h, r, XB.refl B w⟩
theorem vw {id : Nat} {l : List Oper} {bar : Oper -> Bool} (h : Aa P l.toArray bar l σ (Q .normal)) : AWP P (.region id l.toArray false) Q σ :=
 fun _ _ _ _ r => wp_region_lit (FN h r fun σ' _ _ hq hr hb => ⟨σ', hq, hr, hb⟩)
theorem oJ {x y : Code} (h : AWP P x (G6 (AWP P y Q) Q) σ) : AWP P (.seq x y) Q σ := by
 intro T0 B a w r
 refine wp_seq (wp_mono (h T0 B a w r) ?_)
 rintro e a' w' ⟨σ', hq, hr, hb⟩
 cases e with
 | normal => exact wp_mono (hq T0 B a' w' hr) fun e _ _ ⟨σ2, h1, h2, h3⟩ => ⟨σ2, h1, h2, hb.trans h3⟩
 | exit id => exact ⟨σ', hq, hr, hb⟩
 | goto l => exact ⟨σ', hq, hr, hb⟩
 | ret => exact ⟨σ', hq, hr, hb⟩
 | panic ch => exact ⟨σ', hq, hr, hb⟩
 | outgrown => exact ⟨σ', hq, hr, hb⟩
theorem si {c : Operand} {x y : Code} {b : Bool} (hc : look P σ 0 c = .one (.d (.bool b))) (ht : b = true -> AWP P x Q σ) (hf : b = false -> AWP P y Q σ) : AWP P (.cond c x y) Q σ := by
 intro T0 B a w r
 obtain ⟨X, h, rr⟩ := r
 have hv := rr.look (P := P) 0 c
 rw [hc] at hv
 exact wp_cond_split (jm hv) (fun hb => ht hb T0 B a w ⟨X, h, rr⟩) (fun hb => hf hb T0 B a w ⟨X, h, rr⟩)
theorem tx {id : Nat} {c : Code} (h : AWP P c (Rx id Q) σ) : AWP P (.block id c) Q σ := by
 intro T0 B a w r
 refine wp_block (wp_mono (h T0 B a w r) ?_)
 rintro e a' w' ⟨σ', hq, hr, hb⟩
 cases e with
 | exit az =>
  simp only [Rx] at hq
  simp only [Exit.inBlock]
  split at hq
  ·rename_i hh; rw [if_pos hh]; exact ⟨σ', hq, hr, hb⟩
  ·rename_i hh; rw [if_neg hh]; exact ⟨σ', hq, hr, hb⟩
 | normal => exact ⟨σ', hq, hr, hb⟩
 | goto l => exact ⟨σ', hq, hr, hb⟩
 | ret => exact ⟨σ', hq, hr, hb⟩
 | panic ch => exact ⟨σ', hq, hr, hb⟩
 | outgrown => exact ⟨σ', hq, hr, hb⟩
theorem Ts {c : Code} {ι : Type} (S : ι -> St) (μ : ι -> Nat) (i0 : ι) (h0 : Wk σ (S i0))
  (round : ∀ i, AWP P c (G6 (fun σ' => ∃ i', μ i' < μ i /\ Wk σ' (S i')) Q) (S i)) : AWP P (.loop c) Q σ := by
 intro T0 B a w r b k cs
 have key : ∀ n i a w, μ i = n -> K6 T0 B (S i) a w ->
   ∃ e a' w', (∃ σ', Q e σ' /\ K6 T0 B σ' a' w' /\ XB B w w') /\ Arrives P (lone (b.at a (.code c :: .inLoop c :: k)) cs w) b k cs e a' w' := by
  intro n
  induction n using Nat.strongRecOn with
  | _ n ih =>
   intro i a w hn hr
   obtain ⟨e, a₁, w₁, ⟨σ₁, hq, hr₁, hb₁⟩, gw⟩ := round i T0 B a w hr b (.inLoop c :: k) cs
   cases e with
   | normal =>
    obtain ⟨i', ij, hwk⟩ := hq
    obtain ⟨e₂, a₂, w₂, ⟨σ₂, hq₂, hr₂, hb₂⟩, harr₂⟩ := ih (μ i') (hn ▸ ij) i' a₁ w₁ rfl (hwk T0 B a₁ w₁ hr₁)
    exact ⟨e₂, a₂, w₂, ⟨σ₂, hq₂, hr₂, hb₁.trans hb₂⟩, .of_steps (Steps.trans gw (.one step_inLoop)) harr₂⟩
   | exit id => exact ⟨_, a₁, w₁, ⟨σ₁, hq, hr₁, hb₁⟩, .pass (x := .inLoop c) rfl (fun _ _ => .inl (by simp)) gw⟩
   | goto l => exact ⟨_, a₁, w₁, ⟨σ₁, hq, hr₁, hb₁⟩, .pass (x := .inLoop c) rfl (fun _ _ => .inl (by simp)) gw⟩
   | ret => exact ⟨_, a₁, w₁, ⟨σ₁, hq, hr₁, hb₁⟩, .pass (x := .inLoop c) rfl (fun _ _ => .inl (by simp)) gw⟩
   | panic ch => exact ⟨_, a₁, w₁, ⟨σ₁, hq, hr₁, hb₁⟩, .pass (x := .inLoop c) rfl (fun _ _ => .inl (by simp)) gw⟩
   | outgrown => exact ⟨_, a₁, w₁, ⟨σ₁, hq, hr₁, hb₁⟩, .pass (x := .inLoop c) rfl (fun _ _ => .inl (by simp)) gw⟩
 obtain ⟨e, a', w', hq, gw⟩ := key _ i0 a w rfl (h0 T0 B a w r)
 exact ⟨e, a', w', hq, .of_steps (.one step_loop) gw⟩
end
/-! ### entering a function, and leaving it -/
def Mb : List (List D) -> St
 | [] => []
 | r :: rs => (vOf (r.map .d), []) :: Mb rs
def Wo (n : Nat) (args : List (List D)) : St := Mb args ++ List.replicate (n - args.length) (V.any, [])
def Fe (P : Program) (σ : St) : ResultVar -> List At -> Prop
 | .tmp t, xs => (σ.get t = vOf xs) /\ t < σ.length
 | .cell t T, xs => ∃ u c cells, σ.get t = .one (.bptr u c) /\ σ.ob u 0 = .box cells /\ qf P T = true /\ TW P T = true /\ P.cellsOf T ≠ 1 /\ c + P.cellsOf T <= cells.length /\ xs = cut cells c (P.cellsOf T)
def O8 (P : Program) (σ : St) : List ResultVar -> List (List At) -> Prop
 | [], gz => gz = []
 | r :: rs, gz => ∃ xs rest, Fe P σ r xs /\ O8 P σ rs rest /\ gz = xs :: rest
def Sx (σ : St) : List (List At) -> Option (List (List D))
 | [] => some []
 | xs :: rest => (match rowOf σ xs, Sx σ rest with | some r, some rs => some (r :: rs) | _, _ => none)
def kP (σ : St) : At -> Option D
 | .d (.sl _ _) => none
 | .d x => some x
 | .nil s => some (.sl s [])
 | .sref t j lo len => (match σ.ob t j with | .arr false size rows => if lo = 0 /\ len = rows.length then some (.sl size rows) else none | _ => none)
 | _ => none
def ownRow (σ : St) : List At -> Option (List D)
 | [] => some []
 | x :: xs => (match kP σ x, ownRow σ xs with | some d, some ds => some (d :: ds) | _, _ => none)
def Ut (σ : St) : List (List At) -> Option (List (List D))
 | [] => some []
 | xs :: rest => (match ownRow σ xs, Ut σ rest with | some r, some rs => some (r :: rs) | _, _ => none)
def wu (P : Program) (fn : Func) (own : Bool) (res : List (List D)) (e : Exit) (σ : St) : Prop :=
 (e = .ret \/ e = .normal) /\ ∃ gz, O8 P σ fn.results.toList gz /\ (if own then Ut σ gz = some res /\ (Yh gz.flatten).Nodup else Sx σ gz = some res)
def sF (P : Program) (fn : Func) (res : List (List D)) (e : Exit) (σ : St) : Prop :=
 (e = .ret \/ e = .normal) /\ ∃ gz, O8 P σ fn.results.toList gz /\ zz σ gz = some res /\ K8 σ gz /\ (Yh gz.flatten).Nodup
end Go.Vm
namespace Go.Vm
open Go.RowKit
section
variable {P : Program} {T0 : CS} {B : Nat -> Prop} {σ : St} {a : Act} {w w' : World} {X X' : Nat -> Prop} {h : Nat -> Nat -> Hd}
theorem R0 : ∀ (args : List (List D)) (t : Nat), (Mb args)[t]? = (args[t]?).map fun r => (vOf (r.map .d), [])
 | [], t => by simp [Mb]
 | r :: rs, 0 => by simp [Mb]
 | r :: rs, t + 1 => by simpa [Mb] using R0 rs t
theorem Kn (args : List (List D)) : (Mb args).length = args.length := by
 induction args with
 | nil => rfl
 | cons r rs ih => simp [Mb, ih]
theorem wE {T : CS} {n : Nat} {args : List (List D)} {gQ : List Value} (hT : ∀ b k, T b k -> b < w.heap.size) (ha : Z6 (fun v row => ∃ cs, K3 v cs /\ Z6 (Rd T w) cs row) gQ args) :
  K6 T (fun b => b < w.heap.size) (Wo n args) { tmps := gQ.toArray ++ Array.replicate (n - gQ.toArray.size) undef, defers := [] } w := by
 have hl := ha.length
 refine ⟨fun _ => False, fun _ _ => Hd.of undef, ?_⟩
 have hH : ∀ t j, (Wo n args).ob t j = .none := by
  intro t j
  unfold St.ob Wo
  rcases Nat.lt_or_ge t args.length with h | h
  ·rw [List.getElem?_append_left (by rw [Kn]; exact h), R0, List.getElem?_eq_getElem h]
   simp [Yp]
  ·rw [List.getElem?_append_right (by rw [Kn]; exact h), List.getElem?_replicate]
   split
   ·rename_i e he
    split at he
    ·cases he; simp [Yp]
    ·cases he
   ·rfl
 have ax : ∀ b k v, T b k -> w.cell? ⟨b, k, none⟩ = some v -> w.cell? ⟨b, k, none⟩ = some v /\ Tof T (fun _ => False) b k := fun b k v hb hc => ⟨hc, .inl hb⟩
 refine ⟨by simp [Wo, Kn, hl], rfl, (fun b hb => hb), (fun b hb => hb.elim), hT, fun t ht => ?_, fun t j => by rw [hH]; trivial, fun t j b iU => absurd (hH t j) iU, fun t j b iU => absurd (hH t j) iU, fun t j t' j' b iU => absurd (hH t j) iU⟩
 unfold St.get Wo
 rcases Nat.lt_or_ge t args.length with ij | dX
 ·rw [List.getElem?_append_left (by rw [Kn]; exact ij), R0, List.getElem?_eq_getElem ij]
  obtain ⟨v, hv, cs, hf, iV⟩ := ha.get' t args[t] (List.getElem?_eq_getElem ij)
  have ep : (gQ.toArray ++ Array.replicate (n - gQ.toArray.size) undef).getD t undef = v := by
   rw [Array.getD_eq_getD_getElem?, Array.getElem?_append_left (by simp; omega)]
   simp [hv]
  simp only [ep]
  exact (MU hf (Mm (iV.imp fun _ _ => Rd.mono ax))).up
 ·rw [List.getElem?_append_right (by rw [Kn]; exact dX), List.getElem?_replicate]
  split
  ·rename_i e he
   split at he
   ·cases he; trivial
   ·cases he
  ·trivial
theorem BS {T : CS} {ob : Nat -> Nat -> Ob} {xs : List At} {v : Value} (hv : JN T h ob w (vOf xs) v) : ∃ cs, K3 v cs /\ Z6 (YI T h ob w) xs cs := by
 match xs, hv with
 | [], hv =>
  obtain ⟨cs, rfl, iV⟩ := hv
  exact ⟨cs.toList, .inr ⟨by rw [<- iV.length]; simp, by simp⟩, iV⟩
 | [x], hv => exact ⟨[v], .inl ⟨v, rfl, rfl, YI.X4 hv⟩, .cons hv .nil⟩
 | x :: y :: xs, hv =>
  obtain ⟨cs, rfl, iV⟩ := hv
  exact ⟨cs.toList, .inr ⟨by rw [<- iV.length]; simp, by simp⟩, iV⟩
theorem um (r : Rel T0 B σ a w X h) : ∀ {rs : List ResultVar} {gz : List (List At)}, O8 P σ rs gz ->
  ∃ vs gA, (rs.mapM (m := Sem) fun | .tmp t => pure (a.tmps.getD t undef) | .cell u t => do loadVar t (<- asAddr (a.tmps.getD u undef))).run P w = .ok vs w /\ Z6 K3 vs gA /\ Z6 (fun xs cs => Z6 (YI (Tof T0 X) h σ.ob w) xs cs) gz gA
 | [], gz, hr => by cases hr; exact ⟨[], [], by simp, .nil, .nil⟩
 | rv :: rs, gz, hr => by
  obtain ⟨xs, rest, h1, h2, rfl⟩ := hr
  obtain ⟨vs, gA, iw, hf, iV⟩ := um r h2
  have one : ∃ v cs, (match rv with | .tmp t => (pure (a.tmps.getD t undef) : Sem Value) | .cell u t => do loadVar t (<- asAddr (a.tmps.getD u undef))).run P w = .ok v w /\ K3 v cs /\ Z6 (YI (Tof T0 X) h σ.ob w) xs cs := by
   cases rv with
   | tmp t =>
    obtain ⟨hg, ij⟩ := h1
    have hv := r.slot t ij
    rw [hg] at hv
    obtain ⟨cs, hf, iV⟩ := BS hv
    exact ⟨_, cs, by simp, hf, iV⟩
   | cell t T =>
    obtain ⟨u, c, cells, hg, ho, eO, dT, iU, hle, rfl⟩ := h1
    have hv := r.get t
    rw [hg] at hv
    obtain ⟨b, cs, e, hb, he, hh, iV⟩ := r.box ho hv
    have hlen := iV.length
    obtain ⟨val, hld, hagg, _⟩ := r7 (P := P) (w := w) eO (b := b) (off := c) (cs := cut cs.toList c (P.cellsOf T)) (XG _ _ _ (by omega)) (fun j u hu => yG hh _ _ (yf _ _ _ _ _ hu))
    refine ⟨val, cut cs.toList c (P.cellsOf T), ?_, .inr ⟨by rw [XG _ _ _ (by omega)]; exact iU, hagg dT⟩, iV.cut _ _⟩
    simp only [Instr.loadAt, Instr.sureAddr, Sem.run_bind, Sem.run_pure, Result.andThen_ok] at hld
    simp only [he, asAddr, Sem.run_bind, Sem.run_pure, Result.andThen_ok]
    exact hld
  obtain ⟨v, cs, hrun1, hf1, hal1⟩ := one
  refine ⟨v :: vs, cs :: gA, ?_, .cons hf1 hf, .cons hal1 iV⟩
  simp only [List.mapM_cons, Sem.run_bind, hrun1, Result.andThen_ok, iw, Sem.run_pure]
theorem Pl (r : Rel T0 B σ a w X h) {fn : Func} {gz : List (List At)} (hr : O8 P σ fn.results.toList gz) :
  ∃ vs gA, (results fn a.tmps).run P w = .ok (L8 vs) w /\ Z6 K3 vs gA /\ Z6 (fun xs cs => Z6 (YI (Tof T0 X) h σ.ob w) xs cs) gz gA := by
 obtain ⟨vs, gA, iw, hf, iV⟩ := um r hr
 refine ⟨vs, gA, ?_, hf, iV⟩
 unfold results
 rw [Array.mapM_eq_mapM_toList]
 change ((((fn.results.toList.mapM (m := Sem) fun | .tmp t => pure (a.tmps.getD t undef) | .cell u t => do loadVar t (<- asAddr (a.tmps.getD u undef))) >>= fun l => pure l.toArray) >>= fun (vs : Array Value) => pure (if h : vs.size = 1 then vs[0] else .tuple vs))).run P w = _
 simp only [Sem.run_bind, iw, Result.andThen_ok, Sem.run_pure]
 congr 1
 match vs with
 | [] => rfl
 | [v] => rfl
 | v :: v' :: vs => simp [L8]
theorem Nm (r : Rel T0 B σ a w X h) {T : CS} (hT : ∀ b k, Ot T0 X h σ b k -> T b k) : ∀ {gz : List (List At)} {gA : List (List Value)} {res : List (List D)}, Sx σ gz = some res -> Z6 (fun xs cs => Z6 (YI (Tof T0 X) h σ.ob w) xs cs) gz gA ->
  Z6 (fun cs row => Z6 (qM false T w) cs row) gA res
 | [], gA, res, hr, iV => by cases iV; simp [Sx] at hr; subst hr; exact .nil
 | xs :: gz, gA, res, hr, iV => by
  cases iV with
  | cons h1 iV =>
   simp only [Sx] at hr
   split at hr
   ·rename_i row rs hO eQ
    cases hr
    refine .cons ?_ (Nm r hT eQ iV)
    have := r.rowOf false hO h1 (fun hh => by cases hh)
    refine this.imp fun v d hd => ?_
    simp only [qM, Bool.false_eq_true, if_false] at hd ⊢
    exact Rd.mono (fun b k v hb hc => ⟨hc, hT b k hb⟩) hd
   ·cases hr
theorem Fi : ∀ {xs : List At} {ds : List D}, ownRow σ xs = some ds -> Z6 (fun x d => kP σ x = some d) xs ds
 | [], ds, hr => by simp [ownRow] at hr; subst hr; exact .nil
 | x :: xs, ds, hr => by
  simp only [ownRow] at hr
  split at hr
  ·rename_i d fR h1 h2; cases hr; exact .cons h1 (Fi h2)
  ·cases hr
theorem Ls : ∀ {gz : List (List At)} {res : List (List D)}, Ut σ gz = some res -> Z6 (fun xs row => Z6 (fun x d => kP σ x = some d) xs row) gz res
 | [], res, hr => by simp [Ut] at hr; subst hr; exact .nil
 | xs :: gz, res, hr => by
  simp only [Ut] at hr
  split at hr
  ·rename_i d fR h1 h2; cases hr; exact .cons (Fi h1) (Ls h2)
  ·cases hr
theorem S0 (r : Rel T0 B σ a w X h) {x : At} {d : D} {v : Value} (hx : kP σ x = some d) (hv : YI (Tof T0 X) h σ.ob w x v) : J4 (Tof T0 X) w v d /\ (∀ b, d.scalar = false -> blk v = some b -> ∃ t j lo len, x = .sref t j lo len /\ σ.ob t j ≠ .none /\ (h t j).u b) := by
 cases x with
 | d x =>
  cases x with
  | sl s rows => simp [kP] at hx
  | int k n => simp [kP] at hx; subst hx; exact ⟨hv, fun b hb => by cases hb⟩
  | bool b => simp [kP] at hx; subst hx; exact ⟨hv, fun b hb => by cases hb⟩
  | str s => simp [kP] at hx; subst hx; exact ⟨hv, fun b hb => by cases hb⟩
  | unk => simp [kP] at hx; subst hx; exact ⟨hv, fun b hb => by cases hb⟩
 | nil s =>
  simp [kP] at hx; subst hx
  cases hv
  exact ⟨⟨0, [], World.ownsRow_nil w 0 0 s, (by intro q hq; cases hq), .nil⟩, fun b _ hb => by cases hb⟩
 | sref t j lo len =>
  simp only [kP] at hx
  split at hx
  ·rename_i size rows ho
   split at hx
   ·rename_i hc
    obtain ⟨rfl, rfl⟩ := hc
    cases hx
    obtain ⟨_, gp, _⟩ := hv.2.1 _ size rows ho
    have he := gp rfl rfl
    have h0 := r.obj t j
    have fO := r.ub t j
    rw [ho] at h0 fO
    refine ⟨by rw [he]; exact h0, fun b _ hb => ⟨t, j, 0, rows.length, rfl, by rw [ho]; simp, fO b (by simp) (by rw [<- he]; exact hb)⟩⟩
   ·cases hx
  ·cases hx
 | any => simp [kP] at hx
 | ptr => simp [kP] at hx
 | bptr => simp [kP] at hx
 | fn => simp [kP] at hx
 | rptr => simp [kP] at hx
 | tref => simp [kP] at hx
theorem BJ {f : FuncId} {fn : Func} {c : Code} (hf : P.funcs[f]? = some fn) (hb : fn.body = some c) (hR : LQ P f = true) {own : Bool} {args res : List (List D)}
  (hw : AWP P c (wu P fn own res) (Wo fn.ntmps args)) : JC P f own args res := by
 refine ⟨hR, fun T w gQ hT iY => calls_of_wp hf hb ?_⟩
 refine wp_mono (hw T (fun b => b < w.heap.size) _ w (wE hT iY)) ?_
 rintro e a' w' ⟨σ', ⟨he, gz, dc, ib⟩, ⟨X, h, r⟩, iu⟩
 have fb : Below w.heap.size w w' := ⟨iu.os, iu.tape, iu.output, iu.size, iu.block⟩
 obtain ⟨vs, gA, iw, gM, iV⟩ := Pl r dc
 have goal : a'.defers = [] /\ ∃ v, (results fn a'.tmps).run P w' = .ok v w' /\ mP own T w res (.returned v) w' := by
  refine ⟨r.defers, _, iw, ?_⟩
  cases own with
  | false =>
   refine ⟨vs, gA, fun b => w.heap.size <= b /\ b < w'.heap.size, rfl, fb, fun b hb => hb, gM, ?_, fun hh => by cases hh⟩
   refine Nm r (fun b k hb => ?_) (by simpa using ib) iV
   rcases hb with hb | ⟨t, j, q, size, rows, ho, hb⟩
   ·rcases hb with hb | hb
    ·exact .inl hb
    ·have := r.hX b hb; exact .inr ⟨by omega, this.2⟩
   ·have := r.own t j b (by rw [ho]; simp) hb
    exact .inr ⟨by omega, this.2.2⟩
  | true =>
   simp only [if_true] at ib
   obtain ⟨iX, gd⟩ := ib
   have gx := Ls iX
   have eu : Z6 (fun x d => kP σ' x = some d) gz.flatten res.flatten := j8 gx
   have ev : Z6 (YI (Tof T X) h σ'.ob w') gz.flatten gA.flatten := j8 iV
   refine ⟨vs, gA, X, rfl, fb, (fun b hb => by have := r.hX b hb; exact ⟨by omega, this.2⟩), gM, ?_, fun _ => ⟨fun i cc d b hc hd gn hb => ?_, fun i j cc cc' d d' b hc hd gB ir gn ao hb ig => ?_⟩⟩
   ·clear eu ev gM iw dc iX gd he hw
    induction gx generalizing gA with
    | nil => cases iV; exact .nil
    | cons hr _ ih =>
     cases iV with
     | cons cu iV =>
      refine .cons ?_ (ih _ iV)
      clear ih iV
      refine Z6.kA (by rw [<- cu.length, hr.length]) (fun i v d hv hd => ?_)
      obtain ⟨x, hx, hxd⟩ := hr.get' i d hd
      obtain ⟨v', fc, hxv⟩ := cu.get i x hx
      rw [hv] at fc; cases fc
      simp only [qM, if_true]
      exact (S0 r hxd hxv).1
   ·obtain ⟨x, hx, hxd⟩ := eu.get' i d hd
    obtain ⟨v', fc, hxv⟩ := ev.get i x hx
    rw [hc] at fc; cases fc
    obtain ⟨t, j, lo, len, _, iU, cf⟩ := (S0 r hxd hxv).2 b gn hb
    have := r.own t j b iU cf
    exact ⟨by omega, this.2.2, this.2.1⟩
   ·obtain ⟨x, hx, hxd⟩ := eu.get' i d hd
    obtain ⟨v', fc, hxv⟩ := ev.get i x hx
    rw [hc] at fc; cases fc
    obtain ⟨x2, hx2, hxd2⟩ := eu.get' j d' ir
    obtain ⟨v2, g9, hxv2⟩ := ev.get j x2 hx2
    rw [gB] at g9; cases g9
    obtain ⟨t, u, lo, len, rfl, iU, cf⟩ := (S0 r hxd hxv).2 b gn hb
    obtain ⟨t2, u2, lo2, len2, rfl, de, hbb2⟩ := (S0 r hxd2 hxv2).2 b ao ig
    obtain ⟨rfl, rfl⟩ := r.inj t u t2 u2 b iU de cf hbb2
    exact PX _ i j t u lo len lo2 len2 gd hx hx2
 rcases he with rfl | rfl
 ·exact goal
 ·exact goal
theorem Dq {f : FuncId} {fn : Func} {c : Code} (hf : P.funcs[f]? = some fn) (hb : fn.body = some c) (hR : LQ P f = true) {args res : List (List D)}
  (hw : AWP P c (sF P fn res) (Wo fn.ntmps args)) : Yv P f args res := by
 refine ⟨hR, fun T w gQ hT iY => calls_of_wp hf hb ?_⟩
 refine wp_mono (hw T (fun b => b < w.heap.size) _ w (wE hT iY)) ?_
 rintro e a' w' ⟨σ', ⟨he, gz, dc, fp, bu, gd⟩, ⟨X, h, r⟩, iu⟩
 have fb : Below w.heap.size w w' := ⟨iu.os, iu.tape, iu.output, iu.size, iu.block⟩
 obtain ⟨vs, gA, iw, gM, iV⟩ := Pl r dc
 have goal : a'.defers = [] /\ ∃ v, (results fn a'.tmps).run P w' = .ok v w' /\ og w res (.returned v) w' := by
  refine ⟨r.defers, _, iw, vs, gA, rfl, fb, gM, ?_, ?_⟩
  ·clear gd bu dc iw gM hw
   induction iV generalizing res with
   | nil => simp [zz] at fp; subst fp; exact .nil
   | cons h1 _ ih =>
    simp only [zz] at fp
    split at fp
    ·rename_i row rs hO eQ
     cases fp
     exact .cons (by rw [<- h1.length]; exact (T6 hO).1) (ih eQ)
    ·cases fp
  ·refine (O6 r (j8 iV) (UW fp).1 (WD bu) gd).mono (fun b hb => ?_)
   have := r.yl _ b hb
   exact ⟨by omega, this.2.2.1⟩
 rcases he with rfl | rfl
 ·exact goal
 ·exact goal
end
end Go.Vm
namespace Go.Vm
open Go.RowKit
theorem St.sf (e : Ent) (σ : St) : St.get (e :: σ) 0 = e.1 := rfl
theorem St.rj (e : Ent) (σ : St) (n : Nat) : St.get (e :: σ) (n + 1) = St.get σ n := by simp [St.get]
theorem St.oH (e : Ent) (σ : St) (j : Nat) : St.ob (e :: σ) 0 j = Yp e.2 j := rfl
theorem St.pU (e : Ent) (σ : St) (n j : Nat) : St.ob (e :: σ) (n + 1) j = St.ob σ n j := by simp [St.ob]
theorem ta (o : Ob) (os : List Ob) : Yp (o :: os) 0 = o := rfl
theorem tV (o : Ob) (os : List Ob) (n : Nat) : Yp (o :: os) (n + 1) = Yp os n := by simp [Yp]
theorem rG (n : Nat) : Yp [] n = .none := by simp [Yp]
def lkI (P : Program) (σ : St) (x : Operand) : Prop × Int :=
 match unc (look P σ 0 x) with
 | .one (.d (.int _ n)) => (gOf (look P σ 0 x) = true, n)
 | _ => (False, 0)
def lkK (P : Program) (σ : St) (x : Operand) : IntKind :=
 match unc (look P σ 0 x) with
 | .one (.d (.int k _)) => k
 | _ => .i64
theorem ko {P : Program} {σ : St} {x : Operand} (h : (lkI P σ x).1) : UI P σ x (lkK P σ x) (lkI P σ x).2 := by
 unfold lkI at h ⊢
 unfold lkK
 unfold UI
 split at h
 ·rename_i k n heq
  rw [heq]; exact ⟨h, rfl⟩
 ·exact h.elim
def yP (P : Program) (σ : St) (g4 : Nat) : Option Operand -> Prop × Nat
 | none => (True, g4)
 | some x => ((lkI P σ x).1 /\ 0 <= (lkI P σ x).2, (lkI P σ x).2.toNat)
theorem Ty {P : Program} {σ : St} {g4 : Nat} {x : Option Operand} (h : (yP P σ g4 x).1) : bnd P σ g4 x (yP P σ g4 x).2 := by
 cases x with
 | none => rfl
 | some x =>
  have h1 := ko h.1
  exact ⟨_, _, h1.1, h1.2, h.2, rfl⟩
def rowAt (rows : List (List D)) (i : Nat) : List D := rows.getD i []
def bAt (s : ByteArray) (i : Nat) : Nat := (s.data.toList.getD i 0).toNat
def PD (P : Program) (σ : St) (T : TypeId) (x ix : Operand) : Prop × V :=
 match unc (look P σ 0 x) with
 | .one (.d (.sl size rows)) => ((gOf (look P σ 0 x) = true /\ (lkI P σ ix).1) /\ 0 <= (lkI P σ ix).2 /\ (XK P T = true /\ size = P.cellsOf (ZQ P T) /\ 0 < size) /\ (lkI P σ ix).2 < (rows.length : Int), .one (.rptr (rowAt rows (lkI P σ ix).2.toNat) 0))
 | .one (.sref t j lo len) => ((gOf (look P σ 0 x) = true /\ (lkI P σ ix).1) /\ 0 <= (lkI P σ ix).2 /\ (XK P T = true /\ 0 < P.cellsOf (ZQ P T) /\ (match σ.ob t j with | .arr _ size _ => size = P.cellsOf (ZQ P T) | _ => False)) /\ (lkI P σ ix).2 < (len : Int), .one (.ptr t j (lo + (lkI P σ ix).2.toNat) 0))
 | .one (.tref t j m c none) => ((gOf (look P σ 0 x) = true /\ (lkI P σ ix).1) /\ 0 <= (lkI P σ ix).2 /\ (XK P T = true /\ 0 < P.cellsOf (ZQ P T)) /\ (match σ.ob t j with | .arr true _ rows => m < rows.length /\ (match (rowAt rows m)[c]? with | some (.sl n s) => n = P.cellsOf (ZQ P T) /\ (lkI P σ ix).2 < (s.length : Int) | _ => False) | _ => False), .one (.tref t j m c (some ((lkI P σ ix).2.toNat * P.cellsOf (ZQ P T)))))
 | .one (.bptr t c) => ((gOf (look P σ 0 x) = true /\ (lkI P σ ix).1) /\ 0 <= (lkI P σ ix).2 /\ (match σ.ob t 0 with | .box _ => True | _ => False) /\ (match AD P T with | some n => 1 < n /\ (lkI P σ ix).2 < (n : Int) | none => False), .one (.bptr t (c + (lkI P σ ix).2.toNat * P.cellsOf (ZQ P T))))
 | _ => (False, .any)
def vn (P : Program) (σ : St) (T : TypeId) (x : Operand) : Prop × V :=
 match unc (look P σ 0 x) with
 | .one (.bptr t c) => (match σ.ob t 0 with | .box cells => (gOf (look P σ 0 x) = true /\ qf P T = true /\ c + P.cellsOf T <= cells.length, ldV P T (cut cells c (P.cellsOf T))) | _ => (False, .any))
 | .one (.ptr t j i c) => (match σ.ob t j with | .arr q size rows => ((gOf (look P σ 0 x) = true /\ qf P T = true /\ c + P.cellsOf T <= size) /\ i < rows.length, ldV P T (Sl q t j i c (cut (rowAt rows i) c (P.cellsOf T)))) | _ => (False, .any))
 | .one (.rptr r c) => (gOf (look P σ 0 x) = true /\ qf P T = true /\ c + P.cellsOf T <= r.length, ldV P T ((cut r c (P.cellsOf T)).map .d))
 | _ => (False, .any)
def Rz (P : Program) (σ : St) (T : TypeId) (x : Operand) (f : Nat) : Prop × V :=
 match unc (look P σ 0 x) with
 | .one (.bptr t c) => (gOf (look P σ 0 x) = true /\ kM P T f = true /\ (match σ.ob t 0 with | .box _ => True | _ => False), .one (.bptr t (c + Qp P T f)))
 | .one (.ptr t j i c) => (gOf (look P σ 0 x) = true /\ kM P T f = true /\ (match σ.ob t j with | .arr _ _ _ => True | _ => False), .one (.ptr t j i (c + Qp P T f)))
 | .one (.rptr r c) => (gOf (look P σ 0 x) = true /\ kM P T f = true, .one (.rptr r (c + Qp P T f)))
 | .one (.tref t j i c (some k)) => (gOf (look P σ 0 x) = true /\ kM P T f = true /\ (match σ.ob t j with | .arr true _ _ => True | _ => False), .one (.tref t j i c (some (k + Qp P T f))))
 | _ => (False, .any)
def CZ (P : Program) (op : BinOp) (T : TypeId) (x y : V) : Prop × V :=
 match op, x, y with
 | .eql, .one (.d (.int k m)), .one (.d (.int k' n)) => (k' = k, .one (.d (.bool (m == n))))
 | .neq, .one (.d (.int k m)), .one (.d (.int k' n)) => (k' = k, .one (.d (.bool (m != n))))
 | .lss, .one (.d (.int k m)), .one (.d (.int k' n)) => (k' = k, .one (.d (.bool (decide (m < n)))))
 | .leq, .one (.d (.int k m)), .one (.d (.int k' n)) => (k' = k, .one (.d (.bool (decide (m <= n)))))
 | .gtr, .one (.d (.int k m)), .one (.d (.int k' n)) => (k' = k, .one (.d (.bool (decide (m > n)))))
 | .geq, .one (.d (.int k m)), .one (.d (.int k' n)) => (k' = k, .one (.d (.bool (decide (m >= n)))))
 | .add, .one (.d (.int k m)), .one (.d (.int k' n)) => (k' = k, .one (.d (.int k (k.wrap (m + n)))))
 | .sub, .one (.d (.int k m)), .one (.d (.int k' n)) => (k' = k, .one (.d (.int k (k.wrap (m - n)))))
 | .mul, .one (.d (.int k m)), .one (.d (.int k' n)) => (k' = k, .one (.d (.int k (k.wrap (m * n)))))
 | .quo, .one (.d (.int k m)), .one (.d (.int k' n)) => (k' = k /\ n ≠ 0, .one (.d (.int k (k.wrap (m.tdiv n)))))
 | .rem, .one (.d (.int k m)), .one (.d (.int k' n)) => (k' = k /\ n ≠ 0, .one (.d (.int k (m.tmod n))))
 | .and, .one (.d (.int k m)), .one (.d (.int k' n)) => (k' = k, .one (.d (.int k (nP k m n))))
 | .or, .one (.d (.int k m)), .one (.d (.int k' n)) => (k' = k, .one (.d (.int k (iOr k m n))))
 | .xor, .one (.d (.int k m)), .one (.d (.int k' n)) => (k' = k, .one (.d (.int k (nB k m n))))
 | .shl, .one (.d (.int k m)), .one (.d (.int _ n)) => (0 <= n, .one (.d (.int k (k.wrap (m * 2 ^ (min n.toNat k.bits))))))
 | .shr, .one (.d (.int k m)), .one (.d (.int _ n)) => (0 <= n, .one (.d (.int k (m.fdiv (2 ^ (min n.toNat k.bits))))))
 | .add, .one (.d (.str m)), .one (.d (.str n)) => (((m.size + n.size : Nat) : Int) <= 9223372036854775807, .one (.d (.str (m ++ n))))
 | .eql, .one (.d (.str m)), .one (.d (.str n)) => (True, .one (.d (.bool (decide (m = n)))))
 | .neq, .one (.d (.str m)), .one (.d (.str n)) => (True, .one (.d (.bool (!decide (m = n)))))
 | .eql, .one (.d (.bool m)), .one (.d (.bool n)) => (L9 P T = true, .one (.d (.bool (m == n))))
 | .neq, .one (.d (.bool m)), .one (.d (.bool n)) => (L9 P T = true, .one (.d (.bool (!(m == n)))))
 | .eql, .agg xs, .agg ys => (TQ P T = true /\ (j7 P (P.fieldsOf T).toList xs ys).isSome = true, .one (.d (.bool ((j7 P (P.fieldsOf T).toList xs ys).getD false))))
 | .neq, .agg xs, .agg ys => (TQ P T = true /\ (j7 P (P.fieldsOf T).toList xs ys).isSome = true, .one (.d (.bool (!(j7 P (P.fieldsOf T).toList xs ys).getD false))))
 | _, _, _ => (False, .any)
def SF (P : Program) (σ : St) (T : TypeId) : List (Nat × Operand) -> List At -> Prop × List At
 | [], r => (True, r)
 | (i, x) :: ps, r => ((bOk P T i = true /\ gOf (look P σ (bTy P T i) x) = true /\ (unc (look P σ (bTy P T i) x)).flat = true /\
   (unc (look P σ (bTy P T i) x)).cells.length = P.cellsOf (bTy P T i) /\ Re P T i + P.cellsOf (bTy P T i) <= r.length) /\ (SF P σ T ps (place r (Re P T i) (unc (look P σ (bTy P T i) x)).cells)).1,
   (SF P σ T ps (place r (Re P T i) (unc (look P σ (bTy P T i) x)).cells)).2)
theorem G5 {P : Program} {σ : St} {T : TypeId} : ∀ {ps : List (Nat × Operand)} {r : List At}, (SF P σ T ps r).1 -> U5 P σ T ps r (SF P σ T ps r).2
 | [], _, _ => rfl
 | (_, _) :: _, _, h => ⟨h.1.1, h.1.2.1, h.1.2.2.1, h.1.2.2.2.1, h.1.2.2.2.2, G5 h.2⟩
def isB : V -> Bool
 | .one (.d (.bool _)) => true
 | _ => false
def bOf : V -> Bool
 | .one (.d (.bool b)) => b
 | _ => false
theorem pB : ∀ {v : V}, isB v = true -> v = .one (.d (.bool (bOf v)))
 | .one (.d (.bool _)), _ => rfl
def evV (P : Program) (σ : St) (op : Op) (ty : TypeId) : Prop × V :=
 match op with
 | .move x => (True, look P σ ty x)
 | .assign x => (True, look P σ ty x)
 | .pick c a b =>
  (match unc (look P σ ty c) with
  | .one (.d (.bool bc)) => ((gOf (look P σ ty c) = true /\ (bc = true -> isB (unc (look P σ ty a)) = true) /\ (bc = false -> isB (unc (look P σ ty b)) = true)) /\ (bc = true -> gOf (look P σ ty a) = true) /\ (bc = false -> gOf (look P σ ty b) = true), .one (.d (.bool (cond bc (bOf (unc (look P σ ty a))) (bOf (unc (look P σ ty b)))))))
  | _ => (False, .any))
 | .load T x => vn P σ T x
 | .fieldAddr T x f => Rz P σ T x f
 | .nilCheck x => (match unc (look P σ 0 x) with
  | .one (.bptr t c) => (gOf (look P σ 0 x) = true /\ (match σ.ob t 0 with | .box _ => True | _ => False), .one (.bptr t c))
  | _ => (False, .any))
 | .indexAddr T x ix => PD P σ T x ix
 | .index T x ix =>
  (match unc (look P σ 0 x) with
  | .one (.d (.str s)) => ((gOf (look P σ 0 x) = true /\ (lkI P σ ix).1) /\ 0 <= (lkI P σ ix).2 /\ U0 P T = true /\ (lkI P σ ix).2 < (s.size : Int), .one (.d (.int .u8 (bAt s (lkI P σ ix).2.toNat))))
  | .agg xs => ((gOf (look P σ 0 x) = true /\ (lkI P σ ix).1) /\ 0 <= (lkI P σ ix).2 /\ (match AD P T with | some n => (lkI P σ ix).2 < (n : Int) | none => False) /\ qf P (ZQ P T) = true /\ (lkI P σ ix).2.toNat * P.cellsOf (ZQ P T) + P.cellsOf (ZQ P T) <= xs.length,
    ldV P (ZQ P T) (cut xs ((lkI P σ ix).2.toNat * P.cellsOf (ZQ P T)) (P.cellsOf (ZQ P T))))
  | _ => (False, .any))
 | .slice T x lo hi none =>
  (match unc (look P σ 0 x) with
  | .one (.d (.str s)) => ((gOf (look P σ 0 x) = true /\ U0 P T = true /\ (yP P σ 0 lo).1 /\ (yP P σ s.size hi).1) /\ (yP P σ 0 lo).2 <= (yP P σ s.size hi).2 /\ (yP P σ s.size hi).2 <= s.size, .one (.d (.str (s.extract (yP P σ 0 lo).2 (yP P σ s.size hi).2))))
  | .one (.d (.sl size rows)) => ((gOf (look P σ 0 x) = true /\ XK P T = true /\ size = P.cellsOf (ZQ P T) /\ (yP P σ 0 lo).1 /\ (yP P σ rows.length hi).1) /\ (yP P σ 0 lo).2 <= (yP P σ rows.length hi).2 /\ (yP P σ rows.length hi).2 <= rows.length,
    .one (.d (.sl size (cut rows (yP P σ 0 lo).2 ((yP P σ rows.length hi).2 - (yP P σ 0 lo).2)))))
  | .one (.sref t j o len) => ((gOf (look P σ 0 x) = true /\ XK P T = true /\ (match σ.ob t j with | .arr _ size _ => size = P.cellsOf (ZQ P T) | _ => False) /\ (yP P σ 0 lo).1 /\ (yP P σ len hi).1) /\ (yP P σ 0 lo).2 <= (yP P σ len hi).2 /\ (yP P σ len hi).2 <= len,
    .one (.sref t j (o + (yP P σ 0 lo).2) ((yP P σ len hi).2 - (yP P σ 0 lo).2)))
  | _ => (False, .any))
 | .binOp op T x y _ => ((gOf (look P σ T x) = true /\ gOf (look P σ T y) = true) /\ (CZ P op T (unc (look P σ T x)) (unc (look P σ T y))).1, (CZ P op T (unc (look P σ T x)) (unc (look P σ T y))).2)
 | .unOp .not _ x => (match unc (look P σ 0 x) with | .one (.d (.bool b)) => (gOf (look P σ 0 x) = true, .one (.d (.bool (!b)))) | _ => (False, .any))
 | .unOp .neg _ x => (match unc (look P σ 0 x) with | .one (.d (.int k n)) => (gOf (look P σ 0 x) = true, .one (.d (.int k (k.wrap (-n))))) | _ => (False, .any))
 | .convert S T x => (match unc (look P σ 0 x), uF P T with | .one (.d (.int _ n)), some k => (gOf (look P σ 0 x) = true /\ (P.underlying S).isSome = true, .one (.d (.int k (k.wrap n)))) | _, _ => (False, .any))
 | .extract x i => (match unc (look P σ 0 x) with | .tup xs => (gOf (look P σ 0 x) = true /\ i < xs.length /\ (xs.getD i .any).flat = true, xs.getD i .any) | _ => (False, .any))
 | .field T x f =>
  (match unc (look P σ 0 x) with
  | .agg xs => (gOf (look P σ 0 x) = true /\ kM P T f = true /\ qf P (xy P T f) = true /\ Qp P T f + P.cellsOf (xy P T f) <= xs.length, ldV P (xy P T f) (cut xs (Qp P T f) (P.cellsOf (xy P T f))))
  | _ => (False, .any))
 | .build T parts => (match kQ P 12 T with | some z => ((QK P T = true /\ TW P T = true) /\ (SF P σ T parts.toList z).1, .agg (SF P σ T parts.toList z).2) | none => (False, .any))
 | .call ⟨.builtin .len, ⟨[x]⟩, ⟨[t]⟩⟩ =>
  (match unc (look P σ t x) with
  | .one (.d (.str s)) => (gOf (look P σ t x) = true /\ U0 P t = true, .one (.d (.int .i64 s.size)))
  | .one (.d (.sl _ rows)) => (gOf (look P σ t x) = true /\ XK P t = true, .one (.d (.int .i64 rows.length)))
  | .one (.nil _) => (gOf (look P σ t x) = true /\ XK P t = true, .one (.d (.int .i64 0)))
  | .one (.sref u j _ len) => (gOf (look P σ t x) = true /\ XK P t = true /\ (match σ.ob u j with | .arr _ _ _ => True | .lit _ _ => True | _ => False), .one (.d (.int .i64 len)))
  | _ => (False, .any))
 | .call ⟨.builtin .max, ⟨[x, y]⟩, _⟩ => ((lkI P σ x).1 /\ (lkI P σ y).1 /\ lkK P σ y = lkK P σ x, .one (.d (.int (lkK P σ x) (if (lkI P σ y).2 > (lkI P σ x).2 then (lkI P σ y).2 else (lkI P σ x).2))))
 | .call ⟨.builtin .min, ⟨[x, y]⟩, _⟩ => ((lkI P σ x).1 /\ (lkI P σ y).1 /\ lkK P σ y = lkK P σ x, .one (.d (.int (lkK P σ x) (if (lkI P σ y).2 < (lkI P σ x).2 then (lkI P σ y).2 else (lkI P σ x).2))))
 | _ => (False, .any)
theorem uW {o : Ob} (h : (match o with | .box _ => True | _ => False)) : ∃ cells, o = .box cells := by
 cases o with
 | box c => exact ⟨c, rfl⟩
 | none => exact h.elim
 | arr q s r => exact h.elim
 | lit s r => exact h.elim
theorem o7 {o : Ob} (h : (match o with | .arr _ _ _ => True | _ => False)) : ∃ q size rows, o = .arr q size rows := by
 cases o with
 | arr q s r => exact ⟨q, s, r, rfl⟩
 | none => exact h.elim
 | box c => exact h.elim
 | lit s r => exact h.elim
theorem nR {o : Ob} (h : (match o with | .arr _ _ _ => True | .lit _ _ => True | _ => False)) : (∃ q size rows, o = .arr q size rows) \/ ∃ size rows, o = .lit size rows := by
 cases o with
 | arr q s r => exact .inl ⟨q, s, r, rfl⟩
 | none => exact h.elim
 | box c => exact h.elim
 | lit s r => exact .inr ⟨s, r, rfl⟩
theorem uz {o : Ob} {n : Nat} (h : (match o with | .arr _ size _ => size = n | _ => False)) : ∃ q rows, o = .arr q n rows := by
 cases o with
 | arr q s r => simp at h; subst h; exact ⟨q, r, rfl⟩
 | none => exact h.elim
 | box c => exact h.elim
 | lit s r => exact h.elim
theorem rl {P : Program} {op : BinOp} {T : TypeId} {x y : V} (hc : (CZ P op T x y).1) : vL P op T x y (CZ P op T x y).2 := by
 unfold CZ at hc ⊢
 split at hc
 all_goals first
  | exact hc.elim
  | exact ⟨.inr hc, rfl⟩
  | exact ⟨.inr hc.1, hc.2, rfl⟩
  | exact ⟨.inl (.inl rfl), hc, rfl⟩
  | exact ⟨.inl (.inr rfl), hc, rfl⟩
  | exact ⟨hc, rfl⟩
  | rfl
  | (obtain ⟨q, hq⟩ := Option.isSome_iff_exists.1 hc.2; exact ⟨hc.1, q, hq, .inl ⟨rfl, by rw [hq]; rfl⟩⟩)
  | (obtain ⟨q, hq⟩ := Option.isSome_iff_exists.1 hc.2; exact ⟨hc.1, q, hq, .inr ⟨rfl, by rw [hq]; rfl⟩⟩)
theorem vm {P : Program} {σ : St} {op : Op} {ty : TypeId} (hc : (evV P σ op ty).1) : Yg P σ op ty (evV P σ op ty).2 := by
 unfold evV at hc ⊢
 split at hc
 ·rfl
 ·rfl
 ·rename_i c a b
  split at hc
  ·rename_i bc h1; exact ⟨bc, _, _, hc.1.1, h1, (fun hh => pB (hc.1.2.1 hh)), (fun hh => pB (hc.1.2.2 hh)), hc.2.1, hc.2.2, (by first | rfl | trivial)⟩
  ·exact hc.elim
 ·rename_i T x
  unfold vn at hc ⊢
  simp only [Yg]
  split at hc
  ·rename_i t c hx
   split at hc
   ·rename_i cells ho; simp only [hx, ho]; exact ⟨hc.1, hc.2.1, cells, rfl, hc.2.2, (by first | rfl | trivial)⟩
   ·exact hc.elim
  ·rename_i t j i c hx
   split at hc
   ·rename_i size rows ho; simp only [hx, ho]; exact ⟨hc.1.1, hc.1.2.1, _, size, rows, rfl, hc.2, hc.1.2.2, (by first | rfl | trivial)⟩
   ·exact hc.elim
  ·rename_i r c hx; simp only [hx]; exact ⟨hc.1, hc.2.1, hc.2.2, (by first | rfl | trivial)⟩
  ·exact hc.elim
 ·rename_i T x f
  unfold Rz at hc ⊢
  simp only [Yg]
  split at hc
  ·rename_i t c hx; simp only [hx]; exact ⟨hc.1, hc.2.1, uW hc.2.2, (by first | rfl | trivial)⟩
  ·rename_i t j i c hx; simp only [hx]; exact ⟨hc.1, hc.2.1, o7 hc.2.2, (by first | rfl | trivial)⟩
  ·rename_i r c hx; simp only [hx]; exact ⟨hc.1, hc.2, (by first | rfl | trivial)⟩
  ·rename_i t j i c k hx
   have h3 := hc.2.2
   split at h3
   ·rename_i size rows ho; simp only [hx]; exact ⟨hc.1, hc.2.1, ⟨size, rows, ho⟩, (by first | rfl | trivial)⟩
   ·exact h3.elim
  ·exact hc.elim
 ·rename_i x
  simp only [Yg]
  split at hc
  ·rename_i t c hx; simp only [hx]; exact ⟨hc.1, uW hc.2, (by first | rfl | trivial)⟩
  ·exact hc.elim
 ·rename_i T x ix
  unfold PD at hc ⊢
  simp only [Yg]
  split at hc
  ·rename_i size rows hx
   simp only [hx]
   exact ⟨_, _, ko hc.1.2, hc.2.1, hc.1.1, hc.2.2.1.1, hc.2.2.1.2.1, hc.2.2.1.2.2, hc.2.2.2, (by first | rfl | trivial)⟩
  ·rename_i t j lo len hx
   simp only [hx]
   exact ⟨_, _, ko hc.1.2, hc.2.1, hc.1.1, hc.2.2.1.1, hc.2.2.1.2.1, uz hc.2.2.1.2.2, hc.2.2.2, (by first | rfl | trivial)⟩
  ·rename_i t j m c hx
   have h3 := hc.2.2.2
   split at h3
   ·rename_i size rows ho
    obtain ⟨hm, h4⟩ := h3
    split at h4
    ·rename_i n s hr
     obtain ⟨rfl, ij⟩ := h4
     simp only [hx]
     exact ⟨_, _, ko hc.1.2, hc.2.1, hc.1.1, hc.2.2.1.1, hc.2.2.1.2, ⟨size, rows, s, ho, hm, hr, ij⟩, (by first | rfl | trivial)⟩
    ·exact h4.elim
   ·exact h3.elim
  ·rename_i t c hx
   simp only [hx]
   refine ⟨_, _, ko hc.1.2, hc.2.1, hc.1.1, uW hc.2.2.1, ?_, (by first | rfl | trivial)⟩
   have := hc.2.2.2
   split at this
   ·rename_i n hn; exact ⟨n, hn, this.1, this.2⟩
   ·exact this.elim
  ·exact hc.elim
 ·rename_i T x ix
  simp only [Yg]
  split at hc
  ·rename_i s hx; simp only [hx]; exact ⟨_, _, ko hc.1.2, hc.2.1, hc.1.1, hc.2.2.1, hc.2.2.2, (by first | rfl | trivial)⟩
  ·rename_i xs hx
   simp only [hx]
   refine ⟨_, _, ko hc.1.2, hc.2.1, hc.1.1, ?_, hc.2.2.2.1, hc.2.2.2.2, (by first | rfl | trivial)⟩
   have := hc.2.2.1
   split at this
   ·rename_i n hn; exact ⟨n, hn, this⟩
   ·exact this.elim
  ·exact hc.elim
 ·rename_i T x lo hi
  simp only [Yg]
  split at hc
  ·rename_i s hx; simp only [hx]; exact ⟨hc.1.1, hc.1.2.1, _, _, Ty hc.1.2.2.1, Ty hc.1.2.2.2, hc.2.1, hc.2.2, (by first | rfl | trivial)⟩
  ·rename_i size rows hx; simp only [hx]; exact ⟨hc.1.1, hc.1.2.1, hc.1.2.2.1, _, _, Ty hc.1.2.2.2.1, Ty hc.1.2.2.2.2, hc.2.1, hc.2.2, (by first | rfl | trivial)⟩
  ·rename_i t j o len hx; simp only [hx]; exact ⟨hc.1.1, hc.1.2.1, uz hc.1.2.2.1, _, _, Ty hc.1.2.2.2.1, Ty hc.1.2.2.2.2, hc.2.1, hc.2.2, (by first | rfl | trivial)⟩
  ·exact hc.elim
 ·exact ⟨hc.1.1, hc.1.2, rl hc.2⟩
 ·simp only [Yg]
  split at hc
  ·rename_i b hx; simp only [hx]; exact ⟨hc, (by first | rfl | trivial)⟩
  ·exact hc.elim
 ·simp only [Yg]
  split at hc
  ·rename_i k n hx; simp only [hx]; exact ⟨hc, (by first | rfl | trivial)⟩
  ·exact hc.elim
 ·rename_i S T x
  simp only [Yg]
  split at hc
  ·rename_i k0 n k hx hk; simp only [hx, hk]; exact ⟨hc.1, hc.2, k, rfl, (by first | rfl | trivial)⟩
  ·exact hc.elim
 ·rename_i x i
  simp only [Yg]
  split at hc
  ·rename_i xs hx
   simp only [hx]
   exact ⟨hc.1, by simp [List.getD_eq_getElem?_getD, List.getElem?_eq_getElem hc.2.1], hc.2.2⟩
  ·exact hc.elim
 ·simp only [Yg]
  split at hc
  ·rename_i xs hx; simp only [hx]; exact ⟨hc.1, hc.2.1, hc.2.2.1, hc.2.2.2, (by first | rfl | trivial)⟩
  ·exact hc.elim
 ·simp only [Yg]
  split at hc
  ·rename_i z hz; exact ⟨hc.1.1, hc.1.2, z, _, hz, G5 hc.2, (by first | rfl | trivial)⟩
  ·exact hc.elim
 ·simp only [Yg]
  split at hc
  ·rename_i s hx; simp only [hx]; exact ⟨hc.1, hc.2, (by first | rfl | trivial)⟩
  ·rename_i s rows hx; simp only [hx]; exact ⟨hc.1, hc.2, (by first | rfl | trivial)⟩
  ·rename_i s hx; simp only [hx]; exact ⟨hc.1, hc.2, (by first | rfl | trivial)⟩
  ·rename_i u j lo len hx; simp only [hx]; exact ⟨hc.1, hc.2.1, nR hc.2.2, (by first | rfl | trivial)⟩
  ·exact hc.elim
 ·simp only [Yg]
  have hy := ko hc.2.1
  rw [hc.2.2] at hy
  exact ⟨_, _, _, ko hc.1, hy, (by first | rfl | trivial)⟩
 ·simp only [Yg]
  have hy := ko hc.2.1
  rw [hc.2.2] at hy
  exact ⟨_, _, _, ko hc.1, hy, (by first | rfl | trivial)⟩
 ·exact hc.elim
end Go.Vm
namespace Go.Vm
open Go.RowKit
def SY (P : Program) (σ : St) (T : TypeId) (size : Nat) : List (Nat × Operand) -> Nat -> Prop × List (List D)
 | [], _ => (True, [])
 | (i, x) :: ps, k => ((i = k /\ gOf (look P σ T x) = true /\ (unc (look P σ T x)).flat = true /\ zO (unc (look P σ T x)).cells = true /\ (rowOf σ (unc (look P σ T x)).cells).isSome = true /\ ((rowOf σ (unc (look P σ T x)).cells).getD []).length = size) /\ (SY P σ T size ps (k + 1)).1,
   (rowOf σ (unc (look P σ T x)).cells).getD [] :: (SY P σ T size ps (k + 1)).2)
theorem Cb {P : Program} {σ : St} {T : TypeId} {size : Nat} : ∀ {ps : List (Nat × Operand)} {k : Nat}, (SY P σ T size ps k).1 -> FZ P σ T size ps k (SY P σ T size ps k).2
 | [], _, _ => rfl
 | (_, x) :: _, _, h => by
  obtain ⟨⟨h1, h2, h3, h4, h5, h6⟩, h7⟩ := h
  obtain ⟨r, hr⟩ := Option.isSome_iff_exists.1 h5
  refine ⟨h1, h2, h3, h4, r, _, hr, ?_, Cb h7, ?_⟩
  ·rw [hr] at h6; exact h6
  ·simp only [SY, hr, Option.getD_some]
def S6 (σ : St) (x : V) (size : Nat) : Prop × List (List D) × St :=
 match x with
 | .one (.nil _) => (True, [], σ)
 | .one (.sref t j lo len) => (match σ.ob t j with | .arr false s iT => (s = size /\ lo = 0 /\ len = iT.length, iT, σ.Z5 t j .none) | _ => (False, [], σ))
 | _ => (False, [], σ)
theorem rD {σ : St} {x : V} {size : Nat} (h : (S6 σ x size).1) : SL σ x size (S6 σ x size).2.1 (S6 σ x size).2.2 := by
 unfold S6 at h ⊢
 split at h
 ·exact ⟨rfl, rfl⟩
 ·rename_i t j lo len
  split at h
  ·rename_i s iT ho
   obtain ⟨rfl, rfl, rfl⟩ := h
   exact ⟨iT, ho, rfl, Nat.le_refl _, (List.take_length).symm, rfl⟩
  ·exact h.elim
 ·exact h.elim
def MO (σ : St) (x : V) (size : Nat) : Prop × List (List D) :=
 match x with
 | .one (.d (.sl s rows)) => (s = size, rows)
 | .one (.nil _) => (True, [])
 | .one (.sref t j lo len) => (match σ.ob t j with | .arr false s rows => (s = size /\ lo + len <= rows.length, cut rows lo len) | _ => (False, []))
 | _ => (False, [])
theorem re {σ : St} {x : V} {size : Nat} (h : (MO σ x size).1) : qJ σ x size (MO σ x size).2 := by
 unfold MO at h ⊢
 split at h
 ·exact ⟨h, rfl⟩
 ·rfl
 ·rename_i t j lo len
  split at h
  ·rename_i s rows ho
   obtain ⟨rfl, hle⟩ := h
   exact ⟨rows, ho, hle, rfl⟩
  ·exact h.elim
 ·exact h.elim
def evS (P : Program) (σ : St) (o : Oper) (d : Nat) : Prop × St :=
 match o.op with
 | .alloc T => (match kQ P 12 T with | some row => (σ.fresh d = true /\ QK P T = true, σ.new d (.one (.bptr d 0)) [.box row]) | none => (False, σ))
 | .box T x => (σ.fresh d = true /\ gOf (look P σ T x) = true /\ (unc (look P σ T x)).flat = true /\ YU d (unc (look P σ T x)).cells = false, σ.new d (.one (.bptr d 0)) [.box (unc (look P σ T x)).cells])
 | .buildSlice T n parts => ((σ.fresh d = true /\ XK P T = true /\ QK P (ZQ P T) = true /\ 0 < P.cellsOf (ZQ P T) /\ parts.toList.length = n /\ n * P.cellsOf (ZQ P T) <= 16777216) /\ (SY P σ (ZQ P T) (P.cellsOf (ZQ P T)) parts.toList 0).1,
   σ.new d (.one (.sref d 0 0 (SY P σ (ZQ P T) (P.cellsOf (ZQ P T)) parts.toList 0).2.length)) [.arr false (P.cellsOf (ZQ P T)) (SY P σ (ZQ P T) (P.cellsOf (ZQ P T)) parts.toList 0).2])
 | .makeSlice T x y => (match kQ P 12 (ZQ P T) with
   | some z => (match zD z with
    | some zr => ((x = y /\ σ.fresh d = true /\ XK P T = true /\ QK P (ZQ P T) = true /\ 0 < P.cellsOf (ZQ P T) /\ (lkI P σ x).1) /\ 0 <= (lkI P σ x).2 /\ P.bytesOf (ZQ P T) * (lkI P σ x).2.toNat <= 281474976710656 /\ (lkI P σ x).2 <= 9223372036854775807,
      σ.new d (.one (.sref d 0 0 (lkI P σ x).2.toNat)) [.arr false (P.cellsOf (ZQ P T)) (List.replicate (lkI P σ x).2.toNat zr)])
    | none => (False, σ))
   | none => (False, σ))
 | .call ⟨.builtin .append, ⟨[x, y]⟩, ⟨[t, t']⟩⟩ =>
   (((t = t' /\ gOf (look P σ t x) = true /\ gOf (look P σ t y) = true /\ XK P t = true /\ QK P (ZQ P t) = true /\ 0 < P.cellsOf (ZQ P t)) /\ (S6 σ (unc (look P σ t x)) (P.cellsOf (ZQ P t))).1 /\ (MO σ (unc (look P σ t y)) (P.cellsOf (ZQ P t))).1 /\ (S6 σ (unc (look P σ t x)) (P.cellsOf (ZQ P t))).2.2.fresh d = true) /\
    ((S6 σ (unc (look P σ t x)) (P.cellsOf (ZQ P t))).2.1.length + (MO σ (unc (look P σ t y)) (P.cellsOf (ZQ P t))).2.length) * P.bytesOf (ZQ P t) <= 140737488355328 /\
    (S6 σ (unc (look P σ t x)) (P.cellsOf (ZQ P t))).2.1.length + (MO σ (unc (look P σ t y)) (P.cellsOf (ZQ P t))).2.length <= 9223372036854775807,
   (S6 σ (unc (look P σ t x)) (P.cellsOf (ZQ P t))).2.2.new d (.one (.sref d 0 0 ((S6 σ (unc (look P σ t x)) (P.cellsOf (ZQ P t))).2.1.length + (MO σ (unc (look P σ t y)) (P.cellsOf (ZQ P t))).2.length)))
    [.arr false (P.cellsOf (ZQ P t)) ((S6 σ (unc (look P σ t x)) (P.cellsOf (ZQ P t))).2.1 ++ (MO σ (unc (look P σ t y)) (P.cellsOf (ZQ P t))).2)])
 | op => ((evV P σ op o.type).1, σ.put d (evV P σ op o.type).2)
def vC (P : Program) (σ : St) (T : TypeId) (x y : Operand) : Prop × St :=
 match unc (look P σ 0 x) with
 | .one (.bptr t c) => (match σ.ob t 0 with
  | .box cells => (qf P T = true /\ gOf (look P σ 0 x) = true /\ gOf (look P σ T y) = true /\ (unc (look P σ T y)).flat = true /\ (unc (look P σ T y)).cells.length = P.cellsOf T /\ c + P.cellsOf T <= cells.length, σ.Z5 t 0 (.box (place cells c (unc (look P σ T y)).cells)))
  | _ => (False, σ))
 | .one (.ptr t j i c) => (match σ.ob t j with
  | .arr q size rows => ((qf P T = true /\ gOf (look P σ 0 x) = true /\ gOf (look P σ T y) = true /\ (unc (look P σ T y)).flat = true /\ (rowOf σ (unc (look P σ T y)).cells).isSome = true /\ zO (unc (look P σ T y)).cells = true /\ ((rowOf σ (unc (look P σ T y)).cells).getD []).length = P.cellsOf T /\ c + P.cellsOf T <= size) /\ i < rows.length /\ (q = true -> ((rowOf σ (unc (look P σ T y)).cells).getD []).all D.scalar = true /\ (cut (rowAt rows i) c (P.cellsOf T)).all D.scalar = true),
    σ.Z5 t j (.arr q size (rows.set i (place (rowAt rows i) c ((rowOf σ (unc (look P σ T y)).cells).getD [])))))
  | _ => (False, σ))
 | _ => (False, σ)
theorem sr {P : Program} {σ : St} {o : Oper} {d : Nat} (dW : ∀ c, o.op = .call c -> ∀ f, c.callee ≠ .value (.func f)) (hc : (evS P σ o d).1) : Step P o d σ (evS P σ o d).2 := by
 unfold evS at hc ⊢
 split at hc
 ·rename_i T iS
  unfold Step
  rw [iS]
  split at hc
  ·rename_i row hO; simp only [hO]; exact ⟨hc.1, hc.2, row, rfl, rfl⟩
  ·exact hc.elim
 ·rename_i T x iS
  unfold Step; rw [iS]
  exact ⟨hc.1, hc.2.1, hc.2.2.1, hc.2.2.2, rfl⟩
 ·rename_i T n parts iS
  unfold Step; rw [iS]
  obtain ⟨⟨h1, h2, h3, h4, h5, h6⟩, h7⟩ := hc
  exact ⟨h1, h2, h3, h4, h5, h6, .inl ⟨_, Cb h7, rfl⟩⟩
 ·rename_i T x y iS
  unfold Step; rw [iS]
  split at hc
  ·rename_i z hz
   split at hc
   ·rename_i zr fQ
    obtain ⟨⟨h1, h2, h3, h4, h5, h6⟩, h7, h8, h9⟩ := hc
    have hl := ko h6
    simp only [hz]
    refine ⟨h1, h2, h3, h4, h5, false, z, zr, lkK P σ x, (lkI P σ x).2.toNat, (fun hh => by cases hh), rfl, fQ, ?_, h8, by omega, rfl⟩
    rw [Int.toNat_of_nonneg h7]; exact hl
   ·exact hc.elim
  ·exact hc.elim
 ·rename_i x y t t' iS
  unfold Step; rw [iS]
  obtain ⟨⟨⟨rfl, h1, h2, h3, h4, h5⟩, h6, h7, h8⟩, h9, dY⟩ := hc
  exact ⟨x, y, t, rfl, rfl, h1, h2, h3, h4, h5, _, _, _, rD h6, re h7, h8, h9, dY, rfl⟩
 ·rename_i op h1 h2 h3 h4 h5
  have hv := vm hc
  unfold Step
  split
  ·rename_i T iS; exact absurd iS (h1 T)
  ·rename_i T x iS; exact absurd iS (h2 T x)
  ·rename_i T n ps iS; exact absurd iS (h3 T n ps)
  ·rename_i T x y iS; exact absurd iS (h4 T x y)
  ·rename_i c iS
   split
   ·rename_i eV
    rw [iS] at hv
    simp only [Yg] at hv
    split at hv
    ·rename_i da _ _; rw [eV] at da; cases da
    ·rename_i da _; rw [eV] at da; cases da
    ·rename_i da _; rw [eV] at da; cases da
    ·exact hv.elim
   ·rename_i f eV; exact absurd eV (dW c iS f)
   ·exact ⟨_, hv, rfl⟩
  ·exact .inl ⟨_, hv, rfl⟩
  ·exact ⟨_, hv, rfl⟩
theorem po {P : Program} {σ : St} {T : TypeId} {x y : Operand} (hc : (vC P σ T x y).1) : xl P σ T x y (vC P σ T x y).2 := by
 unfold vC at hc ⊢
 unfold xl
 split at hc
 ·rename_i t c hx
  split at hc
  ·rename_i cells ho
   obtain ⟨h1, h2, h3, h4, h5, h6⟩ := hc
   first | (rw [hx]; simp only [ho]) | simp only [ho]
   exact ⟨h1, h2, h3, h4, cells, rfl, h5, h6, rfl⟩
  ·exact hc.elim
 ·rename_i t j i c hx
  split at hc
  ·rename_i q size rows ho
   obtain ⟨⟨h1, h2, h3, h4, h5, h6, h7, h8⟩, h9, dY⟩ := hc
   obtain ⟨ds, dt⟩ := Option.isSome_iff_exists.1 h5
   first | (rw [hx]; simp only [ho]) | simp only [ho]
   refine ⟨h1, h2, h3, h4, q, size, rows, ds, rfl, h9, dt, h6, ?_, h8, fun hq => ?_, ?_⟩
   ·rw [dt] at h7; exact h7
   ·have := dY hq
    rw [dt] at this; exact this
   ·rw [dt]; rfl
  ·exact hc.elim
 ·exact hc.elim
def uD : List At -> Bool
 | [] => false
 | .nil _ :: _ => true
 | _ :: xs => uD xs
def u9 (P : Program) (T : TypeId) : Bool := match kQ P 12 (ZQ P T) with | some z => uD z | none => false
def B7 : List At -> Bool
 | [] => true
 | .d (.sl _ _) :: _ => false
 | .d _ :: xs => B7 xs
 | _ => false
def ou (P : Program) (σ : St) (T : TypeId) (x y : Operand) : Bool :=
 match unc (look P σ 0 x) with
 | .one (.ptr t j _ _) => (match σ.ob t j with | .arr true _ _ => !B7 (unc (look P σ T y)).cells | _ => false)
 | .one (.tref _ _ _ _ (some _)) => true
 | _ => false
def stops (P : Program) (o : Oper) : Bool :=
 match o.op with
 | .call ⟨.value _, _, _⟩ => true
 | .call ⟨.builtin .append, _, ⟨t :: _⟩⟩ => u9 P t
 | .buildSlice T _ _ => u9 P T
 | .makeSlice T _ _ => u9 P T
 | .makeFunc _ _ _ => true
 | .convert _ T _ => (uF P T).isNone
 | .indexAddr _ _ _ => o.guard.isSome
 | .index _ _ _ => o.guard.isSome
 | .slice _ _ _ _ _ => o.guard.isSome
 | _ => false
def xF (P : Program) (ops : Array Oper) (bar : Oper -> Bool) (o : Oper) (rest : List Oper) (σ : St) (Q : St -> Prop) : Prop := ∃ σ', yQ P ops bar o σ σ' /\ Aa P ops bar rest σ' Q
def Ev (P : Program) (ops : Array Oper) (bar : Oper -> Bool) : List Oper -> St -> (St -> Prop) -> Prop
 | [], σ, Q => Q σ
 | o :: rest, σ, Q =>
  if stops P o then xF P ops bar o rest σ Q else
  match o.guard with
  | none =>
   (match o.dst with
   | some d => (evS P σ o d).1 /\ Ev P ops bar rest (evS P σ o d).2 Q
   | none => (match o.op with | .store T x y => if ou P σ T x y then xF P ops bar o rest σ Q else (vC P σ T x y).1 /\ Ev P ops bar rest (vC P σ T x y).2 Q | _ => False))
  | some (j, want) =>
   (match (ops[j]?).bind (·.dst), o.dst with
   | some dj, some d => (match jU want (σ.get dj) with
    | some g => (dj < σ.length /\ (g = true -> (evV P σ o.op o.type).1 /\ gOf (evV P σ o.op o.type).2 = true /\ (unc (evV P σ o.op o.type).2).flat = true)) /\ Ev P ops bar rest (σ.put d (.cnd g (unc (evV P σ o.op o.type).2))) Q
    | none => False)
   | _, _ => False)
theorem JX {P : Program} {ops : Array Oper} {bar : Oper -> Bool} : ∀ {l : List Oper} {σ : St} {Q : St -> Prop}, Ev P ops bar l σ Q -> Aa P ops bar l σ Q
 | [], _, _, h => h
 | o :: rest, σ, Q, h => by
  unfold Ev at h
  split at h
  ·exact h
  ·rename_i hQ
   have dW : ∀ c, o.op = .call c -> ∀ f, c.callee ≠ .value (.func f) := by
    intro c iS f eV
    obtain ⟨cc, ca, ct⟩ := c
    simp only at eV; subst eV
    exact hQ (by simp [stops, iS])
   split at h
   ·rename_i hg
    split at h
    ·rename_i d hd
     refine ⟨_, .inl ?_, JX h.2⟩
     unfold XS
     simp only [hg, hd]
     exact sr dW h.1
    ·rename_i hd
     split at h
     ·rename_i T x y iS
      split at h
      ·exact h
      ·refine ⟨_, .inl ?_, JX h.2⟩
       unfold XS
       simp only [hg, hd, iS]
       exact po h.1
     ·exact h.elim
   ·rename_i j want hg
    split at h
    ·rename_i dj d fD hd
     split at h
     ·rename_i g fI
      refine ⟨_, .inl ?_, JX h.2⟩
      unfold XS
      simp only [hg]
      refine ⟨dj, d, g, _, fD, h.1.1, hd, fI, fun bo => ?_, rfl⟩
      obtain ⟨h1, h2, h3⟩ := h.1.2 bo
      have base : ∃ v0, Yg P σ o.op o.type v0 /\ gOf v0 = true /\ unc (evV P σ o.op o.type).2 = unc v0 /\ (unc (evV P σ o.op o.type).2).flat = true := ⟨_, vm h1, h2, rfl, h3⟩
      unfold M8
      split
      ·rename_i c iS
       split
       ·rename_i f eV; exact absurd eV (dW c iS f)
       ·exact base
      ·exact base
     ·exact h.elim
    ·exact h.elim
theorem nJ {P : Program} {Q : Exit -> St -> Prop} {σ : St} {id : Nat} {l : List Oper} {bar : Oper -> Bool} (h : Ev P l.toArray bar l σ (Q .normal)) : AWP P (.region id l.toArray false) Q σ := vw (JX h)
theorem Ax {P : Program} {ops : Array Oper} {bar : Oper -> Bool} {o : Oper} {rest : List Oper} {σ : St} {Q : St -> Prop} {c : Call} {f : FuncId} {d : Nat} {own : Bool} {rows res : List (List D)} (iS : o.op = .call c) (hc : c.callee = .value (.func f)) (hg : o.guard = none) (hd : o.dst = some d)
  (iY : Qs P σ c.args.toList c.argTypes.toList rows) (hs : JC P f own rows res) (hQ : Ym P σ c.args.toList c.argTypes.toList = true \/ Kh own res) (h : Ev P ops bar rest (σ.put d (j4 res)) Q) : xF P ops bar o rest σ Q := by
 refine ⟨_, .inl ?_, JX h⟩
 unfold XS; simp only [hg, hd]
 unfold Step
 rw [iS]
 simp only [hc]
 exact .inl ⟨own, res, ⟨rows, iY, hs, hQ⟩, rfl⟩
theorem BH {P : Program} {ops : Array Oper} {bar : Oper -> Bool} {o : Oper} {rest : List Oper} {σ : St} {Q : St -> Prop} {c : Call} {f : FuncId} {d : Nat} {rows res : List (List D)} (iS : o.op = .call c) (hc : c.callee = .value (.func f)) (hg : o.guard = none) (hd : o.dst = some d)
  (iY : Qs P σ c.args.toList c.argTypes.toList rows) (hs : JC P f true rows res) (hQ : Ym P σ c.args.toList c.argTypes.toList = true \/ Kh true res) (hf : σ.fresh d = true) (h : Ev P ops bar rest (σ.new d (Vg d res) (xE res.flatten)) Q) : xF P ops bar o rest σ Q := by
 refine ⟨_, .inl ?_, JX h⟩
 unfold XS; simp only [hg, hd]
 unfold Step
 rw [iS]
 simp only [hc]
 exact .inr (.inl ⟨res, ⟨rows, iY, hs, hQ⟩, hf, rfl⟩)
theorem v9 {P : Program} {ops : Array Oper} {bar : Oper -> Bool} {o : Oper} {rest : List Oper} {σ : St} {Q : St -> Prop} {c : Call} {f : FuncId} {d j dj : Nat} {want g own : Bool} {rows : List (List D)} {res : List D} (iS : o.op = .call c) (hc : c.callee = .value (.func f)) (hg : o.guard = some (j, want)) (hd : o.dst = some d)
  (fD : (ops[j]?).bind (·.dst) = some dj) (ij : dj < σ.length) (fI : jU want (σ.get dj) = some g)
  (iY : g = true -> Qs P σ c.args.toList c.argTypes.toList rows) (hs : g = true -> JC P f own rows [res]) (hQ : Ym P σ c.args.toList c.argTypes.toList = true \/ Kh own [res]) (h : Ev P ops bar rest (σ.put d (.cnd g (j4 [res]))) Q) : xF P ops bar o rest σ Q := by
 refine ⟨_, .inl ?_, JX h⟩
 unfold XS; simp only [hg]
 refine ⟨dj, d, g, _, fD, ij, hd, fI, fun bo => ?_, rfl⟩
 unfold M8
 rw [iS]
 simp only [hc]
 exact ⟨own, res, ⟨rows, iY bo, hs bo, hQ⟩, rfl⟩
theorem uK {P : Program} {ops : Array Oper} {bar : Oper -> Bool} {o : Oper} {rest : List Oper} {σ : St} {Q : St -> Prop} {S T : TypeId} {x : Operand} {d : Nat} {l : List UInt8} (iS : o.op = .convert S T x) (hg : o.guard = none) (hd : o.dst = some d)
  (h1 : gOf (look P σ S x) = true) (h2 : Pe P S = true) (h3 : U0 P T = true) (h4 : qJ σ (unc (look P σ S x)) 1 (Ka l)) (h : Ev P ops bar rest (σ.put d (.one (.d (.str ⟨l.toArray⟩)))) Q) : xF P ops bar o rest σ Q := by
 refine ⟨_, .inl ?_, JX h⟩
 unfold XS; simp only [hg, hd]
 unfold Step
 rw [iS]
 exact .inr (.inl ⟨l, h1, h2, h3, h4, rfl⟩)
theorem Bp {P : Program} {ops : Array Oper} {bar : Oper -> Bool} {o : Oper} {rest : List Oper} {σ : St} {Q : St -> Prop} {S T : TypeId} {x : Operand} {d : Nat} {s : ByteArray} (iS : o.op = .convert S T x) (hg : o.guard = none) (hd : o.dst = some d)
  (h1 : gOf (look P σ S x) = true) (h2 : U0 P S = true) (h3 : Pe P T = true) (h4 : unc (look P σ S x) = .one (.d (.str s))) (h5 : s.size <= 9223372036854775807) (h : Ev P ops bar rest (σ.put d (.one (.d (.sl 1 (Ka s.data.toList))))) Q) : xF P ops bar o rest σ Q := by
 refine ⟨_, .inl ?_, JX h⟩
 unfold XS; simp only [hg, hd]
 unfold Step
 rw [iS]
 exact .inr (.inr ⟨s, h1, h2, h3, h4, h5, rfl⟩)
theorem pw {P : Program} {ops : Array Oper} {bar : Oper -> Bool} {o : Oper} {rest : List Oper} {σ : St} {Q : St -> Prop} {d : Nat} (dW : ∀ c, o.op = .call c -> ∀ f, c.callee ≠ .value (.func f)) (hg : o.guard = none) (hd : o.dst = some d)
  (h1 : (evS P σ o d).1) (h : Ev P ops bar rest (evS P σ o d).2 Q) : xF P ops bar o rest σ Q := by
 refine ⟨_, .inl ?_, JX h⟩
 unfold XS; simp only [hg, hd]
 exact sr dW h1
theorem uX {P : Program} {ops : Array Oper} {bar : Oper -> Bool} {o : Oper} {rest : List Oper} {σ : St} {Q : St -> Prop} {c : Call} {f : FuncId} {d : Nat} {rows res : List (List D)} (qs : List Bool) (iS : o.op = .call c) (hc : c.callee = .value (.func f)) (hg : o.guard = none) (hd : o.dst = some d)
  (iY : Qs P σ c.args.toList c.argTypes.toList rows) (hs : Yv P f rows res) (hq : Tu qs res.flatten) (hf : σ.fresh d = true) (h : Ev P ops bar rest (σ.new d (Vg d res) (YM qs res.flatten)) Q) : xF P ops bar o rest σ Q := by
 refine ⟨_, .inl ?_, JX h⟩
 unfold XS; simp only [hg, hd]
 unfold Step
 rw [iS]
 simp only [hc]
 exact .inr (.inr ⟨rows, res, qs, iY, hs, hq, hf, rfl⟩)
def zI (P : Program) (σ : St) (T : TypeId) (size : Nat) : List (Nat × Operand) -> Nat -> Prop × List (List At)
 | [], _ => (True, [])
 | (i, x) :: ps, k => ((i = k /\ gOf (look P σ T x) = true /\ (unc (look P σ T x)).flat = true /\ (unc (look P σ T x)).cells.length = size) /\ (zI P σ T size ps (k + 1)).1, (unc (look P σ T x)).cells :: (zI P σ T size ps (k + 1)).2)
theorem FR {P : Program} {σ : St} {T : TypeId} {size : Nat} : ∀ {ps : List (Nat × Operand)} {k : Nat}, (zI P σ T size ps k).1 -> Ns P σ T size ps k (zI P σ T size ps k).2
 | [], _, _ => rfl
 | (_, x) :: _, _, h => by
  obtain ⟨⟨h1, h2, h3, h4⟩, h7⟩ := h
  exact ⟨h1, h2, h3, h4, _, FR h7, rfl⟩
theorem sn {P : Program} {ops : Array Oper} {bar : Oper -> Bool} {o : Oper} {rest : List Oper} {σ : St} {Q : St -> Prop} {d : Nat} {T : TypeId} {n : Nat} {parts : Array (Nat × Operand)} (iS : o.op = .buildSlice T n parts) (hg : o.guard = none) (hd : o.dst = some d)
  (h1 : σ.fresh d = true /\ XK P T = true /\ QK P (ZQ P T) = true /\ 0 < P.cellsOf (ZQ P T) /\ parts.toList.length = n /\ n * P.cellsOf (ZQ P T) <= 16777216) (h2 : (zI P σ (ZQ P T) (P.cellsOf (ZQ P T)) parts.toList 0).1)
  (h3 : YU d (zI P σ (ZQ P T) (P.cellsOf (ZQ P T)) parts.toList 0).2.flatten = false)
  (h : Ev P ops bar rest (σ.new d (.one (.sref d 0 0 (zI P σ (ZQ P T) (P.cellsOf (ZQ P T)) parts.toList 0).2.length)) [.lit (P.cellsOf (ZQ P T)) (zI P σ (ZQ P T) (P.cellsOf (ZQ P T)) parts.toList 0).2]) Q) : xF P ops bar o rest σ Q := by
 refine ⟨_, .inl ?_, JX h⟩
 unfold XS; simp only [hg, hd]
 unfold Step
 rw [iS]
 exact ⟨h1.1, h1.2.1, h1.2.2.1, h1.2.2.2.1, h1.2.2.2.2.1, h1.2.2.2.2.2, .inr ⟨_, FR h2, h3, rfl⟩⟩
theorem rC {P : Program} {ops : Array Oper} {bar : Oper -> Bool} {o : Oper} {rest : List Oper} {σ : St} {Q : St -> Prop} {d : Nat} {T : TypeId} {x : Operand} {z : List At} {zr : List D} {n : Nat} (iS : o.op = .makeSlice T x x) (hg : o.guard = none) (hd : o.dst = some d)
  (hz : kQ P 12 (ZQ P T) = some z) (fQ : zD z = some zr) (hzf : L6 z = true) (h1 : σ.fresh d = true /\ XK P T = true /\ QK P (ZQ P T) = true /\ 0 < P.cellsOf (ZQ P T) /\ (lkI P σ x).1) (hn : (lkI P σ x).2 = (n : Int)) (hb : P.bytesOf (ZQ P T) * n <= 281474976710656) (hm : n <= 9223372036854775807)
  (h : Ev P ops bar rest (σ.new d (.one (.sref d 0 0 n)) [.arr true (P.cellsOf (ZQ P T)) (List.replicate n zr)]) Q) : xF P ops bar o rest σ Q := by
 refine ⟨_, .inl ?_, JX h⟩
 unfold XS; simp only [hg, hd]
 unfold Step
 rw [iS]
 have hl := ko h1.2.2.2.2
 rw [hn] at hl
 exact ⟨rfl, h1.1, h1.2.1, h1.2.2.1, h1.2.2.2.1, true, z, zr, _, n, fun _ => hzf, hz, fQ, hl, hb, hm, rfl⟩
def V3 (σ : St) (x : V) (size : Nat) : Prop × List (List D) × List (Nat × Nat) :=
 match x with
 | .one (.nil _) => (True, [], [])
 | .one (.sref t j lo len) => (match σ.ob t j with | .arr true s iT => (s = size /\ lo = 0 /\ len = iT.length, iT, [(t, j)]) | _ => (False, [], []))
 | _ => (False, [], [])
theorem tR {σ : St} {x : V} {size : Nat} (h : (V3 σ x size).1) : tn σ x size (V3 σ x size).2.1 (V3 σ x size).2.2 := by
 unfold V3 at h ⊢
 split at h
 ·exact ⟨rfl, rfl⟩
 ·rename_i t j lo len
  split at h
  ·rename_i s iT ho
   obtain ⟨rfl, rfl, rfl⟩ := h
   exact ⟨ho, rfl, rfl, rfl⟩
  ·exact h.elim
 ·exact h.elim
def V1 (σ : St) (x : V) (size : Nat) : Prop × List (List D) × List (Nat × Nat) :=
 match x with
 | .one (.sref t j lo len) => (match σ.ob t j with | .lit s rows => ((s = size /\ lo = 0 /\ len = rows.length) /\ (zz σ rows).isSome = true /\ K8 σ rows, (zz σ rows).getD [], Yh rows.flatten) | _ => (False, [], []))
 | _ => (False, [], [])
theorem sD {σ : St} {x : V} {size : Nat} (h : (V1 σ x size).1) : tz σ x size (V1 σ x size).2.1 (V1 σ x size).2.2 := by
 unfold V1 at h ⊢
 split at h
 ·rename_i t j lo len
  split at h
  ·rename_i s rows ho
   obtain ⟨⟨rfl, rfl, rfl⟩, h1, h2⟩ := h
   obtain ⟨ns, dW⟩ := Option.isSome_iff_exists.1 h1
   exact ⟨rows, ho, rfl, rfl, by rw [dW]; rfl, h2, rfl⟩
  ·exact h.elim
 ·exact h.elim
theorem Uy : ∀ (σ : St) (d : Nat) (v : V) (t : Nat), (σ.put d v)[t]? = if t = d then (σ[t]?).map (fun e => (v, e.2)) else σ[t]?
 | [], _, _, _ => by simp [St.put]
 | e :: σ, 0, v, t => by cases t <;> simp [St.put]
 | e :: σ, d + 1, v, t => by
  cases t with
  | zero => simp [St.put]
  | succ t => have := Uy σ d v t; simpa [St.put] using this
theorem jC : ∀ (σ : St) (d : Nat) (v : V) (os : List Ob) (t : Nat), (σ.new d v os)[t]? = if t = d then (σ[t]?).map (fun _ => (v, os)) else σ[t]?
 | [], _, _, _, _ => by simp [St.new]
 | e :: σ, 0, v, os, t => by cases t <;> simp [St.new]
 | e :: σ, d + 1, v, os, t => by
  cases t with
  | zero => simp [St.new]
  | succ t => have := jC σ d v os t; simpa [St.new] using this
theorem qa : ∀ (σ : St) (a j : Nat) (o : Ob) (t : Nat), (σ.Z5 a j o)[t]? = if t = a then (σ[t]?).map (fun e => (e.1, e.2.set j o)) else σ[t]?
 | [], _, _, _, _ => by simp [St.Z5]
 | e :: σ, 0, j, o, t => by cases t <;> simp [St.Z5]
 | e :: σ, a + 1, j, o, t => by
  cases t with
  | zero => simp [St.Z5]
  | succ t => have := qa σ a j o t; simpa [St.Z5] using this
theorem Tc {σ : St} {d : Nat} : JH σ d = true ↔ σ[d]? = some (.any, []) \/ ∃ x, σ[d]? = some (.one (.d x), []) := by
 unfold JH
 constructor
 ·intro h
  split at h
  ·rename_i h1; exact .inl h1
  ·rename_i x h1; exact .inr ⟨x, h1⟩
  ·cases h
 ·rintro (h | ⟨x, h⟩) <;> rw [h]
theorem QV {σ : St} {d a j : Nat} {o : Ob} (h : JH σ d = true) : JH (σ.Z5 a j o) d = true := by
 rw [Tc] at *
 rw [qa]
 rcases h with h | ⟨x, h⟩
 ·left; rw [h]; split <;> rfl
 ·right; refine ⟨x, ?_⟩; rw [h]; split <;> rfl
theorem JY : ∀ {l : List (Nat × Nat)} {σ : St} {d : Nat}, JH σ d = true -> JH (σ.Zt l) d = true
 | [], _, _, h => h
 | p :: l, σ, d, h => by rw [St.Zt]; exact JY (l := l) (QV h)
theorem Po {σ : St} {d d' : Nat} {v : V} {os : List Ob} (iU : d ≠ d') (h : JH σ d = true) : JH (σ.new d' v os) d = true := by
 unfold JH at *; simp only [jC, if_neg iU]; exact h
theorem XO {P : Program} {σ : St} {d : Nat} {v : V} {T : TypeId} {x : Operand} (h : xT d x = false) : look P (σ.put d v) T x = look P σ T x := by
 cases x with
 | tmp t =>
  have iU : t ≠ d := fun e => by subst e; simp [xT] at h
  simp [look, St.yb, iU]
 | const c => rfl
 | global g => rfl
 | func f => rfl
theorem qT : ∀ (σ : St) (d : Nat) (v : V) (t j : Nat) (o : Ob), (σ.put d v).Z5 t j o = (σ.Z5 t j o).put d v
 | [], _, _, _, _, _ => rfl
 | e :: σ, 0, v, 0, j, o => rfl
 | e :: σ, d + 1, v, 0, j, o => rfl
 | e :: σ, 0, v, t + 1, j, o => rfl
 | e :: σ, d + 1, v, t + 1, j, o => by simp [St.put, St.Z5, qT σ d v t j o]
theorem Ui {d : Nat} {v : V} : ∀ (l : List (Nat × Nat)) (σ : St), (σ.put d v).Zt l = (σ.Zt l).put d v
 | [], _ => rfl
 | p :: l, σ => by rw [St.Zt, St.Zt, qT, Ui l]
theorem M4 {σ : St} {d : Nat} {v : V} : ∀ (xs : List At), JF (σ.put d v) xs = JF σ xs
 | [] => rfl
 | x :: xs => by
  have : mvD (σ.put d v) x = mvD σ x := by cases x <;> simp [mvD, St.JW]
  simp only [JF, this, M4 xs]
theorem Rh {σ : St} {d : Nat} {v : V} : ∀ (xs : List At), Qn (σ.put d v) xs = Qn σ xs
 | [] => rfl
 | x :: xs => by
  have : HX (σ.put d v) x = HX σ x := by cases x <;> simp [HX, St.JW]
  simp only [Qn, this, Rh xs]
theorem P2 : ∀ (l : List (Nat × V)) (σ : St), (σ.JQ l).ob = σ.ob
 | [], _ => rfl
 | p :: l, σ => by rw [St.JQ, P2 l, St.JW]
theorem kn {P : Program} {T : TypeId} {x : Operand} : ∀ (l : List (Nat × V)) (σ : St), (∀ p ∈ l, xT p.1 x = false) -> look P (σ.JQ l) T x = look P σ T x
 | [], _, _ => rfl
 | p :: l, σ, h => by rw [St.JQ, kn l _ (fun q hq => h q (by simp [hq])), XO (h p (by simp))]
theorem jE {t j : Nat} {o : Ob} : ∀ (l : List (Nat × V)) (σ : St), (σ.JQ l).Z5 t j o = (σ.Z5 t j o).JQ l
 | [], _ => rfl
 | p :: l, σ => by rw [St.JQ, jE l, qT, St.JQ]
theorem yp {L : List (Nat × Nat)} : ∀ (l : List (Nat × V)) (σ : St), (σ.JQ l).Zt L = (σ.Zt L).JQ l
 | [], _ => rfl
 | p :: l, σ => by rw [St.JQ, yp l, Ui, St.JQ]
theorem uj : ∀ {σ : St} {t d : Nat} {v v' : V} {os : List Ob}, t ≠ d -> (σ.put t v').new d v os = (σ.new d v os).put t v'
 | [], _, _, _, _, _, _ => rfl
 | e :: σ, 0, 0, _, _, _, h => absurd rfl h
 | e :: σ, 0, d + 1, _, _, _, _ => rfl
 | e :: σ, t + 1, 0, _, _, _, _ => rfl
 | e :: σ, t + 1, d + 1, v, v', os, h => by simp [St.put, St.new, uj (σ := σ) (v := v) (v' := v') (os := os) (fun hh => h (congrArg (· + 1) hh))]
theorem Au {d : Nat} {v : V} {os : List Ob} : ∀ (l : List (Nat × V)) (σ : St), (∀ p ∈ l, p.1 ≠ d) -> (σ.JQ l).new d v os = (σ.new d v os).JQ l
 | [], _, _ => rfl
 | p :: l, σ, h => by rw [St.JQ, Au l _ (fun q hq => h q (by simp [hq])), uj (h p (by simp)), St.JQ]
theorem OV {d : Nat} {v : V} (hv : v.ref d = false) : ∀ {σ : St} {k t : Nat}, z8 d k σ = true -> z8 d k (σ.put t v) = true
 | [], _, _, h => h
 | e :: σ, k, 0, h => by
  simp only [z8, St.put, Bool.and_eq_true, Bool.or_eq_true, Bool.not_eq_true'] at h ⊢
  exact ⟨h.1.imp id (fun hh => ⟨hv, hh.2⟩), h.2⟩
 | e :: σ, k, t + 1, h => by
  simp only [z8, St.put, Bool.and_eq_true] at h ⊢
  exact ⟨h.1, OV hv h.2⟩
theorem SW {d : Nat} : ∀ (l : List (Nat × V)) {σ : St}, (∀ p ∈ l, p.2.ref d = false) -> σ.fresh d = true -> (σ.JQ l).fresh d = true
 | [], _, _, h => h
 | p :: l, σ, hl, h => by
  refine SW l (fun q hq => hl q (by simp [hq])) ?_
  simp only [St.fresh, Bool.and_eq_true, decide_eq_true_eq, St.Jk] at h ⊢
  exact ⟨h.1, OV (hl p (by simp)) h.2⟩
theorem VT {o : Oper} {x y : Operand} {t : TypeId} (iS : o.op = .call ⟨.builtin .append, #[x, y], #[t, t]⟩) {n : Nat} (h : OE o n = true) : xT n x = false /\ xT n y = false := by
 have hx : x ∈ o.op.operands.toList := by rw [iS]; simp [Op.operands, Call.operands]
 have hy : y ∈ o.op.operands.toList := by rw [iS]; simp [Op.operands, Call.operands]
 simp only [OE, Bool.not_eq_true'] at h
 exact ⟨Bool.eq_false_iff.2 (List.any_eq_false.1 h x hx), Bool.eq_false_iff.2 (List.any_eq_false.1 h y hy)⟩
theorem Ag {σ σ' : St} (h : σ'.ob = σ.ob) : ∀ (xs : List At), JF σ' xs = JF σ xs
 | [] => rfl
 | x :: xs => by
  have : mvD σ' x = mvD σ x := by cases x <;> simp [mvD, h]
  simp only [JF, this, Ag h xs]
theorem EE {σ σ' : St} (h : σ'.ob = σ.ob) : ∀ (xs : List At), Qn σ' xs = Qn σ xs
 | [] => rfl
 | x :: xs => by
  have : HX σ' x = HX σ x := by cases x <;> simp [HX, h]
  simp only [Qn, this, EE h xs]
theorem CC {σ σ' : St} (h : σ'.ob = σ.ob) : ∀ (xs : List (List At)), zz σ' xs = zz σ xs
 | [] => rfl
 | x :: xs => by simp only [zz, Ag h, CC h xs]
theorem IA {σ σ' : St} (h : σ'.ob = σ.ob) : ∀ (xs : List (List At)), K8 σ' xs = K8 σ xs
 | [] => rfl
 | x :: xs => by simp only [K8, EE h, IA h xs]
theorem pv {σ σ' : St} (h : σ'.ob = σ.ob) {x : V} {size : Nat} {iT : List (List D)} {l : List (Nat × Nat)} (hd : tn σ x size iT l) : tn σ' x size iT l := by
 unfold tn at *; rw [h]; exact hd
theorem pT {σ σ' : St} (h : σ'.ob = σ.ob) {x : V} {size : Nat} {news : List (List D)} {l : List (Nat × Nat)} (hd : tz σ x size news l) : tz σ' x size news l := by
 unfold tz at *
 simp only [h, CC h, IA h]; exact hd
theorem py {σ σ' : St} (h : σ'.ob = σ.ob) {x : V} {size : Nat} {iT : List (List D)} {l : List (Nat × Nat)} (hd : wO σ x size iT l) : wO σ' x size iT l := by
 unfold wO at *; rw [h]; exact hd
theorem Cp {d : Nat} : ∀ {os : List Ob} {j : Nat} {cells : List At}, Y2 d os = false -> Yp os j = .box cells -> YU d cells = false
 | [], j, cells, _, h => by simp [Yp] at h
 | o :: os, 0, cells, hr, h => by
  simp only [Yp, List.getElem?_cons_zero] at h
  subst h
  simp only [Y2, Bool.or_eq_false_iff] at hr; exact hr.1
 | o :: os, j + 1, cells, hr, h => by
  have h' : Yp os j = .box cells := by simpa [Yp] using h
  refine Cp (os := os) (j := j) ?_ h'
  cases o <;> simp only [Y2, Bool.or_eq_false_iff] at hr <;> first | exact hr.2 | exact hr
theorem FX {P : Program} {ops : Array Oper} {o : Oper} {σ X : St} {d : Nat} {v : V} {os : List Ob} (hd : o.dst = some d) (hlen : X.length = σ.length) (gY : ∀ t, X.get t = σ.get t) (et : ∀ t j cells, X.ob t j = .box cells -> σ.ob t j = .box cells)
  (gw : ∀ t j q s rows, X.ob t j = .arr q s rows -> ∃ iW, σ.ob t j = .arr q s iW) (hf : X.fresh d = true)
  (hs : ∀ l : List (Nat × V), (∀ p ∈ l, p.1 ≠ d /\ OE o p.1 = true /\ p.2.ref d = false) -> Ud P ops o (σ.JQ l) ((X.JQ l).new d v os)) (hc : ∀ l : List (Nat × V), O3 o (σ.JQ l) ((X.JQ l).new d v os)) : mo P ops o σ (X.new d v os) := by
 have ij := St.yx hf
 have hent : ∀ t e, X[t]? = some e -> t ≠ d -> e.1.ref d = false /\ Y2 d e.2 = false := fun t e he iU => by
  have h1 := hf
  simp only [St.fresh, Bool.and_eq_true] at h1
  exact y9 h1.2 t e he (by omega)
 refine ⟨d, hd, by rw [St.Sr, hlen], fun t iU => ?_, fun t j cells iU hb => ?_, fun t j q s rows iU hb => ?_, fun l hl => ?_⟩
 ·rw [St.SP, if_neg (fun hh => iU hh.1), gY]
  refine ⟨rfl, ?_⟩
  rw [<- gY]
  unfold St.get
  cases he : X[t]? with
  | none => rfl
  | some e => exact (hent t e he iU).1
 ·rw [St.zF, if_neg (fun hh => iU hh.1)] at hb
  refine ⟨et t j cells hb, ?_⟩
  unfold St.ob at hb
  cases he : X[t]? with
  | none => rw [he] at hb; cases hb
  | some e => rw [he] at hb; exact Cp (hent t e he iU).2 hb
 ·rw [St.zF, if_neg (fun hh => iU hh.1)] at hb
  exact gw t j q s rows hb
 ·have e := Au (d := d) (v := v) (os := os) l X (fun p hp => (hl p hp).1)
  rw [<- e]
  exact ⟨hs l hl, hc l⟩
theorem FW {σ : St} {L : List (Nat × Nat)} {t j : Nat} {cells : List At} (h : (σ.Zt L).ob t j = .box cells) : σ.ob t j = .box cells := by
 rw [St.zA] at h
 split at h
 ·cases h
 ·exact h
theorem EM {σ : St} {L : List (Nat × Nat)} {t j : Nat} {q : Bool} {s : Nat} {rows : List (List D)} (h : (σ.Zt L).ob t j = .arr q s rows) : σ.ob t j = .arr q s rows := by
 rw [St.zA] at h
 split at h
 ·cases h
 ·exact h
theorem rh {P : Program} {ops : Array Oper} {bar : Oper -> Bool} {o : Oper} {rest : List Oper} {σ : St} {Q : St -> Prop} {d : Nat} {x y : Operand} {t : TypeId} {iT news : List (List D)} {l1 l2 : List (Nat × Nat)} {size : Nat} (iS : o.op = .call ⟨.builtin .append, #[x, y], #[t, t]⟩) (hg : o.guard = none) (hd : o.dst = some d) (gO : bar o = true)
  (gX : size = P.cellsOf (ZQ P t)) (h1 : gOf (look P σ t x) = true /\ gOf (look P σ t y) = true /\ XK P t = true /\ QK P (ZQ P t) = true /\ 0 < P.cellsOf (ZQ P t))
  (h2 : (V3 σ (unc (look P σ t x)) size).1 /\ (V3 σ (unc (look P σ t x)) size).2 = (iT, l1)) (h3 : (V1 σ (unc (look P σ t y)) size).1 /\ (V1 σ (unc (look P σ t y)) size).2 = (news, l2))
  (h4 : (l1 ++ l2).Nodup /\ (σ.Zt (l1 ++ l2)).fresh d = true) (h5 : (iT.length + news.length) * P.bytesOf (ZQ P t) <= 140737488355328 /\ iT.length + news.length <= 9223372036854775807)
  (h : Ev P ops bar rest ((σ.Zt (l1 ++ l2)).new d (.one (.sref d 0 0 (iT.length + news.length))) [.arr true size (iT ++ news)]) Q) : xF P ops bar o rest σ Q := by
 subst gX
 have e1 := tR h2.1
 have e2 := sD h3.1
 rw [h2.2] at e1
 rw [h3.2] at e2
 have cl : ∀ σ0 : St, O3 o σ0 ((σ0.Zt (l1 ++ l2)).new d (.one (.sref d 0 0 (iT.length + news.length))) [.arr true (P.cellsOf (ZQ P t)) (iT ++ news)]) := fun σ0 d' ir hc => Po (fun e => ir (by rw [hd, e])) (JY hc)
 have go : ∀ l : List (Nat × V), (∀ p ∈ l, p.1 ≠ d /\ OE o p.1 = true /\ p.2.ref d = false) -> Ud P ops o (σ.JQ l) (((σ.JQ l).Zt (l1 ++ l2)).new d (.one (.sref d 0 0 (iT.length + news.length))) [.arr true (P.cellsOf (ZQ P t)) (iT ++ news)]) := by
  rintro l hl T0 B a w K Q' ⟨X, hh, r⟩ hK
  have hw : Region.wanted o (yielded ops a.tmps) = true := by simp [Region.wanted, hg]
  rw [if_pos hw]
  have lx : look P (σ.JQ l) t x = look P σ t x := kn l σ (fun p hp => (VT iS (hl p hp).2.1).1)
  have ly : look P (σ.JQ l) t y = look P σ t y := kn l σ (fun p hp => (VT iS (hl p hp).2.1).2)
  refine Ex r iS hd (by rw [lx]; exact h1.1) (by rw [ly]; exact h1.2.1) h1.2.2.1 h1.2.2.2.1 h1.2.2.2.2 (by rw [lx]; exact pv (P2 l σ) e1) (by rw [ly]; exact pT (P2 l σ) e2) h4.1 ?_ h5.1 h5.2 hK
  rw [yp]
  exact SW l (fun p hp => (hl p hp).2.2) h4.2
 have go0 : Ud P ops o σ ((σ.Zt (l1 ++ l2)).new d (.one (.sref d 0 0 (iT.length + news.length))) [.arr true (P.cellsOf (ZQ P t)) (iT ++ news)]) := go [] (fun p hp => by cases hp)
 refine ⟨_, .inr ⟨gO, go0, cl σ, fun hh => by simp [Oq, iS] at hh, fun _ => FX hd (St.zG _ _) (fun t => St.xN _ _ t) (fun t j cells hb => FW hb) (fun t j q s rows hb => ⟨rows, EM hb⟩) h4.2 (fun l hl => ?_) (fun l => ?_)⟩, JX h⟩
 ·rw [<- yp]; exact go l hl
 ·rw [<- yp]; exact cl _
theorem sX {P : Program} {ops : Array Oper} {bar : Oper -> Bool} {o : Oper} {rest : List Oper} {σ : St} {Q : St -> Prop} {d : Nat} {x y : Operand} {t : TypeId} {rows : List (List D)} {size u j len lo n : Nat} (iS : o.op = .call ⟨.builtin .append, #[x, y], #[t, t]⟩) (hg : o.guard = none) (hd : o.dst = some d) (gO : bar o = true)
  (gX : size = P.cellsOf (ZQ P t)) (h1 : gOf (look P σ t x) = true /\ gOf (look P σ t y) = true /\ XK P t = true /\ QK P (ZQ P t) = true /\ 0 < P.cellsOf (ZQ P t))
  (h2 : unc (look P σ t x) = .one (.sref u j 0 len)) (h3 : unc (look P σ t y) = .one (.sref u j lo n)) (ho : σ.ob u j = .arr true size rows) (hle : len <= lo) (dG : lo + n <= rows.length)
  {news : List (List D)} (gj : cut rows lo n = news) (h4 : (σ.Z5 u j .none).fresh d = true) (h5 : (len + n) * P.bytesOf (ZQ P t) <= 140737488355328 /\ len + n <= 9223372036854775807)
  (h : Ev P ops bar rest ((σ.Z5 u j .none).new d (.one (.sref d 0 0 ((rows.take len).length + news.length))) [.arr true size (rows.take len ++ news)]) Q) : xF P ops bar o rest σ Q := by
 subst gX
 subst gj
 rw [XG _ _ _ dG, List.length_take, Nat.min_eq_left (by omega)] at h
 have cl : ∀ σ0 : St, O3 o σ0 ((σ0.Z5 u j .none).new d (.one (.sref d 0 0 (len + n))) [.arr true (P.cellsOf (ZQ P t)) (rows.take len ++ cut rows lo n)]) := fun σ0 d' ir hc => Po (fun e => ir (by rw [hd, e])) (QV hc)
 have go : ∀ l : List (Nat × V), (∀ p ∈ l, p.1 ≠ d /\ OE o p.1 = true /\ p.2.ref d = false) -> Ud P ops o (σ.JQ l) (((σ.JQ l).Z5 u j .none).new d (.one (.sref d 0 0 (len + n))) [.arr true (P.cellsOf (ZQ P t)) (rows.take len ++ cut rows lo n)]) := by
  rintro l hl T0 B a w K Q' ⟨X, hh, r⟩ hK
  have hw : Region.wanted o (yielded ops a.tmps) = true := by simp [Region.wanted, hg]
  rw [if_pos hw]
  have lx : look P (σ.JQ l) t x = look P σ t x := kn l σ (fun p hp => (VT iS (hl p hp).2.1).1)
  have ly : look P (σ.JQ l) t y = look P σ t y := kn l σ (fun p hp => (VT iS (hl p hp).2.1).2)
  refine DY r iS hd (by rw [lx]; exact h1.1) (by rw [ly]; exact h1.2.1) h1.2.2.1 h1.2.2.2.1 h1.2.2.2.2 (by rw [lx]; exact h2) (by rw [ly]; exact h3) (by rw [P2]; exact ho) hle dG ?_ h5.1 h5.2 hK
  show ((σ.JQ l).Z5 u j .none).fresh d = true
  rw [jE]
  exact SW l (fun p hp => (hl p hp).2.2) h4
 have go0 : Ud P ops o σ ((σ.Z5 u j .none).new d (.one (.sref d 0 0 (len + n))) [.arr true (P.cellsOf (ZQ P t)) (rows.take len ++ cut rows lo n)]) := go [] (fun p hp => by cases hp)
 refine ⟨_, .inr ⟨gO, go0, cl σ, fun hh => by simp [Oq, iS] at hh, fun _ => FX hd (St.X7 _ _ _ _) (fun t => St.QP _ _ _ _ t) (fun t i cells hb => FW (L := [(u, j)]) hb) (fun t i q s rows hb => ⟨rows, EM (L := [(u, j)]) hb⟩) h4 (fun l hl => ?_) (fun l => ?_)⟩, JX h⟩
 ·rw [<- jE]; exact go l hl
 ·rw [<- jE]; exact cl _
theorem rJ {P : Program} {ops : Array Oper} {bar : Oper -> Bool} {o : Oper} {rest : List Oper} {σ : St} {Q : St -> Prop} {d : Nat} {x y : Operand} {t : TypeId} {iT rows news : List (List D)} {l1 : List (Nat × Nat)} {size u j lo n : Nat} (iS : o.op = .call ⟨.builtin .append, #[x, y], #[t, t]⟩) (hg : o.guard = none) (hd : o.dst = some d) (gO : bar o = true)
  (gX : size = P.cellsOf (ZQ P t)) (h1 : gOf (look P σ t x) = true /\ gOf (look P σ t y) = true /\ XK P t = true /\ QK P (ZQ P t) = true /\ 0 < P.cellsOf (ZQ P t))
  (h2 : wO σ (unc (look P σ t x)) size iT l1) (h3 : unc (look P σ t y) = .one (.sref u j lo n)) (ho : σ.ob u j = .arr true size rows) (au : (u, j) ∉ l1) (hle : lo + n <= rows.length) (gj : cut rows lo n = news)
  (h4 : ((σ.Z5 u j (.arr true size (Ji rows lo n))).Zt l1).fresh d = true) (h5 : (iT.length + n) * P.bytesOf (ZQ P t) <= 140737488355328 /\ iT.length + n <= 9223372036854775807)
  (h : Ev P ops bar rest (((σ.Z5 u j (.arr true size (Ji rows lo n))).Zt l1).new d (.one (.sref d 0 0 (iT.length + news.length))) [.arr true size (iT ++ news)]) Q) : xF P ops bar o rest σ Q := by
 subst gX
 subst gj
 rw [XG _ _ _ hle] at h
 have cl : ∀ σ0 : St, O3 o σ0 (((σ0.Z5 u j (.arr true (P.cellsOf (ZQ P t)) (Ji rows lo n))).Zt l1).new d (.one (.sref d 0 0 (iT.length + n))) [.arr true (P.cellsOf (ZQ P t)) (iT ++ cut rows lo n)]) := fun σ0 d' ir hc => Po (fun e => ir (by rw [hd, e])) (JY (QV hc))
 have go : ∀ l : List (Nat × V), (∀ p ∈ l, p.1 ≠ d /\ OE o p.1 = true /\ p.2.ref d = false) -> Ud P ops o (σ.JQ l) ((((σ.JQ l).Z5 u j (.arr true (P.cellsOf (ZQ P t)) (Ji rows lo n))).Zt l1).new d (.one (.sref d 0 0 (iT.length + n))) [.arr true (P.cellsOf (ZQ P t)) (iT ++ cut rows lo n)]) := by
  rintro l hl T0 B a w K Q' ⟨X, hh, r⟩ hK
  have hw : Region.wanted o (yielded ops a.tmps) = true := by simp [Region.wanted, hg]
  rw [if_pos hw]
  have lx : look P (σ.JQ l) t x = look P σ t x := kn l σ (fun p hp => (VT iS (hl p hp).2.1).1)
  have ly : look P (σ.JQ l) t y = look P σ t y := kn l σ (fun p hp => (VT iS (hl p hp).2.1).2)
  refine Ep r iS hd (by rw [lx]; exact h1.1) (by rw [ly]; exact h1.2.1) h1.2.2.1 h1.2.2.2.1 h1.2.2.2.2 (by rw [lx]; exact py (P2 l σ) h2) (by rw [ly]; exact h3) (by rw [P2]; exact ho) hle au ?_ h5.1 h5.2 hK
  rw [jE, yp]
  exact SW l (fun p hp => (hl p hp).2.2) h4
 have hH : σ.ob u j ≠ .none := by rw [ho]; simp
 have go0 : Ud P ops o σ (((σ.Z5 u j (.arr true (P.cellsOf (ZQ P t)) (Ji rows lo n))).Zt l1).new d (.one (.sref d 0 0 (iT.length + n))) [.arr true (P.cellsOf (ZQ P t)) (iT ++ cut rows lo n)]) := go [] (fun p hp => by cases hp)
 refine ⟨_, .inr ⟨gO, go0, cl σ, fun hh => by simp [Oq, iS] at hh, fun _ => FX hd (by rw [St.zG, St.X7]) (fun t => by rw [St.xN, St.QP]) (fun t i cells hb => ?_) (fun t i q s iW hb => ?_) h4 (fun l hl => ?_) (fun l => ?_)⟩, JX h⟩
 ·have hb := FW hb
  rw [St.JV σ u j _ t i hH] at hb
  split at hb
  ·cases hb
  ·exact hb
 ·have hb := EM hb
  rw [St.JV σ u j _ t i hH] at hb
  split at hb
  ·rename_i hc; cases hb; rw [hc.1, hc.2]; exact ⟨rows, ho⟩
  ·exact ⟨iW, hb⟩
 ·rw [<- yp, <- jE]; exact go l hl
 ·rw [<- yp, <- jE]; exact cl _
theorem vU {f : At -> Bool} {v : V} (hv : v.yL f = false) : ∀ {σ : St} {d : Nat}, σ.yL f = false -> (σ.put d v).yL f = false
 | [], _, _ => rfl
 | e :: σ, 0, h => by simp only [St.yL, Bool.or_eq_false_iff] at h; simp [St.put, St.yL, hv, h.1.2, h.2]
 | e :: σ, d + 1, h => by simp only [St.yL, Bool.or_eq_false_iff] at h; simp [St.put, St.yL, h.1.1, h.1.2, vU hv h.2]
theorem IH {σ : St} : ∀ {xs : List At} {ds : List D}, JF σ xs = some ds -> ∀ p ∈ Yh xs, ∃ q s rows, σ.ob p.1 p.2 = .arr q s rows
 | [], _, _, p, hp => by cases hp
 | x :: xs, ds, h, p, hp => by
  simp only [JF] at h
  split at h
  ·rename_i d fR h1 h2
   have ih := IH h2
   cases x with
   | sref t j lo len =>
    simp only [Yh, List.mem_cons] at hp
    rcases hp with rfl | hp
    ·simp only [mvD] at h1
     split at h1
     ·rename_i q s rows ho; exact ⟨q, s, rows, ho⟩
     ·cases h1
    ·exact ih p hp
   | _ => exact ih p hp
  ·cases h
theorem M7 {σ : St} {L : List (Nat × Nat)} {t j t' size hJ : Nat} {q q' : Bool} {rows iW : List (List D)} {cells : List At} {xs : List At} {ds : List D} (hm : JF σ xs = some ds) (hL : Yh xs = L) (ho : σ.ob t j = .arr q size rows) (hn : (t, j) ∉ L) (hb : σ.ob t' 0 = .box cells) :
  ((σ.Zt L).Z5 t j (.arr q' hJ iW)).ob t' 0 = .box cells := by
 have h1 : (σ.Zt L).ob t j ≠ .none := by rw [St.zA, if_neg hn, ho]; simp
 rw [St.JV _ t j _ t' 0 h1]
 split
 ·rename_i hc; rw [hc.1, hc.2, ho] at hb; cases hb
 ·rw [St.zA]
  split
  ·rename_i hc
   obtain ⟨q, s, rows, he⟩ := IH hm (t', 0) (by rw [hL]; exact hc)
   rw [he] at hb; cases hb
  ·exact hb
structure StM (P : Program) (σ : St) (T : TypeId) (x y : Operand) (t j i c size : Nat) (rows : List (List D)) (ds : List D) (l : List (Nat × Nat)) : Prop where
 hx : unc (look P σ 0 x) = .one (.ptr t j i c)
 ho : σ.ob t j = .arr true size rows
 hi : i < rows.length
 h1 : qf P T = true /\ gOf (look P σ 0 x) = true /\ gOf (look P σ T y) = true /\ (unc (look P σ T y)).flat = true
 h2 : JF σ (unc (look P σ T y)).cells = some ds
 h3 : Qn σ (unc (look P σ T y)).cells
 h4 : Yh (unc (look P σ T y)).cells = l
 h5 : l.Nodup /\ (t, j) ∉ l /\ (σ.Zt l).yL (At.isT t) = false
 h6 : ds.length = P.cellsOf T /\ c + P.cellsOf T <= size
theorem StM.JQ {P : Program} {o : Oper} {T : TypeId} {x y : Operand} (iS : o.op = .store T x y) {t j i c size : Nat} {rows : List (List D)} {ds : List D} {l : List (Nat × Nat)} : ∀ (q : List (Nat × V)) {σ : St}, (∀ p ∈ q, VI o p.1 = true /\ Mn p.2 = true) -> StM P σ T x y t j i c size rows ds l -> StM P (σ.JQ q) T x y t j i c size rows ds l
 | [], _, _, h => h
 | p :: q, σ, hq, h => by
  refine StM.JQ iS q (fun p' dF => hq p' (by simp [dF])) ?_
  obtain ⟨hu, hp⟩ := hq p (by simp)
  simp only [VI, iS, Bool.and_eq_true, Bool.not_eq_true'] at hu
  have hv : p.2.yL (At.isT t) = false := by
   generalize p.2 = v at hp
   unfold Mn at hp
   split at hp <;> first | rfl | cases hp
  refine ⟨?_, ?_, h.hi, ?_, ?_, ?_, ?_, ⟨h.h5.1, h.h5.2.1, ?_⟩, h.h6⟩
  ·rw [XO hu.1]; exact h.hx
  ·rw [St.JW]; exact h.ho
  ·rw [XO hu.1, XO hu.2]; exact h.h1
  ·rw [XO hu.2, M4]; exact h.h2
  ·rw [XO hu.2, Rh]; exact h.h3
  ·rw [XO hu.2]; exact h.h4
  ·rw [Ui]; exact vU hv h.h5.2.2
theorem MD {l : List (Nat × Nat)} {t j : Nat} {ob : Ob} : ∀ (q : List (Nat × V)) (σ : St), ((σ.JQ q).Zt l).Z5 t j ob = ((σ.Zt l).Z5 t j ob).JQ q
 | [], _ => rfl
 | p :: q, σ => by rw [St.JQ, St.JQ, MD q, Ui, qT]
theorem My {P : Program} {ops : Array Oper} {o : Oper} {σ : St} {T : TypeId} {x y : Operand} {t j i c size : Nat} {rows : List (List D)} {ds : List D} {l : List (Nat × Nat)} (iS : o.op = .store T x y) (hg : o.guard = none) (hd : o.dst = none) (h : StM P σ T x y t j i c size rows ds l) :
  Ud P ops o σ ((σ.Zt l).Z5 t j (.arr true size (rows.set i (place (rowAt rows i) c ds)))) := by
 obtain ⟨hx, ho, hi, h1, h2, h3, h4, h5, h6⟩ := h
 subst h4
 rintro T0 B a w K Q' ⟨X, hh, r⟩ hK
 have hw : Region.wanted o (yielded ops a.tmps) = true := by simp [Region.wanted, hg]
 rw [if_pos hw]
 exact Ia r iS hd h1.1 h1.2.1 h1.2.2.1 hx ho hi h1.2.2.2 h2 h3 h5.1 h5.2.1 h5.2.2 h6.1 h6.2 hK
theorem pE {P : Program} {ops : Array Oper} {bar : Oper -> Bool} {o : Oper} {rest : List Oper} {σ : St} {Q : St -> Prop} {T : TypeId} {x y : Operand} {t j i c size : Nat} {rows : List (List D)} {ds : List D} {l : List (Nat × Nat)} (iS : o.op = .store T x y) (hg : o.guard = none) (hd : o.dst = none) (gO : bar o = true)
  (hx : unc (look P σ 0 x) = .one (.ptr t j i c)) (ho : σ.ob t j = .arr true size rows) (hi : i < rows.length) (h1 : qf P T = true /\ gOf (look P σ 0 x) = true /\ gOf (look P σ T y) = true /\ (unc (look P σ T y)).flat = true)
  (h2 : JF σ (unc (look P σ T y)).cells = some ds) (h3 : Qn σ (unc (look P σ T y)).cells) (h4 : Yh (unc (look P σ T y)).cells = l) (h5 : l.Nodup /\ (t, j) ∉ l /\ (σ.Zt l).yL (At.isT t) = false) (h6 : ds.length = P.cellsOf T /\ c + P.cellsOf T <= size)
  (h : Ev P ops bar rest ((σ.Zt l).Z5 t j (.arr true size (rows.set i (place (rowAt rows i) c ds)))) Q) : xF P ops bar o rest σ Q := by
 have hm : StM P σ T x y t j i c size rows ds l := ⟨hx, ho, hi, h1, h2, h3, h4, h5, h6⟩
 refine ⟨_, .inr ⟨gO, My iS hg hd hm, fun d' _ hc => QV (JY hc), fun _ => ⟨⟨by rw [St.X7, St.zG], fun u => by rw [St.QP, St.xN]⟩, fun q hq => ?_, fun t' cells hb => ?_⟩, fun hh => by simp [RZ, iS] at hh⟩, JX h⟩
 ·rw [<- MD]
  exact ⟨My iS hg hd (hm.JQ iS q hq), fun d' _ hc => QV (JY hc)⟩
 ·exact M7 hm.h2 hm.h4 hm.ho hm.h5.2.1 hb
theorem D8 {P : Program} {ops : Array Oper} {o : Oper} {σ : St} {T : TypeId} {x y : Operand} {t j i size : Nat} {rows : List (List D)} {ds : List D} {l : List (Nat × Nat)} (iS : o.op = .store T x y) (hg : o.guard = none) (hd : o.dst = none) (gp : ds.length = size) (h : StM P σ T x y t j i 0 size rows ds l) :
  Ud P ops o σ ((σ.Zt l).Z5 t j (.arr true size (rows.set i ds))) := by
 rintro T0 B a w K Q' ⟨X, hh, r⟩ hK
 refine My iS hg hd h T0 B a w K Q' ⟨X, hh, r⟩ ?_
 have h0 := r.obj t j
 rw [h.ho] at h0
 obtain ⟨_, _, _, hz, _⟩ := h0
 have e : place (rowAt rows i) 0 ds = ds := by
  have hr : (rowAt rows i).length = size := by
   have : rowAt rows i = rows[i]'h.hi := by simp [rowAt, List.getD_eq_getElem?_getD, List.getElem?_eq_getElem h.hi]
   rw [this]; exact hz _ (List.getElem_mem h.hi)
  unfold place
  rw [List.take_zero, List.nil_append, List.drop_eq_nil_of_le (by omega), List.append_nil]
 rw [e]; exact hK
theorem rp {P : Program} {ops : Array Oper} {bar : Oper -> Bool} {o : Oper} {rest : List Oper} {σ : St} {Q : St -> Prop} {T : TypeId} {x y : Operand} {t j i size : Nat} {rows : List (List D)} {ds : List D} {l : List (Nat × Nat)} (iS : o.op = .store T x y) (hg : o.guard = none) (hd : o.dst = none) (gO : bar o = true)
  (hx : unc (look P σ 0 x) = .one (.ptr t j i 0)) (ho : σ.ob t j = .arr true size rows) (hi : i < rows.length) (h1 : qf P T = true /\ gOf (look P σ 0 x) = true /\ gOf (look P σ T y) = true /\ (unc (look P σ T y)).flat = true)
  (h2 : JF σ (unc (look P σ T y)).cells = some ds) (h3 : Qn σ (unc (look P σ T y)).cells) (h4 : Yh (unc (look P σ T y)).cells = l) (h5 : l.Nodup /\ (t, j) ∉ l /\ (σ.Zt l).yL (At.isT t) = false) (h6 : ds.length = P.cellsOf T /\ P.cellsOf T = size)
  (h : Ev P ops bar rest ((σ.Zt l).Z5 t j (.arr true size (rows.set i ds))) Q) : xF P ops bar o rest σ Q := by
 have hm : StM P σ T x y t j i 0 size rows ds l := ⟨hx, ho, hi, h1, h2, h3, h4, h5, h6.1, by omega⟩
 have hf : ds.length = size := by omega
 refine ⟨_, .inr ⟨gO, D8 iS hg hd hf hm, fun d' _ hc => QV (JY hc), fun _ => ⟨⟨by rw [St.X7, St.zG], fun u => by rw [St.QP, St.xN]⟩, fun q hq => ?_, fun t' cells hb => ?_⟩, fun hh => by simp [RZ, iS] at hh⟩, JX h⟩
 ·rw [<- MD]
  exact ⟨D8 iS hg hd hf (hm.JQ iS q hq), fun d' _ hc => QV (JY hc)⟩
 ·exact M7 hm.h2 hm.h4 hm.ho hm.h5.2.1 hb
structure StN (P : Program) (σ : St) (T : TypeId) (x y : Operand) (t j i c k q n size : Nat) (s rows : List (List D)) (ds : List D) (l : List (Nat × Nat)) : Prop where
 hx : unc (look P σ 0 x) = .one (.tref t j i c (some (k * n + q)))
 ho : σ.ob t j = .arr true size rows
 hi : i < rows.length
 hc : (rows.getD i [])[c]? = some (.sl n s)
 hk : k < s.length
 h1 : qf P T = true /\ gOf (look P σ 0 x) = true /\ gOf (look P σ T y) = true /\ (unc (look P σ T y)).flat = true
 h2 : JF σ (unc (look P σ T y)).cells = some ds
 h3 : Qn σ (unc (look P σ T y)).cells
 h4 : Yh (unc (look P σ T y)).cells = l
 h5 : l.Nodup /\ (t, j) ∉ l
 h6 : ds.length = P.cellsOf T /\ q + P.cellsOf T <= n
theorem StN.JQ {P : Program} {o : Oper} {T : TypeId} {x y : Operand} (iS : o.op = .store T x y) {t j i c k n0 n size : Nat} {s rows : List (List D)} {ds : List D} {l : List (Nat × Nat)} : ∀ (q : List (Nat × V)) {σ : St}, (∀ p ∈ q, VI o p.1 = true /\ Mn p.2 = true) -> StN P σ T x y t j i c k n0 n size s rows ds l -> StN P (σ.JQ q) T x y t j i c k n0 n size s rows ds l
 | [], _, _, h => h
 | p :: q, σ, hq, h => by
  refine StN.JQ iS q (fun p' dF => hq p' (by simp [dF])) ?_
  obtain ⟨hu, hp⟩ := hq p (by simp)
  simp only [VI, iS, Bool.and_eq_true, Bool.not_eq_true'] at hu
  refine ⟨?_, ?_, h.hi, h.hc, h.hk, ?_, ?_, ?_, ?_, h.h5, h.h6⟩
  ·rw [XO hu.1]; exact h.hx
  ·rw [St.JW]; exact h.ho
  ·rw [XO hu.1, XO hu.2]; exact h.h1
  ·rw [XO hu.2, M4]; exact h.h2
  ·rw [XO hu.2, Rh]; exact h.h3
  ·rw [XO hu.2]; exact h.h4
theorem CA {P : Program} {ops : Array Oper} {o : Oper} {σ : St} {T : TypeId} {x y : Operand} {t j i c k q n size : Nat} {s rows : List (List D)} {ds : List D} {l : List (Nat × Nat)} (iS : o.op = .store T x y) (hg : o.guard = none) (hd : o.dst = none) (h : StN P σ T x y t j i c k q n size s rows ds l) :
  Ud P ops o σ ((σ.Zt l).Z5 t j (.arr true size (rows.set i (place (rowAt rows i) c [.sl n (s.set k (place (rowAt s k) q ds))])))) := by
 obtain ⟨hx, ho, hi, hc, hk, h1, h2, h3, h4, h5, h6⟩ := h
 subst h4
 rintro T0 B a w K Q' ⟨X, hh, r⟩ hK
 have hw : Region.wanted o (yielded ops a.tmps) = true := by simp [Region.wanted, hg]
 rw [if_pos hw]
 exact HL r iS hd h1.1 h1.2.1 h1.2.2.1 hx ho hi hc hk h1.2.2.2 h2 h3 h5.1 h5.2 h6.1 h6.2 hK
theorem rE {P : Program} {ops : Array Oper} {bar : Oper -> Bool} {o : Oper} {rest : List Oper} {σ : St} {Q : St -> Prop} {T : TypeId} {x y : Operand} {t j i c k q n size : Nat} {s rows : List (List D)} {ds : List D} {l : List (Nat × Nat)} (iS : o.op = .store T x y) (hg : o.guard = none) (hd : o.dst = none) (gO : bar o = true)
  (hm : StN P σ T x y t j i c k q n size s rows ds l)
  (h : Ev P ops bar rest ((σ.Zt l).Z5 t j (.arr true size (rows.set i (place (rowAt rows i) c [.sl n (s.set k (place (rowAt s k) q ds))])))) Q) : xF P ops bar o rest σ Q := by
 refine ⟨_, .inr ⟨gO, CA iS hg hd hm, fun d' _ hc => QV (JY hc), fun _ => ⟨⟨by rw [St.X7, St.zG], fun u => by rw [St.QP, St.xN]⟩, fun q hq => ?_, fun t' cells hb => ?_⟩, fun hh => by simp [RZ, iS] at hh⟩, JX h⟩
 ·rw [<- MD]
  exact ⟨CA iS hg hd (hm.JQ iS q hq), fun d' _ hc => QV (JY hc)⟩
 ·exact M7 hm.h2 hm.h4 hm.ho hm.h5.2 hb
end Go.Vm
namespace Go.Vm
open Go.RowKit
def O9 (P : Program) (σ : St) : ResultVar -> Prop × List At
 | .tmp t => (match σ.get t with
  | .one x => (t < σ.length, [x])
  | .agg [] => (t < σ.length, [])
  | .agg (x :: y :: xs) => (t < σ.length, x :: y :: xs)
  | _ => (False, []))
 | .cell t T => (match σ.get t with
  | .one (.bptr u c) => (match σ.ob u 0 with
    | .box cells => (qf P T = true /\ TW P T = true /\ P.cellsOf T ≠ 1 /\ c + P.cellsOf T <= cells.length, cut cells c (P.cellsOf T))
    | _ => (False, []))
  | _ => (False, []))
def zB (P : Program) (σ : St) : List ResultVar -> Prop × List (List At)
 | [] => (True, [])
 | r :: rs => ((O9 P σ r).1 /\ (zB P σ rs).1, (O9 P σ r).2 :: (zB P σ rs).2)
theorem tW {P : Program} {σ : St} {r : ResultVar} (h : (O9 P σ r).1) : Fe P σ r (O9 P σ r).2 := by
 cases r with
 | tmp t =>
  simp only [O9] at h ⊢
  simp only [Fe]
  cases hx : σ.get t with
  | one x => rw [hx] at h; exact ⟨rfl, h⟩
  | agg xs =>
   rw [hx] at h
   match xs, h with
   | [], h => exact ⟨rfl, h⟩
   | [x], h => exact h.elim
   | x :: y :: xs, h => exact ⟨rfl, h⟩
  | any => rw [hx] at h; exact h.elim
  | tup xs => rw [hx] at h; exact h.elim
  | cnd g x => rw [hx] at h; exact h.elim
  | fix u x => rw [hx] at h; exact h.elim
 | cell t T =>
  simp only [O9] at h ⊢
  split at h
  ·rename_i u c hx
   split at h
   ·rename_i cells ho
    exact ⟨u, c, cells, hx, ho, h.1, h.2.1, h.2.2.1, h.2.2.2, rfl⟩
   ·exact h.elim
  ·exact h.elim
theorem PJ {P : Program} {σ : St} : ∀ {rs : List ResultVar}, (zB P σ rs).1 -> O8 P σ rs (zB P σ rs).2
 | [], _ => rfl
 | _ :: _, h => ⟨_, _, tW h.1, PJ h.2, rfl⟩
theorem oU {P : Program} {fn : Func} {σ : St} {res : List (List D)} {rv : List ResultVar} (hf : fn.results = rv.toArray) (h : (zB P σ rv).1 /\ Sx σ (zB P σ rv).2 = some res) : wu P fn false res .ret σ :=
 ⟨.inl rfl, _, by rw [hf]; exact PJ h.1, by simpa using h.2⟩
theorem ow {P : Program} {fn : Func} {σ : St} {res : List (List D)} {rv : List ResultVar} (hf : fn.results = rv.toArray) (h : (zB P σ rv).1 /\ Ut σ (zB P σ rv).2 = some res /\ (Yh (zB P σ rv).2.flatten).Nodup) : wu P fn true res .ret σ :=
 ⟨.inl rfl, _, by rw [hf]; exact PJ h.1, by simpa using h.2⟩
theorem H5 {P : Program} {fn : Func} {σ : St} {res : List (List D)} {rv : List ResultVar} (hf : fn.results = rv.toArray) (h : (zB P σ rv).1 /\ zz σ (zB P σ rv).2 = some res /\ K8 σ (zB P σ rv).2 /\ (Yh (zB P σ rv).2.flatten).Nodup) : sF P fn res .ret σ :=
 ⟨.inl rfl, _, by rw [hf]; exact PJ h.1, h.2⟩
attribute [simp] wO zz JF mvD K8 Qn HX YM Tu zI V3 V1 St.Zt uD u9 B7 ou Wt Sl L6 St.yL V.yL V.As CY TR xD At.isT
attribute [simp] isB bOf Ev stops evS vC evV CZ vn Rz PD yP SF SY S6 MO lkI lkK Vm.look cst unc gOf jU V.flat V.cells St.put St.Z5 St.new St.sf St.rj St.oH St.pU ta tV rG
 G6 Rx ldV cut place rowOf yJ zO At.AP Qs V.zH Ym j4 Vg Cd vOf KV xE zB O9 Sx Ut ownRow kP Yh Wo Mb YU At.ref D.scalar Kh D.C8 zD sa j7
end Go.Vm
namespace Go.Vm
open Go.RowKit
def oP (w : World) (S : Nat -> Prop) (cs : List Value) (gJ : List D) (x : D) (e : Ending) (w' : World) : Prop :=
 ∃ u, e = .returned u /\ Rd (fun _ _ => False) w' u x /\ XB (fun b => b < w.heap.size /\ ¬ S b) w w' /\ Jx w' cs gJ (fun b => S b \/ (w.heap.size <= b /\ b < w'.heap.size))
def K5 (P : Program) (f : FuncId) (row : List D) (args : List (List D)) (gJ : List D) (x : D) : Prop :=
 LQ P f = true /\ ∀ (T : CS) (S : Nat -> Prop) (w : World) (v : Value) (cs gQ : List Value), (∀ b k, T b k -> b < w.heap.size /\ ¬ S b) -> (∀ b, S b -> b < w.heap.size) -> K3 v cs -> Jx w cs row S ->
  Z6 (fun v row => ∃ cs, K3 v cs /\ Z6 (Rd T w) cs row) gQ args -> Calls P f (v :: gQ).toArray w (oP w S cs gJ x)
section
variable {P : Program} {T0 : CS} {B : Nat -> Prop} {σ : St} {a : Act} {w w' : World} {X X' : Nat -> Prop} {h : Nat -> Nat -> Hd}
theorem Rel.u3 (r : Rel T0 B σ a w X h) (σ' : St) (hlen : σ'.length = σ.length) (gY : ∀ t, σ'.get t = σ.get t) (L : Nat -> Nat -> Prop) (hL : ∀ t j, L t j -> σ.ob t j ≠ .none) (hH : ∀ t j, ¬ L t j -> σ'.ob t j = σ.ob t j) (fX : ∀ t j, L t j -> (σ.ob t j).uL (σ'.ob t j))
  (gX : w.heap.size <= w'.heap.size) (hw : ∀ k, k < w.heap.size -> (∀ t j, L t j -> ¬ (h t j).u k) -> w'.heap[k]? = w.heap[k]?)
  (h' : Nat -> Nat -> Hd) (hh : ∀ t j, ¬ L t j -> h' t j = h t j) (hv : ∀ t j, L t j -> (h' t j).v = (h t j).v) (hu : ∀ t j b, L t j -> (h' t j).u b -> (∃ t' j', L t' j' /\ (h t' j').u b) \/ (w.heap.size <= b /\ b < w'.heap.size))
  (fO : ∀ t j b, L t j -> blk (h' t j).v = some b -> (h' t j).u b) (cb : ∀ t j t' j' b, L t j -> L t' j' -> (h' t j).u b -> (h' t' j').u b -> t = t' /\ j = j')
  (p : At -> Bool) (hp : σ.yL p = false) (hn : ∀ t j, L t j -> (∀ i c o, p (.tref t j i c o) = true) \/ (h' t j).n = (h t j).n)
  (dH : ∀ t j, L t j -> zV (Tof T0 X) h' σ'.ob w' (h' t j) (σ'.ob t j)) : Rel T0 B σ' a w' X h' := by
 have hT : ∀ b k v, Tof T0 X b k -> w.cell? ⟨b, k, none⟩ = some v -> w'.cell? ⟨b, k, none⟩ = some v /\ Tof T0 X b k := by
  intro b k v hb ib
  refine ⟨?_, hb⟩
  have hk : ∀ t j, L t j -> ¬ (h t j).u b := by
   intro t j hl gv
   have iX := r.own t j b (hL t j hl) gv
   rcases hb with hb | hb
   ·exact iX.1 (r.hT _ _ hb)
   ·exact iX.2.1 hb
  rw [World.cell?_of_block (hw b (r.Tlt hb) hk)]; exact ib
 have cv : ∀ u i, (h' u i).v = (h u i).v := by
  intro u i
  by_cases hc : L u i
  ·exact hv u i hc
  ·rw [hh u i hc]
 have cq : ∀ u i q size rows, σ'.ob u i = .arr q size rows -> ∃ ia, σ.ob u i = .arr q size ia /\ ia.length = rows.length := by
  intro u i q size rows ho
  by_cases hc : L u i
  ·have h1 := fX u i hc
   rw [ho] at h1
   cases gS : σ.ob u i with
   | arr q0 s0 r0 => rw [gS] at h1; obtain ⟨rfl, rfl, hl⟩ := h1; exact ⟨r0, rfl, hl⟩
   | none => rw [gS] at h1; exact h1.elim
   | box c => rw [gS] at h1; exact h1.elim
   | lit s r => rw [gS] at h1; exact h1.elim
  ·rw [hH u i hc] at ho; exact ⟨rows, ho, rfl⟩
 have hll : ∀ u i size rows, σ'.ob u i = .lit size rows -> ∃ ia, σ.ob u i = .lit size ia /\ ia.length = rows.length := by
  intro u i size rows ho
  by_cases hc : L u i
  ·have h1 := fX u i hc
   rw [ho] at h1
   cases gS : σ.ob u i with
   | arr q0 s0 r0 => rw [gS] at h1; exact h1.elim
   | none => rw [gS] at h1; exact h1.elim
   | box c => rw [gS] at h1; exact h1.elim
   | lit s r => rw [gS] at h1; obtain ⟨rfl, hl⟩ := h1; exact ⟨r, rfl, hl⟩
  ·rw [hH u i hc] at ho; exact ⟨rows, ho, rfl⟩
 have cU : ∀ u i cells, σ'.ob u i = .box cells -> ∃ gR, σ.ob u i = .box gR := by
  intro u i cells ho
  by_cases hc : L u i
  ·have h1 := fX u i hc
   rw [ho] at h1
   cases gS : σ.ob u i with
   | arr q0 s0 r0 => rw [gS] at h1; exact h1.elim
   | none => rw [gS] at h1; exact h1.elim
   | box c => exact ⟨c, rfl⟩
   | lit s r => rw [gS] at h1; exact h1.elim
  ·rw [hH u i hc] at ho; exact ⟨cells, ho⟩
 have at_ : ∀ {x : At} {v : Value}, p x = false -> YI (Tof T0 X) h σ.ob w x v -> YI (Tof T0 X) h' σ'.ob w' x v := by
  intro x v aN rx
  cases x with
  | any => exact rx
  | d x => exact Rd.mono hT rx
  | nil s => exact rx
  | sref u i lo len =>
   refine ⟨rx.1, fun q size rows ho => ?_, fun size rows ho => ?_⟩
   ·obtain ⟨ia, gS, hl⟩ := cq u i q size rows ho
    rw [cv, <- hl]; exact rx.2.1 q size ia gS
   ·obtain ⟨ia, gS, hl⟩ := hll u i size rows ho
    rw [cv, <- hl]; exact rx.2.2 size ia gS
  | ptr u i k c =>
   refine ⟨rx.1, fun q size rows ho => ?_⟩
   obtain ⟨ia, gS, hl⟩ := cq u i q size rows ho
   rw [cv]; exact rx.2 q size ia gS
  | bptr u c =>
   refine ⟨rx.1, fun cells ho => ?_⟩
   obtain ⟨gR, gS⟩ := cU u 0 cells ho
   rw [cv]; exact rx.2 gR gS
  | fn f u =>
   refine ⟨rx.1, fun cells ho => ?_⟩
   obtain ⟨gR, gS⟩ := cU u 0 cells ho
   rw [cv]; exact rx.2 gR gS
  | tref u i k c o =>
   refine ⟨rx.1, fun size rows ho => ?_⟩
   obtain ⟨ia, gS, hl⟩ := cq u i true size rows ho
   have h1 := rx.2 size ia gS
   by_cases hc : L u i
   ·rcases hn u i hc with hn | hn
    ·rw [hn] at aN; cases aN
    ·rw [hn]; exact h1
   ·rw [hh u i hc]; exact h1
  | rptr rr c =>
   obtain ⟨b, off, g, e, hk⟩ := rx
   exact ⟨b, off, g, e, fun k d hd => ⟨(hT _ _ _ (hk k d hd).2.1 (hk k d hd).1).1, (hk k d hd).2.1, Rd.mono hT (hk k d hd).2.2⟩⟩
 have gV : ∀ u i, σ'.ob u i ≠ .none -> σ.ob u i ≠ .none := by
  intro u i gU
  by_cases gv : L u i
  ·exact hL u i gv
  ·rw [hH u i gv] at gU; exact gU
 refine ⟨by rw [r.size, hlen], r.defers, fun b hb => Nat.lt_of_lt_of_le (r.hB b hb) gX, fun b hb => ⟨(r.hX b hb).1, Nat.lt_of_lt_of_le (r.hX b hb).2 gX⟩, r.hT, fun u gv => ?_, fun u i => ?_, fun u i b' iU ig => ?_, fun u i b' iU ig => ?_, fun u i u' i' b' iU hZ fL gr => ?_⟩
 ·rw [hlen] at gv
  rw [gY]; exact JN.map at_ (St.Nh hp u) (r.slot u gv)
 ·by_cases hc : L u i
  ·exact dH u i hc
  ·rw [hH u i hc, hh u i hc]
   exact zV.map at_ hT (fun ho b => r.ub u i b ho) (fun ho b hb => hw b (r.own u i b ho hb).2.2 (fun t j hl hbt => by
    obtain ⟨e1, e2⟩ := r.inj u i t j b ho (hL t j hl) hb hbt
    rw [e1, e2] at hc; exact hc hl)) (St.Hl hp u i) (r.obj u i)
 ·by_cases hc : L u i
  ·exact fO u i b' hc ig
  ·rw [hh u i hc] at ig ⊢; exact r.ub u i b' (gV u i iU) ig
 ·by_cases hc : L u i
  ·rcases hu u i b' hc ig with ⟨t, j, hl, h1⟩ | h1
   ·have := r.own t j b' (hL t j hl) h1; exact ⟨this.1, this.2.1, by omega⟩
   ·exact ⟨fun hb => by have := r.hB b' hb; omega, fun hx => by have := (r.hX b' hx).2; omega, h1.2⟩
  ·rw [hh u i hc] at ig; have := r.own u i b' (gV u i iU) ig; exact ⟨this.1, this.2.1, by omega⟩
 ·by_cases hc : L u i
  ·by_cases gB : L u' i'
   ·exact cb u i u' i' b' hc gB fL gr
   ·rw [hh u' i' gB] at gr
    rcases hu u i b' hc fL with ⟨t, j, hl, h1⟩ | h1
    ·obtain ⟨e1, e2⟩ := r.inj t j u' i' b' (hL t j hl) (gV u' i' hZ) h1 gr
     rw [e1, e2] at hl; exact absurd hl gB
    ·have := r.own u' i' b' (gV u' i' hZ) gr; omega
  ·rw [hh u i hc] at fL
   by_cases gB : L u' i'
   ·rcases hu u' i' b' gB gr with ⟨t, j, hl, h1⟩ | h1
    ·obtain ⟨e1, e2⟩ := r.inj t j u i b' (hL t j hl) (gV u i iU) h1 fL
     rw [e1, e2] at hl; exact absurd hl hc
    ·have := r.own u i b' (gV u i iU) fL; omega
   ·rw [hh u' i' gB] at gr
    exact r.inj u i u' i' b' (gV u i iU) (gV u' i' hZ) fL gr
theorem uo {cs : List Value} {row : List D} {S : Nat -> Prop} (ho : Jx w cs row S) : ∃ (hf : Nat -> Hd) (Sk : Nat -> Nat -> Prop), (∀ j c, cs[j]? = some c -> (hf j).v = c) /\ (∀ k b, Sk k b -> S b) /\ (∀ i j b, Sk i b -> Sk j b -> i = j) /\
  ∀ j size rows, row[j]? = some (.sl size rows) -> (∀ b, (hf j).u b -> Sk j b) /\ (∀ b, blk (hf j).v = some b -> (hf j).u b) /\ ∀ T h ob, zV T h ob w (hf j) (.arr true size rows) := by
 obtain ⟨hl, Sk, h1, h2, h3⟩ := ho
 have hex : ∀ j, ∃ hd : Hd, (∀ c, cs[j]? = some c -> hd.v = c) /\ (∀ size rows, row[j]? = some (.sl size rows) -> (∀ b, hd.u b -> Sk j b) /\ (∀ b, blk hd.v = some b -> hd.u b) /\ ∀ T h ob, zV T h ob w hd (.arr true size rows)) := by
  intro j
  cases hj : row[j]? with
  | none => exact ⟨Hd.of ((cs[j]?).getD undef), fun c gB => by simp [Hd.of, gB], fun size rows hh => by cases hh⟩
  | some dd =>
   have dg : j < cs.length := by rw [hl]; exact (List.getElem?_eq_some_iff.1 hj).1
   have cM : cs[j]? = some cs[j] := List.getElem?_eq_getElem dg
   cases dd with
   | int k n => exact ⟨Hd.of cs[j], fun c gB => by rw [cM] at gB; cases gB; rfl, fun size rows hh => by cases hh⟩
   | bool k => exact ⟨Hd.of cs[j], fun c gB => by rw [cM] at gB; cases gB; rfl, fun size rows hh => by cases hh⟩
   | str k => exact ⟨Hd.of cs[j], fun c gB => by rw [cM] at gB; cases gB; rfl, fun size rows hh => by cases hh⟩
   | unk => exact ⟨Hd.of cs[j], fun c gB => by rw [cM] at gB; cases gB; rfl, fun size rows hh => by cases hh⟩
   | sl size rows =>
    have ho := h1 j _ _ cM hj
    generalize hv : cs[j] = v at ho
    cases ho with
    | sl v size rows S e xs ba ho hz hb hl hk eA ir =>
     refine ⟨⟨v, fun k => (xs[k]?).getD undef, Sk j⟩, fun c gB => by rw [cM, hv] at gB; cases gB; rfl, fun hJ iW hh => ?_⟩
     cases hh
     exact ⟨fun b hb => hb, hb, fun T h ob => ⟨e, xs, ho, hz, ⟨hl, ba, hk, fun k b hb => eA k b hb, ir⟩, fun k x d hx _ _ => by simp [hx]⟩⟩
 obtain ⟨hf, cS⟩ := Classical.axiomOfChoice hex
 exact ⟨hf, Sk, fun j => (cS j).1, h2, h3, fun j => (cS j).2⟩
theorem Jx.top {T : CS} {cs : List Value} {row : List D} {S : Nat -> Prop} (ho : Jx w cs row S) : Z6 (VG T w) cs row := by
 obtain ⟨hl, Sk, h1, h2, h3⟩ := ho
 refine Z6.kA hl (fun k x d hx hd => ?_)
 have ho := h1 k x d hx hd
 cases ho with
 | int k n => exact Rd.int _ _
 | bool b => exact Rd.bool _
 | str s => exact Rd.str _
 | unk v h => exact Rd.unk _ h
 | sl v size rows S e xs ba ho hz hb hl hk eA ir => exact ⟨e, xs, ho⟩
theorem yO : ∀ (ds : List D) (k : Nat) (size : Nat) (rows : List (List D)), ds[k]? = some (.sl size rows) -> Yp (YM [] ds) k = .arr true size rows
 | [], k, size, rows, h => by simp at h
 | .sl s r :: ds, 0, size, rows, h => by simp at h; obtain ⟨rfl, rfl⟩ := h; rfl
 | .int _ _ :: ds, 0, size, rows, h => by simp at h
 | .bool _ :: ds, 0, size, rows, h => by simp at h
 | .str _ :: ds, 0, size, rows, h => by simp at h
 | .unk :: ds, 0, size, rows, h => by simp at h
 | .sl s r :: ds, k + 1, size, rows, h => by have := yO ds k size rows (by simpa using h); simpa [YM, Yp] using this
 | .int _ _ :: ds, k + 1, size, rows, h => by have := yO ds k size rows (by simpa using h); simpa [YM, Yp] using this
 | .bool _ :: ds, k + 1, size, rows, h => by have := yO ds k size rows (by simpa using h); simpa [YM, Yp] using this
 | .str _ :: ds, k + 1, size, rows, h => by have := yO ds k size rows (by simpa using h); simpa [YM, Yp] using this
 | .unk :: ds, k + 1, size, rows, h => by have := yO ds k size rows (by simpa using h); simpa [YM, Yp] using this
theorem qK : ∀ (ds : List D) (k : Nat), Yp (YM [] ds) k ≠ .none -> ∃ size rows, ds[k]? = some (.sl size rows)
 | [], k, h => by simp [YM, Yp] at h
 | .sl s r :: ds, 0, h => ⟨s, r, rfl⟩
 | .int _ _ :: ds, 0, h => by simp [YM, Yp] at h
 | .bool _ :: ds, 0, h => by simp [YM, Yp] at h
 | .str _ :: ds, 0, h => by simp [YM, Yp] at h
 | .unk :: ds, 0, h => by simp [YM, Yp] at h
 | .sl s r :: ds, k + 1, h => by have := qK ds k (by simpa [YM, Yp] using h); simpa using this
 | .int _ _ :: ds, k + 1, h => by have := qK ds k (by simpa [YM, Yp] using h); simpa using this
 | .bool _ :: ds, k + 1, h => by have := qK ds k (by simpa [YM, Yp] using h); simpa using this
 | .str _ :: ds, k + 1, h => by have := qK ds k (by simpa [YM, Yp] using h); simpa using this
 | .unk :: ds, k + 1, h => by have := qK ds k (by simpa [YM, Yp] using h); simpa using this
theorem CB {σ : St} {t : Nat} : ∀ (ds : List D) (k : Nat), (∀ i size rows, ds[i]? = some (.sl size rows) -> σ.ob t (k + i) = .arr true size rows) ->
  JF σ (KV t k ds) = some ds /\ Qn σ (KV t k ds) /\ (Yh (KV t k ds)).Nodup /\ ∀ p ∈ Yh (KV t k ds), p.1 = t /\ k <= p.2
 | [], k, _ => ⟨rfl, trivial, List.nodup_nil, fun p hp => by cases hp⟩
 | d :: ds, k, ho => by
  obtain ⟨h1, h2, h3, h4⟩ := CB ds (k + 1) (fun i size rows hi => by rw [show k + 1 + i = k + (i + 1) by omega]; exact ho (i + 1) size rows (by simpa using hi))
  cases d with
  | sl size rows =>
   have h0 := ho 0 size rows (by simp)
   rw [Nat.add_zero] at h0
   refine ⟨by simp [KV, JF, mvD, h0, h1], ⟨by simp [HX, h0], h2⟩, ?_, fun p hp => ?_⟩
   ·simp only [KV, Yh, List.nodup_cons]
    exact ⟨fun hm => by have := (h4 _ hm).2; simp at this; omega, h3⟩
   ·simp only [KV, Yh, List.mem_cons] at hp
    rcases hp with rfl | hp
    ·exact ⟨rfl, Nat.le_refl _⟩
    ·have := h4 p hp; exact ⟨this.1, by omega⟩
  | int k' n => exact ⟨by simp [KV, JF, mvD, h1], ⟨trivial, h2⟩, h3, fun p hp => by have := h4 p hp; exact ⟨this.1, by omega⟩⟩
  | bool b => exact ⟨by simp [KV, JF, mvD, h1], ⟨trivial, h2⟩, h3, fun p hp => by have := h4 p hp; exact ⟨this.1, by omega⟩⟩
  | str s => exact ⟨by simp [KV, JF, mvD, h1], ⟨trivial, h2⟩, h3, fun p hp => by have := h4 p hp; exact ⟨this.1, by omega⟩⟩
  | unk => exact ⟨by simp [KV, JF, mvD, h1], ⟨trivial, h2⟩, h3, fun p hp => by have := h4 p hp; exact ⟨this.1, by omega⟩⟩
def Ro (n : Nat) (v : Value) (row : List D) (args : List (List D)) : St := (.fix v (vOf (KV 0 0 row)), YM [] row) :: (Mb args ++ List.replicate (n - (args.length + 1)) (V.any, []))
theorem tP {T : CS} {S : Nat -> Prop} {n : Nat} {v : Value} {cs : List Value} {row : List D} {args : List (List D)} {gQ : List Value} (hT : ∀ b k, T b k -> b < w.heap.size /\ ¬ S b) (hS : ∀ b, S b -> b < w.heap.size) (hf : K3 v cs) (ho : Jx w cs row S)
  (ha : Z6 (fun v row => ∃ cs, K3 v cs /\ Z6 (Rd T w) cs row) gQ args) :
  K6 T (fun b => b < w.heap.size /\ ¬ S b) (Ro n v row args) { tmps := (v :: gQ).toArray ++ Array.replicate (n - (v :: gQ).toArray.size) undef, defers := [] } w := by
 have hl := ha.length
 obtain ⟨hfd, Sk, k1, k2, k3, k4⟩ := uo ho
 refine ⟨fun _ => False, fun t j => if t = 0 then hfd j else Hd.of undef, ?_⟩
 have gl : ∀ j, (Ro n v row args).ob 0 j = Yp (YM [] row) j := fun j => rfl
 have gm : ∀ t j, (Ro n v row args).ob (t + 1) j = .none := by
  intro t j
  unfold St.ob Ro
  rw [List.getElem?_cons_succ]
  rcases Nat.lt_or_ge t args.length with h | h
  ·rw [List.getElem?_append_left (by rw [Kn]; exact h), R0, List.getElem?_eq_getElem h]
   simp [Yp]
  ·rw [List.getElem?_append_right (by rw [Kn]; exact h), List.getElem?_replicate]
   split
   ·rename_i e he
    split at he
    ·cases he; simp [Yp]
    ·cases he
   ·rfl
 have hz : ∀ t j, (Ro n v row args).ob t j ≠ .none -> t = 0 /\ ∃ size rows, row[j]? = some (.sl size rows) := by
  intro t j iU
  cases t with
  | zero => exact ⟨rfl, qK row j iU⟩
  | succ t => exact absurd (gm t j) iU
 have ax : ∀ b k v, T b k -> w.cell? ⟨b, k, none⟩ = some v -> w.cell? ⟨b, k, none⟩ = some v /\ Tof T (fun _ => False) b k := fun b k v hb hc => ⟨hc, .inl hb⟩
 refine ⟨by simp [Ro, Kn, hl]; omega, rfl, (fun b hb => hb.1), (fun b hb => hb.elim), hT, fun t ht => ?_, fun t j => ?_, fun t j b iU hb => ?_, fun t j b iU hb => ?_, fun t j t' j' b iU hZ hb ig => ?_⟩
 ·cases t with
  | zero =>
   have ep : ((v :: gQ).toArray ++ Array.replicate (n - (v :: gQ).toArray.size) undef).getD 0 undef = v := by
    rw [Array.getD_eq_getD_getElem?, Array.getElem?_append_left (by simp)]
    simp
   rw [ep]
   refine ⟨rfl, MU hf (NC ho.top (fun i size rows hi => ⟨true, ?_⟩) (fun i c hc => ?_))⟩
   ·rw [Nat.zero_add, gl]; exact yO row i size rows hi
   ·rw [Nat.zero_add]; simp only [if_true]; exact k1 i c hc
  | succ t =>
   unfold St.get Ro
   rw [List.getElem?_cons_succ]
   rcases Nat.lt_or_ge t args.length with ij | dX
   ·rw [List.getElem?_append_left (by rw [Kn]; exact ij), R0, List.getElem?_eq_getElem ij]
    obtain ⟨v', fc, cs', eW, bw⟩ := ha.get' t args[t] (List.getElem?_eq_getElem ij)
    have ep : ((v :: gQ).toArray ++ Array.replicate (n - (v :: gQ).toArray.size) undef).getD (t + 1) undef = v' := by
     rw [Array.getD_eq_getD_getElem?, Array.getElem?_append_left (by simp; omega)]
     simp [fc]
    simp only [ep]
    exact (MU eW (Mm (bw.imp fun _ _ => Rd.mono ax))).up
   ·rw [List.getElem?_append_right (by rw [Kn]; exact dX), List.getElem?_replicate]
    split
    ·rename_i e he
     split at he
     ·cases he; trivial
     ·cases he
    ·trivial
 ·by_cases iU : (Ro n v row args).ob t j = .none
  ·rw [iU]; trivial
  ·obtain ⟨rfl, size, rows, hj⟩ := hz t j iU
   rw [gl, yO row j size rows hj]
   simp only [if_true]
   exact (k4 j size rows hj).2.2 _ _ _
 ·obtain ⟨rfl, size, rows, hj⟩ := hz t j iU
  simp only [if_true] at hb ⊢
  exact (k4 j size rows hj).2.1 b hb
 ·obtain ⟨rfl, size, rows, hj⟩ := hz t j iU
  simp only [if_true] at hb
  have := k2 j b ((k4 j size rows hj).1 b hb)
  exact ⟨fun hh => hh.2 this, fun hh => hh, hS b this⟩
 ·obtain ⟨rfl, size, rows, hj⟩ := hz t j iU
  obtain ⟨rfl, hJ, iW, eT⟩ := hz t' j' hZ
  simp only [if_true] at hb ig
  exact ⟨rfl, k3 j j' b ((k4 j size rows hj).1 b hb) ((k4 j' hJ iW eT).1 b ig)⟩
def nQ (P : Program) (fn : Func) (v : Value) (gJ : List D) (x : D) (e : Exit) (σ : St) : Prop :=
 (e = .ret \/ e = .normal) /\ O8 P σ fn.results.toList [[.d x]] /\ x.scalar = true /\ σ.head? = some (.fix v (vOf (KV 0 0 gJ)), YM [] gJ)
theorem uC {v : Value} {cs cs' : List Value} (h1 : K3 v cs) (h2 : K3 v cs') : cs = cs' := by
 rcases h1 with ⟨c, rfl, rfl, ho⟩ | ⟨hn, rfl⟩
 ·rcases h2 with ⟨c', rfl, rfl, _⟩ | ⟨gU, rfl⟩
  ·rfl
  ·cases ho
 ·rcases h2 with ⟨c', rfl, rfl, hD⟩ | ⟨gU, he⟩
  ·cases hD
  ·injection he with he; simpa using he
theorem Dz {f : FuncId} {fn : Func} {c : Code} (hf : P.funcs[f]? = some fn) (hb : fn.body = some c) (hR : LQ P f = true) {row : List D} {args : List (List D)} {gJ : List D} {x : D}
  (hw : ∀ v, AWP P c (nQ P fn v gJ x) (Ro fn.ntmps v row args)) : K5 P f row args gJ x := by
 refine ⟨hR, fun T S w v cs gQ hT hS gM iX iY => calls_of_wp hf hb ?_⟩
 refine wp_mono (hw v T (fun b => b < w.heap.size /\ ¬ S b) _ w (tP hT hS gM iX iY)) ?_
 rintro e a' w' ⟨σ', ⟨he, dc, gn, cp⟩, ⟨X, h, r⟩, iu⟩
 obtain ⟨vs, gA, iw, av, iV⟩ := Pl r dc
 cases iV with
 | cons h1 iV =>
  cases iV
  cases h1 with
  | @cons _ c0 _ _ hx h1 =>
   cases h1
   cases av with
   | @cons u _ _ _ hu hn =>
    cases hn
    have gv : u = c0 := by
     rcases hu with ⟨c', he', rfl, _⟩ | ⟨hn, _⟩
     ·cases he'; rfl
     ·simp at hn
    subst gv
    have goal : a'.defers = [] /\ ∃ v, (results fn a'.tmps).run P w' = .ok v w' /\ oP w S cs gJ x (.returned v) w' := by
     refine ⟨r.defers, _, iw, u, rfl, ?_, iu, ?_⟩
     ·cases hx with
      | int k n => exact .int _ _
      | bool b => exact .bool _
      | str s => exact .str _
      | unk v h => exact .unk _ h
      | nil => cases gn
      | sl => cases gn
     ·have gk : 0 < σ'.length := by
       cases σ' with
       | nil => simp at cp
       | cons e σ => simp
      have hg0 : σ'.get 0 = .fix v (vOf (KV 0 0 gJ)) := by
       cases σ' with
       | nil => simp at cp
       | cons e σ => simp at cp; simp [St.get, cp]
      have gS : ∀ j, σ'.ob 0 j = Yp (YM [] gJ) j := by
       intro j
       cases σ' with
       | nil => simp at cp
       | cons e σ => simp at cp; simp [St.ob, cp]
      have aP := r.slot 0 gk
      rw [hg0] at aP
      obtain ⟨hveq, fS⟩ := aP
      rw [hveq] at fS
      obtain ⟨cs', eW, bw⟩ := BS fS.up
      rw [uC eW gM] at bw
      obtain ⟨m1, m2, m3, _⟩ := CB (σ := σ') (t := 0) gJ 0 (fun i size rows hi => by rw [Nat.zero_add, gS]; exact yO gJ i size rows hi)
      refine (O6 r bw m1 m2 m3).mono (fun b hb => ?_)
      have := r.yl _ b hb
      by_cases hs : S b
      ·exact .inl hs
      ·refine .inr ⟨?_, this.2.2.1⟩
       rcases Nat.lt_or_ge b w.heap.size with h | h
       ·exact absurd ⟨h, hs⟩ this.1
       ·exact h
    rcases he with rfl | rfl
    ·exact goal
    ·exact goal
theorem BO (r : Rel T0 B σ a w X h) {o : Oper} {cl : Call} {f : FuncId} {d : Nat} {x0 : Operand} {xs : List Operand} {t0 : TypeId} {ts : List TypeId} {ia : List (List D)} {s s' : List (List D)} {n : Nat} {y : D} (iS : o.op = .call cl) (hc : cl.callee = .value (.func f)) (hd : o.dst = some d)
  (ha : cl.args.toList = x0 :: xs) (_hat : cl.argTypes.toList = t0 :: ts) {t j i c : Nat} (hg : gOf (look P σ t0 x0) = true) (hx : unc (look P σ t0 x0) = .one (.tref t j i c none)) {size : Nat} {rows : List (List D)} (ho : σ.ob t j = .arr true size rows) (hi : i < rows.length)
  (ib : (rows.getD i [])[c]? = some (.sl n s)) (iY : Qs P σ xs ts ia) (hQ : Ym P σ xs ts = true) (hs : K5 P f [.sl n s] ia [.sl n s'] y)
  {K : Act -> World -> Prop} {Q : Exit -> Act -> World -> Prop} (hK : ∀ a' w', K6 T0 B ((σ.Z5 t j (.arr true size (rows.set i (place (rows.getD i []) c [.sl n s'])))).put d (.one (.d y))) a' w' -> XB B w w' -> K a' w') : o.wp P a w K Q := by
 have hH : σ.ob t j ≠ .none := by rw [ho]; simp
 have h0 := r.obj t j
 rw [ho] at h0
 obtain ⟨e, vs, fV, hz, ⟨hl, Sk, o1, o2, o3⟩, hn⟩ := h0
 have hO : rows[i]? = some (rows.getD i []) := by simp [List.getD_eq_getElem?_getD, List.getElem?_eq_getElem hi]
 have gb : rows.flatten[i * size + c]? = some (.sl n s) := jQ rows size hz i _ hO c _ ib
 have ij : i * size + c < vs.length := by rw [hl]; exact (List.getElem?_eq_some_iff.1 gb).1
 have du : vs[i * size + c]? = some vs[i * size + c] := List.getElem?_eq_getElem ij
 have hnv := hn _ _ _ du gb rfl
 have har := r.arg (P := P) t0 x0 hx hg
 have hv : a.eval x0 = vs[i * size + c] := (har.2 size rows ho).trans hnv
 have iX := o1 _ _ _ du gb
 have aQ : ∀ b, Sk (i * size + c) b -> (h t j).u b := fun b hb => (o2 _ b hb).1
 have dI := r.Qs true iY (fun _ => hQ)
 simp only [if_true] at dI
 unfold Oper.wp
 rw [UH iS hc hs.1, Oper.upon_enter]
 rw [show (cl.args.toList.map a.eval).toArray = (vs[i * size + c] :: xs.map a.eval).toArray by rw [ha]; simp [hv]]
 have hT : ∀ b k, Tof T0 X b k -> b < w.heap.size /\ ¬ Sk (i * size + c) b := by
  intro b k hb
  refine ⟨r.Tlt hb, fun eA => ?_⟩
  have := r.own t j b hH (aQ b eA)
  rcases hb with hb | hb
  ·exact this.1 (r.hT _ _ hb)
  ·exact this.2.1 hb
 refine (hs.2 (Tof T0 X) (Sk (i * size + c)) w _ [vs[i * size + c]] _ hT (fun b hb => (r.own t j b hH (aQ b hb)).2.2) (.inl ⟨_, rfl, rfl, iX.X4⟩)
  ⟨rfl, fun k b => k = 0 /\ Sk (i * size + c) b, fun k x dd hx fB => by
   cases k with
   | zero => simp at hx fB; subst hx; subst fB; exact iX.mono (fun b hb => ⟨rfl, hb⟩)
   | succ k => simp at hx, fun k b hb => hb.2, fun p q b hp hq => by rw [hp.1, hq.1]⟩ dI).mono ?_
 rintro e' w' ⟨u, rfl, hu, iu, fA⟩
 rw [hd]
 obtain ⟨_, Sk2, q1, q2, q3⟩ := fA
 have own1 := (q1 0 _ _ rfl rfl).mono (q2 0)
 have hBk : XB B w w' := ⟨iu.os, iu.tape, iu.output, iu.size, fun b hb => iu.block b ⟨r.hB b hb, fun eA => (r.own t j b hH (aQ b eA)).1 hb⟩⟩
 have fK : c + 1 <= size := by
  have h1 := (List.getElem?_eq_some_iff.1 ib).1
  have h2 := hz _ (List.mem_of_getElem? hO)
  omega
 have ay := zu size c [D.sl n s'] (by simpa using fK) rows i _ hO hz
 have bx : i * size + c + [D.sl n s'].length <= rows.flatten.length := by rw [<- hl]; simp; omega
 have er : (rows.getD i []).length = size := hz _ (List.mem_of_getElem? hO)
 have fW : ∀ q ∈ rows.set i (place (rows.getD i []) c [.sl n s']), q.length = size := by
  intro q hq
  rcases List.mem_or_eq_of_mem_set hq with hq | hq
  ·exact hz q hq
  ·rw [hq, XX _ _ _ (by rw [er]; simpa using fK), er]
 have ga : ∀ b, blk (h t j).v = some b -> w'.heap[b]? = w.heap[b]? := fun b hb => iu.block b ⟨(r.s9 hH hb).2.2, fun eA => (o2 _ b eA).2 hb⟩
 have gm : ∀ u v, ¬ (u = t /\ v = j) -> (σ.Z5 t j (.arr true size (rows.set i (place (rows.getD i []) c [.sl n s'])))).ob u v = σ.ob u v := fun u v iU => by rw [St.JV σ t j _ u v hH, if_neg iU]
 have gi : (σ.Z5 t j (.arr true size (rows.set i (place (rows.getD i []) c [.sl n s'])))).ob t j = .arr true size (rows.set i (place (rows.getD i []) c [.sl n s'])) := by rw [St.JV σ t j _ t j hH]; simp
 have R := r.u3 (w' := w') (σ.Z5 t j (.arr true size (rows.set i (place (rows.getD i []) c [.sl n s'])))) (St.X7 _ _ _ _) (fun u => St.QP _ _ _ _ u) (fun u v => u = t /\ v = j) (fun u v hh => by rw [hh.1, hh.2]; exact hH) gm (fun u v hh => by rw [hh.1, hh.2, gi, ho]; simp [Ob.uL])
  iu.size (fun k hk gv => iu.block k ⟨hk, fun eA => gv t j ⟨rfl, rfl⟩ (aQ k eA)⟩)
  (fun u v => if u = t /\ v = j then ⟨(h t j).v, (h t j).n, fun b => (h t j).u b \/ (w.heap.size <= b /\ b < w'.heap.size)⟩ else h u v) (fun u v hh => by simp [hh]) (fun u v hh => by simp [hh])
  (fun u v b hh hb => by
   simp only [hh, and_self, if_true] at hb
   rcases hb with hb | hb
   ·exact .inl ⟨t, j, ⟨rfl, rfl⟩, hb⟩
   ·exact .inr hb)
  (fun u v b hh hb => by simp only [hh, and_self, if_true] at hb ⊢; exact .inl (r.ub t j b hH hb))
  (fun u v u' v' b hh cV _ _ => ⟨by rw [hh.1, cV.1], by rw [hh.2, cV.2]⟩)
  (fun _ => false) (St.xV σ) (fun u v hh => .inr (by simp [hh]))
  (fun u v hh => by
   obtain ⟨rfl, rfl⟩ := hh
   rw [gi]
   simp only [and_self, if_true]
   refine ⟨e, vs, by rw [List.length_set]; exact y2 ga fV, fW, ⟨?_, fun k => if k = i * size + c then (fun b => Sk (i * size + c) b \/ (w.heap.size <= b /\ b < w'.heap.size)) else Sk k, fun k x dd hx fB => ?_, fun k b hb => ?_, fun p q b hp hq => ?_⟩, fun k x dd hx fB gn => ?_⟩
   ·rw [ay, XX _ _ _ bx, hl]
   ·rw [ay] at fB
    rcases qG _ _ _ bx k dd fB with ⟨k1, k2, k3⟩ | ⟨k1, k3⟩
    ·have hk : k = i * size + c := by simp at k2; omega
     subst hk
     rw [du] at hx; cases hx
     simp at k3; subst k3
     simp only [if_true]; exact own1
    ·have hk : ¬ k = i * size + c := fun hk => k1 ⟨by omega, by simp; omega⟩
     simp only [hk, if_false]
     refine (o1 k x dd hx k3).Sh (fun b hb => iu.block b ⟨(r.own u v b hH (o2 k b hb).1).2.2, fun eA => hk (o3 k _ b hb eA)⟩)
   ·by_cases hk : k = i * size + c
    ·simp only [hk, if_true] at hb
     rcases hb with hb | hb
     ·exact ⟨.inl (o2 _ b hb).1, (o2 _ b hb).2⟩
     ·exact ⟨.inr hb, fun hh => by have := (r.s9 hH hh).2.2; omega⟩
    ·simp only [hk, if_false] at hb; exact ⟨.inl (o2 k b hb).1, (o2 k b hb).2⟩
   ·by_cases dF : p = i * size + c
    ·by_cases ej : q = i * size + c
     ·rw [dF, ej]
     ·simp only [dF, if_true] at hp
      simp only [ej, if_false] at hq
      rcases hp with hp | hp
      ·rw [dF]; exact (o3 _ _ b hp hq)
      ·have := (r.own u v b hH (o2 q b hq).1).2.2; omega
    ·simp only [dF, if_false] at hp
     by_cases ej : q = i * size + c
     ·simp only [ej, if_true] at hq
      rcases hq with hq | hq
      ·rw [ej]; exact (o3 _ _ b hp hq)
      ·have := (r.own u v b hH (o2 p b hp).1).2.2; omega
     ·simp only [ej, if_false] at hq; exact o3 p q b hp hq
   ·rw [ay] at fB
    rcases qG _ _ _ bx k dd fB with ⟨k1, k2, k3⟩ | ⟨k1, k3⟩
    ·have hk : k = i * size + c := by simp at k2; omega
     subst hk
     rw [du] at hx; cases hx; exact hnv
    ·exact hn k x dd hx k3 gn)
 refine hK _ _ ⟨X, _, R.put d (.one (.d y)) u ?_⟩ hBk
 exact Rd.mono (fun _ _ _ hh => hh.elim) hu
def St.Wf : St -> List At -> List D -> St
 | σ, .sref t j _ _ :: xs, .sl size rows :: ds => St.Wf (σ.Z5 t j (.arr true size rows)) xs ds
 | σ, _ :: xs, _ :: ds => St.Wf σ xs ds
 | σ, _, _ => σ
def xu : List D -> List D -> Prop
 | .sl s r :: ds, .sl s' r' :: fR => s = s' /\ r.length = r'.length /\ xu ds fR
 | .sl _ _ :: _, _ => False
 | _ :: ds, _ :: fR => xu ds fR
 | [], [] => True
 | _, _ => False
def Ru (σ : St) : List At -> Prop
 | [] => True
 | .sref t j _ _ :: xs => (match σ.ob t j with | .arr true _ _ => True | _ => False) /\ Ru σ xs
 | _ :: xs => Ru σ xs
def At.ru : At -> Bool
 | .tref _ _ _ _ _ => true
 | _ => false
theorem jT : ∀ {ds fR : List D}, xu ds fR -> ds.length = fR.length /\ ∀ (k s : Nat) (r : List (List D)), ds[k]? = some (D.sl s r) -> ∃ r' : List (List D), fR[k]? = some (D.sl s r') /\ r.length = r'.length
 | [], [], _ => ⟨rfl, fun k s r h => by simp at h⟩
 | [], _ :: _, h => by simp [xu] at h
 | .sl s r :: ds, [], h => by simp [xu] at h
 | .int _ _ :: ds, [], h => by simp [xu] at h
 | .bool _ :: ds, [], h => by simp [xu] at h
 | .str _ :: ds, [], h => by simp [xu] at h
 | .unk :: ds, [], h => by simp [xu] at h
 | .sl s r :: ds, d' :: fR, h => by
  cases d' with
  | sl s' r' =>
   obtain ⟨rfl, h2, h3⟩ := h
   obtain ⟨i1, i2⟩ := jT h3
   refine ⟨by simp [i1], fun k s0 r0 hk => ?_⟩
   cases k with
   | zero => simp at hk; obtain ⟨rfl, rfl⟩ := hk; exact ⟨r', by simp, h2⟩
   | succ k => simpa using i2 k s0 r0 (by simpa using hk)
  | int _ _ => exact h.elim
  | bool _ => exact h.elim
  | str _ => exact h.elim
  | unk => exact h.elim
 | .int _ _ :: ds, d' :: fR, h => by
  obtain ⟨i1, i2⟩ := jT (ds := ds) (fR := fR) h
  refine ⟨by simp [i1], fun k s0 r0 hk => ?_⟩
  cases k with
  | zero => simp at hk
  | succ k => simpa using i2 k s0 r0 (by simpa using hk)
 | .bool _ :: ds, d' :: fR, h => by
  obtain ⟨i1, i2⟩ := jT (ds := ds) (fR := fR) h
  refine ⟨by simp [i1], fun k s0 r0 hk => ?_⟩
  cases k with
  | zero => simp at hk
  | succ k => simpa using i2 k s0 r0 (by simpa using hk)
 | .str _ :: ds, d' :: fR, h => by
  obtain ⟨i1, i2⟩ := jT (ds := ds) (fR := fR) h
  refine ⟨by simp [i1], fun k s0 r0 hk => ?_⟩
  cases k with
  | zero => simp at hk
  | succ k => simpa using i2 k s0 r0 (by simpa using hk)
 | .unk :: ds, d' :: fR, h => by
  obtain ⟨i1, i2⟩ := jT (ds := ds) (fR := fR) h
  refine ⟨by simp [i1], fun k s0 r0 hk => ?_⟩
  cases k with
  | zero => simp at hk
  | succ k => simpa using i2 k s0 r0 (by simpa using hk)
theorem FQ : ∀ {xs : List At}, Ru σ xs -> ∀ (k t j lo len : Nat), xs[k]? = some (At.sref t j lo len) -> ∃ size rows, σ.ob t j = .arr true size rows
 | [], _, k, t, j, lo, len, hk => by simp at hk
 | x :: xs, h, 0, t, j, lo, len, hk => by
  simp at hk; subst hk
  have := h.1
  split at this
  ·rename_i s r e; exact ⟨s, r, e⟩
  ·exact this.elim
 | x :: xs, h, k + 1, t, j, lo, len, hk => by
  have h' : Ru σ xs := by cases x <;> first | exact h | exact h.2
  exact FQ h' k t j lo len (by simpa using hk)
theorem Pq : ∀ {xs : List At} {t j : Nat}, (t, j) ∈ Yh xs -> ∃ (k lo len : Nat), xs[k]? = some (At.sref t j lo len)
 | [], t, j, h => by cases h
 | x :: xs, t, j, h => by
  cases x with
  | sref t' j' lo len =>
   simp only [Yh, List.mem_cons, Prod.mk.injEq] at h
   rcases h with ⟨rfl, rfl⟩ | h
   ·exact ⟨0, lo, len, rfl⟩
   ·obtain ⟨k, lo, len, hk⟩ := Pq h; exact ⟨k + 1, lo, len, by simpa using hk⟩
  | _ => obtain ⟨k, lo, len, hk⟩ := Pq (xs := xs) h; exact ⟨k + 1, lo, len, by simpa using hk⟩
theorem St.Ur : ∀ (xs : List At) (ds : List D) (σ : St), (σ.Wf xs ds).length = σ.length
 | [], ds, σ => by cases ds <;> rfl
 | x :: xs, [], σ => by cases x <;> rfl
 | x :: xs, d :: ds, σ => by
  cases x <;> first | exact St.Ur xs ds σ | (cases d <;> first | exact St.Ur xs ds σ | (rw [St.Wf, St.Ur xs ds, St.X7]))
theorem St.Ng : ∀ (xs : List At) (ds : List D) (σ : St) (t : Nat), (σ.Wf xs ds).get t = σ.get t
 | [], ds, σ, t => by cases ds <;> rfl
 | x :: xs, [], σ, t => by cases x <;> rfl
 | x :: xs, d :: ds, σ, t => by
  cases x <;> first | exact St.Ng xs ds σ t | (cases d <;> first | exact St.Ng xs ds σ t | (rw [St.Wf, St.Ng xs ds, St.QP]))
theorem St.Ho : ∀ (xs : List At) (ds : List D) (σ : St), (Yh xs).Nodup -> (∀ p ∈ Yh xs, σ.ob p.1 p.2 ≠ .none) ->
  (∀ t j, (t, j) ∉ Yh xs -> (σ.Wf xs ds).ob t j = σ.ob t j) /\ (∀ (k t j lo len size : Nat) (rows : List (List D)), xs[k]? = some (At.sref t j lo len) -> ds[k]? = some (D.sl size rows) -> (σ.Wf xs ds).ob t j = .arr true size rows)
 | [], ds, σ, _, _ => ⟨fun t j _ => by cases ds <;> rfl, fun k t j lo len size rows h => by simp at h⟩
 | x :: xs, [], σ, _, _ => ⟨fun t j _ => by cases x <;> rfl, fun k t j lo len size rows _ h => by simp at h⟩
 | x :: xs, d :: ds, σ, gd, iU => by
  have other : ∀ (hx : Yh (x :: xs) = Yh xs) (hm : σ.Wf (x :: xs) (d :: ds) = σ.Wf xs ds) (_ : ∀ t j lo len, x ≠ .sref t j lo len),
    (∀ t j, (t, j) ∉ Yh (x :: xs) -> (σ.Wf (x :: xs) (d :: ds)).ob t j = σ.ob t j) /\ (∀ (k t j lo len size : Nat) (rows : List (List D)), (x :: xs)[k]? = some (At.sref t j lo len) -> (d :: ds)[k]? = some (D.sl size rows) -> (σ.Wf (x :: xs) (d :: ds)).ob t j = .arr true size rows) := by
   intro hx hm dW
   rw [hx] at gd iU
   obtain ⟨i1, i2⟩ := St.Ho xs ds σ gd iU
   rw [hx, hm]
   refine ⟨i1, fun k t j lo len size rows hk bt => ?_⟩
   cases k with
   | zero => simp at hk; exact absurd hk (dW _ _ _ _)
   | succ k => exact i2 k t j lo len size rows (by simpa using hk) (by simpa using bt)
  cases x with
  | sref t0 j0 lo0 cw =>
   simp only [Yh, List.nodup_cons] at gd
   have h0 : σ.ob t0 j0 ≠ .none := iU (t0, j0) (by simp [Yh])
   have bz : ∀ (hm : σ.Wf (.sref t0 j0 lo0 cw :: xs) (d :: ds) = σ.Wf xs ds) (_ : ∀ s r, d ≠ .sl s r),
     (∀ t j, (t, j) ∉ Yh (.sref t0 j0 lo0 cw :: xs) -> (σ.Wf (.sref t0 j0 lo0 cw :: xs) (d :: ds)).ob t j = σ.ob t j) /\ (∀ (k t j lo len size : Nat) (rows : List (List D)), (At.sref t0 j0 lo0 cw :: xs)[k]? = some (At.sref t j lo len) -> (d :: ds)[k]? = some (D.sl size rows) -> (σ.Wf (.sref t0 j0 lo0 cw :: xs) (d :: ds)).ob t j = .arr true size rows) := by
    intro hm dW
    obtain ⟨i1, i2⟩ := St.Ho xs ds σ gd.2 (fun p hp => iU p (by simp [Yh, hp]))
    rw [hm]
    refine ⟨fun t j hn => i1 t j (fun hh => hn (by simp [Yh, hh])), fun k t j lo len size rows hk bt => ?_⟩
    cases k with
    | zero => simp at bt; exact absurd bt (dW _ _)
    | succ k => exact i2 k t j lo len size rows (by simpa using hk) (by simpa using bt)
   cases d with
   | sl size rows =>
    have gm : ∀ t j, (σ.Z5 t0 j0 (.arr true size rows)).ob t j = if t = t0 /\ j = j0 then .arr true size rows else σ.ob t j := fun t j => St.JV σ t0 j0 _ t j h0
    obtain ⟨i1, i2⟩ := St.Ho xs ds (σ.Z5 t0 j0 (.arr true size rows)) gd.2 (fun p hp => by
     rw [gm]; split
     ·simp
     ·exact iU p (by simp [Yh, hp]))
    refine ⟨fun t j hn => ?_, fun k t j lo len hJ iW hk bt => ?_⟩
    ·simp only [Yh, List.mem_cons, Prod.mk.injEq, not_or] at hn
     rw [St.Wf, i1 t j hn.2, gm, if_neg hn.1]
    ·rw [St.Wf]
     cases k with
     | zero =>
      simp at hk bt
      obtain ⟨rfl, rfl, _, _⟩ := hk
      obtain ⟨rfl, rfl⟩ := bt
      rw [i1 _ _ gd.1, gm]; simp
     | succ k => exact i2 k t j lo len hJ iW (by simpa using hk) (by simpa using bt)
   | int _ _ => exact bz rfl (fun _ _ h => by cases h)
   | bool _ => exact bz rfl (fun _ _ h => by cases h)
   | str _ => exact bz rfl (fun _ _ h => by cases h)
   | unk => exact bz rfl (fun _ _ h => by cases h)
  | any => exact other rfl rfl (fun _ _ _ _ h => by cases h)
  | d _ => exact other rfl rfl (fun _ _ _ _ h => by cases h)
  | nil _ => exact other rfl rfl (fun _ _ _ _ h => by cases h)
  | ptr _ _ _ _ => exact other rfl rfl (fun _ _ _ _ h => by cases h)
  | bptr _ _ => exact other rfl rfl (fun _ _ _ _ h => by cases h)
  | fn _ _ => exact other rfl rfl (fun _ _ _ _ h => by cases h)
  | rptr _ _ => exact other rfl rfl (fun _ _ _ _ h => by cases h)
  | tref _ _ _ _ _ => exact other rfl rfl (fun _ _ _ _ h => by cases h)
theorem AG (r : Rel T0 B σ a w X h) {o : Oper} {cl : Call} {f : FuncId} {d : Nat} {x0 : Operand} {xs : List Operand} {t0 : TypeId} {ts : List TypeId} {ia : List (List D)} {row gJ : List D} {y : D} (iS : o.op = .call cl) (hc : cl.callee = .value (.func f)) (hd : o.dst = some d)
  (ha : cl.args.toList = x0 :: xs) (hg : gOf (look P σ t0 x0) = true) {gZ : List At} (hx : unc (look P σ t0 x0) = vOf gZ) (fp : JF σ gZ = some row) (aL : Ru σ gZ) (gd : (Yh gZ).Nodup) (ak : σ.yL At.ru = false)
  (iY : Qs P σ xs ts ia) (hQ : Ym P σ xs ts = true) (hs : K5 P f row ia gJ y) (al : xu row gJ)
  {K : Act -> World -> Prop} {Q : Exit -> Act -> World -> Prop} (hK : ∀ a' w', K6 T0 B ((σ.Wf gZ gJ).put d (.one (.d y))) a' w' -> XB B w w' -> K a' w') : o.wp P a w K Q := by
 obtain ⟨cs, gM, iV⟩ := BS (r.arg (P := P) t0 x0 hx hg)
 have hR : Qn σ gZ := by
  clear hx fp gd iV hK
  induction gZ with
  | nil => trivial
  | cons x gZ ih =>
   cases x with
   | sref t j lo len =>
    refine ⟨?_, ih aL.2⟩
    have := aL.1
    simp only [HX]
    split at this
    ·rename_i e; rw [e]; trivial
    ·exact this.elim
   | _ => exact ⟨trivial, ih aL⟩
 have iX := O6 r iV fp hR gd
 obtain ⟨hll, al⟩ := jT al
 obtain ⟨bx, fp⟩ := T6 fp
 have dI := r.Qs true iY (fun _ => hQ)
 simp only [if_true] at dI
 have hP := r.yl (Yh gZ)
 unfold Oper.wp
 rw [UH iS hc hs.1, Oper.upon_enter]
 rw [show (cl.args.toList.map a.eval).toArray = (a.eval x0 :: xs.map a.eval).toArray by rw [ha]; rfl]
 have hT : ∀ b k, Tof T0 X b k -> b < w.heap.size /\ ¬ JM σ h (Yh gZ) b := by
  intro b k hb
  refine ⟨r.Tlt hb, fun eA => ?_⟩
  have := hP b eA
  rcases hb with hb | hb
  ·exact this.1 (r.hT _ _ hb)
  ·exact this.2.1 hb
 refine (hs.2 (Tof T0 X) (JM σ h (Yh gZ)) w _ cs _ hT (fun b hb => (hP b hb).2.2.1) gM iX dI).mono ?_
 rintro e' w' ⟨u, rfl, hu, iu, fA⟩
 rw [hd]
 have hBk : XB B w w' := ⟨iu.os, iu.tape, iu.output, iu.size, fun b hb => iu.block b ⟨r.hB b hb, fun eA => (hP b eA).1 hb⟩⟩
 obtain ⟨hf, Sk, k1, k2, k3, k4⟩ := uo fA
 have dB : ∀ t j, (t, j) ∈ Yh gZ -> ∃ (k size : Nat) (rows iW : List (List D)), gZ[k]? = some (At.sref t j 0 rows.length) /\ σ.ob t j = .arr true size rows /\ gJ[k]? = some (D.sl size iW) /\ rows.length = iW.length /\ cs[k]? = some (h t j).v := by
  intro t j hm
  obtain ⟨k, lo, len, hk⟩ := Pq hm
  obtain ⟨size, rows, ho⟩ := FQ aL k t j lo len hk
  have ij : k < row.length := by rw [<- bx]; exact (List.getElem?_eq_some_iff.1 hk).1
  have ir := fp k _ _ hk (List.getElem?_eq_getElem ij)
  simp only [mvD, ho] at ir
  split at ir
  ·rename_i gB
   obtain ⟨rfl, rfl⟩ := gB
   have hO : row[k]? = some (.sl size rows) := by rw [List.getElem?_eq_getElem ij]; exact ir.symm ▸ rfl
   obtain ⟨iW, gL, hl'⟩ := al k size rows hO
   obtain ⟨v, hv, har⟩ := iV.get k _ hk
   obtain ⟨_, gp, _⟩ := har.2.1 true size rows ho
   exact ⟨k, size, rows, iW, hk, ho, gL, hl', by rw [hv, gp rfl rfl]⟩
  ·cases ir
 have iU : ∀ p ∈ Yh gZ, σ.ob p.1 p.2 ≠ .none := by
  intro p hp
  obtain ⟨k, size, rows, iW, _, ho, _⟩ := dB p.1 p.2 hp
  rw [ho]; simp
 obtain ⟨m1, m2⟩ := St.Ho gZ gJ σ gd iU
 have hch : ∀ p : Nat × Nat, ∃ hd : Hd, (p ∉ Yh gZ -> hd = h p.1 p.2) /\ (p ∈ Yh gZ -> ∃ k lo len : Nat, gZ[k]? = some (At.sref p.1 p.2 lo len) /\ hd = hf k) := by
  intro p
  by_cases hp : p ∈ Yh gZ
  ·obtain ⟨k, lo, len, hk⟩ := Pq (t := p.1) (j := p.2) hp
   exact ⟨hf k, fun hh => absurd hp hh, fun _ => ⟨k, lo, len, hk, rfl⟩⟩
  ·exact ⟨h p.1 p.2, fun _ => rfl, fun hh => absurd hh hp⟩
 obtain ⟨hh, hhs⟩ := Classical.axiomOfChoice hch
 have dV : ∀ t j, (t, j) ∈ Yh gZ -> ∃ (k size : Nat) (rows iW : List (List D)), gZ[k]? = some (At.sref t j 0 rows.length) /\ σ.ob t j = .arr true size rows /\ gJ[k]? = some (D.sl size iW) /\ rows.length = iW.length /\ cs[k]? = some (h t j).v /\ hh (t, j) = hf k /\ (σ.Wf gZ gJ).ob t j = .arr true size iW := by
  intro t j hm
  obtain ⟨k, size, rows, iW, a1, a2, a3, a4, a5⟩ := dB t j hm
  obtain ⟨k', lo, len, b1, b2⟩ := (hhs (t, j)).2 hm
  have : k = k' := PX gZ k k' t j 0 rows.length lo len gd a1 b1
  subst this
  exact ⟨k, size, rows, iW, a1, a2, a3, a4, a5, b2, m2 k t j 0 rows.length size iW a1 a3⟩
 have R := r.u3 (w' := w') (σ.Wf gZ gJ) (St.Ur _ _ _) (fun t => St.Ng _ _ _ t) (fun t j => (t, j) ∈ Yh gZ) (fun t j hm => iU (t, j) hm) (fun t j hm => m1 t j hm)
  (fun t j hm => by obtain ⟨k, size, rows, iW, _, a2, _, a4, _, _, a7⟩ := dV t j hm; rw [a2, a7]; exact ⟨rfl, rfl, a4⟩)
  iu.size (fun k hk gv => iu.block k ⟨hk, fun ⟨p, hp, _, ee⟩ => gv p.1 p.2 hp ee⟩) (fun t j => hh (t, j)) (fun t j hm => (hhs (t, j)).1 hm)
  (fun t j hm => by obtain ⟨k, size, rows, iW, _, _, _, _, a5, a6, _⟩ := dV t j hm; rw [a6]; exact k1 k _ a5)
  (fun t j b hm hb => by
   obtain ⟨k, size, rows, iW, _, _, a3, _, _, a6, _⟩ := dV t j hm
   rw [a6] at hb
   rcases k2 k b ((k4 k size iW a3).1 b hb) with ⟨p, hp, _, ee⟩ | hb
   ·exact .inl ⟨p.1, p.2, hp, ee⟩
   ·exact .inr hb)
  (fun t j b hm hb => by
   obtain ⟨k, size, rows, iW, _, _, a3, _, _, a6, _⟩ := dV t j hm
   rw [a6] at hb ⊢; exact (k4 k size iW a3).2.1 b hb)
  (fun t j t' j' b hm hm' hb ig => by
   obtain ⟨k, size, rows, iW, a1, _, a3, _, _, a6, _⟩ := dV t j hm
   obtain ⟨k', hJ, cr, aw, c1, _, c3, _, _, c6, _⟩ := dV t' j' hm'
   rw [a6] at hb; rw [c6] at ig
   have := k3 k k' b ((k4 k size iW a3).1 b hb) ((k4 k' hJ aw c3).1 b ig)
   subst this
   rw [a1] at c1; injection c1 with c1; injection c1 with e1 e2; exact ⟨e1, e2⟩)
  At.ru ak (fun t j _ => .inl (fun _ _ _ => rfl))
  (fun t j hm => by
   obtain ⟨k, size, rows, iW, _, _, a3, _, _, a6, a7⟩ := dV t j hm
   rw [a7, a6]; exact (k4 k size iW a3).2.2 _ _ _)
 refine hK _ _ ⟨X, _, R.put d (.one (.d y)) u ?_⟩ hBk
 exact Rd.mono (fun _ _ _ hh => hh.elim) hu
end
theorem Cm {σ : St} {d d' : Nat} {v : V} (iU : d ≠ d') (h : JH σ d = true) : JH (σ.put d' v) d = true := by
 unfold JH at *; simp only [Uy, if_neg iU]; exact h
theorem Sy : ∀ (xs : List At) (ds : List D) (σ : St) {d : Nat}, JH σ d = true -> JH (σ.Wf xs ds) d = true
 | [], ds, σ, d, h => by cases ds <;> exact h
 | x :: xs, [], σ, d, h => by cases x <;> exact h
 | x :: xs, e :: ds, σ, d, h => by
  cases x <;> first | exact Sy xs ds σ h | (cases e <;> first | exact Sy xs ds σ h | (rw [St.Wf]; exact Sy xs ds _ (QV h)))
theorem wo {P : Program} {ops : Array Oper} {bar : Oper -> Bool} {o : Oper} {rest : List Oper} {σ : St} {Q : St -> Prop} {cl : Call} {f : FuncId} {d : Nat} {x0 : Operand} {xs : List Operand} {t0 : TypeId} {ts : List TypeId} {ia : List (List D)} {s s' : List (List D)} {n : Nat} {y : D} {t j i c : Nat} {size : Nat} {rows : List (List D)} (iS : o.op = .call cl) (hc : cl.callee = .value (.func f)) (bm : o.guard = none) (hd : o.dst = some d) (gO : bar o = true)
  (ha : cl.args.toList = x0 :: xs) (bn : cl.argTypes.toList = t0 :: ts) (hg : gOf (look P σ t0 x0) = true) (hx : unc (look P σ t0 x0) = .one (.tref t j i c none)) (ho : σ.ob t j = .arr true size rows) (hi : i < rows.length)
  (ib : (rowAt rows i)[c]? = some (.sl n s)) (iY : Qs P σ xs ts ia) (hQ : Ym P σ xs ts = true) (hs : K5 P f [.sl n s] ia [.sl n s'] y)
  (h : Ev P ops bar rest ((σ.Z5 t j (.arr true size (rows.set i (place (rowAt rows i) c [.sl n s'])))).put d (.one (.d y))) Q) : xF P ops bar o rest σ Q := by
 refine ⟨_, .inr ⟨gO, ?_, fun d' ir gP => Cm (fun e => ir (by rw [hd, e])) (QV gP), fun hh => by simp [Oq, iS] at hh, fun hh => by first | (simp [RZ, iS] at hh; done) | (unfold RZ at hh; rw [iS] at hh; split at hh <;> simp_all)⟩, JX h⟩
 rintro T0 B a w K Q' ⟨X, hh, r⟩ hK
 have hw : Region.wanted o (yielded ops a.tmps) = true := by simp [Region.wanted, bm]
 rw [if_pos hw]
 exact BO r iS hc hd ha bn hg hx ho hi ib iY hQ hs hK
theorem w6 {P : Program} {ops : Array Oper} {bar : Oper -> Bool} {o : Oper} {rest : List Oper} {σ : St} {Q : St -> Prop} {cl : Call} {f : FuncId} {d : Nat} {x0 : Operand} {xs : List Operand} {t0 : TypeId} {ts : List TypeId} {ia : List (List D)} {row gJ : List D} {y : D} {gZ : List At} (iS : o.op = .call cl) (hc : cl.callee = .value (.func f)) (bm : o.guard = none) (hd : o.dst = some d) (gO : bar o = true)
  (ha : cl.args.toList = x0 :: xs) (hg : gOf (look P σ t0 x0) = true) (hx : unc (look P σ t0 x0) = vOf gZ) (fp : JF σ gZ = some row) (aL : Ru σ gZ) (gd : (Yh gZ).Nodup) (ak : σ.yL At.ru = false)
  (iY : Qs P σ xs ts ia) (hQ : Ym P σ xs ts = true) (hs : K5 P f row ia gJ y) (al : xu row gJ)
  (h : Ev P ops bar rest ((σ.Wf gZ gJ).put d (.one (.d y))) Q) : xF P ops bar o rest σ Q := by
 refine ⟨_, .inr ⟨gO, ?_, fun d' ir gP => Cm (fun e => ir (by rw [hd, e])) (Sy _ _ _ gP), fun hh => by simp [Oq, iS] at hh, fun hh => by first | (simp [RZ, iS] at hh; done) | (unfold RZ at hh; rw [iS] at hh; split at hh <;> simp_all)⟩, JX h⟩
 rintro T0 B a w K Q' ⟨X, hh, r⟩ hK
 have hw : Region.wanted o (yielded ops a.tmps) = true := by simp [Region.wanted, bm]
 rw [if_pos hw]
 exact AG r iS hc hd ha hg hx fp aL gd ak iY hQ hs al hK
end Go.Vm
