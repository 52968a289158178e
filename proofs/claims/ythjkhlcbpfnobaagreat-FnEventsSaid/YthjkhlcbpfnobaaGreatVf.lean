/- An abstract machine NL the model of Go, by value, and that it is sound: part Vf. No condition. -/
import Derived.Test.YthjkhlcbpfnobaaGreatVb
set_option linter.unusedVariables false
set_option linter.unusedSimpArgs false
namespace Go.Vm
open Go.RowKit
def G7 (P : Program) (σ : St) (c : Call) (f : FuncId) (own : Bool) (res : List (List D)) : Prop :=
 ∃ rows, QF P σ c.args.toList c.argTypes.toList rows /\ QH P f own rows res /\ (YZ P σ c.args.toList c.argTypes.toList = true \/ JQ own res)
def Step (P : Program) (o : Oper) (d : Nat) (σ σ' : St) : Prop :=
 match o.op with
 | .alloc T => σ.fresh d = true /\ Xn P T = true /\ ∃ row, jO P 12 T = some row /\ σ' = σ.new d (.one (.bptr d 0)) [.box row]
 | .box T x => σ.fresh d = true /\ gOf (look P σ T x) = true /\ (unc (look P σ T x)).flat = true /\ YN d (unc (look P σ T x)).cells = false /\ σ' = σ.new d (.one (.bptr d 0)) [.box (unc (look P σ T x)).cells]
 | .buildSlice T n parts => (σ.fresh d = true /\ Y2 P T = true /\ Xn P (ZR P T) = true /\ 0 < P.cellsOf (ZR P T) /\ parts.toList.length = n /\ n * P.cellsOf (ZR P T) <= 16777216 /\
   ((∃ rows, Re P σ (ZR P T) (P.cellsOf (ZR P T)) parts.toList 0 rows /\ σ' = σ.new d (.one (.sref d 0 0 rows.length)) [.arr false (P.cellsOf (ZR P T)) rows]) \/
   (∃ rows, R2 P σ (ZR P T) (P.cellsOf (ZR P T)) parts.toList 0 rows /\ YN d rows.flatten = false /\ σ' = σ.new d (.one (.sref d 0 0 rows.length)) [.lit (P.cellsOf (ZR P T)) rows]))) \/
   ((Y2 P T = true /\ Xn P (ZR P T) = true /\ 0 < P.cellsOf (ZR P T) /\ parts.toList.length = n /\ n * P.cellsOf (ZR P T) <= 16777216) /\ ∃ rows, Re P σ (ZR P T) (P.cellsOf (ZR P T)) parts.toList 0 rows /\ σ' = σ.put d (.one (.d (.sl (P.cellsOf (ZR P T)) rows))))
 | .makeSlice T x y => x = y /\ σ.fresh d = true /\ Y2 P T = true /\ Xn P (ZR P T) = true /\ 0 < P.cellsOf (ZR P T) /\
   ∃ q z zr k n, (q = true -> Is z = true) /\ jO P 12 (ZR P T) = some z /\ zD z = some zr /\ kW P σ x k (n : Nat) /\ P.bytesOf (ZR P T) * n <= 281474976710656 /\ n <= 9223372036854775807 /\ σ' = σ.new d (.one (.sref d 0 0 n)) [.arr q (P.cellsOf (ZR P T)) (List.replicate n zr)]
 | .call c =>
  (match c.callee with
  | .builtin .append => ∃ x y t, c.args = #[x, y] /\ c.argTypes = #[t, t] /\ gOf (look P σ t x) = true /\ gOf (look P σ t y) = true /\ Y2 P t = true /\ Xn P (ZR P t) = true /\ 0 < P.cellsOf (ZR P t) /\
    ∃ uG news σ1, Vu σ (unc (look P σ t x)) (P.cellsOf (ZR P t)) uG σ1 /\ qz σ (unc (look P σ t y)) (P.cellsOf (ZR P t)) news /\ σ1.fresh d = true /\
     (uG.length + news.length) * P.bytesOf (ZR P t) <= 140737488355328 /\ uG.length + news.length <= 9223372036854775807 /\ σ' = σ1.new d (.one (.sref d 0 0 (uG.length + news.length))) [.arr false (P.cellsOf (ZR P t)) (uG ++ news)]
  | .value (.func f) => (∃ own res, G7 P σ c f own res /\ σ' = σ.put d (yu res)) \/ (∃ res, G7 P σ c f true res /\ σ.fresh d = true /\ σ' = σ.new d (xa d res) (zd res.flatten)) \/
    (∃ rows res qs, QF P σ c.args.toList c.argTypes.toList rows /\ YR P f rows res /\ qI qs res.flatten /\ σ.fresh d = true /\ σ' = σ.new d (xa d res) (Yh qs res.flatten))
  | _ => ∃ v, YQ P σ o.op o.type v /\ σ' = σ.put d v)
 | .convert S T x =>
   (∃ v, YQ P σ o.op o.type v /\ σ' = σ.put d v) \/
   (∃ l, gOf (look P σ S x) = true /\ R0 P S = true /\ UQ P T = true /\ qz σ (unc (look P σ S x)) 1 (J6 l) /\ σ' = σ.put d (.one (.d (.str ⟨l.toArray⟩)))) \/
   (∃ s, gOf (look P σ S x) = true /\ UQ P S = true /\ R0 P T = true /\ unc (look P σ S x) = .one (.d (.str s)) /\ s.size <= 9223372036854775807 /\ σ' = σ.put d (.one (.d (.sl 1 (J6 s.data.toList)))))
 | _ => ∃ v, YQ P σ o.op o.type v /\ σ' = σ.put d v
def yK (P : Program) (σ : St) (T : TypeId) (x y : Operand) (σ' : St) : Prop :=
 yW P T = true /\ gOf (look P σ 0 x) = true /\ gOf (look P σ T y) = true /\ (unc (look P σ T y)).flat = true /\
  (match unc (look P σ 0 x) with
  | .one (.bptr t c) => ∃ cells, σ.ob t 0 = .box cells /\ (unc (look P σ T y)).cells.length = P.cellsOf T /\ c + P.cellsOf T <= cells.length /\ σ' = σ.Zs t 0 (.box (place cells c (unc (look P σ T y)).cells))
  | .one (.ptr t j i c) => ∃ q size rows ds, σ.ob t j = .arr q size rows /\ i < rows.length /\ rowOf σ (unc (look P σ T y)).cells = some ds /\ J1 (unc (look P σ T y)).cells = true /\ ds.length = P.cellsOf T /\ c + P.cellsOf T <= size /\
    (q = true -> ds.all D.scalar = true /\ (cut (rows.getD i []) c (P.cellsOf T)).all D.scalar = true) /\ σ' = σ.Zs t j (.arr q size (rows.set i (place (rows.getD i []) c ds)))
  | _ => False)
def xZ (want : Bool) : V -> Option Bool
 | .one (.d (.bool b)) => some (b == want)
 | .cnd g (.one (.d (.bool b))) => some (g && (b == want))
 | .cnd false _ => some false
 | _ => none
def Pm (P : Program) (o : Oper) (σ : St) (v : V) : Prop :=
 match o.op with
 | .call c =>
  (match c.callee with
  | .value (.func f) => ∃ own res, G7 P σ c f own [res] /\ v = yu [res]
  | _ => ∃ v0, YQ P σ o.op o.type v0 /\ gOf v0 = true /\ v = unc v0 /\ v.flat = true)
 | _ => ∃ v0, YQ P σ o.op o.type v0 /\ gOf v0 = true /\ v = unc v0 /\ v.flat = true
def Y6 (P : Program) (ops : Array Oper) (o : Oper) (σ σ' : St) : Prop :=
 match o.guard with
 | none =>
  (match o.dst with
  | some d => Step P o d σ σ'
  | none => (match o.op with | .store T x y => yK P σ T x y σ' | _ => False))
 | some (j, want) => ∃ dj d g v, (ops[j]?).bind (·.dst) = some dj /\ dj < σ.length /\ o.dst = some d /\ xZ want (σ.get dj) = some g /\ (g = true -> Pm P o σ v) /\ σ' = σ.put d (.cnd g v)
def ka (P : Program) (ops : Array Oper) (o : Oper) (σ σ' : St) : Prop :=
 ∀ (T0 : CS) (B : Nat -> Prop) (a : Act) (w : World) (K : Act -> World -> Prop) (Q : Exit -> Act -> World -> Prop), Q0 T0 B σ a w -> (∀ a' w', Q0 T0 B σ' a' w' -> Yr B w w' -> K a' w') ->
  if Region.wanted o (yielded ops a.tmps) then o.wp P a w K Q else K (a.put o.dst undef) w
def Xd (σ : St) (d : Nat) : Bool := match σ[d]? with | some (.any, []) => true | some (.one (.d _), []) => true | _ => false
def TS (o : Oper) (σ σ' : St) : Prop := ∀ d, o.dst ≠ some d -> Xd σ d = true -> Xd σ' d = true
def W0 (o : Oper) : Bool := match o.op with | .store _ _ _ => true | _ => false
def zL (d : Nat) : Operand -> Bool
 | .tmp t => t == d
 | _ => false
def jl (o : Oper) (d : Nat) : Bool := match o.op with | .store _ p q => !zL d p && !zL d q | _ => false
def P4 : V -> Bool
 | .any => true
 | .one (.d _) => true
 | _ => false
def St.QU : St -> List (Nat × V) -> St
 | σ, [] => σ
 | σ, p :: l => St.QU (σ.put p.1 p.2) l
def w9 (P : Program) (ops : Array Oper) (o : Oper) (σ σ' : St) : Prop :=
 (σ'.length = σ.length /\ ∀ u, σ'.get u = σ.get u) /\ (∀ l : List (Nat × V), (∀ p ∈ l, jl o p.1 = true /\ P4 p.2 = true) -> ka P ops o (σ.QU l) (σ'.QU l) /\ TS o (σ.QU l) (σ'.QU l)) /\ ∀ t cells, σ.ob t 0 = .box cells -> σ'.ob t 0 = .box cells
def jk (o : Oper) : Bool := match o.op with | .call ⟨.builtin .append, _, _⟩ => true | _ => false
theorem HV {o : Oper} (h : W0 o = true) : jk o = false := by
 unfold W0 at h
 split at h
 ·rename_i uE; simp [jk, uE]
 ·cases h
def T9 (o : Oper) (d : Nat) : Bool := !(o.op.operands.toList.any (zL d))
def wW (P : Program) (ops : Array Oper) (o : Oper) (σ σ' : St) : Prop :=
 ∃ d, o.dst = some d /\ σ'.length = σ.length /\ (∀ t, t ≠ d -> σ'.get t = σ.get t /\ (σ.get t).ref d = false) /\ (∀ t j cells, t ≠ d -> σ'.ob t j = .box cells -> σ.ob t j = .box cells /\ YN d cells = false) /\
  (∀ t j q s rows, t ≠ d -> σ'.ob t j = .arr q s rows -> ∃ uT, σ.ob t j = .arr q s uT) /\
  ∀ l : List (Nat × V), (∀ p ∈ l, p.1 ≠ d /\ T9 o p.1 = true /\ p.2.ref d = false) -> ka P ops o (σ.QU l) (σ'.QU l) /\ TS o (σ.QU l) (σ'.QU l)
def w6 (P : Program) (t : TypeId) : Bool := match P.underlying t with | some (.pointer _) => true | _ => false
def SA (bar : Oper -> Bool) (o : Oper) : Bool := !bar { o with dst := some 1000000007 }
def wH (bar : Oper -> Bool) (o : Oper) : Bool := (match o.dst with | some d => bar { o with dst := some (d + 2000000) } | none => false) && SA bar o
def Jq (P : Program) (o : Oper) : Bool := match o.op with | .call ⟨.value (.func _), _, ⟨T :: _⟩⟩ => w6 P T | _ => false
def Kw (t d : Nat) (cs : List At) (v : V) : Option (List Ob) -> St -> St
 | none, σ => (σ.Zs t 0 (.box cs)).put d v
 | some os, σ => (σ.Zs t 0 (.box cs)).new d v os
def Az (P : Program) (ops : Array Oper) (o : Oper) (σ σ' : St) : Prop :=
 ∃ d t cells cs v os, o.dst = some d /\ σ.ob t 0 = .box cells /\ (∃ z r, (∃ f ts, o.op = .call ⟨.value (.func f), ⟨z :: r⟩, ts⟩) /\ ∃ ty, unc (look P σ ty z) = .one (.bptr t 0)) /\ (∀ u, YN u cells = false /\ YN u cs = false) /\
  (∀ u, (os = none \/ u ≠ d) -> v.ref u = false /\ ∀ l, os = some l -> Yl u l = false) /\ (os ≠ none -> (σ.Zs t 0 (.box cs)).fresh d = true) /\ σ' = Kw t d cs v os σ /\
  ∀ σ2 : St, σ.length = σ2.length -> (∀ z ∈ o.op.operands.toList, ∀ ty, look P σ ty z = look P σ2 ty z) -> (∀ z ∈ o.op.operands.toList, ∀ ty u, (look P σ ty z).ref u = true -> ∀ j, σ.ob u j ≠ .none -> σ2.ob u j = σ.ob u j) -> (os ≠ none -> (σ2.Zs t 0 (.box cs)).fresh d = true) ->
   ka P ops o σ2 (Kw t d cs v os σ2) /\ TS o σ2 (Kw t d cs v os σ2)
theorem FO {P : Program} {o : Oper} (h : W0 o = true) : Jq P o = false := by
 unfold W0 at h
 split at h
 ·rename_i uE; simp [Jq, uE]
 ·cases h
theorem CC {P : Program} {o : Oper} (h : jk o = true) : Jq P o = false := by
 unfold jk at h
 split at h
 ·rename_i uE; simp [Jq, uE]
 ·cases h
def Ju (P : Program) (ops : Array Oper) (bar : Oper -> Bool) (o : Oper) (σ σ' : St) : Prop := Y6 P ops o σ σ' \/ (bar o = true /\ ka P ops o σ σ' /\ TS o σ σ' /\ (W0 o = true -> w9 P ops o σ σ') /\ (jk o = true -> wW P ops o σ σ') /\ (Jq P o = true -> SA bar o = true -> Az P ops o σ σ'))
def GJ (P : Program) (ops : Array Oper) (bar : Oper -> Bool) : List Oper -> St -> (St -> Prop) -> Prop
 | [], σ, Q => Q σ
 | o :: rest, σ, Q => ∃ σ', Ju P ops bar o σ σ' /\ GJ P ops bar rest σ' Q
section
variable {P : Program} {T0 : CS} {B : Nat -> Prop} {σ : St} {a : Act} {w w' : World} {X X' : Nat -> Prop} {h : Nat -> Nat -> Hd}
theorem RC (d : Nat) : ∀ (n : Nat) (t : TypeId) (row : List At), jO P n t = some row -> YN d row = false := by
 intro n
 induction n with
 | zero => intro t row hr; simp [jO] at hr
 | succ n ih =>
  intro t row hr
  have lk : ∀ (rs : List (List At)), (∀ r ∈ rs, YN d r = false) -> YN d rs.flatten = false := by
   intro rs s5
   have app : ∀ (xs ys : List At), YN d xs = false -> YN d ys = false -> YN d (xs ++ ys) = false := by
    intro xs ys hx hy
    induction xs with
    | nil => exact hy
    | cons x xs nm => simp only [List.cons_append, YN, Bool.or_eq_false_iff] at hx ⊢; exact ⟨hx.1, nm hx.2⟩
   induction rs with
   | nil => rfl
   | cons r rs nm => rw [List.flatten_cons]; exact app _ _ (s5 r (by simp)) (nm (fun r hr => s5 r (by simp [hr])))
  rw [jO] at hr
  split at hr
  ·cases hr; rfl
  ·cases hr; rfl
  ·cases hr; rfl
  ·cases hr; rfl
  ·rename_i fs _
   simp only [Option.map_eq_some_iff] at hr
   obtain ⟨rs, s5, rfl⟩ := hr
   refine lk rs ?_
   have : ∀ (l : List Field) (rs : List (List At)), l.mapM (fun f => jO P n f.type) = some rs -> ∀ r ∈ rs, YN d r = false := by
    intro l
    induction l with
    | nil => intro rs hh r hr; simp at hh; subst hh; cases hr
    | cons f l nm =>
     intro rs hh r hr
     simp only [List.mapM_cons, Option.bind_eq_bind, Option.bind_eq_some_iff] at hh
     obtain ⟨r0, rY, lN, mZ, hh⟩ := hh
     simp at hh; subst hh
     rcases List.mem_cons.1 hr with rfl | hr
     ·exact ih f.type _ rY
     ·exact nm lN mZ r hr
   exact this fs.toList rs s5
  ·simp only [Option.map_eq_some_iff] at hr
   obtain ⟨r0, rY, rfl⟩ := hr
   exact lk _ (fun r hr => by rw [List.eq_of_mem_replicate hr]; exact ih _ _ rY)
  ·cases hr
theorem U3 {o : Oper} {d : Nat} {v : V} (r : Rel T0 B σ a w X h) (hd : o.dst = some d) (hex : ∃ val, (execOp a.eval o).run P w = .ok (.value val) w /\ QK (Tof T0 X) h σ.ob w v val)
  {K : Act -> World -> Prop} {Q : Exit -> Act -> World -> Prop} (hK : ∀ a' w', Q0 T0 B (σ.put d v) a' w' -> Yr B w w' -> K a' w') : o.wp P a w K Q := by
 obtain ⟨val, uY, hv⟩ := hex
 unfold Oper.wp
 rw [uY, Oper.upon_value, hd]
 exact hK _ _ ⟨X, h, r.put d v val hv⟩ (Yr.refl _ _)
theorem EP (r : Rel T0 B σ a w X h) {o : Oper} {d : Nat} {σ' : St} (hd : o.dst = some d) (hs : Step P o d σ σ') {K : Act -> World -> Prop} {Q : Exit -> Act -> World -> Prop}
  (hK : ∀ a' w', Q0 T0 B σ' a' w' -> Yr B w w' -> K a' w') : o.wp P a w K Q := by
 have tq : (∃ v, YQ P σ o.op o.type v /\ σ' = σ.put d v) -> o.wp P a w K Q := by
  rintro ⟨v, hv, rfl⟩
  exact U3 r hd (jQ r hv) hK
 unfold Step at hs
 split at hs
 ·rename_i T uE
  obtain ⟨hf, hz, row, um, rfl⟩ := hs
  exact Gp r uE hd hf hz um (RC d _ _ _ um) hK
 ·rename_i T x uE
  obtain ⟨hf, hg, tb, hr, rfl⟩ := hs
  exact Ds r uE hd hf hg tb hr hK
 ·rename_i T n parts uE
  rcases hs with ⟨hf, h1, h2, h3, h4, h5, ⟨rows, h6, rfl⟩ | ⟨rows, h6, h7, rfl⟩⟩ | ⟨⟨h1, h2, h3, h4, h5⟩, rows, h6, rfl⟩
  ·exact PL r uE hd hf h1 h2 h3 h4 h5 h6 hK
  ·exact TC r uE hd hf h1 h2 h3 h4 h5 h6 h7 hK
  ·exact GF r uE hd h1 h2 h3 h4 h5 h6 hK
 ·rename_i T x y uE
  obtain ⟨rfl, hf, h1, h2, h3, q, z, zr, k, n, hq, h4, h5, h6, h7, h8, rfl⟩ := hs
  cases q with
  | false => exact O8 r uE hd hf h1 h2 h4 h5 h3 h6 h7 h8 hK
  | true => exact N7 r uE hd hf h1 h2 h4 h5 (hq rfl) h3 h6 h7 h8 hK
 ·rename_i c uE
  split at hs
  ·rename_i hc
   obtain ⟨x, y, t, ha, ru, h1, h2, h3, h4, h5, uG, news, σ1, h6, h7, h8, h9, sH, rfl⟩ := hs
   refine GG r (t := t) (x := x) (y := y) ?_ hd h1 h2 h3 h4 h5 h6 h7 h8 h9 sH hK
   rw [uE]
   obtain ⟨cc, ca, ct⟩ := c
   simp only at hc ha ru
   rw [hc, ha, ru]
  ·rename_i f hc
   rcases hs with ⟨own, res, ⟨rows, ha, hs, tH⟩, rfl⟩ | ⟨res, ⟨rows, ha, hs, tH⟩, hf, rfl⟩ | ⟨rows, res, qs, ha, hs, hq, hf, rfl⟩
   ·rcases tH with tH | tH
    ·exact jw r uE hc hd ha true (fun _ => tH) (fun hh => by cases hh) hs hK
    ·exact jw r uE hc hd ha false (fun hh => by cases hh) (fun _ => tH) hs hK
   ·rcases tH with tH | tH
    ·exact SQ r uE hc hd hf ha true (fun _ => tH) (fun hh => by cases hh) hs hK
    ·exact SQ r uE hc hd hf ha false (fun hh => by cases hh) (fun _ => tH) hs hK
   ·exact G0 r qs uE hc hd hf ha hs hq hK
  ·exact tq hs
 ·rename_i S T x uE
  rcases hs with hs | ⟨l, h1, h2, h3, h4, rfl⟩ | ⟨s, h1, h2, h3, h4, h5, rfl⟩
  ·exact tq hs
  ·exact U3 r hd (T4 r uE h1 h2 h3 h4) hK
  ·exact Tz r uE hd h1 h2 h3 h4 h5 hK
 ·exact tq hs
theorem Hb (r : Rel T0 B σ a w X h) {o : Oper} {T : TypeId} {x y : Operand} {σ' : St} (uE : o.op = .store T x y) (hd : o.dst = none) (hs : yK P σ T x y σ') {K : Act -> World -> Prop} {Q : Exit -> Act -> World -> Prop}
  (hK : ∀ a' w', Q0 T0 B σ' a' w' -> Yr B w w' -> K a' w') : o.wp P a w K Q := by
 obtain ⟨ht, ry, rz, tb, hs⟩ := hs
 split at hs
 ·rename_i t c hx
  obtain ⟨cells, ho, hl, hle, rfl⟩ := hs
  exact LG r uE hd ht ry rz hx ho tb hl hle hK
 ·rename_i t j i c hx
  obtain ⟨q, size, rows, ds, ho, hi, oC, uk, hl, hle, hq, rfl⟩ := hs
  refine MC r uE hd ht ry rz hx ho hi tb oC uk hl hle (fun hh => ⟨fun d uU => ?_, fun k d hk uU => ?_⟩) hK
  ·exact List.all_eq_true.1 (hq hh).1 d uU
  ·refine List.all_eq_true.1 (hq hh).2 d (List.mem_of_getElem? (i := k) ?_)
   simp only [cut, List.getElem?_take, if_pos hk, List.getElem?_drop]; exact uU
 ·exact hs.elim
theorem Oj {T : CS} {ob : Nat -> Nat -> Ob} {v : V} {val : Value} (hf : (unc v).flat = true) (hv : QK T h ob w (unc v) val) : Jn T h ob w (unc v) val := by
 cases hu : unc v with
 | one x => rw [hu] at hv; exact hv
 | agg xs => rw [hu] at hv; exact hv
 | any => rw [hu] at hf; cases hf
 | tup xs => rw [hu] at hf; cases hf
 | cnd g x => rw [hu] at hf; cases hf
 | fix u x => rw [hu] at hf; cases hf
theorem Fe (r : Rel T0 B σ a w X h) {ops : Array Oper} {o : Oper} {j dj : Nat} {want g : Bool} (oB : o.guard = some (j, want)) (sD : (ops[j]?).bind (·.dst) = some dj) (uQ : dj < σ.length) (hg : xZ want (σ.get dj) = some g) :
  Region.wanted o (yielded ops a.tmps) = g := by
 have tM : dj < a.tmps.size := by rw [r.size]; exact uQ
 have hv := r.slot dj uQ
 have lp : a.tmps.getD dj undef = a.tmps[dj] := by simp [tM]
 rw [lp] at hv
 have hy : yielded ops a.tmps j = (match a.tmps[dj] with | .bool b => some b | _ => none) := by
  unfold yielded
  rw [sD]
  simp only [Option.bind_some, Array.getElem?_eq_getElem tM]
  cases a.tmps[dj] <;> rfl
 simp only [Region.wanted, oB, hy]
 unfold xZ at hg
 split at hg
 ·rename_i b la
  rw [la] at hv
  rw [xu hv]
  cases hg
  cases b <;> cases want <;> rfl
 ·rename_i g0 b la
  rw [la] at hv
  cases hg
  cases g0 with
  | true =>
   rw [xu (hv.1 rfl)]
   cases b <;> cases want <;> rfl
  | false =>
   rw [hv.2 rfl]
   simp [undef]
 ·rename_i la
  rw [la] at hv
  cases hg
  rw [hv.2 rfl]
  simp [undef]
 ·cases hg
theorem Gl (r : Rel T0 B σ a w X h) {ops : Array Oper} {o : Oper} {σ' : St} (hs : Y6 P ops o σ σ') {K : Act -> World -> Prop} {Q : Exit -> Act -> World -> Prop}
  (hK : ∀ a' w', Q0 T0 B σ' a' w' -> Yr B w w' -> K a' w') : if Region.wanted o (yielded ops a.tmps) then o.wp P a w K Q else K (a.put o.dst undef) w := by
 unfold Y6 at hs
 split at hs
 ·rename_i hg
  have hw : Region.wanted o (yielded ops a.tmps) = true := by simp [Region.wanted, hg]
  rw [if_pos hw]
  split at hs
  ·rename_i d hd; exact EP r hd hs hK
  ·rename_i hd
   split at hs
   ·rename_i T x y uE; exact Hb r uE hd hs hK
   ·exact hs.elim
 ·rename_i j want hg
  obtain ⟨dj, d, g, v, sD, uQ, hd, sK, hs, rfl⟩ := hs
  rw [Fe r hg sD uQ sK]
  cases g with
  | false =>
   simp only [Bool.false_eq_true, if_false]
   rw [hd]
   exact hK _ _ ⟨X, h, r.put d _ _ ⟨(fun hh => by cases hh), fun _ => rfl⟩⟩ (Yr.refl _ _)
  | true =>
   simp only [if_true]
   have tF := hs rfl
   clear hs
   have tq : (∃ v0, YQ P σ o.op o.type v0 /\ gOf v0 = true /\ v = unc v0 /\ v.flat = true) -> o.wp P a w K Q := by
    rintro ⟨v0, nk, lO, rfl, tb⟩
    obtain ⟨val, uY, hv⟩ := jQ r nk
    refine U3 (v := .cnd true (unc v0)) r hd ⟨val, uY, ⟨fun _ => Oj tb (hv.unc lO), fun hh => by cases hh⟩⟩ hK
   unfold Pm at tF
   split at tF
   ·rename_i c uE
    split at tF
    ·rename_i f hc
     obtain ⟨own, res, ⟨rows, ha, hs, tH⟩, rfl⟩ := tF
     have fin : ∀ a' w', Q0 T0 B (σ.put d (yu [res])) a' w' -> Yr B w w' -> K a' w' := by
      rintro a' w' ⟨X', h', r'⟩ hb
      refine hK a' w' ⟨X', h', ?_⟩ hb
      refine ⟨by rw [r'.size, St.QN, St.QN], r'.defers, r'.hB, r'.hX, r'.hT, fun t ht => ?_, fun t j => ?_, fun t j b => ?_, fun t j b => ?_, fun t j t' j' b => ?_⟩
      ·rw [St.QN] at ht
       have h0 := r'.slot t (by rw [St.QN]; exact ht)
       rw [St.QP] at h0 ⊢
       rw [St.KO] at h0 ⊢
       by_cases hh : t = d /\ d < σ.length
       ·rw [if_pos hh] at h0 ⊢
        refine ⟨fun _ => ?_, fun hh => by cases hh⟩
        have tb : (unc (vOf (res.map At.d))).flat = true := by
         match res.map At.d with
         | [] => rfl
         | [x] => rfl
         | x :: y :: xs => rfl
        have hu : unc (vOf (res.map At.d)) = vOf (res.map At.d) := by
         match res.map At.d with
         | [] => rfl
         | [x] => rfl
         | x :: y :: xs => rfl
        have := Oj (v := vOf (res.map At.d)) tb (by rw [hu]; exact h0)
        rw [hu] at this; exact this
       ·rw [if_neg hh] at h0 ⊢; exact h0
      ·have := r'.obj t j; rw [St.QP] at this ⊢; exact this
      ·have := r'.ub t j b; rw [St.QP] at this ⊢; exact this
      ·have := r'.own t j b; rw [St.QP] at this ⊢; exact this
      ·have := r'.inj t j t' j' b; rw [St.QP] at this ⊢; exact this
     rcases tH with tH | tH
     ·exact jw r uE hc hd ha true (fun _ => tH) (fun hh => by cases hh) hs fin
     ·exact jw r uE hc hd ha false (fun hh => by cases hh) (fun _ => tH) hs fin
    ·exact tq tF
   ·exact tq tF
theorem TX {ops : Array Oper} {bar : Oper -> Bool} {o : Oper} {σ' : St} (hs : Ju P ops bar o σ σ') : ka P ops o σ σ' := by
 rcases hs with hs | hs
 ·rintro T0 B a w K Q ⟨X, h, r⟩ hK
  exact Gl r hs hK
 ·exact hs.2.1
theorem MF {ops : Array Oper} {bar : Oper -> Bool} : ∀ {l : List Oper} {σ : St} {a : Act} {w : World} {Q : St -> Prop} {Q' : Exit -> Act -> World -> Prop}, GJ P ops bar l σ Q -> Q0 T0 B σ a w ->
  (∀ σ' a' w', Q σ' -> Q0 T0 B σ' a' w' -> Yr B w w' -> Q' .normal a' w') -> wpList P ops Q' l a w
 | [], σ, a, w, Q, Q', hr, tw, hK => hK σ a w hr tw (Yr.refl _ _)
 | o :: l, σ, a, w, Q, Q', ⟨σ', hs, hr⟩, tw, hK => by
  refine wpList_step fun K eu => ?_
  exact TX hs _ _ _ _ _ _ tw (fun a' w' tw hb => eu _ _ (MF hr tw (fun σ2 a2 w2 hq oe tA => hK σ2 a2 w2 hq oe (hb.trans tA))))
end
end Go.Vm
namespace Go.Vm
open Go.RowKit
def AWP (P : Program) (c : Code) (Q : Exit -> St -> Prop) (σ : St) : Prop :=
 ∀ (T0 : CS) (B : Nat -> Prop) (a : Act) (w : World), Q0 T0 B σ a w -> c.wp P (fun e a' w' => ∃ σ', Q e σ' /\ Q0 T0 B σ' a' w' /\ Yr B w w') a w
def Wk (σ σ' : St) : Prop := ∀ (T0 : CS) (B : Nat -> Prop) (a : Act) (w : World), Q0 T0 B σ a w -> Q0 T0 B σ' a w
def Ms (next : St -> Prop) (Q : Exit -> St -> Prop) : Exit -> St -> Prop
 | .normal, σ => next σ
 | e, σ => Q e σ
def Uw (id : Nat) (Q : Exit -> St -> Prop) : Exit -> St -> Prop
 | .exit mb, σ => if mb = id then Q .normal σ else Q (.exit mb) σ
 | e, σ => Q e σ
section
variable {P : Program} {Q : Exit -> St -> Prop} {σ : St}
theorem Wk.refl (σ : St) : Wk σ σ := fun _ _ _ _ h => h
theorem Wk.trans {σ σ' σ'' : St} (h : Wk σ σ') (k : Wk σ' σ'') : Wk σ σ'' := fun _ _ _ _ r => k _ _ _ _ (h _ _ _ _ r)
theorem FC {c : Code} {Q' : Exit -> St -> Prop} (h : ∀ e σ, Q e σ -> Q' e σ) (k : AWP P c Q σ) : AWP P c Q' σ :=
 fun T0 B a w r => wp_mono (k T0 B a w r) fun e _ _ ⟨σ', hq, hr⟩ => ⟨σ', h e σ' hq, hr⟩
theorem CP (h : Q .normal σ) : AWP P .skip Q σ := fun _ B _ w r => wp_skip ⟨σ, h, r, Yr.refl B w⟩
theorem C8 {id : Nat} (h : Q (.exit id) σ) : AWP P (.exit id) Q σ := fun _ B _ w r => wp_exit ⟨σ, h, r, Yr.refl B w⟩
theorem BZ (h : Q .ret σ) : AWP P .ret Q σ := fun _ B _ w r => wp_ret ⟨σ, h, r, Yr.refl B w⟩
theorem ER {id : Nat} {l : List Oper} {bar : Oper -> Bool} (h : GJ P l.toArray bar l σ (Q .normal)) : AWP P (.region id l.toArray false) Q σ :=
 fun _ _ _ _ r => wp_region_lit (MF h r fun σ' _ _ hq hr hb => ⟨σ', hq, hr, hb⟩)
theorem Bf {x y : Code} (h : AWP P x (Ms (AWP P y Q) Q) σ) : AWP P (.seq x y) Q σ := by
 intro T0 B a w r
 refine wp_seq (wp_mono (h T0 B a w r) ?_)
 rintro e a' w' ⟨σ', hq, hr, hb⟩
 cases e with
 | normal => exact wp_mono (hq T0 B a' w' hr) fun e _ _ ⟨σ2, h1, h2, h3⟩ => ⟨σ2, h1, h2, hb.trans h3⟩
 | exit id => exact ⟨σ', hq, hr, hb⟩
 | goto l => exact ⟨σ', hq, hr, hb⟩
 | ret => exact ⟨σ', hq, hr, hb⟩
 | panic ch => exact ⟨σ', hq, hr, hb⟩
 | outgrown => exact ⟨σ', hq, hr, hb⟩
theorem C1 {c : Operand} {x y : Code} {b : Bool} (hc : look P σ 0 c = .one (.d (.bool b))) (ht : b = true -> AWP P x Q σ) (hf : b = false -> AWP P y Q σ) : AWP P (.cond c x y) Q σ := by
 intro T0 B a w r
 obtain ⟨X, h, rr⟩ := r
 have hv := rr.look (P := P) 0 c
 rw [hc] at hv
 exact wp_cond_split (xu hv) (fun hb => ht hb T0 B a w ⟨X, h, rr⟩) (fun hb => hf hb T0 B a w ⟨X, h, rr⟩)
theorem DF {id : Nat} {c : Code} (h : AWP P c (Uw id Q) σ) : AWP P (.block id c) Q σ := by
 intro T0 B a w r
 refine wp_block (wp_mono (h T0 B a w r) ?_)
 rintro e a' w' ⟨σ', hq, hr, hb⟩
 cases e with
 | exit mb =>
  simp only [Uw] at hq
  simp only [Exit.inBlock]
  split at hq
  ·rename_i hh; rw [if_pos hh]; exact ⟨σ', hq, hr, hb⟩
  ·rename_i hh; rw [if_neg hh]; exact ⟨σ', hq, hr, hb⟩
 | normal => exact ⟨σ', hq, hr, hb⟩
 | goto l => exact ⟨σ', hq, hr, hb⟩
 | ret => exact ⟨σ', hq, hr, hb⟩
 | panic ch => exact ⟨σ', hq, hr, hb⟩
 | outgrown => exact ⟨σ', hq, hr, hb⟩
theorem Vn {c : Code} {ι : Type} (S : ι -> St) (μ : ι -> Nat) (i0 : ι) (h0 : Wk σ (S i0))
  (round : ∀ i, AWP P c (Ms (fun σ' => ∃ i', μ i' < μ i /\ Wk σ' (S i')) Q) (S i)) : AWP P (.loop c) Q σ := by
 intro T0 B a w r b k cs
 have key : ∀ n i a w, μ i = n -> Q0 T0 B (S i) a w ->
   ∃ e a' w', (∃ σ', Q e σ' /\ Q0 T0 B σ' a' w' /\ Yr B w w') /\ Arrives P (lone (b.at a (.code c :: .inLoop c :: k)) cs w) b k cs e a' w' := by
  intro n
  induction n using Nat.strongRecOn with
  | _ n ih =>
   intro i a w hn hr
   obtain ⟨e, a₁, w₁, ⟨σ₁, hq, lP, lQ⟩, tg⟩ := round i T0 B a w hr b (.inLoop c :: k) cs
   cases e with
   | normal =>
    obtain ⟨i', uQ, ev⟩ := hq
    obtain ⟨e₂, a₂, w₂, ⟨σ₂, ew, ez, e8⟩, lb⟩ := ih (μ i') (hn ▸ uQ) i' a₁ w₁ rfl (ev T0 B a₁ w₁ lP)
    exact ⟨e₂, a₂, w₂, ⟨σ₂, ew, ez, lQ.trans e8⟩, .of_steps (Steps.trans tg (.one step_inLoop)) lb⟩
   | exit id => exact ⟨_, a₁, w₁, ⟨σ₁, hq, lP, lQ⟩, .pass (x := .inLoop c) rfl (fun _ _ => .inl (by simp)) tg⟩
   | goto l => exact ⟨_, a₁, w₁, ⟨σ₁, hq, lP, lQ⟩, .pass (x := .inLoop c) rfl (fun _ _ => .inl (by simp)) tg⟩
   | ret => exact ⟨_, a₁, w₁, ⟨σ₁, hq, lP, lQ⟩, .pass (x := .inLoop c) rfl (fun _ _ => .inl (by simp)) tg⟩
   | panic ch => exact ⟨_, a₁, w₁, ⟨σ₁, hq, lP, lQ⟩, .pass (x := .inLoop c) rfl (fun _ _ => .inl (by simp)) tg⟩
   | outgrown => exact ⟨_, a₁, w₁, ⟨σ₁, hq, lP, lQ⟩, .pass (x := .inLoop c) rfl (fun _ _ => .inl (by simp)) tg⟩
 obtain ⟨e, a', w', hq, tg⟩ := key _ i0 a w rfl (h0 T0 B a w r)
 exact ⟨e, a', w', hq, .of_steps (.one step_loop) tg⟩
end
/-! ### entering a function, and leaving it -/
def Sx : List (List D) -> St
 | [] => []
 | r :: rs => (vOf (r.map .d), []) :: Sx rs
def xl (n : Nat) (args : List (List D)) : St := Sx args ++ List.replicate (n - args.length) (V.any, [])
def Mn (P : Program) (σ : St) : ResultVar -> List At -> Prop
 | .tmp t, xs => (σ.get t = vOf xs) /\ t < σ.length
 | .cell t T, xs => ∃ u c cells, σ.get t = .one (.bptr u c) /\ σ.ob u 0 = .box cells /\ yW P T = true /\ VE P T = true /\ P.cellsOf T ≠ 1 /\ c + P.cellsOf T <= cells.length /\ xs = cut cells c (P.cellsOf T)
def TJ (P : Program) (σ : St) : List ResultVar -> List (List At) -> Prop
 | [], tY => tY = []
 | r :: rs, tY => ∃ xs rest, Mn P σ r xs /\ TJ P σ rs rest /\ tY = xs :: rest
def qZ (σ : St) : List (List At) -> Option (List (List D))
 | [] => some []
 | xs :: rest => (match rowOf σ xs, qZ σ rest with | some r, some rs => some (r :: rs) | _, _ => none)
def qB (σ : St) : At -> Option D
 | .d (.sl _ _) => none
 | .d x => some x
 | .nil s => some (.sl s [])
 | .sref t j lo len => (match σ.ob t j with | .arr false size rows => if lo = 0 /\ len = rows.length then some (.sl size rows) else none | _ => none)
 | _ => none
def ownRow (σ : St) : List At -> Option (List D)
 | [] => some []
 | x :: xs => (match qB σ x, ownRow σ xs with | some d, some ds => some (d :: ds) | _, _ => none)
def WM (σ : St) : List (List At) -> Option (List (List D))
 | [] => some []
 | xs :: rest => (match ownRow σ xs, WM σ rest with | some r, some rs => some (r :: rs) | _, _ => none)
def GR (P : Program) (fn : Func) (own : Bool) (res : List (List D)) (e : Exit) (σ : St) : Prop :=
 (e = .ret \/ e = .normal) /\ ∃ tY, TJ P σ fn.results.toList tY /\ (if own then WM σ tY = some res /\ (XE tY.flatten).Nodup else qZ σ tY = some res)
def DH (P : Program) (fn : Func) (res : List (List D)) (e : Exit) (σ : St) : Prop :=
 (e = .ret \/ e = .normal) /\ ∃ tY, TJ P σ fn.results.toList tY /\ JS σ tY = some res /\ JD σ tY /\ (XE tY.flatten).Nodup
end Go.Vm
namespace Go.Vm
open Go.RowKit
section
variable {P : Program} {T0 : CS} {B : Nat -> Prop} {σ : St} {a : Act} {w w' : World} {X X' : Nat -> Prop} {h : Nat -> Nat -> Hd}
theorem TN : ∀ (args : List (List D)) (t : Nat), (Sx args)[t]? = (args[t]?).map fun r => (vOf (r.map .d), [])
 | [], t => by simp [Sx]
 | r :: rs, 0 => by simp [Sx]
 | r :: rs, t + 1 => by simpa [Sx] using TN rs t
theorem QR (args : List (List D)) : (Sx args).length = args.length := by
 induction args with
 | nil => rfl
 | cons r rs ih => simp [Sx, ih]
theorem Lf {T : CS} {n : Nat} {args : List (List D)} {u6 : List Value} (hT : ∀ b k, T b k -> b < w.heap.size) (ha : Z5 (fun v row => ∃ cs, Kk v cs /\ Z5 (Rd T w) cs row) u6 args) :
  Q0 T (fun b => b < w.heap.size) (xl n args) { tmps := u6.toArray ++ Array.replicate (n - u6.toArray.size) undef, defers := [] } w := by
 have hl := ha.length
 refine ⟨fun _ => False, fun _ _ => Hd.of undef, ?_⟩
 have ua : ∀ t j, (xl n args).ob t j = .none := by
  intro t j
  unfold St.ob xl
  rcases Nat.lt_or_ge t args.length with h | h
  ·rw [List.getElem?_append_left (by rw [QR]; exact h), TN, List.getElem?_eq_getElem h]
   simp [YU]
  ·rw [List.getElem?_append_right (by rw [QR]; exact h), List.getElem?_replicate]
   split
   ·rename_i e he
    split at he
    ·cases he; simp [YU]
    ·cases he
   ·rfl
 have oo : ∀ b k v, T b k -> w.cell? ⟨b, k, none⟩ = some v -> w.cell? ⟨b, k, none⟩ = some v /\ Tof T (fun _ => False) b k := fun b k v hb hc => ⟨hc, .inl hb⟩
 refine ⟨by simp [xl, QR, hl], rfl, (fun b hb => hb), (fun b hb => hb.elim), hT, fun t ht => ?_, fun t j => by rw [ua]; trivial, fun t j b uH => absurd (ua t j) uH, fun t j b uH => absurd (ua t j) uH, fun t j t' j' b uH => absurd (ua t j) uH⟩
 unfold St.get xl
 rcases Nat.lt_or_ge t args.length with uQ | r6
 ·rw [List.getElem?_append_left (by rw [QR]; exact uQ), TN, List.getElem?_eq_getElem uQ]
  obtain ⟨v, hv, cs, hf, uJ⟩ := ha.get' t args[t] (List.getElem?_eq_getElem uQ)
  have rH : (u6.toArray ++ Array.replicate (n - u6.toArray.size) undef).getD t undef = v := by
   rw [Array.getD_eq_getD_getElem?, Array.getElem?_append_left (by simp; omega)]
   simp [hv]
  simp only [rH]
  exact (Nl hf (kD (uJ.imp fun _ _ => Rd.mono oo))).up
 ·rw [List.getElem?_append_right (by rw [QR]; exact r6), List.getElem?_replicate]
  split
  ·rename_i e he
   split at he
   ·cases he; trivial
   ·cases he
  ·trivial
theorem Bd {T : CS} {ob : Nat -> Nat -> Ob} {xs : List At} {v : Value} (hv : QK T h ob w (vOf xs) v) : ∃ cs, Kk v cs /\ Z5 (YH T h ob w) xs cs := by
 match xs, hv with
 | [], hv =>
  obtain ⟨cs, rfl, uJ⟩ := hv
  exact ⟨cs.toList, .inr ⟨by rw [<- uJ.length]; simp, by simp⟩, uJ⟩
 | [x], hv => exact ⟨[v], .inl ⟨v, rfl, rfl, YH.Xc hv⟩, .cons hv .nil⟩
 | x :: y :: xs, hv =>
  obtain ⟨cs, rfl, uJ⟩ := hv
  exact ⟨cs.toList, .inr ⟨by rw [<- uJ.length]; simp, by simp⟩, uJ⟩
theorem E1 (r : Rel T0 B σ a w X h) : ∀ {rs : List ResultVar} {tY : List (List At)}, TJ P σ rs tY ->
  ∃ vs uq, (rs.mapM (m := Sem) fun | .tmp t => pure (a.tmps.getD t undef) | .cell u t => do loadVar t (<- asAddr (a.tmps.getD u undef))).run P w = .ok vs w /\ Z5 Kk vs uq /\ Z5 (fun xs cs => Z5 (YH (Tof T0 X) h σ.ob w) xs cs) tY uq
 | [], tY, hr => by cases hr; exact ⟨[], [], by simp, .nil, .nil⟩
 | rv :: rs, tY, hr => by
  obtain ⟨xs, rest, h1, h2, rfl⟩ := hr
  obtain ⟨vs, uq, uY, hf, uJ⟩ := E1 r h2
  have one : ∃ v cs, (match rv with | .tmp t => (pure (a.tmps.getD t undef) : Sem Value) | .cell u t => do loadVar t (<- asAddr (a.tmps.getD u undef))).run P w = .ok v w /\ Kk v cs /\ Z5 (YH (Tof T0 X) h σ.ob w) xs cs := by
   cases rv with
   | tmp t =>
    obtain ⟨hg, uQ⟩ := h1
    have hv := r.slot t uQ
    rw [hg] at hv
    obtain ⟨cs, hf, uJ⟩ := Bd hv
    exact ⟨_, cs, by simp, hf, uJ⟩
   | cell t T =>
    obtain ⟨u, c, cells, hg, ho, sh, pC, uH, hle, rfl⟩ := h1
    have hv := r.get t
    rw [hg] at hv
    obtain ⟨b, cs, e, hb, he, hh, uJ⟩ := r.box ho hv
    have hlen := uJ.length
    obtain ⟨val, eE, gS, _⟩ := Ct (P := P) (w := w) sh (b := b) (off := c) (cs := cut cs.toList c (P.cellsOf T)) (Yu _ _ _ (by omega)) (fun j u hu => J0 hh _ _ (J7 _ _ _ _ _ hu))
    refine ⟨val, cut cs.toList c (P.cellsOf T), ?_, .inr ⟨by rw [Yu _ _ _ (by omega)]; exact uH, gS pC⟩, uJ.cut _ _⟩
    simp only [Instr.loadAt, Instr.sureAddr, Sem.run_bind, Sem.run_pure, Result.andThen_ok] at eE
    simp only [he, asAddr, Sem.run_bind, Sem.run_pure, Result.andThen_ok]
    exact eE
  obtain ⟨v, cs, ld, e9, gT⟩ := one
  refine ⟨v :: vs, cs :: uq, ?_, .cons e9 hf, .cons gT uJ⟩
  simp only [List.mapM_cons, Sem.run_bind, ld, Result.andThen_ok, uY, Sem.run_pure]
theorem Wf (r : Rel T0 B σ a w X h) {fn : Func} {tY : List (List At)} (hr : TJ P σ fn.results.toList tY) :
  ∃ vs uq, (results fn a.tmps).run P w = .ok (TQ vs) w /\ Z5 Kk vs uq /\ Z5 (fun xs cs => Z5 (YH (Tof T0 X) h σ.ob w) xs cs) tY uq := by
 obtain ⟨vs, uq, uY, hf, uJ⟩ := E1 r hr
 refine ⟨vs, uq, ?_, hf, uJ⟩
 unfold results
 rw [Array.mapM_eq_mapM_toList]
 change ((((fn.results.toList.mapM (m := Sem) fun | .tmp t => pure (a.tmps.getD t undef) | .cell u t => do loadVar t (<- asAddr (a.tmps.getD u undef))) >>= fun l => pure l.toArray) >>= fun (vs : Array Value) => pure (if h : vs.size = 1 then vs[0] else .tuple vs))).run P w = _
 simp only [Sem.run_bind, uY, Result.andThen_ok, Sem.run_pure]
 congr 1
 match vs with
 | [] => rfl
 | [v] => rfl
 | v :: v' :: vs => simp [TQ]
theorem UR (r : Rel T0 B σ a w X h) {T : CS} (hT : ∀ b k, S4 T0 X h σ b k -> T b k) : ∀ {tY : List (List At)} {uq : List (List Value)} {res : List (List D)}, qZ σ tY = some res -> Z5 (fun xs cs => Z5 (YH (Tof T0 X) h σ.ob w) xs cs) tY uq ->
  Z5 (fun cs row => Z5 (yO false T w) cs row) uq res
 | [], uq, res, hr, uJ => by cases uJ; simp [qZ] at hr; subst hr; exact .nil
 | xs :: tY, uq, res, hr, uJ => by
  cases uJ with
  | cons h1 uJ =>
   simp only [qZ] at hr
   split at hr
   ·rename_i row rs um s5
    cases hr
    refine .cons ?_ (UR r hT s5 uJ)
    have := r.rowOf false um h1 (fun hh => by cases hh)
    refine this.imp fun v d hd => ?_
    simp only [yO, Bool.false_eq_true, if_false] at hd ⊢
    exact Rd.mono (fun b k v hb hc => ⟨hc, hT b k hb⟩) hd
   ·cases hr
theorem N5 : ∀ {xs : List At} {ds : List D}, ownRow σ xs = some ds -> Z5 (fun x d => qB σ x = some d) xs ds
 | [], ds, hr => by simp [ownRow] at hr; subst hr; exact .nil
 | x :: xs, ds, hr => by
  simp only [ownRow] at hr
  split at hr
  ·rename_i d oP h1 h2; cases hr; exact .cons h1 (N5 h2)
  ·cases hr
theorem OQ : ∀ {tY : List (List At)} {res : List (List D)}, WM σ tY = some res -> Z5 (fun xs row => Z5 (fun x d => qB σ x = some d) xs row) tY res
 | [], res, hr => by simp [WM] at hr; subst hr; exact .nil
 | xs :: tY, res, hr => by
  simp only [WM] at hr
  split at hr
  ·rename_i d oP h1 h2; cases hr; exact .cons (N5 h1) (OQ h2)
  ·cases hr
theorem UG (r : Rel T0 B σ a w X h) {x : At} {d : D} {v : Value} (hx : qB σ x = some d) (hv : YH (Tof T0 X) h σ.ob w x v) : Q7 (Tof T0 X) w v d /\ (∀ b, d.scalar = false -> blk v = some b -> ∃ t j lo len, x = .sref t j lo len /\ σ.ob t j ≠ .none /\ (h t j).u b) := by
 cases x with
 | d x =>
  cases x with
  | sl s rows => simp [qB] at hx
  | int k n => simp [qB] at hx; subst hx; exact ⟨hv, fun b hb => by cases hb⟩
  | bool b => simp [qB] at hx; subst hx; exact ⟨hv, fun b hb => by cases hb⟩
  | str s => simp [qB] at hx; subst hx; exact ⟨hv, fun b hb => by cases hb⟩
  | unk => simp [qB] at hx; subst hx; exact ⟨hv, fun b hb => by cases hb⟩
 | nil s =>
  simp [qB] at hx; subst hx
  cases hv
  exact ⟨⟨0, [], World.ownsRow_nil w 0 0 s, (by intro q hq; cases hq), .nil⟩, fun b _ hb => by cases hb⟩
 | sref t j lo len =>
  simp only [qB] at hx
  split at hx
  ·rename_i size rows ho
   split at hx
   ·rename_i hc
    obtain ⟨rfl, rfl⟩ := hc
    cases hx
    obtain ⟨_, tr, _⟩ := hv.2.1 _ size rows ho
    have he := tr rfl rfl
    have h0 := r.obj t j
    have th := r.ub t j
    rw [ho] at h0 th
    refine ⟨by rw [he]; exact h0, fun b _ hb => ⟨t, j, 0, rows.length, rfl, by rw [ho]; simp, th b (by simp) (by rw [<- he]; exact hb)⟩⟩
   ·cases hx
  ·cases hx
 | any => simp [qB] at hx
 | ptr => simp [qB] at hx
 | bptr => simp [qB] at hx
 | fn => simp [qB] at hx
 | rptr => simp [qB] at hx
 | tref => simp [qB] at hx
theorem HP {f : FuncId} {fn : Func} {c : Code} (hf : P.funcs[f]? = some fn) (hb : fn.body = some c) (uj : T1 P f = true) {own : Bool} {args res : List (List D)}
  (hw : AWP P c (GR P fn own res) (xl fn.ntmps args)) : QH P f own args res := by
 refine ⟨uj, fun T w u6 hT uL => calls_of_wp hf hb ?_⟩
 refine wp_mono (hw T (fun b => b < w.heap.size) _ w (Lf hT uL)) ?_
 rintro e a' w' ⟨σ', ⟨he, tY, sL, uM⟩, ⟨X, h, r⟩, uZ⟩
 have sB : Below w.heap.size w w' := ⟨uZ.os, uZ.tape, uZ.output, uZ.size, uZ.block⟩
 obtain ⟨vs, uq, uY, ur, uJ⟩ := Wf r sL
 have goal : a'.defers = [] /\ ∃ v, (results fn a'.tmps).run P w' = .ok v w' /\ wT own T w res (.returned v) w' := by
  refine ⟨r.defers, _, uY, ?_⟩
  cases own with
  | false =>
   refine ⟨vs, uq, fun b => w.heap.size <= b /\ b < w'.heap.size, rfl, sB, fun b hb => hb, ur, ?_, fun hh => by cases hh⟩
   refine UR r (fun b k hb => ?_) (by simpa using uM) uJ
   rcases hb with hb | ⟨t, j, q, size, rows, ho, hb⟩
   ·rcases hb with hb | hb
    ·exact .inl hb
    ·have := r.hX b hb; exact .inr ⟨by omega, this.2⟩
   ·have := r.own t j b (by rw [ho]; simp) hb
    exact .inr ⟨by omega, this.2.2⟩
  | true =>
   simp only [if_true] at uM
   obtain ⟨uK, tN⟩ := uM
   have tI := OQ uK
   have pD : Z5 (fun x d => qB σ' x = some d) tY.flatten res.flatten := yi tI
   have pE : Z5 (YH (Tof T X) h σ'.ob w') tY.flatten uq.flatten := yi uJ
   refine ⟨vs, uq, X, rfl, sB, (fun b hb => by have := r.hX b hb; exact ⟨by omega, this.2⟩), ur, ?_, fun _ => ⟨fun i cc d b hc hd tL hb => ?_, fun i j cc bC d d' b hc hd tB uU tL mY hb uP => ?_⟩⟩
   ·clear pD pE ur uY sL uK tN he hw
    induction tI generalizing uq with
    | nil => cases uJ; exact .nil
    | cons hr _ ih =>
     cases uJ with
     | cons oe uJ =>
      refine .cons ?_ (ih _ uJ)
      clear ih uJ
      refine Z5.zq (by rw [<- oe.length, hr.length]) (fun i v d hv hd => ?_)
      obtain ⟨x, hx, mC⟩ := hr.get' i d hd
      obtain ⟨v', s6, lg⟩ := oe.get i x hx
      rw [hv] at s6; cases s6
      simp only [yO, if_true]
      exact (UG r mC lg).1
   ·obtain ⟨x, hx, mC⟩ := pD.get' i d hd
    obtain ⟨v', s6, lg⟩ := pE.get i x hx
    rw [hc] at s6; cases s6
    obtain ⟨t, j, lo, len, _, uH, rZ⟩ := (UG r mC lg).2 b tL hb
    have := r.own t j b uH rZ
    exact ⟨by omega, this.2.2, this.2.1⟩
   ·obtain ⟨x, hx, mC⟩ := pD.get' i d hd
    obtain ⟨v', s6, lg⟩ := pE.get i x hx
    rw [hc] at s6; cases s6
    obtain ⟨x2, lh, gU⟩ := pD.get' j d' uU
    obtain ⟨v2, tU, gV⟩ := pE.get j x2 lh
    rw [tB] at tU; cases tU
    obtain ⟨t, u, lo, len, rfl, uH, rZ⟩ := (UG r mC lg).2 b tL hb
    obtain ⟨t2, u2, eF, lj, rfl, pn, gW⟩ := (UG r gU gV).2 b mY uP
    obtain ⟨rfl, rfl⟩ := r.inj t u t2 u2 b uH pn rZ gW
    exact OT _ i j t u lo len eF lj tN hx lh
 rcases he with rfl | rfl
 ·exact goal
 ·exact goal
theorem Lp {f : FuncId} {fn : Func} {c : Code} (hf : P.funcs[f]? = some fn) (hb : fn.body = some c) (uj : T1 P f = true) {args res : List (List D)}
  (hw : AWP P c (DH P fn res) (xl fn.ntmps args)) : YR P f args res := by
 refine ⟨uj, fun T w u6 hT uL => calls_of_wp hf hb ?_⟩
 refine wp_mono (hw T (fun b => b < w.heap.size) _ w (Lf hT uL)) ?_
 rintro e a' w' ⟨σ', ⟨he, tY, sL, s7, pL, tN⟩, ⟨X, h, r⟩, uZ⟩
 have sB : Below w.heap.size w w' := ⟨uZ.os, uZ.tape, uZ.output, uZ.size, uZ.block⟩
 obtain ⟨vs, uq, uY, ur, uJ⟩ := Wf r sL
 have goal : a'.defers = [] /\ ∃ v, (results fn a'.tmps).run P w' = .ok v w' /\ B9 w res (.returned v) w' := by
  refine ⟨r.defers, _, uY, vs, uq, rfl, sB, ur, ?_, ?_⟩
  ·clear tN pL sL uY ur hw
   induction uJ generalizing res with
   | nil => simp [JS] at s7; subst s7; exact .nil
   | cons h1 _ ih =>
    simp only [JS] at s7
    split at s7
    ·rename_i row rs um s5
     cases s7
     exact .cons (by rw [<- h1.length]; exact (qo um).1) (ih s5)
    ·cases s7
  ·refine (P5 r (yi uJ) (yA s7).1 (zV pL) tN).mono (fun b hb => ?_)
   have := r.yI _ b hb
   exact ⟨by omega, this.2.2.1⟩
 rcases he with rfl | rfl
 ·exact goal
 ·exact goal
end
end Go.Vm
namespace Go.Vm
open Go.RowKit
theorem St.D8 (e : Ent) (σ : St) : St.get (e :: σ) 0 = e.1 := rfl
theorem St.CF (e : Ent) (σ : St) (n : Nat) : St.get (e :: σ) (n + 1) = St.get σ n := by simp [St.get]
theorem St.Bq (e : Ent) (σ : St) (j : Nat) : St.ob (e :: σ) 0 j = YU e.2 j := rfl
theorem St.B3 (e : Ent) (σ : St) (n j : Nat) : St.ob (e :: σ) (n + 1) j = St.ob σ n j := by simp [St.ob]
theorem Dp (o : Ob) (os : List Ob) : YU (o :: os) 0 = o := rfl
theorem Po (o : Ob) (os : List Ob) (n : Nat) : YU (o :: os) (n + 1) = YU os n := by simp [YU]
theorem Ci (n : Nat) : YU [] n = .none := by simp [YU]
def lkI (P : Program) (σ : St) (x : Operand) : Prop × Int :=
 match unc (look P σ 0 x) with
 | .one (.d (.int _ n)) => (gOf (look P σ 0 x) = true, n)
 | _ => (False, 0)
def lkK (P : Program) (σ : St) (x : Operand) : IntKind :=
 match unc (look P σ 0 x) with
 | .one (.d (.int k _)) => k
 | _ => .i64
theorem jb {P : Program} {σ : St} {x : Operand} (h : (lkI P σ x).1) : kW P σ x (lkK P σ x) (lkI P σ x).2 := by
 unfold lkI at h ⊢
 unfold lkK
 unfold kW
 split at h
 ·rename_i k n heq
  rw [heq]; exact ⟨h, rfl⟩
 ·exact h.elim
def Kx (P : Program) (σ : St) (tq : Nat) : Option Operand -> Prop × Nat
 | none => (True, tq)
 | some x => ((lkI P σ x).1 /\ 0 <= (lkI P σ x).2, (lkI P σ x).2.toNat)
theorem Vj {P : Program} {σ : St} {tq : Nat} {x : Option Operand} (h : (Kx P σ tq x).1) : bnd P σ tq x (Kx P σ tq x).2 := by
 cases x with
 | none => rfl
 | some x =>
  have h1 := jb h.1
  exact ⟨_, _, h1.1, h1.2, h.2, rfl⟩
def rowAt (rows : List (List D)) (i : Nat) : List D := rows.getD i []
def bAt (s : ByteArray) (i : Nat) : Nat := (s.data.toList.getD i 0).toNat
def TV (P : Program) (σ : St) (T : TypeId) (x ix : Operand) : Prop × V :=
 match unc (look P σ 0 x) with
 | .one (.d (.sl size rows)) => ((gOf (look P σ 0 x) = true /\ (lkI P σ ix).1) /\ 0 <= (lkI P σ ix).2 /\ (Y2 P T = true /\ size = P.cellsOf (ZR P T) /\ 0 < size) /\ (lkI P σ ix).2 < (rows.length : Int), .one (.rptr (rowAt rows (lkI P σ ix).2.toNat) 0))
 | .one (.sref t j lo len) => ((gOf (look P σ 0 x) = true /\ (lkI P σ ix).1) /\ 0 <= (lkI P σ ix).2 /\ (Y2 P T = true /\ 0 < P.cellsOf (ZR P T) /\ (match σ.ob t j with | .arr _ size _ => size = P.cellsOf (ZR P T) | _ => False)) /\ (lkI P σ ix).2 < (len : Int), .one (.ptr t j (lo + (lkI P σ ix).2.toNat) 0))
 | .one (.tref t j m c none) => ((gOf (look P σ 0 x) = true /\ (lkI P σ ix).1) /\ 0 <= (lkI P σ ix).2 /\ (Y2 P T = true /\ 0 < P.cellsOf (ZR P T)) /\ (match σ.ob t j with | .arr true _ rows => m < rows.length /\ (match (rowAt rows m)[c]? with | some (.sl n s) => n = P.cellsOf (ZR P T) /\ (lkI P σ ix).2 < (s.length : Int) | _ => False) | _ => False), .one (.tref t j m c (some ((lkI P σ ix).2.toNat * P.cellsOf (ZR P T)))))
 | .one (.bptr t c) => ((gOf (look P σ 0 x) = true /\ (lkI P σ ix).1) /\ 0 <= (lkI P σ ix).2 /\ (match σ.ob t 0 with | .box _ => True | _ => False) /\ (match MZ P T with | some n => 1 < n /\ (lkI P σ ix).2 < (n : Int) | none => False), .one (.bptr t (c + (lkI P σ ix).2.toNat * P.cellsOf (ZR P T))))
 | _ => (False, .any)
def Ee (P : Program) (σ : St) (T : TypeId) (x : Operand) : Prop × V :=
 match unc (look P σ 0 x) with
 | .one (.bptr t c) => (match σ.ob t 0 with | .box cells => (gOf (look P σ 0 x) = true /\ yW P T = true /\ c + P.cellsOf T <= cells.length, ldV P T (cut cells c (P.cellsOf T))) | _ => (False, .any))
 | .one (.ptr t j i c) => (match σ.ob t j with | .arr q size rows => ((gOf (look P σ 0 x) = true /\ yW P T = true /\ c + P.cellsOf T <= size) /\ i < rows.length, ldV P T (Vs q t j i c (cut (rowAt rows i) c (P.cellsOf T)))) | _ => (False, .any))
 | .one (.rptr r c) => (gOf (look P σ 0 x) = true /\ yW P T = true /\ c + P.cellsOf T <= r.length, ldV P T ((cut r c (P.cellsOf T)).map .d))
 | .one (.tref t j i c (some k)) => (match σ.ob t j with
  | .arr true _ rows => (match (rowAt rows i)[c]? with
   | some (.sl 1 s) => ((gOf (look P σ 0 x) = true /\ yW P T = true) /\ i < rows.length /\ P.cellsOf T = 1 /\ k < s.length /\ (rowAt s k).all D.scalar = true, ldV P T ((rowAt s k).map .d))
   | _ => (False, .any))
  | _ => (False, .any))
 | _ => (False, .any)
def Uz (P : Program) (σ : St) (T : TypeId) (x : Operand) (f : Nat) : Prop × V :=
 match unc (look P σ 0 x) with
 | .one (.bptr t c) => (gOf (look P σ 0 x) = true /\ xb P T f = true /\ (match σ.ob t 0 with | .box _ => True | _ => False), .one (.bptr t (c + X3 P T f)))
 | .one (.ptr t j i c) => (gOf (look P σ 0 x) = true /\ xb P T f = true /\ (match σ.ob t j with | .arr _ _ _ => True | _ => False), .one (.ptr t j i (c + X3 P T f)))
 | .one (.rptr r c) => (gOf (look P σ 0 x) = true /\ xb P T f = true, .one (.rptr r (c + X3 P T f)))
 | .one (.tref t j i c (some k)) => (gOf (look P σ 0 x) = true /\ xb P T f = true /\ (match σ.ob t j with | .arr true _ _ => True | _ => False), .one (.tref t j i c (some (k + X3 P T f))))
 | _ => (False, .any)
def HB (P : Program) (op : BinOp) (T : TypeId) (x y : V) : Prop × V :=
 match op, x, y with
 | .eql, .one (.d (.int k m)), .one (.d (.int k' n)) => (k' = k, .one (.d (.bool (m == n))))
 | .neq, .one (.d (.int k m)), .one (.d (.int k' n)) => (k' = k, .one (.d (.bool (m != n))))
 | .lss, .one (.d (.int k m)), .one (.d (.int k' n)) => (k' = k, .one (.d (.bool (decide (m < n)))))
 | .leq, .one (.d (.int k m)), .one (.d (.int k' n)) => (k' = k, .one (.d (.bool (decide (m <= n)))))
 | .gtr, .one (.d (.int k m)), .one (.d (.int k' n)) => (k' = k, .one (.d (.bool (decide (m > n)))))
 | .geq, .one (.d (.int k m)), .one (.d (.int k' n)) => (k' = k, .one (.d (.bool (decide (m >= n)))))
 | .add, .one (.d (.int k m)), .one (.d (.int k' n)) => (k' = k, .one (.d (.int k (k.wrap (m + n)))))
 | .sub, .one (.d (.int k m)), .one (.d (.int k' n)) => (k' = k, .one (.d (.int k (k.wrap (m - n)))))
 | .mul, .one (.d (.int k m)), .one (.d (.int k' n)) => (k' = k, .one (.d (.int k (k.wrap (m * n)))))
 | .quo, .one (.d (.int k m)), .one (.d (.int k' n)) => (k' = k /\ n ≠ 0, .one (.d (.int k (k.wrap (m.tdiv n)))))
 | .rem, .one (.d (.int k m)), .one (.d (.int k' n)) => (k' = k /\ n ≠ 0, .one (.d (.int k (m.tmod n))))
 | .and, .one (.d (.int k m)), .one (.d (.int k' n)) => (k' = k, .one (.d (.int k (L8 k m n))))
 | .or, .one (.d (.int k m)), .one (.d (.int k' n)) => (k' = k, .one (.d (.int k (iOr k m n))))
 | .xor, .one (.d (.int k m)), .one (.d (.int k' n)) => (k' = k, .one (.d (.int k (Ch k m n))))
 | .shl, .one (.d (.int k m)), .one (.d (.int _ n)) => (0 <= n, .one (.d (.int k (k.wrap (m * 2 ^ (min n.toNat k.bits))))))
 | .shr, .one (.d (.int k m)), .one (.d (.int _ n)) => (0 <= n, .one (.d (.int k (m.fdiv (2 ^ (min n.toNat k.bits))))))
 | .add, .one (.d (.str m)), .one (.d (.str n)) => (((m.size + n.size : Nat) : Int) <= 9223372036854775807, .one (.d (.str (m ++ n))))
 | .eql, .one (.d (.str m)), .one (.d (.str n)) => (True, .one (.d (.bool (decide (m = n)))))
 | .neq, .one (.d (.str m)), .one (.d (.str n)) => (True, .one (.d (.bool (!decide (m = n)))))
 | .eql, .one (.d (.bool m)), .one (.d (.bool n)) => (OL P T = true, .one (.d (.bool (m == n))))
 | .neq, .one (.d (.bool m)), .one (.d (.bool n)) => (OL P T = true, .one (.d (.bool (!(m == n)))))
 | .eql, .agg xs, .agg ys => (Tw P T = true /\ (X2 P (KD P T) xs ys).isSome = true, .one (.d (.bool ((X2 P (KD P T) xs ys).getD false))))
 | .neq, .agg xs, .agg ys => (Tw P T = true /\ (X2 P (KD P T) xs ys).isSome = true, .one (.d (.bool (!(X2 P (KD P T) xs ys).getD false))))
 | _, _, _ => (False, .any)
def Vz (P : Program) (σ : St) (T : TypeId) : List (Nat × Operand) -> List At -> Prop × List At
 | [], r => (True, r)
 | (i, x) :: ps, r => ((bOk P T i = true /\ gOf (look P σ (bTy P T i) x) = true /\ (unc (look P σ (bTy P T i) x)).flat = true /\
   (unc (look P σ (bTy P T i) x)).cells.length = P.cellsOf (bTy P T i) /\ xp P T i + P.cellsOf (bTy P T i) <= r.length) /\ (Vz P σ T ps (place r (xp P T i) (unc (look P σ (bTy P T i) x)).cells)).1,
   (Vz P σ T ps (place r (xp P T i) (unc (look P σ (bTy P T i) x)).cells)).2)
theorem M4 {P : Program} {σ : St} {T : TypeId} : ∀ {ps : List (Nat × Operand)} {r : List At}, (Vz P σ T ps r).1 -> VN P σ T ps r (Vz P σ T ps r).2
 | [], _, _ => rfl
 | (_, _) :: _, _, h => ⟨h.1.1, h.1.2.1, h.1.2.2.1, h.1.2.2.2.1, h.1.2.2.2.2, M4 h.2⟩
def isB : V -> Bool
 | .one (.d (.bool _)) => true
 | _ => false
def bOf : V -> Bool
 | .one (.d (.bool b)) => b
 | _ => false
theorem Cq : ∀ {v : V}, isB v = true -> v = .one (.d (.bool (bOf v)))
 | .one (.d (.bool _)), _ => rfl
def evV (P : Program) (σ : St) (op : Op) (ty : TypeId) : Prop × V :=
 match op with
 | .move x => (True, look P σ ty x)
 | .assign x => (True, look P σ ty x)
 | .pick c a b =>
  (match unc (look P σ ty c) with
  | .one (.d (.bool bc)) => ((gOf (look P σ ty c) = true /\ (bc = true -> isB (unc (look P σ ty a)) = true) /\ (bc = false -> isB (unc (look P σ ty b)) = true)) /\ (bc = true -> gOf (look P σ ty a) = true) /\ (bc = false -> gOf (look P σ ty b) = true), .one (.d (.bool (cond bc (bOf (unc (look P σ ty a))) (bOf (unc (look P σ ty b)))))))
  | _ => (False, .any))
 | .load T x => Ee P σ T x
 | .fieldAddr T x f => Uz P σ T x f
 | .nilCheck x => (match unc (look P σ 0 x) with
  | .one (.bptr t c) => (gOf (look P σ 0 x) = true /\ (match σ.ob t 0 with | .box _ => True | _ => False), .one (.bptr t c))
  | _ => (False, .any))
 | .indexAddr T x ix => TV P σ T x ix
 | .index T x ix =>
  (match unc (look P σ 0 x) with
  | .one (.d (.str s)) => ((gOf (look P σ 0 x) = true /\ (lkI P σ ix).1) /\ 0 <= (lkI P σ ix).2 /\ UQ P T = true /\ (lkI P σ ix).2 < (s.size : Int), .one (.d (.int .u8 (bAt s (lkI P σ ix).2.toNat))))
  | .agg xs => ((gOf (look P σ 0 x) = true /\ (lkI P σ ix).1) /\ 0 <= (lkI P σ ix).2 /\ (match MZ P T with | some n => (lkI P σ ix).2 < (n : Int) | none => False) /\ yW P (ZR P T) = true /\ (lkI P σ ix).2.toNat * P.cellsOf (ZR P T) + P.cellsOf (ZR P T) <= xs.length,
    ldV P (ZR P T) (cut xs ((lkI P σ ix).2.toNat * P.cellsOf (ZR P T)) (P.cellsOf (ZR P T))))
  | _ => (False, .any))
 | .slice T x lo hi none =>
  (match unc (look P σ 0 x) with
  | .one (.d (.str s)) => ((gOf (look P σ 0 x) = true /\ UQ P T = true /\ (Kx P σ 0 lo).1 /\ (Kx P σ s.size hi).1) /\ (Kx P σ 0 lo).2 <= (Kx P σ s.size hi).2 /\ (Kx P σ s.size hi).2 <= s.size, .one (.d (.str (s.extract (Kx P σ 0 lo).2 (Kx P σ s.size hi).2))))
  | .one (.d (.sl size rows)) => ((gOf (look P σ 0 x) = true /\ Y2 P T = true /\ size = P.cellsOf (ZR P T) /\ (Kx P σ 0 lo).1 /\ (Kx P σ rows.length hi).1) /\ (Kx P σ 0 lo).2 <= (Kx P σ rows.length hi).2 /\ (Kx P σ rows.length hi).2 <= rows.length,
    .one (.d (.sl size (cut rows (Kx P σ 0 lo).2 ((Kx P σ rows.length hi).2 - (Kx P σ 0 lo).2)))))
  | .one (.sref t j o len) => ((gOf (look P σ 0 x) = true /\ Y2 P T = true /\ (match σ.ob t j with | .arr _ size _ => size = P.cellsOf (ZR P T) | _ => False) /\ (Kx P σ 0 lo).1 /\ (Kx P σ len hi).1) /\ (Kx P σ 0 lo).2 <= (Kx P σ len hi).2 /\ (Kx P σ len hi).2 <= len,
    .one (.sref t j (o + (Kx P σ 0 lo).2) ((Kx P σ len hi).2 - (Kx P σ 0 lo).2)))
  | _ => (False, .any))
 | .binOp op T x y _ => ((gOf (look P σ T x) = true /\ gOf (look P σ T y) = true) /\ (HB P op T (unc (look P σ T x)) (unc (look P σ T y))).1, (HB P op T (unc (look P σ T x)) (unc (look P σ T y))).2)
 | .unOp .not _ x => (match unc (look P σ 0 x) with | .one (.d (.bool b)) => (gOf (look P σ 0 x) = true, .one (.d (.bool (!b)))) | _ => (False, .any))
 | .unOp .neg _ x => (match unc (look P σ 0 x) with | .one (.d (.int k n)) => (gOf (look P σ 0 x) = true, .one (.d (.int k (k.wrap (-n))))) | _ => (False, .any))
 | .convert S T x => (match unc (look P σ 0 x), EU P T with | .one (.d (.int _ n)), some k => (gOf (look P σ 0 x) = true /\ (P.underlying S).isSome = true, .one (.d (.int k (k.wrap n)))) | _, _ => (False, .any))
 | .extract x i => (match unc (look P σ 0 x) with | .tup xs => (gOf (look P σ 0 x) = true /\ i < xs.length /\ (xs.getD i .any).flat = true, xs.getD i .any) | _ => (False, .any))
 | .field T x f =>
  (match unc (look P σ 0 x) with
  | .agg xs => (gOf (look P σ 0 x) = true /\ xb P T f = true /\ yW P (yS P T f) = true /\ X3 P T f + P.cellsOf (yS P T f) <= xs.length, ldV P (yS P T f) (cut xs (X3 P T f) (P.cellsOf (yS P T f))))
  | _ => (False, .any))
 | .build T parts => (match jO P 12 T with | some z => ((Xn P T = true /\ VE P T = true) /\ (Vz P σ T parts.toList z).1, .agg (Vz P σ T parts.toList z).2) | none => (False, .any))
 | .call ⟨.builtin .len, ⟨[x]⟩, ⟨[t]⟩⟩ =>
  (match unc (look P σ t x) with
  | .one (.d (.str s)) => (gOf (look P σ t x) = true /\ UQ P t = true, .one (.d (.int .i64 s.size)))
  | .one (.d (.sl _ rows)) => (gOf (look P σ t x) = true /\ Y2 P t = true, .one (.d (.int .i64 rows.length)))
  | .one (.nil _) => (gOf (look P σ t x) = true /\ Y2 P t = true, .one (.d (.int .i64 0)))
  | .one (.sref u j _ len) => (gOf (look P σ t x) = true /\ Y2 P t = true /\ (match σ.ob u j with | .arr _ _ _ => True | .lit _ _ => True | _ => False), .one (.d (.int .i64 len)))
  | .one (.tref u j i c none) => (match σ.ob u j with
   | .arr true _ rows => (match (rowAt rows i)[c]? with
    | some (.sl _ s) => ((gOf (look P σ t x) = true /\ Y2 P t = true) /\ i < rows.length, .one (.d (.int .i64 s.length)))
    | _ => (False, .any))
   | _ => (False, .any))
  | _ => (False, .any))
 | .call ⟨.builtin .max, ⟨[x, y]⟩, _⟩ => ((lkI P σ x).1 /\ (lkI P σ y).1 /\ lkK P σ y = lkK P σ x, .one (.d (.int (lkK P σ x) (if (lkI P σ y).2 > (lkI P σ x).2 then (lkI P σ y).2 else (lkI P σ x).2))))
 | .call ⟨.builtin .min, ⟨[x, y]⟩, _⟩ => ((lkI P σ x).1 /\ (lkI P σ y).1 /\ lkK P σ y = lkK P σ x, .one (.d (.int (lkK P σ x) (if (lkI P σ y).2 < (lkI P σ x).2 then (lkI P σ y).2 else (lkI P σ x).2))))
 | _ => (False, .any)
theorem ES {o : Ob} (h : (match o with | .box _ => True | _ => False)) : ∃ cells, o = .box cells := by
 cases o with
 | box c => exact ⟨c, rfl⟩
 | none => exact h.elim
 | arr q s r => exact h.elim
 | lit s r => exact h.elim
theorem AO {o : Ob} (h : (match o with | .arr _ _ _ => True | _ => False)) : ∃ q size rows, o = .arr q size rows := by
 cases o with
 | arr q s r => exact ⟨q, s, r, rfl⟩
 | none => exact h.elim
 | box c => exact h.elim
 | lit s r => exact h.elim
theorem Ai {o : Ob} (h : (match o with | .arr _ _ _ => True | .lit _ _ => True | _ => False)) : (∃ q size rows, o = .arr q size rows) \/ ∃ size rows, o = .lit size rows := by
 cases o with
 | arr q s r => exact .inl ⟨q, s, r, rfl⟩
 | none => exact h.elim
 | box c => exact h.elim
 | lit s r => exact .inr ⟨s, r, rfl⟩
theorem E4 {o : Ob} {n : Nat} (h : (match o with | .arr _ size _ => size = n | _ => False)) : ∃ q rows, o = .arr q n rows := by
 cases o with
 | arr q s r => simp at h; subst h; exact ⟨q, r, rfl⟩
 | none => exact h.elim
 | box c => exact h.elim
 | lit s r => exact h.elim
theorem CN {P : Program} {op : BinOp} {T : TypeId} {x y : V} (hc : (HB P op T x y).1) : FU P op T x y (HB P op T x y).2 := by
 unfold HB at hc ⊢
 split at hc
 all_goals first
  | exact hc.elim
  | exact ⟨.inr hc, rfl⟩
  | exact ⟨.inr hc.1, hc.2, rfl⟩
  | exact ⟨.inl (.inl rfl), hc, rfl⟩
  | exact ⟨.inl (.inr rfl), hc, rfl⟩
  | exact ⟨hc, rfl⟩
  | rfl
  | (obtain ⟨q, hq⟩ := Option.isSome_iff_exists.1 hc.2; exact ⟨hc.1, q, hq, .inl ⟨rfl, by rw [hq]; rfl⟩⟩)
  | (obtain ⟨q, hq⟩ := Option.isSome_iff_exists.1 hc.2; exact ⟨hc.1, q, hq, .inr ⟨rfl, by rw [hq]; rfl⟩⟩)
theorem EW {P : Program} {σ : St} {op : Op} {ty : TypeId} (hc : (evV P σ op ty).1) : YQ P σ op ty (evV P σ op ty).2 := by
 unfold evV at hc ⊢
 split at hc
 ·rfl
 ·rfl
 ·rename_i c a b
  split at hc
  ·rename_i bc h1; exact ⟨bc, _, _, hc.1.1, h1, (fun hh => Cq (hc.1.2.1 hh)), (fun hh => Cq (hc.1.2.2 hh)), hc.2.1, hc.2.2, (by first | rfl | trivial)⟩
  ·exact hc.elim
 ·rename_i T x
  unfold Ee at hc ⊢
  simp only [YQ]
  split at hc
  ·rename_i t c hx
   split at hc
   ·rename_i cells ho; simp only [hx, ho]; exact ⟨hc.1, hc.2.1, cells, rfl, hc.2.2, (by first | rfl | trivial)⟩
   ·exact hc.elim
  ·rename_i t j i c hx
   split at hc
   ·rename_i size rows ho; simp only [hx, ho]; exact ⟨hc.1.1, hc.1.2.1, _, size, rows, rfl, hc.2, hc.1.2.2, (by first | rfl | trivial)⟩
   ·exact hc.elim
  ·rename_i r c hx; simp only [hx]; exact ⟨hc.1, hc.2.1, hc.2.2, (by first | rfl | trivial)⟩
  ·rename_i t j i c k hx
   split at hc
   ·rename_i size rows ho
    split at hc
    ·rename_i s uM; simp only [hx, ho, uM]; exact ⟨hc.1.1, hc.1.2, size, rows, s, rfl, hc.2.1, uM, hc.2.2.1, hc.2.2.2.1, hc.2.2.2.2, (by first | rfl | trivial)⟩
    ·exact hc.elim
   ·exact hc.elim
  ·exact hc.elim
 ·rename_i T x f
  unfold Uz at hc ⊢
  simp only [YQ]
  split at hc
  ·rename_i t c hx; simp only [hx]; exact ⟨hc.1, hc.2.1, ES hc.2.2, (by first | rfl | trivial)⟩
  ·rename_i t j i c hx; simp only [hx]; exact ⟨hc.1, hc.2.1, AO hc.2.2, (by first | rfl | trivial)⟩
  ·rename_i r c hx; simp only [hx]; exact ⟨hc.1, hc.2, (by first | rfl | trivial)⟩
  ·rename_i t j i c k hx
   have h3 := hc.2.2
   split at h3
   ·rename_i size rows ho; simp only [hx]; exact ⟨hc.1, hc.2.1, ⟨size, rows, ho⟩, (by first | rfl | trivial)⟩
   ·exact h3.elim
  ·exact hc.elim
 ·rename_i x
  simp only [YQ]
  split at hc
  ·rename_i t c hx; simp only [hx]; exact ⟨hc.1, ES hc.2, (by first | rfl | trivial)⟩
  ·exact hc.elim
 ·rename_i T x ix
  unfold TV at hc ⊢
  simp only [YQ]
  split at hc
  ·rename_i size rows hx
   simp only [hx]
   exact ⟨_, _, jb hc.1.2, hc.2.1, hc.1.1, hc.2.2.1.1, hc.2.2.1.2.1, hc.2.2.1.2.2, hc.2.2.2, (by first | rfl | trivial)⟩
  ·rename_i t j lo len hx
   simp only [hx]
   exact ⟨_, _, jb hc.1.2, hc.2.1, hc.1.1, hc.2.2.1.1, hc.2.2.1.2.1, E4 hc.2.2.1.2.2, hc.2.2.2, (by first | rfl | trivial)⟩
  ·rename_i t j m c hx
   have h3 := hc.2.2.2
   split at h3
   ·rename_i size rows ho
    obtain ⟨hm, h4⟩ := h3
    split at h4
    ·rename_i n s hr
     obtain ⟨rfl, uQ⟩ := h4
     simp only [hx]
     exact ⟨_, _, jb hc.1.2, hc.2.1, hc.1.1, hc.2.2.1.1, hc.2.2.1.2, ⟨size, rows, s, ho, hm, hr, uQ⟩, (by first | rfl | trivial)⟩
    ·exact h4.elim
   ·exact h3.elim
  ·rename_i t c hx
   simp only [hx]
   refine ⟨_, _, jb hc.1.2, hc.2.1, hc.1.1, ES hc.2.2.1, ?_, (by first | rfl | trivial)⟩
   have := hc.2.2.2
   split at this
   ·rename_i n hn; exact ⟨n, hn, this.1, this.2⟩
   ·exact this.elim
  ·exact hc.elim
 ·rename_i T x ix
  simp only [YQ]
  split at hc
  ·rename_i s hx; simp only [hx]; exact ⟨_, _, jb hc.1.2, hc.2.1, hc.1.1, hc.2.2.1, hc.2.2.2, (by first | rfl | trivial)⟩
  ·rename_i xs hx
   simp only [hx]
   refine ⟨_, _, jb hc.1.2, hc.2.1, hc.1.1, ?_, hc.2.2.2.1, hc.2.2.2.2, (by first | rfl | trivial)⟩
   have := hc.2.2.1
   split at this
   ·rename_i n hn; exact ⟨n, hn, this⟩
   ·exact this.elim
  ·exact hc.elim
 ·rename_i T x lo hi
  simp only [YQ]
  split at hc
  ·rename_i s hx; simp only [hx]; exact ⟨hc.1.1, hc.1.2.1, _, _, Vj hc.1.2.2.1, Vj hc.1.2.2.2, hc.2.1, hc.2.2, (by first | rfl | trivial)⟩
  ·rename_i size rows hx; simp only [hx]; exact ⟨hc.1.1, hc.1.2.1, hc.1.2.2.1, _, _, Vj hc.1.2.2.2.1, Vj hc.1.2.2.2.2, hc.2.1, hc.2.2, (by first | rfl | trivial)⟩
  ·rename_i t j o len hx; simp only [hx]; exact ⟨hc.1.1, hc.1.2.1, E4 hc.1.2.2.1, _, _, Vj hc.1.2.2.2.1, Vj hc.1.2.2.2.2, hc.2.1, hc.2.2, (by first | rfl | trivial)⟩
  ·exact hc.elim
 ·exact ⟨hc.1.1, hc.1.2, CN hc.2⟩
 ·simp only [YQ]
  split at hc
  ·rename_i b hx; simp only [hx]; exact ⟨hc, (by first | rfl | trivial)⟩
  ·exact hc.elim
 ·simp only [YQ]
  split at hc
  ·rename_i k n hx; simp only [hx]; exact ⟨hc, (by first | rfl | trivial)⟩
  ·exact hc.elim
 ·rename_i S T x
  simp only [YQ]
  split at hc
  ·rename_i k0 n k hx hk; simp only [hx, hk]; exact ⟨hc.1, hc.2, k, rfl, (by first | rfl | trivial)⟩
  ·exact hc.elim
 ·rename_i x i
  simp only [YQ]
  split at hc
  ·rename_i xs hx
   simp only [hx]
   exact ⟨hc.1, by simp [List.getD_eq_getElem?_getD, List.getElem?_eq_getElem hc.2.1], hc.2.2⟩
  ·exact hc.elim
 ·simp only [YQ]
  split at hc
  ·rename_i xs hx; simp only [hx]; exact ⟨hc.1, hc.2.1, hc.2.2.1, hc.2.2.2, (by first | rfl | trivial)⟩
  ·exact hc.elim
 ·simp only [YQ]
  split at hc
  ·rename_i z hz; exact ⟨hc.1.1, hc.1.2, z, _, hz, M4 hc.2, (by first | rfl | trivial)⟩
  ·exact hc.elim
 ·simp only [YQ]
  split at hc
  ·rename_i s hx; simp only [hx]; exact ⟨hc.1, hc.2, (by first | rfl | trivial)⟩
  ·rename_i s rows hx; simp only [hx]; exact ⟨hc.1, hc.2, (by first | rfl | trivial)⟩
  ·rename_i s hx; simp only [hx]; exact ⟨hc.1, hc.2, (by first | rfl | trivial)⟩
  ·rename_i u j lo len hx; simp only [hx]; exact ⟨hc.1, hc.2.1, Ai hc.2.2, (by first | rfl | trivial)⟩
  ·rename_i u j i c hx
   split at hc
   ·rename_i rows ho
    split at hc
    ·rename_i s uM; simp only [hx, ho, uM]; exact ⟨hc.1.1, hc.1.2, _, rows, _, s, rfl, hc.2, uM, (by first | rfl | trivial)⟩
    ·exact hc.elim
   ·exact hc.elim
  ·exact hc.elim
 ·simp only [YQ]
  have hy := jb hc.2.1
  rw [hc.2.2] at hy
  exact ⟨_, _, _, jb hc.1, hy, (by first | rfl | trivial)⟩
 ·simp only [YQ]
  have hy := jb hc.2.1
  rw [hc.2.2] at hy
  exact ⟨_, _, _, jb hc.1, hy, (by first | rfl | trivial)⟩
 ·exact hc.elim
end Go.Vm
namespace Go.Vm
open Go.RowKit
def UK (P : Program) (σ : St) (T : TypeId) (size : Nat) : List (Nat × Operand) -> Nat -> Prop × List (List D)
 | [], _ => (True, [])
 | (i, x) :: ps, k => ((i = k /\ gOf (look P σ T x) = true /\ (unc (look P σ T x)).flat = true /\ J1 (unc (look P σ T x)).cells = true /\ (rowOf σ (unc (look P σ T x)).cells).isSome = true /\ ((rowOf σ (unc (look P σ T x)).cells).getD []).length = size) /\ (UK P σ T size ps (k + 1)).1,
   (rowOf σ (unc (look P σ T x)).cells).getD [] :: (UK P σ T size ps (k + 1)).2)
theorem I7 {P : Program} {σ : St} {T : TypeId} {size : Nat} : ∀ {ps : List (Nat × Operand)} {k : Nat}, (UK P σ T size ps k).1 -> Re P σ T size ps k (UK P σ T size ps k).2
 | [], _, _ => rfl
 | (_, x) :: _, _, h => by
  obtain ⟨⟨h1, h2, h3, h4, h5, h6⟩, h7⟩ := h
  obtain ⟨r, hr⟩ := Option.isSome_iff_exists.1 h5
  refine ⟨h1, h2, h3, h4, r, _, hr, ?_, I7 h7, ?_⟩
  ·rw [hr] at h6; exact h6
  ·simp only [UK, hr, Option.getD_some]
def Ub (σ : St) (x : V) (size : Nat) : Prop × List (List D) × St :=
 match x with
 | .one (.nil _) => (True, [], σ)
 | .one (.sref t j lo len) => (match σ.ob t j with | .arr false s uG => (s = size /\ lo = 0 /\ len = uG.length, uG, σ.Zs t j .none) | _ => (False, [], σ))
 | _ => (False, [], σ)
theorem Ck {σ : St} {x : V} {size : Nat} (h : (Ub σ x size).1) : Vu σ x size (Ub σ x size).2.1 (Ub σ x size).2.2 := by
 unfold Ub at h ⊢
 split at h
 ·exact ⟨rfl, rfl⟩
 ·rename_i t j lo len
  split at h
  ·rename_i s uG ho
   obtain ⟨rfl, rfl, rfl⟩ := h
   exact ⟨uG, ho, rfl, Nat.le_refl _, (List.take_length).symm, rfl⟩
  ·exact h.elim
 ·exact h.elim
def PE (σ : St) (x : V) (size : Nat) : Prop × List (List D) :=
 match x with
 | .one (.d (.sl s rows)) => (s = size, rows)
 | .one (.nil _) => (True, [])
 | .one (.sref t j lo len) => (match σ.ob t j with | .arr false s rows => (s = size /\ lo + len <= rows.length, cut rows lo len) | _ => (False, []))
 | _ => (False, [])
theorem CZ {σ : St} {x : V} {size : Nat} (h : (PE σ x size).1) : qz σ x size (PE σ x size).2 := by
 unfold PE at h ⊢
 split at h
 ·exact ⟨h, rfl⟩
 ·rfl
 ·rename_i t j lo len
  split at h
  ·rename_i s rows ho
   obtain ⟨rfl, hle⟩ := h
   exact ⟨rows, ho, hle, rfl⟩
  ·exact h.elim
 ·exact h.elim
def evS (P : Program) (σ : St) (o : Oper) (d : Nat) : Prop × St :=
 match o.op with
 | .alloc T => (match jO P 12 T with | some row => (σ.fresh d = true /\ Xn P T = true, σ.new d (.one (.bptr d 0)) [.box row]) | none => (False, σ))
 | .box T x => (σ.fresh d = true /\ gOf (look P σ T x) = true /\ (unc (look P σ T x)).flat = true /\ YN d (unc (look P σ T x)).cells = false, σ.new d (.one (.bptr d 0)) [.box (unc (look P σ T x)).cells])
 | .buildSlice T n parts => ((σ.fresh d = true /\ Y2 P T = true /\ Xn P (ZR P T) = true /\ 0 < P.cellsOf (ZR P T) /\ parts.toList.length = n /\ n * P.cellsOf (ZR P T) <= 16777216) /\ (UK P σ (ZR P T) (P.cellsOf (ZR P T)) parts.toList 0).1,
   σ.new d (.one (.sref d 0 0 (UK P σ (ZR P T) (P.cellsOf (ZR P T)) parts.toList 0).2.length)) [.arr false (P.cellsOf (ZR P T)) (UK P σ (ZR P T) (P.cellsOf (ZR P T)) parts.toList 0).2])
 | .makeSlice T x y => (match jO P 12 (ZR P T) with
   | some z => (match zD z with
    | some zr => ((x = y /\ σ.fresh d = true /\ Y2 P T = true /\ Xn P (ZR P T) = true /\ 0 < P.cellsOf (ZR P T) /\ (lkI P σ x).1) /\ 0 <= (lkI P σ x).2 /\ P.bytesOf (ZR P T) * (lkI P σ x).2.toNat <= 281474976710656 /\ (lkI P σ x).2 <= 9223372036854775807,
      σ.new d (.one (.sref d 0 0 (lkI P σ x).2.toNat)) [.arr false (P.cellsOf (ZR P T)) (List.replicate (lkI P σ x).2.toNat zr)])
    | none => (False, σ))
   | none => (False, σ))
 | .call ⟨.builtin .append, ⟨[x, y]⟩, ⟨[t, t']⟩⟩ =>
   (((t = t' /\ gOf (look P σ t x) = true /\ gOf (look P σ t y) = true /\ Y2 P t = true /\ Xn P (ZR P t) = true /\ 0 < P.cellsOf (ZR P t)) /\ (Ub σ (unc (look P σ t x)) (P.cellsOf (ZR P t))).1 /\ (PE σ (unc (look P σ t y)) (P.cellsOf (ZR P t))).1 /\ (Ub σ (unc (look P σ t x)) (P.cellsOf (ZR P t))).2.2.fresh d = true) /\
    ((Ub σ (unc (look P σ t x)) (P.cellsOf (ZR P t))).2.1.length + (PE σ (unc (look P σ t y)) (P.cellsOf (ZR P t))).2.length) * P.bytesOf (ZR P t) <= 140737488355328 /\
    (Ub σ (unc (look P σ t x)) (P.cellsOf (ZR P t))).2.1.length + (PE σ (unc (look P σ t y)) (P.cellsOf (ZR P t))).2.length <= 9223372036854775807,
   (Ub σ (unc (look P σ t x)) (P.cellsOf (ZR P t))).2.2.new d (.one (.sref d 0 0 ((Ub σ (unc (look P σ t x)) (P.cellsOf (ZR P t))).2.1.length + (PE σ (unc (look P σ t y)) (P.cellsOf (ZR P t))).2.length)))
    [.arr false (P.cellsOf (ZR P t)) ((Ub σ (unc (look P σ t x)) (P.cellsOf (ZR P t))).2.1 ++ (PE σ (unc (look P σ t y)) (P.cellsOf (ZR P t))).2)])
 | op => ((evV P σ op o.type).1, σ.put d (evV P σ op o.type).2)
def Ge (P : Program) (σ : St) (T : TypeId) (x y : Operand) : Prop × St :=
 match unc (look P σ 0 x) with
 | .one (.bptr t c) => (match σ.ob t 0 with
  | .box cells => (yW P T = true /\ gOf (look P σ 0 x) = true /\ gOf (look P σ T y) = true /\ (unc (look P σ T y)).flat = true /\ (unc (look P σ T y)).cells.length = P.cellsOf T /\ c + P.cellsOf T <= cells.length, σ.Zs t 0 (.box (place cells c (unc (look P σ T y)).cells)))
  | _ => (False, σ))
 | .one (.ptr t j i c) => (match σ.ob t j with
  | .arr q size rows => ((yW P T = true /\ gOf (look P σ 0 x) = true /\ gOf (look P σ T y) = true /\ (unc (look P σ T y)).flat = true /\ (rowOf σ (unc (look P σ T y)).cells).isSome = true /\ J1 (unc (look P σ T y)).cells = true /\ ((rowOf σ (unc (look P σ T y)).cells).getD []).length = P.cellsOf T /\ c + P.cellsOf T <= size) /\ i < rows.length /\ (q = true -> ((rowOf σ (unc (look P σ T y)).cells).getD []).all D.scalar = true /\ (cut (rowAt rows i) c (P.cellsOf T)).all D.scalar = true),
    σ.Zs t j (.arr q size (rows.set i (place (rowAt rows i) c ((rowOf σ (unc (look P σ T y)).cells).getD [])))))
  | _ => (False, σ))
 | _ => (False, σ)
theorem D6 {P : Program} {σ : St} {o : Oper} {d : Nat} (pc : ∀ c, o.op = .call c -> ∀ f, c.callee ≠ .value (.func f)) (hc : (evS P σ o d).1) : Step P o d σ (evS P σ o d).2 := by
 unfold evS at hc ⊢
 split at hc
 ·rename_i T uE
  unfold Step
  rw [uE]
  split at hc
  ·rename_i row um; simp only [um]; exact ⟨hc.1, hc.2, row, rfl, rfl⟩
  ·exact hc.elim
 ·rename_i T x uE
  unfold Step; rw [uE]
  exact ⟨hc.1, hc.2.1, hc.2.2.1, hc.2.2.2, rfl⟩
 ·rename_i T n parts uE
  unfold Step; rw [uE]
  obtain ⟨⟨h1, h2, h3, h4, h5, h6⟩, h7⟩ := hc
  exact .inl ⟨h1, h2, h3, h4, h5, h6, .inl ⟨_, I7 h7, rfl⟩⟩
 ·rename_i T x y uE
  unfold Step; rw [uE]
  split at hc
  ·rename_i z hz
   split at hc
   ·rename_i zr sn
    obtain ⟨⟨h1, h2, h3, h4, h5, h6⟩, h7, h8, h9⟩ := hc
    have hl := jb h6
    simp only [hz]
    refine ⟨h1, h2, h3, h4, h5, false, z, zr, lkK P σ x, (lkI P σ x).2.toNat, (fun hh => by cases hh), rfl, sn, ?_, h8, by omega, rfl⟩
    rw [Int.toNat_of_nonneg h7]; exact hl
   ·exact hc.elim
  ·exact hc.elim
 ·rename_i x y t t' uE
  unfold Step; rw [uE]
  obtain ⟨⟨⟨rfl, h1, h2, h3, h4, h5⟩, h6, h7, h8⟩, h9, sH⟩ := hc
  exact ⟨x, y, t, rfl, rfl, h1, h2, h3, h4, h5, _, _, _, Ck h6, CZ h7, h8, h9, sH, rfl⟩
 ·rename_i op h1 h2 h3 h4 h5
  have hv := EW hc
  unfold Step
  split
  ·rename_i T uE; exact absurd uE (h1 T)
  ·rename_i T x uE; exact absurd uE (h2 T x)
  ·rename_i T n ps uE; exact absurd uE (h3 T n ps)
  ·rename_i T x y uE; exact absurd uE (h4 T x y)
  ·rename_i c uE
   split
   ·rename_i rX
    rw [uE] at hv
    simp only [YQ] at hv
    split at hv
    ·rename_i pk _ _; rw [rX] at pk; cases pk
    ·rename_i pk _; rw [rX] at pk; cases pk
    ·rename_i pk _; rw [rX] at pk; cases pk
    ·exact hv.elim
   ·rename_i f rX; exact absurd rX (pc c uE f)
   ·exact ⟨_, hv, rfl⟩
  ·exact .inl ⟨_, hv, rfl⟩
  ·exact ⟨_, hv, rfl⟩
theorem BU {P : Program} {σ : St} {T : TypeId} {x y : Operand} (hc : (Ge P σ T x y).1) : yK P σ T x y (Ge P σ T x y).2 := by
 unfold Ge at hc ⊢
 unfold yK
 split at hc
 ·rename_i t c hx
  split at hc
  ·rename_i cells ho
   obtain ⟨h1, h2, h3, h4, h5, h6⟩ := hc
   first | (rw [hx]; simp only [ho]) | simp only [ho]
   exact ⟨h1, h2, h3, h4, cells, rfl, h5, h6, rfl⟩
  ·exact hc.elim
 ·rename_i t j i c hx
  split at hc
  ·rename_i q size rows ho
   obtain ⟨⟨h1, h2, h3, h4, h5, h6, h7, h8⟩, h9, sH⟩ := hc
   obtain ⟨ds, oC⟩ := Option.isSome_iff_exists.1 h5
   first | (rw [hx]; simp only [ho]) | simp only [ho]
   refine ⟨h1, h2, h3, h4, q, size, rows, ds, rfl, h9, oC, h6, ?_, h8, fun hq => ?_, ?_⟩
   ·rw [oC] at h7; exact h7
   ·have := sH hq
    rw [oC] at this; exact this
   ·rw [oC]; rfl
  ·exact hc.elim
 ·exact hc.elim
def ET : List At -> Bool
 | [] => false
 | .nil _ :: _ => true
 | _ :: xs => ET xs
def Ek (P : Program) (T : TypeId) : Bool := match jO P 12 (ZR P T) with | some z => ET z | none => false
def Ha : List At -> Bool
 | [] => true
 | .d (.sl _ _) :: _ => false
 | .d _ :: xs => Ha xs
 | _ => false
def AS (P : Program) (σ : St) (T : TypeId) (x y : Operand) : Bool :=
 match unc (look P σ 0 x) with
 | .one (.ptr t j _ _) => (match σ.ob t j with | .arr true _ _ => !Ha (unc (look P σ T y)).cells | _ => false)
 | .one (.tref _ _ _ _ (some _)) => true
 | _ => false
def stops (P : Program) (bar : Oper -> Bool) (o : Oper) : Bool :=
 match o.op with
 | .call ⟨.value _, _, _⟩ => true
 | .call ⟨.builtin .append, _, ⟨t :: _⟩⟩ => Ek P t
 | .buildSlice T _ _ => Ek P T || wH bar o
 | .makeSlice T _ _ => Ek P T
 | .makeFunc _ _ _ => true
 | .convert _ T _ => (EU P T).isNone
 | .indexAddr _ _ _ => o.guard.isSome
 | .index _ _ _ => o.guard.isSome
 | .slice _ _ _ _ _ => o.guard.isSome
 | _ => false
def xU (P : Program) (ops : Array Oper) (bar : Oper -> Bool) (o : Oper) (rest : List Oper) (σ : St) (Q : St -> Prop) : Prop := ∃ σ', Ju P ops bar o σ σ' /\ GJ P ops bar rest σ' Q
def Ev (P : Program) (ops : Array Oper) (bar : Oper -> Bool) : List Oper -> St -> (St -> Prop) -> Prop
 | [], σ, Q => Q σ
 | o :: rest, σ, Q =>
  if stops P bar o then xU P ops bar o rest σ Q else
  match o.guard with
  | none =>
   (match o.dst with
   | some d => (evS P σ o d).1 /\ Ev P ops bar rest (evS P σ o d).2 Q
   | none => (match o.op with | .store T x y => if AS P σ T x y then xU P ops bar o rest σ Q else (Ge P σ T x y).1 /\ Ev P ops bar rest (Ge P σ T x y).2 Q | _ => False))
  | some (j, want) =>
   (match (ops[j]?).bind (·.dst), o.dst with
   | some dj, some d => (match xZ want (σ.get dj) with
    | some g => (dj < σ.length /\ (g = true -> (evV P σ o.op o.type).1 /\ gOf (evV P σ o.op o.type).2 = true /\ (unc (evV P σ o.op o.type).2).flat = true)) /\ Ev P ops bar rest (σ.put d (.cnd g (unc (evV P σ o.op o.type).2))) Q
    | none => False)
   | _, _ => False)
theorem Qr {P : Program} {ops : Array Oper} {bar : Oper -> Bool} : ∀ {l : List Oper} {σ : St} {Q : St -> Prop}, Ev P ops bar l σ Q -> GJ P ops bar l σ Q
 | [], _, _, h => h
 | o :: rest, σ, Q, h => by
  unfold Ev at h
  split at h
  ·exact h
  ·rename_i uk
   have pc : ∀ c, o.op = .call c -> ∀ f, c.callee ≠ .value (.func f) := by
    intro c uE f rX
    obtain ⟨cc, ca, ct⟩ := c
    simp only at rX; subst rX
    exact uk (by simp [stops, uE])
   split at h
   ·rename_i hg
    split at h
    ·rename_i d hd
     refine ⟨_, .inl ?_, Qr h.2⟩
     unfold Y6
     simp only [hg, hd]
     exact D6 pc h.1
    ·rename_i hd
     split at h
     ·rename_i T x y uE
      split at h
      ·exact h
      ·refine ⟨_, .inl ?_, Qr h.2⟩
       unfold Y6
       simp only [hg, hd, uE]
       exact BU h.1
     ·exact h.elim
   ·rename_i j want hg
    split at h
    ·rename_i dj d sD hd
     split at h
     ·rename_i g sK
      refine ⟨_, .inl ?_, Qr h.2⟩
      unfold Y6
      simp only [hg]
      refine ⟨dj, d, g, _, sD, h.1.1, hd, sK, fun oy => ?_, rfl⟩
      obtain ⟨h1, h2, h3⟩ := h.1.2 oy
      have base : ∃ v0, YQ P σ o.op o.type v0 /\ gOf v0 = true /\ unc (evV P σ o.op o.type).2 = unc v0 /\ (unc (evV P σ o.op o.type).2).flat = true := ⟨_, EW h1, h2, rfl, h3⟩
      unfold Pm
      split
      ·rename_i c uE
       split
       ·rename_i f rX; exact absurd rX (pc c uE f)
       ·exact base
      ·exact base
     ·exact h.elim
    ·exact h.elim
theorem AY {P : Program} {Q : Exit -> St -> Prop} {σ : St} {id : Nat} {l : List Oper} {bar : Oper -> Bool} (h : Ev P l.toArray bar l σ (Q .normal)) : AWP P (.region id l.toArray false) Q σ := ER (Qr h)
theorem FR {P : Program} {ops : Array Oper} {bar : Oper -> Bool} {o : Oper} {rest : List Oper} {σ : St} {Q : St -> Prop} {c : Call} {f : FuncId} {d : Nat} {own : Bool} {rows res : List (List D)} (uE : o.op = .call c) (hc : c.callee = .value (.func f)) (hg : o.guard = none) (hd : o.dst = some d)
  (uL : QF P σ c.args.toList c.argTypes.toList rows) (hs : QH P f own rows res) (uk : YZ P σ c.args.toList c.argTypes.toList = true \/ JQ own res) (h : Ev P ops bar rest (σ.put d (yu res)) Q) : xU P ops bar o rest σ Q := by
 refine ⟨_, .inl ?_, Qr h⟩
 unfold Y6; simp only [hg, hd]
 unfold Step
 rw [uE]
 simp only [hc]
 exact .inl ⟨own, res, ⟨rows, uL, hs, uk⟩, rfl⟩
theorem Hr {P : Program} {ops : Array Oper} {bar : Oper -> Bool} {o : Oper} {rest : List Oper} {σ : St} {Q : St -> Prop} {c : Call} {f : FuncId} {d : Nat} {rows res : List (List D)} (uE : o.op = .call c) (hc : c.callee = .value (.func f)) (hg : o.guard = none) (hd : o.dst = some d)
  (uL : QF P σ c.args.toList c.argTypes.toList rows) (hs : QH P f true rows res) (uk : YZ P σ c.args.toList c.argTypes.toList = true \/ JQ true res) (hf : σ.fresh d = true) (h : Ev P ops bar rest (σ.new d (xa d res) (zd res.flatten)) Q) : xU P ops bar o rest σ Q := by
 refine ⟨_, .inl ?_, Qr h⟩
 unfold Y6; simp only [hg, hd]
 unfold Step
 rw [uE]
 simp only [hc]
 exact .inr (.inl ⟨res, ⟨rows, uL, hs, uk⟩, hf, rfl⟩)
theorem F4 {P : Program} {ops : Array Oper} {bar : Oper -> Bool} {o : Oper} {rest : List Oper} {σ : St} {Q : St -> Prop} {c : Call} {f : FuncId} {d j dj : Nat} {want g own : Bool} {rows : List (List D)} {res : List D} (uE : o.op = .call c) (hc : c.callee = .value (.func f)) (hg : o.guard = some (j, want)) (hd : o.dst = some d)
  (sD : (ops[j]?).bind (·.dst) = some dj) (uQ : dj < σ.length) (sK : xZ want (σ.get dj) = some g)
  (uL : g = true -> QF P σ c.args.toList c.argTypes.toList rows) (hs : g = true -> QH P f own rows [res]) (uk : YZ P σ c.args.toList c.argTypes.toList = true \/ JQ own [res]) (h : Ev P ops bar rest (σ.put d (.cnd g (yu [res]))) Q) : xU P ops bar o rest σ Q := by
 refine ⟨_, .inl ?_, Qr h⟩
 unfold Y6; simp only [hg]
 refine ⟨dj, d, g, _, sD, uQ, hd, sK, fun oy => ?_, rfl⟩
 unfold Pm
 rw [uE]
 simp only [hc]
 exact ⟨own, res, ⟨rows, uL oy, hs oy, uk⟩, rfl⟩
theorem Ho {P : Program} {ops : Array Oper} {bar : Oper -> Bool} {o : Oper} {rest : List Oper} {σ : St} {Q : St -> Prop} {S T : TypeId} {x : Operand} {d : Nat} {s : ByteArray} (uE : o.op = .convert S T x) (hg : o.guard = none) (hd : o.dst = some d)
  (h1 : gOf (look P σ S x) = true) (h2 : UQ P S = true) (h3 : R0 P T = true) (h4 : unc (look P σ S x) = .one (.d (.str s))) (h5 : s.size <= 9223372036854775807) (h : Ev P ops bar rest (σ.put d (.one (.d (.sl 1 (J6 s.data.toList))))) Q) : xU P ops bar o rest σ Q := by
 refine ⟨_, .inl ?_, Qr h⟩
 unfold Y6; simp only [hg, hd]
 unfold Step
 rw [uE]
 exact .inr (.inr ⟨s, h1, h2, h3, h4, h5, rfl⟩)
theorem Bl {P : Program} {ops : Array Oper} {bar : Oper -> Bool} {o : Oper} {rest : List Oper} {σ : St} {Q : St -> Prop} {d : Nat} (pc : ∀ c, o.op = .call c -> ∀ f, c.callee ≠ .value (.func f)) (hg : o.guard = none) (hd : o.dst = some d)
  (h1 : (evS P σ o d).1) (h : Ev P ops bar rest (evS P σ o d).2 Q) : xU P ops bar o rest σ Q := by
 refine ⟨_, .inl ?_, Qr h⟩
 unfold Y6; simp only [hg, hd]
 exact D6 pc h1
theorem F6 {P : Program} {ops : Array Oper} {bar : Oper -> Bool} {o : Oper} {rest : List Oper} {σ : St} {Q : St -> Prop} {c : Call} {f : FuncId} {d : Nat} {rows res : List (List D)} (qs : List Bool) (uE : o.op = .call c) (hc : c.callee = .value (.func f)) (hg : o.guard = none) (hd : o.dst = some d)
  (uL : QF P σ c.args.toList c.argTypes.toList rows) (hs : YR P f rows res) (hq : qI qs res.flatten) (hf : σ.fresh d = true) (h : Ev P ops bar rest (σ.new d (xa d res) (Yh qs res.flatten)) Q) : xU P ops bar o rest σ Q := by
 refine ⟨_, .inl ?_, Qr h⟩
 unfold Y6; simp only [hg, hd]
 unfold Step
 rw [uE]
 simp only [hc]
 exact .inr (.inr ⟨rows, res, qs, uL, hs, hq, hf, rfl⟩)
def Jv (P : Program) (σ : St) (T : TypeId) (size : Nat) : List (Nat × Operand) -> Nat -> Prop × List (List At)
 | [], _ => (True, [])
 | (i, x) :: ps, k => ((i = k /\ gOf (look P σ T x) = true /\ (unc (look P σ T x)).flat = true /\ (unc (look P σ T x)).cells.length = size) /\ (Jv P σ T size ps (k + 1)).1, (unc (look P σ T x)).cells :: (Jv P σ T size ps (k + 1)).2)
theorem LD {P : Program} {σ : St} {T : TypeId} {size : Nat} : ∀ {ps : List (Nat × Operand)} {k : Nat}, (Jv P σ T size ps k).1 -> R2 P σ T size ps k (Jv P σ T size ps k).2
 | [], _, _ => rfl
 | (_, x) :: _, _, h => by
  obtain ⟨⟨h1, h2, h3, h4⟩, h7⟩ := h
  exact ⟨h1, h2, h3, h4, _, LD h7, rfl⟩
theorem C4 {P : Program} {ops : Array Oper} {bar : Oper -> Bool} {o : Oper} {rest : List Oper} {σ : St} {Q : St -> Prop} {d : Nat} {T : TypeId} {n : Nat} {parts : Array (Nat × Operand)} (uE : o.op = .buildSlice T n parts) (hg : o.guard = none) (hd : o.dst = some d)
  (h1 : σ.fresh d = true /\ Y2 P T = true /\ Xn P (ZR P T) = true /\ 0 < P.cellsOf (ZR P T) /\ parts.toList.length = n /\ n * P.cellsOf (ZR P T) <= 16777216) (h2 : (Jv P σ (ZR P T) (P.cellsOf (ZR P T)) parts.toList 0).1)
  (h3 : YN d (Jv P σ (ZR P T) (P.cellsOf (ZR P T)) parts.toList 0).2.flatten = false)
  (h : Ev P ops bar rest (σ.new d (.one (.sref d 0 0 (Jv P σ (ZR P T) (P.cellsOf (ZR P T)) parts.toList 0).2.length)) [.lit (P.cellsOf (ZR P T)) (Jv P σ (ZR P T) (P.cellsOf (ZR P T)) parts.toList 0).2]) Q) : xU P ops bar o rest σ Q := by
 refine ⟨_, .inl ?_, Qr h⟩
 unfold Y6; simp only [hg, hd]
 unfold Step
 rw [uE]
 exact .inl ⟨h1.1, h1.2.1, h1.2.2.1, h1.2.2.2.1, h1.2.2.2.2.1, h1.2.2.2.2.2, .inr ⟨_, LD h2, h3, rfl⟩⟩
def kT (σ : St) (x : V) (size : Nat) : Prop × List (List D) × List (Nat × Nat) :=
 match x with
 | .one (.nil _) => (True, [], [])
 | .one (.sref t j lo len) => (match σ.ob t j with | .arr true s uG => (s = size /\ lo = 0 /\ len = uG.length, uG, [(t, j)]) | _ => (False, [], []))
 | _ => (False, [], [])
theorem DE {σ : St} {x : V} {size : Nat} (h : (kT σ x size).1) : DU σ x size (kT σ x size).2.1 (kT σ x size).2.2 := by
 unfold kT at h ⊢
 split at h
 ·exact ⟨rfl, rfl⟩
 ·rename_i t j lo len
  split at h
  ·rename_i s uG ho
   obtain ⟨rfl, rfl, rfl⟩ := h
   exact ⟨ho, rfl, rfl, rfl⟩
  ·exact h.elim
 ·exact h.elim
def kb (σ : St) (x : V) (size : Nat) : Prop × List (List D) × List (Nat × Nat) :=
 match x with
 | .one (.sref t j lo len) => (match σ.ob t j with | .lit s rows => ((s = size /\ lo = 0 /\ len = rows.length) /\ (JS σ rows).isSome = true /\ JD σ rows, (JS σ rows).getD [], XE rows.flatten) | _ => (False, [], []))
 | _ => (False, [], [])
theorem DG {σ : St} {x : V} {size : Nat} (h : (kb σ x size).1) : Dx σ x size (kb σ x size).2.1 (kb σ x size).2.2 := by
 unfold kb at h ⊢
 split at h
 ·rename_i t j lo len
  split at h
  ·rename_i s rows ho
   obtain ⟨⟨rfl, rfl, rfl⟩, h1, h2⟩ := h
   obtain ⟨ns, pc⟩ := Option.isSome_iff_exists.1 h1
   exact ⟨rows, ho, rfl, rfl, by rw [pc]; rfl, h2, rfl⟩
  ·exact h.elim
 ·exact h.elim
theorem xz : ∀ (σ : St) (d : Nat) (v : V) (t : Nat), (σ.put d v)[t]? = if t = d then (σ[t]?).map (fun e => (v, e.2)) else σ[t]?
 | [], _, _, _ => by simp [St.put]
 | e :: σ, 0, v, t => by cases t <;> simp [St.put]
 | e :: σ, d + 1, v, t => by
  cases t with
  | zero => simp [St.put]
  | succ t => have := xz σ d v t; simpa [St.put] using this
theorem zE : ∀ (σ : St) (d : Nat) (v : V) (os : List Ob) (t : Nat), (σ.new d v os)[t]? = if t = d then (σ[t]?).map (fun _ => (v, os)) else σ[t]?
 | [], _, _, _, _ => by simp [St.new]
 | e :: σ, 0, v, os, t => by cases t <;> simp [St.new]
 | e :: σ, d + 1, v, os, t => by
  cases t with
  | zero => simp [St.new]
  | succ t => have := zE σ d v os t; simpa [St.new] using this
theorem X6 : ∀ (σ : St) (a j : Nat) (o : Ob) (t : Nat), (σ.Zs a j o)[t]? = if t = a then (σ[t]?).map (fun e => (e.1, e.2.set j o)) else σ[t]?
 | [], _, _, _, _ => by simp [St.Zs]
 | e :: σ, 0, j, o, t => by cases t <;> simp [St.Zs]
 | e :: σ, a + 1, j, o, t => by
  cases t with
  | zero => simp [St.Zs]
  | succ t => have := X6 σ a j o t; simpa [St.Zs] using this
theorem yP {σ : St} {d : Nat} : Xd σ d = true ↔ σ[d]? = some (.any, []) \/ ∃ x, σ[d]? = some (.one (.d x), []) := by
 unfold Xd
 constructor
 ·intro h
  split at h
  ·rename_i h1; exact .inl h1
  ·rename_i x h1; exact .inr ⟨x, h1⟩
  ·cases h
 ·rintro (h | ⟨x, h⟩) <;> rw [h]
theorem Xp {σ : St} {d a j : Nat} {o : Ob} (h : Xd σ d = true) : Xd (σ.Zs a j o) d = true := by
 rw [yP] at *
 rw [X6]
 rcases h with h | ⟨x, h⟩
 ·left; rw [h]; split <;> rfl
 ·right; refine ⟨x, ?_⟩; rw [h]; split <;> rfl
theorem Qb : ∀ {l : List (Nat × Nat)} {σ : St} {d : Nat}, Xd σ d = true -> Xd (σ.Zz l) d = true
 | [], _, _, h => h
 | p :: l, σ, d, h => by rw [St.Zz]; exact Qb (l := l) (Xp h)
theorem kI {σ : St} {d d' : Nat} {v : V} {os : List Ob} (uH : d ≠ d') (h : Xd σ d = true) : Xd (σ.new d' v os) d = true := by
 unfold Xd at *; simp only [zE, if_neg uH]; exact h
theorem XB {P : Program} {σ : St} {d : Nat} {v : V} {T : TypeId} {x : Operand} (h : zL d x = false) : look P (σ.put d v) T x = look P σ T x := by
 cases x with
 | tmp t =>
  have uH : t ≠ d := fun e => by subst e; simp [zL] at h
  simp [look, St.KO, uH]
 | const c => rfl
 | global g => rfl
 | func f => rfl
theorem zY : ∀ (σ : St) (d : Nat) (v : V) (t j : Nat) (o : Ob), (σ.put d v).Zs t j o = (σ.Zs t j o).put d v
 | [], _, _, _, _, _ => rfl
 | e :: σ, 0, v, 0, j, o => rfl
 | e :: σ, d + 1, v, 0, j, o => rfl
 | e :: σ, 0, v, t + 1, j, o => rfl
 | e :: σ, d + 1, v, t + 1, j, o => by simp [St.put, St.Zs, zY σ d v t j o]
theorem We {d : Nat} {v : V} : ∀ (l : List (Nat × Nat)) (σ : St), (σ.put d v).Zz l = (σ.Zz l).put d v
 | [], _ => rfl
 | p :: l, σ => by rw [St.Zz, St.Zz, zY, We l]
theorem Pu {σ : St} {d : Nat} {v : V} : ∀ (xs : List At), JO (σ.put d v) xs = JO σ xs
 | [] => rfl
 | x :: xs => by
  have : mvD (σ.put d v) x = mvD σ x := by cases x <;> simp [mvD, St.QP]
  simp only [JO, this, Pu xs]
theorem TW {σ : St} {d : Nat} {v : V} : ∀ (xs : List At), QG (σ.put d v) xs = QG σ xs
 | [] => rfl
 | x :: xs => by
  have : IV (σ.put d v) x = IV σ x := by cases x <;> simp [IV, St.QP]
  simp only [QG, this, TW xs]
theorem Tn : ∀ (l : List (Nat × V)) (σ : St), (σ.QU l).ob = σ.ob
 | [], _ => rfl
 | p :: l, σ => by rw [St.QU, Tn l, St.QP]
theorem qf {P : Program} {T : TypeId} {x : Operand} : ∀ (l : List (Nat × V)) (σ : St), (∀ p ∈ l, zL p.1 x = false) -> look P (σ.QU l) T x = look P σ T x
 | [], _, _ => rfl
 | p :: l, σ, h => by rw [St.QU, qf l _ (fun q hq => h q (by simp [hq])), XB (h p (by simp))]
theorem xM {t j : Nat} {o : Ob} : ∀ (l : List (Nat × V)) (σ : St), (σ.QU l).Zs t j o = (σ.Zs t j o).QU l
 | [], _ => rfl
 | p :: l, σ => by rw [St.QU, xM l, zY, St.QU]
theorem K7 {L : List (Nat × Nat)} : ∀ (l : List (Nat × V)) (σ : St), (σ.QU l).Zz L = (σ.Zz L).QU l
 | [], _ => rfl
 | p :: l, σ => by rw [St.QU, K7 l, We, St.QU]
theorem Ep : ∀ {σ : St} {t d : Nat} {v v' : V} {os : List Ob}, t ≠ d -> (σ.put t v').new d v os = (σ.new d v os).put t v'
 | [], _, _, _, _, _, _ => rfl
 | e :: σ, 0, 0, _, _, _, h => absurd rfl h
 | e :: σ, 0, d + 1, _, _, _, _ => rfl
 | e :: σ, t + 1, 0, _, _, _, _ => rfl
 | e :: σ, t + 1, d + 1, v, v', os, h => by simp [St.put, St.new, Ep (σ := σ) (v := v) (v' := v') (os := os) (fun hh => h (congrArg (· + 1) hh))]
theorem FB {d : Nat} {v : V} {os : List Ob} : ∀ (l : List (Nat × V)) (σ : St), (∀ p ∈ l, p.1 ≠ d) -> (σ.QU l).new d v os = (σ.new d v os).QU l
 | [], _, _ => rfl
 | p :: l, σ, h => by rw [St.QU, FB l _ (fun q hq => h q (by simp [hq])), Ep (h p (by simp)), St.QU]
theorem SB {d : Nat} {v : V} (hv : v.ref d = false) : ∀ {σ : St} {k t : Nat}, Ko d k σ = true -> Ko d k (σ.put t v) = true
 | [], _, _, h => h
 | e :: σ, k, 0, h => by
  simp only [Ko, St.put, Bool.and_eq_true, Bool.or_eq_true, Bool.not_eq_true'] at h ⊢
  exact ⟨h.1.imp id (fun hh => ⟨hv, hh.2⟩), h.2⟩
 | e :: σ, k, t + 1, h => by
  simp only [Ko, St.put, Bool.and_eq_true] at h ⊢
  exact ⟨h.1, SB hv h.2⟩
theorem UC {d : Nat} : ∀ (l : List (Nat × V)) {σ : St}, (∀ p ∈ l, p.2.ref d = false) -> σ.fresh d = true -> (σ.QU l).fresh d = true
 | [], _, _, h => h
 | p :: l, σ, hl, h => by
  refine UC l (fun q hq => hl q (by simp [hq])) ?_
  simp only [St.fresh, Bool.and_eq_true, decide_eq_true_eq, St.QN] at h ⊢
  exact ⟨h.1, SB (hl p (by simp)) h.2⟩
theorem kE {o : Oper} {x y : Operand} {t : TypeId} (uE : o.op = .call ⟨.builtin .append, #[x, y], #[t, t]⟩) {n : Nat} (h : T9 o n = true) : zL n x = false /\ zL n y = false := by
 have hx : x ∈ o.op.operands.toList := by rw [uE]; simp [Op.operands, Call.operands]
 have hy : y ∈ o.op.operands.toList := by rw [uE]; simp [Op.operands, Call.operands]
 simp only [T9, Bool.not_eq_true'] at h
 exact ⟨Bool.eq_false_iff.2 (List.any_eq_false.1 h x hx), Bool.eq_false_iff.2 (List.any_eq_false.1 h y hy)⟩
theorem Gr {σ σ' : St} (h : σ'.ob = σ.ob) : ∀ (xs : List At), JO σ' xs = JO σ xs
 | [] => rfl
 | x :: xs => by
  have : mvD σ' x = mvD σ x := by cases x <;> simp [mvD, h]
  simp only [JO, this, Gr h xs]
theorem LU {σ σ' : St} (h : σ'.ob = σ.ob) : ∀ (xs : List At), QG σ' xs = QG σ xs
 | [] => rfl
 | x :: xs => by
  have : IV σ' x = IV σ x := by cases x <;> simp [IV, h]
  simp only [QG, this, LU h xs]
theorem Ik {σ σ' : St} (h : σ'.ob = σ.ob) : ∀ (xs : List (List At)), JS σ' xs = JS σ xs
 | [] => rfl
 | x :: xs => by simp only [JS, Gr h, Ik h xs]
theorem OO {σ σ' : St} (h : σ'.ob = σ.ob) : ∀ (xs : List (List At)), JD σ' xs = JD σ xs
 | [] => rfl
 | x :: xs => by simp only [JD, LU h, OO h xs]
theorem BW {σ σ' : St} (h : σ'.ob = σ.ob) {x : V} {size : Nat} {uG : List (List D)} {l : List (Nat × Nat)} (hd : DU σ x size uG l) : DU σ' x size uG l := by
 unfold DU at *; rw [h]; exact hd
theorem Be {σ σ' : St} (h : σ'.ob = σ.ob) {x : V} {size : Nat} {news : List (List D)} {l : List (Nat × Nat)} (hd : Dx σ x size news l) : Dx σ' x size news l := by
 unfold Dx at *
 simp only [h, Ik h, OO h]; exact hd
theorem BR {σ σ' : St} (h : σ'.ob = σ.ob) {x : V} {size : Nat} {uG : List (List D)} {l : List (Nat × Nat)} (hd : Fm σ x size uG l) : Fm σ' x size uG l := by
 unfold Fm at *; rw [h]; exact hd
theorem HA {d : Nat} : ∀ {os : List Ob} {j : Nat} {cells : List At}, Yl d os = false -> YU os j = .box cells -> YN d cells = false
 | [], j, cells, _, h => by simp [YU] at h
 | o :: os, 0, cells, hr, h => by
  simp only [YU, List.getElem?_cons_zero] at h
  subst h
  simp only [Yl, Bool.or_eq_false_iff] at hr; exact hr.1
 | o :: os, j + 1, cells, hr, h => by
  have h' : YU os j = .box cells := by simpa [YU] using h
  refine HA (os := os) (j := j) ?_ h'
  cases o <;> simp only [Yl, Bool.or_eq_false_iff] at hr <;> first | exact hr.2 | exact hr
theorem Nu {P : Program} {ops : Array Oper} {o : Oper} {σ X : St} {d : Nat} {v : V} {os : List Ob} (hd : o.dst = some d) (hlen : X.length = σ.length) (tT : ∀ t, X.get t = σ.get t) (sk : ∀ t j cells, X.ob t j = .box cells -> σ.ob t j = .box cells)
  (tg : ∀ t j q s rows, X.ob t j = .arr q s rows -> ∃ uT, σ.ob t j = .arr q s uT) (hf : X.fresh d = true)
  (hs : ∀ l : List (Nat × V), (∀ p ∈ l, p.1 ≠ d /\ T9 o p.1 = true /\ p.2.ref d = false) -> ka P ops o (σ.QU l) ((X.QU l).new d v os)) (hc : ∀ l : List (Nat × V), TS o (σ.QU l) ((X.QU l).new d v os)) : wW P ops o σ (X.new d v os) := by
 have uQ := St.JH hf
 have lq : ∀ t e, X[t]? = some e -> t ≠ d -> e.1.ref d = false /\ Yl d e.2 = false := fun t e he uH => by
  have h1 := hf
  simp only [St.fresh, Bool.and_eq_true] at h1
  exact zU h1.2 t e he (by omega)
 refine ⟨d, hd, by rw [St.kn, hlen], fun t uH => ?_, fun t j cells uH hb => ?_, fun t j q s rows uH hb => ?_, fun l hl => ?_⟩
 ·rw [St.Wc, if_neg (fun hh => uH hh.1), tT]
  refine ⟨rfl, ?_⟩
  rw [<- tT]
  unfold St.get
  cases he : X[t]? with
  | none => rfl
  | some e => exact (lq t e he uH).1
 ·rw [St.Qj, if_neg (fun hh => uH hh.1)] at hb
  refine ⟨sk t j cells hb, ?_⟩
  unfold St.ob at hb
  cases he : X[t]? with
  | none => rw [he] at hb; cases hb
  | some e => rw [he] at hb; exact HA (lq t e he uH).2 hb
 ·rw [St.Qj, if_neg (fun hh => uH hh.1)] at hb
  exact tg t j q s rows hb
 ·have e := FB (d := d) (v := v) (os := os) l X (fun p hp => (hl p hp).1)
  rw [<- e]
  exact ⟨hs l hl, hc l⟩
theorem LF {σ : St} {L : List (Nat × Nat)} {t j : Nat} {cells : List At} (h : (σ.Zz L).ob t j = .box cells) : σ.ob t j = .box cells := by
 rw [St.Js] at h
 split at h
 ·cases h
 ·exact h
theorem MV {σ : St} {L : List (Nat × Nat)} {t j : Nat} {q : Bool} {s : Nat} {rows : List (List D)} (h : (σ.Zz L).ob t j = .arr q s rows) : σ.ob t j = .arr q s rows := by
 rw [St.Js] at h
 split at h
 ·cases h
 ·exact h
theorem CT {P : Program} {ops : Array Oper} {bar : Oper -> Bool} {o : Oper} {rest : List Oper} {σ : St} {Q : St -> Prop} {d : Nat} {x y : Operand} {t : TypeId} {uG news : List (List D)} {l1 l2 : List (Nat × Nat)} {size : Nat} (uE : o.op = .call ⟨.builtin .append, #[x, y], #[t, t]⟩) (hg : o.guard = none) (hd : o.dst = some d) (uy : bar o = true)
  (tM : size = P.cellsOf (ZR P t)) (h1 : gOf (look P σ t x) = true /\ gOf (look P σ t y) = true /\ Y2 P t = true /\ Xn P (ZR P t) = true /\ 0 < P.cellsOf (ZR P t))
  (h2 : (kT σ (unc (look P σ t x)) size).1 /\ (kT σ (unc (look P σ t x)) size).2 = (uG, l1)) (h3 : (kb σ (unc (look P σ t y)) size).1 /\ (kb σ (unc (look P σ t y)) size).2 = (news, l2))
  (h4 : (l1 ++ l2).Nodup /\ (σ.Zz (l1 ++ l2)).fresh d = true) (h5 : (uG.length + news.length) * P.bytesOf (ZR P t) <= 140737488355328 /\ uG.length + news.length <= 9223372036854775807)
  (h : Ev P ops bar rest ((σ.Zz (l1 ++ l2)).new d (.one (.sref d 0 0 (uG.length + news.length))) [.arr true size (uG ++ news)]) Q) : xU P ops bar o rest σ Q := by
 subst tM
 have e1 := DE h2.1
 have e2 := DG h3.1
 rw [h2.2] at e1
 rw [h3.2] at e2
 have cl : ∀ σ0 : St, TS o σ0 ((σ0.Zz (l1 ++ l2)).new d (.one (.sref d 0 0 (uG.length + news.length))) [.arr true (P.cellsOf (ZR P t)) (uG ++ news)]) := fun σ0 d' uU hc => kI (fun e => uU (by rw [hd, e])) (Qb hc)
 have go : ∀ l : List (Nat × V), (∀ p ∈ l, p.1 ≠ d /\ T9 o p.1 = true /\ p.2.ref d = false) -> ka P ops o (σ.QU l) (((σ.QU l).Zz (l1 ++ l2)).new d (.one (.sref d 0 0 (uG.length + news.length))) [.arr true (P.cellsOf (ZR P t)) (uG ++ news)]) := by
  rintro l hl T0 B a w K Q' ⟨X, hh, r⟩ hK
  have hw : Region.wanted o (yielded ops a.tmps) = true := by simp [Region.wanted, hg]
  rw [if_pos hw]
  have lx : look P (σ.QU l) t x = look P σ t x := qf l σ (fun p hp => (kE uE (hl p hp).2.1).1)
  have ly : look P (σ.QU l) t y = look P σ t y := qf l σ (fun p hp => (kE uE (hl p hp).2.1).2)
  refine Lt r uE hd (by rw [lx]; exact h1.1) (by rw [ly]; exact h1.2.1) h1.2.2.1 h1.2.2.2.1 h1.2.2.2.2 (by rw [lx]; exact BW (Tn l σ) e1) (by rw [ly]; exact Be (Tn l σ) e2) h4.1 ?_ h5.1 h5.2 hK
  rw [K7]
  exact UC l (fun p hp => (hl p hp).2.2) h4.2
 have lu : ka P ops o σ ((σ.Zz (l1 ++ l2)).new d (.one (.sref d 0 0 (uG.length + news.length))) [.arr true (P.cellsOf (ZR P t)) (uG ++ news)]) := go [] (fun p hp => by cases hp)
 refine ⟨_, .inr ⟨uy, lu, cl σ, fun hh => by simp [W0, uE] at hh, fun _ => Nu hd (St.Jr _ _) (fun t => St.yM _ _ t) (fun t j cells hb => LF hb) (fun t j q s rows hb => ⟨rows, MV hb⟩) h4.2 (fun l hl => ?_) (fun l => ?_), fun hh _ => by first | (simp [Jq, uE] at hh; done) | (unfold Jq at hh; rw [uE] at hh; split at hh <;> simp_all)⟩, Qr h⟩
 ·rw [<- K7]; exact go l hl
 ·rw [<- K7]; exact cl _
theorem Dl {P : Program} {T0 : CS} {B : Nat -> Prop} {σ : St} {a : Act} {w : World} {X : Nat -> Prop} {h : Nat -> Nat -> Hd} (r : Rel T0 B σ a w X h) {o : Oper} {d u j n size : Nat} {rows : List (List D)} (hd : o.dst = some d) (hv : YQ P σ o.op o.type (.one (.sref u j 0 n))) (ho : σ.ob u j = .arr false size rows) (hle : n <= rows.length)
  (tD : (σ.Zs u j .none).fresh d = true) {K : Act -> World -> Prop} {Q : Exit -> Act -> World -> Prop} (hK : ∀ a' w', Q0 T0 B ((σ.Zs u j .none).new d (.one (.sref d 0 0 n)) [.arr false size (rows.take n)]) a' w' -> Yr B w w' -> K a' w') : o.wp P a w K Q := by
 obtain ⟨val, uY, oQ⟩ := jQ r hv
 unfold Oper.wp
 rw [uY, Oper.upon_value, hd]
 have o0 : YH (Tof T0 X) h σ.ob w (.sref u j 0 n) val := oQ
 obtain ⟨_, _, sF, _⟩ := o0.2.1 _ _ _ ho
 have he : val = Rf (h u j).v n := sF rfl
 have h0 := r.obj u j
 rw [ho] at h0
 obtain ⟨e, xs, uK, tj, uJ⟩ := h0
 have ua : σ.ob u j ≠ .none := by rw [ho]; simp
 have oq : (rows.take n).length = n := by rw [List.length_take]; omega
 have tb : (rows.take n).flatten = rows.flatten.take (n * size) := JT rows size tj n hle
 have u9 : w.ownsRow 0 e size val (rows.take n).length (xs.take (n * size)) := by rw [he, oq]; exact xh uK hle
 have uQ := St.JH tD
 have tC : ((σ.Zs u j .none).new d (.one (.sref d 0 0 n)) [.arr false size (rows.take n)]).ob d 0 = .arr false size (rows.take n) := by rw [St.Qj]; simp [uQ, YU]
 have uo : ∀ b, blk val = some b -> ¬ B b /\ ¬ X b /\ b < w.heap.size /\ ∀ u' j', (σ.Zs u j .none).ob u' j' ≠ .none -> ¬ (h u' j').u b := by
  intro b hb
  rw [he, kH] at hb
  have oz := r.ub u j b ua hb
  have tG := r.own u j b ua oz
  refine ⟨tG.1, tG.2.1, tG.2.2, fun u' j' uH uP => ?_⟩
  have po : σ.ob u' j' ≠ .none := by
   intro hh
   rw [St.XK σ u j _ u' j' ua] at uH
   split at uH
   ·exact uH rfl
   ·exact uH hh
  have := r.inj u j u' j' b ua po oz uP
  obtain ⟨rfl, rfl⟩ := this
  rw [St.XK σ u j _ u j ua] at uH
  simp at uH
 refine hK _ _ ⟨X, fun t k => if t = d then Hd.of val else h t k, ?_⟩ (Yr.refl _ _)
 refine (r.drop u j).Hn tD (fun b => blk val = some b) (Nat.le_refl _) (fun _ _ _ => rfl) (fun b hb => ⟨(uo b hb).1, (uo b hb).2.1, fun t k _ uH => (uo b hb).2.2.2 t k uH⟩) (fun _ hb => hb) (fun _ hb => .inl hb) _ _ [.arr false size (rows.take n)] (fun _ => Hd.of val) ?_ (fun k => ?_) (fun k b _ hb => hb) (fun k b uH uP => ?_) (fun k k' b uH ux _ _ => ?_)
 ·refine ⟨QJ u9, fun q' ug uT hh => ?_, fun ug uT hh => by rw [tC] at hh; cases hh⟩
  rw [tC] at hh; cases hh
  simp only [if_true]
  have := xy u9
  rwa [oq] at this ⊢
 ·cases k with
  | zero => exact ⟨e, xs.take (n * size), u9, fun q hq => tj q (List.mem_of_mem_take hq), by rw [tb]; exact (uJ.imp fun _ _ hh => hh).take _⟩
  | succ k => simp [YU, Qs]
 ·exact ⟨.inr uP, (uo b uP).2.1, (uo b uP).2.2.1⟩
 ·have : ∀ k, YU [Ob.arr false size (rows.take n)] k ≠ .none -> k = 0 := by
   intro k hk
   cases k with
   | zero => rfl
   | succ k => simp [YU] at hk
  rw [this k uH, this k' ux]
theorem Dy {P : Program} {T0 : CS} {B : Nat -> Prop} {σ : St} {a : Act} {w : World} {X : Nat -> Prop} {h : Nat -> Nat -> Hd} (r : Rel T0 B σ a w X h) {o : Oper} {d u j n size : Nat} {rows : List (List D)} (hd : o.dst = some d) (hv : YQ P σ o.op o.type (.one (.sref u j 0 n))) (ho : σ.ob u j = .arr true size rows) (hle : n <= rows.length)
  (tD : (σ.Zs u j .none).fresh d = true) {K : Act -> World -> Prop} {Q : Exit -> Act -> World -> Prop} (hK : ∀ a' w', Q0 T0 B ((σ.Zs u j .none).new d (.one (.sref d 0 0 n)) [.arr true size (rows.take n)]) a' w' -> Yr B w w' -> K a' w') : o.wp P a w K Q := by
 obtain ⟨val, uY, oQ⟩ := jQ r hv
 unfold Oper.wp
 rw [uY, Oper.upon_value, hd]
 have o0 : YH (Tof T0 X) h σ.ob w (.sref u j 0 n) val := oQ
 obtain ⟨_, _, sF, _⟩ := o0.2.1 _ _ _ ho
 have he : val = Rf (h u j).v n := sF rfl
 have h0 := r.obj u j
 rw [ho] at h0
 obtain ⟨e, xs, uK, tj, uJ, oD⟩ := h0
 have ua : σ.ob u j ≠ .none := by rw [ho]; simp
 have oq : (rows.take n).length = n := by rw [List.length_take]; omega
 have tb : (rows.take n).flatten = rows.flatten.take (n * size) := JT rows size tj n hle
 have u9 : w.ownsRow 0 e size val (rows.take n).length (xs.take (n * size)) := by rw [he, oq]; exact xh uK hle
 have uQ := St.JH tD
 have tC : ((σ.Zs u j .none).new d (.one (.sref d 0 0 n)) [.arr true size (rows.take n)]).ob d 0 = .arr true size (rows.take n) := by rw [St.Qj]; simp [uQ, YU]
 have uo : ∀ b, (h u j).u b -> ¬ B b /\ ¬ X b /\ b < w.heap.size /\ ∀ u' j', (σ.Zs u j .none).ob u' j' ≠ .none -> ¬ (h u' j').u b := by
  intro b oz
  have tG := r.own u j b ua oz
  refine ⟨tG.1, tG.2.1, tG.2.2, fun u' j' uH uP => ?_⟩
  have po : σ.ob u' j' ≠ .none := by
   intro hh
   rw [St.XK σ u j _ u' j' ua] at uH
   split at uH
   ·exact uH rfl
   ·exact uH hh
  have := r.inj u j u' j' b ua po oz uP
  obtain ⟨rfl, rfl⟩ := this
  rw [St.XK σ u j _ u j ua] at uH
  simp at uH
 refine hK _ _ ⟨X, fun t k => if t = d then ({ v := val, u := (h u j).u, n := (h u j).n } : Hd) else h t k, ?_⟩ (Yr.refl _ _)
 refine (r.drop u j).Hn tD (fun b => (h u j).u b) (Nat.le_refl _) (fun _ _ _ => rfl) (fun b hb => ⟨(uo b hb).1, (uo b hb).2.1, fun t k _ uH => (uo b hb).2.2.2 t k uH⟩) (fun _ hb => hb) (fun _ hb => .inl hb) _ _ [.arr true size (rows.take n)] (fun _ => ({ v := val, u := (h u j).u, n := (h u j).n } : Hd)) ?_ (fun k => ?_) (fun k b _ hb => r.ub u j b ua (by have hb : blk val = some b := hb; rw [he, kH] at hb; exact hb)) (fun k b uH uP => ?_) (fun k k' b uH ux _ _ => ?_)
 ·refine ⟨QJ u9, fun q' ug uT hh => ?_, fun ug uT hh => by rw [tC] at hh; cases hh⟩
  rw [tC] at hh; cases hh
  simp only [if_true]
  have := xy u9
  rwa [oq] at this ⊢
 ·cases k with
  | zero =>
   have oR : xs.length = rows.length * size := by rw [uJ.1, YI rows _ tj]
   have pB : n * size <= xs.length := by rw [oR]; exact Nat.mul_le_mul_right _ hle
   have hp := Qt.pick uJ (p := n * size) (q := n * size) (n := 0) (Nat.le_refl _) (by omega)
   simp only [cut, List.take_zero, List.append_nil] at hp
   refine ⟨e, xs.take (n * size), u9, fun q hq => tj q (List.mem_of_mem_take hq), ?_, fun k x dd hx sP tL => ?_⟩
   ·rw [tb]
    refine hp.mono (fun b hb => ⟨hb.1, ?_⟩)
    have tA := hb.2
    intro hh
    have hh : blk val = some b := hh
    rw [he, kH] at hh
    exact tA hh
   ·rw [tb] at sP
    have hk : k < n * size := by have := (List.getElem?_eq_some_iff.1 hx).1; rw [List.length_take] at this; omega
    rw [List.getElem?_take, if_pos hk] at hx sP
    exact oD k x dd hx sP tL
  | succ k => simp [YU, Qs]
 ·exact ⟨.inr uP, (uo b uP).2.1, (uo b uP).2.2.1⟩
 ·have : ∀ k, YU [Ob.arr true size (rows.take n)] k ≠ .none -> k = 0 := by
   intro k hk
   cases k with
   | zero => rfl
   | succ k => simp [YU] at hk
  rw [this k uH, this k' ux]
theorem Rel.wQ {T0 : CS} {B : Nat -> Prop} {σ : St} {a : Act} {w : World} {X X' : Nat -> Prop} {h : Nat -> Nat -> Hd} (r : Rel T0 B σ a w X h) (hX : ∀ b, X b -> X' b) (pj : ∀ b, X' b -> X b \/ (¬ B b /\ b < w.heap.size /\ ∀ t j, σ.ob t j ≠ .none -> ¬ (h t j).u b)) : Rel T0 B σ a w X' h := by
 have hT : ∀ b k v, Tof T0 X b k -> w.cell? ⟨b, k, none⟩ = some v -> w.cell? ⟨b, k, none⟩ = some v /\ Tof T0 X' b k := fun b k v hb hc => ⟨hc, hb.imp id (hX b)⟩
 refine ⟨r.size, r.defers, r.hB, fun b hb => ?_, r.hT, fun t ht => QK.mono hT (r.slot t ht), fun t j => ?_, r.ub, fun t j b ho hb => ?_, r.inj⟩
 ·rcases pj b hb with hb | hb
  ·exact r.hX b hb
  ·exact ⟨hb.1, hb.2.1⟩
 ·have h0 := r.obj t j
  cases ho : σ.ob t j with
  | none => trivial
  | box cells => rw [ho] at h0; obtain ⟨b, cs, e, hv, hh, uJ⟩ := h0; exact ⟨b, cs, e, hv, hh, uJ.imp fun _ _ => YH.mono hT⟩
  | arr q size rows =>
   rw [ho] at h0
   cases q with
   | false => obtain ⟨e, xs, sX, hz, uJ⟩ := h0; exact ⟨e, xs, sX, hz, uJ.imp fun _ _ => Rd.mono hT⟩
   | true => exact h0
  | lit size rows => rw [ho] at h0; obtain ⟨e, xs, sX, hz, uJ⟩ := h0; exact ⟨e, xs, sX, hz, uJ.imp fun _ _ => YH.mono hT⟩
 ·have := r.own t j b ho hb
  refine ⟨this.1, fun hx => ?_, this.2.2⟩
  rcases pj b hx with hx | hx
  ·exact this.2.1 hx
  ·exact hx.2.2 t j ho hb
theorem Dv {P : Program} {T0 : CS} {B : Nat -> Prop} {σ : St} {a : Act} {w : World} {X : Nat -> Prop} {h : Nat -> Nat -> Hd} (r : Rel T0 B σ a w X h) {o : Oper} {d u j n size : Nat} {rows : List (List D)} (hd : o.dst = some d) (hv : YQ P σ o.op o.type (.one (.sref u j 0 n))) (ho : σ.ob u j = .arr true size rows) (hle : n <= rows.length)
  (tD : (σ.Zs u j .none).fresh d = true) {K : Act -> World -> Prop} {Q : Exit -> Act -> World -> Prop} (hK : ∀ a' w', Q0 T0 B ((σ.Zs u j .none).new d (.one (.sref d 0 0 n)) [.arr false size (rows.take n)]) a' w' -> Yr B w w' -> K a' w') : o.wp P a w K Q := by
 obtain ⟨val, uY, oQ⟩ := jQ r hv
 unfold Oper.wp
 rw [uY, Oper.upon_value, hd]
 have o0 : YH (Tof T0 X) h σ.ob w (.sref u j 0 n) val := oQ
 obtain ⟨_, _, sF, _⟩ := o0.2.1 _ _ _ ho
 have he : val = Rf (h u j).v n := sF rfl
 have h0 := r.obj u j
 rw [ho] at h0
 obtain ⟨e, xs, uK, tj, uJ, oD⟩ := h0
 have ua : σ.ob u j ≠ .none := by rw [ho]; simp
 have oq : (rows.take n).length = n := by rw [List.length_take]; omega
 have tb : (rows.take n).flatten = rows.flatten.take (n * size) := JT rows size tj n hle
 have u9 : w.ownsRow 0 e size val (rows.take n).length (xs.take (n * size)) := by rw [he, oq]; exact xh uK hle
 have uQ := St.JH tD
 have tC : ((σ.Zs u j .none).new d (.one (.sref d 0 0 n)) [.arr false size (rows.take n)]).ob d 0 = .arr false size (rows.take n) := by rw [St.Qj]; simp [uQ, YU]
 have uo : ∀ b, (h u j).u b -> ¬ B b /\ ¬ X b /\ b < w.heap.size /\ ∀ u' j', (σ.Zs u j .none).ob u' j' ≠ .none -> ¬ (h u' j').u b := by
  intro b oz
  have tG := r.own u j b ua oz
  refine ⟨tG.1, tG.2.1, tG.2.2, fun u' j' uH uP => ?_⟩
  have po : σ.ob u' j' ≠ .none := by
   intro hh
   rw [St.XK σ u j _ u' j' ua] at uH
   split at uH
   ·exact uH rfl
   ·exact uH hh
  have := r.inj u j u' j' b ua po oz uP
  obtain ⟨rfl, rfl⟩ := this
  rw [St.XK σ u j _ u j ua] at uH
  simp at uH
 have ma : ∀ b, blk val = some b -> (h u j).u b /\ blk (h u j).v = some b := fun b hb => by rw [he, kH] at hb; exact ⟨r.ub u j b ua hb, hb⟩
 have r1 := (r.drop u j).wQ (X' := fun b => X b \/ ((h u j).u b /\ blk (h u j).v ≠ some b)) (fun b hb => .inl hb) (fun b hb => hb.imp id (fun hh => ⟨(uo b hh.1).1, (uo b hh.1).2.2.1, (uo b hh.1).2.2.2⟩))
 refine hK _ _ ⟨fun b => X b \/ ((h u j).u b /\ blk (h u j).v ≠ some b), fun t k => if t = d then Hd.of val else h t k, ?_⟩ (Yr.refl _ _)
 refine r1.Hn tD (fun b => blk val = some b) (Nat.le_refl _) (fun _ _ _ => rfl) (fun b hb => ⟨(uo b (ma b hb).1).1, ?_, fun t k _ uH => (uo b (ma b hb).1).2.2.2 t k uH⟩) (fun _ hb => hb) (fun _ hb => .inl hb) _ _ [.arr false size (rows.take n)] (fun _ => Hd.of val) ?_ (fun k => ?_) (fun k b _ hb => hb) (fun k b uH uP => ?_) (fun k k' b uH ux _ _ => ?_)
 ·rintro (hx | hx)
  ·exact (uo b (ma b hb).1).2.1 hx
  ·exact hx.2 (ma b hb).2
 ·refine ⟨QJ u9, fun q' ug uT hh => ?_, fun ug uT hh => by rw [tC] at hh; cases hh⟩
  rw [tC] at hh; cases hh
  simp only [if_true]
  have := xy u9
  rwa [oq] at this ⊢
 ·cases k with
  | zero =>
   refine ⟨e, xs.take (n * size), u9, fun q hq => tj q (List.mem_of_mem_take hq), ?_⟩
   rw [tb]
   exact (uJ.rd (T := Tof T0 (fun b => X b \/ ((h u j).u b /\ blk (h u j).v ≠ some b))) (fun b k hb => .inr (.inr hb))).take _
  | succ k => simp [YU, Qs]
 ·refine ⟨.inr uP, ?_, (uo b (ma b uP).1).2.2.1⟩
  rintro (hx | hx)
  ·exact (uo b (ma b uP).1).2.1 hx
  ·exact hx.2 (ma b uP).2
 ·have : ∀ k, YU [Ob.arr false size (rows.take n)] k ≠ .none -> k = 0 := by
   intro k hk
   cases k with
   | zero => rfl
   | succ k => simp [YU] at hk
  rw [this k uH, this k' ux]
theorem CX {P : Program} {ops : Array Oper} {bar : Oper -> Bool} {o : Oper} {rest : List Oper} {σ : St} {Q : St -> Prop} {d : Nat} {x y : Operand} {t : TypeId} {rows : List (List D)} {size u j len lo n : Nat} (uE : o.op = .call ⟨.builtin .append, #[x, y], #[t, t]⟩) (hg : o.guard = none) (hd : o.dst = some d) (uy : bar o = true)
  (tM : size = P.cellsOf (ZR P t)) (h1 : gOf (look P σ t x) = true /\ gOf (look P σ t y) = true /\ Y2 P t = true /\ Xn P (ZR P t) = true /\ 0 < P.cellsOf (ZR P t))
  (h2 : unc (look P σ t x) = .one (.sref u j 0 len)) (h3 : unc (look P σ t y) = .one (.sref u j lo n)) (ho : σ.ob u j = .arr true size rows) (hle : len <= lo) (pB : lo + n <= rows.length)
  {news : List (List D)} (tZ : cut rows lo n = news) (h4 : (σ.Zs u j .none).fresh d = true) (h5 : (len + n) * P.bytesOf (ZR P t) <= 140737488355328 /\ len + n <= 9223372036854775807)
  (h : Ev P ops bar rest ((σ.Zs u j .none).new d (.one (.sref d 0 0 ((rows.take len).length + news.length))) [.arr true size (rows.take len ++ news)]) Q) : xU P ops bar o rest σ Q := by
 subst tM
 subst tZ
 rw [Yu _ _ _ pB, List.length_take, Nat.min_eq_left (by omega)] at h
 have cl : ∀ σ0 : St, TS o σ0 ((σ0.Zs u j .none).new d (.one (.sref d 0 0 (len + n))) [.arr true (P.cellsOf (ZR P t)) (rows.take len ++ cut rows lo n)]) := fun σ0 d' uU hc => kI (fun e => uU (by rw [hd, e])) (Xp hc)
 have go : ∀ l : List (Nat × V), (∀ p ∈ l, p.1 ≠ d /\ T9 o p.1 = true /\ p.2.ref d = false) -> ka P ops o (σ.QU l) (((σ.QU l).Zs u j .none).new d (.one (.sref d 0 0 (len + n))) [.arr true (P.cellsOf (ZR P t)) (rows.take len ++ cut rows lo n)]) := by
  rintro l hl T0 B a w K Q' ⟨X, hh, r⟩ hK
  have hw : Region.wanted o (yielded ops a.tmps) = true := by simp [Region.wanted, hg]
  rw [if_pos hw]
  have lx : look P (σ.QU l) t x = look P σ t x := qf l σ (fun p hp => (kE uE (hl p hp).2.1).1)
  have ly : look P (σ.QU l) t y = look P σ t y := qf l σ (fun p hp => (kE uE (hl p hp).2.1).2)
  refine IJ r uE hd (by rw [lx]; exact h1.1) (by rw [ly]; exact h1.2.1) h1.2.2.1 h1.2.2.2.1 h1.2.2.2.2 (by rw [lx]; exact h2) (by rw [ly]; exact h3) (by rw [Tn]; exact ho) hle pB ?_ h5.1 h5.2 hK
  show ((σ.QU l).Zs u j .none).fresh d = true
  rw [xM]
  exact UC l (fun p hp => (hl p hp).2.2) h4
 have lu : ka P ops o σ ((σ.Zs u j .none).new d (.one (.sref d 0 0 (len + n))) [.arr true (P.cellsOf (ZR P t)) (rows.take len ++ cut rows lo n)]) := go [] (fun p hp => by cases hp)
 refine ⟨_, .inr ⟨uy, lu, cl σ, fun hh => by simp [W0, uE] at hh, fun _ => Nu hd (St.Y0 _ _ _ _) (fun t => St.Xj _ _ _ _ t) (fun t i cells hb => LF (L := [(u, j)]) hb) (fun t i q s rows hb => ⟨rows, MV (L := [(u, j)]) hb⟩) h4 (fun l hl => ?_) (fun l => ?_), fun hh _ => by first | (simp [Jq, uE] at hh; done) | (unfold Jq at hh; rw [uE] at hh; split at hh <;> simp_all)⟩, Qr h⟩
 ·rw [<- xM]; exact go l hl
 ·rw [<- xM]; exact cl _
theorem CO {P : Program} {ops : Array Oper} {bar : Oper -> Bool} {o : Oper} {rest : List Oper} {σ : St} {Q : St -> Prop} {d : Nat} {x y : Operand} {t : TypeId} {uG rows news : List (List D)} {l1 : List (Nat × Nat)} {size u j lo n : Nat} (uE : o.op = .call ⟨.builtin .append, #[x, y], #[t, t]⟩) (hg : o.guard = none) (hd : o.dst = some d) (uy : bar o = true)
  (tM : size = P.cellsOf (ZR P t)) (h1 : gOf (look P σ t x) = true /\ gOf (look P σ t y) = true /\ Y2 P t = true /\ Xn P (ZR P t) = true /\ 0 < P.cellsOf (ZR P t))
  (h2 : Fm σ (unc (look P σ t x)) size uG l1) (h3 : unc (look P σ t y) = .one (.sref u j lo n)) (ho : σ.ob u j = .arr true size rows) (mX : (u, j) ∉ l1) (hle : lo + n <= rows.length) (tZ : cut rows lo n = news)
  (h4 : ((σ.Zs u j (.arr true size (Qd rows lo n))).Zz l1).fresh d = true) (h5 : (uG.length + n) * P.bytesOf (ZR P t) <= 140737488355328 /\ uG.length + n <= 9223372036854775807)
  (h : Ev P ops bar rest (((σ.Zs u j (.arr true size (Qd rows lo n))).Zz l1).new d (.one (.sref d 0 0 (uG.length + news.length))) [.arr true size (uG ++ news)]) Q) : xU P ops bar o rest σ Q := by
 subst tM
 subst tZ
 rw [Yu _ _ _ hle] at h
 have cl : ∀ σ0 : St, TS o σ0 (((σ0.Zs u j (.arr true (P.cellsOf (ZR P t)) (Qd rows lo n))).Zz l1).new d (.one (.sref d 0 0 (uG.length + n))) [.arr true (P.cellsOf (ZR P t)) (uG ++ cut rows lo n)]) := fun σ0 d' uU hc => kI (fun e => uU (by rw [hd, e])) (Qb (Xp hc))
 have go : ∀ l : List (Nat × V), (∀ p ∈ l, p.1 ≠ d /\ T9 o p.1 = true /\ p.2.ref d = false) -> ka P ops o (σ.QU l) ((((σ.QU l).Zs u j (.arr true (P.cellsOf (ZR P t)) (Qd rows lo n))).Zz l1).new d (.one (.sref d 0 0 (uG.length + n))) [.arr true (P.cellsOf (ZR P t)) (uG ++ cut rows lo n)]) := by
  rintro l hl T0 B a w K Q' ⟨X, hh, r⟩ hK
  have hw : Region.wanted o (yielded ops a.tmps) = true := by simp [Region.wanted, hg]
  rw [if_pos hw]
  have lx : look P (σ.QU l) t x = look P σ t x := qf l σ (fun p hp => (kE uE (hl p hp).2.1).1)
  have ly : look P (σ.QU l) t y = look P σ t y := qf l σ (fun p hp => (kE uE (hl p hp).2.1).2)
  refine Ib r uE hd (by rw [lx]; exact h1.1) (by rw [ly]; exact h1.2.1) h1.2.2.1 h1.2.2.2.1 h1.2.2.2.2 (by rw [lx]; exact BR (Tn l σ) h2) (by rw [ly]; exact h3) (by rw [Tn]; exact ho) hle mX ?_ h5.1 h5.2 hK
  rw [xM, K7]
  exact UC l (fun p hp => (hl p hp).2.2) h4
 have ua : σ.ob u j ≠ .none := by rw [ho]; simp
 have lu : ka P ops o σ (((σ.Zs u j (.arr true (P.cellsOf (ZR P t)) (Qd rows lo n))).Zz l1).new d (.one (.sref d 0 0 (uG.length + n))) [.arr true (P.cellsOf (ZR P t)) (uG ++ cut rows lo n)]) := go [] (fun p hp => by cases hp)
 refine ⟨_, .inr ⟨uy, lu, cl σ, fun hh => by simp [W0, uE] at hh, fun _ => Nu hd (by rw [St.Jr, St.Y0]) (fun t => by rw [St.yM, St.Xj]) (fun t i cells hb => ?_) (fun t i q s uT hb => ?_) h4 (fun l hl => ?_) (fun l => ?_), fun hh _ => by first | (simp [Jq, uE] at hh; done) | (unfold Jq at hh; rw [uE] at hh; split at hh <;> simp_all)⟩, Qr h⟩
 ·have hb := LF hb
  rw [St.XK σ u j _ t i ua] at hb
  split at hb
  ·cases hb
  ·exact hb
 ·have hb := MV hb
  rw [St.XK σ u j _ t i ua] at hb
  split at hb
  ·rename_i hc; cases hb; rw [hc.1, hc.2]; exact ⟨rows, ho⟩
  ·exact ⟨uT, hb⟩
 ·rw [<- K7, <- xM]; exact go l hl
 ·rw [<- K7, <- xM]; exact cl _
theorem GV {f : At -> Bool} {v : V} (hv : v.zb f = false) : ∀ {σ : St} {d : Nat}, σ.zb f = false -> (σ.put d v).zb f = false
 | [], _, _ => rfl
 | e :: σ, 0, h => by simp only [St.zb, Bool.or_eq_false_iff] at h; simp [St.put, St.zb, hv, h.1.2, h.2]
 | e :: σ, d + 1, h => by simp only [St.zb, Bool.or_eq_false_iff] at h; simp [St.put, St.zb, h.1.1, h.1.2, GV hv h.2]
theorem Og {σ : St} : ∀ {xs : List At} {ds : List D}, JO σ xs = some ds -> ∀ p ∈ XE xs, ∃ q s rows, σ.ob p.1 p.2 = .arr q s rows
 | [], _, _, p, hp => by cases hp
 | x :: xs, ds, h, p, hp => by
  simp only [JO] at h
  split at h
  ·rename_i d oP h1 h2
   have ih := Og h2
   cases x with
   | sref t j lo len =>
    simp only [XE, List.mem_cons] at hp
    rcases hp with rfl | hp
    ·simp only [mvD] at h1
     split at h1
     ·rename_i q s rows ho; exact ⟨q, s, rows, ho⟩
     ·cases h1
    ·exact ih p hp
   | _ => exact ih p hp
  ·cases h
theorem P6 {σ : St} {L : List (Nat × Nat)} {t j t' size ug : Nat} {q q' : Bool} {rows uT : List (List D)} {cells : List At} {xs : List At} {ds : List D} (hm : JO σ xs = some ds) (hL : XE xs = L) (ho : σ.ob t j = .arr q size rows) (hn : (t, j) ∉ L) (hb : σ.ob t' 0 = .box cells) :
  ((σ.Zz L).Zs t j (.arr q' ug uT)).ob t' 0 = .box cells := by
 have h1 : (σ.Zz L).ob t j ≠ .none := by rw [St.Js, if_neg hn, ho]; simp
 rw [St.XK _ t j _ t' 0 h1]
 split
 ·rename_i hc; rw [hc.1, hc.2, ho] at hb; cases hb
 ·rw [St.Js]
  split
  ·rename_i hc
   obtain ⟨q, s, rows, he⟩ := Og hm (t', 0) (by rw [hL]; exact hc)
   rw [he] at hb; cases hb
  ·exact hb
structure StM (P : Program) (σ : St) (T : TypeId) (x y : Operand) (t j i c size : Nat) (rows : List (List D)) (ds : List D) (l : List (Nat × Nat)) : Prop where
 hx : unc (look P σ 0 x) = .one (.ptr t j i c)
 ho : σ.ob t j = .arr true size rows
 hi : i < rows.length
 h1 : yW P T = true /\ gOf (look P σ 0 x) = true /\ gOf (look P σ T y) = true /\ (unc (look P σ T y)).flat = true
 h2 : JO σ (unc (look P σ T y)).cells = some ds
 h3 : QG σ (unc (look P σ T y)).cells
 h4 : XE (unc (look P σ T y)).cells = l
 h5 : l.Nodup /\ (t, j) ∉ l /\ (σ.Zz l).zb (At.isT t) = false
 h6 : ds.length = P.cellsOf T /\ c + P.cellsOf T <= size
theorem StM.QU {P : Program} {o : Oper} {T : TypeId} {x y : Operand} (uE : o.op = .store T x y) {t j i c size : Nat} {rows : List (List D)} {ds : List D} {l : List (Nat × Nat)} : ∀ (q : List (Nat × V)) {σ : St}, (∀ p ∈ q, jl o p.1 = true /\ P4 p.2 = true) -> StM P σ T x y t j i c size rows ds l -> StM P (σ.QU q) T x y t j i c size rows ds l
 | [], _, _, h => h
 | p :: q, σ, hq, h => by
  refine StM.QU uE q (fun p' og => hq p' (by simp [og])) ?_
  obtain ⟨hu, hp⟩ := hq p (by simp)
  simp only [jl, uE, Bool.and_eq_true, Bool.not_eq_true'] at hu
  have hv : p.2.zb (At.isT t) = false := by
   generalize p.2 = v at hp
   unfold P4 at hp
   split at hp <;> first | rfl | cases hp
  refine ⟨?_, ?_, h.hi, ?_, ?_, ?_, ?_, ⟨h.h5.1, h.h5.2.1, ?_⟩, h.h6⟩
  ·rw [XB hu.1]; exact h.hx
  ·rw [St.QP]; exact h.ho
  ·rw [XB hu.1, XB hu.2]; exact h.h1
  ·rw [XB hu.2, Pu]; exact h.h2
  ·rw [XB hu.2, TW]; exact h.h3
  ·rw [XB hu.2]; exact h.h4
  ·rw [We]; exact GV hv h.h5.2.2
theorem RT {l : List (Nat × Nat)} {t j : Nat} {ob : Ob} : ∀ (q : List (Nat × V)) (σ : St), ((σ.QU q).Zz l).Zs t j ob = ((σ.Zz l).Zs t j ob).QU q
 | [], _ => rfl
 | p :: q, σ => by rw [St.QU, St.QU, RT q, We, zY]
theorem PS {P : Program} {ops : Array Oper} {o : Oper} {σ : St} {T : TypeId} {x y : Operand} {t j i c size : Nat} {rows : List (List D)} {ds : List D} {l : List (Nat × Nat)} (uE : o.op = .store T x y) (hg : o.guard = none) (hd : o.dst = none) (h : StM P σ T x y t j i c size rows ds l) :
  ka P ops o σ ((σ.Zz l).Zs t j (.arr true size (rows.set i (place (rowAt rows i) c ds)))) := by
 obtain ⟨hx, ho, hi, h1, h2, h3, h4, h5, h6⟩ := h
 subst h4
 rintro T0 B a w K Q' ⟨X, hh, r⟩ hK
 have hw : Region.wanted o (yielded ops a.tmps) = true := by simp [Region.wanted, hg]
 rw [if_pos hw]
 exact NW r uE hd h1.1 h1.2.1 h1.2.2.1 hx ho hi h1.2.2.2 h2 h3 h5.1 h5.2.1 h5.2.2 h6.1 h6.2 hK
theorem CY {P : Program} {ops : Array Oper} {bar : Oper -> Bool} {o : Oper} {rest : List Oper} {σ : St} {Q : St -> Prop} {T : TypeId} {x y : Operand} {t j i c size : Nat} {rows : List (List D)} {ds : List D} {l : List (Nat × Nat)} (uE : o.op = .store T x y) (hg : o.guard = none) (hd : o.dst = none) (uy : bar o = true)
  (hx : unc (look P σ 0 x) = .one (.ptr t j i c)) (ho : σ.ob t j = .arr true size rows) (hi : i < rows.length) (h1 : yW P T = true /\ gOf (look P σ 0 x) = true /\ gOf (look P σ T y) = true /\ (unc (look P σ T y)).flat = true)
  (h2 : JO σ (unc (look P σ T y)).cells = some ds) (h3 : QG σ (unc (look P σ T y)).cells) (h4 : XE (unc (look P σ T y)).cells = l) (h5 : l.Nodup /\ (t, j) ∉ l /\ (σ.Zz l).zb (At.isT t) = false) (h6 : ds.length = P.cellsOf T /\ c + P.cellsOf T <= size)
  (h : Ev P ops bar rest ((σ.Zz l).Zs t j (.arr true size (rows.set i (place (rowAt rows i) c ds)))) Q) : xU P ops bar o rest σ Q := by
 have hm : StM P σ T x y t j i c size rows ds l := ⟨hx, ho, hi, h1, h2, h3, h4, h5, h6⟩
 refine ⟨_, .inr ⟨uy, PS uE hg hd hm, fun d' _ hc => Xp (Qb hc), fun _ => ⟨⟨by rw [St.Y0, St.Jr], fun u => by rw [St.Xj, St.yM]⟩, fun q hq => ?_, fun t' cells hb => ?_⟩, fun hh => by simp [jk, uE] at hh, fun hh _ => by simp [Jq, uE] at hh⟩, Qr h⟩
 ·rw [<- RT]
  exact ⟨PS uE hg hd (hm.QU uE q hq), fun d' _ hc => Xp (Qb hc)⟩
 ·exact P6 hm.h2 hm.h4 hm.ho hm.h5.2.1 hb
theorem HG {P : Program} {ops : Array Oper} {o : Oper} {σ : St} {T : TypeId} {x y : Operand} {t j i size : Nat} {rows : List (List D)} {ds : List D} {l : List (Nat × Nat)} (uE : o.op = .store T x y) (hg : o.guard = none) (hd : o.dst = none) (tr : ds.length = size) (h : StM P σ T x y t j i 0 size rows ds l) :
  ka P ops o σ ((σ.Zz l).Zs t j (.arr true size (rows.set i ds))) := by
 rintro T0 B a w K Q' ⟨X, hh, r⟩ hK
 refine PS uE hg hd h T0 B a w K Q' ⟨X, hh, r⟩ ?_
 have h0 := r.obj t j
 rw [h.ho] at h0
 obtain ⟨_, _, _, hz, _⟩ := h0
 have e : place (rowAt rows i) 0 ds = ds := by
  have hr : (rowAt rows i).length = size := by
   have : rowAt rows i = rows[i]'h.hi := by simp [rowAt, List.getD_eq_getElem?_getD, List.getElem?_eq_getElem h.hi]
   rw [this]; exact hz _ (List.getElem_mem h.hi)
  unfold place
  rw [List.take_zero, List.nil_append, List.drop_eq_nil_of_le (by omega), List.append_nil]
 rw [e]; exact hK
theorem CB {P : Program} {ops : Array Oper} {bar : Oper -> Bool} {o : Oper} {rest : List Oper} {σ : St} {Q : St -> Prop} {T : TypeId} {x y : Operand} {t j i size : Nat} {rows : List (List D)} {ds : List D} {l : List (Nat × Nat)} (uE : o.op = .store T x y) (hg : o.guard = none) (hd : o.dst = none) (uy : bar o = true)
  (hx : unc (look P σ 0 x) = .one (.ptr t j i 0)) (ho : σ.ob t j = .arr true size rows) (hi : i < rows.length) (h1 : yW P T = true /\ gOf (look P σ 0 x) = true /\ gOf (look P σ T y) = true /\ (unc (look P σ T y)).flat = true)
  (h2 : JO σ (unc (look P σ T y)).cells = some ds) (h3 : QG σ (unc (look P σ T y)).cells) (h4 : XE (unc (look P σ T y)).cells = l) (h5 : l.Nodup /\ (t, j) ∉ l /\ (σ.Zz l).zb (At.isT t) = false) (h6 : ds.length = P.cellsOf T /\ P.cellsOf T = size)
  (h : Ev P ops bar rest ((σ.Zz l).Zs t j (.arr true size (rows.set i ds))) Q) : xU P ops bar o rest σ Q := by
 have hm : StM P σ T x y t j i 0 size rows ds l := ⟨hx, ho, hi, h1, h2, h3, h4, h5, h6.1, by omega⟩
 have hf : ds.length = size := by omega
 refine ⟨_, .inr ⟨uy, HG uE hg hd hf hm, fun d' _ hc => Xp (Qb hc), fun _ => ⟨⟨by rw [St.Y0, St.Jr], fun u => by rw [St.Xj, St.yM]⟩, fun q hq => ?_, fun t' cells hb => ?_⟩, fun hh => by simp [jk, uE] at hh, fun hh _ => by simp [Jq, uE] at hh⟩, Qr h⟩
 ·rw [<- RT]
  exact ⟨HG uE hg hd hf (hm.QU uE q hq), fun d' _ hc => Xp (Qb hc)⟩
 ·exact P6 hm.h2 hm.h4 hm.ho hm.h5.2.1 hb
structure StN (P : Program) (σ : St) (T : TypeId) (x y : Operand) (t j i c k q n size : Nat) (s rows : List (List D)) (ds : List D) (l : List (Nat × Nat)) : Prop where
 hx : unc (look P σ 0 x) = .one (.tref t j i c (some (k * n + q)))
 ho : σ.ob t j = .arr true size rows
 hi : i < rows.length
 hc : (rows.getD i [])[c]? = some (.sl n s)
 hk : k < s.length
 h1 : yW P T = true /\ gOf (look P σ 0 x) = true /\ gOf (look P σ T y) = true /\ (unc (look P σ T y)).flat = true
 h2 : JO σ (unc (look P σ T y)).cells = some ds
 h3 : QG σ (unc (look P σ T y)).cells
 h4 : XE (unc (look P σ T y)).cells = l
 h5 : l.Nodup /\ (t, j) ∉ l
 h6 : ds.length = P.cellsOf T /\ q + P.cellsOf T <= n
theorem StN.QU {P : Program} {o : Oper} {T : TypeId} {x y : Operand} (uE : o.op = .store T x y) {t j i c k n0 n size : Nat} {s rows : List (List D)} {ds : List D} {l : List (Nat × Nat)} : ∀ (q : List (Nat × V)) {σ : St}, (∀ p ∈ q, jl o p.1 = true /\ P4 p.2 = true) -> StN P σ T x y t j i c k n0 n size s rows ds l -> StN P (σ.QU q) T x y t j i c k n0 n size s rows ds l
 | [], _, _, h => h
 | p :: q, σ, hq, h => by
  refine StN.QU uE q (fun p' og => hq p' (by simp [og])) ?_
  obtain ⟨hu, hp⟩ := hq p (by simp)
  simp only [jl, uE, Bool.and_eq_true, Bool.not_eq_true'] at hu
  refine ⟨?_, ?_, h.hi, h.hc, h.hk, ?_, ?_, ?_, ?_, h.h5, h.h6⟩
  ·rw [XB hu.1]; exact h.hx
  ·rw [St.QP]; exact h.ho
  ·rw [XB hu.1, XB hu.2]; exact h.h1
  ·rw [XB hu.2, Pu]; exact h.h2
  ·rw [XB hu.2, TW]; exact h.h3
  ·rw [XB hu.2]; exact h.h4
theorem Iw {P : Program} {ops : Array Oper} {o : Oper} {σ : St} {T : TypeId} {x y : Operand} {t j i c k q n size : Nat} {s rows : List (List D)} {ds : List D} {l : List (Nat × Nat)} (uE : o.op = .store T x y) (hg : o.guard = none) (hd : o.dst = none) (h : StN P σ T x y t j i c k q n size s rows ds l) :
  ka P ops o σ ((σ.Zz l).Zs t j (.arr true size (rows.set i (place (rowAt rows i) c [.sl n (s.set k (place (rowAt s k) q ds))])))) := by
 obtain ⟨hx, ho, hi, hc, hk, h1, h2, h3, h4, h5, h6⟩ := h
 subst h4
 rintro T0 B a w K Q' ⟨X, hh, r⟩ hK
 have hw : Region.wanted o (yielded ops a.tmps) = true := by simp [Region.wanted, hg]
 rw [if_pos hw]
 exact O1 r uE hd h1.1 h1.2.1 h1.2.2.1 hx ho hi hc hk h1.2.2.2 h2 h3 h5.1 h5.2 h6.1 h6.2 hK
theorem CM {P : Program} {ops : Array Oper} {bar : Oper -> Bool} {o : Oper} {rest : List Oper} {σ : St} {Q : St -> Prop} {T : TypeId} {x y : Operand} {t j i c k q n size : Nat} {s rows : List (List D)} {ds : List D} {l : List (Nat × Nat)} (uE : o.op = .store T x y) (hg : o.guard = none) (hd : o.dst = none) (uy : bar o = true)
  (hm : StN P σ T x y t j i c k q n size s rows ds l)
  (h : Ev P ops bar rest ((σ.Zz l).Zs t j (.arr true size (rows.set i (place (rowAt rows i) c [.sl n (s.set k (place (rowAt s k) q ds))])))) Q) : xU P ops bar o rest σ Q := by
 refine ⟨_, .inr ⟨uy, Iw uE hg hd hm, fun d' _ hc => Xp (Qb hc), fun _ => ⟨⟨by rw [St.Y0, St.Jr], fun u => by rw [St.Xj, St.yM]⟩, fun q hq => ?_, fun t' cells hb => ?_⟩, fun hh => by simp [jk, uE] at hh, fun hh _ => by simp [Jq, uE] at hh⟩, Qr h⟩
 ·rw [<- RT]
  exact ⟨Iw uE hg hd (hm.QU uE q hq), fun d' _ hc => Xp (Qb hc)⟩
 ·exact P6 hm.h2 hm.h4 hm.ho hm.h5.2 hb
end Go.Vm
namespace Go.Vm
open Go.RowKit
def Ss (P : Program) (σ : St) : ResultVar -> Prop × List At
 | .tmp t => (match σ.get t with
  | .one x => (t < σ.length, [x])
  | .agg [] => (t < σ.length, [])
  | .agg (x :: y :: xs) => (t < σ.length, x :: y :: xs)
  | _ => (False, []))
 | .cell t T => (match σ.get t with
  | .one (.bptr u c) => (match σ.ob u 0 with
    | .box cells => (yW P T = true /\ VE P T = true /\ P.cellsOf T ≠ 1 /\ c + P.cellsOf T <= cells.length, cut cells c (P.cellsOf T))
    | _ => (False, []))
  | _ => (False, []))
def Qx (P : Program) (σ : St) : List ResultVar -> Prop × List (List At)
 | [] => (True, [])
 | r :: rs => ((Ss P σ r).1 /\ (Qx P σ rs).1, (Ss P σ r).2 :: (Qx P σ rs).2)
theorem Dd {P : Program} {σ : St} {r : ResultVar} (h : (Ss P σ r).1) : Mn P σ r (Ss P σ r).2 := by
 cases r with
 | tmp t =>
  simp only [Ss] at h ⊢
  simp only [Mn]
  cases hx : σ.get t with
  | one x => rw [hx] at h; exact ⟨rfl, h⟩
  | agg xs =>
   rw [hx] at h
   match xs, h with
   | [], h => exact ⟨rfl, h⟩
   | [x], h => exact h.elim
   | x :: y :: xs, h => exact ⟨rfl, h⟩
  | any => rw [hx] at h; exact h.elim
  | tup xs => rw [hx] at h; exact h.elim
  | cnd g x => rw [hx] at h; exact h.elim
  | fix u x => rw [hx] at h; exact h.elim
 | cell t T =>
  simp only [Ss] at h ⊢
  split at h
  ·rename_i u c hx
   split at h
   ·rename_i cells ho
    exact ⟨u, c, cells, hx, ho, h.1, h.2.1, h.2.2.1, h.2.2.2, rfl⟩
   ·exact h.elim
  ·exact h.elim
theorem Vk {P : Program} {σ : St} : ∀ {rs : List ResultVar}, (Qx P σ rs).1 -> TJ P σ rs (Qx P σ rs).2
 | [], _ => rfl
 | _ :: _, h => ⟨_, _, Dd h.1, Vk h.2, rfl⟩
theorem AI {P : Program} {fn : Func} {σ : St} {res : List (List D)} {rv : List ResultVar} (hf : fn.results = rv.toArray) (h : (Qx P σ rv).1 /\ qZ σ (Qx P σ rv).2 = some res) : GR P fn false res .ret σ :=
 ⟨.inl rfl, _, by rw [hf]; exact Vk h.1, by simpa using h.2⟩
theorem AT {P : Program} {fn : Func} {σ : St} {res : List (List D)} {rv : List ResultVar} (hf : fn.results = rv.toArray) (h : (Qx P σ rv).1 /\ WM σ (Qx P σ rv).2 = some res /\ (XE (Qx P σ rv).2.flatten).Nodup) : GR P fn true res .ret σ :=
 ⟨.inl rfl, _, by rw [hf]; exact Vk h.1, by simpa using h.2⟩
theorem Pn {P : Program} {fn : Func} {σ : St} {res : List (List D)} {rv : List ResultVar} (hf : fn.results = rv.toArray) (h : (Qx P σ rv).1 /\ JS σ (Qx P σ rv).2 = some res /\ JD σ (Qx P σ rv).2 /\ (XE (Qx P σ rv).2.flatten).Nodup) : DH P fn res .ret σ :=
 ⟨.inl rfl, _, by rw [hf]; exact Vk h.1, h.2⟩
attribute [simp] Fm JS JO mvD JD QG IV Yh qI Jv kT kb St.Zz ET Ek Ha AS je Vs Is St.zb V.zb V.Gv Il Wu za At.isT
attribute [simp] isB bOf Ev stops wH SA evS Ge evV HB Ee Uz TV Kx Vz UK Ub PE lkI lkK Vm.look cst unc gOf xZ V.flat V.cells St.put St.Zs St.new St.D8 St.CF St.Bq St.B3 Dp Po Ci
 Ms Uw ldV cut place rowOf Kg J1 At.Hh QF V.Jt YZ yu xa I9 vOf kz zd Qx Ss qZ WM ownRow qB XE xl Sx YN At.ref D.scalar JQ D.Hl zD BY X2
end Go.Vm
namespace Go.Vm
open Go.RowKit
section
variable {P : Program} {T0 : CS} {B : Nat -> Prop} {σ : St} {a : Act} {w w' : World} {X X' : Nat -> Prop} {h : Nat -> Nat -> Hd}
theorem Bg {cs : List Value} {row : List D} {S : Nat -> Prop} (ho : Qt w cs row S) : ∃ (hf : Nat -> Hd) (Sk : Nat -> Nat -> Prop), (∀ j c, cs[j]? = some c -> (hf j).v = c) /\ (∀ k b, Sk k b -> S b) /\ (∀ i j b, Sk i b -> Sk j b -> i = j) /\
  ∀ j size rows, row[j]? = some (.sl size rows) -> (∀ b, (hf j).u b -> Sk j b) /\ (∀ b, blk (hf j).v = some b -> (hf j).u b) /\ ∀ T h ob, Qs T h ob w (hf j) (.arr true size rows) := by
 obtain ⟨hl, Sk, h1, h2, h3⟩ := ho
 have hex : ∀ j, ∃ hd : Hd, (∀ c, cs[j]? = some c -> hd.v = c) /\ (∀ size rows, row[j]? = some (.sl size rows) -> (∀ b, hd.u b -> Sk j b) /\ (∀ b, blk hd.v = some b -> hd.u b) /\ ∀ T h ob, Qs T h ob w hd (.arr true size rows)) := by
  intro j
  cases hj : row[j]? with
  | none => exact ⟨Hd.of ((cs[j]?).getD undef), fun c tB => by simp [Hd.of, tB], fun size rows hh => by cases hh⟩
  | some dd =>
   have pq : j < cs.length := by rw [hl]; exact (List.getElem?_eq_some_iff.1 hj).1
   have oS : cs[j]? = some cs[j] := List.getElem?_eq_getElem pq
   cases dd with
   | int k n => exact ⟨Hd.of cs[j], fun c tB => by rw [oS] at tB; cases tB; rfl, fun size rows hh => by cases hh⟩
   | bool k => exact ⟨Hd.of cs[j], fun c tB => by rw [oS] at tB; cases tB; rfl, fun size rows hh => by cases hh⟩
   | str k => exact ⟨Hd.of cs[j], fun c tB => by rw [oS] at tB; cases tB; rfl, fun size rows hh => by cases hh⟩
   | unk => exact ⟨Hd.of cs[j], fun c tB => by rw [oS] at tB; cases tB; rfl, fun size rows hh => by cases hh⟩
   | sl size rows =>
    have ho := h1 j _ _ oS hj
    generalize hv : cs[j] = v at ho
    cases ho with
    | sl v size rows S e xs nZ ho hz hb hl hk nn uU =>
     refine ⟨⟨v, fun k => (xs[k]?).getD undef, Sk j⟩, fun c tB => by rw [oS, hv] at tB; cases tB; rfl, fun ug uT hh => ?_⟩
     cases hh
     exact ⟨fun b hb => hb, hb, fun T h ob => ⟨e, xs, ho, hz, ⟨hl, nZ, hk, fun k b hb => nn k b hb, uU⟩, fun k x d hx _ _ => by simp [hx]⟩⟩
 obtain ⟨hf, oh⟩ := Classical.axiomOfChoice hex
 exact ⟨hf, Sk, fun j => (oh j).1, h2, h3, fun j => (oh j).2⟩
theorem Qt.top {T : CS} {cs : List Value} {row : List D} {S : Nat -> Prop} (ho : Qt w cs row S) : Z5 (qw T w) cs row := by
 obtain ⟨hl, Sk, h1, h2, h3⟩ := ho
 refine Z5.zq hl (fun k x d hx hd => ?_)
 have ho := h1 k x d hx hd
 cases ho with
 | int k n => exact Rd.int _ _
 | bool b => exact Rd.bool _
 | str s => exact Rd.str _
 | unk v h => exact Rd.unk _ h
 | sl v size rows S e xs nZ ho hz hb hl hk nn uU => exact ⟨e, xs, ho⟩
def wV (n : Nat) (v : Value) (row : List D) (args : List (List D)) : St := (.fix v (vOf (kz 0 0 row)), Yh [] row) :: (Sx args ++ List.replicate (n - (args.length + 1)) (V.any, []))
def St.Am : St -> List At -> List D -> St
 | σ, .sref t j _ _ :: xs, .sl size rows :: ds => St.Am (σ.Zs t j (.arr true size rows)) xs ds
 | σ, _ :: xs, _ :: ds => St.Am σ xs ds
 | σ, _, _ => σ
def HX : List D -> List D -> Prop
 | .sl s r :: ds, .sl s' r' :: oP => s = s' /\ r.length = r'.length /\ HX ds oP
 | .sl _ _ :: _, _ => False
 | _ :: ds, _ :: oP => HX ds oP
 | [], [] => True
 | _, _ => False
def Fy (σ : St) : List At -> Prop
 | [] => True
 | .sref t j _ _ :: xs => (match σ.ob t j with | .arr true _ _ => True | _ => False) /\ Fy σ xs
 | _ :: xs => Fy σ xs
def At.wv : At -> Bool
 | .tref _ _ _ _ _ => true
 | _ => false
theorem PZ : ∀ {xs : List At} {t j : Nat}, (t, j) ∈ XE xs -> ∃ (k lo len : Nat), xs[k]? = some (At.sref t j lo len)
 | [], t, j, h => by cases h
 | x :: xs, t, j, h => by
  cases x with
  | sref t' j' lo len =>
   simp only [XE, List.mem_cons, Prod.mk.injEq] at h
   rcases h with ⟨rfl, rfl⟩ | h
   ·exact ⟨0, lo, len, rfl⟩
   ·obtain ⟨k, lo, len, hk⟩ := PZ h; exact ⟨k + 1, lo, len, by simpa using hk⟩
  | _ => obtain ⟨k, lo, len, hk⟩ := PZ (xs := xs) h; exact ⟨k + 1, lo, len, by simpa using hk⟩
end
theorem Db {σ : St} {d d' : Nat} {v : V} (uH : d ≠ d') (h : Xd σ d = true) : Xd (σ.put d' v) d = true := by
 unfold Xd at *; simp only [xz, if_neg uH]; exact h
end Go.Vm
