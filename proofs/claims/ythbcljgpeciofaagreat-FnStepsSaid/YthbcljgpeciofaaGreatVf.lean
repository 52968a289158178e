/- An abstract machine NW the model of Go, by value, and that it is sound: part Vf. No condition. -/
import Derived.Test.YthbcljgpeciofaaGreatVb
set_option linter.unusedVariables false
set_option linter.unusedSimpArgs false
namespace Go.Vm
open Go.RowKit
def Gw (P : Program) (σ : St) (c : Call) (f : FuncId) (own : Bool) (res : List (List D)) : Prop :=
 ∃ rows, QC P σ c.args.toList c.argTypes.toList rows /\ QB P f own rows res /\ (YM P σ c.args.toList c.argTypes.toList = true \/ JI own res)
def Step (P : Program) (o : Oper) (d : Nat) (σ σ' : St) : Prop :=
 match o.op with
 | .alloc T => σ.fresh d = true /\ XX P T = true /\ ∃ row, qp P 12 T = some row /\ σ' = σ.new d (.one (.bptr d 0)) [.box row]
 | .box T x => σ.fresh d = true /\ gOf (look P σ T x) = true /\ (unc (look P σ T x)).flat = true /\ YF d (unc (look P σ T x)).cells = false /\ σ' = σ.new d (.one (.bptr d 0)) [.box (unc (look P σ T x)).cells]
 | .buildSlice T n parts => (σ.fresh d = true /\ Yq P T = true /\ XX P (ZP P T) = true /\ 0 < P.cellsOf (ZP P T) /\ parts.toList.length = n /\ n * P.cellsOf (ZP P T) <= 16777216 /\
   ((∃ rows, RG P σ (ZP P T) (P.cellsOf (ZP P T)) parts.toList 0 rows /\ σ' = σ.new d (.one (.sref d 0 0 rows.length)) [.arr false (P.cellsOf (ZP P T)) rows]) \/
   (∃ rows, S8 P σ (ZP P T) (P.cellsOf (ZP P T)) parts.toList 0 rows /\ YF d rows.flatten = false /\ σ' = σ.new d (.one (.sref d 0 0 rows.length)) [.lit (P.cellsOf (ZP P T)) rows]))) \/
   ((Yq P T = true /\ XX P (ZP P T) = true /\ 0 < P.cellsOf (ZP P T) /\ parts.toList.length = n /\ n * P.cellsOf (ZP P T) <= 16777216) /\ ∃ rows, RG P σ (ZP P T) (P.cellsOf (ZP P T)) parts.toList 0 rows /\ σ' = σ.put d (.one (.d (.sl (P.cellsOf (ZP P T)) rows))))
 | .makeSlice T x y => x = y /\ σ.fresh d = true /\ Yq P T = true /\ XX P (ZP P T) = true /\ 0 < P.cellsOf (ZP P T) /\
   ∃ q z zr k n, (q = true -> La z = true) /\ qp P 12 (ZP P T) = some z /\ zD z = some zr /\ kN P σ x k (n : Nat) /\ P.bytesOf (ZP P T) * n <= 281474976710656 /\ n <= 9223372036854775807 /\ σ' = σ.new d (.one (.sref d 0 0 n)) [.arr q (P.cellsOf (ZP P T)) (List.replicate n zr)]
 | .call c =>
  (match c.callee with
  | .builtin .append => ∃ x y t, c.args = #[x, y] /\ c.argTypes = #[t, t] /\ gOf (look P σ t x) = true /\ gOf (look P σ t y) = true /\ Yq P t = true /\ XX P (ZP P t) = true /\ 0 < P.cellsOf (ZP P t) /\
    ∃ uC news σ1, Wr σ (unc (look P σ t x)) (P.cellsOf (ZP P t)) uC σ1 /\ qd σ (unc (look P σ t y)) (P.cellsOf (ZP P t)) news /\ σ1.fresh d = true /\
     (uC.length + news.length) * P.bytesOf (ZP P t) <= 140737488355328 /\ uC.length + news.length <= 9223372036854775807 /\ σ' = σ1.new d (.one (.sref d 0 0 (uC.length + news.length))) [.arr false (P.cellsOf (ZP P t)) (uC ++ news)]
  | .value (.func f) => (∃ own res, Gw P σ c f own res /\ σ' = σ.put d (ye res)) \/ (∃ res, Gw P σ c f true res /\ σ.fresh d = true /\ σ' = σ.new d (xL d res) (zW res.flatten)) \/
    (∃ rows res qs, QC P σ c.args.toList c.argTypes.toList rows /\ YP P f rows res /\ xk qs res.flatten /\ σ.fresh d = true /\ σ' = σ.new d (xL d res) (Yc qs res.flatten))
  | _ => ∃ v, YJ P σ o.op o.type v /\ σ' = σ.put d v)
 | .convert S T x =>
   (∃ v, YJ P σ o.op o.type v /\ σ' = σ.put d v) \/
   (∃ l, gOf (look P σ S x) = true /\ Sl P S = true /\ W8 P T = true /\ qd σ (unc (look P σ S x)) 1 (J1 l) /\ σ' = σ.put d (.one (.d (.str ⟨l.toArray⟩)))) \/
   (∃ s, gOf (look P σ S x) = true /\ W8 P S = true /\ Sl P T = true /\ unc (look P σ S x) = .one (.d (.str s)) /\ s.size <= 9223372036854775807 /\ σ' = σ.put d (.one (.d (.sl 1 (J1 s.data.toList)))))
 | _ => ∃ v, YJ P σ o.op o.type v /\ σ' = σ.put d v
def zi (P : Program) (σ : St) (T : TypeId) (x y : Operand) (σ' : St) : Prop :=
 yf P T = true /\ gOf (look P σ 0 x) = true /\ gOf (look P σ T y) = true /\ (unc (look P σ T y)).flat = true /\
  (match unc (look P σ 0 x) with
  | .one (.bptr t c) => ∃ cells, σ.ob t 0 = .box cells /\ (unc (look P σ T y)).cells.length = P.cellsOf T /\ c + P.cellsOf T <= cells.length /\ σ' = σ.Zs t 0 (.box (place cells c (unc (look P σ T y)).cells))
  | .one (.ptr t j i c) => ∃ q size rows ds, σ.ob t j = .arr q size rows /\ i < rows.length /\ rowOf σ (unc (look P σ T y)).cells = some ds /\ Jw (unc (look P σ T y)).cells = true /\ ds.length = P.cellsOf T /\ c + P.cellsOf T <= size /\
    (q = true -> ds.all D.scalar = true /\ (cut (rows.getD i []) c (P.cellsOf T)).all D.scalar = true) /\ σ' = σ.Zs t j (.arr q size (rows.set i (place (rows.getD i []) c ds)))
  | _ => False)
def y8 (want : Bool) : V -> Option Bool
 | .one (.d (.bool b)) => some (b == want)
 | .cnd g (.one (.d (.bool b))) => some (g && (b == want))
 | .cnd false _ => some false
 | _ => none
def PB (P : Program) (o : Oper) (σ : St) (v : V) : Prop :=
 match o.op with
 | .call c =>
  (match c.callee with
  | .value (.func f) => ∃ own res, Gw P σ c f own [res] /\ v = ye [res]
  | _ => ∃ v0, YJ P σ o.op o.type v0 /\ gOf v0 = true /\ v = unc v0 /\ v.flat = true)
 | _ => ∃ v0, YJ P σ o.op o.type v0 /\ gOf v0 = true /\ v = unc v0 /\ v.flat = true
def Yz (P : Program) (ops : Array Oper) (o : Oper) (σ σ' : St) : Prop :=
 match o.guard with
 | none =>
  (match o.dst with
  | some d => Step P o d σ σ'
  | none => (match o.op with | .store T x y => zi P σ T x y σ' | _ => False))
 | some (j, want) => ∃ dj d g v, (ops[j]?).bind (·.dst) = some dj /\ dj < σ.length /\ o.dst = some d /\ y8 want (σ.get dj) = some g /\ (g = true -> PB P o σ v) /\ σ' = σ.put d (.cnd g v)
def kT (P : Program) (ops : Array Oper) (o : Oper) (σ σ' : St) : Prop :=
 ∀ (T0 : CS) (B : Nat -> Prop) (a : Act) (w : World) (K : Act -> World -> Prop) (Q : Exit -> Act -> World -> Prop), JZ T0 B σ a w -> (∀ a' w', JZ T0 B σ' a' w' -> Y9 B w w' -> K a' w') ->
  if Region.wanted o (yielded ops a.tmps) then o.wp P a w K Q else K (a.put o.dst undef) w
def Xb (σ : St) (d : Nat) : Bool := match σ[d]? with | some (.any, []) => true | some (.one (.d _), []) => true | _ => false
def UN (o : Oper) (σ σ' : St) : Prop := ∀ d, o.dst ≠ some d -> Xb σ d = true -> Xb σ' d = true
def WC (o : Oper) : Bool := match o.op with | .store _ _ _ => true | _ => false
def zH (d : Nat) : Operand -> Bool
 | .tmp t => t == d
 | _ => false
def jM (o : Oper) (d : Nat) : Bool := match o.op with | .store _ p q => !zH d p && !zH d q | _ => false
def RL : V -> Bool
 | .any => true
 | .one (.d _) => true
 | _ => false
def St.QO : St -> List (Nat × V) -> St
 | σ, [] => σ
 | σ, p :: l => St.QO (σ.put p.1 p.2) l
def wz (P : Program) (ops : Array Oper) (o : Oper) (σ σ' : St) : Prop :=
 (σ'.length = σ.length /\ ∀ u, σ'.get u = σ.get u) /\ (∀ l : List (Nat × V), (∀ p ∈ l, jM o p.1 = true /\ RL p.2 = true) -> kT P ops o (σ.QO l) (σ'.QO l) /\ UN o (σ.QO l) (σ'.QO l)) /\ ∀ t cells, σ.ob t 0 = .box cells -> σ'.ob t 0 = .box cells
def je (o : Oper) : Bool := match o.op with | .call ⟨.builtin .append, _, _⟩ => true | _ => false
theorem HC {o : Oper} (h : WC o = true) : je o = false := by
 unfold WC at h
 split at h
 ·rename_i uA; simp [je, uA]
 ·cases h
def Tj (o : Oper) (d : Nat) : Bool := !(o.op.operands.toList.any (zH d))
def wP (P : Program) (ops : Array Oper) (o : Oper) (σ σ' : St) : Prop :=
 ∃ d, o.dst = some d /\ σ'.length = σ.length /\ (∀ t, t ≠ d -> σ'.get t = σ.get t /\ (σ.get t).ref d = false) /\ (∀ t j cells, t ≠ d -> σ'.ob t j = .box cells -> σ.ob t j = .box cells /\ YF d cells = false) /\
  (∀ t j q s rows, t ≠ d -> σ'.ob t j = .arr q s rows -> ∃ uQ, σ.ob t j = .arr q s uQ) /\
  ∀ l : List (Nat × V), (∀ p ∈ l, p.1 ≠ d /\ Tj o p.1 = true /\ p.2.ref d = false) -> kT P ops o (σ.QO l) (σ'.QO l) /\ UN o (σ.QO l) (σ'.QO l)
def w8 (P : Program) (t : TypeId) : Bool := match P.underlying t with | some (.pointer _) => true | _ => false
def TX (bar : Oper -> Bool) (o : Oper) : Bool := !bar { o with dst := some 1000000007 }
def wF (bar : Oper -> Bool) (o : Oper) : Bool := (match o.dst with | some d => bar { o with dst := some (d + 2000000) } | none => false) && TX bar o
def Jp (P : Program) (o : Oper) : Bool := match o.op with | .call ⟨.value (.func _), _, ⟨T :: _⟩⟩ => w8 P T | _ => false
def K1 (t d : Nat) (cs : List At) (v : V) : Option (List Ob) -> St -> St
 | none, σ => (σ.Zs t 0 (.box cs)).put d v
 | some os, σ => (σ.Zs t 0 (.box cs)).new d v os
def Am (P : Program) (ops : Array Oper) (o : Oper) (σ σ' : St) : Prop :=
 ∃ d t cells cs v os, o.dst = some d /\ σ.ob t 0 = .box cells /\ (∃ z r, (∃ f ts, o.op = .call ⟨.value (.func f), ⟨z :: r⟩, ts⟩) /\ ∃ ty, unc (look P σ ty z) = .one (.bptr t 0)) /\ (∀ u, YF u cells = false /\ YF u cs = false) /\
  (∀ u, (os = none \/ u ≠ d) -> v.ref u = false /\ ∀ l, os = some l -> Yh u l = false) /\ (os ≠ none -> (σ.Zs t 0 (.box cs)).fresh d = true) /\ σ' = K1 t d cs v os σ /\
  ∀ σ2 : St, σ.length = σ2.length -> (∀ z ∈ o.op.operands.toList, ∀ ty, look P σ ty z = look P σ2 ty z) -> (∀ z ∈ o.op.operands.toList, ∀ ty u, (look P σ ty z).ref u = true -> ∀ j, σ.ob u j ≠ .none -> σ2.ob u j = σ.ob u j) -> (os ≠ none -> (σ2.Zs t 0 (.box cs)).fresh d = true) ->
   kT P ops o σ2 (K1 t d cs v os σ2) /\ UN o σ2 (K1 t d cs v os σ2)
theorem H5 {P : Program} {o : Oper} (h : WC o = true) : Jp P o = false := by
 unfold WC at h
 split at h
 ·rename_i uA; simp [Jp, uA]
 ·cases h
theorem Cm {P : Program} {o : Oper} (h : je o = true) : Jp P o = false := by
 unfold je at h
 split at h
 ·rename_i uA; simp [Jp, uA]
 ·cases h
def Jo (P : Program) (ops : Array Oper) (bar : Oper -> Bool) (o : Oper) (σ σ' : St) : Prop := Yz P ops o σ σ' \/ (bar o = true /\ kT P ops o σ σ' /\ UN o σ σ' /\ (WC o = true -> wz P ops o σ σ') /\ (je o = true -> wP P ops o σ σ') /\ (Jp P o = true -> TX bar o = true -> Am P ops o σ σ'))
def Ic (P : Program) (ops : Array Oper) (bar : Oper -> Bool) : List Oper -> St -> (St -> Prop) -> Prop
 | [], σ, Q => Q σ
 | o :: rest, σ, Q => ∃ σ', Jo P ops bar o σ σ' /\ Ic P ops bar rest σ' Q
section
variable {P : Program} {T0 : CS} {B : Nat -> Prop} {σ : St} {a : Act} {w w' : World} {X X' : Nat -> Prop} {h : Nat -> Nat -> Hd}
theorem T8 (d : Nat) : ∀ (n : Nat) (t : TypeId) (row : List At), qp P n t = some row -> YF d row = false := by
 intro n
 induction n with
 | zero => intro t row hr; simp [qp] at hr
 | succ n ih =>
  intro t row hr
  have ia : ∀ (rs : List (List At)), (∀ r ∈ rs, YF d r = false) -> YF d rs.flatten = false := by
   intro rs sc
   have app : ∀ (xs ys : List At), YF d xs = false -> YF d ys = false -> YF d (xs ++ ys) = false := by
    intro xs ys hx hy
    induction xs with
    | nil => exact hy
    | cons x xs na => simp only [List.cons_append, YF, Bool.or_eq_false_iff] at hx ⊢; exact ⟨hx.1, na hx.2⟩
   induction rs with
   | nil => rfl
   | cons r rs na => rw [List.flatten_cons]; exact app _ _ (sc r (by simp)) (na (fun r hr => sc r (by simp [hr])))
  rw [qp] at hr
  split at hr
  ·cases hr; rfl
  ·cases hr; rfl
  ·cases hr; rfl
  ·cases hr; rfl
  ·rename_i fs _
   simp only [Option.map_eq_some_iff] at hr
   obtain ⟨rs, sc, rfl⟩ := hr
   refine ia rs ?_
   have : ∀ (l : List Field) (rs : List (List At)), l.mapM (fun f => qp P n f.type) = some rs -> ∀ r ∈ rs, YF d r = false := by
    intro l
    induction l with
    | nil => intro rs hh r hr; simp at hh; subst hh; cases hr
    | cons f l na =>
     intro rs hh r hr
     simp only [List.mapM_cons, Option.bind_eq_bind, Option.bind_eq_some_iff] at hh
     obtain ⟨r0, rO, lA, mN, hh⟩ := hh
     simp at hh; subst hh
     rcases List.mem_cons.1 hr with rfl | hr
     ·exact ih f.type _ rO
     ·exact na lA mN r hr
   exact this fs.toList rs sc
  ·simp only [Option.map_eq_some_iff] at hr
   obtain ⟨r0, rO, rfl⟩ := hr
   exact ia _ (fun r hr => by rw [List.eq_of_mem_replicate hr]; exact ih _ _ rO)
  ·cases hr
theorem Vl {o : Oper} {d : Nat} {v : V} (r : Rel T0 B σ a w X h) (hd : o.dst = some d) (hex : ∃ val, (execOp a.eval o).run P w = .ok (.value val) w /\ QI (Tof T0 X) h σ.ob w v val)
  {K : Act -> World -> Prop} {Q : Exit -> Act -> World -> Prop} (hK : ∀ a' w', JZ T0 B (σ.put d v) a' w' -> Y9 B w w' -> K a' w') : o.wp P a w K Q := by
 obtain ⟨val, uT, hv⟩ := hex
 unfold Oper.wp
 rw [uT, Oper.upon_value, hd]
 exact hK _ _ ⟨X, h, r.put d v val hv⟩ (Y9.refl _ _)
theorem F1 (r : Rel T0 B σ a w X h) {o : Oper} {d : Nat} {σ' : St} (hd : o.dst = some d) (hs : Step P o d σ σ') {K : Act -> World -> Prop} {Q : Exit -> Act -> World -> Prop}
  (hK : ∀ a' w', JZ T0 B σ' a' w' -> Y9 B w w' -> K a' w') : o.wp P a w K Q := by
 have ta : (∃ v, YJ P σ o.op o.type v /\ σ' = σ.put d v) -> o.wp P a w K Q := by
  rintro ⟨v, hv, rfl⟩
  exact Vl r hd (PR r hv) hK
 unfold Step at hs
 split at hs
 ·rename_i T uA
  obtain ⟨hf, hz, row, ur, rfl⟩ := hs
  exact Gz r uA hd hf hz ur (T8 d _ _ _ ur) hK
 ·rename_i T x uA
  obtain ⟨hf, hg, tg, hr, rfl⟩ := hs
  exact E0 r uA hd hf hg tg hr hK
 ·rename_i T n parts uA
  rcases hs with ⟨hf, h1, h2, h3, h4, h5, ⟨rows, h6, rfl⟩ | ⟨rows, h6, h7, rfl⟩⟩ | ⟨⟨h1, h2, h3, h4, h5⟩, rows, h6, rfl⟩
  ·exact RX r uA hd hf h1 h2 h3 h4 h5 h6 hK
  ·exact Vr r uA hd hf h1 h2 h3 h4 h5 h6 h7 hK
  ·exact Ij r uA hd h1 h2 h3 h4 h5 h6 hK
 ·rename_i T x y uA
  obtain ⟨rfl, hf, h1, h2, h3, q, z, zr, k, n, hq, h4, h5, h6, h7, h8, rfl⟩ := hs
  cases q with
  | false => exact OE r uA hd hf h1 h2 h4 h5 h3 h6 h7 h8 hK
  | true => exact N6 r uA hd hf h1 h2 h4 h5 (hq rfl) h3 h6 h7 h8 hK
 ·rename_i c uA
  split at hs
  ·rename_i hc
   obtain ⟨x, y, t, ha, rj, h1, h2, h3, h4, h5, uC, news, σ1, h6, h7, h8, h9, ru, rfl⟩ := hs
   refine It r (t := t) (x := x) (y := y) ?_ hd h1 h2 h3 h4 h5 h6 h7 h8 h9 ru hK
   rw [uA]
   obtain ⟨cc, ca, ct⟩ := c
   simp only at hc ha rj
   rw [hc, ha, rj]
  ·rename_i f hc
   rcases hs with ⟨own, res, ⟨rows, ha, hs, tA⟩, rfl⟩ | ⟨res, ⟨rows, ha, hs, tA⟩, hf, rfl⟩ | ⟨rows, res, qs, ha, hs, hq, hf, rfl⟩
   ·rcases tA with tA | tA
    ·exact jJ r uA hc hd ha true (fun _ => tA) (fun hh => by cases hh) hs hK
    ·exact jJ r uA hc hd ha false (fun hh => by cases hh) (fun _ => tA) hs hK
   ·rcases tA with tA | tA
    ·exact TW r uA hc hd hf ha true (fun _ => tA) (fun hh => by cases hh) hs hK
    ·exact TW r uA hc hd hf ha false (fun hh => by cases hh) (fun _ => tA) hs hK
   ·exact Hz r qs uA hc hd hf ha hs hq hK
  ·exact ta hs
 ·rename_i S T x uA
  rcases hs with hs | ⟨l, h1, h2, h3, h4, rfl⟩ | ⟨s, h1, h2, h3, h4, h5, rfl⟩
  ·exact ta hs
  ·exact Vl r hd (U8 r uA h1 h2 h3 h4) hK
  ·exact TD r uA hd h1 h2 h3 h4 h5 hK
 ·exact ta hs
theorem IY (r : Rel T0 B σ a w X h) {o : Oper} {T : TypeId} {x y : Operand} {σ' : St} (uA : o.op = .store T x y) (hd : o.dst = none) (hs : zi P σ T x y σ') {K : Act -> World -> Prop} {Q : Exit -> Act -> World -> Prop}
  (hK : ∀ a' w', JZ T0 B σ' a' w' -> Y9 B w w' -> K a' w') : o.wp P a w K Q := by
 obtain ⟨ht, r7, r8, tg, hs⟩ := hs
 split at hs
 ·rename_i t c hx
  obtain ⟨cells, ho, hl, hle, rfl⟩ := hs
  exact NF r uA hd ht r7 r8 hx ho tg hl hle hK
 ·rename_i t j i c hx
  obtain ⟨q, size, rows, ds, ho, hi, oX, uf, hl, hle, hq, rfl⟩ := hs
  refine NT r uA hd ht r7 r8 hx ho hi tg oX uf hl hle (fun hh => ⟨fun d uM => ?_, fun k d hk uM => ?_⟩) hK
  ·exact List.all_eq_true.1 (hq hh).1 d uM
  ·refine List.all_eq_true.1 (hq hh).2 d (List.mem_of_getElem? (i := k) ?_)
   simp only [cut, List.getElem?_take, if_pos hk, List.getElem?_drop]; exact uM
 ·exact hs.elim
theorem PJ {T : CS} {ob : Nat -> Nat -> Ob} {v : V} {val : Value} (hf : (unc v).flat = true) (hv : QI T h ob w (unc v) val) : Jh T h ob w (unc v) val := by
 cases hu : unc v with
 | one x => rw [hu] at hv; exact hv
 | agg xs => rw [hu] at hv; exact hv
 | any => rw [hu] at hf; cases hf
 | tup xs => rw [hu] at hf; cases hf
 | cnd g x => rw [hu] at hf; cases hf
 | fix u x => rw [hu] at hf; cases hf
theorem Gq (r : Rel T0 B σ a w X h) {ops : Array Oper} {o : Oper} {j dj : Nat} {want g : Bool} (oA : o.guard = some (j, want)) (tx : (ops[j]?).bind (·.dst) = some dj) (uL : dj < σ.length) (hg : y8 want (σ.get dj) = some g) :
  Region.wanted o (yielded ops a.tmps) = g := by
 have tG : dj < a.tmps.size := by rw [r.size]; exact uL
 have hv := r.slot dj uL
 have ib : a.tmps.getD dj undef = a.tmps[dj] := by simp [tG]
 rw [ib] at hv
 have hy : yielded ops a.tmps j = (match a.tmps[dj] with | .bool b => some b | _ => none) := by
  unfold yielded
  rw [tx]
  simp only [Option.bind_some, Array.getElem?_eq_getElem tG]
  cases a.tmps[dj] <;> rfl
 simp only [Region.wanted, oA, hy]
 unfold y8 at hg
 split at hg
 ·rename_i b iW
  rw [iW] at hv
  rw [xe hv]
  cases hg
  cases b <;> cases want <;> rfl
 ·rename_i g0 b iW
  rw [iW] at hv
  cases hg
  cases g0 with
  | true =>
   rw [xe (hv.1 rfl)]
   cases b <;> cases want <;> rfl
  | false =>
   rw [hv.2 rfl]
   simp [undef]
 ·rename_i iW
  rw [iW] at hv
  cases hg
  rw [hv.2 rfl]
  simp [undef]
 ·cases hg
theorem Gk (r : Rel T0 B σ a w X h) {ops : Array Oper} {o : Oper} {σ' : St} (hs : Yz P ops o σ σ') {K : Act -> World -> Prop} {Q : Exit -> Act -> World -> Prop}
  (hK : ∀ a' w', JZ T0 B σ' a' w' -> Y9 B w w' -> K a' w') : if Region.wanted o (yielded ops a.tmps) then o.wp P a w K Q else K (a.put o.dst undef) w := by
 unfold Yz at hs
 split at hs
 ·rename_i hg
  have hw : Region.wanted o (yielded ops a.tmps) = true := by simp [Region.wanted, hg]
  rw [if_pos hw]
  split at hs
  ·rename_i d hd; exact F1 r hd hs hK
  ·rename_i hd
   split at hs
   ·rename_i T x y uA; exact IY r uA hd hs hK
   ·exact hs.elim
 ·rename_i j want hg
  obtain ⟨dj, d, g, v, tx, uL, hd, sE, hs, rfl⟩ := hs
  rw [Gq r hg tx uL sE]
  cases g with
  | false =>
   simp only [Bool.false_eq_true, if_false]
   rw [hd]
   exact hK _ _ ⟨X, h, r.put d _ _ ⟨(fun hh => by cases hh), fun _ => rfl⟩⟩ (Y9.refl _ _)
  | true =>
   simp only [if_true]
   have u9 := hs rfl
   clear hs
   have ta : (∃ v0, YJ P σ o.op o.type v0 /\ gOf v0 = true /\ v = unc v0 /\ v.flat = true) -> o.wp P a w K Q := by
    rintro ⟨v0, nQ, lC, rfl, tg⟩
    obtain ⟨val, uT, hv⟩ := PR r nQ
    refine Vl (v := .cnd true (unc v0)) r hd ⟨val, uT, ⟨fun _ => PJ tg (hv.unc lC), fun hh => by cases hh⟩⟩ hK
   unfold PB at u9
   split at u9
   ·rename_i c uA
    split at u9
    ·rename_i f hc
     obtain ⟨own, res, ⟨rows, ha, hs, tA⟩, rfl⟩ := u9
     have fin : ∀ a' w', JZ T0 B (σ.put d (ye [res])) a' w' -> Y9 B w w' -> K a' w' := by
      rintro a' w' ⟨X', h', r'⟩ hb
      refine hK a' w' ⟨X', h', ?_⟩ hb
      refine ⟨by rw [r'.size, St.QH, St.QH], r'.defers, r'.hB, r'.hX, r'.hT, fun t ht => ?_, fun t j => ?_, fun t j b => ?_, fun t j b => ?_, fun t j t' j' b => ?_⟩
      ·rw [St.QH] at ht
       have h0 := r'.slot t (by rw [St.QH]; exact ht)
       rw [St.QF] at h0 ⊢
       rw [St.J2] at h0 ⊢
       by_cases hh : t = d /\ d < σ.length
       ·rw [if_pos hh] at h0 ⊢
        refine ⟨fun _ => ?_, fun hh => by cases hh⟩
        have tg : (unc (vOf (res.map At.d))).flat = true := by
         match res.map At.d with
         | [] => rfl
         | [x] => rfl
         | x :: y :: xs => rfl
        have hu : unc (vOf (res.map At.d)) = vOf (res.map At.d) := by
         match res.map At.d with
         | [] => rfl
         | [x] => rfl
         | x :: y :: xs => rfl
        have := PJ (v := vOf (res.map At.d)) tg (by rw [hu]; exact h0)
        rw [hu] at this; exact this
       ·rw [if_neg hh] at h0 ⊢; exact h0
      ·have := r'.obj t j; rw [St.QF] at this ⊢; exact this
      ·have := r'.ub t j b; rw [St.QF] at this ⊢; exact this
      ·have := r'.own t j b; rw [St.QF] at this ⊢; exact this
      ·have := r'.inj t j t' j' b; rw [St.QF] at this ⊢; exact this
     rcases tA with tA | tA
     ·exact jJ r uA hc hd ha true (fun _ => tA) (fun hh => by cases hh) hs fin
     ·exact jJ r uA hc hd ha false (fun hh => by cases hh) (fun _ => tA) hs fin
    ·exact ta u9
   ·exact ta u9
theorem Vt {ops : Array Oper} {bar : Oper -> Bool} {o : Oper} {σ' : St} (hs : Jo P ops bar o σ σ') : kT P ops o σ σ' := by
 rcases hs with hs | hs
 ·rintro T0 B a w K Q ⟨X, h, r⟩ hK
  exact Gk r hs hK
 ·exact hs.2.1
theorem O2 {ops : Array Oper} {bar : Oper -> Bool} : ∀ {l : List Oper} {σ : St} {a : Act} {w : World} {Q : St -> Prop} {Q' : Exit -> Act -> World -> Prop}, Ic P ops bar l σ Q -> JZ T0 B σ a w ->
  (∀ σ' a' w', Q σ' -> JZ T0 B σ' a' w' -> Y9 B w w' -> Q' .normal a' w') -> wpList P ops Q' l a w
 | [], σ, a, w, Q, Q', hr, tj, hK => hK σ a w hr tj (Y9.refl _ _)
 | o :: l, σ, a, w, Q, Q', ⟨σ', hs, hr⟩, tj, hK => by
  refine wpList_step fun K cU => ?_
  exact Vt hs _ _ _ _ _ _ tj (fun a' w' tj hb => cU _ _ (O2 hr tj (fun σ2 a2 w2 hq od u4 => hK σ2 a2 w2 hq od (hb.trans u4))))
end
end Go.Vm
namespace Go.Vm
open Go.RowKit
def AWP (P : Program) (c : Code) (Q : Exit -> St -> Prop) (σ : St) : Prop :=
 ∀ (T0 : CS) (B : Nat -> Prop) (a : Act) (w : World), JZ T0 B σ a w -> c.wp P (fun e a' w' => ∃ σ', Q e σ' /\ JZ T0 B σ' a' w' /\ Y9 B w w') a w
def Wk (σ σ' : St) : Prop := ∀ (T0 : CS) (B : Nat -> Prop) (a : Act) (w : World), JZ T0 B σ a w -> JZ T0 B σ' a w
def MB (next : St -> Prop) (Q : Exit -> St -> Prop) : Exit -> St -> Prop
 | .normal, σ => next σ
 | e, σ => Q e σ
def VZ (id : Nat) (Q : Exit -> St -> Prop) : Exit -> St -> Prop
 | .exit m3, σ => if m3 = id then Q .normal σ else Q (.exit m3) σ
 | e, σ => Q e σ
section
variable {P : Program} {Q : Exit -> St -> Prop} {σ : St}
theorem Wk.refl (σ : St) : Wk σ σ := fun _ _ _ _ h => h
theorem Wk.trans {σ σ' σ'' : St} (h : Wk σ σ') (k : Wk σ' σ'') : Wk σ σ'' := fun _ _ _ _ r => k _ _ _ _ (h _ _ _ _ r)
theorem GP {c : Code} {Q' : Exit -> St -> Prop} (h : ∀ e σ, Q e σ -> Q' e σ) (k : AWP P c Q σ) : AWP P c Q' σ :=
 fun T0 B a w r => wp_mono (k T0 B a w r) fun e _ _ ⟨σ', hq, hr⟩ => ⟨σ', h e σ' hq, hr⟩
theorem D4 (h : Q .normal σ) : AWP P .skip Q σ := fun _ B _ w r => wp_skip ⟨σ, h, r, Y9.refl B w⟩
theorem D9 {id : Nat} (h : Q (.exit id) σ) : AWP P (.exit id) Q σ := fun _ B _ w r => wp_exit ⟨σ, h, r, Y9.refl B w⟩
theorem Bc (h : Q .ret σ) : AWP P .ret Q σ := fun _ B _ w r => wp_ret ⟨σ, h, r, Y9.refl B w⟩
theorem Fw {id : Nat} {l : List Oper} {bar : Oper -> Bool} (h : Ic P l.toArray bar l σ (Q .normal)) : AWP P (.region id l.toArray false) Q σ :=
 fun _ _ _ _ r => wp_region_lit (O2 h r fun σ' _ _ hq hr hb => ⟨σ', hq, hr, hb⟩)
theorem BU {x y : Code} (h : AWP P x (MB (AWP P y Q) Q) σ) : AWP P (.seq x y) Q σ := by
 intro T0 B a w r
 refine wp_seq (wp_mono (h T0 B a w r) ?_)
 rintro e a' w' ⟨σ', hq, hr, hb⟩
 cases e with
 | normal => exact wp_mono (hq T0 B a' w' hr) fun e _ _ ⟨σ2, h1, h2, h3⟩ => ⟨σ2, h1, h2, hb.trans h3⟩
 | exit id => exact ⟨σ', hq, hr, hb⟩
 | goto l => exact ⟨σ', hq, hr, hb⟩
 | ret => exact ⟨σ', hq, hr, hb⟩
 | panic ch => exact ⟨σ', hq, hr, hb⟩
 | outgrown => exact ⟨σ', hq, hr, hb⟩
theorem Dt {c : Operand} {x y : Code} {b : Bool} (hc : look P σ 0 c = .one (.d (.bool b))) (ht : b = true -> AWP P x Q σ) (hf : b = false -> AWP P y Q σ) : AWP P (.cond c x y) Q σ := by
 intro T0 B a w r
 obtain ⟨X, h, rr⟩ := r
 have hv := rr.look (P := P) 0 c
 rw [hc] at hv
 exact wp_cond_split (xe hv) (fun hb => ht hb T0 B a w ⟨X, h, rr⟩) (fun hb => hf hb T0 B a w ⟨X, h, rr⟩)
theorem DS {id : Nat} {c : Code} (h : AWP P c (VZ id Q) σ) : AWP P (.block id c) Q σ := by
 intro T0 B a w r
 refine wp_block (wp_mono (h T0 B a w r) ?_)
 rintro e a' w' ⟨σ', hq, hr, hb⟩
 cases e with
 | exit m3 =>
  simp only [VZ] at hq
  simp only [Exit.inBlock]
  split at hq
  ·rename_i hh; rw [if_pos hh]; exact ⟨σ', hq, hr, hb⟩
  ·rename_i hh; rw [if_neg hh]; exact ⟨σ', hq, hr, hb⟩
 | normal => exact ⟨σ', hq, hr, hb⟩
 | goto l => exact ⟨σ', hq, hr, hb⟩
 | ret => exact ⟨σ', hq, hr, hb⟩
 | panic ch => exact ⟨σ', hq, hr, hb⟩
 | outgrown => exact ⟨σ', hq, hr, hb⟩
theorem Vi {c : Code} {ι : Type} (S : ι -> St) (μ : ι -> Nat) (i0 : ι) (h0 : Wk σ (S i0))
  (round : ∀ i, AWP P c (MB (fun σ' => ∃ i', μ i' < μ i /\ Wk σ' (S i')) Q) (S i)) : AWP P (.loop c) Q σ := by
 intro T0 B a w r b k cs
 have key : ∀ n i a w, μ i = n -> JZ T0 B (S i) a w ->
   ∃ e a' w', (∃ σ', Q e σ' /\ JZ T0 B σ' a' w' /\ Y9 B w w') /\ Arrives P (lone (b.at a (.code c :: .inLoop c :: k)) cs w) b k cs e a' w' := by
  intro n
  induction n using Nat.strongRecOn with
  | _ n ih =>
   intro i a w hn hr
   obtain ⟨e, a₁, w₁, ⟨σ₁, hq, lO, lP⟩, tX⟩ := round i T0 B a w hr b (.inLoop c :: k) cs
   cases e with
   | normal =>
    obtain ⟨i', uL, cV⟩ := hq
    obtain ⟨e₂, a₂, w₂, ⟨σ₂, cW, cX, cY⟩, iX⟩ := ih (μ i') (hn ▸ uL) i' a₁ w₁ rfl (cV T0 B a₁ w₁ lO)
    exact ⟨e₂, a₂, w₂, ⟨σ₂, cW, cX, lP.trans cY⟩, .of_steps (Steps.trans tX (.one step_inLoop)) iX⟩
   | exit id => exact ⟨_, a₁, w₁, ⟨σ₁, hq, lO, lP⟩, .pass (x := .inLoop c) rfl (fun _ _ => .inl (by simp)) tX⟩
   | goto l => exact ⟨_, a₁, w₁, ⟨σ₁, hq, lO, lP⟩, .pass (x := .inLoop c) rfl (fun _ _ => .inl (by simp)) tX⟩
   | ret => exact ⟨_, a₁, w₁, ⟨σ₁, hq, lO, lP⟩, .pass (x := .inLoop c) rfl (fun _ _ => .inl (by simp)) tX⟩
   | panic ch => exact ⟨_, a₁, w₁, ⟨σ₁, hq, lO, lP⟩, .pass (x := .inLoop c) rfl (fun _ _ => .inl (by simp)) tX⟩
   | outgrown => exact ⟨_, a₁, w₁, ⟨σ₁, hq, lO, lP⟩, .pass (x := .inLoop c) rfl (fun _ _ => .inl (by simp)) tX⟩
 obtain ⟨e, a', w', hq, tX⟩ := key _ i0 a w rfl (h0 T0 B a w r)
 exact ⟨e, a', w', hq, .of_steps (.one step_loop) tX⟩
end
/-! ### entering a function, and leaving it -/
def T6 : List (List D) -> St
 | [] => []
 | r :: rs => (vOf (r.map .d), []) :: T6 rs
def xn (n : Nat) (args : List (List D)) : St := T6 args ++ List.replicate (n - args.length) (V.any, [])
def O9 (P : Program) (σ : St) : ResultVar -> List At -> Prop
 | .tmp t, xs => (σ.get t = vOf xs) /\ t < σ.length
 | .cell t T, xs => ∃ u c cells, σ.get t = .one (.bptr u c) /\ σ.ob u 0 = .box cells /\ yf P T = true /\ WG P T = true /\ P.cellsOf T ≠ 1 /\ c + P.cellsOf T <= cells.length /\ xs = cut cells c (P.cellsOf T)
def Vs (P : Program) (σ : St) : List ResultVar -> List (List At) -> Prop
 | [], tT => tT = []
 | r :: rs, tT => ∃ xs rest, O9 P σ r xs /\ Vs P σ rs rest /\ tT = xs :: rest
def xy (σ : St) : List (List At) -> Option (List (List D))
 | [] => some []
 | xs :: rest => (match rowOf σ xs, xy σ rest with | some r, some rs => some (r :: rs) | _, _ => none)
def xr (σ : St) : At -> Option D
 | .d (.sl _ _) => none
 | .d x => some x
 | .nil s => some (.sl s [])
 | .sref t j lo len => (match σ.ob t j with | .arr false size rows => if lo = 0 /\ len = rows.length then some (.sl size rows) else none | _ => none)
 | _ => none
def ownRow (σ : St) : List At -> Option (List D)
 | [] => some []
 | x :: xs => (match xr σ x, ownRow σ xs with | some d, some ds => some (d :: ds) | _, _ => none)
def kd (σ : St) : List (List At) -> Option (List (List D))
 | [] => some []
 | xs :: rest => (match ownRow σ xs, kd σ rest with | some r, some rs => some (r :: rs) | _, _ => none)
def He (P : Program) (fn : Func) (own : Bool) (res : List (List D)) (e : Exit) (σ : St) : Prop :=
 (e = .ret \/ e = .normal) /\ ∃ tT, Vs P σ fn.results.toList tT /\ (if own then kd σ tT = some res /\ (XL tT.flatten).Nodup else xy σ tT = some res)
def E8 (P : Program) (fn : Func) (res : List (List D)) (e : Exit) (σ : St) : Prop :=
 (e = .ret \/ e = .normal) /\ ∃ tT, Vs P σ fn.results.toList tT /\ JL σ tT = some res /\ Qv σ tT /\ (XL tT.flatten).Nodup
end Go.Vm
namespace Go.Vm
open Go.RowKit
section
variable {P : Program} {T0 : CS} {B : Nat -> Prop} {σ : St} {a : Act} {w w' : World} {X X' : Nat -> Prop} {h : Nat -> Nat -> Hd}
theorem UU : ∀ (args : List (List D)) (t : Nat), (T6 args)[t]? = (args[t]?).map fun r => (vOf (r.map .d), [])
 | [], t => by simp [T6]
 | r :: rs, 0 => by simp [T6]
 | r :: rs, t + 1 => by simpa [T6] using UU rs t
theorem QL (args : List (List D)) : (T6 args).length = args.length := by
 induction args with
 | nil => rfl
 | cons r rs ih => simp [T6, ih]
theorem MT {T : CS} {n : Nat} {args : List (List D)} {uu : List Value} (hT : ∀ b k, T b k -> b < w.heap.size) (ha : Zy (fun v row => ∃ cs, Ku v cs /\ Zy (Rd T w) cs row) uu args) :
  JZ T (fun b => b < w.heap.size) (xn n args) { tmps := uu.toArray ++ Array.replicate (n - uu.toArray.size) undef, defers := [] } w := by
 have hl := ha.length
 refine ⟨fun _ => False, fun _ _ => Hd.of undef, ?_⟩
 have uX : ∀ t j, (xn n args).ob t j = .none := by
  intro t j
  unfold St.ob xn
  rcases Nat.lt_or_ge t args.length with h | h
  ·rw [List.getElem?_append_left (by rw [QL]; exact h), UU, List.getElem?_eq_getElem h]
   simp [YS]
  ·rw [List.getElem?_append_right (by rw [QL]; exact h), List.getElem?_replicate]
   split
   ·rename_i e he
    split at he
    ·cases he; simp [YS]
    ·cases he
   ·rfl
 have oa : ∀ b k v, T b k -> w.cell? ⟨b, k, none⟩ = some v -> w.cell? ⟨b, k, none⟩ = some v /\ Tof T (fun _ => False) b k := fun b k v hb hc => ⟨hc, .inl hb⟩
 refine ⟨by simp [xn, QL, hl], rfl, (fun b hb => hb), (fun b hb => hb.elim), hT, fun t ht => ?_, fun t j => by rw [uX]; trivial, fun t j b uD => absurd (uX t j) uD, fun t j b uD => absurd (uX t j) uD, fun t j t' j' b uD => absurd (uX t j) uD⟩
 unfold St.get xn
 rcases Nat.lt_or_ge t args.length with uL | pA
 ·rw [List.getElem?_append_left (by rw [QL]; exact uL), UU, List.getElem?_eq_getElem uL]
  obtain ⟨v, hv, cs, hf, uF⟩ := ha.get' t args[t] (List.getElem?_eq_getElem uL)
  have s3 : (uu.toArray ++ Array.replicate (n - uu.toArray.size) undef).getD t undef = v := by
   rw [Array.getD_eq_getD_getElem?, Array.getElem?_append_left (by simp; omega)]
   simp [hv]
  simp only [s3]
  exact (Oi hf (jX (uF.imp fun _ _ => Rd.mono oa))).up
 ·rw [List.getElem?_append_right (by rw [QL]; exact pA), List.getElem?_replicate]
  split
  ·rename_i e he
   split at he
   ·cases he; trivial
   ·cases he
  ·trivial
theorem Cy {T : CS} {ob : Nat -> Nat -> Ob} {xs : List At} {v : Value} (hv : QI T h ob w (vOf xs) v) : ∃ cs, Ku v cs /\ Zy (YD T h ob w) xs cs := by
 match xs, hv with
 | [], hv =>
  obtain ⟨cs, rfl, uF⟩ := hv
  exact ⟨cs.toList, .inr ⟨by rw [<- uF.length]; simp, by simp⟩, uF⟩
 | [x], hv => exact ⟨[v], .inl ⟨v, rfl, rfl, YD.Xg hv⟩, .cons hv .nil⟩
 | x :: y :: xs, hv =>
  obtain ⟨cs, rfl, uF⟩ := hv
  exact ⟨cs.toList, .inr ⟨by rw [<- uF.length]; simp, by simp⟩, uF⟩
theorem EE (r : Rel T0 B σ a w X h) : ∀ {rs : List ResultVar} {tT : List (List At)}, Vs P σ rs tT ->
  ∃ vs uj, (rs.mapM (m := Sem) fun | .tmp t => pure (a.tmps.getD t undef) | .cell u t => do loadVar t (<- asAddr (a.tmps.getD u undef))).run P w = .ok vs w /\ Zy Ku vs uj /\ Zy (fun xs cs => Zy (YD (Tof T0 X) h σ.ob w) xs cs) tT uj
 | [], tT, hr => by cases hr; exact ⟨[], [], by simp, .nil, .nil⟩
 | rv :: rs, tT, hr => by
  obtain ⟨xs, rest, h1, h2, rfl⟩ := hr
  obtain ⟨vs, uj, uT, hf, uF⟩ := EE r h2
  have one : ∃ v cs, (match rv with | .tmp t => (pure (a.tmps.getD t undef) : Sem Value) | .cell u t => do loadVar t (<- asAddr (a.tmps.getD u undef))).run P w = .ok v w /\ Ku v cs /\ Zy (YD (Tof T0 X) h σ.ob w) xs cs := by
   cases rv with
   | tmp t =>
    obtain ⟨hg, uL⟩ := h1
    have hv := r.slot t uL
    rw [hg] at hv
    obtain ⟨cs, hf, uF⟩ := Cy hv
    exact ⟨_, cs, by simp, hf, uF⟩
   | cell t T =>
    obtain ⟨u, c, cells, hg, ho, sT, rm, uD, hle, rfl⟩ := h1
    have hv := r.get t
    rw [hg] at hv
    obtain ⟨b, cs, e, hb, he, hh, uF⟩ := r.box ho hv
    have hlen := uF.length
    obtain ⟨val, eZ, fa, _⟩ := CT (P := P) (w := w) sT (b := b) (off := c) (cs := cut cs.toList c (P.cellsOf T)) (Yp _ _ _ (by omega)) (fun j u hu => Jt hh _ _ (J5 _ _ _ _ _ hu))
    refine ⟨val, cut cs.toList c (P.cellsOf T), ?_, .inr ⟨by rw [Yp _ _ _ (by omega)]; exact uD, fa rm⟩, uF.cut _ _⟩
    simp only [Instr.loadAt, Instr.sureAddr, Sem.run_bind, Sem.run_pure, Result.andThen_ok] at eZ
    simp only [he, asAddr, Sem.run_bind, Sem.run_pure, Result.andThen_ok]
    exact eZ
  obtain ⟨v, cs, iY, cZ, fb⟩ := one
  refine ⟨v :: vs, cs :: uj, ?_, .cons cZ hf, .cons fb uF⟩
  simp only [List.mapM_cons, Sem.run_bind, iY, Result.andThen_ok, uT, Sem.run_pure]
theorem ki (r : Rel T0 B σ a w X h) {fn : Func} {tT : List (List At)} (hr : Vs P σ fn.results.toList tT) :
  ∃ vs uj, (results fn a.tmps).run P w = .ok (V4 vs) w /\ Zy Ku vs uj /\ Zy (fun xs cs => Zy (YD (Tof T0 X) h σ.ob w) xs cs) tT uj := by
 obtain ⟨vs, uj, uT, hf, uF⟩ := EE r hr
 refine ⟨vs, uj, ?_, hf, uF⟩
 unfold results
 rw [Array.mapM_eq_mapM_toList]
 change ((((fn.results.toList.mapM (m := Sem) fun | .tmp t => pure (a.tmps.getD t undef) | .cell u t => do loadVar t (<- asAddr (a.tmps.getD u undef))) >>= fun l => pure l.toArray) >>= fun (vs : Array Value) => pure (if h : vs.size = 1 then vs[0] else .tuple vs))).run P w = _
 simp only [Sem.run_bind, uT, Result.andThen_ok, Sem.run_pure]
 congr 1
 match vs with
 | [] => rfl
 | [v] => rfl
 | v :: v' :: vs => simp [V4]
theorem Wy (r : Rel T0 B σ a w X h) {T : CS} (hT : ∀ b k, T4 T0 X h σ b k -> T b k) : ∀ {tT : List (List At)} {uj : List (List Value)} {res : List (List D)}, xy σ tT = some res -> Zy (fun xs cs => Zy (YD (Tof T0 X) h σ.ob w) xs cs) tT uj ->
  Zy (fun cs row => Zy (yO false T w) cs row) uj res
 | [], uj, res, hr, uF => by cases uF; simp [xy] at hr; subst hr; exact .nil
 | xs :: tT, uj, res, hr, uF => by
  cases uF with
  | cons h1 uF =>
   simp only [xy] at hr
   split at hr
   ·rename_i row rs ur sc
    cases hr
    refine .cons ?_ (Wy r hT sc uF)
    have := r.rowOf false ur h1 (fun hh => by cases hh)
    refine this.imp fun v d hd => ?_
    simp only [yO, Bool.false_eq_true, if_false] at hd ⊢
    exact Rd.mono (fun b k v hb hc => ⟨hc, hT b k hb⟩) hd
   ·cases hr
theorem N2 : ∀ {xs : List At} {ds : List D}, ownRow σ xs = some ds -> Zy (fun x d => xr σ x = some d) xs ds
 | [], ds, hr => by simp [ownRow] at hr; subst hr; exact .nil
 | x :: xs, ds, hr => by
  simp only [ownRow] at hr
  split at hr
  ·rename_i d oK h1 h2; cases hr; exact .cons h1 (N2 h2)
  ·cases hr
theorem PL : ∀ {tT : List (List At)} {res : List (List D)}, kd σ tT = some res -> Zy (fun xs row => Zy (fun x d => xr σ x = some d) xs row) tT res
 | [], res, hr => by simp [kd] at hr; subst hr; exact .nil
 | xs :: tT, res, hr => by
  simp only [kd] at hr
  split at hr
  ·rename_i d oK h1 h2; cases hr; exact .cons (N2 h1) (PL h2)
  ·cases hr
theorem W3 (r : Rel T0 B σ a w X h) {x : At} {d : D} {v : Value} (hx : xr σ x = some d) (hv : YD (Tof T0 X) h σ.ob w x v) : Qr (Tof T0 X) w v d /\ (∀ b, d.scalar = false -> blk v = some b -> ∃ t j lo len, x = .sref t j lo len /\ σ.ob t j ≠ .none /\ (h t j).u b) := by
 cases x with
 | d x =>
  cases x with
  | sl s rows => simp [xr] at hx
  | int k n => simp [xr] at hx; subst hx; exact ⟨hv, fun b hb => by cases hb⟩
  | bool b => simp [xr] at hx; subst hx; exact ⟨hv, fun b hb => by cases hb⟩
  | str s => simp [xr] at hx; subst hx; exact ⟨hv, fun b hb => by cases hb⟩
  | unk => simp [xr] at hx; subst hx; exact ⟨hv, fun b hb => by cases hb⟩
 | nil s =>
  simp [xr] at hx; subst hx
  cases hv
  exact ⟨⟨0, [], World.ownsRow_nil w 0 0 s, (by intro q hq; cases hq), .nil⟩, fun b _ hb => by cases hb⟩
 | sref t j lo len =>
  simp only [xr] at hx
  split at hx
  ·rename_i size rows ho
   split at hx
   ·rename_i hc
    obtain ⟨rfl, rfl⟩ := hc
    cases hx
    obtain ⟨_, tb, _⟩ := hv.2.1 _ size rows ho
    have he := tb rfl rfl
    have h0 := r.obj t j
    have tY := r.ub t j
    rw [ho] at h0 tY
    refine ⟨by rw [he]; exact h0, fun b _ hb => ⟨t, j, 0, rows.length, rfl, by rw [ho]; simp, tY b (by simp) (by rw [<- he]; exact hb)⟩⟩
   ·cases hx
  ·cases hx
 | any => simp [xr] at hx
 | ptr => simp [xr] at hx
 | bptr => simp [xr] at hx
 | fn => simp [xr] at hx
 | rptr => simp [xr] at hx
 | tref => simp [xr] at hx
theorem Iy {f : FuncId} {fn : Func} {c : Code} (hf : P.funcs[f]? = some fn) (hb : fn.body = some c) (uW : U5 P f = true) {own : Bool} {args res : List (List D)}
  (hw : AWP P c (He P fn own res) (xn fn.ntmps args)) : QB P f own args res := by
 refine ⟨uW, fun T w uu hT uH => calls_of_wp hf hb ?_⟩
 refine wp_mono (hw T (fun b => b < w.heap.size) _ w (MT hT uH)) ?_
 rintro e a' w' ⟨σ', ⟨he, tT, sG, uI⟩, ⟨X, h, r⟩, uU⟩
 have tv : Below w.heap.size w w' := ⟨uU.os, uU.tape, uU.output, uU.size, uU.block⟩
 obtain ⟨vs, uj, uT, um, uF⟩ := ki r sG
 have goal : a'.defers = [] /\ ∃ v, (results fn a'.tmps).run P w' = .ok v w' /\ wI own T w res (.returned v) w' := by
  refine ⟨r.defers, _, uT, ?_⟩
  cases own with
  | false =>
   refine ⟨vs, uj, fun b => w.heap.size <= b /\ b < w'.heap.size, rfl, tv, fun b hb => hb, um, ?_, fun hh => by cases hh⟩
   refine Wy r (fun b k hb => ?_) (by simpa using uI) uF
   rcases hb with hb | ⟨t, j, q, size, rows, ho, hb⟩
   ·rcases hb with hb | hb
    ·exact .inl hb
    ·have := r.hX b hb; exact .inr ⟨by omega, this.2⟩
   ·have := r.own t j b (by rw [ho]; simp) hb
    exact .inr ⟨by omega, this.2.2⟩
  | true =>
   simp only [if_true] at uI
   obtain ⟨uG, tL⟩ := uI
   have tC := PL uG
   have rz : Zy (fun x d => xr σ' x = some d) tT.flatten res.flatten := yD tC
   have r6 : Zy (YD (Tof T X) h σ'.ob w') tT.flatten uj.flatten := yD uF
   refine ⟨vs, uj, X, rfl, tv, (fun b hb => by have := r.hX b hb; exact ⟨by omega, this.2⟩), um, ?_, fun _ => ⟨fun i cc d b hc hd tJ hb => ?_, fun i j cc bb d d' b hc hd ux uM tJ mh hb uS => ?_⟩⟩
   ·clear rz r6 um uT sG uG tL he hw
    induction tC generalizing uj with
    | nil => cases uF; exact .nil
    | cons hr _ ih =>
     cases uF with
     | cons od uF =>
      refine .cons ?_ (ih _ uF)
      clear ih uF
      refine Zy.zo (by rw [<- od.length, hr.length]) (fun i v d hv hd => ?_)
      obtain ⟨x, hx, mC⟩ := hr.get' i d hd
      obtain ⟨v', sf, iZ⟩ := od.get i x hx
      rw [hv] at sf; cases sf
      simp only [yO, if_true]
      exact (W3 r mC iZ).1
   ·obtain ⟨x, hx, mC⟩ := rz.get' i d hd
    obtain ⟨v', sf, iZ⟩ := r6.get i x hx
    rw [hc] at sf; cases sf
    obtain ⟨t, j, lo, len, _, uD, rJ⟩ := (W3 r mC iZ).2 b tJ hb
    have := r.own t j b uD rJ
    exact ⟨by omega, this.2.2, this.2.1⟩
   ·obtain ⟨x, hx, mC⟩ := rz.get' i d hd
    obtain ⟨v', sf, iZ⟩ := r6.get i x hx
    rw [hc] at sf; cases sf
    obtain ⟨x2, iG, fc⟩ := rz.get' j d' uM
    obtain ⟨v2, tN, fe⟩ := r6.get j x2 iG
    rw [ux] at tN; cases tN
    obtain ⟨t, u, lo, len, rfl, uD, rJ⟩ := (W3 r mC iZ).2 b tJ hb
    obtain ⟨t2, u2, fv, lX, rfl, pv, ff⟩ := (W3 r fc fe).2 b mh uS
    obtain ⟨rfl, rfl⟩ := r.inj t u t2 u2 b uD pv rJ ff
    exact PW _ i j t u lo len fv lX tL hx iG
 rcases he with rfl | rfl
 ·exact goal
 ·exact goal
theorem M4 {f : FuncId} {fn : Func} {c : Code} (hf : P.funcs[f]? = some fn) (hb : fn.body = some c) (uW : U5 P f = true) {args res : List (List D)}
  (hw : AWP P c (E8 P fn res) (xn fn.ntmps args)) : YP P f args res := by
 refine ⟨uW, fun T w uu hT uH => calls_of_wp hf hb ?_⟩
 refine wp_mono (hw T (fun b => b < w.heap.size) _ w (MT hT uH)) ?_
 rintro e a' w' ⟨σ', ⟨he, tT, sG, sh, pO, tL⟩, ⟨X, h, r⟩, uU⟩
 have tv : Below w.heap.size w w' := ⟨uU.os, uU.tape, uU.output, uU.size, uU.block⟩
 obtain ⟨vs, uj, uT, um, uF⟩ := ki r sG
 have goal : a'.defers = [] /\ ∃ v, (results fn a'.tmps).run P w' = .ok v w' /\ B7 w res (.returned v) w' := by
  refine ⟨r.defers, _, uT, vs, uj, rfl, tv, um, ?_, ?_⟩
  ·clear tL pO sG uT um hw
   induction uF generalizing res with
   | nil => simp [JL] at sh; subst sh; exact .nil
   | cons h1 _ ih =>
    simp only [JL] at sh
    split at sh
    ·rename_i row rs ur sc
     cases sh
     exact .cons (by rw [<- h1.length]; exact (qM ur).1) (ih sc)
    ·cases sh
  ·refine (N0 r (yD uF) (zd sh).1 (zS pO) tL).mono (fun b hb => ?_)
   have := r.y4 _ b hb
   exact ⟨by omega, this.2.2.1⟩
 rcases he with rfl | rfl
 ·exact goal
 ·exact goal
end
end Go.Vm
namespace Go.Vm
open Go.RowKit
theorem St.D3 (e : Ent) (σ : St) : St.get (e :: σ) 0 = e.1 := rfl
theorem St.CP (e : Ent) (σ : St) (n : Nat) : St.get (e :: σ) (n + 1) = St.get σ n := by simp [St.get]
theorem St.BJ (e : Ent) (σ : St) (j : Nat) : St.ob (e :: σ) 0 j = YS e.2 j := rfl
theorem St.BF (e : Ent) (σ : St) (n j : Nat) : St.ob (e :: σ) (n + 1) j = St.ob σ n j := by simp [St.ob]
theorem DE (o : Ob) (os : List Ob) : YS (o :: os) 0 = o := rfl
theorem Rv (o : Ob) (os : List Ob) (n : Nat) : YS (o :: os) (n + 1) = YS os n := by simp [YS]
theorem Dn (n : Nat) : YS [] n = .none := by simp [YS]
def lkI (P : Program) (σ : St) (x : Operand) : Prop × Int :=
 match unc (look P σ 0 x) with
 | .one (.d (.int _ n)) => (gOf (look P σ 0 x) = true, n)
 | _ => (False, 0)
def lkK (P : Program) (σ : St) (x : Operand) : IntKind :=
 match unc (look P σ 0 x) with
 | .one (.d (.int k _)) => k
 | _ => .i64
theorem jB {P : Program} {σ : St} {x : Operand} (h : (lkI P σ x).1) : kN P σ x (lkK P σ x) (lkI P σ x).2 := by
 unfold lkI at h ⊢
 unfold lkK
 unfold kN
 split at h
 ·rename_i k n heq
  rw [heq]; exact ⟨h, rfl⟩
 ·exact h.elim
def Kx (P : Program) (σ : St) (ta : Nat) : Option Operand -> Prop × Nat
 | none => (True, ta)
 | some x => ((lkI P σ x).1 /\ 0 <= (lkI P σ x).2, (lkI P σ x).2.toNat)
theorem WV {P : Program} {σ : St} {ta : Nat} {x : Option Operand} (h : (Kx P σ ta x).1) : bnd P σ ta x (Kx P σ ta x).2 := by
 cases x with
 | none => rfl
 | some x =>
  have h1 := jB h.1
  exact ⟨_, _, h1.1, h1.2, h.2, rfl⟩
def rowAt (rows : List (List D)) (i : Nat) : List D := rows.getD i []
def bAt (s : ByteArray) (i : Nat) : Nat := (s.data.toList.getD i 0).toNat
def UK (P : Program) (σ : St) (T : TypeId) (x ix : Operand) : Prop × V :=
 match unc (look P σ 0 x) with
 | .one (.d (.sl size rows)) => ((gOf (look P σ 0 x) = true /\ (lkI P σ ix).1) /\ 0 <= (lkI P σ ix).2 /\ (Yq P T = true /\ size = P.cellsOf (ZP P T) /\ 0 < size) /\ (lkI P σ ix).2 < (rows.length : Int), .one (.rptr (rowAt rows (lkI P σ ix).2.toNat) 0))
 | .one (.sref t j lo len) => ((gOf (look P σ 0 x) = true /\ (lkI P σ ix).1) /\ 0 <= (lkI P σ ix).2 /\ (Yq P T = true /\ 0 < P.cellsOf (ZP P T) /\ (match σ.ob t j with | .arr _ size _ => size = P.cellsOf (ZP P T) | _ => False)) /\ (lkI P σ ix).2 < (len : Int), .one (.ptr t j (lo + (lkI P σ ix).2.toNat) 0))
 | .one (.tref t j m c none) => ((gOf (look P σ 0 x) = true /\ (lkI P σ ix).1) /\ 0 <= (lkI P σ ix).2 /\ (Yq P T = true /\ 0 < P.cellsOf (ZP P T)) /\ (match σ.ob t j with | .arr true _ rows => m < rows.length /\ (match (rowAt rows m)[c]? with | some (.sl n s) => n = P.cellsOf (ZP P T) /\ (lkI P σ ix).2 < (s.length : Int) | _ => False) | _ => False), .one (.tref t j m c (some ((lkI P σ ix).2.toNat * P.cellsOf (ZP P T)))))
 | .one (.bptr t c) => ((gOf (look P σ 0 x) = true /\ (lkI P σ ix).1) /\ 0 <= (lkI P σ ix).2 /\ (match σ.ob t 0 with | .box _ => True | _ => False) /\ (match Mc P T with | some n => 1 < n /\ (lkI P σ ix).2 < (n : Int) | none => False), .one (.bptr t (c + (lkI P σ ix).2.toNat * P.cellsOf (ZP P T))))
 | _ => (False, .any)
def G6 (P : Program) (σ : St) (T : TypeId) (x : Operand) : Prop × V :=
 match unc (look P σ 0 x) with
 | .one (.bptr t c) => (match σ.ob t 0 with | .box cells => (gOf (look P σ 0 x) = true /\ yf P T = true /\ c + P.cellsOf T <= cells.length, ldV P T (cut cells c (P.cellsOf T))) | _ => (False, .any))
 | .one (.ptr t j i c) => (match σ.ob t j with | .arr q size rows => ((gOf (look P σ 0 x) = true /\ yf P T = true /\ c + P.cellsOf T <= size) /\ i < rows.length, ldV P T (W2 q t j i c (cut (rowAt rows i) c (P.cellsOf T)))) | _ => (False, .any))
 | .one (.rptr r c) => (gOf (look P σ 0 x) = true /\ yf P T = true /\ c + P.cellsOf T <= r.length, ldV P T ((cut r c (P.cellsOf T)).map .d))
 | .one (.tref t j i c (some k)) => (match σ.ob t j with
  | .arr true _ rows => (match (rowAt rows i)[c]? with
   | some (.sl 1 s) => ((gOf (look P σ 0 x) = true /\ yf P T = true) /\ i < rows.length /\ P.cellsOf T = 1 /\ k < s.length /\ (rowAt s k).all D.scalar = true, ldV P T ((rowAt s k).map .d))
   | _ => (False, .any))
  | _ => (False, .any))
 | _ => (False, .any)
def UC (P : Program) (σ : St) (T : TypeId) (x : Operand) (f : Nat) : Prop × V :=
 match unc (look P σ 0 x) with
 | .one (.bptr t c) => (gOf (look P σ 0 x) = true /\ xU P T f = true /\ (match σ.ob t 0 with | .box _ => True | _ => False), .one (.bptr t (c + X1 P T f)))
 | .one (.ptr t j i c) => (gOf (look P σ 0 x) = true /\ xU P T f = true /\ (match σ.ob t j with | .arr _ _ _ => True | _ => False), .one (.ptr t j i (c + X1 P T f)))
 | .one (.rptr r c) => (gOf (look P σ 0 x) = true /\ xU P T f = true, .one (.rptr r (c + X1 P T f)))
 | .one (.tref t j i c (some k)) => (gOf (look P σ 0 x) = true /\ xU P T f = true /\ (match σ.ob t j with | .arr true _ _ => True | _ => False), .one (.tref t j i c (some (k + X1 P T f))))
 | _ => (False, .any)
def Ls (P : Program) (op : BinOp) (T : TypeId) (x y : V) : Prop × V :=
 match op, x, y with
 | .eql, .one (.d (.int k m)), .one (.d (.int k' n)) => (k' = k, .one (.d (.bool (m == n))))
 | .neq, .one (.d (.int k m)), .one (.d (.int k' n)) => (k' = k, .one (.d (.bool (m != n))))
 | .lss, .one (.d (.int k m)), .one (.d (.int k' n)) => (k' = k, .one (.d (.bool (decide (m < n)))))
 | .leq, .one (.d (.int k m)), .one (.d (.int k' n)) => (k' = k, .one (.d (.bool (decide (m <= n)))))
 | .gtr, .one (.d (.int k m)), .one (.d (.int k' n)) => (k' = k, .one (.d (.bool (decide (m > n)))))
 | .geq, .one (.d (.int k m)), .one (.d (.int k' n)) => (k' = k, .one (.d (.bool (decide (m >= n)))))
 | .add, .one (.d (.int k m)), .one (.d (.int k' n)) => (k' = k, .one (.d (.int k (k.wrap (m + n)))))
 | .sub, .one (.d (.int k m)), .one (.d (.int k' n)) => (k' = k, .one (.d (.int k (k.wrap (m - n)))))
 | .mul, .one (.d (.int k m)), .one (.d (.int k' n)) => (k' = k, .one (.d (.int k (k.wrap (m * n)))))
 | .quo, .one (.d (.int k m)), .one (.d (.int k' n)) => (k' = k /\ n ≠ 0, .one (.d (.int k (k.wrap (m.tdiv n)))))
 | .rem, .one (.d (.int k m)), .one (.d (.int k' n)) => (k' = k /\ n ≠ 0, .one (.d (.int k (m.tmod n))))
 | .and, .one (.d (.int k m)), .one (.d (.int k' n)) => (k' = k, .one (.d (.int k (LR k m n))))
 | .or, .one (.d (.int k m)), .one (.d (.int k' n)) => (k' = k, .one (.d (.int k (iOr k m n))))
 | .xor, .one (.d (.int k m)), .one (.d (.int k' n)) => (k' = k, .one (.d (.int k (Dx k m n))))
 | .shl, .one (.d (.int k m)), .one (.d (.int _ n)) => (0 <= n, .one (.d (.int k (k.wrap (m * 2 ^ (min n.toNat k.bits))))))
 | .shr, .one (.d (.int k m)), .one (.d (.int _ n)) => (0 <= n, .one (.d (.int k (m.fdiv (2 ^ (min n.toNat k.bits))))))
 | .add, .one (.d (.str m)), .one (.d (.str n)) => (((m.size + n.size : Nat) : Int) <= 9223372036854775807, .one (.d (.str (m ++ n))))
 | .eql, .one (.d (.str m)), .one (.d (.str n)) => (True, .one (.d (.bool (decide (m = n)))))
 | .neq, .one (.d (.str m)), .one (.d (.str n)) => (True, .one (.d (.bool (!decide (m = n)))))
 | .eql, .one (.d (.bool m)), .one (.d (.bool n)) => (Pa P T = true, .one (.d (.bool (m == n))))
 | .neq, .one (.d (.bool m)), .one (.d (.bool n)) => (Pa P T = true, .one (.d (.bool (!(m == n)))))
 | .eql, .agg xs, .agg ys => (TA P T = true /\ (Xv P (J3 P T) xs ys).isSome = true, .one (.d (.bool ((Xv P (J3 P T) xs ys).getD false))))
 | .neq, .agg xs, .agg ys => (TA P T = true /\ (Xv P (J3 P T) xs ys).isSome = true, .one (.d (.bool (!(Xv P (J3 P T) xs ys).getD false))))
 | _, _, _ => (False, .any)
def VD (P : Program) (σ : St) (T : TypeId) : List (Nat × Operand) -> List At -> Prop × List At
 | [], r => (True, r)
 | (i, x) :: ps, r => ((bOk P T i = true /\ gOf (look P σ (bTy P T i) x) = true /\ (unc (look P σ (bTy P T i) x)).flat = true /\
   (unc (look P σ (bTy P T i) x)).cells.length = P.cellsOf (bTy P T i) /\ xN P T i + P.cellsOf (bTy P T i) <= r.length) /\ (VD P σ T ps (place r (xN P T i) (unc (look P σ (bTy P T i) x)).cells)).1,
   (VD P σ T ps (place r (xN P T i) (unc (look P σ (bTy P T i) x)).cells)).2)
theorem MD {P : Program} {σ : St} {T : TypeId} : ∀ {ps : List (Nat × Operand)} {r : List At}, (VD P σ T ps r).1 -> WM P σ T ps r (VD P σ T ps r).2
 | [], _, _ => rfl
 | (_, _) :: _, _, h => ⟨h.1.1, h.1.2.1, h.1.2.2.1, h.1.2.2.2.1, h.1.2.2.2.2, MD h.2⟩
def isB : V -> Bool
 | .one (.d (.bool _)) => true
 | _ => false
def bOf : V -> Bool
 | .one (.d (.bool b)) => b
 | _ => false
theorem CX : ∀ {v : V}, isB v = true -> v = .one (.d (.bool (bOf v)))
 | .one (.d (.bool _)), _ => rfl
def evV (P : Program) (σ : St) (op : Op) (ty : TypeId) : Prop × V :=
 match op with
 | .move x => (True, look P σ ty x)
 | .assign x => (True, look P σ ty x)
 | .pick c a b =>
  (match unc (look P σ ty c) with
  | .one (.d (.bool bc)) => ((gOf (look P σ ty c) = true /\ (bc = true -> isB (unc (look P σ ty a)) = true) /\ (bc = false -> isB (unc (look P σ ty b)) = true)) /\ (bc = true -> gOf (look P σ ty a) = true) /\ (bc = false -> gOf (look P σ ty b) = true), .one (.d (.bool (cond bc (bOf (unc (look P σ ty a))) (bOf (unc (look P σ ty b)))))))
  | _ => (False, .any))
 | .load T x => G6 P σ T x
 | .fieldAddr T x f => UC P σ T x f
 | .nilCheck x => (match unc (look P σ 0 x) with
  | .one (.bptr t c) => (gOf (look P σ 0 x) = true /\ (match σ.ob t 0 with | .box _ => True | _ => False), .one (.bptr t c))
  | _ => (False, .any))
 | .indexAddr T x ix => UK P σ T x ix
 | .index T x ix =>
  (match unc (look P σ 0 x) with
  | .one (.d (.str s)) => ((gOf (look P σ 0 x) = true /\ (lkI P σ ix).1) /\ 0 <= (lkI P σ ix).2 /\ W8 P T = true /\ (lkI P σ ix).2 < (s.size : Int), .one (.d (.int .u8 (bAt s (lkI P σ ix).2.toNat))))
  | .agg xs => ((gOf (look P σ 0 x) = true /\ (lkI P σ ix).1) /\ 0 <= (lkI P σ ix).2 /\ (match Mc P T with | some n => (lkI P σ ix).2 < (n : Int) | none => False) /\ yf P (ZP P T) = true /\ (lkI P σ ix).2.toNat * P.cellsOf (ZP P T) + P.cellsOf (ZP P T) <= xs.length,
    ldV P (ZP P T) (cut xs ((lkI P σ ix).2.toNat * P.cellsOf (ZP P T)) (P.cellsOf (ZP P T))))
  | _ => (False, .any))
 | .slice T x lo hi none =>
  (match unc (look P σ 0 x) with
  | .one (.d (.str s)) => ((gOf (look P σ 0 x) = true /\ W8 P T = true /\ (Kx P σ 0 lo).1 /\ (Kx P σ s.size hi).1) /\ (Kx P σ 0 lo).2 <= (Kx P σ s.size hi).2 /\ (Kx P σ s.size hi).2 <= s.size, .one (.d (.str (s.extract (Kx P σ 0 lo).2 (Kx P σ s.size hi).2))))
  | .one (.d (.sl size rows)) => ((gOf (look P σ 0 x) = true /\ Yq P T = true /\ size = P.cellsOf (ZP P T) /\ (Kx P σ 0 lo).1 /\ (Kx P σ rows.length hi).1) /\ (Kx P σ 0 lo).2 <= (Kx P σ rows.length hi).2 /\ (Kx P σ rows.length hi).2 <= rows.length,
    .one (.d (.sl size (cut rows (Kx P σ 0 lo).2 ((Kx P σ rows.length hi).2 - (Kx P σ 0 lo).2)))))
  | .one (.sref t j o len) => ((gOf (look P σ 0 x) = true /\ Yq P T = true /\ (match σ.ob t j with | .arr _ size _ => size = P.cellsOf (ZP P T) | _ => False) /\ (Kx P σ 0 lo).1 /\ (Kx P σ len hi).1) /\ (Kx P σ 0 lo).2 <= (Kx P σ len hi).2 /\ (Kx P σ len hi).2 <= len,
    .one (.sref t j (o + (Kx P σ 0 lo).2) ((Kx P σ len hi).2 - (Kx P σ 0 lo).2)))
  | _ => (False, .any))
 | .binOp op T x y _ => ((gOf (look P σ T x) = true /\ gOf (look P σ T y) = true) /\ (Ls P op T (unc (look P σ T x)) (unc (look P σ T y))).1, (Ls P op T (unc (look P σ T x)) (unc (look P σ T y))).2)
 | .unOp .not _ x => (match unc (look P σ 0 x) with | .one (.d (.bool b)) => (gOf (look P σ 0 x) = true, .one (.d (.bool (!b)))) | _ => (False, .any))
 | .unOp .neg _ x => (match unc (look P σ 0 x) with | .one (.d (.int k n)) => (gOf (look P σ 0 x) = true, .one (.d (.int k (k.wrap (-n))))) | _ => (False, .any))
 | .convert S T x => (match unc (look P σ 0 x), F2 P T with | .one (.d (.int _ n)), some k => (gOf (look P σ 0 x) = true /\ (P.underlying S).isSome = true, .one (.d (.int k (k.wrap n)))) | _, _ => (False, .any))
 | .extract x i => (match unc (look P σ 0 x) with | .tup xs => (gOf (look P σ 0 x) = true /\ i < xs.length /\ (xs.getD i .any).flat = true, xs.getD i .any) | _ => (False, .any))
 | .field T x f =>
  (match unc (look P σ 0 x) with
  | .agg xs => (gOf (look P σ 0 x) = true /\ xU P T f = true /\ yf P (yM P T f) = true /\ X1 P T f + P.cellsOf (yM P T f) <= xs.length, ldV P (yM P T f) (cut xs (X1 P T f) (P.cellsOf (yM P T f))))
  | _ => (False, .any))
 | .build T parts => (match qp P 12 T with | some z => ((XX P T = true /\ WG P T = true) /\ (VD P σ T parts.toList z).1, .agg (VD P σ T parts.toList z).2) | none => (False, .any))
 | .call ⟨.builtin .len, ⟨[x]⟩, ⟨[t]⟩⟩ =>
  (match unc (look P σ t x) with
  | .one (.d (.str s)) => (gOf (look P σ t x) = true /\ W8 P t = true, .one (.d (.int .i64 s.size)))
  | .one (.d (.sl _ rows)) => (gOf (look P σ t x) = true /\ Yq P t = true, .one (.d (.int .i64 rows.length)))
  | .one (.nil _) => (gOf (look P σ t x) = true /\ Yq P t = true, .one (.d (.int .i64 0)))
  | .one (.sref u j _ len) => (gOf (look P σ t x) = true /\ Yq P t = true /\ (match σ.ob u j with | .arr _ _ _ => True | .lit _ _ => True | _ => False), .one (.d (.int .i64 len)))
  | .one (.tref u j i c none) => (match σ.ob u j with
   | .arr true _ rows => (match (rowAt rows i)[c]? with
    | some (.sl _ s) => ((gOf (look P σ t x) = true /\ Yq P t = true) /\ i < rows.length, .one (.d (.int .i64 s.length)))
    | _ => (False, .any))
   | _ => (False, .any))
  | _ => (False, .any))
 | .call ⟨.builtin .max, ⟨[x, y]⟩, _⟩ => ((lkI P σ x).1 /\ (lkI P σ y).1 /\ lkK P σ y = lkK P σ x, .one (.d (.int (lkK P σ x) (if (lkI P σ y).2 > (lkI P σ x).2 then (lkI P σ y).2 else (lkI P σ x).2))))
 | .call ⟨.builtin .min, ⟨[x, y]⟩, _⟩ => ((lkI P σ x).1 /\ (lkI P σ y).1 /\ lkK P σ y = lkK P σ x, .one (.d (.int (lkK P σ x) (if (lkI P σ y).2 < (lkI P σ x).2 then (lkI P σ y).2 else (lkI P σ x).2))))
 | _ => (False, .any)
theorem Fx {o : Ob} (h : (match o with | .box _ => True | _ => False)) : ∃ cells, o = .box cells := by
 cases o with
 | box c => exact ⟨c, rfl⟩
 | none => exact h.elim
 | arr q s r => exact h.elim
 | lit s r => exact h.elim
theorem AQ {o : Ob} (h : (match o with | .arr _ _ _ => True | _ => False)) : ∃ q size rows, o = .arr q size rows := by
 cases o with
 | arr q s r => exact ⟨q, s, r, rfl⟩
 | none => exact h.elim
 | box c => exact h.elim
 | lit s r => exact h.elim
theorem AG {o : Ob} (h : (match o with | .arr _ _ _ => True | .lit _ _ => True | _ => False)) : (∃ q size rows, o = .arr q size rows) \/ ∃ size rows, o = .lit size rows := by
 cases o with
 | arr q s r => exact .inl ⟨q, s, r, rfl⟩
 | none => exact h.elim
 | box c => exact h.elim
 | lit s r => exact .inr ⟨s, r, rfl⟩
theorem F7 {o : Ob} {n : Nat} (h : (match o with | .arr _ size _ => size = n | _ => False)) : ∃ q rows, o = .arr q n rows := by
 cases o with
 | arr q s r => simp at h; subst h; exact ⟨q, r, rfl⟩
 | none => exact h.elim
 | box c => exact h.elim
 | lit s r => exact h.elim
theorem Cj {P : Program} {op : BinOp} {T : TypeId} {x y : V} (hc : (Ls P op T x y).1) : Gf P op T x y (Ls P op T x y).2 := by
 unfold Ls at hc ⊢
 split at hc
 all_goals first
  | exact hc.elim
  | exact ⟨.inr hc, rfl⟩
  | exact ⟨.inr hc.1, hc.2, rfl⟩
  | exact ⟨.inl (.inl rfl), hc, rfl⟩
  | exact ⟨.inl (.inr rfl), hc, rfl⟩
  | exact ⟨hc, rfl⟩
  | rfl
  | (obtain ⟨q, hq⟩ := Option.isSome_iff_exists.1 hc.2; exact ⟨hc.1, q, hq, .inl ⟨rfl, by rw [hq]; rfl⟩⟩)
  | (obtain ⟨q, hq⟩ := Option.isSome_iff_exists.1 hc.2; exact ⟨hc.1, q, hq, .inr ⟨rfl, by rw [hq]; rfl⟩⟩)
theorem G5 {P : Program} {σ : St} {op : Op} {ty : TypeId} (hc : (evV P σ op ty).1) : YJ P σ op ty (evV P σ op ty).2 := by
 unfold evV at hc ⊢
 split at hc
 ·rfl
 ·rfl
 ·rename_i c a b
  split at hc
  ·rename_i bc h1; exact ⟨bc, _, _, hc.1.1, h1, (fun hh => CX (hc.1.2.1 hh)), (fun hh => CX (hc.1.2.2 hh)), hc.2.1, hc.2.2, (by first | rfl | trivial)⟩
  ·exact hc.elim
 ·rename_i T x
  unfold G6 at hc ⊢
  simp only [YJ]
  split at hc
  ·rename_i t c hx
   split at hc
   ·rename_i cells ho; simp only [hx, ho]; exact ⟨hc.1, hc.2.1, cells, rfl, hc.2.2, (by first | rfl | trivial)⟩
   ·exact hc.elim
  ·rename_i t j i c hx
   split at hc
   ·rename_i size rows ho; simp only [hx, ho]; exact ⟨hc.1.1, hc.1.2.1, _, size, rows, rfl, hc.2, hc.1.2.2, (by first | rfl | trivial)⟩
   ·exact hc.elim
  ·rename_i r c hx; simp only [hx]; exact ⟨hc.1, hc.2.1, hc.2.2, (by first | rfl | trivial)⟩
  ·rename_i t j i c k hx
   split at hc
   ·rename_i size rows ho
    split at hc
    ·rename_i s uI; simp only [hx, ho, uI]; exact ⟨hc.1.1, hc.1.2, size, rows, s, rfl, hc.2.1, uI, hc.2.2.1, hc.2.2.2.1, hc.2.2.2.2, (by first | rfl | trivial)⟩
    ·exact hc.elim
   ·exact hc.elim
  ·exact hc.elim
 ·rename_i T x f
  unfold UC at hc ⊢
  simp only [YJ]
  split at hc
  ·rename_i t c hx; simp only [hx]; exact ⟨hc.1, hc.2.1, Fx hc.2.2, (by first | rfl | trivial)⟩
  ·rename_i t j i c hx; simp only [hx]; exact ⟨hc.1, hc.2.1, AQ hc.2.2, (by first | rfl | trivial)⟩
  ·rename_i r c hx; simp only [hx]; exact ⟨hc.1, hc.2, (by first | rfl | trivial)⟩
  ·rename_i t j i c k hx
   have h3 := hc.2.2
   split at h3
   ·rename_i size rows ho; simp only [hx]; exact ⟨hc.1, hc.2.1, ⟨size, rows, ho⟩, (by first | rfl | trivial)⟩
   ·exact h3.elim
  ·exact hc.elim
 ·rename_i x
  simp only [YJ]
  split at hc
  ·rename_i t c hx; simp only [hx]; exact ⟨hc.1, Fx hc.2, (by first | rfl | trivial)⟩
  ·exact hc.elim
 ·rename_i T x ix
  unfold UK at hc ⊢
  simp only [YJ]
  split at hc
  ·rename_i size rows hx
   simp only [hx]
   exact ⟨_, _, jB hc.1.2, hc.2.1, hc.1.1, hc.2.2.1.1, hc.2.2.1.2.1, hc.2.2.1.2.2, hc.2.2.2, (by first | rfl | trivial)⟩
  ·rename_i t j lo len hx
   simp only [hx]
   exact ⟨_, _, jB hc.1.2, hc.2.1, hc.1.1, hc.2.2.1.1, hc.2.2.1.2.1, F7 hc.2.2.1.2.2, hc.2.2.2, (by first | rfl | trivial)⟩
  ·rename_i t j m c hx
   have h3 := hc.2.2.2
   split at h3
   ·rename_i size rows ho
    obtain ⟨hm, h4⟩ := h3
    split at h4
    ·rename_i n s hr
     obtain ⟨rfl, uL⟩ := h4
     simp only [hx]
     exact ⟨_, _, jB hc.1.2, hc.2.1, hc.1.1, hc.2.2.1.1, hc.2.2.1.2, ⟨size, rows, s, ho, hm, hr, uL⟩, (by first | rfl | trivial)⟩
    ·exact h4.elim
   ·exact h3.elim
  ·rename_i t c hx
   simp only [hx]
   refine ⟨_, _, jB hc.1.2, hc.2.1, hc.1.1, Fx hc.2.2.1, ?_, (by first | rfl | trivial)⟩
   have := hc.2.2.2
   split at this
   ·rename_i n hn; exact ⟨n, hn, this.1, this.2⟩
   ·exact this.elim
  ·exact hc.elim
 ·rename_i T x ix
  simp only [YJ]
  split at hc
  ·rename_i s hx; simp only [hx]; exact ⟨_, _, jB hc.1.2, hc.2.1, hc.1.1, hc.2.2.1, hc.2.2.2, (by first | rfl | trivial)⟩
  ·rename_i xs hx
   simp only [hx]
   refine ⟨_, _, jB hc.1.2, hc.2.1, hc.1.1, ?_, hc.2.2.2.1, hc.2.2.2.2, (by first | rfl | trivial)⟩
   have := hc.2.2.1
   split at this
   ·rename_i n hn; exact ⟨n, hn, this⟩
   ·exact this.elim
  ·exact hc.elim
 ·rename_i T x lo hi
  simp only [YJ]
  split at hc
  ·rename_i s hx; simp only [hx]; exact ⟨hc.1.1, hc.1.2.1, _, _, WV hc.1.2.2.1, WV hc.1.2.2.2, hc.2.1, hc.2.2, (by first | rfl | trivial)⟩
  ·rename_i size rows hx; simp only [hx]; exact ⟨hc.1.1, hc.1.2.1, hc.1.2.2.1, _, _, WV hc.1.2.2.2.1, WV hc.1.2.2.2.2, hc.2.1, hc.2.2, (by first | rfl | trivial)⟩
  ·rename_i t j o len hx; simp only [hx]; exact ⟨hc.1.1, hc.1.2.1, F7 hc.1.2.2.1, _, _, WV hc.1.2.2.2.1, WV hc.1.2.2.2.2, hc.2.1, hc.2.2, (by first | rfl | trivial)⟩
  ·exact hc.elim
 ·exact ⟨hc.1.1, hc.1.2, Cj hc.2⟩
 ·simp only [YJ]
  split at hc
  ·rename_i b hx; simp only [hx]; exact ⟨hc, (by first | rfl | trivial)⟩
  ·exact hc.elim
 ·simp only [YJ]
  split at hc
  ·rename_i k n hx; simp only [hx]; exact ⟨hc, (by first | rfl | trivial)⟩
  ·exact hc.elim
 ·rename_i S T x
  simp only [YJ]
  split at hc
  ·rename_i k0 n k hx hk; simp only [hx, hk]; exact ⟨hc.1, hc.2, k, rfl, (by first | rfl | trivial)⟩
  ·exact hc.elim
 ·rename_i x i
  simp only [YJ]
  split at hc
  ·rename_i xs hx
   simp only [hx]
   exact ⟨hc.1, by simp [List.getD_eq_getElem?_getD, List.getElem?_eq_getElem hc.2.1], hc.2.2⟩
  ·exact hc.elim
 ·simp only [YJ]
  split at hc
  ·rename_i xs hx; simp only [hx]; exact ⟨hc.1, hc.2.1, hc.2.2.1, hc.2.2.2, (by first | rfl | trivial)⟩
  ·exact hc.elim
 ·simp only [YJ]
  split at hc
  ·rename_i z hz; exact ⟨hc.1.1, hc.1.2, z, _, hz, MD hc.2, (by first | rfl | trivial)⟩
  ·exact hc.elim
 ·simp only [YJ]
  split at hc
  ·rename_i s hx; simp only [hx]; exact ⟨hc.1, hc.2, (by first | rfl | trivial)⟩
  ·rename_i s rows hx; simp only [hx]; exact ⟨hc.1, hc.2, (by first | rfl | trivial)⟩
  ·rename_i s hx; simp only [hx]; exact ⟨hc.1, hc.2, (by first | rfl | trivial)⟩
  ·rename_i u j lo len hx; simp only [hx]; exact ⟨hc.1, hc.2.1, AG hc.2.2, (by first | rfl | trivial)⟩
  ·rename_i u j i c hx
   split at hc
   ·rename_i rows ho
    split at hc
    ·rename_i s uI; simp only [hx, ho, uI]; exact ⟨hc.1.1, hc.1.2, _, rows, _, s, rfl, hc.2, uI, (by first | rfl | trivial)⟩
    ·exact hc.elim
   ·exact hc.elim
  ·exact hc.elim
 ·simp only [YJ]
  have hy := jB hc.2.1
  rw [hc.2.2] at hy
  exact ⟨_, _, _, jB hc.1, hy, (by first | rfl | trivial)⟩
 ·simp only [YJ]
  have hy := jB hc.2.1
  rw [hc.2.2] at hy
  exact ⟨_, _, _, jB hc.1, hy, (by first | rfl | trivial)⟩
 ·exact hc.elim
end Go.Vm
namespace Go.Vm
open Go.RowKit
def yx (P : Program) (σ : St) (T : TypeId) (size : Nat) : List (Nat × Operand) -> Nat -> Prop × List (List D)
 | [], _ => (True, [])
 | (i, x) :: ps, k => ((i = k /\ gOf (look P σ T x) = true /\ (unc (look P σ T x)).flat = true /\ Jw (unc (look P σ T x)).cells = true /\ (rowOf σ (unc (look P σ T x)).cells).isSome = true /\ ((rowOf σ (unc (look P σ T x)).cells).getD []).length = size) /\ (yx P σ T size ps (k + 1)).1,
   (rowOf σ (unc (look P σ T x)).cells).getD [] :: (yx P σ T size ps (k + 1)).2)
theorem Rp {P : Program} {σ : St} {T : TypeId} {size : Nat} : ∀ {ps : List (Nat × Operand)} {k : Nat}, (yx P σ T size ps k).1 -> RG P σ T size ps k (yx P σ T size ps k).2
 | [], _, _ => rfl
 | (_, x) :: _, _, h => by
  obtain ⟨⟨h1, h2, h3, h4, h5, h6⟩, h7⟩ := h
  obtain ⟨r, hr⟩ := Option.isSome_iff_exists.1 h5
  refine ⟨h1, h2, h3, h4, r, _, hr, ?_, Rp h7, ?_⟩
  ·rw [hr] at h6; exact h6
  ·simp only [yx, hr, Option.getD_some]
def VW (σ : St) (x : V) (size : Nat) : Prop × List (List D) × St :=
 match x with
 | .one (.nil _) => (True, [], σ)
 | .one (.sref t j lo len) => (match σ.ob t j with | .arr false s uC => (s = size /\ lo = 0 /\ len = uC.length, uC, σ.Zs t j .none) | _ => (False, [], σ))
 | _ => (False, [], σ)
theorem De {σ : St} {x : V} {size : Nat} (h : (VW σ x size).1) : Wr σ x size (VW σ x size).2.1 (VW σ x size).2.2 := by
 unfold VW at h ⊢
 split at h
 ·exact ⟨rfl, rfl⟩
 ·rename_i t j lo len
  split at h
  ·rename_i s uC ho
   obtain ⟨rfl, rfl, rfl⟩ := h
   exact ⟨uC, ho, rfl, Nat.le_refl _, (List.take_length).symm, rfl⟩
  ·exact h.elim
 ·exact h.elim
def Sx (σ : St) (x : V) (size : Nat) : Prop × List (List D) :=
 match x with
 | .one (.d (.sl s rows)) => (s = size, rows)
 | .one (.nil _) => (True, [])
 | .one (.sref t j lo len) => (match σ.ob t j with | .arr false s rows => (s = size /\ lo + len <= rows.length, cut rows lo len) | _ => (False, []))
 | _ => (False, [])
theorem Ck {σ : St} {x : V} {size : Nat} (h : (Sx σ x size).1) : qd σ x size (Sx σ x size).2 := by
 unfold Sx at h ⊢
 split at h
 ·exact ⟨h, rfl⟩
 ·rfl
 ·rename_i t j lo len
  split at h
  ·rename_i s rows ho
   obtain ⟨rfl, hle⟩ := h
   exact ⟨rows, ho, hle, rfl⟩
  ·exact h.elim
 ·exact h.elim
def evS (P : Program) (σ : St) (o : Oper) (d : Nat) : Prop × St :=
 match o.op with
 | .alloc T => (match qp P 12 T with | some row => (σ.fresh d = true /\ XX P T = true, σ.new d (.one (.bptr d 0)) [.box row]) | none => (False, σ))
 | .box T x => (σ.fresh d = true /\ gOf (look P σ T x) = true /\ (unc (look P σ T x)).flat = true /\ YF d (unc (look P σ T x)).cells = false, σ.new d (.one (.bptr d 0)) [.box (unc (look P σ T x)).cells])
 | .buildSlice T n parts => ((σ.fresh d = true /\ Yq P T = true /\ XX P (ZP P T) = true /\ 0 < P.cellsOf (ZP P T) /\ parts.toList.length = n /\ n * P.cellsOf (ZP P T) <= 16777216) /\ (yx P σ (ZP P T) (P.cellsOf (ZP P T)) parts.toList 0).1,
   σ.new d (.one (.sref d 0 0 (yx P σ (ZP P T) (P.cellsOf (ZP P T)) parts.toList 0).2.length)) [.arr false (P.cellsOf (ZP P T)) (yx P σ (ZP P T) (P.cellsOf (ZP P T)) parts.toList 0).2])
 | .makeSlice T x y => (match qp P 12 (ZP P T) with
   | some z => (match zD z with
    | some zr => ((x = y /\ σ.fresh d = true /\ Yq P T = true /\ XX P (ZP P T) = true /\ 0 < P.cellsOf (ZP P T) /\ (lkI P σ x).1) /\ 0 <= (lkI P σ x).2 /\ P.bytesOf (ZP P T) * (lkI P σ x).2.toNat <= 281474976710656 /\ (lkI P σ x).2 <= 9223372036854775807,
      σ.new d (.one (.sref d 0 0 (lkI P σ x).2.toNat)) [.arr false (P.cellsOf (ZP P T)) (List.replicate (lkI P σ x).2.toNat zr)])
    | none => (False, σ))
   | none => (False, σ))
 | .call ⟨.builtin .append, ⟨[x, y]⟩, ⟨[t, t']⟩⟩ =>
   (((t = t' /\ gOf (look P σ t x) = true /\ gOf (look P σ t y) = true /\ Yq P t = true /\ XX P (ZP P t) = true /\ 0 < P.cellsOf (ZP P t)) /\ (VW σ (unc (look P σ t x)) (P.cellsOf (ZP P t))).1 /\ (Sx σ (unc (look P σ t y)) (P.cellsOf (ZP P t))).1 /\ (VW σ (unc (look P σ t x)) (P.cellsOf (ZP P t))).2.2.fresh d = true) /\
    ((VW σ (unc (look P σ t x)) (P.cellsOf (ZP P t))).2.1.length + (Sx σ (unc (look P σ t y)) (P.cellsOf (ZP P t))).2.length) * P.bytesOf (ZP P t) <= 140737488355328 /\
    (VW σ (unc (look P σ t x)) (P.cellsOf (ZP P t))).2.1.length + (Sx σ (unc (look P σ t y)) (P.cellsOf (ZP P t))).2.length <= 9223372036854775807,
   (VW σ (unc (look P σ t x)) (P.cellsOf (ZP P t))).2.2.new d (.one (.sref d 0 0 ((VW σ (unc (look P σ t x)) (P.cellsOf (ZP P t))).2.1.length + (Sx σ (unc (look P σ t y)) (P.cellsOf (ZP P t))).2.length)))
    [.arr false (P.cellsOf (ZP P t)) ((VW σ (unc (look P σ t x)) (P.cellsOf (ZP P t))).2.1 ++ (Sx σ (unc (look P σ t y)) (P.cellsOf (ZP P t))).2)])
 | op => ((evV P σ op o.type).1, σ.put d (evV P σ op o.type).2)
def Gh (P : Program) (σ : St) (T : TypeId) (x y : Operand) : Prop × St :=
 match unc (look P σ 0 x) with
 | .one (.bptr t c) => (match σ.ob t 0 with
  | .box cells => (yf P T = true /\ gOf (look P σ 0 x) = true /\ gOf (look P σ T y) = true /\ (unc (look P σ T y)).flat = true /\ (unc (look P σ T y)).cells.length = P.cellsOf T /\ c + P.cellsOf T <= cells.length, σ.Zs t 0 (.box (place cells c (unc (look P σ T y)).cells)))
  | _ => (False, σ))
 | .one (.ptr t j i c) => (match σ.ob t j with
  | .arr q size rows => ((yf P T = true /\ gOf (look P σ 0 x) = true /\ gOf (look P σ T y) = true /\ (unc (look P σ T y)).flat = true /\ (rowOf σ (unc (look P σ T y)).cells).isSome = true /\ Jw (unc (look P σ T y)).cells = true /\ ((rowOf σ (unc (look P σ T y)).cells).getD []).length = P.cellsOf T /\ c + P.cellsOf T <= size) /\ i < rows.length /\ (q = true -> ((rowOf σ (unc (look P σ T y)).cells).getD []).all D.scalar = true /\ (cut (rowAt rows i) c (P.cellsOf T)).all D.scalar = true),
    σ.Zs t j (.arr q size (rows.set i (place (rowAt rows i) c ((rowOf σ (unc (look P σ T y)).cells).getD [])))))
  | _ => (False, σ))
 | _ => (False, σ)
theorem Dl {P : Program} {σ : St} {o : Oper} {d : Nat} (pc : ∀ c, o.op = .call c -> ∀ f, c.callee ≠ .value (.func f)) (hc : (evS P σ o d).1) : Step P o d σ (evS P σ o d).2 := by
 unfold evS at hc ⊢
 split at hc
 ·rename_i T uA
  unfold Step
  rw [uA]
  split at hc
  ·rename_i row ur; simp only [ur]; exact ⟨hc.1, hc.2, row, rfl, rfl⟩
  ·exact hc.elim
 ·rename_i T x uA
  unfold Step; rw [uA]
  exact ⟨hc.1, hc.2.1, hc.2.2.1, hc.2.2.2, rfl⟩
 ·rename_i T n parts uA
  unfold Step; rw [uA]
  obtain ⟨⟨h1, h2, h3, h4, h5, h6⟩, h7⟩ := hc
  exact .inl ⟨h1, h2, h3, h4, h5, h6, .inl ⟨_, Rp h7, rfl⟩⟩
 ·rename_i T x y uA
  unfold Step; rw [uA]
  split at hc
  ·rename_i z hz
   split at hc
   ·rename_i zr sV
    obtain ⟨⟨h1, h2, h3, h4, h5, h6⟩, h7, h8, h9⟩ := hc
    have hl := jB h6
    simp only [hz]
    refine ⟨h1, h2, h3, h4, h5, false, z, zr, lkK P σ x, (lkI P σ x).2.toNat, (fun hh => by cases hh), rfl, sV, ?_, h8, by omega, rfl⟩
    rw [Int.toNat_of_nonneg h7]; exact hl
   ·exact hc.elim
  ·exact hc.elim
 ·rename_i x y t t' uA
  unfold Step; rw [uA]
  obtain ⟨⟨⟨rfl, h1, h2, h3, h4, h5⟩, h6, h7, h8⟩, h9, ru⟩ := hc
  exact ⟨x, y, t, rfl, rfl, h1, h2, h3, h4, h5, _, _, _, De h6, Ck h7, h8, h9, ru, rfl⟩
 ·rename_i op h1 h2 h3 h4 h5
  have hv := G5 hc
  unfold Step
  split
  ·rename_i T uA; exact absurd uA (h1 T)
  ·rename_i T x uA; exact absurd uA (h2 T x)
  ·rename_i T n ps uA; exact absurd uA (h3 T n ps)
  ·rename_i T x y uA; exact absurd uA (h4 T x y)
  ·rename_i c uA
   split
   ·rename_i re
    rw [uA] at hv
    simp only [YJ] at hv
    split at hv
    ·rename_i pk _ _; rw [re] at pk; cases pk
    ·rename_i pk _; rw [re] at pk; cases pk
    ·rename_i pk _; rw [re] at pk; cases pk
    ·exact hv.elim
   ·rename_i f re; exact absurd re (pc c uA f)
   ·exact ⟨_, hv, rfl⟩
  ·exact .inl ⟨_, hv, rfl⟩
  ·exact ⟨_, hv, rfl⟩
theorem Bl {P : Program} {σ : St} {T : TypeId} {x y : Operand} (hc : (Gh P σ T x y).1) : zi P σ T x y (Gh P σ T x y).2 := by
 unfold Gh at hc ⊢
 unfold zi
 split at hc
 ·rename_i t c hx
  split at hc
  ·rename_i cells ho
   obtain ⟨h1, h2, h3, h4, h5, h6⟩ := hc
   first | (rw [hx]; simp only [ho]) | simp only [ho]
   exact ⟨h1, h2, h3, h4, cells, rfl, h5, h6, rfl⟩
  ·exact hc.elim
 ·rename_i t j i c hx
  split at hc
  ·rename_i q size rows ho
   obtain ⟨⟨h1, h2, h3, h4, h5, h6, h7, h8⟩, h9, ru⟩ := hc
   obtain ⟨ds, oX⟩ := Option.isSome_iff_exists.1 h5
   first | (rw [hx]; simp only [ho]) | simp only [ho]
   refine ⟨h1, h2, h3, h4, q, size, rows, ds, rfl, h9, oX, h6, ?_, h8, fun hq => ?_, ?_⟩
   ·rw [oX] at h7; exact h7
   ·have := ru hq
    rw [oX] at this; exact this
   ·rw [oX]; rfl
  ·exact hc.elim
 ·exact hc.elim
def FI : List At -> Bool
 | [] => false
 | .nil _ :: _ => true
 | _ :: xs => FI xs
def EP (P : Program) (T : TypeId) : Bool := match qp P 12 (ZP P T) with | some z => FI z | none => false
def Ik : List At -> Bool
 | [] => true
 | .d (.sl _ _) :: _ => false
 | .d _ :: xs => Ik xs
 | _ => false
def AW (P : Program) (σ : St) (T : TypeId) (x y : Operand) : Bool :=
 match unc (look P σ 0 x) with
 | .one (.ptr t j _ _) => (match σ.ob t j with | .arr true _ _ => !Ik (unc (look P σ T y)).cells | _ => false)
 | .one (.tref _ _ _ _ (some _)) => true
 | _ => false
def stops (P : Program) (bar : Oper -> Bool) (o : Oper) : Bool :=
 match o.op with
 | .call ⟨.value _, _, _⟩ => true
 | .call ⟨.builtin .append, _, ⟨t :: _⟩⟩ => EP P t
 | .buildSlice T _ _ => EP P T || wF bar o
 | .makeSlice T _ _ => EP P T
 | .makeFunc _ _ _ => true
 | .convert _ T _ => (F2 P T).isNone
 | .indexAddr _ _ _ => o.guard.isSome
 | .index _ _ _ => o.guard.isSome
 | .slice _ _ _ _ _ => o.guard.isSome
 | _ => false
def xH (P : Program) (ops : Array Oper) (bar : Oper -> Bool) (o : Oper) (rest : List Oper) (σ : St) (Q : St -> Prop) : Prop := ∃ σ', Jo P ops bar o σ σ' /\ Ic P ops bar rest σ' Q
def Ev (P : Program) (ops : Array Oper) (bar : Oper -> Bool) : List Oper -> St -> (St -> Prop) -> Prop
 | [], σ, Q => Q σ
 | o :: rest, σ, Q =>
  if stops P bar o then xH P ops bar o rest σ Q else
  match o.guard with
  | none =>
   (match o.dst with
   | some d => (evS P σ o d).1 /\ Ev P ops bar rest (evS P σ o d).2 Q
   | none => (match o.op with | .store T x y => if AW P σ T x y then xH P ops bar o rest σ Q else (Gh P σ T x y).1 /\ Ev P ops bar rest (Gh P σ T x y).2 Q | _ => False))
  | some (j, want) =>
   (match (ops[j]?).bind (·.dst), o.dst with
   | some dj, some d => (match y8 want (σ.get dj) with
    | some g => (dj < σ.length /\ (g = true -> (evV P σ o.op o.type).1 /\ gOf (evV P σ o.op o.type).2 = true /\ (unc (evV P σ o.op o.type).2).flat = true)) /\ Ev P ops bar rest (σ.put d (.cnd g (unc (evV P σ o.op o.type).2))) Q
    | none => False)
   | _, _ => False)
theorem Qj {P : Program} {ops : Array Oper} {bar : Oper -> Bool} : ∀ {l : List Oper} {σ : St} {Q : St -> Prop}, Ev P ops bar l σ Q -> Ic P ops bar l σ Q
 | [], _, _, h => h
 | o :: rest, σ, Q, h => by
  unfold Ev at h
  split at h
  ·exact h
  ·rename_i uf
   have pc : ∀ c, o.op = .call c -> ∀ f, c.callee ≠ .value (.func f) := by
    intro c uA f re
    obtain ⟨cc, ca, ct⟩ := c
    simp only at re; subst re
    exact uf (by simp [stops, uA])
   split at h
   ·rename_i hg
    split at h
    ·rename_i d hd
     refine ⟨_, .inl ?_, Qj h.2⟩
     unfold Yz
     simp only [hg, hd]
     exact Dl pc h.1
    ·rename_i hd
     split at h
     ·rename_i T x y uA
      split at h
      ·exact h
      ·refine ⟨_, .inl ?_, Qj h.2⟩
       unfold Yz
       simp only [hg, hd, uA]
       exact Bl h.1
     ·exact h.elim
   ·rename_i j want hg
    split at h
    ·rename_i dj d tx hd
     split at h
     ·rename_i g sE
      refine ⟨_, .inl ?_, Qj h.2⟩
      unfold Yz
      simp only [hg]
      refine ⟨dj, d, g, _, tx, h.1.1, hd, sE, fun nh => ?_, rfl⟩
      obtain ⟨h1, h2, h3⟩ := h.1.2 nh
      have base : ∃ v0, YJ P σ o.op o.type v0 /\ gOf v0 = true /\ unc (evV P σ o.op o.type).2 = unc v0 /\ (unc (evV P σ o.op o.type).2).flat = true := ⟨_, G5 h1, h2, rfl, h3⟩
      unfold PB
      split
      ·rename_i c uA
       split
       ·rename_i f re; exact absurd re (pc c uA f)
       ·exact base
      ·exact base
     ·exact h.elim
    ·exact h.elim
theorem AY {P : Program} {Q : Exit -> St -> Prop} {σ : St} {id : Nat} {l : List Oper} {bar : Oper -> Bool} (h : Ev P l.toArray bar l σ (Q .normal)) : AWP P (.region id l.toArray false) Q σ := Fw (Qj h)
theorem H3 {P : Program} {ops : Array Oper} {bar : Oper -> Bool} {o : Oper} {rest : List Oper} {σ : St} {Q : St -> Prop} {c : Call} {f : FuncId} {d : Nat} {own : Bool} {rows res : List (List D)} (uA : o.op = .call c) (hc : c.callee = .value (.func f)) (hg : o.guard = none) (hd : o.dst = some d)
  (uH : QC P σ c.args.toList c.argTypes.toList rows) (hs : QB P f own rows res) (uf : YM P σ c.args.toList c.argTypes.toList = true \/ JI own res) (h : Ev P ops bar rest (σ.put d (ye res)) Q) : xH P ops bar o rest σ Q := by
 refine ⟨_, .inl ?_, Qj h⟩
 unfold Yz; simp only [hg, hd]
 unfold Step
 rw [uA]
 simp only [hc]
 exact .inl ⟨own, res, ⟨rows, uH, hs, uf⟩, rfl⟩
theorem Ig {P : Program} {ops : Array Oper} {bar : Oper -> Bool} {o : Oper} {rest : List Oper} {σ : St} {Q : St -> Prop} {c : Call} {f : FuncId} {d : Nat} {rows res : List (List D)} (uA : o.op = .call c) (hc : c.callee = .value (.func f)) (hg : o.guard = none) (hd : o.dst = some d)
  (uH : QC P σ c.args.toList c.argTypes.toList rows) (hs : QB P f true rows res) (uf : YM P σ c.args.toList c.argTypes.toList = true \/ JI true res) (hf : σ.fresh d = true) (h : Ev P ops bar rest (σ.new d (xL d res) (zW res.flatten)) Q) : xH P ops bar o rest σ Q := by
 refine ⟨_, .inl ?_, Qj h⟩
 unfold Yz; simp only [hg, hd]
 unfold Step
 rw [uA]
 simp only [hc]
 exact .inr (.inl ⟨res, ⟨rows, uH, hs, uf⟩, hf, rfl⟩)
theorem FY {P : Program} {ops : Array Oper} {bar : Oper -> Bool} {o : Oper} {rest : List Oper} {σ : St} {Q : St -> Prop} {c : Call} {f : FuncId} {d j dj : Nat} {want g own : Bool} {rows : List (List D)} {res : List D} (uA : o.op = .call c) (hc : c.callee = .value (.func f)) (hg : o.guard = some (j, want)) (hd : o.dst = some d)
  (tx : (ops[j]?).bind (·.dst) = some dj) (uL : dj < σ.length) (sE : y8 want (σ.get dj) = some g)
  (uH : g = true -> QC P σ c.args.toList c.argTypes.toList rows) (hs : g = true -> QB P f own rows [res]) (uf : YM P σ c.args.toList c.argTypes.toList = true \/ JI own [res]) (h : Ev P ops bar rest (σ.put d (.cnd g (ye [res]))) Q) : xH P ops bar o rest σ Q := by
 refine ⟨_, .inl ?_, Qj h⟩
 unfold Yz; simp only [hg]
 refine ⟨dj, d, g, _, tx, uL, hd, sE, fun nh => ?_, rfl⟩
 unfold PB
 rw [uA]
 simp only [hc]
 exact ⟨own, res, ⟨rows, uH nh, hs nh, uf⟩, rfl⟩
theorem HD {P : Program} {ops : Array Oper} {bar : Oper -> Bool} {o : Oper} {rest : List Oper} {σ : St} {Q : St -> Prop} {S T : TypeId} {x : Operand} {d : Nat} {s : ByteArray} (uA : o.op = .convert S T x) (hg : o.guard = none) (hd : o.dst = some d)
  (h1 : gOf (look P σ S x) = true) (h2 : W8 P S = true) (h3 : Sl P T = true) (h4 : unc (look P σ S x) = .one (.d (.str s))) (h5 : s.size <= 9223372036854775807) (h : Ev P ops bar rest (σ.put d (.one (.d (.sl 1 (J1 s.data.toList))))) Q) : xH P ops bar o rest σ Q := by
 refine ⟨_, .inl ?_, Qj h⟩
 unfold Yz; simp only [hg, hd]
 unfold Step
 rw [uA]
 exact .inr (.inr ⟨s, h1, h2, h3, h4, h5, rfl⟩)
theorem C7 {P : Program} {ops : Array Oper} {bar : Oper -> Bool} {o : Oper} {rest : List Oper} {σ : St} {Q : St -> Prop} {d : Nat} (pc : ∀ c, o.op = .call c -> ∀ f, c.callee ≠ .value (.func f)) (hg : o.guard = none) (hd : o.dst = some d)
  (h1 : (evS P σ o d).1) (h : Ev P ops bar rest (evS P σ o d).2 Q) : xH P ops bar o rest σ Q := by
 refine ⟨_, .inl ?_, Qj h⟩
 unfold Yz; simp only [hg, hd]
 exact Dl pc h1
theorem Fb {P : Program} {ops : Array Oper} {bar : Oper -> Bool} {o : Oper} {rest : List Oper} {σ : St} {Q : St -> Prop} {c : Call} {f : FuncId} {d : Nat} {rows res : List (List D)} (qs : List Bool) (uA : o.op = .call c) (hc : c.callee = .value (.func f)) (hg : o.guard = none) (hd : o.dst = some d)
  (uH : QC P σ c.args.toList c.argTypes.toList rows) (hs : YP P f rows res) (hq : xk qs res.flatten) (hf : σ.fresh d = true) (h : Ev P ops bar rest (σ.new d (xL d res) (Yc qs res.flatten)) Q) : xH P ops bar o rest σ Q := by
 refine ⟨_, .inl ?_, Qj h⟩
 unfold Yz; simp only [hg, hd]
 unfold Step
 rw [uA]
 simp only [hc]
 exact .inr (.inr ⟨rows, res, qs, uH, hs, hq, hf, rfl⟩)
def Jn (P : Program) (σ : St) (T : TypeId) (size : Nat) : List (Nat × Operand) -> Nat -> Prop × List (List At)
 | [], _ => (True, [])
 | (i, x) :: ps, k => ((i = k /\ gOf (look P σ T x) = true /\ (unc (look P σ T x)).flat = true /\ (unc (look P σ T x)).cells.length = size) /\ (Jn P σ T size ps (k + 1)).1, (unc (look P σ T x)).cells :: (Jn P σ T size ps (k + 1)).2)
theorem Ni {P : Program} {σ : St} {T : TypeId} {size : Nat} : ∀ {ps : List (Nat × Operand)} {k : Nat}, (Jn P σ T size ps k).1 -> S8 P σ T size ps k (Jn P σ T size ps k).2
 | [], _, _ => rfl
 | (_, x) :: _, _, h => by
  obtain ⟨⟨h1, h2, h3, h4⟩, h7⟩ := h
  exact ⟨h1, h2, h3, h4, _, Ni h7, rfl⟩
theorem Cd {P : Program} {ops : Array Oper} {bar : Oper -> Bool} {o : Oper} {rest : List Oper} {σ : St} {Q : St -> Prop} {d : Nat} {T : TypeId} {n : Nat} {parts : Array (Nat × Operand)} (uA : o.op = .buildSlice T n parts) (hg : o.guard = none) (hd : o.dst = some d)
  (h1 : σ.fresh d = true /\ Yq P T = true /\ XX P (ZP P T) = true /\ 0 < P.cellsOf (ZP P T) /\ parts.toList.length = n /\ n * P.cellsOf (ZP P T) <= 16777216) (h2 : (Jn P σ (ZP P T) (P.cellsOf (ZP P T)) parts.toList 0).1)
  (h3 : YF d (Jn P σ (ZP P T) (P.cellsOf (ZP P T)) parts.toList 0).2.flatten = false)
  (h : Ev P ops bar rest (σ.new d (.one (.sref d 0 0 (Jn P σ (ZP P T) (P.cellsOf (ZP P T)) parts.toList 0).2.length)) [.lit (P.cellsOf (ZP P T)) (Jn P σ (ZP P T) (P.cellsOf (ZP P T)) parts.toList 0).2]) Q) : xH P ops bar o rest σ Q := by
 refine ⟨_, .inl ?_, Qj h⟩
 unfold Yz; simp only [hg, hd]
 unfold Step
 rw [uA]
 exact .inl ⟨h1.1, h1.2.1, h1.2.2.1, h1.2.2.2.1, h1.2.2.2.2.1, h1.2.2.2.2.2, .inr ⟨_, Ni h2, h3, rfl⟩⟩
theorem Dq {P : Program} {ops : Array Oper} {bar : Oper -> Bool} {o : Oper} {rest : List Oper} {σ : St} {Q : St -> Prop} {d : Nat} {T : TypeId} {n : Nat} {parts : Array (Nat × Operand)} (uA : o.op = .buildSlice T n parts) (hg : o.guard = none) (hd : o.dst = some d)
  (h1 : Yq P T = true /\ XX P (ZP P T) = true /\ 0 < P.cellsOf (ZP P T) /\ parts.toList.length = n /\ n * P.cellsOf (ZP P T) <= 16777216) (h2 : (yx P σ (ZP P T) (P.cellsOf (ZP P T)) parts.toList 0).1)
  (h : Ev P ops bar rest (σ.put d (.one (.d (.sl (P.cellsOf (ZP P T)) (yx P σ (ZP P T) (P.cellsOf (ZP P T)) parts.toList 0).2)))) Q) : xH P ops bar o rest σ Q := by
 refine ⟨_, .inl ?_, Qj h⟩
 unfold Yz; simp only [hg, hd]
 unfold Step
 rw [uA]
 exact .inr ⟨h1, _, Rp h2, rfl⟩
def jo (σ : St) (x : V) (size : Nat) : Prop × List (List D) × List (Nat × Nat) :=
 match x with
 | .one (.nil _) => (True, [], [])
 | .one (.sref t j lo len) => (match σ.ob t j with | .arr true s uC => (s = size /\ lo = 0 /\ len = uC.length, uC, [(t, j)]) | _ => (False, [], []))
 | _ => (False, [], [])
theorem Eu {σ : St} {x : V} {size : Nat} (h : (jo σ x size).1) : Eb σ x size (jo σ x size).2.1 (jo σ x size).2.2 := by
 unfold jo at h ⊢
 split at h
 ·exact ⟨rfl, rfl⟩
 ·rename_i t j lo len
  split at h
  ·rename_i s uC ho
   obtain ⟨rfl, rfl, rfl⟩ := h
   exact ⟨ho, rfl, rfl, rfl⟩
  ·exact h.elim
 ·exact h.elim
def js (σ : St) (x : V) (size : Nat) : Prop × List (List D) × List (Nat × Nat) :=
 match x with
 | .one (.sref t j lo len) => (match σ.ob t j with | .lit s rows => ((s = size /\ lo = 0 /\ len = rows.length) /\ (JL σ rows).isSome = true /\ Qv σ rows, (JL σ rows).getD [], XL rows.flatten) | _ => (False, [], []))
 | _ => (False, [], [])
theorem E3 {σ : St} {x : V} {size : Nat} (h : (js σ x size).1) : Ej σ x size (js σ x size).2.1 (js σ x size).2.2 := by
 unfold js at h ⊢
 split at h
 ·rename_i t j lo len
  split at h
  ·rename_i s rows ho
   obtain ⟨⟨rfl, rfl, rfl⟩, h1, h2⟩ := h
   obtain ⟨ns, pc⟩ := Option.isSome_iff_exists.1 h1
   exact ⟨rows, ho, rfl, rfl, by rw [pc]; rfl, h2, rfl⟩
  ·exact h.elim
 ·exact h.elim
theorem xa : ∀ (σ : St) (d : Nat) (v : V) (t : Nat), (σ.put d v)[t]? = if t = d then (σ[t]?).map (fun e => (v, e.2)) else σ[t]?
 | [], _, _, _ => by simp [St.put]
 | e :: σ, 0, v, t => by cases t <;> simp [St.put]
 | e :: σ, d + 1, v, t => by
  cases t with
  | zero => simp [St.put]
  | succ t => have := xa σ d v t; simpa [St.put] using this
theorem K6 : ∀ (σ : St) (d : Nat) (v : V) (os : List Ob) (t : Nat), (σ.new d v os)[t]? = if t = d then (σ[t]?).map (fun _ => (v, os)) else σ[t]?
 | [], _, _, _, _ => by simp [St.new]
 | e :: σ, 0, v, os, t => by cases t <;> simp [St.new]
 | e :: σ, d + 1, v, os, t => by
  cases t with
  | zero => simp [St.new]
  | succ t => have := K6 σ d v os t; simpa [St.new] using this
theorem QA : ∀ (σ : St) (a j : Nat) (o : Ob) (t : Nat), (σ.Zs a j o)[t]? = if t = a then (σ[t]?).map (fun e => (e.1, e.2.set j o)) else σ[t]?
 | [], _, _, _, _ => by simp [St.Zs]
 | e :: σ, 0, j, o, t => by cases t <;> simp [St.Zs]
 | e :: σ, a + 1, j, o, t => by
  cases t with
  | zero => simp [St.Zs]
  | succ t => have := QA σ a j o t; simpa [St.Zs] using this
theorem yG {σ : St} {d : Nat} : Xb σ d = true ↔ σ[d]? = some (.any, []) \/ ∃ x, σ[d]? = some (.one (.d x), []) := by
 unfold Xb
 constructor
 ·intro h
  split at h
  ·rename_i h1; exact .inl h1
  ·rename_i x h1; exact .inr ⟨x, h1⟩
  ·cases h
 ·rintro (h | ⟨x, h⟩) <;> rw [h]
theorem QN {σ : St} {d a j : Nat} {o : Ob} (h : Xb σ d = true) : Xb (σ.Zs a j o) d = true := by
 rw [yG] at *
 rw [QA]
 rcases h with h | ⟨x, h⟩
 ·left; rw [h]; split <;> rfl
 ·right; refine ⟨x, ?_⟩; rw [h]; split <;> rfl
theorem JW : ∀ {l : List (Nat × Nat)} {σ : St} {d : Nat}, Xb σ d = true -> Xb (σ.Zx l) d = true
 | [], _, _, h => h
 | p :: l, σ, d, h => by rw [St.Zx]; exact JW (l := l) (QN h)
theorem jc {σ : St} {d d' : Nat} {v : V} {os : List Ob} (uD : d ≠ d') (h : Xb σ d = true) : Xb (σ.new d' v os) d = true := by
 unfold Xb at *; simp only [K6, if_neg uD]; exact h
theorem Y7 {P : Program} {σ : St} {d : Nat} {v : V} {T : TypeId} {x : Operand} (h : zH d x = false) : look P (σ.put d v) T x = look P σ T x := by
 cases x with
 | tmp t =>
  have uD : t ≠ d := fun e => by subst e; simp [zH] at h
  simp [look, St.J2, uD]
 | const c => rfl
 | global g => rfl
 | func f => rfl
theorem zN : ∀ (σ : St) (d : Nat) (v : V) (t j : Nat) (o : Ob), (σ.put d v).Zs t j o = (σ.Zs t j o).put d v
 | [], _, _, _, _, _ => rfl
 | e :: σ, 0, v, 0, j, o => rfl
 | e :: σ, d + 1, v, 0, j, o => rfl
 | e :: σ, 0, v, t + 1, j, o => rfl
 | e :: σ, d + 1, v, t + 1, j, o => by simp [St.put, St.Zs, zN σ d v t j o]
theorem kR {d : Nat} {v : V} : ∀ (l : List (Nat × Nat)) (σ : St), (σ.put d v).Zx l = (σ.Zx l).put d v
 | [], _ => rfl
 | p :: l, σ => by rw [St.Zx, St.Zx, zN, kR l]
theorem Rs {σ : St} {d : Nat} {v : V} : ∀ (xs : List At), Jl (σ.put d v) xs = Jl σ xs
 | [] => rfl
 | x :: xs => by
  have : mvD (σ.put d v) x = mvD σ x := by cases x <;> simp [mvD, St.QF]
  simp only [Jl, this, Rs xs]
theorem Vj {σ : St} {d : Nat} {v : V} : ∀ (xs : List At), QR (σ.put d v) xs = QR σ xs
 | [] => rfl
 | x :: xs => by
  have : Mp (σ.put d v) x = Mp σ x := by cases x <;> simp [Mp, St.QF]
  simp only [QR, this, Vj xs]
theorem Ux : ∀ (l : List (Nat × V)) (σ : St), (σ.QO l).ob = σ.ob
 | [], _ => rfl
 | p :: l, σ => by rw [St.QO, Ux l, St.QF]
theorem qB {P : Program} {T : TypeId} {x : Operand} : ∀ (l : List (Nat × V)) (σ : St), (∀ p ∈ l, zH p.1 x = false) -> look P (σ.QO l) T x = look P σ T x
 | [], _, _ => rfl
 | p :: l, σ, h => by rw [St.QO, qB l _ (fun q hq => h q (by simp [hq])), Y7 (h p (by simp))]
theorem yz {t j : Nat} {o : Ob} : ∀ (l : List (Nat × V)) (σ : St), (σ.QO l).Zs t j o = (σ.Zs t j o).QO l
 | [], _ => rfl
 | p :: l, σ => by rw [St.QO, yz l, zN, St.QO]
theorem K7 {L : List (Nat × Nat)} : ∀ (l : List (Nat × V)) (σ : St), (σ.QO l).Zx L = (σ.Zx L).QO l
 | [], _ => rfl
 | p :: l, σ => by rw [St.QO, K7 l, kR, St.QO]
theorem F9 : ∀ {σ : St} {t d : Nat} {v v' : V} {os : List Ob}, t ≠ d -> (σ.put t v').new d v os = (σ.new d v os).put t v'
 | [], _, _, _, _, _, _ => rfl
 | e :: σ, 0, 0, _, _, _, h => absurd rfl h
 | e :: σ, 0, d + 1, _, _, _, _ => rfl
 | e :: σ, t + 1, 0, _, _, _, _ => rfl
 | e :: σ, t + 1, d + 1, v, v', os, h => by simp [St.put, St.new, F9 (σ := σ) (v := v) (v' := v') (os := os) (fun hh => h (congrArg (· + 1) hh))]
theorem HM {d : Nat} {v : V} {os : List Ob} : ∀ (l : List (Nat × V)) (σ : St), (∀ p ∈ l, p.1 ≠ d) -> (σ.QO l).new d v os = (σ.new d v os).QO l
 | [], _, _ => rfl
 | p :: l, σ, h => by rw [St.QO, HM l _ (fun q hq => h q (by simp [hq])), F9 (h p (by simp)), St.QO]
theorem TL {d : Nat} {v : V} (hv : v.ref d = false) : ∀ {σ : St} {k t : Nat}, Km d k σ = true -> Km d k (σ.put t v) = true
 | [], _, _, h => h
 | e :: σ, k, 0, h => by
  simp only [Km, St.put, Bool.and_eq_true, Bool.or_eq_true, Bool.not_eq_true'] at h ⊢
  exact ⟨h.1.imp id (fun hh => ⟨hv, hh.2⟩), h.2⟩
 | e :: σ, k, t + 1, h => by
  simp only [Km, St.put, Bool.and_eq_true] at h ⊢
  exact ⟨h.1, TL hv h.2⟩
theorem Ws {d : Nat} : ∀ (l : List (Nat × V)) {σ : St}, (∀ p ∈ l, p.2.ref d = false) -> σ.fresh d = true -> (σ.QO l).fresh d = true
 | [], _, _, h => h
 | p :: l, σ, hl, h => by
  refine Ws l (fun q hq => hl q (by simp [hq])) ?_
  simp only [St.fresh, Bool.and_eq_true, decide_eq_true_eq, St.QH] at h ⊢
  exact ⟨h.1, TL (hl p (by simp)) h.2⟩
theorem jY {o : Oper} {x y : Operand} {t : TypeId} (uA : o.op = .call ⟨.builtin .append, #[x, y], #[t, t]⟩) {n : Nat} (h : Tj o n = true) : zH n x = false /\ zH n y = false := by
 have hx : x ∈ o.op.operands.toList := by rw [uA]; simp [Op.operands, Call.operands]
 have hy : y ∈ o.op.operands.toList := by rw [uA]; simp [Op.operands, Call.operands]
 simp only [Tj, Bool.not_eq_true'] at h
 exact ⟨Bool.eq_false_iff.2 (List.any_eq_false.1 h x hx), Bool.eq_false_iff.2 (List.any_eq_false.1 h y hy)⟩
theorem Gt {σ σ' : St} (h : σ'.ob = σ.ob) : ∀ (xs : List At), Jl σ' xs = Jl σ xs
 | [] => rfl
 | x :: xs => by
  have : mvD σ' x = mvD σ x := by cases x <;> simp [mvD, h]
  simp only [Jl, this, Gt h xs]
theorem Nl {σ σ' : St} (h : σ'.ob = σ.ob) : ∀ (xs : List At), QR σ' xs = QR σ xs
 | [] => rfl
 | x :: xs => by
  have : Mp σ' x = Mp σ x := by cases x <;> simp [Mp, h]
  simp only [QR, this, Nl h xs]
theorem Ln {σ σ' : St} (h : σ'.ob = σ.ob) : ∀ (xs : List (List At)), JL σ' xs = JL σ xs
 | [] => rfl
 | x :: xs => by simp only [JL, Gt h, Ln h xs]
theorem Pl {σ σ' : St} (h : σ'.ob = σ.ob) : ∀ (xs : List (List At)), Qv σ' xs = Qv σ xs
 | [] => rfl
 | x :: xs => by simp only [Qv, Nl h, Pl h xs]
theorem C6 {σ σ' : St} (h : σ'.ob = σ.ob) {x : V} {size : Nat} {uC : List (List D)} {l : List (Nat × Nat)} (hd : Eb σ x size uC l) : Eb σ' x size uC l := by
 unfold Eb at *; rw [h]; exact hd
theorem BP {σ σ' : St} (h : σ'.ob = σ.ob) {x : V} {size : Nat} {news : List (List D)} {l : List (Nat × Nat)} (hd : Ej σ x size news l) : Ej σ' x size news l := by
 unfold Ej at *
 simp only [h, Ln h, Pl h]; exact hd
theorem BM {σ σ' : St} (h : σ'.ob = σ.ob) {x : V} {size : Nat} {uC : List (List D)} {l : List (Nat × Nat)} (hd : GJ σ x size uC l) : GJ σ' x size uC l := by
 unfold GJ at *; rw [h]; exact hd
theorem L4 {d : Nat} : ∀ {os : List Ob} {j : Nat} {cells : List At}, Yh d os = false -> YS os j = .box cells -> YF d cells = false
 | [], j, cells, _, h => by simp [YS] at h
 | o :: os, 0, cells, hr, h => by
  simp only [YS, List.getElem?_cons_zero] at h
  subst h
  simp only [Yh, Bool.or_eq_false_iff] at hr; exact hr.1
 | o :: os, j + 1, cells, hr, h => by
  have h' : YS os j = .box cells := by simpa [YS] using h
  refine L4 (os := os) (j := j) ?_ h'
  cases o <;> simp only [Yh, Bool.or_eq_false_iff] at hr <;> first | exact hr.2 | exact hr
theorem Nk {P : Program} {ops : Array Oper} {o : Oper} {σ X : St} {d : Nat} {v : V} {os : List Ob} (hd : o.dst = some d) (hlen : X.length = σ.length) (tO : ∀ t, X.get t = σ.get t) (sX : ∀ t j cells, X.ob t j = .box cells -> σ.ob t j = .box cells)
  (tX : ∀ t j q s rows, X.ob t j = .arr q s rows -> ∃ uQ, σ.ob t j = .arr q s uQ) (hf : X.fresh d = true)
  (hs : ∀ l : List (Nat × V), (∀ p ∈ l, p.1 ≠ d /\ Tj o p.1 = true /\ p.2.ref d = false) -> kT P ops o (σ.QO l) ((X.QO l).new d v os)) (hc : ∀ l : List (Nat × V), UN o (σ.QO l) ((X.QO l).new d v os)) : wP P ops o σ (X.new d v os) := by
 have uL := St.KJ hf
 have ic : ∀ t e, X[t]? = some e -> t ≠ d -> e.1.ref d = false /\ Yh d e.2 = false := fun t e he uD => by
  have h1 := hf
  simp only [St.fresh, Bool.and_eq_true] at h1
  exact zP h1.2 t e he (by omega)
 refine ⟨d, hd, by rw [St.jy, hlen], fun t uD => ?_, fun t j cells uD hb => ?_, fun t j q s rows uD hb => ?_, fun l hl => ?_⟩
 ·rw [St.ko, if_neg (fun hh => uD hh.1), tO]
  refine ⟨rfl, ?_⟩
  rw [<- tO]
  unfold St.get
  cases he : X[t]? with
  | none => rfl
  | some e => exact (ic t e he uD).1
 ·rw [St.Qu, if_neg (fun hh => uD hh.1)] at hb
  refine ⟨sX t j cells hb, ?_⟩
  unfold St.ob at hb
  cases he : X[t]? with
  | none => rw [he] at hb; cases hb
  | some e => rw [he] at hb; exact L4 (ic t e he uD).2 hb
 ·rw [St.Qu, if_neg (fun hh => uD hh.1)] at hb
  exact tX t j q s rows hb
 ·have e := HM (d := d) (v := v) (os := os) l X (fun p hp => (hl p hp).1)
  rw [<- e]
  exact ⟨hs l hl, hc l⟩
theorem N8 {σ : St} {L : List (Nat × Nat)} {t j : Nat} {cells : List At} (h : (σ.Zx L).ob t j = .box cells) : σ.ob t j = .box cells := by
 rw [St.KV] at h
 split at h
 ·cases h
 ·exact h
theorem NK {σ : St} {L : List (Nat × Nat)} {t j : Nat} {q : Bool} {s : Nat} {rows : List (List D)} (h : (σ.Zx L).ob t j = .arr q s rows) : σ.ob t j = .arr q s rows := by
 rw [St.KV] at h
 split at h
 ·cases h
 ·exact h
theorem CR {P : Program} {ops : Array Oper} {bar : Oper -> Bool} {o : Oper} {rest : List Oper} {σ : St} {Q : St -> Prop} {d : Nat} {x y : Operand} {t : TypeId} {uC news : List (List D)} {l1 l2 : List (Nat × Nat)} {size : Nat} (uA : o.op = .call ⟨.builtin .append, #[x, y], #[t, t]⟩) (hg : o.guard = none) (hd : o.dst = some d) (uv : bar o = true)
  (tG : size = P.cellsOf (ZP P t)) (h1 : gOf (look P σ t x) = true /\ gOf (look P σ t y) = true /\ Yq P t = true /\ XX P (ZP P t) = true /\ 0 < P.cellsOf (ZP P t))
  (h2 : (jo σ (unc (look P σ t x)) size).1 /\ (jo σ (unc (look P σ t x)) size).2 = (uC, l1)) (h3 : (js σ (unc (look P σ t y)) size).1 /\ (js σ (unc (look P σ t y)) size).2 = (news, l2))
  (h4 : (l1 ++ l2).Nodup /\ (σ.Zx (l1 ++ l2)).fresh d = true) (h5 : (uC.length + news.length) * P.bytesOf (ZP P t) <= 140737488355328 /\ uC.length + news.length <= 9223372036854775807)
  (h : Ev P ops bar rest ((σ.Zx (l1 ++ l2)).new d (.one (.sref d 0 0 (uC.length + news.length))) [.arr true size (uC ++ news)]) Q) : xH P ops bar o rest σ Q := by
 subst tG
 have e1 := Eu h2.1
 have e2 := E3 h3.1
 rw [h2.2] at e1
 rw [h3.2] at e2
 have cl : ∀ σ0 : St, UN o σ0 ((σ0.Zx (l1 ++ l2)).new d (.one (.sref d 0 0 (uC.length + news.length))) [.arr true (P.cellsOf (ZP P t)) (uC ++ news)]) := fun σ0 d' uM hc => jc (fun e => uM (by rw [hd, e])) (JW hc)
 have go : ∀ l : List (Nat × V), (∀ p ∈ l, p.1 ≠ d /\ Tj o p.1 = true /\ p.2.ref d = false) -> kT P ops o (σ.QO l) (((σ.QO l).Zx (l1 ++ l2)).new d (.one (.sref d 0 0 (uC.length + news.length))) [.arr true (P.cellsOf (ZP P t)) (uC ++ news)]) := by
  rintro l hl T0 B a w K Q' ⟨X, hh, r⟩ hK
  have hw : Region.wanted o (yielded ops a.tmps) = true := by simp [Region.wanted, hg]
  rw [if_pos hw]
  have lx : look P (σ.QO l) t x = look P σ t x := qB l σ (fun p hp => (jY uA (hl p hp).2.1).1)
  have ly : look P (σ.QO l) t y = look P σ t y := qB l σ (fun p hp => (jY uA (hl p hp).2.1).2)
  refine Mi r uA hd (by rw [lx]; exact h1.1) (by rw [ly]; exact h1.2.1) h1.2.2.1 h1.2.2.2.1 h1.2.2.2.2 (by rw [lx]; exact C6 (Ux l σ) e1) (by rw [ly]; exact BP (Ux l σ) e2) h4.1 ?_ h5.1 h5.2 hK
  rw [K7]
  exact Ws l (fun p hp => (hl p hp).2.2) h4.2
 have ig : kT P ops o σ ((σ.Zx (l1 ++ l2)).new d (.one (.sref d 0 0 (uC.length + news.length))) [.arr true (P.cellsOf (ZP P t)) (uC ++ news)]) := go [] (fun p hp => by cases hp)
 refine ⟨_, .inr ⟨uv, ig, cl σ, fun hh => by simp [WC, uA] at hh, fun _ => Nk hd (St.Kg _ _) (fun t => St.xA _ _ t) (fun t j cells hb => N8 hb) (fun t j q s rows hb => ⟨rows, NK hb⟩) h4.2 (fun l hl => ?_) (fun l => ?_), fun hh _ => by first | (simp [Jp, uA] at hh; done) | (unfold Jp at hh; rw [uA] at hh; split at hh <;> simp_all)⟩, Qj h⟩
 ·rw [<- K7]; exact go l hl
 ·rw [<- K7]; exact cl _
theorem Dr {P : Program} {ops : Array Oper} {bar : Oper -> Bool} {o : Oper} {rest : List Oper} {σ : St} {Q : St -> Prop} {d : Nat} {x y : Operand} {t : TypeId} {rows : List (List D)} {size u j len lo n : Nat} (uA : o.op = .call ⟨.builtin .append, #[x, y], #[t, t]⟩) (hg : o.guard = none) (hd : o.dst = some d) (uv : bar o = true)
  (tG : size = P.cellsOf (ZP P t)) (h1 : gOf (look P σ t x) = true /\ gOf (look P σ t y) = true /\ Yq P t = true /\ XX P (ZP P t) = true /\ 0 < P.cellsOf (ZP P t))
  (h2 : unc (look P σ t x) = .one (.sref u j 0 len)) (h3 : unc (look P σ t y) = .one (.sref u j lo n)) (ho : σ.ob u j = .arr true size rows) (hle : len <= lo) (pN : lo + n <= rows.length)
  {news : List (List D)} (tS : cut rows lo n = news) (h4 : (σ.Zs u j .none).fresh d = true) (h5 : (len + n) * P.bytesOf (ZP P t) <= 140737488355328 /\ len + n <= 9223372036854775807)
  (h : Ev P ops bar rest ((σ.Zs u j .none).new d (.one (.sref d 0 0 ((rows.take len).length + news.length))) [.arr true size (rows.take len ++ news)]) Q) : xH P ops bar o rest σ Q := by
 subst tG
 subst tS
 rw [Yp _ _ _ pN, List.length_take, Nat.min_eq_left (by omega)] at h
 have cl : ∀ σ0 : St, UN o σ0 ((σ0.Zs u j .none).new d (.one (.sref d 0 0 (len + n))) [.arr true (P.cellsOf (ZP P t)) (rows.take len ++ cut rows lo n)]) := fun σ0 d' uM hc => jc (fun e => uM (by rw [hd, e])) (QN hc)
 have go : ∀ l : List (Nat × V), (∀ p ∈ l, p.1 ≠ d /\ Tj o p.1 = true /\ p.2.ref d = false) -> kT P ops o (σ.QO l) (((σ.QO l).Zs u j .none).new d (.one (.sref d 0 0 (len + n))) [.arr true (P.cellsOf (ZP P t)) (rows.take len ++ cut rows lo n)]) := by
  rintro l hl T0 B a w K Q' ⟨X, hh, r⟩ hK
  have hw : Region.wanted o (yielded ops a.tmps) = true := by simp [Region.wanted, hg]
  rw [if_pos hw]
  have lx : look P (σ.QO l) t x = look P σ t x := qB l σ (fun p hp => (jY uA (hl p hp).2.1).1)
  have ly : look P (σ.QO l) t y = look P σ t y := qB l σ (fun p hp => (jY uA (hl p hp).2.1).2)
  refine Mr r uA hd (by rw [lx]; exact h1.1) (by rw [ly]; exact h1.2.1) h1.2.2.1 h1.2.2.2.1 h1.2.2.2.2 (by rw [lx]; exact h2) (by rw [ly]; exact h3) (by rw [Ux]; exact ho) hle pN ?_ h5.1 h5.2 hK
  show ((σ.QO l).Zs u j .none).fresh d = true
  rw [yz]
  exact Ws l (fun p hp => (hl p hp).2.2) h4
 have ig : kT P ops o σ ((σ.Zs u j .none).new d (.one (.sref d 0 0 (len + n))) [.arr true (P.cellsOf (ZP P t)) (rows.take len ++ cut rows lo n)]) := go [] (fun p hp => by cases hp)
 refine ⟨_, .inr ⟨uv, ig, cl σ, fun hh => by simp [WC, uA] at hh, fun _ => Nk hd (St.Y3 _ _ _ _) (fun t => St.Xl _ _ _ _ t) (fun t i cells hb => N8 (L := [(u, j)]) hb) (fun t i q s rows hb => ⟨rows, NK (L := [(u, j)]) hb⟩) h4 (fun l hl => ?_) (fun l => ?_), fun hh _ => by first | (simp [Jp, uA] at hh; done) | (unfold Jp at hh; rw [uA] at hh; split at hh <;> simp_all)⟩, Qj h⟩
 ·rw [<- yz]; exact go l hl
 ·rw [<- yz]; exact cl _
theorem Dp {P : Program} {ops : Array Oper} {bar : Oper -> Bool} {o : Oper} {rest : List Oper} {σ : St} {Q : St -> Prop} {d : Nat} {x y : Operand} {t : TypeId} {uC rows news : List (List D)} {l1 : List (Nat × Nat)} {size u j lo n : Nat} (uA : o.op = .call ⟨.builtin .append, #[x, y], #[t, t]⟩) (hg : o.guard = none) (hd : o.dst = some d) (uv : bar o = true)
  (tG : size = P.cellsOf (ZP P t)) (h1 : gOf (look P σ t x) = true /\ gOf (look P σ t y) = true /\ Yq P t = true /\ XX P (ZP P t) = true /\ 0 < P.cellsOf (ZP P t))
  (h2 : GJ σ (unc (look P σ t x)) size uC l1) (h3 : unc (look P σ t y) = .one (.sref u j lo n)) (ho : σ.ob u j = .arr true size rows) (mU : (u, j) ∉ l1) (hle : lo + n <= rows.length) (tS : cut rows lo n = news)
  (h4 : ((σ.Zs u j (.arr true size (QS rows lo n))).Zx l1).fresh d = true) (h5 : (uC.length + n) * P.bytesOf (ZP P t) <= 140737488355328 /\ uC.length + n <= 9223372036854775807)
  (h : Ev P ops bar rest (((σ.Zs u j (.arr true size (QS rows lo n))).Zx l1).new d (.one (.sref d 0 0 (uC.length + news.length))) [.arr true size (uC ++ news)]) Q) : xH P ops bar o rest σ Q := by
 subst tG
 subst tS
 rw [Yp _ _ _ hle] at h
 have cl : ∀ σ0 : St, UN o σ0 (((σ0.Zs u j (.arr true (P.cellsOf (ZP P t)) (QS rows lo n))).Zx l1).new d (.one (.sref d 0 0 (uC.length + n))) [.arr true (P.cellsOf (ZP P t)) (uC ++ cut rows lo n)]) := fun σ0 d' uM hc => jc (fun e => uM (by rw [hd, e])) (JW (QN hc))
 have go : ∀ l : List (Nat × V), (∀ p ∈ l, p.1 ≠ d /\ Tj o p.1 = true /\ p.2.ref d = false) -> kT P ops o (σ.QO l) ((((σ.QO l).Zs u j (.arr true (P.cellsOf (ZP P t)) (QS rows lo n))).Zx l1).new d (.one (.sref d 0 0 (uC.length + n))) [.arr true (P.cellsOf (ZP P t)) (uC ++ cut rows lo n)]) := by
  rintro l hl T0 B a w K Q' ⟨X, hh, r⟩ hK
  have hw : Region.wanted o (yielded ops a.tmps) = true := by simp [Region.wanted, hg]
  rw [if_pos hw]
  have lx : look P (σ.QO l) t x = look P σ t x := qB l σ (fun p hp => (jY uA (hl p hp).2.1).1)
  have ly : look P (σ.QO l) t y = look P σ t y := qB l σ (fun p hp => (jY uA (hl p hp).2.1).2)
  refine M3 r uA hd (by rw [lx]; exact h1.1) (by rw [ly]; exact h1.2.1) h1.2.2.1 h1.2.2.2.1 h1.2.2.2.2 (by rw [lx]; exact BM (Ux l σ) h2) (by rw [ly]; exact h3) (by rw [Ux]; exact ho) hle mU ?_ h5.1 h5.2 hK
  rw [yz, K7]
  exact Ws l (fun p hp => (hl p hp).2.2) h4
 have uX : σ.ob u j ≠ .none := by rw [ho]; simp
 have ig : kT P ops o σ (((σ.Zs u j (.arr true (P.cellsOf (ZP P t)) (QS rows lo n))).Zx l1).new d (.one (.sref d 0 0 (uC.length + n))) [.arr true (P.cellsOf (ZP P t)) (uC ++ cut rows lo n)]) := go [] (fun p hp => by cases hp)
 refine ⟨_, .inr ⟨uv, ig, cl σ, fun hh => by simp [WC, uA] at hh, fun _ => Nk hd (by rw [St.Kg, St.Y3]) (fun t => by rw [St.xA, St.Xl]) (fun t i cells hb => ?_) (fun t i q s uQ hb => ?_) h4 (fun l hl => ?_) (fun l => ?_), fun hh _ => by first | (simp [Jp, uA] at hh; done) | (unfold Jp at hh; rw [uA] at hh; split at hh <;> simp_all)⟩, Qj h⟩
 ·have hb := N8 hb
  rw [St.Xj σ u j _ t i uX] at hb
  split at hb
  ·cases hb
  ·exact hb
 ·have hb := NK hb
  rw [St.Xj σ u j _ t i uX] at hb
  split at hb
  ·rename_i hc; cases hb; rw [hc.1, hc.2]; exact ⟨rows, ho⟩
  ·exact ⟨uQ, hb⟩
 ·rw [<- K7, <- yz]; exact go l hl
 ·rw [<- K7, <- yz]; exact cl _
theorem Gd {f : At -> Bool} {v : V} (hv : v.zT f = false) : ∀ {σ : St} {d : Nat}, σ.zT f = false -> (σ.put d v).zT f = false
 | [], _, _ => rfl
 | e :: σ, 0, h => by simp only [St.zT, Bool.or_eq_false_iff] at h; simp [St.put, St.zT, hv, h.1.2, h.2]
 | e :: σ, d + 1, h => by simp only [St.zT, Bool.or_eq_false_iff] at h; simp [St.put, St.zT, h.1.1, h.1.2, Gd hv h.2]
theorem Pm {σ : St} : ∀ {xs : List At} {ds : List D}, Jl σ xs = some ds -> ∀ p ∈ XL xs, ∃ q s rows, σ.ob p.1 p.2 = .arr q s rows
 | [], _, _, p, hp => by cases hp
 | x :: xs, ds, h, p, hp => by
  simp only [Jl] at h
  split at h
  ·rename_i d oK h1 h2
   have ih := Pm h2
   cases x with
   | sref t j lo len =>
    simp only [XL, List.mem_cons] at hp
    rcases hp with rfl | hp
    ·simp only [mvD] at h1
     split at h1
     ·rename_i q s rows ho; exact ⟨q, s, rows, ho⟩
     ·cases h1
    ·exact ih p hp
   | _ => exact ih p hp
  ·cases h
theorem L9 {σ : St} {L : List (Nat × Nat)} {t j t' size uh : Nat} {q q' : Bool} {rows uQ : List (List D)} {cells : List At} {xs : List At} {ds : List D} (hm : Jl σ xs = some ds) (hL : XL xs = L) (ho : σ.ob t j = .arr q size rows) (hn : (t, j) ∉ L) (hb : σ.ob t' 0 = .box cells) :
  ((σ.Zx L).Zs t j (.arr q' uh uQ)).ob t' 0 = .box cells := by
 have h1 : (σ.Zx L).ob t j ≠ .none := by rw [St.KV, if_neg hn, ho]; simp
 rw [St.Xj _ t j _ t' 0 h1]
 split
 ·rename_i hc; rw [hc.1, hc.2, ho] at hb; cases hb
 ·rw [St.KV]
  split
  ·rename_i hc
   obtain ⟨q, s, rows, he⟩ := Pm hm (t', 0) (by rw [hL]; exact hc)
   rw [he] at hb; cases hb
  ·exact hb
structure StM (P : Program) (σ : St) (T : TypeId) (x y : Operand) (t j i c size : Nat) (rows : List (List D)) (ds : List D) (l : List (Nat × Nat)) : Prop where
 hx : unc (look P σ 0 x) = .one (.ptr t j i c)
 ho : σ.ob t j = .arr true size rows
 hi : i < rows.length
 h1 : yf P T = true /\ gOf (look P σ 0 x) = true /\ gOf (look P σ T y) = true /\ (unc (look P σ T y)).flat = true
 h2 : Jl σ (unc (look P σ T y)).cells = some ds
 h3 : QR σ (unc (look P σ T y)).cells
 h4 : XL (unc (look P σ T y)).cells = l
 h5 : l.Nodup /\ (t, j) ∉ l /\ (σ.Zx l).zT (At.isT t) = false
 h6 : ds.length = P.cellsOf T /\ c + P.cellsOf T <= size
theorem StM.QO {P : Program} {o : Oper} {T : TypeId} {x y : Operand} (uA : o.op = .store T x y) {t j i c size : Nat} {rows : List (List D)} {ds : List D} {l : List (Nat × Nat)} : ∀ (q : List (Nat × V)) {σ : St}, (∀ p ∈ q, jM o p.1 = true /\ RL p.2 = true) -> StM P σ T x y t j i c size rows ds l -> StM P (σ.QO q) T x y t j i c size rows ds l
 | [], _, _, h => h
 | p :: q, σ, hq, h => by
  refine StM.QO uA q (fun p' mY => hq p' (by simp [mY])) ?_
  obtain ⟨hu, hp⟩ := hq p (by simp)
  simp only [jM, uA, Bool.and_eq_true, Bool.not_eq_true'] at hu
  have hv : p.2.zT (At.isT t) = false := by
   generalize p.2 = v at hp
   unfold RL at hp
   split at hp <;> first | rfl | cases hp
  refine ⟨?_, ?_, h.hi, ?_, ?_, ?_, ?_, ⟨h.h5.1, h.h5.2.1, ?_⟩, h.h6⟩
  ·rw [Y7 hu.1]; exact h.hx
  ·rw [St.QF]; exact h.ho
  ·rw [Y7 hu.1, Y7 hu.2]; exact h.h1
  ·rw [Y7 hu.2, Rs]; exact h.h2
  ·rw [Y7 hu.2, Vj]; exact h.h3
  ·rw [Y7 hu.2]; exact h.h4
  ·rw [kR]; exact Gd hv h.h5.2.2
theorem NR {l : List (Nat × Nat)} {t j : Nat} {ob : Ob} : ∀ (q : List (Nat × V)) (σ : St), ((σ.QO q).Zx l).Zs t j ob = ((σ.Zx l).Zs t j ob).QO q
 | [], _ => rfl
 | p :: q, σ => by rw [St.QO, St.QO, NR q, kR, zN]
theorem Ri {P : Program} {ops : Array Oper} {o : Oper} {σ : St} {T : TypeId} {x y : Operand} {t j i c size : Nat} {rows : List (List D)} {ds : List D} {l : List (Nat × Nat)} (uA : o.op = .store T x y) (hg : o.guard = none) (hd : o.dst = none) (h : StM P σ T x y t j i c size rows ds l) :
  kT P ops o σ ((σ.Zx l).Zs t j (.arr true size (rows.set i (place (rowAt rows i) c ds)))) := by
 obtain ⟨hx, ho, hi, h1, h2, h3, h4, h5, h6⟩ := h
 subst h4
 rintro T0 B a w K Q' ⟨X, hh, r⟩ hK
 have hw : Region.wanted o (yielded ops a.tmps) = true := by simp [Region.wanted, hg]
 rw [if_pos hw]
 exact OJ r uA hd h1.1 h1.2.1 h1.2.2.1 hx ho hi h1.2.2.2 h2 h3 h5.1 h5.2.1 h5.2.2 h6.1 h6.2 hK
theorem CF {P : Program} {ops : Array Oper} {bar : Oper -> Bool} {o : Oper} {rest : List Oper} {σ : St} {Q : St -> Prop} {T : TypeId} {x y : Operand} {t j i c size : Nat} {rows : List (List D)} {ds : List D} {l : List (Nat × Nat)} (uA : o.op = .store T x y) (hg : o.guard = none) (hd : o.dst = none) (uv : bar o = true)
  (hx : unc (look P σ 0 x) = .one (.ptr t j i c)) (ho : σ.ob t j = .arr true size rows) (hi : i < rows.length) (h1 : yf P T = true /\ gOf (look P σ 0 x) = true /\ gOf (look P σ T y) = true /\ (unc (look P σ T y)).flat = true)
  (h2 : Jl σ (unc (look P σ T y)).cells = some ds) (h3 : QR σ (unc (look P σ T y)).cells) (h4 : XL (unc (look P σ T y)).cells = l) (h5 : l.Nodup /\ (t, j) ∉ l /\ (σ.Zx l).zT (At.isT t) = false) (h6 : ds.length = P.cellsOf T /\ c + P.cellsOf T <= size)
  (h : Ev P ops bar rest ((σ.Zx l).Zs t j (.arr true size (rows.set i (place (rowAt rows i) c ds)))) Q) : xH P ops bar o rest σ Q := by
 have hm : StM P σ T x y t j i c size rows ds l := ⟨hx, ho, hi, h1, h2, h3, h4, h5, h6⟩
 refine ⟨_, .inr ⟨uv, Ri uA hg hd hm, fun d' _ hc => QN (JW hc), fun _ => ⟨⟨by rw [St.Y3, St.Kg], fun u => by rw [St.Xl, St.xA]⟩, fun q hq => ?_, fun t' cells hb => ?_⟩, fun hh => by simp [je, uA] at hh, fun hh _ => by simp [Jp, uA] at hh⟩, Qj h⟩
 ·rw [<- NR]
  exact ⟨Ri uA hg hd (hm.QO uA q hq), fun d' _ hc => QN (JW hc)⟩
 ·exact L9 hm.h2 hm.h4 hm.ho hm.h5.2.1 hb
theorem Lw {P : Program} {ops : Array Oper} {o : Oper} {σ : St} {T : TypeId} {x y : Operand} {t j i size : Nat} {rows : List (List D)} {ds : List D} {l : List (Nat × Nat)} (uA : o.op = .store T x y) (hg : o.guard = none) (hd : o.dst = none) (tb : ds.length = size) (h : StM P σ T x y t j i 0 size rows ds l) :
  kT P ops o σ ((σ.Zx l).Zs t j (.arr true size (rows.set i ds))) := by
 rintro T0 B a w K Q' ⟨X, hh, r⟩ hK
 refine Ri uA hg hd h T0 B a w K Q' ⟨X, hh, r⟩ ?_
 have h0 := r.obj t j
 rw [h.ho] at h0
 obtain ⟨_, _, _, hz, _⟩ := h0
 have e : place (rowAt rows i) 0 ds = ds := by
  have hr : (rowAt rows i).length = size := by
   have : rowAt rows i = rows[i]'h.hi := by simp [rowAt, List.getD_eq_getElem?_getD, List.getElem?_eq_getElem h.hi]
   rw [this]; exact hz _ (List.getElem_mem h.hi)
  unfold place
  rw [List.take_zero, List.nil_append, List.drop_eq_nil_of_le (by omega), List.append_nil]
 rw [e]; exact hK
theorem Dh {P : Program} {ops : Array Oper} {bar : Oper -> Bool} {o : Oper} {rest : List Oper} {σ : St} {Q : St -> Prop} {T : TypeId} {x y : Operand} {t j i size : Nat} {rows : List (List D)} {ds : List D} {l : List (Nat × Nat)} (uA : o.op = .store T x y) (hg : o.guard = none) (hd : o.dst = none) (uv : bar o = true)
  (hx : unc (look P σ 0 x) = .one (.ptr t j i 0)) (ho : σ.ob t j = .arr true size rows) (hi : i < rows.length) (h1 : yf P T = true /\ gOf (look P σ 0 x) = true /\ gOf (look P σ T y) = true /\ (unc (look P σ T y)).flat = true)
  (h2 : Jl σ (unc (look P σ T y)).cells = some ds) (h3 : QR σ (unc (look P σ T y)).cells) (h4 : XL (unc (look P σ T y)).cells = l) (h5 : l.Nodup /\ (t, j) ∉ l /\ (σ.Zx l).zT (At.isT t) = false) (h6 : ds.length = P.cellsOf T /\ P.cellsOf T = size)
  (h : Ev P ops bar rest ((σ.Zx l).Zs t j (.arr true size (rows.set i ds))) Q) : xH P ops bar o rest σ Q := by
 have hm : StM P σ T x y t j i 0 size rows ds l := ⟨hx, ho, hi, h1, h2, h3, h4, h5, h6.1, by omega⟩
 have hf : ds.length = size := by omega
 refine ⟨_, .inr ⟨uv, Lw uA hg hd hf hm, fun d' _ hc => QN (JW hc), fun _ => ⟨⟨by rw [St.Y3, St.Kg], fun u => by rw [St.Xl, St.xA]⟩, fun q hq => ?_, fun t' cells hb => ?_⟩, fun hh => by simp [je, uA] at hh, fun hh _ => by simp [Jp, uA] at hh⟩, Qj h⟩
 ·rw [<- NR]
  exact ⟨Lw uA hg hd hf (hm.QO uA q hq), fun d' _ hc => QN (JW hc)⟩
 ·exact L9 hm.h2 hm.h4 hm.ho hm.h5.2.1 hb
structure StN (P : Program) (σ : St) (T : TypeId) (x y : Operand) (t j i c k q n size : Nat) (s rows : List (List D)) (ds : List D) (l : List (Nat × Nat)) : Prop where
 hx : unc (look P σ 0 x) = .one (.tref t j i c (some (k * n + q)))
 ho : σ.ob t j = .arr true size rows
 hi : i < rows.length
 hc : (rows.getD i [])[c]? = some (.sl n s)
 hk : k < s.length
 h1 : yf P T = true /\ gOf (look P σ 0 x) = true /\ gOf (look P σ T y) = true /\ (unc (look P σ T y)).flat = true
 h2 : Jl σ (unc (look P σ T y)).cells = some ds
 h3 : QR σ (unc (look P σ T y)).cells
 h4 : XL (unc (look P σ T y)).cells = l
 h5 : l.Nodup /\ (t, j) ∉ l
 h6 : ds.length = P.cellsOf T /\ q + P.cellsOf T <= n
theorem StN.QO {P : Program} {o : Oper} {T : TypeId} {x y : Operand} (uA : o.op = .store T x y) {t j i c k n0 n size : Nat} {s rows : List (List D)} {ds : List D} {l : List (Nat × Nat)} : ∀ (q : List (Nat × V)) {σ : St}, (∀ p ∈ q, jM o p.1 = true /\ RL p.2 = true) -> StN P σ T x y t j i c k n0 n size s rows ds l -> StN P (σ.QO q) T x y t j i c k n0 n size s rows ds l
 | [], _, _, h => h
 | p :: q, σ, hq, h => by
  refine StN.QO uA q (fun p' mY => hq p' (by simp [mY])) ?_
  obtain ⟨hu, hp⟩ := hq p (by simp)
  simp only [jM, uA, Bool.and_eq_true, Bool.not_eq_true'] at hu
  refine ⟨?_, ?_, h.hi, h.hc, h.hk, ?_, ?_, ?_, ?_, h.h5, h.h6⟩
  ·rw [Y7 hu.1]; exact h.hx
  ·rw [St.QF]; exact h.ho
  ·rw [Y7 hu.1, Y7 hu.2]; exact h.h1
  ·rw [Y7 hu.2, Rs]; exact h.h2
  ·rw [Y7 hu.2, Vj]; exact h.h3
  ·rw [Y7 hu.2]; exact h.h4
end Go.Vm
namespace Go.Vm
open Go.RowKit
def Tm (P : Program) (σ : St) : ResultVar -> Prop × List At
 | .tmp t => (match σ.get t with
  | .one x => (t < σ.length, [x])
  | .agg [] => (t < σ.length, [])
  | .agg (x :: y :: xs) => (t < σ.length, x :: y :: xs)
  | _ => (False, []))
 | .cell t T => (match σ.get t with
  | .one (.bptr u c) => (match σ.ob u 0 with
    | .box cells => (yf P T = true /\ WG P T = true /\ P.cellsOf T ≠ 1 /\ c + P.cellsOf T <= cells.length, cut cells c (P.cellsOf T))
    | _ => (False, []))
  | _ => (False, []))
def Ql (P : Program) (σ : St) : List ResultVar -> Prop × List (List At)
 | [] => (True, [])
 | r :: rs => ((Tm P σ r).1 /\ (Ql P σ rs).1, (Tm P σ r).2 :: (Ql P σ rs).2)
theorem DM {P : Program} {σ : St} {r : ResultVar} (h : (Tm P σ r).1) : O9 P σ r (Tm P σ r).2 := by
 cases r with
 | tmp t =>
  simp only [Tm] at h ⊢
  simp only [O9]
  cases hx : σ.get t with
  | one x => rw [hx] at h; exact ⟨rfl, h⟩
  | agg xs =>
   rw [hx] at h
   match xs, h with
   | [], h => exact ⟨rfl, h⟩
   | [x], h => exact h.elim
   | x :: y :: xs, h => exact ⟨rfl, h⟩
  | any => rw [hx] at h; exact h.elim
  | tup xs => rw [hx] at h; exact h.elim
  | cnd g x => rw [hx] at h; exact h.elim
  | fix u x => rw [hx] at h; exact h.elim
 | cell t T =>
  simp only [Tm] at h ⊢
  split at h
  ·rename_i u c hx
   split at h
   ·rename_i cells ho
    exact ⟨u, c, cells, hx, ho, h.1, h.2.1, h.2.2.1, h.2.2.2, rfl⟩
   ·exact h.elim
  ·exact h.elim
theorem Wl {P : Program} {σ : St} : ∀ {rs : List ResultVar}, (Ql P σ rs).1 -> Vs P σ rs (Ql P σ rs).2
 | [], _ => rfl
 | _ :: _, h => ⟨_, _, DM h.1, Wl h.2, rfl⟩
theorem PM {P : Program} {fn : Func} {σ : St} {res : List (List D)} {rv : List ResultVar} (hf : fn.results = rv.toArray) (h : (Ql P σ rv).1 /\ xy σ (Ql P σ rv).2 = some res) : He P fn false res .ret σ :=
 ⟨.inl rfl, _, by rw [hf]; exact Wl h.1, by simpa using h.2⟩
theorem Aa {P : Program} {fn : Func} {σ : St} {res : List (List D)} {rv : List ResultVar} (hf : fn.results = rv.toArray) (h : (Ql P σ rv).1 /\ kd σ (Ql P σ rv).2 = some res /\ (XL (Ql P σ rv).2.flatten).Nodup) : He P fn true res .ret σ :=
 ⟨.inl rfl, _, by rw [hf]; exact Wl h.1, by simpa using h.2⟩
theorem Er {P : Program} {fn : Func} {σ : St} {res : List (List D)} {rv : List ResultVar} (hf : fn.results = rv.toArray) (h : (Ql P σ rv).1 /\ JL σ (Ql P σ rv).2 = some res /\ Qv σ (Ql P σ rv).2 /\ (XL (Ql P σ rv).2.flatten).Nodup) : E8 P fn res .ret σ :=
 ⟨.inl rfl, _, by rw [hf]; exact Wl h.1, h.2⟩
attribute [simp] GJ JL Jl mvD Qv QR Mp Yc xk Jn jo js St.Zx FI EP Ik AW jA W2 La St.zT V.zT V.HP Lz WK zV At.isT
attribute [simp] isB bOf Ev stops wF TX evS Gh evV Ls G6 UC UK Kx VD yx VW Sx lkI lkK Vm.look cst unc gOf y8 V.flat V.cells St.put St.Zs St.new St.D3 St.CP St.BJ St.BF DE Rv Dn
 MB VZ ldV cut place rowOf Kc Jw At.II QC V.Jm YM ye xL Lf vOf kJ zW Ql Tm xy kd ownRow xr XL xn T6 YF At.ref D.scalar JI D.HG zD C2 Xv
end Go.Vm
namespace Go.Vm
open Go.RowKit
section
variable {P : Program} {T0 : CS} {B : Nat -> Prop} {σ : St} {a : Act} {w w' : World} {X X' : Nat -> Prop} {h : Nat -> Nat -> Hd}
theorem Cw {cs : List Value} {row : List D} {S : Nat -> Prop} (ho : JG w cs row S) : ∃ (hf : Nat -> Hd) (Sk : Nat -> Nat -> Prop), (∀ j c, cs[j]? = some c -> (hf j).v = c) /\ (∀ k b, Sk k b -> S b) /\ (∀ i j b, Sk i b -> Sk j b -> i = j) /\
  ∀ j size rows, row[j]? = some (.sl size rows) -> (∀ b, (hf j).u b -> Sk j b) /\ (∀ b, blk (hf j).v = some b -> (hf j).u b) /\ ∀ T h ob, JA T h ob w (hf j) (.arr true size rows) := by
 obtain ⟨hl, Sk, h1, h2, h3⟩ := ho
 have hex : ∀ j, ∃ hd : Hd, (∀ c, cs[j]? = some c -> hd.v = c) /\ (∀ size rows, row[j]? = some (.sl size rows) -> (∀ b, hd.u b -> Sk j b) /\ (∀ b, blk hd.v = some b -> hd.u b) /\ ∀ T h ob, JA T h ob w hd (.arr true size rows)) := by
  intro j
  cases hj : row[j]? with
  | none => exact ⟨Hd.of ((cs[j]?).getD undef), fun c ux => by simp [Hd.of, ux], fun size rows hh => by cases hh⟩
  | some dd =>
   have pw : j < cs.length := by rw [hl]; exact (List.getElem?_eq_some_iff.1 hj).1
   have oO : cs[j]? = some cs[j] := List.getElem?_eq_getElem pw
   cases dd with
   | int k n => exact ⟨Hd.of cs[j], fun c ux => by rw [oO] at ux; cases ux; rfl, fun size rows hh => by cases hh⟩
   | bool k => exact ⟨Hd.of cs[j], fun c ux => by rw [oO] at ux; cases ux; rfl, fun size rows hh => by cases hh⟩
   | str k => exact ⟨Hd.of cs[j], fun c ux => by rw [oO] at ux; cases ux; rfl, fun size rows hh => by cases hh⟩
   | unk => exact ⟨Hd.of cs[j], fun c ux => by rw [oO] at ux; cases ux; rfl, fun size rows hh => by cases hh⟩
   | sl size rows =>
    have ho := h1 j _ _ oO hj
    generalize hv : cs[j] = v at ho
    cases ho with
    | sl v size rows S e xs nU ho hz hb hl hk ng uM =>
     refine ⟨⟨v, fun k => (xs[k]?).getD undef, Sk j⟩, fun c ux => by rw [oO, hv] at ux; cases ux; rfl, fun uh uQ hh => ?_⟩
     cases hh
     exact ⟨fun b hb => hb, hb, fun T h ob => ⟨e, xs, ho, hz, ⟨hl, nU, hk, fun k b hb => ng k b hb, uM⟩, fun k x d hx _ _ => by simp [hx]⟩⟩
 obtain ⟨hf, oU⟩ := Classical.axiomOfChoice hex
 exact ⟨hf, Sk, fun j => (oU j).1, h2, h3, fun j => (oU j).2⟩
theorem JG.top {T : CS} {cs : List Value} {row : List D} {S : Nat -> Prop} (ho : JG w cs row S) : Zy (qV T w) cs row := by
 obtain ⟨hl, Sk, h1, h2, h3⟩ := ho
 refine Zy.zo hl (fun k x d hx hd => ?_)
 have ho := h1 k x d hx hd
 cases ho with
 | int k n => exact Rd.int _ _
 | bool b => exact Rd.bool _
 | str s => exact Rd.str _
 | unk v h => exact Rd.unk _ h
 | sl v size rows S e xs nU ho hz hb hl hk ng uM => exact ⟨e, xs, ho⟩
def Al (n : Nat) (v : Value) (row : List D) (args : List (List D)) : St := (.fix v (vOf (kJ 0 0 row)), Yc [] row) :: (T6 args ++ List.replicate (n - (args.length + 1)) (V.any, []))
def St.AK : St -> List At -> List D -> St
 | σ, .sref t j _ _ :: xs, .sl size rows :: ds => St.AK (σ.Zs t j (.arr true size rows)) xs ds
 | σ, _ :: xs, _ :: ds => St.AK σ xs ds
 | σ, _, _ => σ
def IG : List D -> List D -> Prop
 | .sl s r :: ds, .sl s' r' :: oK => s = s' /\ r.length = r'.length /\ IG ds oK
 | .sl _ _ :: _, _ => False
 | _ :: ds, _ :: oK => IG ds oK
 | [], [] => True
 | _, _ => False
def FA (σ : St) : List At -> Prop
 | [] => True
 | .sref t j _ _ :: xs => (match σ.ob t j with | .arr true _ _ => True | _ => False) /\ FA σ xs
 | _ :: xs => FA σ xs
def At.we : At -> Bool
 | .tref _ _ _ _ _ => true
 | _ => false
theorem Rj : ∀ {xs : List At} {t j : Nat}, (t, j) ∈ XL xs -> ∃ (k lo len : Nat), xs[k]? = some (At.sref t j lo len)
 | [], t, j, h => by cases h
 | x :: xs, t, j, h => by
  cases x with
  | sref t' j' lo len =>
   simp only [XL, List.mem_cons, Prod.mk.injEq] at h
   rcases h with ⟨rfl, rfl⟩ | h
   ·exact ⟨0, lo, len, rfl⟩
   ·obtain ⟨k, lo, len, hk⟩ := Rj h; exact ⟨k + 1, lo, len, by simpa using hk⟩
  | _ => obtain ⟨k, lo, len, hk⟩ := Rj (xs := xs) h; exact ⟨k + 1, lo, len, by simpa using hk⟩
end
theorem DR {σ : St} {d d' : Nat} {v : V} (uD : d ≠ d') (h : Xb σ d = true) : Xb (σ.put d' v) d = true := by
 unfold Xb at *; simp only [xa, if_neg uD]; exact h
end Go.Vm
