/- An abstract machine U3 the model of Go, by value, and that it is sound: part Vf. No condition. -/
import Derived.Test.YtgkcgbmbdaapcaaGreatVb
set_option linter.unusedVariables false
set_option linter.unusedSimpArgs false
namespace Go.Vm
open Go.RowKit
def N7 (P : Program) (σ : St) (c : Call) (f : FuncId) (own : Bool) (res : List (List D)) : Prop :=
 ∃ rows, XL P σ c.args.toList c.argTypes.toList rows /\ XP P f own rows res /\ (Zz P σ c.args.toList c.argTypes.toList = true \/ QH own res)
def Step (P : Program) (o : Oper) (d : Nat) (σ σ' : St) : Prop :=
 match o.op with
 | .alloc T => σ.fresh d = true /\ Yz P T = true /\ ∃ row, yD P 12 T = some row /\ σ' = σ.new d (.one (.bptr d 0)) [.box row]
 | .box T x => σ.fresh d = true /\ gOf (look P σ T x) = true /\ (unc (look P σ T x)).flat = true /\ Zp d (unc (look P σ T x)).cells = false /\ σ' = σ.new d (.one (.bptr d 0)) [.box (unc (look P σ T x)).cells]
 | .buildSlice T n parts => (σ.fresh d = true /\ YJ P T = true /\ Yz P (ZE P T) = true /\ 0 < P.cellsOf (ZE P T) /\ parts.toList.length = n /\ n * P.cellsOf (ZE P T) <= 16777216 /\
   ((∃ rows, UH P σ (ZE P T) (P.cellsOf (ZE P T)) parts.toList 0 rows /\ σ' = σ.new d (.one (.sref d 0 0 rows.length)) [.arr false (P.cellsOf (ZE P T)) rows]) \/
   (∃ rows, UR P σ (ZE P T) (P.cellsOf (ZE P T)) parts.toList 0 rows /\ Zp d rows.flatten = false /\ σ' = σ.new d (.one (.sref d 0 0 rows.length)) [.lit (P.cellsOf (ZE P T)) rows]))) \/
   ((YJ P T = true /\ Yz P (ZE P T) = true /\ 0 < P.cellsOf (ZE P T) /\ parts.toList.length = n /\ n * P.cellsOf (ZE P T) <= 16777216) /\ ∃ rows, UH P σ (ZE P T) (P.cellsOf (ZE P T)) parts.toList 0 rows /\ σ' = σ.put d (.one (.d (.sl (P.cellsOf (ZE P T)) rows))))
 | .makeSlice T x y => x = y /\ σ.fresh d = true /\ YJ P T = true /\ Yz P (ZE P T) = true /\ 0 < P.cellsOf (ZE P T) /\
   ∃ q z zr k n, (q = true -> P4 z = true) /\ yD P 12 (ZE P T) = some z /\ zD z = some zr /\ xk P σ x k (n : Nat) /\ P.bytesOf (ZE P T) * n <= 281474976710656 /\ n <= 9223372036854775807 /\ σ' = σ.new d (.one (.sref d 0 0 n)) [.arr q (P.cellsOf (ZE P T)) (List.replicate n zr)]
 | .call c =>
  (match c.callee with
  | .builtin .append => ∃ x y t, c.args = #[x, y] /\ c.argTypes = #[t, t] /\ gOf (look P σ t x) = true /\ gOf (look P σ t y) = true /\ YJ P t = true /\ Yz P (ZE P t) = true /\ 0 < P.cellsOf (ZE P t) /\
    ∃ wE news σ1, jj σ (unc (look P σ t x)) (P.cellsOf (ZE P t)) wE σ1 /\ zx σ (unc (look P σ t y)) (P.cellsOf (ZE P t)) news /\ σ1.fresh d = true /\
     (wE.length + news.length) * P.bytesOf (ZE P t) <= 140737488355328 /\ wE.length + news.length <= 9223372036854775807 /\ σ' = σ1.new d (.one (.sref d 0 0 (wE.length + news.length))) [.arr false (P.cellsOf (ZE P t)) (wE ++ news)]
  | .value (.func f) => (∃ own res, N7 P σ c f own res /\ σ' = σ.put d (KK res)) \/ (∃ res, N7 P σ c f true res /\ σ.fresh d = true /\ σ' = σ.new d (yR d res) (Kj res.flatten)) \/
    (∃ rows res qs, XL P σ c.args.toList c.argTypes.toList rows /\ YC P f rows res /\ zY qs res.flatten /\ σ.fresh d = true /\ σ' = σ.new d (yR d res) (Z6 qs res.flatten))
  | _ => ∃ v, Zt P σ o.op o.type v /\ σ' = σ.put d v)
 | .convert S T x =>
   (∃ v, Zt P σ o.op o.type v /\ σ' = σ.put d v) \/
   (∃ l, gOf (look P σ S x) = true /\ RZ P S = true /\ kl P T = true /\ zx σ (unc (look P σ S x)) 1 (JG l) /\ σ' = σ.put d (.one (.d (.str ⟨l.toArray⟩)))) \/
   (∃ s, gOf (look P σ S x) = true /\ kl P S = true /\ RZ P T = true /\ unc (look P σ S x) = .one (.d (.str s)) /\ s.size <= 9223372036854775807 /\ σ' = σ.put d (.one (.d (.sl 1 (JG s.data.toList)))))
 | _ => ∃ v, Zt P σ o.op o.type v /\ σ' = σ.put d v
def Jc (P : Program) (σ : St) (T : TypeId) (x y : Operand) (σ' : St) : Prop :=
 K0 P T = true /\ gOf (look P σ 0 x) = true /\ gOf (look P σ T y) = true /\ (unc (look P σ T y)).flat = true /\
  (match unc (look P σ 0 x) with
  | .one (.bptr t c) => ∃ cells, σ.ob t 0 = .box cells /\ (unc (look P σ T y)).cells.length = P.cellsOf T /\ c + P.cellsOf T <= cells.length /\ σ' = σ.Ze t 0 (.box (place cells c (unc (look P σ T y)).cells))
  | .one (.ptr t j i c) => ∃ q size rows ds, σ.ob t j = .arr q size rows /\ i < rows.length /\ rowOf σ (unc (look P σ T y)).cells = some ds /\ QF (unc (look P σ T y)).cells = true /\ ds.length = P.cellsOf T /\ c + P.cellsOf T <= size /\
    (q = true -> ds.all D.scalar = true /\ (cut (rows.getD i []) c (P.cellsOf T)).all D.scalar = true) /\ σ' = σ.Ze t j (.arr q size (rows.set i (place (rows.getD i []) c ds)))
  | _ => False)
def Ks (want : Bool) : V -> Option Bool
 | .one (.d (.bool b)) => some (b == want)
 | .cnd g (.one (.d (.bool b))) => some (g && (b == want))
 | .cnd false _ => some false
 | _ => none
def TP (P : Program) (o : Oper) (σ : St) (v : V) : Prop :=
 match o.op with
 | .call c =>
  (match c.callee with
  | .value (.func f) => ∃ own res, N7 P σ c f own [res] /\ v = KK [res]
  | _ => ∃ v0, Zt P σ o.op o.type v0 /\ gOf v0 = true /\ v = unc v0 /\ v.flat = true)
 | _ => ∃ v0, Zt P σ o.op o.type v0 /\ gOf v0 = true /\ v = unc v0 /\ v.flat = true
def YF (P : Program) (ops : Array Oper) (o : Oper) (σ σ' : St) : Prop :=
 match o.guard with
 | none =>
  (match o.dst with
  | some d => Step P o d σ σ'
  | none => (match o.op with | .store T x y => Jc P σ T x y σ' | _ => False))
 | some (j, want) => ∃ dj d g v, (ops[j]?).bind (·.dst) = some dj /\ dj < σ.length /\ o.dst = some d /\ Ks want (σ.get dj) = some g /\ (g = true -> TP P o σ v) /\ σ' = σ.put d (.cnd g v)
def W2 (P : Program) (ops : Array Oper) (o : Oper) (σ σ' : St) : Prop :=
 ∀ (T0 : CS) (B : Nat -> Prop) (a : Act) (w : World) (K : Act -> World -> Prop) (Q : Exit -> Act -> World -> Prop), X7 T0 B σ a w -> (∀ a' w', X7 T0 B σ' a' w' -> Yj B w w' -> K a' w') ->
  if Region.wanted o (yielded ops a.tmps) then o.wp P a w K Q else K (a.put o.dst undef) w
def Yg (σ : St) (d : Nat) : Bool := match σ[d]? with | some (.any, []) => true | some (.one (.d _), []) => true | _ => false
def TA (o : Oper) (σ σ' : St) : Prop := ∀ d, o.dst ≠ some d -> Yg σ d = true -> Yg σ' d = true
def jQ (o : Oper) : Bool := match o.op with | .store _ _ _ => true | _ => false
def JI (d : Nat) : Operand -> Bool
 | .tmp t => t == d
 | _ => false
def yl (o : Oper) (d : Nat) : Bool := match o.op with | .store _ p q => !JI d p && !JI d q | _ => false
def U5 : V -> Bool
 | .any => true
 | .one (.d _) => true
 | _ => false
def St.X3 : St -> List (Nat × V) -> St
 | σ, [] => σ
 | σ, p :: l => St.X3 (σ.put p.1 p.2) l
def Fl (P : Program) (ops : Array Oper) (o : Oper) (σ σ' : St) : Prop :=
 (σ'.length = σ.length /\ ∀ u, σ'.get u = σ.get u) /\ (∀ l : List (Nat × V), (∀ p ∈ l, yl o p.1 = true /\ U5 p.2 = true) -> W2 P ops o (σ.X3 l) (σ'.X3 l) /\ TA o (σ.X3 l) (σ'.X3 l)) /\ ∀ t cells, σ.ob t 0 = .box cells -> σ'.ob t 0 = .box cells
def xm (o : Oper) : Bool := match o.op with | .call ⟨.builtin .append, _, _⟩ => true | _ => false
theorem O9 {o : Oper} (h : jQ o = true) : xm o = false := by
 unfold jQ at h
 split at h
 ·rename_i wA; simp [xm, wA]
 ·cases h
def TT (o : Oper) (d : Nat) : Bool := !(o.op.operands.toList.any (JI d))
def G9 (P : Program) (ops : Array Oper) (o : Oper) (σ σ' : St) : Prop :=
 ∃ d, o.dst = some d /\ σ'.length = σ.length /\ (∀ t, t ≠ d -> σ'.get t = σ.get t /\ (σ.get t).ref d = false) /\ (∀ t j cells, t ≠ d -> σ'.ob t j = .box cells -> σ.ob t j = .box cells /\ Zp d cells = false) /\
  (∀ t j q s rows, t ≠ d -> σ'.ob t j = .arr q s rows -> ∃ wP, σ.ob t j = .arr q s wP) /\
  ∀ l : List (Nat × V), (∀ p ∈ l, p.1 ≠ d /\ TT o p.1 = true /\ p.2.ref d = false) -> W2 P ops o (σ.X3 l) (σ'.X3 l) /\ TA o (σ.X3 l) (σ'.X3 l)
def Fp (P : Program) (t : TypeId) : Bool := match P.underlying t with | some (.pointer _) => true | _ => false
def Wp (bar : Oper -> Bool) (o : Oper) : Bool := !bar { o with dst := some 1000000007 }
def FT (bar : Oper -> Bool) (o : Oper) : Bool := (match o.dst with | some d => bar { o with dst := some (d + 2000000) } | none => false) && Wp bar o
def JJ (P : Program) (o : Oper) : Bool := match o.op with | .call ⟨.value (.func _), _, ⟨T :: _⟩⟩ => Fp P T | _ => false
def Qr (t d : Nat) (cs : List At) (v : V) : Option (List Ob) -> St -> St
 | none, σ => (σ.Ze t 0 (.box cs)).put d v
 | some os, σ => (σ.Ze t 0 (.box cs)).new d v os
def FG (P : Program) (ops : Array Oper) (o : Oper) (σ σ' : St) : Prop :=
 ∃ d t cells cs v os, o.dst = some d /\ σ.ob t 0 = .box cells /\ (∃ z r, (∃ f ts, o.op = .call ⟨.value (.func f), ⟨z :: r⟩, ts⟩) /\ ∃ ty, unc (look P σ ty z) = .one (.bptr t 0)) /\ (∀ u, Zp u cells = false /\ Zp u cs = false) /\
  (∀ u, (os = none \/ u ≠ d) -> v.ref u = false /\ ∀ l, os = some l -> Z7 u l = false) /\ (os ≠ none -> (σ.Ze t 0 (.box cs)).fresh d = true) /\ σ' = Qr t d cs v os σ /\
  ∀ σ2 : St, σ.length = σ2.length -> (∀ z ∈ o.op.operands.toList, ∀ ty, look P σ ty z = look P σ2 ty z) -> (∀ z ∈ o.op.operands.toList, ∀ ty u, (look P σ ty z).ref u = true -> ∀ j, σ.ob u j ≠ .none -> σ2.ob u j = σ.ob u j) -> (os ≠ none -> (σ2.Ze t 0 (.box cs)).fresh d = true) ->
   W2 P ops o σ2 (Qr t d cs v os σ2) /\ TA o σ2 (Qr t d cs v os σ2)
theorem NW {P : Program} {o : Oper} (h : jQ o = true) : JJ P o = false := by
 unfold jQ at h
 split at h
 ·rename_i wA; simp [JJ, wA]
 ·cases h
theorem HD {P : Program} {o : Oper} (h : xm o = true) : JJ P o = false := by
 unfold xm at h
 split at h
 ·rename_i wA; simp [JJ, wA]
 ·cases h
def X8 (P : Program) (ops : Array Oper) (bar : Oper -> Bool) (o : Oper) (σ σ' : St) : Prop := YF P ops o σ σ' \/ (bar o = true /\ W2 P ops o σ σ' /\ TA o σ σ' /\ (jQ o = true -> Fl P ops o σ σ') /\ (xm o = true -> G9 P ops o σ σ') /\ (JJ P o = true -> Wp bar o = true -> FG P ops o σ σ'))
def OF (P : Program) (ops : Array Oper) (bar : Oper -> Bool) : List Oper -> St -> (St -> Prop) -> Prop
 | [], σ, Q => Q σ
 | o :: rest, σ, Q => ∃ σ', X8 P ops bar o σ σ' /\ OF P ops bar rest σ' Q
section
variable {P : Program} {T0 : CS} {B : Nat -> Prop} {σ : St} {a : Act} {w w' : World} {X X' : Nat -> Prop} {h : Nat -> Nat -> Hd}
theorem VP (d : Nat) : ∀ (n : Nat) (t : TypeId) (row : List At), yD P n t = some row -> Zp d row = false := by
 intro n
 induction n with
 | zero => intro t row hr; simp [yD] at hr
 | succ n ih =>
  intro t row hr
  have nE : ∀ (rs : List (List At)), (∀ r ∈ rs, Zp d r = false) -> Zp d rs.flatten = false := by
   intro rs uF
   have app : ∀ (xs ys : List At), Zp d xs = false -> Zp d ys = false -> Zp d (xs ++ ys) = false := by
    intro xs ys hx hy
    induction xs with
    | nil => exact hy
    | cons x xs rk => simp only [List.cons_append, Zp, Bool.or_eq_false_iff] at hx ⊢; exact ⟨hx.1, rk hx.2⟩
   induction rs with
   | nil => rfl
   | cons r rs rk => rw [List.flatten_cons]; exact app _ _ (uF r (by simp)) (rk (fun r hr => uF r (by simp [hr])))
  rw [yD] at hr
  split at hr
  ·cases hr; rfl
  ·cases hr; rfl
  ·cases hr; rfl
  ·cases hr; rfl
  ·rename_i fs _
   simp only [Option.map_eq_some_iff] at hr
   obtain ⟨rs, uF, rfl⟩ := hr
   refine nE rs ?_
   have : ∀ (l : List Field) (rs : List (List At)), l.mapM (fun f => yD P n f.type) = some rs -> ∀ r ∈ rs, Zp d r = false := by
    intro l
    induction l with
    | nil => intro rs hh r hr; simp at hh; subst hh; cases hr
    | cons f l rk =>
     intro rs hh r hr
     simp only [List.mapM_cons, Option.bind_eq_bind, Option.bind_eq_some_iff] at hh
     obtain ⟨r0, uf, oL, pj, hh⟩ := hh
     simp at hh; subst hh
     rcases List.mem_cons.1 hr with rfl | hr
     ·exact ih f.type _ uf
     ·exact rk oL pj r hr
   exact this fs.toList rs uF
  ·simp only [Option.map_eq_some_iff] at hr
   obtain ⟨r0, uf, rfl⟩ := hr
   exact nE _ (fun r hr => by rw [List.eq_of_mem_replicate hr]; exact ih _ _ uf)
  ·cases hr
theorem kx {o : Oper} {d : Nat} {v : V} (r : Rel T0 B σ a w X h) (hd : o.dst = some d) (hex : ∃ val, (execOp a.eval o).run P w = .ok (.value val) w /\ XC (Tof T0 X) h σ.ob w v val)
  {K : Act -> World -> Prop} {Q : Exit -> Act -> World -> Prop} (hK : ∀ a' w', X7 T0 B (σ.put d v) a' w' -> Yj B w w' -> K a' w') : o.wp P a w K Q := by
 obtain ⟨val, wU, hv⟩ := hex
 unfold Oper.wp
 rw [wU, Oper.upon_value, hd]
 exact hK _ _ ⟨X, h, r.put d v val hv⟩ (Yj.refl _ _)
theorem Mn (r : Rel T0 B σ a w X h) {o : Oper} {d : Nat} {σ' : St} (hd : o.dst = some d) (hs : Step P o d σ σ') {K : Act -> World -> Prop} {Q : Exit -> Act -> World -> Prop}
  (hK : ∀ a' w', X7 T0 B σ' a' w' -> Yj B w w' -> K a' w') : o.wp P a w K Q := by
 have vR : (∃ v, Zt P σ o.op o.type v /\ σ' = σ.put d v) -> o.wp P a w K Q := by
  rintro ⟨v, hv, rfl⟩
  exact kx r hd (Tn r hv) hK
 unfold Step at hs
 split at hs
 ·rename_i T wA
  obtain ⟨hf, hz, row, wk, rfl⟩ := hs
  exact MP r wA hd hf hz wk (VP d _ _ _ wk) hK
 ·rename_i T x wA
  obtain ⟨hf, hg, vZ, hr, rfl⟩ := hs
  exact IX r wA hd hf hg vZ hr hK
 ·rename_i T n parts wA
  rcases hs with ⟨hf, h1, h2, h3, h4, h5, ⟨rows, h6, rfl⟩ | ⟨rows, h6, h7, rfl⟩⟩ | ⟨⟨h1, h2, h3, h4, h5⟩, rows, h6, rfl⟩
  ·exact Uf r wA hd hf h1 h2 h3 h4 h5 h6 hK
  ·exact kj r wA hd hf h1 h2 h3 h4 h5 h6 h7 hK
  ·exact NC r wA hd h1 h2 h3 h4 h5 h6 hK
 ·rename_i T x y wA
  obtain ⟨rfl, hf, h1, h2, h3, q, z, zr, k, n, hq, h4, h5, h6, h7, h8, rfl⟩ := hs
  cases q with
  | false => exact T6 r wA hd hf h1 h2 h4 h5 h3 h6 h7 h8 hK
  | true => exact Sx r wA hd hf h1 h2 h4 h5 (hq rfl) h3 h6 h7 h8 hK
 ·rename_i c wA
  split at hs
  ·rename_i hc
   obtain ⟨x, y, t, ha, uU, h1, h2, h3, h4, h5, wE, news, σ1, h6, h7, h8, h9, rX, rfl⟩ := hs
   refine O1 r (t := t) (x := x) (y := y) ?_ hd h1 h2 h3 h4 h5 h6 h7 h8 h9 rX hK
   rw [wA]
   obtain ⟨cc, ca, ct⟩ := c
   simp only at hc ha uU
   rw [hc, ha, uU]
  ·rename_i f hc
   rcases hs with ⟨own, res, ⟨rows, ha, hs, wy⟩, rfl⟩ | ⟨res, ⟨rows, ha, hs, wy⟩, hf, rfl⟩ | ⟨rows, res, qs, ha, hs, hq, hf, rfl⟩
   ·rcases wy with wy | wy
    ·exact yf r wA hc hd ha true (fun _ => wy) (fun hh => by cases hh) hs hK
    ·exact yf r wA hc hd ha false (fun hh => by cases hh) (fun _ => wy) hs hK
   ·rcases wy with wy | wy
    ·exact VC r wA hc hd hf ha true (fun _ => wy) (fun hh => by cases hh) hs hK
    ·exact VC r wA hc hd hf ha false (fun hh => by cases hh) (fun _ => wy) hs hK
   ·exact MC r qs wA hc hd hf ha hs hq hK
  ·exact vR hs
 ·rename_i S T x wA
  rcases hs with hs | ⟨l, h1, h2, h3, h4, rfl⟩ | ⟨s, h1, h2, h3, h4, h5, rfl⟩
  ·exact vR hs
  ·exact kx r hd (Wn r wA h1 h2 h3 h4) hK
  ·exact Wo r wA hd h1 h2 h3 h4 h5 hK
 ·exact vR hs
theorem O8 (r : Rel T0 B σ a w X h) {o : Oper} {T : TypeId} {x y : Operand} {σ' : St} (wA : o.op = .store T x y) (hd : o.dst = none) (hs : Jc P σ T x y σ') {K : Act -> World -> Prop} {Q : Exit -> Act -> World -> Prop}
  (hK : ∀ a' w', X7 T0 B σ' a' w' -> Yj B w w' -> K a' w') : o.wp P a w K Q := by
 obtain ⟨ht, sB, sC, vZ, hs⟩ := hs
 split at hs
 ·rename_i t c hx
  obtain ⟨cells, ho, hl, hle, rfl⟩ := hs
  exact S8 r wA hd ht sB sC hx ho vZ hl hle hK
 ·rename_i t j i c hx
  obtain ⟨q, size, rows, ds, ho, hi, sb, wY, hl, hle, hq, rfl⟩ := hs
  refine Sf r wA hd ht sB sC hx ho hi vZ sb wY hl hle (fun hh => ⟨fun d wO => ?_, fun k d hk wO => ?_⟩) hK
  ·exact List.all_eq_true.1 (hq hh).1 d wO
  ·refine List.all_eq_true.1 (hq hh).2 d (List.mem_of_getElem? (i := k) ?_)
   simp only [cut, List.getElem?_take, if_pos hk, List.getElem?_drop]; exact wO
 ·exact hs.elim
theorem Tq {T : CS} {ob : Nat -> Nat -> Ob} {v : V} {val : Value} (hf : (unc v).flat = true) (hv : XC T h ob w (unc v) val) : Xz T h ob w (unc v) val := by
 cases hu : unc v with
 | one x => rw [hu] at hv; exact hv
 | agg xs => rw [hu] at hv; exact hv
 | any => rw [hu] at hf; cases hf
 | tup xs => rw [hu] at hf; cases hf
 | cnd g x => rw [hu] at hf; cases hf
 | fix u x => rw [hu] at hf; cases hf
theorem NR (r : Rel T0 B σ a w X h) {ops : Array Oper} {o : Oper} {j dj : Nat} {want g : Bool} (tY : o.guard = some (j, want)) (vY : (ops[j]?).bind (·.dst) = some dj) (wN : dj < σ.length) (hg : Ks want (σ.get dj) = some g) :
  Region.wanted o (yielded ops a.tmps) = g := by
 have vL : dj < a.tmps.size := by rw [r.size]; exact wN
 have hv := r.slot dj wN
 have nF : a.tmps.getD dj undef = a.tmps[dj] := by simp [vL]
 rw [nF] at hv
 have hy : yielded ops a.tmps j = (match a.tmps[dj] with | .bool b => some b | _ => none) := by
  unfold yielded
  rw [vY]
  simp only [Option.bind_some, Array.getElem?_eq_getElem vL]
  cases a.tmps[dj] <;> rfl
 simp only [Region.wanted, tY, hy]
 unfold Ks at hg
 split at hg
 ·rename_i b nA
  rw [nA] at hv
  rw [zG hv]
  cases hg
  cases b <;> cases want <;> rfl
 ·rename_i g0 b nA
  rw [nA] at hv
  cases hg
  cases g0 with
  | true =>
   rw [zG (hv.1 rfl)]
   cases b <;> cases want <;> rfl
  | false =>
   rw [hv.2 rfl]
   simp [undef]
 ·rename_i nA
  rw [nA] at hv
  cases hg
  rw [hv.2 rfl]
  simp [undef]
 ·cases hg
theorem NU (r : Rel T0 B σ a w X h) {ops : Array Oper} {o : Oper} {σ' : St} (hs : YF P ops o σ σ') {K : Act -> World -> Prop} {Q : Exit -> Act -> World -> Prop}
  (hK : ∀ a' w', X7 T0 B σ' a' w' -> Yj B w w' -> K a' w') : if Region.wanted o (yielded ops a.tmps) then o.wp P a w K Q else K (a.put o.dst undef) w := by
 unfold YF at hs
 split at hs
 ·rename_i hg
  have hw : Region.wanted o (yielded ops a.tmps) = true := by simp [Region.wanted, hg]
  rw [if_pos hw]
  split at hs
  ·rename_i d hd; exact Mn r hd hs hK
  ·rename_i hd
   split at hs
   ·rename_i T x y wA; exact O8 r wA hd hs hK
   ·exact hs.elim
 ·rename_i j want hg
  obtain ⟨dj, d, g, v, vY, wN, hd, vf, hs, rfl⟩ := hs
  rw [NR r hg vY wN vf]
  cases g with
  | false =>
   simp only [Bool.false_eq_true, if_false]
   rw [hd]
   exact hK _ _ ⟨X, h, r.put d _ _ ⟨(fun hh => by cases hh), fun _ => rfl⟩⟩ (Yj.refl _ _)
  | true =>
   simp only [if_true]
   have wx := hs rfl
   clear hs
   have vR : (∃ v0, Zt P σ o.op o.type v0 /\ gOf v0 = true /\ v = unc v0 /\ v.flat = true) -> o.wp P a w K Q := by
    rintro ⟨v0, rY, mj, rfl, vZ⟩
    obtain ⟨val, wU, hv⟩ := Tn r rY
    refine kx (v := .cnd true (unc v0)) r hd ⟨val, wU, ⟨fun _ => Tq vZ (hv.unc mj), fun hh => by cases hh⟩⟩ hK
   unfold TP at wx
   split at wx
   ·rename_i c wA
    split at wx
    ·rename_i f hc
     obtain ⟨own, res, ⟨rows, ha, hs, wy⟩, rfl⟩ := wx
     have fin : ∀ a' w', X7 T0 B (σ.put d (KK [res])) a' w' -> Yj B w w' -> K a' w' := by
      rintro a' w' ⟨X', h', r'⟩ hb
      refine hK a' w' ⟨X', h', ?_⟩ hb
      refine ⟨by rw [r'.size, St.XD, St.XD], r'.defers, r'.hB, r'.hX, r'.hT, fun t ht => ?_, fun t j => ?_, fun t j b => ?_, fun t j b => ?_, fun t j t' j' b => ?_⟩
      ·rw [St.XD] at ht
       have h0 := r'.slot t (by rw [St.XD]; exact ht)
       rw [St.XE] at h0 ⊢
       rw [St.QO] at h0 ⊢
       by_cases hh : t = d /\ d < σ.length
       ·rw [if_pos hh] at h0 ⊢
        refine ⟨fun _ => ?_, fun hh => by cases hh⟩
        have vZ : (unc (vOf (res.map At.d))).flat = true := by
         match res.map At.d with
         | [] => rfl
         | [x] => rfl
         | x :: y :: xs => rfl
        have hu : unc (vOf (res.map At.d)) = vOf (res.map At.d) := by
         match res.map At.d with
         | [] => rfl
         | [x] => rfl
         | x :: y :: xs => rfl
        have := Tq (v := vOf (res.map At.d)) vZ (by rw [hu]; exact h0)
        rw [hu] at this; exact this
       ·rw [if_neg hh] at h0 ⊢; exact h0
      ·have := r'.obj t j; rw [St.XE] at this ⊢; exact this
      ·have := r'.ub t j b; rw [St.XE] at this ⊢; exact this
      ·have := r'.own t j b; rw [St.XE] at this ⊢; exact this
      ·have := r'.inj t j t' j' b; rw [St.XE] at this ⊢; exact this
     rcases wy with wy | wy
     ·exact yf r wA hc hd ha true (fun _ => wy) (fun hh => by cases hh) hs fin
     ·exact yf r wA hc hd ha false (fun hh => by cases hh) (fun _ => wy) hs fin
    ·exact vR wx
   ·exact vR wx
theorem ku {ops : Array Oper} {bar : Oper -> Bool} {o : Oper} {σ' : St} (hs : X8 P ops bar o σ σ') : W2 P ops o σ σ' := by
 rcases hs with hs | hs
 ·rintro T0 B a w K Q ⟨X, h, r⟩ hK
  exact NU r hs hK
 ·exact hs.2.1
theorem SZ {ops : Array Oper} {bar : Oper -> Bool} : ∀ {l : List Oper} {σ : St} {a : Act} {w : World} {Q : St -> Prop} {Q' : Exit -> Act -> World -> Prop}, OF P ops bar l σ Q -> X7 T0 B σ a w ->
  (∀ σ' a' w', Q σ' -> X7 T0 B σ' a' w' -> Yj B w w' -> Q' .normal a' w') -> wpList P ops Q' l a w
 | [], σ, a, w, Q, Q', hr, vT, hK => hK σ a w hr vT (Yj.refl _ _)
 | o :: l, σ, a, w, Q, Q', ⟨σ', hs, hr⟩, vT, hK => by
  refine wpList_step fun K hG => ?_
  exact ku hs _ _ _ _ _ _ vT (fun a' w' vT hb => hG _ _ (SZ hr vT (fun σ2 a2 w2 hq sV wo => hK σ2 a2 w2 hq sV (hb.trans wo))))
end
end Go.Vm
namespace Go.Vm
open Go.RowKit
def AWP (P : Program) (c : Code) (Q : Exit -> St -> Prop) (σ : St) : Prop :=
 ∀ (T0 : CS) (B : Nat -> Prop) (a : Act) (w : World), X7 T0 B σ a w -> c.wp P (fun e a' w' => ∃ σ', Q e σ' /\ X7 T0 B σ' a' w' /\ Yj B w w') a w
def Wk (σ σ' : St) : Prop := ∀ (T0 : CS) (B : Nat -> Prop) (a : Act) (w : World), X7 T0 B σ a w -> X7 T0 B σ' a w
def Sn (next : St -> Prop) (Q : Exit -> St -> Prop) : Exit -> St -> Prop
 | .normal, σ => next σ
 | e, σ => Q e σ
def WD (id : Nat) (Q : Exit -> St -> Prop) : Exit -> St -> Prop
 | .exit pk, σ => if pk = id then Q .normal σ else Q (.exit pk) σ
 | e, σ => Q e σ
section
variable {P : Program} {Q : Exit -> St -> Prop} {σ : St}
theorem Wk.refl (σ : St) : Wk σ σ := fun _ _ _ _ h => h
theorem Wk.trans {σ σ' σ'' : St} (h : Wk σ σ') (k : Wk σ' σ'') : Wk σ σ'' := fun _ _ _ _ r => k _ _ _ _ (h _ _ _ _ r)
theorem MU {c : Code} {Q' : Exit -> St -> Prop} (h : ∀ e σ, Q e σ -> Q' e σ) (k : AWP P c Q σ) : AWP P c Q' σ :=
 fun T0 B a w r => wp_mono (k T0 B a w r) fun e _ _ ⟨σ', hq, hr⟩ => ⟨σ', h e σ' hq, hr⟩
theorem Iy (h : Q .normal σ) : AWP P .skip Q σ := fun _ B _ w r => wp_skip ⟨σ, h, r, Yj.refl B w⟩
theorem Hk {id : Nat} (h : Q (.exit id) σ) : AWP P (.exit id) Q σ := fun _ B _ w r => wp_exit ⟨σ, h, r, Yj.refl B w⟩
theorem Hv (h : Q .ret σ) : AWP P .ret Q σ := fun _ B _ w r => wp_ret ⟨σ, h, r, Yj.refl B w⟩
theorem Mz {id : Nat} {l : List Oper} {bar : Oper -> Bool} (h : OF P l.toArray bar l σ (Q .normal)) : AWP P (.region id l.toArray false) Q σ :=
 fun _ _ _ _ r => wp_region_lit (SZ h r fun σ' _ _ hq hr hb => ⟨σ', hq, hr, hb⟩)
theorem H4 {x y : Code} (h : AWP P x (Sn (AWP P y Q) Q) σ) : AWP P (.seq x y) Q σ := by
 intro T0 B a w r
 refine wp_seq (wp_mono (h T0 B a w r) ?_)
 rintro e a' w' ⟨σ', hq, hr, hb⟩
 cases e with
 | normal => exact wp_mono (hq T0 B a' w' hr) fun e _ _ ⟨σ2, h1, h2, h3⟩ => ⟨σ2, h1, h2, hb.trans h3⟩
 | exit id => exact ⟨σ', hq, hr, hb⟩
 | goto l => exact ⟨σ', hq, hr, hb⟩
 | ret => exact ⟨σ', hq, hr, hb⟩
 | panic ch => exact ⟨σ', hq, hr, hb⟩
 | outgrown => exact ⟨σ', hq, hr, hb⟩
theorem I9 {c : Operand} {x y : Code} {b : Bool} (hc : look P σ 0 c = .one (.d (.bool b))) (ht : b = true -> AWP P x Q σ) (hf : b = false -> AWP P y Q σ) : AWP P (.cond c x y) Q σ := by
 intro T0 B a w r
 obtain ⟨X, h, rr⟩ := r
 have hv := rr.look (P := P) 0 c
 rw [hc] at hv
 exact wp_cond_split (zG hv) (fun hb => ht hb T0 B a w ⟨X, h, rr⟩) (fun hb => hf hb T0 B a w ⟨X, h, rr⟩)
theorem Ie {id : Nat} {c : Code} (h : AWP P c (WD id Q) σ) : AWP P (.block id c) Q σ := by
 intro T0 B a w r
 refine wp_block (wp_mono (h T0 B a w r) ?_)
 rintro e a' w' ⟨σ', hq, hr, hb⟩
 cases e with
 | exit pk =>
  simp only [WD] at hq
  simp only [Exit.inBlock]
  split at hq
  ·rename_i hh; rw [if_pos hh]; exact ⟨σ', hq, hr, hb⟩
  ·rename_i hh; rw [if_neg hh]; exact ⟨σ', hq, hr, hb⟩
 | normal => exact ⟨σ', hq, hr, hb⟩
 | goto l => exact ⟨σ', hq, hr, hb⟩
 | ret => exact ⟨σ', hq, hr, hb⟩
 | panic ch => exact ⟨σ', hq, hr, hb⟩
 | outgrown => exact ⟨σ', hq, hr, hb⟩
theorem xf {c : Code} {ι : Type} (S : ι -> St) (μ : ι -> Nat) (i0 : ι) (h0 : Wk σ (S i0))
  (round : ∀ i, AWP P c (Sn (fun σ' => ∃ i', μ i' < μ i /\ Wk σ' (S i')) Q) (S i)) : AWP P (.loop c) Q σ := by
 intro T0 B a w r b k cs
 have key : ∀ n i a w, μ i = n -> X7 T0 B (S i) a w ->
   ∃ e a' w', (∃ σ', Q e σ' /\ X7 T0 B σ' a' w' /\ Yj B w w') /\ Arrives P (lone (b.at a (.code c :: .inLoop c :: k)) cs w) b k cs e a' w' := by
  intro n
  induction n using Nat.strongRecOn with
  | _ n ih =>
   intro i a w hn hr
   obtain ⟨e, a₁, w₁, ⟨σ₁, hq, oM, oN⟩, vM⟩ := round i T0 B a w hr b (.inLoop c :: k) cs
   cases e with
   | normal =>
    obtain ⟨i', wN, hH⟩ := hq
    obtain ⟨e₂, a₂, w₂, ⟨σ₂, hJ, hO, hQ⟩, nB⟩ := ih (μ i') (hn ▸ wN) i' a₁ w₁ rfl (hH T0 B a₁ w₁ oM)
    exact ⟨e₂, a₂, w₂, ⟨σ₂, hJ, hO, oN.trans hQ⟩, .of_steps (Steps.trans vM (.one step_inLoop)) nB⟩
   | exit id => exact ⟨_, a₁, w₁, ⟨σ₁, hq, oM, oN⟩, .pass (x := .inLoop c) rfl (fun _ _ => .inl (by simp)) vM⟩
   | goto l => exact ⟨_, a₁, w₁, ⟨σ₁, hq, oM, oN⟩, .pass (x := .inLoop c) rfl (fun _ _ => .inl (by simp)) vM⟩
   | ret => exact ⟨_, a₁, w₁, ⟨σ₁, hq, oM, oN⟩, .pass (x := .inLoop c) rfl (fun _ _ => .inl (by simp)) vM⟩
   | panic ch => exact ⟨_, a₁, w₁, ⟨σ₁, hq, oM, oN⟩, .pass (x := .inLoop c) rfl (fun _ _ => .inl (by simp)) vM⟩
   | outgrown => exact ⟨_, a₁, w₁, ⟨σ₁, hq, oM, oN⟩, .pass (x := .inLoop c) rfl (fun _ _ => .inl (by simp)) vM⟩
 obtain ⟨e, a', w', hq, vM⟩ := key _ i0 a w rfl (h0 T0 B a w r)
 exact ⟨e, a', w', hq, .of_steps (.one step_loop) vM⟩
end
/-! ### entering a function, and leaving it -/
def VF : List (List D) -> St
 | [] => []
 | r :: rs => (vOf (r.map .d), []) :: VF rs
def K7 (n : Nat) (args : List (List D)) : St := VF args ++ List.replicate (n - args.length) (V.any, [])
def SU (P : Program) (σ : St) : ResultVar -> List At -> Prop
 | .tmp t, xs => (σ.get t = vOf xs) /\ t < σ.length
 | .cell t T, xs => ∃ u c cells, σ.get t = .one (.bptr u c) /\ σ.ob u 0 = .box cells /\ K0 P T = true /\ jC P T = true /\ P.cellsOf T ≠ 1 /\ c + P.cellsOf T <= cells.length /\ xs = cut cells c (P.cellsOf T)
def WA (P : Program) (σ : St) : List ResultVar -> List (List At) -> Prop
 | [], vH => vH = []
 | r :: rs, vH => ∃ xs rest, SU P σ r xs /\ WA P σ rs rest /\ vH = xs :: rest
def zh (σ : St) : List (List At) -> Option (List (List D))
 | [] => some []
 | xs :: rest => (match rowOf σ xs, zh σ rest with | some r, some rs => some (r :: rs) | _, _ => none)
def K6 (σ : St) : At -> Option D
 | .d (.sl _ _) => none
 | .d x => some x
 | .nil s => some (.sl s [])
 | .sref t j lo len => (match σ.ob t j with | .arr false size rows => if lo = 0 /\ len = rows.length then some (.sl size rows) else none | _ => none)
 | _ => none
def ownRow (σ : St) : List At -> Option (List D)
 | [] => some []
 | x :: xs => (match K6 σ x, ownRow σ xs with | some d, some ds => some (d :: ds) | _, _ => none)
def Wb (σ : St) : List (List At) -> Option (List (List D))
 | [] => some []
 | xs :: rest => (match ownRow σ xs, Wb σ rest with | some r, some rs => some (r :: rs) | _, _ => none)
def IY (P : Program) (fn : Func) (own : Bool) (res : List (List D)) (e : Exit) (σ : St) : Prop :=
 (e = .ret \/ e = .normal) /\ ∃ vH, WA P σ fn.results.toList vH /\ (if own then Wb σ vH = some res /\ (YX vH.flatten).Nodup else zh σ vH = some res)
def HL (P : Program) (fn : Func) (res : List (List D)) (e : Exit) (σ : St) : Prop :=
 (e = .ret \/ e = .normal) /\ ∃ vH, WA P σ fn.results.toList vH /\ Xp σ vH = some res /\ Xh σ vH /\ (YX vH.flatten).Nodup
end Go.Vm
namespace Go.Vm
open Go.RowKit
section
variable {P : Program} {T0 : CS} {B : Nat -> Prop} {σ : St} {a : Act} {w w' : World} {X X' : Nat -> Prop} {h : Nat -> Nat -> Hd}
theorem kY : ∀ (args : List (List D)) (t : Nat), (VF args)[t]? = (args[t]?).map fun r => (vOf (r.map .d), [])
 | [], t => by simp [VF]
 | r :: rs, 0 => by simp [VF]
 | r :: rs, t + 1 => by simpa [VF] using kY rs t
theorem XG (args : List (List D)) : (VF args).length = args.length := by
 induction args with
 | nil => rfl
 | cons r rs ih => simp [VF, ih]
theorem SR {T : CS} {n : Nat} {args : List (List D)} {wj : List Value} (hT : ∀ b k, T b k -> b < w.heap.size) (ha : Zc (fun v row => ∃ cs, Ql v cs /\ Zc (Rd T w) cs row) wj args) :
  X7 T (fun b => b < w.heap.size) (K7 n args) { tmps := wj.toArray ++ Array.replicate (n - wj.toArray.size) undef, defers := [] } w := by
 have hl := ha.length
 refine ⟨fun _ => False, fun _ _ => Hd.of undef, ?_⟩
 have wZ : ∀ t j, (K7 n args).ob t j = .none := by
  intro t j
  unfold St.ob K7
  rcases Nat.lt_or_ge t args.length with h | h
  ·rw [List.getElem?_append_left (by rw [XG]; exact h), kY, List.getElem?_eq_getElem h]
   simp [Z2]
  ·rw [List.getElem?_append_right (by rw [XG]; exact h), List.getElem?_replicate]
   split
   ·rename_i e he
    split at he
    ·cases he; simp [Z2]
    ·cases he
   ·rfl
 have sa : ∀ b k v, T b k -> w.cell? ⟨b, k, none⟩ = some v -> w.cell? ⟨b, k, none⟩ = some v /\ Tof T (fun _ => False) b k := fun b k v hb hc => ⟨hc, .inl hb⟩
 refine ⟨by simp [K7, XG, hl], rfl, (fun b hb => hb), (fun b hb => hb.elim), hT, fun t ht => ?_, fun t j => by rw [wZ]; trivial, fun t j b wD => absurd (wZ t j) wD, fun t j b wD => absurd (wZ t j) wD, fun t j t' j' b wD => absurd (wZ t j) wD⟩
 unfold St.get K7
 rcases Nat.lt_or_ge t args.length with wN | tA
 ·rw [List.getElem?_append_left (by rw [XG]; exact wN), kY, List.getElem?_eq_getElem wN]
  obtain ⟨v, hv, cs, hf, wC⟩ := ha.get' t args[t] (List.getElem?_eq_getElem wN)
  have v5 : (wj.toArray ++ Array.replicate (n - wj.toArray.size) undef).getD t undef = v := by
   rw [Array.getD_eq_getD_getElem?, Array.getElem?_append_left (by simp; omega)]
   simp [hv]
  simp only [v5]
  exact (SH hf (yz (wC.imp fun _ _ => Rd.mono sa))).up
 ·rw [List.getElem?_append_right (by rw [XG]; exact tA), List.getElem?_replicate]
  split
  ·rename_i e he
   split at he
   ·cases he; trivial
   ·cases he
  ·trivial
theorem Hl {T : CS} {ob : Nat -> Nat -> Ob} {xs : List At} {v : Value} (hv : XC T h ob w (vOf xs) v) : ∃ cs, Ql v cs /\ Zc (Zr T h ob w) xs cs := by
 match xs, hv with
 | [], hv =>
  obtain ⟨cs, rfl, wC⟩ := hv
  exact ⟨cs.toList, .inr ⟨by rw [<- wC.length]; simp, by simp⟩, wC⟩
 | [x], hv => exact ⟨[v], .inl ⟨v, rfl, rfl, Zr.Y1 hv⟩, .cons hv .nil⟩
 | x :: y :: xs, hv =>
  obtain ⟨cs, rfl, wC⟩ := hv
  exact ⟨cs.toList, .inr ⟨by rw [<- wC.length]; simp, by simp⟩, wC⟩
theorem Lm (r : Rel T0 B σ a w X h) : ∀ {rs : List ResultVar} {vH : List (List At)}, WA P σ rs vH ->
  ∃ vs wa, (rs.mapM (m := Sem) fun | .tmp t => pure (a.tmps.getD t undef) | .cell u t => do loadVar t (<- asAddr (a.tmps.getD u undef))).run P w = .ok vs w /\ Zc Ql vs wa /\ Zc (fun xs cs => Zc (Zr (Tof T0 X) h σ.ob w) xs cs) vH wa
 | [], vH, hr => by cases hr; exact ⟨[], [], by simp, .nil, .nil⟩
 | rv :: rs, vH, hr => by
  obtain ⟨xs, rest, h1, h2, rfl⟩ := hr
  obtain ⟨vs, wa, wU, hf, wC⟩ := Lm r h2
  have one : ∃ v cs, (match rv with | .tmp t => (pure (a.tmps.getD t undef) : Sem Value) | .cell u t => do loadVar t (<- asAddr (a.tmps.getD u undef))).run P w = .ok v w /\ Ql v cs /\ Zc (Zr (Tof T0 X) h σ.ob w) xs cs := by
   cases rv with
   | tmp t =>
    obtain ⟨hg, wN⟩ := h1
    have hv := r.slot t wN
    rw [hg] at hv
    obtain ⟨cs, hf, wC⟩ := Hl hv
    exact ⟨_, cs, by simp, hf, wC⟩
   | cell t T =>
    obtain ⟨u, c, cells, hg, ho, vy, ta, wD, hle, rfl⟩ := h1
    have hv := r.get t
    rw [hg] at hv
    obtain ⟨b, cs, e, hb, he, hh, wC⟩ := r.box ho hv
    have hlen := wC.length
    obtain ⟨val, l5, mr, _⟩ := Hi (P := P) (w := w) vy (b := b) (off := c) (cs := cut cs.toList c (P.cellsOf T)) (Y4 _ _ _ (by omega)) (fun j u hu => JQ hh _ _ (Kf _ _ _ _ _ hu))
    refine ⟨val, cut cs.toList c (P.cellsOf T), ?_, .inr ⟨by rw [Y4 _ _ _ (by omega)]; exact wD, mr ta⟩, wC.cut _ _⟩
    simp only [Instr.loadAt, Instr.sureAddr, Sem.run_bind, Sem.run_pure, Result.andThen_ok] at l5
    simp only [he, asAddr, Sem.run_bind, Sem.run_pure, Result.andThen_ok]
    exact l5
  obtain ⟨v, cs, nC, hR, mu⟩ := one
  refine ⟨v :: vs, cs :: wa, ?_, .cons hR hf, .cons mu wC⟩
  simp only [List.mapM_cons, Sem.run_bind, nC, Result.andThen_ok, wU, Sem.run_pure]
theorem qA (r : Rel T0 B σ a w X h) {fn : Func} {vH : List (List At)} (hr : WA P σ fn.results.toList vH) :
  ∃ vs wa, (results fn a.tmps).run P w = .ok (ko vs) w /\ Zc Ql vs wa /\ Zc (fun xs cs => Zc (Zr (Tof T0 X) h σ.ob w) xs cs) vH wa := by
 obtain ⟨vs, wa, wU, hf, wC⟩ := Lm r hr
 refine ⟨vs, wa, ?_, hf, wC⟩
 unfold results
 rw [Array.mapM_eq_mapM_toList]
 change ((((fn.results.toList.mapM (m := Sem) fun | .tmp t => pure (a.tmps.getD t undef) | .cell u t => do loadVar t (<- asAddr (a.tmps.getD u undef))) >>= fun l => pure l.toArray) >>= fun (vs : Array Value) => pure (if h : vs.size = 1 then vs[0] else .tuple vs))).run P w = _
 simp only [Sem.run_bind, wU, Result.andThen_ok, Sem.run_pure]
 congr 1
 match vs with
 | [] => rfl
 | [v] => rfl
 | v :: v' :: vs => simp [ko]
theorem jc (r : Rel T0 B σ a w X h) {T : CS} (hT : ∀ b k, VK T0 X h σ b k -> T b k) : ∀ {vH : List (List At)} {wa : List (List Value)} {res : List (List D)}, zh σ vH = some res -> Zc (fun xs cs => Zc (Zr (Tof T0 X) h σ.ob w) xs cs) vH wa ->
  Zc (fun cs row => Zc (KE false T w) cs row) wa res
 | [], wa, res, hr, wC => by cases wC; simp [zh] at hr; subst hr; exact .nil
 | xs :: vH, wa, res, hr, wC => by
  cases wC with
  | cons h1 wC =>
   simp only [zh] at hr
   split at hr
   ·rename_i row rs wk uF
    cases hr
    refine .cons ?_ (jc r hT uF wC)
    have := r.rowOf false wk h1 (fun hh => by cases hh)
    refine this.imp fun v d hd => ?_
    simp only [KE, Bool.false_eq_true, if_false] at hd ⊢
    exact Rd.mono (fun b k v hb hc => ⟨hc, hT b k hb⟩) hd
   ·cases hr
theorem SX : ∀ {xs : List At} {ds : List D}, ownRow σ xs = some ds -> Zc (fun x d => K6 σ x = some d) xs ds
 | [], ds, hr => by simp [ownRow] at hr; subst hr; exact .nil
 | x :: xs, ds, hr => by
  simp only [ownRow] at hr
  split at hr
  ·rename_i d sQ h1 h2; cases hr; exact .cons h1 (SX h2)
  ·cases hr
theorem Tb : ∀ {vH : List (List At)} {res : List (List D)}, Wb σ vH = some res -> Zc (fun xs row => Zc (fun x d => K6 σ x = some d) xs row) vH res
 | [], res, hr => by simp [Wb] at hr; subst hr; exact .nil
 | xs :: vH, res, hr => by
  simp only [Wb] at hr
  split at hr
  ·rename_i d sQ h1 h2; cases hr; exact .cons (SX h1) (Tb h2)
  ·cases hr
theorem jG (r : Rel T0 B σ a w X h) {x : At} {d : D} {v : Value} (hx : K6 σ x = some d) (hv : Zr (Tof T0 X) h σ.ob w x v) : Xe (Tof T0 X) w v d /\ (∀ b, d.scalar = false -> blk v = some b -> ∃ t j lo len, x = .sref t j lo len /\ σ.ob t j ≠ .none /\ (h t j).u b) := by
 cases x with
 | d x =>
  cases x with
  | sl s rows => simp [K6] at hx
  | int k n => simp [K6] at hx; subst hx; exact ⟨hv, fun b hb => by cases hb⟩
  | bool b => simp [K6] at hx; subst hx; exact ⟨hv, fun b hb => by cases hb⟩
  | str s => simp [K6] at hx; subst hx; exact ⟨hv, fun b hb => by cases hb⟩
  | unk => simp [K6] at hx; subst hx; exact ⟨hv, fun b hb => by cases hb⟩
 | nil s =>
  simp [K6] at hx; subst hx
  cases hv
  exact ⟨⟨0, [], World.ownsRow_nil w 0 0 s, (by intro q hq; cases hq), .nil⟩, fun b _ hb => by cases hb⟩
 | sref t j lo len =>
  simp only [K6] at hx
  split at hx
  ·rename_i size rows ho
   split at hx
   ·rename_i hc
    obtain ⟨rfl, rfl⟩ := hc
    cases hx
    obtain ⟨_, vq, _⟩ := hv.2.1 _ size rows ho
    have he := vq rfl rfl
    have h0 := r.obj t j
    have vO := r.ub t j
    rw [ho] at h0 vO
    refine ⟨by rw [he]; exact h0, fun b _ hb => ⟨t, j, 0, rows.length, rfl, by rw [ho]; simp, vO b (by simp) (by rw [<- he]; exact hb)⟩⟩
   ·cases hx
  ·cases hx
 | any => simp [K6] at hx
 | ptr => simp [K6] at hx
 | bptr => simp [K6] at hx
 | fn => simp [K6] at hx
 | rptr => simp [K6] at hx
 | tref => simp [K6] at hx
theorem NA {f : FuncId} {fn : Func} {c : Code} (hf : P.funcs[f]? = some fn) (hb : fn.body = some c) (wb : Wi P f = true) {own : Bool} {args res : List (List D)}
  (hw : AWP P c (IY P fn own res) (K7 fn.ntmps args)) : XP P f own args res := by
 refine ⟨wb, fun T w wj hT wH => calls_of_wp hf hb ?_⟩
 refine wp_mono (hw T (fun b => b < w.heap.size) _ w (SR hT wH)) ?_
 rintro e a' w' ⟨σ', ⟨he, vH, vh, wJ⟩, ⟨X, h, r⟩, wW⟩
 have vW : Below w.heap.size w w' := ⟨wW.os, wW.tape, wW.output, wW.size, wW.block⟩
 obtain ⟨vs, wa, wU, wi, wC⟩ := qA r vh
 have goal : a'.defers = [] /\ ∃ v, (results fn a'.tmps).run P w' = .ok v w' /\ FU own T w res (.returned v) w' := by
  refine ⟨r.defers, _, wU, ?_⟩
  cases own with
  | false =>
   refine ⟨vs, wa, fun b => w.heap.size <= b /\ b < w'.heap.size, rfl, vW, fun b hb => hb, wi, ?_, fun hh => by cases hh⟩
   refine jc r (fun b k hb => ?_) (by simpa using wJ) wC
   rcases hb with hb | ⟨t, j, q, size, rows, ho, hb⟩
   ·rcases hb with hb | hb
    ·exact .inl hb
    ·have := r.hX b hb; exact .inr ⟨by omega, this.2⟩
   ·have := r.own t j b (by rw [ho]; simp) hb
    exact .inr ⟨by omega, this.2.2⟩
  | true =>
   simp only [if_true] at wJ
   obtain ⟨wI, w8⟩ := wJ
   have wz := Tb wI
   have u6 : Zc (fun x d => K6 σ' x = some d) vH.flatten res.flatten := KJ wz
   have u7 : Zc (Zr (Tof T X) h σ'.ob w') vH.flatten wa.flatten := KJ wC
   refine ⟨vs, wa, X, rfl, vW, (fun b hb => by have := r.hX b hb; exact ⟨by omega, this.2⟩), wi, ?_, fun _ => ⟨fun i cc d b hc hd vS hb => ?_, fun i j cc g9 d d' b hc hd wm wO vS pd hb wS => ?_⟩⟩
   ·clear u6 u7 wi wU vh wI w8 he hw
    induction wz generalizing wa with
    | nil => cases wC; exact .nil
    | cons hr _ ih =>
     cases wC with
     | cons sV wC =>
      refine .cons ?_ (ih _ wC)
      clear ih wC
      refine Zc.Jm (by rw [<- sV.length, hr.length]) (fun i v d hv hd => ?_)
      obtain ⟨x, hx, rz⟩ := hr.get' i d hd
      obtain ⟨v', tb, nD⟩ := sV.get i x hx
      rw [hv] at tb; cases tb
      simp only [KE, if_true]
      exact (jG r rz nD).1
   ·obtain ⟨x, hx, rz⟩ := u6.get' i d hd
    obtain ⟨v', tb, nD⟩ := u7.get i x hx
    rw [hc] at tb; cases tb
    obtain ⟨t, j, lo, len, _, wD, ue⟩ := (jG r rz nD).2 b vS hb
    have := r.own t j b wD ue
    exact ⟨by omega, this.2.2, this.2.1⟩
   ·obtain ⟨x, hx, rz⟩ := u6.get' i d hd
    obtain ⟨v', tb, nD⟩ := u7.get i x hx
    rw [hc] at tb; cases tb
    obtain ⟨x2, oW, mv⟩ := u6.get' j d' wO
    obtain ⟨v2, vJ, mw⟩ := u7.get j x2 oW
    rw [wm] at vJ; cases vJ
    obtain ⟨t, u, lo, len, rfl, wD, ue⟩ := (jG r rz nD).2 b vS hb
    obtain ⟨t2, u2, hU, my, rfl, rj, mz⟩ := (jG r mv mw).2 b pd wS
    obtain ⟨rfl, rfl⟩ := r.inj t u t2 u2 b wD rj ue mz
    exact Tl _ i j t u lo len hU my w8 hx oW
 rcases he with rfl | rfl
 ·exact goal
 ·exact goal
theorem PQ {f : FuncId} {fn : Func} {c : Code} (hf : P.funcs[f]? = some fn) (hb : fn.body = some c) (wb : Wi P f = true) {args res : List (List D)}
  (hw : AWP P c (HL P fn res) (K7 fn.ntmps args)) : YC P f args res := by
 refine ⟨wb, fun T w wj hT wH => calls_of_wp hf hb ?_⟩
 refine wp_mono (hw T (fun b => b < w.heap.size) _ w (SR hT wH)) ?_
 rintro e a' w' ⟨σ', ⟨he, vH, vh, v7, tH, w8⟩, ⟨X, h, r⟩, wW⟩
 have vW : Below w.heap.size w w' := ⟨wW.os, wW.tape, wW.output, wW.size, wW.block⟩
 obtain ⟨vs, wa, wU, wi, wC⟩ := qA r vh
 have goal : a'.defers = [] /\ ∃ v, (results fn a'.tmps).run P w' = .ok v w' /\ GW w res (.returned v) w' := by
  refine ⟨r.defers, _, wU, vs, wa, rfl, vW, wi, ?_, ?_⟩
  ·clear w8 tH vh wU wi hw
   induction wC generalizing res with
   | nil => simp [Xp] at v7; subst v7; exact .nil
   | cons h1 _ ih =>
    simp only [Xp] at v7
    split at v7
    ·rename_i row rs wk uF
     cases v7
     exact .cons (by rw [<- h1.length]; exact (zg wk).1) (ih uF)
    ·cases v7
  ·refine (Sc r (KJ wC) (JZ v7).1 (JK tH) w8).mono (fun b hb => ?_)
   have := r.xT _ b hb
   exact ⟨by omega, this.2.2.1⟩
 rcases he with rfl | rfl
 ·exact goal
 ·exact goal
end
end Go.Vm
namespace Go.Vm
open Go.RowKit
theorem St.HC (e : Ent) (σ : St) : St.get (e :: σ) 0 = e.1 := rfl
theorem St.Hj (e : Ent) (σ : St) (n : Nat) : St.get (e :: σ) (n + 1) = St.get σ n := by simp [St.get]
theorem St.Ht (e : Ent) (σ : St) (j : Nat) : St.ob (e :: σ) 0 j = Z2 e.2 j := rfl
theorem St.H5 (e : Ent) (σ : St) (n j : Nat) : St.ob (e :: σ) (n + 1) j = St.ob σ n j := by simp [St.ob]
theorem Lw (o : Ob) (os : List Ob) : Z2 (o :: os) 0 = o := rfl
theorem U6 (o : Ob) (os : List Ob) (n : Nat) : Z2 (o :: os) (n + 1) = Z2 os n := by simp [Z2]
theorem HG (n : Nat) : Z2 [] n = .none := by simp [Z2]
def lkI (P : Program) (σ : St) (x : Operand) : Prop × Int :=
 match unc (look P σ 0 x) with
 | .one (.d (.int _ n)) => (gOf (look P σ 0 x) = true, n)
 | _ => (False, 0)
def lkK (P : Program) (σ : St) (x : Operand) : IntKind :=
 match unc (look P σ 0 x) with
 | .one (.d (.int k _)) => k
 | _ => .i64
theorem yS {P : Program} {σ : St} {x : Operand} (h : (lkI P σ x).1) : xk P σ x (lkK P σ x) (lkI P σ x).2 := by
 unfold lkI at h ⊢
 unfold lkK
 unfold xk
 split at h
 ·rename_i k n heq
  rw [heq]; exact ⟨h, rfl⟩
 ·exact h.elim
def Qp (P : Program) (σ : St) (vR : Nat) : Option Operand -> Prop × Nat
 | none => (True, vR)
 | some x => ((lkI P σ x).1 /\ 0 <= (lkI P σ x).2, (lkI P σ x).2.toNat)
theorem jB {P : Program} {σ : St} {vR : Nat} {x : Option Operand} (h : (Qp P σ vR x).1) : bnd P σ vR x (Qp P σ vR x).2 := by
 cases x with
 | none => rfl
 | some x =>
  have h1 := yS h.1
  exact ⟨_, _, h1.1, h1.2, h.2, rfl⟩
def rowAt (rows : List (List D)) (i : Nat) : List D := rows.getD i []
def bAt (s : ByteArray) (i : Nat) : Nat := (s.data.toList.getD i 0).toNat
def kz (P : Program) (σ : St) (T : TypeId) (x ix : Operand) : Prop × V :=
 match unc (look P σ 0 x) with
 | .one (.d (.sl size rows)) => ((gOf (look P σ 0 x) = true /\ (lkI P σ ix).1) /\ 0 <= (lkI P σ ix).2 /\ (YJ P T = true /\ size = P.cellsOf (ZE P T) /\ 0 < size) /\ (lkI P σ ix).2 < (rows.length : Int), .one (.rptr (rowAt rows (lkI P σ ix).2.toNat) 0))
 | .one (.sref t j lo len) => ((gOf (look P σ 0 x) = true /\ (lkI P σ ix).1) /\ 0 <= (lkI P σ ix).2 /\ (YJ P T = true /\ 0 < P.cellsOf (ZE P T) /\ (match σ.ob t j with | .arr _ size _ => size = P.cellsOf (ZE P T) | _ => False)) /\ (lkI P σ ix).2 < (len : Int), .one (.ptr t j (lo + (lkI P σ ix).2.toNat) 0))
 | .one (.tref t j m c none) => ((gOf (look P σ 0 x) = true /\ (lkI P σ ix).1) /\ 0 <= (lkI P σ ix).2 /\ (YJ P T = true /\ 0 < P.cellsOf (ZE P T)) /\ (match σ.ob t j with | .arr true _ rows => m < rows.length /\ (match (rowAt rows m)[c]? with | some (.sl n s) => n = P.cellsOf (ZE P T) /\ (lkI P σ ix).2 < (s.length : Int) | _ => False) | _ => False), .one (.tref t j m c (some ((lkI P σ ix).2.toNat * P.cellsOf (ZE P T)))))
 | .one (.bptr t c) => ((gOf (look P σ 0 x) = true /\ (lkI P σ ix).1) /\ 0 <= (lkI P σ ix).2 /\ (match σ.ob t 0 with | .box _ => True | _ => False) /\ (match Nf P T with | some n => 1 < n /\ (lkI P σ ix).2 < (n : Int) | none => False), .one (.bptr t (c + (lkI P σ ix).2.toNat * P.cellsOf (ZE P T))))
 | _ => (False, .any)
def Mp (P : Program) (σ : St) (T : TypeId) (x : Operand) : Prop × V :=
 match unc (look P σ 0 x) with
 | .one (.bptr t c) => (match σ.ob t 0 with | .box cells => (gOf (look P σ 0 x) = true /\ K0 P T = true /\ c + P.cellsOf T <= cells.length, ldV P T (cut cells c (P.cellsOf T))) | _ => (False, .any))
 | .one (.ptr t j i c) => (match σ.ob t j with | .arr q size rows => ((gOf (look P σ 0 x) = true /\ K0 P T = true /\ c + P.cellsOf T <= size) /\ i < rows.length, ldV P T (jV q t j i c (cut (rowAt rows i) c (P.cellsOf T)))) | _ => (False, .any))
 | .one (.rptr r c) => (gOf (look P σ 0 x) = true /\ K0 P T = true /\ c + P.cellsOf T <= r.length, ldV P T ((cut r c (P.cellsOf T)).map .d))
 | .one (.tref t j i c (some k)) => (match σ.ob t j with
  | .arr true _ rows => (match (rowAt rows i)[c]? with
   | some (.sl 1 s) => ((gOf (look P σ 0 x) = true /\ K0 P T = true) /\ i < rows.length /\ P.cellsOf T = 1 /\ k < s.length /\ (rowAt s k).all D.scalar = true, ldV P T ((rowAt s k).map .d))
   | _ => (False, .any))
  | _ => (False, .any))
 | _ => (False, .any)
def WN (P : Program) (σ : St) (T : TypeId) (x : Operand) (f : Nat) : Prop × V :=
 match unc (look P σ 0 x) with
 | .one (.bptr t c) => (gOf (look P σ 0 x) = true /\ zM P T f = true /\ (match σ.ob t 0 with | .box _ => True | _ => False), .one (.bptr t (c + Y2 P T f)))
 | .one (.ptr t j i c) => (gOf (look P σ 0 x) = true /\ zM P T f = true /\ (match σ.ob t j with | .arr _ _ _ => True | _ => False), .one (.ptr t j i (c + Y2 P T f)))
 | .one (.rptr r c) => (gOf (look P σ 0 x) = true /\ zM P T f = true, .one (.rptr r (c + Y2 P T f)))
 | .one (.tref t j i c (some k)) => (gOf (look P σ 0 x) = true /\ zM P T f = true /\ (match σ.ob t j with | .arr true _ _ => True | _ => False), .one (.tref t j i c (some (k + Y2 P T f))))
 | _ => (False, .any)
def Pq (P : Program) (op : BinOp) (T : TypeId) (x y : V) : Prop × V :=
 match op, x, y with
 | .eql, .one (.d (.int k m)), .one (.d (.int k' n)) => (k' = k, .one (.d (.bool (m == n))))
 | .neq, .one (.d (.int k m)), .one (.d (.int k' n)) => (k' = k, .one (.d (.bool (m != n))))
 | .lss, .one (.d (.int k m)), .one (.d (.int k' n)) => (k' = k, .one (.d (.bool (decide (m < n)))))
 | .leq, .one (.d (.int k m)), .one (.d (.int k' n)) => (k' = k, .one (.d (.bool (decide (m <= n)))))
 | .gtr, .one (.d (.int k m)), .one (.d (.int k' n)) => (k' = k, .one (.d (.bool (decide (m > n)))))
 | .geq, .one (.d (.int k m)), .one (.d (.int k' n)) => (k' = k, .one (.d (.bool (decide (m >= n)))))
 | .add, .one (.d (.int k m)), .one (.d (.int k' n)) => (k' = k, .one (.d (.int k (k.wrap (m + n)))))
 | .sub, .one (.d (.int k m)), .one (.d (.int k' n)) => (k' = k, .one (.d (.int k (k.wrap (m - n)))))
 | .mul, .one (.d (.int k m)), .one (.d (.int k' n)) => (k' = k, .one (.d (.int k (k.wrap (m * n)))))
 | .quo, .one (.d (.int k m)), .one (.d (.int k' n)) => (k' = k /\ n ≠ 0, .one (.d (.int k (k.wrap (m.tdiv n)))))
 | .rem, .one (.d (.int k m)), .one (.d (.int k' n)) => (k' = k /\ n ≠ 0, .one (.d (.int k (m.tmod n))))
 | .and, .one (.d (.int k m)), .one (.d (.int k' n)) => (k' = k, .one (.d (.int k (R9 k m n))))
 | .or, .one (.d (.int k m)), .one (.d (.int k' n)) => (k' = k, .one (.d (.int k (iOr k m n))))
 | .xor, .one (.d (.int k m)), .one (.d (.int k' n)) => (k' = k, .one (.d (.int k (HR k m n))))
 | .shl, .one (.d (.int k m)), .one (.d (.int _ n)) => (0 <= n, .one (.d (.int k (k.wrap (m * 2 ^ (min n.toNat k.bits))))))
 | .shr, .one (.d (.int k m)), .one (.d (.int _ n)) => (0 <= n, .one (.d (.int k (m.fdiv (2 ^ (min n.toNat k.bits))))))
 | .add, .one (.d (.str m)), .one (.d (.str n)) => (((m.size + n.size : Nat) : Int) <= 9223372036854775807, .one (.d (.str (m ++ n))))
 | .eql, .one (.d (.str m)), .one (.d (.str n)) => (True, .one (.d (.bool (decide (m = n)))))
 | .neq, .one (.d (.str m)), .one (.d (.str n)) => (True, .one (.d (.bool (!decide (m = n)))))
 | .eql, .one (.d (.bool m)), .one (.d (.bool n)) => (Tr P T = true, .one (.d (.bool (m == n))))
 | .neq, .one (.d (.bool m)), .one (.d (.bool n)) => (Tr P T = true, .one (.d (.bool (!(m == n)))))
 | .eql, .agg xs, .agg ys => (VT P T = true /\ (zC P (P.fieldsOf T).toList xs ys).isSome = true, .one (.d (.bool ((zC P (P.fieldsOf T).toList xs ys).getD false))))
 | .neq, .agg xs, .agg ys => (VT P T = true /\ (zC P (P.fieldsOf T).toList xs ys).isSome = true, .one (.d (.bool (!(zC P (P.fieldsOf T).toList xs ys).getD false))))
 | _, _, _ => (False, .any)
def je (P : Program) (σ : St) (T : TypeId) : List (Nat × Operand) -> List At -> Prop × List At
 | [], r => (True, r)
 | (i, x) :: ps, r => ((bOk P T i = true /\ gOf (look P σ (bTy P T i) x) = true /\ (unc (look P σ (bTy P T i) x)).flat = true /\
   (unc (look P σ (bTy P T i) x)).cells.length = P.cellsOf (bTy P T i) /\ TL P T i + P.cellsOf (bTy P T i) <= r.length) /\ (je P σ T ps (place r (TL P T i) (unc (look P σ (bTy P T i) x)).cells)).1,
   (je P σ T ps (place r (TL P T i) (unc (look P σ (bTy P T i) x)).cells)).2)
theorem Rf {P : Program} {σ : St} {T : TypeId} : ∀ {ps : List (Nat × Operand)} {r : List At}, (je P σ T ps r).1 -> qY P σ T ps r (je P σ T ps r).2
 | [], _, _ => rfl
 | (_, _) :: _, _, h => ⟨h.1.1, h.1.2.1, h.1.2.2.1, h.1.2.2.2.1, h.1.2.2.2.2, Rf h.2⟩
def isB : V -> Bool
 | .one (.d (.bool _)) => true
 | _ => false
def bOf : V -> Bool
 | .one (.d (.bool b)) => b
 | _ => false
theorem Il : ∀ {v : V}, isB v = true -> v = .one (.d (.bool (bOf v)))
 | .one (.d (.bool _)), _ => rfl
def evV (P : Program) (σ : St) (op : Op) (ty : TypeId) : Prop × V :=
 match op with
 | .move x => (True, look P σ ty x)
 | .assign x => (True, look P σ ty x)
 | .pick c a b =>
  (match unc (look P σ ty c) with
  | .one (.d (.bool bc)) => ((gOf (look P σ ty c) = true /\ (bc = true -> isB (unc (look P σ ty a)) = true) /\ (bc = false -> isB (unc (look P σ ty b)) = true)) /\ (bc = true -> gOf (look P σ ty a) = true) /\ (bc = false -> gOf (look P σ ty b) = true), .one (.d (.bool (cond bc (bOf (unc (look P σ ty a))) (bOf (unc (look P σ ty b)))))))
  | _ => (False, .any))
 | .load T x => Mp P σ T x
 | .fieldAddr T x f => WN P σ T x f
 | .nilCheck x => (match unc (look P σ 0 x) with
  | .one (.bptr t c) => (gOf (look P σ 0 x) = true /\ (match σ.ob t 0 with | .box _ => True | _ => False), .one (.bptr t c))
  | _ => (False, .any))
 | .indexAddr T x ix => kz P σ T x ix
 | .index T x ix =>
  (match unc (look P σ 0 x) with
  | .one (.d (.str s)) => ((gOf (look P σ 0 x) = true /\ (lkI P σ ix).1) /\ 0 <= (lkI P σ ix).2 /\ kl P T = true /\ (lkI P σ ix).2 < (s.size : Int), .one (.d (.int .u8 (bAt s (lkI P σ ix).2.toNat))))
  | .agg xs => ((gOf (look P σ 0 x) = true /\ (lkI P σ ix).1) /\ 0 <= (lkI P σ ix).2 /\ (match Nf P T with | some n => (lkI P σ ix).2 < (n : Int) | none => False) /\ K0 P (ZE P T) = true /\ (lkI P σ ix).2.toNat * P.cellsOf (ZE P T) + P.cellsOf (ZE P T) <= xs.length,
    ldV P (ZE P T) (cut xs ((lkI P σ ix).2.toNat * P.cellsOf (ZE P T)) (P.cellsOf (ZE P T))))
  | _ => (False, .any))
 | .slice T x lo hi none =>
  (match unc (look P σ 0 x) with
  | .one (.d (.str s)) => ((gOf (look P σ 0 x) = true /\ kl P T = true /\ (Qp P σ 0 lo).1 /\ (Qp P σ s.size hi).1) /\ (Qp P σ 0 lo).2 <= (Qp P σ s.size hi).2 /\ (Qp P σ s.size hi).2 <= s.size, .one (.d (.str (s.extract (Qp P σ 0 lo).2 (Qp P σ s.size hi).2))))
  | .one (.d (.sl size rows)) => ((gOf (look P σ 0 x) = true /\ YJ P T = true /\ size = P.cellsOf (ZE P T) /\ (Qp P σ 0 lo).1 /\ (Qp P σ rows.length hi).1) /\ (Qp P σ 0 lo).2 <= (Qp P σ rows.length hi).2 /\ (Qp P σ rows.length hi).2 <= rows.length,
    .one (.d (.sl size (cut rows (Qp P σ 0 lo).2 ((Qp P σ rows.length hi).2 - (Qp P σ 0 lo).2)))))
  | .one (.sref t j o len) => ((gOf (look P σ 0 x) = true /\ YJ P T = true /\ (match σ.ob t j with | .arr _ size _ => size = P.cellsOf (ZE P T) | _ => False) /\ (Qp P σ 0 lo).1 /\ (Qp P σ len hi).1) /\ (Qp P σ 0 lo).2 <= (Qp P σ len hi).2 /\ (Qp P σ len hi).2 <= len,
    .one (.sref t j (o + (Qp P σ 0 lo).2) ((Qp P σ len hi).2 - (Qp P σ 0 lo).2)))
  | _ => (False, .any))
 | .binOp op T x y _ => ((gOf (look P σ T x) = true /\ gOf (look P σ T y) = true) /\ (Pq P op T (unc (look P σ T x)) (unc (look P σ T y))).1, (Pq P op T (unc (look P σ T x)) (unc (look P σ T y))).2)
 | .unOp .not _ x => (match unc (look P σ 0 x) with | .one (.d (.bool b)) => (gOf (look P σ 0 x) = true, .one (.d (.bool (!b)))) | _ => (False, .any))
 | .unOp .neg _ x => (match unc (look P σ 0 x) with | .one (.d (.int k n)) => (gOf (look P σ 0 x) = true, .one (.d (.int k (k.wrap (-n))))) | _ => (False, .any))
 | .convert S T x => (match unc (look P σ 0 x), LM P T with | .one (.d (.int _ n)), some k => (gOf (look P σ 0 x) = true /\ (P.underlying S).isSome = true, .one (.d (.int k (k.wrap n)))) | _, _ => (False, .any))
 | .extract x i => (match unc (look P σ 0 x) with | .tup xs => (gOf (look P σ 0 x) = true /\ i < xs.length /\ (xs.getD i .any).flat = true, xs.getD i .any) | _ => (False, .any))
 | .field T x f =>
  (match unc (look P σ 0 x) with
  | .agg xs => (gOf (look P σ 0 x) = true /\ zM P T f = true /\ K0 P (KA P T f) = true /\ Y2 P T f + P.cellsOf (KA P T f) <= xs.length, ldV P (KA P T f) (cut xs (Y2 P T f) (P.cellsOf (KA P T f))))
  | _ => (False, .any))
 | .build T parts => (match yD P 12 T with | some z => ((Yz P T = true /\ jC P T = true) /\ (je P σ T parts.toList z).1, .agg (je P σ T parts.toList z).2) | none => (False, .any))
 | .call ⟨.builtin .len, ⟨[x]⟩, ⟨[t]⟩⟩ =>
  (match unc (look P σ t x) with
  | .one (.d (.str s)) => (gOf (look P σ t x) = true /\ kl P t = true, .one (.d (.int .i64 s.size)))
  | .one (.d (.sl _ rows)) => (gOf (look P σ t x) = true /\ YJ P t = true, .one (.d (.int .i64 rows.length)))
  | .one (.nil _) => (gOf (look P σ t x) = true /\ YJ P t = true, .one (.d (.int .i64 0)))
  | .one (.sref u j _ len) => (gOf (look P σ t x) = true /\ YJ P t = true /\ (match σ.ob u j with | .arr _ _ _ => True | .lit _ _ => True | _ => False), .one (.d (.int .i64 len)))
  | .one (.tref u j i c none) => (match σ.ob u j with
   | .arr true _ rows => (match (rowAt rows i)[c]? with
    | some (.sl _ s) => ((gOf (look P σ t x) = true /\ YJ P t = true) /\ i < rows.length, .one (.d (.int .i64 s.length)))
    | _ => (False, .any))
   | _ => (False, .any))
  | _ => (False, .any))
 | .call ⟨.builtin .max, ⟨[x, y]⟩, _⟩ => ((lkI P σ x).1 /\ (lkI P σ y).1 /\ lkK P σ y = lkK P σ x, .one (.d (.int (lkK P σ x) (if (lkI P σ y).2 > (lkI P σ x).2 then (lkI P σ y).2 else (lkI P σ x).2))))
 | .call ⟨.builtin .min, ⟨[x, y]⟩, _⟩ => ((lkI P σ x).1 /\ (lkI P σ y).1 /\ lkK P σ y = lkK P σ x, .one (.d (.int (lkK P σ x) (if (lkI P σ y).2 < (lkI P σ x).2 then (lkI P σ y).2 else (lkI P σ x).2))))
 | _ => (False, .any)
theorem LU {o : Ob} (h : (match o with | .box _ => True | _ => False)) : ∃ cells, o = .box cells := by
 cases o with
 | box c => exact ⟨c, rfl⟩
 | none => exact h.elim
 | arr q s r => exact h.elim
 | lit s r => exact h.elim
theorem G5 {o : Ob} (h : (match o with | .arr _ _ _ => True | _ => False)) : ∃ q size rows, o = .arr q size rows := by
 cases o with
 | arr q s r => exact ⟨q, s, r, rfl⟩
 | none => exact h.elim
 | box c => exact h.elim
 | lit s r => exact h.elim
theorem G1 {o : Ob} (h : (match o with | .arr _ _ _ => True | .lit _ _ => True | _ => False)) : (∃ q size rows, o = .arr q size rows) \/ ∃ size rows, o = .lit size rows := by
 cases o with
 | arr q s r => exact .inl ⟨q, s, r, rfl⟩
 | none => exact h.elim
 | box c => exact h.elim
 | lit s r => exact .inr ⟨s, r, rfl⟩
theorem Le {o : Ob} {n : Nat} (h : (match o with | .arr _ size _ => size = n | _ => False)) : ∃ q rows, o = .arr q n rows := by
 cases o with
 | arr q s r => simp at h; subst h; exact ⟨q, r, rfl⟩
 | none => exact h.elim
 | box c => exact h.elim
 | lit s r => exact h.elim
theorem HP {P : Program} {op : BinOp} {T : TypeId} {x y : V} (hc : (Pq P op T x y).1) : N2 P op T x y (Pq P op T x y).2 := by
 unfold Pq at hc ⊢
 split at hc
 all_goals first
  | exact hc.elim
  | exact ⟨.inr hc, rfl⟩
  | exact ⟨.inr hc.1, hc.2, rfl⟩
  | exact ⟨.inl (.inl rfl), hc, rfl⟩
  | exact ⟨.inl (.inr rfl), hc, rfl⟩
  | exact ⟨hc, rfl⟩
  | rfl
  | (obtain ⟨q, hq⟩ := Option.isSome_iff_exists.1 hc.2; exact ⟨hc.1, q, hq, .inl ⟨rfl, by rw [hq]; rfl⟩⟩)
  | (obtain ⟨q, hq⟩ := Option.isSome_iff_exists.1 hc.2; exact ⟨hc.1, q, hq, .inr ⟨rfl, by rw [hq]; rfl⟩⟩)
theorem LK {P : Program} {σ : St} {op : Op} {ty : TypeId} (hc : (evV P σ op ty).1) : Zt P σ op ty (evV P σ op ty).2 := by
 unfold evV at hc ⊢
 split at hc
 ·rfl
 ·rfl
 ·rename_i c a b
  split at hc
  ·rename_i bc h1; exact ⟨bc, _, _, hc.1.1, h1, (fun hh => Il (hc.1.2.1 hh)), (fun hh => Il (hc.1.2.2 hh)), hc.2.1, hc.2.2, (by first | rfl | trivial)⟩
  ·exact hc.elim
 ·rename_i T x
  unfold Mp at hc ⊢
  simp only [Zt]
  split at hc
  ·rename_i t c hx
   split at hc
   ·rename_i cells ho; simp only [hx, ho]; exact ⟨hc.1, hc.2.1, cells, rfl, hc.2.2, (by first | rfl | trivial)⟩
   ·exact hc.elim
  ·rename_i t j i c hx
   split at hc
   ·rename_i size rows ho; simp only [hx, ho]; exact ⟨hc.1.1, hc.1.2.1, _, size, rows, rfl, hc.2, hc.1.2.2, (by first | rfl | trivial)⟩
   ·exact hc.elim
  ·rename_i r c hx; simp only [hx]; exact ⟨hc.1, hc.2.1, hc.2.2, (by first | rfl | trivial)⟩
  ·rename_i t j i c k hx
   split at hc
   ·rename_i size rows ho
    split at hc
    ·rename_i s wJ; simp only [hx, ho, wJ]; exact ⟨hc.1.1, hc.1.2, size, rows, s, rfl, hc.2.1, wJ, hc.2.2.1, hc.2.2.2.1, hc.2.2.2.2, (by first | rfl | trivial)⟩
    ·exact hc.elim
   ·exact hc.elim
  ·exact hc.elim
 ·rename_i T x f
  unfold WN at hc ⊢
  simp only [Zt]
  split at hc
  ·rename_i t c hx; simp only [hx]; exact ⟨hc.1, hc.2.1, LU hc.2.2, (by first | rfl | trivial)⟩
  ·rename_i t j i c hx; simp only [hx]; exact ⟨hc.1, hc.2.1, G5 hc.2.2, (by first | rfl | trivial)⟩
  ·rename_i r c hx; simp only [hx]; exact ⟨hc.1, hc.2, (by first | rfl | trivial)⟩
  ·rename_i t j i c k hx
   have h3 := hc.2.2
   split at h3
   ·rename_i size rows ho; simp only [hx]; exact ⟨hc.1, hc.2.1, ⟨size, rows, ho⟩, (by first | rfl | trivial)⟩
   ·exact h3.elim
  ·exact hc.elim
 ·rename_i x
  simp only [Zt]
  split at hc
  ·rename_i t c hx; simp only [hx]; exact ⟨hc.1, LU hc.2, (by first | rfl | trivial)⟩
  ·exact hc.elim
 ·rename_i T x ix
  unfold kz at hc ⊢
  simp only [Zt]
  split at hc
  ·rename_i size rows hx
   simp only [hx]
   exact ⟨_, _, yS hc.1.2, hc.2.1, hc.1.1, hc.2.2.1.1, hc.2.2.1.2.1, hc.2.2.1.2.2, hc.2.2.2, (by first | rfl | trivial)⟩
  ·rename_i t j lo len hx
   simp only [hx]
   exact ⟨_, _, yS hc.1.2, hc.2.1, hc.1.1, hc.2.2.1.1, hc.2.2.1.2.1, Le hc.2.2.1.2.2, hc.2.2.2, (by first | rfl | trivial)⟩
  ·rename_i t j m c hx
   have h3 := hc.2.2.2
   split at h3
   ·rename_i size rows ho
    obtain ⟨hm, h4⟩ := h3
    split at h4
    ·rename_i n s hr
     obtain ⟨rfl, wN⟩ := h4
     simp only [hx]
     exact ⟨_, _, yS hc.1.2, hc.2.1, hc.1.1, hc.2.2.1.1, hc.2.2.1.2, ⟨size, rows, s, ho, hm, hr, wN⟩, (by first | rfl | trivial)⟩
    ·exact h4.elim
   ·exact h3.elim
  ·rename_i t c hx
   simp only [hx]
   refine ⟨_, _, yS hc.1.2, hc.2.1, hc.1.1, LU hc.2.2.1, ?_, (by first | rfl | trivial)⟩
   have := hc.2.2.2
   split at this
   ·rename_i n hn; exact ⟨n, hn, this.1, this.2⟩
   ·exact this.elim
  ·exact hc.elim
 ·rename_i T x ix
  simp only [Zt]
  split at hc
  ·rename_i s hx; simp only [hx]; exact ⟨_, _, yS hc.1.2, hc.2.1, hc.1.1, hc.2.2.1, hc.2.2.2, (by first | rfl | trivial)⟩
  ·rename_i xs hx
   simp only [hx]
   refine ⟨_, _, yS hc.1.2, hc.2.1, hc.1.1, ?_, hc.2.2.2.1, hc.2.2.2.2, (by first | rfl | trivial)⟩
   have := hc.2.2.1
   split at this
   ·rename_i n hn; exact ⟨n, hn, this⟩
   ·exact this.elim
  ·exact hc.elim
 ·rename_i T x lo hi
  simp only [Zt]
  split at hc
  ·rename_i s hx; simp only [hx]; exact ⟨hc.1.1, hc.1.2.1, _, _, jB hc.1.2.2.1, jB hc.1.2.2.2, hc.2.1, hc.2.2, (by first | rfl | trivial)⟩
  ·rename_i size rows hx; simp only [hx]; exact ⟨hc.1.1, hc.1.2.1, hc.1.2.2.1, _, _, jB hc.1.2.2.2.1, jB hc.1.2.2.2.2, hc.2.1, hc.2.2, (by first | rfl | trivial)⟩
  ·rename_i t j o len hx; simp only [hx]; exact ⟨hc.1.1, hc.1.2.1, Le hc.1.2.2.1, _, _, jB hc.1.2.2.2.1, jB hc.1.2.2.2.2, hc.2.1, hc.2.2, (by first | rfl | trivial)⟩
  ·exact hc.elim
 ·exact ⟨hc.1.1, hc.1.2, HP hc.2⟩
 ·simp only [Zt]
  split at hc
  ·rename_i b hx; simp only [hx]; exact ⟨hc, (by first | rfl | trivial)⟩
  ·exact hc.elim
 ·simp only [Zt]
  split at hc
  ·rename_i k n hx; simp only [hx]; exact ⟨hc, (by first | rfl | trivial)⟩
  ·exact hc.elim
 ·rename_i S T x
  simp only [Zt]
  split at hc
  ·rename_i k0 n k hx hk; simp only [hx, hk]; exact ⟨hc.1, hc.2, k, rfl, (by first | rfl | trivial)⟩
  ·exact hc.elim
 ·rename_i x i
  simp only [Zt]
  split at hc
  ·rename_i xs hx
   simp only [hx]
   exact ⟨hc.1, by simp [List.getD_eq_getElem?_getD, List.getElem?_eq_getElem hc.2.1], hc.2.2⟩
  ·exact hc.elim
 ·simp only [Zt]
  split at hc
  ·rename_i xs hx; simp only [hx]; exact ⟨hc.1, hc.2.1, hc.2.2.1, hc.2.2.2, (by first | rfl | trivial)⟩
  ·exact hc.elim
 ·simp only [Zt]
  split at hc
  ·rename_i z hz; exact ⟨hc.1.1, hc.1.2, z, _, hz, Rf hc.2, (by first | rfl | trivial)⟩
  ·exact hc.elim
 ·simp only [Zt]
  split at hc
  ·rename_i s hx; simp only [hx]; exact ⟨hc.1, hc.2, (by first | rfl | trivial)⟩
  ·rename_i s rows hx; simp only [hx]; exact ⟨hc.1, hc.2, (by first | rfl | trivial)⟩
  ·rename_i s hx; simp only [hx]; exact ⟨hc.1, hc.2, (by first | rfl | trivial)⟩
  ·rename_i u j lo len hx; simp only [hx]; exact ⟨hc.1, hc.2.1, G1 hc.2.2, (by first | rfl | trivial)⟩
  ·rename_i u j i c hx
   split at hc
   ·rename_i rows ho
    split at hc
    ·rename_i s wJ; simp only [hx, ho, wJ]; exact ⟨hc.1.1, hc.1.2, _, rows, _, s, rfl, hc.2, wJ, (by first | rfl | trivial)⟩
    ·exact hc.elim
   ·exact hc.elim
  ·exact hc.elim
 ·simp only [Zt]
  have hy := yS hc.2.1
  rw [hc.2.2] at hy
  exact ⟨_, _, _, yS hc.1, hy, (by first | rfl | trivial)⟩
 ·simp only [Zt]
  have hy := yS hc.2.1
  rw [hc.2.2] at hy
  exact ⟨_, _, _, yS hc.1, hy, (by first | rfl | trivial)⟩
 ·exact hc.elim
end Go.Vm
namespace Go.Vm
open Go.RowKit
def Kp (P : Program) (σ : St) (T : TypeId) (size : Nat) : List (Nat × Operand) -> Nat -> Prop × List (List D)
 | [], _ => (True, [])
 | (i, x) :: ps, k => ((i = k /\ gOf (look P σ T x) = true /\ (unc (look P σ T x)).flat = true /\ QF (unc (look P σ T x)).cells = true /\ (rowOf σ (unc (look P σ T x)).cells).isSome = true /\ ((rowOf σ (unc (look P σ T x)).cells).getD []).length = size) /\ (Kp P σ T size ps (k + 1)).1,
   (rowOf σ (unc (look P σ T x)).cells).getD [] :: (Kp P σ T size ps (k + 1)).2)
theorem Um {P : Program} {σ : St} {T : TypeId} {size : Nat} : ∀ {ps : List (Nat × Operand)} {k : Nat}, (Kp P σ T size ps k).1 -> UH P σ T size ps k (Kp P σ T size ps k).2
 | [], _, _ => rfl
 | (_, x) :: _, _, h => by
  obtain ⟨⟨h1, h2, h3, h4, h5, h6⟩, h7⟩ := h
  obtain ⟨r, hr⟩ := Option.isSome_iff_exists.1 h5
  refine ⟨h1, h2, h3, h4, r, _, hr, ?_, Um h7, ?_⟩
  ·rw [hr] at h6; exact h6
  ·simp only [Kp, hr, Option.getD_some]
def jm (σ : St) (x : V) (size : Nat) : Prop × List (List D) × St :=
 match x with
 | .one (.nil _) => (True, [], σ)
 | .one (.sref t j lo len) => (match σ.ob t j with | .arr false s wE => (s = size /\ lo = 0 /\ len = wE.length, wE, σ.Ze t j .none) | _ => (False, [], σ))
 | _ => (False, [], σ)
theorem Hg {σ : St} {x : V} {size : Nat} (h : (jm σ x size).1) : jj σ x size (jm σ x size).2.1 (jm σ x size).2.2 := by
 unfold jm at h ⊢
 split at h
 ·exact ⟨rfl, rfl⟩
 ·rename_i t j lo len
  split at h
  ·rename_i s wE ho
   obtain ⟨rfl, rfl, rfl⟩ := h
   exact ⟨wE, ho, rfl, Nat.le_refl _, (List.take_length).symm, rfl⟩
  ·exact h.elim
 ·exact h.elim
def V4 (σ : St) (x : V) (size : Nat) : Prop × List (List D) :=
 match x with
 | .one (.d (.sl s rows)) => (s = size, rows)
 | .one (.nil _) => (True, [])
 | .one (.sref t j lo len) => (match σ.ob t j with | .arr false s rows => (s = size /\ lo + len <= rows.length, cut rows lo len) | _ => (False, []))
 | _ => (False, [])
theorem I3 {σ : St} {x : V} {size : Nat} (h : (V4 σ x size).1) : zx σ x size (V4 σ x size).2 := by
 unfold V4 at h ⊢
 split at h
 ·exact ⟨h, rfl⟩
 ·rfl
 ·rename_i t j lo len
  split at h
  ·rename_i s rows ho
   obtain ⟨rfl, hle⟩ := h
   exact ⟨rows, ho, hle, rfl⟩
  ·exact h.elim
 ·exact h.elim
def evS (P : Program) (σ : St) (o : Oper) (d : Nat) : Prop × St :=
 match o.op with
 | .alloc T => (match yD P 12 T with | some row => (σ.fresh d = true /\ Yz P T = true, σ.new d (.one (.bptr d 0)) [.box row]) | none => (False, σ))
 | .box T x => (σ.fresh d = true /\ gOf (look P σ T x) = true /\ (unc (look P σ T x)).flat = true /\ Zp d (unc (look P σ T x)).cells = false, σ.new d (.one (.bptr d 0)) [.box (unc (look P σ T x)).cells])
 | .buildSlice T n parts => ((σ.fresh d = true /\ YJ P T = true /\ Yz P (ZE P T) = true /\ 0 < P.cellsOf (ZE P T) /\ parts.toList.length = n /\ n * P.cellsOf (ZE P T) <= 16777216) /\ (Kp P σ (ZE P T) (P.cellsOf (ZE P T)) parts.toList 0).1,
   σ.new d (.one (.sref d 0 0 (Kp P σ (ZE P T) (P.cellsOf (ZE P T)) parts.toList 0).2.length)) [.arr false (P.cellsOf (ZE P T)) (Kp P σ (ZE P T) (P.cellsOf (ZE P T)) parts.toList 0).2])
 | .makeSlice T x y => (match yD P 12 (ZE P T) with
   | some z => (match zD z with
    | some zr => ((x = y /\ σ.fresh d = true /\ YJ P T = true /\ Yz P (ZE P T) = true /\ 0 < P.cellsOf (ZE P T) /\ (lkI P σ x).1) /\ 0 <= (lkI P σ x).2 /\ P.bytesOf (ZE P T) * (lkI P σ x).2.toNat <= 281474976710656 /\ (lkI P σ x).2 <= 9223372036854775807,
      σ.new d (.one (.sref d 0 0 (lkI P σ x).2.toNat)) [.arr false (P.cellsOf (ZE P T)) (List.replicate (lkI P σ x).2.toNat zr)])
    | none => (False, σ))
   | none => (False, σ))
 | .call ⟨.builtin .append, ⟨[x, y]⟩, ⟨[t, t']⟩⟩ =>
   (((t = t' /\ gOf (look P σ t x) = true /\ gOf (look P σ t y) = true /\ YJ P t = true /\ Yz P (ZE P t) = true /\ 0 < P.cellsOf (ZE P t)) /\ (jm σ (unc (look P σ t x)) (P.cellsOf (ZE P t))).1 /\ (V4 σ (unc (look P σ t y)) (P.cellsOf (ZE P t))).1 /\ (jm σ (unc (look P σ t x)) (P.cellsOf (ZE P t))).2.2.fresh d = true) /\
    ((jm σ (unc (look P σ t x)) (P.cellsOf (ZE P t))).2.1.length + (V4 σ (unc (look P σ t y)) (P.cellsOf (ZE P t))).2.length) * P.bytesOf (ZE P t) <= 140737488355328 /\
    (jm σ (unc (look P σ t x)) (P.cellsOf (ZE P t))).2.1.length + (V4 σ (unc (look P σ t y)) (P.cellsOf (ZE P t))).2.length <= 9223372036854775807,
   (jm σ (unc (look P σ t x)) (P.cellsOf (ZE P t))).2.2.new d (.one (.sref d 0 0 ((jm σ (unc (look P σ t x)) (P.cellsOf (ZE P t))).2.1.length + (V4 σ (unc (look P σ t y)) (P.cellsOf (ZE P t))).2.length)))
    [.arr false (P.cellsOf (ZE P t)) ((jm σ (unc (look P σ t x)) (P.cellsOf (ZE P t))).2.1 ++ (V4 σ (unc (look P σ t y)) (P.cellsOf (ZE P t))).2)])
 | op => ((evV P σ op o.type).1, σ.put d (evV P σ op o.type).2)
def N8 (P : Program) (σ : St) (T : TypeId) (x y : Operand) : Prop × St :=
 match unc (look P σ 0 x) with
 | .one (.bptr t c) => (match σ.ob t 0 with
  | .box cells => (K0 P T = true /\ gOf (look P σ 0 x) = true /\ gOf (look P σ T y) = true /\ (unc (look P σ T y)).flat = true /\ (unc (look P σ T y)).cells.length = P.cellsOf T /\ c + P.cellsOf T <= cells.length, σ.Ze t 0 (.box (place cells c (unc (look P σ T y)).cells)))
  | _ => (False, σ))
 | .one (.ptr t j i c) => (match σ.ob t j with
  | .arr q size rows => ((K0 P T = true /\ gOf (look P σ 0 x) = true /\ gOf (look P σ T y) = true /\ (unc (look P σ T y)).flat = true /\ (rowOf σ (unc (look P σ T y)).cells).isSome = true /\ QF (unc (look P σ T y)).cells = true /\ ((rowOf σ (unc (look P σ T y)).cells).getD []).length = P.cellsOf T /\ c + P.cellsOf T <= size) /\ i < rows.length /\ (q = true -> ((rowOf σ (unc (look P σ T y)).cells).getD []).all D.scalar = true /\ (cut (rowAt rows i) c (P.cellsOf T)).all D.scalar = true),
    σ.Ze t j (.arr q size (rows.set i (place (rowAt rows i) c ((rowOf σ (unc (look P σ T y)).cells).getD [])))))
  | _ => (False, σ))
 | _ => (False, σ)
theorem Ha {P : Program} {σ : St} {o : Oper} {d : Nat} (tX : ∀ c, o.op = .call c -> ∀ f, c.callee ≠ .value (.func f)) (hc : (evS P σ o d).1) : Step P o d σ (evS P σ o d).2 := by
 unfold evS at hc ⊢
 split at hc
 ·rename_i T wA
  unfold Step
  rw [wA]
  split at hc
  ·rename_i row wk; simp only [wk]; exact ⟨hc.1, hc.2, row, rfl, rfl⟩
  ·exact hc.elim
 ·rename_i T x wA
  unfold Step; rw [wA]
  exact ⟨hc.1, hc.2.1, hc.2.2.1, hc.2.2.2, rfl⟩
 ·rename_i T n parts wA
  unfold Step; rw [wA]
  obtain ⟨⟨h1, h2, h3, h4, h5, h6⟩, h7⟩ := hc
  exact .inl ⟨h1, h2, h3, h4, h5, h6, .inl ⟨_, Um h7, rfl⟩⟩
 ·rename_i T x y wA
  unfold Step; rw [wA]
  split at hc
  ·rename_i z hz
   split at hc
   ·rename_i zr uE
    obtain ⟨⟨h1, h2, h3, h4, h5, h6⟩, h7, h8, h9⟩ := hc
    have hl := yS h6
    simp only [hz]
    refine ⟨h1, h2, h3, h4, h5, false, z, zr, lkK P σ x, (lkI P σ x).2.toNat, (fun hh => by cases hh), rfl, uE, ?_, h8, by omega, rfl⟩
    rw [Int.toNat_of_nonneg h7]; exact hl
   ·exact hc.elim
  ·exact hc.elim
 ·rename_i x y t t' wA
  unfold Step; rw [wA]
  obtain ⟨⟨⟨rfl, h1, h2, h3, h4, h5⟩, h6, h7, h8⟩, h9, rX⟩ := hc
  exact ⟨x, y, t, rfl, rfl, h1, h2, h3, h4, h5, _, _, _, Hg h6, I3 h7, h8, h9, rX, rfl⟩
 ·rename_i op h1 h2 h3 h4 h5
  have hv := LK hc
  unfold Step
  split
  ·rename_i T wA; exact absurd wA (h1 T)
  ·rename_i T x wA; exact absurd wA (h2 T x)
  ·rename_i T n ps wA; exact absurd wA (h3 T n ps)
  ·rename_i T x y wA; exact absurd wA (h4 T x y)
  ·rename_i c wA
   split
   ·rename_i ug
    rw [wA] at hv
    simp only [Zt] at hv
    split at hv
    ·rename_i tk _ _; rw [ug] at tk; cases tk
    ·rename_i tk _; rw [ug] at tk; cases tk
    ·rename_i tk _; rw [ug] at tk; cases tk
    ·exact hv.elim
   ·rename_i f ug; exact absurd ug (tX c wA f)
   ·exact ⟨_, hv, rfl⟩
  ·exact .inl ⟨_, hv, rfl⟩
  ·exact ⟨_, hv, rfl⟩
theorem GG {P : Program} {σ : St} {T : TypeId} {x y : Operand} (hc : (N8 P σ T x y).1) : Jc P σ T x y (N8 P σ T x y).2 := by
 unfold N8 at hc ⊢
 unfold Jc
 split at hc
 ·rename_i t c hx
  split at hc
  ·rename_i cells ho
   obtain ⟨h1, h2, h3, h4, h5, h6⟩ := hc
   first | (rw [hx]; simp only [ho]) | simp only [ho]
   exact ⟨h1, h2, h3, h4, cells, rfl, h5, h6, rfl⟩
  ·exact hc.elim
 ·rename_i t j i c hx
  split at hc
  ·rename_i q size rows ho
   obtain ⟨⟨h1, h2, h3, h4, h5, h6, h7, h8⟩, h9, rX⟩ := hc
   obtain ⟨ds, sb⟩ := Option.isSome_iff_exists.1 h5
   first | (rw [hx]; simp only [ho]) | simp only [ho]
   refine ⟨h1, h2, h3, h4, q, size, rows, ds, rfl, h9, sb, h6, ?_, h8, fun hq => ?_, ?_⟩
   ·rw [sb] at h7; exact h7
   ·have := rX hq
    rw [sb] at this; exact this
   ·rw [sb]; rfl
  ·exact hc.elim
 ·exact hc.elim
def M3 : List At -> Bool
 | [] => false
 | .nil _ :: _ => true
 | _ :: xs => M3 xs
def Lb (P : Program) (T : TypeId) : Bool := match yD P 12 (ZE P T) with | some z => M3 z | none => false
def OD : List At -> Bool
 | [] => true
 | .d (.sl _ _) :: _ => false
 | .d _ :: xs => OD xs
 | _ => false
def Gb (P : Program) (σ : St) (T : TypeId) (x y : Operand) : Bool :=
 match unc (look P σ 0 x) with
 | .one (.ptr t j _ _) => (match σ.ob t j with | .arr true _ _ => !OD (unc (look P σ T y)).cells | _ => false)
 | .one (.tref _ _ _ _ (some _)) => true
 | _ => false
def stops (P : Program) (bar : Oper -> Bool) (o : Oper) : Bool :=
 match o.op with
 | .call ⟨.value _, _, _⟩ => true
 | .call ⟨.builtin .append, _, ⟨t :: _⟩⟩ => Lb P t
 | .buildSlice T _ _ => Lb P T || FT bar o
 | .makeSlice T _ _ => Lb P T
 | .makeFunc _ _ _ => true
 | .convert _ T _ => (LM P T).isNone
 | .indexAddr _ _ _ => o.guard.isSome
 | .index _ _ _ => o.guard.isSome
 | .slice _ _ _ _ _ => o.guard.isSome
 | _ => false
def xv (P : Program) (ops : Array Oper) (bar : Oper -> Bool) (o : Oper) (rest : List Oper) (σ : St) (Q : St -> Prop) : Prop := ∃ σ', X8 P ops bar o σ σ' /\ OF P ops bar rest σ' Q
def Ev (P : Program) (ops : Array Oper) (bar : Oper -> Bool) : List Oper -> St -> (St -> Prop) -> Prop
 | [], σ, Q => Q σ
 | o :: rest, σ, Q =>
  if stops P bar o then xv P ops bar o rest σ Q else
  match o.guard with
  | none =>
   (match o.dst with
   | some d => (evS P σ o d).1 /\ Ev P ops bar rest (evS P σ o d).2 Q
   | none => (match o.op with | .store T x y => if Gb P σ T x y then xv P ops bar o rest σ Q else (N8 P σ T x y).1 /\ Ev P ops bar rest (N8 P σ T x y).2 Q | _ => False))
  | some (j, want) =>
   (match (ops[j]?).bind (·.dst), o.dst with
   | some dj, some d => (match Ks want (σ.get dj) with
    | some g => (dj < σ.length /\ (g = true -> (evV P σ o.op o.type).1 /\ gOf (evV P σ o.op o.type).2 = true /\ (unc (evV P σ o.op o.type).2).flat = true)) /\ Ev P ops bar rest (σ.put d (.cnd g (unc (evV P σ o.op o.type).2))) Q
    | none => False)
   | _, _ => False)
theorem X4 {P : Program} {ops : Array Oper} {bar : Oper -> Bool} : ∀ {l : List Oper} {σ : St} {Q : St -> Prop}, Ev P ops bar l σ Q -> OF P ops bar l σ Q
 | [], _, _, h => h
 | o :: rest, σ, Q, h => by
  unfold Ev at h
  split at h
  ·exact h
  ·rename_i wY
   have tX : ∀ c, o.op = .call c -> ∀ f, c.callee ≠ .value (.func f) := by
    intro c wA f ug
    obtain ⟨cc, ca, ct⟩ := c
    simp only at ug; subst ug
    exact wY (by simp [stops, wA])
   split at h
   ·rename_i hg
    split at h
    ·rename_i d hd
     refine ⟨_, .inl ?_, X4 h.2⟩
     unfold YF
     simp only [hg, hd]
     exact Ha tX h.1
    ·rename_i hd
     split at h
     ·rename_i T x y wA
      split at h
      ·exact h
      ·refine ⟨_, .inl ?_, X4 h.2⟩
       unfold YF
       simp only [hg, hd, wA]
       exact GG h.1
     ·exact h.elim
   ·rename_i j want hg
    split at h
    ·rename_i dj d vY hd
     split at h
     ·rename_i g vf
      refine ⟨_, .inl ?_, X4 h.2⟩
      unfold YF
      simp only [hg]
      refine ⟨dj, d, g, _, vY, h.1.1, hd, vf, fun rV => ?_, rfl⟩
      obtain ⟨h1, h2, h3⟩ := h.1.2 rV
      have base : ∃ v0, Zt P σ o.op o.type v0 /\ gOf v0 = true /\ unc (evV P σ o.op o.type).2 = unc v0 /\ (unc (evV P σ o.op o.type).2).flat = true := ⟨_, LK h1, h2, rfl, h3⟩
      unfold TP
      split
      ·rename_i c wA
       split
       ·rename_i f ug; exact absurd ug (tX c wA f)
       ·exact base
      ·exact base
     ·exact h.elim
    ·exact h.elim
theorem Gh {P : Program} {Q : Exit -> St -> Prop} {σ : St} {id : Nat} {l : List Oper} {bar : Oper -> Bool} (h : Ev P l.toArray bar l σ (Q .normal)) : AWP P (.region id l.toArray false) Q σ := Mz (X4 h)
theorem MB {P : Program} {ops : Array Oper} {bar : Oper -> Bool} {o : Oper} {rest : List Oper} {σ : St} {Q : St -> Prop} {c : Call} {f : FuncId} {d : Nat} {own : Bool} {rows res : List (List D)} (wA : o.op = .call c) (hc : c.callee = .value (.func f)) (hg : o.guard = none) (hd : o.dst = some d)
  (wH : XL P σ c.args.toList c.argTypes.toList rows) (hs : XP P f own rows res) (wY : Zz P σ c.args.toList c.argTypes.toList = true \/ QH own res) (h : Ev P ops bar rest (σ.put d (KK res)) Q) : xv P ops bar o rest σ Q := by
 refine ⟨_, .inl ?_, X4 h⟩
 unfold YF; simp only [hg, hd]
 unfold Step
 rw [wA]
 simp only [hc]
 exact .inl ⟨own, res, ⟨rows, wH, hs, wY⟩, rfl⟩
theorem LP {P : Program} {ops : Array Oper} {bar : Oper -> Bool} {o : Oper} {rest : List Oper} {σ : St} {Q : St -> Prop} {c : Call} {f : FuncId} {d j dj : Nat} {want g own : Bool} {rows : List (List D)} {res : List D} (wA : o.op = .call c) (hc : c.callee = .value (.func f)) (hg : o.guard = some (j, want)) (hd : o.dst = some d)
  (vY : (ops[j]?).bind (·.dst) = some dj) (wN : dj < σ.length) (vf : Ks want (σ.get dj) = some g)
  (wH : g = true -> XL P σ c.args.toList c.argTypes.toList rows) (hs : g = true -> XP P f own rows [res]) (wY : Zz P σ c.args.toList c.argTypes.toList = true \/ QH own [res]) (h : Ev P ops bar rest (σ.put d (.cnd g (KK [res]))) Q) : xv P ops bar o rest σ Q := by
 refine ⟨_, .inl ?_, X4 h⟩
 unfold YF; simp only [hg]
 refine ⟨dj, d, g, _, vY, wN, hd, vf, fun rV => ?_, rfl⟩
 unfold TP
 rw [wA]
 simp only [hc]
 exact ⟨own, res, ⟨rows, wH rV, hs rV, wY⟩, rfl⟩
theorem GF {P : Program} {ops : Array Oper} {bar : Oper -> Bool} {o : Oper} {rest : List Oper} {σ : St} {Q : St -> Prop} {d : Nat} (tX : ∀ c, o.op = .call c -> ∀ f, c.callee ≠ .value (.func f)) (hg : o.guard = none) (hd : o.dst = some d)
  (h1 : (evS P σ o d).1) (h : Ev P ops bar rest (evS P σ o d).2 Q) : xv P ops bar o rest σ Q := by
 refine ⟨_, .inl ?_, X4 h⟩
 unfold YF; simp only [hg, hd]
 exact Ha tX h1
theorem M5 {P : Program} {ops : Array Oper} {bar : Oper -> Bool} {o : Oper} {rest : List Oper} {σ : St} {Q : St -> Prop} {c : Call} {f : FuncId} {d : Nat} {rows res : List (List D)} (qs : List Bool) (wA : o.op = .call c) (hc : c.callee = .value (.func f)) (hg : o.guard = none) (hd : o.dst = some d)
  (wH : XL P σ c.args.toList c.argTypes.toList rows) (hs : YC P f rows res) (hq : zY qs res.flatten) (hf : σ.fresh d = true) (h : Ev P ops bar rest (σ.new d (yR d res) (Z6 qs res.flatten)) Q) : xv P ops bar o rest σ Q := by
 refine ⟨_, .inl ?_, X4 h⟩
 unfold YF; simp only [hg, hd]
 unfold Step
 rw [wA]
 simp only [hc]
 exact .inr (.inr ⟨rows, res, qs, wH, hs, hq, hf, rfl⟩)
def QA (P : Program) (σ : St) (T : TypeId) (size : Nat) : List (Nat × Operand) -> Nat -> Prop × List (List At)
 | [], _ => (True, [])
 | (i, x) :: ps, k => ((i = k /\ gOf (look P σ T x) = true /\ (unc (look P σ T x)).flat = true /\ (unc (look P σ T x)).cells.length = size) /\ (QA P σ T size ps (k + 1)).1, (unc (look P σ T x)).cells :: (QA P σ T size ps (k + 1)).2)
theorem Sh {P : Program} {σ : St} {T : TypeId} {size : Nat} : ∀ {ps : List (Nat × Operand)} {k : Nat}, (QA P σ T size ps k).1 -> UR P σ T size ps k (QA P σ T size ps k).2
 | [], _, _ => rfl
 | (_, x) :: _, _, h => by
  obtain ⟨⟨h1, h2, h3, h4⟩, h7⟩ := h
  exact ⟨h1, h2, h3, h4, _, Sh h7, rfl⟩
theorem Iq {P : Program} {ops : Array Oper} {bar : Oper -> Bool} {o : Oper} {rest : List Oper} {σ : St} {Q : St -> Prop} {d : Nat} {T : TypeId} {n : Nat} {parts : Array (Nat × Operand)} (wA : o.op = .buildSlice T n parts) (hg : o.guard = none) (hd : o.dst = some d)
  (h1 : σ.fresh d = true /\ YJ P T = true /\ Yz P (ZE P T) = true /\ 0 < P.cellsOf (ZE P T) /\ parts.toList.length = n /\ n * P.cellsOf (ZE P T) <= 16777216) (h2 : (QA P σ (ZE P T) (P.cellsOf (ZE P T)) parts.toList 0).1)
  (h3 : Zp d (QA P σ (ZE P T) (P.cellsOf (ZE P T)) parts.toList 0).2.flatten = false)
  (h : Ev P ops bar rest (σ.new d (.one (.sref d 0 0 (QA P σ (ZE P T) (P.cellsOf (ZE P T)) parts.toList 0).2.length)) [.lit (P.cellsOf (ZE P T)) (QA P σ (ZE P T) (P.cellsOf (ZE P T)) parts.toList 0).2]) Q) : xv P ops bar o rest σ Q := by
 refine ⟨_, .inl ?_, X4 h⟩
 unfold YF; simp only [hg, hd]
 unfold Step
 rw [wA]
 exact .inl ⟨h1.1, h1.2.1, h1.2.2.1, h1.2.2.2.1, h1.2.2.2.2.1, h1.2.2.2.2.2, .inr ⟨_, Sh h2, h3, rfl⟩⟩
theorem HY {P : Program} {ops : Array Oper} {bar : Oper -> Bool} {o : Oper} {rest : List Oper} {σ : St} {Q : St -> Prop} {d : Nat} {T : TypeId} {n : Nat} {parts : Array (Nat × Operand)} (wA : o.op = .buildSlice T n parts) (hg : o.guard = none) (hd : o.dst = some d)
  (h1 : YJ P T = true /\ Yz P (ZE P T) = true /\ 0 < P.cellsOf (ZE P T) /\ parts.toList.length = n /\ n * P.cellsOf (ZE P T) <= 16777216) (h2 : (Kp P σ (ZE P T) (P.cellsOf (ZE P T)) parts.toList 0).1)
  (h : Ev P ops bar rest (σ.put d (.one (.d (.sl (P.cellsOf (ZE P T)) (Kp P σ (ZE P T) (P.cellsOf (ZE P T)) parts.toList 0).2)))) Q) : xv P ops bar o rest σ Q := by
 refine ⟨_, .inl ?_, X4 h⟩
 unfold YF; simp only [hg, hd]
 unfold Step
 rw [wA]
 exact .inr ⟨h1, _, Um h2, rfl⟩
def xY (σ : St) (x : V) (size : Nat) : Prop × List (List D) × List (Nat × Nat) :=
 match x with
 | .one (.nil _) => (True, [], [])
 | .one (.sref t j lo len) => (match σ.ob t j with | .arr true s wE => (s = size /\ lo = 0 /\ len = wE.length, wE, [(t, j)]) | _ => (False, [], []))
 | _ => (False, [], [])
theorem IW {σ : St} {x : V} {size : Nat} (h : (xY σ x size).1) : Lv σ x size (xY σ x size).2.1 (xY σ x size).2.2 := by
 unfold xY at h ⊢
 split at h
 ·exact ⟨rfl, rfl⟩
 ·rename_i t j lo len
  split at h
  ·rename_i s wE ho
   obtain ⟨rfl, rfl, rfl⟩ := h
   exact ⟨ho, rfl, rfl, rfl⟩
  ·exact h.elim
 ·exact h.elim
def xO (σ : St) (x : V) (size : Nat) : Prop × List (List D) × List (Nat × Nat) :=
 match x with
 | .one (.sref t j lo len) => (match σ.ob t j with | .lit s rows => ((s = size /\ lo = 0 /\ len = rows.length) /\ (Xp σ rows).isSome = true /\ Xh σ rows, (Xp σ rows).getD [], YX rows.flatten) | _ => (False, [], []))
 | _ => (False, [], [])
theorem IL {σ : St} {x : V} {size : Nat} (h : (xO σ x size).1) : IQ σ x size (xO σ x size).2.1 (xO σ x size).2.2 := by
 unfold xO at h ⊢
 split at h
 ·rename_i t j lo len
  split at h
  ·rename_i s rows ho
   obtain ⟨⟨rfl, rfl, rfl⟩, h1, h2⟩ := h
   obtain ⟨ns, tX⟩ := Option.isSome_iff_exists.1 h1
   exact ⟨rows, ho, rfl, rfl, by rw [tX]; rfl, h2, rfl⟩
  ·exact h.elim
 ·exact h.elim
theorem zQ : ∀ (σ : St) (d : Nat) (v : V) (t : Nat), (σ.put d v)[t]? = if t = d then (σ[t]?).map (fun e => (v, e.2)) else σ[t]?
 | [], _, _, _ => by simp [St.put]
 | e :: σ, 0, v, t => by cases t <;> simp [St.put]
 | e :: σ, d + 1, v, t => by
  cases t with
  | zero => simp [St.put]
  | succ t => have := zQ σ d v t; simpa [St.put] using this
theorem Qy : ∀ (σ : St) (d : Nat) (v : V) (os : List Ob) (t : Nat), (σ.new d v os)[t]? = if t = d then (σ[t]?).map (fun _ => (v, os)) else σ[t]?
 | [], _, _, _, _ => by simp [St.new]
 | e :: σ, 0, v, os, t => by cases t <;> simp [St.new]
 | e :: σ, d + 1, v, os, t => by
  cases t with
  | zero => simp [St.new]
  | succ t => have := Qy σ d v os t; simpa [St.new] using this
theorem XA : ∀ (σ : St) (a j : Nat) (o : Ob) (t : Nat), (σ.Ze a j o)[t]? = if t = a then (σ[t]?).map (fun e => (e.1, e.2.set j o)) else σ[t]?
 | [], _, _, _, _ => by simp [St.Ze]
 | e :: σ, 0, j, o, t => by cases t <;> simp [St.Ze]
 | e :: σ, a + 1, j, o, t => by
  cases t with
  | zero => simp [St.Ze]
  | succ t => have := XA σ a j o t; simpa [St.Ze] using this
theorem KB {σ : St} {d : Nat} : Yg σ d = true ↔ σ[d]? = some (.any, []) \/ ∃ x, σ[d]? = some (.one (.d x), []) := by
 unfold Yg
 constructor
 ·intro h
  split at h
  ·rename_i h1; exact .inl h1
  ·rename_i x h1; exact .inr ⟨x, h1⟩
  ·cases h
 ·rintro (h | ⟨x, h⟩) <;> rw [h]
theorem QN {σ : St} {d a j : Nat} {o : Ob} (h : Yg σ d = true) : Yg (σ.Ze a j o) d = true := by
 rw [KB] at *
 rw [XA]
 rcases h with h | ⟨x, h⟩
 ·left; rw [h]; split <;> rfl
 ·right; refine ⟨x, ?_⟩; rw [h]; split <;> rfl
theorem KO : ∀ {l : List (Nat × Nat)} {σ : St} {d : Nat}, Yg σ d = true -> Yg (σ.Zn l) d = true
 | [], _, _, h => h
 | p :: l, σ, d, h => by rw [St.Zn]; exact KO (l := l) (QN h)
theorem WX {σ : St} {d d' : Nat} {v : V} {os : List Ob} (wD : d ≠ d') (h : Yg σ d = true) : Yg (σ.new d' v os) d = true := by
 unfold Yg at *; simp only [Qy, if_neg wD]; exact h
theorem YG {P : Program} {σ : St} {d : Nat} {v : V} {T : TypeId} {x : Operand} (h : JI d x = false) : look P (σ.put d v) T x = look P σ T x := by
 cases x with
 | tmp t =>
  have wD : t ≠ d := fun e => by subst e; simp [JI] at h
  simp [look, St.QO, wD]
 | const c => rfl
 | global g => rfl
 | func f => rfl
theorem Jw : ∀ (σ : St) (d : Nat) (v : V) (t j : Nat) (o : Ob), (σ.put d v).Ze t j o = (σ.Ze t j o).put d v
 | [], _, _, _, _, _ => rfl
 | e :: σ, 0, v, 0, j, o => rfl
 | e :: σ, d + 1, v, 0, j, o => rfl
 | e :: σ, 0, v, t + 1, j, o => rfl
 | e :: σ, d + 1, v, t + 1, j, o => by simp [St.put, St.Ze, Jw σ d v t j o]
theorem qB {d : Nat} {v : V} : ∀ (l : List (Nat × Nat)) (σ : St), (σ.put d v).Zn l = (σ.Zn l).put d v
 | [], _ => rfl
 | p :: l, σ => by rw [St.Zn, St.Zn, Jw, qB l]
theorem U7 {σ : St} {d : Nat} {v : V} : ∀ (xs : List At), QG (σ.put d v) xs = QG σ xs
 | [] => rfl
 | x :: xs => by
  have : mvD (σ.put d v) x = mvD σ x := by cases x <;> simp [mvD, St.XE]
  simp only [QG, this, U7 xs]
theorem j8 {σ : St} {d : Nat} {v : V} : ∀ (xs : List At), Xc (σ.put d v) xs = Xc σ xs
 | [] => rfl
 | x :: xs => by
  have : Rq (σ.put d v) x = Rq σ x := by cases x <;> simp [Rq, St.XE]
  simp only [Xc, this, j8 xs]
theorem ON : ∀ (l : List (Nat × V)) (σ : St), (σ.X3 l).ob = σ.ob
 | [], _ => rfl
 | p :: l, σ => by rw [St.X3, ON l, St.XE]
theorem U8 {P : Program} {T : TypeId} {x : Operand} : ∀ (l : List (Nat × V)) (σ : St), (∀ p ∈ l, JI p.1 x = false) -> look P (σ.X3 l) T x = look P σ T x
 | [], _, _ => rfl
 | p :: l, σ, h => by rw [St.X3, U8 l _ (fun q hq => h q (by simp [hq])), YG (h p (by simp))]
theorem yw {L : List (Nat × Nat)} : ∀ (l : List (Nat × V)) (σ : St), (σ.X3 l).Zn L = (σ.Zn L).X3 l
 | [], _ => rfl
 | p :: l, σ => by rw [St.X3, yw l, qB, St.X3]
theorem Lh : ∀ {σ : St} {t d : Nat} {v v' : V} {os : List Ob}, t ≠ d -> (σ.put t v').new d v os = (σ.new d v os).put t v'
 | [], _, _, _, _, _, _ => rfl
 | e :: σ, 0, 0, _, _, _, h => absurd rfl h
 | e :: σ, 0, d + 1, _, _, _, _ => rfl
 | e :: σ, t + 1, 0, _, _, _, _ => rfl
 | e :: σ, t + 1, d + 1, v, v', os, h => by simp [St.put, St.new, Lh (σ := σ) (v := v) (v' := v') (os := os) (fun hh => h (congrArg (· + 1) hh))]
theorem Nd {d : Nat} {v : V} {os : List Ob} : ∀ (l : List (Nat × V)) (σ : St), (∀ p ∈ l, p.1 ≠ d) -> (σ.X3 l).new d v os = (σ.new d v os).X3 l
 | [], _, _ => rfl
 | p :: l, σ, h => by rw [St.X3, Nd l _ (fun q hq => h q (by simp [hq])), Lh (h p (by simp)), St.X3]
theorem Wv {d : Nat} {v : V} (hv : v.ref d = false) : ∀ {σ : St} {k t : Nat}, Qn d k σ = true -> Qn d k (σ.put t v) = true
 | [], _, _, h => h
 | e :: σ, k, 0, h => by
  simp only [Qn, St.put, Bool.and_eq_true, Bool.or_eq_true, Bool.not_eq_true'] at h ⊢
  exact ⟨h.1.imp id (fun hh => ⟨hv, hh.2⟩), h.2⟩
 | e :: σ, k, t + 1, h => by
  simp only [Qn, St.put, Bool.and_eq_true] at h ⊢
  exact ⟨h.1, Wv hv h.2⟩
theorem Sj {d : Nat} : ∀ (l : List (Nat × V)) {σ : St}, (∀ p ∈ l, p.2.ref d = false) -> σ.fresh d = true -> (σ.X3 l).fresh d = true
 | [], _, _, h => h
 | p :: l, σ, hl, h => by
  refine Sj l (fun q hq => hl q (by simp [hq])) ?_
  simp only [St.fresh, Bool.and_eq_true, decide_eq_true_eq, St.XD] at h ⊢
  exact ⟨h.1, Wv (hl p (by simp)) h.2⟩
theorem Pz {o : Oper} {x y : Operand} {t : TypeId} (wA : o.op = .call ⟨.builtin .append, #[x, y], #[t, t]⟩) {n : Nat} (h : TT o n = true) : JI n x = false /\ JI n y = false := by
 have hx : x ∈ o.op.operands.toList := by rw [wA]; simp [Op.operands, Call.operands]
 have hy : y ∈ o.op.operands.toList := by rw [wA]; simp [Op.operands, Call.operands]
 simp only [TT, Bool.not_eq_true'] at h
 exact ⟨Bool.eq_false_iff.2 (List.any_eq_false.1 h x hx), Bool.eq_false_iff.2 (List.any_eq_false.1 h y hy)⟩
theorem MZ {σ σ' : St} (h : σ'.ob = σ.ob) : ∀ (xs : List At), QG σ' xs = QG σ xs
 | [] => rfl
 | x :: xs => by
  have : mvD σ' x = mvD σ x := by cases x <;> simp [mvD, h]
  simp only [QG, this, MZ h xs]
theorem Sw {σ σ' : St} (h : σ'.ob = σ.ob) : ∀ (xs : List At), Xc σ' xs = Xc σ xs
 | [] => rfl
 | x :: xs => by
  have : Rq σ' x = Rq σ x := by cases x <;> simp [Rq, h]
  simp only [Xc, this, Sw h xs]
theorem P9 {σ σ' : St} (h : σ'.ob = σ.ob) : ∀ (xs : List (List At)), Xp σ' xs = Xp σ xs
 | [] => rfl
 | x :: xs => by simp only [Xp, MZ h, P9 h xs]
theorem Tg {σ σ' : St} (h : σ'.ob = σ.ob) : ∀ (xs : List (List At)), Xh σ' xs = Xh σ xs
 | [] => rfl
 | x :: xs => by simp only [Xh, Sw h, Tg h xs]
theorem H0 {σ σ' : St} (h : σ'.ob = σ.ob) {x : V} {size : Nat} {wE : List (List D)} {l : List (Nat × Nat)} (hd : Lv σ x size wE l) : Lv σ' x size wE l := by
 unfold Lv at *; rw [h]; exact hd
theorem Hn {σ σ' : St} (h : σ'.ob = σ.ob) {x : V} {size : Nat} {news : List (List D)} {l : List (Nat × Nat)} (hd : IQ σ x size news l) : IQ σ' x size news l := by
 unfold IQ at *
 simp only [h, P9 h, Tg h]; exact hd
theorem Pd {d : Nat} : ∀ {os : List Ob} {j : Nat} {cells : List At}, Z7 d os = false -> Z2 os j = .box cells -> Zp d cells = false
 | [], j, cells, _, h => by simp [Z2] at h
 | o :: os, 0, cells, hr, h => by
  simp only [Z2, List.getElem?_cons_zero] at h
  subst h
  simp only [Z7, Bool.or_eq_false_iff] at hr; exact hr.1
 | o :: os, j + 1, cells, hr, h => by
  have h' : Z2 os j = .box cells := by simpa [Z2] using h
  refine Pd (os := os) (j := j) ?_ h'
  cases o <;> simp only [Z7, Bool.or_eq_false_iff] at hr <;> first | exact hr.2 | exact hr
theorem HT {P : Program} {ops : Array Oper} {o : Oper} {σ X : St} {d : Nat} {v : V} {os : List Ob} (hd : o.dst = some d) (hlen : X.length = σ.length) (vC : ∀ t, X.get t = σ.get t) (vz : ∀ t j cells, X.ob t j = .box cells -> σ.ob t j = .box cells)
  (vM : ∀ t j q s rows, X.ob t j = .arr q s rows -> ∃ wP, σ.ob t j = .arr q s wP) (hf : X.fresh d = true)
  (hs : ∀ l : List (Nat × V), (∀ p ∈ l, p.1 ≠ d /\ TT o p.1 = true /\ p.2.ref d = false) -> W2 P ops o (σ.X3 l) ((X.X3 l).new d v os)) (hc : ∀ l : List (Nat × V), TA o (σ.X3 l) ((X.X3 l).new d v os)) : G9 P ops o σ (X.new d v os) := by
 have wN := St.JF hf
 have nG : ∀ t e, X[t]? = some e -> t ≠ d -> e.1.ref d = false /\ Z7 d e.2 = false := fun t e he wD => by
  have h1 := hf
  simp only [St.fresh, Bool.and_eq_true] at h1
  exact JM h1.2 t e he (by omega)
 refine ⟨d, hd, by rw [St.xM, hlen], fun t wD => ?_, fun t j cells wD hb => ?_, fun t j q s rows wD hb => ?_, fun l hl => ?_⟩
 ·rw [St.qD, if_neg (fun hh => wD hh.1), vC]
  refine ⟨rfl, ?_⟩
  rw [<- vC]
  unfold St.get
  cases he : X[t]? with
  | none => rfl
  | some e => exact (nG t e he wD).1
 ·rw [St.Xo, if_neg (fun hh => wD hh.1)] at hb
  refine ⟨vz t j cells hb, ?_⟩
  unfold St.ob at hb
  cases he : X[t]? with
  | none => rw [he] at hb; cases hb
  | some e => rw [he] at hb; exact Pd (nG t e he wD).2 hb
 ·rw [St.Xo, if_neg (fun hh => wD hh.1)] at hb
  exact vM t j q s rows hb
 ·have e := Nd (d := d) (v := v) (os := os) l X (fun p hp => (hl p hp).1)
  rw [<- e]
  exact ⟨hs l hl, hc l⟩
theorem I6 {σ : St} {L : List (Nat × Nat)} {t j : Nat} {cells : List At} (h : (σ.Zn L).ob t j = .box cells) : σ.ob t j = .box cells := by
 rw [St.Qx] at h
 split at h
 ·cases h
 ·exact h
theorem Io {σ : St} {L : List (Nat × Nat)} {t j : Nat} {q : Bool} {s : Nat} {rows : List (List D)} (h : (σ.Zn L).ob t j = .arr q s rows) : σ.ob t j = .arr q s rows := by
 rw [St.Qx] at h
 split at h
 ·cases h
 ·exact h
theorem HN {P : Program} {ops : Array Oper} {bar : Oper -> Bool} {o : Oper} {rest : List Oper} {σ : St} {Q : St -> Prop} {d : Nat} {x y : Operand} {t : TypeId} {wE news : List (List D)} {l1 l2 : List (Nat × Nat)} {size : Nat} (wA : o.op = .call ⟨.builtin .append, #[x, y], #[t, t]⟩) (hg : o.guard = none) (hd : o.dst = some d) (w6 : bar o = true)
  (vL : size = P.cellsOf (ZE P t)) (h1 : gOf (look P σ t x) = true /\ gOf (look P σ t y) = true /\ YJ P t = true /\ Yz P (ZE P t) = true /\ 0 < P.cellsOf (ZE P t))
  (h2 : (xY σ (unc (look P σ t x)) size).1 /\ (xY σ (unc (look P σ t x)) size).2 = (wE, l1)) (h3 : (xO σ (unc (look P σ t y)) size).1 /\ (xO σ (unc (look P σ t y)) size).2 = (news, l2))
  (h4 : (l1 ++ l2).Nodup /\ (σ.Zn (l1 ++ l2)).fresh d = true) (h5 : (wE.length + news.length) * P.bytesOf (ZE P t) <= 140737488355328 /\ wE.length + news.length <= 9223372036854775807)
  (h : Ev P ops bar rest ((σ.Zn (l1 ++ l2)).new d (.one (.sref d 0 0 (wE.length + news.length))) [.arr true size (wE ++ news)]) Q) : xv P ops bar o rest σ Q := by
 subst vL
 have e1 := IW h2.1
 have e2 := IL h3.1
 rw [h2.2] at e1
 rw [h3.2] at e2
 have cl : ∀ σ0 : St, TA o σ0 ((σ0.Zn (l1 ++ l2)).new d (.one (.sref d 0 0 (wE.length + news.length))) [.arr true (P.cellsOf (ZE P t)) (wE ++ news)]) := fun σ0 d' wO hc => WX (fun e => wO (by rw [hd, e])) (KO hc)
 have go : ∀ l : List (Nat × V), (∀ p ∈ l, p.1 ≠ d /\ TT o p.1 = true /\ p.2.ref d = false) -> W2 P ops o (σ.X3 l) (((σ.X3 l).Zn (l1 ++ l2)).new d (.one (.sref d 0 0 (wE.length + news.length))) [.arr true (P.cellsOf (ZE P t)) (wE ++ news)]) := by
  rintro l hl T0 B a w K Q' ⟨X, hh, r⟩ hK
  have hw : Region.wanted o (yielded ops a.tmps) = true := by simp [Region.wanted, hg]
  rw [if_pos hw]
  have lx : look P (σ.X3 l) t x = look P σ t x := U8 l σ (fun p hp => (Pz wA (hl p hp).2.1).1)
  have ly : look P (σ.X3 l) t y = look P σ t y := U8 l σ (fun p hp => (Pz wA (hl p hp).2.1).2)
  refine Ro r wA hd (by rw [lx]; exact h1.1) (by rw [ly]; exact h1.2.1) h1.2.2.1 h1.2.2.2.1 h1.2.2.2.2 (by rw [lx]; exact H0 (ON l σ) e1) (by rw [ly]; exact Hn (ON l σ) e2) h4.1 ?_ h5.1 h5.2 hK
  rw [yw]
  exact Sj l (fun p hp => (hl p hp).2.2) h4.2
 have hZ : W2 P ops o σ ((σ.Zn (l1 ++ l2)).new d (.one (.sref d 0 0 (wE.length + news.length))) [.arr true (P.cellsOf (ZE P t)) (wE ++ news)]) := go [] (fun p hp => by cases hp)
 refine ⟨_, .inr ⟨w6, hZ, cl σ, fun hh => by simp [jQ, wA] at hh, fun _ => HT hd (St.zS _ _) (fun t => St.qF _ _ t) (fun t j cells hb => I6 hb) (fun t j q s rows hb => ⟨rows, Io hb⟩) h4.2 (fun l hl => ?_) (fun l => ?_), fun hh _ => by first | (simp [JJ, wA] at hh; done) | (unfold JJ at hh; rw [wA] at hh; split at hh <;> simp_all)⟩, X4 h⟩
 ·rw [<- yw]; exact go l hl
 ·rw [<- yw]; exact cl _
theorem N6 {f : At -> Bool} {v : V} (hv : v.JX f = false) : ∀ {σ : St} {d : Nat}, σ.JX f = false -> (σ.put d v).JX f = false
 | [], _, _ => rfl
 | e :: σ, 0, h => by simp only [St.JX, Bool.or_eq_false_iff] at h; simp [St.put, St.JX, hv, h.1.2, h.2]
 | e :: σ, d + 1, h => by simp only [St.JX, Bool.or_eq_false_iff] at h; simp [St.put, St.JX, h.1.1, h.1.2, N6 hv h.2]
theorem TS {σ : St} : ∀ {xs : List At} {ds : List D}, QG σ xs = some ds -> ∀ p ∈ YX xs, ∃ q s rows, σ.ob p.1 p.2 = .arr q s rows
 | [], _, _, p, hp => by cases hp
 | x :: xs, ds, h, p, hp => by
  simp only [QG] at h
  split at h
  ·rename_i d sQ h1 h2
   have ih := TS h2
   cases x with
   | sref t j lo len =>
    simp only [YX, List.mem_cons] at hp
    rcases hp with rfl | hp
    ·simp only [mvD] at h1
     split at h1
     ·rename_i q s rows ho; exact ⟨q, s, rows, ho⟩
     ·cases h1
    ·exact ih p hp
   | _ => exact ih p hp
  ·cases h
theorem IT {σ : St} {L : List (Nat × Nat)} {t j t' size wg : Nat} {q q' : Bool} {rows wP : List (List D)} {cells : List At} {xs : List At} {ds : List D} (hm : QG σ xs = some ds) (hL : YX xs = L) (ho : σ.ob t j = .arr q size rows) (hn : (t, j) ∉ L) (hb : σ.ob t' 0 = .box cells) :
  ((σ.Zn L).Ze t j (.arr q' wg wP)).ob t' 0 = .box cells := by
 have h1 : (σ.Zn L).ob t j ≠ .none := by rw [St.Qx, if_neg hn, ho]; simp
 rw [St.XF _ t j _ t' 0 h1]
 split
 ·rename_i hc; rw [hc.1, hc.2, ho] at hb; cases hb
 ·rw [St.Qx]
  split
  ·rename_i hc
   obtain ⟨q, s, rows, he⟩ := TS hm (t', 0) (by rw [hL]; exact hc)
   rw [he] at hb; cases hb
  ·exact hb
structure StM (P : Program) (σ : St) (T : TypeId) (x y : Operand) (t j i c size : Nat) (rows : List (List D)) (ds : List D) (l : List (Nat × Nat)) : Prop where
 hx : unc (look P σ 0 x) = .one (.ptr t j i c)
 ho : σ.ob t j = .arr true size rows
 hi : i < rows.length
 h1 : K0 P T = true /\ gOf (look P σ 0 x) = true /\ gOf (look P σ T y) = true /\ (unc (look P σ T y)).flat = true
 h2 : QG σ (unc (look P σ T y)).cells = some ds
 h3 : Xc σ (unc (look P σ T y)).cells
 h4 : YX (unc (look P σ T y)).cells = l
 h5 : l.Nodup /\ (t, j) ∉ l /\ (σ.Zn l).JX (At.isT t) = false
 h6 : ds.length = P.cellsOf T /\ c + P.cellsOf T <= size
theorem StM.X3 {P : Program} {o : Oper} {T : TypeId} {x y : Operand} (wA : o.op = .store T x y) {t j i c size : Nat} {rows : List (List D)} {ds : List D} {l : List (Nat × Nat)} : ∀ (q : List (Nat × V)) {σ : St}, (∀ p ∈ q, yl o p.1 = true /\ U5 p.2 = true) -> StM P σ T x y t j i c size rows ds l -> StM P (σ.X3 q) T x y t j i c size rows ds l
 | [], _, _, h => h
 | p :: q, σ, hq, h => by
  refine StM.X3 wA q (fun p' pg => hq p' (by simp [pg])) ?_
  obtain ⟨hu, hp⟩ := hq p (by simp)
  simp only [yl, wA, Bool.and_eq_true, Bool.not_eq_true'] at hu
  have hv : p.2.JX (At.isT t) = false := by
   generalize p.2 = v at hp
   unfold U5 at hp
   split at hp <;> first | rfl | cases hp
  refine ⟨?_, ?_, h.hi, ?_, ?_, ?_, ?_, ⟨h.h5.1, h.h5.2.1, ?_⟩, h.h6⟩
  ·rw [YG hu.1]; exact h.hx
  ·rw [St.XE]; exact h.ho
  ·rw [YG hu.1, YG hu.2]; exact h.h1
  ·rw [YG hu.2, U7]; exact h.h2
  ·rw [YG hu.2, j8]; exact h.h3
  ·rw [YG hu.2]; exact h.h4
  ·rw [qB]; exact N6 hv h.h5.2.2
theorem Nk {l : List (Nat × Nat)} {t j : Nat} {ob : Ob} : ∀ (q : List (Nat × V)) (σ : St), ((σ.X3 q).Zn l).Ze t j ob = ((σ.Zn l).Ze t j ob).X3 q
 | [], _ => rfl
 | p :: q, σ => by rw [St.X3, St.X3, Nk q, qB, Jw]
theorem IJ {P : Program} {ops : Array Oper} {o : Oper} {σ : St} {T : TypeId} {x y : Operand} {t j i c size : Nat} {rows : List (List D)} {ds : List D} {l : List (Nat × Nat)} (wA : o.op = .store T x y) (hg : o.guard = none) (hd : o.dst = none) (h : StM P σ T x y t j i c size rows ds l) :
  W2 P ops o σ ((σ.Zn l).Ze t j (.arr true size (rows.set i (place (rowAt rows i) c ds)))) := by
 obtain ⟨hx, ho, hi, h1, h2, h3, h4, h5, h6⟩ := h
 subst h4
 rintro T0 B a w K Q' ⟨X, hh, r⟩ hK
 have hw : Region.wanted o (yielded ops a.tmps) = true := by simp [Region.wanted, hg]
 rw [if_pos hw]
 exact SC r wA hd h1.1 h1.2.1 h1.2.2.1 hx ho hi h1.2.2.2 h2 h3 h5.1 h5.2.1 h5.2.2 h6.1 h6.2 hK
theorem Pm {P : Program} {ops : Array Oper} {o : Oper} {σ : St} {T : TypeId} {x y : Operand} {t j i size : Nat} {rows : List (List D)} {ds : List D} {l : List (Nat × Nat)} (wA : o.op = .store T x y) (hg : o.guard = none) (hd : o.dst = none) (vq : ds.length = size) (h : StM P σ T x y t j i 0 size rows ds l) :
  W2 P ops o σ ((σ.Zn l).Ze t j (.arr true size (rows.set i ds))) := by
 rintro T0 B a w K Q' ⟨X, hh, r⟩ hK
 refine IJ wA hg hd h T0 B a w K Q' ⟨X, hh, r⟩ ?_
 have h0 := r.obj t j
 rw [h.ho] at h0
 obtain ⟨_, _, _, hz, _⟩ := h0
 have e : place (rowAt rows i) 0 ds = ds := by
  have hr : (rowAt rows i).length = size := by
   have : rowAt rows i = rows[i]'h.hi := by simp [rowAt, List.getD_eq_getElem?_getD, List.getElem?_eq_getElem h.hi]
   rw [this]; exact hz _ (List.getElem_mem h.hi)
  unfold place
  rw [List.take_zero, List.nil_append, List.drop_eq_nil_of_le (by omega), List.append_nil]
 rw [e]; exact hK
theorem HM {P : Program} {ops : Array Oper} {bar : Oper -> Bool} {o : Oper} {rest : List Oper} {σ : St} {Q : St -> Prop} {T : TypeId} {x y : Operand} {t j i size : Nat} {rows : List (List D)} {ds : List D} {l : List (Nat × Nat)} (wA : o.op = .store T x y) (hg : o.guard = none) (hd : o.dst = none) (w6 : bar o = true)
  (hx : unc (look P σ 0 x) = .one (.ptr t j i 0)) (ho : σ.ob t j = .arr true size rows) (hi : i < rows.length) (h1 : K0 P T = true /\ gOf (look P σ 0 x) = true /\ gOf (look P σ T y) = true /\ (unc (look P σ T y)).flat = true)
  (h2 : QG σ (unc (look P σ T y)).cells = some ds) (h3 : Xc σ (unc (look P σ T y)).cells) (h4 : YX (unc (look P σ T y)).cells = l) (h5 : l.Nodup /\ (t, j) ∉ l /\ (σ.Zn l).JX (At.isT t) = false) (h6 : ds.length = P.cellsOf T /\ P.cellsOf T = size)
  (h : Ev P ops bar rest ((σ.Zn l).Ze t j (.arr true size (rows.set i ds))) Q) : xv P ops bar o rest σ Q := by
 have hm : StM P σ T x y t j i 0 size rows ds l := ⟨hx, ho, hi, h1, h2, h3, h4, h5, h6.1, by omega⟩
 have hf : ds.length = size := by omega
 refine ⟨_, .inr ⟨w6, Pm wA hg hd hf hm, fun d' _ hc => QN (KO hc), fun _ => ⟨⟨by rw [St.YZ, St.zS], fun u => by rw [St.XK, St.qF]⟩, fun q hq => ?_, fun t' cells hb => ?_⟩, fun hh => by simp [xm, wA] at hh, fun hh _ => by simp [JJ, wA] at hh⟩, X4 h⟩
 ·rw [<- Nk]
  exact ⟨Pm wA hg hd hf (hm.X3 wA q hq), fun d' _ hc => QN (KO hc)⟩
 ·exact IT hm.h2 hm.h4 hm.ho hm.h5.2.1 hb
structure StN (P : Program) (σ : St) (T : TypeId) (x y : Operand) (t j i c k q n size : Nat) (s rows : List (List D)) (ds : List D) (l : List (Nat × Nat)) : Prop where
 hx : unc (look P σ 0 x) = .one (.tref t j i c (some (k * n + q)))
 ho : σ.ob t j = .arr true size rows
 hi : i < rows.length
 hc : (rows.getD i [])[c]? = some (.sl n s)
 hk : k < s.length
 h1 : K0 P T = true /\ gOf (look P σ 0 x) = true /\ gOf (look P σ T y) = true /\ (unc (look P σ T y)).flat = true
 h2 : QG σ (unc (look P σ T y)).cells = some ds
 h3 : Xc σ (unc (look P σ T y)).cells
 h4 : YX (unc (look P σ T y)).cells = l
 h5 : l.Nodup /\ (t, j) ∉ l
 h6 : ds.length = P.cellsOf T /\ q + P.cellsOf T <= n
theorem StN.X3 {P : Program} {o : Oper} {T : TypeId} {x y : Operand} (wA : o.op = .store T x y) {t j i c k n0 n size : Nat} {s rows : List (List D)} {ds : List D} {l : List (Nat × Nat)} : ∀ (q : List (Nat × V)) {σ : St}, (∀ p ∈ q, yl o p.1 = true /\ U5 p.2 = true) -> StN P σ T x y t j i c k n0 n size s rows ds l -> StN P (σ.X3 q) T x y t j i c k n0 n size s rows ds l
 | [], _, _, h => h
 | p :: q, σ, hq, h => by
  refine StN.X3 wA q (fun p' pg => hq p' (by simp [pg])) ?_
  obtain ⟨hu, hp⟩ := hq p (by simp)
  simp only [yl, wA, Bool.and_eq_true, Bool.not_eq_true'] at hu
  refine ⟨?_, ?_, h.hi, h.hc, h.hk, ?_, ?_, ?_, ?_, h.h5, h.h6⟩
  ·rw [YG hu.1]; exact h.hx
  ·rw [St.XE]; exact h.ho
  ·rw [YG hu.1, YG hu.2]; exact h.h1
  ·rw [YG hu.2, U7]; exact h.h2
  ·rw [YG hu.2, j8]; exact h.h3
  ·rw [YG hu.2]; exact h.h4
end Go.Vm
namespace Go.Vm
open Go.RowKit
def Vl (P : Program) (σ : St) : ResultVar -> Prop × List At
 | .tmp t => (match σ.get t with
  | .one x => (t < σ.length, [x])
  | .agg [] => (t < σ.length, [])
  | .agg (x :: y :: xs) => (t < σ.length, x :: y :: xs)
  | _ => (False, []))
 | .cell t T => (match σ.get t with
  | .one (.bptr u c) => (match σ.ob u 0 with
    | .box cells => (K0 P T = true /\ jC P T = true /\ P.cellsOf T ≠ 1 /\ c + P.cellsOf T <= cells.length, cut cells c (P.cellsOf T))
    | _ => (False, []))
  | _ => (False, []))
def Qo (P : Program) (σ : St) : List ResultVar -> Prop × List (List At)
 | [] => (True, [])
 | r :: rs => ((Vl P σ r).1 /\ (Qo P σ rs).1, (Vl P σ r).2 :: (Qo P σ rs).2)
theorem IF {P : Program} {σ : St} {r : ResultVar} (h : (Vl P σ r).1) : SU P σ r (Vl P σ r).2 := by
 cases r with
 | tmp t =>
  simp only [Vl] at h ⊢
  simp only [SU]
  cases hx : σ.get t with
  | one x => rw [hx] at h; exact ⟨rfl, h⟩
  | agg xs =>
   rw [hx] at h
   match xs, h with
   | [], h => exact ⟨rfl, h⟩
   | [x], h => exact h.elim
   | x :: y :: xs, h => exact ⟨rfl, h⟩
  | any => rw [hx] at h; exact h.elim
  | tup xs => rw [hx] at h; exact h.elim
  | cnd g x => rw [hx] at h; exact h.elim
  | fix u x => rw [hx] at h; exact h.elim
 | cell t T =>
  simp only [Vl] at h ⊢
  split at h
  ·rename_i u c hx
   split at h
   ·rename_i cells ho
    exact ⟨u, c, cells, hx, ho, h.1, h.2.1, h.2.2.1, h.2.2.2, rfl⟩
   ·exact h.elim
  ·exact h.elim
theorem kT {P : Program} {σ : St} : ∀ {rs : List ResultVar}, (Qo P σ rs).1 -> WA P σ rs (Qo P σ rs).2
 | [], _ => rfl
 | _ :: _, h => ⟨_, _, IF h.1, kT h.2, rfl⟩
theorem GP {P : Program} {fn : Func} {σ : St} {res : List (List D)} {rv : List ResultVar} (hf : fn.results = rv.toArray) (h : (Qo P σ rv).1 /\ zh σ (Qo P σ rv).2 = some res) : IY P fn false res .ret σ :=
 ⟨.inl rfl, _, by rw [hf]; exact kT h.1, by simpa using h.2⟩
theorem Gz {P : Program} {fn : Func} {σ : St} {res : List (List D)} {rv : List ResultVar} (hf : fn.results = rv.toArray) (h : (Qo P σ rv).1 /\ Xp σ (Qo P σ rv).2 = some res /\ Xh σ (Qo P σ rv).2 /\ (YX (Qo P σ rv).2.flatten).Nodup) : HL P fn res .ret σ :=
 ⟨.inl rfl, _, by rw [hf]; exact kT h.1, h.2⟩
attribute [simp] F2 Xp QG mvD Xh Xc Rq Z6 zY QA xY xO St.Zn M3 Lb OD Gb yb jV P4 St.JX V.JX V.NY P0 qQ JR At.isT
attribute [simp] isB bOf Ev stops FT Wp evS N8 evV Pq Mp WN kz Qp je Kp jm V4 lkI lkK Vm.look cst unc gOf Ks V.flat V.cells St.put St.Ze St.new St.HC St.Hj St.Ht St.H5 Lw U6 HG
 Sn WD ldV cut place rowOf Qg QF At.OY XL V.X6 Zz KK yR Px vOf xR Kj Qo Vl zh Wb ownRow K6 YX K7 VF Zp At.ref D.scalar QH D.OZ zD HV zC
end Go.Vm
namespace Go.Vm
open Go.RowKit
section
variable {P : Program} {T0 : CS} {B : Nat -> Prop} {σ : St} {a : Act} {w w' : World} {X X' : Nat -> Prop} {h : Nat -> Nat -> Hd}
theorem Hq {cs : List Value} {row : List D} {S : Nat -> Prop} (ho : Qh w cs row S) : ∃ (hf : Nat -> Hd) (Sk : Nat -> Nat -> Prop), (∀ j c, cs[j]? = some c -> (hf j).v = c) /\ (∀ k b, Sk k b -> S b) /\ (∀ i j b, Sk i b -> Sk j b -> i = j) /\
  ∀ j size rows, row[j]? = some (.sl size rows) -> (∀ b, (hf j).u b -> Sk j b) /\ (∀ b, blk (hf j).v = some b -> (hf j).u b) /\ ∀ T h ob, Xu T h ob w (hf j) (.arr true size rows) := by
 obtain ⟨hl, Sk, h1, h2, h3⟩ := ho
 have hex : ∀ j, ∃ hd : Hd, (∀ c, cs[j]? = some c -> hd.v = c) /\ (∀ size rows, row[j]? = some (.sl size rows) -> (∀ b, hd.u b -> Sk j b) /\ (∀ b, blk hd.v = some b -> hd.u b) /\ ∀ T h ob, Xu T h ob w hd (.arr true size rows)) := by
  intro j
  cases hj : row[j]? with
  | none => exact ⟨Hd.of ((cs[j]?).getD undef), fun c wm => by simp [Hd.of, wm], fun size rows hh => by cases hh⟩
  | some dd =>
   have sr : j < cs.length := by rw [hl]; exact (List.getElem?_eq_some_iff.1 hj).1
   have sS : cs[j]? = some cs[j] := List.getElem?_eq_getElem sr
   cases dd with
   | int k n => exact ⟨Hd.of cs[j], fun c wm => by rw [sS] at wm; cases wm; rfl, fun size rows hh => by cases hh⟩
   | bool k => exact ⟨Hd.of cs[j], fun c wm => by rw [sS] at wm; cases wm; rfl, fun size rows hh => by cases hh⟩
   | str k => exact ⟨Hd.of cs[j], fun c wm => by rw [sS] at wm; cases wm; rfl, fun size rows hh => by cases hh⟩
   | unk => exact ⟨Hd.of cs[j], fun c wm => by rw [sS] at wm; cases wm; rfl, fun size rows hh => by cases hh⟩
   | sl size rows =>
    have ho := h1 j _ _ sS hj
    generalize hv : cs[j] = v at ho
    cases ho with
    | sl v size rows S e xs rP ho hz hb hl hk ri wO =>
     refine ⟨⟨v, fun k => (xs[k]?).getD undef, Sk j⟩, fun c wm => by rw [sS, hv] at wm; cases wm; rfl, fun wg wP hh => ?_⟩
     cases hh
     exact ⟨fun b hb => hb, hb, fun T h ob => ⟨e, xs, ho, hz, ⟨hl, rP, hk, fun k b hb => ri k b hb, wO⟩, fun k x d hx _ _ => by simp [hx]⟩⟩
 obtain ⟨hf, sc⟩ := Classical.axiomOfChoice hex
 exact ⟨hf, Sk, fun j => (sc j).1, h2, h3, fun j => (sc j).2⟩
theorem Qh.top {T : CS} {cs : List Value} {row : List D} {S : Nat -> Prop} (ho : Qh w cs row S) : Zc (zu T w) cs row := by
 obtain ⟨hl, Sk, h1, h2, h3⟩ := ho
 refine Zc.Jm hl (fun k x d hx hd => ?_)
 have ho := h1 k x d hx hd
 cases ho with
 | int k n => exact Rd.int _ _
 | bool b => exact Rd.bool _
 | str s => exact Rd.str _
 | unk v h => exact Rd.unk _ h
 | sl v size rows S e xs rP ho hz hb hl hk ri wO => exact ⟨e, xs, ho⟩
def FD (n : Nat) (v : Value) (row : List D) (args : List (List D)) : St := (.fix v (vOf (xR 0 0 row)), Z6 [] row) :: (VF args ++ List.replicate (n - (args.length + 1)) (V.any, []))
def St.Gx : St -> List At -> List D -> St
 | σ, .sref t j _ _ :: xs, .sl size rows :: ds => St.Gx (σ.Ze t j (.arr true size rows)) xs ds
 | σ, _ :: xs, _ :: ds => St.Gx σ xs ds
 | σ, _, _ => σ
def Oj : List D -> List D -> Prop
 | .sl s r :: ds, .sl s' r' :: sQ => s = s' /\ r.length = r'.length /\ Oj ds sQ
 | .sl _ _ :: _, _ => False
 | _ :: ds, _ :: sQ => Oj ds sQ
 | [], [] => True
 | _, _ => False
def LJ (σ : St) : List At -> Prop
 | [] => True
 | .sref t j _ _ :: xs => (match σ.ob t j with | .arr true _ _ => True | _ => False) /\ LJ σ xs
 | _ :: xs => LJ σ xs
def At.F1 : At -> Bool
 | .tref _ _ _ _ _ => true
 | _ => false
theorem Uj : ∀ {xs : List At} {t j : Nat}, (t, j) ∈ YX xs -> ∃ (k lo len : Nat), xs[k]? = some (At.sref t j lo len)
 | [], t, j, h => by cases h
 | x :: xs, t, j, h => by
  cases x with
  | sref t' j' lo len =>
   simp only [YX, List.mem_cons, Prod.mk.injEq] at h
   rcases h with ⟨rfl, rfl⟩ | h
   ·exact ⟨0, lo, len, rfl⟩
   ·obtain ⟨k, lo, len, hk⟩ := Uj h; exact ⟨k + 1, lo, len, by simpa using hk⟩
  | _ => obtain ⟨k, lo, len, hk⟩ := Uj (xs := xs) h; exact ⟨k + 1, lo, len, by simpa using hk⟩
end
theorem IK {σ : St} {d d' : Nat} {v : V} (wD : d ≠ d') (h : Yg σ d = true) : Yg (σ.put d' v) d = true := by
 unfold Yg at *; simp only [zQ, if_neg wD]; exact h
end Go.Vm
