/- An abstract machine Oe the model of Go, by value, and that it is sound: part Vf. No condition. -/
import Derived.Test.YthjkhlcbpfnobaaGreatVb
set_option linter.unusedVariables false
set_option linter.unusedSimpArgs false
namespace Go.Vm
open Go.RowKit
def Dt (P : Program) (σ : St) (c : Call) (f : FuncId) (own : Bool) (res : List (List D)) : Prop :=
 ∃ rows, Qd P σ c.args.toList c.argTypes.toList rows /\ Ql P f own rows res /\ (YY P σ c.args.toList c.argTypes.toList = true \/ KA own res)
def Step (P : Program) (o : Oper) (d : Nat) (σ σ' : St) : Prop :=
 match o.op with
 | .alloc T => σ.fresh d = true /\ Qg P T = true /\ ∃ row, ko P 12 T = some row /\ σ' = σ.new d (.one (.bptr d 0)) [.box row]
 | .box T x => σ.fresh d = true /\ gOf (look P σ T x) = true /\ (unc (look P σ T x)).flat = true /\ YU d (unc (look P σ T x)).cells = false /\ σ' = σ.new d (.one (.bptr d 0)) [.box (unc (look P σ T x)).cells]
 | .buildSlice T n parts => (σ.fresh d = true /\ XW P T = true /\ Qg P (ZT P T) = true /\ 0 < P.cellsOf (ZT P T) /\ parts.toList.length = n /\ n * P.cellsOf (ZT P T) <= 16777216 /\
   ((∃ rows, O4 P σ (ZT P T) (P.cellsOf (ZT P T)) parts.toList 0 rows /\ σ' = σ.new d (.one (.sref d 0 0 rows.length)) [.arr false (P.cellsOf (ZT P T)) rows]) \/
   (∃ rows, Ox P σ (ZT P T) (P.cellsOf (ZT P T)) parts.toList 0 rows /\ YU d rows.flatten = false /\ σ' = σ.new d (.one (.sref d 0 0 rows.length)) [.lit (P.cellsOf (ZT P T)) rows]))) \/
   ((XW P T = true /\ Qg P (ZT P T) = true /\ 0 < P.cellsOf (ZT P T) /\ parts.toList.length = n /\ n * P.cellsOf (ZT P T) <= 16777216) /\ ∃ rows, O4 P σ (ZT P T) (P.cellsOf (ZT P T)) parts.toList 0 rows /\ σ' = σ.put d (.one (.d (.sl (P.cellsOf (ZT P T)) rows))))
 | .makeSlice T x y => x = y /\ σ.fresh d = true /\ XW P T = true /\ Qg P (ZT P T) = true /\ 0 < P.cellsOf (ZT P T) /\
   ∃ q z zr k n, (q = true -> FD z = true) /\ ko P 12 (ZT P T) = some z /\ zD z = some zr /\ VE P σ x k (n : Nat) /\ P.bytesOf (ZT P T) * n <= 281474976710656 /\ n <= 9223372036854775807 /\ σ' = σ.new d (.one (.sref d 0 0 n)) [.arr q (P.cellsOf (ZT P T)) (List.replicate n zr)]
 | .call c =>
  (match c.callee with
  | .builtin .append => ∃ x y t, c.args = #[x, y] /\ c.argTypes = #[t, t] /\ gOf (look P σ t x) = true /\ gOf (look P σ t y) = true /\ XW P t = true /\ Qg P (ZT P t) = true /\ 0 < P.cellsOf (ZT P t) /\
    ∃ pW news σ1, TM σ (unc (look P σ t x)) (P.cellsOf (ZT P t)) pW σ1 /\ kh σ (unc (look P σ t y)) (P.cellsOf (ZT P t)) news /\ σ1.fresh d = true /\
     (pW.length + news.length) * P.bytesOf (ZT P t) <= 140737488355328 /\ pW.length + news.length <= 9223372036854775807 /\ σ' = σ1.new d (.one (.sref d 0 0 (pW.length + news.length))) [.arr false (P.cellsOf (ZT P t)) (pW ++ news)]
  | .value (.func f) => (∃ own res, Dt P σ c f own res /\ σ' = σ.put d (qL res)) \/ (∃ res, Dt P σ c f true res /\ σ.fresh d = true /\ σ' = σ.new d (jN d res) (xD res.flatten)) \/
    (∃ rows res qs, Qd P σ c.args.toList c.argTypes.toList rows /\ Yx P f rows res /\ yk qs res.flatten /\ σ.fresh d = true /\ σ' = σ.new d (jN d res) (YS qs res.flatten))
  | _ => ∃ v, Yc P σ o.op o.type v /\ σ' = σ.put d v)
 | .convert S T x =>
   (∃ v, Yc P σ o.op o.type v /\ σ' = σ.put d v) \/
   (∃ l, gOf (look P σ S x) = true /\ OM P S = true /\ TH P T = true /\ kh σ (unc (look P σ S x)) 1 (zK l) /\ σ' = σ.put d (.one (.d (.str ⟨l.toArray⟩)))) \/
   (∃ s, gOf (look P σ S x) = true /\ TH P S = true /\ OM P T = true /\ unc (look P σ S x) = .one (.d (.str s)) /\ s.size <= 9223372036854775807 /\ σ' = σ.put d (.one (.d (.sl 1 (zK s.data.toList)))))
 | _ => ∃ v, Yc P σ o.op o.type v /\ σ' = σ.put d v
def xG (P : Program) (σ : St) (T : TypeId) (x y : Operand) (σ' : St) : Prop :=
 xo P T = true /\ gOf (look P σ 0 x) = true /\ gOf (look P σ T y) = true /\ (unc (look P σ T y)).flat = true /\
  (match unc (look P σ 0 x) with
  | .one (.bptr t c) => ∃ cells, σ.ob t 0 = .box cells /\ (unc (look P σ T y)).cells.length = P.cellsOf T /\ c + P.cellsOf T <= cells.length /\ σ' = σ.YC t 0 (.box (place cells c (unc (look P σ T y)).cells))
  | .one (.ptr t j i c) => ∃ q size rows ds, σ.ob t j = .arr q size rows /\ i < rows.length /\ rowOf σ (unc (look P σ T y)).cells = some ds /\ Kx (unc (look P σ T y)).cells = true /\ ds.length = P.cellsOf T /\ c + P.cellsOf T <= size /\
    (q = true -> ds.all D.scalar = true /\ (cut (rows.getD i []) c (P.cellsOf T)).all D.scalar = true) /\ σ' = σ.YC t j (.arr q size (rows.set i (place (rows.getD i []) c ds)))
  | _ => False)
def qQ (want : Bool) : V -> Option Bool
 | .one (.d (.bool b)) => some (b == want)
 | .cnd g (.one (.d (.bool b))) => some (g && (b == want))
 | .cnd false _ => some false
 | _ => none
def MC (P : Program) (o : Oper) (σ : St) (v : V) : Prop :=
 match o.op with
 | .call c =>
  (match c.callee with
  | .value (.func f) => ∃ own res, Dt P σ c f own [res] /\ v = qL [res]
  | _ => ∃ v0, Yc P σ o.op o.type v0 /\ gOf v0 = true /\ v = unc v0 /\ v.flat = true)
 | _ => ∃ v0, Yc P σ o.op o.type v0 /\ gOf v0 = true /\ v = unc v0 /\ v.flat = true
def XR (P : Program) (ops : Array Oper) (o : Oper) (σ σ' : St) : Prop :=
 match o.guard with
 | none =>
  (match o.dst with
  | some d => Step P o d σ σ'
  | none => (match o.op with | .store T x y => xG P σ T x y σ' | _ => False))
 | some (j, want) => ∃ dj d g v, (ops[j]?).bind (·.dst) = some dj /\ dj < σ.length /\ o.dst = some d /\ qQ want (σ.get dj) = some g /\ (g = true -> MC P o σ v) /\ σ' = σ.put d (.cnd g v)
def SY (P : Program) (ops : Array Oper) (o : Oper) (σ σ' : St) : Prop :=
 ∀ (T0 : CS) (B : Nat -> Prop) (a : Act) (w : World) (K : Act -> World -> Prop) (Q : Exit -> Act -> World -> Prop), KF T0 B σ a w -> (∀ a' w', KF T0 B σ' a' w' -> XI B w w' -> K a' w') ->
  if Region.wanted o (yielded ops a.tmps) then o.wp P a w K Q else K (a.put o.dst undef) w
def XZ (σ : St) (d : Nat) : Bool := match σ[d]? with | some (.any, []) => true | some (.one (.d _), []) => true | _ => false
def MF (o : Oper) (σ σ' : St) : Prop := ∀ d, o.dst ≠ some d -> XZ σ d = true -> XZ σ' d = true
def Uc (o : Oper) : Bool := match o.op with | .store _ _ _ => true | _ => false
def yr (d : Nat) : Operand -> Bool
 | .tmp t => t == d
 | _ => false
def Wr (o : Oper) (d : Nat) : Bool := match o.op with | .store _ p q => !yr d p && !yr d q | _ => false
def MA : V -> Bool
 | .any => true
 | .one (.d _) => true
 | _ => false
def St.KJ : St -> List (Nat × V) -> St
 | σ, [] => σ
 | σ, p :: l => St.KJ (σ.put p.1 p.2) l
def s9 (P : Program) (ops : Array Oper) (o : Oper) (σ σ' : St) : Prop :=
 (σ'.length = σ.length /\ ∀ u, σ'.get u = σ.get u) /\ (∀ l : List (Nat × V), (∀ p ∈ l, Wr o p.1 = true /\ MA p.2 = true) -> SY P ops o (σ.KJ l) (σ'.KJ l) /\ MF o (σ.KJ l) (σ'.KJ l)) /\ ∀ t cells, σ.ob t 0 = .box cells -> σ'.ob t 0 = .box cells
def j8 (o : Oper) : Bool := match o.op with | .call ⟨.builtin .append, _, _⟩ => true | _ => false
theorem E1 {o : Oper} (h : Uc o = true) : j8 o = false := by
 unfold Uc at h
 split at h
 ·rename_i pP; simp [j8, pP]
 ·cases h
def Ml (o : Oper) (d : Nat) : Bool := !(o.op.operands.toList.any (yr d))
def sL (P : Program) (ops : Array Oper) (o : Oper) (σ σ' : St) : Prop :=
 ∃ d, o.dst = some d /\ σ'.length = σ.length /\ (∀ t, t ≠ d -> σ'.get t = σ.get t /\ (σ.get t).ref d = false) /\ (∀ t j cells, t ≠ d -> σ'.ob t j = .box cells -> σ.ob t j = .box cells /\ YU d cells = false) /\
  (∀ t j q s rows, t ≠ d -> σ'.ob t j = .arr q s rows -> ∃ ph, σ.ob t j = .arr q s ph) /\
  ∀ l : List (Nat × V), (∀ p ∈ l, p.1 ≠ d /\ Ml o p.1 = true /\ p.2.ref d = false) -> SY P ops o (σ.KJ l) (σ'.KJ l) /\ MF o (σ.KJ l) (σ'.KJ l)
def sk (P : Program) (t : TypeId) : Bool := match P.underlying t with | some (.pointer _) => true | _ => false
def PR (bar : Oper -> Bool) (o : Oper) : Bool := !bar { o with dst := some 1000000007 }
def sJ (bar : Oper -> Bool) (o : Oper) : Bool := (match o.dst with | some d => bar { o with dst := some (d + 2000000) } | none => false) && PR bar o
def Kj (P : Program) (o : Oper) : Bool := match o.op with | .call ⟨.value (.func _), _, ⟨T :: _⟩⟩ => sk P T | _ => false
def yM (t d : Nat) (cs : List At) (v : V) : Option (List Ob) -> St -> St
 | none, σ => (σ.YC t 0 (.box cs)).put d v
 | some os, σ => (σ.YC t 0 (.box cs)).new d v os
def sV (P : Program) (ops : Array Oper) (o : Oper) (σ σ' : St) : Prop :=
 ∃ d t cells cs v os, o.dst = some d /\ σ.ob t 0 = .box cells /\ (∃ z r, (∃ f ts, o.op = .call ⟨.value (.func f), ⟨z :: r⟩, ts⟩) /\ ∃ ty, unc (look P σ ty z) = .one (.bptr t 0)) /\ (∀ u, YU u cells = false /\ YU u cs = false) /\
  (∀ u, (os = none \/ u ≠ d) -> v.ref u = false /\ ∀ l, os = some l -> Y0 u l = false) /\ (os ≠ none -> (σ.YC t 0 (.box cs)).fresh d = true) /\ σ' = yM t d cs v os σ /\
  ∀ σ2 : St, σ.length = σ2.length -> (∀ z ∈ o.op.operands.toList, ∀ ty, look P σ ty z = look P σ2 ty z) -> (∀ z ∈ o.op.operands.toList, ∀ ty u, (look P σ ty z).ref u = true -> ∀ j, σ.ob u j ≠ .none -> σ2.ob u j = σ.ob u j) -> (os ≠ none -> (σ2.YC t 0 (.box cs)).fresh d = true) ->
   SY P ops o σ2 (yM t d cs v os σ2) /\ MF o σ2 (yM t d cs v os σ2)
theorem CR {P : Program} {o : Oper} (h : Uc o = true) : Kj P o = false := by
 unfold Uc at h
 split at h
 ·rename_i pP; simp [Kj, pP]
 ·cases h
theorem wD {P : Program} {o : Oper} (h : j8 o = true) : Kj P o = false := by
 unfold j8 at h
 split at h
 ·rename_i pP; simp [Kj, pP]
 ·cases h
def Kv (P : Program) (ops : Array Oper) (bar : Oper -> Bool) (o : Oper) (σ σ' : St) : Prop := XR P ops o σ σ' \/ (bar o = true /\ SY P ops o σ σ' /\ MF o σ σ' /\ (Uc o = true -> s9 P ops o σ σ') /\ (j8 o = true -> sL P ops o σ σ') /\ (Kj P o = true -> PR bar o = true -> sV P ops o σ σ'))
def F6 (P : Program) (ops : Array Oper) (bar : Oper -> Bool) : List Oper -> St -> (St -> Prop) -> Prop
 | [], σ, Q => Q σ
 | o :: rest, σ, Q => ∃ σ', Kv P ops bar o σ σ' /\ F6 P ops bar rest σ' Q
section
variable {P : Program} {T0 : CS} {B : Nat -> Prop} {σ : St} {a : Act} {w w' : World} {X X' : Nat -> Prop} {h : Nat -> Nat -> Hd}
theorem P3 (d : Nat) : ∀ (n : Nat) (t : TypeId) (row : List At), ko P n t = some row -> YU d row = false := by
 intro n
 induction n with
 | zero => intro t row hr; simp [ko] at hr
 | succ n ih =>
  intro t row hr
  have dF : ∀ (rs : List (List At)), (∀ r ∈ rs, YU d r = false) -> YU d rs.flatten = false := by
   intro rs mE
   have app : ∀ (xs ys : List At), YU d xs = false -> YU d ys = false -> YU d (xs ++ ys) = false := by
    intro xs ys hx hy
    induction xs with
    | nil => exact hy
    | cons x xs gr => simp only [List.cons_append, YU, Bool.or_eq_false_iff] at hx ⊢; exact ⟨hx.1, gr hx.2⟩
   induction rs with
   | nil => rfl
   | cons r rs gr => rw [List.flatten_cons]; exact app _ _ (mE r (by simp)) (gr (fun r hr => mE r (by simp [hr])))
  rw [ko] at hr
  split at hr
  ·cases hr; rfl
  ·cases hr; rfl
  ·cases hr; rfl
  ·cases hr; rfl
  ·rename_i fs _
   simp only [Option.map_eq_some_iff] at hr
   obtain ⟨rs, mE, rfl⟩ := hr
   refine dF rs ?_
   have : ∀ (l : List Field) (rs : List (List At)), l.mapM (fun f => ko P n f.type) = some rs -> ∀ r ∈ rs, YU d r = false := by
    intro l
    induction l with
    | nil => intro rs hh r hr; simp at hh; subst hh; cases hr
    | cons f l gr =>
     intro rs hh r hr
     simp only [List.mapM_cons, Option.bind_eq_bind, Option.bind_eq_some_iff] at hh
     obtain ⟨r0, mb, ec, fX, hh⟩ := hh
     simp at hh; subst hh
     rcases List.mem_cons.1 hr with rfl | hr
     ·exact ih f.type _ mb
     ·exact gr ec fX r hr
   exact this fs.toList rs mE
  ·simp only [Option.map_eq_some_iff] at hr
   obtain ⟨r0, mb, rfl⟩ := hr
   exact dF _ (fun r hr => by rw [List.eq_of_mem_replicate hr]; exact ih _ _ mb)
  ·cases hr
theorem V9 {o : Oper} {d : Nat} {v : V} (r : Rel T0 B σ a w X h) (hd : o.dst = some d) (hex : ∃ val, (execOp a.eval o).run P w = .ok (.value val) w /\ Qy (Tof T0 X) h σ.ob w v val)
  {K : Act -> World -> Prop} {Q : Exit -> Act -> World -> Prop} (hK : ∀ a' w', KF T0 B (σ.put d v) a' w' -> XI B w w' -> K a' w') : o.wp P a w K Q := by
 obtain ⟨val, pq, hv⟩ := hex
 unfold Oper.wp
 rw [pq, Oper.upon_value, hd]
 exact hK _ _ ⟨X, h, r.put d v val hv⟩ (XI.refl _ _)
theorem Cy (r : Rel T0 B σ a w X h) {o : Oper} {d : Nat} {σ' : St} (hd : o.dst = some d) (hs : Step P o d σ σ') {K : Act -> World -> Prop} {Q : Exit -> Act -> World -> Prop}
  (hK : ∀ a' w', KF T0 B σ' a' w' -> XI B w w' -> K a' w') : o.wp P a w K Q := by
 have nD : (∃ v, Yc P σ o.op o.type v /\ σ' = σ.put d v) -> o.wp P a w K Q := by
  rintro ⟨v, hv, rfl⟩
  exact V9 r hd (Mn r hv) hK
 unfold Step at hs
 split at hs
 ·rename_i T pP
  obtain ⟨hf, hz, row, oC, rfl⟩ := hs
  exact Dn r pP hd hf hz oC (P3 d _ _ _ oC) hK
 ·rename_i T x pP
  obtain ⟨hf, hg, nJ, hr, rfl⟩ := hs
  exact AA r pP hd hf hg nJ hr hK
 ·rename_i T n parts pP
  rcases hs with ⟨hf, h1, h2, h3, h4, h5, ⟨rows, h6, rfl⟩ | ⟨rows, h6, h7, rfl⟩⟩ | ⟨⟨h1, h2, h3, h4, h5⟩, rows, h6, rfl⟩
  ·exact Nm r pP hd hf h1 h2 h3 h4 h5 h6 hK
  ·exact RC r pP hd hf h1 h2 h3 h4 h5 h6 h7 hK
  ·exact Eb r pP hd h1 h2 h3 h4 h5 h6 hK
 ·rename_i T x y pP
  obtain ⟨rfl, hf, h1, h2, h3, q, z, zr, k, n, hq, h4, h5, h6, h7, h8, rfl⟩ := hs
  cases q with
  | false => exact LX r pP hd hf h1 h2 h4 h5 h3 h6 h7 h8 hK
  | true => exact IJ r pP hd hf h1 h2 h4 h5 (hq rfl) h3 h6 h7 h8 hK
 ·rename_i c pP
  split at hs
  ·rename_i hc
   obtain ⟨x, y, t, ha, mI, h1, h2, h3, h4, h5, pW, news, σ1, h6, h7, h8, h9, ia, rfl⟩ := hs
   refine F3 r (t := t) (x := x) (y := y) ?_ hd h1 h2 h3 h4 h5 h6 h7 h8 h9 ia hK
   rw [pP]
   obtain ⟨cc, ca, ct⟩ := c
   simp only at hc ha mI
   rw [hc, ha, mI]
  ·rename_i f hc
   rcases hs with ⟨own, res, ⟨rows, ha, hs, oY⟩, rfl⟩ | ⟨res, ⟨rows, ha, hs, oY⟩, hf, rfl⟩ | ⟨rows, res, qs, ha, hs, hq, hf, rfl⟩
   ·rcases oY with oY | oY
    ·exact Ws r pP hc hd ha true (fun _ => oY) (fun hh => by cases hh) hs hK
    ·exact Ws r pP hc hd ha false (fun hh => by cases hh) (fun _ => oY) hs hK
   ·rcases oY with oY | oY
    ·exact PC r pP hc hd hf ha true (fun _ => oY) (fun hh => by cases hh) hs hK
    ·exact PC r pP hc hd hf ha false (fun hh => by cases hh) (fun _ => oY) hs hK
   ·exact CH r qs pP hc hd hf ha hs hq hK
  ·exact nD hs
 ·rename_i S T x pP
  rcases hs with hs | ⟨l, h1, h2, h3, h4, rfl⟩ | ⟨s, h1, h2, h3, h4, h5, rfl⟩
  ·exact nD hs
  ·exact V9 r hd (Rn r pP h1 h2 h3 h4) hK
  ·exact Rv r pP hd h1 h2 h3 h4 h5 hK
 ·exact nD hs
theorem EM (r : Rel T0 B σ a w X h) {o : Oper} {T : TypeId} {x y : Operand} {σ' : St} (pP : o.op = .store T x y) (hd : o.dst = none) (hs : xG P σ T x y σ') {K : Act -> World -> Prop} {Q : Exit -> Act -> World -> Prop}
  (hK : ∀ a' w', KF T0 B σ' a' w' -> XI B w w' -> K a' w') : o.wp P a w K Q := by
 obtain ⟨ht, lu, lv, nJ, hs⟩ := hs
 split at hs
 ·rename_i t c hx
  obtain ⟨cells, ho, hl, hle, rfl⟩ := hs
  exact HX r pP hd ht lu lv hx ho nJ hl hle hK
 ·rename_i t j i c hx
  obtain ⟨q, size, rows, ds, ho, hi, iK, pt, hl, hle, hq, rfl⟩ := hs
  refine I3 r pP hd ht lu lv hx ho hi nJ iK pt hl hle (fun hh => ⟨fun d pd => ?_, fun k d hk pd => ?_⟩) hK
  ·exact List.all_eq_true.1 (hq hh).1 d pd
  ·refine List.all_eq_true.1 (hq hh).2 d (List.mem_of_getElem? (i := k) ?_)
   simp only [cut, List.getElem?_take, if_pos hk, List.getElem?_drop]; exact pd
 ·exact hs.elim
theorem Mi {T : CS} {ob : Nat -> Nat -> Ob} {v : V} {val : Value} (hf : (unc v).flat = true) (hv : Qy T h ob w (unc v) val) : Kp T h ob w (unc v) val := by
 cases hu : unc v with
 | one x => rw [hu] at hv; exact hv
 | agg xs => rw [hu] at hv; exact hv
 | any => rw [hu] at hf; cases hf
 | tup xs => rw [hu] at hf; cases hf
 | cnd g x => rw [hu] at hf; cases hf
 | fix u x => rw [hu] at hf; cases hf
theorem CO (r : Rel T0 B σ a w X h) {ops : Array Oper} {o : Oper} {j dj : Nat} {want g : Bool} (lK : o.guard = some (j, want)) (nI : (ops[j]?).bind (·.dst) = some dj) (pa : dj < σ.length) (hg : qQ want (σ.get dj) = some g) :
  Region.wanted o (yielded ops a.tmps) = g := by
 have oy : dj < a.tmps.size := by rw [r.size]; exact pa
 have hv := r.slot dj pa
 have dG : a.tmps.getD dj undef = a.tmps[dj] := by simp [oy]
 rw [dG] at hv
 have hy : yielded ops a.tmps j = (match a.tmps[dj] with | .bool b => some b | _ => none) := by
  unfold yielded
  rw [nI]
  simp only [Option.bind_some, Array.getElem?_eq_getElem oy]
  cases a.tmps[dj] <;> rfl
 simp only [Region.wanted, lK, hy]
 unfold qQ at hg
 split at hg
 ·rename_i b e9
  rw [e9] at hv
  rw [jU hv]
  cases hg
  cases b <;> cases want <;> rfl
 ·rename_i g0 b e9
  rw [e9] at hv
  cases hg
  cases g0 with
  | true =>
   rw [jU (hv.1 rfl)]
   cases b <;> cases want <;> rfl
  | false =>
   rw [hv.2 rfl]
   simp [undef]
 ·rename_i e9
  rw [e9] at hv
  cases hg
  rw [hv.2 rfl]
  simp [undef]
 ·cases hg
theorem CJ (r : Rel T0 B σ a w X h) {ops : Array Oper} {o : Oper} {σ' : St} (hs : XR P ops o σ σ') {K : Act -> World -> Prop} {Q : Exit -> Act -> World -> Prop}
  (hK : ∀ a' w', KF T0 B σ' a' w' -> XI B w w' -> K a' w') : if Region.wanted o (yielded ops a.tmps) then o.wp P a w K Q else K (a.put o.dst undef) w := by
 unfold XR at hs
 split at hs
 ·rename_i hg
  have hw : Region.wanted o (yielded ops a.tmps) = true := by simp [Region.wanted, hg]
  rw [if_pos hw]
  split at hs
  ·rename_i d hd; exact Cy r hd hs hK
  ·rename_i hd
   split at hs
   ·rename_i T x y pP; exact EM r pP hd hs hK
   ·exact hs.elim
 ·rename_i j want hg
  obtain ⟨dj, d, g, v, nI, pa, hd, nP, hs, rfl⟩ := hs
  rw [CO r hg nI pa nP]
  cases g with
  | false =>
   simp only [Bool.false_eq_true, if_false]
   rw [hd]
   exact hK _ _ ⟨X, h, r.put d _ _ ⟨(fun hh => by cases hh), fun _ => rfl⟩⟩ (XI.refl _ _)
  | true =>
   simp only [if_true]
   have oV := hs rfl
   clear hs
   have nD : (∃ v0, Yc P σ o.op o.type v0 /\ gOf v0 = true /\ v = unc v0 /\ v.flat = true) -> o.wp P a w K Q := by
    rintro ⟨v0, gi, dA, rfl, nJ⟩
    obtain ⟨val, pq, hv⟩ := Mn r gi
    refine V9 (v := .cnd true (unc v0)) r hd ⟨val, pq, ⟨fun _ => Mi nJ (hv.unc dA), fun hh => by cases hh⟩⟩ hK
   unfold MC at oV
   split at oV
   ·rename_i c pP
    split at oV
    ·rename_i f hc
     obtain ⟨own, res, ⟨rows, ha, hs, oY⟩, rfl⟩ := oV
     have fin : ∀ a' w', KF T0 B (σ.put d (qL [res])) a' w' -> XI B w w' -> K a' w' := by
      rintro a' w' ⟨X', h', r'⟩ hb
      refine hK a' w' ⟨X', h', ?_⟩ hb
      refine ⟨by rw [r'.size, St.Q0, St.Q0], r'.defers, r'.hB, r'.hX, r'.hT, fun t ht => ?_, fun t j => ?_, fun t j b => ?_, fun t j b => ?_, fun t j t' j' b => ?_⟩
      ·rw [St.Q0] at ht
       have h0 := r'.slot t (by rw [St.Q0]; exact ht)
       rw [St.Q7] at h0 ⊢
       rw [St.K4] at h0 ⊢
       by_cases hh : t = d /\ d < σ.length
       ·rw [if_pos hh] at h0 ⊢
        refine ⟨fun _ => ?_, fun hh => by cases hh⟩
        have nJ : (unc (vOf (res.map At.d))).flat = true := by
         match res.map At.d with
         | [] => rfl
         | [x] => rfl
         | x :: y :: xs => rfl
        have hu : unc (vOf (res.map At.d)) = vOf (res.map At.d) := by
         match res.map At.d with
         | [] => rfl
         | [x] => rfl
         | x :: y :: xs => rfl
        have := Mi (v := vOf (res.map At.d)) nJ (by rw [hu]; exact h0)
        rw [hu] at this; exact this
       ·rw [if_neg hh] at h0 ⊢; exact h0
      ·have := r'.obj t j; rw [St.Q7] at this ⊢; exact this
      ·have := r'.ub t j b; rw [St.Q7] at this ⊢; exact this
      ·have := r'.own t j b; rw [St.Q7] at this ⊢; exact this
      ·have := r'.inj t j t' j' b; rw [St.Q7] at this ⊢; exact this
     rcases oY with oY | oY
     ·exact Ws r pP hc hd ha true (fun _ => oY) (fun hh => by cases hh) hs fin
     ·exact Ws r pP hc hd ha false (fun hh => by cases hh) (fun _ => oY) hs fin
    ·exact nD oV
   ·exact nD oV
theorem Sc {ops : Array Oper} {bar : Oper -> Bool} {o : Oper} {σ' : St} (hs : Kv P ops bar o σ σ') : SY P ops o σ σ' := by
 rcases hs with hs | hs
 ·rintro T0 B a w K Q ⟨X, h, r⟩ hK
  exact CJ r hs hK
 ·exact hs.2.1
theorem IG {ops : Array Oper} {bar : Oper -> Bool} : ∀ {l : List Oper} {σ : St} {a : Act} {w : World} {Q : St -> Prop} {Q' : Exit -> Act -> World -> Prop}, F6 P ops bar l σ Q -> KF T0 B σ a w ->
  (∀ σ' a' w', Q σ' -> KF T0 B σ' a' w' -> XI B w w' -> Q' .normal a' w') -> wpList P ops Q' l a w
 | [], σ, a, w, Q, Q', hr, nF, hK => hK σ a w hr nF (XI.refl _ _)
 | o :: l, σ, a, w, Q, Q', ⟨σ', hs, hr⟩, nF, hK => by
  refine wpList_step fun K hKK => ?_
  exact Sc hs _ _ _ _ _ _ nF (fun a' w' nF hb => hKK _ _ (IG hr nF (fun σ2 a2 w2 hq iw oK => hK σ2 a2 w2 hq iw (hb.trans oK))))
end
end Go.Vm
namespace Go.Vm
open Go.RowKit
def AWP (P : Program) (c : Code) (Q : Exit -> St -> Prop) (σ : St) : Prop :=
 ∀ (T0 : CS) (B : Nat -> Prop) (a : Act) (w : World), KF T0 B σ a w -> c.wp P (fun e a' w' => ∃ σ', Q e σ' /\ KF T0 B σ' a' w' /\ XI B w w') a w
def Wk (σ σ' : St) : Prop := ∀ (T0 : CS) (B : Nat -> Prop) (a : Act) (w : World), KF T0 B σ a w -> KF T0 B σ' a w
def HC (next : St -> Prop) (Q : Exit -> St -> Prop) : Exit -> St -> Prop
 | .normal, σ => next σ
 | e, σ => Q e σ
def S8 (id : Nat) (Q : Exit -> St -> Prop) : Exit -> St -> Prop
 | .exit fY, σ => if fY = id then Q .normal σ else Q (.exit fY) σ
 | e, σ => Q e σ
section
variable {P : Program} {Q : Exit -> St -> Prop} {σ : St}
theorem Wk.refl (σ : St) : Wk σ σ := fun _ _ _ _ h => h
theorem Wk.trans {σ σ' σ'' : St} (h : Wk σ σ') (k : Wk σ' σ'') : Wk σ σ'' := fun _ _ _ _ r => k _ _ _ _ (h _ _ _ _ r)
theorem DS {c : Code} {Q' : Exit -> St -> Prop} (h : ∀ e σ, Q e σ -> Q' e σ) (k : AWP P c Q σ) : AWP P c Q' σ :=
 fun T0 B a w r => wp_mono (k T0 B a w r) fun e _ _ ⟨σ', hq, hr⟩ => ⟨σ', h e σ' hq, hr⟩
theorem vS (h : Q .normal σ) : AWP P .skip Q σ := fun _ B _ w r => wp_skip ⟨σ, h, r, XI.refl B w⟩
theorem vR {id : Nat} (h : Q (.exit id) σ) : AWP P (.exit id) Q σ := fun _ B _ w r => wp_exit ⟨σ, h, r, XI.refl B w⟩
theorem uA (h : Q .ret σ) : AWP P .ret Q σ := fun _ B _ w r => wp_ret ⟨σ, h, r, XI.refl B w⟩
theorem BC {id : Nat} {l : List Oper} {bar : Oper -> Bool} (h : F6 P l.toArray bar l σ (Q .normal)) : AWP P (.region id l.toArray false) Q σ :=
 fun _ _ _ _ r => wp_region_lit (IG h r fun σ' _ _ hq hr hb => ⟨σ', hq, hr, hb⟩)
theorem v8 {x y : Code} (h : AWP P x (HC (AWP P y Q) Q) σ) : AWP P (.seq x y) Q σ := by
 intro T0 B a w r
 refine wp_seq (wp_mono (h T0 B a w r) ?_)
 rintro e a' w' ⟨σ', hq, hr, hb⟩
 cases e with
 | normal => exact wp_mono (hq T0 B a' w' hr) fun e _ _ ⟨σ2, h1, h2, h3⟩ => ⟨σ2, h1, h2, hb.trans h3⟩
 | exit id => exact ⟨σ', hq, hr, hb⟩
 | goto l => exact ⟨σ', hq, hr, hb⟩
 | ret => exact ⟨σ', hq, hr, hb⟩
 | panic ch => exact ⟨σ', hq, hr, hb⟩
 | outgrown => exact ⟨σ', hq, hr, hb⟩
theorem vJ {c : Operand} {x y : Code} {b : Bool} (hc : look P σ 0 c = .one (.d (.bool b))) (ht : b = true -> AWP P x Q σ) (hf : b = false -> AWP P y Q σ) : AWP P (.cond c x y) Q σ := by
 intro T0 B a w r
 obtain ⟨X, h, rr⟩ := r
 have hv := rr.look (P := P) 0 c
 rw [hc] at hv
 exact wp_cond_split (jU hv) (fun hb => ht hb T0 B a w ⟨X, h, rr⟩) (fun hb => hf hb T0 B a w ⟨X, h, rr⟩)
theorem Ah {id : Nat} {c : Code} (h : AWP P c (S8 id Q) σ) : AWP P (.block id c) Q σ := by
 intro T0 B a w r
 refine wp_block (wp_mono (h T0 B a w r) ?_)
 rintro e a' w' ⟨σ', hq, hr, hb⟩
 cases e with
 | exit fY =>
  simp only [S8] at hq
  simp only [Exit.inBlock]
  split at hq
  ·rename_i hh; rw [if_pos hh]; exact ⟨σ', hq, hr, hb⟩
  ·rename_i hh; rw [if_neg hh]; exact ⟨σ', hq, hr, hb⟩
 | normal => exact ⟨σ', hq, hr, hb⟩
 | goto l => exact ⟨σ', hq, hr, hb⟩
 | ret => exact ⟨σ', hq, hr, hb⟩
 | panic ch => exact ⟨σ', hq, hr, hb⟩
 | outgrown => exact ⟨σ', hq, hr, hb⟩
theorem Vq {c : Code} {ι : Type} (S : ι -> St) (μ : ι -> Nat) (i0 : ι) (h0 : Wk σ (S i0))
  (round : ∀ i, AWP P c (HC (fun σ' => ∃ i', μ i' < μ i /\ Wk σ' (S i')) Q) (S i)) : AWP P (.loop c) Q σ := by
 intro T0 B a w r b k cs
 have key : ∀ n i a w, μ i = n -> KF T0 B (S i) a w ->
   ∃ e a' w', (∃ σ', Q e σ' /\ KF T0 B σ' a' w' /\ XI B w w') /\ Arrives P (lone (b.at a (.code c :: .inLoop c :: k)) cs w) b k cs e a' w' := by
  intro n
  induction n using Nat.strongRecOn with
  | _ n ih =>
   intro i a w hn hr
   obtain ⟨e, a₁, w₁, ⟨σ₁, hq, ed, ee⟩, o8⟩ := round i T0 B a w hr b (.inLoop c :: k) cs
   cases e with
   | normal =>
    obtain ⟨i', pa, hwk⟩ := hq
    obtain ⟨e₂, a₂, w₂, ⟨σ₂, hq₂, hr₂, hb₂⟩, dB⟩ := ih (μ i') (hn ▸ pa) i' a₁ w₁ rfl (hwk T0 B a₁ w₁ ed)
    exact ⟨e₂, a₂, w₂, ⟨σ₂, hq₂, hr₂, ee.trans hb₂⟩, .of_steps (Steps.trans o8 (.one step_inLoop)) dB⟩
   | exit id => exact ⟨_, a₁, w₁, ⟨σ₁, hq, ed, ee⟩, .pass (x := .inLoop c) rfl (fun _ _ => .inl (by simp)) o8⟩
   | goto l => exact ⟨_, a₁, w₁, ⟨σ₁, hq, ed, ee⟩, .pass (x := .inLoop c) rfl (fun _ _ => .inl (by simp)) o8⟩
   | ret => exact ⟨_, a₁, w₁, ⟨σ₁, hq, ed, ee⟩, .pass (x := .inLoop c) rfl (fun _ _ => .inl (by simp)) o8⟩
   | panic ch => exact ⟨_, a₁, w₁, ⟨σ₁, hq, ed, ee⟩, .pass (x := .inLoop c) rfl (fun _ _ => .inl (by simp)) o8⟩
   | outgrown => exact ⟨_, a₁, w₁, ⟨σ₁, hq, ed, ee⟩, .pass (x := .inLoop c) rfl (fun _ _ => .inl (by simp)) o8⟩
 obtain ⟨e, a', w', hq, o8⟩ := key _ i0 a w rfl (h0 T0 B a w r)
 exact ⟨e, a', w', hq, .of_steps (.one step_loop) o8⟩
end
/-! ### entering a function, and leaving it -/
def Pl : List (List D) -> St
 | [] => []
 | r :: rs => (vOf (r.map .d), []) :: Pl rs
def jQ (n : Nat) (args : List (List D)) : St := Pl args ++ List.replicate (n - args.length) (V.any, [])
def L6 (P : Program) (σ : St) : ResultVar -> List At -> Prop
 | .tmp t, xs => (σ.get t = vOf xs) /\ t < σ.length
 | .cell t T, xs => ∃ u c cells, σ.get t = .one (.bptr u c) /\ σ.ob u 0 = .box cells /\ xo P T = true /\ Um P T = true /\ P.cellsOf T ≠ 1 /\ c + P.cellsOf T <= cells.length /\ xs = cut cells c (P.cellsOf T)
def TT (P : Program) (σ : St) : List ResultVar -> List (List At) -> Prop
 | [], ox => ox = []
 | r :: rs, ox => ∃ xs rest, L6 P σ r xs /\ TT P σ rs rest /\ ox = xs :: rest
def kI (σ : St) : List (List At) -> Option (List (List D))
 | [] => some []
 | xs :: rest => (match rowOf σ xs, kI σ rest with | some r, some rs => some (r :: rs) | _, _ => none)
def jT (σ : St) : At -> Option D
 | .d (.sl _ _) => none
 | .d x => some x
 | .nil s => some (.sl s [])
 | .sref t j lo len => (match σ.ob t j with | .arr false size rows => if lo = 0 /\ len = rows.length then some (.sl size rows) else none | _ => none)
 | _ => none
def ownRow (σ : St) : List At -> Option (List D)
 | [] => some []
 | x :: xs => (match jT σ x, ownRow σ xs with | some d, some ds => some (d :: ds) | _, _ => none)
def UD (σ : St) : List (List At) -> Option (List (List D))
 | [] => some []
 | xs :: rest => (match ownRow σ xs, UD σ rest with | some r, some rs => some (r :: rs) | _, _ => none)
def Dx (P : Program) (fn : Func) (own : Bool) (res : List (List D)) (e : Exit) (σ : St) : Prop :=
 (e = .ret \/ e = .normal) /\ ∃ ox, TT P σ fn.results.toList ox /\ (if own then UD σ ox = some res /\ (Yv ox.flatten).Nodup else kI σ ox = some res)
def AI (P : Program) (fn : Func) (res : List (List D)) (e : Exit) (σ : St) : Prop :=
 (e = .ret \/ e = .normal) /\ ∃ ox, TT P σ fn.results.toList ox /\ KR σ ox = some res /\ Jv σ ox /\ (Yv ox.flatten).Nodup
end Go.Vm
namespace Go.Vm
open Go.RowKit
section
variable {P : Program} {T0 : CS} {B : Nat -> Prop} {σ : St} {a : Act} {w w' : World} {X X' : Nat -> Prop} {h : Nat -> Nat -> Hd}
theorem Sn : ∀ (args : List (List D)) (t : Nat), (Pl args)[t]? = (args[t]?).map fun r => (vOf (r.map .d), [])
 | [], t => by simp [Pl]
 | r :: rs, 0 => by simp [Pl]
 | r :: rs, t + 1 => by simpa [Pl] using Sn rs t
theorem JB (args : List (List D)) : (Pl args).length = args.length := by
 induction args with
 | nil => rfl
 | cons r rs ih => simp [Pl, ih]
theorem IB {T : CS} {n : Nat} {args : List (List D)} {oF : List Value} (hT : ∀ b k, T b k -> b < w.heap.size) (ha : YB (fun v row => ∃ cs, yC v cs /\ YB (Rd T w) cs row) oF args) :
  KF T (fun b => b < w.heap.size) (jQ n args) { tmps := oF.toArray ++ Array.replicate (n - oF.toArray.size) undef, defers := [] } w := by
 have hl := ha.length
 refine ⟨fun _ => False, fun _ _ => Hd.of undef, ?_⟩
 have pr : ∀ t j, (jQ n args).ob t j = .none := by
  intro t j
  unfold St.ob jQ
  rcases Nat.lt_or_ge t args.length with h | h
  ·rw [List.getElem?_append_left (by rw [JB]; exact h), Sn, List.getElem?_eq_getElem h]
   simp [Yo]
  ·rw [List.getElem?_append_right (by rw [JB]; exact h), List.getElem?_replicate]
   split
   ·rename_i e he
    split at he
    ·cases he; simp [Yo]
    ·cases he
   ·rfl
 have hD : ∀ b k v, T b k -> w.cell? ⟨b, k, none⟩ = some v -> w.cell? ⟨b, k, none⟩ = some v /\ Tof T (fun _ => False) b k := fun b k v hb hc => ⟨hc, .inl hb⟩
 refine ⟨by simp [jQ, JB, hl], rfl, (fun b hb => hb), (fun b hb => hb.elim), hT, fun t ht => ?_, fun t j => by rw [pr]; trivial, fun t j b pS => absurd (pr t j) pS, fun t j b pS => absurd (pr t j) pS, fun t j t' j' b pS => absurd (pr t j) pS⟩
 unfold St.get jQ
 rcases Nat.lt_or_ge t args.length with pa | mY
 ·rw [List.getElem?_append_left (by rw [JB]; exact pa), Sn, List.getElem?_eq_getElem pa]
  obtain ⟨v, hv, cs, hf, pV⟩ := ha.get' t args[t] (List.getElem?_eq_getElem pa)
  have nv : (oF.toArray ++ Array.replicate (n - oF.toArray.size) undef).getD t undef = v := by
   rw [Array.getD_eq_getD_getElem?, Array.getElem?_append_left (by simp; omega)]
   simp [hv]
  simp only [nv]
  exact (Lg hf (W4 (pV.imp fun _ _ => Rd.mono hD))).up
 ·rw [List.getElem?_append_right (by rw [JB]; exact mY), List.getElem?_replicate]
  split
  ·rename_i e he
   split at he
   ·cases he; trivial
   ·cases he
  ·trivial
theorem vh {T : CS} {ob : Nat -> Nat -> Ob} {xs : List At} {v : Value} (hv : Qy T h ob w (vOf xs) v) : ∃ cs, yC v cs /\ YB (YO T h ob w) xs cs := by
 match xs, hv with
 | [], hv =>
  obtain ⟨cs, rfl, pV⟩ := hv
  exact ⟨cs.toList, .inr ⟨by rw [<- pV.length]; simp, by simp⟩, pV⟩
 | [x], hv => exact ⟨[v], .inl ⟨v, rfl, rfl, YO.QN hv⟩, .cons hv .nil⟩
 | x :: y :: xs, hv =>
  obtain ⟨cs, rfl, pV⟩ := hv
  exact ⟨cs.toList, .inr ⟨by rw [<- pV.length]; simp, by simp⟩, pV⟩
theorem BV (r : Rel T0 B σ a w X h) : ∀ {rs : List ResultVar} {ox : List (List At)}, TT P σ rs ox ->
  ∃ vs oB, (rs.mapM (m := Sem) fun | .tmp t => pure (a.tmps.getD t undef) | .cell u t => do loadVar t (<- asAddr (a.tmps.getD u undef))).run P w = .ok vs w /\ YB yC vs oB /\ YB (fun xs cs => YB (YO (Tof T0 X) h σ.ob w) xs cs) ox oB
 | [], ox, hr => by cases hr; exact ⟨[], [], by simp, .nil, .nil⟩
 | rv :: rs, ox, hr => by
  obtain ⟨xs, rest, h1, h2, rfl⟩ := hr
  obtain ⟨vs, oB, pq, hf, pV⟩ := BV r h2
  have one : ∃ v cs, (match rv with | .tmp t => (pure (a.tmps.getD t undef) : Sem Value) | .cell u t => do loadVar t (<- asAddr (a.tmps.getD u undef))).run P w = .ok v w /\ yC v cs /\ YB (YO (Tof T0 X) h σ.ob w) xs cs := by
   cases rv with
   | tmp t =>
    obtain ⟨hg, pa⟩ := h1
    have hv := r.slot t pa
    rw [hg] at hv
    obtain ⟨cs, hf, pV⟩ := vh hv
    exact ⟨_, cs, by simp, hf, pV⟩
   | cell t T =>
    obtain ⟨u, c, cells, hg, ho, nZ, lB, pS, hle, rfl⟩ := h1
    have hv := r.get t
    rw [hg] at hv
    obtain ⟨b, cs, e, hb, he, hh, pV⟩ := r.box ho hv
    have hlen := pV.length
    obtain ⟨val, hld, bL, _⟩ := wc (P := P) (w := w) nZ (b := b) (off := c) (cs := cut cs.toList c (P.cellsOf T)) (Qj _ _ _ (by omega)) (fun j u hu => y0 hh _ _ (qg _ _ _ _ _ hu))
    refine ⟨val, cut cs.toList c (P.cellsOf T), ?_, .inr ⟨by rw [Qj _ _ _ (by omega)]; exact pS, bL lB⟩, pV.cut _ _⟩
    simp only [Instr.loadAt, Instr.sureAddr, Sem.run_bind, Sem.run_pure, Result.andThen_ok] at hld
    simp only [he, asAddr, Sem.run_bind, Sem.run_pure, Result.andThen_ok]
    exact hld
  obtain ⟨v, cs, dC, hf1, bM⟩ := one
  refine ⟨v :: vs, cs :: oB, ?_, .cons hf1 hf, .cons bM pV⟩
  simp only [List.mapM_cons, Sem.run_bind, dC, Result.andThen_ok, pq, Sem.run_pure]
theorem WO (r : Rel T0 B σ a w X h) {fn : Func} {ox : List (List At)} (hr : TT P σ fn.results.toList ox) :
  ∃ vs oB, (results fn a.tmps).run P w = .ok (Sw vs) w /\ YB yC vs oB /\ YB (fun xs cs => YB (YO (Tof T0 X) h σ.ob w) xs cs) ox oB := by
 obtain ⟨vs, oB, pq, hf, pV⟩ := BV r hr
 refine ⟨vs, oB, ?_, hf, pV⟩
 unfold results
 rw [Array.mapM_eq_mapM_toList]
 change ((((fn.results.toList.mapM (m := Sem) fun | .tmp t => pure (a.tmps.getD t undef) | .cell u t => do loadVar t (<- asAddr (a.tmps.getD u undef))) >>= fun l => pure l.toArray) >>= fun (vs : Array Value) => pure (if h : vs.size = 1 then vs[0] else .tuple vs))).run P w = _
 simp only [Sem.run_bind, pq, Result.andThen_ok, Sem.run_pure]
 congr 1
 match vs with
 | [] => rfl
 | [v] => rfl
 | v :: v' :: vs => simp [Sw]
theorem TF (r : Rel T0 B σ a w X h) {T : CS} (hT : ∀ b k, Ps T0 X h σ b k -> T b k) : ∀ {ox : List (List At)} {oB : List (List Value)} {res : List (List D)}, kI σ ox = some res -> YB (fun xs cs => YB (YO (Tof T0 X) h σ.ob w) xs cs) ox oB ->
  YB (fun cs row => YB (qC false T w) cs row) oB res
 | [], oB, res, hr, pV => by cases pV; simp [kI] at hr; subst hr; exact .nil
 | xs :: ox, oB, res, hr, pV => by
  cases pV with
  | cons h1 pV =>
   simp only [kI] at hr
   split at hr
   ·rename_i row rs oC mE
    cases hr
    refine .cons ?_ (TF r hT mE pV)
    have := r.rowOf false oC h1 (fun hh => by cases hh)
    refine this.imp fun v d hd => ?_
    simp only [qC, Bool.false_eq_true, if_false] at hd ⊢
    exact Rd.mono (fun b k v hb hc => ⟨hc, hT b k hb⟩) hd
   ·cases hr
theorem Ix : ∀ {xs : List At} {ds : List D}, ownRow σ xs = some ds -> YB (fun x d => jT σ x = some d) xs ds
 | [], ds, hr => by simp [ownRow] at hr; subst hr; exact .nil
 | x :: xs, ds, hr => by
  simp only [ownRow] at hr
  split at hr
  ·rename_i d iZ h1 h2; cases hr; exact .cons h1 (Ix h2)
  ·cases hr
theorem MX : ∀ {ox : List (List At)} {res : List (List D)}, UD σ ox = some res -> YB (fun xs row => YB (fun x d => jT σ x = some d) xs row) ox res
 | [], res, hr => by simp [UD] at hr; subst hr; exact .nil
 | xs :: ox, res, hr => by
  simp only [UD] at hr
  split at hr
  ·rename_i d iZ h1 h2; cases hr; exact .cons (Ix h1) (MX h2)
  ·cases hr
theorem TU (r : Rel T0 B σ a w X h) {x : At} {d : D} {v : Value} (hx : jT σ x = some d) (hv : YO (Tof T0 X) h σ.ob w x v) : Jt (Tof T0 X) w v d /\ (∀ b, d.scalar = false -> blk v = some b -> ∃ t j lo len, x = .sref t j lo len /\ σ.ob t j ≠ .none /\ (h t j).u b) := by
 cases x with
 | d x =>
  cases x with
  | sl s rows => simp [jT] at hx
  | int k n => simp [jT] at hx; subst hx; exact ⟨hv, fun b hb => by cases hb⟩
  | bool b => simp [jT] at hx; subst hx; exact ⟨hv, fun b hb => by cases hb⟩
  | str s => simp [jT] at hx; subst hx; exact ⟨hv, fun b hb => by cases hb⟩
  | unk => simp [jT] at hx; subst hx; exact ⟨hv, fun b hb => by cases hb⟩
 | nil s =>
  simp [jT] at hx; subst hx
  cases hv
  exact ⟨⟨0, [], World.ownsRow_nil w 0 0 s, (by intro q hq; cases hq), .nil⟩, fun b _ hb => by cases hb⟩
 | sref t j lo len =>
  simp only [jT] at hx
  split at hx
  ·rename_i size rows ho
   split at hx
   ·rename_i hc
    obtain ⟨rfl, rfl⟩ := hc
    cases hx
    obtain ⟨_, nf, _⟩ := hv.2.1 _ size rows ho
    have he := nf rfl rfl
    have h0 := r.obj t j
    have oo := r.ub t j
    rw [ho] at h0 oo
    refine ⟨by rw [he]; exact h0, fun b _ hb => ⟨t, j, 0, rows.length, rfl, by rw [ho]; simp, oo b (by simp) (by rw [<- he]; exact hb)⟩⟩
   ·cases hx
  ·cases hx
 | any => simp [jT] at hx
 | ptr => simp [jT] at hx
 | bptr => simp [jT] at hx
 | fn => simp [jT] at hx
 | rptr => simp [jT] at hx
 | tref => simp [jT] at hx
theorem EN {f : FuncId} {fn : Func} {c : Code} (hf : P.funcs[f]? = some fn) (hb : fn.body = some c) (po : Ua P f = true) {own : Bool} {args res : List (List D)}
  (hw : AWP P c (Dx P fn own res) (jQ fn.ntmps args)) : Ql P f own args res := by
 refine ⟨po, fun T w oF hT pX => calls_of_wp hf hb ?_⟩
 refine wp_mono (hw T (fun b => b < w.heap.size) _ w (IB hT pX)) ?_
 rintro e a' w' ⟨σ', ⟨he, ox, nK, pb⟩, ⟨X, h, r⟩, pg⟩
 have nL : Below w.heap.size w w' := ⟨pg.os, pg.tape, pg.output, pg.size, pg.block⟩
 obtain ⟨vs, oB, pq, oI, pV⟩ := WO r nK
 have goal : a'.defers = [] /\ ∃ v, (results fn a'.tmps).run P w' = .ok v w' /\ sN own T w res (.returned v) w' := by
  refine ⟨r.defers, _, pq, ?_⟩
  cases own with
  | false =>
   refine ⟨vs, oB, fun b => w.heap.size <= b /\ b < w'.heap.size, rfl, nL, fun b hb => hb, oI, ?_, fun hh => by cases hh⟩
   refine TF r (fun b k hb => ?_) (by simpa using pb) pV
   rcases hb with hb | ⟨t, j, q, size, rows, ho, hb⟩
   ·rcases hb with hb | hb
    ·exact .inl hb
    ·have := r.hX b hb; exact .inr ⟨by omega, this.2⟩
   ·have := r.own t j b (by rw [ho]; simp) hb
    exact .inr ⟨by omega, this.2.2⟩
  | true =>
   simp only [if_true] at pb
   obtain ⟨pY, oW⟩ := pb
   have oZ := MX pY
   have lC : YB (fun x d => jT σ' x = some d) ox.flatten res.flatten := xy oZ
   have lD : YB (YO (Tof T X) h σ'.ob w') ox.flatten oB.flatten := xy pV
   refine ⟨vs, oB, X, rfl, nL, (fun b hb => by have := r.hX b hb; exact ⟨by omega, this.2⟩), oI, ?_, fun _ => ⟨fun i cc d b hc hd oz hb => ?_, fun i j cc cc' d d' b hc hd oL pd oz fW hb pj => ?_⟩⟩
   ·clear lC lD oI pq nK pY oW he hw
    induction oZ generalizing oB with
    | nil => cases pV; exact .nil
    | cons hr _ ih =>
     cases pV with
     | cons iw pV =>
      refine .cons ?_ (ih _ pV)
      clear ih pV
      refine YB.xC (by rw [<- iw.length, hr.length]) (fun i v d hv hd => ?_)
      obtain ⟨x, hx, fD⟩ := hr.get' i d hd
      obtain ⟨v', lz, dD⟩ := iw.get i x hx
      rw [hv] at lz; cases lz
      simp only [qC, if_true]
      exact (TU r fD dD).1
   ·obtain ⟨x, hx, fD⟩ := lC.get' i d hd
    obtain ⟨v', lz, dD⟩ := lD.get i x hx
    rw [hc] at lz; cases lz
    obtain ⟨t, j, lo, len, _, pS, nu⟩ := (TU r fD dD).2 b oz hb
    have := r.own t j b pS nu
    exact ⟨by omega, this.2.2, this.2.1⟩
   ·obtain ⟨x, hx, fD⟩ := lC.get' i d hd
    obtain ⟨v', lz, dD⟩ := lD.get i x hx
    rw [hc] at lz; cases lz
    obtain ⟨x2, dE, bN⟩ := lC.get' j d' pd
    obtain ⟨v2, oa, bO⟩ := lD.get j x2 dE
    rw [oL] at oa; cases oa
    obtain ⟨t, u, lo, len, rfl, pS, nu⟩ := (TU r fD dD).2 b oz hb
    obtain ⟨t2, u2, lo2, bP, rfl, gq, bQ⟩ := (TU r bN bO).2 b fW pj
    obtain ⟨rfl, rfl⟩ := r.inj t u t2 u2 b pS gq nu bQ
    exact Mb _ i j t u lo len lo2 bP oW hx dE
 rcases he with rfl | rfl
 ·exact goal
 ·exact goal
theorem GL {f : FuncId} {fn : Func} {c : Code} (hf : P.funcs[f]? = some fn) (hb : fn.body = some c) (po : Ua P f = true) {args res : List (List D)}
  (hw : AWP P c (AI P fn res) (jQ fn.ntmps args)) : Yx P f args res := by
 refine ⟨po, fun T w oF hT pX => calls_of_wp hf hb ?_⟩
 refine wp_mono (hw T (fun b => b < w.heap.size) _ w (IB hT pX)) ?_
 rintro e a' w' ⟨σ', ⟨he, ox, nK, nU, ng, oW⟩, ⟨X, h, r⟩, pg⟩
 have nL : Below w.heap.size w w' := ⟨pg.os, pg.tape, pg.output, pg.size, pg.block⟩
 obtain ⟨vs, oB, pq, oI, pV⟩ := WO r nK
 have goal : a'.defers = [] /\ ∃ v, (results fn a'.tmps).run P w' = .ok v w' /\ u5 w res (.returned v) w' := by
  refine ⟨r.defers, _, pq, vs, oB, rfl, nL, oI, ?_, ?_⟩
  ·clear oW ng nK pq oI hw
   induction pV generalizing res with
   | nil => simp [KR] at nU; subst nU; exact .nil
   | cons h1 _ ih =>
    simp only [KR] at nU
    split at nU
    ·rename_i row rs oC mE
     cases nU
     exact .cons (by rw [<- h1.length]; exact (xw oC).1) (ih mE)
    ·cases nU
  ·refine (RJ r (xy pV) (xj nU).1 (y3 ng) oW).mono (fun b hb => ?_)
   have := r.xJ _ b hb
   exact ⟨by omega, this.2.2.1⟩
 rcases he with rfl | rfl
 ·exact goal
 ·exact goal
end
end Go.Vm
namespace Go.Vm
open Go.RowKit
theorem St.wH (e : Ent) (σ : St) : St.get (e :: σ) 0 = e.1 := rfl
theorem St.Ax (e : Ent) (σ : St) (n : Nat) : St.get (e :: σ) (n + 1) = St.get σ n := by simp [St.get]
theorem St.uF (e : Ent) (σ : St) (j : Nat) : St.ob (e :: σ) 0 j = Yo e.2 j := rfl
theorem St.v7 (e : Ent) (σ : St) (n j : Nat) : St.ob (e :: σ) (n + 1) j = St.ob σ n j := by simp [St.ob]
theorem Gx (o : Ob) (os : List Ob) : Yo (o :: os) 0 = o := rfl
theorem kH (o : Ob) (os : List Ob) (n : Nat) : Yo (o :: os) (n + 1) = Yo os n := by simp [Yo]
theorem Aw (n : Nat) : Yo [] n = .none := by simp [Yo]
def lkI (P : Program) (σ : St) (x : Operand) : Prop × Int :=
 match unc (look P σ 0 x) with
 | .one (.d (.int _ n)) => (gOf (look P σ 0 x) = true, n)
 | _ => (False, 0)
def lkK (P : Program) (σ : St) (x : Operand) : IntKind :=
 match unc (look P σ 0 x) with
 | .one (.d (.int k _)) => k
 | _ => .i64
theorem Wa {P : Program} {σ : St} {x : Operand} (h : (lkI P σ x).1) : VE P σ x (lkK P σ x) (lkI P σ x).2 := by
 unfold lkI at h ⊢
 unfold lkK
 unfold VE
 split at h
 ·rename_i k n heq
  rw [heq]; exact ⟨h, rfl⟩
 ·exact h.elim
def yL (P : Program) (σ : St) (nD : Nat) : Option Operand -> Prop × Nat
 | none => (True, nD)
 | some x => ((lkI P σ x).1 /\ 0 <= (lkI P σ x).2, (lkI P σ x).2.toNat)
theorem U2 {P : Program} {σ : St} {nD : Nat} {x : Option Operand} (h : (yL P σ nD x).1) : bnd P σ nD x (yL P σ nD x).2 := by
 cases x with
 | none => rfl
 | some x =>
  have h1 := Wa h.1
  exact ⟨_, _, h1.1, h1.2, h.2, rfl⟩
def rowAt (rows : List (List D)) (i : Nat) : List D := rows.getD i []
def bAt (s : ByteArray) (i : Nat) : Nat := (s.data.toList.getD i 0).toNat
def SB (P : Program) (σ : St) (T : TypeId) (x ix : Operand) : Prop × V :=
 match unc (look P σ 0 x) with
 | .one (.d (.sl size rows)) => ((gOf (look P σ 0 x) = true /\ (lkI P σ ix).1) /\ 0 <= (lkI P σ ix).2 /\ (XW P T = true /\ size = P.cellsOf (ZT P T) /\ 0 < size) /\ (lkI P σ ix).2 < (rows.length : Int), .one (.rptr (rowAt rows (lkI P σ ix).2.toNat) 0))
 | .one (.sref t j lo len) => ((gOf (look P σ 0 x) = true /\ (lkI P σ ix).1) /\ 0 <= (lkI P σ ix).2 /\ (XW P T = true /\ 0 < P.cellsOf (ZT P T) /\ (match σ.ob t j with | .arr _ size _ => size = P.cellsOf (ZT P T) | _ => False)) /\ (lkI P σ ix).2 < (len : Int), .one (.ptr t j (lo + (lkI P σ ix).2.toNat) 0))
 | .one (.tref t j m c none) => ((gOf (look P σ 0 x) = true /\ (lkI P σ ix).1) /\ 0 <= (lkI P σ ix).2 /\ (XW P T = true /\ 0 < P.cellsOf (ZT P T)) /\ (match σ.ob t j with | .arr true _ rows => m < rows.length /\ (match (rowAt rows m)[c]? with | some (.sl n s) => n = P.cellsOf (ZT P T) /\ (lkI P σ ix).2 < (s.length : Int) | _ => False) | _ => False), .one (.tref t j m c (some ((lkI P σ ix).2.toNat * P.cellsOf (ZT P T)))))
 | .one (.bptr t c) => ((gOf (look P σ 0 x) = true /\ (lkI P σ ix).1) /\ 0 <= (lkI P σ ix).2 /\ (match σ.ob t 0 with | .box _ => True | _ => False) /\ (match Hb P T with | some n => 1 < n /\ (lkI P σ ix).2 < (n : Int) | none => False), .one (.bptr t (c + (lkI P σ ix).2.toNat * P.cellsOf (ZT P T))))
 | _ => (False, .any)
def BL (P : Program) (σ : St) (T : TypeId) (x : Operand) : Prop × V :=
 match unc (look P σ 0 x) with
 | .one (.bptr t c) => (match σ.ob t 0 with | .box cells => (gOf (look P σ 0 x) = true /\ xo P T = true /\ c + P.cellsOf T <= cells.length, ldV P T (cut cells c (P.cellsOf T))) | _ => (False, .any))
 | .one (.ptr t j i c) => (match σ.ob t j with | .arr q size rows => ((gOf (look P σ 0 x) = true /\ xo P T = true /\ c + P.cellsOf T <= size) /\ i < rows.length, ldV P T (TR q t j i c (cut (rowAt rows i) c (P.cellsOf T)))) | _ => (False, .any))
 | .one (.rptr r c) => (gOf (look P σ 0 x) = true /\ xo P T = true /\ c + P.cellsOf T <= r.length, ldV P T ((cut r c (P.cellsOf T)).map .d))
 | .one (.tref t j i c (some k)) => (match σ.ob t j with
  | .arr true _ rows => (match (rowAt rows i)[c]? with
   | some (.sl 1 s) => ((gOf (look P σ 0 x) = true /\ xo P T = true) /\ i < rows.length /\ P.cellsOf T = 1 /\ k < s.length /\ (rowAt s k).all D.scalar = true, ldV P T ((rowAt s k).map .d))
   | _ => (False, .any))
  | _ => (False, .any))
 | _ => (False, .any)
def S4 (P : Program) (σ : St) (T : TypeId) (x : Operand) (f : Nat) : Prop × V :=
 match unc (look P σ 0 x) with
 | .one (.bptr t c) => (gOf (look P σ 0 x) = true /\ je P T f = true /\ (match σ.ob t 0 with | .box _ => True | _ => False), .one (.bptr t (c + Qi P T f)))
 | .one (.ptr t j i c) => (gOf (look P σ 0 x) = true /\ je P T f = true /\ (match σ.ob t j with | .arr _ _ _ => True | _ => False), .one (.ptr t j i (c + Qi P T f)))
 | .one (.rptr r c) => (gOf (look P σ 0 x) = true /\ je P T f = true, .one (.rptr r (c + Qi P T f)))
 | .one (.tref t j i c (some k)) => (gOf (look P σ 0 x) = true /\ je P T f = true /\ (match σ.ob t j with | .arr true _ _ => True | _ => False), .one (.tref t j i c (some (k + Qi P T f))))
 | _ => (False, .any)
def FC (P : Program) (op : BinOp) (T : TypeId) (x y : V) : Prop × V :=
 match op, x, y with
 | .eql, .one (.d (.int k m)), .one (.d (.int k' n)) => (k' = k, .one (.d (.bool (m == n))))
 | .neq, .one (.d (.int k m)), .one (.d (.int k' n)) => (k' = k, .one (.d (.bool (m != n))))
 | .lss, .one (.d (.int k m)), .one (.d (.int k' n)) => (k' = k, .one (.d (.bool (decide (m < n)))))
 | .leq, .one (.d (.int k m)), .one (.d (.int k' n)) => (k' = k, .one (.d (.bool (decide (m <= n)))))
 | .gtr, .one (.d (.int k m)), .one (.d (.int k' n)) => (k' = k, .one (.d (.bool (decide (m > n)))))
 | .geq, .one (.d (.int k m)), .one (.d (.int k' n)) => (k' = k, .one (.d (.bool (decide (m >= n)))))
 | .add, .one (.d (.int k m)), .one (.d (.int k' n)) => (k' = k, .one (.d (.int k (k.wrap (m + n)))))
 | .sub, .one (.d (.int k m)), .one (.d (.int k' n)) => (k' = k, .one (.d (.int k (k.wrap (m - n)))))
 | .mul, .one (.d (.int k m)), .one (.d (.int k' n)) => (k' = k, .one (.d (.int k (k.wrap (m * n)))))
 | .quo, .one (.d (.int k m)), .one (.d (.int k' n)) => (k' = k /\ n ≠ 0, .one (.d (.int k (k.wrap (m.tdiv n)))))
 | .rem, .one (.d (.int k m)), .one (.d (.int k' n)) => (k' = k /\ n ≠ 0, .one (.d (.int k (m.tmod n))))
 | .and, .one (.d (.int k m)), .one (.d (.int k' n)) => (k' = k, .one (.d (.int k (GZ k m n))))
 | .or, .one (.d (.int k m)), .one (.d (.int k' n)) => (k' = k, .one (.d (.int k (iOr k m n))))
 | .xor, .one (.d (.int k m)), .one (.d (.int k' n)) => (k' = k, .one (.d (.int k (vE k m n))))
 | .shl, .one (.d (.int k m)), .one (.d (.int _ n)) => (0 <= n, .one (.d (.int k (k.wrap (m * 2 ^ (min n.toNat k.bits))))))
 | .shr, .one (.d (.int k m)), .one (.d (.int _ n)) => (0 <= n, .one (.d (.int k (m.fdiv (2 ^ (min n.toNat k.bits))))))
 | .add, .one (.d (.str m)), .one (.d (.str n)) => (((m.size + n.size : Nat) : Int) <= 9223372036854775807, .one (.d (.str (m ++ n))))
 | .eql, .one (.d (.str m)), .one (.d (.str n)) => (True, .one (.d (.bool (decide (m = n)))))
 | .neq, .one (.d (.str m)), .one (.d (.str n)) => (True, .one (.d (.bool (!decide (m = n)))))
 | .eql, .one (.d (.bool m)), .one (.d (.bool n)) => (Mj P T = true, .one (.d (.bool (m == n))))
 | .neq, .one (.d (.bool m)), .one (.d (.bool n)) => (Mj P T = true, .one (.d (.bool (!(m == n)))))
 | .eql, .agg xs, .agg ys => (Rr P T = true /\ (Qh P (K8 P T) xs ys).isSome = true, .one (.d (.bool ((Qh P (K8 P T) xs ys).getD false))))
 | .neq, .agg xs, .agg ys => (Rr P T = true /\ (Qh P (K8 P T) xs ys).isSome = true, .one (.d (.bool (!(Qh P (K8 P T) xs ys).getD false))))
 | _, _, _ => (False, .any)
def TP (P : Program) (σ : St) (T : TypeId) : List (Nat × Operand) -> List At -> Prop × List At
 | [], r => (True, r)
 | (i, x) :: ps, r => ((bOk P T i = true /\ gOf (look P σ (bTy P T i) x) = true /\ (unc (look P σ (bTy P T i) x)).flat = true /\
   (unc (look P σ (bTy P T i) x)).cells.length = P.cellsOf (bTy P T i) /\ jl P T i + P.cellsOf (bTy P T i) <= r.length) /\ (TP P σ T ps (place r (jl P T i) (unc (look P σ (bTy P T i) x)).cells)).1,
   (TP P σ T ps (place r (jl P T i) (unc (look P σ (bTy P T i) x)).cells)).2)
theorem Hg {P : Program} {σ : St} {T : TypeId} : ∀ {ps : List (Nat × Operand)} {r : List At}, (TP P σ T ps r).1 -> Uf P σ T ps r (TP P σ T ps r).2
 | [], _, _ => rfl
 | (_, _) :: _, _, h => ⟨h.1.1, h.1.2.1, h.1.2.2.1, h.1.2.2.2.1, h.1.2.2.2.2, Hg h.2⟩
def isB : V -> Bool
 | .one (.d (.bool _)) => true
 | _ => false
def bOf : V -> Bool
 | .one (.d (.bool b)) => b
 | _ => false
theorem wI : ∀ {v : V}, isB v = true -> v = .one (.d (.bool (bOf v)))
 | .one (.d (.bool _)), _ => rfl
def evV (P : Program) (σ : St) (op : Op) (ty : TypeId) : Prop × V :=
 match op with
 | .move x => (True, look P σ ty x)
 | .assign x => (True, look P σ ty x)
 | .pick c a b =>
  (match unc (look P σ ty c) with
  | .one (.d (.bool bc)) => ((gOf (look P σ ty c) = true /\ (bc = true -> isB (unc (look P σ ty a)) = true) /\ (bc = false -> isB (unc (look P σ ty b)) = true)) /\ (bc = true -> gOf (look P σ ty a) = true) /\ (bc = false -> gOf (look P σ ty b) = true), .one (.d (.bool (cond bc (bOf (unc (look P σ ty a))) (bOf (unc (look P σ ty b)))))))
  | _ => (False, .any))
 | .load T x => BL P σ T x
 | .fieldAddr T x f => S4 P σ T x f
 | .nilCheck x => (match unc (look P σ 0 x) with
  | .one (.bptr t c) => (gOf (look P σ 0 x) = true /\ (match σ.ob t 0 with | .box _ => True | _ => False), .one (.bptr t c))
  | _ => (False, .any))
 | .indexAddr T x ix => SB P σ T x ix
 | .index T x ix =>
  (match unc (look P σ 0 x) with
  | .one (.d (.str s)) => ((gOf (look P σ 0 x) = true /\ (lkI P σ ix).1) /\ 0 <= (lkI P σ ix).2 /\ TH P T = true /\ (lkI P σ ix).2 < (s.size : Int), .one (.d (.int .u8 (bAt s (lkI P σ ix).2.toNat))))
  | .agg xs => ((gOf (look P σ 0 x) = true /\ (lkI P σ ix).1) /\ 0 <= (lkI P σ ix).2 /\ (match Hb P T with | some n => (lkI P σ ix).2 < (n : Int) | none => False) /\ xo P (ZT P T) = true /\ (lkI P σ ix).2.toNat * P.cellsOf (ZT P T) + P.cellsOf (ZT P T) <= xs.length,
    ldV P (ZT P T) (cut xs ((lkI P σ ix).2.toNat * P.cellsOf (ZT P T)) (P.cellsOf (ZT P T))))
  | _ => (False, .any))
 | .slice T x lo hi none =>
  (match unc (look P σ 0 x) with
  | .one (.d (.str s)) => ((gOf (look P σ 0 x) = true /\ TH P T = true /\ (yL P σ 0 lo).1 /\ (yL P σ s.size hi).1) /\ (yL P σ 0 lo).2 <= (yL P σ s.size hi).2 /\ (yL P σ s.size hi).2 <= s.size, .one (.d (.str (s.extract (yL P σ 0 lo).2 (yL P σ s.size hi).2))))
  | .one (.d (.sl size rows)) => ((gOf (look P σ 0 x) = true /\ XW P T = true /\ size = P.cellsOf (ZT P T) /\ (yL P σ 0 lo).1 /\ (yL P σ rows.length hi).1) /\ (yL P σ 0 lo).2 <= (yL P σ rows.length hi).2 /\ (yL P σ rows.length hi).2 <= rows.length,
    .one (.d (.sl size (cut rows (yL P σ 0 lo).2 ((yL P σ rows.length hi).2 - (yL P σ 0 lo).2)))))
  | .one (.sref t j o len) => ((gOf (look P σ 0 x) = true /\ XW P T = true /\ (match σ.ob t j with | .arr _ size _ => size = P.cellsOf (ZT P T) | _ => False) /\ (yL P σ 0 lo).1 /\ (yL P σ len hi).1) /\ (yL P σ 0 lo).2 <= (yL P σ len hi).2 /\ (yL P σ len hi).2 <= len,
    .one (.sref t j (o + (yL P σ 0 lo).2) ((yL P σ len hi).2 - (yL P σ 0 lo).2)))
  | _ => (False, .any))
 | .binOp op T x y _ => ((gOf (look P σ T x) = true /\ gOf (look P σ T y) = true) /\ (FC P op T (unc (look P σ T x)) (unc (look P σ T y))).1, (FC P op T (unc (look P σ T x)) (unc (look P σ T y))).2)
 | .unOp .not _ x => (match unc (look P σ 0 x) with | .one (.d (.bool b)) => (gOf (look P σ 0 x) = true, .one (.d (.bool (!b)))) | _ => (False, .any))
 | .unOp .neg _ x => (match unc (look P σ 0 x) with | .one (.d (.int k n)) => (gOf (look P σ 0 x) = true, .one (.d (.int k (k.wrap (-n))))) | _ => (False, .any))
 | .convert S T x => (match unc (look P σ 0 x), Cz P T with | .one (.d (.int _ n)), some k => (gOf (look P σ 0 x) = true /\ (P.underlying S).isSome = true, .one (.d (.int k (k.wrap n)))) | _, _ => (False, .any))
 | .extract x i => (match unc (look P σ 0 x) with | .tup xs => (gOf (look P σ 0 x) = true /\ i < xs.length /\ (xs.getD i .any).flat = true, xs.getD i .any) | _ => (False, .any))
 | .field T x f =>
  (match unc (look P σ 0 x) with
  | .agg xs => (gOf (look P σ 0 x) = true /\ je P T f = true /\ xo P (qF P T f) = true /\ Qi P T f + P.cellsOf (qF P T f) <= xs.length, ldV P (qF P T f) (cut xs (Qi P T f) (P.cellsOf (qF P T f))))
  | _ => (False, .any))
 | .build T parts => (match ko P 12 T with | some z => ((Qg P T = true /\ Um P T = true) /\ (TP P σ T parts.toList z).1, .agg (TP P σ T parts.toList z).2) | none => (False, .any))
 | .call ⟨.builtin .len, ⟨[x]⟩, ⟨[t]⟩⟩ =>
  (match unc (look P σ t x) with
  | .one (.d (.str s)) => (gOf (look P σ t x) = true /\ TH P t = true, .one (.d (.int .i64 s.size)))
  | .one (.d (.sl _ rows)) => (gOf (look P σ t x) = true /\ XW P t = true, .one (.d (.int .i64 rows.length)))
  | .one (.nil _) => (gOf (look P σ t x) = true /\ XW P t = true, .one (.d (.int .i64 0)))
  | .one (.sref u j _ len) => (gOf (look P σ t x) = true /\ XW P t = true /\ (match σ.ob u j with | .arr _ _ _ => True | .lit _ _ => True | _ => False), .one (.d (.int .i64 len)))
  | .one (.tref u j i c none) => (match σ.ob u j with
   | .arr true _ rows => (match (rowAt rows i)[c]? with
    | some (.sl _ s) => ((gOf (look P σ t x) = true /\ XW P t = true) /\ i < rows.length, .one (.d (.int .i64 s.length)))
    | _ => (False, .any))
   | _ => (False, .any))
  | _ => (False, .any))
 | .call ⟨.builtin .max, ⟨[x, y]⟩, _⟩ => ((lkI P σ x).1 /\ (lkI P σ y).1 /\ lkK P σ y = lkK P σ x, .one (.d (.int (lkK P σ x) (if (lkI P σ y).2 > (lkI P σ x).2 then (lkI P σ y).2 else (lkI P σ x).2))))
 | .call ⟨.builtin .min, ⟨[x, y]⟩, _⟩ => ((lkI P σ x).1 /\ (lkI P σ y).1 /\ lkK P σ y = lkK P σ x, .one (.d (.int (lkK P σ x) (if (lkI P σ y).2 < (lkI P σ x).2 then (lkI P σ y).2 else (lkI P σ x).2))))
 | _ => (False, .any)
theorem Ch {o : Ob} (h : (match o with | .box _ => True | _ => False)) : ∃ cells, o = .box cells := by
 cases o with
 | box c => exact ⟨c, rfl⟩
 | none => exact h.elim
 | arr q s r => exact h.elim
 | lit s r => exact h.elim
theorem tU {o : Ob} (h : (match o with | .arr _ _ _ => True | _ => False)) : ∃ q size rows, o = .arr q size rows := by
 cases o with
 | arr q s r => exact ⟨q, s, r, rfl⟩
 | none => exact h.elim
 | box c => exact h.elim
 | lit s r => exact h.elim
theorem tW {o : Ob} (h : (match o with | .arr _ _ _ => True | .lit _ _ => True | _ => False)) : (∃ q size rows, o = .arr q size rows) \/ ∃ size rows, o = .lit size rows := by
 cases o with
 | arr q s r => exact .inl ⟨q, s, r, rfl⟩
 | none => exact h.elim
 | box c => exact h.elim
 | lit s r => exact .inr ⟨s, r, rfl⟩
theorem Bg {o : Ob} {n : Nat} (h : (match o with | .arr _ size _ => size = n | _ => False)) : ∃ q rows, o = .arr q n rows := by
 cases o with
 | arr q s r => simp at h; subst h; exact ⟨q, r, rfl⟩
 | none => exact h.elim
 | box c => exact h.elim
 | lit s r => exact h.elim
theorem wE {P : Program} {op : BinOp} {T : TypeId} {x y : V} (hc : (FC P op T x y).1) : CV P op T x y (FC P op T x y).2 := by
 unfold FC at hc ⊢
 split at hc
 all_goals first
  | exact hc.elim
  | exact ⟨.inr hc, rfl⟩
  | exact ⟨.inr hc.1, hc.2, rfl⟩
  | exact ⟨.inl (.inl rfl), hc, rfl⟩
  | exact ⟨.inl (.inr rfl), hc, rfl⟩
  | exact ⟨hc, rfl⟩
  | rfl
  | (obtain ⟨q, hq⟩ := Option.isSome_iff_exists.1 hc.2; exact ⟨hc.1, q, hq, .inl ⟨rfl, by rw [hq]; rfl⟩⟩)
  | (obtain ⟨q, hq⟩ := Option.isSome_iff_exists.1 hc.2; exact ⟨hc.1, q, hq, .inr ⟨rfl, by rw [hq]; rfl⟩⟩)
theorem Cv {P : Program} {σ : St} {op : Op} {ty : TypeId} (hc : (evV P σ op ty).1) : Yc P σ op ty (evV P σ op ty).2 := by
 unfold evV at hc ⊢
 split at hc
 ·rfl
 ·rfl
 ·rename_i c a b
  split at hc
  ·rename_i bc h1; exact ⟨bc, _, _, hc.1.1, h1, (fun hh => wI (hc.1.2.1 hh)), (fun hh => wI (hc.1.2.2 hh)), hc.2.1, hc.2.2, (by first | rfl | trivial)⟩
  ·exact hc.elim
 ·rename_i T x
  unfold BL at hc ⊢
  simp only [Yc]
  split at hc
  ·rename_i t c hx
   split at hc
   ·rename_i cells ho; simp only [hx, ho]; exact ⟨hc.1, hc.2.1, cells, rfl, hc.2.2, (by first | rfl | trivial)⟩
   ·exact hc.elim
  ·rename_i t j i c hx
   split at hc
   ·rename_i size rows ho; simp only [hx, ho]; exact ⟨hc.1.1, hc.1.2.1, _, size, rows, rfl, hc.2, hc.1.2.2, (by first | rfl | trivial)⟩
   ·exact hc.elim
  ·rename_i r c hx; simp only [hx]; exact ⟨hc.1, hc.2.1, hc.2.2, (by first | rfl | trivial)⟩
  ·rename_i t j i c k hx
   split at hc
   ·rename_i size rows ho
    split at hc
    ·rename_i s pb; simp only [hx, ho, pb]; exact ⟨hc.1.1, hc.1.2, size, rows, s, rfl, hc.2.1, pb, hc.2.2.1, hc.2.2.2.1, hc.2.2.2.2, (by first | rfl | trivial)⟩
    ·exact hc.elim
   ·exact hc.elim
  ·exact hc.elim
 ·rename_i T x f
  unfold S4 at hc ⊢
  simp only [Yc]
  split at hc
  ·rename_i t c hx; simp only [hx]; exact ⟨hc.1, hc.2.1, Ch hc.2.2, (by first | rfl | trivial)⟩
  ·rename_i t j i c hx; simp only [hx]; exact ⟨hc.1, hc.2.1, tU hc.2.2, (by first | rfl | trivial)⟩
  ·rename_i r c hx; simp only [hx]; exact ⟨hc.1, hc.2, (by first | rfl | trivial)⟩
  ·rename_i t j i c k hx
   have h3 := hc.2.2
   split at h3
   ·rename_i size rows ho; simp only [hx]; exact ⟨hc.1, hc.2.1, ⟨size, rows, ho⟩, (by first | rfl | trivial)⟩
   ·exact h3.elim
  ·exact hc.elim
 ·rename_i x
  simp only [Yc]
  split at hc
  ·rename_i t c hx; simp only [hx]; exact ⟨hc.1, Ch hc.2, (by first | rfl | trivial)⟩
  ·exact hc.elim
 ·rename_i T x ix
  unfold SB at hc ⊢
  simp only [Yc]
  split at hc
  ·rename_i size rows hx
   simp only [hx]
   exact ⟨_, _, Wa hc.1.2, hc.2.1, hc.1.1, hc.2.2.1.1, hc.2.2.1.2.1, hc.2.2.1.2.2, hc.2.2.2, (by first | rfl | trivial)⟩
  ·rename_i t j lo len hx
   simp only [hx]
   exact ⟨_, _, Wa hc.1.2, hc.2.1, hc.1.1, hc.2.2.1.1, hc.2.2.1.2.1, Bg hc.2.2.1.2.2, hc.2.2.2, (by first | rfl | trivial)⟩
  ·rename_i t j m c hx
   have h3 := hc.2.2.2
   split at h3
   ·rename_i size rows ho
    obtain ⟨hm, h4⟩ := h3
    split at h4
    ·rename_i n s hr
     obtain ⟨rfl, pa⟩ := h4
     simp only [hx]
     exact ⟨_, _, Wa hc.1.2, hc.2.1, hc.1.1, hc.2.2.1.1, hc.2.2.1.2, ⟨size, rows, s, ho, hm, hr, pa⟩, (by first | rfl | trivial)⟩
    ·exact h4.elim
   ·exact h3.elim
  ·rename_i t c hx
   simp only [hx]
   refine ⟨_, _, Wa hc.1.2, hc.2.1, hc.1.1, Ch hc.2.2.1, ?_, (by first | rfl | trivial)⟩
   have := hc.2.2.2
   split at this
   ·rename_i n hn; exact ⟨n, hn, this.1, this.2⟩
   ·exact this.elim
  ·exact hc.elim
 ·rename_i T x ix
  simp only [Yc]
  split at hc
  ·rename_i s hx; simp only [hx]; exact ⟨_, _, Wa hc.1.2, hc.2.1, hc.1.1, hc.2.2.1, hc.2.2.2, (by first | rfl | trivial)⟩
  ·rename_i xs hx
   simp only [hx]
   refine ⟨_, _, Wa hc.1.2, hc.2.1, hc.1.1, ?_, hc.2.2.2.1, hc.2.2.2.2, (by first | rfl | trivial)⟩
   have := hc.2.2.1
   split at this
   ·rename_i n hn; exact ⟨n, hn, this⟩
   ·exact this.elim
  ·exact hc.elim
 ·rename_i T x lo hi
  simp only [Yc]
  split at hc
  ·rename_i s hx; simp only [hx]; exact ⟨hc.1.1, hc.1.2.1, _, _, U2 hc.1.2.2.1, U2 hc.1.2.2.2, hc.2.1, hc.2.2, (by first | rfl | trivial)⟩
  ·rename_i size rows hx; simp only [hx]; exact ⟨hc.1.1, hc.1.2.1, hc.1.2.2.1, _, _, U2 hc.1.2.2.2.1, U2 hc.1.2.2.2.2, hc.2.1, hc.2.2, (by first | rfl | trivial)⟩
  ·rename_i t j o len hx; simp only [hx]; exact ⟨hc.1.1, hc.1.2.1, Bg hc.1.2.2.1, _, _, U2 hc.1.2.2.2.1, U2 hc.1.2.2.2.2, hc.2.1, hc.2.2, (by first | rfl | trivial)⟩
  ·exact hc.elim
 ·exact ⟨hc.1.1, hc.1.2, wE hc.2⟩
 ·simp only [Yc]
  split at hc
  ·rename_i b hx; simp only [hx]; exact ⟨hc, (by first | rfl | trivial)⟩
  ·exact hc.elim
 ·simp only [Yc]
  split at hc
  ·rename_i k n hx; simp only [hx]; exact ⟨hc, (by first | rfl | trivial)⟩
  ·exact hc.elim
 ·rename_i S T x
  simp only [Yc]
  split at hc
  ·rename_i k0 n k hx hk; simp only [hx, hk]; exact ⟨hc.1, hc.2, k, rfl, (by first | rfl | trivial)⟩
  ·exact hc.elim
 ·rename_i x i
  simp only [Yc]
  split at hc
  ·rename_i xs hx
   simp only [hx]
   exact ⟨hc.1, by simp [List.getD_eq_getElem?_getD, List.getElem?_eq_getElem hc.2.1], hc.2.2⟩
  ·exact hc.elim
 ·simp only [Yc]
  split at hc
  ·rename_i xs hx; simp only [hx]; exact ⟨hc.1, hc.2.1, hc.2.2.1, hc.2.2.2, (by first | rfl | trivial)⟩
  ·exact hc.elim
 ·simp only [Yc]
  split at hc
  ·rename_i z hz; exact ⟨hc.1.1, hc.1.2, z, _, hz, Hg hc.2, (by first | rfl | trivial)⟩
  ·exact hc.elim
 ·simp only [Yc]
  split at hc
  ·rename_i s hx; simp only [hx]; exact ⟨hc.1, hc.2, (by first | rfl | trivial)⟩
  ·rename_i s rows hx; simp only [hx]; exact ⟨hc.1, hc.2, (by first | rfl | trivial)⟩
  ·rename_i s hx; simp only [hx]; exact ⟨hc.1, hc.2, (by first | rfl | trivial)⟩
  ·rename_i u j lo len hx; simp only [hx]; exact ⟨hc.1, hc.2.1, tW hc.2.2, (by first | rfl | trivial)⟩
  ·rename_i u j i c hx
   split at hc
   ·rename_i rows ho
    split at hc
    ·rename_i s pb; simp only [hx, ho, pb]; exact ⟨hc.1.1, hc.1.2, _, rows, _, s, rfl, hc.2, pb, (by first | rfl | trivial)⟩
    ·exact hc.elim
   ·exact hc.elim
  ·exact hc.elim
 ·simp only [Yc]
  have hy := Wa hc.2.1
  rw [hc.2.2] at hy
  exact ⟨_, _, _, Wa hc.1, hy, (by first | rfl | trivial)⟩
 ·simp only [Yc]
  have hy := Wa hc.2.1
  rw [hc.2.2] at hy
  exact ⟨_, _, _, Wa hc.1, hy, (by first | rfl | trivial)⟩
 ·exact hc.elim
end Go.Vm
namespace Go.Vm
open Go.RowKit
def qo (P : Program) (σ : St) (T : TypeId) (size : Nat) : List (Nat × Operand) -> Nat -> Prop × List (List D)
 | [], _ => (True, [])
 | (i, x) :: ps, k => ((i = k /\ gOf (look P σ T x) = true /\ (unc (look P σ T x)).flat = true /\ Kx (unc (look P σ T x)).cells = true /\ (rowOf σ (unc (look P σ T x)).cells).isSome = true /\ ((rowOf σ (unc (look P σ T x)).cells).getD []).length = size) /\ (qo P σ T size ps (k + 1)).1,
   (rowOf σ (unc (look P σ T x)).cells).getD [] :: (qo P σ T size ps (k + 1)).2)
theorem ML {P : Program} {σ : St} {T : TypeId} {size : Nat} : ∀ {ps : List (Nat × Operand)} {k : Nat}, (qo P σ T size ps k).1 -> O4 P σ T size ps k (qo P σ T size ps k).2
 | [], _, _ => rfl
 | (_, x) :: _, _, h => by
  obtain ⟨⟨h1, h2, h3, h4, h5, h6⟩, h7⟩ := h
  obtain ⟨r, hr⟩ := Option.isSome_iff_exists.1 h5
  refine ⟨h1, h2, h3, h4, r, _, hr, ?_, ML h7, ?_⟩
  ·rw [hr] at h6; exact h6
  ·simp only [qo, hr, Option.getD_some]
def Tv (σ : St) (x : V) (size : Nat) : Prop × List (List D) × St :=
 match x with
 | .one (.nil _) => (True, [], σ)
 | .one (.sref t j lo len) => (match σ.ob t j with | .arr false s pW => (s = size /\ lo = 0 /\ len = pW.length, pW, σ.YC t j .none) | _ => (False, [], σ))
 | _ => (False, [], σ)
theorem vG {σ : St} {x : V} {size : Nat} (h : (Tv σ x size).1) : TM σ x size (Tv σ x size).2.1 (Tv σ x size).2.2 := by
 unfold Tv at h ⊢
 split at h
 ·exact ⟨rfl, rfl⟩
 ·rename_i t j lo len
  split at h
  ·rename_i s pW ho
   obtain ⟨rfl, rfl, rfl⟩ := h
   exact ⟨pW, ho, rfl, Nat.le_refl _, (List.take_length).symm, rfl⟩
  ·exact h.elim
 ·exact h.elim
def O7 (σ : St) (x : V) (size : Nat) : Prop × List (List D) :=
 match x with
 | .one (.d (.sl s rows)) => (s = size, rows)
 | .one (.nil _) => (True, [])
 | .one (.sref t j lo len) => (match σ.ob t j with | .arr false s rows => (s = size /\ lo + len <= rows.length, cut rows lo len) | _ => (False, []))
 | _ => (False, [])
theorem wh {σ : St} {x : V} {size : Nat} (h : (O7 σ x size).1) : kh σ x size (O7 σ x size).2 := by
 unfold O7 at h ⊢
 split at h
 ·exact ⟨h, rfl⟩
 ·rfl
 ·rename_i t j lo len
  split at h
  ·rename_i s rows ho
   obtain ⟨rfl, hle⟩ := h
   exact ⟨rows, ho, hle, rfl⟩
  ·exact h.elim
 ·exact h.elim
def evS (P : Program) (σ : St) (o : Oper) (d : Nat) : Prop × St :=
 match o.op with
 | .alloc T => (match ko P 12 T with | some row => (σ.fresh d = true /\ Qg P T = true, σ.new d (.one (.bptr d 0)) [.box row]) | none => (False, σ))
 | .box T x => (σ.fresh d = true /\ gOf (look P σ T x) = true /\ (unc (look P σ T x)).flat = true /\ YU d (unc (look P σ T x)).cells = false, σ.new d (.one (.bptr d 0)) [.box (unc (look P σ T x)).cells])
 | .buildSlice T n parts => ((σ.fresh d = true /\ XW P T = true /\ Qg P (ZT P T) = true /\ 0 < P.cellsOf (ZT P T) /\ parts.toList.length = n /\ n * P.cellsOf (ZT P T) <= 16777216) /\ (qo P σ (ZT P T) (P.cellsOf (ZT P T)) parts.toList 0).1,
   σ.new d (.one (.sref d 0 0 (qo P σ (ZT P T) (P.cellsOf (ZT P T)) parts.toList 0).2.length)) [.arr false (P.cellsOf (ZT P T)) (qo P σ (ZT P T) (P.cellsOf (ZT P T)) parts.toList 0).2])
 | .makeSlice T x y => (match ko P 12 (ZT P T) with
   | some z => (match zD z with
    | some zr => ((x = y /\ σ.fresh d = true /\ XW P T = true /\ Qg P (ZT P T) = true /\ 0 < P.cellsOf (ZT P T) /\ (lkI P σ x).1) /\ 0 <= (lkI P σ x).2 /\ P.bytesOf (ZT P T) * (lkI P σ x).2.toNat <= 281474976710656 /\ (lkI P σ x).2 <= 9223372036854775807,
      σ.new d (.one (.sref d 0 0 (lkI P σ x).2.toNat)) [.arr false (P.cellsOf (ZT P T)) (List.replicate (lkI P σ x).2.toNat zr)])
    | none => (False, σ))
   | none => (False, σ))
 | .call ⟨.builtin .append, ⟨[x, y]⟩, ⟨[t, t']⟩⟩ =>
   (((t = t' /\ gOf (look P σ t x) = true /\ gOf (look P σ t y) = true /\ XW P t = true /\ Qg P (ZT P t) = true /\ 0 < P.cellsOf (ZT P t)) /\ (Tv σ (unc (look P σ t x)) (P.cellsOf (ZT P t))).1 /\ (O7 σ (unc (look P σ t y)) (P.cellsOf (ZT P t))).1 /\ (Tv σ (unc (look P σ t x)) (P.cellsOf (ZT P t))).2.2.fresh d = true) /\
    ((Tv σ (unc (look P σ t x)) (P.cellsOf (ZT P t))).2.1.length + (O7 σ (unc (look P σ t y)) (P.cellsOf (ZT P t))).2.length) * P.bytesOf (ZT P t) <= 140737488355328 /\
    (Tv σ (unc (look P σ t x)) (P.cellsOf (ZT P t))).2.1.length + (O7 σ (unc (look P σ t y)) (P.cellsOf (ZT P t))).2.length <= 9223372036854775807,
   (Tv σ (unc (look P σ t x)) (P.cellsOf (ZT P t))).2.2.new d (.one (.sref d 0 0 ((Tv σ (unc (look P σ t x)) (P.cellsOf (ZT P t))).2.1.length + (O7 σ (unc (look P σ t y)) (P.cellsOf (ZT P t))).2.length)))
    [.arr false (P.cellsOf (ZT P t)) ((Tv σ (unc (look P σ t x)) (P.cellsOf (ZT P t))).2.1 ++ (O7 σ (unc (look P σ t y)) (P.cellsOf (ZT P t))).2)])
 | op => ((evV P σ op o.type).1, σ.put d (evV P σ op o.type).2)
def D2 (P : Program) (σ : St) (T : TypeId) (x y : Operand) : Prop × St :=
 match unc (look P σ 0 x) with
 | .one (.bptr t c) => (match σ.ob t 0 with
  | .box cells => (xo P T = true /\ gOf (look P σ 0 x) = true /\ gOf (look P σ T y) = true /\ (unc (look P σ T y)).flat = true /\ (unc (look P σ T y)).cells.length = P.cellsOf T /\ c + P.cellsOf T <= cells.length, σ.YC t 0 (.box (place cells c (unc (look P σ T y)).cells)))
  | _ => (False, σ))
 | .one (.ptr t j i c) => (match σ.ob t j with
  | .arr q size rows => ((xo P T = true /\ gOf (look P σ 0 x) = true /\ gOf (look P σ T y) = true /\ (unc (look P σ T y)).flat = true /\ (rowOf σ (unc (look P σ T y)).cells).isSome = true /\ Kx (unc (look P σ T y)).cells = true /\ ((rowOf σ (unc (look P σ T y)).cells).getD []).length = P.cellsOf T /\ c + P.cellsOf T <= size) /\ i < rows.length /\ (q = true -> ((rowOf σ (unc (look P σ T y)).cells).getD []).all D.scalar = true /\ (cut (rowAt rows i) c (P.cellsOf T)).all D.scalar = true),
    σ.YC t j (.arr q size (rows.set i (place (rowAt rows i) c ((rowOf σ (unc (look P σ T y)).cells).getD [])))))
  | _ => (False, σ))
 | _ => (False, σ)
theorem vL {P : Program} {σ : St} {o : Oper} {d : Nat} (lq : ∀ c, o.op = .call c -> ∀ f, c.callee ≠ .value (.func f)) (hc : (evS P σ o d).1) : Step P o d σ (evS P σ o d).2 := by
 unfold evS at hc ⊢
 split at hc
 ·rename_i T pP
  unfold Step
  rw [pP]
  split at hc
  ·rename_i row oC; simp only [oC]; exact ⟨hc.1, hc.2, row, rfl, rfl⟩
  ·exact hc.elim
 ·rename_i T x pP
  unfold Step; rw [pP]
  exact ⟨hc.1, hc.2.1, hc.2.2.1, hc.2.2.2, rfl⟩
 ·rename_i T n parts pP
  unfold Step; rw [pP]
  obtain ⟨⟨h1, h2, h3, h4, h5, h6⟩, h7⟩ := hc
  exact .inl ⟨h1, h2, h3, h4, h5, h6, .inl ⟨_, ML h7, rfl⟩⟩
 ·rename_i T x y pP
  unfold Step; rw [pP]
  split at hc
  ·rename_i z hz
   split at hc
   ·rename_i zr mF
    obtain ⟨⟨h1, h2, h3, h4, h5, h6⟩, h7, h8, h9⟩ := hc
    have hl := Wa h6
    simp only [hz]
    refine ⟨h1, h2, h3, h4, h5, false, z, zr, lkK P σ x, (lkI P σ x).2.toNat, (fun hh => by cases hh), rfl, mF, ?_, h8, by omega, rfl⟩
    rw [Int.toNat_of_nonneg h7]; exact hl
   ·exact hc.elim
  ·exact hc.elim
 ·rename_i x y t t' pP
  unfold Step; rw [pP]
  obtain ⟨⟨⟨rfl, h1, h2, h3, h4, h5⟩, h6, h7, h8⟩, h9, ia⟩ := hc
  exact ⟨x, y, t, rfl, rfl, h1, h2, h3, h4, h5, _, _, _, vG h6, wh h7, h8, h9, ia, rfl⟩
 ·rename_i op h1 h2 h3 h4 h5
  have hv := Cv hc
  unfold Step
  split
  ·rename_i T pP; exact absurd pP (h1 T)
  ·rename_i T x pP; exact absurd pP (h2 T x)
  ·rename_i T n ps pP; exact absurd pP (h3 T n ps)
  ·rename_i T x y pP; exact absurd pP (h4 T x y)
  ·rename_i c pP
   split
   ·rename_i ma
    rw [pP] at hv
    simp only [Yc] at hv
    split at hv
    ·rename_i l7 _ _; rw [ma] at l7; cases l7
    ·rename_i l7 _; rw [ma] at l7; cases l7
    ·rename_i l7 _; rw [ma] at l7; cases l7
    ·exact hv.elim
   ·rename_i f ma; exact absurd ma (lq c pP f)
   ·exact ⟨_, hv, rfl⟩
  ·exact .inl ⟨_, hv, rfl⟩
  ·exact ⟨_, hv, rfl⟩
theorem uQ {P : Program} {σ : St} {T : TypeId} {x y : Operand} (hc : (D2 P σ T x y).1) : xG P σ T x y (D2 P σ T x y).2 := by
 unfold D2 at hc ⊢
 unfold xG
 split at hc
 ·rename_i t c hx
  split at hc
  ·rename_i cells ho
   obtain ⟨h1, h2, h3, h4, h5, h6⟩ := hc
   first | (rw [hx]; simp only [ho]) | simp only [ho]
   exact ⟨h1, h2, h3, h4, cells, rfl, h5, h6, rfl⟩
  ·exact hc.elim
 ·rename_i t j i c hx
  split at hc
  ·rename_i q size rows ho
   obtain ⟨⟨h1, h2, h3, h4, h5, h6, h7, h8⟩, h9, ia⟩ := hc
   obtain ⟨ds, iK⟩ := Option.isSome_iff_exists.1 h5
   first | (rw [hx]; simp only [ho]) | simp only [ho]
   refine ⟨h1, h2, h3, h4, q, size, rows, ds, rfl, h9, iK, h6, ?_, h8, fun hq => ?_, ?_⟩
   ·rw [iK] at h7; exact h7
   ·have := ia hq
    rw [iK] at this; exact this
   ·rw [iK]; rfl
  ·exact hc.elim
 ·exact hc.elim
def Ce : List At -> Bool
 | [] => false
 | .nil _ :: _ => true
 | _ :: xs => Ce xs
def Bv (P : Program) (T : TypeId) : Bool := match ko P 12 (ZT P T) with | some z => Ce z | none => false
def ED : List At -> Bool
 | [] => true
 | .d (.sl _ _) :: _ => false
 | .d _ :: xs => ED xs
 | _ => false
def tL (P : Program) (σ : St) (T : TypeId) (x y : Operand) : Bool :=
 match unc (look P σ 0 x) with
 | .one (.ptr t j _ _) => (match σ.ob t j with | .arr true _ _ => !ED (unc (look P σ T y)).cells | _ => false)
 | .one (.tref _ _ _ _ (some _)) => true
 | _ => false
def stops (P : Program) (bar : Oper -> Bool) (o : Oper) : Bool :=
 match o.op with
 | .call ⟨.value _, _, _⟩ => true
 | .call ⟨.builtin .append, _, ⟨t :: _⟩⟩ => Bv P t
 | .buildSlice T _ _ => Bv P T || sJ bar o
 | .makeSlice T _ _ => Bv P T
 | .makeFunc _ _ _ => true
 | .convert _ T _ => (Cz P T).isNone
 | .indexAddr _ _ _ => o.guard.isSome
 | .index _ _ _ => o.guard.isSome
 | .slice _ _ _ _ _ => o.guard.isSome
 | _ => false
def j0 (P : Program) (ops : Array Oper) (bar : Oper -> Bool) (o : Oper) (rest : List Oper) (σ : St) (Q : St -> Prop) : Prop := ∃ σ', Kv P ops bar o σ σ' /\ F6 P ops bar rest σ' Q
def Ev (P : Program) (ops : Array Oper) (bar : Oper -> Bool) : List Oper -> St -> (St -> Prop) -> Prop
 | [], σ, Q => Q σ
 | o :: rest, σ, Q =>
  if stops P bar o then j0 P ops bar o rest σ Q else
  match o.guard with
  | none =>
   (match o.dst with
   | some d => (evS P σ o d).1 /\ Ev P ops bar rest (evS P σ o d).2 Q
   | none => (match o.op with | .store T x y => if tL P σ T x y then j0 P ops bar o rest σ Q else (D2 P σ T x y).1 /\ Ev P ops bar rest (D2 P σ T x y).2 Q | _ => False))
  | some (j, want) =>
   (match (ops[j]?).bind (·.dst), o.dst with
   | some dj, some d => (match qQ want (σ.get dj) with
    | some g => (dj < σ.length /\ (g = true -> (evV P σ o.op o.type).1 /\ gOf (evV P σ o.op o.type).2 = true /\ (unc (evV P σ o.op o.type).2).flat = true)) /\ Ev P ops bar rest (σ.put d (.cnd g (unc (evV P σ o.op o.type).2))) Q
    | none => False)
   | _, _ => False)
theorem Ja {P : Program} {ops : Array Oper} {bar : Oper -> Bool} : ∀ {l : List Oper} {σ : St} {Q : St -> Prop}, Ev P ops bar l σ Q -> F6 P ops bar l σ Q
 | [], _, _, h => h
 | o :: rest, σ, Q, h => by
  unfold Ev at h
  split at h
  ·exact h
  ·rename_i pt
   have lq : ∀ c, o.op = .call c -> ∀ f, c.callee ≠ .value (.func f) := by
    intro c pP f ma
    obtain ⟨cc, ca, ct⟩ := c
    simp only at ma; subst ma
    exact pt (by simp [stops, pP])
   split at h
   ·rename_i hg
    split at h
    ·rename_i d hd
     refine ⟨_, .inl ?_, Ja h.2⟩
     unfold XR
     simp only [hg, hd]
     exact vL lq h.1
    ·rename_i hd
     split at h
     ·rename_i T x y pP
      split at h
      ·exact h
      ·refine ⟨_, .inl ?_, Ja h.2⟩
       unfold XR
       simp only [hg, hd, pP]
       exact uQ h.1
     ·exact h.elim
   ·rename_i j want hg
    split at h
    ·rename_i dj d nI hd
     split at h
     ·rename_i g nP
      refine ⟨_, .inl ?_, Ja h.2⟩
      unfold XR
      simp only [hg]
      refine ⟨dj, d, g, _, nI, h.1.1, hd, nP, fun hQ => ?_, rfl⟩
      obtain ⟨h1, h2, h3⟩ := h.1.2 hQ
      have base : ∃ v0, Yc P σ o.op o.type v0 /\ gOf v0 = true /\ unc (evV P σ o.op o.type).2 = unc v0 /\ (unc (evV P σ o.op o.type).2).flat = true := ⟨_, Cv h1, h2, rfl, h3⟩
      unfold MC
      split
      ·rename_i c pP
       split
       ·rename_i f ma; exact absurd ma (lq c pP f)
       ·exact base
      ·exact base
     ·exact h.elim
    ·exact h.elim
theorem tF {P : Program} {Q : Exit -> St -> Prop} {σ : St} {id : Nat} {l : List Oper} {bar : Oper -> Bool} (h : Ev P l.toArray bar l σ (Q .normal)) : AWP P (.region id l.toArray false) Q σ := BC (Ja h)
theorem CF {P : Program} {ops : Array Oper} {bar : Oper -> Bool} {o : Oper} {rest : List Oper} {σ : St} {Q : St -> Prop} {c : Call} {f : FuncId} {d : Nat} {own : Bool} {rows res : List (List D)} (pP : o.op = .call c) (hc : c.callee = .value (.func f)) (hg : o.guard = none) (hd : o.dst = some d)
  (pX : Qd P σ c.args.toList c.argTypes.toList rows) (hs : Ql P f own rows res) (pt : YY P σ c.args.toList c.argTypes.toList = true \/ KA own res) (h : Ev P ops bar rest (σ.put d (qL res)) Q) : j0 P ops bar o rest σ Q := by
 refine ⟨_, .inl ?_, Ja h⟩
 unfold XR; simp only [hg, hd]
 unfold Step
 rw [pP]
 simp only [hc]
 exact .inl ⟨own, res, ⟨rows, pX, hs, pt⟩, rfl⟩
theorem Ek {P : Program} {ops : Array Oper} {bar : Oper -> Bool} {o : Oper} {rest : List Oper} {σ : St} {Q : St -> Prop} {c : Call} {f : FuncId} {d : Nat} {rows res : List (List D)} (pP : o.op = .call c) (hc : c.callee = .value (.func f)) (hg : o.guard = none) (hd : o.dst = some d)
  (pX : Qd P σ c.args.toList c.argTypes.toList rows) (hs : Ql P f true rows res) (pt : YY P σ c.args.toList c.argTypes.toList = true \/ KA true res) (hf : σ.fresh d = true) (h : Ev P ops bar rest (σ.new d (jN d res) (xD res.flatten)) Q) : j0 P ops bar o rest σ Q := by
 refine ⟨_, .inl ?_, Ja h⟩
 unfold XR; simp only [hg, hd]
 unfold Step
 rw [pP]
 simp only [hc]
 exact .inr (.inl ⟨res, ⟨rows, pX, hs, pt⟩, hf, rfl⟩)
theorem Cr {P : Program} {ops : Array Oper} {bar : Oper -> Bool} {o : Oper} {rest : List Oper} {σ : St} {Q : St -> Prop} {c : Call} {f : FuncId} {d j dj : Nat} {want g own : Bool} {rows : List (List D)} {res : List D} (pP : o.op = .call c) (hc : c.callee = .value (.func f)) (hg : o.guard = some (j, want)) (hd : o.dst = some d)
  (nI : (ops[j]?).bind (·.dst) = some dj) (pa : dj < σ.length) (nP : qQ want (σ.get dj) = some g)
  (pX : g = true -> Qd P σ c.args.toList c.argTypes.toList rows) (hs : g = true -> Ql P f own rows [res]) (pt : YY P σ c.args.toList c.argTypes.toList = true \/ KA own [res]) (h : Ev P ops bar rest (σ.put d (.cnd g (qL [res]))) Q) : j0 P ops bar o rest σ Q := by
 refine ⟨_, .inl ?_, Ja h⟩
 unfold XR; simp only [hg]
 refine ⟨dj, d, g, _, nI, pa, hd, nP, fun hQ => ?_, rfl⟩
 unfold MC
 rw [pP]
 simp only [hc]
 exact ⟨own, res, ⟨rows, pX hQ, hs hQ, pt⟩, rfl⟩
theorem Ep {P : Program} {ops : Array Oper} {bar : Oper -> Bool} {o : Oper} {rest : List Oper} {σ : St} {Q : St -> Prop} {S T : TypeId} {x : Operand} {d : Nat} {s : ByteArray} (pP : o.op = .convert S T x) (hg : o.guard = none) (hd : o.dst = some d)
  (h1 : gOf (look P σ S x) = true) (h2 : TH P S = true) (h3 : OM P T = true) (h4 : unc (look P σ S x) = .one (.d (.str s))) (h5 : s.size <= 9223372036854775807) (h : Ev P ops bar rest (σ.put d (.one (.d (.sl 1 (zK s.data.toList))))) Q) : j0 P ops bar o rest σ Q := by
 refine ⟨_, .inl ?_, Ja h⟩
 unfold XR; simp only [hg, hd]
 unfold Step
 rw [pP]
 exact .inr (.inr ⟨s, h1, h2, h3, h4, h5, rfl⟩)
theorem vy {P : Program} {ops : Array Oper} {bar : Oper -> Bool} {o : Oper} {rest : List Oper} {σ : St} {Q : St -> Prop} {d : Nat} (lq : ∀ c, o.op = .call c -> ∀ f, c.callee ≠ .value (.func f)) (hg : o.guard = none) (hd : o.dst = some d)
  (h1 : (evS P σ o d).1) (h : Ev P ops bar rest (evS P σ o d).2 Q) : j0 P ops bar o rest σ Q := by
 refine ⟨_, .inl ?_, Ja h⟩
 unfold XR; simp only [hg, hd]
 exact vL lq h1
theorem Co {P : Program} {ops : Array Oper} {bar : Oper -> Bool} {o : Oper} {rest : List Oper} {σ : St} {Q : St -> Prop} {c : Call} {f : FuncId} {d : Nat} {rows res : List (List D)} (qs : List Bool) (pP : o.op = .call c) (hc : c.callee = .value (.func f)) (hg : o.guard = none) (hd : o.dst = some d)
  (pX : Qd P σ c.args.toList c.argTypes.toList rows) (hs : Yx P f rows res) (hq : yk qs res.flatten) (hf : σ.fresh d = true) (h : Ev P ops bar rest (σ.new d (jN d res) (YS qs res.flatten)) Q) : j0 P ops bar o rest σ Q := by
 refine ⟨_, .inl ?_, Ja h⟩
 unfold XR; simp only [hg, hd]
 unfold Step
 rw [pP]
 simp only [hc]
 exact .inr (.inr ⟨rows, res, qs, pX, hs, hq, hf, rfl⟩)
def Ku (P : Program) (σ : St) (T : TypeId) (size : Nat) : List (Nat × Operand) -> Nat -> Prop × List (List At)
 | [], _ => (True, [])
 | (i, x) :: ps, k => ((i = k /\ gOf (look P σ T x) = true /\ (unc (look P σ T x)).flat = true /\ (unc (look P σ T x)).cells.length = size) /\ (Ku P σ T size ps (k + 1)).1, (unc (look P σ T x)).cells :: (Ku P σ T size ps (k + 1)).2)
theorem L1 {P : Program} {σ : St} {T : TypeId} {size : Nat} : ∀ {ps : List (Nat × Operand)} {k : Nat}, (Ku P σ T size ps k).1 -> Ox P σ T size ps k (Ku P σ T size ps k).2
 | [], _, _ => rfl
 | (_, x) :: _, _, h => by
  obtain ⟨⟨h1, h2, h3, h4⟩, h7⟩ := h
  exact ⟨h1, h2, h3, h4, _, L1 h7, rfl⟩
theorem wM {P : Program} {ops : Array Oper} {bar : Oper -> Bool} {o : Oper} {rest : List Oper} {σ : St} {Q : St -> Prop} {d : Nat} {T : TypeId} {n : Nat} {parts : Array (Nat × Operand)} (pP : o.op = .buildSlice T n parts) (hg : o.guard = none) (hd : o.dst = some d)
  (h1 : σ.fresh d = true /\ XW P T = true /\ Qg P (ZT P T) = true /\ 0 < P.cellsOf (ZT P T) /\ parts.toList.length = n /\ n * P.cellsOf (ZT P T) <= 16777216) (h2 : (Ku P σ (ZT P T) (P.cellsOf (ZT P T)) parts.toList 0).1)
  (h3 : YU d (Ku P σ (ZT P T) (P.cellsOf (ZT P T)) parts.toList 0).2.flatten = false)
  (h : Ev P ops bar rest (σ.new d (.one (.sref d 0 0 (Ku P σ (ZT P T) (P.cellsOf (ZT P T)) parts.toList 0).2.length)) [.lit (P.cellsOf (ZT P T)) (Ku P σ (ZT P T) (P.cellsOf (ZT P T)) parts.toList 0).2]) Q) : j0 P ops bar o rest σ Q := by
 refine ⟨_, .inl ?_, Ja h⟩
 unfold XR; simp only [hg, hd]
 unfold Step
 rw [pP]
 exact .inl ⟨h1.1, h1.2.1, h1.2.2.1, h1.2.2.2.1, h1.2.2.2.2.1, h1.2.2.2.2.2, .inr ⟨_, L1 h2, h3, rfl⟩⟩
theorem wB {P : Program} {ops : Array Oper} {bar : Oper -> Bool} {o : Oper} {rest : List Oper} {σ : St} {Q : St -> Prop} {d : Nat} {T : TypeId} {n : Nat} {parts : Array (Nat × Operand)} (pP : o.op = .buildSlice T n parts) (hg : o.guard = none) (hd : o.dst = some d)
  (h1 : XW P T = true /\ Qg P (ZT P T) = true /\ 0 < P.cellsOf (ZT P T) /\ parts.toList.length = n /\ n * P.cellsOf (ZT P T) <= 16777216) (h2 : (qo P σ (ZT P T) (P.cellsOf (ZT P T)) parts.toList 0).1)
  (h : Ev P ops bar rest (σ.put d (.one (.d (.sl (P.cellsOf (ZT P T)) (qo P σ (ZT P T) (P.cellsOf (ZT P T)) parts.toList 0).2)))) Q) : j0 P ops bar o rest σ Q := by
 refine ⟨_, .inl ?_, Ja h⟩
 unfold XR; simp only [hg, hd]
 unfold Step
 rw [pP]
 exact .inr ⟨h1, _, ML h2, rfl⟩
def VI (σ : St) (x : V) (size : Nat) : Prop × List (List D) × List (Nat × Nat) :=
 match x with
 | .one (.nil _) => (True, [], [])
 | .one (.sref t j lo len) => (match σ.ob t j with | .arr true s pW => (s = size /\ lo = 0 /\ len = pW.length, pW, [(t, j)]) | _ => (False, [], []))
 | _ => (False, [], [])
theorem AY {σ : St} {x : V} {size : Nat} (h : (VI σ x size).1) : AT σ x size (VI σ x size).2.1 (VI σ x size).2.2 := by
 unfold VI at h ⊢
 split at h
 ·exact ⟨rfl, rfl⟩
 ·rename_i t j lo len
  split at h
  ·rename_i s pW ho
   obtain ⟨rfl, rfl, rfl⟩ := h
   exact ⟨ho, rfl, rfl, rfl⟩
  ·exact h.elim
 ·exact h.elim
def VV (σ : St) (x : V) (size : Nat) : Prop × List (List D) × List (Nat × Nat) :=
 match x with
 | .one (.sref t j lo len) => (match σ.ob t j with | .lit s rows => ((s = size /\ lo = 0 /\ len = rows.length) /\ (KR σ rows).isSome = true /\ Jv σ rows, (KR σ rows).getD [], Yv rows.flatten) | _ => (False, [], []))
 | _ => (False, [], [])
theorem AJ {σ : St} {x : V} {size : Nat} (h : (VV σ x size).1) : AO σ x size (VV σ x size).2.1 (VV σ x size).2.2 := by
 unfold VV at h ⊢
 split at h
 ·rename_i t j lo len
  split at h
  ·rename_i s rows ho
   obtain ⟨⟨rfl, rfl, rfl⟩, h1, h2⟩ := h
   obtain ⟨ns, lq⟩ := Option.isSome_iff_exists.1 h1
   exact ⟨rows, ho, rfl, rfl, by rw [lq]; rfl, h2, rfl⟩
  ·exact h.elim
 ·exact h.elim
theorem ji : ∀ (σ : St) (d : Nat) (v : V) (t : Nat), (σ.put d v)[t]? = if t = d then (σ[t]?).map (fun e => (v, e.2)) else σ[t]?
 | [], _, _, _ => by simp [St.put]
 | e :: σ, 0, v, t => by cases t <;> simp [St.put]
 | e :: σ, d + 1, v, t => by
  cases t with
  | zero => simp [St.put]
  | succ t => have := ji σ d v t; simpa [St.put] using this
theorem yg : ∀ (σ : St) (d : Nat) (v : V) (os : List Ob) (t : Nat), (σ.new d v os)[t]? = if t = d then (σ[t]?).map (fun _ => (v, os)) else σ[t]?
 | [], _, _, _, _ => by simp [St.new]
 | e :: σ, 0, v, os, t => by cases t <;> simp [St.new]
 | e :: σ, d + 1, v, os, t => by
  cases t with
  | zero => simp [St.new]
  | succ t => have := yg σ d v os t; simpa [St.new] using this
theorem Qr : ∀ (σ : St) (a j : Nat) (o : Ob) (t : Nat), (σ.YC a j o)[t]? = if t = a then (σ[t]?).map (fun e => (e.1, e.2.set j o)) else σ[t]?
 | [], _, _, _, _ => by simp [St.YC]
 | e :: σ, 0, j, o, t => by cases t <;> simp [St.YC]
 | e :: σ, a + 1, j, o, t => by
  cases t with
  | zero => simp [St.YC]
  | succ t => have := Qr σ a j o t; simpa [St.YC] using this
theorem qH {σ : St} {d : Nat} : XZ σ d = true ↔ σ[d]? = some (.any, []) \/ ∃ x, σ[d]? = some (.one (.d x), []) := by
 unfold XZ
 constructor
 ·intro h
  split at h
  ·rename_i h1; exact .inl h1
  ·rename_i x h1; exact .inr ⟨x, h1⟩
  ·cases h
 ·rintro (h | ⟨x, h⟩) <;> rw [h]
theorem JD {σ : St} {d a j : Nat} {o : Ob} (h : XZ σ d = true) : XZ (σ.YC a j o) d = true := by
 rw [qH] at *
 rw [Qr]
 rcases h with h | ⟨x, h⟩
 ·left; rw [h]; split <;> rfl
 ·right; refine ⟨x, ?_⟩; rw [h]; split <;> rfl
theorem JG : ∀ {l : List (Nat × Nat)} {σ : St} {d : Nat}, XZ σ d = true -> XZ (σ.Z9 l) d = true
 | [], _, _, h => h
 | p :: l, σ, d, h => by rw [St.Z9]; exact JG (l := l) (JD h)
theorem Ux {σ : St} {d d' : Nat} {v : V} {os : List Ob} (pS : d ≠ d') (h : XZ σ d = true) : XZ (σ.new d' v os) d = true := by
 unfold XZ at *; simp only [yg, if_neg pS]; exact h
theorem XV {P : Program} {σ : St} {d : Nat} {v : V} {T : TypeId} {x : Operand} (h : yr d x = false) : look P (σ.put d v) T x = look P σ T x := by
 cases x with
 | tmp t =>
  have pS : t ≠ d := fun e => by subst e; simp [yr] at h
  simp [look, St.K4, pS]
 | const c => rfl
 | global g => rfl
 | func f => rfl
theorem qJ : ∀ (σ : St) (d : Nat) (v : V) (t j : Nat) (o : Ob), (σ.put d v).YC t j o = (σ.YC t j o).put d v
 | [], _, _, _, _, _ => rfl
 | e :: σ, 0, v, 0, j, o => rfl
 | e :: σ, d + 1, v, 0, j, o => rfl
 | e :: σ, 0, v, t + 1, j, o => rfl
 | e :: σ, d + 1, v, t + 1, j, o => by simp [St.put, St.YC, qJ σ d v t j o]
theorem Vx {d : Nat} {v : V} : ∀ (l : List (Nat × Nat)) (σ : St), (σ.put d v).Z9 l = (σ.Z9 l).put d v
 | [], _ => rfl
 | p :: l, σ => by rw [St.Z9, St.Z9, qJ, Vx l]
theorem MO {σ : St} {d : Nat} {v : V} : ∀ (xs : List At), Jd (σ.put d v) xs = Jd σ xs
 | [] => rfl
 | x :: xs => by
  have : mvD (σ.put d v) x = mvD σ x := by cases x <;> simp [mvD, St.Q7]
  simp only [Jd, this, MO xs]
theorem S9 {σ : St} {d : Nat} {v : V} : ∀ (xs : List At), QI (σ.put d v) xs = QI σ xs
 | [] => rfl
 | x :: xs => by
  have : Gi (σ.put d v) x = Gi σ x := by cases x <;> simp [Gi, St.Q7]
  simp only [QI, this, S9 xs]
theorem Fx : ∀ (l : List (Nat × V)) (σ : St), (σ.KJ l).ob = σ.ob
 | [], _ => rfl
 | p :: l, σ => by rw [St.KJ, Fx l, St.Q7]
theorem NQ {P : Program} {T : TypeId} {x : Operand} : ∀ (l : List (Nat × V)) (σ : St), (∀ p ∈ l, yr p.1 x = false) -> look P (σ.KJ l) T x = look P σ T x
 | [], _, _ => rfl
 | p :: l, σ, h => by rw [St.KJ, NQ l _ (fun q hq => h q (by simp [hq])), XV (h p (by simp))]
theorem Wp {L : List (Nat × Nat)} : ∀ (l : List (Nat × V)) (σ : St), (σ.KJ l).Z9 L = (σ.Z9 L).KJ l
 | [], _ => rfl
 | p :: l, σ => by rw [St.KJ, Wp l, Vx, St.KJ]
theorem BZ : ∀ {σ : St} {t d : Nat} {v v' : V} {os : List Ob}, t ≠ d -> (σ.put t v').new d v os = (σ.new d v os).put t v'
 | [], _, _, _, _, _, _ => rfl
 | e :: σ, 0, 0, _, _, _, h => absurd rfl h
 | e :: σ, 0, d + 1, _, _, _, _ => rfl
 | e :: σ, t + 1, 0, _, _, _, _ => rfl
 | e :: σ, t + 1, d + 1, v, v', os, h => by simp [St.put, St.new, BZ (σ := σ) (v := v) (v' := v') (os := os) (fun hh => h (congrArg (· + 1) hh))]
theorem DH {d : Nat} {v : V} {os : List Ob} : ∀ (l : List (Nat × V)) (σ : St), (∀ p ∈ l, p.1 ≠ d) -> (σ.KJ l).new d v os = (σ.new d v os).KJ l
 | [], _, _ => rfl
 | p :: l, σ, h => by rw [St.KJ, DH l _ (fun q hq => h q (by simp [hq])), BZ (h p (by simp)), St.KJ]
theorem Ry {d : Nat} {v : V} (hv : v.ref d = false) : ∀ {σ : St} {k t : Nat}, z7 d k σ = true -> z7 d k (σ.put t v) = true
 | [], _, _, h => h
 | e :: σ, k, 0, h => by
  simp only [z7, St.put, Bool.and_eq_true, Bool.or_eq_true, Bool.not_eq_true'] at h ⊢
  exact ⟨h.1.imp id (fun hh => ⟨hv, hh.2⟩), h.2⟩
 | e :: σ, k, t + 1, h => by
  simp only [z7, St.put, Bool.and_eq_true] at h ⊢
  exact ⟨h.1, Ry hv h.2⟩
theorem It {d : Nat} : ∀ (l : List (Nat × V)) {σ : St}, (∀ p ∈ l, p.2.ref d = false) -> σ.fresh d = true -> (σ.KJ l).fresh d = true
 | [], _, _, h => h
 | p :: l, σ, hl, h => by
  refine It l (fun q hq => hl q (by simp [hq])) ?_
  simp only [St.fresh, Bool.and_eq_true, decide_eq_true_eq, St.Q0] at h ⊢
  exact ⟨h.1, Ry (hl p (by simp)) h.2⟩
theorem FM {o : Oper} {x y : Operand} {t : TypeId} (pP : o.op = .call ⟨.builtin .append, #[x, y], #[t, t]⟩) {n : Nat} (h : Ml o n = true) : yr n x = false /\ yr n y = false := by
 have hx : x ∈ o.op.operands.toList := by rw [pP]; simp [Op.operands, Call.operands]
 have hy : y ∈ o.op.operands.toList := by rw [pP]; simp [Op.operands, Call.operands]
 simp only [Ml, Bool.not_eq_true'] at h
 exact ⟨Bool.eq_false_iff.2 (List.any_eq_false.1 h x hx), Bool.eq_false_iff.2 (List.any_eq_false.1 h y hy)⟩
theorem CW {σ σ' : St} (h : σ'.ob = σ.ob) : ∀ (xs : List At), Jd σ' xs = Jd σ xs
 | [] => rfl
 | x :: xs => by
  have : mvD σ' x = mvD σ x := by cases x <;> simp [mvD, h]
  simp only [Jd, this, CW h xs]
theorem Iz {σ σ' : St} (h : σ'.ob = σ.ob) : ∀ (xs : List At), QI σ' xs = QI σ xs
 | [] => rfl
 | x :: xs => by
  have : Gi σ' x = Gi σ x := by cases x <;> simp [Gi, h]
  simp only [QI, this, Iz h xs]
theorem FR {σ σ' : St} (h : σ'.ob = σ.ob) : ∀ (xs : List (List At)), KR σ' xs = KR σ xs
 | [] => rfl
 | x :: xs => by simp only [KR, CW h, FR h xs]
theorem Mp {σ σ' : St} (h : σ'.ob = σ.ob) : ∀ (xs : List (List At)), Jv σ' xs = Jv σ xs
 | [] => rfl
 | x :: xs => by simp only [Jv, Iz h, Mp h xs]
theorem vp {σ σ' : St} (h : σ'.ob = σ.ob) {x : V} {size : Nat} {pW : List (List D)} {l : List (Nat × Nat)} (hd : AT σ x size pW l) : AT σ' x size pW l := by
 unfold AT at *; rw [h]; exact hd
theorem vv {σ σ' : St} (h : σ'.ob = σ.ob) {x : V} {size : Nat} {news : List (List D)} {l : List (Nat × Nat)} (hd : AO σ x size news l) : AO σ' x size news l := by
 unfold AO at *
 simp only [h, FR h, Mp h]; exact hd
theorem FQ {d : Nat} : ∀ {os : List Ob} {j : Nat} {cells : List At}, Y0 d os = false -> Yo os j = .box cells -> YU d cells = false
 | [], j, cells, _, h => by simp [Yo] at h
 | o :: os, 0, cells, hr, h => by
  simp only [Yo, List.getElem?_cons_zero] at h
  subst h
  simp only [Y0, Bool.or_eq_false_iff] at hr; exact hr.1
 | o :: os, j + 1, cells, hr, h => by
  have h' : Yo os j = .box cells := by simpa [Yo] using h
  refine FQ (os := os) (j := j) ?_ h'
  cases o <;> simp only [Y0, Bool.or_eq_false_iff] at hr <;> first | exact hr.2 | exact hr
theorem w8 {P : Program} {ops : Array Oper} {o : Oper} {σ X : St} {d : Nat} {v : V} {os : List Ob} (hd : o.dst = some d) (hlen : X.length = σ.length) (od : ∀ t, X.get t = σ.get t) (nt : ∀ t j cells, X.ob t j = .box cells -> σ.ob t j = .box cells)
  (o8 : ∀ t j q s rows, X.ob t j = .arr q s rows -> ∃ ph, σ.ob t j = .arr q s ph) (hf : X.fresh d = true)
  (hs : ∀ l : List (Nat × V), (∀ p ∈ l, p.1 ≠ d /\ Ml o p.1 = true /\ p.2.ref d = false) -> SY P ops o (σ.KJ l) ((X.KJ l).new d v os)) (hc : ∀ l : List (Nat × V), MF o (σ.KJ l) ((X.KJ l).new d v os)) : sL P ops o σ (X.new d v os) := by
 have pa := St.yh hf
 have dH : ∀ t e, X[t]? = some e -> t ≠ d -> e.1.ref d = false /\ Y0 d e.2 = false := fun t e he pS => by
  have h1 := hf
  simp only [St.fresh, Bool.and_eq_true] at h1
  exact y5 h1.2 t e he (by omega)
 refine ⟨d, hd, by rw [St.kE, hlen], fun t pS => ?_, fun t j cells pS hb => ?_, fun t j q s rows pS hb => ?_, fun l hl => ?_⟩
 ·rw [St.Wi, if_neg (fun hh => pS hh.1), od]
  refine ⟨rfl, ?_⟩
  rw [<- od]
  unfold St.get
  cases he : X[t]? with
  | none => rfl
  | some e => exact (dH t e he pS).1
 ·rw [St.Jx, if_neg (fun hh => pS hh.1)] at hb
  refine ⟨nt t j cells hb, ?_⟩
  unfold St.ob at hb
  cases he : X[t]? with
  | none => rw [he] at hb; cases hb
  | some e => rw [he] at hb; exact FQ (dH t e he pS).2 hb
 ·rw [St.Jx, if_neg (fun hh => pS hh.1)] at hb
  exact o8 t j q s rows hb
 ·have e := DH (d := d) (v := v) (os := os) l X (fun p hp => (hl p hp).1)
  rw [<- e]
  exact ⟨hs l hl, hc l⟩
theorem wx {σ : St} {L : List (Nat × Nat)} {t j : Nat} {cells : List At} (h : (σ.Z9 L).ob t j = .box cells) : σ.ob t j = .box cells := by
 rw [St.Kn] at h
 split at h
 ·cases h
 ·exact h
theorem wF {σ : St} {L : List (Nat × Nat)} {t j : Nat} {q : Bool} {s : Nat} {rows : List (List D)} (h : (σ.Z9 L).ob t j = .arr q s rows) : σ.ob t j = .arr q s rows := by
 rw [St.Kn] at h
 split at h
 ·cases h
 ·exact h
theorem vA {P : Program} {ops : Array Oper} {bar : Oper -> Bool} {o : Oper} {rest : List Oper} {σ : St} {Q : St -> Prop} {d : Nat} {x y : Operand} {t : TypeId} {pW news : List (List D)} {l1 l2 : List (Nat × Nat)} {size : Nat} (pP : o.op = .call ⟨.builtin .append, #[x, y], #[t, t]⟩) (hg : o.guard = none) (hd : o.dst = some d) (oQ : bar o = true)
  (oy : size = P.cellsOf (ZT P t)) (h1 : gOf (look P σ t x) = true /\ gOf (look P σ t y) = true /\ XW P t = true /\ Qg P (ZT P t) = true /\ 0 < P.cellsOf (ZT P t))
  (h2 : (VI σ (unc (look P σ t x)) size).1 /\ (VI σ (unc (look P σ t x)) size).2 = (pW, l1)) (h3 : (VV σ (unc (look P σ t y)) size).1 /\ (VV σ (unc (look P σ t y)) size).2 = (news, l2))
  (h4 : (l1 ++ l2).Nodup /\ (σ.Z9 (l1 ++ l2)).fresh d = true) (h5 : (pW.length + news.length) * P.bytesOf (ZT P t) <= 140737488355328 /\ pW.length + news.length <= 9223372036854775807)
  (h : Ev P ops bar rest ((σ.Z9 (l1 ++ l2)).new d (.one (.sref d 0 0 (pW.length + news.length))) [.arr true size (pW ++ news)]) Q) : j0 P ops bar o rest σ Q := by
 subst oy
 have e1 := AY h2.1
 have e2 := AJ h3.1
 rw [h2.2] at e1
 rw [h3.2] at e2
 have cl : ∀ σ0 : St, MF o σ0 ((σ0.Z9 (l1 ++ l2)).new d (.one (.sref d 0 0 (pW.length + news.length))) [.arr true (P.cellsOf (ZT P t)) (pW ++ news)]) := fun σ0 d' pd hc => Ux (fun e => pd (by rw [hd, e])) (JG hc)
 have go : ∀ l : List (Nat × V), (∀ p ∈ l, p.1 ≠ d /\ Ml o p.1 = true /\ p.2.ref d = false) -> SY P ops o (σ.KJ l) (((σ.KJ l).Z9 (l1 ++ l2)).new d (.one (.sref d 0 0 (pW.length + news.length))) [.arr true (P.cellsOf (ZT P t)) (pW ++ news)]) := by
  rintro l hl T0 B a w K Q' ⟨X, hh, r⟩ hK
  have hw : Region.wanted o (yielded ops a.tmps) = true := by simp [Region.wanted, hg]
  rw [if_pos hw]
  have lx : look P (σ.KJ l) t x = look P σ t x := NQ l σ (fun p hp => (FM pP (hl p hp).2.1).1)
  have ly : look P (σ.KJ l) t y = look P σ t y := NQ l σ (fun p hp => (FM pP (hl p hp).2.1).2)
  refine GS r pP hd (by rw [lx]; exact h1.1) (by rw [ly]; exact h1.2.1) h1.2.2.1 h1.2.2.2.1 h1.2.2.2.2 (by rw [lx]; exact vp (Fx l σ) e1) (by rw [ly]; exact vv (Fx l σ) e2) h4.1 ?_ h5.1 h5.2 hK
  rw [Wp]
  exact It l (fun p hp => (hl p hp).2.2) h4.2
 have go0 : SY P ops o σ ((σ.Z9 (l1 ++ l2)).new d (.one (.sref d 0 0 (pW.length + news.length))) [.arr true (P.cellsOf (ZT P t)) (pW ++ news)]) := go [] (fun p hp => by cases hp)
 refine ⟨_, .inr ⟨oQ, go0, cl σ, fun hh => by simp [Uc, pP] at hh, fun _ => w8 hd (St.Kk _ _) (fun t => St.xf _ _ t) (fun t j cells hb => wx hb) (fun t j q s rows hb => ⟨rows, wF hb⟩) h4.2 (fun l hl => ?_) (fun l => ?_), fun hh _ => by first | (simp [Kj, pP] at hh; done) | (unfold Kj at hh; rw [pP] at hh; split at hh <;> simp_all)⟩, Ja h⟩
 ·rw [<- Wp]; exact go l hl
 ·rw [<- Wp]; exact cl _
theorem DP {f : At -> Bool} {v : V} (hv : v.zi f = false) : ∀ {σ : St} {d : Nat}, σ.zi f = false -> (σ.put d v).zi f = false
 | [], _, _ => rfl
 | e :: σ, 0, h => by simp only [St.zi, Bool.or_eq_false_iff] at h; simp [St.put, St.zi, hv, h.1.2, h.2]
 | e :: σ, d + 1, h => by simp only [St.zi, Bool.or_eq_false_iff] at h; simp [St.put, St.zi, h.1.1, h.1.2, DP hv h.2]
theorem Mm {σ : St} : ∀ {xs : List At} {ds : List D}, Jd σ xs = some ds -> ∀ p ∈ Yv xs, ∃ q s rows, σ.ob p.1 p.2 = .arr q s rows
 | [], _, _, p, hp => by cases hp
 | x :: xs, ds, h, p, hp => by
  simp only [Jd] at h
  split at h
  ·rename_i d iZ h1 h2
   have ih := Mm h2
   cases x with
   | sref t j lo len =>
    simp only [Yv, List.mem_cons] at hp
    rcases hp with rfl | hp
    ·simp only [mvD] at h1
     split at h1
     ·rename_i q s rows ho; exact ⟨q, s, rows, ho⟩
     ·cases h1
    ·exact ih p hp
   | _ => exact ih p hp
  ·cases h
theorem MJ {σ : St} {L : List (Nat × Nat)} {t j t' size oA : Nat} {q q' : Bool} {rows ph : List (List D)} {cells : List At} {xs : List At} {ds : List D} (hm : Jd σ xs = some ds) (hL : Yv xs = L) (ho : σ.ob t j = .arr q size rows) (hn : (t, j) ∉ L) (hb : σ.ob t' 0 = .box cells) :
  ((σ.Z9 L).YC t j (.arr q' oA ph)).ob t' 0 = .box cells := by
 have h1 : (σ.Z9 L).ob t j ≠ .none := by rw [St.Kn, if_neg hn, ho]; simp
 rw [St.JC _ t j _ t' 0 h1]
 split
 ·rename_i hc; rw [hc.1, hc.2, ho] at hb; cases hb
 ·rw [St.Kn]
  split
  ·rename_i hc
   obtain ⟨q, s, rows, he⟩ := Mm hm (t', 0) (by rw [hL]; exact hc)
   rw [he] at hb; cases hb
  ·exact hb
structure StM (P : Program) (σ : St) (T : TypeId) (x y : Operand) (t j i c size : Nat) (rows : List (List D)) (ds : List D) (l : List (Nat × Nat)) : Prop where
 hx : unc (look P σ 0 x) = .one (.ptr t j i c)
 ho : σ.ob t j = .arr true size rows
 hi : i < rows.length
 h1 : xo P T = true /\ gOf (look P σ 0 x) = true /\ gOf (look P σ T y) = true /\ (unc (look P σ T y)).flat = true
 h2 : Jd σ (unc (look P σ T y)).cells = some ds
 h3 : QI σ (unc (look P σ T y)).cells
 h4 : Yv (unc (look P σ T y)).cells = l
 h5 : l.Nodup /\ (t, j) ∉ l /\ (σ.Z9 l).zi (At.isT t) = false
 h6 : ds.length = P.cellsOf T /\ c + P.cellsOf T <= size
theorem StM.KJ {P : Program} {o : Oper} {T : TypeId} {x y : Operand} (pP : o.op = .store T x y) {t j i c size : Nat} {rows : List (List D)} {ds : List D} {l : List (Nat × Nat)} : ∀ (q : List (Nat × V)) {σ : St}, (∀ p ∈ q, Wr o p.1 = true /\ MA p.2 = true) -> StM P σ T x y t j i c size rows ds l -> StM P (σ.KJ q) T x y t j i c size rows ds l
 | [], _, _, h => h
 | p :: q, σ, hq, h => by
  refine StM.KJ pP q (fun p' iy => hq p' (by simp [iy])) ?_
  obtain ⟨hu, hp⟩ := hq p (by simp)
  simp only [Wr, pP, Bool.and_eq_true, Bool.not_eq_true'] at hu
  have hv : p.2.zi (At.isT t) = false := by
   generalize p.2 = v at hp
   unfold MA at hp
   split at hp <;> first | rfl | cases hp
  refine ⟨?_, ?_, h.hi, ?_, ?_, ?_, ?_, ⟨h.h5.1, h.h5.2.1, ?_⟩, h.h6⟩
  ·rw [XV hu.1]; exact h.hx
  ·rw [St.Q7]; exact h.ho
  ·rw [XV hu.1, XV hu.2]; exact h.h1
  ·rw [XV hu.2, MO]; exact h.h2
  ·rw [XV hu.2, S9]; exact h.h3
  ·rw [XV hu.2]; exact h.h4
  ·rw [Vx]; exact DP hv h.h5.2.2
theorem O3 {l : List (Nat × Nat)} {t j : Nat} {ob : Ob} : ∀ (q : List (Nat × V)) (σ : St), ((σ.KJ q).Z9 l).YC t j ob = ((σ.Z9 l).YC t j ob).KJ q
 | [], _ => rfl
 | p :: q, σ => by rw [St.KJ, St.KJ, O3 q, Vx, qJ]
theorem Ni {P : Program} {ops : Array Oper} {o : Oper} {σ : St} {T : TypeId} {x y : Operand} {t j i c size : Nat} {rows : List (List D)} {ds : List D} {l : List (Nat × Nat)} (pP : o.op = .store T x y) (hg : o.guard = none) (hd : o.dst = none) (h : StM P σ T x y t j i c size rows ds l) :
  SY P ops o σ ((σ.Z9 l).YC t j (.arr true size (rows.set i (place (rowAt rows i) c ds)))) := by
 obtain ⟨hx, ho, hi, h1, h2, h3, h4, h5, h6⟩ := h
 subst h4
 rintro T0 B a w K Q' ⟨X, hh, r⟩ hK
 have hw : Region.wanted o (yielded ops a.tmps) = true := by simp [Region.wanted, hg]
 rw [if_pos hw]
 exact M8 r pP hd h1.1 h1.2.1 h1.2.2.1 hx ho hi h1.2.2.2 h2 h3 h5.1 h5.2.1 h5.2.2 h6.1 h6.2 hK
theorem wY {P : Program} {ops : Array Oper} {bar : Oper -> Bool} {o : Oper} {rest : List Oper} {σ : St} {Q : St -> Prop} {T : TypeId} {x y : Operand} {t j i c size : Nat} {rows : List (List D)} {ds : List D} {l : List (Nat × Nat)} (pP : o.op = .store T x y) (hg : o.guard = none) (hd : o.dst = none) (oQ : bar o = true)
  (hx : unc (look P σ 0 x) = .one (.ptr t j i c)) (ho : σ.ob t j = .arr true size rows) (hi : i < rows.length) (h1 : xo P T = true /\ gOf (look P σ 0 x) = true /\ gOf (look P σ T y) = true /\ (unc (look P σ T y)).flat = true)
  (h2 : Jd σ (unc (look P σ T y)).cells = some ds) (h3 : QI σ (unc (look P σ T y)).cells) (h4 : Yv (unc (look P σ T y)).cells = l) (h5 : l.Nodup /\ (t, j) ∉ l /\ (σ.Z9 l).zi (At.isT t) = false) (h6 : ds.length = P.cellsOf T /\ c + P.cellsOf T <= size)
  (h : Ev P ops bar rest ((σ.Z9 l).YC t j (.arr true size (rows.set i (place (rowAt rows i) c ds)))) Q) : j0 P ops bar o rest σ Q := by
 have hm : StM P σ T x y t j i c size rows ds l := ⟨hx, ho, hi, h1, h2, h3, h4, h5, h6⟩
 refine ⟨_, .inr ⟨oQ, Ni pP hg hd hm, fun d' _ hc => JD (JG hc), fun _ => ⟨⟨by rw [St.Xa, St.Kk], fun u => by rw [St.QL, St.xf]⟩, fun q hq => ?_, fun t' cells hb => ?_⟩, fun hh => by simp [j8, pP] at hh, fun hh _ => by simp [Kj, pP] at hh⟩, Ja h⟩
 ·rw [<- O3]
  exact ⟨Ni pP hg hd (hm.KJ pP q hq), fun d' _ hc => JD (JG hc)⟩
 ·exact MJ hm.h2 hm.h4 hm.ho hm.h5.2.1 hb
theorem FY {P : Program} {ops : Array Oper} {o : Oper} {σ : St} {T : TypeId} {x y : Operand} {t j i size : Nat} {rows : List (List D)} {ds : List D} {l : List (Nat × Nat)} (pP : o.op = .store T x y) (hg : o.guard = none) (hd : o.dst = none) (nf : ds.length = size) (h : StM P σ T x y t j i 0 size rows ds l) :
  SY P ops o σ ((σ.Z9 l).YC t j (.arr true size (rows.set i ds))) := by
 rintro T0 B a w K Q' ⟨X, hh, r⟩ hK
 refine Ni pP hg hd h T0 B a w K Q' ⟨X, hh, r⟩ ?_
 have h0 := r.obj t j
 rw [h.ho] at h0
 obtain ⟨_, _, _, hz, _⟩ := h0
 have e : place (rowAt rows i) 0 ds = ds := by
  have hr : (rowAt rows i).length = size := by
   have : rowAt rows i = rows[i]'h.hi := by simp [rowAt, List.getD_eq_getElem?_getD, List.getElem?_eq_getElem h.hi]
   rw [this]; exact hz _ (List.getElem_mem h.hi)
  unfold place
  rw [List.take_zero, List.nil_append, List.drop_eq_nil_of_le (by omega), List.append_nil]
 rw [e]; exact hK
theorem vF {P : Program} {ops : Array Oper} {bar : Oper -> Bool} {o : Oper} {rest : List Oper} {σ : St} {Q : St -> Prop} {T : TypeId} {x y : Operand} {t j i size : Nat} {rows : List (List D)} {ds : List D} {l : List (Nat × Nat)} (pP : o.op = .store T x y) (hg : o.guard = none) (hd : o.dst = none) (oQ : bar o = true)
  (hx : unc (look P σ 0 x) = .one (.ptr t j i 0)) (ho : σ.ob t j = .arr true size rows) (hi : i < rows.length) (h1 : xo P T = true /\ gOf (look P σ 0 x) = true /\ gOf (look P σ T y) = true /\ (unc (look P σ T y)).flat = true)
  (h2 : Jd σ (unc (look P σ T y)).cells = some ds) (h3 : QI σ (unc (look P σ T y)).cells) (h4 : Yv (unc (look P σ T y)).cells = l) (h5 : l.Nodup /\ (t, j) ∉ l /\ (σ.Z9 l).zi (At.isT t) = false) (h6 : ds.length = P.cellsOf T /\ P.cellsOf T = size)
  (h : Ev P ops bar rest ((σ.Z9 l).YC t j (.arr true size (rows.set i ds))) Q) : j0 P ops bar o rest σ Q := by
 have hm : StM P σ T x y t j i 0 size rows ds l := ⟨hx, ho, hi, h1, h2, h3, h4, h5, h6.1, by omega⟩
 have hf : ds.length = size := by omega
 refine ⟨_, .inr ⟨oQ, FY pP hg hd hf hm, fun d' _ hc => JD (JG hc), fun _ => ⟨⟨by rw [St.Xa, St.Kk], fun u => by rw [St.QL, St.xf]⟩, fun q hq => ?_, fun t' cells hb => ?_⟩, fun hh => by simp [j8, pP] at hh, fun hh _ => by simp [Kj, pP] at hh⟩, Ja h⟩
 ·rw [<- O3]
  exact ⟨FY pP hg hd hf (hm.KJ pP q hq), fun d' _ hc => JD (JG hc)⟩
 ·exact MJ hm.h2 hm.h4 hm.ho hm.h5.2.1 hb
structure StN (P : Program) (σ : St) (T : TypeId) (x y : Operand) (t j i c k q n size : Nat) (s rows : List (List D)) (ds : List D) (l : List (Nat × Nat)) : Prop where
 hx : unc (look P σ 0 x) = .one (.tref t j i c (some (k * n + q)))
 ho : σ.ob t j = .arr true size rows
 hi : i < rows.length
 hc : (rows.getD i [])[c]? = some (.sl n s)
 hk : k < s.length
 h1 : xo P T = true /\ gOf (look P σ 0 x) = true /\ gOf (look P σ T y) = true /\ (unc (look P σ T y)).flat = true
 h2 : Jd σ (unc (look P σ T y)).cells = some ds
 h3 : QI σ (unc (look P σ T y)).cells
 h4 : Yv (unc (look P σ T y)).cells = l
 h5 : l.Nodup /\ (t, j) ∉ l
 h6 : ds.length = P.cellsOf T /\ q + P.cellsOf T <= n
theorem StN.KJ {P : Program} {o : Oper} {T : TypeId} {x y : Operand} (pP : o.op = .store T x y) {t j i c k n0 n size : Nat} {s rows : List (List D)} {ds : List D} {l : List (Nat × Nat)} : ∀ (q : List (Nat × V)) {σ : St}, (∀ p ∈ q, Wr o p.1 = true /\ MA p.2 = true) -> StN P σ T x y t j i c k n0 n size s rows ds l -> StN P (σ.KJ q) T x y t j i c k n0 n size s rows ds l
 | [], _, _, h => h
 | p :: q, σ, hq, h => by
  refine StN.KJ pP q (fun p' iy => hq p' (by simp [iy])) ?_
  obtain ⟨hu, hp⟩ := hq p (by simp)
  simp only [Wr, pP, Bool.and_eq_true, Bool.not_eq_true'] at hu
  refine ⟨?_, ?_, h.hi, h.hc, h.hk, ?_, ?_, ?_, ?_, h.h5, h.h6⟩
  ·rw [XV hu.1]; exact h.hx
  ·rw [St.Q7]; exact h.ho
  ·rw [XV hu.1, XV hu.2]; exact h.h1
  ·rw [XV hu.2, MO]; exact h.h2
  ·rw [XV hu.2, S9]; exact h.h3
  ·rw [XV hu.2]; exact h.h4
theorem FX {P : Program} {ops : Array Oper} {o : Oper} {σ : St} {T : TypeId} {x y : Operand} {t j i c k q n size : Nat} {s rows : List (List D)} {ds : List D} {l : List (Nat × Nat)} (pP : o.op = .store T x y) (hg : o.guard = none) (hd : o.dst = none) (h : StN P σ T x y t j i c k q n size s rows ds l) :
  SY P ops o σ ((σ.Z9 l).YC t j (.arr true size (rows.set i (place (rowAt rows i) c [.sl n (s.set k (place (rowAt s k) q ds))])))) := by
 obtain ⟨hx, ho, hi, hc, hk, h1, h2, h3, h4, h5, h6⟩ := h
 subst h4
 rintro T0 B a w K Q' ⟨X, hh, r⟩ hK
 have hw : Region.wanted o (yielded ops a.tmps) = true := by simp [Region.wanted, hg]
 rw [if_pos hw]
 exact LW r pP hd h1.1 h1.2.1 h1.2.2.1 hx ho hi hc hk h1.2.2.2 h2 h3 h5.1 h5.2 h6.1 h6.2 hK
theorem wg {P : Program} {ops : Array Oper} {bar : Oper -> Bool} {o : Oper} {rest : List Oper} {σ : St} {Q : St -> Prop} {T : TypeId} {x y : Operand} {t j i c k q n size : Nat} {s rows : List (List D)} {ds : List D} {l : List (Nat × Nat)} (pP : o.op = .store T x y) (hg : o.guard = none) (hd : o.dst = none) (oQ : bar o = true)
  (hm : StN P σ T x y t j i c k q n size s rows ds l)
  (h : Ev P ops bar rest ((σ.Z9 l).YC t j (.arr true size (rows.set i (place (rowAt rows i) c [.sl n (s.set k (place (rowAt s k) q ds))])))) Q) : j0 P ops bar o rest σ Q := by
 refine ⟨_, .inr ⟨oQ, FX pP hg hd hm, fun d' _ hc => JD (JG hc), fun _ => ⟨⟨by rw [St.Xa, St.Kk], fun u => by rw [St.QL, St.xf]⟩, fun q hq => ?_, fun t' cells hb => ?_⟩, fun hh => by simp [j8, pP] at hh, fun hh _ => by simp [Kj, pP] at hh⟩, Ja h⟩
 ·rw [<- O3]
  exact ⟨FX pP hg hd (hm.KJ pP q hq), fun d' _ hc => JD (JG hc)⟩
 ·exact MJ hm.h2 hm.h4 hm.ho hm.h5.2 hb
end Go.Vm
namespace Go.Vm
open Go.RowKit
def Pg (P : Program) (σ : St) : ResultVar -> Prop × List At
 | .tmp t => (match σ.get t with
  | .one x => (t < σ.length, [x])
  | .agg [] => (t < σ.length, [])
  | .agg (x :: y :: xs) => (t < σ.length, x :: y :: xs)
  | _ => (False, []))
 | .cell t T => (match σ.get t with
  | .one (.bptr u c) => (match σ.ob u 0 with
    | .box cells => (xo P T = true /\ Um P T = true /\ P.cellsOf T ≠ 1 /\ c + P.cellsOf T <= cells.length, cut cells c (P.cellsOf T))
    | _ => (False, []))
  | _ => (False, []))
def Jn (P : Program) (σ : St) : List ResultVar -> Prop × List (List At)
 | [] => (True, [])
 | r :: rs => ((Pg P σ r).1 /\ (Jn P σ rs).1, (Pg P σ r).2 :: (Jn P σ rs).2)
theorem AK {P : Program} {σ : St} {r : ResultVar} (h : (Pg P σ r).1) : L6 P σ r (Pg P σ r).2 := by
 cases r with
 | tmp t =>
  simp only [Pg] at h ⊢
  simp only [L6]
  cases hx : σ.get t with
  | one x => rw [hx] at h; exact ⟨rfl, h⟩
  | agg xs =>
   rw [hx] at h
   match xs, h with
   | [], h => exact ⟨rfl, h⟩
   | [x], h => exact h.elim
   | x :: y :: xs, h => exact ⟨rfl, h⟩
  | any => rw [hx] at h; exact h.elim
  | tup xs => rw [hx] at h; exact h.elim
  | cnd g x => rw [hx] at h; exact h.elim
  | fix u x => rw [hx] at h; exact h.elim
 | cell t T =>
  simp only [Pg] at h ⊢
  split at h
  ·rename_i u c hx
   split at h
   ·rename_i cells ho
    exact ⟨u, c, cells, hx, ho, h.1, h.2.1, h.2.2.1, h.2.2.2, rfl⟩
   ·exact h.elim
  ·exact h.elim
theorem U3 {P : Program} {σ : St} : ∀ {rs : List ResultVar}, (Jn P σ rs).1 -> TT P σ rs (Jn P σ rs).2
 | [], _ => rfl
 | _ :: _, h => ⟨_, _, AK h.1, U3 h.2, rfl⟩
theorem uZ {P : Program} {fn : Func} {σ : St} {res : List (List D)} {rv : List ResultVar} (hf : fn.results = rv.toArray) (h : (Jn P σ rv).1 /\ kI σ (Jn P σ rv).2 = some res) : Dx P fn false res .ret σ :=
 ⟨.inl rfl, _, by rw [hf]; exact U3 h.1, by simpa using h.2⟩
theorem ta {P : Program} {fn : Func} {σ : St} {res : List (List D)} {rv : List ResultVar} (hf : fn.results = rv.toArray) (h : (Jn P σ rv).1 /\ UD σ (Jn P σ rv).2 = some res /\ (Yv (Jn P σ rv).2.flatten).Nodup) : Dx P fn true res .ret σ :=
 ⟨.inl rfl, _, by rw [hf]; exact U3 h.1, by simpa using h.2⟩
theorem Cb {P : Program} {fn : Func} {σ : St} {res : List (List D)} {rv : List ResultVar} (hf : fn.results = rv.toArray) (h : (Jn P σ rv).1 /\ KR σ (Jn P σ rv).2 = some res /\ Jv σ (Jn P σ rv).2 /\ (Yv (Jn P σ rv).2.flatten).Nodup) : AI P fn res .ret σ :=
 ⟨.inl rfl, _, by rw [hf]; exact U3 h.1, h.2⟩
attribute [simp] s8 KR Jd mvD Jv QI Gi YS yk Ku VI VV St.Z9 Ce Bv ED tL WS TR FD St.zi V.zi V.Dk FB UT yT At.isT
attribute [simp] isB bOf Ev stops sJ PR evS D2 evV FC BL S4 SB yL TP qo Tv O7 lkI lkK Vm.look cst unc gOf qQ V.flat V.cells St.put St.YC St.new St.wH St.Ax St.uF St.v7 Gx kH Aw
 HC S8 ldV cut place rowOf zz Kx At.Ey Qd V.Ks YY qL jN Gy vOf KL xD Jn Pg kI UD ownRow jT Yv jQ Pl YU At.ref D.scalar KA D.Ej zD uE Qh
end Go.Vm
namespace Go.Vm
open Go.RowKit
section
variable {P : Program} {T0 : CS} {B : Nat -> Prop} {σ : St} {a : Act} {w w' : World} {X X' : Nat -> Prop} {h : Nat -> Nat -> Hd}
theorem EL {cs : List Value} {row : List D} {S : Nat -> Prop} (ho : KM w cs row S) : ∃ (hf : Nat -> Hd) (Sk : Nat -> Nat -> Prop), (∀ j c, cs[j]? = some c -> (hf j).v = c) /\ (∀ k b, Sk k b -> S b) /\ (∀ i j b, Sk i b -> Sk j b -> i = j) /\
  ∀ j size rows, row[j]? = some (.sl size rows) -> (∀ b, (hf j).u b -> Sk j b) /\ (∀ b, blk (hf j).v = some b -> (hf j).u b) /\ ∀ T h ob, J3 T h ob w (hf j) (.arr true size rows) := by
 obtain ⟨hl, Sk, h1, h2, h3⟩ := ho
 have hex : ∀ j, ∃ hd : Hd, (∀ c, cs[j]? = some c -> hd.v = c) /\ (∀ size rows, row[j]? = some (.sl size rows) -> (∀ b, hd.u b -> Sk j b) /\ (∀ b, blk hd.v = some b -> hd.u b) /\ ∀ T h ob, J3 T h ob w hd (.arr true size rows)) := by
  intro j
  cases hj : row[j]? with
  | none => exact ⟨Hd.of ((cs[j]?).getD undef), fun c oL => by simp [Hd.of, oL], fun size rows hh => by cases hh⟩
  | some dd =>
   have hR : j < cs.length := by rw [hl]; exact (List.getElem?_eq_some_iff.1 hj).1
   have ib : cs[j]? = some cs[j] := List.getElem?_eq_getElem hR
   cases dd with
   | int k n => exact ⟨Hd.of cs[j], fun c oL => by rw [ib] at oL; cases oL; rfl, fun size rows hh => by cases hh⟩
   | bool k => exact ⟨Hd.of cs[j], fun c oL => by rw [ib] at oL; cases oL; rfl, fun size rows hh => by cases hh⟩
   | str k => exact ⟨Hd.of cs[j], fun c oL => by rw [ib] at oL; cases oL; rfl, fun size rows hh => by cases hh⟩
   | unk => exact ⟨Hd.of cs[j], fun c oL => by rw [ib] at oL; cases oL; rfl, fun size rows hh => by cases hh⟩
   | sl size rows =>
    have ho := h1 j _ _ ib hj
    generalize hv : cs[j] = v at ho
    cases ho with
    | sl v size rows S e xs gj ho hz hb hl hk gu pd =>
     refine ⟨⟨v, fun k => (xs[k]?).getD undef, Sk j⟩, fun c oL => by rw [ib, hv] at oL; cases oL; rfl, fun oA ph hh => ?_⟩
     cases hh
     exact ⟨fun b hb => hb, hb, fun T h ob => ⟨e, xs, ho, hz, ⟨hl, gj, hk, fun k b hb => gu k b hb, pd⟩, fun k x d hx _ _ => by simp [hx]⟩⟩
 obtain ⟨hf, hC⟩ := Classical.axiomOfChoice hex
 exact ⟨hf, Sk, fun j => (hC j).1, h2, h3, fun j => (hC j).2⟩
theorem KM.top {T : CS} {cs : List Value} {row : List D} {S : Nat -> Prop} (ho : KM w cs row S) : YB (ke T w) cs row := by
 obtain ⟨hl, Sk, h1, h2, h3⟩ := ho
 refine YB.xC hl (fun k x d hx hd => ?_)
 have ho := h1 k x d hx hd
 cases ho with
 | int k n => exact Rd.int _ _
 | bool b => exact Rd.bool _
 | str s => exact Rd.str _
 | unk v h => exact Rd.unk _ h
 | sl v size rows S e xs gj ho hz hb hl hk gu pd => exact ⟨e, xs, ho⟩
def tu (n : Nat) (v : Value) (row : List D) (args : List (List D)) : St := (.fix v (vOf (KL 0 0 row)), YS [] row) :: (Pl args ++ List.replicate (n - (args.length + 1)) (V.any, []))
def St.tG : St -> List At -> List D -> St
 | σ, .sref t j _ _ :: xs, .sl size rows :: ds => St.tG (σ.YC t j (.arr true size rows)) xs ds
 | σ, _ :: xs, _ :: ds => St.tG σ xs ds
 | σ, _, _ => σ
def Fw : List D -> List D -> Prop
 | .sl s r :: ds, .sl s' r' :: iZ => s = s' /\ r.length = r'.length /\ Fw ds iZ
 | .sl _ _ :: _, _ => False
 | _ :: ds, _ :: iZ => Fw ds iZ
 | [], [] => True
 | _, _ => False
def C1 (σ : St) : List At -> Prop
 | [] => True
 | .sref t j _ _ :: xs => (match σ.ob t j with | .arr true _ _ => True | _ => False) /\ C1 σ xs
 | _ :: xs => C1 σ xs
def At.sw : At -> Bool
 | .tref _ _ _ _ _ => true
 | _ => false
theorem RZ : ∀ {xs : List At} {t j : Nat}, (t, j) ∈ Yv xs -> ∃ (k lo len : Nat), xs[k]? = some (At.sref t j lo len)
 | [], t, j, h => by cases h
 | x :: xs, t, j, h => by
  cases x with
  | sref t' j' lo len =>
   simp only [Yv, List.mem_cons, Prod.mk.injEq] at h
   rcases h with ⟨rfl, rfl⟩ | h
   ·exact ⟨0, lo, len, rfl⟩
   ·obtain ⟨k, lo, len, hk⟩ := RZ h; exact ⟨k + 1, lo, len, by simpa using hk⟩
  | _ => obtain ⟨k, lo, len, hk⟩ := RZ (xs := xs) h; exact ⟨k + 1, lo, len, by simpa using hk⟩
end
theorem Nt {σ : St} {d d' : Nat} {v : V} (pS : d ≠ d') (h : XZ σ d = true) : XZ (σ.put d' v) d = true := by
 unfold XZ at *; simp only [ji, if_neg pS]; exact h
end Go.Vm
