/- An abstract machine OB the model of Go, by value, and that it is sound: part Vf. No condition. -/
import Derived.Test.YtnldgbpopofnoaaGreatVb
set_option linter.unusedVariables false
set_option linter.unusedSimpArgs false
namespace Go.Vm
open Go.RowKit
def HW (P : Program) (σ : St) (c : Call) (f : FuncId) (own : Bool) (res : List (List D)) : Prop :=
 ∃ rows, Xg P σ c.args.toList c.argTypes.toList rows /\ Xm P f own rows res /\ (YI P σ c.args.toList c.argTypes.toList = true \/ Qn own res)
def Step (P : Program) (o : Oper) (d : Nat) (σ σ' : St) : Prop :=
 match o.op with
 | .alloc T => σ.fresh d = true /\ Xy P T = true /\ ∃ row, qF P 12 T = some row /\ σ' = σ.new d (.one (.bptr d 0)) [.box row]
 | .box T x => σ.fresh d = true /\ gOf (look P σ T x) = true /\ (unc (look P σ T x)).flat = true /\ YG d (unc (look P σ T x)).cells = false /\ σ' = σ.new d (.one (.bptr d 0)) [.box (unc (look P σ T x)).cells]
 | .buildSlice T n parts => (σ.fresh d = true /\ XC P T = true /\ Xy P (ZP P T) = true /\ 0 < P.cellsOf (ZP P T) /\ parts.toList.length = n /\ n * P.cellsOf (ZP P T) <= 16777216 /\
   ((∃ rows, Se P σ (ZP P T) (P.cellsOf (ZP P T)) parts.toList 0 rows /\ σ' = σ.new d (.one (.sref d 0 0 rows.length)) [.arr false (P.cellsOf (ZP P T)) rows]) \/
   (∃ rows, Ss P σ (ZP P T) (P.cellsOf (ZP P T)) parts.toList 0 rows /\ YG d rows.flatten = false /\ σ' = σ.new d (.one (.sref d 0 0 rows.length)) [.lit (P.cellsOf (ZP P T)) rows]))) \/
   ((XC P T = true /\ Xy P (ZP P T) = true /\ 0 < P.cellsOf (ZP P T) /\ parts.toList.length = n /\ n * P.cellsOf (ZP P T) <= 16777216) /\ ∃ rows, Se P σ (ZP P T) (P.cellsOf (ZP P T)) parts.toList 0 rows /\ σ' = σ.put d (.one (.d (.sl (P.cellsOf (ZP P T)) rows))))
 | .makeSlice T x y => x = y /\ σ.fresh d = true /\ XC P T = true /\ Xy P (ZP P T) = true /\ 0 < P.cellsOf (ZP P T) /\
   ∃ q z zr k n, (q = true -> Lt z = true) /\ qF P 12 (ZP P T) = some z /\ zD z = some zr /\ jm P σ x k (n : Nat) /\ P.bytesOf (ZP P T) * n <= 281474976710656 /\ n <= 9223372036854775807 /\ σ' = σ.new d (.one (.sref d 0 0 n)) [.arr q (P.cellsOf (ZP P T)) (List.replicate n zr)]
 | .call c =>
  (match c.callee with
  | .builtin .append => ∃ x y t, c.args = #[x, y] /\ c.argTypes = #[t, t] /\ gOf (look P σ t x) = true /\ gOf (look P σ t y) = true /\ XC P t = true /\ Xy P (ZP P t) = true /\ 0 < P.cellsOf (ZP P t) /\
    ∃ wH news σ1, VK σ (unc (look P σ t x)) (P.cellsOf (ZP P t)) wH σ1 /\ xt σ (unc (look P σ t y)) (P.cellsOf (ZP P t)) news /\ σ1.fresh d = true /\
     (wH.length + news.length) * P.bytesOf (ZP P t) <= 140737488355328 /\ wH.length + news.length <= 9223372036854775807 /\ σ' = σ1.new d (.one (.sref d 0 0 (wH.length + news.length))) [.arr false (P.cellsOf (ZP P t)) (wH ++ news)]
  | .value (.func f) => (∃ own res, HW P σ c f own res /\ σ' = σ.put d (zx res)) \/ (∃ res, HW P σ c f true res /\ σ.fresh d = true /\ σ' = σ.new d (yh d res) (Kv res.flatten)) \/
    (∃ rows res qs, Xg P σ c.args.toList c.argTypes.toList rows /\ YN P f rows res /\ Ke qs res.flatten /\ σ.fresh d = true /\ σ' = σ.new d (yh d res) (YC qs res.flatten))
  | _ => ∃ v, YH P σ o.op o.type v /\ σ' = σ.put d v)
 | .convert S T x =>
   (∃ v, YH P σ o.op o.type v /\ σ' = σ.put d v) \/
   (∃ l, gOf (look P σ S x) = true /\ Sc P S = true /\ VX P T = true /\ xt σ (unc (look P σ S x)) 1 (Jn l) /\ σ' = σ.put d (.one (.d (.str ⟨l.toArray⟩)))) \/
   (∃ s, gOf (look P σ S x) = true /\ VX P S = true /\ Sc P T = true /\ unc (look P σ S x) = .one (.d (.str s)) /\ s.size <= 9223372036854775807 /\ σ' = σ.put d (.one (.d (.sl 1 (Jn s.data.toList)))))
 | _ => ∃ v, YH P σ o.op o.type v /\ σ' = σ.put d v
def z4 (P : Program) (σ : St) (T : TypeId) (x y : Operand) (σ' : St) : Prop :=
 zz P T = true /\ gOf (look P σ 0 x) = true /\ gOf (look P σ T y) = true /\ (unc (look P σ T y)).flat = true /\
  (match unc (look P σ 0 x) with
  | .one (.bptr t c) => ∃ cells, σ.ob t 0 = .box cells /\ (unc (look P σ T y)).cells.length = P.cellsOf T /\ c + P.cellsOf T <= cells.length /\ σ' = σ.Zt t 0 (.box (place cells c (unc (look P σ T y)).cells))
  | .one (.ptr t j i c) => ∃ q size rows ds, σ.ob t j = .arr q size rows /\ i < rows.length /\ rowOf σ (unc (look P σ T y)).cells = some ds /\ JZ (unc (look P σ T y)).cells = true /\ ds.length = P.cellsOf T /\ c + P.cellsOf T <= size /\
    (q = true -> ds.all D.scalar = true /\ (cut (rows.getD i []) c (P.cellsOf T)).all D.scalar = true) /\ σ' = σ.Zt t j (.arr q size (rows.set i (place (rows.getD i []) c ds)))
  | _ => False)
def z6 (want : Bool) : V -> Option Bool
 | .one (.d (.bool b)) => some (b == want)
 | .cnd g (.one (.d (.bool b))) => some (g && (b == want))
 | .cnd false _ => some false
 | _ => none
def Rl (P : Program) (o : Oper) (σ : St) (v : V) : Prop :=
 match o.op with
 | .call c =>
  (match c.callee with
  | .value (.func f) => ∃ own res, HW P σ c f own [res] /\ v = zx [res]
  | _ => ∃ v0, YH P σ o.op o.type v0 /\ gOf v0 = true /\ v = unc v0 /\ v.flat = true)
 | _ => ∃ v0, YH P σ o.op o.type v0 /\ gOf v0 = true /\ v = unc v0 /\ v.flat = true
def Y1 (P : Program) (ops : Array Oper) (o : Oper) (σ σ' : St) : Prop :=
 match o.guard with
 | none =>
  (match o.dst with
  | some d => Step P o d σ σ'
  | none => (match o.op with | .store T x y => z4 P σ T x y σ' | _ => False))
 | some (j, want) => ∃ dj d g v, (ops[j]?).bind (·.dst) = some dj /\ dj < σ.length /\ o.dst = some d /\ z6 want (σ.get dj) = some g /\ (g = true -> Rl P o σ v) /\ σ' = σ.put d (.cnd g v)
def US (P : Program) (ops : Array Oper) (o : Oper) (σ σ' : St) : Prop :=
 ∀ (T0 : CS) (B : Nat -> Prop) (a : Act) (w : World) (K : Act -> World -> Prop) (Q : Exit -> Act -> World -> Prop), QX T0 B σ a w -> (∀ a' w', QX T0 B σ' a' w' -> Yw B w w' -> K a' w') ->
  if Region.wanted o (yielded ops a.tmps) then o.wp P a w K Q else K (a.put o.dst undef) w
def Yx (σ : St) (d : Nat) : Bool := match σ[d]? with | some (.any, []) => true | some (.one (.d _), []) => true | _ => false
def R6 (o : Oper) (σ σ' : St) : Prop := ∀ d, o.dst ≠ some d -> Yx σ d = true -> Yx σ' d = true
def V4 (o : Oper) : Bool := match o.op with | .store _ _ _ => true | _ => false
def Kd (d : Nat) : Operand -> Bool
 | .tmp t => t == d
 | _ => false
def qh (o : Oper) (d : Nat) : Bool := match o.op with | .store _ p q => !Kd d p && !Kd d q | _ => false
def Rz : V -> Bool
 | .any => true
 | .one (.d _) => true
 | _ => false
def St.Qw : St -> List (Nat × V) -> St
 | σ, [] => σ
 | σ, p :: l => St.Qw (σ.put p.1 p.2) l
def BW (P : Program) (ops : Array Oper) (o : Oper) (σ σ' : St) : Prop :=
 (σ'.length = σ.length /\ ∀ u, σ'.get u = σ.get u) /\ (∀ l : List (Nat × V), (∀ p ∈ l, qh o p.1 = true /\ Rz p.2 = true) -> US P ops o (σ.Qw l) (σ'.Qw l) /\ R6 o (σ.Qw l) (σ'.Qw l)) /\ ∀ t cells, σ.ob t 0 = .box cells -> σ'.ob t 0 = .box cells
def jg (o : Oper) : Bool := match o.op with | .call ⟨.builtin .append, _, _⟩ => true | _ => false
theorem IN {o : Oper} (h : V4 o = true) : jg o = false := by
 unfold V4 at h
 split at h
 ·rename_i wA; simp [jg, wA]
 ·cases h
def PU (o : Oper) (d : Nat) : Bool := !(o.op.operands.toList.any (Kd d))
def BA (P : Program) (ops : Array Oper) (o : Oper) (σ σ' : St) : Prop :=
 ∃ d, o.dst = some d /\ σ'.length = σ.length /\ (∀ t, t ≠ d -> σ'.get t = σ.get t /\ (σ.get t).ref d = false) /\ (∀ t j cells, t ≠ d -> σ'.ob t j = .box cells -> σ.ob t j = .box cells /\ YG d cells = false) /\
  (∀ t j q s rows, t ≠ d -> σ'.ob t j = .arr q s rows -> ∃ wS, σ.ob t j = .arr q s wS) /\
  ∀ l : List (Nat × V), (∀ p ∈ l, p.1 ≠ d /\ PU o p.1 = true /\ p.2.ref d = false) -> US P ops o (σ.Qw l) (σ'.Qw l) /\ R6 o (σ.Qw l) (σ'.Qw l)
def BX (P : Program) (t : TypeId) : Bool := match P.underlying t with | some (.pointer _) => true | _ => false
def Ou (bar : Oper -> Bool) (o : Oper) : Bool := !bar { o with dst := some 1000000007 }
def Cq (bar : Oper -> Bool) (o : Oper) : Bool := (match o.dst with | some d => bar { o with dst := some (d + 2000000) } | none => false) && Ou bar o
def KG (P : Program) (o : Oper) : Bool := match o.op with | .call ⟨.value (.func _), _, ⟨T :: _⟩⟩ => BX P T | _ => false
def KE (t d : Nat) (cs : List At) (v : V) : Option (List Ob) -> St -> St
 | none, σ => (σ.Zt t 0 (.box cs)).put d v
 | some os, σ => (σ.Zt t 0 (.box cs)).new d v os
def Cy (P : Program) (ops : Array Oper) (o : Oper) (σ σ' : St) : Prop :=
 ∃ d t cells cs v os, o.dst = some d /\ σ.ob t 0 = .box cells /\ (∃ z r, (∃ f ts, o.op = .call ⟨.value (.func f), ⟨z :: r⟩, ts⟩) /\ ∃ ty, unc (look P σ ty z) = .one (.bptr t 0)) /\ (∀ u, YG u cells = false /\ YG u cs = false) /\
  (∀ u, (os = none \/ u ≠ d) -> v.ref u = false /\ ∀ l, os = some l -> Yf u l = false) /\ (os ≠ none -> (σ.Zt t 0 (.box cs)).fresh d = true) /\ σ' = KE t d cs v os σ /\
  ∀ σ2 : St, σ.length = σ2.length -> (∀ z ∈ o.op.operands.toList, ∀ ty, look P σ ty z = look P σ2 ty z) -> (∀ z ∈ o.op.operands.toList, ∀ ty u, (look P σ ty z).ref u = true -> ∀ j, σ.ob u j ≠ .none -> σ2.ob u j = σ.ob u j) -> (os ≠ none -> (σ2.Zt t 0 (.box cs)).fresh d = true) ->
   US P ops o σ2 (KE t d cs v os σ2) /\ R6 o σ2 (KE t d cs v os σ2)
theorem Hz {P : Program} {o : Oper} (h : V4 o = true) : KG P o = false := by
 unfold V4 at h
 split at h
 ·rename_i wA; simp [KG, wA]
 ·cases h
theorem E8 {P : Program} {o : Oper} (h : jg o = true) : KG P o = false := by
 unfold jg at h
 split at h
 ·rename_i wA; simp [KG, wA]
 ·cases h
def Jy (P : Program) (ops : Array Oper) (bar : Oper -> Bool) (o : Oper) (σ σ' : St) : Prop := Y1 P ops o σ σ' \/ (bar o = true /\ US P ops o σ σ' /\ R6 o σ σ' /\ (V4 o = true -> BW P ops o σ σ') /\ (jg o = true -> BA P ops o σ σ') /\ (KG P o = true -> Ou bar o = true -> Cy P ops o σ σ'))
def Ib (P : Program) (ops : Array Oper) (bar : Oper -> Bool) : List Oper -> St -> (St -> Prop) -> Prop
 | [], σ, Q => Q σ
 | o :: rest, σ, Q => ∃ σ', Jy P ops bar o σ σ' /\ Ib P ops bar rest σ' Q
section
variable {P : Program} {T0 : CS} {B : Nat -> Prop} {σ : St} {a : Act} {w w' : World} {X X' : Nat -> Prop} {h : Nat -> Nat -> Hd}
theorem SA (d : Nat) : ∀ (n : Nat) (t : TypeId) (row : List At), qF P n t = some row -> YG d row = false := by
 intro n
 induction n with
 | zero => intro t row hr; simp [qF] at hr
 | succ n ih =>
  intro t row hr
  have nr : ∀ (rs : List (List At)), (∀ r ∈ rs, YG d r = false) -> YG d rs.flatten = false := by
   intro rs uf
   have app : ∀ (xs ys : List At), YG d xs = false -> YG d ys = false -> YG d (xs ++ ys) = false := by
    intro xs ys hx hy
    induction xs with
    | nil => exact hy
    | cons x xs pW => simp only [List.cons_append, YG, Bool.or_eq_false_iff] at hx ⊢; exact ⟨hx.1, pW hx.2⟩
   induction rs with
   | nil => rfl
   | cons r rs pW => rw [List.flatten_cons]; exact app _ _ (uf r (by simp)) (pW (fun r hr => uf r (by simp [hr])))
  rw [qF] at hr
  split at hr
  ·cases hr; rfl
  ·cases hr; rfl
  ·cases hr; rfl
  ·cases hr; rfl
  ·rename_i fs _
   simp only [Option.map_eq_some_iff] at hr
   obtain ⟨rs, uf, rfl⟩ := hr
   refine nr rs ?_
   have : ∀ (l : List Field) (rs : List (List At)), l.mapM (fun f => qF P n f.type) = some rs -> ∀ r ∈ rs, YG d r = false := by
    intro l
    induction l with
    | nil => intro rs hh r hr; simp at hh; subst hh; cases hr
    | cons f l pW =>
     intro rs hh r hr
     simp only [List.mapM_cons, Option.bind_eq_bind, Option.bind_eq_some_iff] at hh
     obtain ⟨r0, tG, nB, oU, hh⟩ := hh
     simp at hh; subst hh
     rcases List.mem_cons.1 hr with rfl | hr
     ·exact ih f.type _ tG
     ·exact pW nB oU r hr
   exact this fs.toList rs uf
  ·simp only [Option.map_eq_some_iff] at hr
   obtain ⟨r0, tG, rfl⟩ := hr
   exact nr _ (fun r hr => by rw [List.eq_of_mem_replicate hr]; exact ih _ _ tG)
  ·cases hr
theorem kY {o : Oper} {d : Nat} {v : V} (r : Rel T0 B σ a w X h) (hd : o.dst = some d) (hex : ∃ val, (execOp a.eval o).run P w = .ok (.value val) w /\ Xs (Tof T0 X) h σ.ob w v val)
  {K : Act -> World -> Prop} {Q : Exit -> Act -> World -> Prop} (hK : ∀ a' w', QX T0 B (σ.put d v) a' w' -> Yw B w w' -> K a' w') : o.wp P a w K Q := by
 obtain ⟨val, wW, hv⟩ := hex
 unfold Oper.wp
 rw [wW, Oper.upon_value, hd]
 exact hK _ _ ⟨X, h, r.put d v val hv⟩ (Yw.refl _ _)
theorem Gm (r : Rel T0 B σ a w X h) {o : Oper} {d : Nat} {σ' : St} (hd : o.dst = some d) (hs : Step P o d σ σ') {K : Act -> World -> Prop} {Q : Exit -> Act -> World -> Prop}
  (hK : ∀ a' w', QX T0 B σ' a' w' -> Yw B w w' -> K a' w') : o.wp P a w K Q := by
 have vi : (∃ v, YH P σ o.op o.type v /\ σ' = σ.put d v) -> o.wp P a w K Q := by
  rintro ⟨v, hv, rfl⟩
  exact kY r hd (qO r hv) hK
 unfold Step at hs
 split at hs
 ·rename_i T wA
  obtain ⟨hf, hz, row, wh, rfl⟩ := hs
  exact HI r wA hd hf hz wh (SA d _ _ _ wh) hK
 ·rename_i T x wA
  obtain ⟨hf, hg, ve, hr, rfl⟩ := hs
  exact Fh r wA hd hf hg ve hr hK
 ·rename_i T n parts wA
  rcases hs with ⟨hf, h1, h2, h3, h4, h5, ⟨rows, h6, rfl⟩ | ⟨rows, h6, h7, rfl⟩⟩ | ⟨⟨h1, h2, h3, h4, h5⟩, rows, h6, rfl⟩
  ·exact Rv r wA hd hf h1 h2 h3 h4 h5 h6 hK
  ·exact Um r wA hd hf h1 h2 h3 h4 h5 h6 h7 hK
  ·exact Iv r wA hd h1 h2 h3 h4 h5 h6 hK
 ·rename_i T x y wA
  obtain ⟨rfl, hf, h1, h2, h3, q, z, zr, k, n, hq, h4, h5, h6, h7, h8, rfl⟩ := hs
  cases q with
  | false => exact Pp r wA hd hf h1 h2 h4 h5 h3 h6 h7 h8 hK
  | true => exact Ny r wA hd hf h1 h2 h4 h5 (hq rfl) h3 h6 h7 h8 hK
 ·rename_i c wA
  split at hs
  ·rename_i hc
   obtain ⟨x, y, t, ha, uh, h1, h2, h3, h4, h5, wH, news, σ1, h6, h7, h8, h9, tc, rfl⟩ := hs
   refine L1 r (t := t) (x := x) (y := y) ?_ hd h1 h2 h3 h4 h5 h6 h7 h8 h9 tc hK
   rw [wA]
   obtain ⟨cc, ca, ct⟩ := c
   simp only at hc ha uh
   rw [hc, ha, uh]
  ·rename_i f hc
   rcases hs with ⟨own, res, ⟨rows, ha, hs, vC⟩, rfl⟩ | ⟨res, ⟨rows, ha, hs, vC⟩, hf, rfl⟩ | ⟨rows, res, qs, ha, hs, hq, hf, rfl⟩
   ·rcases vC with vC | vC
    ·exact qn r wA hc hd ha true (fun _ => vC) (fun hh => by cases hh) hs hK
    ·exact qn r wA hc hd ha false (fun hh => by cases hh) (fun _ => vC) hs hK
   ·rcases vC with vC | vC
    ·exact Tf r wA hc hd hf ha true (fun _ => vC) (fun hh => by cases hh) hs hK
    ·exact Tf r wA hc hd hf ha false (fun hh => by cases hh) (fun _ => vC) hs hK
   ·exact HQ r qs wA hc hd hf ha hs hq hK
  ·exact vi hs
 ·rename_i S T x wA
  rcases hs with hs | ⟨l, h1, h2, h3, h4, rfl⟩ | ⟨s, h1, h2, h3, h4, h5, rfl⟩
  ·exact vi hs
  ·exact kY r hd (TK r wA h1 h2 h3 h4) hK
  ·exact TO r wA hd h1 h2 h3 h4 h5 hK
 ·exact vi hs
theorem IX (r : Rel T0 B σ a w X h) {o : Oper} {T : TypeId} {x y : Operand} {σ' : St} (wA : o.op = .store T x y) (hd : o.dst = none) (hs : z4 P σ T x y σ') {K : Act -> World -> Prop} {Q : Exit -> Act -> World -> Prop}
  (hK : ∀ a' w', QX T0 B σ' a' w' -> Yw B w w' -> K a' w') : o.wp P a w K Q := by
 obtain ⟨ht, sM, sN, ve, hs⟩ := hs
 split at hs
 ·rename_i t c hx
  obtain ⟨cells, ho, hl, hle, rfl⟩ := hs
  exact N8 r wA hd ht sM sN hx ho ve hl hle hK
 ·rename_i t j i c hx
  obtain ⟨q, size, rows, ds, ho, hi, sw, wb, hl, hle, hq, rfl⟩ := hs
  refine Ox r wA hd ht sM sN hx ho hi ve sw wb hl hle (fun hh => ⟨fun d wR => ?_, fun k d hk wR => ?_⟩) hK
  ·exact List.all_eq_true.1 (hq hh).1 d wR
  ·refine List.all_eq_true.1 (hq hh).2 d (List.mem_of_getElem? (i := k) ?_)
   simp only [cut, List.getElem?_take, if_pos hk, List.getElem?_drop]; exact wR
 ·exact hs.elim
theorem Pc {T : CS} {ob : Nat -> Nat -> Ob} {v : V} {val : Value} (hf : (unc v).flat = true) (hv : Xs T h ob w (unc v) val) : JP T h ob w (unc v) val := by
 cases hu : unc v with
 | one x => rw [hu] at hv; exact hv
 | agg xs => rw [hu] at hv; exact hv
 | any => rw [hu] at hf; cases hf
 | tup xs => rw [hu] at hf; cases hf
 | cnd g x => rw [hu] at hf; cases hf
 | fix u x => rw [hu] at hf; cases hf
theorem HD (r : Rel T0 B σ a w X h) {ops : Array Oper} {o : Oper} {j dj : Nat} {want g : Bool} (te : o.guard = some (j, want)) (vo : (ops[j]?).bind (·.dst) = some dj) (wO : dj < σ.length) (hg : z6 want (σ.get dj) = some g) :
  Region.wanted o (yielded ops a.tmps) = g := by
 have vV : dj < a.tmps.size := by rw [r.size]; exact wO
 have hv := r.slot dj wO
 have nt : a.tmps.getD dj undef = a.tmps[dj] := by simp [vV]
 rw [nt] at hv
 have hy : yielded ops a.tmps j = (match a.tmps[dj] with | .bool b => some b | _ => none) := by
  unfold yielded
  rw [vo]
  simp only [Option.bind_some, Array.getElem?_eq_getElem vV]
  cases a.tmps[dj] <;> rfl
 simp only [Region.wanted, te, hy]
 unfold z6 at hg
 split at hg
 ·rename_i b nk
  rw [nk] at hv
  rw [xL hv]
  cases hg
  cases b <;> cases want <;> rfl
 ·rename_i g0 b nk
  rw [nk] at hv
  cases hg
  cases g0 with
  | true =>
   rw [xL (hv.1 rfl)]
   cases b <;> cases want <;> rfl
  | false =>
   rw [hv.2 rfl]
   simp [undef]
 ·rename_i nk
  rw [nk] at hv
  cases hg
  rw [hv.2 rfl]
  simp [undef]
 ·cases hg
theorem Hm (r : Rel T0 B σ a w X h) {ops : Array Oper} {o : Oper} {σ' : St} (hs : Y1 P ops o σ σ') {K : Act -> World -> Prop} {Q : Exit -> Act -> World -> Prop}
  (hK : ∀ a' w', QX T0 B σ' a' w' -> Yw B w w' -> K a' w') : if Region.wanted o (yielded ops a.tmps) then o.wp P a w K Q else K (a.put o.dst undef) w := by
 unfold Y1 at hs
 split at hs
 ·rename_i hg
  have hw : Region.wanted o (yielded ops a.tmps) = true := by simp [Region.wanted, hg]
  rw [if_pos hw]
  split at hs
  ·rename_i d hd; exact Gm r hd hs hK
  ·rename_i hd
   split at hs
   ·rename_i T x y wA; exact IX r wA hd hs hK
   ·exact hs.elim
 ·rename_i j want hg
  obtain ⟨dj, d, g, v, vo, wO, hd, vx, hs, rfl⟩ := hs
  rw [HD r hg vo wO vx]
  cases g with
  | false =>
   simp only [Bool.false_eq_true, if_false]
   rw [hd]
   exact hK _ _ ⟨X, h, r.put d _ _ ⟨(fun hh => by cases hh), fun _ => rfl⟩⟩ (Yw.refl _ _)
  | true =>
   simp only [if_true]
   have w9 := hs rfl
   clear hs
   have vi : (∃ v0, YH P σ o.op o.type v0 /\ gOf v0 = true /\ v = unc v0 /\ v.flat = true) -> o.wp P a w K Q := by
    rintro ⟨v0, pQ, nm, rfl, ve⟩
    obtain ⟨val, wW, hv⟩ := qO r pQ
    refine kY (v := .cnd true (unc v0)) r hd ⟨val, wW, ⟨fun _ => Pc ve (hv.unc nm), fun hh => by cases hh⟩⟩ hK
   unfold Rl at w9
   split at w9
   ·rename_i c wA
    split at w9
    ·rename_i f hc
     obtain ⟨own, res, ⟨rows, ha, hs, vC⟩, rfl⟩ := w9
     have fin : ∀ a' w', QX T0 B (σ.put d (zx [res])) a' w' -> Yw B w w' -> K a' w' := by
      rintro a' w' ⟨X', h', r'⟩ hb
      refine hK a' w' ⟨X', h', ?_⟩ hb
      refine ⟨by rw [r'.size, St.Xx, St.Xx], r'.defers, r'.hB, r'.hX, r'.hT, fun t ht => ?_, fun t j => ?_, fun t j b => ?_, fun t j b => ?_, fun t j t' j' b => ?_⟩
      ·rw [St.Xx] at ht
       have h0 := r'.slot t (by rw [St.Xx]; exact ht)
       rw [St.Xw] at h0 ⊢
       rw [St.Jz] at h0 ⊢
       by_cases hh : t = d /\ d < σ.length
       ·rw [if_pos hh] at h0 ⊢
        refine ⟨fun _ => ?_, fun hh => by cases hh⟩
        have ve : (unc (vOf (res.map At.d))).flat = true := by
         match res.map At.d with
         | [] => rfl
         | [x] => rfl
         | x :: y :: xs => rfl
        have hu : unc (vOf (res.map At.d)) = vOf (res.map At.d) := by
         match res.map At.d with
         | [] => rfl
         | [x] => rfl
         | x :: y :: xs => rfl
        have := Pc (v := vOf (res.map At.d)) ve (by rw [hu]; exact h0)
        rw [hu] at this; exact this
       ·rw [if_neg hh] at h0 ⊢; exact h0
      ·have := r'.obj t j; rw [St.Xw] at this ⊢; exact this
      ·have := r'.ub t j b; rw [St.Xw] at this ⊢; exact this
      ·have := r'.own t j b; rw [St.Xw] at this ⊢; exact this
      ·have := r'.inj t j t' j' b; rw [St.Xw] at this ⊢; exact this
     rcases vC with vC | vC
     ·exact qn r wA hc hd ha true (fun _ => vC) (fun hh => by cases hh) hs fin
     ·exact qn r wA hc hd ha false (fun hh => by cases hh) (fun _ => vC) hs fin
    ·exact vi w9
   ·exact vi w9
theorem UK {ops : Array Oper} {bar : Oper -> Bool} {o : Oper} {σ' : St} (hs : Jy P ops bar o σ σ') : US P ops o σ σ' := by
 rcases hs with hs | hs
 ·rintro T0 B a w K Q ⟨X, h, r⟩ hK
  exact Hm r hs hK
 ·exact hs.2.1
theorem Nu {ops : Array Oper} {bar : Oper -> Bool} : ∀ {l : List Oper} {σ : St} {a : Act} {w : World} {Q : St -> Prop} {Q' : Exit -> Act -> World -> Prop}, Ib P ops bar l σ Q -> QX T0 B σ a w ->
  (∀ σ' a' w', Q σ' -> QX T0 B σ' a' w' -> Yw B w w' -> Q' .normal a' w') -> wpList P ops Q' l a w
 | [], σ, a, w, Q, Q', hr, vk, hK => hK σ a w hr vk (Yw.refl _ _)
 | o :: l, σ, a, w, Q, Q', ⟨σ', hs, hr⟩, vk, hK => by
  refine wpList_step fun K gm => ?_
  exact UK hs _ _ _ _ _ _ vk (fun a' w' vk hb => gm _ _ (Nu hr vk (fun σ2 a2 w2 hq rN wm => hK σ2 a2 w2 hq rN (hb.trans wm))))
end
end Go.Vm
namespace Go.Vm
open Go.RowKit
def AWP (P : Program) (c : Code) (Q : Exit -> St -> Prop) (σ : St) : Prop :=
 ∀ (T0 : CS) (B : Nat -> Prop) (a : Act) (w : World), QX T0 B σ a w -> c.wp P (fun e a' w' => ∃ σ', Q e σ' /\ QX T0 B σ' a' w' /\ Yw B w w') a w
def Wk (σ σ' : St) : Prop := ∀ (T0 : CS) (B : Nat -> Prop) (a : Act) (w : World), QX T0 B σ a w -> QX T0 B σ' a w
def Nn (next : St -> Prop) (Q : Exit -> St -> Prop) : Exit -> St -> Prop
 | .normal, σ => next σ
 | e, σ => Q e σ
def Uo (id : Nat) (Q : Exit -> St -> Prop) : Exit -> St -> Prop
 | .exit oR, σ => if oR = id then Q .normal σ else Q (.exit oR) σ
 | e, σ => Q e σ
section
variable {P : Program} {Q : Exit -> St -> Prop} {σ : St}
theorem Wk.refl (σ : St) : Wk σ σ := fun _ _ _ _ h => h
theorem Wk.trans {σ σ' σ'' : St} (h : Wk σ σ') (k : Wk σ' σ'') : Wk σ σ'' := fun _ _ _ _ r => k _ _ _ _ (h _ _ _ _ r)
theorem H8 {c : Code} {Q' : Exit -> St -> Prop} (h : ∀ e σ, Q e σ -> Q' e σ) (k : AWP P c Q σ) : AWP P c Q' σ :=
 fun T0 B a w r => wp_mono (k T0 B a w r) fun e _ _ ⟨σ', hq, hr⟩ => ⟨σ', h e σ' hq, hr⟩
theorem Eb (h : Q .normal σ) : AWP P .skip Q σ := fun _ B _ w r => wp_skip ⟨σ, h, r, Yw.refl B w⟩
theorem DA {id : Nat} (h : Q (.exit id) σ) : AWP P (.exit id) Q σ := fun _ B _ w r => wp_exit ⟨σ, h, r, Yw.refl B w⟩
theorem DL (h : Q .ret σ) : AWP P .ret Q σ := fun _ B _ w r => wp_ret ⟨σ, h, r, Yw.refl B w⟩
theorem Gw {id : Nat} {l : List Oper} {bar : Oper -> Bool} (h : Ib P l.toArray bar l σ (Q .normal)) : AWP P (.region id l.toArray false) Q σ :=
 fun _ _ _ _ r => wp_region_lit (Nu h r fun σ' _ _ hq hr hb => ⟨σ', hq, hr, hb⟩)
theorem DP {x y : Code} (h : AWP P x (Nn (AWP P y Q) Q) σ) : AWP P (.seq x y) Q σ := by
 intro T0 B a w r
 refine wp_seq (wp_mono (h T0 B a w r) ?_)
 rintro e a' w' ⟨σ', hq, hr, hb⟩
 cases e with
 | normal => exact wp_mono (hq T0 B a' w' hr) fun e _ _ ⟨σ2, h1, h2, h3⟩ => ⟨σ2, h1, h2, hb.trans h3⟩
 | exit id => exact ⟨σ', hq, hr, hb⟩
 | goto l => exact ⟨σ', hq, hr, hb⟩
 | ret => exact ⟨σ', hq, hr, hb⟩
 | panic ch => exact ⟨σ', hq, hr, hb⟩
 | outgrown => exact ⟨σ', hq, hr, hb⟩
theorem EM {c : Operand} {x y : Code} {b : Bool} (hc : look P σ 0 c = .one (.d (.bool b))) (ht : b = true -> AWP P x Q σ) (hf : b = false -> AWP P y Q σ) : AWP P (.cond c x y) Q σ := by
 intro T0 B a w r
 obtain ⟨X, h, rr⟩ := r
 have hv := rr.look (P := P) 0 c
 rw [hc] at hv
 exact wp_cond_split (xL hv) (fun hb => ht hb T0 B a w ⟨X, h, rr⟩) (fun hb => hf hb T0 B a w ⟨X, h, rr⟩)
theorem Ff {id : Nat} {c : Code} (h : AWP P c (Uo id Q) σ) : AWP P (.block id c) Q σ := by
 intro T0 B a w r
 refine wp_block (wp_mono (h T0 B a w r) ?_)
 rintro e a' w' ⟨σ', hq, hr, hb⟩
 cases e with
 | exit oR =>
  simp only [Uo] at hq
  simp only [Exit.inBlock]
  split at hq
  ·rename_i hh; rw [if_pos hh]; exact ⟨σ', hq, hr, hb⟩
  ·rename_i hh; rw [if_neg hh]; exact ⟨σ', hq, hr, hb⟩
 | normal => exact ⟨σ', hq, hr, hb⟩
 | goto l => exact ⟨σ', hq, hr, hb⟩
 | ret => exact ⟨σ', hq, hr, hb⟩
 | panic ch => exact ⟨σ', hq, hr, hb⟩
 | outgrown => exact ⟨σ', hq, hr, hb⟩
theorem jo {c : Code} {ι : Type} (S : ι -> St) (μ : ι -> Nat) (i0 : ι) (h0 : Wk σ (S i0))
  (round : ∀ i, AWP P c (Nn (fun σ' => ∃ i', μ i' < μ i /\ Wk σ' (S i')) Q) (S i)) : AWP P (.loop c) Q σ := by
 intro T0 B a w r b k cs
 have key : ∀ n i a w, μ i = n -> QX T0 B (S i) a w ->
   ∃ e a' w', (∃ σ', Q e σ' /\ QX T0 B σ' a' w' /\ Yw B w w') /\ Arrives P (lone (b.at a (.code c :: .inLoop c :: k)) cs w) b k cs e a' w' := by
  intro n
  induction n using Nat.strongRecOn with
  | _ n ih =>
   intro i a w hn hr
   obtain ⟨e, a₁, w₁, ⟨σ₁, hq, nC, nD⟩, vc⟩ := round i T0 B a w hr b (.inLoop c :: k) cs
   cases e with
   | normal =>
    obtain ⟨i', wO, gn⟩ := hq
    obtain ⟨e₂, a₂, w₂, ⟨σ₂, gp, gq, gr⟩, nn⟩ := ih (μ i') (hn ▸ wO) i' a₁ w₁ rfl (gn T0 B a₁ w₁ nC)
    exact ⟨e₂, a₂, w₂, ⟨σ₂, gp, gq, nD.trans gr⟩, .of_steps (Steps.trans vc (.one step_inLoop)) nn⟩
   | exit id => exact ⟨_, a₁, w₁, ⟨σ₁, hq, nC, nD⟩, .pass (x := .inLoop c) rfl (fun _ _ => .inl (by simp)) vc⟩
   | goto l => exact ⟨_, a₁, w₁, ⟨σ₁, hq, nC, nD⟩, .pass (x := .inLoop c) rfl (fun _ _ => .inl (by simp)) vc⟩
   | ret => exact ⟨_, a₁, w₁, ⟨σ₁, hq, nC, nD⟩, .pass (x := .inLoop c) rfl (fun _ _ => .inl (by simp)) vc⟩
   | panic ch => exact ⟨_, a₁, w₁, ⟨σ₁, hq, nC, nD⟩, .pass (x := .inLoop c) rfl (fun _ _ => .inl (by simp)) vc⟩
   | outgrown => exact ⟨_, a₁, w₁, ⟨σ₁, hq, nC, nD⟩, .pass (x := .inLoop c) rfl (fun _ _ => .inl (by simp)) vc⟩
 obtain ⟨e, a', w', hq, vc⟩ := key _ i0 a w rfl (h0 T0 B a w r)
 exact ⟨e, a', w', hq, .of_steps (.one step_loop) vc⟩
end
/-! ### entering a function, and leaving it -/
def T5 : List (List D) -> St
 | [] => []
 | r :: rs => (vOf (r.map .d), []) :: T5 rs
def yu (n : Nat) (args : List (List D)) : St := T5 args ++ List.replicate (n - args.length) (V.any, [])
def Ol (P : Program) (σ : St) : ResultVar -> List At -> Prop
 | .tmp t, xs => (σ.get t = vOf xs) /\ t < σ.length
 | .cell t T, xs => ∃ u c cells, σ.get t = .one (.bptr u c) /\ σ.ob u 0 = .box cells /\ zz P T = true /\ Wm P T = true /\ P.cellsOf T ≠ 1 /\ c + P.cellsOf T <= cells.length /\ xs = cut cells c (P.cellsOf T)
def W5 (P : Program) (σ : St) : List ResultVar -> List (List At) -> Prop
 | [], vX => vX = []
 | r :: rs, vX => ∃ xs rest, Ol P σ r xs /\ W5 P σ rs rest /\ vX = xs :: rest
def xa (σ : St) : List (List At) -> Option (List (List D))
 | [] => some []
 | xs :: rest => (match rowOf σ xs, xa σ rest with | some r, some rs => some (r :: rs) | _, _ => none)
def xO (σ : St) : At -> Option D
 | .d (.sl _ _) => none
 | .d x => some x
 | .nil s => some (.sl s [])
 | .sref t j lo len => (match σ.ob t j with | .arr false size rows => if lo = 0 /\ len = rows.length then some (.sl size rows) else none | _ => none)
 | _ => none
def ownRow (σ : St) : List At -> Option (List D)
 | [] => some []
 | x :: xs => (match xO σ x, ownRow σ xs with | some d, some ds => some (d :: ds) | _, _ => none)
def kK (σ : St) : List (List At) -> Option (List (List D))
 | [] => some []
 | xs :: rest => (match ownRow σ xs, kK σ rest with | some r, some rs => some (r :: rs) | _, _ => none)
def I9 (P : Program) (fn : Func) (own : Bool) (res : List (List D)) (e : Exit) (σ : St) : Prop :=
 (e = .ret \/ e = .normal) /\ ∃ vX, W5 P σ fn.results.toList vX /\ (if own then kK σ vX = some res /\ (Ya vX.flatten).Nodup else xa σ vX = some res)
def Fs (P : Program) (fn : Func) (res : List (List D)) (e : Exit) (σ : St) : Prop :=
 (e = .ret \/ e = .normal) /\ ∃ vX, W5 P σ fn.results.toList vX /\ Qv σ vX = some res /\ Ql σ vX /\ (Ya vX.flatten).Nodup
end Go.Vm
namespace Go.Vm
open Go.RowKit
section
variable {P : Program} {T0 : CS} {B : Nat -> Prop} {σ : St} {a : Act} {w w' : World} {X X' : Nat -> Prop} {h : Nat -> Nat -> Hd}
theorem Uu : ∀ (args : List (List D)) (t : Nat), (T5 args)[t]? = (args[t]?).map fun r => (vOf (r.map .d), [])
 | [], t => by simp [T5]
 | r :: rs, 0 => by simp [T5]
 | r :: rs, t + 1 => by simpa [T5] using Uu rs t
theorem X3 (args : List (List D)) : (T5 args).length = args.length := by
 induction args with
 | nil => rfl
 | cons r rs ih => simp [T5, ih]
theorem Oy {T : CS} {n : Nat} {args : List (List D)} {wx : List Value} (hT : ∀ b k, T b k -> b < w.heap.size) (ha : Z2 (fun v row => ∃ cs, KC v cs /\ Z2 (Rd T w) cs row) wx args) :
  QX T (fun b => b < w.heap.size) (yu n args) { tmps := wx.toArray ++ Array.replicate (n - wx.toArray.size) undef, defers := [] } w := by
 have hl := ha.length
 refine ⟨fun _ => False, fun _ _ => Hd.of undef, ?_⟩
 have wV : ∀ t j, (yu n args).ob t j = .none := by
  intro t j
  unfold St.ob yu
  rcases Nat.lt_or_ge t args.length with h | h
  ·rw [List.getElem?_append_left (by rw [X3]; exact h), Uu, List.getElem?_eq_getElem h]
   simp [YO]
  ·rw [List.getElem?_append_right (by rw [X3]; exact h), List.getElem?_replicate]
   split
   ·rename_i e he
    split at he
    ·cases he; simp [YO]
    ·cases he
   ·rfl
 have rR : ∀ b k v, T b k -> w.cell? ⟨b, k, none⟩ = some v -> w.cell? ⟨b, k, none⟩ = some v /\ Tof T (fun _ => False) b k := fun b k v hb hc => ⟨hc, .inl hb⟩
 refine ⟨by simp [yu, X3, hl], rfl, (fun b hb => hb), (fun b hb => hb.elim), hT, fun t ht => ?_, fun t j => by rw [wV]; trivial, fun t j b wE => absurd (wV t j) wE, fun t j b wE => absurd (wV t j) wE, fun t j t' j' b wE => absurd (wV t j) wE⟩
 unfold St.get yu
 rcases Nat.lt_or_ge t args.length with wO | u9
 ·rw [List.getElem?_append_left (by rw [X3]; exact wO), Uu, List.getElem?_eq_getElem wO]
  obtain ⟨v, hv, cs, hf, wG⟩ := ha.get' t args[t] (List.getElem?_eq_getElem wO)
  have uv : (wx.toArray ++ Array.replicate (n - wx.toArray.size) undef).getD t undef = v := by
   rw [Array.getD_eq_getD_getElem?, Array.getElem?_append_left (by simp; omega)]
   simp [hv]
  simp only [uv]
  exact (Oa hf (jD (wG.imp fun _ _ => Rd.mono rR))).up
 ·rw [List.getElem?_append_right (by rw [X3]; exact u9), List.getElem?_replicate]
  split
  ·rename_i e he
   split at he
   ·cases he; trivial
   ·cases he
  ·trivial
theorem Dq {T : CS} {ob : Nat -> Nat -> Ob} {xs : List At} {v : Value} (hv : Xs T h ob w (vOf xs) v) : ∃ cs, KC v cs /\ Z2 (Z7 T h ob w) xs cs := by
 match xs, hv with
 | [], hv =>
  obtain ⟨cs, rfl, wG⟩ := hv
  exact ⟨cs.toList, .inr ⟨by rw [<- wG.length]; simp, by simp⟩, wG⟩
 | [x], hv => exact ⟨[v], .inl ⟨v, rfl, rfl, Z7.Xa hv⟩, .cons hv .nil⟩
 | x :: y :: xs, hv =>
  obtain ⟨cs, rfl, wG⟩ := hv
  exact ⟨cs.toList, .inr ⟨by rw [<- wG.length]; simp, by simp⟩, wG⟩
theorem FG (r : Rel T0 B σ a w X h) : ∀ {rs : List ResultVar} {vX : List (List At)}, W5 P σ rs vX ->
  ∃ vs wi, (rs.mapM (m := Sem) fun | .tmp t => pure (a.tmps.getD t undef) | .cell u t => do loadVar t (<- asAddr (a.tmps.getD u undef))).run P w = .ok vs w /\ Z2 KC vs wi /\ Z2 (fun xs cs => Z2 (Z7 (Tof T0 X) h σ.ob w) xs cs) vX wi
 | [], vX, hr => by cases hr; exact ⟨[], [], by simp, .nil, .nil⟩
 | rv :: rs, vX, hr => by
  obtain ⟨xs, rest, h1, h2, rfl⟩ := hr
  obtain ⟨vs, wi, wW, hf, wG⟩ := FG r h2
  have one : ∃ v cs, (match rv with | .tmp t => (pure (a.tmps.getD t undef) : Sem Value) | .cell u t => do loadVar t (<- asAddr (a.tmps.getD u undef))).run P w = .ok v w /\ KC v cs /\ Z2 (Z7 (Tof T0 X) h σ.ob w) xs cs := by
   cases rv with
   | tmp t =>
    obtain ⟨hg, wO⟩ := h1
    have hv := r.slot t wO
    rw [hg] at hv
    obtain ⟨cs, hf, wG⟩ := Dq hv
    exact ⟨_, cs, by simp, hf, wG⟩
   | cell t T =>
    obtain ⟨u, c, cells, hg, ho, ue, sO, wE, hle, rfl⟩ := h1
    have hv := r.get t
    rw [hg] at hv
    obtain ⟨b, cs, e, hb, he, hh, wG⟩ := r.box ho hv
    have hlen := wG.length
    obtain ⟨val, iu, ln, _⟩ := E4 (P := P) (w := w) ue (b := b) (off := c) (cs := cut cs.toList c (P.cellsOf T)) (Xl _ _ _ (by omega)) (fun j u hu => Km hh _ _ (yJ _ _ _ _ _ hu))
    refine ⟨val, cut cs.toList c (P.cellsOf T), ?_, .inr ⟨by rw [Xl _ _ _ (by omega)]; exact wE, ln sO⟩, wG.cut _ _⟩
    simp only [Instr.loadAt, Instr.sureAddr, Sem.run_bind, Sem.run_pure, Result.andThen_ok] at iu
    simp only [he, asAddr, Sem.run_bind, Sem.run_pure, Result.andThen_ok]
    exact iu
  obtain ⟨v, cs, np, gu, lp⟩ := one
  refine ⟨v :: vs, cs :: wi, ?_, .cons gu hf, .cons lp wG⟩
  simp only [List.mapM_cons, Sem.run_bind, np, Result.andThen_ok, wW, Sem.run_pure]
theorem qN (r : Rel T0 B σ a w X h) {fn : Func} {vX : List (List At)} (hr : W5 P σ fn.results.toList vX) :
  ∃ vs wi, (results fn a.tmps).run P w = .ok (V7 vs) w /\ Z2 KC vs wi /\ Z2 (fun xs cs => Z2 (Z7 (Tof T0 X) h σ.ob w) xs cs) vX wi := by
 obtain ⟨vs, wi, wW, hf, wG⟩ := FG r hr
 refine ⟨vs, wi, ?_, hf, wG⟩
 unfold results
 rw [Array.mapM_eq_mapM_toList]
 change ((((fn.results.toList.mapM (m := Sem) fun | .tmp t => pure (a.tmps.getD t undef) | .cell u t => do loadVar t (<- asAddr (a.tmps.getD u undef))) >>= fun l => pure l.toArray) >>= fun (vs : Array Value) => pure (if h : vs.size = 1 then vs[0] else .tuple vs))).run P w = _
 simp only [Sem.run_bind, wW, Result.andThen_ok, Sem.run_pure]
 congr 1
 match vs with
 | [] => rfl
 | [v] => rfl
 | v :: v' :: vs => simp [V7]
theorem VM (r : Rel T0 B σ a w X h) {T : CS} (hT : ∀ b k, Tk T0 X h σ b k -> T b k) : ∀ {vX : List (List At)} {wi : List (List Value)} {res : List (List D)}, xa σ vX = some res -> Z2 (fun xs cs => Z2 (Z7 (Tof T0 X) h σ.ob w) xs cs) vX wi ->
  Z2 (fun cs row => Z2 (zf false T w) cs row) wi res
 | [], wi, res, hr, wG => by cases wG; simp [xa] at hr; subst hr; exact .nil
 | xs :: vX, wi, res, hr, wG => by
  cases wG with
  | cons h1 wG =>
   simp only [xa] at hr
   split at hr
   ·rename_i row rs wh uf
    cases hr
    refine .cons ?_ (VM r hT uf wG)
    have := r.rowOf false wh h1 (fun hh => by cases hh)
    refine this.imp fun v d hd => ?_
    simp only [zf, Bool.false_eq_true, if_false] at hd ⊢
    exact Rd.mono (fun b k v hb hc => ⟨hc, hT b k hb⟩) hd
   ·cases hr
theorem Om : ∀ {xs : List At} {ds : List D}, ownRow σ xs = some ds -> Z2 (fun x d => xO σ x = some d) xs ds
 | [], ds, hr => by simp [ownRow] at hr; subst hr; exact .nil
 | x :: xs, ds, hr => by
  simp only [ownRow] at hr
  split at hr
  ·rename_i d rF h1 h2; cases hr; exact .cons h1 (Om h2)
  ·cases hr
theorem Pf : ∀ {vX : List (List At)} {res : List (List D)}, kK σ vX = some res -> Z2 (fun xs row => Z2 (fun x d => xO σ x = some d) xs row) vX res
 | [], res, hr => by simp [kK] at hr; subst hr; exact .nil
 | xs :: vX, res, hr => by
  simp only [kK] at hr
  split at hr
  ·rename_i d rF h1 h2; cases hr; exact .cons (Om h1) (Pf h2)
  ·cases hr
theorem Vg (r : Rel T0 B σ a w X h) {x : At} {d : D} {v : Value} (hx : xO σ x = some d) (hv : Z7 (Tof T0 X) h σ.ob w x v) : Qc (Tof T0 X) w v d /\ (∀ b, d.scalar = false -> blk v = some b -> ∃ t j lo len, x = .sref t j lo len /\ σ.ob t j ≠ .none /\ (h t j).u b) := by
 cases x with
 | d x =>
  cases x with
  | sl s rows => simp [xO] at hx
  | int k n => simp [xO] at hx; subst hx; exact ⟨hv, fun b hb => by cases hb⟩
  | bool b => simp [xO] at hx; subst hx; exact ⟨hv, fun b hb => by cases hb⟩
  | str s => simp [xO] at hx; subst hx; exact ⟨hv, fun b hb => by cases hb⟩
  | unk => simp [xO] at hx; subst hx; exact ⟨hv, fun b hb => by cases hb⟩
 | nil s =>
  simp [xO] at hx; subst hx
  cases hv
  exact ⟨⟨0, [], World.ownsRow_nil w 0 0 s, (by intro q hq; cases hq), .nil⟩, fun b _ hb => by cases hb⟩
 | sref t j lo len =>
  simp only [xO] at hx
  split at hx
  ·rename_i size rows ho
   split at hx
   ·rename_i hc
    obtain ⟨rfl, rfl⟩ := hc
    cases hx
    obtain ⟨_, uK, _⟩ := hv.2.1 _ size rows ho
    have he := uK rfl rfl
    have h0 := r.obj t j
    have vR := r.ub t j
    rw [ho] at h0 vR
    refine ⟨by rw [he]; exact h0, fun b _ hb => ⟨t, j, 0, rows.length, rfl, by rw [ho]; simp, vR b (by simp) (by rw [<- he]; exact hb)⟩⟩
   ·cases hx
  ·cases hx
 | any => simp [xO] at hx
 | ptr => simp [xO] at hx
 | bptr => simp [xO] at hx
 | fn => simp [xO] at hx
 | rptr => simp [xO] at hx
 | tref => simp [xO] at hx
theorem Ii {f : FuncId} {fn : Func} {c : Code} (hf : P.funcs[f]? = some fn) (hb : fn.body = some c) (we : WW P f = true) {own : Bool} {args res : List (List D)}
  (hw : AWP P c (I9 P fn own res) (yu fn.ntmps args)) : Xm P f own args res := by
 refine ⟨we, fun T w wx hT wI => calls_of_wp hf hb ?_⟩
 refine wp_mono (hw T (fun b => b < w.heap.size) _ w (Oy hT wI)) ?_
 rintro e a' w' ⟨σ', ⟨he, vX, vr, wM⟩, ⟨X, h, r⟩, wT⟩
 have vt : Below w.heap.size w w' := ⟨wT.os, wT.tape, wT.output, wT.size, wT.block⟩
 obtain ⟨vs, wi, wW, wo, wG⟩ := qN r vr
 have goal : a'.defers = [] /\ ∃ v, (results fn a'.tmps).run P w' = .ok v w' /\ Cm own T w res (.returned v) w' := by
  refine ⟨r.defers, _, wW, ?_⟩
  cases own with
  | false =>
   refine ⟨vs, wi, fun b => w.heap.size <= b /\ b < w'.heap.size, rfl, vt, fun b hb => hb, wo, ?_, fun hh => by cases hh⟩
   refine VM r (fun b k hb => ?_) (by simpa using wM) wG
   rcases hb with hb | ⟨t, j, q, size, rows, ho, hb⟩
   ·rcases hb with hb | hb
    ·exact .inl hb
    ·have := r.hX b hb; exact .inr ⟨by omega, this.2⟩
   ·have := r.own t j b (by rw [ho]; simp) hb
    exact .inr ⟨by omega, this.2.2⟩
  | true =>
   simp only [if_true] at wM
   obtain ⟨wJ, vB⟩ := wM
   have vD := Pf wJ
   have tZ : Z2 (fun x d => xO σ' x = some d) vX.flatten res.flatten := zb vD
   have ta : Z2 (Z7 (Tof T X) h σ'.ob w') vX.flatten wi.flatten := zb wG
   refine ⟨vs, wi, X, rfl, vt, (fun b hb => by have := r.hX b hb; exact ⟨by omega, this.2⟩), wo, ?_, fun _ => ⟨fun i cc d b hc hd vf hb => ?_, fun i j cc eV d d' b hc hd wv wR vf oT hb wU => ?_⟩⟩
   ·clear tZ ta wo wW vr wJ vB he hw
    induction vD generalizing wi with
    | nil => cases wG; exact .nil
    | cons hr _ ih =>
     cases wG with
     | cons rN wG =>
      refine .cons ?_ (ih _ wG)
      clear ih wG
      refine Z2.Ku (by rw [<- rN.length, hr.length]) (fun i v d hv hd => ?_)
      obtain ⟨x, hx, pj⟩ := hr.get' i d hd
      obtain ⟨v', sP, nq⟩ := rN.get i x hx
      rw [hv] at sP; cases sP
      simp only [zf, if_true]
      exact (Vg r pj nq).1
   ·obtain ⟨x, hx, pj⟩ := tZ.get' i d hd
    obtain ⟨v', sP, nq⟩ := ta.get i x hx
    rw [hc] at sP; cases sP
    obtain ⟨t, j, lo, len, _, wE, uS⟩ := (Vg r pj nq).2 b vf hb
    have := r.own t j b wE uS
    exact ⟨by omega, this.2.2, this.2.1⟩
   ·obtain ⟨x, hx, pj⟩ := tZ.get' i d hd
    obtain ⟨v', sP, nq⟩ := ta.get i x hx
    rw [hc] at sP; cases sP
    obtain ⟨x2, nT, lq⟩ := tZ.get' j d' wR
    obtain ⟨v2, vJ, lr⟩ := ta.get j x2 nT
    rw [wv] at vJ; cases vJ
    obtain ⟨t, u, lo, len, rfl, wE, uS⟩ := (Vg r pj nq).2 b vf hb
    obtain ⟨t2, u2, gv, lu, rfl, pV, lv⟩ := (Vg r lq lr).2 b oT wU
    obtain ⟨rfl, rfl⟩ := r.inj t u t2 u2 b wE pV uS lv
    exact PG _ i j t u lo len gv lu vB hx nT
 rcases he with rfl | rfl
 ·exact goal
 ·exact goal
theorem Mx {f : FuncId} {fn : Func} {c : Code} (hf : P.funcs[f]? = some fn) (hb : fn.body = some c) (we : WW P f = true) {args res : List (List D)}
  (hw : AWP P c (Fs P fn res) (yu fn.ntmps args)) : YN P f args res := by
 refine ⟨we, fun T w wx hT wI => calls_of_wp hf hb ?_⟩
 refine wp_mono (hw T (fun b => b < w.heap.size) _ w (Oy hT wI)) ?_
 rintro e a' w' ⟨σ', ⟨he, vX, vr, v9, uL, vB⟩, ⟨X, h, r⟩, wT⟩
 have vt : Below w.heap.size w w' := ⟨wT.os, wT.tape, wT.output, wT.size, wT.block⟩
 obtain ⟨vs, wi, wW, wo, wG⟩ := qN r vr
 have goal : a'.defers = [] /\ ∃ v, (results fn a'.tmps).run P w' = .ok v w' /\ Dt w res (.returned v) w' := by
  refine ⟨r.defers, _, wW, vs, wi, rfl, vt, wo, ?_, ?_⟩
  ·clear vB uL vr wW wo hw
   induction wG generalizing res with
   | nil => simp [Qv] at v9; subst v9; exact .nil
   | cons h1 _ ih =>
    simp only [Qv] at v9
    split at v9
    ·rename_i row rs wh uf
     cases v9
     exact .cons (by rw [<- h1.length]; exact (zt wh).1) (ih uf)
    ·cases v9
  ·refine (Uw r (zb wG) (zG v9).1 (Ks uL) vB).mono (fun b hb => ?_)
   have := r.zQ _ b hb
   exact ⟨by omega, this.2.2.1⟩
 rcases he with rfl | rfl
 ·exact goal
 ·exact goal
end
end Go.Vm
namespace Go.Vm
open Go.RowKit
theorem St.E0 (e : Ent) (σ : St) : St.get (e :: σ) 0 = e.1 := rfl
theorem St.E6 (e : Ent) (σ : St) (n : Nat) : St.get (e :: σ) (n + 1) = St.get σ n := by simp [St.get]
theorem St.DX (e : Ent) (σ : St) (j : Nat) : St.ob (e :: σ) 0 j = YO e.2 j := rfl
theorem St.DO (e : Ent) (σ : St) (n j : Nat) : St.ob (e :: σ) (n + 1) j = St.ob σ n j := by simp [St.ob]
theorem Lb (o : Ob) (os : List Ob) : YO (o :: os) 0 = o := rfl
theorem xo (o : Ob) (os : List Ob) (n : Nat) : YO (o :: os) (n + 1) = YO os n := by simp [YO]
theorem Eo (n : Nat) : YO [] n = .none := by simp [YO]
def lkI (P : Program) (σ : St) (x : Operand) : Prop × Int :=
 match unc (look P σ 0 x) with
 | .one (.d (.int _ n)) => (gOf (look P σ 0 x) = true, n)
 | _ => (False, 0)
def lkK (P : Program) (σ : St) (x : Operand) : IntKind :=
 match unc (look P σ 0 x) with
 | .one (.d (.int k _)) => k
 | _ => .i64
theorem qT {P : Program} {σ : St} {x : Operand} (h : (lkI P σ x).1) : jm P σ x (lkK P σ x) (lkI P σ x).2 := by
 unfold lkI at h ⊢
 unfold lkK
 unfold jm
 split at h
 ·rename_i k n heq
  rw [heq]; exact ⟨h, rfl⟩
 ·exact h.elim
def KF (P : Program) (σ : St) (vi : Nat) : Option Operand -> Prop × Nat
 | none => (True, vi)
 | some x => ((lkI P σ x).1 /\ 0 <= (lkI P σ x).2, (lkI P σ x).2.toNat)
theorem Ww {P : Program} {σ : St} {vi : Nat} {x : Option Operand} (h : (KF P σ vi x).1) : bnd P σ vi x (KF P σ vi x).2 := by
 cases x with
 | none => rfl
 | some x =>
  have h1 := qT h.1
  exact ⟨_, _, h1.1, h1.2, h.2, rfl⟩
def rowAt (rows : List (List D)) (i : Nat) : List D := rows.getD i []
def bAt (s : ByteArray) (i : Nat) : Nat := (s.data.toList.getD i 0).toNat
def Uv (P : Program) (σ : St) (T : TypeId) (x ix : Operand) : Prop × V :=
 match unc (look P σ 0 x) with
 | .one (.d (.sl size rows)) => ((gOf (look P σ 0 x) = true /\ (lkI P σ ix).1) /\ 0 <= (lkI P σ ix).2 /\ (XC P T = true /\ size = P.cellsOf (ZP P T) /\ 0 < size) /\ (lkI P σ ix).2 < (rows.length : Int), .one (.rptr (rowAt rows (lkI P σ ix).2.toNat) 0))
 | .one (.sref t j lo len) => ((gOf (look P σ 0 x) = true /\ (lkI P σ ix).1) /\ 0 <= (lkI P σ ix).2 /\ (XC P T = true /\ 0 < P.cellsOf (ZP P T) /\ (match σ.ob t j with | .arr _ size _ => size = P.cellsOf (ZP P T) | _ => False)) /\ (lkI P σ ix).2 < (len : Int), .one (.ptr t j (lo + (lkI P σ ix).2.toNat) 0))
 | .one (.tref t j m c none) => ((gOf (look P σ 0 x) = true /\ (lkI P σ ix).1) /\ 0 <= (lkI P σ ix).2 /\ (XC P T = true /\ 0 < P.cellsOf (ZP P T)) /\ (match σ.ob t j with | .arr true _ rows => m < rows.length /\ (match (rowAt rows m)[c]? with | some (.sl n s) => n = P.cellsOf (ZP P T) /\ (lkI P σ ix).2 < (s.length : Int) | _ => False) | _ => False), .one (.tref t j m c (some ((lkI P σ ix).2.toNat * P.cellsOf (ZP P T)))))
 | .one (.bptr t c) => ((gOf (look P σ 0 x) = true /\ (lkI P σ ix).1) /\ 0 <= (lkI P σ ix).2 /\ (match σ.ob t 0 with | .box _ => True | _ => False) /\ (match I8 P T with | some n => 1 < n /\ (lkI P σ ix).2 < (n : Int) | none => False), .one (.bptr t (c + (lkI P σ ix).2.toNat * P.cellsOf (ZP P T))))
 | _ => (False, .any)
def GW (P : Program) (σ : St) (T : TypeId) (x : Operand) : Prop × V :=
 match unc (look P σ 0 x) with
 | .one (.bptr t c) => (match σ.ob t 0 with | .box cells => (gOf (look P σ 0 x) = true /\ zz P T = true /\ c + P.cellsOf T <= cells.length, ldV P T (cut cells c (P.cellsOf T))) | _ => (False, .any))
 | .one (.ptr t j i c) => (match σ.ob t j with | .arr q size rows => ((gOf (look P σ 0 x) = true /\ zz P T = true /\ c + P.cellsOf T <= size) /\ i < rows.length, ldV P T (W8 q t j i c (cut (rowAt rows i) c (P.cellsOf T)))) | _ => (False, .any))
 | .one (.rptr r c) => (gOf (look P σ 0 x) = true /\ zz P T = true /\ c + P.cellsOf T <= r.length, ldV P T ((cut r c (P.cellsOf T)).map .d))
 | .one (.tref t j i c (some k)) => (match σ.ob t j with
  | .arr true _ rows => (match (rowAt rows i)[c]? with
   | some (.sl 1 s) => ((gOf (look P σ 0 x) = true /\ zz P T = true) /\ i < rows.length /\ P.cellsOf T = 1 /\ k < s.length /\ (rowAt s k).all D.scalar = true, ldV P T ((rowAt s k).map .d))
   | _ => (False, .any))
  | _ => (False, .any))
 | _ => (False, .any)
def Ul (P : Program) (σ : St) (T : TypeId) (x : Operand) (f : Nat) : Prop × V :=
 match unc (look P σ 0 x) with
 | .one (.bptr t c) => (gOf (look P σ 0 x) = true /\ xA P T f = true /\ (match σ.ob t 0 with | .box _ => True | _ => False), .one (.bptr t (c + Xk P T f)))
 | .one (.ptr t j i c) => (gOf (look P σ 0 x) = true /\ xA P T f = true /\ (match σ.ob t j with | .arr _ _ _ => True | _ => False), .one (.ptr t j i (c + Xk P T f)))
 | .one (.rptr r c) => (gOf (look P σ 0 x) = true /\ xA P T f = true, .one (.rptr r (c + Xk P T f)))
 | .one (.tref t j i c (some k)) => (gOf (look P σ 0 x) = true /\ xA P T f = true /\ (match σ.ob t j with | .arr true _ _ => True | _ => False), .one (.tref t j i c (some (k + Xk P T f))))
 | _ => (False, .any)
def Lg (P : Program) (op : BinOp) (T : TypeId) (x y : V) : Prop × V :=
 match op, x, y with
 | .eql, .one (.d (.int k m)), .one (.d (.int k' n)) => (k' = k, .one (.d (.bool (m == n))))
 | .neq, .one (.d (.int k m)), .one (.d (.int k' n)) => (k' = k, .one (.d (.bool (m != n))))
 | .lss, .one (.d (.int k m)), .one (.d (.int k' n)) => (k' = k, .one (.d (.bool (decide (m < n)))))
 | .leq, .one (.d (.int k m)), .one (.d (.int k' n)) => (k' = k, .one (.d (.bool (decide (m <= n)))))
 | .gtr, .one (.d (.int k m)), .one (.d (.int k' n)) => (k' = k, .one (.d (.bool (decide (m > n)))))
 | .geq, .one (.d (.int k m)), .one (.d (.int k' n)) => (k' = k, .one (.d (.bool (decide (m >= n)))))
 | .add, .one (.d (.int k m)), .one (.d (.int k' n)) => (k' = k, .one (.d (.int k (k.wrap (m + n)))))
 | .sub, .one (.d (.int k m)), .one (.d (.int k' n)) => (k' = k, .one (.d (.int k (k.wrap (m - n)))))
 | .mul, .one (.d (.int k m)), .one (.d (.int k' n)) => (k' = k, .one (.d (.int k (k.wrap (m * n)))))
 | .quo, .one (.d (.int k m)), .one (.d (.int k' n)) => (k' = k /\ n ≠ 0, .one (.d (.int k (k.wrap (m.tdiv n)))))
 | .rem, .one (.d (.int k m)), .one (.d (.int k' n)) => (k' = k /\ n ≠ 0, .one (.d (.int k (m.tmod n))))
 | .and, .one (.d (.int k m)), .one (.d (.int k' n)) => (k' = k, .one (.d (.int k (M3 k m n))))
 | .or, .one (.d (.int k m)), .one (.d (.int k' n)) => (k' = k, .one (.d (.int k (iOr k m n))))
 | .xor, .one (.d (.int k m)), .one (.d (.int k' n)) => (k' = k, .one (.d (.int k (ER k m n))))
 | .shl, .one (.d (.int k m)), .one (.d (.int _ n)) => (0 <= n, .one (.d (.int k (k.wrap (m * 2 ^ (min n.toNat k.bits))))))
 | .shr, .one (.d (.int k m)), .one (.d (.int _ n)) => (0 <= n, .one (.d (.int k (m.fdiv (2 ^ (min n.toNat k.bits))))))
 | .add, .one (.d (.str m)), .one (.d (.str n)) => (((m.size + n.size : Nat) : Int) <= 9223372036854775807, .one (.d (.str (m ++ n))))
 | .eql, .one (.d (.str m)), .one (.d (.str n)) => (True, .one (.d (.bool (decide (m = n)))))
 | .neq, .one (.d (.str m)), .one (.d (.str n)) => (True, .one (.d (.bool (!decide (m = n)))))
 | .eql, .one (.d (.bool m)), .one (.d (.bool n)) => (PO P T = true, .one (.d (.bool (m == n))))
 | .neq, .one (.d (.bool m)), .one (.d (.bool n)) => (PO P T = true, .one (.d (.bool (!(m == n)))))
 | .eql, .agg xs, .agg ys => (Ti P T = true /\ (yy P (P.fieldsOf T).toList xs ys).isSome = true, .one (.d (.bool ((yy P (P.fieldsOf T).toList xs ys).getD false))))
 | .neq, .agg xs, .agg ys => (Ti P T = true /\ (yy P (P.fieldsOf T).toList xs ys).isSome = true, .one (.d (.bool (!(yy P (P.fieldsOf T).toList xs ys).getD false))))
 | _, _, _ => (False, .any)
def VU (P : Program) (σ : St) (T : TypeId) : List (Nat × Operand) -> List At -> Prop × List At
 | [], r => (True, r)
 | (i, x) :: ps, r => ((bOk P T i = true /\ gOf (look P σ (bTy P T i) x) = true /\ (unc (look P σ (bTy P T i) x)).flat = true /\
   (unc (look P σ (bTy P T i) x)).cells.length = P.cellsOf (bTy P T i) /\ V5 P T i + P.cellsOf (bTy P T i) <= r.length) /\ (VU P σ T ps (place r (V5 P T i) (unc (look P σ (bTy P T i) x)).cells)).1,
   (VU P σ T ps (place r (V5 P T i) (unc (look P σ (bTy P T i) x)).cells)).2)
theorem N9 {P : Program} {σ : St} {T : TypeId} : ∀ {ps : List (Nat × Operand)} {r : List At}, (VU P σ T ps r).1 -> WC P σ T ps r (VU P σ T ps r).2
 | [], _, _ => rfl
 | (_, _) :: _, _, h => ⟨h.1.1, h.1.2.1, h.1.2.2.1, h.1.2.2.2.1, h.1.2.2.2.2, N9 h.2⟩
def isB : V -> Bool
 | .one (.d (.bool _)) => true
 | _ => false
def bOf : V -> Bool
 | .one (.d (.bool b)) => b
 | _ => false
theorem Et : ∀ {v : V}, isB v = true -> v = .one (.d (.bool (bOf v)))
 | .one (.d (.bool _)), _ => rfl
def evV (P : Program) (σ : St) (op : Op) (ty : TypeId) : Prop × V :=
 match op with
 | .move x => (True, look P σ ty x)
 | .assign x => (True, look P σ ty x)
 | .pick c a b =>
  (match unc (look P σ ty c) with
  | .one (.d (.bool bc)) => ((gOf (look P σ ty c) = true /\ (bc = true -> isB (unc (look P σ ty a)) = true) /\ (bc = false -> isB (unc (look P σ ty b)) = true)) /\ (bc = true -> gOf (look P σ ty a) = true) /\ (bc = false -> gOf (look P σ ty b) = true), .one (.d (.bool (cond bc (bOf (unc (look P σ ty a))) (bOf (unc (look P σ ty b)))))))
  | _ => (False, .any))
 | .load T x => GW P σ T x
 | .fieldAddr T x f => Ul P σ T x f
 | .nilCheck x => (match unc (look P σ 0 x) with
  | .one (.bptr t c) => (gOf (look P σ 0 x) = true /\ (match σ.ob t 0 with | .box _ => True | _ => False), .one (.bptr t c))
  | _ => (False, .any))
 | .indexAddr T x ix => Uv P σ T x ix
 | .index T x ix =>
  (match unc (look P σ 0 x) with
  | .one (.d (.str s)) => ((gOf (look P σ 0 x) = true /\ (lkI P σ ix).1) /\ 0 <= (lkI P σ ix).2 /\ VX P T = true /\ (lkI P σ ix).2 < (s.size : Int), .one (.d (.int .u8 (bAt s (lkI P σ ix).2.toNat))))
  | .agg xs => ((gOf (look P σ 0 x) = true /\ (lkI P σ ix).1) /\ 0 <= (lkI P σ ix).2 /\ (match I8 P T with | some n => (lkI P σ ix).2 < (n : Int) | none => False) /\ zz P (ZP P T) = true /\ (lkI P σ ix).2.toNat * P.cellsOf (ZP P T) + P.cellsOf (ZP P T) <= xs.length,
    ldV P (ZP P T) (cut xs ((lkI P σ ix).2.toNat * P.cellsOf (ZP P T)) (P.cellsOf (ZP P T))))
  | _ => (False, .any))
 | .slice T x lo hi none =>
  (match unc (look P σ 0 x) with
  | .one (.d (.str s)) => ((gOf (look P σ 0 x) = true /\ VX P T = true /\ (KF P σ 0 lo).1 /\ (KF P σ s.size hi).1) /\ (KF P σ 0 lo).2 <= (KF P σ s.size hi).2 /\ (KF P σ s.size hi).2 <= s.size, .one (.d (.str (s.extract (KF P σ 0 lo).2 (KF P σ s.size hi).2))))
  | .one (.d (.sl size rows)) => ((gOf (look P σ 0 x) = true /\ XC P T = true /\ size = P.cellsOf (ZP P T) /\ (KF P σ 0 lo).1 /\ (KF P σ rows.length hi).1) /\ (KF P σ 0 lo).2 <= (KF P σ rows.length hi).2 /\ (KF P σ rows.length hi).2 <= rows.length,
    .one (.d (.sl size (cut rows (KF P σ 0 lo).2 ((KF P σ rows.length hi).2 - (KF P σ 0 lo).2)))))
  | .one (.sref t j o len) => ((gOf (look P σ 0 x) = true /\ XC P T = true /\ (match σ.ob t j with | .arr _ size _ => size = P.cellsOf (ZP P T) | _ => False) /\ (KF P σ 0 lo).1 /\ (KF P σ len hi).1) /\ (KF P σ 0 lo).2 <= (KF P σ len hi).2 /\ (KF P σ len hi).2 <= len,
    .one (.sref t j (o + (KF P σ 0 lo).2) ((KF P σ len hi).2 - (KF P σ 0 lo).2)))
  | _ => (False, .any))
 | .binOp op T x y _ => ((gOf (look P σ T x) = true /\ gOf (look P σ T y) = true) /\ (Lg P op T (unc (look P σ T x)) (unc (look P σ T y))).1, (Lg P op T (unc (look P σ T x)) (unc (look P σ T y))).2)
 | .unOp .not _ x => (match unc (look P σ 0 x) with | .one (.d (.bool b)) => (gOf (look P σ 0 x) = true, .one (.d (.bool (!b)))) | _ => (False, .any))
 | .unOp .neg _ x => (match unc (look P σ 0 x) with | .one (.d (.int k n)) => (gOf (look P σ 0 x) = true, .one (.d (.int k (k.wrap (-n))))) | _ => (False, .any))
 | .convert S T x => (match unc (look P σ 0 x), Gd P T with | .one (.d (.int _ n)), some k => (gOf (look P σ 0 x) = true /\ (P.underlying S).isSome = true, .one (.d (.int k (k.wrap n)))) | _, _ => (False, .any))
 | .extract x i => (match unc (look P σ 0 x) with | .tup xs => (gOf (look P σ 0 x) = true /\ i < xs.length /\ (xs.getD i .any).flat = true, xs.getD i .any) | _ => (False, .any))
 | .field T x f =>
  (match unc (look P σ 0 x) with
  | .agg xs => (gOf (look P σ 0 x) = true /\ xA P T f = true /\ zz P (zq P T f) = true /\ Xk P T f + P.cellsOf (zq P T f) <= xs.length, ldV P (zq P T f) (cut xs (Xk P T f) (P.cellsOf (zq P T f))))
  | _ => (False, .any))
 | .build T parts => (match qF P 12 T with | some z => ((Xy P T = true /\ Wm P T = true) /\ (VU P σ T parts.toList z).1, .agg (VU P σ T parts.toList z).2) | none => (False, .any))
 | .call ⟨.builtin .len, ⟨[x]⟩, ⟨[t]⟩⟩ =>
  (match unc (look P σ t x) with
  | .one (.d (.str s)) => (gOf (look P σ t x) = true /\ VX P t = true, .one (.d (.int .i64 s.size)))
  | .one (.d (.sl _ rows)) => (gOf (look P σ t x) = true /\ XC P t = true, .one (.d (.int .i64 rows.length)))
  | .one (.nil _) => (gOf (look P σ t x) = true /\ XC P t = true, .one (.d (.int .i64 0)))
  | .one (.sref u j _ len) => (gOf (look P σ t x) = true /\ XC P t = true /\ (match σ.ob u j with | .arr _ _ _ => True | .lit _ _ => True | _ => False), .one (.d (.int .i64 len)))
  | .one (.tref u j i c none) => (match σ.ob u j with
   | .arr true _ rows => (match (rowAt rows i)[c]? with
    | some (.sl _ s) => ((gOf (look P σ t x) = true /\ XC P t = true) /\ i < rows.length, .one (.d (.int .i64 s.length)))
    | _ => (False, .any))
   | _ => (False, .any))
  | _ => (False, .any))
 | .call ⟨.builtin .max, ⟨[x, y]⟩, _⟩ => ((lkI P σ x).1 /\ (lkI P σ y).1 /\ lkK P σ y = lkK P σ x, .one (.d (.int (lkK P σ x) (if (lkI P σ y).2 > (lkI P σ x).2 then (lkI P σ y).2 else (lkI P σ x).2))))
 | .call ⟨.builtin .min, ⟨[x, y]⟩, _⟩ => ((lkI P σ x).1 /\ (lkI P σ y).1 /\ lkK P σ y = lkK P σ x, .one (.d (.int (lkK P σ x) (if (lkI P σ y).2 < (lkI P σ x).2 then (lkI P σ y).2 else (lkI P σ x).2))))
 | _ => (False, .any)
theorem Gr {o : Ob} (h : (match o with | .box _ => True | _ => False)) : ∃ cells, o = .box cells := by
 cases o with
 | box c => exact ⟨c, rfl⟩
 | none => exact h.elim
 | arr q s r => exact h.elim
 | lit s r => exact h.elim
theorem D9 {o : Ob} (h : (match o with | .arr _ _ _ => True | _ => False)) : ∃ q size rows, o = .arr q size rows := by
 cases o with
 | arr q s r => exact ⟨q, s, r, rfl⟩
 | none => exact h.elim
 | box c => exact h.elim
 | lit s r => exact h.elim
theorem CM {o : Ob} (h : (match o with | .arr _ _ _ => True | .lit _ _ => True | _ => False)) : (∃ q size rows, o = .arr q size rows) \/ ∃ size rows, o = .lit size rows := by
 cases o with
 | arr q s r => exact .inl ⟨q, s, r, rfl⟩
 | none => exact h.elim
 | box c => exact h.elim
 | lit s r => exact .inr ⟨s, r, rfl⟩
theorem FR {o : Ob} {n : Nat} (h : (match o with | .arr _ size _ => size = n | _ => False)) : ∃ q rows, o = .arr q n rows := by
 cases o with
 | arr q s r => simp at h; subst h; exact ⟨q, r, rfl⟩
 | none => exact h.elim
 | box c => exact h.elim
 | lit s r => exact h.elim
theorem E5 {P : Program} {op : BinOp} {T : TypeId} {x y : V} (hc : (Lg P op T x y).1) : I7 P op T x y (Lg P op T x y).2 := by
 unfold Lg at hc ⊢
 split at hc
 all_goals first
  | exact hc.elim
  | exact ⟨.inr hc, rfl⟩
  | exact ⟨.inr hc.1, hc.2, rfl⟩
  | exact ⟨.inl (.inl rfl), hc, rfl⟩
  | exact ⟨.inl (.inr rfl), hc, rfl⟩
  | exact ⟨hc, rfl⟩
  | rfl
  | (obtain ⟨q, hq⟩ := Option.isSome_iff_exists.1 hc.2; exact ⟨hc.1, q, hq, .inl ⟨rfl, by rw [hq]; rfl⟩⟩)
  | (obtain ⟨q, hq⟩ := Option.isSome_iff_exists.1 hc.2; exact ⟨hc.1, q, hq, .inr ⟨rfl, by rw [hq]; rfl⟩⟩)
theorem Gj {P : Program} {σ : St} {op : Op} {ty : TypeId} (hc : (evV P σ op ty).1) : YH P σ op ty (evV P σ op ty).2 := by
 unfold evV at hc ⊢
 split at hc
 ·rfl
 ·rfl
 ·rename_i c a b
  split at hc
  ·rename_i bc h1; exact ⟨bc, _, _, hc.1.1, h1, (fun hh => Et (hc.1.2.1 hh)), (fun hh => Et (hc.1.2.2 hh)), hc.2.1, hc.2.2, (by first | rfl | trivial)⟩
  ·exact hc.elim
 ·rename_i T x
  unfold GW at hc ⊢
  simp only [YH]
  split at hc
  ·rename_i t c hx
   split at hc
   ·rename_i cells ho; simp only [hx, ho]; exact ⟨hc.1, hc.2.1, cells, rfl, hc.2.2, (by first | rfl | trivial)⟩
   ·exact hc.elim
  ·rename_i t j i c hx
   split at hc
   ·rename_i size rows ho; simp only [hx, ho]; exact ⟨hc.1.1, hc.1.2.1, _, size, rows, rfl, hc.2, hc.1.2.2, (by first | rfl | trivial)⟩
   ·exact hc.elim
  ·rename_i r c hx; simp only [hx]; exact ⟨hc.1, hc.2.1, hc.2.2, (by first | rfl | trivial)⟩
  ·rename_i t j i c k hx
   split at hc
   ·rename_i size rows ho
    split at hc
    ·rename_i s wM; simp only [hx, ho, wM]; exact ⟨hc.1.1, hc.1.2, size, rows, s, rfl, hc.2.1, wM, hc.2.2.1, hc.2.2.2.1, hc.2.2.2.2, (by first | rfl | trivial)⟩
    ·exact hc.elim
   ·exact hc.elim
  ·exact hc.elim
 ·rename_i T x f
  unfold Ul at hc ⊢
  simp only [YH]
  split at hc
  ·rename_i t c hx; simp only [hx]; exact ⟨hc.1, hc.2.1, Gr hc.2.2, (by first | rfl | trivial)⟩
  ·rename_i t j i c hx; simp only [hx]; exact ⟨hc.1, hc.2.1, D9 hc.2.2, (by first | rfl | trivial)⟩
  ·rename_i r c hx; simp only [hx]; exact ⟨hc.1, hc.2, (by first | rfl | trivial)⟩
  ·rename_i t j i c k hx
   have h3 := hc.2.2
   split at h3
   ·rename_i size rows ho; simp only [hx]; exact ⟨hc.1, hc.2.1, ⟨size, rows, ho⟩, (by first | rfl | trivial)⟩
   ·exact h3.elim
  ·exact hc.elim
 ·rename_i x
  simp only [YH]
  split at hc
  ·rename_i t c hx; simp only [hx]; exact ⟨hc.1, Gr hc.2, (by first | rfl | trivial)⟩
  ·exact hc.elim
 ·rename_i T x ix
  unfold Uv at hc ⊢
  simp only [YH]
  split at hc
  ·rename_i size rows hx
   simp only [hx]
   exact ⟨_, _, qT hc.1.2, hc.2.1, hc.1.1, hc.2.2.1.1, hc.2.2.1.2.1, hc.2.2.1.2.2, hc.2.2.2, (by first | rfl | trivial)⟩
  ·rename_i t j lo len hx
   simp only [hx]
   exact ⟨_, _, qT hc.1.2, hc.2.1, hc.1.1, hc.2.2.1.1, hc.2.2.1.2.1, FR hc.2.2.1.2.2, hc.2.2.2, (by first | rfl | trivial)⟩
  ·rename_i t j m c hx
   have h3 := hc.2.2.2
   split at h3
   ·rename_i size rows ho
    obtain ⟨hm, h4⟩ := h3
    split at h4
    ·rename_i n s hr
     obtain ⟨rfl, wO⟩ := h4
     simp only [hx]
     exact ⟨_, _, qT hc.1.2, hc.2.1, hc.1.1, hc.2.2.1.1, hc.2.2.1.2, ⟨size, rows, s, ho, hm, hr, wO⟩, (by first | rfl | trivial)⟩
    ·exact h4.elim
   ·exact h3.elim
  ·rename_i t c hx
   simp only [hx]
   refine ⟨_, _, qT hc.1.2, hc.2.1, hc.1.1, Gr hc.2.2.1, ?_, (by first | rfl | trivial)⟩
   have := hc.2.2.2
   split at this
   ·rename_i n hn; exact ⟨n, hn, this.1, this.2⟩
   ·exact this.elim
  ·exact hc.elim
 ·rename_i T x ix
  simp only [YH]
  split at hc
  ·rename_i s hx; simp only [hx]; exact ⟨_, _, qT hc.1.2, hc.2.1, hc.1.1, hc.2.2.1, hc.2.2.2, (by first | rfl | trivial)⟩
  ·rename_i xs hx
   simp only [hx]
   refine ⟨_, _, qT hc.1.2, hc.2.1, hc.1.1, ?_, hc.2.2.2.1, hc.2.2.2.2, (by first | rfl | trivial)⟩
   have := hc.2.2.1
   split at this
   ·rename_i n hn; exact ⟨n, hn, this⟩
   ·exact this.elim
  ·exact hc.elim
 ·rename_i T x lo hi
  simp only [YH]
  split at hc
  ·rename_i s hx; simp only [hx]; exact ⟨hc.1.1, hc.1.2.1, _, _, Ww hc.1.2.2.1, Ww hc.1.2.2.2, hc.2.1, hc.2.2, (by first | rfl | trivial)⟩
  ·rename_i size rows hx; simp only [hx]; exact ⟨hc.1.1, hc.1.2.1, hc.1.2.2.1, _, _, Ww hc.1.2.2.2.1, Ww hc.1.2.2.2.2, hc.2.1, hc.2.2, (by first | rfl | trivial)⟩
  ·rename_i t j o len hx; simp only [hx]; exact ⟨hc.1.1, hc.1.2.1, FR hc.1.2.2.1, _, _, Ww hc.1.2.2.2.1, Ww hc.1.2.2.2.2, hc.2.1, hc.2.2, (by first | rfl | trivial)⟩
  ·exact hc.elim
 ·exact ⟨hc.1.1, hc.1.2, E5 hc.2⟩
 ·simp only [YH]
  split at hc
  ·rename_i b hx; simp only [hx]; exact ⟨hc, (by first | rfl | trivial)⟩
  ·exact hc.elim
 ·simp only [YH]
  split at hc
  ·rename_i k n hx; simp only [hx]; exact ⟨hc, (by first | rfl | trivial)⟩
  ·exact hc.elim
 ·rename_i S T x
  simp only [YH]
  split at hc
  ·rename_i k0 n k hx hk; simp only [hx, hk]; exact ⟨hc.1, hc.2, k, rfl, (by first | rfl | trivial)⟩
  ·exact hc.elim
 ·rename_i x i
  simp only [YH]
  split at hc
  ·rename_i xs hx
   simp only [hx]
   exact ⟨hc.1, by simp [List.getD_eq_getElem?_getD, List.getElem?_eq_getElem hc.2.1], hc.2.2⟩
  ·exact hc.elim
 ·simp only [YH]
  split at hc
  ·rename_i xs hx; simp only [hx]; exact ⟨hc.1, hc.2.1, hc.2.2.1, hc.2.2.2, (by first | rfl | trivial)⟩
  ·exact hc.elim
 ·simp only [YH]
  split at hc
  ·rename_i z hz; exact ⟨hc.1.1, hc.1.2, z, _, hz, N9 hc.2, (by first | rfl | trivial)⟩
  ·exact hc.elim
 ·simp only [YH]
  split at hc
  ·rename_i s hx; simp only [hx]; exact ⟨hc.1, hc.2, (by first | rfl | trivial)⟩
  ·rename_i s rows hx; simp only [hx]; exact ⟨hc.1, hc.2, (by first | rfl | trivial)⟩
  ·rename_i s hx; simp only [hx]; exact ⟨hc.1, hc.2, (by first | rfl | trivial)⟩
  ·rename_i u j lo len hx; simp only [hx]; exact ⟨hc.1, hc.2.1, CM hc.2.2, (by first | rfl | trivial)⟩
  ·rename_i u j i c hx
   split at hc
   ·rename_i rows ho
    split at hc
    ·rename_i s wM; simp only [hx, ho, wM]; exact ⟨hc.1.1, hc.1.2, _, rows, _, s, rfl, hc.2, wM, (by first | rfl | trivial)⟩
    ·exact hc.elim
   ·exact hc.elim
  ·exact hc.elim
 ·simp only [YH]
  have hy := qT hc.2.1
  rw [hc.2.2] at hy
  exact ⟨_, _, _, qT hc.1, hy, (by first | rfl | trivial)⟩
 ·simp only [YH]
  have hy := qT hc.2.1
  rw [hc.2.2] at hy
  exact ⟨_, _, _, qT hc.1, hy, (by first | rfl | trivial)⟩
 ·exact hc.elim
end Go.Vm
namespace Go.Vm
open Go.RowKit
def Vj (P : Program) (σ : St) (T : TypeId) (size : Nat) : List (Nat × Operand) -> Nat -> Prop × List (List D)
 | [], _ => (True, [])
 | (i, x) :: ps, k => ((i = k /\ gOf (look P σ T x) = true /\ (unc (look P σ T x)).flat = true /\ JZ (unc (look P σ T x)).cells = true /\ (rowOf σ (unc (look P σ T x)).cells).isSome = true /\ ((rowOf σ (unc (look P σ T x)).cells).getD []).length = size) /\ (Vj P σ T size ps (k + 1)).1,
   (rowOf σ (unc (look P σ T x)).cells).getD [] :: (Vj P σ T size ps (k + 1)).2)
theorem LU {P : Program} {σ : St} {T : TypeId} {size : Nat} : ∀ {ps : List (Nat × Operand)} {k : Nat}, (Vj P σ T size ps k).1 -> Se P σ T size ps k (Vj P σ T size ps k).2
 | [], _, _ => rfl
 | (_, x) :: _, _, h => by
  obtain ⟨⟨h1, h2, h3, h4, h5, h6⟩, h7⟩ := h
  obtain ⟨r, hr⟩ := Option.isSome_iff_exists.1 h5
  refine ⟨h1, h2, h3, h4, r, _, hr, ?_, LU h7, ?_⟩
  ·rw [hr] at h6; exact h6
  ·simp only [Vj, hr, Option.getD_some]
def Vu (σ : St) (x : V) (size : Nat) : Prop × List (List D) × St :=
 match x with
 | .one (.nil _) => (True, [], σ)
 | .one (.sref t j lo len) => (match σ.ob t j with | .arr false s wH => (s = size /\ lo = 0 /\ len = wH.length, wH, σ.Zt t j .none) | _ => (False, [], σ))
 | _ => (False, [], σ)
theorem EY {σ : St} {x : V} {size : Nat} (h : (Vu σ x size).1) : VK σ x size (Vu σ x size).2.1 (Vu σ x size).2.2 := by
 unfold Vu at h ⊢
 split at h
 ·exact ⟨rfl, rfl⟩
 ·rename_i t j lo len
  split at h
  ·rename_i s wH ho
   obtain ⟨rfl, rfl, rfl⟩ := h
   exact ⟨wH, ho, rfl, Nat.le_refl _, (List.take_length).symm, rfl⟩
  ·exact h.elim
 ·exact h.elim
def SB (σ : St) (x : V) (size : Nat) : Prop × List (List D) :=
 match x with
 | .one (.d (.sl s rows)) => (s = size, rows)
 | .one (.nil _) => (True, [])
 | .one (.sref t j lo len) => (match σ.ob t j with | .arr false s rows => (s = size /\ lo + len <= rows.length, cut rows lo len) | _ => (False, []))
 | _ => (False, [])
theorem DB {σ : St} {x : V} {size : Nat} (h : (SB σ x size).1) : xt σ x size (SB σ x size).2 := by
 unfold SB at h ⊢
 split at h
 ·exact ⟨h, rfl⟩
 ·rfl
 ·rename_i t j lo len
  split at h
  ·rename_i s rows ho
   obtain ⟨rfl, hle⟩ := h
   exact ⟨rows, ho, hle, rfl⟩
  ·exact h.elim
 ·exact h.elim
def evS (P : Program) (σ : St) (o : Oper) (d : Nat) : Prop × St :=
 match o.op with
 | .alloc T => (match qF P 12 T with | some row => (σ.fresh d = true /\ Xy P T = true, σ.new d (.one (.bptr d 0)) [.box row]) | none => (False, σ))
 | .box T x => (σ.fresh d = true /\ gOf (look P σ T x) = true /\ (unc (look P σ T x)).flat = true /\ YG d (unc (look P σ T x)).cells = false, σ.new d (.one (.bptr d 0)) [.box (unc (look P σ T x)).cells])
 | .buildSlice T n parts => ((σ.fresh d = true /\ XC P T = true /\ Xy P (ZP P T) = true /\ 0 < P.cellsOf (ZP P T) /\ parts.toList.length = n /\ n * P.cellsOf (ZP P T) <= 16777216) /\ (Vj P σ (ZP P T) (P.cellsOf (ZP P T)) parts.toList 0).1,
   σ.new d (.one (.sref d 0 0 (Vj P σ (ZP P T) (P.cellsOf (ZP P T)) parts.toList 0).2.length)) [.arr false (P.cellsOf (ZP P T)) (Vj P σ (ZP P T) (P.cellsOf (ZP P T)) parts.toList 0).2])
 | .makeSlice T x y => (match qF P 12 (ZP P T) with
   | some z => (match zD z with
    | some zr => ((x = y /\ σ.fresh d = true /\ XC P T = true /\ Xy P (ZP P T) = true /\ 0 < P.cellsOf (ZP P T) /\ (lkI P σ x).1) /\ 0 <= (lkI P σ x).2 /\ P.bytesOf (ZP P T) * (lkI P σ x).2.toNat <= 281474976710656 /\ (lkI P σ x).2 <= 9223372036854775807,
      σ.new d (.one (.sref d 0 0 (lkI P σ x).2.toNat)) [.arr false (P.cellsOf (ZP P T)) (List.replicate (lkI P σ x).2.toNat zr)])
    | none => (False, σ))
   | none => (False, σ))
 | .call ⟨.builtin .append, ⟨[x, y]⟩, ⟨[t, t']⟩⟩ =>
   (((t = t' /\ gOf (look P σ t x) = true /\ gOf (look P σ t y) = true /\ XC P t = true /\ Xy P (ZP P t) = true /\ 0 < P.cellsOf (ZP P t)) /\ (Vu σ (unc (look P σ t x)) (P.cellsOf (ZP P t))).1 /\ (SB σ (unc (look P σ t y)) (P.cellsOf (ZP P t))).1 /\ (Vu σ (unc (look P σ t x)) (P.cellsOf (ZP P t))).2.2.fresh d = true) /\
    ((Vu σ (unc (look P σ t x)) (P.cellsOf (ZP P t))).2.1.length + (SB σ (unc (look P σ t y)) (P.cellsOf (ZP P t))).2.length) * P.bytesOf (ZP P t) <= 140737488355328 /\
    (Vu σ (unc (look P σ t x)) (P.cellsOf (ZP P t))).2.1.length + (SB σ (unc (look P σ t y)) (P.cellsOf (ZP P t))).2.length <= 9223372036854775807,
   (Vu σ (unc (look P σ t x)) (P.cellsOf (ZP P t))).2.2.new d (.one (.sref d 0 0 ((Vu σ (unc (look P σ t x)) (P.cellsOf (ZP P t))).2.1.length + (SB σ (unc (look P σ t y)) (P.cellsOf (ZP P t))).2.length)))
    [.arr false (P.cellsOf (ZP P t)) ((Vu σ (unc (look P σ t x)) (P.cellsOf (ZP P t))).2.1 ++ (SB σ (unc (look P σ t y)) (P.cellsOf (ZP P t))).2)])
 | op => ((evV P σ op o.type).1, σ.put d (evV P σ op o.type).2)
def I4 (P : Program) (σ : St) (T : TypeId) (x y : Operand) : Prop × St :=
 match unc (look P σ 0 x) with
 | .one (.bptr t c) => (match σ.ob t 0 with
  | .box cells => (zz P T = true /\ gOf (look P σ 0 x) = true /\ gOf (look P σ T y) = true /\ (unc (look P σ T y)).flat = true /\ (unc (look P σ T y)).cells.length = P.cellsOf T /\ c + P.cellsOf T <= cells.length, σ.Zt t 0 (.box (place cells c (unc (look P σ T y)).cells)))
  | _ => (False, σ))
 | .one (.ptr t j i c) => (match σ.ob t j with
  | .arr q size rows => ((zz P T = true /\ gOf (look P σ 0 x) = true /\ gOf (look P σ T y) = true /\ (unc (look P σ T y)).flat = true /\ (rowOf σ (unc (look P σ T y)).cells).isSome = true /\ JZ (unc (look P σ T y)).cells = true /\ ((rowOf σ (unc (look P σ T y)).cells).getD []).length = P.cellsOf T /\ c + P.cellsOf T <= size) /\ i < rows.length /\ (q = true -> ((rowOf σ (unc (look P σ T y)).cells).getD []).all D.scalar = true /\ (cut (rowAt rows i) c (P.cellsOf T)).all D.scalar = true),
    σ.Zt t j (.arr q size (rows.set i (place (rowAt rows i) c ((rowOf σ (unc (look P σ T y)).cells).getD [])))))
  | _ => (False, σ))
 | _ => (False, σ)
theorem Er {P : Program} {σ : St} {o : Oper} {d : Nat} (sL : ∀ c, o.op = .call c -> ∀ f, c.callee ≠ .value (.func f)) (hc : (evS P σ o d).1) : Step P o d σ (evS P σ o d).2 := by
 unfold evS at hc ⊢
 split at hc
 ·rename_i T wA
  unfold Step
  rw [wA]
  split at hc
  ·rename_i row wh; simp only [wh]; exact ⟨hc.1, hc.2, row, rfl, rfl⟩
  ·exact hc.elim
 ·rename_i T x wA
  unfold Step; rw [wA]
  exact ⟨hc.1, hc.2.1, hc.2.2.1, hc.2.2.2, rfl⟩
 ·rename_i T n parts wA
  unfold Step; rw [wA]
  obtain ⟨⟨h1, h2, h3, h4, h5, h6⟩, h7⟩ := hc
  exact .inl ⟨h1, h2, h3, h4, h5, h6, .inl ⟨_, LU h7, rfl⟩⟩
 ·rename_i T x y wA
  unfold Step; rw [wA]
  split at hc
  ·rename_i z hz
   split at hc
   ·rename_i zr ud
    obtain ⟨⟨h1, h2, h3, h4, h5, h6⟩, h7, h8, h9⟩ := hc
    have hl := qT h6
    simp only [hz]
    refine ⟨h1, h2, h3, h4, h5, false, z, zr, lkK P σ x, (lkI P σ x).2.toNat, (fun hh => by cases hh), rfl, ud, ?_, h8, by omega, rfl⟩
    rw [Int.toNat_of_nonneg h7]; exact hl
   ·exact hc.elim
  ·exact hc.elim
 ·rename_i x y t t' wA
  unfold Step; rw [wA]
  obtain ⟨⟨⟨rfl, h1, h2, h3, h4, h5⟩, h6, h7, h8⟩, h9, tc⟩ := hc
  exact ⟨x, y, t, rfl, rfl, h1, h2, h3, h4, h5, _, _, _, EY h6, DB h7, h8, h9, tc, rfl⟩
 ·rename_i op h1 h2 h3 h4 h5
  have hv := Gj hc
  unfold Step
  split
  ·rename_i T wA; exact absurd wA (h1 T)
  ·rename_i T x wA; exact absurd wA (h2 T x)
  ·rename_i T n ps wA; exact absurd wA (h3 T n ps)
  ·rename_i T x y wA; exact absurd wA (h4 T x y)
  ·rename_i c wA
   split
   ·rename_i tI
    rw [wA] at hv
    simp only [YH] at hv
    split at hv
    ·rename_i sY _ _; rw [tI] at sY; cases sY
    ·rename_i sY _; rw [tI] at sY; cases sY
    ·rename_i sY _; rw [tI] at sY; cases sY
    ·exact hv.elim
   ·rename_i f tI; exact absurd tI (sL c wA f)
   ·exact ⟨_, hv, rfl⟩
  ·exact .inl ⟨_, hv, rfl⟩
  ·exact ⟨_, hv, rfl⟩
theorem DS {P : Program} {σ : St} {T : TypeId} {x y : Operand} (hc : (I4 P σ T x y).1) : z4 P σ T x y (I4 P σ T x y).2 := by
 unfold I4 at hc ⊢
 unfold z4
 split at hc
 ·rename_i t c hx
  split at hc
  ·rename_i cells ho
   obtain ⟨h1, h2, h3, h4, h5, h6⟩ := hc
   first | (rw [hx]; simp only [ho]) | simp only [ho]
   exact ⟨h1, h2, h3, h4, cells, rfl, h5, h6, rfl⟩
  ·exact hc.elim
 ·rename_i t j i c hx
  split at hc
  ·rename_i q size rows ho
   obtain ⟨⟨h1, h2, h3, h4, h5, h6, h7, h8⟩, h9, tc⟩ := hc
   obtain ⟨ds, sw⟩ := Option.isSome_iff_exists.1 h5
   first | (rw [hx]; simp only [ho]) | simp only [ho]
   refine ⟨h1, h2, h3, h4, q, size, rows, ds, rfl, h9, sw, h6, ?_, h8, fun hq => ?_, ?_⟩
   ·rw [sw] at h7; exact h7
   ·have := tc hq
    rw [sw] at this; exact this
   ·rw [sw]; rfl
  ·exact hc.elim
 ·exact hc.elim
def Gg : List At -> Bool
 | [] => false
 | .nil _ :: _ => true
 | _ :: xs => Gg xs
def FL (P : Program) (T : TypeId) : Bool := match qF P 12 (ZP P T) with | some z => Gg z | none => false
def IY : List At -> Bool
 | [] => true
 | .d (.sl _ _) :: _ => false
 | .d _ :: xs => IY xs
 | _ => false
def Cc (P : Program) (σ : St) (T : TypeId) (x y : Operand) : Bool :=
 match unc (look P σ 0 x) with
 | .one (.ptr t j _ _) => (match σ.ob t j with | .arr true _ _ => !IY (unc (look P σ T y)).cells | _ => false)
 | .one (.tref _ _ _ _ (some _)) => true
 | _ => false
def stops (P : Program) (bar : Oper -> Bool) (o : Oper) : Bool :=
 match o.op with
 | .call ⟨.value _, _, _⟩ => true
 | .call ⟨.builtin .append, _, ⟨t :: _⟩⟩ => FL P t
 | .buildSlice T _ _ => FL P T || Cq bar o
 | .makeSlice T _ _ => FL P T
 | .makeFunc _ _ _ => true
 | .convert _ T _ => (Gd P T).isNone
 | .indexAddr _ _ _ => o.guard.isSome
 | .index _ _ _ => o.guard.isSome
 | .slice _ _ _ _ _ => o.guard.isSome
 | _ => false
def xP (P : Program) (ops : Array Oper) (bar : Oper -> Bool) (o : Oper) (rest : List Oper) (σ : St) (Q : St -> Prop) : Prop := ∃ σ', Jy P ops bar o σ σ' /\ Ib P ops bar rest σ' Q
def Ev (P : Program) (ops : Array Oper) (bar : Oper -> Bool) : List Oper -> St -> (St -> Prop) -> Prop
 | [], σ, Q => Q σ
 | o :: rest, σ, Q =>
  if stops P bar o then xP P ops bar o rest σ Q else
  match o.guard with
  | none =>
   (match o.dst with
   | some d => (evS P σ o d).1 /\ Ev P ops bar rest (evS P σ o d).2 Q
   | none => (match o.op with | .store T x y => if Cc P σ T x y then xP P ops bar o rest σ Q else (I4 P σ T x y).1 /\ Ev P ops bar rest (I4 P σ T x y).2 Q | _ => False))
  | some (j, want) =>
   (match (ops[j]?).bind (·.dst), o.dst with
   | some dj, some d => (match z6 want (σ.get dj) with
    | some g => (dj < σ.length /\ (g = true -> (evV P σ o.op o.type).1 /\ gOf (evV P σ o.op o.type).2 = true /\ (unc (evV P σ o.op o.type).2).flat = true)) /\ Ev P ops bar rest (σ.put d (.cnd g (unc (evV P σ o.op o.type).2))) Q
    | none => False)
   | _, _ => False)
theorem QW {P : Program} {ops : Array Oper} {bar : Oper -> Bool} : ∀ {l : List Oper} {σ : St} {Q : St -> Prop}, Ev P ops bar l σ Q -> Ib P ops bar l σ Q
 | [], _, _, h => h
 | o :: rest, σ, Q, h => by
  unfold Ev at h
  split at h
  ·exact h
  ·rename_i wb
   have sL : ∀ c, o.op = .call c -> ∀ f, c.callee ≠ .value (.func f) := by
    intro c wA f tI
    obtain ⟨cc, ca, ct⟩ := c
    simp only at tI; subst tI
    exact wb (by simp [stops, wA])
   split at h
   ·rename_i hg
    split at h
    ·rename_i d hd
     refine ⟨_, .inl ?_, QW h.2⟩
     unfold Y1
     simp only [hg, hd]
     exact Er sL h.1
    ·rename_i hd
     split at h
     ·rename_i T x y wA
      split at h
      ·exact h
      ·refine ⟨_, .inl ?_, QW h.2⟩
       unfold Y1
       simp only [hg, hd, wA]
       exact DS h.1
     ·exact h.elim
   ·rename_i j want hg
    split at h
    ·rename_i dj d vo hd
     split at h
     ·rename_i g vx
      refine ⟨_, .inl ?_, QW h.2⟩
      unfold Y1
      simp only [hg]
      refine ⟨dj, d, g, _, vo, h.1.1, hd, vx, fun rW => ?_, rfl⟩
      obtain ⟨h1, h2, h3⟩ := h.1.2 rW
      have base : ∃ v0, YH P σ o.op o.type v0 /\ gOf v0 = true /\ unc (evV P σ o.op o.type).2 = unc v0 /\ (unc (evV P σ o.op o.type).2).flat = true := ⟨_, Gj h1, h2, rfl, h3⟩
      unfold Rl
      split
      ·rename_i c wA
       split
       ·rename_i f tI; exact absurd tI (sL c wA f)
       ·exact base
      ·exact base
     ·exact h.elim
    ·exact h.elim
theorem Cb {P : Program} {Q : Exit -> St -> Prop} {σ : St} {id : Nat} {l : List Oper} {bar : Oper -> Bool} (h : Ev P l.toArray bar l σ (Q .normal)) : AWP P (.region id l.toArray false) Q σ := Gw (QW h)
theorem I3 {P : Program} {ops : Array Oper} {bar : Oper -> Bool} {o : Oper} {rest : List Oper} {σ : St} {Q : St -> Prop} {c : Call} {f : FuncId} {d : Nat} {own : Bool} {rows res : List (List D)} (wA : o.op = .call c) (hc : c.callee = .value (.func f)) (hg : o.guard = none) (hd : o.dst = some d)
  (wI : Xg P σ c.args.toList c.argTypes.toList rows) (hs : Xm P f own rows res) (wb : YI P σ c.args.toList c.argTypes.toList = true \/ Qn own res) (h : Ev P ops bar rest (σ.put d (zx res)) Q) : xP P ops bar o rest σ Q := by
 refine ⟨_, .inl ?_, QW h⟩
 unfold Y1; simp only [hg, hd]
 unfold Step
 rw [wA]
 simp only [hc]
 exact .inl ⟨own, res, ⟨rows, wI, hs, wb⟩, rfl⟩
theorem Ie {P : Program} {ops : Array Oper} {bar : Oper -> Bool} {o : Oper} {rest : List Oper} {σ : St} {Q : St -> Prop} {c : Call} {f : FuncId} {d : Nat} {rows res : List (List D)} (wA : o.op = .call c) (hc : c.callee = .value (.func f)) (hg : o.guard = none) (hd : o.dst = some d)
  (wI : Xg P σ c.args.toList c.argTypes.toList rows) (hs : Xm P f true rows res) (wb : YI P σ c.args.toList c.argTypes.toList = true \/ Qn true res) (hf : σ.fresh d = true) (h : Ev P ops bar rest (σ.new d (yh d res) (Kv res.flatten)) Q) : xP P ops bar o rest σ Q := by
 refine ⟨_, .inl ?_, QW h⟩
 unfold Y1; simp only [hg, hd]
 unfold Step
 rw [wA]
 simp only [hc]
 exact .inr (.inl ⟨res, ⟨rows, wI, hs, wb⟩, hf, rfl⟩)
theorem GJ {P : Program} {ops : Array Oper} {bar : Oper -> Bool} {o : Oper} {rest : List Oper} {σ : St} {Q : St -> Prop} {c : Call} {f : FuncId} {d j dj : Nat} {want g own : Bool} {rows : List (List D)} {res : List D} (wA : o.op = .call c) (hc : c.callee = .value (.func f)) (hg : o.guard = some (j, want)) (hd : o.dst = some d)
  (vo : (ops[j]?).bind (·.dst) = some dj) (wO : dj < σ.length) (vx : z6 want (σ.get dj) = some g)
  (wI : g = true -> Xg P σ c.args.toList c.argTypes.toList rows) (hs : g = true -> Xm P f own rows [res]) (wb : YI P σ c.args.toList c.argTypes.toList = true \/ Qn own [res]) (h : Ev P ops bar rest (σ.put d (.cnd g (zx [res]))) Q) : xP P ops bar o rest σ Q := by
 refine ⟨_, .inl ?_, QW h⟩
 unfold Y1; simp only [hg]
 refine ⟨dj, d, g, _, vo, wO, hd, vx, fun rW => ?_, rfl⟩
 unfold Rl
 rw [wA]
 simp only [hc]
 exact ⟨own, res, ⟨rows, wI rW, hs rW, wb⟩, rfl⟩
theorem IA {P : Program} {ops : Array Oper} {bar : Oper -> Bool} {o : Oper} {rest : List Oper} {σ : St} {Q : St -> Prop} {S T : TypeId} {x : Operand} {d : Nat} {s : ByteArray} (wA : o.op = .convert S T x) (hg : o.guard = none) (hd : o.dst = some d)
  (h1 : gOf (look P σ S x) = true) (h2 : VX P S = true) (h3 : Sc P T = true) (h4 : unc (look P σ S x) = .one (.d (.str s))) (h5 : s.size <= 9223372036854775807) (h : Ev P ops bar rest (σ.put d (.one (.d (.sl 1 (Jn s.data.toList))))) Q) : xP P ops bar o rest σ Q := by
 refine ⟨_, .inl ?_, QW h⟩
 unfold Y1; simp only [hg, hd]
 unfold Step
 rw [wA]
 exact .inr (.inr ⟨s, h1, h2, h3, h4, h5, rfl⟩)
theorem DT {P : Program} {ops : Array Oper} {bar : Oper -> Bool} {o : Oper} {rest : List Oper} {σ : St} {Q : St -> Prop} {d : Nat} (sL : ∀ c, o.op = .call c -> ∀ f, c.callee ≠ .value (.func f)) (hg : o.guard = none) (hd : o.dst = some d)
  (h1 : (evS P σ o d).1) (h : Ev P ops bar rest (evS P σ o d).2 Q) : xP P ops bar o rest σ Q := by
 refine ⟨_, .inl ?_, QW h⟩
 unfold Y1; simp only [hg, hd]
 exact Er sL h1
theorem G2 {P : Program} {ops : Array Oper} {bar : Oper -> Bool} {o : Oper} {rest : List Oper} {σ : St} {Q : St -> Prop} {c : Call} {f : FuncId} {d : Nat} {rows res : List (List D)} (qs : List Bool) (wA : o.op = .call c) (hc : c.callee = .value (.func f)) (hg : o.guard = none) (hd : o.dst = some d)
  (wI : Xg P σ c.args.toList c.argTypes.toList rows) (hs : YN P f rows res) (hq : Ke qs res.flatten) (hf : σ.fresh d = true) (h : Ev P ops bar rest (σ.new d (yh d res) (YC qs res.flatten)) Q) : xP P ops bar o rest σ Q := by
 refine ⟨_, .inl ?_, QW h⟩
 unfold Y1; simp only [hg, hd]
 unfold Step
 rw [wA]
 simp only [hc]
 exact .inr (.inr ⟨rows, res, qs, wI, hs, hq, hf, rfl⟩)
def JV (P : Program) (σ : St) (T : TypeId) (size : Nat) : List (Nat × Operand) -> Nat -> Prop × List (List At)
 | [], _ => (True, [])
 | (i, x) :: ps, k => ((i = k /\ gOf (look P σ T x) = true /\ (unc (look P σ T x)).flat = true /\ (unc (look P σ T x)).cells.length = size) /\ (JV P σ T size ps (k + 1)).1, (unc (look P σ T x)).cells :: (JV P σ T size ps (k + 1)).2)
theorem Oe {P : Program} {σ : St} {T : TypeId} {size : Nat} : ∀ {ps : List (Nat × Operand)} {k : Nat}, (JV P σ T size ps k).1 -> Ss P σ T size ps k (JV P σ T size ps k).2
 | [], _, _ => rfl
 | (_, x) :: _, _, h => by
  obtain ⟨⟨h1, h2, h3, h4⟩, h7⟩ := h
  exact ⟨h1, h2, h3, h4, _, Oe h7, rfl⟩
theorem E1 {P : Program} {ops : Array Oper} {bar : Oper -> Bool} {o : Oper} {rest : List Oper} {σ : St} {Q : St -> Prop} {d : Nat} {T : TypeId} {n : Nat} {parts : Array (Nat × Operand)} (wA : o.op = .buildSlice T n parts) (hg : o.guard = none) (hd : o.dst = some d)
  (h1 : σ.fresh d = true /\ XC P T = true /\ Xy P (ZP P T) = true /\ 0 < P.cellsOf (ZP P T) /\ parts.toList.length = n /\ n * P.cellsOf (ZP P T) <= 16777216) (h2 : (JV P σ (ZP P T) (P.cellsOf (ZP P T)) parts.toList 0).1)
  (h3 : YG d (JV P σ (ZP P T) (P.cellsOf (ZP P T)) parts.toList 0).2.flatten = false)
  (h : Ev P ops bar rest (σ.new d (.one (.sref d 0 0 (JV P σ (ZP P T) (P.cellsOf (ZP P T)) parts.toList 0).2.length)) [.lit (P.cellsOf (ZP P T)) (JV P σ (ZP P T) (P.cellsOf (ZP P T)) parts.toList 0).2]) Q) : xP P ops bar o rest σ Q := by
 refine ⟨_, .inl ?_, QW h⟩
 unfold Y1; simp only [hg, hd]
 unfold Step
 rw [wA]
 exact .inl ⟨h1.1, h1.2.1, h1.2.2.1, h1.2.2.2.1, h1.2.2.2.2.1, h1.2.2.2.2.2, .inr ⟨_, Oe h2, h3, rfl⟩⟩
def ja (σ : St) (x : V) (size : Nat) : Prop × List (List D) × List (Nat × Nat) :=
 match x with
 | .one (.nil _) => (True, [], [])
 | .one (.sref t j lo len) => (match σ.ob t j with | .arr true s wH => (s = size /\ lo = 0 /\ len = wH.length, wH, [(t, j)]) | _ => (False, [], []))
 | _ => (False, [], [])
theorem Fl {σ : St} {x : V} {size : Nat} (h : (ja σ x size).1) : Fm σ x size (ja σ x size).2.1 (ja σ x size).2.2 := by
 unfold ja at h ⊢
 split at h
 ·exact ⟨rfl, rfl⟩
 ·rename_i t j lo len
  split at h
  ·rename_i s wH ho
   obtain ⟨rfl, rfl, rfl⟩ := h
   exact ⟨ho, rfl, rfl, rfl⟩
  ·exact h.elim
 ·exact h.elim
def j0 (σ : St) (x : V) (size : Nat) : Prop × List (List D) × List (Nat × Nat) :=
 match x with
 | .one (.sref t j lo len) => (match σ.ob t j with | .lit s rows => ((s = size /\ lo = 0 /\ len = rows.length) /\ (Qv σ rows).isSome = true /\ Ql σ rows, (Qv σ rows).getD [], Ya rows.flatten) | _ => (False, [], []))
 | _ => (False, [], [])
theorem EA {σ : St} {x : V} {size : Nat} (h : (j0 σ x size).1) : Fj σ x size (j0 σ x size).2.1 (j0 σ x size).2.2 := by
 unfold j0 at h ⊢
 split at h
 ·rename_i t j lo len
  split at h
  ·rename_i s rows ho
   obtain ⟨⟨rfl, rfl, rfl⟩, h1, h2⟩ := h
   obtain ⟨ns, sL⟩ := Option.isSome_iff_exists.1 h1
   exact ⟨rows, ho, rfl, rfl, by rw [sL]; rfl, h2, rfl⟩
  ·exact h.elim
 ·exact h.elim
theorem y0 : ∀ (σ : St) (d : Nat) (v : V) (t : Nat), (σ.put d v)[t]? = if t = d then (σ[t]?).map (fun e => (v, e.2)) else σ[t]?
 | [], _, _, _ => by simp [St.put]
 | e :: σ, 0, v, t => by cases t <;> simp [St.put]
 | e :: σ, d + 1, v, t => by
  cases t with
  | zero => simp [St.put]
  | succ t => have := y0 σ d v t; simpa [St.put] using this
theorem KO : ∀ (σ : St) (d : Nat) (v : V) (os : List Ob) (t : Nat), (σ.new d v os)[t]? = if t = d then (σ[t]?).map (fun _ => (v, os)) else σ[t]?
 | [], _, _, _, _ => by simp [St.new]
 | e :: σ, 0, v, os, t => by cases t <;> simp [St.new]
 | e :: σ, d + 1, v, os, t => by
  cases t with
  | zero => simp [St.new]
  | succ t => have := KO σ d v os t; simpa [St.new] using this
theorem Xq : ∀ (σ : St) (a j : Nat) (o : Ob) (t : Nat), (σ.Zt a j o)[t]? = if t = a then (σ[t]?).map (fun e => (e.1, e.2.set j o)) else σ[t]?
 | [], _, _, _, _ => by simp [St.Zt]
 | e :: σ, 0, j, o, t => by cases t <;> simp [St.Zt]
 | e :: σ, a + 1, j, o, t => by
  cases t with
  | zero => simp [St.Zt]
  | succ t => have := Xq σ a j o t; simpa [St.Zt] using this
theorem zV {σ : St} {d : Nat} : Yx σ d = true ↔ σ[d]? = some (.any, []) \/ ∃ x, σ[d]? = some (.one (.d x), []) := by
 unfold Yx
 constructor
 ·intro h
  split at h
  ·rename_i h1; exact .inl h1
  ·rename_i x h1; exact .inr ⟨x, h1⟩
  ·cases h
 ·rintro (h | ⟨x, h⟩) <;> rw [h]
theorem X5 {σ : St} {d a j : Nat} {o : Ob} (h : Yx σ d = true) : Yx (σ.Zt a j o) d = true := by
 rw [zV] at *
 rw [Xq]
 rcases h with h | ⟨x, h⟩
 ·left; rw [h]; split <;> rfl
 ·right; refine ⟨x, ?_⟩; rw [h]; split <;> rfl
theorem QD : ∀ {l : List (Nat × Nat)} {σ : St} {d : Nat}, Yx σ d = true -> Yx (σ.Z0 l) d = true
 | [], _, _, h => h
 | p :: l, σ, d, h => by rw [St.Z0]; exact QD (l := l) (X5 h)
theorem Wz {σ : St} {d d' : Nat} {v : V} {os : List Ob} (wE : d ≠ d') (h : Yx σ d = true) : Yx (σ.new d' v os) d = true := by
 unfold Yx at *; simp only [KO, if_neg wE]; exact h
theorem Yu {P : Program} {σ : St} {d : Nat} {v : V} {T : TypeId} {x : Operand} (h : Kd d x = false) : look P (σ.put d v) T x = look P σ T x := by
 cases x with
 | tmp t =>
  have wE : t ≠ d := fun e => by subst e; simp [Kd] at h
  simp [look, St.Jz, wE]
 | const c => rfl
 | global g => rfl
 | func f => rfl
theorem zw : ∀ (σ : St) (d : Nat) (v : V) (t j : Nat) (o : Ob), (σ.put d v).Zt t j o = (σ.Zt t j o).put d v
 | [], _, _, _, _, _ => rfl
 | e :: σ, 0, v, 0, j, o => rfl
 | e :: σ, d + 1, v, 0, j, o => rfl
 | e :: σ, 0, v, t + 1, j, o => rfl
 | e :: σ, d + 1, v, t + 1, j, o => by simp [St.put, St.Zt, zw σ d v t j o]
theorem j9 {d : Nat} {v : V} : ∀ (l : List (Nat × Nat)) (σ : St), (σ.put d v).Z0 l = (σ.Z0 l).put d v
 | [], _ => rfl
 | p :: l, σ => by rw [St.Z0, St.Z0, zw, j9 l]
theorem Rj {σ : St} {d : Nat} {v : V} : ∀ (xs : List At), QR (σ.put d v) xs = QR σ xs
 | [] => rfl
 | x :: xs => by
  have : mvD (σ.put d v) x = mvD σ x := by cases x <;> simp [mvD, St.Xw]
  simp only [QR, this, Rj xs]
theorem U0 {σ : St} {d : Nat} {v : V} : ∀ (xs : List At), XS (σ.put d v) xs = XS σ xs
 | [] => rfl
 | x :: xs => by
  have : M6 (σ.put d v) x = M6 σ x := by cases x <;> simp [M6, St.Xw]
  simp only [XS, this, U0 xs]
theorem IS : ∀ (l : List (Nat × V)) (σ : St), (σ.Qw l).ob = σ.ob
 | [], _ => rfl
 | p :: l, σ => by rw [St.Qw, IS l, St.Xw]
theorem RR {P : Program} {T : TypeId} {x : Operand} : ∀ (l : List (Nat × V)) (σ : St), (∀ p ∈ l, Kd p.1 x = false) -> look P (σ.Qw l) T x = look P σ T x
 | [], _, _ => rfl
 | p :: l, σ, h => by rw [St.Qw, RR l _ (fun q hq => h q (by simp [hq])), Yu (h p (by simp))]
theorem ql {L : List (Nat × Nat)} : ∀ (l : List (Nat × V)) (σ : St), (σ.Qw l).Z0 L = (σ.Z0 L).Qw l
 | [], _ => rfl
 | p :: l, σ => by rw [St.Qw, ql l, j9, St.Qw]
theorem FJ : ∀ {σ : St} {t d : Nat} {v v' : V} {os : List Ob}, t ≠ d -> (σ.put t v').new d v os = (σ.new d v os).put t v'
 | [], _, _, _, _, _, _ => rfl
 | e :: σ, 0, 0, _, _, _, h => absurd rfl h
 | e :: σ, 0, d + 1, _, _, _, _ => rfl
 | e :: σ, t + 1, 0, _, _, _, _ => rfl
 | e :: σ, t + 1, d + 1, v, v', os, h => by simp [St.put, St.new, FJ (σ := σ) (v := v) (v' := v') (os := os) (fun hh => h (congrArg (· + 1) hh))]
theorem Hn {d : Nat} {v : V} {os : List Ob} : ∀ (l : List (Nat × V)) (σ : St), (∀ p ∈ l, p.1 ≠ d) -> (σ.Qw l).new d v os = (σ.new d v os).Qw l
 | [], _, _ => rfl
 | p :: l, σ, h => by rw [St.Qw, Hn l _ (fun q hq => h q (by simp [hq])), FJ (h p (by simp)), St.Qw]
theorem TU {d : Nat} {v : V} (hv : v.ref d = false) : ∀ {σ : St} {k t : Nat}, J8 d k σ = true -> J8 d k (σ.put t v) = true
 | [], _, _, h => h
 | e :: σ, k, 0, h => by
  simp only [J8, St.put, Bool.and_eq_true, Bool.or_eq_true, Bool.not_eq_true'] at h ⊢
  exact ⟨h.1.imp id (fun hh => ⟨hv, hh.2⟩), h.2⟩
 | e :: σ, k, t + 1, h => by
  simp only [J8, St.put, Bool.and_eq_true] at h ⊢
  exact ⟨h.1, TU hv h.2⟩
theorem O4 {d : Nat} : ∀ (l : List (Nat × V)) {σ : St}, (∀ p ∈ l, p.2.ref d = false) -> σ.fresh d = true -> (σ.Qw l).fresh d = true
 | [], _, _, h => h
 | p :: l, σ, hl, h => by
  refine O4 l (fun q hq => hl q (by simp [hq])) ?_
  simp only [St.fresh, Bool.and_eq_true, decide_eq_true_eq, St.Xx] at h ⊢
  exact ⟨h.1, TU (hl p (by simp)) h.2⟩
theorem LG {o : Oper} {x y : Operand} {t : TypeId} (wA : o.op = .call ⟨.builtin .append, #[x, y], #[t, t]⟩) {n : Nat} (h : PU o n = true) : Kd n x = false /\ Kd n y = false := by
 have hx : x ∈ o.op.operands.toList := by rw [wA]; simp [Op.operands, Call.operands]
 have hy : y ∈ o.op.operands.toList := by rw [wA]; simp [Op.operands, Call.operands]
 simp only [PU, Bool.not_eq_true'] at h
 exact ⟨Bool.eq_false_iff.2 (List.any_eq_false.1 h x hx), Bool.eq_false_iff.2 (List.any_eq_false.1 h y hy)⟩
theorem He {σ σ' : St} (h : σ'.ob = σ.ob) : ∀ (xs : List At), QR σ' xs = QR σ xs
 | [] => rfl
 | x :: xs => by
  have : mvD σ' x = mvD σ x := by cases x <;> simp [mvD, h]
  simp only [QR, this, He h xs]
theorem Ow {σ σ' : St} (h : σ'.ob = σ.ob) : ∀ (xs : List At), XS σ' xs = XS σ xs
 | [] => rfl
 | x :: xs => by
  have : M6 σ' x = M6 σ x := by cases x <;> simp [M6, h]
  simp only [XS, this, Ow h xs]
theorem Ld {σ σ' : St} (h : σ'.ob = σ.ob) : ∀ (xs : List (List At)), Qv σ' xs = Qv σ xs
 | [] => rfl
 | x :: xs => by simp only [Qv, He h, Ld h xs]
theorem Pa {σ σ' : St} (h : σ'.ob = σ.ob) : ∀ (xs : List (List At)), Ql σ' xs = Ql σ xs
 | [] => rfl
 | x :: xs => by simp only [Ql, Ow h, Pa h xs]
theorem Dn {σ σ' : St} (h : σ'.ob = σ.ob) {x : V} {size : Nat} {wH : List (List D)} {l : List (Nat × Nat)} (hd : Fm σ x size wH l) : Fm σ' x size wH l := by
 unfold Fm at *; rw [h]; exact hd
theorem DN {σ σ' : St} (h : σ'.ob = σ.ob) {x : V} {size : Nat} {news : List (List D)} {l : List (Nat × Nat)} (hd : Fj σ x size news l) : Fj σ' x size news l := by
 unfold Fj at *
 simp only [h, Ld h, Pa h]; exact hd
theorem LV {d : Nat} : ∀ {os : List Ob} {j : Nat} {cells : List At}, Yf d os = false -> YO os j = .box cells -> YG d cells = false
 | [], j, cells, _, h => by simp [YO] at h
 | o :: os, 0, cells, hr, h => by
  simp only [YO, List.getElem?_cons_zero] at h
  subst h
  simp only [Yf, Bool.or_eq_false_iff] at hr; exact hr.1
 | o :: os, j + 1, cells, hr, h => by
  have h' : YO os j = .box cells := by simpa [YO] using h
  refine LV (os := os) (j := j) ?_ h'
  cases o <;> simp only [Yf, Bool.or_eq_false_iff] at hr <;> first | exact hr.2 | exact hr
theorem DD {P : Program} {ops : Array Oper} {o : Oper} {σ X : St} {d : Nat} {v : V} {os : List Ob} (hd : o.dst = some d) (hlen : X.length = σ.length) (vK : ∀ t, X.get t = σ.get t) (uQ : ∀ t j cells, X.ob t j = .box cells -> σ.ob t j = .box cells)
  (vc : ∀ t j q s rows, X.ob t j = .arr q s rows -> ∃ wS, σ.ob t j = .arr q s wS) (hf : X.fresh d = true)
  (hs : ∀ l : List (Nat × V), (∀ p ∈ l, p.1 ≠ d /\ PU o p.1 = true /\ p.2.ref d = false) -> US P ops o (σ.Qw l) ((X.Qw l).new d v os)) (hc : ∀ l : List (Nat × V), R6 o (σ.Qw l) ((X.Qw l).new d v os)) : BA P ops o σ (X.new d v os) := by
 have wO := St.JT hf
 have nu : ∀ t e, X[t]? = some e -> t ≠ d -> e.1.ref d = false /\ Yf d e.2 = false := fun t e he wE => by
  have h1 := hf
  simp only [St.fresh, Bool.and_eq_true] at h1
  exact Ko h1.2 t e he (by omega)
 refine ⟨d, hd, by rw [St.xq, hlen], fun t wE => ?_, fun t j cells wE hb => ?_, fun t j q s rows wE hb => ?_, fun l hl => ?_⟩
 ·rw [St.kS, if_neg (fun hh => wE hh.1), vK]
  refine ⟨rfl, ?_⟩
  rw [<- vK]
  unfold St.get
  cases he : X[t]? with
  | none => rfl
  | some e => exact (nu t e he wE).1
 ·rw [St.QE, if_neg (fun hh => wE hh.1)] at hb
  refine ⟨uQ t j cells hb, ?_⟩
  unfold St.ob at hb
  cases he : X[t]? with
  | none => rw [he] at hb; cases hb
  | some e => rw [he] at hb; exact LV (nu t e he wE).2 hb
 ·rw [St.QE, if_neg (fun hh => wE hh.1)] at hb
  exact vc t j q s rows hb
 ·have e := Hn (d := d) (v := v) (os := os) l X (fun p hp => (hl p hp).1)
  rw [<- e]
  exact ⟨hs l hl, hc l⟩
theorem EG {σ : St} {L : List (Nat × Nat)} {t j : Nat} {cells : List At} (h : (σ.Z0 L).ob t j = .box cells) : σ.ob t j = .box cells := by
 rw [St.JM] at h
 split at h
 ·cases h
 ·exact h
theorem EO {σ : St} {L : List (Nat × Nat)} {t j : Nat} {q : Bool} {s : Nat} {rows : List (List D)} (h : (σ.Z0 L).ob t j = .arr q s rows) : σ.ob t j = .arr q s rows := by
 rw [St.JM] at h
 split at h
 ·cases h
 ·exact h
theorem El {P : Program} {ops : Array Oper} {bar : Oper -> Bool} {o : Oper} {rest : List Oper} {σ : St} {Q : St -> Prop} {d : Nat} {x y : Operand} {t : TypeId} {wH news : List (List D)} {l1 l2 : List (Nat × Nat)} {size : Nat} (wA : o.op = .call ⟨.builtin .append, #[x, y], #[t, t]⟩) (hg : o.guard = none) (hd : o.dst = some d) (wy : bar o = true)
  (vV : size = P.cellsOf (ZP P t)) (h1 : gOf (look P σ t x) = true /\ gOf (look P σ t y) = true /\ XC P t = true /\ Xy P (ZP P t) = true /\ 0 < P.cellsOf (ZP P t))
  (h2 : (ja σ (unc (look P σ t x)) size).1 /\ (ja σ (unc (look P σ t x)) size).2 = (wH, l1)) (h3 : (j0 σ (unc (look P σ t y)) size).1 /\ (j0 σ (unc (look P σ t y)) size).2 = (news, l2))
  (h4 : (l1 ++ l2).Nodup /\ (σ.Z0 (l1 ++ l2)).fresh d = true) (h5 : (wH.length + news.length) * P.bytesOf (ZP P t) <= 140737488355328 /\ wH.length + news.length <= 9223372036854775807)
  (h : Ev P ops bar rest ((σ.Z0 (l1 ++ l2)).new d (.one (.sref d 0 0 (wH.length + news.length))) [.arr true size (wH ++ news)]) Q) : xP P ops bar o rest σ Q := by
 subst vV
 have e1 := Fl h2.1
 have e2 := EA h3.1
 rw [h2.2] at e1
 rw [h3.2] at e2
 have cl : ∀ σ0 : St, R6 o σ0 ((σ0.Z0 (l1 ++ l2)).new d (.one (.sref d 0 0 (wH.length + news.length))) [.arr true (P.cellsOf (ZP P t)) (wH ++ news)]) := fun σ0 d' wR hc => Wz (fun e => wR (by rw [hd, e])) (QD hc)
 have go : ∀ l : List (Nat × V), (∀ p ∈ l, p.1 ≠ d /\ PU o p.1 = true /\ p.2.ref d = false) -> US P ops o (σ.Qw l) (((σ.Qw l).Z0 (l1 ++ l2)).new d (.one (.sref d 0 0 (wH.length + news.length))) [.arr true (P.cellsOf (ZP P t)) (wH ++ news)]) := by
  rintro l hl T0 B a w K Q' ⟨X, hh, r⟩ hK
  have hw : Region.wanted o (yielded ops a.tmps) = true := by simp [Region.wanted, hg]
  rw [if_pos hw]
  have lx : look P (σ.Qw l) t x = look P σ t x := RR l σ (fun p hp => (LG wA (hl p hp).2.1).1)
  have ly : look P (σ.Qw l) t y = look P σ t y := RR l σ (fun p hp => (LG wA (hl p hp).2.1).2)
  refine Md r wA hd (by rw [lx]; exact h1.1) (by rw [ly]; exact h1.2.1) h1.2.2.1 h1.2.2.2.1 h1.2.2.2.2 (by rw [lx]; exact Dn (IS l σ) e1) (by rw [ly]; exact DN (IS l σ) e2) h4.1 ?_ h5.1 h5.2 hK
  rw [ql]
  exact O4 l (fun p hp => (hl p hp).2.2) h4.2
 have gw : US P ops o σ ((σ.Z0 (l1 ++ l2)).new d (.one (.sref d 0 0 (wH.length + news.length))) [.arr true (P.cellsOf (ZP P t)) (wH ++ news)]) := go [] (fun p hp => by cases hp)
 refine ⟨_, .inr ⟨wy, gw, cl σ, fun hh => by simp [V4, wA] at hh, fun _ => DD hd (St.JS _ _) (fun t => St.zJ _ _ t) (fun t j cells hb => EG hb) (fun t j q s rows hb => ⟨rows, EO hb⟩) h4.2 (fun l hl => ?_) (fun l => ?_), fun hh _ => by first | (simp [KG, wA] at hh; done) | (unfold KG at hh; rw [wA] at hh; split at hh <;> simp_all)⟩, QW h⟩
 ·rw [<- ql]; exact go l hl
 ·rw [<- ql]; exact cl _
theorem Fw {P : Program} {T0 : CS} {B : Nat -> Prop} {σ : St} {a : Act} {w : World} {X : Nat -> Prop} {h : Nat -> Nat -> Hd} (r : Rel T0 B σ a w X h) {o : Oper} {d u j n size : Nat} {rows : List (List D)} (hd : o.dst = some d) (hv : YH P σ o.op o.type (.one (.sref u j 0 n))) (ho : σ.ob u j = .arr false size rows) (hle : n <= rows.length)
  (w8 : (σ.Zt u j .none).fresh d = true) {K : Act -> World -> Prop} {Q : Exit -> Act -> World -> Prop} (hK : ∀ a' w', QX T0 B ((σ.Zt u j .none).new d (.one (.sref d 0 0 n)) [.arr false size (rows.take n)]) a' w' -> Yw B w w' -> K a' w') : o.wp P a w K Q := by
 obtain ⟨val, wW, rA⟩ := qO r hv
 unfold Oper.wp
 rw [wW, Oper.upon_value, hd]
 have rk : Z7 (Tof T0 X) h σ.ob w (.sref u j 0 n) val := rA
 obtain ⟨_, _, uE, _⟩ := rk.2.1 _ _ _ ho
 have he : val = PY (h u j).v n := uE rfl
 have h0 := r.obj u j
 rw [ho] at h0
 obtain ⟨e, xs, wJ, uM, wG⟩ := h0
 have wV : σ.ob u j ≠ .none := by rw [ho]; simp
 have rQ : (rows.take n).length = n := by rw [List.length_take]; omega
 have ve : (rows.take n).flatten = rows.flatten.take (n * size) := qg rows size uM n hle
 have vE : w.ownsRow 0 e size val (rows.take n).length (xs.take (n * size)) := by rw [he, rQ]; exact q9 wJ hle
 have wO := St.JT w8
 have vA : ((σ.Zt u j .none).new d (.one (.sref d 0 0 n)) [.arr false size (rows.take n)]).ob d 0 = .arr false size (rows.take n) := by rw [St.QE]; simp [wO, YO]
 have wc : ∀ b, blk val = some b -> ¬ B b /\ ¬ X b /\ b < w.heap.size /\ ∀ u' j', (σ.Zt u j .none).ob u' j' ≠ .none -> ¬ (h u' j').u b := by
  intro b hb
  rw [he, Wd] at hb
  have rj := r.ub u j b wV hb
  have w7 := r.own u j b wV rj
  refine ⟨w7.1, w7.2.1, w7.2.2, fun u' j' wE wU => ?_⟩
  have sZ : σ.ob u' j' ≠ .none := by
   intro hh
   rw [St.XH σ u j _ u' j' wV] at wE
   split at wE
   ·exact wE rfl
   ·exact wE hh
  have := r.inj u j u' j' b wV sZ rj wU
  obtain ⟨rfl, rfl⟩ := this
  rw [St.XH σ u j _ u j wV] at wE
  simp at wE
 refine hK _ _ ⟨X, fun t k => if t = d then Hd.of val else h t k, ?_⟩ (Yw.refl _ _)
 refine (r.drop u j).GR w8 (fun b => blk val = some b) (Nat.le_refl _) (fun _ _ _ => rfl) (fun b hb => ⟨(wc b hb).1, (wc b hb).2.1, fun t k _ wE => (wc b hb).2.2.2 t k wE⟩) (fun _ hb => hb) (fun _ hb => .inl hb) _ _ [.arr false size (rows.take n)] (fun _ => Hd.of val) ?_ (fun k => ?_) (fun k b _ hb => hb) (fun k b wE wU => ?_) (fun k k' b wE w6 _ _ => ?_)
 ·refine ⟨Qe vE, fun q' wX wS hh => ?_, fun wX wS hh => by rw [vA] at hh; cases hh⟩
  rw [vA] at hh; cases hh
  simp only [if_true]
  have := jB vE
  rwa [rQ] at this ⊢
 ·cases k with
  | zero => exact ⟨e, xs.take (n * size), vE, fun q hq => uM q (List.mem_of_mem_take hq), by rw [ve]; exact (wG.imp fun _ _ hh => hh).take _⟩
  | succ k => simp [YO, QP]
 ·exact ⟨.inr wU, (wc b wU).2.1, (wc b wU).2.2.1⟩
 ·have : ∀ k, YO [Ob.arr false size (rows.take n)] k ≠ .none -> k = 0 := by
   intro k hk
   cases k with
   | zero => rfl
   | succ k => simp [YO] at hk
  rw [this k wE, this k' w6]
theorem F4 {P : Program} {T0 : CS} {B : Nat -> Prop} {σ : St} {a : Act} {w : World} {X : Nat -> Prop} {h : Nat -> Nat -> Hd} (r : Rel T0 B σ a w X h) {o : Oper} {d u j n size : Nat} {rows : List (List D)} (hd : o.dst = some d) (hv : YH P σ o.op o.type (.one (.sref u j 0 n))) (ho : σ.ob u j = .arr true size rows) (hle : n <= rows.length)
  (w8 : (σ.Zt u j .none).fresh d = true) {K : Act -> World -> Prop} {Q : Exit -> Act -> World -> Prop} (hK : ∀ a' w', QX T0 B ((σ.Zt u j .none).new d (.one (.sref d 0 0 n)) [.arr true size (rows.take n)]) a' w' -> Yw B w w' -> K a' w') : o.wp P a w K Q := by
 obtain ⟨val, wW, rA⟩ := qO r hv
 unfold Oper.wp
 rw [wW, Oper.upon_value, hd]
 have rk : Z7 (Tof T0 X) h σ.ob w (.sref u j 0 n) val := rA
 obtain ⟨_, _, uE, _⟩ := rk.2.1 _ _ _ ho
 have he : val = PY (h u j).v n := uE rfl
 have h0 := r.obj u j
 rw [ho] at h0
 obtain ⟨e, xs, wJ, uM, wG, pH⟩ := h0
 have wV : σ.ob u j ≠ .none := by rw [ho]; simp
 have rQ : (rows.take n).length = n := by rw [List.length_take]; omega
 have ve : (rows.take n).flatten = rows.flatten.take (n * size) := qg rows size uM n hle
 have vE : w.ownsRow 0 e size val (rows.take n).length (xs.take (n * size)) := by rw [he, rQ]; exact q9 wJ hle
 have wO := St.JT w8
 have vA : ((σ.Zt u j .none).new d (.one (.sref d 0 0 n)) [.arr true size (rows.take n)]).ob d 0 = .arr true size (rows.take n) := by rw [St.QE]; simp [wO, YO]
 have wc : ∀ b, (h u j).u b -> ¬ B b /\ ¬ X b /\ b < w.heap.size /\ ∀ u' j', (σ.Zt u j .none).ob u' j' ≠ .none -> ¬ (h u' j').u b := by
  intro b rj
  have w7 := r.own u j b wV rj
  refine ⟨w7.1, w7.2.1, w7.2.2, fun u' j' wE wU => ?_⟩
  have sZ : σ.ob u' j' ≠ .none := by
   intro hh
   rw [St.XH σ u j _ u' j' wV] at wE
   split at wE
   ·exact wE rfl
   ·exact wE hh
  have := r.inj u j u' j' b wV sZ rj wU
  obtain ⟨rfl, rfl⟩ := this
  rw [St.XH σ u j _ u j wV] at wE
  simp at wE
 refine hK _ _ ⟨X, fun t k => if t = d then ({ v := val, u := (h u j).u, n := (h u j).n } : Hd) else h t k, ?_⟩ (Yw.refl _ _)
 refine (r.drop u j).GR w8 (fun b => (h u j).u b) (Nat.le_refl _) (fun _ _ _ => rfl) (fun b hb => ⟨(wc b hb).1, (wc b hb).2.1, fun t k _ wE => (wc b hb).2.2.2 t k wE⟩) (fun _ hb => hb) (fun _ hb => .inl hb) _ _ [.arr true size (rows.take n)] (fun _ => ({ v := val, u := (h u j).u, n := (h u j).n } : Hd)) ?_ (fun k => ?_) (fun k b _ hb => r.ub u j b wV (by have hb : blk val = some b := hb; rw [he, Wd] at hb; exact hb)) (fun k b wE wU => ?_) (fun k k' b wE w6 _ _ => ?_)
 ·refine ⟨Qe vE, fun q' wX wS hh => ?_, fun wX wS hh => by rw [vA] at hh; cases hh⟩
  rw [vA] at hh; cases hh
  simp only [if_true]
  have := jB vE
  rwa [rQ] at this ⊢
 ·cases k with
  | zero =>
   have pT : xs.length = rows.length * size := by rw [wG.1, YL rows _ uM]
   have gx : n * size <= xs.length := by rw [pT]; exact Nat.mul_le_mul_right _ hle
   have hp := Qt.pick wG (p := n * size) (q := n * size) (n := 0) (Nat.le_refl _) (by omega)
   simp only [cut, List.take_zero, List.append_nil] at hp
   refine ⟨e, xs.take (n * size), vE, fun q hq => uM q (List.mem_of_mem_take hq), ?_, fun k x dd hx uC vf => ?_⟩
   ·rw [ve]
    refine hp.mono (fun b hb => ⟨hb.1, ?_⟩)
    have wm := hb.2
    intro hh
    have hh : blk val = some b := hh
    rw [he, Wd] at hh
    exact wm hh
   ·rw [ve] at uC
    have hk : k < n * size := by have := (List.getElem?_eq_some_iff.1 hx).1; rw [List.length_take] at this; omega
    rw [List.getElem?_take, if_pos hk] at hx uC
    exact pH k x dd hx uC vf
  | succ k => simp [YO, QP]
 ·exact ⟨.inr wU, (wc b wU).2.1, (wc b wU).2.2.1⟩
 ·have : ∀ k, YO [Ob.arr true size (rows.take n)] k ≠ .none -> k = 0 := by
   intro k hk
   cases k with
   | zero => rfl
   | succ k => simp [YO] at hk
  rw [this k wE, this k' w6]
theorem Rel.C6 {T0 : CS} {B : Nat -> Prop} {σ : St} {a : Act} {w : World} {X X' : Nat -> Prop} {h : Nat -> Nat -> Hd} (r : Rel T0 B σ a w X h) (hX : ∀ b, X b -> X' b) (sX : ∀ b, X' b -> X b \/ (¬ B b /\ b < w.heap.size /\ ∀ t j, σ.ob t j ≠ .none -> ¬ (h t j).u b)) : Rel T0 B σ a w X' h := by
 have hT : ∀ b k v, Tof T0 X b k -> w.cell? ⟨b, k, none⟩ = some v -> w.cell? ⟨b, k, none⟩ = some v /\ Tof T0 X' b k := fun b k v hb hc => ⟨hc, hb.imp id (hX b)⟩
 refine ⟨r.size, r.defers, r.hB, fun b hb => ?_, r.hT, fun t ht => Xs.mono hT (r.slot t ht), fun t j => ?_, r.ub, fun t j b ho hb => ?_, r.inj⟩
 ·rcases sX b hb with hb | hb
  ·exact r.hX b hb
  ·exact ⟨hb.1, hb.2.1⟩
 ·have h0 := r.obj t j
  cases ho : σ.ob t j with
  | none => trivial
  | box cells => rw [ho] at h0; obtain ⟨b, cs, e, hv, hh, wG⟩ := h0; exact ⟨b, cs, e, hv, hh, wG.imp fun _ _ => Z7.mono hT⟩
  | arr q size rows =>
   rw [ho] at h0
   cases q with
   | false => obtain ⟨e, xs, uT, hz, wG⟩ := h0; exact ⟨e, xs, uT, hz, wG.imp fun _ _ => Rd.mono hT⟩
   | true => exact h0
  | lit size rows => rw [ho] at h0; obtain ⟨e, xs, uT, hz, wG⟩ := h0; exact ⟨e, xs, uT, hz, wG.imp fun _ _ => Z7.mono hT⟩
 ·have := r.own t j b ho hb
  refine ⟨this.1, fun hx => ?_, this.2.2⟩
  rcases sX b hx with hx | hx
  ·exact this.2.1 hx
  ·exact hx.2.2 t j ho hb
theorem Fa {P : Program} {T0 : CS} {B : Nat -> Prop} {σ : St} {a : Act} {w : World} {X : Nat -> Prop} {h : Nat -> Nat -> Hd} (r : Rel T0 B σ a w X h) {o : Oper} {d u j n size : Nat} {rows : List (List D)} (hd : o.dst = some d) (hv : YH P σ o.op o.type (.one (.sref u j 0 n))) (ho : σ.ob u j = .arr true size rows) (hle : n <= rows.length)
  (w8 : (σ.Zt u j .none).fresh d = true) {K : Act -> World -> Prop} {Q : Exit -> Act -> World -> Prop} (hK : ∀ a' w', QX T0 B ((σ.Zt u j .none).new d (.one (.sref d 0 0 n)) [.arr false size (rows.take n)]) a' w' -> Yw B w w' -> K a' w') : o.wp P a w K Q := by
 obtain ⟨val, wW, rA⟩ := qO r hv
 unfold Oper.wp
 rw [wW, Oper.upon_value, hd]
 have rk : Z7 (Tof T0 X) h σ.ob w (.sref u j 0 n) val := rA
 obtain ⟨_, _, uE, _⟩ := rk.2.1 _ _ _ ho
 have he : val = PY (h u j).v n := uE rfl
 have h0 := r.obj u j
 rw [ho] at h0
 obtain ⟨e, xs, wJ, uM, wG, pH⟩ := h0
 have wV : σ.ob u j ≠ .none := by rw [ho]; simp
 have rQ : (rows.take n).length = n := by rw [List.length_take]; omega
 have ve : (rows.take n).flatten = rows.flatten.take (n * size) := qg rows size uM n hle
 have vE : w.ownsRow 0 e size val (rows.take n).length (xs.take (n * size)) := by rw [he, rQ]; exact q9 wJ hle
 have wO := St.JT w8
 have vA : ((σ.Zt u j .none).new d (.one (.sref d 0 0 n)) [.arr false size (rows.take n)]).ob d 0 = .arr false size (rows.take n) := by rw [St.QE]; simp [wO, YO]
 have wc : ∀ b, (h u j).u b -> ¬ B b /\ ¬ X b /\ b < w.heap.size /\ ∀ u' j', (σ.Zt u j .none).ob u' j' ≠ .none -> ¬ (h u' j').u b := by
  intro b rj
  have w7 := r.own u j b wV rj
  refine ⟨w7.1, w7.2.1, w7.2.2, fun u' j' wE wU => ?_⟩
  have sZ : σ.ob u' j' ≠ .none := by
   intro hh
   rw [St.XH σ u j _ u' j' wV] at wE
   split at wE
   ·exact wE rfl
   ·exact wE hh
  have := r.inj u j u' j' b wV sZ rj wU
  obtain ⟨rfl, rfl⟩ := this
  rw [St.XH σ u j _ u j wV] at wE
  simp at wE
 have oV : ∀ b, blk val = some b -> (h u j).u b /\ blk (h u j).v = some b := fun b hb => by rw [he, Wd] at hb; exact ⟨r.ub u j b wV hb, hb⟩
 have r1 := (r.drop u j).C6 (X' := fun b => X b \/ ((h u j).u b /\ blk (h u j).v ≠ some b)) (fun b hb => .inl hb) (fun b hb => hb.imp id (fun hh => ⟨(wc b hh.1).1, (wc b hh.1).2.2.1, (wc b hh.1).2.2.2⟩))
 refine hK _ _ ⟨fun b => X b \/ ((h u j).u b /\ blk (h u j).v ≠ some b), fun t k => if t = d then Hd.of val else h t k, ?_⟩ (Yw.refl _ _)
 refine r1.GR w8 (fun b => blk val = some b) (Nat.le_refl _) (fun _ _ _ => rfl) (fun b hb => ⟨(wc b (oV b hb).1).1, ?_, fun t k _ wE => (wc b (oV b hb).1).2.2.2 t k wE⟩) (fun _ hb => hb) (fun _ hb => .inl hb) _ _ [.arr false size (rows.take n)] (fun _ => Hd.of val) ?_ (fun k => ?_) (fun k b _ hb => hb) (fun k b wE wU => ?_) (fun k k' b wE w6 _ _ => ?_)
 ·rintro (hx | hx)
  ·exact (wc b (oV b hb).1).2.1 hx
  ·exact hx.2 (oV b hb).2
 ·refine ⟨Qe vE, fun q' wX wS hh => ?_, fun wX wS hh => by rw [vA] at hh; cases hh⟩
  rw [vA] at hh; cases hh
  simp only [if_true]
  have := jB vE
  rwa [rQ] at this ⊢
 ·cases k with
  | zero =>
   refine ⟨e, xs.take (n * size), vE, fun q hq => uM q (List.mem_of_mem_take hq), ?_⟩
   rw [ve]
   exact (wG.rd (T := Tof T0 (fun b => X b \/ ((h u j).u b /\ blk (h u j).v ≠ some b))) (fun b k hb => .inr (.inr hb))).take _
  | succ k => simp [YO, QP]
 ·refine ⟨.inr wU, ?_, (wc b (oV b wU).1).2.2.1⟩
  rintro (hx | hx)
  ·exact (wc b (oV b wU).1).2.1 hx
  ·exact hx.2 (oV b wU).2
 ·have : ∀ k, YO [Ob.arr false size (rows.take n)] k ≠ .none -> k = 0 := by
   intro k hk
   cases k with
   | zero => rfl
   | succ k => simp [YO] at hk
  rw [this k wE, this k' w6]
theorem H6 {f : At -> Bool} {v : V} (hv : v.J5 f = false) : ∀ {σ : St} {d : Nat}, σ.J5 f = false -> (σ.put d v).J5 f = false
 | [], _, _ => rfl
 | e :: σ, 0, h => by simp only [St.J5, Bool.or_eq_false_iff] at h; simp [St.put, St.J5, hv, h.1.2, h.2]
 | e :: σ, d + 1, h => by simp only [St.J5, Bool.or_eq_false_iff] at h; simp [St.put, St.J5, h.1.1, h.1.2, H6 hv h.2]
theorem PW {σ : St} : ∀ {xs : List At} {ds : List D}, QR σ xs = some ds -> ∀ p ∈ Ya xs, ∃ q s rows, σ.ob p.1 p.2 = .arr q s rows
 | [], _, _, p, hp => by cases hp
 | x :: xs, ds, h, p, hp => by
  simp only [QR] at h
  split at h
  ·rename_i d rF h1 h2
   have ih := PW h2
   cases x with
   | sref t j lo len =>
    simp only [Ya, List.mem_cons] at hp
    rcases hp with rfl | hp
    ·simp only [mvD] at h1
     split at h1
     ·rename_i q s rows ho; exact ⟨q, s, rows, ho⟩
     ·cases h1
    ·exact ih p hp
   | _ => exact ih p hp
  ·cases h
theorem Ra {σ : St} {L : List (Nat × Nat)} {t j t' size wX : Nat} {q q' : Bool} {rows wS : List (List D)} {cells : List At} {xs : List At} {ds : List D} (hm : QR σ xs = some ds) (hL : Ya xs = L) (ho : σ.ob t j = .arr q size rows) (hn : (t, j) ∉ L) (hb : σ.ob t' 0 = .box cells) :
  ((σ.Z0 L).Zt t j (.arr q' wX wS)).ob t' 0 = .box cells := by
 have h1 : (σ.Z0 L).ob t j ≠ .none := by rw [St.JM, if_neg hn, ho]; simp
 rw [St.XH _ t j _ t' 0 h1]
 split
 ·rename_i hc; rw [hc.1, hc.2, ho] at hb; cases hb
 ·rw [St.JM]
  split
  ·rename_i hc
   obtain ⟨q, s, rows, he⟩ := PW hm (t', 0) (by rw [hL]; exact hc)
   rw [he] at hb; cases hb
  ·exact hb
structure StM (P : Program) (σ : St) (T : TypeId) (x y : Operand) (t j i c size : Nat) (rows : List (List D)) (ds : List D) (l : List (Nat × Nat)) : Prop where
 hx : unc (look P σ 0 x) = .one (.ptr t j i c)
 ho : σ.ob t j = .arr true size rows
 hi : i < rows.length
 h1 : zz P T = true /\ gOf (look P σ 0 x) = true /\ gOf (look P σ T y) = true /\ (unc (look P σ T y)).flat = true
 h2 : QR σ (unc (look P σ T y)).cells = some ds
 h3 : XS σ (unc (look P σ T y)).cells
 h4 : Ya (unc (look P σ T y)).cells = l
 h5 : l.Nodup /\ (t, j) ∉ l /\ (σ.Z0 l).J5 (At.isT t) = false
 h6 : ds.length = P.cellsOf T /\ c + P.cellsOf T <= size
theorem StM.Qw {P : Program} {o : Oper} {T : TypeId} {x y : Operand} (wA : o.op = .store T x y) {t j i c size : Nat} {rows : List (List D)} {ds : List D} {l : List (Nat × Nat)} : ∀ (q : List (Nat × V)) {σ : St}, (∀ p ∈ q, qh o p.1 = true /\ Rz p.2 = true) -> StM P σ T x y t j i c size rows ds l -> StM P (σ.Qw q) T x y t j i c size rows ds l
 | [], _, _, h => h
 | p :: q, σ, hq, h => by
  refine StM.Qw wA q (fun p' rT => hq p' (by simp [rT])) ?_
  obtain ⟨hu, hp⟩ := hq p (by simp)
  simp only [qh, wA, Bool.and_eq_true, Bool.not_eq_true'] at hu
  have hv : p.2.J5 (At.isT t) = false := by
   generalize p.2 = v at hp
   unfold Rz at hp
   split at hp <;> first | rfl | cases hp
  refine ⟨?_, ?_, h.hi, ?_, ?_, ?_, ?_, ⟨h.h5.1, h.h5.2.1, ?_⟩, h.h6⟩
  ·rw [Yu hu.1]; exact h.hx
  ·rw [St.Xw]; exact h.ho
  ·rw [Yu hu.1, Yu hu.2]; exact h.h1
  ·rw [Yu hu.2, Rj]; exact h.h2
  ·rw [Yu hu.2, U0]; exact h.h3
  ·rw [Yu hu.2]; exact h.h4
  ·rw [j9]; exact H6 hv h.h5.2.2
theorem Sy {l : List (Nat × Nat)} {t j : Nat} {ob : Ob} : ∀ (q : List (Nat × V)) (σ : St), ((σ.Qw q).Z0 l).Zt t j ob = ((σ.Z0 l).Zt t j ob).Qw q
 | [], _ => rfl
 | p :: q, σ => by rw [St.Qw, St.Qw, Sy q, j9, zw]
theorem Rg {P : Program} {ops : Array Oper} {o : Oper} {σ : St} {T : TypeId} {x y : Operand} {t j i c size : Nat} {rows : List (List D)} {ds : List D} {l : List (Nat × Nat)} (wA : o.op = .store T x y) (hg : o.guard = none) (hd : o.dst = none) (h : StM P σ T x y t j i c size rows ds l) :
  US P ops o σ ((σ.Z0 l).Zt t j (.arr true size (rows.set i (place (rowAt rows i) c ds)))) := by
 obtain ⟨hx, ho, hi, h1, h2, h3, h4, h5, h6⟩ := h
 subst h4
 rintro T0 B a w K Q' ⟨X, hh, r⟩ hK
 have hw : Region.wanted o (yielded ops a.tmps) = true := by simp [Region.wanted, hg]
 rw [if_pos hw]
 exact Pk r wA hd h1.1 h1.2.1 h1.2.2.1 hx ho hi h1.2.2.2 h2 h3 h5.1 h5.2.1 h5.2.2 h6.1 h6.2 hK
theorem EX {P : Program} {ops : Array Oper} {bar : Oper -> Bool} {o : Oper} {rest : List Oper} {σ : St} {Q : St -> Prop} {T : TypeId} {x y : Operand} {t j i c size : Nat} {rows : List (List D)} {ds : List D} {l : List (Nat × Nat)} (wA : o.op = .store T x y) (hg : o.guard = none) (hd : o.dst = none) (wy : bar o = true)
  (hx : unc (look P σ 0 x) = .one (.ptr t j i c)) (ho : σ.ob t j = .arr true size rows) (hi : i < rows.length) (h1 : zz P T = true /\ gOf (look P σ 0 x) = true /\ gOf (look P σ T y) = true /\ (unc (look P σ T y)).flat = true)
  (h2 : QR σ (unc (look P σ T y)).cells = some ds) (h3 : XS σ (unc (look P σ T y)).cells) (h4 : Ya (unc (look P σ T y)).cells = l) (h5 : l.Nodup /\ (t, j) ∉ l /\ (σ.Z0 l).J5 (At.isT t) = false) (h6 : ds.length = P.cellsOf T /\ c + P.cellsOf T <= size)
  (h : Ev P ops bar rest ((σ.Z0 l).Zt t j (.arr true size (rows.set i (place (rowAt rows i) c ds)))) Q) : xP P ops bar o rest σ Q := by
 have hm : StM P σ T x y t j i c size rows ds l := ⟨hx, ho, hi, h1, h2, h3, h4, h5, h6⟩
 refine ⟨_, .inr ⟨wy, Rg wA hg hd hm, fun d' _ hc => X5 (QD hc), fun _ => ⟨⟨by rw [St.Y3, St.JS], fun u => by rw [St.Xp, St.zJ]⟩, fun q hq => ?_, fun t' cells hb => ?_⟩, fun hh => by simp [jg, wA] at hh, fun hh _ => by simp [KG, wA] at hh⟩, QW h⟩
 ·rw [<- Sy]
  exact ⟨Rg wA hg hd (hm.Qw wA q hq), fun d' _ hc => X5 (QD hc)⟩
 ·exact Ra hm.h2 hm.h4 hm.ho hm.h5.2.1 hb
theorem LM {P : Program} {ops : Array Oper} {o : Oper} {σ : St} {T : TypeId} {x y : Operand} {t j i size : Nat} {rows : List (List D)} {ds : List D} {l : List (Nat × Nat)} (wA : o.op = .store T x y) (hg : o.guard = none) (hd : o.dst = none) (uK : ds.length = size) (h : StM P σ T x y t j i 0 size rows ds l) :
  US P ops o σ ((σ.Z0 l).Zt t j (.arr true size (rows.set i ds))) := by
 rintro T0 B a w K Q' ⟨X, hh, r⟩ hK
 refine Rg wA hg hd h T0 B a w K Q' ⟨X, hh, r⟩ ?_
 have h0 := r.obj t j
 rw [h.ho] at h0
 obtain ⟨_, _, _, hz, _⟩ := h0
 have e : place (rowAt rows i) 0 ds = ds := by
  have hr : (rowAt rows i).length = size := by
   have : rowAt rows i = rows[i]'h.hi := by simp [rowAt, List.getD_eq_getElem?_getD, List.getElem?_eq_getElem h.hi]
   rw [this]; exact hz _ (List.getElem_mem h.hi)
  unfold place
  rw [List.take_zero, List.nil_append, List.drop_eq_nil_of_le (by omega), List.append_nil]
 rw [e]; exact hK
theorem Ej {P : Program} {ops : Array Oper} {bar : Oper -> Bool} {o : Oper} {rest : List Oper} {σ : St} {Q : St -> Prop} {T : TypeId} {x y : Operand} {t j i size : Nat} {rows : List (List D)} {ds : List D} {l : List (Nat × Nat)} (wA : o.op = .store T x y) (hg : o.guard = none) (hd : o.dst = none) (wy : bar o = true)
  (hx : unc (look P σ 0 x) = .one (.ptr t j i 0)) (ho : σ.ob t j = .arr true size rows) (hi : i < rows.length) (h1 : zz P T = true /\ gOf (look P σ 0 x) = true /\ gOf (look P σ T y) = true /\ (unc (look P σ T y)).flat = true)
  (h2 : QR σ (unc (look P σ T y)).cells = some ds) (h3 : XS σ (unc (look P σ T y)).cells) (h4 : Ya (unc (look P σ T y)).cells = l) (h5 : l.Nodup /\ (t, j) ∉ l /\ (σ.Z0 l).J5 (At.isT t) = false) (h6 : ds.length = P.cellsOf T /\ P.cellsOf T = size)
  (h : Ev P ops bar rest ((σ.Z0 l).Zt t j (.arr true size (rows.set i ds))) Q) : xP P ops bar o rest σ Q := by
 have hm : StM P σ T x y t j i 0 size rows ds l := ⟨hx, ho, hi, h1, h2, h3, h4, h5, h6.1, by omega⟩
 have hf : ds.length = size := by omega
 refine ⟨_, .inr ⟨wy, LM wA hg hd hf hm, fun d' _ hc => X5 (QD hc), fun _ => ⟨⟨by rw [St.Y3, St.JS], fun u => by rw [St.Xp, St.zJ]⟩, fun q hq => ?_, fun t' cells hb => ?_⟩, fun hh => by simp [jg, wA] at hh, fun hh _ => by simp [KG, wA] at hh⟩, QW h⟩
 ·rw [<- Sy]
  exact ⟨LM wA hg hd hf (hm.Qw wA q hq), fun d' _ hc => X5 (QD hc)⟩
 ·exact Ra hm.h2 hm.h4 hm.ho hm.h5.2.1 hb
structure StN (P : Program) (σ : St) (T : TypeId) (x y : Operand) (t j i c k q n size : Nat) (s rows : List (List D)) (ds : List D) (l : List (Nat × Nat)) : Prop where
 hx : unc (look P σ 0 x) = .one (.tref t j i c (some (k * n + q)))
 ho : σ.ob t j = .arr true size rows
 hi : i < rows.length
 hc : (rows.getD i [])[c]? = some (.sl n s)
 hk : k < s.length
 h1 : zz P T = true /\ gOf (look P σ 0 x) = true /\ gOf (look P σ T y) = true /\ (unc (look P σ T y)).flat = true
 h2 : QR σ (unc (look P σ T y)).cells = some ds
 h3 : XS σ (unc (look P σ T y)).cells
 h4 : Ya (unc (look P σ T y)).cells = l
 h5 : l.Nodup /\ (t, j) ∉ l
 h6 : ds.length = P.cellsOf T /\ q + P.cellsOf T <= n
theorem StN.Qw {P : Program} {o : Oper} {T : TypeId} {x y : Operand} (wA : o.op = .store T x y) {t j i c k n0 n size : Nat} {s rows : List (List D)} {ds : List D} {l : List (Nat × Nat)} : ∀ (q : List (Nat × V)) {σ : St}, (∀ p ∈ q, qh o p.1 = true /\ Rz p.2 = true) -> StN P σ T x y t j i c k n0 n size s rows ds l -> StN P (σ.Qw q) T x y t j i c k n0 n size s rows ds l
 | [], _, _, h => h
 | p :: q, σ, hq, h => by
  refine StN.Qw wA q (fun p' rT => hq p' (by simp [rT])) ?_
  obtain ⟨hu, hp⟩ := hq p (by simp)
  simp only [qh, wA, Bool.and_eq_true, Bool.not_eq_true'] at hu
  refine ⟨?_, ?_, h.hi, h.hc, h.hk, ?_, ?_, ?_, ?_, h.h5, h.h6⟩
  ·rw [Yu hu.1]; exact h.hx
  ·rw [St.Xw]; exact h.ho
  ·rw [Yu hu.1, Yu hu.2]; exact h.h1
  ·rw [Yu hu.2, Rj]; exact h.h2
  ·rw [Yu hu.2, U0]; exact h.h3
  ·rw [Yu hu.2]; exact h.h4
theorem LJ {P : Program} {ops : Array Oper} {o : Oper} {σ : St} {T : TypeId} {x y : Operand} {t j i c k q n size : Nat} {s rows : List (List D)} {ds : List D} {l : List (Nat × Nat)} (wA : o.op = .store T x y) (hg : o.guard = none) (hd : o.dst = none) (h : StN P σ T x y t j i c k q n size s rows ds l) :
  US P ops o σ ((σ.Z0 l).Zt t j (.arr true size (rows.set i (place (rowAt rows i) c [.sl n (s.set k (place (rowAt s k) q ds))])))) := by
 obtain ⟨hx, ho, hi, hc, hk, h1, h2, h3, h4, h5, h6⟩ := h
 subst h4
 rintro T0 B a w K Q' ⟨X, hh, r⟩ hK
 have hw : Region.wanted o (yielded ops a.tmps) = true := by simp [Region.wanted, hg]
 rw [if_pos hw]
 exact Pv r wA hd h1.1 h1.2.1 h1.2.2.1 hx ho hi hc hk h1.2.2.2 h2 h3 h5.1 h5.2 h6.1 h6.2 hK
theorem ES {P : Program} {ops : Array Oper} {bar : Oper -> Bool} {o : Oper} {rest : List Oper} {σ : St} {Q : St -> Prop} {T : TypeId} {x y : Operand} {t j i c k q n size : Nat} {s rows : List (List D)} {ds : List D} {l : List (Nat × Nat)} (wA : o.op = .store T x y) (hg : o.guard = none) (hd : o.dst = none) (wy : bar o = true)
  (hm : StN P σ T x y t j i c k q n size s rows ds l)
  (h : Ev P ops bar rest ((σ.Z0 l).Zt t j (.arr true size (rows.set i (place (rowAt rows i) c [.sl n (s.set k (place (rowAt s k) q ds))])))) Q) : xP P ops bar o rest σ Q := by
 refine ⟨_, .inr ⟨wy, LJ wA hg hd hm, fun d' _ hc => X5 (QD hc), fun _ => ⟨⟨by rw [St.Y3, St.JS], fun u => by rw [St.Xp, St.zJ]⟩, fun q hq => ?_, fun t' cells hb => ?_⟩, fun hh => by simp [jg, wA] at hh, fun hh _ => by simp [KG, wA] at hh⟩, QW h⟩
 ·rw [<- Sy]
  exact ⟨LJ wA hg hd (hm.Qw wA q hq), fun d' _ hc => X5 (QD hc)⟩
 ·exact Ra hm.h2 hm.h4 hm.ho hm.h5.2 hb
end Go.Vm
namespace Go.Vm
open Go.RowKit
def T9 (P : Program) (σ : St) : ResultVar -> Prop × List At
 | .tmp t => (match σ.get t with
  | .one x => (t < σ.length, [x])
  | .agg [] => (t < σ.length, [])
  | .agg (x :: y :: xs) => (t < σ.length, x :: y :: xs)
  | _ => (False, []))
 | .cell t T => (match σ.get t with
  | .one (.bptr u c) => (match σ.ob u 0 with
    | .box cells => (zz P T = true /\ Wm P T = true /\ P.cellsOf T ≠ 1 /\ c + P.cellsOf T <= cells.length, cut cells c (P.cellsOf T))
    | _ => (False, []))
  | _ => (False, []))
def QZ (P : Program) (σ : St) : List ResultVar -> Prop × List (List At)
 | [] => (True, [])
 | r :: rs => ((T9 P σ r).1 /\ (QZ P σ rs).1, (T9 P σ r).2 :: (QZ P σ rs).2)
theorem Ft {P : Program} {σ : St} {r : ResultVar} (h : (T9 P σ r).1) : Ol P σ r (T9 P σ r).2 := by
 cases r with
 | tmp t =>
  simp only [T9] at h ⊢
  simp only [Ol]
  cases hx : σ.get t with
  | one x => rw [hx] at h; exact ⟨rfl, h⟩
  | agg xs =>
   rw [hx] at h
   match xs, h with
   | [], h => exact ⟨rfl, h⟩
   | [x], h => exact h.elim
   | x :: y :: xs, h => exact ⟨rfl, h⟩
  | any => rw [hx] at h; exact h.elim
  | tup xs => rw [hx] at h; exact h.elim
  | cnd g x => rw [hx] at h; exact h.elim
  | fix u x => rw [hx] at h; exact h.elim
 | cell t T =>
  simp only [T9] at h ⊢
  split at h
  ·rename_i u c hx
   split at h
   ·rename_i cells ho
    exact ⟨u, c, cells, hx, ho, h.1, h.2.1, h.2.2.1, h.2.2.2, rfl⟩
   ·exact h.elim
  ·exact h.elim
theorem Wo {P : Program} {σ : St} : ∀ {rs : List ResultVar}, (QZ P σ rs).1 -> W5 P σ rs (QZ P σ rs).2
 | [], _ => rfl
 | _ :: _, h => ⟨_, _, Ft h.1, Wo h.2, rfl⟩
theorem D4 {P : Program} {fn : Func} {σ : St} {res : List (List D)} {rv : List ResultVar} (hf : fn.results = rv.toArray) (h : (QZ P σ rv).1 /\ xa σ (QZ P σ rv).2 = some res) : I9 P fn false res .ret σ :=
 ⟨.inl rfl, _, by rw [hf]; exact Wo h.1, by simpa using h.2⟩
theorem CE {P : Program} {fn : Func} {σ : St} {res : List (List D)} {rv : List ResultVar} (hf : fn.results = rv.toArray) (h : (QZ P σ rv).1 /\ kK σ (QZ P σ rv).2 = some res /\ (Ya (QZ P σ rv).2.flatten).Nodup) : I9 P fn true res .ret σ :=
 ⟨.inl rfl, _, by rw [hf]; exact Wo h.1, by simpa using h.2⟩
theorem IF {P : Program} {fn : Func} {σ : St} {res : List (List D)} {rv : List ResultVar} (hf : fn.results = rv.toArray) (h : (QZ P σ rv).1 /\ Qv σ (QZ P σ rv).2 = some res /\ Ql σ (QZ P σ rv).2 /\ (Ya (QZ P σ rv).2.flatten).Nodup) : Fs P fn res .ret σ :=
 ⟨.inl rfl, _, by rw [hf]; exact Wo h.1, h.2⟩
attribute [simp] BO Qv QR mvD Ql XS M6 YC Ke JV ja j0 St.Z0 Gg FL IY Cc qY W8 Lt St.J5 V.J5 V.HN Lk kq KX At.isT
attribute [simp] isB bOf Ev stops Cq Ou evS I4 evV Lg GW Ul Uv KF VU Vj Vu SB lkI lkK Vm.look cst unc gOf z6 V.flat V.cells St.put St.Zt St.new St.E0 St.E6 St.DX St.DO Lb xo Eo
 Nn Uo ldV cut place rowOf J0 JZ At.IC Xg V.JU YI zx yh Lo vOf Qz Kv QZ T9 xa kK ownRow xO Ya yu T5 YG At.ref D.scalar Qn D.Ij zD EJ yy
end Go.Vm
namespace Go.Vm
open Go.RowKit
section
variable {P : Program} {T0 : CS} {B : Nat -> Prop} {σ : St} {a : Act} {w w' : World} {X X' : Nat -> Prop} {h : Nat -> Nat -> Hd}
theorem IK {cs : List Value} {row : List D} {S : Nat -> Prop} (ho : Qt w cs row S) : ∃ (hf : Nat -> Hd) (Sk : Nat -> Nat -> Prop), (∀ j c, cs[j]? = some c -> (hf j).v = c) /\ (∀ k b, Sk k b -> S b) /\ (∀ i j b, Sk i b -> Sk j b -> i = j) /\
  ∀ j size rows, row[j]? = some (.sl size rows) -> (∀ b, (hf j).u b -> Sk j b) /\ (∀ b, blk (hf j).v = some b -> (hf j).u b) /\ ∀ T h ob, QP T h ob w (hf j) (.arr true size rows) := by
 obtain ⟨hl, Sk, h1, h2, h3⟩ := ho
 have hex : ∀ j, ∃ hd : Hd, (∀ c, cs[j]? = some c -> hd.v = c) /\ (∀ size rows, row[j]? = some (.sl size rows) -> (∀ b, hd.u b -> Sk j b) /\ (∀ b, blk hd.v = some b -> hd.u b) /\ ∀ T h ob, QP T h ob w hd (.arr true size rows)) := by
  intro j
  cases hj : row[j]? with
  | none => exact ⟨Hd.of ((cs[j]?).getD undef), fun c wv => by simp [Hd.of, wv], fun size rows hh => by cases hh⟩
  | some dd =>
   have re : j < cs.length := by rw [hl]; exact (List.getElem?_eq_some_iff.1 hj).1
   have rG : cs[j]? = some cs[j] := List.getElem?_eq_getElem re
   cases dd with
   | int k n => exact ⟨Hd.of cs[j], fun c wv => by rw [rG] at wv; cases wv; rfl, fun size rows hh => by cases hh⟩
   | bool k => exact ⟨Hd.of cs[j], fun c wv => by rw [rG] at wv; cases wv; rfl, fun size rows hh => by cases hh⟩
   | str k => exact ⟨Hd.of cs[j], fun c wv => by rw [rG] at wv; cases wv; rfl, fun size rows hh => by cases hh⟩
   | unk => exact ⟨Hd.of cs[j], fun c wv => by rw [rG] at wv; cases wv; rfl, fun size rows hh => by cases hh⟩
   | sl size rows =>
    have ho := h1 j _ _ rG hj
    generalize hv : cs[j] = v at ho
    cases ho with
    | sl v size rows S e xs pN ho hz hb hl hk pX wR =>
     refine ⟨⟨v, fun k => (xs[k]?).getD undef, Sk j⟩, fun c wv => by rw [rG, hv] at wv; cases wv; rfl, fun wX wS hh => ?_⟩
     cases hh
     exact ⟨fun b hb => hb, hb, fun T h ob => ⟨e, xs, ho, hz, ⟨hl, pN, hk, fun k b hb => pX k b hb, wR⟩, fun k x d hx _ _ => by simp [hx]⟩⟩
 obtain ⟨hf, rU⟩ := Classical.axiomOfChoice hex
 exact ⟨hf, Sk, fun j => (rU j).1, h2, h3, fun j => (rU j).2⟩
theorem Qt.top {T : CS} {cs : List Value} {row : List D} {S : Nat -> Prop} (ho : Qt w cs row S) : Z2 (qA T w) cs row := by
 obtain ⟨hl, Sk, h1, h2, h3⟩ := ho
 refine Z2.Ku hl (fun k x d hx hd => ?_)
 have ho := h1 k x d hx hd
 cases ho with
 | int k n => exact Rd.int _ _
 | bool b => exact Rd.bool _
 | str s => exact Rd.str _
 | unk v h => exact Rd.unk _ h
 | sl v size rows S e xs pN ho hz hb hl hk pX wR => exact ⟨e, xs, ho⟩
def C0 (n : Nat) (v : Value) (row : List D) (args : List (List D)) : St := (.fix v (vOf (Qz 0 0 row)), YC [] row) :: (T5 args ++ List.replicate (n - (args.length + 1)) (V.any, []))
def St.CY : St -> List At -> List D -> St
 | σ, .sref t j _ _ :: xs, .sl size rows :: ds => St.CY (σ.Zt t j (.arr true size rows)) xs ds
 | σ, _ :: xs, _ :: ds => St.CY σ xs ds
 | σ, _, _ => σ
def L5 : List D -> List D -> Prop
 | .sl s r :: ds, .sl s' r' :: rF => s = s' /\ r.length = r'.length /\ L5 ds rF
 | .sl _ _ :: _, _ => False
 | _ :: ds, _ :: rF => L5 ds rF
 | [], [] => True
 | _, _ => False
def Gk (σ : St) : List At -> Prop
 | [] => True
 | .sref t j _ _ :: xs => (match σ.ob t j with | .arr true _ _ => True | _ => False) /\ Gk σ xs
 | _ :: xs => Gk σ xs
def At.BP : At -> Bool
 | .tref _ _ _ _ _ => true
 | _ => false
theorem TC : ∀ {xs : List At} {t j : Nat}, (t, j) ∈ Ya xs -> ∃ (k lo len : Nat), xs[k]? = some (At.sref t j lo len)
 | [], t, j, h => by cases h
 | x :: xs, t, j, h => by
  cases x with
  | sref t' j' lo len =>
   simp only [Ya, List.mem_cons, Prod.mk.injEq] at h
   rcases h with ⟨rfl, rfl⟩ | h
   ·exact ⟨0, lo, len, rfl⟩
   ·obtain ⟨k, lo, len, hk⟩ := TC h; exact ⟨k + 1, lo, len, by simpa using hk⟩
  | _ => obtain ⟨k, lo, len, hk⟩ := TC (xs := xs) h; exact ⟨k + 1, lo, len, by simpa using hk⟩
end
theorem Rt {σ : St} {d d' : Nat} {v : V} (wE : d ≠ d') (h : Yx σ d = true) : Yx (σ.put d' v) d = true := by
 unfold Yx at *; simp only [y0, if_neg wE]; exact h
end Go.Vm
