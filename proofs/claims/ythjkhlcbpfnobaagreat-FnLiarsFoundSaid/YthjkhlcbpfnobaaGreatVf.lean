/- An abstract machine RH the model of Go, by value, and that it is sound: part Vf. No condition. -/
import Derived.Test.YthjkhlcbpfnobaaGreatVb
set_option linter.unusedVariables false
set_option linter.unusedSimpArgs false
namespace Go.Vm
open Go.RowKit
def Nq (P : Program) (σ : St) (c : Call) (f : FuncId) (own : Bool) (res : List (List D)) : Prop :=
 ∃ rows, XW P σ c.args.toList c.argTypes.toList rows /\ QE P f own rows res /\ (Z4 P σ c.args.toList c.argTypes.toList = true \/ Jq own res)
def Step (P : Program) (o : Oper) (d : Nat) (σ σ' : St) : Prop :=
 match o.op with
 | .alloc T => σ.fresh d = true /\ XD P T = true /\ ∃ row, yM P 12 T = some row /\ σ' = σ.new d (.one (.bptr d 0)) [.box row]
 | .box T x => σ.fresh d = true /\ gOf (look P σ T x) = true /\ (unc (look P σ T x)).flat = true /\ Zs d (unc (look P σ T x)).cells = false /\ σ' = σ.new d (.one (.bptr d 0)) [.box (unc (look P σ T x)).cells]
 | .buildSlice T n parts => (σ.fresh d = true /\ YS P T = true /\ XD P (ZH P T) = true /\ 0 < P.cellsOf (ZH P T) /\ parts.toList.length = n /\ n * P.cellsOf (ZH P T) <= 16777216 /\
   ((∃ rows, VH P σ (ZH P T) (P.cellsOf (ZH P T)) parts.toList 0 rows /\ σ' = σ.new d (.one (.sref d 0 0 rows.length)) [.arr false (P.cellsOf (ZH P T)) rows]) \/
   (∃ rows, Vu P σ (ZH P T) (P.cellsOf (ZH P T)) parts.toList 0 rows /\ Zs d rows.flatten = false /\ σ' = σ.new d (.one (.sref d 0 0 rows.length)) [.lit (P.cellsOf (ZH P T)) rows]))) \/
   ((YS P T = true /\ XD P (ZH P T) = true /\ 0 < P.cellsOf (ZH P T) /\ parts.toList.length = n /\ n * P.cellsOf (ZH P T) <= 16777216) /\ ∃ rows, VH P σ (ZH P T) (P.cellsOf (ZH P T)) parts.toList 0 rows /\ σ' = σ.put d (.one (.d (.sl (P.cellsOf (ZH P T)) rows))))
 | .makeSlice T x y => x = y /\ σ.fresh d = true /\ YS P T = true /\ XD P (ZH P T) = true /\ 0 < P.cellsOf (ZH P T) /\
   ∃ q z zr k n, (q = true -> Ps z = true) /\ yM P 12 (ZH P T) = some z /\ zD z = some zr /\ y8 P σ x k (n : Nat) /\ P.bytesOf (ZH P T) * n <= 281474976710656 /\ n <= 9223372036854775807 /\ σ' = σ.new d (.one (.sref d 0 0 n)) [.arr q (P.cellsOf (ZH P T)) (List.replicate n zr)]
 | .call c =>
  (match c.callee with
  | .builtin .append => ∃ x y t, c.args = #[x, y] /\ c.argTypes = #[t, t] /\ gOf (look P σ t x) = true /\ gOf (look P σ t y) = true /\ YS P t = true /\ XD P (ZH P t) = true /\ 0 < P.cellsOf (ZH P t) /\
    ∃ wC news σ1, jS σ (unc (look P σ t x)) (P.cellsOf (ZH P t)) wC σ1 /\ yI σ (unc (look P σ t y)) (P.cellsOf (ZH P t)) news /\ σ1.fresh d = true /\
     (wC.length + news.length) * P.bytesOf (ZH P t) <= 140737488355328 /\ wC.length + news.length <= 9223372036854775807 /\ σ' = σ1.new d (.one (.sref d 0 0 (wC.length + news.length))) [.arr false (P.cellsOf (ZH P t)) (wC ++ news)]
  | .value (.func f) => (∃ own res, Nq P σ c f own res /\ σ' = σ.put d (K8 res)) \/ (∃ res, Nq P σ c f true res /\ σ.fresh d = true /\ σ' = σ.new d (zu d res) (Kz res.flatten)) \/
    (∃ rows res qs, XW P σ c.args.toList c.argTypes.toList rows /\ Yx P f rows res /\ J0 qs res.flatten /\ σ.fresh d = true /\ σ' = σ.new d (zu d res) (Zq qs res.flatten))
  | _ => ∃ v, Zv P σ o.op o.type v /\ σ' = σ.put d v)
 | .convert S T x =>
   (∃ v, Zv P σ o.op o.type v /\ σ' = σ.put d v) \/
   (∃ l, gOf (look P σ S x) = true /\ VX P S = true /\ jT P T = true /\ yI σ (unc (look P σ S x)) 1 (JB l) /\ σ' = σ.put d (.one (.d (.str ⟨l.toArray⟩)))) \/
   (∃ s, gOf (look P σ S x) = true /\ jT P S = true /\ VX P T = true /\ unc (look P σ S x) = .one (.d (.str s)) /\ s.size <= 9223372036854775807 /\ σ' = σ.put d (.one (.d (.sl 1 (JB s.data.toList)))))
 | _ => ∃ v, Zv P σ o.op o.type v /\ σ' = σ.put d v
def KQ (P : Program) (σ : St) (T : TypeId) (x y : Operand) (σ' : St) : Prop :=
 Kg P T = true /\ gOf (look P σ 0 x) = true /\ gOf (look P σ T y) = true /\ (unc (look P σ T y)).flat = true /\
  (match unc (look P σ 0 x) with
  | .one (.bptr t c) => ∃ cells, σ.ob t 0 = .box cells /\ (unc (look P σ T y)).cells.length = P.cellsOf T /\ c + P.cellsOf T <= cells.length /\ σ' = σ.ZT t 0 (.box (place cells c (unc (look P σ T y)).cells))
  | .one (.ptr t j i c) => ∃ q size rows ds, σ.ob t j = .arr q size rows /\ i < rows.length /\ rowOf σ (unc (look P σ T y)).cells = some ds /\ Q0 (unc (look P σ T y)).cells = true /\ ds.length = P.cellsOf T /\ c + P.cellsOf T <= size /\
    (q = true -> ds.all D.scalar = true /\ (cut (rows.getD i []) c (P.cellsOf T)).all D.scalar = true) /\ σ' = σ.ZT t j (.arr q size (rows.set i (place (rows.getD i []) c ds)))
  | _ => False)
def zX (want : Bool) : V -> Option Bool
 | .one (.d (.bool b)) => some (b == want)
 | .cnd g (.one (.d (.bool b))) => some (g && (b == want))
 | .cnd false _ => some false
 | _ => none
def Uk (P : Program) (o : Oper) (σ : St) (v : V) : Prop :=
 match o.op with
 | .call c =>
  (match c.callee with
  | .value (.func f) => ∃ own res, Nq P σ c f own [res] /\ v = K8 [res]
  | _ => ∃ v0, Zv P σ o.op o.type v0 /\ gOf v0 = true /\ v = unc v0 /\ v.flat = true)
 | _ => ∃ v0, Zv P σ o.op o.type v0 /\ gOf v0 = true /\ v = unc v0 /\ v.flat = true
def YX (P : Program) (ops : Array Oper) (o : Oper) (σ σ' : St) : Prop :=
 match o.guard with
 | none =>
  (match o.dst with
  | some d => Step P o d σ σ'
  | none => (match o.op with | .store T x y => KQ P σ T x y σ' | _ => False))
 | some (j, want) => ∃ dj d g v, (ops[j]?).bind (·.dst) = some dj /\ dj < σ.length /\ o.dst = some d /\ zX want (σ.get dj) = some g /\ (g = true -> Uk P o σ v) /\ σ' = σ.put d (.cnd g v)
def xS (P : Program) (ops : Array Oper) (o : Oper) (σ σ' : St) : Prop :=
 ∀ (T0 : CS) (B : Nat -> Prop) (a : Act) (w : World) (K : Act -> World -> Prop) (Q : Exit -> Act -> World -> Prop), X6 T0 B σ a w -> (∀ a' w', X6 T0 B σ' a' w' -> YQ B w w' -> K a' w') ->
  if Region.wanted o (yielded ops a.tmps) then o.wp P a w K Q else K (a.put o.dst undef) w
def Yt (σ : St) (d : Nat) : Bool := match σ[d]? with | some (.any, []) => true | some (.one (.d _), []) => true | _ => false
def jq (o : Oper) (σ σ' : St) : Prop := ∀ d, o.dst ≠ some d -> Yt σ d = true -> Yt σ' d = true
def y9 (o : Oper) : Bool := match o.op with | .store _ _ _ => true | _ => false
def J4 (d : Nat) : Operand -> Bool
 | .tmp t => t == d
 | _ => false
def yr (o : Oper) (d : Nat) : Bool := match o.op with | .store _ p q => !J4 d p && !J4 d q | _ => false
def Ud : V -> Bool
 | .any => true
 | .one (.d _) => true
 | _ => false
def St.Xo : St -> List (Nat × V) -> St
 | σ, [] => σ
 | σ, p :: l => St.Xo (σ.put p.1 p.2) l
def E9 (P : Program) (ops : Array Oper) (o : Oper) (σ σ' : St) : Prop :=
 (σ'.length = σ.length /\ ∀ u, σ'.get u = σ.get u) /\ (∀ l : List (Nat × V), (∀ p ∈ l, yr o p.1 = true /\ Ud p.2 = true) -> xS P ops o (σ.Xo l) (σ'.Xo l) /\ jq o (σ.Xo l) (σ'.Xo l)) /\ ∀ t cells, σ.ob t 0 = .box cells -> σ'.ob t 0 = .box cells
def zj (o : Oper) : Bool := match o.op with | .call ⟨.builtin .append, _, _⟩ => true | _ => false
theorem OR {o : Oper} (h : y9 o = true) : zj o = false := by
 unfold y9 at h
 split at h
 ·rename_i wA; simp [zj, wA]
 ·cases h
def WS (o : Oper) (d : Nat) : Bool := !(o.op.operands.toList.any (J4 d))
def Eb (P : Program) (ops : Array Oper) (o : Oper) (σ σ' : St) : Prop :=
 ∃ d, o.dst = some d /\ σ'.length = σ.length /\ (∀ t, t ≠ d -> σ'.get t = σ.get t /\ (σ.get t).ref d = false) /\ (∀ t j cells, t ≠ d -> σ'.ob t j = .box cells -> σ.ob t j = .box cells /\ Zs d cells = false) /\
  (∀ t j q s rows, t ≠ d -> σ'.ob t j = .arr q s rows -> ∃ wK, σ.ob t j = .arr q s wK) /\
  ∀ l : List (Nat × V), (∀ p ∈ l, p.1 ≠ d /\ WS o p.1 = true /\ p.2.ref d = false) -> xS P ops o (σ.Xo l) (σ'.Xo l) /\ jq o (σ.Xo l) (σ'.Xo l)
def DB (P : Program) (t : TypeId) : Bool := match P.underlying t with | some (.pointer _) => true | _ => false
def Wc (bar : Oper -> Bool) (o : Oper) : Bool := !bar { o with dst := some 1000000007 }
def EZ (bar : Oper -> Bool) (o : Oper) : Bool := (match o.dst with | some d => bar { o with dst := some (d + 2000000) } | none => false) && Wc bar o
def QL (P : Program) (o : Oper) : Bool := match o.op with | .call ⟨.value (.func _), _, ⟨T :: _⟩⟩ => DB P T | _ => false
def Jj (t d : Nat) (cs : List At) (v : V) : Option (List Ob) -> St -> St
 | none, σ => (σ.ZT t 0 (.box cs)).put d v
 | some os, σ => (σ.ZT t 0 (.box cs)).new d v os
def Eh (P : Program) (ops : Array Oper) (o : Oper) (σ σ' : St) : Prop :=
 ∃ d t cells cs v os, o.dst = some d /\ σ.ob t 0 = .box cells /\ (∃ z r, (∃ f ts, o.op = .call ⟨.value (.func f), ⟨z :: r⟩, ts⟩) /\ ∃ ty, unc (look P σ ty z) = .one (.bptr t 0)) /\ (∀ u, Zs u cells = false /\ Zs u cs = false) /\
  (∀ u, (os = none \/ u ≠ d) -> v.ref u = false /\ ∀ l, os = some l -> YB u l = false) /\ (os ≠ none -> (σ.ZT t 0 (.box cs)).fresh d = true) /\ σ' = Jj t d cs v os σ /\
  ∀ σ2 : St, σ.length = σ2.length -> (∀ z ∈ o.op.operands.toList, ∀ ty, look P σ ty z = look P σ2 ty z) -> (∀ z ∈ o.op.operands.toList, ∀ ty u, (look P σ ty z).ref u = true -> ∀ j, σ.ob u j ≠ .none -> σ2.ob u j = σ.ob u j) -> (os ≠ none -> (σ2.ZT t 0 (.box cs)).fresh d = true) ->
   xS P ops o σ2 (Jj t d cs v os σ2) /\ jq o σ2 (Jj t d cs v os σ2)
theorem NK {P : Program} {o : Oper} (h : y9 o = true) : QL P o = false := by
 unfold y9 at h
 split at h
 ·rename_i wA; simp [QL, wA]
 ·cases h
theorem HI {P : Program} {o : Oper} (h : zj o = true) : QL P o = false := by
 unfold zj at h
 split at h
 ·rename_i wA; simp [QL, wA]
 ·cases h
def Qy (P : Program) (ops : Array Oper) (bar : Oper -> Bool) (o : Oper) (σ σ' : St) : Prop := YX P ops o σ σ' \/ (bar o = true /\ xS P ops o σ σ' /\ jq o σ σ' /\ (y9 o = true -> E9 P ops o σ σ') /\ (zj o = true -> Eb P ops o σ σ') /\ (QL P o = true -> Wc bar o = true -> Eh P ops o σ σ'))
def OX (P : Program) (ops : Array Oper) (bar : Oper -> Bool) : List Oper -> St -> (St -> Prop) -> Prop
 | [], σ, Q => Q σ
 | o :: rest, σ, Q => ∃ σ', Qy P ops bar o σ σ' /\ OX P ops bar rest σ' Q
section
variable {P : Program} {T0 : CS} {B : Nat -> Prop} {σ : St} {a : Act} {w w' : World} {X X' : Nat -> Prop} {h : Nat -> Nat -> Hd}
theorem W4 (d : Nat) : ∀ (n : Nat) (t : TypeId) (row : List At), yM P n t = some row -> Zs d row = false := by
 intro n
 induction n with
 | zero => intro t row hr; simp [yM] at hr
 | succ n ih =>
  intro t row hr
  have ng : ∀ (rs : List (List At)), (∀ r ∈ rs, Zs d r = false) -> Zs d rs.flatten = false := by
   intro rs um
   have app : ∀ (xs ys : List At), Zs d xs = false -> Zs d ys = false -> Zs d (xs ++ ys) = false := by
    intro xs ys hx hy
    induction xs with
    | nil => exact hy
    | cons x xs pg => simp only [List.cons_append, Zs, Bool.or_eq_false_iff] at hx ⊢; exact ⟨hx.1, pg hx.2⟩
   induction rs with
   | nil => rfl
   | cons r rs pg => rw [List.flatten_cons]; exact app _ _ (um r (by simp)) (pg (fun r hr => um r (by simp [hr])))
  rw [yM] at hr
  split at hr
  ·cases hr; rfl
  ·cases hr; rfl
  ·cases hr; rfl
  ·cases hr; rfl
  ·rename_i fs _
   simp only [Option.map_eq_some_iff] at hr
   obtain ⟨rs, um, rfl⟩ := hr
   refine ng rs ?_
   have : ∀ (l : List Field) (rs : List (List At)), l.mapM (fun f => yM P n f.type) = some rs -> ∀ r ∈ rs, Zs d r = false := by
    intro l
    induction l with
    | nil => intro rs hh r hr; simp at hh; subst hh; cases hr
    | cons f l pg =>
     intro rs hh r hr
     simp only [List.mapM_cons, Option.bind_eq_bind, Option.bind_eq_some_iff] at hh
     obtain ⟨r0, tG, nL, oS, hh⟩ := hh
     simp at hh; subst hh
     rcases List.mem_cons.1 hr with rfl | hr
     ·exact ih f.type _ tG
     ·exact pg nL oS r hr
   exact this fs.toList rs um
  ·simp only [Option.map_eq_some_iff] at hr
   obtain ⟨r0, tG, rfl⟩ := hr
   exact ng _ (fun r hr => by rw [List.eq_of_mem_replicate hr]; exact ih _ _ tG)
  ·cases hr
theorem xf {o : Oper} {d : Nat} {v : V} (r : Rel T0 B σ a w X h) (hd : o.dst = some d) (hex : ∃ val, (execOp a.eval o).run P w = .ok (.value val) w /\ Xe (Tof T0 X) h σ.ob w v val)
  {K : Act -> World -> Prop} {Q : Exit -> Act -> World -> Prop} (hK : ∀ a' w', X6 T0 B (σ.put d v) a' w' -> YQ B w w' -> K a' w') : o.wp P a w K Q := by
 obtain ⟨val, wV, hv⟩ := hex
 unfold Oper.wp
 rw [wV, Oper.upon_value, hd]
 exact hK _ _ ⟨X, h, r.put d v val hv⟩ (YQ.refl _ _)
theorem MV (r : Rel T0 B σ a w X h) {o : Oper} {d : Nat} {σ' : St} (hd : o.dst = some d) (hs : Step P o d σ σ') {K : Act -> World -> Prop} {Q : Exit -> Act -> World -> Prop}
  (hK : ∀ a' w', X6 T0 B σ' a' w' -> YQ B w w' -> K a' w') : o.wp P a w K Q := by
 have vk : (∃ v, Zv P σ o.op o.type v /\ σ' = σ.put d v) -> o.wp P a w K Q := by
  rintro ⟨v, hv, rfl⟩
  exact xf r hd (yU r hv) hK
 unfold Step at hs
 split at hs
 ·rename_i T wA
  obtain ⟨hf, hz, row, wi, rfl⟩ := hs
  exact N6 r wA hd hf hz wi (W4 d _ _ _ wi) hK
 ·rename_i T x wA
  obtain ⟨hf, hg, ve, hr, rfl⟩ := hs
  exact II r wA hd hf hg ve hr hK
 ·rename_i T n parts wA
  rcases hs with ⟨hf, h1, h2, h3, h4, h5, ⟨rows, h6, rfl⟩ | ⟨rows, h6, h7, rfl⟩⟩ | ⟨⟨h1, h2, h3, h4, h5⟩, rows, h6, rfl⟩
  ·exact Ua r wA hd hf h1 h2 h3 h4 h5 h6 hK
  ·exact kE r wA hd hf h1 h2 h3 h4 h5 h6 h7 hK
  ·exact O7 r wA hd h1 h2 h3 h4 h5 h6 hK
 ·rename_i T x y wA
  obtain ⟨rfl, hf, h1, h2, h3, q, z, zr, k, n, hq, h4, h5, h6, h7, h8, rfl⟩ := hs
  cases q with
  | false => exact Td r wA hd hf h1 h2 h4 h5 h3 h6 h7 h8 hK
  | true => exact RU r wA hd hf h1 h2 h4 h5 (hq rfl) h3 h6 h7 h8 hK
 ·rename_i c wA
  split at hs
  ·rename_i hc
   obtain ⟨x, y, t, ha, uv, h1, h2, h3, h4, h5, wC, news, σ1, h6, h7, h8, h9, tg, rfl⟩ := hs
   refine OQ r (t := t) (x := x) (y := y) ?_ hd h1 h2 h3 h4 h5 h6 h7 h8 h9 tg hK
   rw [wA]
   obtain ⟨cc, ca, ct⟩ := c
   simp only at hc ha uv
   rw [hc, ha, uv]
  ·rename_i f hc
   rcases hs with ⟨own, res, ⟨rows, ha, hs, vE⟩, rfl⟩ | ⟨res, ⟨rows, ha, hs, vE⟩, hf, rfl⟩ | ⟨rows, res, qs, ha, hs, hq, hf, rfl⟩
   ·rcases vE with vE | vE
    ·exact yj r wA hc hd ha true (fun _ => vE) (fun hh => by cases hh) hs hK
    ·exact yj r wA hc hd ha false (fun hh => by cases hh) (fun _ => vE) hs hK
   ·rcases vE with vE | vE
    ·exact WQ r wA hc hd hf ha true (fun _ => vE) (fun hh => by cases hh) hs hK
    ·exact WQ r wA hc hd hf ha false (fun hh => by cases hh) (fun _ => vE) hs hK
   ·exact MF r qs wA hc hd hf ha hs hq hK
  ·exact vk hs
 ·rename_i S T x wA
  rcases hs with hs | ⟨l, h1, h2, h3, h4, rfl⟩ | ⟨s, h1, h2, h3, h4, h5, rfl⟩
  ·exact vk hs
  ·exact xf r hd (WG r wA h1 h2 h3 h4) hK
  ·exact WJ r wA hd h1 h2 h3 h4 h5 hK
 ·exact vk hs
theorem OZ (r : Rel T0 B σ a w X h) {o : Oper} {T : TypeId} {x y : Operand} {σ' : St} (wA : o.op = .store T x y) (hd : o.dst = none) (hs : KQ P σ T x y σ') {K : Act -> World -> Prop} {Q : Exit -> Act -> World -> Prop}
  (hK : ∀ a' w', X6 T0 B σ' a' w' -> YQ B w w' -> K a' w') : o.wp P a w K Q := by
 obtain ⟨ht, tW, tX, ve, hs⟩ := hs
 split at hs
 ·rename_i t c hx
  obtain ⟨cells, ho, hl, hle, rfl⟩ := hs
  exact SY r wA hd ht tW tX hx ho ve hl hle hK
 ·rename_i t j i c hx
  obtain ⟨q, size, rows, ds, ho, hi, s3, wb, hl, hle, hq, rfl⟩ := hs
  refine Sw r wA hd ht tW tX hx ho hi ve s3 wb hl hle (fun hh => ⟨fun d wP => ?_, fun k d hk wP => ?_⟩) hK
  ·exact List.all_eq_true.1 (hq hh).1 d wP
  ·refine List.all_eq_true.1 (hq hh).2 d (List.mem_of_getElem? (i := k) ?_)
   simp only [cut, List.getElem?_take, if_pos hk, List.getElem?_drop]; exact wP
 ·exact hs.elim
theorem Uo {T : CS} {ob : Nat -> Nat -> Ob} {v : V} {val : Value} (hf : (unc v).flat = true) (hv : Xe T h ob w (unc v) val) : Qs T h ob w (unc v) val := by
 cases hu : unc v with
 | one x => rw [hu] at hv; exact hv
 | agg xs => rw [hu] at hv; exact hv
 | any => rw [hu] at hf; cases hf
 | tup xs => rw [hu] at hf; cases hf
 | cnd g x => rw [hu] at hf; cases hf
 | fix u x => rw [hu] at hf; cases hf
theorem MC (r : Rel T0 B σ a w X h) {ops : Array Oper} {o : Oper} {j dj : Nat} {want g : Bool} (tv : o.guard = some (j, want)) (uD : (ops[j]?).bind (·.dst) = some dj) (wO : dj < σ.length) (hg : zX want (σ.get dj) = some g) :
  Region.wanted o (yielded ops a.tmps) = g := by
 have vK : dj < a.tmps.size := by rw [r.size]; exact wO
 have hv := r.slot dj wO
 have nh : a.tmps.getD dj undef = a.tmps[dj] := by simp [vK]
 rw [nh] at hv
 have hy : yielded ops a.tmps j = (match a.tmps[dj] with | .bool b => some b | _ => none) := by
  unfold yielded
  rw [uD]
  simp only [Option.bind_some, Array.getElem?_eq_getElem vK]
  cases a.tmps[dj] <;> rfl
 simp only [Region.wanted, tv, hy]
 unfold zX at hg
 split at hg
 ·rename_i b nY
  rw [nY] at hv
  rw [zU hv]
  cases hg
  cases b <;> cases want <;> rfl
 ·rename_i g0 b nY
  rw [nY] at hv
  cases hg
  cases g0 with
  | true =>
   rw [zU (hv.1 rfl)]
   cases b <;> cases want <;> rfl
  | false =>
   rw [hv.2 rfl]
   simp [undef]
 ·rename_i nY
  rw [nY] at hv
  cases hg
  rw [hv.2 rfl]
  simp [undef]
 ·cases hg
theorem NI (r : Rel T0 B σ a w X h) {ops : Array Oper} {o : Oper} {σ' : St} (hs : YX P ops o σ σ') {K : Act -> World -> Prop} {Q : Exit -> Act -> World -> Prop}
  (hK : ∀ a' w', X6 T0 B σ' a' w' -> YQ B w w' -> K a' w') : if Region.wanted o (yielded ops a.tmps) then o.wp P a w K Q else K (a.put o.dst undef) w := by
 unfold YX at hs
 split at hs
 ·rename_i hg
  have hw : Region.wanted o (yielded ops a.tmps) = true := by simp [Region.wanted, hg]
  rw [if_pos hw]
  split at hs
  ·rename_i d hd; exact MV r hd hs hK
  ·rename_i hd
   split at hs
   ·rename_i T x y wA; exact OZ r wA hd hs hK
   ·exact hs.elim
 ·rename_i j want hg
  obtain ⟨dj, d, g, v, uD, wO, hd, uN, hs, rfl⟩ := hs
  rw [MC r hg uD wO uN]
  cases g with
  | false =>
   simp only [Bool.false_eq_true, if_false]
   rw [hd]
   exact hK _ _ ⟨X, h, r.put d _ _ ⟨(fun hh => by cases hh), fun _ => rfl⟩⟩ (YQ.refl _ _)
  | true =>
   simp only [if_true]
   have vB := hs rfl
   clear hs
   have vk : (∃ v0, Zv P σ o.op o.type v0 /\ gOf v0 = true /\ v = unc v0 /\ v.flat = true) -> o.wp P a w K Q := by
    rintro ⟨v0, pf, p9, rfl, ve⟩
    obtain ⟨val, wV, hv⟩ := yU r pf
    refine xf (v := .cnd true (unc v0)) r hd ⟨val, wV, ⟨fun _ => Uo ve (hv.unc p9), fun hh => by cases hh⟩⟩ hK
   unfold Uk at vB
   split at vB
   ·rename_i c wA
    split at vB
    ·rename_i f hc
     obtain ⟨own, res, ⟨rows, ha, hs, vE⟩, rfl⟩ := vB
     have fin : ∀ a' w', X6 T0 B (σ.put d (K8 [res])) a' w' -> YQ B w w' -> K a' w' := by
      rintro a' w' ⟨X', h', r'⟩ hb
      refine hK a' w' ⟨X', h', ?_⟩ hb
      refine ⟨by rw [r'.size, St.Xn, St.Xn], r'.defers, r'.hB, r'.hX, r'.hT, fun t ht => ?_, fun t j => ?_, fun t j b => ?_, fun t j b => ?_, fun t j t' j' b => ?_⟩
      ·rw [St.Xn] at ht
       have h0 := r'.slot t (by rw [St.Xn]; exact ht)
       rw [St.Xl] at h0 ⊢
       rw [St.JA] at h0 ⊢
       by_cases hh : t = d /\ d < σ.length
       ·rw [if_pos hh] at h0 ⊢
        refine ⟨fun _ => ?_, fun hh => by cases hh⟩
        have ve : (unc (vOf (res.map At.d))).flat = true := by
         match res.map At.d with
         | [] => rfl
         | [x] => rfl
         | x :: y :: xs => rfl
        have hu : unc (vOf (res.map At.d)) = vOf (res.map At.d) := by
         match res.map At.d with
         | [] => rfl
         | [x] => rfl
         | x :: y :: xs => rfl
        have := Uo (v := vOf (res.map At.d)) ve (by rw [hu]; exact h0)
        rw [hu] at this; exact this
       ·rw [if_neg hh] at h0 ⊢; exact h0
      ·have := r'.obj t j; rw [St.Xl] at this ⊢; exact this
      ·have := r'.ub t j b; rw [St.Xl] at this ⊢; exact this
      ·have := r'.own t j b; rw [St.Xl] at this ⊢; exact this
      ·have := r'.inj t j t' j' b; rw [St.Xl] at this ⊢; exact this
     rcases vE with vE | vE
     ·exact yj r wA hc hd ha true (fun _ => vE) (fun hh => by cases hh) hs fin
     ·exact yj r wA hc hd ha false (fun hh => by cases hh) (fun _ => vE) hs fin
    ·exact vk vB
   ·exact vk vB
theorem kX {ops : Array Oper} {bar : Oper -> Bool} {o : Oper} {σ' : St} (hs : Qy P ops bar o σ σ') : xS P ops o σ σ' := by
 rcases hs with hs | hs
 ·rintro T0 B a w K Q ⟨X, h, r⟩ hK
  exact NI r hs hK
 ·exact hs.2.1
theorem S7 {ops : Array Oper} {bar : Oper -> Bool} : ∀ {l : List Oper} {σ : St} {a : Act} {w : World} {Q : St -> Prop} {Q' : Exit -> Act -> World -> Prop}, OX P ops bar l σ Q -> X6 T0 B σ a w ->
  (∀ σ' a' w', Q σ' -> X6 T0 B σ' a' w' -> YQ B w w' -> Q' .normal a' w') -> wpList P ops Q' l a w
 | [], σ, a, w, Q, Q', hr, vw, hK => hK σ a w hr vw (YQ.refl _ _)
 | o :: l, σ, a, w, Q, Q', ⟨σ', hs, hr⟩, vw, hK => by
  refine wpList_step fun K gT => ?_
  exact kX hs _ _ _ _ _ _ vw (fun a' w' vw hb => gT _ _ (S7 hr vw (fun σ2 a2 w2 hq re wk => hK σ2 a2 w2 hq re (hb.trans wk))))
end
end Go.Vm
namespace Go.Vm
open Go.RowKit
def AWP (P : Program) (c : Code) (Q : Exit -> St -> Prop) (σ : St) : Prop :=
 ∀ (T0 : CS) (B : Nat -> Prop) (a : Act) (w : World), X6 T0 B σ a w -> c.wp P (fun e a' w' => ∃ σ', Q e σ' /\ X6 T0 B σ' a' w' /\ YQ B w w') a w
def Wk (σ σ' : St) : Prop := ∀ (T0 : CS) (B : Nat -> Prop) (a : Act) (w : World), X6 T0 B σ a w -> X6 T0 B σ' a w
def SO (next : St -> Prop) (Q : Exit -> St -> Prop) : Exit -> St -> Prop
 | .normal, σ => next σ
 | e, σ => Q e σ
def kF (id : Nat) (Q : Exit -> St -> Prop) : Exit -> St -> Prop
 | .exit oU, σ => if oU = id then Q .normal σ else Q (.exit oU) σ
 | e, σ => Q e σ
section
variable {P : Program} {Q : Exit -> St -> Prop} {σ : St}
theorem Wk.refl (σ : St) : Wk σ σ := fun _ _ _ _ h => h
theorem Wk.trans {σ σ' σ'' : St} (h : Wk σ σ') (k : Wk σ' σ'') : Wk σ σ'' := fun _ _ _ _ r => k _ _ _ _ (h _ _ _ _ r)
theorem ME {c : Code} {Q' : Exit -> St -> Prop} (h : ∀ e σ, Q e σ -> Q' e σ) (k : AWP P c Q σ) : AWP P c Q' σ :=
 fun T0 B a w r => wp_mono (k T0 B a w r) fun e _ _ ⟨σ', hq, hr⟩ => ⟨σ', h e σ' hq, hr⟩
theorem Hu (h : Q .normal σ) : AWP P .skip Q σ := fun _ B _ w r => wp_skip ⟨σ, h, r, YQ.refl B w⟩
theorem Hq {id : Nat} (h : Q (.exit id) σ) : AWP P (.exit id) Q σ := fun _ B _ w r => wp_exit ⟨σ, h, r, YQ.refl B w⟩
theorem Gy (h : Q .ret σ) : AWP P .ret Q σ := fun _ B _ w r => wp_ret ⟨σ, h, r, YQ.refl B w⟩
theorem LO {id : Nat} {l : List Oper} {bar : Oper -> Bool} (h : OX P l.toArray bar l σ (Q .normal)) : AWP P (.region id l.toArray false) Q σ :=
 fun _ _ _ _ r => wp_region_lit (S7 h r fun σ' _ _ hq hr hb => ⟨σ', hq, hr, hb⟩)
theorem Gm {x y : Code} (h : AWP P x (SO (AWP P y Q) Q) σ) : AWP P (.seq x y) Q σ := by
 intro T0 B a w r
 refine wp_seq (wp_mono (h T0 B a w r) ?_)
 rintro e a' w' ⟨σ', hq, hr, hb⟩
 cases e with
 | normal => exact wp_mono (hq T0 B a' w' hr) fun e _ _ ⟨σ2, h1, h2, h3⟩ => ⟨σ2, h1, h2, hb.trans h3⟩
 | exit id => exact ⟨σ', hq, hr, hb⟩
 | goto l => exact ⟨σ', hq, hr, hb⟩
 | ret => exact ⟨σ', hq, hr, hb⟩
 | panic ch => exact ⟨σ', hq, hr, hb⟩
 | outgrown => exact ⟨σ', hq, hr, hb⟩
theorem HK {c : Operand} {x y : Code} {b : Bool} (hc : look P σ 0 c = .one (.d (.bool b))) (ht : b = true -> AWP P x Q σ) (hf : b = false -> AWP P y Q σ) : AWP P (.cond c x y) Q σ := by
 intro T0 B a w r
 obtain ⟨X, h, rr⟩ := r
 have hv := rr.look (P := P) 0 c
 rw [hc] at hv
 exact wp_cond_split (zU hv) (fun hb => ht hb T0 B a w ⟨X, h, rr⟩) (fun hb => hf hb T0 B a w ⟨X, h, rr⟩)
theorem IU {id : Nat} {c : Code} (h : AWP P c (kF id Q) σ) : AWP P (.block id c) Q σ := by
 intro T0 B a w r
 refine wp_block (wp_mono (h T0 B a w r) ?_)
 rintro e a' w' ⟨σ', hq, hr, hb⟩
 cases e with
 | exit oU =>
  simp only [kF] at hq
  simp only [Exit.inBlock]
  split at hq
  ·rename_i hh; rw [if_pos hh]; exact ⟨σ', hq, hr, hb⟩
  ·rename_i hh; rw [if_neg hh]; exact ⟨σ', hq, hr, hb⟩
 | normal => exact ⟨σ', hq, hr, hb⟩
 | goto l => exact ⟨σ', hq, hr, hb⟩
 | ret => exact ⟨σ', hq, hr, hb⟩
 | panic ch => exact ⟨σ', hq, hr, hb⟩
 | outgrown => exact ⟨σ', hq, hr, hb⟩
theorem qh {c : Code} {ι : Type} (S : ι -> St) (μ : ι -> Nat) (i0 : ι) (h0 : Wk σ (S i0))
  (round : ∀ i, AWP P c (SO (fun σ' => ∃ i', μ i' < μ i /\ Wk σ' (S i')) Q) (S i)) : AWP P (.loop c) Q σ := by
 intro T0 B a w r b k cs
 have key : ∀ n i a w, μ i = n -> X6 T0 B (S i) a w ->
   ∃ e a' w', (∃ σ', Q e σ' /\ X6 T0 B σ' a' w' /\ YQ B w w') /\ Arrives P (lone (b.at a (.code c :: .inLoop c :: k)) cs w) b k cs e a' w' := by
  intro n
  induction n using Nat.strongRecOn with
  | _ n ih =>
   intro i a w hn hr
   obtain ⟨e, a₁, w₁, ⟨σ₁, hq, nM, nN⟩, vh⟩ := round i T0 B a w hr b (.inLoop c :: k) cs
   cases e with
   | normal =>
    obtain ⟨i', wO, gU⟩ := hq
    obtain ⟨e₂, a₂, w₂, ⟨σ₂, gV, gW, gX⟩, nZ⟩ := ih (μ i') (hn ▸ wO) i' a₁ w₁ rfl (gU T0 B a₁ w₁ nM)
    exact ⟨e₂, a₂, w₂, ⟨σ₂, gV, gW, nN.trans gX⟩, .of_steps (Steps.trans vh (.one step_inLoop)) nZ⟩
   | exit id => exact ⟨_, a₁, w₁, ⟨σ₁, hq, nM, nN⟩, .pass (x := .inLoop c) rfl (fun _ _ => .inl (by simp)) vh⟩
   | goto l => exact ⟨_, a₁, w₁, ⟨σ₁, hq, nM, nN⟩, .pass (x := .inLoop c) rfl (fun _ _ => .inl (by simp)) vh⟩
   | ret => exact ⟨_, a₁, w₁, ⟨σ₁, hq, nM, nN⟩, .pass (x := .inLoop c) rfl (fun _ _ => .inl (by simp)) vh⟩
   | panic ch => exact ⟨_, a₁, w₁, ⟨σ₁, hq, nM, nN⟩, .pass (x := .inLoop c) rfl (fun _ _ => .inl (by simp)) vh⟩
   | outgrown => exact ⟨_, a₁, w₁, ⟨σ₁, hq, nM, nN⟩, .pass (x := .inLoop c) rfl (fun _ _ => .inl (by simp)) vh⟩
 obtain ⟨e, a', w', hq, vh⟩ := key _ i0 a w rfl (h0 T0 B a w r)
 exact ⟨e, a', w', hq, .of_steps (.one step_loop) vh⟩
end
/-! ### entering a function, and leaving it -/
def Wp : List (List D) -> St
 | [] => []
 | r :: rs => (vOf (r.map .d), []) :: Wp rs
def zg (n : Nat) (args : List (List D)) : St := Wp args ++ List.replicate (n - args.length) (V.any, [])
def Si (P : Program) (σ : St) : ResultVar -> List At -> Prop
 | .tmp t, xs => (σ.get t = vOf xs) /\ t < σ.length
 | .cell t T, xs => ∃ u c cells, σ.get t = .one (.bptr u c) /\ σ.ob u 0 = .box cells /\ Kg P T = true /\ qc P T = true /\ P.cellsOf T ≠ 1 /\ c + P.cellsOf T <= cells.length /\ xs = cut cells c (P.cellsOf T)
def jY (P : Program) (σ : St) : List ResultVar -> List (List At) -> Prop
 | [], vY => vY = []
 | r :: rs, vY => ∃ xs rest, Si P σ r xs /\ jY P σ rs rest /\ vY = xs :: rest
def zo (σ : St) : List (List At) -> Option (List (List D))
 | [] => some []
 | xs :: rest => (match rowOf σ xs, zo σ rest with | some r, some rs => some (r :: rs) | _, _ => none)
def zQ (σ : St) : At -> Option D
 | .d (.sl _ _) => none
 | .d x => some x
 | .nil s => some (.sl s [])
 | .sref t j lo len => (match σ.ob t j with | .arr false size rows => if lo = 0 /\ len = rows.length then some (.sl size rows) else none | _ => none)
 | _ => none
def ownRow (σ : St) : List At -> Option (List D)
 | [] => some []
 | x :: xs => (match zQ σ x, ownRow σ xs with | some d, some ds => some (d :: ds) | _, _ => none)
def qB (σ : St) : List (List At) -> Option (List (List D))
 | [] => some []
 | xs :: rest => (match ownRow σ xs, qB σ rest with | some r, some rs => some (r :: rs) | _, _ => none)
def NO (P : Program) (fn : Func) (own : Bool) (res : List (List D)) (e : Exit) (σ : St) : Prop :=
 (e = .ret \/ e = .normal) /\ ∃ vY, jY P σ fn.results.toList vY /\ (if own then qB σ vY = some res /\ (Z7 vY.flatten).Nodup else zo σ vY = some res)
def IB (P : Program) (fn : Func) (res : List (List D)) (e : Exit) (σ : St) : Prop :=
 (e = .ret \/ e = .normal) /\ ∃ vY, jY P σ fn.results.toList vY /\ Qb σ vY = some res /\ QK σ vY /\ (Z7 vY.flatten).Nodup
end Go.Vm
namespace Go.Vm
open Go.RowKit
section
variable {P : Program} {T0 : CS} {B : Nat -> Prop} {σ : St} {a : Act} {w w' : World} {X X' : Nat -> Prop} {h : Nat -> Nat -> Hd}
theorem js : ∀ (args : List (List D)) (t : Nat), (Wp args)[t]? = (args[t]?).map fun r => (vOf (r.map .d), [])
 | [], t => by simp [Wp]
 | r :: rs, 0 => by simp [Wp]
 | r :: rs, t + 1 => by simpa [Wp] using js rs t
theorem Xr (args : List (List D)) : (Wp args).length = args.length := by
 induction args with
 | nil => rfl
 | cons r rs ih => simp [Wp, ih]
theorem RF {T : CS} {n : Nat} {args : List (List D)} {wq : List Value} (hT : ∀ b k, T b k -> b < w.heap.size) (ha : Zg (fun v row => ∃ cs, Je v cs /\ Zg (Rd T w) cs row) wq args) :
  X6 T (fun b => b < w.heap.size) (zg n args) { tmps := wq.toArray ++ Array.replicate (n - wq.toArray.size) undef, defers := [] } w := by
 have hl := ha.length
 refine ⟨fun _ => False, fun _ _ => Hd.of undef, ?_⟩
 have wU : ∀ t j, (zg n args).ob t j = .none := by
  intro t j
  unfold St.ob zg
  rcases Nat.lt_or_ge t args.length with h | h
  ·rw [List.getElem?_append_left (by rw [Xr]; exact h), js, List.getElem?_eq_getElem h]
   simp [Zw]
  ·rw [List.getElem?_append_right (by rw [Xr]; exact h), List.getElem?_replicate]
   split
   ·rename_i e he
    split at he
    ·cases he; simp [Zw]
    ·cases he
   ·rfl
 have ri : ∀ b k v, T b k -> w.cell? ⟨b, k, none⟩ = some v -> w.cell? ⟨b, k, none⟩ = some v /\ Tof T (fun _ => False) b k := fun b k v hb hc => ⟨hc, .inl hb⟩
 refine ⟨by simp [zg, Xr, hl], rfl, (fun b hb => hb), (fun b hb => hb.elim), hT, fun t ht => ?_, fun t j => by rw [wU]; trivial, fun t j b wB => absurd (wU t j) wB, fun t j b wB => absurd (wU t j) wB, fun t j t' j' b wB => absurd (wU t j) wB⟩
 unfold St.get zg
 rcases Nat.lt_or_ge t args.length with wO | tD
 ·rw [List.getElem?_append_left (by rw [Xr]; exact wO), js, List.getElem?_eq_getElem wO]
  obtain ⟨v, hv, cs, hf, wD⟩ := ha.get' t args[t] (List.getElem?_eq_getElem wO)
  have u4 : (wq.toArray ++ Array.replicate (n - wq.toArray.size) undef).getD t undef = v := by
   rw [Array.getD_eq_getD_getElem?, Array.getElem?_append_left (by simp; omega)]
   simp [hv]
  simp only [u4]
  exact (Tw hf (yy (wD.imp fun _ _ => Rd.mono ri))).up
 ·rw [List.getElem?_append_right (by rw [Xr]; exact tD), List.getElem?_replicate]
  split
  ·rename_i e he
   split at he
   ·cases he; trivial
   ·cases he
  ·trivial
theorem Gf {T : CS} {ob : Nat -> Nat -> Ob} {xs : List At} {v : Value} (hv : Xe T h ob w (vOf xs) v) : ∃ cs, Je v cs /\ Zg (Zm T h ob w) xs cs := by
 match xs, hv with
 | [], hv =>
  obtain ⟨cs, rfl, wD⟩ := hv
  exact ⟨cs.toList, .inr ⟨by rw [<- wD.length]; simp, by simp⟩, wD⟩
 | [x], hv => exact ⟨[v], .inl ⟨v, rfl, rfl, Zm.Y4 hv⟩, .cons hv .nil⟩
 | x :: y :: xs, hv =>
  obtain ⟨cs, rfl, wD⟩ := hv
  exact ⟨cs.toList, .inr ⟨by rw [<- wD.length]; simp, by simp⟩, wD⟩
theorem Ll (r : Rel T0 B σ a w X h) : ∀ {rs : List ResultVar} {vY : List (List At)}, jY P σ rs vY ->
  ∃ vs wh, (rs.mapM (m := Sem) fun | .tmp t => pure (a.tmps.getD t undef) | .cell u t => do loadVar t (<- asAddr (a.tmps.getD u undef))).run P w = .ok vs w /\ Zg Je vs wh /\ Zg (fun xs cs => Zg (Zm (Tof T0 X) h σ.ob w) xs cs) vY wh
 | [], vY, hr => by cases hr; exact ⟨[], [], by simp, .nil, .nil⟩
 | rv :: rs, vY, hr => by
  obtain ⟨xs, rest, h1, h2, rfl⟩ := hr
  obtain ⟨vs, wh, wV, hf, wD⟩ := Ll r h2
  have one : ∃ v cs, (match rv with | .tmp t => (pure (a.tmps.getD t undef) : Sem Value) | .cell u t => do loadVar t (<- asAddr (a.tmps.getD u undef))).run P w = .ok v w /\ Je v cs /\ Zg (Zm (Tof T0 X) h σ.ob w) xs cs := by
   cases rv with
   | tmp t =>
    obtain ⟨hg, wO⟩ := h1
    have hv := r.slot t wO
    rw [hg] at hv
    obtain ⟨cs, hf, wD⟩ := Gf hv
    exact ⟨_, cs, by simp, hf, wD⟩
   | cell t T =>
    obtain ⟨u, c, cells, hg, ho, uZ, th, wB, hle, rfl⟩ := h1
    have hv := r.get t
    rw [hg] at hv
    obtain ⟨b, cs, e, hb, he, hh, wD⟩ := r.box ho hv
    have hlen := wD.length
    obtain ⟨val, hH, lM, _⟩ := Hw (P := P) (w := w) uZ (b := b) (off := c) (cs := cut cs.toList c (P.cellsOf T)) (YK _ _ _ (by omega)) (fun j u hu => Q6 hh _ _ (JD _ _ _ _ _ hu))
    refine ⟨val, cut cs.toList c (P.cellsOf T), ?_, .inr ⟨by rw [YK _ _ _ (by omega)]; exact wB, lM th⟩, wD.cut _ _⟩
    simp only [Instr.loadAt, Instr.sureAddr, Sem.run_bind, Sem.run_pure, Result.andThen_ok] at hH
    simp only [he, asAddr, Sem.run_bind, Sem.run_pure, Result.andThen_ok]
    exact hH
  obtain ⟨v, cs, na, gY, lN⟩ := one
  refine ⟨v :: vs, cs :: wh, ?_, .cons gY hf, .cons lN wD⟩
  simp only [List.mapM_cons, Sem.run_bind, na, Result.andThen_ok, wV, Sem.run_pure]
theorem yT (r : Rel T0 B σ a w X h) {fn : Func} {vY : List (List At)} (hr : jY P σ fn.results.toList vY) :
  ∃ vs wh, (results fn a.tmps).run P w = .ok (kT vs) w /\ Zg Je vs wh /\ Zg (fun xs cs => Zg (Zm (Tof T0 X) h σ.ob w) xs cs) vY wh := by
 obtain ⟨vs, wh, wV, hf, wD⟩ := Ll r hr
 refine ⟨vs, wh, ?_, hf, wD⟩
 unfold results
 rw [Array.mapM_eq_mapM_toList]
 change ((((fn.results.toList.mapM (m := Sem) fun | .tmp t => pure (a.tmps.getD t undef) | .cell u t => do loadVar t (<- asAddr (a.tmps.getD u undef))) >>= fun l => pure l.toArray) >>= fun (vs : Array Value) => pure (if h : vs.size = 1 then vs[0] else .tuple vs))).run P w = _
 simp only [Sem.run_bind, wV, Result.andThen_ok, Sem.run_pure]
 congr 1
 match vs with
 | [] => rfl
 | [v] => rfl
 | v :: v' :: vs => simp [kT]
theorem q7 (r : Rel T0 B σ a w X h) {T : CS} (hT : ∀ b k, Wn T0 X h σ b k -> T b k) : ∀ {vY : List (List At)} {wh : List (List Value)} {res : List (List D)}, zo σ vY = some res -> Zg (fun xs cs => Zg (Zm (Tof T0 X) h σ.ob w) xs cs) vY wh ->
  Zg (fun cs row => Zg (Km false T w) cs row) wh res
 | [], wh, res, hr, wD => by cases wD; simp [zo] at hr; subst hr; exact .nil
 | xs :: vY, wh, res, hr, wD => by
  cases wD with
  | cons h1 wD =>
   simp only [zo] at hr
   split at hr
   ·rename_i row rs wi um
    cases hr
    refine .cons ?_ (q7 r hT um wD)
    have := r.rowOf false wi h1 (fun hh => by cases hh)
    refine this.imp fun v d hd => ?_
    simp only [Km, Bool.false_eq_true, if_false] at hd ⊢
    exact Rd.mono (fun b k v hb hc => ⟨hc, hT b k hb⟩) hd
   ·cases hr
theorem SD : ∀ {xs : List At} {ds : List D}, ownRow σ xs = some ds -> Zg (fun x d => zQ σ x = some d) xs ds
 | [], ds, hr => by simp [ownRow] at hr; subst hr; exact .nil
 | x :: xs, ds, hr => by
  simp only [ownRow] at hr
  split at hr
  ·rename_i d rJ h1 h2; cases hr; exact .cons h1 (SD h2)
  ·cases hr
theorem U5 : ∀ {vY : List (List At)} {res : List (List D)}, qB σ vY = some res -> Zg (fun xs row => Zg (fun x d => zQ σ x = some d) xs row) vY res
 | [], res, hr => by simp [qB] at hr; subst hr; exact .nil
 | xs :: vY, res, hr => by
  simp only [qB] at hr
  split at hr
  ·rename_i d rJ h1 h2; cases hr; exact .cons (SD h1) (U5 h2)
  ·cases hr
theorem jZ (r : Rel T0 B σ a w X h) {x : At} {d : D} {v : Value} (hx : zQ σ x = some d) (hv : Zm (Tof T0 X) h σ.ob w x v) : QG (Tof T0 X) w v d /\ (∀ b, d.scalar = false -> blk v = some b -> ∃ t j lo len, x = .sref t j lo len /\ σ.ob t j ≠ .none /\ (h t j).u b) := by
 cases x with
 | d x =>
  cases x with
  | sl s rows => simp [zQ] at hx
  | int k n => simp [zQ] at hx; subst hx; exact ⟨hv, fun b hb => by cases hb⟩
  | bool b => simp [zQ] at hx; subst hx; exact ⟨hv, fun b hb => by cases hb⟩
  | str s => simp [zQ] at hx; subst hx; exact ⟨hv, fun b hb => by cases hb⟩
  | unk => simp [zQ] at hx; subst hx; exact ⟨hv, fun b hb => by cases hb⟩
 | nil s =>
  simp [zQ] at hx; subst hx
  cases hv
  exact ⟨⟨0, [], World.ownsRow_nil w 0 0 s, (by intro q hq; cases hq), .nil⟩, fun b _ hb => by cases hb⟩
 | sref t j lo len =>
  simp only [zQ] at hx
  split at hx
  ·rename_i size rows ho
   split at hx
   ·rename_i hc
    obtain ⟨rfl, rfl⟩ := hc
    cases hx
    obtain ⟨_, vm, _⟩ := hv.2.1 _ size rows ho
    have he := vm rfl rfl
    have h0 := r.obj t j
    have vS := r.ub t j
    rw [ho] at h0 vS
    refine ⟨by rw [he]; exact h0, fun b _ hb => ⟨t, j, 0, rows.length, rfl, by rw [ho]; simp, vS b (by simp) (by rw [<- he]; exact hb)⟩⟩
   ·cases hx
  ·cases hx
 | any => simp [zQ] at hx
 | ptr => simp [zQ] at hx
 | bptr => simp [zQ] at hx
 | fn => simp [zQ] at hx
 | rptr => simp [zQ] at hx
 | tref => simp [zQ] at hx
theorem Ot {f : FuncId} {fn : Func} {c : Code} (hf : P.funcs[f]? = some fn) (hb : fn.body = some c) (wa : qU P f = true) {own : Bool} {args res : List (List D)}
  (hw : AWP P c (NO P fn own res) (zg fn.ntmps args)) : QE P f own args res := by
 refine ⟨wa, fun T w wq hT wI => calls_of_wp hf hb ?_⟩
 refine wp_mono (hw T (fun b => b < w.heap.size) _ w (RF hT wI)) ?_
 rintro e a' w' ⟨σ', ⟨he, vY, v3, wG⟩, ⟨X, h, r⟩, wN⟩
 have v5 : Below w.heap.size w w' := ⟨wN.os, wN.tape, wN.output, wN.size, wN.block⟩
 obtain ⟨vs, wh, wV, wc, wD⟩ := yT r v3
 have goal : a'.defers = [] /\ ∃ v, (results fn a'.tmps).run P w' = .ok v w' /\ EU own T w res (.returned v) w' := by
  refine ⟨r.defers, _, wV, ?_⟩
  cases own with
  | false =>
   refine ⟨vs, wh, fun b => w.heap.size <= b /\ b < w'.heap.size, rfl, v5, fun b hb => hb, wc, ?_, fun hh => by cases hh⟩
   refine q7 r (fun b k hb => ?_) (by simpa using wG) wD
   rcases hb with hb | ⟨t, j, q, size, rows, ho, hb⟩
   ·rcases hb with hb | hb
    ·exact .inl hb
    ·have := r.hX b hb; exact .inr ⟨by omega, this.2⟩
   ·have := r.own t j b (by rw [ho]; simp) hb
    exact .inr ⟨by omega, this.2.2⟩
  | true =>
   simp only [if_true] at wG
   obtain ⟨wF, vF⟩ := wG
   have vH := U5 wF
   have tj : Zg (fun x d => zQ σ' x = some d) vY.flatten res.flatten := Kd vH
   have tk : Zg (Zm (Tof T X) h σ'.ob w') vY.flatten wh.flatten := Kd wD
   refine ⟨vs, wh, X, rfl, v5, (fun b hb => by have := r.hX b hb; exact ⟨by omega, this.2⟩), wc, ?_, fun _ => ⟨fun i cc d b hc hd vN hb => ?_, fun i j cc eR d d' b hc hd wu wP vN oR hb wM => ?_⟩⟩
   ·clear tj tk wc wV v3 wF vF he hw
    induction vH generalizing wh with
    | nil => cases wD; exact .nil
    | cons hr _ ih =>
     cases wD with
     | cons re wD =>
      refine .cons ?_ (ih _ wD)
      clear ih wD
      refine Zg.KD (by rw [<- re.length, hr.length]) (fun i v d hv hd => ?_)
      obtain ⟨x, hx, oA⟩ := hr.get' i d hd
      obtain ⟨v', uo, nb⟩ := re.get i x hx
      rw [hv] at uo; cases uo
      simp only [Km, if_true]
      exact (jZ r oA nb).1
   ·obtain ⟨x, hx, oA⟩ := tj.get' i d hd
    obtain ⟨v', uo, nb⟩ := tk.get i x hx
    rw [hc] at uo; cases uo
    obtain ⟨t, j, lo, len, _, wB, ud⟩ := (jZ r oA nb).2 b vN hb
    have := r.own t j b wB ud
    exact ⟨by omega, this.2.2, this.2.1⟩
   ·obtain ⟨x, hx, oA⟩ := tj.get' i d hd
    obtain ⟨v', uo, nb⟩ := tk.get i x hx
    rw [hc] at uo; cases uo
    obtain ⟨x2, nc, lO⟩ := tj.get' j d' wP
    obtain ⟨v2, vG, lP⟩ := tk.get j x2 nc
    rw [wu] at vG; cases vG
    obtain ⟨t, u, lo, len, rfl, wB, ud⟩ := (jZ r oA nb).2 b vN hb
    obtain ⟨t2, u2, hJ, nf, rfl, sa, lQ⟩ := (jZ r lO lP).2 b oR wM
    obtain ⟨rfl, rfl⟩ := r.inj t u t2 u2 b wB sa ud lQ
    exact TE _ i j t u lo len hJ nf vF hx nc
 rcases he with rfl | rfl
 ·exact goal
 ·exact goal
theorem PK {f : FuncId} {fn : Func} {c : Code} (hf : P.funcs[f]? = some fn) (hb : fn.body = some c) (wa : qU P f = true) {args res : List (List D)}
  (hw : AWP P c (IB P fn res) (zg fn.ntmps args)) : Yx P f args res := by
 refine ⟨wa, fun T w wq hT wI => calls_of_wp hf hb ?_⟩
 refine wp_mono (hw T (fun b => b < w.heap.size) _ w (RF hT wI)) ?_
 rintro e a' w' ⟨σ', ⟨he, vY, v3, uG, uU, vF⟩, ⟨X, h, r⟩, wN⟩
 have v5 : Below w.heap.size w w' := ⟨wN.os, wN.tape, wN.output, wN.size, wN.block⟩
 obtain ⟨vs, wh, wV, wc, wD⟩ := yT r v3
 have goal : a'.defers = [] /\ ∃ v, (results fn a'.tmps).run P w' = .ok v w' /\ Fa w res (.returned v) w' := by
  refine ⟨r.defers, _, wV, vs, wh, rfl, v5, wc, ?_, ?_⟩
  ·clear vF uU v3 wV wc hw
   induction wD generalizing res with
   | nil => simp [Qb] at uG; subst uG; exact .nil
   | cons h1 _ ih =>
    simp only [Qb] at uG
    split at uG
    ·rename_i row rs wi um
     cases uG
     exact .cons (by rw [<- h1.length]; exact (Ko wi).1) (ih um)
    ·cases uG
  ·refine (kA r (Kd wD) (KK uG).1 (KA uU) vF).mono (fun b hb => ?_)
   have := r.JN _ b hb
   exact ⟨by omega, this.2.2.1⟩
 rcases he with rfl | rfl
 ·exact goal
 ·exact goal
end
end Go.Vm
namespace Go.Vm
open Go.RowKit
theorem St.I5 (e : Ent) (σ : St) : St.get (e :: σ) 0 = e.1 := rfl
theorem St.GO (e : Ent) (σ : St) (n : Nat) : St.get (e :: σ) (n + 1) = St.get σ n := by simp [St.get]
theorem St.Gb (e : Ent) (σ : St) (j : Nat) : St.ob (e :: σ) 0 j = Zw e.2 j := rfl
theorem St.FA (e : Ent) (σ : St) (n j : Nat) : St.ob (e :: σ) (n + 1) j = St.ob σ n j := by simp [St.ob]
theorem Pd (o : Ob) (os : List Ob) : Zw (o :: os) 0 = o := rfl
theorem zz (o : Ob) (os : List Ob) (n : Nat) : Zw (o :: os) (n + 1) = Zw os n := by simp [Zw]
theorem Hy (n : Nat) : Zw [] n = .none := by simp [Zw]
def lkI (P : Program) (σ : St) (x : Operand) : Prop × Int :=
 match unc (look P σ 0 x) with
 | .one (.d (.int _ n)) => (gOf (look P σ 0 x) = true, n)
 | _ => (False, 0)
def lkK (P : Program) (σ : St) (x : Operand) : IntKind :=
 match unc (look P σ 0 x) with
 | .one (.d (.int k _)) => k
 | _ => .i64
theorem yX {P : Program} {σ : St} {x : Operand} (h : (lkI P σ x).1) : y8 P σ x (lkK P σ x) (lkI P σ x).2 := by
 unfold lkI at h ⊢
 unfold lkK
 unfold y8
 split at h
 ·rename_i k n heq
  rw [heq]; exact ⟨h, rfl⟩
 ·exact h.elim
def Jn (P : Program) (σ : St) (vk : Nat) : Option Operand -> Prop × Nat
 | none => (True, vk)
 | some x => ((lkI P σ x).1 /\ 0 <= (lkI P σ x).2, (lkI P σ x).2.toNat)
theorem qv {P : Program} {σ : St} {vk : Nat} {x : Option Operand} (h : (Jn P σ vk x).1) : bnd P σ vk x (Jn P σ vk x).2 := by
 cases x with
 | none => rfl
 | some x =>
  have h1 := yX h.1
  exact ⟨_, _, h1.1, h1.2, h.2, rfl⟩
def rowAt (rows : List (List D)) (i : Nat) : List D := rows.getD i []
def bAt (s : ByteArray) (i : Nat) : Nat := (s.data.toList.getD i 0).toNat
def kZ (P : Program) (σ : St) (T : TypeId) (x ix : Operand) : Prop × V :=
 match unc (look P σ 0 x) with
 | .one (.d (.sl size rows)) => ((gOf (look P σ 0 x) = true /\ (lkI P σ ix).1) /\ 0 <= (lkI P σ ix).2 /\ (YS P T = true /\ size = P.cellsOf (ZH P T) /\ 0 < size) /\ (lkI P σ ix).2 < (rows.length : Int), .one (.rptr (rowAt rows (lkI P σ ix).2.toNat) 0))
 | .one (.sref t j lo len) => ((gOf (look P σ 0 x) = true /\ (lkI P σ ix).1) /\ 0 <= (lkI P σ ix).2 /\ (YS P T = true /\ 0 < P.cellsOf (ZH P T) /\ (match σ.ob t j with | .arr _ size _ => size = P.cellsOf (ZH P T) | _ => False)) /\ (lkI P σ ix).2 < (len : Int), .one (.ptr t j (lo + (lkI P σ ix).2.toNat) 0))
 | .one (.tref t j m c none) => ((gOf (look P σ 0 x) = true /\ (lkI P σ ix).1) /\ 0 <= (lkI P σ ix).2 /\ (YS P T = true /\ 0 < P.cellsOf (ZH P T)) /\ (match σ.ob t j with | .arr true _ rows => m < rows.length /\ (match (rowAt rows m)[c]? with | some (.sl n s) => n = P.cellsOf (ZH P T) /\ (lkI P σ ix).2 < (s.length : Int) | _ => False) | _ => False), .one (.tref t j m c (some ((lkI P σ ix).2.toNat * P.cellsOf (ZH P T)))))
 | .one (.bptr t c) => ((gOf (look P σ 0 x) = true /\ (lkI P σ ix).1) /\ 0 <= (lkI P σ ix).2 /\ (match σ.ob t 0 with | .box _ => True | _ => False) /\ (match T8 P T with | some n => 1 < n /\ (lkI P σ ix).2 < (n : Int) | none => False), .one (.bptr t (c + (lkI P σ ix).2.toNat * P.cellsOf (ZH P T))))
 | _ => (False, .any)
def Mi (P : Program) (σ : St) (T : TypeId) (x : Operand) : Prop × V :=
 match unc (look P σ 0 x) with
 | .one (.bptr t c) => (match σ.ob t 0 with | .box cells => (gOf (look P σ 0 x) = true /\ Kg P T = true /\ c + P.cellsOf T <= cells.length, ldV P T (cut cells c (P.cellsOf T))) | _ => (False, .any))
 | .one (.ptr t j i c) => (match σ.ob t j with | .arr q size rows => ((gOf (look P σ 0 x) = true /\ Kg P T = true /\ c + P.cellsOf T <= size) /\ i < rows.length, ldV P T (jK q t j i c (cut (rowAt rows i) c (P.cellsOf T)))) | _ => (False, .any))
 | .one (.rptr r c) => (gOf (look P σ 0 x) = true /\ Kg P T = true /\ c + P.cellsOf T <= r.length, ldV P T ((cut r c (P.cellsOf T)).map .d))
 | .one (.tref t j i c (some k)) => (match σ.ob t j with
  | .arr true _ rows => (match (rowAt rows i)[c]? with
   | some (.sl 1 s) => ((gOf (look P σ 0 x) = true /\ Kg P T = true) /\ i < rows.length /\ P.cellsOf T = 1 /\ k < s.length /\ (rowAt s k).all D.scalar = true, ldV P T ((rowAt s k).map .d))
   | _ => (False, .any))
  | _ => (False, .any))
 | _ => (False, .any)
def kY (P : Program) (σ : St) (T : TypeId) (x : Operand) (f : Nat) : Prop × V :=
 match unc (look P σ 0 x) with
 | .one (.bptr t c) => (gOf (look P σ 0 x) = true /\ zd P T f = true /\ (match σ.ob t 0 with | .box _ => True | _ => False), .one (.bptr t (c + XS P T f)))
 | .one (.ptr t j i c) => (gOf (look P σ 0 x) = true /\ zd P T f = true /\ (match σ.ob t j with | .arr _ _ _ => True | _ => False), .one (.ptr t j i (c + XS P T f)))
 | .one (.rptr r c) => (gOf (look P σ 0 x) = true /\ zd P T f = true, .one (.rptr r (c + XS P T f)))
 | .one (.tref t j i c (some k)) => (gOf (look P σ 0 x) = true /\ zd P T f = true /\ (match σ.ob t j with | .arr true _ _ => True | _ => False), .one (.tref t j i c (some (k + XS P T f))))
 | _ => (False, .any)
def Pz (P : Program) (op : BinOp) (T : TypeId) (x y : V) : Prop × V :=
 match op, x, y with
 | .eql, .one (.d (.int k m)), .one (.d (.int k' n)) => (k' = k, .one (.d (.bool (m == n))))
 | .neq, .one (.d (.int k m)), .one (.d (.int k' n)) => (k' = k, .one (.d (.bool (m != n))))
 | .lss, .one (.d (.int k m)), .one (.d (.int k' n)) => (k' = k, .one (.d (.bool (decide (m < n)))))
 | .leq, .one (.d (.int k m)), .one (.d (.int k' n)) => (k' = k, .one (.d (.bool (decide (m <= n)))))
 | .gtr, .one (.d (.int k m)), .one (.d (.int k' n)) => (k' = k, .one (.d (.bool (decide (m > n)))))
 | .geq, .one (.d (.int k m)), .one (.d (.int k' n)) => (k' = k, .one (.d (.bool (decide (m >= n)))))
 | .add, .one (.d (.int k m)), .one (.d (.int k' n)) => (k' = k, .one (.d (.int k (k.wrap (m + n)))))
 | .sub, .one (.d (.int k m)), .one (.d (.int k' n)) => (k' = k, .one (.d (.int k (k.wrap (m - n)))))
 | .mul, .one (.d (.int k m)), .one (.d (.int k' n)) => (k' = k, .one (.d (.int k (k.wrap (m * n)))))
 | .quo, .one (.d (.int k m)), .one (.d (.int k' n)) => (k' = k /\ n ≠ 0, .one (.d (.int k (k.wrap (m.tdiv n)))))
 | .rem, .one (.d (.int k m)), .one (.d (.int k' n)) => (k' = k /\ n ≠ 0, .one (.d (.int k (m.tmod n))))
 | .and, .one (.d (.int k m)), .one (.d (.int k' n)) => (k' = k, .one (.d (.int k (PS k m n))))
 | .or, .one (.d (.int k m)), .one (.d (.int k' n)) => (k' = k, .one (.d (.int k (iOr k m n))))
 | .xor, .one (.d (.int k m)), .one (.d (.int k' n)) => (k' = k, .one (.d (.int k (H6 k m n))))
 | .shl, .one (.d (.int k m)), .one (.d (.int _ n)) => (0 <= n, .one (.d (.int k (k.wrap (m * 2 ^ (min n.toNat k.bits))))))
 | .shr, .one (.d (.int k m)), .one (.d (.int _ n)) => (0 <= n, .one (.d (.int k (m.fdiv (2 ^ (min n.toNat k.bits))))))
 | .add, .one (.d (.str m)), .one (.d (.str n)) => (((m.size + n.size : Nat) : Int) <= 9223372036854775807, .one (.d (.str (m ++ n))))
 | .eql, .one (.d (.str m)), .one (.d (.str n)) => (True, .one (.d (.bool (decide (m = n)))))
 | .neq, .one (.d (.str m)), .one (.d (.str n)) => (True, .one (.d (.bool (!decide (m = n)))))
 | .eql, .one (.d (.bool m)), .one (.d (.bool n)) => (Uv P T = true, .one (.d (.bool (m == n))))
 | .neq, .one (.d (.bool m)), .one (.d (.bool n)) => (Uv P T = true, .one (.d (.bool (!(m == n)))))
 | .eql, .agg xs, .agg ys => (WB P T = true /\ (XK P (JC P T) xs ys).isSome = true, .one (.d (.bool ((XK P (JC P T) xs ys).getD false))))
 | .neq, .agg xs, .agg ys => (WB P T = true /\ (XK P (JC P T) xs ys).isSome = true, .one (.d (.bool (!(XK P (JC P T) xs ys).getD false))))
 | _, _, _ => (False, .any)
def jF (P : Program) (σ : St) (T : TypeId) : List (Nat × Operand) -> List At -> Prop × List At
 | [], r => (True, r)
 | (i, x) :: ps, r => ((bOk P T i = true /\ gOf (look P σ (bTy P T i) x) = true /\ (unc (look P σ (bTy P T i) x)).flat = true /\
   (unc (look P σ (bTy P T i) x)).cells.length = P.cellsOf (bTy P T i) /\ zc P T i + P.cellsOf (bTy P T i) <= r.length) /\ (jF P σ T ps (place r (zc P T i) (unc (look P σ (bTy P T i) x)).cells)).1,
   (jF P σ T ps (place r (zc P T i) (unc (look P σ (bTy P T i) x)).cells)).2)
theorem RL {P : Program} {σ : St} {T : TypeId} : ∀ {ps : List (Nat × Operand)} {r : List At}, (jF P σ T ps r).1 -> qS P σ T ps r (jF P σ T ps r).2
 | [], _, _ => rfl
 | (_, _) :: _, _, h => ⟨h.1.1, h.1.2.1, h.1.2.2.1, h.1.2.2.2.1, h.1.2.2.2.2, RL h.2⟩
def isB : V -> Bool
 | .one (.d (.bool _)) => true
 | _ => false
def bOf : V -> Bool
 | .one (.d (.bool b)) => b
 | _ => false
theorem I8 : ∀ {v : V}, isB v = true -> v = .one (.d (.bool (bOf v)))
 | .one (.d (.bool _)), _ => rfl
def evV (P : Program) (σ : St) (op : Op) (ty : TypeId) : Prop × V :=
 match op with
 | .move x => (True, look P σ ty x)
 | .assign x => (True, look P σ ty x)
 | .pick c a b =>
  (match unc (look P σ ty c) with
  | .one (.d (.bool bc)) => ((gOf (look P σ ty c) = true /\ (bc = true -> isB (unc (look P σ ty a)) = true) /\ (bc = false -> isB (unc (look P σ ty b)) = true)) /\ (bc = true -> gOf (look P σ ty a) = true) /\ (bc = false -> gOf (look P σ ty b) = true), .one (.d (.bool (cond bc (bOf (unc (look P σ ty a))) (bOf (unc (look P σ ty b)))))))
  | _ => (False, .any))
 | .load T x => Mi P σ T x
 | .fieldAddr T x f => kY P σ T x f
 | .nilCheck x => (match unc (look P σ 0 x) with
  | .one (.bptr t c) => (gOf (look P σ 0 x) = true /\ (match σ.ob t 0 with | .box _ => True | _ => False), .one (.bptr t c))
  | _ => (False, .any))
 | .indexAddr T x ix => kZ P σ T x ix
 | .index T x ix =>
  (match unc (look P σ 0 x) with
  | .one (.d (.str s)) => ((gOf (look P σ 0 x) = true /\ (lkI P σ ix).1) /\ 0 <= (lkI P σ ix).2 /\ jT P T = true /\ (lkI P σ ix).2 < (s.size : Int), .one (.d (.int .u8 (bAt s (lkI P σ ix).2.toNat))))
  | .agg xs => ((gOf (look P σ 0 x) = true /\ (lkI P σ ix).1) /\ 0 <= (lkI P σ ix).2 /\ (match T8 P T with | some n => (lkI P σ ix).2 < (n : Int) | none => False) /\ Kg P (ZH P T) = true /\ (lkI P σ ix).2.toNat * P.cellsOf (ZH P T) + P.cellsOf (ZH P T) <= xs.length,
    ldV P (ZH P T) (cut xs ((lkI P σ ix).2.toNat * P.cellsOf (ZH P T)) (P.cellsOf (ZH P T))))
  | _ => (False, .any))
 | .slice T x lo hi none =>
  (match unc (look P σ 0 x) with
  | .one (.d (.str s)) => ((gOf (look P σ 0 x) = true /\ jT P T = true /\ (Jn P σ 0 lo).1 /\ (Jn P σ s.size hi).1) /\ (Jn P σ 0 lo).2 <= (Jn P σ s.size hi).2 /\ (Jn P σ s.size hi).2 <= s.size, .one (.d (.str (s.extract (Jn P σ 0 lo).2 (Jn P σ s.size hi).2))))
  | .one (.d (.sl size rows)) => ((gOf (look P σ 0 x) = true /\ YS P T = true /\ size = P.cellsOf (ZH P T) /\ (Jn P σ 0 lo).1 /\ (Jn P σ rows.length hi).1) /\ (Jn P σ 0 lo).2 <= (Jn P σ rows.length hi).2 /\ (Jn P σ rows.length hi).2 <= rows.length,
    .one (.d (.sl size (cut rows (Jn P σ 0 lo).2 ((Jn P σ rows.length hi).2 - (Jn P σ 0 lo).2)))))
  | .one (.sref t j o len) => ((gOf (look P σ 0 x) = true /\ YS P T = true /\ (match σ.ob t j with | .arr _ size _ => size = P.cellsOf (ZH P T) | _ => False) /\ (Jn P σ 0 lo).1 /\ (Jn P σ len hi).1) /\ (Jn P σ 0 lo).2 <= (Jn P σ len hi).2 /\ (Jn P σ len hi).2 <= len,
    .one (.sref t j (o + (Jn P σ 0 lo).2) ((Jn P σ len hi).2 - (Jn P σ 0 lo).2)))
  | _ => (False, .any))
 | .binOp op T x y _ => ((gOf (look P σ T x) = true /\ gOf (look P σ T y) = true) /\ (Pz P op T (unc (look P σ T x)) (unc (look P σ T y))).1, (Pz P op T (unc (look P σ T x)) (unc (look P σ T y))).2)
 | .unOp .not _ x => (match unc (look P σ 0 x) with | .one (.d (.bool b)) => (gOf (look P σ 0 x) = true, .one (.d (.bool (!b)))) | _ => (False, .any))
 | .unOp .neg _ x => (match unc (look P σ 0 x) with | .one (.d (.int k n)) => (gOf (look P σ 0 x) = true, .one (.d (.int k (k.wrap (-n))))) | _ => (False, .any))
 | .convert S T x => (match unc (look P σ 0 x), My P T with | .one (.d (.int _ n)), some k => (gOf (look P σ 0 x) = true /\ (P.underlying S).isSome = true, .one (.d (.int k (k.wrap n)))) | _, _ => (False, .any))
 | .extract x i => (match unc (look P σ 0 x) with | .tup xs => (gOf (look P σ 0 x) = true /\ i < xs.length /\ (xs.getD i .any).flat = true, xs.getD i .any) | _ => (False, .any))
 | .field T x f =>
  (match unc (look P σ 0 x) with
  | .agg xs => (gOf (look P σ 0 x) = true /\ zd P T f = true /\ Kg P (Kk P T f) = true /\ XS P T f + P.cellsOf (Kk P T f) <= xs.length, ldV P (Kk P T f) (cut xs (XS P T f) (P.cellsOf (Kk P T f))))
  | _ => (False, .any))
 | .build T parts => (match yM P 12 T with | some z => ((XD P T = true /\ qc P T = true) /\ (jF P σ T parts.toList z).1, .agg (jF P σ T parts.toList z).2) | none => (False, .any))
 | .call ⟨.builtin .len, ⟨[x]⟩, ⟨[t]⟩⟩ =>
  (match unc (look P σ t x) with
  | .one (.d (.str s)) => (gOf (look P σ t x) = true /\ jT P t = true, .one (.d (.int .i64 s.size)))
  | .one (.d (.sl _ rows)) => (gOf (look P σ t x) = true /\ YS P t = true, .one (.d (.int .i64 rows.length)))
  | .one (.nil _) => (gOf (look P σ t x) = true /\ YS P t = true, .one (.d (.int .i64 0)))
  | .one (.sref u j _ len) => (gOf (look P σ t x) = true /\ YS P t = true /\ (match σ.ob u j with | .arr _ _ _ => True | .lit _ _ => True | _ => False), .one (.d (.int .i64 len)))
  | .one (.tref u j i c none) => (match σ.ob u j with
   | .arr true _ rows => (match (rowAt rows i)[c]? with
    | some (.sl _ s) => ((gOf (look P σ t x) = true /\ YS P t = true) /\ i < rows.length, .one (.d (.int .i64 s.length)))
    | _ => (False, .any))
   | _ => (False, .any))
  | _ => (False, .any))
 | .call ⟨.builtin .max, ⟨[x, y]⟩, _⟩ => ((lkI P σ x).1 /\ (lkI P σ y).1 /\ lkK P σ y = lkK P σ x, .one (.d (.int (lkK P σ x) (if (lkI P σ y).2 > (lkI P σ x).2 then (lkI P σ y).2 else (lkI P σ x).2))))
 | .call ⟨.builtin .min, ⟨[x, y]⟩, _⟩ => ((lkI P σ x).1 /\ (lkI P σ y).1 /\ lkK P σ y = lkK P σ x, .one (.d (.int (lkK P σ x) (if (lkI P σ y).2 < (lkI P σ x).2 then (lkI P σ y).2 else (lkI P σ x).2))))
 | _ => (False, .any)
theorem MT {o : Ob} (h : (match o with | .box _ => True | _ => False)) : ∃ cells, o = .box cells := by
 cases o with
 | box c => exact ⟨c, rfl⟩
 | none => exact h.elim
 | arr q s r => exact h.elim
 | lit s r => exact h.elim
theorem Fj {o : Ob} (h : (match o with | .arr _ _ _ => True | _ => False)) : ∃ q size rows, o = .arr q size rows := by
 cases o with
 | arr q s r => exact ⟨q, s, r, rfl⟩
 | none => exact h.elim
 | box c => exact h.elim
 | lit s r => exact h.elim
theorem Fy {o : Ob} (h : (match o with | .arr _ _ _ => True | .lit _ _ => True | _ => False)) : (∃ q size rows, o = .arr q size rows) \/ ∃ size rows, o = .lit size rows := by
 cases o with
 | arr q s r => exact .inl ⟨q, s, r, rfl⟩
 | none => exact h.elim
 | box c => exact h.elim
 | lit s r => exact .inr ⟨s, r, rfl⟩
theorem Ld {o : Ob} {n : Nat} (h : (match o with | .arr _ size _ => size = n | _ => False)) : ∃ q rows, o = .arr q n rows := by
 cases o with
 | arr q s r => simp at h; subst h; exact ⟨q, r, rfl⟩
 | none => exact h.elim
 | box c => exact h.elim
 | lit s r => exact h.elim
theorem GQ {P : Program} {op : BinOp} {T : TypeId} {x y : V} (hc : (Pz P op T x y).1) : MD P op T x y (Pz P op T x y).2 := by
 unfold Pz at hc ⊢
 split at hc
 all_goals first
  | exact hc.elim
  | exact ⟨.inr hc, rfl⟩
  | exact ⟨.inr hc.1, hc.2, rfl⟩
  | exact ⟨.inl (.inl rfl), hc, rfl⟩
  | exact ⟨.inl (.inr rfl), hc, rfl⟩
  | exact ⟨hc, rfl⟩
  | rfl
  | (obtain ⟨q, hq⟩ := Option.isSome_iff_exists.1 hc.2; exact ⟨hc.1, q, hq, .inl ⟨rfl, by rw [hq]; rfl⟩⟩)
  | (obtain ⟨q, hq⟩ := Option.isSome_iff_exists.1 hc.2; exact ⟨hc.1, q, hq, .inr ⟨rfl, by rw [hq]; rfl⟩⟩)
theorem Mq {P : Program} {σ : St} {op : Op} {ty : TypeId} (hc : (evV P σ op ty).1) : Zv P σ op ty (evV P σ op ty).2 := by
 unfold evV at hc ⊢
 split at hc
 ·rfl
 ·rfl
 ·rename_i c a b
  split at hc
  ·rename_i bc h1; exact ⟨bc, _, _, hc.1.1, h1, (fun hh => I8 (hc.1.2.1 hh)), (fun hh => I8 (hc.1.2.2 hh)), hc.2.1, hc.2.2, (by first | rfl | trivial)⟩
  ·exact hc.elim
 ·rename_i T x
  unfold Mi at hc ⊢
  simp only [Zv]
  split at hc
  ·rename_i t c hx
   split at hc
   ·rename_i cells ho; simp only [hx, ho]; exact ⟨hc.1, hc.2.1, cells, rfl, hc.2.2, (by first | rfl | trivial)⟩
   ·exact hc.elim
  ·rename_i t j i c hx
   split at hc
   ·rename_i size rows ho; simp only [hx, ho]; exact ⟨hc.1.1, hc.1.2.1, _, size, rows, rfl, hc.2, hc.1.2.2, (by first | rfl | trivial)⟩
   ·exact hc.elim
  ·rename_i r c hx; simp only [hx]; exact ⟨hc.1, hc.2.1, hc.2.2, (by first | rfl | trivial)⟩
  ·rename_i t j i c k hx
   split at hc
   ·rename_i size rows ho
    split at hc
    ·rename_i s wG; simp only [hx, ho, wG]; exact ⟨hc.1.1, hc.1.2, size, rows, s, rfl, hc.2.1, wG, hc.2.2.1, hc.2.2.2.1, hc.2.2.2.2, (by first | rfl | trivial)⟩
    ·exact hc.elim
   ·exact hc.elim
  ·exact hc.elim
 ·rename_i T x f
  unfold kY at hc ⊢
  simp only [Zv]
  split at hc
  ·rename_i t c hx; simp only [hx]; exact ⟨hc.1, hc.2.1, MT hc.2.2, (by first | rfl | trivial)⟩
  ·rename_i t j i c hx; simp only [hx]; exact ⟨hc.1, hc.2.1, Fj hc.2.2, (by first | rfl | trivial)⟩
  ·rename_i r c hx; simp only [hx]; exact ⟨hc.1, hc.2, (by first | rfl | trivial)⟩
  ·rename_i t j i c k hx
   have h3 := hc.2.2
   split at h3
   ·rename_i size rows ho; simp only [hx]; exact ⟨hc.1, hc.2.1, ⟨size, rows, ho⟩, (by first | rfl | trivial)⟩
   ·exact h3.elim
  ·exact hc.elim
 ·rename_i x
  simp only [Zv]
  split at hc
  ·rename_i t c hx; simp only [hx]; exact ⟨hc.1, MT hc.2, (by first | rfl | trivial)⟩
  ·exact hc.elim
 ·rename_i T x ix
  unfold kZ at hc ⊢
  simp only [Zv]
  split at hc
  ·rename_i size rows hx
   simp only [hx]
   exact ⟨_, _, yX hc.1.2, hc.2.1, hc.1.1, hc.2.2.1.1, hc.2.2.1.2.1, hc.2.2.1.2.2, hc.2.2.2, (by first | rfl | trivial)⟩
  ·rename_i t j lo len hx
   simp only [hx]
   exact ⟨_, _, yX hc.1.2, hc.2.1, hc.1.1, hc.2.2.1.1, hc.2.2.1.2.1, Ld hc.2.2.1.2.2, hc.2.2.2, (by first | rfl | trivial)⟩
  ·rename_i t j m c hx
   have h3 := hc.2.2.2
   split at h3
   ·rename_i size rows ho
    obtain ⟨hm, h4⟩ := h3
    split at h4
    ·rename_i n s hr
     obtain ⟨rfl, wO⟩ := h4
     simp only [hx]
     exact ⟨_, _, yX hc.1.2, hc.2.1, hc.1.1, hc.2.2.1.1, hc.2.2.1.2, ⟨size, rows, s, ho, hm, hr, wO⟩, (by first | rfl | trivial)⟩
    ·exact h4.elim
   ·exact h3.elim
  ·rename_i t c hx
   simp only [hx]
   refine ⟨_, _, yX hc.1.2, hc.2.1, hc.1.1, MT hc.2.2.1, ?_, (by first | rfl | trivial)⟩
   have := hc.2.2.2
   split at this
   ·rename_i n hn; exact ⟨n, hn, this.1, this.2⟩
   ·exact this.elim
  ·exact hc.elim
 ·rename_i T x ix
  simp only [Zv]
  split at hc
  ·rename_i s hx; simp only [hx]; exact ⟨_, _, yX hc.1.2, hc.2.1, hc.1.1, hc.2.2.1, hc.2.2.2, (by first | rfl | trivial)⟩
  ·rename_i xs hx
   simp only [hx]
   refine ⟨_, _, yX hc.1.2, hc.2.1, hc.1.1, ?_, hc.2.2.2.1, hc.2.2.2.2, (by first | rfl | trivial)⟩
   have := hc.2.2.1
   split at this
   ·rename_i n hn; exact ⟨n, hn, this⟩
   ·exact this.elim
  ·exact hc.elim
 ·rename_i T x lo hi
  simp only [Zv]
  split at hc
  ·rename_i s hx; simp only [hx]; exact ⟨hc.1.1, hc.1.2.1, _, _, qv hc.1.2.2.1, qv hc.1.2.2.2, hc.2.1, hc.2.2, (by first | rfl | trivial)⟩
  ·rename_i size rows hx; simp only [hx]; exact ⟨hc.1.1, hc.1.2.1, hc.1.2.2.1, _, _, qv hc.1.2.2.2.1, qv hc.1.2.2.2.2, hc.2.1, hc.2.2, (by first | rfl | trivial)⟩
  ·rename_i t j o len hx; simp only [hx]; exact ⟨hc.1.1, hc.1.2.1, Ld hc.1.2.2.1, _, _, qv hc.1.2.2.2.1, qv hc.1.2.2.2.2, hc.2.1, hc.2.2, (by first | rfl | trivial)⟩
  ·exact hc.elim
 ·exact ⟨hc.1.1, hc.1.2, GQ hc.2⟩
 ·simp only [Zv]
  split at hc
  ·rename_i b hx; simp only [hx]; exact ⟨hc, (by first | rfl | trivial)⟩
  ·exact hc.elim
 ·simp only [Zv]
  split at hc
  ·rename_i k n hx; simp only [hx]; exact ⟨hc, (by first | rfl | trivial)⟩
  ·exact hc.elim
 ·rename_i S T x
  simp only [Zv]
  split at hc
  ·rename_i k0 n k hx hk; simp only [hx, hk]; exact ⟨hc.1, hc.2, k, rfl, (by first | rfl | trivial)⟩
  ·exact hc.elim
 ·rename_i x i
  simp only [Zv]
  split at hc
  ·rename_i xs hx
   simp only [hx]
   exact ⟨hc.1, by simp [List.getD_eq_getElem?_getD, List.getElem?_eq_getElem hc.2.1], hc.2.2⟩
  ·exact hc.elim
 ·simp only [Zv]
  split at hc
  ·rename_i xs hx; simp only [hx]; exact ⟨hc.1, hc.2.1, hc.2.2.1, hc.2.2.2, (by first | rfl | trivial)⟩
  ·exact hc.elim
 ·simp only [Zv]
  split at hc
  ·rename_i z hz; exact ⟨hc.1.1, hc.1.2, z, _, hz, RL hc.2, (by first | rfl | trivial)⟩
  ·exact hc.elim
 ·simp only [Zv]
  split at hc
  ·rename_i s hx; simp only [hx]; exact ⟨hc.1, hc.2, (by first | rfl | trivial)⟩
  ·rename_i s rows hx; simp only [hx]; exact ⟨hc.1, hc.2, (by first | rfl | trivial)⟩
  ·rename_i s hx; simp only [hx]; exact ⟨hc.1, hc.2, (by first | rfl | trivial)⟩
  ·rename_i u j lo len hx; simp only [hx]; exact ⟨hc.1, hc.2.1, Fy hc.2.2, (by first | rfl | trivial)⟩
  ·rename_i u j i c hx
   split at hc
   ·rename_i rows ho
    split at hc
    ·rename_i s wG; simp only [hx, ho, wG]; exact ⟨hc.1.1, hc.1.2, _, rows, _, s, rfl, hc.2, wG, (by first | rfl | trivial)⟩
    ·exact hc.elim
   ·exact hc.elim
  ·exact hc.elim
 ·simp only [Zv]
  have hy := yX hc.2.1
  rw [hc.2.2] at hy
  exact ⟨_, _, _, yX hc.1, hy, (by first | rfl | trivial)⟩
 ·simp only [Zv]
  have hy := yX hc.2.1
  rw [hc.2.2] at hy
  exact ⟨_, _, _, yX hc.1, hy, (by first | rfl | trivial)⟩
 ·exact hc.elim
end Go.Vm
namespace Go.Vm
open Go.RowKit
def jV (P : Program) (σ : St) (T : TypeId) (size : Nat) : List (Nat × Operand) -> Nat -> Prop × List (List D)
 | [], _ => (True, [])
 | (i, x) :: ps, k => ((i = k /\ gOf (look P σ T x) = true /\ (unc (look P σ T x)).flat = true /\ Q0 (unc (look P σ T x)).cells = true /\ (rowOf σ (unc (look P σ T x)).cells).isSome = true /\ ((rowOf σ (unc (look P σ T x)).cells).getD []).length = size) /\ (jV P σ T size ps (k + 1)).1,
   (rowOf σ (unc (look P σ T x)).cells).getD [] :: (jV P σ T size ps (k + 1)).2)
theorem P0 {P : Program} {σ : St} {T : TypeId} {size : Nat} : ∀ {ps : List (Nat × Operand)} {k : Nat}, (jV P σ T size ps k).1 -> VH P σ T size ps k (jV P σ T size ps k).2
 | [], _, _ => rfl
 | (_, x) :: _, _, h => by
  obtain ⟨⟨h1, h2, h3, h4, h5, h6⟩, h7⟩ := h
  obtain ⟨r, hr⟩ := Option.isSome_iff_exists.1 h5
  refine ⟨h1, h2, h3, h4, r, _, hr, ?_, P0 h7, ?_⟩
  ·rw [hr] at h6; exact h6
  ·simp only [jV, hr, Option.getD_some]
def jm (σ : St) (x : V) (size : Nat) : Prop × List (List D) × St :=
 match x with
 | .one (.nil _) => (True, [], σ)
 | .one (.sref t j lo len) => (match σ.ob t j with | .arr false s wC => (s = size /\ lo = 0 /\ len = wC.length, wC, σ.ZT t j .none) | _ => (False, [], σ))
 | _ => (False, [], σ)
theorem Hb {σ : St} {x : V} {size : Nat} (h : (jm σ x size).1) : jS σ x size (jm σ x size).2.1 (jm σ x size).2.2 := by
 unfold jm at h ⊢
 split at h
 ·exact ⟨rfl, rfl⟩
 ·rename_i t j lo len
  split at h
  ·rename_i s wC ho
   obtain ⟨rfl, rfl, rfl⟩ := h
   exact ⟨wC, ho, rfl, Nat.le_refl _, (List.take_length).symm, rfl⟩
  ·exact h.elim
 ·exact h.elim
def Vs (σ : St) (x : V) (size : Nat) : Prop × List (List D) :=
 match x with
 | .one (.d (.sl s rows)) => (s = size, rows)
 | .one (.nil _) => (True, [])
 | .one (.sref t j lo len) => (match σ.ob t j with | .arr false s rows => (s = size /\ lo + len <= rows.length, cut rows lo len) | _ => (False, []))
 | _ => (False, [])
theorem HT {σ : St} {x : V} {size : Nat} (h : (Vs σ x size).1) : yI σ x size (Vs σ x size).2 := by
 unfold Vs at h ⊢
 split at h
 ·exact ⟨h, rfl⟩
 ·rfl
 ·rename_i t j lo len
  split at h
  ·rename_i s rows ho
   obtain ⟨rfl, hle⟩ := h
   exact ⟨rows, ho, hle, rfl⟩
  ·exact h.elim
 ·exact h.elim
def evS (P : Program) (σ : St) (o : Oper) (d : Nat) : Prop × St :=
 match o.op with
 | .alloc T => (match yM P 12 T with | some row => (σ.fresh d = true /\ XD P T = true, σ.new d (.one (.bptr d 0)) [.box row]) | none => (False, σ))
 | .box T x => (σ.fresh d = true /\ gOf (look P σ T x) = true /\ (unc (look P σ T x)).flat = true /\ Zs d (unc (look P σ T x)).cells = false, σ.new d (.one (.bptr d 0)) [.box (unc (look P σ T x)).cells])
 | .buildSlice T n parts => ((σ.fresh d = true /\ YS P T = true /\ XD P (ZH P T) = true /\ 0 < P.cellsOf (ZH P T) /\ parts.toList.length = n /\ n * P.cellsOf (ZH P T) <= 16777216) /\ (jV P σ (ZH P T) (P.cellsOf (ZH P T)) parts.toList 0).1,
   σ.new d (.one (.sref d 0 0 (jV P σ (ZH P T) (P.cellsOf (ZH P T)) parts.toList 0).2.length)) [.arr false (P.cellsOf (ZH P T)) (jV P σ (ZH P T) (P.cellsOf (ZH P T)) parts.toList 0).2])
 | .makeSlice T x y => (match yM P 12 (ZH P T) with
   | some z => (match zD z with
    | some zr => ((x = y /\ σ.fresh d = true /\ YS P T = true /\ XD P (ZH P T) = true /\ 0 < P.cellsOf (ZH P T) /\ (lkI P σ x).1) /\ 0 <= (lkI P σ x).2 /\ P.bytesOf (ZH P T) * (lkI P σ x).2.toNat <= 281474976710656 /\ (lkI P σ x).2 <= 9223372036854775807,
      σ.new d (.one (.sref d 0 0 (lkI P σ x).2.toNat)) [.arr false (P.cellsOf (ZH P T)) (List.replicate (lkI P σ x).2.toNat zr)])
    | none => (False, σ))
   | none => (False, σ))
 | .call ⟨.builtin .append, ⟨[x, y]⟩, ⟨[t, t']⟩⟩ =>
   (((t = t' /\ gOf (look P σ t x) = true /\ gOf (look P σ t y) = true /\ YS P t = true /\ XD P (ZH P t) = true /\ 0 < P.cellsOf (ZH P t)) /\ (jm σ (unc (look P σ t x)) (P.cellsOf (ZH P t))).1 /\ (Vs σ (unc (look P σ t y)) (P.cellsOf (ZH P t))).1 /\ (jm σ (unc (look P σ t x)) (P.cellsOf (ZH P t))).2.2.fresh d = true) /\
    ((jm σ (unc (look P σ t x)) (P.cellsOf (ZH P t))).2.1.length + (Vs σ (unc (look P σ t y)) (P.cellsOf (ZH P t))).2.length) * P.bytesOf (ZH P t) <= 140737488355328 /\
    (jm σ (unc (look P σ t x)) (P.cellsOf (ZH P t))).2.1.length + (Vs σ (unc (look P σ t y)) (P.cellsOf (ZH P t))).2.length <= 9223372036854775807,
   (jm σ (unc (look P σ t x)) (P.cellsOf (ZH P t))).2.2.new d (.one (.sref d 0 0 ((jm σ (unc (look P σ t x)) (P.cellsOf (ZH P t))).2.1.length + (Vs σ (unc (look P σ t y)) (P.cellsOf (ZH P t))).2.length)))
    [.arr false (P.cellsOf (ZH P t)) ((jm σ (unc (look P σ t x)) (P.cellsOf (ZH P t))).2.1 ++ (Vs σ (unc (look P σ t y)) (P.cellsOf (ZH P t))).2)])
 | op => ((evV P σ op o.type).1, σ.put d (evV P σ op o.type).2)
def Nr (P : Program) (σ : St) (T : TypeId) (x y : Operand) : Prop × St :=
 match unc (look P σ 0 x) with
 | .one (.bptr t c) => (match σ.ob t 0 with
  | .box cells => (Kg P T = true /\ gOf (look P σ 0 x) = true /\ gOf (look P σ T y) = true /\ (unc (look P σ T y)).flat = true /\ (unc (look P σ T y)).cells.length = P.cellsOf T /\ c + P.cellsOf T <= cells.length, σ.ZT t 0 (.box (place cells c (unc (look P σ T y)).cells)))
  | _ => (False, σ))
 | .one (.ptr t j i c) => (match σ.ob t j with
  | .arr q size rows => ((Kg P T = true /\ gOf (look P σ 0 x) = true /\ gOf (look P σ T y) = true /\ (unc (look P σ T y)).flat = true /\ (rowOf σ (unc (look P σ T y)).cells).isSome = true /\ Q0 (unc (look P σ T y)).cells = true /\ ((rowOf σ (unc (look P σ T y)).cells).getD []).length = P.cellsOf T /\ c + P.cellsOf T <= size) /\ i < rows.length /\ (q = true -> ((rowOf σ (unc (look P σ T y)).cells).getD []).all D.scalar = true /\ (cut (rowAt rows i) c (P.cellsOf T)).all D.scalar = true),
    σ.ZT t j (.arr q size (rows.set i (place (rowAt rows i) c ((rowOf σ (unc (look P σ T y)).cells).getD [])))))
  | _ => (False, σ))
 | _ => (False, σ)
theorem GD {P : Program} {σ : St} {o : Oper} {d : Nat} (sS : ∀ c, o.op = .call c -> ∀ f, c.callee ≠ .value (.func f)) (hc : (evS P σ o d).1) : Step P o d σ (evS P σ o d).2 := by
 unfold evS at hc ⊢
 split at hc
 ·rename_i T wA
  unfold Step
  rw [wA]
  split at hc
  ·rename_i row wi; simp only [wi]; exact ⟨hc.1, hc.2, row, rfl, rfl⟩
  ·exact hc.elim
 ·rename_i T x wA
  unfold Step; rw [wA]
  exact ⟨hc.1, hc.2.1, hc.2.2.1, hc.2.2.2, rfl⟩
 ·rename_i T n parts wA
  unfold Step; rw [wA]
  obtain ⟨⟨h1, h2, h3, h4, h5, h6⟩, h7⟩ := hc
  exact .inl ⟨h1, h2, h3, h4, h5, h6, .inl ⟨_, P0 h7, rfl⟩⟩
 ·rename_i T x y wA
  unfold Step; rw [wA]
  split at hc
  ·rename_i z hz
   split at hc
   ·rename_i zr uc
    obtain ⟨⟨h1, h2, h3, h4, h5, h6⟩, h7, h8, h9⟩ := hc
    have hl := yX h6
    simp only [hz]
    refine ⟨h1, h2, h3, h4, h5, false, z, zr, lkK P σ x, (lkI P σ x).2.toNat, (fun hh => by cases hh), rfl, uc, ?_, h8, by omega, rfl⟩
    rw [Int.toNat_of_nonneg h7]; exact hl
   ·exact hc.elim
  ·exact hc.elim
 ·rename_i x y t t' wA
  unfold Step; rw [wA]
  obtain ⟨⟨⟨rfl, h1, h2, h3, h4, h5⟩, h6, h7, h8⟩, h9, tg⟩ := hc
  exact ⟨x, y, t, rfl, rfl, h1, h2, h3, h4, h5, _, _, _, Hb h6, HT h7, h8, h9, tg, rfl⟩
 ·rename_i op h1 h2 h3 h4 h5
  have hv := Mq hc
  unfold Step
  split
  ·rename_i T wA; exact absurd wA (h1 T)
  ·rename_i T x wA; exact absurd wA (h2 T x)
  ·rename_i T n ps wA; exact absurd wA (h3 T n ps)
  ·rename_i T x y wA; exact absurd wA (h4 T x y)
  ·rename_i c wA
   split
   ·rename_i tF
    rw [wA] at hv
    simp only [Zv] at hv
    split at hv
    ·rename_i sT _ _; rw [tF] at sT; cases sT
    ·rename_i sT _; rw [tF] at sT; cases sT
    ·rename_i sT _; rw [tF] at sT; cases sT
    ·exact hv.elim
   ·rename_i f tF; exact absurd tF (sS c wA f)
   ·exact ⟨_, hv, rfl⟩
  ·exact .inl ⟨_, hv, rfl⟩
  ·exact ⟨_, hv, rfl⟩
theorem FI {P : Program} {σ : St} {T : TypeId} {x y : Operand} (hc : (Nr P σ T x y).1) : KQ P σ T x y (Nr P σ T x y).2 := by
 unfold Nr at hc ⊢
 unfold KQ
 split at hc
 ·rename_i t c hx
  split at hc
  ·rename_i cells ho
   obtain ⟨h1, h2, h3, h4, h5, h6⟩ := hc
   first | (rw [hx]; simp only [ho]) | simp only [ho]
   exact ⟨h1, h2, h3, h4, cells, rfl, h5, h6, rfl⟩
  ·exact hc.elim
 ·rename_i t j i c hx
  split at hc
  ·rename_i q size rows ho
   obtain ⟨⟨h1, h2, h3, h4, h5, h6, h7, h8⟩, h9, tg⟩ := hc
   obtain ⟨ds, s3⟩ := Option.isSome_iff_exists.1 h5
   first | (rw [hx]; simp only [ho]) | simp only [ho]
   refine ⟨h1, h2, h3, h4, q, size, rows, ds, rfl, h9, s3, h6, ?_, h8, fun hq => ?_, ?_⟩
   ·rw [s3] at h7; exact h7
   ·have := tg hq
    rw [s3] at this; exact this
   ·rw [s3]; rfl
  ·exact hc.elim
 ·exact hc.elim
def Mz : List At -> Bool
 | [] => false
 | .nil _ :: _ => true
 | _ :: xs => Mz xs
def Lq (P : Program) (T : TypeId) : Bool := match yM P 12 (ZH P T) with | some z => Mz z | none => false
def Ou : List At -> Bool
 | [] => true
 | .d (.sl _ _) :: _ => false
 | .d _ :: xs => Ou xs
 | _ => false
def F4 (P : Program) (σ : St) (T : TypeId) (x y : Operand) : Bool :=
 match unc (look P σ 0 x) with
 | .one (.ptr t j _ _) => (match σ.ob t j with | .arr true _ _ => !Ou (unc (look P σ T y)).cells | _ => false)
 | .one (.tref _ _ _ _ (some _)) => true
 | _ => false
def stops (P : Program) (bar : Oper -> Bool) (o : Oper) : Bool :=
 match o.op with
 | .call ⟨.value _, _, _⟩ => true
 | .call ⟨.builtin .append, _, ⟨t :: _⟩⟩ => Lq P t
 | .buildSlice T _ _ => Lq P T || EZ bar o
 | .makeSlice T _ _ => Lq P T
 | .makeFunc _ _ _ => true
 | .convert _ T _ => (My P T).isNone
 | .indexAddr _ _ _ => o.guard.isSome
 | .index _ _ _ => o.guard.isSome
 | .slice _ _ _ _ _ => o.guard.isSome
 | _ => false
def zk (P : Program) (ops : Array Oper) (bar : Oper -> Bool) (o : Oper) (rest : List Oper) (σ : St) (Q : St -> Prop) : Prop := ∃ σ', Qy P ops bar o σ σ' /\ OX P ops bar rest σ' Q
def Ev (P : Program) (ops : Array Oper) (bar : Oper -> Bool) : List Oper -> St -> (St -> Prop) -> Prop
 | [], σ, Q => Q σ
 | o :: rest, σ, Q =>
  if stops P bar o then zk P ops bar o rest σ Q else
  match o.guard with
  | none =>
   (match o.dst with
   | some d => (evS P σ o d).1 /\ Ev P ops bar rest (evS P σ o d).2 Q
   | none => (match o.op with | .store T x y => if F4 P σ T x y then zk P ops bar o rest σ Q else (Nr P σ T x y).1 /\ Ev P ops bar rest (Nr P σ T x y).2 Q | _ => False))
  | some (j, want) =>
   (match (ops[j]?).bind (·.dst), o.dst with
   | some dj, some d => (match zX want (σ.get dj) with
    | some g => (dj < σ.length /\ (g = true -> (evV P σ o.op o.type).1 /\ gOf (evV P σ o.op o.type).2 = true /\ (unc (evV P σ o.op o.type).2).flat = true)) /\ Ev P ops bar rest (σ.put d (.cnd g (unc (evV P σ o.op o.type).2))) Q
    | none => False)
   | _, _ => False)
theorem Xw {P : Program} {ops : Array Oper} {bar : Oper -> Bool} : ∀ {l : List Oper} {σ : St} {Q : St -> Prop}, Ev P ops bar l σ Q -> OX P ops bar l σ Q
 | [], _, _, h => h
 | o :: rest, σ, Q, h => by
  unfold Ev at h
  split at h
  ·exact h
  ·rename_i wb
   have sS : ∀ c, o.op = .call c -> ∀ f, c.callee ≠ .value (.func f) := by
    intro c wA f tF
    obtain ⟨cc, ca, ct⟩ := c
    simp only at tF; subst tF
    exact wb (by simp [stops, wA])
   split at h
   ·rename_i hg
    split at h
    ·rename_i d hd
     refine ⟨_, .inl ?_, Xw h.2⟩
     unfold YX
     simp only [hg, hd]
     exact GD sS h.1
    ·rename_i hd
     split at h
     ·rename_i T x y wA
      split at h
      ·exact h
      ·refine ⟨_, .inl ?_, Xw h.2⟩
       unfold YX
       simp only [hg, hd, wA]
       exact FI h.1
     ·exact h.elim
   ·rename_i j want hg
    split at h
    ·rename_i dj d uD hd
     split at h
     ·rename_i g uN
      refine ⟨_, .inl ?_, Xw h.2⟩
      unfold YX
      simp only [hg]
      refine ⟨dj, d, g, _, uD, h.1.1, hd, uN, fun rp => ?_, rfl⟩
      obtain ⟨h1, h2, h3⟩ := h.1.2 rp
      have base : ∃ v0, Zv P σ o.op o.type v0 /\ gOf v0 = true /\ unc (evV P σ o.op o.type).2 = unc v0 /\ (unc (evV P σ o.op o.type).2).flat = true := ⟨_, Mq h1, h2, rfl, h3⟩
      unfold Uk
      split
      ·rename_i c wA
       split
       ·rename_i f tF; exact absurd tF (sS c wA f)
       ·exact base
      ·exact base
     ·exact h.elim
    ·exact h.elim
theorem Fw {P : Program} {Q : Exit -> St -> Prop} {σ : St} {id : Nat} {l : List Oper} {bar : Oper -> Bool} (h : Ev P l.toArray bar l σ (Q .normal)) : AWP P (.region id l.toArray false) Q σ := LO (Xw h)
theorem Nm {P : Program} {ops : Array Oper} {bar : Oper -> Bool} {o : Oper} {rest : List Oper} {σ : St} {Q : St -> Prop} {c : Call} {f : FuncId} {d : Nat} {own : Bool} {rows res : List (List D)} (wA : o.op = .call c) (hc : c.callee = .value (.func f)) (hg : o.guard = none) (hd : o.dst = some d)
  (wI : XW P σ c.args.toList c.argTypes.toList rows) (hs : QE P f own rows res) (wb : Z4 P σ c.args.toList c.argTypes.toList = true \/ Jq own res) (h : Ev P ops bar rest (σ.put d (K8 res)) Q) : zk P ops bar o rest σ Q := by
 refine ⟨_, .inl ?_, Xw h⟩
 unfold YX; simp only [hg, hd]
 unfold Step
 rw [wA]
 simp only [hc]
 exact .inl ⟨own, res, ⟨rows, wI, hs, wb⟩, rfl⟩
theorem Md {P : Program} {ops : Array Oper} {bar : Oper -> Bool} {o : Oper} {rest : List Oper} {σ : St} {Q : St -> Prop} {c : Call} {f : FuncId} {d j dj : Nat} {want g own : Bool} {rows : List (List D)} {res : List D} (wA : o.op = .call c) (hc : c.callee = .value (.func f)) (hg : o.guard = some (j, want)) (hd : o.dst = some d)
  (uD : (ops[j]?).bind (·.dst) = some dj) (wO : dj < σ.length) (uN : zX want (σ.get dj) = some g)
  (wI : g = true -> XW P σ c.args.toList c.argTypes.toList rows) (hs : g = true -> QE P f own rows [res]) (wb : Z4 P σ c.args.toList c.argTypes.toList = true \/ Jq own [res]) (h : Ev P ops bar rest (σ.put d (.cnd g (K8 [res]))) Q) : zk P ops bar o rest σ Q := by
 refine ⟨_, .inl ?_, Xw h⟩
 unfold YX; simp only [hg]
 refine ⟨dj, d, g, _, uD, wO, hd, uN, fun rp => ?_, rfl⟩
 unfold Uk
 rw [wA]
 simp only [hc]
 exact ⟨own, res, ⟨rows, wI rp, hs rp, wb⟩, rfl⟩
theorem O2 {P : Program} {ops : Array Oper} {bar : Oper -> Bool} {o : Oper} {rest : List Oper} {σ : St} {Q : St -> Prop} {S T : TypeId} {x : Operand} {d : Nat} {s : ByteArray} (wA : o.op = .convert S T x) (hg : o.guard = none) (hd : o.dst = some d)
  (h1 : gOf (look P σ S x) = true) (h2 : jT P S = true) (h3 : VX P T = true) (h4 : unc (look P σ S x) = .one (.d (.str s))) (h5 : s.size <= 9223372036854775807) (h : Ev P ops bar rest (σ.put d (.one (.d (.sl 1 (JB s.data.toList))))) Q) : zk P ops bar o rest σ Q := by
 refine ⟨_, .inl ?_, Xw h⟩
 unfold YX; simp only [hg, hd]
 unfold Step
 rw [wA]
 exact .inr (.inr ⟨s, h1, h2, h3, h4, h5, rfl⟩)
theorem GX {P : Program} {ops : Array Oper} {bar : Oper -> Bool} {o : Oper} {rest : List Oper} {σ : St} {Q : St -> Prop} {d : Nat} (sS : ∀ c, o.op = .call c -> ∀ f, c.callee ≠ .value (.func f)) (hg : o.guard = none) (hd : o.dst = some d)
  (h1 : (evS P σ o d).1) (h : Ev P ops bar rest (evS P σ o d).2 Q) : zk P ops bar o rest σ Q := by
 refine ⟨_, .inl ?_, Xw h⟩
 unfold YX; simp only [hg, hd]
 exact GD sS h1
theorem LR {P : Program} {ops : Array Oper} {bar : Oper -> Bool} {o : Oper} {rest : List Oper} {σ : St} {Q : St -> Prop} {c : Call} {f : FuncId} {d : Nat} {rows res : List (List D)} (qs : List Bool) (wA : o.op = .call c) (hc : c.callee = .value (.func f)) (hg : o.guard = none) (hd : o.dst = some d)
  (wI : XW P σ c.args.toList c.argTypes.toList rows) (hs : Yx P f rows res) (hq : J0 qs res.flatten) (hf : σ.fresh d = true) (h : Ev P ops bar rest (σ.new d (zu d res) (Zq qs res.flatten)) Q) : zk P ops bar o rest σ Q := by
 refine ⟨_, .inl ?_, Xw h⟩
 unfold YX; simp only [hg, hd]
 unfold Step
 rw [wA]
 simp only [hc]
 exact .inr (.inr ⟨rows, res, qs, wI, hs, hq, hf, rfl⟩)
def Qx (P : Program) (σ : St) (T : TypeId) (size : Nat) : List (Nat × Operand) -> Nat -> Prop × List (List At)
 | [], _ => (True, [])
 | (i, x) :: ps, k => ((i = k /\ gOf (look P σ T x) = true /\ (unc (look P σ T x)).flat = true /\ (unc (look P σ T x)).cells.length = size) /\ (Qx P σ T size ps (k + 1)).1, (unc (look P σ T x)).cells :: (Qx P σ T size ps (k + 1)).2)
theorem S3 {P : Program} {σ : St} {T : TypeId} {size : Nat} : ∀ {ps : List (Nat × Operand)} {k : Nat}, (Qx P σ T size ps k).1 -> Vu P σ T size ps k (Qx P σ T size ps k).2
 | [], _, _ => rfl
 | (_, x) :: _, _, h => by
  obtain ⟨⟨h1, h2, h3, h4⟩, h7⟩ := h
  exact ⟨h1, h2, h3, h4, _, S3 h7, rfl⟩
theorem Hr {P : Program} {ops : Array Oper} {bar : Oper -> Bool} {o : Oper} {rest : List Oper} {σ : St} {Q : St -> Prop} {d : Nat} {T : TypeId} {n : Nat} {parts : Array (Nat × Operand)} (wA : o.op = .buildSlice T n parts) (hg : o.guard = none) (hd : o.dst = some d)
  (h1 : σ.fresh d = true /\ YS P T = true /\ XD P (ZH P T) = true /\ 0 < P.cellsOf (ZH P T) /\ parts.toList.length = n /\ n * P.cellsOf (ZH P T) <= 16777216) (h2 : (Qx P σ (ZH P T) (P.cellsOf (ZH P T)) parts.toList 0).1)
  (h3 : Zs d (Qx P σ (ZH P T) (P.cellsOf (ZH P T)) parts.toList 0).2.flatten = false)
  (h : Ev P ops bar rest (σ.new d (.one (.sref d 0 0 (Qx P σ (ZH P T) (P.cellsOf (ZH P T)) parts.toList 0).2.length)) [.lit (P.cellsOf (ZH P T)) (Qx P σ (ZH P T) (P.cellsOf (ZH P T)) parts.toList 0).2]) Q) : zk P ops bar o rest σ Q := by
 refine ⟨_, .inl ?_, Xw h⟩
 unfold YX; simp only [hg, hd]
 unfold Step
 rw [wA]
 exact .inl ⟨h1.1, h1.2.1, h1.2.2.1, h1.2.2.2.1, h1.2.2.2.2.1, h1.2.2.2.2.2, .inr ⟨_, S3 h2, h3, rfl⟩⟩
def xM (σ : St) (x : V) (size : Nat) : Prop × List (List D) × List (Nat × Nat) :=
 match x with
 | .one (.nil _) => (True, [], [])
 | .one (.sref t j lo len) => (match σ.ob t j with | .arr true s wC => (s = size /\ lo = 0 /\ len = wC.length, wC, [(t, j)]) | _ => (False, [], []))
 | _ => (False, [], [])
theorem L0 {σ : St} {x : V} {size : Nat} (h : (xM σ x size).1) : Ii σ x size (xM σ x size).2.1 (xM σ x size).2.2 := by
 unfold xM at h ⊢
 split at h
 ·exact ⟨rfl, rfl⟩
 ·rename_i t j lo len
  split at h
  ·rename_i s wC ho
   obtain ⟨rfl, rfl, rfl⟩ := h
   exact ⟨ho, rfl, rfl, rfl⟩
  ·exact h.elim
 ·exact h.elim
def xC (σ : St) (x : V) (size : Nat) : Prop × List (List D) × List (Nat × Nat) :=
 match x with
 | .one (.sref t j lo len) => (match σ.ob t j with | .lit s rows => ((s = size /\ lo = 0 /\ len = rows.length) /\ (Qb σ rows).isSome = true /\ QK σ rows, (Qb σ rows).getD [], Z7 rows.flatten) | _ => (False, [], []))
 | _ => (False, [], [])
theorem IZ {σ : St} {x : V} {size : Nat} (h : (xC σ x size).1) : Ip σ x size (xC σ x size).2.1 (xC σ x size).2.2 := by
 unfold xC at h ⊢
 split at h
 ·rename_i t j lo len
  split at h
  ·rename_i s rows ho
   obtain ⟨⟨rfl, rfl, rfl⟩, h1, h2⟩ := h
   obtain ⟨ns, sS⟩ := Option.isSome_iff_exists.1 h1
   exact ⟨rows, ho, rfl, rfl, by rw [sS]; rfl, h2, rfl⟩
  ·exact h.elim
 ·exact h.elim
theorem zi : ∀ (σ : St) (d : Nat) (v : V) (t : Nat), (σ.put d v)[t]? = if t = d then (σ[t]?).map (fun e => (v, e.2)) else σ[t]?
 | [], _, _, _ => by simp [St.put]
 | e :: σ, 0, v, t => by cases t <;> simp [St.put]
 | e :: σ, d + 1, v, t => by
  cases t with
  | zero => simp [St.put]
  | succ t => have := zi σ d v t; simpa [St.put] using this
theorem Jr : ∀ (σ : St) (d : Nat) (v : V) (os : List Ob) (t : Nat), (σ.new d v os)[t]? = if t = d then (σ[t]?).map (fun _ => (v, os)) else σ[t]?
 | [], _, _, _, _ => by simp [St.new]
 | e :: σ, 0, v, os, t => by cases t <;> simp [St.new]
 | e :: σ, d + 1, v, os, t => by
  cases t with
  | zero => simp [St.new]
  | succ t => have := Jr σ d v os t; simpa [St.new] using this
theorem XY : ∀ (σ : St) (a j : Nat) (o : Ob) (t : Nat), (σ.ZT a j o)[t]? = if t = a then (σ[t]?).map (fun e => (e.1, e.2.set j o)) else σ[t]?
 | [], _, _, _, _ => by simp [St.ZT]
 | e :: σ, 0, j, o, t => by cases t <;> simp [St.ZT]
 | e :: σ, a + 1, j, o, t => by
  cases t with
  | zero => simp [St.ZT]
  | succ t => have := XY σ a j o t; simpa [St.ZT] using this
theorem Kj {σ : St} {d : Nat} : Yt σ d = true ↔ σ[d]? = some (.any, []) \/ ∃ x, σ[d]? = some (.one (.d x), []) := by
 unfold Yt
 constructor
 ·intro h
  split at h
  ·rename_i h1; exact .inl h1
  ·rename_i x h1; exact .inr ⟨x, h1⟩
  ·cases h
 ·rintro (h | ⟨x, h⟩) <;> rw [h]
theorem XH {σ : St} {d a j : Nat} {o : Ob} (h : Yt σ d = true) : Yt (σ.ZT a j o) d = true := by
 rw [Kj] at *
 rw [XY]
 rcases h with h | ⟨x, h⟩
 ·left; rw [h]; split <;> rfl
 ·right; refine ⟨x, ?_⟩; rw [h]; split <;> rfl
theorem Xb : ∀ {l : List (Nat × Nat)} {σ : St} {d : Nat}, Yt σ d = true -> Yt (σ.ZX l) d = true
 | [], _, _, h => h
 | p :: l, σ, d, h => by rw [St.ZX]; exact Xb (l := l) (XH h)
theorem z7 {σ : St} {d d' : Nat} {v : V} {os : List Ob} (wB : d ≠ d') (h : Yt σ d = true) : Yt (σ.new d' v os) d = true := by
 unfold Yt at *; simp only [Jr, if_neg wB]; exact h
theorem YY {P : Program} {σ : St} {d : Nat} {v : V} {T : TypeId} {x : Operand} (h : J4 d x = false) : look P (σ.put d v) T x = look P σ T x := by
 cases x with
 | tmp t =>
  have wB : t ≠ d := fun e => by subst e; simp [J4] at h
  simp [look, St.JA, wB]
 | const c => rfl
 | global g => rfl
 | func f => rfl
theorem J6 : ∀ (σ : St) (d : Nat) (v : V) (t j : Nat) (o : Ob), (σ.put d v).ZT t j o = (σ.ZT t j o).put d v
 | [], _, _, _, _, _ => rfl
 | e :: σ, 0, v, 0, j, o => rfl
 | e :: σ, d + 1, v, 0, j, o => rfl
 | e :: σ, 0, v, t + 1, j, o => rfl
 | e :: σ, d + 1, v, t + 1, j, o => by simp [St.put, St.ZT, J6 σ d v t j o]
theorem xj {d : Nat} {v : V} : ∀ (l : List (Nat × Nat)) (σ : St), (σ.put d v).ZX l = (σ.ZX l).put d v
 | [], _ => rfl
 | p :: l, σ => by rw [St.ZX, St.ZX, J6, xj l]
theorem UN {σ : St} {d : Nat} {v : V} : ∀ (xs : List At), X7 (σ.put d v) xs = X7 σ xs
 | [] => rfl
 | x :: xs => by
  have : mvD (σ.put d v) x = mvD σ x := by cases x <;> simp [mvD, St.Xl]
  simp only [X7, this, UN xs]
theorem kD {σ : St} {d : Nat} {v : V} : ∀ (xs : List At), XF (σ.put d v) xs = XF σ xs
 | [] => rfl
 | x :: xs => by
  have : Rx (σ.put d v) x = Rx σ x := by cases x <;> simp [Rx, St.Xl]
  simp only [XF, this, kD xs]
theorem ks : ∀ (l : List (Nat × V)) (σ : St), (σ.Xo l).ob = σ.ob
 | [], _ => rfl
 | p :: l, σ => by rw [St.Xo, ks l, St.Xl]
theorem zy {P : Program} {T : TypeId} {x : Operand} : ∀ (l : List (Nat × V)) (σ : St), (∀ p ∈ l, J4 p.1 x = false) -> look P (σ.Xo l) T x = look P σ T x
 | [], _, _ => rfl
 | p :: l, σ, h => by rw [St.Xo, zy l _ (fun q hq => h q (by simp [hq])), YY (h p (by simp))]
theorem K3 {t j : Nat} {o : Ob} : ∀ (l : List (Nat × V)) (σ : St), (σ.Xo l).ZT t j o = (σ.ZT t j o).Xo l
 | [], _ => rfl
 | p :: l, σ => by rw [St.Xo, K3 l, J6, St.Xo]
theorem Jw {L : List (Nat × Nat)} : ∀ (l : List (Nat × V)) (σ : St), (σ.Xo l).ZX L = (σ.ZX L).Xo l
 | [], _ => rfl
 | p :: l, σ => by rw [St.Xo, Jw l, xj, St.Xo]
theorem LX : ∀ {σ : St} {t d : Nat} {v v' : V} {os : List Ob}, t ≠ d -> (σ.put t v').new d v os = (σ.new d v os).put t v'
 | [], _, _, _, _, _, _ => rfl
 | e :: σ, 0, 0, _, _, _, h => absurd rfl h
 | e :: σ, 0, d + 1, _, _, _, _ => rfl
 | e :: σ, t + 1, 0, _, _, _, _ => rfl
 | e :: σ, t + 1, d + 1, v, v', os, h => by simp [St.put, St.new, LX (σ := σ) (v := v) (v' := v') (os := os) (fun hh => h (congrArg (· + 1) hh))]
theorem Nt {d : Nat} {v : V} {os : List Ob} : ∀ (l : List (Nat × V)) (σ : St), (∀ p ∈ l, p.1 ≠ d) -> (σ.Xo l).new d v os = (σ.new d v os).Xo l
 | [], _, _ => rfl
 | p :: l, σ, h => by rw [St.Xo, Nt l _ (fun q hq => h q (by simp [hq])), LX (h p (by simp)), St.Xo]
theorem WR {d : Nat} {v : V} (hv : v.ref d = false) : ∀ {σ : St} {k t : Nat}, JX d k σ = true -> JX d k (σ.put t v) = true
 | [], _, _, h => h
 | e :: σ, k, 0, h => by
  simp only [JX, St.put, Bool.and_eq_true, Bool.or_eq_true, Bool.not_eq_true'] at h ⊢
  exact ⟨h.1.imp id (fun hh => ⟨hv, hh.2⟩), h.2⟩
 | e :: σ, k, t + 1, h => by
  simp only [JX, St.put, Bool.and_eq_true] at h ⊢
  exact ⟨h.1, WR hv h.2⟩
theorem jE {d : Nat} : ∀ (l : List (Nat × V)) {σ : St}, (∀ p ∈ l, p.2.ref d = false) -> σ.fresh d = true -> (σ.Xo l).fresh d = true
 | [], _, _, h => h
 | p :: l, σ, hl, h => by
  refine jE l (fun q hq => hl q (by simp [hq])) ?_
  simp only [St.fresh, Bool.and_eq_true, decide_eq_true_eq, St.Xn] at h ⊢
  exact ⟨h.1, WR (hl p (by simp)) h.2⟩
theorem y5 {o : Oper} {x y : Operand} {t : TypeId} (wA : o.op = .call ⟨.builtin .append, #[x, y], #[t, t]⟩) {n : Nat} (h : WS o n = true) : J4 n x = false /\ J4 n y = false := by
 have hx : x ∈ o.op.operands.toList := by rw [wA]; simp [Op.operands, Call.operands]
 have hy : y ∈ o.op.operands.toList := by rw [wA]; simp [Op.operands, Call.operands]
 simp only [WS, Bool.not_eq_true'] at h
 exact ⟨Bool.eq_false_iff.2 (List.any_eq_false.1 h x hx), Bool.eq_false_iff.2 (List.any_eq_false.1 h y hy)⟩
theorem MA {σ σ' : St} (h : σ'.ob = σ.ob) : ∀ (xs : List At), X7 σ' xs = X7 σ xs
 | [] => rfl
 | x :: xs => by
  have : mvD σ' x = mvD σ x := by cases x <;> simp [mvD, h]
  simp only [X7, this, MA h xs]
theorem Sr {σ σ' : St} (h : σ'.ob = σ.ob) : ∀ (xs : List At), XF σ' xs = XF σ xs
 | [] => rfl
 | x :: xs => by
  have : Rx σ' x = Rx σ x := by cases x <;> simp [Rx, h]
  simp only [XF, this, Sr h xs]
theorem Py {σ σ' : St} (h : σ'.ob = σ.ob) : ∀ (xs : List (List At)), Qb σ' xs = Qb σ xs
 | [] => rfl
 | x :: xs => by simp only [Qb, MA h, Py h xs]
theorem Uq {σ σ' : St} (h : σ'.ob = σ.ob) : ∀ (xs : List (List At)), QK σ' xs = QK σ xs
 | [] => rfl
 | x :: xs => by simp only [QK, Sr h, Uq h xs]
theorem Gn {σ σ' : St} (h : σ'.ob = σ.ob) {x : V} {size : Nat} {wC : List (List D)} {l : List (Nat × Nat)} (hd : Ii σ x size wC l) : Ii σ' x size wC l := by
 unfold Ii at *; rw [h]; exact hd
theorem Ga {σ σ' : St} (h : σ'.ob = σ.ob) {x : V} {size : Nat} {news : List (List D)} {l : List (Nat × Nat)} (hd : Ip σ x size news l) : Ip σ' x size news l := by
 unfold Ip at *
 simp only [h, Py h, Uq h]; exact hd
theorem FC {σ σ' : St} (h : σ'.ob = σ.ob) {x : V} {size : Nat} {wC : List (List D)} {l : List (Nat × Nat)} (hd : MR σ x size wC l) : MR σ' x size wC l := by
 unfold MR at *; rw [h]; exact hd
theorem Ph {d : Nat} : ∀ {os : List Ob} {j : Nat} {cells : List At}, YB d os = false -> Zw os j = .box cells -> Zs d cells = false
 | [], j, cells, _, h => by simp [Zw] at h
 | o :: os, 0, cells, hr, h => by
  simp only [Zw, List.getElem?_cons_zero] at h
  subst h
  simp only [YB, Bool.or_eq_false_iff] at hr; exact hr.1
 | o :: os, j + 1, cells, hr, h => by
  have h' : Zw os j = .box cells := by simpa [Zw] using h
  refine Ph (os := os) (j := j) ?_ h'
  cases o <;> simp only [YB, Bool.or_eq_false_iff] at hr <;> first | exact hr.2 | exact hr
theorem S9 {P : Program} {ops : Array Oper} {o : Oper} {σ X : St} {d : Nat} {v : V} {os : List Ob} (hd : o.dst = some d) (hlen : X.length = σ.length) (vO : ∀ t, X.get t = σ.get t) (ua : ∀ t j cells, X.ob t j = .box cells -> σ.ob t j = .box cells)
  (vh : ∀ t j q s rows, X.ob t j = .arr q s rows -> ∃ wK, σ.ob t j = .arr q s wK) (hf : X.fresh d = true)
  (hs : ∀ l : List (Nat × V), (∀ p ∈ l, p.1 ≠ d /\ WS o p.1 = true /\ p.2.ref d = false) -> xS P ops o (σ.Xo l) ((X.Xo l).new d v os)) (hc : ∀ l : List (Nat × V), jq o (σ.Xo l) ((X.Xo l).new d v os)) : Eb P ops o σ (X.new d v os) := by
 have wO := St.QN hf
 have ni : ∀ t e, X[t]? = some e -> t ≠ d -> e.1.ref d = false /\ YB d e.2 = false := fun t e he wB => by
  have h1 := hf
  simp only [St.fresh, Bool.and_eq_true] at h1
  exact KC h1.2 t e he (by omega)
 refine ⟨d, hd, by rw [St.yA, hlen], fun t wB => ?_, fun t j cells wB hb => ?_, fun t j q s rows wB hb => ?_, fun l hl => ?_⟩
 ·rw [St.yn, if_neg (fun hh => wB hh.1), vO]
  refine ⟨rfl, ?_⟩
  rw [<- vO]
  unfold St.get
  cases he : X[t]? with
  | none => rfl
  | some e => exact (ni t e he wB).1
 ·rw [St.Xm, if_neg (fun hh => wB hh.1)] at hb
  refine ⟨ua t j cells hb, ?_⟩
  unfold St.ob at hb
  cases he : X[t]? with
  | none => rw [he] at hb; cases hb
  | some e => rw [he] at hb; exact Ph (ni t e he wB).2 hb
 ·rw [St.Xm, if_neg (fun hh => wB hh.1)] at hb
  exact vh t j q s rows hb
 ·have e := Nt (d := d) (v := v) (os := os) l X (fun p hp => (hl p hp).1)
  rw [<- e]
  exact ⟨hs l hl, hc l⟩
theorem S6 {σ : St} {L : List (Nat × Nat)} {t j : Nat} {cells : List At} (h : (σ.ZX L).ob t j = .box cells) : σ.ob t j = .box cells := by
 rw [St.QU] at h
 split at h
 ·cases h
 ·exact h
theorem Rc {σ : St} {L : List (Nat × Nat)} {t j : Nat} {q : Bool} {s : Nat} {rows : List (List D)} (h : (σ.ZX L).ob t j = .arr q s rows) : σ.ob t j = .arr q s rows := by
 rw [St.QU] at h
 split at h
 ·cases h
 ·exact h
theorem H5 {P : Program} {ops : Array Oper} {bar : Oper -> Bool} {o : Oper} {rest : List Oper} {σ : St} {Q : St -> Prop} {d : Nat} {x y : Operand} {t : TypeId} {wC news : List (List D)} {l1 l2 : List (Nat × Nat)} {size : Nat} (wA : o.op = .call ⟨.builtin .append, #[x, y], #[t, t]⟩) (hg : o.guard = none) (hd : o.dst = some d) (wj : bar o = true)
  (vK : size = P.cellsOf (ZH P t)) (h1 : gOf (look P σ t x) = true /\ gOf (look P σ t y) = true /\ YS P t = true /\ XD P (ZH P t) = true /\ 0 < P.cellsOf (ZH P t))
  (h2 : (xM σ (unc (look P σ t x)) size).1 /\ (xM σ (unc (look P σ t x)) size).2 = (wC, l1)) (h3 : (xC σ (unc (look P σ t y)) size).1 /\ (xC σ (unc (look P σ t y)) size).2 = (news, l2))
  (h4 : (l1 ++ l2).Nodup /\ (σ.ZX (l1 ++ l2)).fresh d = true) (h5 : (wC.length + news.length) * P.bytesOf (ZH P t) <= 140737488355328 /\ wC.length + news.length <= 9223372036854775807)
  (h : Ev P ops bar rest ((σ.ZX (l1 ++ l2)).new d (.one (.sref d 0 0 (wC.length + news.length))) [.arr true size (wC ++ news)]) Q) : zk P ops bar o rest σ Q := by
 subst vK
 have e1 := L0 h2.1
 have e2 := IZ h3.1
 rw [h2.2] at e1
 rw [h3.2] at e2
 have cl : ∀ σ0 : St, jq o σ0 ((σ0.ZX (l1 ++ l2)).new d (.one (.sref d 0 0 (wC.length + news.length))) [.arr true (P.cellsOf (ZH P t)) (wC ++ news)]) := fun σ0 d' wP hc => z7 (fun e => wP (by rw [hd, e])) (Xb hc)
 have go : ∀ l : List (Nat × V), (∀ p ∈ l, p.1 ≠ d /\ WS o p.1 = true /\ p.2.ref d = false) -> xS P ops o (σ.Xo l) (((σ.Xo l).ZX (l1 ++ l2)).new d (.one (.sref d 0 0 (wC.length + news.length))) [.arr true (P.cellsOf (ZH P t)) (wC ++ news)]) := by
  rintro l hl T0 B a w K Q' ⟨X, hh, r⟩ hK
  have hw : Region.wanted o (yielded ops a.tmps) = true := by simp [Region.wanted, hg]
  rw [if_pos hw]
  have lx : look P (σ.Xo l) t x = look P σ t x := zy l σ (fun p hp => (y5 wA (hl p hp).2.1).1)
  have ly : look P (σ.Xo l) t y = look P σ t y := zy l σ (fun p hp => (y5 wA (hl p hp).2.1).2)
  refine Rl r wA hd (by rw [lx]; exact h1.1) (by rw [ly]; exact h1.2.1) h1.2.2.1 h1.2.2.2.1 h1.2.2.2.2 (by rw [lx]; exact Gn (ks l σ) e1) (by rw [ly]; exact Ga (ks l σ) e2) h4.1 ?_ h5.1 h5.2 hK
  rw [Jw]
  exact jE l (fun p hp => (hl p hp).2.2) h4.2
 have nj : xS P ops o σ ((σ.ZX (l1 ++ l2)).new d (.one (.sref d 0 0 (wC.length + news.length))) [.arr true (P.cellsOf (ZH P t)) (wC ++ news)]) := go [] (fun p hp => by cases hp)
 refine ⟨_, .inr ⟨wj, nj, cl σ, fun hh => by simp [y9, wA] at hh, fun _ => S9 hd (St.QM _ _) (fun t => St.Jk _ _ t) (fun t j cells hb => S6 hb) (fun t j q s rows hb => ⟨rows, Rc hb⟩) h4.2 (fun l hl => ?_) (fun l => ?_), fun hh _ => by first | (simp [QL, wA] at hh; done) | (unfold QL at hh; rw [wA] at hh; split at hh <;> simp_all)⟩, Xw h⟩
 ·rw [<- Jw]; exact go l hl
 ·rw [<- Jw]; exact cl _
theorem Ik {P : Program} {T0 : CS} {B : Nat -> Prop} {σ : St} {a : Act} {w : World} {X : Nat -> Prop} {h : Nat -> Nat -> Hd} (r : Rel T0 B σ a w X h) {o : Oper} {d u j n size : Nat} {rows : List (List D)} (hd : o.dst = some d) (hv : Zv P σ o.op o.type (.one (.sref u j 0 n))) (ho : σ.ob u j = .arr false size rows) (hle : n <= rows.length)
  (w7 : (σ.ZT u j .none).fresh d = true) {K : Act -> World -> Prop} {Q : Exit -> Act -> World -> Prop} (hK : ∀ a' w', X6 T0 B ((σ.ZT u j .none).new d (.one (.sref d 0 0 n)) [.arr false size (rows.take n)]) a' w' -> YQ B w w' -> K a' w') : o.wp P a w K Q := by
 obtain ⟨val, wV, rK⟩ := yU r hv
 unfold Oper.wp
 rw [wV, Oper.upon_value, hd]
 have ru : Zm (Tof T0 X) h σ.ob w (.sref u j 0 n) val := rK
 obtain ⟨_, _, uA, _⟩ := ru.2.1 _ _ _ ho
 have he : val = VU (h u j).v n := uA rfl
 have h0 := r.obj u j
 rw [ho] at h0
 obtain ⟨e, xs, wF, vi, wD⟩ := h0
 have wU : σ.ob u j ≠ .none := by rw [ho]; simp
 have rj : (rows.take n).length = n := by rw [List.length_take]; omega
 have ve : (rows.take n).flatten = rows.flatten.take (n * size) := Qc rows size vi n hle
 have w5 : w.ownsRow 0 e size val (rows.take n).length (xs.take (n * size)) := by rw [he, rj]; exact zP wF hle
 have wO := St.QN w7
 have w6 : ((σ.ZT u j .none).new d (.one (.sref d 0 0 n)) [.arr false size (rows.take n)]).ob d 0 = .arr false size (rows.take n) := by rw [St.Xm]; simp [wO, Zw]
 have we : ∀ b, blk val = some b -> ¬ B b /\ ¬ X b /\ b < w.heap.size /\ ∀ u' j', (σ.ZT u j .none).ob u' j' ≠ .none -> ¬ (h u' j').u b := by
  intro b hb
  rw [he, y7] at hb
  have rq := r.ub u j b wU hb
  have w8 := r.own u j b wU rq
  refine ⟨w8.1, w8.2.1, w8.2.2, fun u' j' wB wM => ?_⟩
  have sc : σ.ob u' j' ≠ .none := by
   intro hh
   rw [St.Yj σ u j _ u' j' wU] at wB
   split at wB
   ·exact wB rfl
   ·exact wB hh
  have := r.inj u j u' j' b wU sc rq wM
  obtain ⟨rfl, rfl⟩ := this
  rw [St.Yj σ u j _ u j wU] at wB
  simp at wB
 refine hK _ _ ⟨X, fun t k => if t = d then Hd.of val else h t k, ?_⟩ (YQ.refl _ _)
 refine (r.drop u j).OT w7 (fun b => blk val = some b) (Nat.le_refl _) (fun _ _ _ => rfl) (fun b hb => ⟨(we b hb).1, (we b hb).2.1, fun t k _ wB => (we b hb).2.2.2 t k wB⟩) (fun _ hb => hb) (fun _ hb => .inl hb) _ _ [.arr false size (rows.take n)] (fun _ => Hd.of val) ?_ (fun k => ?_) (fun k b _ hb => hb) (fun k b wB wM => ?_) (fun k k' b wB wv _ _ => ?_)
 ·refine ⟨Xj w5, fun q' wW wK hh => ?_, fun wW wK hh => by rw [w6] at hh; cases hh⟩
  rw [w6] at hh; cases hh
  simp only [if_true]
  have := zS w5
  rwa [rj] at this ⊢
 ·cases k with
  | zero => exact ⟨e, xs.take (n * size), w5, fun q hq => vi q (List.mem_of_mem_take hq), by rw [ve]; exact (wD.imp fun _ _ hh => hh).take _⟩
  | succ k => simp [Zw, Xs]
 ·exact ⟨.inr wM, (we b wM).2.1, (we b wM).2.2.1⟩
 ·have : ∀ k, Zw [Ob.arr false size (rows.take n)] k ≠ .none -> k = 0 := by
   intro k hk
   cases k with
   | zero => rfl
   | succ k => simp [Zw] at hk
  rw [this k wB, this k' wv]
theorem Ic {P : Program} {T0 : CS} {B : Nat -> Prop} {σ : St} {a : Act} {w : World} {X : Nat -> Prop} {h : Nat -> Nat -> Hd} (r : Rel T0 B σ a w X h) {o : Oper} {d u j n size : Nat} {rows : List (List D)} (hd : o.dst = some d) (hv : Zv P σ o.op o.type (.one (.sref u j 0 n))) (ho : σ.ob u j = .arr true size rows) (hle : n <= rows.length)
  (w7 : (σ.ZT u j .none).fresh d = true) {K : Act -> World -> Prop} {Q : Exit -> Act -> World -> Prop} (hK : ∀ a' w', X6 T0 B ((σ.ZT u j .none).new d (.one (.sref d 0 0 n)) [.arr true size (rows.take n)]) a' w' -> YQ B w w' -> K a' w') : o.wp P a w K Q := by
 obtain ⟨val, wV, rK⟩ := yU r hv
 unfold Oper.wp
 rw [wV, Oper.upon_value, hd]
 have ru : Zm (Tof T0 X) h σ.ob w (.sref u j 0 n) val := rK
 obtain ⟨_, _, uA, _⟩ := ru.2.1 _ _ _ ho
 have he : val = VU (h u j).v n := uA rfl
 have h0 := r.obj u j
 rw [ho] at h0
 obtain ⟨e, xs, wF, vi, wD, s4⟩ := h0
 have wU : σ.ob u j ≠ .none := by rw [ho]; simp
 have rj : (rows.take n).length = n := by rw [List.length_take]; omega
 have ve : (rows.take n).flatten = rows.flatten.take (n * size) := Qc rows size vi n hle
 have w5 : w.ownsRow 0 e size val (rows.take n).length (xs.take (n * size)) := by rw [he, rj]; exact zP wF hle
 have wO := St.QN w7
 have w6 : ((σ.ZT u j .none).new d (.one (.sref d 0 0 n)) [.arr true size (rows.take n)]).ob d 0 = .arr true size (rows.take n) := by rw [St.Xm]; simp [wO, Zw]
 have we : ∀ b, (h u j).u b -> ¬ B b /\ ¬ X b /\ b < w.heap.size /\ ∀ u' j', (σ.ZT u j .none).ob u' j' ≠ .none -> ¬ (h u' j').u b := by
  intro b rq
  have w8 := r.own u j b wU rq
  refine ⟨w8.1, w8.2.1, w8.2.2, fun u' j' wB wM => ?_⟩
  have sc : σ.ob u' j' ≠ .none := by
   intro hh
   rw [St.Yj σ u j _ u' j' wU] at wB
   split at wB
   ·exact wB rfl
   ·exact wB hh
  have := r.inj u j u' j' b wU sc rq wM
  obtain ⟨rfl, rfl⟩ := this
  rw [St.Yj σ u j _ u j wU] at wB
  simp at wB
 refine hK _ _ ⟨X, fun t k => if t = d then ({ v := val, u := (h u j).u, n := (h u j).n } : Hd) else h t k, ?_⟩ (YQ.refl _ _)
 refine (r.drop u j).OT w7 (fun b => (h u j).u b) (Nat.le_refl _) (fun _ _ _ => rfl) (fun b hb => ⟨(we b hb).1, (we b hb).2.1, fun t k _ wB => (we b hb).2.2.2 t k wB⟩) (fun _ hb => hb) (fun _ hb => .inl hb) _ _ [.arr true size (rows.take n)] (fun _ => ({ v := val, u := (h u j).u, n := (h u j).n } : Hd)) ?_ (fun k => ?_) (fun k b _ hb => r.ub u j b wU (by have hb : blk val = some b := hb; rw [he, y7] at hb; exact hb)) (fun k b wB wM => ?_) (fun k k' b wB wv _ _ => ?_)
 ·refine ⟨Xj w5, fun q' wW wK hh => ?_, fun wW wK hh => by rw [w6] at hh; cases hh⟩
  rw [w6] at hh; cases hh
  simp only [if_true]
  have := zS w5
  rwa [rj] at this ⊢
 ·cases k with
  | zero =>
   have rM : xs.length = rows.length * size := by rw [wD.1, Zo rows _ vi]
   have te : n * size <= xs.length := by rw [rM]; exact Nat.mul_le_mul_right _ hle
   have hp := Xz.pick wD (p := n * size) (q := n * size) (n := 0) (Nat.le_refl _) (by omega)
   simp only [cut, List.take_zero, List.append_nil] at hp
   refine ⟨e, xs.take (n * size), w5, fun q hq => vi q (List.mem_of_mem_take hq), ?_, fun k x dd hx uK vN => ?_⟩
   ·rw [ve]
    refine hp.mono (fun b hb => ⟨hb.1, ?_⟩)
    have wk := hb.2
    intro hh
    have hh : blk val = some b := hh
    rw [he, y7] at hh
    exact wk hh
   ·rw [ve] at uK
    have hk : k < n * size := by have := (List.getElem?_eq_some_iff.1 hx).1; rw [List.length_take] at this; omega
    rw [List.getElem?_take, if_pos hk] at hx uK
    exact s4 k x dd hx uK vN
  | succ k => simp [Zw, Xs]
 ·exact ⟨.inr wM, (we b wM).2.1, (we b wM).2.2.1⟩
 ·have : ∀ k, Zw [Ob.arr true size (rows.take n)] k ≠ .none -> k = 0 := by
   intro k hk
   cases k with
   | zero => rfl
   | succ k => simp [Zw] at hk
  rw [this k wB, this k' wv]
theorem Rel.ER {T0 : CS} {B : Nat -> Prop} {σ : St} {a : Act} {w : World} {X X' : Nat -> Prop} {h : Nat -> Nat -> Hd} (r : Rel T0 B σ a w X h) (hX : ∀ b, X b -> X' b) (sZ : ∀ b, X' b -> X b \/ (¬ B b /\ b < w.heap.size /\ ∀ t j, σ.ob t j ≠ .none -> ¬ (h t j).u b)) : Rel T0 B σ a w X' h := by
 have hT : ∀ b k v, Tof T0 X b k -> w.cell? ⟨b, k, none⟩ = some v -> w.cell? ⟨b, k, none⟩ = some v /\ Tof T0 X' b k := fun b k v hb hc => ⟨hc, hb.imp id (hX b)⟩
 refine ⟨r.size, r.defers, r.hB, fun b hb => ?_, r.hT, fun t ht => Xe.mono hT (r.slot t ht), fun t j => ?_, r.ub, fun t j b ho hb => ?_, r.inj⟩
 ·rcases sZ b hb with hb | hb
  ·exact r.hX b hb
  ·exact ⟨hb.1, hb.2.1⟩
 ·have h0 := r.obj t j
  cases ho : σ.ob t j with
  | none => trivial
  | box cells => rw [ho] at h0; obtain ⟨b, cs, e, hv, hh, wD⟩ := h0; exact ⟨b, cs, e, hv, hh, wD.imp fun _ _ => Zm.mono hT⟩
  | arr q size rows =>
   rw [ho] at h0
   cases q with
   | false => obtain ⟨e, xs, uR, hz, wD⟩ := h0; exact ⟨e, xs, uR, hz, wD.imp fun _ _ => Rd.mono hT⟩
   | true => exact h0
  | lit size rows => rw [ho] at h0; obtain ⟨e, xs, uR, hz, wD⟩ := h0; exact ⟨e, xs, uR, hz, wD.imp fun _ _ => Zm.mono hT⟩
 ·have := r.own t j b ho hb
  refine ⟨this.1, fun hx => ?_, this.2.2⟩
  rcases sZ b hx with hx | hx
  ·exact this.2.1 hx
  ·exact hx.2.2 t j ho hb
theorem L4 {P : Program} {T0 : CS} {B : Nat -> Prop} {σ : St} {a : Act} {w : World} {X : Nat -> Prop} {h : Nat -> Nat -> Hd} (r : Rel T0 B σ a w X h) {o : Oper} {d u j n size : Nat} {rows : List (List D)} (hd : o.dst = some d) (hv : Zv P σ o.op o.type (.one (.sref u j 0 n))) (ho : σ.ob u j = .arr true size rows) (hle : n <= rows.length)
  (w7 : (σ.ZT u j .none).fresh d = true) {K : Act -> World -> Prop} {Q : Exit -> Act -> World -> Prop} (hK : ∀ a' w', X6 T0 B ((σ.ZT u j .none).new d (.one (.sref d 0 0 n)) [.arr false size (rows.take n)]) a' w' -> YQ B w w' -> K a' w') : o.wp P a w K Q := by
 obtain ⟨val, wV, rK⟩ := yU r hv
 unfold Oper.wp
 rw [wV, Oper.upon_value, hd]
 have ru : Zm (Tof T0 X) h σ.ob w (.sref u j 0 n) val := rK
 obtain ⟨_, _, uA, _⟩ := ru.2.1 _ _ _ ho
 have he : val = VU (h u j).v n := uA rfl
 have h0 := r.obj u j
 rw [ho] at h0
 obtain ⟨e, xs, wF, vi, wD, s4⟩ := h0
 have wU : σ.ob u j ≠ .none := by rw [ho]; simp
 have rj : (rows.take n).length = n := by rw [List.length_take]; omega
 have ve : (rows.take n).flatten = rows.flatten.take (n * size) := Qc rows size vi n hle
 have w5 : w.ownsRow 0 e size val (rows.take n).length (xs.take (n * size)) := by rw [he, rj]; exact zP wF hle
 have wO := St.QN w7
 have w6 : ((σ.ZT u j .none).new d (.one (.sref d 0 0 n)) [.arr false size (rows.take n)]).ob d 0 = .arr false size (rows.take n) := by rw [St.Xm]; simp [wO, Zw]
 have we : ∀ b, (h u j).u b -> ¬ B b /\ ¬ X b /\ b < w.heap.size /\ ∀ u' j', (σ.ZT u j .none).ob u' j' ≠ .none -> ¬ (h u' j').u b := by
  intro b rq
  have w8 := r.own u j b wU rq
  refine ⟨w8.1, w8.2.1, w8.2.2, fun u' j' wB wM => ?_⟩
  have sc : σ.ob u' j' ≠ .none := by
   intro hh
   rw [St.Yj σ u j _ u' j' wU] at wB
   split at wB
   ·exact wB rfl
   ·exact wB hh
  have := r.inj u j u' j' b wU sc rq wM
  obtain ⟨rfl, rfl⟩ := this
  rw [St.Yj σ u j _ u j wU] at wB
  simp at wB
 have oT : ∀ b, blk val = some b -> (h u j).u b /\ blk (h u j).v = some b := fun b hb => by rw [he, y7] at hb; exact ⟨r.ub u j b wU hb, hb⟩
 have r1 := (r.drop u j).ER (X' := fun b => X b \/ ((h u j).u b /\ blk (h u j).v ≠ some b)) (fun b hb => .inl hb) (fun b hb => hb.imp id (fun hh => ⟨(we b hh.1).1, (we b hh.1).2.2.1, (we b hh.1).2.2.2⟩))
 refine hK _ _ ⟨fun b => X b \/ ((h u j).u b /\ blk (h u j).v ≠ some b), fun t k => if t = d then Hd.of val else h t k, ?_⟩ (YQ.refl _ _)
 refine r1.OT w7 (fun b => blk val = some b) (Nat.le_refl _) (fun _ _ _ => rfl) (fun b hb => ⟨(we b (oT b hb).1).1, ?_, fun t k _ wB => (we b (oT b hb).1).2.2.2 t k wB⟩) (fun _ hb => hb) (fun _ hb => .inl hb) _ _ [.arr false size (rows.take n)] (fun _ => Hd.of val) ?_ (fun k => ?_) (fun k b _ hb => hb) (fun k b wB wM => ?_) (fun k k' b wB wv _ _ => ?_)
 ·rintro (hx | hx)
  ·exact (we b (oT b hb).1).2.1 hx
  ·exact hx.2 (oT b hb).2
 ·refine ⟨Xj w5, fun q' wW wK hh => ?_, fun wW wK hh => by rw [w6] at hh; cases hh⟩
  rw [w6] at hh; cases hh
  simp only [if_true]
  have := zS w5
  rwa [rj] at this ⊢
 ·cases k with
  | zero =>
   refine ⟨e, xs.take (n * size), w5, fun q hq => vi q (List.mem_of_mem_take hq), ?_⟩
   rw [ve]
   exact (wD.rd (T := Tof T0 (fun b => X b \/ ((h u j).u b /\ blk (h u j).v ≠ some b))) (fun b k hb => .inr (.inr hb))).take _
  | succ k => simp [Zw, Xs]
 ·refine ⟨.inr wM, ?_, (we b (oT b wM).1).2.2.1⟩
  rintro (hx | hx)
  ·exact (we b (oT b wM).1).2.1 hx
  ·exact hx.2 (oT b wM).2
 ·have : ∀ k, Zw [Ob.arr false size (rows.take n)] k ≠ .none -> k = 0 := by
   intro k hk
   cases k with
   | zero => rfl
   | succ k => simp [Zw] at hk
  rw [this k wB, this k' wv]
theorem HN {P : Program} {ops : Array Oper} {bar : Oper -> Bool} {o : Oper} {rest : List Oper} {σ : St} {Q : St -> Prop} {d : Nat} {x y : Operand} {t : TypeId} {rows : List (List D)} {size u j len lo n : Nat} (wA : o.op = .call ⟨.builtin .append, #[x, y], #[t, t]⟩) (hg : o.guard = none) (hd : o.dst = some d) (wj : bar o = true)
  (vK : size = P.cellsOf (ZH P t)) (h1 : gOf (look P σ t x) = true /\ gOf (look P σ t y) = true /\ YS P t = true /\ XD P (ZH P t) = true /\ 0 < P.cellsOf (ZH P t))
  (h2 : unc (look P σ t x) = .one (.sref u j 0 len)) (h3 : unc (look P σ t y) = .one (.sref u j lo n)) (ho : σ.ob u j = .arr true size rows) (hle : len <= lo) (te : lo + n <= rows.length)
  {news : List (List D)} (vZ : cut rows lo n = news) (h4 : (σ.ZT u j .none).fresh d = true) (h5 : (len + n) * P.bytesOf (ZH P t) <= 140737488355328 /\ len + n <= 9223372036854775807)
  (h : Ev P ops bar rest ((σ.ZT u j .none).new d (.one (.sref d 0 0 ((rows.take len).length + news.length))) [.arr true size (rows.take len ++ news)]) Q) : zk P ops bar o rest σ Q := by
 subst vK
 subst vZ
 rw [YK _ _ _ te, List.length_take, Nat.min_eq_left (by omega)] at h
 have cl : ∀ σ0 : St, jq o σ0 ((σ0.ZT u j .none).new d (.one (.sref d 0 0 (len + n))) [.arr true (P.cellsOf (ZH P t)) (rows.take len ++ cut rows lo n)]) := fun σ0 d' wP hc => z7 (fun e => wP (by rw [hd, e])) (XH hc)
 have go : ∀ l : List (Nat × V), (∀ p ∈ l, p.1 ≠ d /\ WS o p.1 = true /\ p.2.ref d = false) -> xS P ops o (σ.Xo l) (((σ.Xo l).ZT u j .none).new d (.one (.sref d 0 0 (len + n))) [.arr true (P.cellsOf (ZH P t)) (rows.take len ++ cut rows lo n)]) := by
  rintro l hl T0 B a w K Q' ⟨X, hh, r⟩ hK
  have hw : Region.wanted o (yielded ops a.tmps) = true := by simp [Region.wanted, hg]
  rw [if_pos hw]
  have lx : look P (σ.Xo l) t x = look P σ t x := zy l σ (fun p hp => (y5 wA (hl p hp).2.1).1)
  have ly : look P (σ.Xo l) t y = look P σ t y := zy l σ (fun p hp => (y5 wA (hl p hp).2.1).2)
  refine Rk r wA hd (by rw [lx]; exact h1.1) (by rw [ly]; exact h1.2.1) h1.2.2.1 h1.2.2.2.1 h1.2.2.2.2 (by rw [lx]; exact h2) (by rw [ly]; exact h3) (by rw [ks]; exact ho) hle te ?_ h5.1 h5.2 hK
  show ((σ.Xo l).ZT u j .none).fresh d = true
  rw [K3]
  exact jE l (fun p hp => (hl p hp).2.2) h4
 have nj : xS P ops o σ ((σ.ZT u j .none).new d (.one (.sref d 0 0 (len + n))) [.arr true (P.cellsOf (ZH P t)) (rows.take len ++ cut rows lo n)]) := go [] (fun p hp => by cases hp)
 refine ⟨_, .inr ⟨wj, nj, cl σ, fun hh => by simp [y9, wA] at hh, fun _ => S9 hd (St.YR _ _ _ _) (fun t => St.Y2 _ _ _ _ t) (fun t i cells hb => S6 (L := [(u, j)]) hb) (fun t i q s rows hb => ⟨rows, Rc (L := [(u, j)]) hb⟩) h4 (fun l hl => ?_) (fun l => ?_), fun hh _ => by first | (simp [QL, wA] at hh; done) | (unfold QL at hh; rw [wA] at hh; split at hh <;> simp_all)⟩, Xw h⟩
 ·rw [<- K3]; exact go l hl
 ·rw [<- K3]; exact cl _
theorem HV {P : Program} {ops : Array Oper} {bar : Oper -> Bool} {o : Oper} {rest : List Oper} {σ : St} {Q : St -> Prop} {d : Nat} {x y : Operand} {t : TypeId} {wC rows news : List (List D)} {l1 : List (Nat × Nat)} {size u j lo n : Nat} (wA : o.op = .call ⟨.builtin .append, #[x, y], #[t, t]⟩) (hg : o.guard = none) (hd : o.dst = some d) (wj : bar o = true)
  (vK : size = P.cellsOf (ZH P t)) (h1 : gOf (look P σ t x) = true /\ gOf (look P σ t y) = true /\ YS P t = true /\ XD P (ZH P t) = true /\ 0 < P.cellsOf (ZH P t))
  (h2 : MR σ (unc (look P σ t x)) size wC l1) (h3 : unc (look P σ t y) = .one (.sref u j lo n)) (ho : σ.ob u j = .arr true size rows) (pe : (u, j) ∉ l1) (hle : lo + n <= rows.length) (vZ : cut rows lo n = news)
  (h4 : ((σ.ZT u j (.arr true size (Xy rows lo n))).ZX l1).fresh d = true) (h5 : (wC.length + n) * P.bytesOf (ZH P t) <= 140737488355328 /\ wC.length + n <= 9223372036854775807)
  (h : Ev P ops bar rest (((σ.ZT u j (.arr true size (Xy rows lo n))).ZX l1).new d (.one (.sref d 0 0 (wC.length + news.length))) [.arr true size (wC ++ news)]) Q) : zk P ops bar o rest σ Q := by
 subst vK
 subst vZ
 rw [YK _ _ _ hle] at h
 have cl : ∀ σ0 : St, jq o σ0 (((σ0.ZT u j (.arr true (P.cellsOf (ZH P t)) (Xy rows lo n))).ZX l1).new d (.one (.sref d 0 0 (wC.length + n))) [.arr true (P.cellsOf (ZH P t)) (wC ++ cut rows lo n)]) := fun σ0 d' wP hc => z7 (fun e => wP (by rw [hd, e])) (Xb (XH hc))
 have go : ∀ l : List (Nat × V), (∀ p ∈ l, p.1 ≠ d /\ WS o p.1 = true /\ p.2.ref d = false) -> xS P ops o (σ.Xo l) ((((σ.Xo l).ZT u j (.arr true (P.cellsOf (ZH P t)) (Xy rows lo n))).ZX l1).new d (.one (.sref d 0 0 (wC.length + n))) [.arr true (P.cellsOf (ZH P t)) (wC ++ cut rows lo n)]) := by
  rintro l hl T0 B a w K Q' ⟨X, hh, r⟩ hK
  have hw : Region.wanted o (yielded ops a.tmps) = true := by simp [Region.wanted, hg]
  rw [if_pos hw]
  have lx : look P (σ.Xo l) t x = look P σ t x := zy l σ (fun p hp => (y5 wA (hl p hp).2.1).1)
  have ly : look P (σ.Xo l) t y = look P σ t y := zy l σ (fun p hp => (y5 wA (hl p hp).2.1).2)
  refine R1 r wA hd (by rw [lx]; exact h1.1) (by rw [ly]; exact h1.2.1) h1.2.2.1 h1.2.2.2.1 h1.2.2.2.2 (by rw [lx]; exact FC (ks l σ) h2) (by rw [ly]; exact h3) (by rw [ks]; exact ho) hle pe ?_ h5.1 h5.2 hK
  rw [K3, Jw]
  exact jE l (fun p hp => (hl p hp).2.2) h4
 have wU : σ.ob u j ≠ .none := by rw [ho]; simp
 have nj : xS P ops o σ (((σ.ZT u j (.arr true (P.cellsOf (ZH P t)) (Xy rows lo n))).ZX l1).new d (.one (.sref d 0 0 (wC.length + n))) [.arr true (P.cellsOf (ZH P t)) (wC ++ cut rows lo n)]) := go [] (fun p hp => by cases hp)
 refine ⟨_, .inr ⟨wj, nj, cl σ, fun hh => by simp [y9, wA] at hh, fun _ => S9 hd (by rw [St.QM, St.YR]) (fun t => by rw [St.Jk, St.Y2]) (fun t i cells hb => ?_) (fun t i q s wK hb => ?_) h4 (fun l hl => ?_) (fun l => ?_), fun hh _ => by first | (simp [QL, wA] at hh; done) | (unfold QL at hh; rw [wA] at hh; split at hh <;> simp_all)⟩, Xw h⟩
 ·have hb := S6 hb
  rw [St.Yj σ u j _ t i wU] at hb
  split at hb
  ·cases hb
  ·exact hb
 ·have hb := Rc hb
  rw [St.Yj σ u j _ t i wU] at hb
  split at hb
  ·rename_i hc; cases hb; rw [hc.1, hc.2]; exact ⟨rows, ho⟩
  ·exact ⟨wK, hb⟩
 ·rw [<- Jw, <- K3]; exact go l hl
 ·rw [<- Jw, <- K3]; exact cl _
theorem NP {f : At -> Bool} {v : V} (hv : v.Jh f = false) : ∀ {σ : St} {d : Nat}, σ.Jh f = false -> (σ.put d v).Jh f = false
 | [], _, _ => rfl
 | e :: σ, 0, h => by simp only [St.Jh, Bool.or_eq_false_iff] at h; simp [St.put, St.Jh, hv, h.1.2, h.2]
 | e :: σ, d + 1, h => by simp only [St.Jh, Bool.or_eq_false_iff] at h; simp [St.put, St.Jh, h.1.1, h.1.2, NP hv h.2]
theorem U8 {σ : St} : ∀ {xs : List At} {ds : List D}, X7 σ xs = some ds -> ∀ p ∈ Z7 xs, ∃ q s rows, σ.ob p.1 p.2 = .arr q s rows
 | [], _, _, p, hp => by cases hp
 | x :: xs, ds, h, p, hp => by
  simp only [X7] at h
  split at h
  ·rename_i d rJ h1 h2
   have ih := U8 h2
   cases x with
   | sref t j lo len =>
    simp only [Z7, List.mem_cons] at hp
    rcases hp with rfl | hp
    ·simp only [mvD] at h1
     split at h1
     ·rename_i q s rows ho; exact ⟨q, s, rows, ho⟩
     ·cases h1
    ·exact ih p hp
   | _ => exact ih p hp
  ·cases h
theorem UX {σ : St} {L : List (Nat × Nat)} {t j t' size wW : Nat} {q q' : Bool} {rows wK : List (List D)} {cells : List At} {xs : List At} {ds : List D} (hm : X7 σ xs = some ds) (hL : Z7 xs = L) (ho : σ.ob t j = .arr q size rows) (hn : (t, j) ∉ L) (hb : σ.ob t' 0 = .box cells) :
  ((σ.ZX L).ZT t j (.arr q' wW wK)).ob t' 0 = .box cells := by
 have h1 : (σ.ZX L).ob t j ≠ .none := by rw [St.QU, if_neg hn, ho]; simp
 rw [St.Yj _ t j _ t' 0 h1]
 split
 ·rename_i hc; rw [hc.1, hc.2, ho] at hb; cases hb
 ·rw [St.QU]
  split
  ·rename_i hc
   obtain ⟨q, s, rows, he⟩ := U8 hm (t', 0) (by rw [hL]; exact hc)
   rw [he] at hb; cases hb
  ·exact hb
structure StM (P : Program) (σ : St) (T : TypeId) (x y : Operand) (t j i c size : Nat) (rows : List (List D)) (ds : List D) (l : List (Nat × Nat)) : Prop where
 hx : unc (look P σ 0 x) = .one (.ptr t j i c)
 ho : σ.ob t j = .arr true size rows
 hi : i < rows.length
 h1 : Kg P T = true /\ gOf (look P σ 0 x) = true /\ gOf (look P σ T y) = true /\ (unc (look P σ T y)).flat = true
 h2 : X7 σ (unc (look P σ T y)).cells = some ds
 h3 : XF σ (unc (look P σ T y)).cells
 h4 : Z7 (unc (look P σ T y)).cells = l
 h5 : l.Nodup /\ (t, j) ∉ l /\ (σ.ZX l).Jh (At.isT t) = false
 h6 : ds.length = P.cellsOf T /\ c + P.cellsOf T <= size
theorem StM.Xo {P : Program} {o : Oper} {T : TypeId} {x y : Operand} (wA : o.op = .store T x y) {t j i c size : Nat} {rows : List (List D)} {ds : List D} {l : List (Nat × Nat)} : ∀ (q : List (Nat × V)) {σ : St}, (∀ p ∈ q, yr o p.1 = true /\ Ud p.2 = true) -> StM P σ T x y t j i c size rows ds l -> StM P (σ.Xo q) T x y t j i c size rows ds l
 | [], _, _, h => h
 | p :: q, σ, hq, h => by
  refine StM.Xo wA q (fun p' rf => hq p' (by simp [rf])) ?_
  obtain ⟨hu, hp⟩ := hq p (by simp)
  simp only [yr, wA, Bool.and_eq_true, Bool.not_eq_true'] at hu
  have hv : p.2.Jh (At.isT t) = false := by
   generalize p.2 = v at hp
   unfold Ud at hp
   split at hp <;> first | rfl | cases hp
  refine ⟨?_, ?_, h.hi, ?_, ?_, ?_, ?_, ⟨h.h5.1, h.h5.2.1, ?_⟩, h.h6⟩
  ·rw [YY hu.1]; exact h.hx
  ·rw [St.Xl]; exact h.ho
  ·rw [YY hu.1, YY hu.2]; exact h.h1
  ·rw [YY hu.2, UN]; exact h.h2
  ·rw [YY hu.2, kD]; exact h.h3
  ·rw [YY hu.2]; exact h.h4
  ·rw [xj]; exact NP hv h.h5.2.2
theorem Vo {l : List (Nat × Nat)} {t j : Nat} {ob : Ob} : ∀ (q : List (Nat × V)) (σ : St), ((σ.Xo q).ZX l).ZT t j ob = ((σ.ZX l).ZT t j ob).Xo q
 | [], _ => rfl
 | p :: q, σ => by rw [St.Xo, St.Xo, Vo q, xj, J6]
theorem UD {P : Program} {ops : Array Oper} {o : Oper} {σ : St} {T : TypeId} {x y : Operand} {t j i c size : Nat} {rows : List (List D)} {ds : List D} {l : List (Nat × Nat)} (wA : o.op = .store T x y) (hg : o.guard = none) (hd : o.dst = none) (h : StM P σ T x y t j i c size rows ds l) :
  xS P ops o σ ((σ.ZX l).ZT t j (.arr true size (rows.set i (place (rowAt rows i) c ds)))) := by
 obtain ⟨hx, ho, hi, h1, h2, h3, h4, h5, h6⟩ := h
 subst h4
 rintro T0 B a w K Q' ⟨X, hh, r⟩ hK
 have hw : Region.wanted o (yielded ops a.tmps) = true := by simp [Region.wanted, hg]
 rw [if_pos hw]
 exact TP r wA hd h1.1 h1.2.1 h1.2.2.1 hx ho hi h1.2.2.2 h2 h3 h5.1 h5.2.1 h5.2.2 h6.1 h6.2 hK
theorem GJ {P : Program} {ops : Array Oper} {bar : Oper -> Bool} {o : Oper} {rest : List Oper} {σ : St} {Q : St -> Prop} {T : TypeId} {x y : Operand} {t j i c size : Nat} {rows : List (List D)} {ds : List D} {l : List (Nat × Nat)} (wA : o.op = .store T x y) (hg : o.guard = none) (hd : o.dst = none) (wj : bar o = true)
  (hx : unc (look P σ 0 x) = .one (.ptr t j i c)) (ho : σ.ob t j = .arr true size rows) (hi : i < rows.length) (h1 : Kg P T = true /\ gOf (look P σ 0 x) = true /\ gOf (look P σ T y) = true /\ (unc (look P σ T y)).flat = true)
  (h2 : X7 σ (unc (look P σ T y)).cells = some ds) (h3 : XF σ (unc (look P σ T y)).cells) (h4 : Z7 (unc (look P σ T y)).cells = l) (h5 : l.Nodup /\ (t, j) ∉ l /\ (σ.ZX l).Jh (At.isT t) = false) (h6 : ds.length = P.cellsOf T /\ c + P.cellsOf T <= size)
  (h : Ev P ops bar rest ((σ.ZX l).ZT t j (.arr true size (rows.set i (place (rowAt rows i) c ds)))) Q) : zk P ops bar o rest σ Q := by
 have hm : StM P σ T x y t j i c size rows ds l := ⟨hx, ho, hi, h1, h2, h3, h4, h5, h6⟩
 refine ⟨_, .inr ⟨wj, UD wA hg hd hm, fun d' _ hc => XH (Xb hc), fun _ => ⟨⟨by rw [St.YR, St.QM], fun u => by rw [St.Y2, St.Jk]⟩, fun q hq => ?_, fun t' cells hb => ?_⟩, fun hh => by simp [zj, wA] at hh, fun hh _ => by simp [QL, wA] at hh⟩, Xw h⟩
 ·rw [<- Vo]
  exact ⟨UD wA hg hd (hm.Xo wA q hq), fun d' _ hc => XH (Xb hc)⟩
 ·exact UX hm.h2 hm.h4 hm.ho hm.h5.2.1 hb
theorem P7 {P : Program} {ops : Array Oper} {o : Oper} {σ : St} {T : TypeId} {x y : Operand} {t j i size : Nat} {rows : List (List D)} {ds : List D} {l : List (Nat × Nat)} (wA : o.op = .store T x y) (hg : o.guard = none) (hd : o.dst = none) (vm : ds.length = size) (h : StM P σ T x y t j i 0 size rows ds l) :
  xS P ops o σ ((σ.ZX l).ZT t j (.arr true size (rows.set i ds))) := by
 rintro T0 B a w K Q' ⟨X, hh, r⟩ hK
 refine UD wA hg hd h T0 B a w K Q' ⟨X, hh, r⟩ ?_
 have h0 := r.obj t j
 rw [h.ho] at h0
 obtain ⟨_, _, _, hz, _⟩ := h0
 have e : place (rowAt rows i) 0 ds = ds := by
  have hr : (rowAt rows i).length = size := by
   have : rowAt rows i = rows[i]'h.hi := by simp [rowAt, List.getD_eq_getElem?_getD, List.getElem?_eq_getElem h.hi]
   rw [this]; exact hz _ (List.getElem_mem h.hi)
  unfold place
  rw [List.take_zero, List.nil_append, List.drop_eq_nil_of_le (by omega), List.append_nil]
 rw [e]; exact hK
theorem GB {P : Program} {ops : Array Oper} {bar : Oper -> Bool} {o : Oper} {rest : List Oper} {σ : St} {Q : St -> Prop} {T : TypeId} {x y : Operand} {t j i size : Nat} {rows : List (List D)} {ds : List D} {l : List (Nat × Nat)} (wA : o.op = .store T x y) (hg : o.guard = none) (hd : o.dst = none) (wj : bar o = true)
  (hx : unc (look P σ 0 x) = .one (.ptr t j i 0)) (ho : σ.ob t j = .arr true size rows) (hi : i < rows.length) (h1 : Kg P T = true /\ gOf (look P σ 0 x) = true /\ gOf (look P σ T y) = true /\ (unc (look P σ T y)).flat = true)
  (h2 : X7 σ (unc (look P σ T y)).cells = some ds) (h3 : XF σ (unc (look P σ T y)).cells) (h4 : Z7 (unc (look P σ T y)).cells = l) (h5 : l.Nodup /\ (t, j) ∉ l /\ (σ.ZX l).Jh (At.isT t) = false) (h6 : ds.length = P.cellsOf T /\ P.cellsOf T = size)
  (h : Ev P ops bar rest ((σ.ZX l).ZT t j (.arr true size (rows.set i ds))) Q) : zk P ops bar o rest σ Q := by
 have hm : StM P σ T x y t j i 0 size rows ds l := ⟨hx, ho, hi, h1, h2, h3, h4, h5, h6.1, by omega⟩
 have hf : ds.length = size := by omega
 refine ⟨_, .inr ⟨wj, P7 wA hg hd hf hm, fun d' _ hc => XH (Xb hc), fun _ => ⟨⟨by rw [St.YR, St.QM], fun u => by rw [St.Y2, St.Jk]⟩, fun q hq => ?_, fun t' cells hb => ?_⟩, fun hh => by simp [zj, wA] at hh, fun hh _ => by simp [QL, wA] at hh⟩, Xw h⟩
 ·rw [<- Vo]
  exact ⟨P7 wA hg hd hf (hm.Xo wA q hq), fun d' _ hc => XH (Xb hc)⟩
 ·exact UX hm.h2 hm.h4 hm.ho hm.h5.2.1 hb
structure StN (P : Program) (σ : St) (T : TypeId) (x y : Operand) (t j i c k q n size : Nat) (s rows : List (List D)) (ds : List D) (l : List (Nat × Nat)) : Prop where
 hx : unc (look P σ 0 x) = .one (.tref t j i c (some (k * n + q)))
 ho : σ.ob t j = .arr true size rows
 hi : i < rows.length
 hc : (rows.getD i [])[c]? = some (.sl n s)
 hk : k < s.length
 h1 : Kg P T = true /\ gOf (look P σ 0 x) = true /\ gOf (look P σ T y) = true /\ (unc (look P σ T y)).flat = true
 h2 : X7 σ (unc (look P σ T y)).cells = some ds
 h3 : XF σ (unc (look P σ T y)).cells
 h4 : Z7 (unc (look P σ T y)).cells = l
 h5 : l.Nodup /\ (t, j) ∉ l
 h6 : ds.length = P.cellsOf T /\ q + P.cellsOf T <= n
theorem StN.Xo {P : Program} {o : Oper} {T : TypeId} {x y : Operand} (wA : o.op = .store T x y) {t j i c k n0 n size : Nat} {s rows : List (List D)} {ds : List D} {l : List (Nat × Nat)} : ∀ (q : List (Nat × V)) {σ : St}, (∀ p ∈ q, yr o p.1 = true /\ Ud p.2 = true) -> StN P σ T x y t j i c k n0 n size s rows ds l -> StN P (σ.Xo q) T x y t j i c k n0 n size s rows ds l
 | [], _, _, h => h
 | p :: q, σ, hq, h => by
  refine StN.Xo wA q (fun p' rf => hq p' (by simp [rf])) ?_
  obtain ⟨hu, hp⟩ := hq p (by simp)
  simp only [yr, wA, Bool.and_eq_true, Bool.not_eq_true'] at hu
  refine ⟨?_, ?_, h.hi, h.hc, h.hk, ?_, ?_, ?_, ?_, h.h5, h.h6⟩
  ·rw [YY hu.1]; exact h.hx
  ·rw [St.Xl]; exact h.ho
  ·rw [YY hu.1, YY hu.2]; exact h.h1
  ·rw [YY hu.2, UN]; exact h.h2
  ·rw [YY hu.2, kD]; exact h.h3
  ·rw [YY hu.2]; exact h.h4
theorem OG {P : Program} {ops : Array Oper} {o : Oper} {σ : St} {T : TypeId} {x y : Operand} {t j i c k q n size : Nat} {s rows : List (List D)} {ds : List D} {l : List (Nat × Nat)} (wA : o.op = .store T x y) (hg : o.guard = none) (hd : o.dst = none) (h : StN P σ T x y t j i c k q n size s rows ds l) :
  xS P ops o σ ((σ.ZX l).ZT t j (.arr true size (rows.set i (place (rowAt rows i) c [.sl n (s.set k (place (rowAt s k) q ds))])))) := by
 obtain ⟨hx, ho, hi, hc, hk, h1, h2, h3, h4, h5, h6⟩ := h
 subst h4
 rintro T0 B a w K Q' ⟨X, hh, r⟩ hK
 have hw : Region.wanted o (yielded ops a.tmps) = true := by simp [Region.wanted, hg]
 rw [if_pos hw]
 exact TM r wA hd h1.1 h1.2.1 h1.2.2.1 hx ho hi hc hk h1.2.2.2 h2 h3 h5.1 h5.2 h6.1 h6.2 hK
theorem I0 {P : Program} {ops : Array Oper} {bar : Oper -> Bool} {o : Oper} {rest : List Oper} {σ : St} {Q : St -> Prop} {T : TypeId} {x y : Operand} {t j i c k q n size : Nat} {s rows : List (List D)} {ds : List D} {l : List (Nat × Nat)} (wA : o.op = .store T x y) (hg : o.guard = none) (hd : o.dst = none) (wj : bar o = true)
  (hm : StN P σ T x y t j i c k q n size s rows ds l)
  (h : Ev P ops bar rest ((σ.ZX l).ZT t j (.arr true size (rows.set i (place (rowAt rows i) c [.sl n (s.set k (place (rowAt s k) q ds))])))) Q) : zk P ops bar o rest σ Q := by
 refine ⟨_, .inr ⟨wj, OG wA hg hd hm, fun d' _ hc => XH (Xb hc), fun _ => ⟨⟨by rw [St.YR, St.QM], fun u => by rw [St.Y2, St.Jk]⟩, fun q hq => ?_, fun t' cells hb => ?_⟩, fun hh => by simp [zj, wA] at hh, fun hh _ => by simp [QL, wA] at hh⟩, Xw h⟩
 ·rw [<- Vo]
  exact ⟨OG wA hg hd (hm.Xo wA q hq), fun d' _ hc => XH (Xb hc)⟩
 ·exact UX hm.h2 hm.h4 hm.ho hm.h5.2 hb
end Go.Vm
namespace Go.Vm
open Go.RowKit
def Wg (P : Program) (σ : St) : ResultVar -> Prop × List At
 | .tmp t => (match σ.get t with
  | .one x => (t < σ.length, [x])
  | .agg [] => (t < σ.length, [])
  | .agg (x :: y :: xs) => (t < σ.length, x :: y :: xs)
  | _ => (False, []))
 | .cell t T => (match σ.get t with
  | .one (.bptr u c) => (match σ.ob u 0 with
    | .box cells => (Kg P T = true /\ qc P T = true /\ P.cellsOf T ≠ 1 /\ c + P.cellsOf T <= cells.length, cut cells c (P.cellsOf T))
    | _ => (False, []))
  | _ => (False, []))
def QC (P : Program) (σ : St) : List ResultVar -> Prop × List (List At)
 | [] => (True, [])
 | r :: rs => ((Wg P σ r).1 /\ (QC P σ rs).1, (Wg P σ r).2 :: (QC P σ rs).2)
theorem IM {P : Program} {σ : St} {r : ResultVar} (h : (Wg P σ r).1) : Si P σ r (Wg P σ r).2 := by
 cases r with
 | tmp t =>
  simp only [Wg] at h ⊢
  simp only [Si]
  cases hx : σ.get t with
  | one x => rw [hx] at h; exact ⟨rfl, h⟩
  | agg xs =>
   rw [hx] at h
   match xs, h with
   | [], h => exact ⟨rfl, h⟩
   | [x], h => exact h.elim
   | x :: y :: xs, h => exact ⟨rfl, h⟩
  | any => rw [hx] at h; exact h.elim
  | tup xs => rw [hx] at h; exact h.elim
  | cnd g x => rw [hx] at h; exact h.elim
  | fix u x => rw [hx] at h; exact h.elim
 | cell t T =>
  simp only [Wg] at h ⊢
  split at h
  ·rename_i u c hx
   split at h
   ·rename_i cells ho
    exact ⟨u, c, cells, hx, ho, h.1, h.2.1, h.2.2.1, h.2.2.2, rfl⟩
   ·exact h.elim
  ·exact h.elim
theorem qw {P : Program} {σ : St} : ∀ {rs : List ResultVar}, (QC P σ rs).1 -> jY P σ rs (QC P σ rs).2
 | [], _ => rfl
 | _ :: _, h => ⟨_, _, IM h.1, qw h.2, rfl⟩
theorem FQ {P : Program} {fn : Func} {σ : St} {res : List (List D)} {rv : List ResultVar} (hf : fn.results = rv.toArray) (h : (QC P σ rv).1 /\ zo σ (QC P σ rv).2 = some res) : NO P fn false res .ret σ :=
 ⟨.inl rfl, _, by rw [hf]; exact qw h.1, by simpa using h.2⟩
theorem EC {P : Program} {fn : Func} {σ : St} {res : List (List D)} {rv : List ResultVar} (hf : fn.results = rv.toArray) (h : (QC P σ rv).1 /\ qB σ (QC P σ rv).2 = some res /\ (Z7 (QC P σ rv).2.flatten).Nodup) : NO P fn true res .ret σ :=
 ⟨.inl rfl, _, by rw [hf]; exact qw h.1, by simpa using h.2⟩
theorem LS {P : Program} {fn : Func} {σ : St} {res : List (List D)} {rv : List ResultVar} (hf : fn.results = rv.toArray) (h : (QC P σ rv).1 /\ Qb σ (QC P σ rv).2 = some res /\ QK σ (QC P σ rv).2 /\ (Z7 (QC P σ rv).2.flatten).Nodup) : IB P fn res .ret σ :=
 ⟨.inl rfl, _, by rw [hf]; exact qw h.1, h.2⟩
attribute [simp] MR Qb X7 mvD QK XF Rx Zq J0 Qx xM xC St.ZX Mz Lq Ou F4 yY jK Ps St.Jh V.Jh V.Nc Pl qW Jx At.isT
attribute [simp] isB bOf Ev stops EZ Wc evS Nr evV Pz Mi kY kZ Jn jF jV jm Vs lkI lkK Vm.look cst unc gOf zX V.flat V.cells St.put St.ZT St.new St.I5 St.GO St.Gb St.FA Pd zz Hy
 SO kF ldV cut place rowOf Jf Q0 At.O6 XW V.Qw Z4 K8 zu OA vOf QW Kz QC Wg zo qB ownRow zQ Z7 zg Wp Zs At.ref D.scalar Jq D.OK zD Gq XK
end Go.Vm
namespace Go.Vm
open Go.RowKit
section
variable {P : Program} {T0 : CS} {B : Nat -> Prop} {σ : St} {a : Act} {w w' : World} {X X' : Nat -> Prop} {h : Nat -> Nat -> Hd}
theorem OP {cs : List Value} {row : List D} {S : Nat -> Prop} (ho : Xz w cs row S) : ∃ (hf : Nat -> Hd) (Sk : Nat -> Nat -> Prop), (∀ j c, cs[j]? = some c -> (hf j).v = c) /\ (∀ k b, Sk k b -> S b) /\ (∀ i j b, Sk i b -> Sk j b -> i = j) /\
  ∀ j size rows, row[j]? = some (.sl size rows) -> (∀ b, (hf j).u b -> Sk j b) /\ (∀ b, blk (hf j).v = some b -> (hf j).u b) /\ ∀ T h ob, Xs T h ob w (hf j) (.arr true size rows) := by
 obtain ⟨hl, Sk, h1, h2, h3⟩ := ho
 have hex : ∀ j, ∃ hd : Hd, (∀ c, cs[j]? = some c -> hd.v = c) /\ (∀ size rows, row[j]? = some (.sl size rows) -> (∀ b, hd.u b -> Sk j b) /\ (∀ b, blk hd.v = some b -> hd.u b) /\ ∀ T h ob, Xs T h ob w hd (.arr true size rows)) := by
  intro j
  cases hj : row[j]? with
  | none => exact ⟨Hd.of ((cs[j]?).getD undef), fun c wu => by simp [Hd.of, wu], fun size rows hh => by cases hh⟩
  | some dd =>
   have se : j < cs.length := by rw [hl]; exact (List.getElem?_eq_some_iff.1 hj).1
   have rN : cs[j]? = some cs[j] := List.getElem?_eq_getElem se
   cases dd with
   | int k n => exact ⟨Hd.of cs[j], fun c wu => by rw [rN] at wu; cases wu; rfl, fun size rows hh => by cases hh⟩
   | bool k => exact ⟨Hd.of cs[j], fun c wu => by rw [rN] at wu; cases wu; rfl, fun size rows hh => by cases hh⟩
   | str k => exact ⟨Hd.of cs[j], fun c wu => by rw [rN] at wu; cases wu; rfl, fun size rows hh => by cases hh⟩
   | unk => exact ⟨Hd.of cs[j], fun c wu => by rw [rN] at wu; cases wu; rfl, fun size rows hh => by cases hh⟩
   | sl size rows =>
    have ho := h1 j _ _ rN hj
    generalize hv : cs[j] = v at ho
    cases ho with
    | sl v size rows S e xs pX ho hz hb hl hk ph wP =>
     refine ⟨⟨v, fun k => (xs[k]?).getD undef, Sk j⟩, fun c wu => by rw [rN, hv] at wu; cases wu; rfl, fun wW wK hh => ?_⟩
     cases hh
     exact ⟨fun b hb => hb, hb, fun T h ob => ⟨e, xs, ho, hz, ⟨hl, pX, hk, fun k b hb => ph k b hb, wP⟩, fun k x d hx _ _ => by simp [hx]⟩⟩
 obtain ⟨hf, rh⟩ := Classical.axiomOfChoice hex
 exact ⟨hf, Sk, fun j => (rh j).1, h2, h3, fun j => (rh j).2⟩
theorem Xz.top {T : CS} {cs : List Value} {row : List D} {S : Nat -> Prop} (ho : Xz w cs row S) : Zg (yJ T w) cs row := by
 obtain ⟨hl, Sk, h1, h2, h3⟩ := ho
 refine Zg.KD hl (fun k x d hx hd => ?_)
 have ho := h1 k x d hx hd
 cases ho with
 | int k n => exact Rd.int _ _
 | bool b => exact Rd.bool _
 | str s => exact Rd.str _
 | unk v h => exact Rd.unk _ h
 | sl v size rows S e xs pX ho hz hb hl hk ph wP => exact ⟨e, xs, ho⟩
def ES (n : Nat) (v : Value) (row : List D) (args : List (List D)) : St := (.fix v (vOf (QW 0 0 row)), Zq [] row) :: (Wp args ++ List.replicate (n - (args.length + 1)) (V.any, []))
def St.Ft : St -> List At -> List D -> St
 | σ, .sref t j _ _ :: xs, .sl size rows :: ds => St.Ft (σ.ZT t j (.arr true size rows)) xs ds
 | σ, _ :: xs, _ :: ds => St.Ft σ xs ds
 | σ, _, _ => σ
def O8 : List D -> List D -> Prop
 | .sl s r :: ds, .sl s' r' :: rJ => s = s' /\ r.length = r'.length /\ O8 ds rJ
 | .sl _ _ :: _, _ => False
 | _ :: ds, _ :: rJ => O8 ds rJ
 | [], [] => True
 | _, _ => False
def M3 (σ : St) : List At -> Prop
 | [] => True
 | .sref t j _ _ :: xs => (match σ.ob t j with | .arr true _ _ => True | _ => False) /\ M3 σ xs
 | _ :: xs => M3 σ xs
def At.E8 : At -> Bool
 | .tref _ _ _ _ _ => true
 | _ => false
theorem kp : ∀ {xs : List At} {t j : Nat}, (t, j) ∈ Z7 xs -> ∃ (k lo len : Nat), xs[k]? = some (At.sref t j lo len)
 | [], t, j, h => by cases h
 | x :: xs, t, j, h => by
  cases x with
  | sref t' j' lo len =>
   simp only [Z7, List.mem_cons, Prod.mk.injEq] at h
   rcases h with ⟨rfl, rfl⟩ | h
   ·exact ⟨0, lo, len, rfl⟩
   ·obtain ⟨k, lo, len, hk⟩ := kp h; exact ⟨k + 1, lo, len, by simpa using hk⟩
  | _ => obtain ⟨k, lo, len, hk⟩ := kp (xs := xs) h; exact ⟨k + 1, lo, len, by simpa using hk⟩
end
theorem V9 {σ : St} {d d' : Nat} {v : V} (wB : d ≠ d') (h : Yt σ d = true) : Yt (σ.put d' v) d = true := by
 unfold Yt at *; simp only [zi, if_neg wB]; exact h
end Go.Vm
