/- An abstract machine ON the model of Go, by value, and that it is sound: part Vf. No condition. -/
import Derived.Test.YtlilcnnajeeigaaGreatVb
set_option linter.unusedVariables false
set_option linter.unusedSimpArgs false
namespace Go.Vm
open Go.RowKit
def Lo (P : Program) (σ : St) (c : Call) (f : FuncId) (own : Bool) (res : List (List D)) : Prop :=
 ∃ rows, XP P σ c.args.toList c.argTypes.toList rows /\ Xk P f own rows res /\ (Z5 P σ c.args.toList c.argTypes.toList = true \/ Qq own res)
def Step (P : Program) (o : Oper) (d : Nat) (σ σ' : St) : Prop :=
 match o.op with
 | .alloc T => σ.fresh d = true /\ XH P T = true /\ ∃ row, xG P 12 T = some row /\ σ' = σ.new d (.one (.bptr d 0)) [.box row]
 | .box T x => σ.fresh d = true /\ gOf (look P σ T x) = true /\ (unc (look P σ T x)).flat = true /\ Zw d (unc (look P σ T x)).cells = false /\ σ' = σ.new d (.one (.bptr d 0)) [.box (unc (look P σ T x)).cells]
 | .buildSlice T n parts => (σ.fresh d = true /\ Ya P T = true /\ XH P (ZD P T) = true /\ 0 < P.cellsOf (ZD P T) /\ parts.toList.length = n /\ n * P.cellsOf (ZD P T) <= 16777216 /\
   ((∃ rows, Td P σ (ZD P T) (P.cellsOf (ZD P T)) parts.toList 0 rows /\ σ' = σ.new d (.one (.sref d 0 0 rows.length)) [.arr false (P.cellsOf (ZD P T)) rows]) \/
   (∃ rows, TN P σ (ZD P T) (P.cellsOf (ZD P T)) parts.toList 0 rows /\ Zw d rows.flatten = false /\ σ' = σ.new d (.one (.sref d 0 0 rows.length)) [.lit (P.cellsOf (ZD P T)) rows]))) \/
   ((Ya P T = true /\ XH P (ZD P T) = true /\ 0 < P.cellsOf (ZD P T) /\ parts.toList.length = n /\ n * P.cellsOf (ZD P T) <= 16777216) /\ ∃ rows, Td P σ (ZD P T) (P.cellsOf (ZD P T)) parts.toList 0 rows /\ σ' = σ.put d (.one (.d (.sl (P.cellsOf (ZD P T)) rows))))
 | .makeSlice T x y => x = y /\ σ.fresh d = true /\ Ya P T = true /\ XH P (ZD P T) = true /\ 0 < P.cellsOf (ZD P T) /\
   ∃ q z zr k n, (q = true -> Nm z = true) /\ xG P 12 (ZD P T) = some z /\ zD z = some zr /\ qo P σ x k (n : Nat) /\ P.bytesOf (ZD P T) * n <= 281474976710656 /\ n <= 9223372036854775807 /\ σ' = σ.new d (.one (.sref d 0 0 n)) [.arr q (P.cellsOf (ZD P T)) (List.replicate n zr)]
 | .call c =>
  (match c.callee with
  | .builtin .append => ∃ x y t, c.args = #[x, y] /\ c.argTypes = #[t, t] /\ gOf (look P σ t x) = true /\ gOf (look P σ t y) = true /\ Ya P t = true /\ XH P (ZD P t) = true /\ 0 < P.cellsOf (ZD P t) /\
    ∃ wI news σ1, WR σ (unc (look P σ t x)) (P.cellsOf (ZD P t)) wI σ1 /\ JG σ (unc (look P σ t y)) (P.cellsOf (ZD P t)) news /\ σ1.fresh d = true /\
     (wI.length + news.length) * P.bytesOf (ZD P t) <= 140737488355328 /\ wI.length + news.length <= 9223372036854775807 /\ σ' = σ1.new d (.one (.sref d 0 0 (wI.length + news.length))) [.arr false (P.cellsOf (ZD P t)) (wI ++ news)]
  | .value (.func f) => (∃ own res, Lo P σ c f own res /\ σ' = σ.put d (Kx res)) \/ (∃ res, Lo P σ c f true res /\ σ.fresh d = true /\ σ' = σ.new d (xZ d res) (zI res.flatten)) \/
    (∃ rows res qs, XP P σ c.args.toList c.argTypes.toList rows /\ YD P f rows res /\ KQ qs res.flatten /\ σ.fresh d = true /\ σ' = σ.new d (xZ d res) (Zs qs res.flatten))
  | _ => ∃ v, Z1 P σ o.op o.type v /\ σ' = σ.put d v)
 | .convert S T x =>
   (∃ v, Z1 P σ o.op o.type v /\ σ' = σ.put d v) \/
   (∃ l, gOf (look P σ S x) = true /\ VY P S = true /\ j7 P T = true /\ JG σ (unc (look P σ S x)) 1 (QE l) /\ σ' = σ.put d (.one (.d (.str ⟨l.toArray⟩)))) \/
   (∃ s, gOf (look P σ S x) = true /\ j7 P S = true /\ VY P T = true /\ unc (look P σ S x) = .one (.d (.str s)) /\ s.size <= 9223372036854775807 /\ σ' = σ.put d (.one (.d (.sl 1 (QE s.data.toList)))))
 | _ => ∃ v, Z1 P σ o.op o.type v /\ σ' = σ.put d v
def KR (P : Program) (σ : St) (T : TypeId) (x y : Operand) (σ' : St) : Prop :=
 ym P T = true /\ gOf (look P σ 0 x) = true /\ gOf (look P σ T y) = true /\ (unc (look P σ T y)).flat = true /\
  (match unc (look P σ 0 x) with
  | .one (.bptr t c) => ∃ cells, σ.ob t 0 = .box cells /\ (unc (look P σ T y)).cells.length = P.cellsOf T /\ c + P.cellsOf T <= cells.length /\ σ' = σ.Zh t 0 (.box (place cells c (unc (look P σ T y)).cells))
  | .one (.ptr t j i c) => ∃ q size rows ds, σ.ob t j = .arr q size rows /\ i < rows.length /\ rowOf σ (unc (look P σ T y)).cells = some ds /\ Ql (unc (look P σ T y)).cells = true /\ ds.length = P.cellsOf T /\ c + P.cellsOf T <= size /\
    (q = true -> ds.all D.scalar = true /\ (cut (rows.getD i []) c (P.cellsOf T)).all D.scalar = true) /\ σ' = σ.Zh t j (.arr q size (rows.set i (place (rows.getD i []) c ds)))
  | _ => False)
def zg (want : Bool) : V -> Option Bool
 | .one (.d (.bool b)) => some (b == want)
 | .cnd g (.one (.d (.bool b))) => some (g && (b == want))
 | .cnd false _ => some false
 | _ => none
def T6 (P : Program) (o : Oper) (σ : St) (v : V) : Prop :=
 match o.op with
 | .call c =>
  (match c.callee with
  | .value (.func f) => ∃ own res, Lo P σ c f own [res] /\ v = Kx [res]
  | _ => ∃ v0, Z1 P σ o.op o.type v0 /\ gOf v0 = true /\ v = unc v0 /\ v.flat = true)
 | _ => ∃ v0, Z1 P σ o.op o.type v0 /\ gOf v0 = true /\ v = unc v0 /\ v.flat = true
def YT (P : Program) (ops : Array Oper) (o : Oper) (σ σ' : St) : Prop :=
 match o.guard with
 | none =>
  (match o.dst with
  | some d => Step P o d σ σ'
  | none => (match o.op with | .store T x y => KR P σ T x y σ' | _ => False))
 | some (j, want) => ∃ dj d g v, (ops[j]?).bind (·.dst) = some dj /\ dj < σ.length /\ o.dst = some d /\ zg want (σ.get dj) = some g /\ (g = true -> T6 P o σ v) /\ σ' = σ.put d (.cnd g v)
def Tv (P : Program) (ops : Array Oper) (o : Oper) (σ σ' : St) : Prop :=
 ∀ (T0 : CS) (B : Nat -> Prop) (a : Act) (w : World) (K : Act -> World -> Prop) (Q : Exit -> Act -> World -> Prop), QK T0 B σ a w -> (∀ a' w', QK T0 B σ' a' w' -> Y0 B w w' -> K a' w') ->
  if Region.wanted o (yielded ops a.tmps) then o.wp P a w K Q else K (a.put o.dst undef) w
def Yc (σ : St) (d : Nat) : Bool := match σ[d]? with | some (.any, []) => true | some (.one (.d _), []) => true | _ => false
def SQ (o : Oper) (σ σ' : St) : Prop := ∀ d, o.dst ≠ some d -> Yc σ d = true -> Yc σ' d = true
def kA (o : Oper) : Bool := match o.op with | .store _ _ _ => true | _ => false
def Jt (d : Nat) : Operand -> Bool
 | .tmp t => t == d
 | _ => false
def qB (o : Oper) (d : Nat) : Bool := match o.op with | .store _ p q => !Jt d p && !Jt d q | _ => false
def SL : V -> Bool
 | .any => true
 | .one (.d _) => true
 | _ => false
def St.Qc : St -> List (Nat × V) -> St
 | σ, [] => σ
 | σ, p :: l => St.Qc (σ.put p.1 p.2) l
def Dw (P : Program) (ops : Array Oper) (o : Oper) (σ σ' : St) : Prop :=
 (σ'.length = σ.length /\ ∀ u, σ'.get u = σ.get u) /\ (∀ l : List (Nat × V), (∀ p ∈ l, qB o p.1 = true /\ SL p.2 = true) -> Tv P ops o (σ.Qc l) (σ'.Qc l) /\ SQ o (σ.Qc l) (σ'.Qc l)) /\ ∀ t cells, σ.ob t 0 = .box cells -> σ'.ob t 0 = .box cells
def xF (o : Oper) : Bool := match o.op with | .call ⟨.builtin .append, _, _⟩ => true | _ => false
theorem MR {o : Oper} (h : kA o = true) : xF o = false := by
 unfold kA at h
 split at h
 ·rename_i wA; simp [xF, wA]
 ·cases h
def S9 (o : Oper) (d : Nat) : Bool := !(o.op.operands.toList.any (Jt d))
def DM (P : Program) (ops : Array Oper) (o : Oper) (σ σ' : St) : Prop :=
 ∃ d, o.dst = some d /\ σ'.length = σ.length /\ (∀ t, t ≠ d -> σ'.get t = σ.get t /\ (σ.get t).ref d = false) /\ (∀ t j cells, t ≠ d -> σ'.ob t j = .box cells -> σ.ob t j = .box cells /\ Zw d cells = false) /\
  (∀ t j q s rows, t ≠ d -> σ'.ob t j = .arr q s rows -> ∃ wT, σ.ob t j = .arr q s wT) /\
  ∀ l : List (Nat × V), (∀ p ∈ l, p.1 ≠ d /\ S9 o p.1 = true /\ p.2.ref d = false) -> Tv P ops o (σ.Qc l) (σ'.Qc l) /\ SQ o (σ.Qc l) (σ'.Qc l)
def Dp (P : Program) (t : TypeId) : Bool := match P.underlying t with | some (.pointer _) => true | _ => false
def UP (bar : Oper -> Bool) (o : Oper) : Bool := !bar { o with dst := some 1000000007 }
def DV (bar : Oper -> Bool) (o : Oper) : Bool := (match o.dst with | some d => bar { o with dst := some (d + 2000000) } | none => false) && UP bar o
def Qw (P : Program) (o : Oper) : Bool := match o.op with | .call ⟨.value (.func _), _, ⟨T :: _⟩⟩ => Dp P T | _ => false
def JY (t d : Nat) (cs : List At) (v : V) : Option (List Ob) -> St -> St
 | none, σ => (σ.Zh t 0 (.box cs)).put d v
 | some os, σ => (σ.Zh t 0 (.box cs)).new d v os
def DQ (P : Program) (ops : Array Oper) (o : Oper) (σ σ' : St) : Prop :=
 ∃ d t cells cs v os, o.dst = some d /\ σ.ob t 0 = .box cells /\ (∃ z r, (∃ f ts, o.op = .call ⟨.value (.func f), ⟨z :: r⟩, ts⟩) /\ ∃ ty, unc (look P σ ty z) = .one (.bptr t 0)) /\ (∀ u, Zw u cells = false /\ Zw u cs = false) /\
  (∀ u, (os = none \/ u ≠ d) -> v.ref u = false /\ ∀ l, os = some l -> YH u l = false) /\ (os ≠ none -> (σ.Zh t 0 (.box cs)).fresh d = true) /\ σ' = JY t d cs v os σ /\
  ∀ σ2 : St, σ.length = σ2.length -> (∀ z ∈ o.op.operands.toList, ∀ ty, look P σ ty z = look P σ2 ty z) -> (∀ z ∈ o.op.operands.toList, ∀ ty u, (look P σ ty z).ref u = true -> ∀ j, σ.ob u j ≠ .none -> σ2.ob u j = σ.ob u j) -> (os ≠ none -> (σ2.Zh t 0 (.box cs)).fresh d = true) ->
   Tv P ops o σ2 (JY t d cs v os σ2) /\ SQ o σ2 (JY t d cs v os σ2)
theorem L2 {P : Program} {o : Oper} (h : kA o = true) : Qw P o = false := by
 unfold kA at h
 split at h
 ·rename_i wA; simp [Qw, wA]
 ·cases h
theorem FM {P : Program} {o : Oper} (h : xF o = true) : Qw P o = false := by
 unfold xF at h
 split at h
 ·rename_i wA; simp [Qw, wA]
 ·cases h
def Qg (P : Program) (ops : Array Oper) (bar : Oper -> Bool) (o : Oper) (σ σ' : St) : Prop := YT P ops o σ σ' \/ (bar o = true /\ Tv P ops o σ σ' /\ SQ o σ σ' /\ (kA o = true -> Dw P ops o σ σ') /\ (xF o = true -> DM P ops o σ σ') /\ (Qw P o = true -> UP bar o = true -> DQ P ops o σ σ'))
def N0 (P : Program) (ops : Array Oper) (bar : Oper -> Bool) : List Oper -> St -> (St -> Prop) -> Prop
 | [], σ, Q => Q σ
 | o :: rest, σ, Q => ∃ σ', Qg P ops bar o σ σ' /\ N0 P ops bar rest σ' Q
section
variable {P : Program} {T0 : CS} {B : Nat -> Prop} {σ : St} {a : Act} {w w' : World} {X X' : Nat -> Prop} {h : Nat -> Nat -> Hd}
theorem Uh (d : Nat) : ∀ (n : Nat) (t : TypeId) (row : List At), xG P n t = some row -> Zw d row = false := by
 intro n
 induction n with
 | zero => intro t row hr; simp [xG] at hr
 | succ n ih =>
  intro t row hr
  have o9 : ∀ (rs : List (List At)), (∀ r ∈ rs, Zw d r = false) -> Zw d rs.flatten = false := by
   intro rs uN
   have app : ∀ (xs ys : List At), Zw d xs = false -> Zw d ys = false -> Zw d (xs ++ ys) = false := by
    intro xs ys hx hy
    induction xs with
    | nil => exact hy
    | cons x xs r5 => simp only [List.cons_append, Zw, Bool.or_eq_false_iff] at hx ⊢; exact ⟨hx.1, r5 hx.2⟩
   induction rs with
   | nil => rfl
   | cons r rs r5 => rw [List.flatten_cons]; exact app _ _ (uN r (by simp)) (r5 (fun r hr => uN r (by simp [hr])))
  rw [xG] at hr
  split at hr
  ·cases hr; rfl
  ·cases hr; rfl
  ·cases hr; rfl
  ·cases hr; rfl
  ·rename_i fs _
   simp only [Option.map_eq_some_iff] at hr
   obtain ⟨rs, uN, rfl⟩ := hr
   refine o9 rs ?_
   have : ∀ (l : List Field) (rs : List (List At)), l.mapM (fun f => xG P n f.type) = some rs -> ∀ r ∈ rs, Zw d r = false := by
    intro l
    induction l with
    | nil => intro rs hh r hr; simp at hh; subst hh; cases hr
    | cons f l r5 =>
     intro rs hh r hr
     simp only [List.mapM_cons, Option.bind_eq_bind, Option.bind_eq_some_iff] at hh
     obtain ⟨r0, uo, oW, pn, hh⟩ := hh
     simp at hh; subst hh
     rcases List.mem_cons.1 hr with rfl | hr
     ·exact ih f.type _ uo
     ·exact r5 oW pn r hr
   exact this fs.toList rs uN
  ·simp only [Option.map_eq_some_iff] at hr
   obtain ⟨r0, uo, rfl⟩ := hr
   exact o9 _ (fun r hr => by rw [List.eq_of_mem_replicate hr]; exact ih _ _ uo)
  ·cases hr
theorem jS {o : Oper} {d : Nat} {v : V} (r : Rel T0 B σ a w X h) (hd : o.dst = some d) (hex : ∃ val, (execOp a.eval o).run P w = .ok (.value val) w /\ XW (Tof T0 X) h σ.ob w v val)
  {K : Act -> World -> Prop} {Q : Exit -> Act -> World -> Prop} (hK : ∀ a' w', QK T0 B (σ.put d v) a' w' -> Y0 B w w' -> K a' w') : o.wp P a w K Q := by
 obtain ⟨val, wV, hv⟩ := hex
 unfold Oper.wp
 rw [wV, Oper.upon_value, hd]
 exact hK _ _ ⟨X, h, r.put d v val hv⟩ (Y0.refl _ _)
theorem I6 (r : Rel T0 B σ a w X h) {o : Oper} {d : Nat} {σ' : St} (hd : o.dst = some d) (hs : Step P o d σ σ') {K : Act -> World -> Prop} {Q : Exit -> Act -> World -> Prop}
  (hK : ∀ a' w', QK T0 B σ' a' w' -> Y0 B w w' -> K a' w') : o.wp P a w K Q := by
 have vW : (∃ v, Z1 P σ o.op o.type v /\ σ' = σ.put d v) -> o.wp P a w K Q := by
  rintro ⟨v, hv, rfl⟩
  exact jS r hd (RO r hv) hK
 unfold Step at hs
 split at hs
 ·rename_i T wA
  obtain ⟨hf, hz, row, we, rfl⟩ := hs
  exact Ly r wA hd hf hz we (Uh d _ _ _ we) hK
 ·rename_i T x wA
  obtain ⟨hf, hg, vg, hr, rfl⟩ := hs
  exact H4 r wA hd hf hg vg hr hK
 ·rename_i T n parts wA
  rcases hs with ⟨hf, h1, h2, h3, h4, h5, ⟨rows, h6, rfl⟩ | ⟨rows, h6, h7, rfl⟩⟩ | ⟨⟨h1, h2, h3, h4, h5⟩, rows, h6, rfl⟩
  ·exact SF r wA hd hf h1 h2 h3 h4 h5 h6 hK
  ·exact VD r wA hd hf h1 h2 h3 h4 h5 h6 h7 hK
  ·exact My r wA hd h1 h2 h3 h4 h5 h6 hK
 ·rename_i T x y wA
  obtain ⟨rfl, hf, h1, h2, h3, q, z, zr, k, n, hq, h4, h5, h6, h7, h8, rfl⟩ := hs
  cases q with
  | false => exact RZ r wA hd hf h1 h2 h4 h5 h3 h6 h7 h8 hK
  | true => exact PN r wA hd hf h1 h2 h4 h5 (hq rfl) h3 h6 h7 h8 hK
 ·rename_i c wA
  split at hs
  ·rename_i hc
   obtain ⟨x, y, t, ha, uR, h1, h2, h3, h4, h5, wI, news, σ1, h6, h7, h8, h9, rz, rfl⟩ := hs
   refine Ma r (t := t) (x := x) (y := y) ?_ hd h1 h2 h3 h4 h5 h6 h7 h8 h9 rz hK
   rw [wA]
   obtain ⟨cc, ca, ct⟩ := c
   simp only at hc ha uR
   rw [hc, ha, uR]
  ·rename_i f hc
   rcases hs with ⟨own, res, ⟨rows, ha, hs, w6⟩, rfl⟩ | ⟨res, ⟨rows, ha, hs, w6⟩, hf, rfl⟩ | ⟨rows, res, qs, ha, hs, hq, hf, rfl⟩
   ·rcases w6 with w6 | w6
    ·exact qF r wA hc hd ha true (fun _ => w6) (fun hh => by cases hh) hs hK
    ·exact qF r wA hc hd ha false (fun hh => by cases hh) (fun _ => w6) hs hK
   ·rcases w6 with w6 | w6
    ·exact US r wA hc hd hf ha true (fun _ => w6) (fun hh => by cases hh) hs hK
    ·exact US r wA hc hd hf ha false (fun hh => by cases hh) (fun _ => w6) hs hK
   ·exact LG r qs wA hc hd hf ha hs hq hK
  ·exact vW hs
 ·rename_i S T x wA
  rcases hs with hs | ⟨l, h1, h2, h3, h4, rfl⟩ | ⟨s, h1, h2, h3, h4, h5, rfl⟩
  ·exact vW hs
  ·exact jS r hd (UJ r wA h1 h2 h3 h4) hK
  ·exact UG r wA hd h1 h2 h3 h4 h5 hK
 ·exact vW hs
theorem MX (r : Rel T0 B σ a w X h) {o : Oper} {T : TypeId} {x y : Operand} {σ' : St} (wA : o.op = .store T x y) (hd : o.dst = none) (hs : KR P σ T x y σ') {K : Act -> World -> Prop} {Q : Exit -> Act -> World -> Prop}
  (hK : ∀ a' w', QK T0 B σ' a' w' -> Y0 B w w' -> K a' w') : o.wp P a w K Q := by
 obtain ⟨ht, sL, sM, vg, hs⟩ := hs
 split at hs
 ·rename_i t c hx
  obtain ⟨cells, ho, hl, hle, rfl⟩ := hs
  exact PO r wA hd ht sL sM hx ho vg hl hle hK
 ·rename_i t j i c hx
  obtain ⟨q, size, rows, ds, ho, hi, sv, wa, hl, hle, hq, rfl⟩ := hs
  refine Pt r wA hd ht sL sM hx ho hi vg sv wa hl hle (fun hh => ⟨fun d wQ => ?_, fun k d hk wQ => ?_⟩) hK
  ·exact List.all_eq_true.1 (hq hh).1 d wQ
  ·refine List.all_eq_true.1 (hq hh).2 d (List.mem_of_getElem? (i := k) ?_)
   simp only [cut, List.getElem?_take, if_pos hk, List.getElem?_drop]; exact wQ
 ·exact hs.elim
theorem S7 {T : CS} {ob : Nat -> Nat -> Ob} {v : V} {val : Value} (hf : (unc v).flat = true) (hv : XW T h ob w (unc v) val) : QV T h ob w (unc v) val := by
 cases hu : unc v with
 | one x => rw [hu] at hv; exact hv
 | agg xs => rw [hu] at hv; exact hv
 | any => rw [hu] at hf; cases hf
 | tup xs => rw [hu] at hf; cases hf
 | cnd g x => rw [hu] at hf; cases hf
 | fix u x => rw [hu] at hf; cases hf
theorem IB (r : Rel T0 B σ a w X h) {ops : Array Oper} {o : Oper} {j dj : Nat} {want g : Bool} (tM : o.guard = some (j, want)) (ve : (ops[j]?).bind (·.dst) = some dj) (wN : dj < σ.length) (hg : zg want (σ.get dj) = some g) :
  Region.wanted o (yielded ops a.tmps) = g := by
 have vK : dj < a.tmps.size := by rw [r.size]; exact wN
 have hv := r.slot dj wN
 have nA : a.tmps.getD dj undef = a.tmps[dj] := by simp [vK]
 rw [nA] at hv
 have hy : yielded ops a.tmps j = (match a.tmps[dj] with | .bool b => some b | _ => none) := by
  unfold yielded
  rw [ve]
  simp only [Option.bind_some, Array.getElem?_eq_getElem vK]
  cases a.tmps[dj] <;> rfl
 simp only [Region.wanted, tM, hy]
 unfold zg at hg
 split at hg
 ·rename_i b ox
  rw [ox] at hv
  rw [yG hv]
  cases hg
  cases b <;> cases want <;> rfl
 ·rename_i g0 b ox
  rw [ox] at hv
  cases hg
  cases g0 with
  | true =>
   rw [yG (hv.1 rfl)]
   cases b <;> cases want <;> rfl
  | false =>
   rw [hv.2 rfl]
   simp [undef]
 ·rename_i ox
  rw [ox] at hv
  cases hg
  rw [hv.2 rfl]
  simp [undef]
 ·cases hg
theorem Ln (r : Rel T0 B σ a w X h) {ops : Array Oper} {o : Oper} {σ' : St} (hs : YT P ops o σ σ') {K : Act -> World -> Prop} {Q : Exit -> Act -> World -> Prop}
  (hK : ∀ a' w', QK T0 B σ' a' w' -> Y0 B w w' -> K a' w') : if Region.wanted o (yielded ops a.tmps) then o.wp P a w K Q else K (a.put o.dst undef) w := by
 unfold YT at hs
 split at hs
 ·rename_i hg
  have hw : Region.wanted o (yielded ops a.tmps) = true := by simp [Region.wanted, hg]
  rw [if_pos hw]
  split at hs
  ·rename_i d hd; exact I6 r hd hs hK
  ·rename_i hd
   split at hs
   ·rename_i T x y wA; exact MX r wA hd hs hK
   ·exact hs.elim
 ·rename_i j want hg
  obtain ⟨dj, d, g, v, ve, wN, hd, vp, hs, rfl⟩ := hs
  rw [IB r hg ve wN vp]
  cases g with
  | false =>
   simp only [Bool.false_eq_true, if_false]
   rw [hd]
   exact hK _ _ ⟨X, h, r.put d _ _ ⟨(fun hh => by cases hh), fun _ => rfl⟩⟩ (Y0.refl _ _)
  | true =>
   simp only [if_true]
   have w5 := hs rfl
   clear hs
   have vW : (∃ v0, Z1 P σ o.op o.type v0 /\ gOf v0 = true /\ v = unc v0 /\ v.flat = true) -> o.wp P a w K Q := by
    rintro ⟨v0, rC, oy, rfl, vg⟩
    obtain ⟨val, wV, hv⟩ := RO r rC
    refine jS (v := .cnd true (unc v0)) r hd ⟨val, wV, ⟨fun _ => S7 vg (hv.unc oy), fun hh => by cases hh⟩⟩ hK
   unfold T6 at w5
   split at w5
   ·rename_i c wA
    split at w5
    ·rename_i f hc
     obtain ⟨own, res, ⟨rows, ha, hs, w6⟩, rfl⟩ := w5
     have fin : ∀ a' w', QK T0 B (σ.put d (Kx [res])) a' w' -> Y0 B w w' -> K a' w' := by
      rintro a' w' ⟨X', h', r'⟩ hb
      refine hK a' w' ⟨X', h', ?_⟩ hb
      refine ⟨by rw [r'.size, St.XZ, St.XZ], r'.defers, r'.hB, r'.hX, r'.hT, fun t ht => ?_, fun t j => ?_, fun t j b => ?_, fun t j b => ?_, fun t j t' j' b => ?_⟩
      ·rw [St.XZ] at ht
       have h0 := r'.slot t (by rw [St.XZ]; exact ht)
       rw [St.XY] at h0 ⊢
       rw [St.Qp] at h0 ⊢
       by_cases hh : t = d /\ d < σ.length
       ·rw [if_pos hh] at h0 ⊢
        refine ⟨fun _ => ?_, fun hh => by cases hh⟩
        have vg : (unc (vOf (res.map At.d))).flat = true := by
         match res.map At.d with
         | [] => rfl
         | [x] => rfl
         | x :: y :: xs => rfl
        have hu : unc (vOf (res.map At.d)) = vOf (res.map At.d) := by
         match res.map At.d with
         | [] => rfl
         | [x] => rfl
         | x :: y :: xs => rfl
        have := S7 (v := vOf (res.map At.d)) vg (by rw [hu]; exact h0)
        rw [hu] at this; exact this
       ·rw [if_neg hh] at h0 ⊢; exact h0
      ·have := r'.obj t j; rw [St.XY] at this ⊢; exact this
      ·have := r'.ub t j b; rw [St.XY] at this ⊢; exact this
      ·have := r'.own t j b; rw [St.XY] at this ⊢; exact this
      ·have := r'.inj t j t' j' b; rw [St.XY] at this ⊢; exact this
     rcases w6 with w6 | w6
     ·exact qF r wA hc hd ha true (fun _ => w6) (fun hh => by cases hh) hs fin
     ·exact qF r wA hc hd ha false (fun hh => by cases hh) (fun _ => w6) hs fin
    ·exact vW w5
   ·exact vW w5
theorem Vn {ops : Array Oper} {bar : Oper -> Bool} {o : Oper} {σ' : St} (hs : Qg P ops bar o σ σ') : Tv P ops o σ σ' := by
 rcases hs with hs | hs
 ·rintro T0 B a w K Q ⟨X, h, r⟩ hK
  exact Ln r hs hK
 ·exact hs.2.1
theorem PB {ops : Array Oper} {bar : Oper -> Bool} : ∀ {l : List Oper} {σ : St} {a : Act} {w : World} {Q : St -> Prop} {Q' : Exit -> Act -> World -> Prop}, N0 P ops bar l σ Q -> QK T0 B σ a w ->
  (∀ σ' a' w', Q σ' -> QK T0 B σ' a' w' -> Y0 B w w' -> Q' .normal a' w') -> wpList P ops Q' l a w
 | [], σ, a, w, Q, Q', hr, vY, hK => hK σ a w hr vY (Y0.refl _ _)
 | o :: l, σ, a, w, Q, Q', ⟨σ', hs, hr⟩, vY, hK => by
  refine wpList_step fun K hG => ?_
  exact Vn hs _ _ _ _ _ _ vY (fun a' w' vY hb => hG _ _ (PB hr vY (fun σ2 a2 w2 hq ss wo => hK σ2 a2 w2 hq ss (hb.trans wo))))
end
end Go.Vm
namespace Go.Vm
open Go.RowKit
def AWP (P : Program) (c : Code) (Q : Exit -> St -> Prop) (σ : St) : Prop :=
 ∀ (T0 : CS) (B : Nat -> Prop) (a : Act) (w : World), QK T0 B σ a w -> c.wp P (fun e a' w' => ∃ σ', Q e σ' /\ QK T0 B σ' a' w' /\ Y0 B w w') a w
def Wk (σ σ' : St) : Prop := ∀ (T0 : CS) (B : Nat -> Prop) (a : Act) (w : World), QK T0 B σ a w -> QK T0 B σ' a w
def OO (next : St -> Prop) (Q : Exit -> St -> Prop) : Exit -> St -> Prop
 | .normal, σ => next σ
 | e, σ => Q e σ
def Vg (id : Nat) (Q : Exit -> St -> Prop) : Exit -> St -> Prop
 | .exit pe, σ => if pe = id then Q .normal σ else Q (.exit pe) σ
 | e, σ => Q e σ
section
variable {P : Program} {Q : Exit -> St -> Prop} {σ : St}
theorem Wk.refl (σ : St) : Wk σ σ := fun _ _ _ _ h => h
theorem Wk.trans {σ σ' σ'' : St} (h : Wk σ σ') (k : Wk σ' σ'') : Wk σ σ'' := fun _ _ _ _ r => k _ _ _ _ (h _ _ _ _ r)
theorem Lc {c : Code} {Q' : Exit -> St -> Prop} (h : ∀ e σ, Q e σ -> Q' e σ) (k : AWP P c Q σ) : AWP P c Q' σ :=
 fun T0 B a w r => wp_mono (k T0 B a w r) fun e _ _ ⟨σ', hq, hr⟩ => ⟨σ', h e σ' hq, hr⟩
theorem FG (h : Q .normal σ) : AWP P .skip Q σ := fun _ B _ w r => wp_skip ⟨σ, h, r, Y0.refl B w⟩
theorem FC {id : Nat} (h : Q (.exit id) σ) : AWP P (.exit id) Q σ := fun _ B _ w r => wp_exit ⟨σ, h, r, Y0.refl B w⟩
theorem Fs (h : Q .ret σ) : AWP P .ret Q σ := fun _ B _ w r => wp_ret ⟨σ, h, r, Y0.refl B w⟩
theorem Ik {id : Nat} {l : List Oper} {bar : Oper -> Bool} (h : N0 P l.toArray bar l σ (Q .normal)) : AWP P (.region id l.toArray false) Q σ :=
 fun _ _ _ _ r => wp_region_lit (PB h r fun σ' _ _ hq hr hb => ⟨σ', hq, hr, hb⟩)
theorem Fp {x y : Code} (h : AWP P x (OO (AWP P y Q) Q) σ) : AWP P (.seq x y) Q σ := by
 intro T0 B a w r
 refine wp_seq (wp_mono (h T0 B a w r) ?_)
 rintro e a' w' ⟨σ', hq, hr, hb⟩
 cases e with
 | normal => exact wp_mono (hq T0 B a' w' hr) fun e _ _ ⟨σ2, h1, h2, h3⟩ => ⟨σ2, h1, h2, hb.trans h3⟩
 | exit id => exact ⟨σ', hq, hr, hb⟩
 | goto l => exact ⟨σ', hq, hr, hb⟩
 | ret => exact ⟨σ', hq, hr, hb⟩
 | panic ch => exact ⟨σ', hq, hr, hb⟩
 | outgrown => exact ⟨σ', hq, hr, hb⟩
theorem G7 {c : Operand} {x y : Code} {b : Bool} (hc : look P σ 0 c = .one (.d (.bool b))) (ht : b = true -> AWP P x Q σ) (hf : b = false -> AWP P y Q σ) : AWP P (.cond c x y) Q σ := by
 intro T0 B a w r
 obtain ⟨X, h, rr⟩ := r
 have hv := rr.look (P := P) 0 c
 rw [hc] at hv
 exact wp_cond_split (yG hv) (fun hb => ht hb T0 B a w ⟨X, h, rr⟩) (fun hb => hf hb T0 B a w ⟨X, h, rr⟩)
theorem GI {id : Nat} {c : Code} (h : AWP P c (Vg id Q) σ) : AWP P (.block id c) Q σ := by
 intro T0 B a w r
 refine wp_block (wp_mono (h T0 B a w r) ?_)
 rintro e a' w' ⟨σ', hq, hr, hb⟩
 cases e with
 | exit pe =>
  simp only [Vg] at hq
  simp only [Exit.inBlock]
  split at hq
  ·rename_i hh; rw [if_pos hh]; exact ⟨σ', hq, hr, hb⟩
  ·rename_i hh; rw [if_neg hh]; exact ⟨σ', hq, hr, hb⟩
 | normal => exact ⟨σ', hq, hr, hb⟩
 | goto l => exact ⟨σ', hq, hr, hb⟩
 | ret => exact ⟨σ', hq, hr, hb⟩
 | panic ch => exact ⟨σ', hq, hr, hb⟩
 | outgrown => exact ⟨σ', hq, hr, hb⟩
theorem xR {c : Code} {ι : Type} (S : ι -> St) (μ : ι -> Nat) (i0 : ι) (h0 : Wk σ (S i0))
  (round : ∀ i, AWP P c (OO (fun σ' => ∃ i', μ i' < μ i /\ Wk σ' (S i')) Q) (S i)) : AWP P (.loop c) Q σ := by
 intro T0 B a w r b k cs
 have key : ∀ n i a w, μ i = n -> QK T0 B (S i) a w ->
   ∃ e a' w', (∃ σ', Q e σ' /\ QK T0 B σ' a' w' /\ Y0 B w w') /\ Arrives P (lone (b.at a (.code c :: .inLoop c :: k)) cs w) b k cs e a' w' := by
  intro n
  induction n using Nat.strongRecOn with
  | _ n ih =>
   intro i a w hn hr
   obtain ⟨e, a₁, w₁, ⟨σ₁, hq, oX, oY⟩, vS⟩ := round i T0 B a w hr b (.inLoop c :: k) cs
   cases e with
   | normal =>
    obtain ⟨i', wN, hH⟩ := hq
    obtain ⟨e₂, a₂, w₂, ⟨σ₂, hJ, hN, hO⟩, oz⟩ := ih (μ i') (hn ▸ wN) i' a₁ w₁ rfl (hH T0 B a₁ w₁ oX)
    exact ⟨e₂, a₂, w₂, ⟨σ₂, hJ, hN, oY.trans hO⟩, .of_steps (Steps.trans vS (.one step_inLoop)) oz⟩
   | exit id => exact ⟨_, a₁, w₁, ⟨σ₁, hq, oX, oY⟩, .pass (x := .inLoop c) rfl (fun _ _ => .inl (by simp)) vS⟩
   | goto l => exact ⟨_, a₁, w₁, ⟨σ₁, hq, oX, oY⟩, .pass (x := .inLoop c) rfl (fun _ _ => .inl (by simp)) vS⟩
   | ret => exact ⟨_, a₁, w₁, ⟨σ₁, hq, oX, oY⟩, .pass (x := .inLoop c) rfl (fun _ _ => .inl (by simp)) vS⟩
   | panic ch => exact ⟨_, a₁, w₁, ⟨σ₁, hq, oX, oY⟩, .pass (x := .inLoop c) rfl (fun _ _ => .inl (by simp)) vS⟩
   | outgrown => exact ⟨_, a₁, w₁, ⟨σ₁, hq, oX, oY⟩, .pass (x := .inLoop c) rfl (fun _ _ => .inl (by simp)) vS⟩
 obtain ⟨e, a', w', hq, vS⟩ := key _ i0 a w rfl (h0 T0 B a w r)
 exact ⟨e, a', w', hq, .of_steps (.one step_loop) vS⟩
end
/-! ### entering a function, and leaving it -/
def Ul : List (List D) -> St
 | [] => []
 | r :: rs => (vOf (r.map .d), []) :: Ul rs
def zq (n : Nat) (args : List (List D)) : St := Ul args ++ List.replicate (n - args.length) (V.any, [])
def OW (P : Program) (σ : St) : ResultVar -> List At -> Prop
 | .tmp t, xs => (σ.get t = vOf xs) /\ t < σ.length
 | .cell t T, xs => ∃ u c cells, σ.get t = .one (.bptr u c) /\ σ.ob u 0 = .box cells /\ ym P T = true /\ kO P T = true /\ P.cellsOf T ≠ 1 /\ c + P.cellsOf T <= cells.length /\ xs = cut cells c (P.cellsOf T)
def WC (P : Program) (σ : St) : List ResultVar -> List (List At) -> Prop
 | [], vL => vL = []
 | r :: rs, vL => ∃ xs rest, OW P σ r xs /\ WC P σ rs rest /\ vL = xs :: rest
def yl (σ : St) : List (List At) -> Option (List (List D))
 | [] => some []
 | xs :: rest => (match rowOf σ xs, yl σ rest with | some r, some rs => some (r :: rs) | _, _ => none)
def yZ (σ : St) : At -> Option D
 | .d (.sl _ _) => none
 | .d x => some x
 | .nil s => some (.sl s [])
 | .sref t j lo len => (match σ.ob t j with | .arr false size rows => if lo = 0 /\ len = rows.length then some (.sl size rows) else none | _ => none)
 | _ => none
def ownRow (σ : St) : List At -> Option (List D)
 | [] => some []
 | x :: xs => (match yZ σ x, ownRow σ xs with | some d, some ds => some (d :: ds) | _, _ => none)
def jD (σ : St) : List (List At) -> Option (List (List D))
 | [] => some []
 | xs :: rest => (match ownRow σ xs, jD σ rest with | some r, some rs => some (r :: rs) | _, _ => none)
def L5 (P : Program) (fn : Func) (own : Bool) (res : List (List D)) (e : Exit) (σ : St) : Prop :=
 (e = .ret \/ e = .normal) /\ ∃ vL, WC P σ fn.results.toList vL /\ (if own then jD σ vL = some res /\ (YL vL.flatten).Nodup else yl σ vL = some res)
def FI (P : Program) (fn : Func) (res : List (List D)) (e : Exit) (σ : St) : Prop :=
 (e = .ret \/ e = .normal) /\ ∃ vL, WC P σ fn.results.toList vL /\ QY σ vL = some res /\ QI σ vL /\ (YL vL.flatten).Nodup
end Go.Vm
namespace Go.Vm
open Go.RowKit
section
variable {P : Program} {T0 : CS} {B : Nat -> Prop} {σ : St} {a : Act} {w w' : World} {X X' : Nat -> Prop} {h : Nat -> Nat -> Hd}
theorem VG : ∀ (args : List (List D)) (t : Nat), (Ul args)[t]? = (args[t]?).map fun r => (vOf (r.map .d), [])
 | [], t => by simp [Ul]
 | r :: rs, 0 => by simp [Ul]
 | r :: rs, t + 1 => by simpa [Ul] using VG rs t
theorem Xd (args : List (List D)) : (Ul args).length = args.length := by
 induction args with
 | nil => rfl
 | cons r rs ih => simp [Ul, ih]
theorem P0 {T : CS} {n : Nat} {args : List (List D)} {wq : List Value} (hT : ∀ b k, T b k -> b < w.heap.size) (ha : Zg (fun v row => ∃ cs, JI v cs /\ Zg (Rd T w) cs row) wq args) :
  QK T (fun b => b < w.heap.size) (zq n args) { tmps := wq.toArray ++ Array.replicate (n - wq.toArray.size) undef, defers := [] } w := by
 have hl := ha.length
 refine ⟨fun _ => False, fun _ _ => Hd.of undef, ?_⟩
 have wY : ∀ t j, (zq n args).ob t j = .none := by
  intro t j
  unfold St.ob zq
  rcases Nat.lt_or_ge t args.length with h | h
  ·rw [List.getElem?_append_left (by rw [Xd]; exact h), VG, List.getElem?_eq_getElem h]
   simp [YB]
  ·rw [List.getElem?_append_right (by rw [Xd]; exact h), List.getElem?_replicate]
   split
   ·rename_i e he
    split at he
    ·cases he; simp [YB]
    ·cases he
   ·rfl
 have sr : ∀ b k v, T b k -> w.cell? ⟨b, k, none⟩ = some v -> w.cell? ⟨b, k, none⟩ = some v /\ Tof T (fun _ => False) b k := fun b k v hb hc => ⟨hc, .inl hb⟩
 refine ⟨by simp [zq, Xd, hl], rfl, (fun b hb => hb), (fun b hb => hb.elim), hT, fun t ht => ?_, fun t j => by rw [wY]; trivial, fun t j b wC => absurd (wY t j) wC, fun t j b wC => absurd (wY t j) wC, fun t j t' j' b wC => absurd (wY t j) wC⟩
 unfold St.get zq
 rcases Nat.lt_or_ge t args.length with wN | uk
 ·rw [List.getElem?_append_left (by rw [Xd]; exact wN), VG, List.getElem?_eq_getElem wN]
  obtain ⟨v, hv, cs, hf, wG⟩ := ha.get' t args[t] (List.getElem?_eq_getElem wN)
  have uW : (wq.toArray ++ Array.replicate (n - wq.toArray.size) undef).getD t undef = v := by
   rw [Array.getD_eq_getD_getElem?, Array.getElem?_append_left (by simp; omega)]
   simp [hv]
  simp only [uW]
  exact (R5 hf (qJ (wG.imp fun _ _ => Rd.mono sr))).up
 ·rw [List.getElem?_append_right (by rw [Xd]; exact uk), List.getElem?_replicate]
  split
  ·rename_i e he
   split at he
   ·cases he; trivial
   ·cases he
  ·trivial
theorem Fg {T : CS} {ob : Nat -> Nat -> Ob} {xs : List At} {v : Value} (hv : XW T h ob w (vOf xs) v) : ∃ cs, JI v cs /\ Zg (Zr T h ob w) xs cs := by
 match xs, hv with
 | [], hv =>
  obtain ⟨cs, rfl, wG⟩ := hv
  exact ⟨cs.toList, .inr ⟨by rw [<- wG.length]; simp, by simp⟩, wG⟩
 | [x], hv => exact ⟨[v], .inl ⟨v, rfl, rfl, Zr.XG hv⟩, .cons hv .nil⟩
 | x :: y :: xs, hv =>
  obtain ⟨cs, rfl, wG⟩ := hv
  exact ⟨cs.toList, .inr ⟨by rw [<- wG.length]; simp, by simp⟩, wG⟩
theorem HP (r : Rel T0 B σ a w X h) : ∀ {rs : List ResultVar} {vL : List (List At)}, WC P σ rs vL ->
  ∃ vs wc, (rs.mapM (m := Sem) fun | .tmp t => pure (a.tmps.getD t undef) | .cell u t => do loadVar t (<- asAddr (a.tmps.getD u undef))).run P w = .ok vs w /\ Zg JI vs wc /\ Zg (fun xs cs => Zg (Zr (Tof T0 X) h σ.ob w) xs cs) vL wc
 | [], vL, hr => by cases hr; exact ⟨[], [], by simp, .nil, .nil⟩
 | rv :: rs, vL, hr => by
  obtain ⟨xs, rest, h1, h2, rfl⟩ := hr
  obtain ⟨vs, wc, wV, hf, wG⟩ := HP r h2
  have one : ∃ v cs, (match rv with | .tmp t => (pure (a.tmps.getD t undef) : Sem Value) | .cell u t => do loadVar t (<- asAddr (a.tmps.getD u undef))).run P w = .ok v w /\ JI v cs /\ Zg (Zr (Tof T0 X) h σ.ob w) xs cs := by
   cases rv with
   | tmp t =>
    obtain ⟨hg, wN⟩ := h1
    have hv := r.slot t wN
    rw [hg] at hv
    obtain ⟨cs, hf, wG⟩ := Fg hv
    exact ⟨_, cs, by simp, hf, wG⟩
   | cell t T =>
    obtain ⟨u, c, cells, hg, ho, uO, te, wC, hle, rfl⟩ := h1
    have hv := r.get t
    rw [hg] at hv
    obtain ⟨b, cs, e, hb, he, hh, wG⟩ := r.box ho hv
    have hlen := wG.length
    obtain ⟨val, iD, mb, _⟩ := Gc (P := P) (w := w) uO (b := b) (off := c) (cs := cut cs.toList c (P.cellsOf T)) (XO _ _ _ (by omega)) (fun j u hu => Jw hh _ _ (zF _ _ _ _ _ hu))
    refine ⟨val, cut cs.toList c (P.cellsOf T), ?_, .inr ⟨by rw [XO _ _ _ (by omega)]; exact wC, mb te⟩, wG.cut _ _⟩
    simp only [Instr.loadAt, Instr.sureAddr, Sem.run_bind, Sem.run_pure, Result.andThen_ok] at iD
    simp only [he, asAddr, Sem.run_bind, Sem.run_pure, Result.andThen_ok]
    exact iD
  obtain ⟨v, cs, o0, hP, mc⟩ := one
  refine ⟨v :: vs, cs :: wc, ?_, .cons hP hf, .cons mc wG⟩
  simp only [List.mapM_cons, Sem.run_bind, o0, Result.andThen_ok, wV, Sem.run_pure]
theorem xH (r : Rel T0 B σ a w X h) {fn : Func} {vL : List (List At)} (hr : WC P σ fn.results.toList vL) :
  ∃ vs wc, (results fn a.tmps).run P w = .ok (Vr vs) w /\ Zg JI vs wc /\ Zg (fun xs cs => Zg (Zr (Tof T0 X) h σ.ob w) xs cs) vL wc := by
 obtain ⟨vs, wc, wV, hf, wG⟩ := HP r hr
 refine ⟨vs, wc, ?_, hf, wG⟩
 unfold results
 rw [Array.mapM_eq_mapM_toList]
 change ((((fn.results.toList.mapM (m := Sem) fun | .tmp t => pure (a.tmps.getD t undef) | .cell u t => do loadVar t (<- asAddr (a.tmps.getD u undef))) >>= fun l => pure l.toArray) >>= fun (vs : Array Value) => pure (if h : vs.size = 1 then vs[0] else .tuple vs))).run P w = _
 simp only [Sem.run_bind, wV, Result.andThen_ok, Sem.run_pure]
 congr 1
 match vs with
 | [] => rfl
 | [v] => rfl
 | v :: v' :: vs => simp [Vr]
theorem WE (r : Rel T0 B σ a w X h) {T : CS} (hT : ∀ b k, Uq T0 X h σ b k -> T b k) : ∀ {vL : List (List At)} {wc : List (List Value)} {res : List (List D)}, yl σ vL = some res -> Zg (fun xs cs => Zg (Zr (Tof T0 X) h σ.ob w) xs cs) vL wc ->
  Zg (fun cs row => Zg (Ki false T w) cs row) wc res
 | [], wc, res, hr, wG => by cases wG; simp [yl] at hr; subst hr; exact .nil
 | xs :: vL, wc, res, hr, wG => by
  cases wG with
  | cons h1 wG =>
   simp only [yl] at hr
   split at hr
   ·rename_i row rs we uN
    cases hr
    refine .cons ?_ (WE r hT uN wG)
    have := r.rowOf false we h1 (fun hh => by cases hh)
    refine this.imp fun v d hd => ?_
    simp only [Ki, Bool.false_eq_true, if_false] at hd ⊢
    exact Rd.mono (fun b k v hb hc => ⟨hc, hT b k hb⟩) hd
   ·cases hr
theorem OL : ∀ {xs : List At} {ds : List D}, ownRow σ xs = some ds -> Zg (fun x d => yZ σ x = some d) xs ds
 | [], ds, hr => by simp [ownRow] at hr; subst hr; exact .nil
 | x :: xs, ds, hr => by
  simp only [ownRow] at hr
  split at hr
  ·rename_i d sX h1 h2; cases hr; exact .cons h1 (OL h2)
  ·cases hr
theorem RL : ∀ {vL : List (List At)} {res : List (List D)}, jD σ vL = some res -> Zg (fun xs row => Zg (fun x d => yZ σ x = some d) xs row) vL res
 | [], res, hr => by simp [jD] at hr; subst hr; exact .nil
 | xs :: vL, res, hr => by
  simp only [jD] at hr
  split at hr
  ·rename_i d sX h1 h2; cases hr; exact .cons (OL h1) (RL h2)
  ·cases hr
theorem WT (r : Rel T0 B σ a w X h) {x : At} {d : D} {v : Value} (hx : yZ σ x = some d) (hv : Zr (Tof T0 X) h σ.ob w x v) : X0 (Tof T0 X) w v d /\ (∀ b, d.scalar = false -> blk v = some b -> ∃ t j lo len, x = .sref t j lo len /\ σ.ob t j ≠ .none /\ (h t j).u b) := by
 cases x with
 | d x =>
  cases x with
  | sl s rows => simp [yZ] at hx
  | int k n => simp [yZ] at hx; subst hx; exact ⟨hv, fun b hb => by cases hb⟩
  | bool b => simp [yZ] at hx; subst hx; exact ⟨hv, fun b hb => by cases hb⟩
  | str s => simp [yZ] at hx; subst hx; exact ⟨hv, fun b hb => by cases hb⟩
  | unk => simp [yZ] at hx; subst hx; exact ⟨hv, fun b hb => by cases hb⟩
 | nil s =>
  simp [yZ] at hx; subst hx
  cases hv
  exact ⟨⟨0, [], World.ownsRow_nil w 0 0 s, (by intro q hq; cases hq), .nil⟩, fun b _ hb => by cases hb⟩
 | sref t j lo len =>
  simp only [yZ] at hx
  split at hx
  ·rename_i size rows ho
   split at hx
   ·rename_i hc
    obtain ⟨rfl, rfl⟩ := hc
    cases hx
    obtain ⟨_, uH, _⟩ := hv.2.1 _ size rows ho
    have he := uH rfl rfl
    have h0 := r.obj t j
    have vN := r.ub t j
    rw [ho] at h0 vN
    refine ⟨by rw [he]; exact h0, fun b _ hb => ⟨t, j, 0, rows.length, rfl, by rw [ho]; simp, vN b (by simp) (by rw [<- he]; exact hb)⟩⟩
   ·cases hx
  ·cases hx
 | any => simp [yZ] at hx
 | ptr => simp [yZ] at hx
 | bptr => simp [yZ] at hx
 | fn => simp [yZ] at hx
 | rptr => simp [yZ] at hx
 | tref => simp [yZ] at hx
theorem Mm {f : FuncId} {fn : Func} {c : Code} (hf : P.funcs[f]? = some fn) (hb : fn.body = some c) (wb : kJ P f = true) {own : Bool} {args res : List (List D)}
  (hw : AWP P c (L5 P fn own res) (zq fn.ntmps args)) : Xk P f own args res := by
 refine ⟨wb, fun T w wq hT wK => calls_of_wp hf hb ?_⟩
 refine wp_mono (hw T (fun b => b < w.heap.size) _ w (P0 hT wK)) ?_
 rintro e a' w' ⟨σ', ⟨he, vL, vb, wM⟩, ⟨X, h, r⟩, wS⟩
 have vc : Below w.heap.size w w' := ⟨wS.os, wS.tape, wS.output, wS.size, wS.block⟩
 obtain ⟨vs, wc, wV, wi, wG⟩ := xH r vb
 have goal : a'.defers = [] /\ ∃ v, (results fn a'.tmps).run P w' = .ok v w' /\ DW own T w res (.returned v) w' := by
  refine ⟨r.defers, _, wV, ?_⟩
  cases own with
  | false =>
   refine ⟨vs, wc, fun b => w.heap.size <= b /\ b < w'.heap.size, rfl, vc, fun b hb => hb, wi, ?_, fun hh => by cases hh⟩
   refine WE r (fun b k hb => ?_) (by simpa using wM) wG
   rcases hb with hb | ⟨t, j, q, size, rows, ho, hb⟩
   ·rcases hb with hb | hb
    ·exact .inl hb
    ·have := r.hX b hb; exact .inr ⟨by omega, this.2⟩
   ·have := r.own t j b (by rw [ho]; simp) hb
    exact .inr ⟨by omega, this.2.2⟩
  | true =>
   simp only [if_true] at wM
   obtain ⟨wL, w9⟩ := wM
   have w8 := RL wL
   have tF : Zg (fun x d => yZ σ' x = some d) vL.flatten res.flatten := Kk w8
   have tG : Zg (Zr (Tof T X) h σ'.ob w') vL.flatten wc.flatten := Kk wG
   refine ⟨vs, wc, X, rfl, vc, (fun b hb => by have := r.hX b hb; exact ⟨by omega, this.2⟩), wi, ?_, fun _ => ⟨fun i cc d b hc hd vV hb => ?_, fun i j cc fH d d' b hc hd wu wQ vV pj hb wW => ?_⟩⟩
   ·clear tF tG wi wV vb wL w9 he hw
    induction w8 generalizing wc with
    | nil => cases wG; exact .nil
    | cons hr _ ih =>
     cases wG with
     | cons ss wG =>
      refine .cons ?_ (ih _ wG)
      clear ih wG
      refine Zg.J2 (by rw [<- ss.length, hr.length]) (fun i v d hv hd => ?_)
      obtain ⟨x, hx, pN⟩ := hr.get' i d hd
      obtain ⟨v', tg, o7⟩ := ss.get i x hx
      rw [hv] at tg; cases tg
      simp only [Ki, if_true]
      exact (WT r pN o7).1
   ·obtain ⟨x, hx, pN⟩ := tF.get' i d hd
    obtain ⟨v', tg, o7⟩ := tG.get i x hx
    rw [hc] at tg; cases tg
    obtain ⟨t, j, lo, len, _, wC, uD⟩ := (WT r pN o7).2 b vV hb
    have := r.own t j b wC uD
    exact ⟨by omega, this.2.2, this.2.1⟩
   ·obtain ⟨x, hx, pN⟩ := tF.get' i d hd
    obtain ⟨v', tg, o7⟩ := tG.get i x hx
    rw [hc] at tg; cases tg
    obtain ⟨x2, o8, mf⟩ := tF.get' j d' wQ
    obtain ⟨v2, vB, mg⟩ := tG.get j x2 o8
    rw [wu] at vB; cases vB
    obtain ⟨t, u, lo, len, rfl, wC, uD⟩ := (WT r pN o7).2 b vV hb
    obtain ⟨t2, u2, hQ, mh, rfl, r4, mi⟩ := (WT r mf mg).2 b pj wW
    obtain ⟨rfl, rfl⟩ := r.inj t u t2 u2 b wC r4 uD mi
    exact RD _ i j t u lo len hQ mh w9 hx o8
 rcases he with rfl | rfl
 ·exact goal
 ·exact goal
theorem Oj {f : FuncId} {fn : Func} {c : Code} (hf : P.funcs[f]? = some fn) (hb : fn.body = some c) (wb : kJ P f = true) {args res : List (List D)}
  (hw : AWP P c (FI P fn res) (zq fn.ntmps args)) : YD P f args res := by
 refine ⟨wb, fun T w wq hT wK => calls_of_wp hf hb ?_⟩
 refine wp_mono (hw T (fun b => b < w.heap.size) _ w (P0 hT wK)) ?_
 rintro e a' w' ⟨σ', ⟨he, vL, vb, vq, vz, w9⟩, ⟨X, h, r⟩, wS⟩
 have vc : Below w.heap.size w w' := ⟨wS.os, wS.tape, wS.output, wS.size, wS.block⟩
 obtain ⟨vs, wc, wV, wi, wG⟩ := xH r vb
 have goal : a'.defers = [] /\ ∃ v, (results fn a'.tmps).run P w' = .ok v w' /\ EP w res (.returned v) w' := by
  refine ⟨r.defers, _, wV, vs, wc, rfl, vc, wi, ?_, ?_⟩
  ·clear w9 vz vb wV wi hw
   induction wG generalizing res with
   | nil => simp [QY] at vq; subst vq; exact .nil
   | cons h1 _ ih =>
    simp only [QY] at vq
    split at vq
    ·rename_i row rs we uN
     cases vq
     exact .cons (by rw [<- h1.length]; exact (Kn we).1) (ih uN)
    ·cases vq
  ·refine (Um r (Kk wG) (KA vq).1 (Jz vz) w9).mono (fun b hb => ?_)
   have := r.zN _ b hb
   exact ⟨by omega, this.2.2.1⟩
 rcases he with rfl | rfl
 ·exact goal
 ·exact goal
end
end Go.Vm
namespace Go.Vm
open Go.RowKit
theorem St.Gz (e : Ent) (σ : St) : St.get (e :: σ) 0 = e.1 := rfl
theorem St.Gv (e : Ent) (σ : St) (n : Nat) : St.get (e :: σ) (n + 1) = St.get σ n := by simp [St.get]
theorem St.F7 (e : Ent) (σ : St) (j : Nat) : St.ob (e :: σ) 0 j = YB e.2 j := rfl
theorem St.Fz (e : Ent) (σ : St) (n j : Nat) : St.ob (e :: σ) (n + 1) j = St.ob σ n j := by simp [St.ob]
theorem NL (o : Ob) (os : List Ob) : YB (o :: os) 0 = o := rfl
theorem yx (o : Ob) (os : List Ob) (n : Nat) : YB (o :: os) (n + 1) = YB os n := by simp [YB]
theorem Ga (n : Nat) : YB [] n = .none := by simp [YB]
def lkI (P : Program) (σ : St) (x : Operand) : Prop × Int :=
 match unc (look P σ 0 x) with
 | .one (.d (.int _ n)) => (gOf (look P σ 0 x) = true, n)
 | _ => (False, 0)
def lkK (P : Program) (σ : St) (x : Operand) : IntKind :=
 match unc (look P σ 0 x) with
 | .one (.d (.int k _)) => k
 | _ => .i64
theorem xe {P : Program} {σ : St} {x : Operand} (h : (lkI P σ x).1) : qo P σ x (lkK P σ x) (lkI P σ x).2 := by
 unfold lkI at h ⊢
 unfold lkK
 unfold qo
 split at h
 ·rename_i k n heq
  rw [heq]; exact ⟨h, rfl⟩
 ·exact h.elim
def JZ (P : Program) (σ : St) (vW : Nat) : Option Operand -> Prop × Nat
 | none => (True, vW)
 | some x => ((lkI P σ x).1 /\ 0 <= (lkI P σ x).2, (lkI P σ x).2.toNat)
theorem kU {P : Program} {σ : St} {vW : Nat} {x : Option Operand} (h : (JZ P σ vW x).1) : bnd P σ vW x (JZ P σ vW x).2 := by
 cases x with
 | none => rfl
 | some x =>
  have h1 := xe h.1
  exact ⟨_, _, h1.1, h1.2, h.2, rfl⟩
def rowAt (rows : List (List D)) (i : Nat) : List D := rows.getD i []
def bAt (s : ByteArray) (i : Nat) : Nat := (s.data.toList.getD i 0).toNat
def Vp (P : Program) (σ : St) (T : TypeId) (x ix : Operand) : Prop × V :=
 match unc (look P σ 0 x) with
 | .one (.d (.sl size rows)) => ((gOf (look P σ 0 x) = true /\ (lkI P σ ix).1) /\ 0 <= (lkI P σ ix).2 /\ (Ya P T = true /\ size = P.cellsOf (ZD P T) /\ 0 < size) /\ (lkI P σ ix).2 < (rows.length : Int), .one (.rptr (rowAt rows (lkI P σ ix).2.toNat) 0))
 | .one (.sref t j lo len) => ((gOf (look P σ 0 x) = true /\ (lkI P σ ix).1) /\ 0 <= (lkI P σ ix).2 /\ (Ya P T = true /\ 0 < P.cellsOf (ZD P T) /\ (match σ.ob t j with | .arr _ size _ => size = P.cellsOf (ZD P T) | _ => False)) /\ (lkI P σ ix).2 < (len : Int), .one (.ptr t j (lo + (lkI P σ ix).2.toNat) 0))
 | .one (.tref t j m c none) => ((gOf (look P σ 0 x) = true /\ (lkI P σ ix).1) /\ 0 <= (lkI P σ ix).2 /\ (Ya P T = true /\ 0 < P.cellsOf (ZD P T)) /\ (match σ.ob t j with | .arr true _ rows => m < rows.length /\ (match (rowAt rows m)[c]? with | some (.sl n s) => n = P.cellsOf (ZD P T) /\ (lkI P σ ix).2 < (s.length : Int) | _ => False) | _ => False), .one (.tref t j m c (some ((lkI P σ ix).2.toNat * P.cellsOf (ZD P T)))))
 | .one (.bptr t c) => ((gOf (look P σ 0 x) = true /\ (lkI P σ ix).1) /\ 0 <= (lkI P σ ix).2 /\ (match σ.ob t 0 with | .box _ => True | _ => False) /\ (match P9 P T with | some n => 1 < n /\ (lkI P σ ix).2 < (n : Int) | none => False), .one (.bptr t (c + (lkI P σ ix).2.toNat * P.cellsOf (ZD P T))))
 | _ => (False, .any)
def I5 (P : Program) (σ : St) (T : TypeId) (x : Operand) : Prop × V :=
 match unc (look P σ 0 x) with
 | .one (.bptr t c) => (match σ.ob t 0 with | .box cells => (gOf (look P σ 0 x) = true /\ ym P T = true /\ c + P.cellsOf T <= cells.length, ldV P T (cut cells c (P.cellsOf T))) | _ => (False, .any))
 | .one (.ptr t j i c) => (match σ.ob t j with | .arr q size rows => ((gOf (look P σ 0 x) = true /\ ym P T = true /\ c + P.cellsOf T <= size) /\ i < rows.length, ldV P T (WX q t j i c (cut (rowAt rows i) c (P.cellsOf T)))) | _ => (False, .any))
 | .one (.rptr r c) => (gOf (look P σ 0 x) = true /\ ym P T = true /\ c + P.cellsOf T <= r.length, ldV P T ((cut r c (P.cellsOf T)).map .d))
 | .one (.tref t j i c (some k)) => (match σ.ob t j with
  | .arr true _ rows => (match (rowAt rows i)[c]? with
   | some (.sl 1 s) => ((gOf (look P σ 0 x) = true /\ ym P T = true) /\ i < rows.length /\ P.cellsOf T = 1 /\ k < s.length /\ (rowAt s k).all D.scalar = true, ldV P T ((rowAt s k).map .d))
   | _ => (False, .any))
  | _ => (False, .any))
 | _ => (False, .any)
def VQ (P : Program) (σ : St) (T : TypeId) (x : Operand) (f : Nat) : Prop × V :=
 match unc (look P σ 0 x) with
 | .one (.bptr t c) => (gOf (look P σ 0 x) = true /\ yK P T f = true /\ (match σ.ob t 0 with | .box _ => True | _ => False), .one (.bptr t (c + XK P T f)))
 | .one (.ptr t j i c) => (gOf (look P σ 0 x) = true /\ yK P T f = true /\ (match σ.ob t j with | .arr _ _ _ => True | _ => False), .one (.ptr t j i (c + XK P T f)))
 | .one (.rptr r c) => (gOf (look P σ 0 x) = true /\ yK P T f = true, .one (.rptr r (c + XK P T f)))
 | .one (.tref t j i c (some k)) => (gOf (look P σ 0 x) = true /\ yK P T f = true /\ (match σ.ob t j with | .arr true _ _ => True | _ => False), .one (.tref t j i c (some (k + XK P T f))))
 | _ => (False, .any)
def NX (P : Program) (op : BinOp) (T : TypeId) (x y : V) : Prop × V :=
 match op, x, y with
 | .eql, .one (.d (.int k m)), .one (.d (.int k' n)) => (k' = k, .one (.d (.bool (m == n))))
 | .neq, .one (.d (.int k m)), .one (.d (.int k' n)) => (k' = k, .one (.d (.bool (m != n))))
 | .lss, .one (.d (.int k m)), .one (.d (.int k' n)) => (k' = k, .one (.d (.bool (decide (m < n)))))
 | .leq, .one (.d (.int k m)), .one (.d (.int k' n)) => (k' = k, .one (.d (.bool (decide (m <= n)))))
 | .gtr, .one (.d (.int k m)), .one (.d (.int k' n)) => (k' = k, .one (.d (.bool (decide (m > n)))))
 | .geq, .one (.d (.int k m)), .one (.d (.int k' n)) => (k' = k, .one (.d (.bool (decide (m >= n)))))
 | .add, .one (.d (.int k m)), .one (.d (.int k' n)) => (k' = k, .one (.d (.int k (k.wrap (m + n)))))
 | .sub, .one (.d (.int k m)), .one (.d (.int k' n)) => (k' = k, .one (.d (.int k (k.wrap (m - n)))))
 | .mul, .one (.d (.int k m)), .one (.d (.int k' n)) => (k' = k, .one (.d (.int k (k.wrap (m * n)))))
 | .quo, .one (.d (.int k m)), .one (.d (.int k' n)) => (k' = k /\ n ≠ 0, .one (.d (.int k (k.wrap (m.tdiv n)))))
 | .rem, .one (.d (.int k m)), .one (.d (.int k' n)) => (k' = k /\ n ≠ 0, .one (.d (.int k (m.tmod n))))
 | .and, .one (.d (.int k m)), .one (.d (.int k' n)) => (k' = k, .one (.d (.int k (Ow k m n))))
 | .or, .one (.d (.int k m)), .one (.d (.int k' n)) => (k' = k, .one (.d (.int k (iOr k m n))))
 | .xor, .one (.d (.int k m)), .one (.d (.int k' n)) => (k' = k, .one (.d (.int k (FV k m n))))
 | .shl, .one (.d (.int k m)), .one (.d (.int _ n)) => (0 <= n, .one (.d (.int k (k.wrap (m * 2 ^ (min n.toNat k.bits))))))
 | .shr, .one (.d (.int k m)), .one (.d (.int _ n)) => (0 <= n, .one (.d (.int k (m.fdiv (2 ^ (min n.toNat k.bits))))))
 | .add, .one (.d (.str m)), .one (.d (.str n)) => (((m.size + n.size : Nat) : Int) <= 9223372036854775807, .one (.d (.str (m ++ n))))
 | .eql, .one (.d (.str m)), .one (.d (.str n)) => (True, .one (.d (.bool (decide (m = n)))))
 | .neq, .one (.d (.str m)), .one (.d (.str n)) => (True, .one (.d (.bool (!decide (m = n)))))
 | .eql, .one (.d (.bool m)), .one (.d (.bool n)) => (S3 P T = true, .one (.d (.bool (m == n))))
 | .neq, .one (.d (.bool m)), .one (.d (.bool n)) => (S3 P T = true, .one (.d (.bool (!(m == n)))))
 | .eql, .agg xs, .agg ys => (Uo P T = true /\ (zp P (P.fieldsOf T).toList xs ys).isSome = true, .one (.d (.bool ((zp P (P.fieldsOf T).toList xs ys).getD false))))
 | .neq, .agg xs, .agg ys => (Uo P T = true /\ (zp P (P.fieldsOf T).toList xs ys).isSome = true, .one (.d (.bool (!(zp P (P.fieldsOf T).toList xs ys).getD false))))
 | _, _, _ => (False, .any)
def ks (P : Program) (σ : St) (T : TypeId) : List (Nat × Operand) -> List At -> Prop × List At
 | [], r => (True, r)
 | (i, x) :: ps, r => ((bOk P T i = true /\ gOf (look P σ (bTy P T i) x) = true /\ (unc (look P σ (bTy P T i) x)).flat = true /\
   (unc (look P σ (bTy P T i) x)).cells.length = P.cellsOf (bTy P T i) /\ K6 P T i + P.cellsOf (bTy P T i) <= r.length) /\ (ks P σ T ps (place r (K6 P T i) (unc (look P σ (bTy P T i) x)).cells)).1,
   (ks P σ T ps (place r (K6 P T i) (unc (look P σ (bTy P T i) x)).cells)).2)
theorem PL {P : Program} {σ : St} {T : TypeId} : ∀ {ps : List (Nat × Operand)} {r : List At}, (ks P σ T ps r).1 -> kK P σ T ps r (ks P σ T ps r).2
 | [], _, _ => rfl
 | (_, _) :: _, _, h => ⟨h.1.1, h.1.2.1, h.1.2.2.1, h.1.2.2.2.1, h.1.2.2.2.2, PL h.2⟩
def isB : V -> Bool
 | .one (.d (.bool _)) => true
 | _ => false
def bOf : V -> Bool
 | .one (.d (.bool b)) => b
 | _ => false
theorem Gy : ∀ {v : V}, isB v = true -> v = .one (.d (.bool (bOf v)))
 | .one (.d (.bool _)), _ => rfl
def evV (P : Program) (σ : St) (op : Op) (ty : TypeId) : Prop × V :=
 match op with
 | .move x => (True, look P σ ty x)
 | .assign x => (True, look P σ ty x)
 | .pick c a b =>
  (match unc (look P σ ty c) with
  | .one (.d (.bool bc)) => ((gOf (look P σ ty c) = true /\ (bc = true -> isB (unc (look P σ ty a)) = true) /\ (bc = false -> isB (unc (look P σ ty b)) = true)) /\ (bc = true -> gOf (look P σ ty a) = true) /\ (bc = false -> gOf (look P σ ty b) = true), .one (.d (.bool (cond bc (bOf (unc (look P σ ty a))) (bOf (unc (look P σ ty b)))))))
  | _ => (False, .any))
 | .load T x => I5 P σ T x
 | .fieldAddr T x f => VQ P σ T x f
 | .nilCheck x => (match unc (look P σ 0 x) with
  | .one (.bptr t c) => (gOf (look P σ 0 x) = true /\ (match σ.ob t 0 with | .box _ => True | _ => False), .one (.bptr t c))
  | _ => (False, .any))
 | .indexAddr T x ix => Vp P σ T x ix
 | .index T x ix =>
  (match unc (look P σ 0 x) with
  | .one (.d (.str s)) => ((gOf (look P σ 0 x) = true /\ (lkI P σ ix).1) /\ 0 <= (lkI P σ ix).2 /\ j7 P T = true /\ (lkI P σ ix).2 < (s.size : Int), .one (.d (.int .u8 (bAt s (lkI P σ ix).2.toNat))))
  | .agg xs => ((gOf (look P σ 0 x) = true /\ (lkI P σ ix).1) /\ 0 <= (lkI P σ ix).2 /\ (match P9 P T with | some n => (lkI P σ ix).2 < (n : Int) | none => False) /\ ym P (ZD P T) = true /\ (lkI P σ ix).2.toNat * P.cellsOf (ZD P T) + P.cellsOf (ZD P T) <= xs.length,
    ldV P (ZD P T) (cut xs ((lkI P σ ix).2.toNat * P.cellsOf (ZD P T)) (P.cellsOf (ZD P T))))
  | _ => (False, .any))
 | .slice T x lo hi none =>
  (match unc (look P σ 0 x) with
  | .one (.d (.str s)) => ((gOf (look P σ 0 x) = true /\ j7 P T = true /\ (JZ P σ 0 lo).1 /\ (JZ P σ s.size hi).1) /\ (JZ P σ 0 lo).2 <= (JZ P σ s.size hi).2 /\ (JZ P σ s.size hi).2 <= s.size, .one (.d (.str (s.extract (JZ P σ 0 lo).2 (JZ P σ s.size hi).2))))
  | .one (.d (.sl size rows)) => ((gOf (look P σ 0 x) = true /\ Ya P T = true /\ size = P.cellsOf (ZD P T) /\ (JZ P σ 0 lo).1 /\ (JZ P σ rows.length hi).1) /\ (JZ P σ 0 lo).2 <= (JZ P σ rows.length hi).2 /\ (JZ P σ rows.length hi).2 <= rows.length,
    .one (.d (.sl size (cut rows (JZ P σ 0 lo).2 ((JZ P σ rows.length hi).2 - (JZ P σ 0 lo).2)))))
  | .one (.sref t j o len) => ((gOf (look P σ 0 x) = true /\ Ya P T = true /\ (match σ.ob t j with | .arr _ size _ => size = P.cellsOf (ZD P T) | _ => False) /\ (JZ P σ 0 lo).1 /\ (JZ P σ len hi).1) /\ (JZ P σ 0 lo).2 <= (JZ P σ len hi).2 /\ (JZ P σ len hi).2 <= len,
    .one (.sref t j (o + (JZ P σ 0 lo).2) ((JZ P σ len hi).2 - (JZ P σ 0 lo).2)))
  | _ => (False, .any))
 | .binOp op T x y _ => ((gOf (look P σ T x) = true /\ gOf (look P σ T y) = true) /\ (NX P op T (unc (look P σ T x)) (unc (look P σ T y))).1, (NX P op T (unc (look P σ T x)) (unc (look P σ T y))).2)
 | .unOp .not _ x => (match unc (look P σ 0 x) with | .one (.d (.bool b)) => (gOf (look P σ 0 x) = true, .one (.d (.bool (!b)))) | _ => (False, .any))
 | .unOp .neg _ x => (match unc (look P σ 0 x) with | .one (.d (.int k n)) => (gOf (look P σ 0 x) = true, .one (.d (.int k (k.wrap (-n))))) | _ => (False, .any))
 | .convert S T x => (match unc (look P σ 0 x), I8 P T with | .one (.d (.int _ n)), some k => (gOf (look P σ 0 x) = true /\ (P.underlying S).isSome = true, .one (.d (.int k (k.wrap n)))) | _, _ => (False, .any))
 | .extract x i => (match unc (look P σ 0 x) with | .tup xs => (gOf (look P σ 0 x) = true /\ i < xs.length /\ (xs.getD i .any).flat = true, xs.getD i .any) | _ => (False, .any))
 | .field T x f =>
  (match unc (look P σ 0 x) with
  | .agg xs => (gOf (look P σ 0 x) = true /\ yK P T f = true /\ ym P (Kb P T f) = true /\ XK P T f + P.cellsOf (Kb P T f) <= xs.length, ldV P (Kb P T f) (cut xs (XK P T f) (P.cellsOf (Kb P T f))))
  | _ => (False, .any))
 | .build T parts => (match xG P 12 T with | some z => ((XH P T = true /\ kO P T = true) /\ (ks P σ T parts.toList z).1, .agg (ks P σ T parts.toList z).2) | none => (False, .any))
 | .call ⟨.builtin .len, ⟨[x]⟩, ⟨[t]⟩⟩ =>
  (match unc (look P σ t x) with
  | .one (.d (.str s)) => (gOf (look P σ t x) = true /\ j7 P t = true, .one (.d (.int .i64 s.size)))
  | .one (.d (.sl _ rows)) => (gOf (look P σ t x) = true /\ Ya P t = true, .one (.d (.int .i64 rows.length)))
  | .one (.nil _) => (gOf (look P σ t x) = true /\ Ya P t = true, .one (.d (.int .i64 0)))
  | .one (.sref u j _ len) => (gOf (look P σ t x) = true /\ Ya P t = true /\ (match σ.ob u j with | .arr _ _ _ => True | .lit _ _ => True | _ => False), .one (.d (.int .i64 len)))
  | .one (.tref u j i c none) => (match σ.ob u j with
   | .arr true _ rows => (match (rowAt rows i)[c]? with
    | some (.sl _ s) => ((gOf (look P σ t x) = true /\ Ya P t = true) /\ i < rows.length, .one (.d (.int .i64 s.length)))
    | _ => (False, .any))
   | _ => (False, .any))
  | _ => (False, .any))
 | .call ⟨.builtin .max, ⟨[x, y]⟩, _⟩ => ((lkI P σ x).1 /\ (lkI P σ y).1 /\ lkK P σ y = lkK P σ x, .one (.d (.int (lkK P σ x) (if (lkI P σ y).2 > (lkI P σ x).2 then (lkI P σ y).2 else (lkI P σ x).2))))
 | .call ⟨.builtin .min, ⟨[x, y]⟩, _⟩ => ((lkI P σ x).1 /\ (lkI P σ y).1 /\ lkK P σ y = lkK P σ x, .one (.d (.int (lkK P σ x) (if (lkI P σ y).2 < (lkI P σ x).2 then (lkI P σ y).2 else (lkI P σ x).2))))
 | _ => (False, .any)
theorem It {o : Ob} (h : (match o with | .box _ => True | _ => False)) : ∃ cells, o = .box cells := by
 cases o with
 | box c => exact ⟨c, rfl⟩
 | none => exact h.elim
 | arr q s r => exact h.elim
 | lit s r => exact h.elim
theorem EX {o : Ob} (h : (match o with | .arr _ _ _ => True | _ => False)) : ∃ q size rows, o = .arr q size rows := by
 cases o with
 | arr q s r => exact ⟨q, s, r, rfl⟩
 | none => exact h.elim
 | box c => exact h.elim
 | lit s r => exact h.elim
theorem Ed {o : Ob} (h : (match o with | .arr _ _ _ => True | .lit _ _ => True | _ => False)) : (∃ q size rows, o = .arr q size rows) \/ ∃ size rows, o = .lit size rows := by
 cases o with
 | arr q s r => exact .inl ⟨q, s, r, rfl⟩
 | none => exact h.elim
 | box c => exact h.elim
 | lit s r => exact .inr ⟨s, r, rfl⟩
theorem HR {o : Ob} {n : Nat} (h : (match o with | .arr _ size _ => size = n | _ => False)) : ∃ q rows, o = .arr q n rows := by
 cases o with
 | arr q s r => simp at h; subst h; exact ⟨q, r, rfl⟩
 | none => exact h.elim
 | box c => exact h.elim
 | lit s r => exact h.elim
theorem G5 {P : Program} {op : BinOp} {T : TypeId} {x y : V} (hc : (NX P op T x y).1) : IC P op T x y (NX P op T x y).2 := by
 unfold NX at hc ⊢
 split at hc
 all_goals first
  | exact hc.elim
  | exact ⟨.inr hc, rfl⟩
  | exact ⟨.inr hc.1, hc.2, rfl⟩
  | exact ⟨.inl (.inl rfl), hc, rfl⟩
  | exact ⟨.inl (.inr rfl), hc, rfl⟩
  | exact ⟨hc, rfl⟩
  | rfl
  | (obtain ⟨q, hq⟩ := Option.isSome_iff_exists.1 hc.2; exact ⟨hc.1, q, hq, .inl ⟨rfl, by rw [hq]; rfl⟩⟩)
  | (obtain ⟨q, hq⟩ := Option.isSome_iff_exists.1 hc.2; exact ⟨hc.1, q, hq, .inr ⟨rfl, by rw [hq]; rfl⟩⟩)
theorem I3 {P : Program} {σ : St} {op : Op} {ty : TypeId} (hc : (evV P σ op ty).1) : Z1 P σ op ty (evV P σ op ty).2 := by
 unfold evV at hc ⊢
 split at hc
 ·rfl
 ·rfl
 ·rename_i c a b
  split at hc
  ·rename_i bc h1; exact ⟨bc, _, _, hc.1.1, h1, (fun hh => Gy (hc.1.2.1 hh)), (fun hh => Gy (hc.1.2.2 hh)), hc.2.1, hc.2.2, (by first | rfl | trivial)⟩
  ·exact hc.elim
 ·rename_i T x
  unfold I5 at hc ⊢
  simp only [Z1]
  split at hc
  ·rename_i t c hx
   split at hc
   ·rename_i cells ho; simp only [hx, ho]; exact ⟨hc.1, hc.2.1, cells, rfl, hc.2.2, (by first | rfl | trivial)⟩
   ·exact hc.elim
  ·rename_i t j i c hx
   split at hc
   ·rename_i size rows ho; simp only [hx, ho]; exact ⟨hc.1.1, hc.1.2.1, _, size, rows, rfl, hc.2, hc.1.2.2, (by first | rfl | trivial)⟩
   ·exact hc.elim
  ·rename_i r c hx; simp only [hx]; exact ⟨hc.1, hc.2.1, hc.2.2, (by first | rfl | trivial)⟩
  ·rename_i t j i c k hx
   split at hc
   ·rename_i size rows ho
    split at hc
    ·rename_i s wM; simp only [hx, ho, wM]; exact ⟨hc.1.1, hc.1.2, size, rows, s, rfl, hc.2.1, wM, hc.2.2.1, hc.2.2.2.1, hc.2.2.2.2, (by first | rfl | trivial)⟩
    ·exact hc.elim
   ·exact hc.elim
  ·exact hc.elim
 ·rename_i T x f
  unfold VQ at hc ⊢
  simp only [Z1]
  split at hc
  ·rename_i t c hx; simp only [hx]; exact ⟨hc.1, hc.2.1, It hc.2.2, (by first | rfl | trivial)⟩
  ·rename_i t j i c hx; simp only [hx]; exact ⟨hc.1, hc.2.1, EX hc.2.2, (by first | rfl | trivial)⟩
  ·rename_i r c hx; simp only [hx]; exact ⟨hc.1, hc.2, (by first | rfl | trivial)⟩
  ·rename_i t j i c k hx
   have h3 := hc.2.2
   split at h3
   ·rename_i size rows ho; simp only [hx]; exact ⟨hc.1, hc.2.1, ⟨size, rows, ho⟩, (by first | rfl | trivial)⟩
   ·exact h3.elim
  ·exact hc.elim
 ·rename_i x
  simp only [Z1]
  split at hc
  ·rename_i t c hx; simp only [hx]; exact ⟨hc.1, It hc.2, (by first | rfl | trivial)⟩
  ·exact hc.elim
 ·rename_i T x ix
  unfold Vp at hc ⊢
  simp only [Z1]
  split at hc
  ·rename_i size rows hx
   simp only [hx]
   exact ⟨_, _, xe hc.1.2, hc.2.1, hc.1.1, hc.2.2.1.1, hc.2.2.1.2.1, hc.2.2.1.2.2, hc.2.2.2, (by first | rfl | trivial)⟩
  ·rename_i t j lo len hx
   simp only [hx]
   exact ⟨_, _, xe hc.1.2, hc.2.1, hc.1.1, hc.2.2.1.1, hc.2.2.1.2.1, HR hc.2.2.1.2.2, hc.2.2.2, (by first | rfl | trivial)⟩
  ·rename_i t j m c hx
   have h3 := hc.2.2.2
   split at h3
   ·rename_i size rows ho
    obtain ⟨hm, h4⟩ := h3
    split at h4
    ·rename_i n s hr
     obtain ⟨rfl, wN⟩ := h4
     simp only [hx]
     exact ⟨_, _, xe hc.1.2, hc.2.1, hc.1.1, hc.2.2.1.1, hc.2.2.1.2, ⟨size, rows, s, ho, hm, hr, wN⟩, (by first | rfl | trivial)⟩
    ·exact h4.elim
   ·exact h3.elim
  ·rename_i t c hx
   simp only [hx]
   refine ⟨_, _, xe hc.1.2, hc.2.1, hc.1.1, It hc.2.2.1, ?_, (by first | rfl | trivial)⟩
   have := hc.2.2.2
   split at this
   ·rename_i n hn; exact ⟨n, hn, this.1, this.2⟩
   ·exact this.elim
  ·exact hc.elim
 ·rename_i T x ix
  simp only [Z1]
  split at hc
  ·rename_i s hx; simp only [hx]; exact ⟨_, _, xe hc.1.2, hc.2.1, hc.1.1, hc.2.2.1, hc.2.2.2, (by first | rfl | trivial)⟩
  ·rename_i xs hx
   simp only [hx]
   refine ⟨_, _, xe hc.1.2, hc.2.1, hc.1.1, ?_, hc.2.2.2.1, hc.2.2.2.2, (by first | rfl | trivial)⟩
   have := hc.2.2.1
   split at this
   ·rename_i n hn; exact ⟨n, hn, this⟩
   ·exact this.elim
  ·exact hc.elim
 ·rename_i T x lo hi
  simp only [Z1]
  split at hc
  ·rename_i s hx; simp only [hx]; exact ⟨hc.1.1, hc.1.2.1, _, _, kU hc.1.2.2.1, kU hc.1.2.2.2, hc.2.1, hc.2.2, (by first | rfl | trivial)⟩
  ·rename_i size rows hx; simp only [hx]; exact ⟨hc.1.1, hc.1.2.1, hc.1.2.2.1, _, _, kU hc.1.2.2.2.1, kU hc.1.2.2.2.2, hc.2.1, hc.2.2, (by first | rfl | trivial)⟩
  ·rename_i t j o len hx; simp only [hx]; exact ⟨hc.1.1, hc.1.2.1, HR hc.1.2.2.1, _, _, kU hc.1.2.2.2.1, kU hc.1.2.2.2.2, hc.2.1, hc.2.2, (by first | rfl | trivial)⟩
  ·exact hc.elim
 ·exact ⟨hc.1.1, hc.1.2, G5 hc.2⟩
 ·simp only [Z1]
  split at hc
  ·rename_i b hx; simp only [hx]; exact ⟨hc, (by first | rfl | trivial)⟩
  ·exact hc.elim
 ·simp only [Z1]
  split at hc
  ·rename_i k n hx; simp only [hx]; exact ⟨hc, (by first | rfl | trivial)⟩
  ·exact hc.elim
 ·rename_i S T x
  simp only [Z1]
  split at hc
  ·rename_i k0 n k hx hk; simp only [hx, hk]; exact ⟨hc.1, hc.2, k, rfl, (by first | rfl | trivial)⟩
  ·exact hc.elim
 ·rename_i x i
  simp only [Z1]
  split at hc
  ·rename_i xs hx
   simp only [hx]
   exact ⟨hc.1, by simp [List.getD_eq_getElem?_getD, List.getElem?_eq_getElem hc.2.1], hc.2.2⟩
  ·exact hc.elim
 ·simp only [Z1]
  split at hc
  ·rename_i xs hx; simp only [hx]; exact ⟨hc.1, hc.2.1, hc.2.2.1, hc.2.2.2, (by first | rfl | trivial)⟩
  ·exact hc.elim
 ·simp only [Z1]
  split at hc
  ·rename_i z hz; exact ⟨hc.1.1, hc.1.2, z, _, hz, PL hc.2, (by first | rfl | trivial)⟩
  ·exact hc.elim
 ·simp only [Z1]
  split at hc
  ·rename_i s hx; simp only [hx]; exact ⟨hc.1, hc.2, (by first | rfl | trivial)⟩
  ·rename_i s rows hx; simp only [hx]; exact ⟨hc.1, hc.2, (by first | rfl | trivial)⟩
  ·rename_i s hx; simp only [hx]; exact ⟨hc.1, hc.2, (by first | rfl | trivial)⟩
  ·rename_i u j lo len hx; simp only [hx]; exact ⟨hc.1, hc.2.1, Ed hc.2.2, (by first | rfl | trivial)⟩
  ·rename_i u j i c hx
   split at hc
   ·rename_i rows ho
    split at hc
    ·rename_i s wM; simp only [hx, ho, wM]; exact ⟨hc.1.1, hc.1.2, _, rows, _, s, rfl, hc.2, wM, (by first | rfl | trivial)⟩
    ·exact hc.elim
   ·exact hc.elim
  ·exact hc.elim
 ·simp only [Z1]
  have hy := xe hc.2.1
  rw [hc.2.2] at hy
  exact ⟨_, _, _, xe hc.1, hy, (by first | rfl | trivial)⟩
 ·simp only [Z1]
  have hy := xe hc.2.1
  rw [hc.2.2] at hy
  exact ⟨_, _, _, xe hc.1, hy, (by first | rfl | trivial)⟩
 ·exact hc.elim
end Go.Vm
namespace Go.Vm
open Go.RowKit
def zQ (P : Program) (σ : St) (T : TypeId) (size : Nat) : List (Nat × Operand) -> Nat -> Prop × List (List D)
 | [], _ => (True, [])
 | (i, x) :: ps, k => ((i = k /\ gOf (look P σ T x) = true /\ (unc (look P σ T x)).flat = true /\ Ql (unc (look P σ T x)).cells = true /\ (rowOf σ (unc (look P σ T x)).cells).isSome = true /\ ((rowOf σ (unc (look P σ T x)).cells).getD []).length = size) /\ (zQ P σ T size ps (k + 1)).1,
   (rowOf σ (unc (look P σ T x)).cells).getD [] :: (zQ P σ T size ps (k + 1)).2)
theorem SD {P : Program} {σ : St} {T : TypeId} {size : Nat} : ∀ {ps : List (Nat × Operand)} {k : Nat}, (zQ P σ T size ps k).1 -> Td P σ T size ps k (zQ P σ T size ps k).2
 | [], _, _ => rfl
 | (_, x) :: _, _, h => by
  obtain ⟨⟨h1, h2, h3, h4, h5, h6⟩, h7⟩ := h
  obtain ⟨r, hr⟩ := Option.isSome_iff_exists.1 h5
  refine ⟨h1, h2, h3, h4, r, _, hr, ?_, SD h7, ?_⟩
  ·rw [hr] at h6; exact h6
  ·simp only [zQ, hr, Option.getD_some]
def Wo (σ : St) (x : V) (size : Nat) : Prop × List (List D) × St :=
 match x with
 | .one (.nil _) => (True, [], σ)
 | .one (.sref t j lo len) => (match σ.ob t j with | .arr false s wI => (s = size /\ lo = 0 /\ len = wI.length, wI, σ.Zh t j .none) | _ => (False, [], σ))
 | _ => (False, [], σ)
theorem FL {σ : St} {x : V} {size : Nat} (h : (Wo σ x size).1) : WR σ x size (Wo σ x size).2.1 (Wo σ x size).2.2 := by
 unfold Wo at h ⊢
 split at h
 ·exact ⟨rfl, rfl⟩
 ·rename_i t j lo len
  split at h
  ·rename_i s wI ho
   obtain ⟨rfl, rfl, rfl⟩ := h
   exact ⟨wI, ho, rfl, Nat.le_refl _, (List.take_length).symm, rfl⟩
  ·exact h.elim
 ·exact h.elim
def TD (σ : St) (x : V) (size : Nat) : Prop × List (List D) :=
 match x with
 | .one (.d (.sl s rows)) => (s = size, rows)
 | .one (.nil _) => (True, [])
 | .one (.sref t j lo len) => (match σ.ob t j with | .arr false s rows => (s = size /\ lo + len <= rows.length, cut rows lo len) | _ => (False, []))
 | _ => (False, [])
theorem Ge {σ : St} {x : V} {size : Nat} (h : (TD σ x size).1) : JG σ x size (TD σ x size).2 := by
 unfold TD at h ⊢
 split at h
 ·exact ⟨h, rfl⟩
 ·rfl
 ·rename_i t j lo len
  split at h
  ·rename_i s rows ho
   obtain ⟨rfl, hle⟩ := h
   exact ⟨rows, ho, hle, rfl⟩
  ·exact h.elim
 ·exact h.elim
def evS (P : Program) (σ : St) (o : Oper) (d : Nat) : Prop × St :=
 match o.op with
 | .alloc T => (match xG P 12 T with | some row => (σ.fresh d = true /\ XH P T = true, σ.new d (.one (.bptr d 0)) [.box row]) | none => (False, σ))
 | .box T x => (σ.fresh d = true /\ gOf (look P σ T x) = true /\ (unc (look P σ T x)).flat = true /\ Zw d (unc (look P σ T x)).cells = false, σ.new d (.one (.bptr d 0)) [.box (unc (look P σ T x)).cells])
 | .buildSlice T n parts => ((σ.fresh d = true /\ Ya P T = true /\ XH P (ZD P T) = true /\ 0 < P.cellsOf (ZD P T) /\ parts.toList.length = n /\ n * P.cellsOf (ZD P T) <= 16777216) /\ (zQ P σ (ZD P T) (P.cellsOf (ZD P T)) parts.toList 0).1,
   σ.new d (.one (.sref d 0 0 (zQ P σ (ZD P T) (P.cellsOf (ZD P T)) parts.toList 0).2.length)) [.arr false (P.cellsOf (ZD P T)) (zQ P σ (ZD P T) (P.cellsOf (ZD P T)) parts.toList 0).2])
 | .makeSlice T x y => (match xG P 12 (ZD P T) with
   | some z => (match zD z with
    | some zr => ((x = y /\ σ.fresh d = true /\ Ya P T = true /\ XH P (ZD P T) = true /\ 0 < P.cellsOf (ZD P T) /\ (lkI P σ x).1) /\ 0 <= (lkI P σ x).2 /\ P.bytesOf (ZD P T) * (lkI P σ x).2.toNat <= 281474976710656 /\ (lkI P σ x).2 <= 9223372036854775807,
      σ.new d (.one (.sref d 0 0 (lkI P σ x).2.toNat)) [.arr false (P.cellsOf (ZD P T)) (List.replicate (lkI P σ x).2.toNat zr)])
    | none => (False, σ))
   | none => (False, σ))
 | .call ⟨.builtin .append, ⟨[x, y]⟩, ⟨[t, t']⟩⟩ =>
   (((t = t' /\ gOf (look P σ t x) = true /\ gOf (look P σ t y) = true /\ Ya P t = true /\ XH P (ZD P t) = true /\ 0 < P.cellsOf (ZD P t)) /\ (Wo σ (unc (look P σ t x)) (P.cellsOf (ZD P t))).1 /\ (TD σ (unc (look P σ t y)) (P.cellsOf (ZD P t))).1 /\ (Wo σ (unc (look P σ t x)) (P.cellsOf (ZD P t))).2.2.fresh d = true) /\
    ((Wo σ (unc (look P σ t x)) (P.cellsOf (ZD P t))).2.1.length + (TD σ (unc (look P σ t y)) (P.cellsOf (ZD P t))).2.length) * P.bytesOf (ZD P t) <= 140737488355328 /\
    (Wo σ (unc (look P σ t x)) (P.cellsOf (ZD P t))).2.1.length + (TD σ (unc (look P σ t y)) (P.cellsOf (ZD P t))).2.length <= 9223372036854775807,
   (Wo σ (unc (look P σ t x)) (P.cellsOf (ZD P t))).2.2.new d (.one (.sref d 0 0 ((Wo σ (unc (look P σ t x)) (P.cellsOf (ZD P t))).2.1.length + (TD σ (unc (look P σ t y)) (P.cellsOf (ZD P t))).2.length)))
    [.arr false (P.cellsOf (ZD P t)) ((Wo σ (unc (look P σ t x)) (P.cellsOf (ZD P t))).2.1 ++ (TD σ (unc (look P σ t y)) (P.cellsOf (ZD P t))).2)])
 | op => ((evV P σ op o.type).1, σ.put d (evV P σ op o.type).2)
def IL (P : Program) (σ : St) (T : TypeId) (x y : Operand) : Prop × St :=
 match unc (look P σ 0 x) with
 | .one (.bptr t c) => (match σ.ob t 0 with
  | .box cells => (ym P T = true /\ gOf (look P σ 0 x) = true /\ gOf (look P σ T y) = true /\ (unc (look P σ T y)).flat = true /\ (unc (look P σ T y)).cells.length = P.cellsOf T /\ c + P.cellsOf T <= cells.length, σ.Zh t 0 (.box (place cells c (unc (look P σ T y)).cells)))
  | _ => (False, σ))
 | .one (.ptr t j i c) => (match σ.ob t j with
  | .arr q size rows => ((ym P T = true /\ gOf (look P σ 0 x) = true /\ gOf (look P σ T y) = true /\ (unc (look P σ T y)).flat = true /\ (rowOf σ (unc (look P σ T y)).cells).isSome = true /\ Ql (unc (look P σ T y)).cells = true /\ ((rowOf σ (unc (look P σ T y)).cells).getD []).length = P.cellsOf T /\ c + P.cellsOf T <= size) /\ i < rows.length /\ (q = true -> ((rowOf σ (unc (look P σ T y)).cells).getD []).all D.scalar = true /\ (cut (rowAt rows i) c (P.cellsOf T)).all D.scalar = true),
    σ.Zh t j (.arr q size (rows.set i (place (rowAt rows i) c ((rowOf σ (unc (look P σ T y)).cells).getD [])))))
  | _ => (False, σ))
 | _ => (False, σ)
theorem Gp {P : Program} {σ : St} {o : Oper} {d : Nat} (tc : ∀ c, o.op = .call c -> ∀ f, c.callee ≠ .value (.func f)) (hc : (evS P σ o d).1) : Step P o d σ (evS P σ o d).2 := by
 unfold evS at hc ⊢
 split at hc
 ·rename_i T wA
  unfold Step
  rw [wA]
  split at hc
  ·rename_i row we; simp only [we]; exact ⟨hc.1, hc.2, row, rfl, rfl⟩
  ·exact hc.elim
 ·rename_i T x wA
  unfold Step; rw [wA]
  exact ⟨hc.1, hc.2.1, hc.2.2.1, hc.2.2.2, rfl⟩
 ·rename_i T n parts wA
  unfold Step; rw [wA]
  obtain ⟨⟨h1, h2, h3, h4, h5, h6⟩, h7⟩ := hc
  exact .inl ⟨h1, h2, h3, h4, h5, h6, .inl ⟨_, SD h7, rfl⟩⟩
 ·rename_i T x y wA
  unfold Step; rw [wA]
  split at hc
  ·rename_i z hz
   split at hc
   ·rename_i zr uP
    obtain ⟨⟨h1, h2, h3, h4, h5, h6⟩, h7, h8, h9⟩ := hc
    have hl := xe h6
    simp only [hz]
    refine ⟨h1, h2, h3, h4, h5, false, z, zr, lkK P σ x, (lkI P σ x).2.toNat, (fun hh => by cases hh), rfl, uP, ?_, h8, by omega, rfl⟩
    rw [Int.toNat_of_nonneg h7]; exact hl
   ·exact hc.elim
  ·exact hc.elim
 ·rename_i x y t t' wA
  unfold Step; rw [wA]
  obtain ⟨⟨⟨rfl, h1, h2, h3, h4, h5⟩, h6, h7, h8⟩, h9, rz⟩ := hc
  exact ⟨x, y, t, rfl, rfl, h1, h2, h3, h4, h5, _, _, _, FL h6, Ge h7, h8, h9, rz, rfl⟩
 ·rename_i op h1 h2 h3 h4 h5
  have hv := I3 hc
  unfold Step
  split
  ·rename_i T wA; exact absurd wA (h1 T)
  ·rename_i T x wA; exact absurd wA (h2 T x)
  ·rename_i T n ps wA; exact absurd wA (h3 T n ps)
  ·rename_i T x y wA; exact absurd wA (h4 T x y)
  ·rename_i c wA
   split
   ·rename_i ur
    rw [wA] at hv
    simp only [Z1] at hv
    split at hv
    ·rename_i tv _ _; rw [ur] at tv; cases tv
    ·rename_i tv _; rw [ur] at tv; cases tv
    ·rename_i tv _; rw [ur] at tv; cases tv
    ·exact hv.elim
   ·rename_i f ur; exact absurd ur (tc c wA f)
   ·exact ⟨_, hv, rfl⟩
  ·exact .inl ⟨_, hv, rfl⟩
  ·exact ⟨_, hv, rfl⟩
theorem F3 {P : Program} {σ : St} {T : TypeId} {x y : Operand} (hc : (IL P σ T x y).1) : KR P σ T x y (IL P σ T x y).2 := by
 unfold IL at hc ⊢
 unfold KR
 split at hc
 ·rename_i t c hx
  split at hc
  ·rename_i cells ho
   obtain ⟨h1, h2, h3, h4, h5, h6⟩ := hc
   first | (rw [hx]; simp only [ho]) | simp only [ho]
   exact ⟨h1, h2, h3, h4, cells, rfl, h5, h6, rfl⟩
  ·exact hc.elim
 ·rename_i t j i c hx
  split at hc
  ·rename_i q size rows ho
   obtain ⟨⟨h1, h2, h3, h4, h5, h6, h7, h8⟩, h9, rz⟩ := hc
   obtain ⟨ds, sv⟩ := Option.isSome_iff_exists.1 h5
   first | (rw [hx]; simp only [ho]) | simp only [ho]
   refine ⟨h1, h2, h3, h4, q, size, rows, ds, rfl, h9, sv, h6, ?_, h8, fun hq => ?_, ?_⟩
   ·rw [sv] at h7; exact h7
   ·have := rz hq
    rw [sv] at this; exact this
   ·rw [sv]; rfl
  ·exact hc.elim
 ·exact hc.elim
def IW : List At -> Bool
 | [] => false
 | .nil _ :: _ => true
 | _ :: xs => IW xs
def HM (P : Program) (T : TypeId) : Bool := match xG P 12 (ZD P T) with | some z => IW z | none => false
def ML : List At -> Bool
 | [] => true
 | .d (.sl _ _) :: _ => false
 | .d _ :: xs => ML xs
 | _ => false
def E1 (P : Program) (σ : St) (T : TypeId) (x y : Operand) : Bool :=
 match unc (look P σ 0 x) with
 | .one (.ptr t j _ _) => (match σ.ob t j with | .arr true _ _ => !ML (unc (look P σ T y)).cells | _ => false)
 | .one (.tref _ _ _ _ (some _)) => true
 | _ => false
def stops (P : Program) (bar : Oper -> Bool) (o : Oper) : Bool :=
 match o.op with
 | .call ⟨.value _, _, _⟩ => true
 | .call ⟨.builtin .append, _, ⟨t :: _⟩⟩ => HM P t
 | .buildSlice T _ _ => HM P T || DV bar o
 | .makeSlice T _ _ => HM P T
 | .makeFunc _ _ _ => true
 | .convert _ T _ => (I8 P T).isNone
 | .indexAddr _ _ _ => o.guard.isSome
 | .index _ _ _ => o.guard.isSome
 | .slice _ _ _ _ _ => o.guard.isSome
 | _ => false
def xg (P : Program) (ops : Array Oper) (bar : Oper -> Bool) (o : Oper) (rest : List Oper) (σ : St) (Q : St -> Prop) : Prop := ∃ σ', Qg P ops bar o σ σ' /\ N0 P ops bar rest σ' Q
def Ev (P : Program) (ops : Array Oper) (bar : Oper -> Bool) : List Oper -> St -> (St -> Prop) -> Prop
 | [], σ, Q => Q σ
 | o :: rest, σ, Q =>
  if stops P bar o then xg P ops bar o rest σ Q else
  match o.guard with
  | none =>
   (match o.dst with
   | some d => (evS P σ o d).1 /\ Ev P ops bar rest (evS P σ o d).2 Q
   | none => (match o.op with | .store T x y => if E1 P σ T x y then xg P ops bar o rest σ Q else (IL P σ T x y).1 /\ Ev P ops bar rest (IL P σ T x y).2 Q | _ => False))
  | some (j, want) =>
   (match (ops[j]?).bind (·.dst), o.dst with
   | some dj, some d => (match zg want (σ.get dj) with
    | some g => (dj < σ.length /\ (g = true -> (evV P σ o.op o.type).1 /\ gOf (evV P σ o.op o.type).2 = true /\ (unc (evV P σ o.op o.type).2).flat = true)) /\ Ev P ops bar rest (σ.put d (.cnd g (unc (evV P σ o.op o.type).2))) Q
    | none => False)
   | _, _ => False)
theorem Xy {P : Program} {ops : Array Oper} {bar : Oper -> Bool} : ∀ {l : List Oper} {σ : St} {Q : St -> Prop}, Ev P ops bar l σ Q -> N0 P ops bar l σ Q
 | [], _, _, h => h
 | o :: rest, σ, Q, h => by
  unfold Ev at h
  split at h
  ·exact h
  ·rename_i wa
   have tc : ∀ c, o.op = .call c -> ∀ f, c.callee ≠ .value (.func f) := by
    intro c wA f ur
    obtain ⟨cc, ca, ct⟩ := c
    simp only at ur; subst ur
    exact wa (by simp [stops, wA])
   split at h
   ·rename_i hg
    split at h
    ·rename_i d hd
     refine ⟨_, .inl ?_, Xy h.2⟩
     unfold YT
     simp only [hg, hd]
     exact Gp tc h.1
    ·rename_i hd
     split at h
     ·rename_i T x y wA
      split at h
      ·exact h
      ·refine ⟨_, .inl ?_, Xy h.2⟩
       unfold YT
       simp only [hg, hd, wA]
       exact F3 h.1
     ·exact h.elim
   ·rename_i j want hg
    split at h
    ·rename_i dj d ve hd
     split at h
     ·rename_i g vp
      refine ⟨_, .inl ?_, Xy h.2⟩
      unfold YT
      simp only [hg]
      refine ⟨dj, d, g, _, ve, h.1.1, hd, vp, fun ry => ?_, rfl⟩
      obtain ⟨h1, h2, h3⟩ := h.1.2 ry
      have base : ∃ v0, Z1 P σ o.op o.type v0 /\ gOf v0 = true /\ unc (evV P σ o.op o.type).2 = unc v0 /\ (unc (evV P σ o.op o.type).2).flat = true := ⟨_, I3 h1, h2, rfl, h3⟩
      unfold T6
      split
      ·rename_i c wA
       split
       ·rename_i f ur; exact absurd ur (tc c wA f)
       ·exact base
      ·exact base
     ·exact h.elim
    ·exact h.elim
theorem Er {P : Program} {Q : Exit -> St -> Prop} {σ : St} {id : Nat} {l : List Oper} {bar : Oper -> Bool} (h : Ev P l.toArray bar l σ (Q .normal)) : AWP P (.region id l.toArray false) Q σ := Ik (Xy h)
theorem L7 {P : Program} {ops : Array Oper} {bar : Oper -> Bool} {o : Oper} {rest : List Oper} {σ : St} {Q : St -> Prop} {c : Call} {f : FuncId} {d : Nat} {own : Bool} {rows res : List (List D)} (wA : o.op = .call c) (hc : c.callee = .value (.func f)) (hg : o.guard = none) (hd : o.dst = some d)
  (wK : XP P σ c.args.toList c.argTypes.toList rows) (hs : Xk P f own rows res) (wa : Z5 P σ c.args.toList c.argTypes.toList = true \/ Qq own res) (h : Ev P ops bar rest (σ.put d (Kx res)) Q) : xg P ops bar o rest σ Q := by
 refine ⟨_, .inl ?_, Xy h⟩
 unfold YT; simp only [hg, hd]
 unfold Step
 rw [wA]
 simp only [hc]
 exact .inl ⟨own, res, ⟨rows, wK, hs, wa⟩, rfl⟩
theorem Iv {P : Program} {ops : Array Oper} {bar : Oper -> Bool} {o : Oper} {rest : List Oper} {σ : St} {Q : St -> Prop} {c : Call} {f : FuncId} {d j dj : Nat} {want g own : Bool} {rows : List (List D)} {res : List D} (wA : o.op = .call c) (hc : c.callee = .value (.func f)) (hg : o.guard = some (j, want)) (hd : o.dst = some d)
  (ve : (ops[j]?).bind (·.dst) = some dj) (wN : dj < σ.length) (vp : zg want (σ.get dj) = some g)
  (wK : g = true -> XP P σ c.args.toList c.argTypes.toList rows) (hs : g = true -> Xk P f own rows [res]) (wa : Z5 P σ c.args.toList c.argTypes.toList = true \/ Qq own [res]) (h : Ev P ops bar rest (σ.put d (.cnd g (Kx [res]))) Q) : xg P ops bar o rest σ Q := by
 refine ⟨_, .inl ?_, Xy h⟩
 unfold YT; simp only [hg]
 refine ⟨dj, d, g, _, ve, wN, hd, vp, fun ry => ?_, rfl⟩
 unfold T6
 rw [wA]
 simp only [hc]
 exact ⟨own, res, ⟨rows, wK ry, hs ry, wa⟩, rfl⟩
theorem Ir {P : Program} {ops : Array Oper} {bar : Oper -> Bool} {o : Oper} {rest : List Oper} {σ : St} {Q : St -> Prop} {S T : TypeId} {x : Operand} {d : Nat} {l : List UInt8} (wA : o.op = .convert S T x) (hg : o.guard = none) (hd : o.dst = some d)
  (h1 : gOf (look P σ S x) = true) (h2 : VY P S = true) (h3 : j7 P T = true) (h4 : JG σ (unc (look P σ S x)) 1 (QE l)) (h : Ev P ops bar rest (σ.put d (.one (.d (.str ⟨l.toArray⟩)))) Q) : xg P ops bar o rest σ Q := by
 refine ⟨_, .inl ?_, Xy h⟩
 unfold YT; simp only [hg, hd]
 unfold Step
 rw [wA]
 exact .inr (.inl ⟨l, h1, h2, h3, h4, rfl⟩)
theorem Mk {P : Program} {ops : Array Oper} {bar : Oper -> Bool} {o : Oper} {rest : List Oper} {σ : St} {Q : St -> Prop} {S T : TypeId} {x : Operand} {d : Nat} {s : ByteArray} (wA : o.op = .convert S T x) (hg : o.guard = none) (hd : o.dst = some d)
  (h1 : gOf (look P σ S x) = true) (h2 : j7 P S = true) (h3 : VY P T = true) (h4 : unc (look P σ S x) = .one (.d (.str s))) (h5 : s.size <= 9223372036854775807) (h : Ev P ops bar rest (σ.put d (.one (.d (.sl 1 (QE s.data.toList))))) Q) : xg P ops bar o rest σ Q := by
 refine ⟨_, .inl ?_, Xy h⟩
 unfold YT; simp only [hg, hd]
 unfold Step
 rw [wA]
 exact .inr (.inr ⟨s, h1, h2, h3, h4, h5, rfl⟩)
theorem Fl {P : Program} {ops : Array Oper} {bar : Oper -> Bool} {o : Oper} {rest : List Oper} {σ : St} {Q : St -> Prop} {d : Nat} (tc : ∀ c, o.op = .call c -> ∀ f, c.callee ≠ .value (.func f)) (hg : o.guard = none) (hd : o.dst = some d)
  (h1 : (evS P σ o d).1) (h : Ev P ops bar rest (evS P σ o d).2 Q) : xg P ops bar o rest σ Q := by
 refine ⟨_, .inl ?_, Xy h⟩
 unfold YT; simp only [hg, hd]
 exact Gp tc h1
theorem HE {P : Program} {ops : Array Oper} {bar : Oper -> Bool} {o : Oper} {rest : List Oper} {σ : St} {Q : St -> Prop} {c : Call} {f : FuncId} {d : Nat} {rows res : List (List D)} (qs : List Bool) (wA : o.op = .call c) (hc : c.callee = .value (.func f)) (hg : o.guard = none) (hd : o.dst = some d)
  (wK : XP P σ c.args.toList c.argTypes.toList rows) (hs : YD P f rows res) (hq : KQ qs res.flatten) (hf : σ.fresh d = true) (h : Ev P ops bar rest (σ.new d (xZ d res) (Zs qs res.flatten)) Q) : xg P ops bar o rest σ Q := by
 refine ⟨_, .inl ?_, Xy h⟩
 unfold YT; simp only [hg, hd]
 unfold Step
 rw [wA]
 simp only [hc]
 exact .inr (.inr ⟨rows, res, qs, wK, hs, hq, hf, rfl⟩)
def Qf (P : Program) (σ : St) (T : TypeId) (size : Nat) : List (Nat × Operand) -> Nat -> Prop × List (List At)
 | [], _ => (True, [])
 | (i, x) :: ps, k => ((i = k /\ gOf (look P σ T x) = true /\ (unc (look P σ T x)).flat = true /\ (unc (look P σ T x)).cells.length = size) /\ (Qf P σ T size ps (k + 1)).1, (unc (look P σ T x)).cells :: (Qf P σ T size ps (k + 1)).2)
theorem OH {P : Program} {σ : St} {T : TypeId} {size : Nat} : ∀ {ps : List (Nat × Operand)} {k : Nat}, (Qf P σ T size ps k).1 -> TN P σ T size ps k (Qf P σ T size ps k).2
 | [], _, _ => rfl
 | (_, x) :: _, _, h => by
  obtain ⟨⟨h1, h2, h3, h4⟩, h7⟩ := h
  exact ⟨h1, h2, h3, h4, _, OH h7, rfl⟩
theorem FU {P : Program} {ops : Array Oper} {bar : Oper -> Bool} {o : Oper} {rest : List Oper} {σ : St} {Q : St -> Prop} {d : Nat} {T : TypeId} {n : Nat} {parts : Array (Nat × Operand)} (wA : o.op = .buildSlice T n parts) (hg : o.guard = none) (hd : o.dst = some d)
  (h1 : σ.fresh d = true /\ Ya P T = true /\ XH P (ZD P T) = true /\ 0 < P.cellsOf (ZD P T) /\ parts.toList.length = n /\ n * P.cellsOf (ZD P T) <= 16777216) (h2 : (Qf P σ (ZD P T) (P.cellsOf (ZD P T)) parts.toList 0).1)
  (h3 : Zw d (Qf P σ (ZD P T) (P.cellsOf (ZD P T)) parts.toList 0).2.flatten = false)
  (h : Ev P ops bar rest (σ.new d (.one (.sref d 0 0 (Qf P σ (ZD P T) (P.cellsOf (ZD P T)) parts.toList 0).2.length)) [.lit (P.cellsOf (ZD P T)) (Qf P σ (ZD P T) (P.cellsOf (ZD P T)) parts.toList 0).2]) Q) : xg P ops bar o rest σ Q := by
 refine ⟨_, .inl ?_, Xy h⟩
 unfold YT; simp only [hg, hd]
 unfold Step
 rw [wA]
 exact .inl ⟨h1.1, h1.2.1, h1.2.2.1, h1.2.2.2.1, h1.2.2.2.2.1, h1.2.2.2.2.2, .inr ⟨_, OH h2, h3, rfl⟩⟩
theorem Gi {P : Program} {ops : Array Oper} {bar : Oper -> Bool} {o : Oper} {rest : List Oper} {σ : St} {Q : St -> Prop} {d : Nat} {T : TypeId} {n : Nat} {parts : Array (Nat × Operand)} (wA : o.op = .buildSlice T n parts) (hg : o.guard = none) (hd : o.dst = some d)
  (h1 : Ya P T = true /\ XH P (ZD P T) = true /\ 0 < P.cellsOf (ZD P T) /\ parts.toList.length = n /\ n * P.cellsOf (ZD P T) <= 16777216) (h2 : (zQ P σ (ZD P T) (P.cellsOf (ZD P T)) parts.toList 0).1)
  (h : Ev P ops bar rest (σ.put d (.one (.d (.sl (P.cellsOf (ZD P T)) (zQ P σ (ZD P T) (P.cellsOf (ZD P T)) parts.toList 0).2)))) Q) : xg P ops bar o rest σ Q := by
 refine ⟨_, .inl ?_, Xy h⟩
 unfold YT; simp only [hg, hd]
 unfold Step
 rw [wA]
 exact .inr ⟨h1, _, SD h2, rfl⟩
def qf (σ : St) (x : V) (size : Nat) : Prop × List (List D) × List (Nat × Nat) :=
 match x with
 | .one (.nil _) => (True, [], [])
 | .one (.sref t j lo len) => (match σ.ob t j with | .arr true s wI => (s = size /\ lo = 0 /\ len = wI.length, wI, [(t, j)]) | _ => (False, [], []))
 | _ => (False, [], [])
theorem Hm {σ : St} {x : V} {size : Nat} (h : (qf σ x size).1) : H5 σ x size (qf σ x size).2.1 (qf σ x size).2.2 := by
 unfold qf at h ⊢
 split at h
 ·exact ⟨rfl, rfl⟩
 ·rename_i t j lo len
  split at h
  ·rename_i s wI ho
   obtain ⟨rfl, rfl, rfl⟩ := h
   exact ⟨ho, rfl, rfl, rfl⟩
  ·exact h.elim
 ·exact h.elim
def qN (σ : St) (x : V) (size : Nat) : Prop × List (List D) × List (Nat × Nat) :=
 match x with
 | .one (.sref t j lo len) => (match σ.ob t j with | .lit s rows => ((s = size /\ lo = 0 /\ len = rows.length) /\ (QY σ rows).isSome = true /\ QI σ rows, (QY σ rows).getD [], YL rows.flatten) | _ => (False, [], []))
 | _ => (False, [], [])
theorem H8 {σ : St} {x : V} {size : Nat} (h : (qN σ x size).1) : GS σ x size (qN σ x size).2.1 (qN σ x size).2.2 := by
 unfold qN at h ⊢
 split at h
 ·rename_i t j lo len
  split at h
  ·rename_i s rows ho
   obtain ⟨⟨rfl, rfl, rfl⟩, h1, h2⟩ := h
   obtain ⟨ns, tc⟩ := Option.isSome_iff_exists.1 h1
   exact ⟨rows, ho, rfl, rfl, by rw [tc]; rfl, h2, rfl⟩
  ·exact h.elim
 ·exact h.elim
theorem yX : ∀ (σ : St) (d : Nat) (v : V) (t : Nat), (σ.put d v)[t]? = if t = d then (σ[t]?).map (fun e => (v, e.2)) else σ[t]?
 | [], _, _, _ => by simp [St.put]
 | e :: σ, 0, v, t => by cases t <;> simp [St.put]
 | e :: σ, d + 1, v, t => by
  cases t with
  | zero => simp [St.put]
  | succ t => have := yX σ d v t; simpa [St.put] using this
theorem Jj : ∀ (σ : St) (d : Nat) (v : V) (os : List Ob) (t : Nat), (σ.new d v os)[t]? = if t = d then (σ[t]?).map (fun _ => (v, os)) else σ[t]?
 | [], _, _, _, _ => by simp [St.new]
 | e :: σ, 0, v, os, t => by cases t <;> simp [St.new]
 | e :: σ, d + 1, v, os, t => by
  cases t with
  | zero => simp [St.new]
  | succ t => have := Jj σ d v os t; simpa [St.new] using this
theorem XU : ∀ (σ : St) (a j : Nat) (o : Ob) (t : Nat), (σ.Zh a j o)[t]? = if t = a then (σ[t]?).map (fun e => (e.1, e.2.set j o)) else σ[t]?
 | [], _, _, _, _ => by simp [St.Zh]
 | e :: σ, 0, j, o, t => by cases t <;> simp [St.Zh]
 | e :: σ, a + 1, j, o, t => by
  cases t with
  | zero => simp [St.Zh]
  | succ t => have := XU σ a j o t; simpa [St.Zh] using this
theorem Ku {σ : St} {d : Nat} : Yc σ d = true ↔ σ[d]? = some (.any, []) \/ ∃ x, σ[d]? = some (.one (.d x), []) := by
 unfold Yc
 constructor
 ·intro h
  split at h
  ·rename_i h1; exact .inl h1
  ·rename_i x h1; exact .inr ⟨x, h1⟩
  ·cases h
 ·rintro (h | ⟨x, h⟩) <;> rw [h]
theorem Qs {σ : St} {d a j : Nat} {o : Ob} (h : Yc σ d = true) : Yc (σ.Zh a j o) d = true := by
 rw [Ku] at *
 rw [XU]
 rcases h with h | ⟨x, h⟩
 ·left; rw [h]; split <;> rfl
 ·right; refine ⟨x, ?_⟩; rw [h]; split <;> rfl
theorem Jy : ∀ {l : List (Nat × Nat)} {σ : St} {d : Nat}, Yc σ d = true -> Yc (σ.Zq l) d = true
 | [], _, _, h => h
 | p :: l, σ, d, h => by rw [St.Zq]; exact Jy (l := l) (Qs h)
theorem kP {σ : St} {d d' : Nat} {v : V} {os : List Ob} (wC : d ≠ d') (h : Yc σ d = true) : Yc (σ.new d' v os) d = true := by
 unfold Yc at *; simp only [Jj, if_neg wC]; exact h
theorem YX {P : Program} {σ : St} {d : Nat} {v : V} {T : TypeId} {x : Operand} (h : Jt d x = false) : look P (σ.put d v) T x = look P σ T x := by
 cases x with
 | tmp t =>
  have wC : t ≠ d := fun e => by subst e; simp [Jt] at h
  simp [look, St.Qp, wC]
 | const c => rfl
 | global g => rfl
 | func f => rfl
theorem Kj : ∀ (σ : St) (d : Nat) (v : V) (t j : Nat) (o : Ob), (σ.put d v).Zh t j o = (σ.Zh t j o).put d v
 | [], _, _, _, _, _ => rfl
 | e :: σ, 0, v, 0, j, o => rfl
 | e :: σ, d + 1, v, 0, j, o => rfl
 | e :: σ, 0, v, t + 1, j, o => rfl
 | e :: σ, d + 1, v, t + 1, j, o => by simp [St.put, St.Zh, Kj σ d v t j o]
theorem jP {d : Nat} {v : V} : ∀ (l : List (Nat × Nat)) (σ : St), (σ.put d v).Zq l = (σ.Zq l).put d v
 | [], _ => rfl
 | p :: l, σ => by rw [St.Zq, St.Zq, Kj, jP l]
theorem SO {σ : St} {d : Nat} {v : V} : ∀ (xs : List At), Qd (σ.put d v) xs = Qd σ xs
 | [] => rfl
 | x :: xs => by
  have : mvD (σ.put d v) x = mvD σ x := by cases x <;> simp [mvD, St.XY]
  simp only [Qd, this, SO xs]
theorem VC {σ : St} {d : Nat} {v : V} : ∀ (xs : List At), Xj (σ.put d v) xs = Xj σ xs
 | [] => rfl
 | x :: xs => by
  have : O3 (σ.put d v) x = O3 σ x := by cases x <;> simp [O3, St.XY]
  simp only [Xj, this, VC xs]
theorem MV : ∀ (l : List (Nat × V)) (σ : St), (σ.Qc l).ob = σ.ob
 | [], _ => rfl
 | p :: l, σ => by rw [St.Qc, MV l, St.XY]
theorem Sp {P : Program} {T : TypeId} {x : Operand} : ∀ (l : List (Nat × V)) (σ : St), (∀ p ∈ l, Jt p.1 x = false) -> look P (σ.Qc l) T x = look P σ T x
 | [], _, _ => rfl
 | p :: l, σ, h => by rw [St.Qc, Sp l _ (fun q hq => h q (by simp [hq])), YX (h p (by simp))]
theorem xq {L : List (Nat × Nat)} : ∀ (l : List (Nat × V)) (σ : St), (σ.Qc l).Zq L = (σ.Zq L).Qc l
 | [], _ => rfl
 | p :: l, σ => by rw [St.Qc, xq l, jP, St.Qc]
theorem Hi : ∀ {σ : St} {t d : Nat} {v v' : V} {os : List Ob}, t ≠ d -> (σ.put t v').new d v os = (σ.new d v os).put t v'
 | [], _, _, _, _, _, _ => rfl
 | e :: σ, 0, 0, _, _, _, h => absurd rfl h
 | e :: σ, 0, d + 1, _, _, _, _ => rfl
 | e :: σ, t + 1, 0, _, _, _, _ => rfl
 | e :: σ, t + 1, d + 1, v, v', os, h => by simp [St.put, St.new, Hi (σ := σ) (v := v) (v' := v') (os := os) (fun hh => h (congrArg (· + 1) hh))]
theorem Ll {d : Nat} {v : V} {os : List Ob} : ∀ (l : List (Nat × V)) (σ : St), (∀ p ∈ l, p.1 ≠ d) -> (σ.Qc l).new d v os = (σ.new d v os).Qc l
 | [], _, _ => rfl
 | p :: l, σ, h => by rw [St.Qc, Ll l _ (fun q hq => h q (by simp [hq])), Hi (h p (by simp)), St.Qc]
theorem UR {d : Nat} {v : V} (hv : v.ref d = false) : ∀ {σ : St} {k t : Nat}, JU d k σ = true -> JU d k (σ.put t v) = true
 | [], _, _, h => h
 | e :: σ, k, 0, h => by
  simp only [JU, St.put, Bool.and_eq_true, Bool.or_eq_true, Bool.not_eq_true'] at h ⊢
  exact ⟨h.1.imp id (fun hh => ⟨hv, hh.2⟩), h.2⟩
 | e :: σ, k, t + 1, h => by
  simp only [JU, St.put, Bool.and_eq_true] at h ⊢
  exact ⟨h.1, UR hv h.2⟩
theorem OD {d : Nat} : ∀ (l : List (Nat × V)) {σ : St}, (∀ p ∈ l, p.2.ref d = false) -> σ.fresh d = true -> (σ.Qc l).fresh d = true
 | [], _, _, h => h
 | p :: l, σ, hl, h => by
  refine OD l (fun q hq => hl q (by simp [hq])) ?_
  simp only [St.fresh, Bool.and_eq_true, decide_eq_true_eq, St.XZ] at h ⊢
  exact ⟨h.1, UR (hl p (by simp)) h.2⟩
theorem Nc {o : Oper} {x y : Operand} {t : TypeId} (wA : o.op = .call ⟨.builtin .append, #[x, y], #[t, t]⟩) {n : Nat} (h : S9 o n = true) : Jt n x = false /\ Jt n y = false := by
 have hx : x ∈ o.op.operands.toList := by rw [wA]; simp [Op.operands, Call.operands]
 have hy : y ∈ o.op.operands.toList := by rw [wA]; simp [Op.operands, Call.operands]
 simp only [S9, Bool.not_eq_true'] at h
 exact ⟨Bool.eq_false_iff.2 (List.any_eq_false.1 h x hx), Bool.eq_false_iff.2 (List.any_eq_false.1 h y hy)⟩
theorem Li {σ σ' : St} (h : σ'.ob = σ.ob) : ∀ (xs : List At), Qd σ' xs = Qd σ xs
 | [] => rfl
 | x :: xs => by
  have : mvD σ' x = mvD σ x := by cases x <;> simp [mvD, h]
  simp only [Qd, this, Li h xs]
theorem PA {σ σ' : St} (h : σ'.ob = σ.ob) : ∀ (xs : List At), Xj σ' xs = Xj σ xs
 | [] => rfl
 | x :: xs => by
  have : O3 σ' x = O3 σ x := by cases x <;> simp [O3, h]
  simp only [Xj, this, PA h xs]
theorem Nr {σ σ' : St} (h : σ'.ob = σ.ob) : ∀ (xs : List (List At)), QY σ' xs = QY σ xs
 | [] => rfl
 | x :: xs => by simp only [QY, Li h, Nr h xs]
theorem S4 {σ σ' : St} (h : σ'.ob = σ.ob) : ∀ (xs : List (List At)), QI σ' xs = QI σ xs
 | [] => rfl
 | x :: xs => by simp only [QI, PA h, S4 h xs]
theorem Ft {σ σ' : St} (h : σ'.ob = σ.ob) {x : V} {size : Nat} {wI : List (List D)} {l : List (Nat × Nat)} (hd : H5 σ x size wI l) : H5 σ' x size wI l := by
 unfold H5 at *; rw [h]; exact hd
theorem Fv {σ σ' : St} (h : σ'.ob = σ.ob) {x : V} {size : Nat} {news : List (List D)} {l : List (Nat × Nat)} (hd : GS σ x size news l) : GS σ' x size news l := by
 unfold GS at *
 simp only [h, Nr h, S4 h]; exact hd
theorem NS {d : Nat} : ∀ {os : List Ob} {j : Nat} {cells : List At}, YH d os = false -> YB os j = .box cells -> Zw d cells = false
 | [], j, cells, _, h => by simp [YB] at h
 | o :: os, 0, cells, hr, h => by
  simp only [YB, List.getElem?_cons_zero] at h
  subst h
  simp only [YH, Bool.or_eq_false_iff] at hr; exact hr.1
 | o :: os, j + 1, cells, hr, h => by
  have h' : YB os j = .box cells := by simpa [YB] using h
  refine NS (os := os) (j := j) ?_ h'
  cases o <;> simp only [YH, Bool.or_eq_false_iff] at hr <;> first | exact hr.2 | exact hr
theorem FF {P : Program} {ops : Array Oper} {o : Oper} {σ X : St} {d : Nat} {v : V} {os : List Ob} (hd : o.dst = some d) (hlen : X.length = σ.length) (vC : ∀ t, X.get t = σ.get t) (uC : ∀ t j cells, X.ob t j = .box cells -> σ.ob t j = .box cells)
  (vS : ∀ t j q s rows, X.ob t j = .arr q s rows -> ∃ wT, σ.ob t j = .arr q s wT) (hf : X.fresh d = true)
  (hs : ∀ l : List (Nat × V), (∀ p ∈ l, p.1 ≠ d /\ S9 o p.1 = true /\ p.2.ref d = false) -> Tv P ops o (σ.Qc l) ((X.Qc l).new d v os)) (hc : ∀ l : List (Nat × V), SQ o (σ.Qc l) ((X.Qc l).new d v os)) : DM P ops o σ (X.new d v os) := by
 have wN := St.Jr hf
 have nB : ∀ t e, X[t]? = some e -> t ≠ d -> e.1.ref d = false /\ YH d e.2 = false := fun t e he wC => by
  have h1 := hf
  simp only [St.fresh, Bool.and_eq_true] at h1
  exact Jv h1.2 t e he (by omega)
 refine ⟨d, hd, by rw [St.yy, hlen], fun t wC => ?_, fun t j cells wC hb => ?_, fun t j q s rows wC hb => ?_, fun l hl => ?_⟩
 ·rw [St.xp, if_neg (fun hh => wC hh.1), vC]
  refine ⟨rfl, ?_⟩
  rw [<- vC]
  unfold St.get
  cases he : X[t]? with
  | none => rfl
  | some e => exact (nB t e he wC).1
 ·rw [St.X7, if_neg (fun hh => wC hh.1)] at hb
  refine ⟨uC t j cells hb, ?_⟩
  unfold St.ob at hb
  cases he : X[t]? with
  | none => rw [he] at hb; cases hb
  | some e => rw [he] at hb; exact NS (nB t e he wC).2 hb
 ·rw [St.X7, if_neg (fun hh => wC hh.1)] at hb
  exact vS t j q s rows hb
 ·have e := Ll (d := d) (v := v) (os := os) l X (fun p hp => (hl p hp).1)
  rw [<- e]
  exact ⟨hs l hl, hc l⟩
theorem FW {σ : St} {L : List (Nat × Nat)} {t j : Nat} {cells : List At} (h : (σ.Zq L).ob t j = .box cells) : σ.ob t j = .box cells := by
 rw [St.JD] at h
 split at h
 ·cases h
 ·exact h
theorem Gj {σ : St} {L : List (Nat × Nat)} {t j : Nat} {q : Bool} {s : Nat} {rows : List (List D)} (h : (σ.Zq L).ob t j = .arr q s rows) : σ.ob t j = .arr q s rows := by
 rw [St.JD] at h
 split at h
 ·cases h
 ·exact h
theorem G4 {P : Program} {ops : Array Oper} {bar : Oper -> Bool} {o : Oper} {rest : List Oper} {σ : St} {Q : St -> Prop} {d : Nat} {x y : Operand} {t : TypeId} {wI news : List (List D)} {l1 l2 : List (Nat × Nat)} {size : Nat} (wA : o.op = .call ⟨.builtin .append, #[x, y], #[t, t]⟩) (hg : o.guard = none) (hd : o.dst = some d) (w7 : bar o = true)
  (vK : size = P.cellsOf (ZD P t)) (h1 : gOf (look P σ t x) = true /\ gOf (look P σ t y) = true /\ Ya P t = true /\ XH P (ZD P t) = true /\ 0 < P.cellsOf (ZD P t))
  (h2 : (qf σ (unc (look P σ t x)) size).1 /\ (qf σ (unc (look P σ t x)) size).2 = (wI, l1)) (h3 : (qN σ (unc (look P σ t y)) size).1 /\ (qN σ (unc (look P σ t y)) size).2 = (news, l2))
  (h4 : (l1 ++ l2).Nodup /\ (σ.Zq (l1 ++ l2)).fresh d = true) (h5 : (wI.length + news.length) * P.bytesOf (ZD P t) <= 140737488355328 /\ wI.length + news.length <= 9223372036854775807)
  (h : Ev P ops bar rest ((σ.Zq (l1 ++ l2)).new d (.one (.sref d 0 0 (wI.length + news.length))) [.arr true size (wI ++ news)]) Q) : xg P ops bar o rest σ Q := by
 subst vK
 have e1 := Hm h2.1
 have e2 := H8 h3.1
 rw [h2.2] at e1
 rw [h3.2] at e2
 have cl : ∀ σ0 : St, SQ o σ0 ((σ0.Zq (l1 ++ l2)).new d (.one (.sref d 0 0 (wI.length + news.length))) [.arr true (P.cellsOf (ZD P t)) (wI ++ news)]) := fun σ0 d' wQ hc => kP (fun e => wQ (by rw [hd, e])) (Jy hc)
 have go : ∀ l : List (Nat × V), (∀ p ∈ l, p.1 ≠ d /\ S9 o p.1 = true /\ p.2.ref d = false) -> Tv P ops o (σ.Qc l) (((σ.Qc l).Zq (l1 ++ l2)).new d (.one (.sref d 0 0 (wI.length + news.length))) [.arr true (P.cellsOf (ZD P t)) (wI ++ news)]) := by
  rintro l hl T0 B a w K Q' ⟨X, hh, r⟩ hK
  have hw : Region.wanted o (yielded ops a.tmps) = true := by simp [Region.wanted, hg]
  rw [if_pos hw]
  have lx : look P (σ.Qc l) t x = look P σ t x := Sp l σ (fun p hp => (Nc wA (hl p hp).2.1).1)
  have ly : look P (σ.Qc l) t y = look P σ t y := Sp l σ (fun p hp => (Nc wA (hl p hp).2.1).2)
  refine Oa r wA hd (by rw [lx]; exact h1.1) (by rw [ly]; exact h1.2.1) h1.2.2.1 h1.2.2.2.1 h1.2.2.2.2 (by rw [lx]; exact Ft (MV l σ) e1) (by rw [ly]; exact Fv (MV l σ) e2) h4.1 ?_ h5.1 h5.2 hK
  rw [xq]
  exact OD l (fun p hp => (hl p hp).2.2) h4.2
 have hR : Tv P ops o σ ((σ.Zq (l1 ++ l2)).new d (.one (.sref d 0 0 (wI.length + news.length))) [.arr true (P.cellsOf (ZD P t)) (wI ++ news)]) := go [] (fun p hp => by cases hp)
 refine ⟨_, .inr ⟨w7, hR, cl σ, fun hh => by simp [kA, wA] at hh, fun _ => FF hd (St.KJ _ _) (fun t => St.xP _ _ t) (fun t j cells hb => FW hb) (fun t j q s rows hb => ⟨rows, Gj hb⟩) h4.2 (fun l hl => ?_) (fun l => ?_), fun hh _ => by first | (simp [Qw, wA] at hh; done) | (unfold Qw at hh; rw [wA] at hh; split at hh <;> simp_all)⟩, Xy h⟩
 ·rw [<- xq]; exact go l hl
 ·rw [<- xq]; exact cl _
theorem LS {f : At -> Bool} {v : V} (hv : v.KO f = false) : ∀ {σ : St} {d : Nat}, σ.KO f = false -> (σ.put d v).KO f = false
 | [], _, _ => rfl
 | e :: σ, 0, h => by simp only [St.KO, Bool.or_eq_false_iff] at h; simp [St.put, St.KO, hv, h.1.2, h.2]
 | e :: σ, d + 1, h => by simp only [St.KO, Bool.or_eq_false_iff] at h; simp [St.put, St.KO, h.1.1, h.1.2, LS hv h.2]
theorem RM {σ : St} : ∀ {xs : List At} {ds : List D}, Qd σ xs = some ds -> ∀ p ∈ YL xs, ∃ q s rows, σ.ob p.1 p.2 = .arr q s rows
 | [], _, _, p, hp => by cases hp
 | x :: xs, ds, h, p, hp => by
  simp only [Qd] at h
  split at h
  ·rename_i d sX h1 h2
   have ih := RM h2
   cases x with
   | sref t j lo len =>
    simp only [YL, List.mem_cons] at hp
    rcases hp with rfl | hp
    ·simp only [mvD] at h1
     split at h1
     ·rename_i q s rows ho; exact ⟨q, s, rows, ho⟩
     ·cases h1
    ·exact ih p hp
   | _ => exact ih p hp
  ·cases h
theorem Hu {σ : St} {L : List (Nat × Nat)} {t j t' size wZ : Nat} {q q' : Bool} {rows wT : List (List D)} {cells : List At} {xs : List At} {ds : List D} (hm : Qd σ xs = some ds) (hL : YL xs = L) (ho : σ.ob t j = .arr q size rows) (hn : (t, j) ∉ L) (hb : σ.ob t' 0 = .box cells) :
  ((σ.Zq L).Zh t j (.arr q' wZ wT)).ob t' 0 = .box cells := by
 have h1 : (σ.Zq L).ob t j ≠ .none := by rw [St.JD, if_neg hn, ho]; simp
 rw [St.Xf _ t j _ t' 0 h1]
 split
 ·rename_i hc; rw [hc.1, hc.2, ho] at hb; cases hb
 ·rw [St.JD]
  split
  ·rename_i hc
   obtain ⟨q, s, rows, he⟩ := RM hm (t', 0) (by rw [hL]; exact hc)
   rw [he] at hb; cases hb
  ·exact hb
structure StM (P : Program) (σ : St) (T : TypeId) (x y : Operand) (t j i c size : Nat) (rows : List (List D)) (ds : List D) (l : List (Nat × Nat)) : Prop where
 hx : unc (look P σ 0 x) = .one (.ptr t j i c)
 ho : σ.ob t j = .arr true size rows
 hi : i < rows.length
 h1 : ym P T = true /\ gOf (look P σ 0 x) = true /\ gOf (look P σ T y) = true /\ (unc (look P σ T y)).flat = true
 h2 : Qd σ (unc (look P σ T y)).cells = some ds
 h3 : Xj σ (unc (look P σ T y)).cells
 h4 : YL (unc (look P σ T y)).cells = l
 h5 : l.Nodup /\ (t, j) ∉ l /\ (σ.Zq l).KO (At.isT t) = false
 h6 : ds.length = P.cellsOf T /\ c + P.cellsOf T <= size
theorem StM.Qc {P : Program} {o : Oper} {T : TypeId} {x y : Operand} (wA : o.op = .store T x y) {t j i c size : Nat} {rows : List (List D)} {ds : List D} {l : List (Nat × Nat)} : ∀ (q : List (Nat × V)) {σ : St}, (∀ p ∈ q, qB o p.1 = true /\ SL p.2 = true) -> StM P σ T x y t j i c size rows ds l -> StM P (σ.Qc q) T x y t j i c size rows ds l
 | [], _, _, h => h
 | p :: q, σ, hq, h => by
  refine StM.Qc wA q (fun p' su => hq p' (by simp [su])) ?_
  obtain ⟨hu, hp⟩ := hq p (by simp)
  simp only [qB, wA, Bool.and_eq_true, Bool.not_eq_true'] at hu
  have hv : p.2.KO (At.isT t) = false := by
   generalize p.2 = v at hp
   unfold SL at hp
   split at hp <;> first | rfl | cases hp
  refine ⟨?_, ?_, h.hi, ?_, ?_, ?_, ?_, ⟨h.h5.1, h.h5.2.1, ?_⟩, h.h6⟩
  ·rw [YX hu.1]; exact h.hx
  ·rw [St.XY]; exact h.ho
  ·rw [YX hu.1, YX hu.2]; exact h.h1
  ·rw [YX hu.2, SO]; exact h.h2
  ·rw [YX hu.2, VC]; exact h.h3
  ·rw [YX hu.2]; exact h.h4
  ·rw [jP]; exact LS hv h.h5.2.2
theorem Lj {l : List (Nat × Nat)} {t j : Nat} {ob : Ob} : ∀ (q : List (Nat × V)) (σ : St), ((σ.Qc q).Zq l).Zh t j ob = ((σ.Zq l).Zh t j ob).Qc q
 | [], _ => rfl
 | p :: q, σ => by rw [St.Qc, St.Qc, Lj q, jP, Kj]
structure StN (P : Program) (σ : St) (T : TypeId) (x y : Operand) (t j i c k q n size : Nat) (s rows : List (List D)) (ds : List D) (l : List (Nat × Nat)) : Prop where
 hx : unc (look P σ 0 x) = .one (.tref t j i c (some (k * n + q)))
 ho : σ.ob t j = .arr true size rows
 hi : i < rows.length
 hc : (rows.getD i [])[c]? = some (.sl n s)
 hk : k < s.length
 h1 : ym P T = true /\ gOf (look P σ 0 x) = true /\ gOf (look P σ T y) = true /\ (unc (look P σ T y)).flat = true
 h2 : Qd σ (unc (look P σ T y)).cells = some ds
 h3 : Xj σ (unc (look P σ T y)).cells
 h4 : YL (unc (look P σ T y)).cells = l
 h5 : l.Nodup /\ (t, j) ∉ l
 h6 : ds.length = P.cellsOf T /\ q + P.cellsOf T <= n
theorem StN.Qc {P : Program} {o : Oper} {T : TypeId} {x y : Operand} (wA : o.op = .store T x y) {t j i c k n0 n size : Nat} {s rows : List (List D)} {ds : List D} {l : List (Nat × Nat)} : ∀ (q : List (Nat × V)) {σ : St}, (∀ p ∈ q, qB o p.1 = true /\ SL p.2 = true) -> StN P σ T x y t j i c k n0 n size s rows ds l -> StN P (σ.Qc q) T x y t j i c k n0 n size s rows ds l
 | [], _, _, h => h
 | p :: q, σ, hq, h => by
  refine StN.Qc wA q (fun p' su => hq p' (by simp [su])) ?_
  obtain ⟨hu, hp⟩ := hq p (by simp)
  simp only [qB, wA, Bool.and_eq_true, Bool.not_eq_true'] at hu
  refine ⟨?_, ?_, h.hi, h.hc, h.hk, ?_, ?_, ?_, ?_, h.h5, h.h6⟩
  ·rw [YX hu.1]; exact h.hx
  ·rw [St.XY]; exact h.ho
  ·rw [YX hu.1, YX hu.2]; exact h.h1
  ·rw [YX hu.2, SO]; exact h.h2
  ·rw [YX hu.2, VC]; exact h.h3
  ·rw [YX hu.2]; exact h.h4
theorem Nh {P : Program} {ops : Array Oper} {o : Oper} {σ : St} {T : TypeId} {x y : Operand} {t j i c k q n size : Nat} {s rows : List (List D)} {ds : List D} {l : List (Nat × Nat)} (wA : o.op = .store T x y) (hg : o.guard = none) (hd : o.dst = none) (h : StN P σ T x y t j i c k q n size s rows ds l) :
  Tv P ops o σ ((σ.Zq l).Zh t j (.arr true size (rows.set i (place (rowAt rows i) c [.sl n (s.set k (place (rowAt s k) q ds))])))) := by
 obtain ⟨hx, ho, hi, hc, hk, h1, h2, h3, h4, h5, h6⟩ := h
 subst h4
 rintro T0 B a w K Q' ⟨X, hh, r⟩ hK
 have hw : Region.wanted o (yielded ops a.tmps) = true := by simp [Region.wanted, hg]
 rw [if_pos hw]
 exact Rg r wA hd h1.1 h1.2.1 h1.2.2.1 hx ho hi hc hk h1.2.2.2 h2 h3 h5.1 h5.2 h6.1 h6.2 hK
theorem FR {P : Program} {ops : Array Oper} {bar : Oper -> Bool} {o : Oper} {rest : List Oper} {σ : St} {Q : St -> Prop} {T : TypeId} {x y : Operand} {t j i c k q n size : Nat} {s rows : List (List D)} {ds : List D} {l : List (Nat × Nat)} (wA : o.op = .store T x y) (hg : o.guard = none) (hd : o.dst = none) (w7 : bar o = true)
  (hm : StN P σ T x y t j i c k q n size s rows ds l)
  (h : Ev P ops bar rest ((σ.Zq l).Zh t j (.arr true size (rows.set i (place (rowAt rows i) c [.sl n (s.set k (place (rowAt s k) q ds))])))) Q) : xg P ops bar o rest σ Q := by
 refine ⟨_, .inr ⟨w7, Nh wA hg hd hm, fun d' _ hc => Qs (Jy hc), fun _ => ⟨⟨by rw [St.Yr, St.KJ], fun u => by rw [St.XT, St.xP]⟩, fun q hq => ?_, fun t' cells hb => ?_⟩, fun hh => by simp [xF, wA] at hh, fun hh _ => by simp [Qw, wA] at hh⟩, Xy h⟩
 ·rw [<- Lj]
  exact ⟨Nh wA hg hd (hm.Qc wA q hq), fun d' _ hc => Qs (Jy hc)⟩
 ·exact Hu hm.h2 hm.h4 hm.ho hm.h5.2 hb
end Go.Vm
namespace Go.Vm
open Go.RowKit
def Us (P : Program) (σ : St) : ResultVar -> Prop × List At
 | .tmp t => (match σ.get t with
  | .one x => (t < σ.length, [x])
  | .agg [] => (t < σ.length, [])
  | .agg (x :: y :: xs) => (t < σ.length, x :: y :: xs)
  | _ => (False, []))
 | .cell t T => (match σ.get t with
  | .one (.bptr u c) => (match σ.ob u 0 with
    | .box cells => (ym P T = true /\ kO P T = true /\ P.cellsOf T ≠ 1 /\ c + P.cellsOf T <= cells.length, cut cells c (P.cellsOf T))
    | _ => (False, []))
  | _ => (False, []))
def QN (P : Program) (σ : St) : List ResultVar -> Prop × List (List At)
 | [] => (True, [])
 | r :: rs => ((Us P σ r).1 /\ (QN P σ rs).1, (Us P σ r).2 :: (QN P σ rs).2)
theorem GQ {P : Program} {σ : St} {r : ResultVar} (h : (Us P σ r).1) : OW P σ r (Us P σ r).2 := by
 cases r with
 | tmp t =>
  simp only [Us] at h ⊢
  simp only [OW]
  cases hx : σ.get t with
  | one x => rw [hx] at h; exact ⟨rfl, h⟩
  | agg xs =>
   rw [hx] at h
   match xs, h with
   | [], h => exact ⟨rfl, h⟩
   | [x], h => exact h.elim
   | x :: y :: xs, h => exact ⟨rfl, h⟩
  | any => rw [hx] at h; exact h.elim
  | tup xs => rw [hx] at h; exact h.elim
  | cnd g x => rw [hx] at h; exact h.elim
  | fix u x => rw [hx] at h; exact h.elim
 | cell t T =>
  simp only [Us] at h ⊢
  split at h
  ·rename_i u c hx
   split at h
   ·rename_i cells ho
    exact ⟨u, c, cells, hx, ho, h.1, h.2.1, h.2.2.1, h.2.2.2, rfl⟩
   ·exact h.elim
  ·exact h.elim
theorem kY {P : Program} {σ : St} : ∀ {rs : List ResultVar}, (QN P σ rs).1 -> WC P σ rs (QN P σ rs).2
 | [], _ => rfl
 | _ :: _, h => ⟨_, _, GQ h.1, kY h.2, rfl⟩
theorem EL {P : Program} {fn : Func} {σ : St} {res : List (List D)} {rv : List ResultVar} (hf : fn.results = rv.toArray) (h : (QN P σ rv).1 /\ yl σ (QN P σ rv).2 = some res) : L5 P fn false res .ret σ :=
 ⟨.inl rfl, _, by rw [hf]; exact kY h.1, by simpa using h.2⟩
theorem Ee {P : Program} {fn : Func} {σ : St} {res : List (List D)} {rv : List ResultVar} (hf : fn.results = rv.toArray) (h : (QN P σ rv).1 /\ jD σ (QN P σ rv).2 = some res /\ (YL (QN P σ rv).2.flatten).Nodup) : L5 P fn true res .ret σ :=
 ⟨.inl rfl, _, by rw [hf]; exact kY h.1, by simpa using h.2⟩
theorem E5 {P : Program} {fn : Func} {σ : St} {res : List (List D)} {rv : List ResultVar} (hf : fn.results = rv.toArray) (h : (QN P σ rv).1 /\ QY σ (QN P σ rv).2 = some res /\ QI σ (QN P σ rv).2 /\ (YL (QN P σ rv).2.flatten).Nodup) : FI P fn res .ret σ :=
 ⟨.inl rfl, _, by rw [hf]; exact kY h.1, h.2⟩
attribute [simp] Dv QY Qd mvD QI Xj O3 Zs KQ Qf qf qN St.Zq IW HM ML E1 xd WX Nm St.KO V.KO V.L3 Nn jz Jf At.isT
attribute [simp] isB bOf Ev stops DV UP evS IL evV NX I5 VQ Vp JZ ks zQ Wo TD lkI lkK Vm.look cst unc gOf zg V.flat V.cells St.put St.Zh St.new St.Gz St.Gv St.F7 St.Fz NL yx Ga
 OO Vg ldV cut place rowOf JN Ql At.MQ XP V.Qe Z5 Kx xZ NQ vOf QJ zI QN Us yl jD ownRow yZ YL zq Ul Zw At.ref D.scalar Qq D.MO zD Gq zp
end Go.Vm
namespace Go.Vm
open Go.RowKit
section
variable {P : Program} {T0 : CS} {B : Nat -> Prop} {σ : St} {a : Act} {w w' : World} {X X' : Nat -> Prop} {h : Nat -> Nat -> Hd}
theorem Mz {cs : List Value} {row : List D} {S : Nat -> Prop} (ho : QU w cs row S) : ∃ (hf : Nat -> Hd) (Sk : Nat -> Nat -> Prop), (∀ j c, cs[j]? = some c -> (hf j).v = c) /\ (∀ k b, Sk k b -> S b) /\ (∀ i j b, Sk i b -> Sk j b -> i = j) /\
  ∀ j size rows, row[j]? = some (.sl size rows) -> (∀ b, (hf j).u b -> Sk j b) /\ (∀ b, blk (hf j).v = some b -> (hf j).u b) /\ ∀ T h ob, X6 T h ob w (hf j) (.arr true size rows) := by
 obtain ⟨hl, Sk, h1, h2, h3⟩ := ho
 have hex : ∀ j, ∃ hd : Hd, (∀ c, cs[j]? = some c -> hd.v = c) /\ (∀ size rows, row[j]? = some (.sl size rows) -> (∀ b, hd.u b -> Sk j b) /\ (∀ b, blk hd.v = some b -> hd.u b) /\ ∀ T h ob, X6 T h ob w hd (.arr true size rows)) := by
  intro j
  cases hj : row[j]? with
  | none => exact ⟨Hd.of ((cs[j]?).getD undef), fun c wu => by simp [Hd.of, wu], fun size rows hh => by cases hh⟩
  | some dd =>
   have rD : j < cs.length := by rw [hl]; exact (List.getElem?_eq_some_iff.1 hj).1
   have sY : cs[j]? = some cs[j] := List.getElem?_eq_getElem rD
   cases dd with
   | int k n => exact ⟨Hd.of cs[j], fun c wu => by rw [sY] at wu; cases wu; rfl, fun size rows hh => by cases hh⟩
   | bool k => exact ⟨Hd.of cs[j], fun c wu => by rw [sY] at wu; cases wu; rfl, fun size rows hh => by cases hh⟩
   | str k => exact ⟨Hd.of cs[j], fun c wu => by rw [sY] at wu; cases wu; rfl, fun size rows hh => by cases hh⟩
   | unk => exact ⟨Hd.of cs[j], fun c wu => by rw [sY] at wu; cases wu; rfl, fun size rows hh => by cases hh⟩
   | sl size rows =>
    have ho := h1 j _ _ sY hj
    generalize hv : cs[j] = v at ho
    cases ho with
    | sl v size rows S e xs rn ho hz hb hl hk r6 wQ =>
     refine ⟨⟨v, fun k => (xs[k]?).getD undef, Sk j⟩, fun c wu => by rw [sY, hv] at wu; cases wu; rfl, fun wZ wT hh => ?_⟩
     cases hh
     exact ⟨fun b hb => hb, hb, fun T h ob => ⟨e, xs, ho, hz, ⟨hl, rn, hk, fun k b hb => r6 k b hb, wQ⟩, fun k x d hx _ _ => by simp [hx]⟩⟩
 obtain ⟨hf, sw⟩ := Classical.axiomOfChoice hex
 exact ⟨hf, Sk, fun j => (sw j).1, h2, h3, fun j => (sw j).2⟩
theorem QU.top {T : CS} {cs : List Value} {row : List D} {S : Nat -> Prop} (ho : QU w cs row S) : Zg (y6 T w) cs row := by
 obtain ⟨hl, Sk, h1, h2, h3⟩ := ho
 refine Zg.J2 hl (fun k x d hx hd => ?_)
 have ho := h1 k x d hx hd
 cases ho with
 | int k n => exact Rd.int _ _
 | bool b => exact Rd.bool _
 | str s => exact Rd.str _
 | unk v h => exact Rd.unk _ h
 | sl v size rows S e xs rn ho hz hb hl hk r6 wQ => exact ⟨e, xs, ho⟩
def DR (n : Nat) (v : Value) (row : List D) (args : List (List D)) : St := (.fix v (vOf (QJ 0 0 row)), Zs [] row) :: (Ul args ++ List.replicate (n - (args.length + 1)) (V.any, []))
def St.Ef : St -> List At -> List D -> St
 | σ, .sref t j _ _ :: xs, .sl size rows :: ds => St.Ef (σ.Zh t j (.arr true size rows)) xs ds
 | σ, _ :: xs, _ :: ds => St.Ef σ xs ds
 | σ, _, _ => σ
def Mi : List D -> List D -> Prop
 | .sl s r :: ds, .sl s' r' :: sX => s = s' /\ r.length = r'.length /\ Mi ds sX
 | .sl _ _ :: _, _ => False
 | _ :: ds, _ :: sX => Mi ds sX
 | [], [] => True
 | _, _ => False
def Ie (σ : St) : List At -> Prop
 | [] => True
 | .sref t j _ _ :: xs => (match σ.ob t j with | .arr true _ _ => True | _ => False) /\ Ie σ xs
 | _ :: xs => Ie σ xs
def At.Dr : At -> Bool
 | .tref _ _ _ _ _ => true
 | _ => false
theorem V8 : ∀ {xs : List At} {t j : Nat}, (t, j) ∈ YL xs -> ∃ (k lo len : Nat), xs[k]? = some (At.sref t j lo len)
 | [], t, j, h => by cases h
 | x :: xs, t, j, h => by
  cases x with
  | sref t' j' lo len =>
   simp only [YL, List.mem_cons, Prod.mk.injEq] at h
   rcases h with ⟨rfl, rfl⟩ | h
   ·exact ⟨0, lo, len, rfl⟩
   ·obtain ⟨k, lo, len, hk⟩ := V8 h; exact ⟨k + 1, lo, len, by simpa using hk⟩
  | _ => obtain ⟨k, lo, len, hk⟩ := V8 (xs := xs) h; exact ⟨k + 1, lo, len, by simpa using hk⟩
end
theorem SN {σ : St} {d d' : Nat} {v : V} (wC : d ≠ d') (h : Yc σ d = true) : Yc (σ.put d' v) d = true := by
 unfold Yc at *; simp only [yX, if_neg wC]; exact h
end Go.Vm
