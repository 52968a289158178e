/- An abstract machine Mj the model of Go, by value, and that it is sound: part Vf. No condition. -/
import Derived.Test.YthjkhlcbpfnobaaGreatVb
set_option linter.unusedVariables false
set_option linter.unusedSimpArgs false
namespace Go.Vm
open Go.RowKit
variable {P : Program} {σ σ' : St} {ops : Array Oper} {bar : Oper -> Bool} {o : Oper} {rows res news lB args s : List (List D)} {l L l1 l2 : List (Nat × Nat)} {d size j n t id i u d' dj hR k : Nat} {Q : Exit -> Act -> World -> Prop} {K : Act -> World -> Prop} {x y : Operand} {h : Nat -> Nat -> Hd} {B X X' S : Nat -> Prop} {ds : List D} {v : V} {f : FuncId} {T0 T : CS} {a : Act} {w w' : World} {c : Code} {parts : Array (Nat × Operand)} {Q' : Exit -> St -> Prop} {want q g b : Bool} {r : ResultVar} {val : Value}
def Bw (P : Program) (σ : St) (c : Call) (f : FuncId) (own : Bool) (res : List (List D)) : Prop :=
 ∃ rows, Qz P σ c.args.toList c.argTypes.toList rows /\ JH P f own rows res /\ (Yd P σ c.args.toList c.argTypes.toList = true \/ Kf own res)
def Step (P : Program) (o : Oper) (d : Nat) (σ σ' : St) : Prop :=
 match o.op with
 | .alloc T => σ.fresh d = true /\ Qc P T = true /\ ∃ row, Wa P 12 T = some row /\ σ' = σ.new d (.one (.bptr d 0)) [.box row]
 | .box T x => σ.fresh d = true /\ gOf (look P σ T x) = true /\ (unc (look P σ T x)).flat = true /\ YW d (unc (look P σ T x)).cells = false /\ σ' = σ.new d (.one (.bptr d 0)) [.box (unc (look P σ T x)).cells]
 | .buildSlice T n parts => (σ.fresh d = true /\ XZ P T = true /\ Qc P (ZR P T) = true /\ 0 < P.cellsOf (ZR P T) /\ parts.toList.length = n /\ n * P.cellsOf (ZR P T) <= 16777216 /\
   ((∃ rows, NA P σ (ZR P T) (P.cellsOf (ZR P T)) parts.toList 0 rows /\ σ' = σ.new d (.one (.sref d 0 0 rows.length)) [.arr false (P.cellsOf (ZR P T)) rows]) \/
   (∃ rows, N3 P σ (ZR P T) (P.cellsOf (ZR P T)) parts.toList 0 rows /\ YW d rows.flatten = false /\ σ' = σ.new d (.one (.sref d 0 0 rows.length)) [.lit (P.cellsOf (ZR P T)) rows]))) \/
   ((XZ P T = true /\ Qc P (ZR P T) = true /\ 0 < P.cellsOf (ZR P T) /\ parts.toList.length = n /\ n * P.cellsOf (ZR P T) <= 16777216) /\ ∃ rows, NA P σ (ZR P T) (P.cellsOf (ZR P T)) parts.toList 0 rows /\ σ' = σ.put d (.one (.d (.sl (P.cellsOf (ZR P T)) rows))))
 | .makeSlice T x y => x = y /\ σ.fresh d = true /\ XZ P T = true /\ Qc P (ZR P T) = true /\ 0 < P.cellsOf (ZR P T) /\
   ∃ q z zr k n, (q = true -> Ed z = true) /\ Wa P 12 (ZR P T) = some z /\ zD z = some zr /\ Vq P σ x k (n : Nat) /\ P.bytesOf (ZR P T) * n <= 281474976710656 /\ n <= 9223372036854775807 /\ σ' = σ.new d (.one (.sref d 0 0 n)) [.arr q (P.cellsOf (ZR P T)) (List.replicate n zr)]
 | .call c =>
  (match c.callee with
  | .builtin .append => ∃ x y t, c.args = #[x, y] /\ c.argTypes = #[t, t] /\ gOf (look P σ t x) = true /\ gOf (look P σ t y) = true /\ XZ P t = true /\ Qc P (ZR P t) = true /\ 0 < P.cellsOf (ZR P t) /\
    ∃ lB news σ1, SV σ (unc (look P σ t x)) (P.cellsOf (ZR P t)) lB σ1 /\ WS σ (unc (look P σ t y)) (P.cellsOf (ZR P t)) news /\ σ1.fresh d = true /\
     (lB.length + news.length) * P.bytesOf (ZR P t) <= 140737488355328 /\ lB.length + news.length <= 9223372036854775807 /\ σ' = σ1.new d (.one (.sref d 0 0 (lB.length + news.length))) [.arr false (P.cellsOf (ZR P t)) (lB ++ news)]
  | .value (.func f) => (∃ own res, Bw P σ c f own res /\ σ' = σ.put d (qo res)) \/ (∃ res, Bw P σ c f true res /\ σ.fresh d = true /\ σ' = σ.new d (jv d res) (xm res.flatten)) \/
    (∃ rows res qs, Qz P σ c.args.toList c.argTypes.toList rows /\ YV P f rows res /\ xT qs res.flatten /\ σ.fresh d = true /\ σ' = σ.new d (jv d res) (YR qs res.flatten))
  | _ => ∃ v, Ya P σ o.op o.type v /\ σ' = σ.put d v)
 | .convert S T x =>
   (∃ v, Ya P σ o.op o.type v /\ σ' = σ.put d v) \/
   (∃ l, gOf (look P σ S x) = true /\ Np P S = true /\ SB P T = true /\ WS σ (unc (look P σ S x)) 1 (zy l) /\ σ' = σ.put d (.one (.d (.str ⟨l.toArray⟩)))) \/
   (∃ s, gOf (look P σ S x) = true /\ SB P S = true /\ Np P T = true /\ unc (look P σ S x) = .one (.d (.str s)) /\ s.size <= 9223372036854775807 /\ σ' = σ.put d (.one (.d (.sl 1 (zy s.data.toList)))))
 | _ => ∃ v, Ya P σ o.op o.type v /\ σ' = σ.put d v
def qK (P : Program) (σ : St) (T : TypeId) (x y : Operand) (σ' : St) : Prop :=
 qT P T = true /\ gOf (look P σ 0 x) = true /\ gOf (look P σ T y) = true /\ (unc (look P σ T y)).flat = true /\
  (match unc (look P σ 0 x) with
  | .one (.bptr t c) => ∃ cells, σ.ob t 0 = .box cells /\ (unc (look P σ T y)).cells.length = P.cellsOf T /\ c + P.cellsOf T <= cells.length /\ σ' = σ.Zu t 0 (.box (place cells c (unc (look P σ T y)).cells))
  | .one (.ptr t j i c) => ∃ q size rows ds, σ.ob t j = .arr q size rows /\ i < rows.length /\ rowOf σ (unc (look P σ T y)).cells = some ds /\ zb (unc (look P σ T y)).cells = true /\ ds.length = P.cellsOf T /\ c + P.cellsOf T <= size /\
    (q = true -> ds.all D.scalar = true /\ (cut (rows.getD i []) c (P.cellsOf T)).all D.scalar = true) /\ σ' = σ.Zu t j (.arr q size (rows.set i (place (rows.getD i []) c ds)))
  | _ => False)
def jB (want : Bool) : V -> Option Bool
 | .one (.d (.bool b)) => some (b == want)
 | .cnd g (.one (.d (.bool b))) => some (g && (b == want))
 | .cnd false _ => some false
 | _ => none
def MO (P : Program) (o : Oper) (σ : St) (v : V) : Prop :=
 match o.op with
 | .call c =>
  (match c.callee with
  | .value (.func f) => ∃ own res, Bw P σ c f own [res] /\ v = qo [res]
  | _ => ∃ v0, Ya P σ o.op o.type v0 /\ gOf v0 = true /\ v = unc v0 /\ v.flat = true)
 | _ => ∃ v0, Ya P σ o.op o.type v0 /\ gOf v0 = true /\ v = unc v0 /\ v.flat = true
def Xe (P : Program) (ops : Array Oper) (o : Oper) (σ σ' : St) : Prop :=
 match o.guard with
 | none =>
  (match o.dst with
  | some d => Step P o d σ σ'
  | none => (match o.op with | .store T x y => qK P σ T x y σ' | _ => False))
 | some (j, want) => ∃ dj d g v, (ops[j]?).bind (·.dst) = some dj /\ dj < σ.length /\ o.dst = some d /\ jB want (σ.get dj) = some g /\ (g = true -> MO P o σ v) /\ σ' = σ.put d (.cnd g v)
def V1 (P : Program) (ops : Array Oper) (o : Oper) (σ σ' : St) : Prop :=
 ∀ (T0 : CS) (B : Nat -> Prop) (a : Act) (w : World) (K : Act -> World -> Prop) (Q : Exit -> Act -> World -> Prop), Jz T0 B σ a w -> (∀ a' w', Jz T0 B σ' a' w' -> Y8 B w w' -> K a' w') ->
  if Region.wanted o (yielded ops a.tmps) then o.wp P a w K Q else K (a.put o.dst undef) w
def Xi (σ : St) (d : Nat) : Bool := match σ[d]? with | some (.any, []) => true | some (.one (.d _), []) => true | _ => false
def Rg (o : Oper) (σ σ' : St) : Prop := ∀ d, o.dst ≠ some d -> Xi σ d = true -> Xi σ' d = true
def Vr (o : Oper) : Bool := match o.op with | .store _ _ _ => true | _ => false
def xU (d : Nat) : Operand -> Bool
 | .tmp t => t == d
 | _ => false
def VQ (o : Oper) (d : Nat) : Bool := match o.op with | .store _ p q => !xU d p && !xU d q | _ => false
def M6 : V -> Bool
 | .any => true
 | .one (.d _) => true
 | _ => false
def St.Ja : St -> List (Nat × V) -> St
 | σ, [] => σ
 | σ, p :: l => St.Ja (σ.put p.1 p.2) l
def ni (P : Program) (ops : Array Oper) (o : Oper) (σ σ' : St) : Prop :=
 (σ'.length = σ.length /\ ∀ u, σ'.get u = σ.get u) /\ (∀ l : List (Nat × V), (∀ p ∈ l, VQ o p.1 = true /\ M6 p.2 = true) -> V1 P ops o (σ.Ja l) (σ'.Ja l) /\ Rg o (σ.Ja l) (σ'.Ja l)) /\ ∀ t cells, σ.ob t 0 = .box cells -> σ'.ob t 0 = .box cells
def kc (o : Oper) : Bool := match o.op with | .call ⟨.builtin .append, _, _⟩ => true | _ => false
theorem Dt (h : Vr o = true) : kc o = false := by
 unfold Vr at h
 split at h
 ·rename_i my; simp [kc, my]
 ·cases h
def P8 (o : Oper) (d : Nat) : Bool := !(o.op.operands.toList.any (xU d))
def nB (P : Program) (ops : Array Oper) (o : Oper) (σ σ' : St) : Prop :=
 ∃ d, o.dst = some d /\ σ'.length = σ.length /\ (∀ t, t ≠ d -> σ'.get t = σ.get t /\ (σ.get t).ref d = false) /\ (∀ t j cells, t ≠ d -> σ'.ob t j = .box cells -> σ.ob t j = .box cells /\ YW d cells = false) /\
  (∀ t j q s rows, t ≠ d -> σ'.ob t j = .arr q s rows -> ∃ lM, σ.ob t j = .arr q s lM) /\
  ∀ l : List (Nat × V), (∀ p ∈ l, p.1 ≠ d /\ P8 o p.1 = true /\ p.2.ref d = false) -> V1 P ops o (σ.Ja l) (σ'.Ja l) /\ Rg o (σ.Ja l) (σ'.Ja l)
def na (P : Program) (t : TypeId) : Bool := match P.underlying t with | some (.pointer _) => true | _ => false
def OJ (bar : Oper -> Bool) (o : Oper) : Bool := !bar { o with dst := some 1000000007 }
def o7 (bar : Oper -> Bool) (o : Oper) : Bool := (match o.dst with | some d => bar { o with dst := some (d + 2000000) } | none => false) && OJ bar o
def KY (P : Program) (o : Oper) : Bool := match o.op with | .call ⟨.value (.func _), _, ⟨T :: _⟩⟩ => na P T | _ => false
def yx (t d : Nat) (cs : List At) (v : V) : Option (List Ob) -> St -> St
 | none, σ => (σ.Zu t 0 (.box cs)).put d v
 | some os, σ => (σ.Zu t 0 (.box cs)).new d v os
def oa (P : Program) (ops : Array Oper) (o : Oper) (σ σ' : St) : Prop :=
 ∃ d t cells cs v os, o.dst = some d /\ σ.ob t 0 = .box cells /\ (∃ z r, (∃ f ts, o.op = .call ⟨.value (.func f), ⟨z :: r⟩, ts⟩) /\ ∃ ty, unc (look P σ ty z) = .one (.bptr t 0)) /\ (∀ u, YW u cells = false /\ YW u cs = false) /\
  (∀ u, (os = none \/ u ≠ d) -> v.ref u = false /\ ∀ l, os = some l -> Y6 u l = false) /\ (os ≠ none -> (σ.Zu t 0 (.box cs)).fresh d = true) /\ σ' = yx t d cs v os σ /\
  ∀ σ2 : St, σ.length = σ2.length -> (∀ z ∈ o.op.operands.toList, ∀ ty, look P σ ty z = look P σ2 ty z) -> (∀ z ∈ o.op.operands.toList, ∀ ty u, (look P σ ty z).ref u = true -> ∀ j, σ.ob u j ≠ .none -> σ2.ob u j = σ.ob u j) -> (os ≠ none -> (σ2.Zu t 0 (.box cs)).fresh d = true) ->
   V1 P ops o σ2 (yx t d cs v os σ2) /\ Rg o σ2 (yx t d cs v os σ2)
theorem BC (h : Vr o = true) : KY P o = false := by
 unfold Vr at h
 split at h
 ·rename_i my; simp [KY, my]
 ·cases h
theorem th (h : kc o = true) : KY P o = false := by
 unfold kc at h
 split at h
 ·rename_i my; simp [KY, my]
 ·cases h
def zU (P : Program) (ops : Array Oper) (bar : Oper -> Bool) (o : Oper) (σ σ' : St) : Prop := Xe P ops o σ σ' \/ (bar o = true /\ V1 P ops o σ σ' /\ Rg o σ σ' /\ (Vr o = true -> ni P ops o σ σ') /\ (kc o = true -> nB P ops o σ σ') /\ (KY P o = true -> OJ bar o = true -> oa P ops o σ σ'))
def DZ (P : Program) (ops : Array Oper) (bar : Oper -> Bool) : List Oper -> St -> (St -> Prop) -> Prop
 | [], σ, Q => Q σ
 | o :: rest, σ, Q => ∃ σ', zU P ops bar o σ σ' /\ DZ P ops bar rest σ' Q
theorem O0 (d : Nat) : ∀ (n : Nat) (t : TypeId) (row : List At), Wa P n t = some row -> YW d row = false := by
 intro n
 induction n with
 | zero => intro t row hr; simp [Wa] at hr
 | succ n ih =>
  intro t row hr
  have happ : ∀ (rs : List (List At)), (∀ r ∈ rs, YW d r = false) -> YW d rs.flatten = false := by
   intro rs fC
   have app : ∀ (xs ys : List At), YW d xs = false -> YW d ys = false -> YW d (xs ++ ys) = false := by
    intro xs ys hx hy
    induction xs with
    | nil => exact hy
    | cons x xs bW => simp only [List.cons_append, YW, Bool.or_eq_false_iff] at hx ⊢; exact ⟨hx.1, bW hx.2⟩
   induction rs with
   | nil => rfl
   | cons r rs bW => rw [List.flatten_cons]; exact app _ _ (fC r zAF) (bW (fun r hr => fC r zBx))
  rw [Wa] at hr
  split at hr
  ·cases hr; rfl
  ·cases hr; rfl
  ·cases hr; rfl
  ·cases hr; rfl
  ·rename_i fs _
   simp only [Option.map_eq_some_iff] at hr
   obtain ⟨rs, fC, rfl⟩ := hr
   refine happ rs ?_
   have : ∀ (l : List Field) (rs : List (List At)), l.mapM (fun f => Wa P n f.type) = some rs -> ∀ r ∈ rs, YW d r = false := by
    intro l
    induction l with
    | nil => intro rs hh r hr; simp at hh; subst hh; cases hr
    | cons f l bW =>
     intro rs hh r hr
     simp only [List.mapM_cons, Option.bind_eq_bind, Option.bind_eq_some_iff] at hh
     obtain ⟨r0, fb, rs', aQ, hh⟩ := hh
     simp at hh; subst hh
     rcases List.mem_cons.1 hr with rfl | hr
     ·exact ih f.type _ fb
     ·exact bW rs' aQ r hr
   exact this fs.toList rs fC
  ·simp only [Option.map_eq_some_iff] at hr
   obtain ⟨r0, fb, rfl⟩ := hr
   exact happ _ (fun r hr => by rw [List.eq_of_mem_replicate hr]; exact ih _ _ fb)
  ·cases hr
theorem Ud (r : Rel T0 B σ a w X h) (hd : o.dst = some d) (hex : ∃ val, (execOp a.eval o).run P w = .ok (.value val) w /\ JP (Tof T0 X) h σ.ob w v val)
  (hK : ∀ a' w', Jz T0 B (σ.put d v) a' w' -> Y8 B w w' -> K a' w') : o.wp P a w K Q := by
 obtain ⟨val, lT, hv⟩ := hex
 unfold Oper.wp
 rw [lT, Oper.upon_value, hd]
 exact hK _ _ ⟨X, h, r.put d v val hv⟩ (Y8.refl _ _)
theorem AI (r : Rel T0 B σ a w X h) (hd : o.dst = some d) (hs : Step P o d σ σ')
  (hK : ∀ a' w', Jz T0 B σ' a' w' -> Y8 B w w' -> K a' w') : o.wp P a w K Q := by
 have hR : (∃ v, Ya P σ o.op o.type v /\ σ' = σ.put d v) -> o.wp P a w K Q := by
  rintro ⟨v, hv, rfl⟩
  exact Ud r hd (Wl r hv) hK
 unfold Step at hs
 split at hs
 ·rename_i T my
  obtain ⟨hf, hz, row, lv, rfl⟩ := hs
  exact Ba r my hd hf hz lv (O0 d _ _ _ lv) hK
 ·rename_i T x my
  obtain ⟨hf, hg, hE, hr, rfl⟩ := hs
  exact vZ r my hd hf hg hE hr hK
 ·rename_i T n parts my
  rcases hs with ⟨hf, h1, h2, h3, h4, h5, ⟨rows, h6, rfl⟩ | ⟨rows, h6, h7, rfl⟩⟩ | ⟨⟨h1, h2, h3, h4, h5⟩, rows, h6, rfl⟩
  ·exact MX r my hd hf h1 h2 h3 h4 h5 h6 hK
  ·exact R5 r my hd hf h1 h2 h3 h4 h5 h6 h7 hK
  ·exact CF r my hd h1 h2 h3 h4 h5 h6 hK
 ·rename_i T x y my
  obtain ⟨rfl, hf, h1, h2, h3, q, z, zr, k, n, hq, h4, h5, h6, h7, h8, rfl⟩ := hs
  cases q with
  | false => exact HB r my hd hf h1 h2 h4 h5 h3 h6 h7 h8 hK
  | true => exact HR r my hd hf h1 h2 h4 h5 (hq rfl) h3 h6 h7 h8 hK
 ·rename_i c my
  split at hs
  ·rename_i hc
   obtain ⟨x, y, t, ha, fI, h1, h2, h3, h4, h5, lB, news, σ1, h6, h7, h8, h9, ev, rfl⟩ := hs
   refine Dz r (t := t) (x := x) (y := y) ?_ hd h1 h2 h3 h4 h5 h6 h7 h8 h9 ev hK
   rw [my]
   obtain ⟨cc, ca, ct⟩ := c
   simp only at hc ha fI
   rw [hc, ha, fI]
  ·rename_i f hc
   rcases hs with ⟨own, res, ⟨rows, ha, hs, iU⟩, rfl⟩ | ⟨res, ⟨rows, ha, hs, iU⟩, hf, rfl⟩ | ⟨rows, res, qs, ha, hs, hq, hf, rfl⟩
   ·rcases iU with iU | iU
    ·exact VN r my hc hd ha true (fun _ => iU) (fun hh => by cases hh) hs hK
    ·exact VN r my hc hd ha false (fun hh => by cases hh) (fun _ => iU) hs hK
   ·rcases iU with iU | iU
    ·exact P5 r my hc hd hf ha true (fun _ => iU) (fun hh => by cases hh) hs hK
    ·exact P5 r my hc hd hf ha false (fun hh => by cases hh) (fun _ => iU) hs hK
   ·exact Cz r qs my hc hd hf ha hs hq hK
  ·exact hR hs
 ·rename_i S T x my
  rcases hs with hs | ⟨l, h1, h2, h3, h4, rfl⟩ | ⟨s, h1, h2, h3, h4, h5, rfl⟩
  ·exact hR hs
  ·exact Ud r hd (Pq r my h1 h2 h3 h4) hK
  ·exact Pn r my hd h1 h2 h3 h4 h5 hK
 ·exact hR hs
theorem CV (r : Rel T0 B σ a w X h) {T : TypeId} (my : o.op = .store T x y) (hd : o.dst = none) (hs : qK P σ T x y σ')
  (hK : ∀ a' w', Jz T0 B σ' a' w' -> Y8 B w w' -> K a' w') : o.wp P a w K Q := by
 obtain ⟨ht, fx, fy, hE, hs⟩ := hs
 split at hs
 ·rename_i t c hx
  obtain ⟨cells, ho, hl, hle, rfl⟩ := hs
  exact Hz r my hd ht fx fy hx ho hE hl hle hK
 ·rename_i t j i c hx
  obtain ⟨q, size, rows, ds, ho, hi, dQ, ld, hl, hle, hq, rfl⟩ := hs
  refine H6 r my hd ht fx fy hx ho hi hE dQ ld hl hle (fun hh => ⟨fun d lL => ?_, fun k d hk lL => ?_⟩) hK
  ·exact List.all_eq_true.1 (hq hh).1 d lL
  ·refine List.all_eq_true.1 (hq hh).2 d (List.mem_of_getElem? (i := k) ?_)
   simp only [cut, List.getElem?_take, if_pos hk, List.getElem?_drop]; exact lL
 ·exact hs.elim
theorem LY {ob : Nat -> Nat -> Ob} (hf : (unc v).flat = true) (hv : JP T h ob w (unc v) val) : zK T h ob w (unc v) val := by
 cases hu : unc v with
 | one x => rw [hu] at hv; exact hv
 | agg xs => rw [hu] at hv; exact hv
 | any => rw [hu] at hf; cases hf
 | tup xs => rw [hu] at hf; cases hf
 | cnd g x => rw [hu] at hf; cases hf
 | fix u x => rw [hu] at hf; cases hf
theorem BL (r : Rel T0 B σ a w X h) (eT : o.guard = some (j, want)) (gE : (ops[j]?).bind (·.dst) = some dj) (lH : dj < σ.length) (hg : jB want (σ.get dj) = some g) :
  Region.wanted o (yielded ops a.tmps) = g := by
 have iZ : dj < a.tmps.size := by rw [r.size]; exact lH
 have hv := r.slot dj lH
 have hgetD : a.tmps.getD dj undef = a.tmps[dj] := by simp [iZ]
 rw [hgetD] at hv
 have hy : yielded ops a.tmps j = (match a.tmps[dj] with | .bool b => some b | _ => none) := by
  unfold yielded
  rw [gE]
  simp only [Option.bind_some, Array.getElem?_eq_getElem iZ]
  cases a.tmps[dj] <;> rfl
 simp only [Region.wanted, eT, hy]
 unfold jB at hg
 split at hg
 ·rename_i b hgv
  rw [hgv] at hv
  rw [kO hv]
  cases hg
  cases b <;> cases want <;> rfl
 ·rename_i g0 b hgv
  rw [hgv] at hv
  cases hg
  cases g0 with
  | true =>
   rw [kO (hv.1 rfl)]
   cases b <;> cases want <;> rfl
  | false =>
   rw [hv.2 rfl]
   simp [undef]
 ·rename_i hgv
  rw [hgv] at hv
  cases hg
  rw [hv.2 rfl]
  simp [undef]
 ·cases hg
theorem Cu (r : Rel T0 B σ a w X h) (hs : Xe P ops o σ σ')
  (hK : ∀ a' w', Jz T0 B σ' a' w' -> Y8 B w w' -> K a' w') : if Region.wanted o (yielded ops a.tmps) then o.wp P a w K Q else K (a.put o.dst undef) w := by
 unfold Xe at hs
 split at hs
 ·rename_i hg
  have hw : Region.wanted o (yielded ops a.tmps) = true := zBO
  rw [if_pos hw]
  split at hs
  ·rename_i d hd; exact AI r hd hs hK
  ·rename_i hd
   split at hs
   ·rename_i T x y my; exact CV r my hd hs hK
   ·exact hs.elim
 ·rename_i j want hg
  obtain ⟨dj, d, g, v, gE, lH, hd, gN, hs, rfl⟩ := hs
  rw [BL r hg gE lH gN]
  cases g with
  | false =>
   simp only [Bool.false_eq_true, if_false]
   rw [hd]
   exact hK _ _ ⟨X, h, r.put d _ _ ⟨(fun hh => by cases hh), fun _ => rfl⟩⟩ (Y8.refl _ _)
  | true =>
   simp only [if_true]
   have iQ := hs rfl
   clear hs
   have hR : (∃ v0, Ya P σ o.op o.type v0 /\ gOf v0 = true /\ v = unc v0 /\ v.flat = true) -> o.wp P a w K Q := by
    rintro ⟨v0, bL, bq, rfl, hE⟩
    obtain ⟨val, lT, hv⟩ := Wl r bL
    refine Ud (v := .cnd true (unc v0)) r hd ⟨val, lT, ⟨fun _ => LY hE (hv.unc bq), fun hh => by cases hh⟩⟩ hK
   unfold MO at iQ
   split at iQ
   ·rename_i c my
    split at iQ
    ·rename_i f hc
     obtain ⟨own, res, ⟨rows, ha, hs, iU⟩, rfl⟩ := iQ
     have fin : ∀ a' w', Jz T0 B (σ.put d (qo [res])) a' w' -> Y8 B w w' -> K a' w' := by
      rintro a' w' ⟨X', h', r'⟩ hb
      refine hK a' w' ⟨X', h', ?_⟩ hb
      refine ⟨by rw [r'.size, St.JV, St.JV], r'.defers, r'.hB, r'.hX, r'.hT, fun t ht => ?_, fun t j => ?_, fun t j b => ?_, fun t j b => ?_, fun t j t' j' b => ?_⟩
      ·rw [St.JV] at ht
       have h0 := r'.slot t (by rw [St.JV]; exact ht)
       rw [St.JX] at h0 ⊢
       rw [St.zg] at h0 ⊢
       by_cases hh : t = d /\ d < σ.length
       ·rw [if_pos hh] at h0 ⊢
        refine ⟨fun _ => ?_, fun hh => by cases hh⟩
        have hE : (unc (vOf (res.map At.d))).flat = true := by
         match res.map At.d with
         | [] => rfl
         | [x] => rfl
         | x :: y :: xs => rfl
        have hu : unc (vOf (res.map At.d)) = vOf (res.map At.d) := by
         match res.map At.d with
         | [] => rfl
         | [x] => rfl
         | x :: y :: xs => rfl
        have := LY (v := vOf (res.map At.d)) hE (by rw [hu]; exact h0)
        rw [hu] at this; exact this
       ·rw [if_neg hh] at h0 ⊢; exact h0
      ·have := r'.obj t j; rw [St.JX] at this ⊢; exact this
      ·have := r'.ub t j b; rw [St.JX] at this ⊢; exact this
      ·have := r'.own t j b; rw [St.JX] at this ⊢; exact this
      ·have := r'.inj t j t' j' b; rw [St.JX] at this ⊢; exact this
     rcases iU with iU | iU
     ·exact VN r my hc hd ha true (fun _ => iU) (fun hh => by cases hh) hs fin
     ·exact VN r my hc hd ha false (fun hh => by cases hh) (fun _ => iU) hs fin
    ·exact hR iQ
   ·exact hR iQ
theorem R1 (hs : zU P ops bar o σ σ') : V1 P ops o σ σ' := by
 rcases hs with hs | hs
 ·rintro T0 B a w K Q ⟨X, h, r⟩ hK
  exact Cu r hs hK
 ·exact hs.2.1
theorem HS {ops : Array Oper} {bar : Oper -> Bool} : ∀ {l : List Oper} {σ : St} {a : Act} {w : World} {Q : St -> Prop} {Q' : Exit -> Act -> World -> Prop}, DZ P ops bar l σ Q -> Jz T0 B σ a w ->
  (∀ σ' a' w', Q σ' -> Jz T0 B σ' a' w' -> Y8 B w w' -> Q' .normal a' w') -> wpList P ops Q' l a w
 | [], σ, a, w, Q, Q', hr, gD, hK => hK σ a w hr gD (Y8.refl _ _)
 | o :: l, σ, a, w, Q, Q', ⟨σ', hs, hr⟩, gD, hK => by
  refine wpList_step fun K hKK => ?_
  exact R1 hs _ _ _ _ _ _ gD (fun a' w' gD hb => hKK _ _ (HS hr gD (fun σ2 a2 w2 hq cH l0 => hK σ2 a2 w2 hq cH (hb.trans l0))))
open Go.RowKit
variable {cs l6 : List Value}
def AWP (P : Program) (c : Code) (Q : Exit -> St -> Prop) (σ : St) : Prop :=
 ∀ (T0 : CS) (B : Nat -> Prop) (a : Act) (w : World), Jz T0 B σ a w -> c.wp P (fun e a' w' => ∃ σ', Q e σ' /\ Jz T0 B σ' a' w' /\ Y8 B w w') a w
def Wk (σ σ' : St) : Prop := ∀ (T0 : CS) (B : Nat -> Prop) (a : Act) (w : World), Jz T0 B σ a w -> Jz T0 B σ' a w
def Ha (next : St -> Prop) (Q : Exit -> St -> Prop) : Exit -> St -> Prop
 | .normal, σ => next σ
 | e, σ => Q e σ
def RB (id : Nat) (Q : Exit -> St -> Prop) : Exit -> St -> Prop
 | .exit aS, σ => if aS = id then Q .normal σ else Q (.exit aS) σ
 | e, σ => Q e σ
section
variable {Q : Exit -> St -> Prop}
theorem Wk.refl (σ : St) : Wk σ σ := fun _ _ _ _ h => h
theorem Wk.trans {σ'' : St} (h : Wk σ σ') (k : Wk σ' σ'') : Wk σ σ'' := fun _ _ _ _ r => k _ _ _ _ (h _ _ _ _ r)
theorem C5 (h : ∀ e σ, Q e σ -> Q' e σ) (k : AWP P c Q σ) : AWP P c Q' σ :=
 fun T0 B a w r => wp_mono (k T0 B a w r) fun e _ _ ⟨σ', hq, hr⟩ => ⟨σ', h e σ' hq, hr⟩
theorem uj (h : Q .normal σ) : AWP P .skip Q σ := fun _ B _ w r => wp_skip ⟨σ, h, r, Y8.refl B w⟩
theorem te (h : Q (.exit id) σ) : AWP P (.exit id) Q σ := fun _ B _ w r => wp_exit ⟨σ, h, r, Y8.refl B w⟩
theorem ra (h : Q .ret σ) : AWP P .ret Q σ := fun _ B _ w r => wp_ret ⟨σ, h, r, Y8.refl B w⟩
theorem Aj {l : List Oper} (h : DZ P l.toArray bar l σ (Q .normal)) : AWP P (.region id l.toArray false) Q σ :=
 fun _ _ _ _ r => wp_region_lit (HS h r fun σ' _ _ hq hr hb => ⟨σ', hq, hr, hb⟩)
theorem s3 {x y : Code} (h : AWP P x (Ha (AWP P y Q) Q) σ) : AWP P (.seq x y) Q σ := by
 intro T0 B a w r
 refine wp_seq (wp_mono (h T0 B a w r) ?_)
 rintro e a' w' ⟨σ', hq, hr, hb⟩
 cases e with
 | normal => exact wp_mono (hq T0 B a' w' hr) fun e _ _ ⟨σ2, h1, h2, h3⟩ => ⟨σ2, h1, h2, hb.trans h3⟩
 | exit id => exact ⟨σ', hq, hr, hb⟩
 | goto l => exact ⟨σ', hq, hr, hb⟩
 | ret => exact ⟨σ', hq, hr, hb⟩
 | panic ch => exact ⟨σ', hq, hr, hb⟩
 | outgrown => exact ⟨σ', hq, hr, hb⟩
theorem sT {c : Operand} {x y : Code} (hc : look P σ 0 c = .one (.d (.bool b))) (ht : b = true -> AWP P x Q σ) (hf : b = false -> AWP P y Q σ) : AWP P (.cond c x y) Q σ := by
 intro T0 B a w r
 obtain ⟨X, h, rr⟩ := r
 have hv := rr.look (P := P) 0 c
 rw [hc] at hv
 exact wp_cond_split (kO hv) (fun hb => ht hb T0 B a w ⟨X, h, rr⟩) (fun hb => hf hb T0 B a w ⟨X, h, rr⟩)
theorem v8 (h : AWP P c (RB id Q) σ) : AWP P (.block id c) Q σ := by
 intro T0 B a w r
 refine wp_block (wp_mono (h T0 B a w r) ?_)
 rintro e a' w' ⟨σ', hq, hr, hb⟩
 cases e with
 | exit aS =>
  simp only [RB] at hq
  simp only [Exit.inBlock]
  split at hq
  ·rename_i hh; rw [if_pos hh]; exact ⟨σ', hq, hr, hb⟩
  ·rename_i hh; rw [if_neg hh]; exact ⟨σ', hq, hr, hb⟩
 | normal => exact ⟨σ', hq, hr, hb⟩
 | goto l => exact ⟨σ', hq, hr, hb⟩
 | ret => exact ⟨σ', hq, hr, hb⟩
 | panic ch => exact ⟨σ', hq, hr, hb⟩
 | outgrown => exact ⟨σ', hq, hr, hb⟩
theorem Vs {ι : Type} (S : ι -> St) (μ : ι -> Nat) (i0 : ι) (h0 : Wk σ (S i0))
  (round : ∀ i, AWP P c (Ha (fun σ' => ∃ i', μ i' < μ i /\ Wk σ' (S i')) Q) (S i)) : AWP P (.loop c) Q σ := by
 intro T0 B a w r b k cs
 have key : ∀ n i a w, μ i = n -> Jz T0 B (S i) a w ->
   ∃ e a' w', (∃ σ', Q e σ' /\ Jz T0 B σ' a' w' /\ Y8 B w w') /\ Arrives P (lone (b.at a (.code c :: .inLoop c :: k)) cs w) b k cs e a' w' := by
  intro n
  induction n using Nat.strongRecOn with
  | _ n ih =>
   intro i a w hn hr
   obtain ⟨e, a₁, w₁, ⟨σ₁, hq, hr₁, hb₁⟩, hO⟩ := round i T0 B a w hr b (.inLoop c :: k) cs
   cases e with
   | normal =>
    obtain ⟨i', lH, hwk⟩ := hq
    obtain ⟨e₂, a₂, w₂, ⟨σ₂, hq₂, hr₂, hb₂⟩, harr₂⟩ := ih (μ i') (hn ▸ lH) i' a₁ w₁ rfl (hwk T0 B a₁ w₁ hr₁)
    exact ⟨e₂, a₂, w₂, ⟨σ₂, hq₂, hr₂, hb₁.trans hb₂⟩, .of_steps (Steps.trans hO (.one step_inLoop)) harr₂⟩
   | exit id => exact ⟨_, a₁, w₁, ⟨σ₁, hq, hr₁, hb₁⟩, .pass (x := .inLoop c) rfl (fun _ _ => .inl zAF) hO⟩
   | goto l => exact ⟨_, a₁, w₁, ⟨σ₁, hq, hr₁, hb₁⟩, .pass (x := .inLoop c) rfl (fun _ _ => .inl zAF) hO⟩
   | ret => exact ⟨_, a₁, w₁, ⟨σ₁, hq, hr₁, hb₁⟩, .pass (x := .inLoop c) rfl (fun _ _ => .inl zAF) hO⟩
   | panic ch => exact ⟨_, a₁, w₁, ⟨σ₁, hq, hr₁, hb₁⟩, .pass (x := .inLoop c) rfl (fun _ _ => .inl zAF) hO⟩
   | outgrown => exact ⟨_, a₁, w₁, ⟨σ₁, hq, hr₁, hb₁⟩, .pass (x := .inLoop c) rfl (fun _ _ => .inl zAF) hO⟩
 obtain ⟨e, a', w', hq, hO⟩ := key _ i0 a w rfl (h0 T0 B a w r)
 exact ⟨e, a', w', hq, .of_steps (.one step_loop) hO⟩
end
/-! ### entering a function, and leaving it -/
def Oq : List (List D) -> St
 | [] => []
 | r :: rs => (vOf (r.map .d), []) :: Oq rs
def kJ (n : Nat) (args : List (List D)) : St := Oq args ++ List.replicate (n - args.length) (V.any, [])
def Gz (P : Program) (σ : St) : ResultVar -> List At -> Prop
 | .tmp t, xs => (σ.get t = vOf xs) /\ t < σ.length
 | .cell t T, xs => ∃ u c cells, σ.get t = .one (.bptr u c) /\ σ.ob u 0 = .box cells /\ qT P T = true /\ TM P T = true /\ P.cellsOf T ≠ 1 /\ c + P.cellsOf T <= cells.length /\ xs = cut cells c (P.cellsOf T)
def Se (P : Program) (σ : St) : List ResultVar -> List (List At) -> Prop
 | [], hC => hC = []
 | r :: rs, hC => ∃ xs rest, Gz P σ r xs /\ Se P σ rs rest /\ hC = xs :: rest
def km (σ : St) : List (List At) -> Option (List (List D))
 | [] => some []
 | xs :: rest => (match rowOf σ xs, km σ rest with | some r, some rs => some (r :: rs) | _, _ => none)
def kR (σ : St) : At -> Option D
 | .d (.sl _ _) => none
 | .d x => some x
 | .nil s => some (.sl s [])
 | .sref t j lo len => (match σ.ob t j with | .arr false size rows => if lo = 0 /\ len = rows.length then some (.sl size rows) else none | _ => none)
 | _ => none
def ownRow (σ : St) : List At -> Option (List D)
 | [] => some []
 | x :: xs => (match kR σ x, ownRow σ xs with | some d, some ds => some (d :: ds) | _, _ => none)
def Ui (σ : St) : List (List At) -> Option (List (List D))
 | [] => some []
 | xs :: rest => (match ownRow σ xs, Ui σ rest with | some r, some rs => some (r :: rs) | _, _ => none)
def Cy (P : Program) (fn : Func) (own : Bool) (res : List (List D)) (e : Exit) (σ : St) : Prop :=
 (e = .ret \/ e = .normal) /\ ∃ hC, Se P σ fn.results.toList hC /\ (if own then Ui σ hC = some res /\ (XH hC.flatten).Nodup else km σ hC = some res)
def vx (P : Program) (fn : Func) (res : List (List D)) (e : Exit) (σ : St) : Prop :=
 (e = .ret \/ e = .normal) /\ ∃ hC, Se P σ fn.results.toList hC /\ Ku σ hC = some res /\ KV σ hC /\ (XH hC.flatten).Nodup
open Go.RowKit
variable {rest : List Oper} {fn : Func} {rv : List ResultVar} {hC : List (List At)}
theorem RF : ∀ (args : List (List D)) (t : Nat), (Oq args)[t]? = (args[t]?).map fun r => (vOf (r.map .d), [])
 | [], t => by simp [Oq]
 | r :: rs, 0 => by simp [Oq]
 | r :: rs, t + 1 => by simpa [Oq] using RF rs t
theorem Jg (args : List (List D)) : (Oq args).length = args.length := by
 induction args with
 | nil => rfl
 | cons r rs ih => simp [Oq, ih]
theorem GP (hT : ∀ b k, T b k -> b < w.heap.size) (ha : Z9 (fun v row => ∃ cs, yb v cs /\ Z9 (Rd T w) cs row) l6 args) :
  Jz T (fun b => b < w.heap.size) (kJ n args) { tmps := l6.toArray ++ Array.replicate (n - l6.toArray.size) undef, defers := [] } w := by
 have hl := ha.length
 refine ⟨fun _ => False, fun _ _ => Hd.of undef, ?_⟩
 have lS : ∀ t j, (kJ n args).ob t j = .none := by
  intro t j
  unfold St.ob kJ
  rcases Nat.lt_or_ge t args.length with h | h
  ·rw [List.getElem?_append_left zBw, RF, List.getElem?_eq_getElem h]
   simp [Yj]
  ·rw [List.getElem?_append_right zBw, List.getElem?_replicate]
   split
   ·rename_i e he
    split at he
    ·cases he; simp [Yj]
    ·cases he
   ·rfl
 have cL : ∀ b k v, T b k -> w.cell? ⟨b, k, none⟩ = some v -> w.cell? ⟨b, k, none⟩ = some v /\ Tof T (fun _ => False) b k := fun b k v hb hc => ⟨hc, .inl hb⟩
 refine ⟨by simp [kJ, Jg, hl], rfl, (fun b hb => hb), (fun b hb => hb.elim), hT, fun t ht => ?_, fun t j => by rw [lS]; trivial, fun t j b lA => absurd (lS t j) lA, fun t j b lA => absurd (lS t j) lA, fun t j t' j' b lA => absurd (lS t j) lA⟩
 unfold St.get kJ
 rcases Nat.lt_or_ge t args.length with lH | fY
 ·rw [List.getElem?_append_left (by rw [Jg]; exact lH), RF, List.getElem?_eq_getElem lH]
  obtain ⟨v, hv, cs, hf, lC⟩ := ha.get' t args[t] (List.getElem?_eq_getElem lH)
  have fN : (l6.toArray ++ Array.replicate (n - l6.toArray.size) undef).getD t undef = v := by
   rw [Array.getD_eq_getD_getElem?, Array.getElem?_append_left zAk]
   simp [hv]
  simp only [fN]
  exact (HG hf (VW (lC.imp fun _ _ => Rd.mono cL))).up
 ·rw [List.getElem?_append_right (by rw [Jg]; exact fY), List.getElem?_replicate]
  split
  ·rename_i e he
   split at he
   ·cases he; trivial
   ·cases he
  ·trivial
theorem rA {ob : Nat -> Nat -> Ob} {xs : List At} {v : Value} (hv : JP T h ob w (vOf xs) v) : ∃ cs, yb v cs /\ Z9 (YF T h ob w) xs cs := by
 match xs, hv with
 | [], hv =>
  obtain ⟨cs, rfl, lC⟩ := hv
  exact ⟨cs.toList, .inr ⟨by rw [<- lC.length]; simp, zAF⟩, lC⟩
 | [x], hv => exact ⟨[v], .inl ⟨v, rfl, rfl, YF.QL hv⟩, .cons hv .nil⟩
 | x :: y :: xs, hv =>
  obtain ⟨cs, rfl, lC⟩ := hv
  exact ⟨cs.toList, .inr ⟨by rw [<- lC.length]; simp, zAF⟩, lC⟩
theorem wi (r : Rel T0 B σ a w X h) : ∀ {rs : List ResultVar} {hC : List (List At)}, Se P σ rs hC ->
  ∃ vs lu, (rs.mapM (m := Sem) fun | .tmp t => pure (a.tmps.getD t undef) | .cell u t => do loadVar t (<- asAddr (a.tmps.getD u undef))).run P w = .ok vs w /\ Z9 yb vs lu /\ Z9 (fun xs cs => Z9 (YF (Tof T0 X) h σ.ob w) xs cs) hC lu
 | [], hC, hr => by cases hr; exact ⟨[], [], zAF, .nil, .nil⟩
 | rv :: rs, hC, hr => by
  obtain ⟨xs, rest, h1, h2, rfl⟩ := hr
  obtain ⟨vs, lu, lT, hf, lC⟩ := wi r h2
  have one : ∃ v cs, (match rv with | .tmp t => (pure (a.tmps.getD t undef) : Sem Value) | .cell u t => do loadVar t (<- asAddr (a.tmps.getD u undef))).run P w = .ok v w /\ yb v cs /\ Z9 (YF (Tof T0 X) h σ.ob w) xs cs := by
   cases rv with
   | tmp t =>
    obtain ⟨hg, lH⟩ := h1
    have hv := r.slot t lH
    rw [hg] at hv
    obtain ⟨cs, hf, lC⟩ := rA hv
    exact ⟨_, cs, zAF, hf, lC⟩
   | cell t T =>
    obtain ⟨u, c, cells, hg, ho, gv, eJ, lA, hle, rfl⟩ := h1
    have hv := r.get t
    rw [hg] at hv
    obtain ⟨b, cs, e, hb, he, hh, lC⟩ := r.box ho hv
    have hlen := lC.length
    obtain ⟨val, hld, hagg, _⟩ := tU (P := P) (w := w) gv (b := b) (off := c) (cs := cut cs.toList c (P.cellsOf T)) (XQ _ _ _ zAA) (fun j u hu => zc hh _ _ (zq _ _ _ _ _ hu))
    refine ⟨val, cut cs.toList c (P.cellsOf T), ?_, .inr ⟨by rw [XQ _ _ _ zAA]; exact lA, hagg eJ⟩, lC.cut _ _⟩
    simp only [Instr.loadAt, Instr.sureAddr, Sem.run_bind, Sem.run_pure, Result.andThen_ok] at hld
    simp only [he, asAddr, Sem.run_bind, Sem.run_pure, Result.andThen_ok]
    exact hld
  obtain ⟨v, cs, hrun1, hf1, hal1⟩ := one
  refine ⟨v :: vs, cs :: lu, ?_, .cons hf1 hf, .cons hal1 lC⟩
  simp only [List.mapM_cons, Sem.run_bind, hrun1, Result.andThen_ok, lT, Sem.run_pure]
theorem Wo (r : Rel T0 B σ a w X h) (hr : Se P σ fn.results.toList hC) :
  ∃ vs lu, (results fn a.tmps).run P w = .ok (Rm vs) w /\ Z9 yb vs lu /\ Z9 (fun xs cs => Z9 (YF (Tof T0 X) h σ.ob w) xs cs) hC lu := by
 obtain ⟨vs, lu, lT, hf, lC⟩ := wi r hr
 refine ⟨vs, lu, ?_, hf, lC⟩
 unfold results
 rw [Array.mapM_eq_mapM_toList]
 change ((((fn.results.toList.mapM (m := Sem) fun | .tmp t => pure (a.tmps.getD t undef) | .cell u t => do loadVar t (<- asAddr (a.tmps.getD u undef))) >>= fun l => pure l.toArray) >>= fun (vs : Array Value) => pure (if h : vs.size = 1 then vs[0] else .tuple vs))).run P w = _
 simp only [Sem.run_bind, lT, Result.andThen_ok, Sem.run_pure]
 congr 1
 match vs with
 | [] => rfl
 | [v] => rfl
 | v :: v' :: vs => simp [Rm]
theorem SW (r : Rel T0 B σ a w X h) {T : CS} (hT : ∀ b k, Ox T0 X h σ b k -> T b k) : ∀ {hC : List (List At)} {lu : List (List Value)} {res : List (List D)}, km σ hC = some res -> Z9 (fun xs cs => Z9 (YF (Tof T0 X) h σ.ob w) xs cs) hC lu ->
  Z9 (fun cs row => Z9 (qb false T w) cs row) lu res
 | [], lu, res, hr, lC => by cases lC; simp [km] at hr; subst hr; exact .nil
 | xs :: hC, lu, res, hr, lC => by
  cases lC with
  | cons h1 lC =>
   simp only [km] at hr
   split at hr
   ·rename_i row rs lv fC
    cases hr
    refine .cons ?_ (SW r hT fC lC)
    have := r.rowOf false lv h1 (fun hh => by cases hh)
    refine this.imp fun v d hd => ?_
    simp only [qb, Bool.false_eq_true, if_false] at hd ⊢
    exact Rd.mono (fun b k v hb hc => ⟨hc, hT b k hb⟩) hd
   ·cases hr
theorem G8 : ∀ {xs : List At} {ds : List D}, ownRow σ xs = some ds -> Z9 (fun x d => kR σ x = some d) xs ds
 | [], ds, hr => by simp [ownRow] at hr; subst hr; exact .nil
 | x :: xs, ds, hr => by
  simp only [ownRow] at hr
  split at hr
  ·rename_i d dh h1 h2; cases hr; exact .cons h1 (G8 h2)
  ·cases hr
theorem Lh : ∀ {hC : List (List At)} {res : List (List D)}, Ui σ hC = some res -> Z9 (fun xs row => Z9 (fun x d => kR σ x = some d) xs row) hC res
 | [], res, hr => by simp [Ui] at hr; subst hr; exact .nil
 | xs :: hC, res, hr => by
  simp only [Ui] at hr
  split at hr
  ·rename_i d dh h1 h2; cases hr; exact .cons (G8 h1) (Lh h2)
  ·cases hr
theorem SE (r : Rel T0 B σ a w X h) {x : At} {d : D} {v : Value} (hx : kR σ x = some d) (hv : YF (Tof T0 X) h σ.ob w x v) : KH (Tof T0 X) w v d /\ (∀ b, d.scalar = false -> blk v = some b -> ∃ t j lo len, x = .sref t j lo len /\ σ.ob t j ≠ .none /\ (h t j).u b) := by
 cases x with
 | d x =>
  cases x with
  | sl s rows => simp [kR] at hx
  | int k n => simp [kR] at hx; subst hx; exact ⟨hv, fun b hb => by cases hb⟩
  | bool b => simp [kR] at hx; subst hx; exact ⟨hv, fun b hb => by cases hb⟩
  | str s => simp [kR] at hx; subst hx; exact ⟨hv, fun b hb => by cases hb⟩
  | unk => simp [kR] at hx; subst hx; exact ⟨hv, fun b hb => by cases hb⟩
 | nil s =>
  simp [kR] at hx; subst hx
  cases hv
  exact ⟨⟨0, [], World.ownsRow_nil w 0 0 s, zA4, .nil⟩, fun b _ hb => by cases hb⟩
 | sref t j lo len =>
  simp only [kR] at hx
  split at hx
  ·rename_i size rows ho
   split at hx
   ·rename_i hc
    obtain ⟨rfl, rfl⟩ := hc
    cases hx
    obtain ⟨_, hZ, _⟩ := hv.2.1 _ size rows ho
    have he := hZ rfl rfl
    have h0 := r.obj t j
    have ir := r.ub t j
    rw [ho] at h0 ir
    refine ⟨by rw [he]; exact h0, fun b _ hb => ⟨t, j, 0, rows.length, rfl, by rw [ho]; simp, ir b zAF (by rw [<- he]; exact hb)⟩⟩
   ·cases hx
  ·cases hx
 | any => simp [kR] at hx
 | ptr => simp [kR] at hx
 | bptr => simp [kR] at hx
 | fn => simp [kR] at hx
 | rptr => simp [kR] at hx
 | tref => simp [kR] at hx
theorem CQ (hf : P.funcs[f]? = some fn) (hb : fn.body = some c) (lW : TL P f = true) {own : Bool}
  (hw : AWP P c (Cy P fn own res) (kJ fn.ntmps args)) : JH P f own args res := by
 refine ⟨lW, fun T w l6 hT lF => calls_of_wp hf hb ?_⟩
 refine wp_mono (hw T (fun b => b < w.heap.size) _ w (GP hT lF)) ?_
 rintro e a' w' ⟨σ', ⟨he, hC, gH, lJ⟩, ⟨X, h, r⟩, lQ⟩
 have gI : Below w.heap.size w w' := ⟨lQ.os, lQ.tape, lQ.output, lQ.size, lQ.block⟩
 obtain ⟨vs, lu, lT, l4, lC⟩ := Wo r gH
 have goal : a'.defers = [] /\ ∃ v, (results fn a'.tmps).run P w' = .ok v w' /\ nF own T w res (.returned v) w' := by
  refine ⟨r.defers, _, lT, ?_⟩
  cases own with
  | false =>
   refine ⟨vs, lu, fun b => w.heap.size <= b /\ b < w'.heap.size, rfl, gI, fun b hb => hb, l4, ?_, fun hh => by cases hh⟩
   refine SW r (fun b k hb => ?_) (by simpa using lJ) lC
   rcases hb with hb | ⟨t, j, q, size, rows, ho, hb⟩
   ·rcases hb with hb | hb
    ·exact .inl hb
    ·have := r.hX b hb; exact .inr ⟨zAA, this.2⟩
   ·have := r.own t j b zAr hb
    exact .inr ⟨zAA, this.2.2⟩
  | true =>
   simp only [if_true] at lJ
   obtain ⟨lE, iV⟩ := lJ
   have iX := Lh lE
   have eK : Z9 (fun x d => kR σ' x = some d) hC.flatten res.flatten := qZ iX
   have eM : Z9 (YF (Tof T X) h σ'.ob w') hC.flatten lu.flatten := qZ lC
   refine ⟨vs, lu, X, rfl, gI, (fun b hb => by have := r.hX b hb; exact ⟨zAA, this.2⟩), l4, ?_, fun _ => ⟨fun i cc d b hc hd ib hb => ?_, fun i j cc cc' d d' b hc hd l7 lL ib aP hb lP => ?_⟩⟩
   ·clear eK eM l4 lT gH lE iV he hw
    induction iX generalizing lu with
    | nil => cases lC; exact .nil
    | cons hr _ ih =>
     cases lC with
     | cons cH lC =>
      refine .cons ?_ (ih _ lC)
      clear ih lC
      refine Z9.xk (by rw [<- cH.length, hr.length]) (fun i v d hv hd => ?_)
      obtain ⟨x, hx, bt⟩ := hr.get' i d hd
      obtain ⟨v', fD, hxv⟩ := cH.get i x hx
      rw [hv] at fD; cases fD
      simp only [qb, if_true]
      exact (SE r bt hxv).1
   ·obtain ⟨x, hx, bt⟩ := eK.get' i d hd
    obtain ⟨v', fD, hxv⟩ := eM.get i x hx
    rw [hc] at fD; cases fD
    obtain ⟨t, j, lo, len, _, lA, gy⟩ := (SE r bt hxv).2 b ib hb
    have := r.own t j b lA gy
    exact ⟨zAA, this.2.2, this.2.1⟩
   ·obtain ⟨x, hx, bt⟩ := eK.get' i d hd
    obtain ⟨v', fD, hxv⟩ := eM.get i x hx
    rw [hc] at fD; cases fD
    obtain ⟨x2, hx2, hxd2⟩ := eK.get' j d' lL
    obtain ⟨v2, iW, hxv2⟩ := eM.get j x2 hx2
    rw [l7] at iW; cases iW
    obtain ⟨t, u, lo, len, rfl, lA, gy⟩ := (SE r bt hxv).2 b ib hb
    obtain ⟨t2, u2, lo2, len2, rfl, cU, hbb2⟩ := (SE r hxd2 hxv2).2 b aP lP
    obtain ⟨rfl, rfl⟩ := r.inj t u t2 u2 b lA cU gy hbb2
    exact Ld _ i j t u lo len lo2 len2 iV hx hx2
 rcases he with rfl | rfl
 ·exact goal
 ·exact goal
theorem FJ (hf : P.funcs[f]? = some fn) (hb : fn.body = some c) (lW : TL P f = true)
  (hw : AWP P c (vx P fn res) (kJ fn.ntmps args)) : YV P f args res := by
 refine ⟨lW, fun T w l6 hT lF => calls_of_wp hf hb ?_⟩
 refine wp_mono (hw T (fun b => b < w.heap.size) _ w (GP hT lF)) ?_
 rintro e a' w' ⟨σ', ⟨he, hC, gH, gT, gk, iV⟩, ⟨X, h, r⟩, lQ⟩
 have gI : Below w.heap.size w w' := ⟨lQ.os, lQ.tape, lQ.output, lQ.size, lQ.block⟩
 obtain ⟨vs, lu, lT, l4, lC⟩ := Wo r gH
 have goal : a'.defers = [] /\ ∃ v, (results fn a'.tmps).run P w' = .ok v w' /\ pL w res (.returned v) w' := by
  refine ⟨r.defers, _, lT, vs, lu, rfl, gI, l4, ?_, ?_⟩
  ·clear iV gk gH lT l4 hw
   induction lC generalizing res with
   | nil => simp [Ku] at gT; subst gT; exact .nil
   | cons h1 _ ih =>
    simp only [Ku] at gT
    split at gT
    ·rename_i row rs lv fC
     cases gT
     exact .cons (by rw [<- h1.length]; exact (qY lv).1) (ih fC)
    ·cases gT
  ·refine (RL r (qZ lC) (xq gT).1 (xe gk) iV).mono (fun b hb => ?_)
   have := r.z8 _ b hb
   exact ⟨zAA, this.2.2.1⟩
 rcases he with rfl | rfl
 ·exact goal
 ·exact goal
open Go.RowKit
variable {os : List Ob} {op : BinOp}
theorem St.sD (e : Ent) (σ : St) : St.get (e :: σ) 0 = e.1 := rfl
theorem St.tQ (e : Ent) (σ : St) (n : Nat) : St.get (e :: σ) (n + 1) = St.get σ n := by simp [St.get]
theorem St.rQ (e : Ent) (σ : St) (j : Nat) : St.ob (e :: σ) 0 j = Yj e.2 j := rfl
theorem St.rT (e : Ent) (σ : St) (n j : Nat) : St.ob (e :: σ) (n + 1) j = St.ob σ n j := by simp [St.ob]
theorem DF (o : Ob) (os : List Ob) : Yj (o :: os) 0 = o := rfl
theorem WJ (o : Ob) (os : List Ob) (n : Nat) : Yj (o :: os) (n + 1) = Yj os n := by simp [Yj]
theorem sM (n : Nat) : Yj [] n = .none := by simp [Yj]
def lkI (P : Program) (σ : St) (x : Operand) : Prop × Int :=
 match unc (look P σ 0 x) with
 | .one (.d (.int _ n)) => (gOf (look P σ 0 x) = true, n)
 | _ => (False, 0)
def lkK (P : Program) (σ : St) (x : Operand) : IntKind :=
 match unc (look P σ 0 x) with
 | .one (.d (.int k _)) => k
 | _ => .i64
theorem Wv (h : (lkI P σ x).1) : Vq P σ x (lkK P σ x) (lkI P σ x).2 := by
 unfold lkI at h ⊢
 unfold lkK
 unfold Vq
 split at h
 ·rename_i k n heq
  rw [heq]; exact ⟨h, rfl⟩
 ·exact h.elim
def yu (P : Program) (σ : St) (hR : Nat) : Option Operand -> Prop × Nat
 | none => (True, hR)
 | some x => ((lkI P σ x).1 /\ 0 <= (lkI P σ x).2, (lkI P σ x).2.toNat)
theorem Tq {x : Option Operand} (h : (yu P σ hR x).1) : bnd P σ hR x (yu P σ hR x).2 := by
 cases x with
 | none => rfl
 | some x =>
  have h1 := Wv h.1
  exact ⟨_, _, h1.1, h1.2, h.2, rfl⟩
def rowAt (rows : List (List D)) (i : Nat) : List D := rows.getD i []
def bAt (s : ByteArray) (i : Nat) : Nat := (s.data.toList.getD i 0).toNat
def RS (P : Program) (σ : St) (T : TypeId) (x ix : Operand) : Prop × V :=
 match unc (look P σ 0 x) with
 | .one (.d (.sl size rows)) => ((gOf (look P σ 0 x) = true /\ (lkI P σ ix).1) /\ 0 <= (lkI P σ ix).2 /\ (XZ P T = true /\ size = P.cellsOf (ZR P T) /\ 0 < size) /\ (lkI P σ ix).2 < (rows.length : Int), .one (.rptr (rowAt rows (lkI P σ ix).2.toNat) 0))
 | .one (.sref t j lo len) => ((gOf (look P σ 0 x) = true /\ (lkI P σ ix).1) /\ 0 <= (lkI P σ ix).2 /\ (XZ P T = true /\ 0 < P.cellsOf (ZR P T) /\ (match σ.ob t j with | .arr _ size _ => size = P.cellsOf (ZR P T) | _ => False)) /\ (lkI P σ ix).2 < (len : Int), .one (.ptr t j (lo + (lkI P σ ix).2.toNat) 0))
 | .one (.tref t j m c none) => ((gOf (look P σ 0 x) = true /\ (lkI P σ ix).1) /\ 0 <= (lkI P σ ix).2 /\ (XZ P T = true /\ 0 < P.cellsOf (ZR P T)) /\ (match σ.ob t j with | .arr true _ rows => m < rows.length /\ (match (rowAt rows m)[c]? with | some (.sl n s) => n = P.cellsOf (ZR P T) /\ (lkI P σ ix).2 < (s.length : Int) | _ => False) | _ => False), .one (.tref t j m c (some ((lkI P σ ix).2.toNat * P.cellsOf (ZR P T)))))
 | .one (.bptr t c) => ((gOf (look P σ 0 x) = true /\ (lkI P σ ix).1) /\ 0 <= (lkI P σ ix).2 /\ (match σ.ob t 0 with | .box _ => True | _ => False) /\ (match GV P T with | some n => 1 < n /\ (lkI P σ ix).2 < (n : Int) | none => False), .one (.bptr t (c + (lkI P σ ix).2.toNat * P.cellsOf (ZR P T))))
 | _ => (False, .any)
def AX (P : Program) (σ : St) (T : TypeId) (x : Operand) : Prop × V :=
 match unc (look P σ 0 x) with
 | .one (.bptr t c) => (match σ.ob t 0 with | .box cells => (gOf (look P σ 0 x) = true /\ qT P T = true /\ c + P.cellsOf T <= cells.length, ldV P T (cut cells c (P.cellsOf T))) | _ => (False, .any))
 | .one (.ptr t j i c) => (match σ.ob t j with | .arr q size rows => ((gOf (look P σ 0 x) = true /\ qT P T = true /\ c + P.cellsOf T <= size) /\ i < rows.length, ldV P T (SC q t j i c (cut (rowAt rows i) c (P.cellsOf T)))) | _ => (False, .any))
 | .one (.rptr r c) => (gOf (look P σ 0 x) = true /\ qT P T = true /\ c + P.cellsOf T <= r.length, ldV P T ((cut r c (P.cellsOf T)).map .d))
 | .one (.tref t j i c (some k)) => (match σ.ob t j with
  | .arr true _ rows => (match (rowAt rows i)[c]? with
   | some (.sl 1 s) => ((gOf (look P σ 0 x) = true /\ qT P T = true) /\ i < rows.length /\ P.cellsOf T = 1 /\ k < s.length /\ (rowAt s k).all D.scalar = true, ldV P T ((rowAt s k).map .d))
   | _ => (False, .any))
  | _ => (False, .any))
 | _ => (False, .any)
def R7 (P : Program) (σ : St) (T : TypeId) (x : Operand) (f : Nat) : Prop × V :=
 match unc (look P σ 0 x) with
 | .one (.bptr t c) => (gOf (look P σ 0 x) = true /\ jy P T f = true /\ (match σ.ob t 0 with | .box _ => True | _ => False), .one (.bptr t (c + JA P T f)))
 | .one (.ptr t j i c) => (gOf (look P σ 0 x) = true /\ jy P T f = true /\ (match σ.ob t j with | .arr _ _ _ => True | _ => False), .one (.ptr t j i (c + JA P T f)))
 | .one (.rptr r c) => (gOf (look P σ 0 x) = true /\ jy P T f = true, .one (.rptr r (c + JA P T f)))
 | .one (.tref t j i c (some k)) => (gOf (look P σ 0 x) = true /\ jy P T f = true /\ (match σ.ob t j with | .arr true _ _ => True | _ => False), .one (.tref t j i c (some (k + JA P T f))))
 | _ => (False, .any)
def ER (P : Program) (op : BinOp) (T : TypeId) (x y : V) : Prop × V :=
 match op, x, y with
 | .eql, .one (.d (.int k m)), .one (.d (.int k' n)) => (k' = k, .one (.d (.bool (m == n))))
 | .neq, .one (.d (.int k m)), .one (.d (.int k' n)) => (k' = k, .one (.d (.bool (m != n))))
 | .lss, .one (.d (.int k m)), .one (.d (.int k' n)) => (k' = k, .one (.d (.bool (decide (m < n)))))
 | .leq, .one (.d (.int k m)), .one (.d (.int k' n)) => (k' = k, .one (.d (.bool (decide (m <= n)))))
 | .gtr, .one (.d (.int k m)), .one (.d (.int k' n)) => (k' = k, .one (.d (.bool (decide (m > n)))))
 | .geq, .one (.d (.int k m)), .one (.d (.int k' n)) => (k' = k, .one (.d (.bool (decide (m >= n)))))
 | .add, .one (.d (.int k m)), .one (.d (.int k' n)) => (k' = k, .one (.d (.int k (k.wrap (m + n)))))
 | .sub, .one (.d (.int k m)), .one (.d (.int k' n)) => (k' = k, .one (.d (.int k (k.wrap (m - n)))))
 | .mul, .one (.d (.int k m)), .one (.d (.int k' n)) => (k' = k, .one (.d (.int k (k.wrap (m * n)))))
 | .quo, .one (.d (.int k m)), .one (.d (.int k' n)) => (k' = k /\ n ≠ 0, .one (.d (.int k (k.wrap (m.tdiv n)))))
 | .rem, .one (.d (.int k m)), .one (.d (.int k' n)) => (k' = k /\ n ≠ 0, .one (.d (.int k (m.tmod n))))
 | .and, .one (.d (.int k m)), .one (.d (.int k' n)) => (k' = k, .one (.d (.int k (Fb k m n))))
 | .or, .one (.d (.int k m)), .one (.d (.int k' n)) => (k' = k, .one (.d (.int k (iOr k m n))))
 | .xor, .one (.d (.int k m)), .one (.d (.int k' n)) => (k' = k, .one (.d (.int k (sG k m n))))
 | .shl, .one (.d (.int k m)), .one (.d (.int _ n)) => (0 <= n, .one (.d (.int k (k.wrap (m * 2 ^ (min n.toNat k.bits))))))
 | .shr, .one (.d (.int k m)), .one (.d (.int _ n)) => (0 <= n, .one (.d (.int k (m.fdiv (2 ^ (min n.toNat k.bits))))))
 | .add, .one (.d (.str m)), .one (.d (.str n)) => (((m.size + n.size : Nat) : Int) <= 9223372036854775807, .one (.d (.str (m ++ n))))
 | .eql, .one (.d (.str m)), .one (.d (.str n)) => (True, .one (.d (.bool (decide (m = n)))))
 | .neq, .one (.d (.str m)), .one (.d (.str n)) => (True, .one (.d (.bool (!decide (m = n)))))
 | .eql, .one (.d (.bool m)), .one (.d (.bool n)) => (Lv P T = true, .one (.d (.bool (m == n))))
 | .neq, .one (.d (.bool m)), .one (.d (.bool n)) => (Lv P T = true, .one (.d (.bool (!(m == n)))))
 | .eql, .agg xs, .agg ys => (Pp P T = true /\ (Q7 P (zd P T) xs ys).isSome = true, .one (.d (.bool ((Q7 P (zd P T) xs ys).getD false))))
 | .neq, .agg xs, .agg ys => (Pp P T = true /\ (Q7 P (zd P T) xs ys).isSome = true, .one (.d (.bool (!(Q7 P (zd P T) xs ys).getD false))))
 | _, _, _ => (False, .any)
def T5 (P : Program) (σ : St) (T : TypeId) : List (Nat × Operand) -> List At -> Prop × List At
 | [], r => (True, r)
 | (i, x) :: ps, r => ((bOk P T i = true /\ gOf (look P σ (bTy P T i) x) = true /\ (unc (look P σ (bTy P T i) x)).flat = true /\
   (unc (look P σ (bTy P T i) x)).cells.length = P.cellsOf (bTy P T i) /\ jw P T i + P.cellsOf (bTy P T i) <= r.length) /\ (T5 P σ T ps (place r (jw P T i) (unc (look P σ (bTy P T i) x)).cells)).1,
   (T5 P σ T ps (place r (jw P T i) (unc (look P σ (bTy P T i) x)).cells)).2)
theorem GJ {P : Program} {σ : St} {T : TypeId} : ∀ {ps : List (Nat × Operand)} {r : List At}, (T5 P σ T ps r).1 -> TW P σ T ps r (T5 P σ T ps r).2
 | [], _, _ => rfl
 | (_, _) :: _, _, h => ⟨h.1.1, h.1.2.1, h.1.2.2.1, h.1.2.2.2.1, h.1.2.2.2.2, GJ h.2⟩
def isB : V -> Bool
 | .one (.d (.bool _)) => true
 | _ => false
def bOf : V -> Bool
 | .one (.d (.bool b)) => b
 | _ => false
theorem tJ : ∀ {v : V}, isB v = true -> v = .one (.d (.bool (bOf v)))
 | .one (.d (.bool _)), _ => rfl
def evV (P : Program) (σ : St) (op : Op) (ty : TypeId) : Prop × V :=
 match op with
 | .move x => (True, look P σ ty x)
 | .assign x => (True, look P σ ty x)
 | .pick c a b =>
  (match unc (look P σ ty c) with
  | .one (.d (.bool bc)) => ((gOf (look P σ ty c) = true /\ (bc = true -> isB (unc (look P σ ty a)) = true) /\ (bc = false -> isB (unc (look P σ ty b)) = true)) /\ (bc = true -> gOf (look P σ ty a) = true) /\ (bc = false -> gOf (look P σ ty b) = true), .one (.d (.bool (cond bc (bOf (unc (look P σ ty a))) (bOf (unc (look P σ ty b)))))))
  | _ => (False, .any))
 | .load T x => AX P σ T x
 | .fieldAddr T x f => R7 P σ T x f
 | .nilCheck x => (match unc (look P σ 0 x) with
  | .one (.bptr t c) => (gOf (look P σ 0 x) = true /\ (match σ.ob t 0 with | .box _ => True | _ => False), .one (.bptr t c))
  | _ => (False, .any))
 | .indexAddr T x ix => RS P σ T x ix
 | .index T x ix =>
  (match unc (look P σ 0 x) with
  | .one (.d (.str s)) => ((gOf (look P σ 0 x) = true /\ (lkI P σ ix).1) /\ 0 <= (lkI P σ ix).2 /\ SB P T = true /\ (lkI P σ ix).2 < (s.size : Int), .one (.d (.int .u8 (bAt s (lkI P σ ix).2.toNat))))
  | .agg xs => ((gOf (look P σ 0 x) = true /\ (lkI P σ ix).1) /\ 0 <= (lkI P σ ix).2 /\ (match GV P T with | some n => (lkI P σ ix).2 < (n : Int) | none => False) /\ qT P (ZR P T) = true /\ (lkI P σ ix).2.toNat * P.cellsOf (ZR P T) + P.cellsOf (ZR P T) <= xs.length,
    ldV P (ZR P T) (cut xs ((lkI P σ ix).2.toNat * P.cellsOf (ZR P T)) (P.cellsOf (ZR P T))))
  | _ => (False, .any))
 | .slice T x lo hi none =>
  (match unc (look P σ 0 x) with
  | .one (.d (.str s)) => ((gOf (look P σ 0 x) = true /\ SB P T = true /\ (yu P σ 0 lo).1 /\ (yu P σ s.size hi).1) /\ (yu P σ 0 lo).2 <= (yu P σ s.size hi).2 /\ (yu P σ s.size hi).2 <= s.size, .one (.d (.str (s.extract (yu P σ 0 lo).2 (yu P σ s.size hi).2))))
  | .one (.d (.sl size rows)) => ((gOf (look P σ 0 x) = true /\ XZ P T = true /\ size = P.cellsOf (ZR P T) /\ (yu P σ 0 lo).1 /\ (yu P σ rows.length hi).1) /\ (yu P σ 0 lo).2 <= (yu P σ rows.length hi).2 /\ (yu P σ rows.length hi).2 <= rows.length,
    .one (.d (.sl size (cut rows (yu P σ 0 lo).2 ((yu P σ rows.length hi).2 - (yu P σ 0 lo).2)))))
  | .one (.sref t j o len) => ((gOf (look P σ 0 x) = true /\ XZ P T = true /\ (match σ.ob t j with | .arr _ size _ => size = P.cellsOf (ZR P T) | _ => False) /\ (yu P σ 0 lo).1 /\ (yu P σ len hi).1) /\ (yu P σ 0 lo).2 <= (yu P σ len hi).2 /\ (yu P σ len hi).2 <= len,
    .one (.sref t j (o + (yu P σ 0 lo).2) ((yu P σ len hi).2 - (yu P σ 0 lo).2)))
  | _ => (False, .any))
 | .binOp op T x y _ => ((gOf (look P σ T x) = true /\ gOf (look P σ T y) = true) /\ (ER P op T (unc (look P σ T x)) (unc (look P σ T y))).1, (ER P op T (unc (look P σ T x)) (unc (look P σ T y))).2)
 | .unOp .not _ x => (match unc (look P σ 0 x) with | .one (.d (.bool b)) => (gOf (look P σ 0 x) = true, .one (.d (.bool (!b)))) | _ => (False, .any))
 | .unOp .neg _ x => (match unc (look P σ 0 x) with | .one (.d (.int k n)) => (gOf (look P σ 0 x) = true, .one (.d (.int k (k.wrap (-n))))) | _ => (False, .any))
 | .convert S T x => (match unc (look P σ 0 x), AV P T with | .one (.d (.int _ n)), some k => (gOf (look P σ 0 x) = true /\ (P.underlying S).isSome = true, .one (.d (.int k (k.wrap n)))) | _, _ => (False, .any))
 | .extract x i => (match unc (look P σ 0 x) with | .tup xs => (gOf (look P σ 0 x) = true /\ i < xs.length /\ (xs.getD i .any).flat = true, xs.getD i .any) | _ => (False, .any))
 | .field T x f =>
  (match unc (look P σ 0 x) with
  | .agg xs => (gOf (look P σ 0 x) = true /\ jy P T f = true /\ qT P (qg P T f) = true /\ JA P T f + P.cellsOf (qg P T f) <= xs.length, ldV P (qg P T f) (cut xs (JA P T f) (P.cellsOf (qg P T f))))
  | _ => (False, .any))
 | .build T parts => (match Wa P 12 T with | some z => ((Qc P T = true /\ TM P T = true) /\ (T5 P σ T parts.toList z).1, .agg (T5 P σ T parts.toList z).2) | none => (False, .any))
 | .call ⟨.builtin .len, ⟨[x]⟩, ⟨[t]⟩⟩ =>
  (match unc (look P σ t x) with
  | .one (.d (.str s)) => (gOf (look P σ t x) = true /\ SB P t = true, .one (.d (.int .i64 s.size)))
  | .one (.d (.sl _ rows)) => (gOf (look P σ t x) = true /\ XZ P t = true, .one (.d (.int .i64 rows.length)))
  | .one (.nil _) => (gOf (look P σ t x) = true /\ XZ P t = true, .one (.d (.int .i64 0)))
  | .one (.sref u j _ len) => (gOf (look P σ t x) = true /\ XZ P t = true /\ (match σ.ob u j with | .arr _ _ _ => True | .lit _ _ => True | _ => False), .one (.d (.int .i64 len)))
  | .one (.tref u j i c none) => (match σ.ob u j with
   | .arr true _ rows => (match (rowAt rows i)[c]? with
    | some (.sl _ s) => ((gOf (look P σ t x) = true /\ XZ P t = true) /\ i < rows.length, .one (.d (.int .i64 s.length)))
    | _ => (False, .any))
   | _ => (False, .any))
  | _ => (False, .any))
 | .call ⟨.builtin .max, ⟨[x, y]⟩, _⟩ => ((lkI P σ x).1 /\ (lkI P σ y).1 /\ lkK P σ y = lkK P σ x, .one (.d (.int (lkK P σ x) (if (lkI P σ y).2 > (lkI P σ x).2 then (lkI P σ y).2 else (lkI P σ x).2))))
 | .call ⟨.builtin .min, ⟨[x, y]⟩, _⟩ => ((lkI P σ x).1 /\ (lkI P σ y).1 /\ lkK P σ y = lkK P σ x, .one (.d (.int (lkK P σ x) (if (lkI P σ y).2 < (lkI P σ x).2 then (lkI P σ y).2 else (lkI P σ x).2))))
 | _ => (False, .any)
theorem wT {o : Ob} (h : (match o with | .box _ => True | _ => False)) : ∃ cells, o = .box cells := by
 cases o with
 | box c => exact ⟨c, rfl⟩
 | none => exact h.elim
 | arr q s r => exact h.elim
 | lit s r => exact h.elim
theorem oF {o : Ob} (h : (match o with | .arr _ _ _ => True | _ => False)) : ∃ q size rows, o = .arr q size rows := by
 cases o with
 | arr q s r => exact ⟨q, s, r, rfl⟩
 | none => exact h.elim
 | box c => exact h.elim
 | lit s r => exact h.elim
theorem oD {o : Ob} (h : (match o with | .arr _ _ _ => True | .lit _ _ => True | _ => False)) : (∃ q size rows, o = .arr q size rows) \/ ∃ size rows, o = .lit size rows := by
 cases o with
 | arr q s r => exact .inl ⟨q, s, r, rfl⟩
 | none => exact h.elim
 | box c => exact h.elim
 | lit s r => exact .inr ⟨s, r, rfl⟩
theorem wb {o : Ob} (h : (match o with | .arr _ size _ => size = n | _ => False)) : ∃ q rows, o = .arr q n rows := by
 cases o with
 | arr q s r => simp at h; subst h; exact ⟨q, r, rfl⟩
 | none => exact h.elim
 | box c => exact h.elim
 | lit s r => exact h.elim
theorem tR {T : TypeId} {x y : V} (hc : (ER P op T x y).1) : BZ P op T x y (ER P op T x y).2 := by
 unfold ER at hc ⊢
 split at hc
 all_goals first
  | exact hc.elim
  | exact ⟨.inr hc, rfl⟩
  | exact ⟨.inr hc.1, hc.2, rfl⟩
  | exact ⟨.inl (.inl rfl), hc, rfl⟩
  | exact ⟨.inl (.inr rfl), hc, rfl⟩
  | exact ⟨hc, rfl⟩
  | rfl
  | (obtain ⟨q, hq⟩ := Option.isSome_iff_exists.1 hc.2; exact ⟨hc.1, q, hq, .inl ⟨rfl, by rw [hq]; rfl⟩⟩)
  | (obtain ⟨q, hq⟩ := Option.isSome_iff_exists.1 hc.2; exact ⟨hc.1, q, hq, .inr ⟨rfl, by rw [hq]; rfl⟩⟩)
theorem AS {op : Op} {ty : TypeId} (hc : (evV P σ op ty).1) : Ya P σ op ty (evV P σ op ty).2 := by
 unfold evV at hc ⊢
 split at hc
 ·rfl
 ·rfl
 ·rename_i c a b
  split at hc
  ·rename_i bc h1; exact ⟨bc, _, _, hc.1.1, h1, (fun hh => tJ (hc.1.2.1 hh)), (fun hh => tJ (hc.1.2.2 hh)), hc.2.1, hc.2.2, zAY⟩
  ·exact hc.elim
 ·rename_i T x
  unfold AX at hc ⊢
  simp only [Ya]
  split at hc
  ·rename_i t c hx
   split at hc
   ·rename_i cells ho; simp only [hx, ho]; exact ⟨hc.1, hc.2.1, cells, rfl, hc.2.2, zAY⟩
   ·exact hc.elim
  ·rename_i t j i c hx
   split at hc
   ·rename_i size rows ho; simp only [hx, ho]; exact ⟨hc.1.1, hc.1.2.1, _, size, rows, rfl, hc.2, hc.1.2.2, zAY⟩
   ·exact hc.elim
  ·rename_i r c hx; simp only [hx]; exact ⟨hc.1, hc.2.1, hc.2.2, zAY⟩
  ·rename_i t j i c k hx
   split at hc
   ·rename_i size rows ho
    split at hc
    ·rename_i s lJ; simp only [hx, ho, lJ]; exact ⟨hc.1.1, hc.1.2, size, rows, s, rfl, hc.2.1, lJ, hc.2.2.1, hc.2.2.2.1, hc.2.2.2.2, zAY⟩
    ·exact hc.elim
   ·exact hc.elim
  ·exact hc.elim
 ·rename_i T x f
  unfold R7 at hc ⊢
  simp only [Ya]
  split at hc
  ·rename_i t c hx; simp only [hx]; exact ⟨hc.1, hc.2.1, wT hc.2.2, zAY⟩
  ·rename_i t j i c hx; simp only [hx]; exact ⟨hc.1, hc.2.1, oF hc.2.2, zAY⟩
  ·rename_i r c hx; simp only [hx]; exact ⟨hc.1, hc.2, zAY⟩
  ·rename_i t j i c k hx
   have h3 := hc.2.2
   split at h3
   ·rename_i size rows ho; simp only [hx]; exact ⟨hc.1, hc.2.1, ⟨size, rows, ho⟩, zAY⟩
   ·exact h3.elim
  ·exact hc.elim
 ·rename_i x
  simp only [Ya]
  split at hc
  ·rename_i t c hx; simp only [hx]; exact ⟨hc.1, wT hc.2, zAY⟩
  ·exact hc.elim
 ·rename_i T x ix
  unfold RS at hc ⊢
  simp only [Ya]
  split at hc
  ·rename_i size rows hx
   simp only [hx]
   exact ⟨_, _, Wv hc.1.2, hc.2.1, hc.1.1, hc.2.2.1.1, hc.2.2.1.2.1, hc.2.2.1.2.2, hc.2.2.2, zAY⟩
  ·rename_i t j lo len hx
   simp only [hx]
   exact ⟨_, _, Wv hc.1.2, hc.2.1, hc.1.1, hc.2.2.1.1, hc.2.2.1.2.1, wb hc.2.2.1.2.2, hc.2.2.2, zAY⟩
  ·rename_i t j m c hx
   have h3 := hc.2.2.2
   split at h3
   ·rename_i size rows ho
    obtain ⟨hm, h4⟩ := h3
    split at h4
    ·rename_i n s hr
     obtain ⟨rfl, lH⟩ := h4
     simp only [hx]
     exact ⟨_, _, Wv hc.1.2, hc.2.1, hc.1.1, hc.2.2.1.1, hc.2.2.1.2, ⟨size, rows, s, ho, hm, hr, lH⟩, zAY⟩
    ·exact h4.elim
   ·exact h3.elim
  ·rename_i t c hx
   simp only [hx]
   refine ⟨_, _, Wv hc.1.2, hc.2.1, hc.1.1, wT hc.2.2.1, ?_, zAY⟩
   have := hc.2.2.2
   split at this
   ·rename_i n hn; exact ⟨n, hn, this.1, this.2⟩
   ·exact this.elim
  ·exact hc.elim
 ·rename_i T x ix
  simp only [Ya]
  split at hc
  ·rename_i s hx; simp only [hx]; exact ⟨_, _, Wv hc.1.2, hc.2.1, hc.1.1, hc.2.2.1, hc.2.2.2, zAY⟩
  ·rename_i xs hx
   simp only [hx]
   refine ⟨_, _, Wv hc.1.2, hc.2.1, hc.1.1, ?_, hc.2.2.2.1, hc.2.2.2.2, zAY⟩
   have := hc.2.2.1
   split at this
   ·rename_i n hn; exact ⟨n, hn, this⟩
   ·exact this.elim
  ·exact hc.elim
 ·rename_i T x lo hi
  simp only [Ya]
  split at hc
  ·rename_i s hx; simp only [hx]; exact ⟨hc.1.1, hc.1.2.1, _, _, Tq hc.1.2.2.1, Tq hc.1.2.2.2, hc.2.1, hc.2.2, zAY⟩
  ·rename_i size rows hx; simp only [hx]; exact ⟨hc.1.1, hc.1.2.1, hc.1.2.2.1, _, _, Tq hc.1.2.2.2.1, Tq hc.1.2.2.2.2, hc.2.1, hc.2.2, zAY⟩
  ·rename_i t j o len hx; simp only [hx]; exact ⟨hc.1.1, hc.1.2.1, wb hc.1.2.2.1, _, _, Tq hc.1.2.2.2.1, Tq hc.1.2.2.2.2, hc.2.1, hc.2.2, zAY⟩
  ·exact hc.elim
 ·exact ⟨hc.1.1, hc.1.2, tR hc.2⟩
 ·simp only [Ya]
  split at hc
  ·rename_i b hx; simp only [hx]; exact ⟨hc, zAY⟩
  ·exact hc.elim
 ·simp only [Ya]
  split at hc
  ·rename_i k n hx; simp only [hx]; exact ⟨hc, zAY⟩
  ·exact hc.elim
 ·rename_i S T x
  simp only [Ya]
  split at hc
  ·rename_i k0 n k hx hk; simp only [hx, hk]; exact ⟨hc.1, hc.2, k, rfl, zAY⟩
  ·exact hc.elim
 ·rename_i x i
  simp only [Ya]
  split at hc
  ·rename_i xs hx
   simp only [hx]
   exact ⟨hc.1, by simp [List.getD_eq_getElem?_getD, List.getElem?_eq_getElem hc.2.1], hc.2.2⟩
  ·exact hc.elim
 ·simp only [Ya]
  split at hc
  ·rename_i xs hx; simp only [hx]; exact ⟨hc.1, hc.2.1, hc.2.2.1, hc.2.2.2, zAY⟩
  ·exact hc.elim
 ·simp only [Ya]
  split at hc
  ·rename_i z hz; exact ⟨hc.1.1, hc.1.2, z, _, hz, GJ hc.2, zAY⟩
  ·exact hc.elim
 ·simp only [Ya]
  split at hc
  ·rename_i s hx; simp only [hx]; exact ⟨hc.1, hc.2, zAY⟩
  ·rename_i s rows hx; simp only [hx]; exact ⟨hc.1, hc.2, zAY⟩
  ·rename_i s hx; simp only [hx]; exact ⟨hc.1, hc.2, zAY⟩
  ·rename_i u j lo len hx; simp only [hx]; exact ⟨hc.1, hc.2.1, oD hc.2.2, zAY⟩
  ·rename_i u j i c hx
   split at hc
   ·rename_i rows ho
    split at hc
    ·rename_i s lJ; simp only [hx, ho, lJ]; exact ⟨hc.1.1, hc.1.2, _, rows, _, s, rfl, hc.2, lJ, zAY⟩
    ·exact hc.elim
   ·exact hc.elim
  ·exact hc.elim
 ·simp only [Ya]
  have hy := Wv hc.2.1
  rw [hc.2.2] at hy
  exact ⟨_, _, _, Wv hc.1, hy, zAY⟩
 ·simp only [Ya]
  have hy := Wv hc.2.1
  rw [hc.2.2] at hy
  exact ⟨_, _, _, Wv hc.1, hy, zAY⟩
 ·exact hc.elim
open Go.RowKit
def SK (P : Program) (σ : St) (T : TypeId) (size : Nat) : List (Nat × Operand) -> Nat -> Prop × List (List D)
 | [], _ => (True, [])
 | (i, x) :: ps, k => ((i = k /\ gOf (look P σ T x) = true /\ (unc (look P σ T x)).flat = true /\ zb (unc (look P σ T x)).cells = true /\ (rowOf σ (unc (look P σ T x)).cells).isSome = true /\ ((rowOf σ (unc (look P σ T x)).cells).getD []).length = size) /\ (SK P σ T size ps (k + 1)).1,
   (rowOf σ (unc (look P σ T x)).cells).getD [] :: (SK P σ T size ps (k + 1)).2)
theorem Es {P : Program} {σ : St} {T : TypeId} {size : Nat} : ∀ {ps : List (Nat × Operand)} {k : Nat}, (SK P σ T size ps k).1 -> NA P σ T size ps k (SK P σ T size ps k).2
 | [], _, _ => rfl
 | (_, x) :: _, _, h => by
  obtain ⟨⟨h1, h2, h3, h4, h5, h6⟩, h7⟩ := h
  obtain ⟨r, hr⟩ := Option.isSome_iff_exists.1 h5
  refine ⟨h1, h2, h3, h4, r, _, hr, ?_, Es h7, ?_⟩
  ·rw [hr] at h6; exact h6
  ·simp only [SK, hr, Option.getD_some]
def S0 (σ : St) (x : V) (size : Nat) : Prop × List (List D) × St :=
 match x with
 | .one (.nil _) => (True, [], σ)
 | .one (.sref t j lo len) => (match σ.ob t j with | .arr false s lB => (s = size /\ lo = 0 /\ len = lB.length, lB, σ.Zu t j .none) | _ => (False, [], σ))
 | _ => (False, [], σ)
theorem uu {x : V} (h : (S0 σ x size).1) : SV σ x size (S0 σ x size).2.1 (S0 σ x size).2.2 := by
 unfold S0 at h ⊢
 split at h
 ·exact ⟨rfl, rfl⟩
 ·rename_i t j lo len
  split at h
  ·rename_i s lB ho
   obtain ⟨rfl, rfl, rfl⟩ := h
   exact ⟨lB, ho, rfl, Nat.le_refl _, (List.take_length).symm, rfl⟩
  ·exact h.elim
 ·exact h.elim
def Nl (σ : St) (x : V) (size : Nat) : Prop × List (List D) :=
 match x with
 | .one (.d (.sl s rows)) => (s = size, rows)
 | .one (.nil _) => (True, [])
 | .one (.sref t j lo len) => (match σ.ob t j with | .arr false s rows => (s = size /\ lo + len <= rows.length, cut rows lo len) | _ => (False, []))
 | _ => (False, [])
theorem tM {x : V} (h : (Nl σ x size).1) : WS σ x size (Nl σ x size).2 := by
 unfold Nl at h ⊢
 split at h
 ·exact ⟨h, rfl⟩
 ·rfl
 ·rename_i t j lo len
  split at h
  ·rename_i s rows ho
   obtain ⟨rfl, hle⟩ := h
   exact ⟨rows, ho, hle, rfl⟩
  ·exact h.elim
 ·exact h.elim
def evS (P : Program) (σ : St) (o : Oper) (d : Nat) : Prop × St :=
 match o.op with
 | .alloc T => (match Wa P 12 T with | some row => (σ.fresh d = true /\ Qc P T = true, σ.new d (.one (.bptr d 0)) [.box row]) | none => (False, σ))
 | .box T x => (σ.fresh d = true /\ gOf (look P σ T x) = true /\ (unc (look P σ T x)).flat = true /\ YW d (unc (look P σ T x)).cells = false, σ.new d (.one (.bptr d 0)) [.box (unc (look P σ T x)).cells])
 | .buildSlice T n parts => ((σ.fresh d = true /\ XZ P T = true /\ Qc P (ZR P T) = true /\ 0 < P.cellsOf (ZR P T) /\ parts.toList.length = n /\ n * P.cellsOf (ZR P T) <= 16777216) /\ (SK P σ (ZR P T) (P.cellsOf (ZR P T)) parts.toList 0).1,
   σ.new d (.one (.sref d 0 0 (SK P σ (ZR P T) (P.cellsOf (ZR P T)) parts.toList 0).2.length)) [.arr false (P.cellsOf (ZR P T)) (SK P σ (ZR P T) (P.cellsOf (ZR P T)) parts.toList 0).2])
 | .makeSlice T x y => (match Wa P 12 (ZR P T) with
   | some z => (match zD z with
    | some zr => ((x = y /\ σ.fresh d = true /\ XZ P T = true /\ Qc P (ZR P T) = true /\ 0 < P.cellsOf (ZR P T) /\ (lkI P σ x).1) /\ 0 <= (lkI P σ x).2 /\ P.bytesOf (ZR P T) * (lkI P σ x).2.toNat <= 281474976710656 /\ (lkI P σ x).2 <= 9223372036854775807,
      σ.new d (.one (.sref d 0 0 (lkI P σ x).2.toNat)) [.arr false (P.cellsOf (ZR P T)) (List.replicate (lkI P σ x).2.toNat zr)])
    | none => (False, σ))
   | none => (False, σ))
 | .call ⟨.builtin .append, ⟨[x, y]⟩, ⟨[t, t']⟩⟩ =>
   (((t = t' /\ gOf (look P σ t x) = true /\ gOf (look P σ t y) = true /\ XZ P t = true /\ Qc P (ZR P t) = true /\ 0 < P.cellsOf (ZR P t)) /\ (S0 σ (unc (look P σ t x)) (P.cellsOf (ZR P t))).1 /\ (Nl σ (unc (look P σ t y)) (P.cellsOf (ZR P t))).1 /\ (S0 σ (unc (look P σ t x)) (P.cellsOf (ZR P t))).2.2.fresh d = true) /\
    ((S0 σ (unc (look P σ t x)) (P.cellsOf (ZR P t))).2.1.length + (Nl σ (unc (look P σ t y)) (P.cellsOf (ZR P t))).2.length) * P.bytesOf (ZR P t) <= 140737488355328 /\
    (S0 σ (unc (look P σ t x)) (P.cellsOf (ZR P t))).2.1.length + (Nl σ (unc (look P σ t y)) (P.cellsOf (ZR P t))).2.length <= 9223372036854775807,
   (S0 σ (unc (look P σ t x)) (P.cellsOf (ZR P t))).2.2.new d (.one (.sref d 0 0 ((S0 σ (unc (look P σ t x)) (P.cellsOf (ZR P t))).2.1.length + (Nl σ (unc (look P σ t y)) (P.cellsOf (ZR P t))).2.length)))
    [.arr false (P.cellsOf (ZR P t)) ((S0 σ (unc (look P σ t x)) (P.cellsOf (ZR P t))).2.1 ++ (Nl σ (unc (look P σ t y)) (P.cellsOf (ZR P t))).2)])
 | op => ((evV P σ op o.type).1, σ.put d (evV P σ op o.type).2)
def B8 (P : Program) (σ : St) (T : TypeId) (x y : Operand) : Prop × St :=
 match unc (look P σ 0 x) with
 | .one (.bptr t c) => (match σ.ob t 0 with
  | .box cells => (qT P T = true /\ gOf (look P σ 0 x) = true /\ gOf (look P σ T y) = true /\ (unc (look P σ T y)).flat = true /\ (unc (look P σ T y)).cells.length = P.cellsOf T /\ c + P.cellsOf T <= cells.length, σ.Zu t 0 (.box (place cells c (unc (look P σ T y)).cells)))
  | _ => (False, σ))
 | .one (.ptr t j i c) => (match σ.ob t j with
  | .arr q size rows => ((qT P T = true /\ gOf (look P σ 0 x) = true /\ gOf (look P σ T y) = true /\ (unc (look P σ T y)).flat = true /\ (rowOf σ (unc (look P σ T y)).cells).isSome = true /\ zb (unc (look P σ T y)).cells = true /\ ((rowOf σ (unc (look P σ T y)).cells).getD []).length = P.cellsOf T /\ c + P.cellsOf T <= size) /\ i < rows.length /\ (q = true -> ((rowOf σ (unc (look P σ T y)).cells).getD []).all D.scalar = true /\ (cut (rowAt rows i) c (P.cellsOf T)).all D.scalar = true),
    σ.Zu t j (.arr q size (rows.set i (place (rowAt rows i) c ((rowOf σ (unc (look P σ T y)).cells).getD [])))))
  | _ => (False, σ))
 | _ => (False, σ)
theorem tb (eu : ∀ c, o.op = .call c -> ∀ f, c.callee ≠ .value (.func f)) (hc : (evS P σ o d).1) : Step P o d σ (evS P σ o d).2 := by
 unfold evS at hc ⊢
 split at hc
 ·rename_i T my
  unfold Step
  rw [my]
  split at hc
  ·rename_i row lv; simp only [lv]; exact ⟨hc.1, hc.2, row, rfl, rfl⟩
  ·exact hc.elim
 ·rename_i T x my
  unfold Step; rw [my]
  exact ⟨hc.1, hc.2.1, hc.2.2.1, hc.2.2.2, rfl⟩
 ·rename_i T n parts my
  unfold Step; rw [my]
  obtain ⟨⟨h1, h2, h3, h4, h5, h6⟩, h7⟩ := hc
  exact .inl ⟨h1, h2, h3, h4, h5, h6, .inl ⟨_, Es h7, rfl⟩⟩
 ·rename_i T x y my
  unfold Step; rw [my]
  split at hc
  ·rename_i z hz
   split at hc
   ·rename_i zr gx
    obtain ⟨⟨h1, h2, h3, h4, h5, h6⟩, h7, h8, h9⟩ := hc
    have hl := Wv h6
    simp only [hz]
    refine ⟨h1, h2, h3, h4, h5, false, z, zr, lkK P σ x, (lkI P σ x).2.toNat, (fun hh => by cases hh), rfl, gx, ?_, h8, zAA, rfl⟩
    rw [Int.toNat_of_nonneg h7]; exact hl
   ·exact hc.elim
  ·exact hc.elim
 ·rename_i x y t t' my
  unfold Step; rw [my]
  obtain ⟨⟨⟨rfl, h1, h2, h3, h4, h5⟩, h6, h7, h8⟩, h9, ev⟩ := hc
  exact ⟨x, y, t, rfl, rfl, h1, h2, h3, h4, h5, _, _, _, uu h6, tM h7, h8, h9, ev, rfl⟩
 ·rename_i op h1 h2 h3 h4 h5
  have hv := AS hc
  unfold Step
  split
  ·rename_i T my; exact absurd my (h1 T)
  ·rename_i T x my; exact absurd my (h2 T x)
  ·rename_i T n ps my; exact absurd my (h3 T n ps)
  ·rename_i T x y my; exact absurd my (h4 T x y)
  ·rename_i c my
   split
   ·rename_i fa
    rw [my] at hv
    simp only [Ya] at hv
    split at hv
    ·rename_i dC _ _; rw [fa] at dC; cases dC
    ·rename_i dC _; rw [fa] at dC; cases dC
    ·rename_i dC _; rw [fa] at dC; cases dC
    ·exact hv.elim
   ·rename_i f fa; exact absurd fa (eu c my f)
   ·exact ⟨_, hv, rfl⟩
  ·exact .inl ⟨_, hv, rfl⟩
  ·exact ⟨_, hv, rfl⟩
theorem r6 {T : TypeId} (hc : (B8 P σ T x y).1) : qK P σ T x y (B8 P σ T x y).2 := by
 unfold B8 at hc ⊢
 unfold qK
 split at hc
 ·rename_i t c hx
  split at hc
  ·rename_i cells ho
   obtain ⟨h1, h2, h3, h4, h5, h6⟩ := hc
   first | (rw [hx]; simp only [ho]) | simp only [ho]
   exact ⟨h1, h2, h3, h4, cells, rfl, h5, h6, rfl⟩
  ·exact hc.elim
 ·rename_i t j i c hx
  split at hc
  ·rename_i q size rows ho
   obtain ⟨⟨h1, h2, h3, h4, h5, h6, h7, h8⟩, h9, ev⟩ := hc
   obtain ⟨ds, dQ⟩ := Option.isSome_iff_exists.1 h5
   first | (rw [hx]; simp only [ho]) | simp only [ho]
   refine ⟨h1, h2, h3, h4, q, size, rows, ds, rfl, h9, dQ, h6, ?_, h8, fun hq => ?_, ?_⟩
   ·rw [dQ] at h7; exact h7
   ·have := ev hq
    rw [dQ] at this; exact this
   ·rw [dQ]; rfl
  ·exact hc.elim
 ·exact hc.elim
def Ay : List At -> Bool
 | [] => false
 | .nil _ :: _ => true
 | _ :: xs => Ay xs
def wu (P : Program) (T : TypeId) : Bool := match Wa P 12 (ZR P T) with | some z => Ay z | none => false
def CP : List At -> Bool
 | [] => true
 | .d (.sl _ _) :: _ => false
 | .d _ :: xs => CP xs
 | _ => false
def p8 (P : Program) (σ : St) (T : TypeId) (x y : Operand) : Bool :=
 match unc (look P σ 0 x) with
 | .one (.ptr t j _ _) => (match σ.ob t j with | .arr true _ _ => !CP (unc (look P σ T y)).cells | _ => false)
 | .one (.tref _ _ _ _ (some _)) => true
 | _ => false
def stops (P : Program) (bar : Oper -> Bool) (o : Oper) : Bool :=
 match o.op with
 | .call ⟨.value _, _, _⟩ => true
 | .call ⟨.builtin .append, _, ⟨t :: _⟩⟩ => wu P t
 | .buildSlice T _ _ => wu P T || o7 bar o
 | .makeSlice T _ _ => wu P T
 | .makeFunc _ _ _ => true
 | .convert _ T _ => (AV P T).isNone
 | .indexAddr _ _ _ => o.guard.isSome
 | .index _ _ _ => o.guard.isSome
 | .slice _ _ _ _ _ => o.guard.isSome
 | _ => false
def js (P : Program) (ops : Array Oper) (bar : Oper -> Bool) (o : Oper) (rest : List Oper) (σ : St) (Q : St -> Prop) : Prop := ∃ σ', zU P ops bar o σ σ' /\ DZ P ops bar rest σ' Q
def Ev (P : Program) (ops : Array Oper) (bar : Oper -> Bool) : List Oper -> St -> (St -> Prop) -> Prop
 | [], σ, Q => Q σ
 | o :: rest, σ, Q =>
  if stops P bar o then js P ops bar o rest σ Q else
  match o.guard with
  | none =>
   (match o.dst with
   | some d => (evS P σ o d).1 /\ Ev P ops bar rest (evS P σ o d).2 Q
   | none => (match o.op with | .store T x y => if p8 P σ T x y then js P ops bar o rest σ Q else (B8 P σ T x y).1 /\ Ev P ops bar rest (B8 P σ T x y).2 Q | _ => False))
  | some (j, want) =>
   (match (ops[j]?).bind (·.dst), o.dst with
   | some dj, some d => (match jB want (σ.get dj) with
    | some g => (dj < σ.length /\ (g = true -> (evV P σ o.op o.type).1 /\ gOf (evV P σ o.op o.type).2 = true /\ (unc (evV P σ o.op o.type).2).flat = true)) /\ Ev P ops bar rest (σ.put d (.cnd g (unc (evV P σ o.op o.type).2))) Q
    | none => False)
   | _, _ => False)
theorem Jh {P : Program} {ops : Array Oper} {bar : Oper -> Bool} : ∀ {l : List Oper} {σ : St} {Q : St -> Prop}, Ev P ops bar l σ Q -> DZ P ops bar l σ Q
 | [], _, _, h => h
 | o :: rest, σ, Q, h => by
  unfold Ev at h
  split at h
  ·exact h
  ·rename_i ld
   have eu : ∀ c, o.op = .call c -> ∀ f, c.callee ≠ .value (.func f) := by
    intro c my f fa
    obtain ⟨cc, ca, ct⟩ := c
    simp only at fa; subst fa
    exact ld (by simp [stops, my])
   split at h
   ·rename_i hg
    split at h
    ·rename_i d hd
     refine ⟨_, .inl ?_, Jh h.2⟩
     unfold Xe
     simp only [hg, hd]
     exact tb eu h.1
    ·rename_i hd
     split at h
     ·rename_i T x y my
      split at h
      ·exact h
      ·refine ⟨_, .inl ?_, Jh h.2⟩
       unfold Xe
       simp only [hg, hd, my]
       exact r6 h.1
     ·exact h.elim
   ·rename_i j want hg
    split at h
    ·rename_i dj d gE hd
     split at h
     ·rename_i g gN
      refine ⟨_, .inl ?_, Jh h.2⟩
      unfold Xe
      simp only [hg]
      refine ⟨dj, d, g, _, gE, h.1.1, hd, gN, fun dg => ?_, rfl⟩
      obtain ⟨h1, h2, h3⟩ := h.1.2 dg
      have base : ∃ v0, Ya P σ o.op o.type v0 /\ gOf v0 = true /\ unc (evV P σ o.op o.type).2 = unc v0 /\ (unc (evV P σ o.op o.type).2).flat = true := ⟨_, AS h1, h2, rfl, h3⟩
      unfold MO
      split
      ·rename_i c my
       split
       ·rename_i f fa; exact absurd fa (eu c my f)
       ·exact base
      ·exact base
     ·exact h.elim
    ·exact h.elim
theorem p9 {Q : Exit -> St -> Prop} {l : List Oper} (h : Ev P l.toArray bar l σ (Q .normal)) : AWP P (.region id l.toArray false) Q σ := Aj (Jh h)
theorem BW {Q : St -> Prop} {c : Call} {own : Bool} (my : o.op = .call c) (hc : c.callee = .value (.func f)) (hg : o.guard = none) (hd : o.dst = some d)
  (lF : Qz P σ c.args.toList c.argTypes.toList rows) (hs : JH P f own rows res) (ld : Yd P σ c.args.toList c.argTypes.toList = true \/ Kf own res) (h : Ev P ops bar rest (σ.put d (qo res)) Q) : js P ops bar o rest σ Q := by
 refine ⟨_, .inl ?_, Jh h⟩
 unfold Xe; simp only [hg, hd]
 unfold Step
 rw [my]
 simp only [hc]
 exact .inl ⟨own, res, ⟨rows, lF, hs, ld⟩, rfl⟩
theorem CD {Q : St -> Prop} {c : Call} (my : o.op = .call c) (hc : c.callee = .value (.func f)) (hg : o.guard = none) (hd : o.dst = some d)
  (lF : Qz P σ c.args.toList c.argTypes.toList rows) (hs : JH P f true rows res) (ld : Yd P σ c.args.toList c.argTypes.toList = true \/ Kf true res) (hf : σ.fresh d = true) (h : Ev P ops bar rest (σ.new d (jv d res) (xm res.flatten)) Q) : js P ops bar o rest σ Q := by
 refine ⟨_, .inl ?_, Jh h⟩
 unfold Xe; simp only [hg, hd]
 unfold Step
 rw [my]
 simp only [hc]
 exact .inr (.inl ⟨res, ⟨rows, lF, hs, ld⟩, hf, rfl⟩)
theorem wK {Q : St -> Prop} {c : Call} {own : Bool} {res : List D} (my : o.op = .call c) (hc : c.callee = .value (.func f)) (hg : o.guard = some (j, want)) (hd : o.dst = some d)
  (gE : (ops[j]?).bind (·.dst) = some dj) (lH : dj < σ.length) (gN : jB want (σ.get dj) = some g)
  (lF : g = true -> Qz P σ c.args.toList c.argTypes.toList rows) (hs : g = true -> JH P f own rows [res]) (ld : Yd P σ c.args.toList c.argTypes.toList = true \/ Kf own [res]) (h : Ev P ops bar rest (σ.put d (.cnd g (qo [res]))) Q) : js P ops bar o rest σ Q := by
 refine ⟨_, .inl ?_, Jh h⟩
 unfold Xe; simp only [hg]
 refine ⟨dj, d, g, _, gE, lH, hd, gN, fun dg => ?_, rfl⟩
 unfold MO
 rw [my]
 simp only [hc]
 exact ⟨own, res, ⟨rows, lF dg, hs dg, ld⟩, rfl⟩
theorem D4 {Q : St -> Prop} {S T : TypeId} {s : ByteArray} (my : o.op = .convert S T x) (hg : o.guard = none) (hd : o.dst = some d)
  (h1 : gOf (look P σ S x) = true) (h2 : SB P S = true) (h3 : Np P T = true) (h4 : unc (look P σ S x) = .one (.d (.str s))) (h5 : s.size <= 9223372036854775807) (h : Ev P ops bar rest (σ.put d (.one (.d (.sl 1 (zy s.data.toList))))) Q) : js P ops bar o rest σ Q := by
 refine ⟨_, .inl ?_, Jh h⟩
 unfold Xe; simp only [hg, hd]
 unfold Step
 rw [my]
 exact .inr (.inr ⟨s, h1, h2, h3, h4, h5, rfl⟩)
theorem rn {Q : St -> Prop} (eu : ∀ c, o.op = .call c -> ∀ f, c.callee ≠ .value (.func f)) (hg : o.guard = none) (hd : o.dst = some d)
  (h1 : (evS P σ o d).1) (h : Ev P ops bar rest (evS P σ o d).2 Q) : js P ops bar o rest σ Q := by
 refine ⟨_, .inl ?_, Jh h⟩
 unfold Xe; simp only [hg, hd]
 exact tb eu h1
theorem Au {Q : St -> Prop} {c : Call} (qs : List Bool) (my : o.op = .call c) (hc : c.callee = .value (.func f)) (hg : o.guard = none) (hd : o.dst = some d)
  (lF : Qz P σ c.args.toList c.argTypes.toList rows) (hs : YV P f rows res) (hq : xT qs res.flatten) (hf : σ.fresh d = true) (h : Ev P ops bar rest (σ.new d (jv d res) (YR qs res.flatten)) Q) : js P ops bar o rest σ Q := by
 refine ⟨_, .inl ?_, Jh h⟩
 unfold Xe; simp only [hg, hd]
 unfold Step
 rw [my]
 simp only [hc]
 exact .inr (.inr ⟨rows, res, qs, lF, hs, hq, hf, rfl⟩)
def zW (P : Program) (σ : St) (T : TypeId) (size : Nat) : List (Nat × Operand) -> Nat -> Prop × List (List At)
 | [], _ => (True, [])
 | (i, x) :: ps, k => ((i = k /\ gOf (look P σ T x) = true /\ (unc (look P σ T x)).flat = true /\ (unc (look P σ T x)).cells.length = size) /\ (zW P σ T size ps (k + 1)).1, (unc (look P σ T x)).cells :: (zW P σ T size ps (k + 1)).2)
theorem Gk {P : Program} {σ : St} {T : TypeId} {size : Nat} : ∀ {ps : List (Nat × Operand)} {k : Nat}, (zW P σ T size ps k).1 -> N3 P σ T size ps k (zW P σ T size ps k).2
 | [], _, _ => rfl
 | (_, x) :: _, _, h => by
  obtain ⟨⟨h1, h2, h3, h4⟩, h7⟩ := h
  exact ⟨h1, h2, h3, h4, _, Gk h7, rfl⟩
theorem tB {Q : St -> Prop} {T : TypeId} (my : o.op = .buildSlice T n parts) (hg : o.guard = none) (hd : o.dst = some d)
  (h1 : σ.fresh d = true /\ XZ P T = true /\ Qc P (ZR P T) = true /\ 0 < P.cellsOf (ZR P T) /\ parts.toList.length = n /\ n * P.cellsOf (ZR P T) <= 16777216) (h2 : (zW P σ (ZR P T) (P.cellsOf (ZR P T)) parts.toList 0).1)
  (h3 : YW d (zW P σ (ZR P T) (P.cellsOf (ZR P T)) parts.toList 0).2.flatten = false)
  (h : Ev P ops bar rest (σ.new d (.one (.sref d 0 0 (zW P σ (ZR P T) (P.cellsOf (ZR P T)) parts.toList 0).2.length)) [.lit (P.cellsOf (ZR P T)) (zW P σ (ZR P T) (P.cellsOf (ZR P T)) parts.toList 0).2]) Q) : js P ops bar o rest σ Q := by
 refine ⟨_, .inl ?_, Jh h⟩
 unfold Xe; simp only [hg, hd]
 unfold Step
 rw [my]
 exact .inl ⟨h1.1, h1.2.1, h1.2.2.1, h1.2.2.2.1, h1.2.2.2.2.1, h1.2.2.2.2.2, .inr ⟨_, Gk h2, h3, rfl⟩⟩
def Vz (σ : St) (x : V) (size : Nat) : Prop × List (List D) × List (Nat × Nat) :=
 match x with
 | .one (.nil _) => (True, [], [])
 | .one (.sref t j lo len) => (match σ.ob t j with | .arr true s lB => (s = size /\ lo = 0 /\ len = lB.length, lB, [(t, j)]) | _ => (False, [], []))
 | _ => (False, [], [])
theorem vw {x : V} (h : (Vz σ x size).1) : vz σ x size (Vz σ x size).2.1 (Vz σ x size).2.2 := by
 unfold Vz at h ⊢
 split at h
 ·exact ⟨rfl, rfl⟩
 ·rename_i t j lo len
  split at h
  ·rename_i s lB ho
   obtain ⟨rfl, rfl, rfl⟩ := h
   exact ⟨ho, rfl, rfl, rfl⟩
  ·exact h.elim
 ·exact h.elim
def Vy (σ : St) (x : V) (size : Nat) : Prop × List (List D) × List (Nat × Nat) :=
 match x with
 | .one (.sref t j lo len) => (match σ.ob t j with | .lit s rows => ((s = size /\ lo = 0 /\ len = rows.length) /\ (Ku σ rows).isSome = true /\ KV σ rows, (Ku σ rows).getD [], XH rows.flatten) | _ => (False, [], []))
 | _ => (False, [], [])
theorem vQ {x : V} (h : (Vy σ x size).1) : v3 σ x size (Vy σ x size).2.1 (Vy σ x size).2.2 := by
 unfold Vy at h ⊢
 split at h
 ·rename_i t j lo len
  split at h
  ·rename_i s rows ho
   obtain ⟨⟨rfl, rfl, rfl⟩, h1, h2⟩ := h
   obtain ⟨ns, eu⟩ := Option.isSome_iff_exists.1 h1
   exact ⟨rows, ho, rfl, rfl, by rw [eu]; rfl, h2, rfl⟩
  ·exact h.elim
 ·exact h.elim
theorem kK : ∀ (σ : St) (d : Nat) (v : V) (t : Nat), (σ.put d v)[t]? = if t = d then (σ[t]?).map (fun e => (v, e.2)) else σ[t]?
 | [], _, _, _ => by simp [St.put]
 | e :: σ, 0, v, t => by cases t <;> simp [St.put]
 | e :: σ, d + 1, v, t => by
  cases t with
  | zero => simp [St.put]
  | succ t => have := kK σ d v t; simpa [St.put] using this
theorem xN : ∀ (σ : St) (d : Nat) (v : V) (os : List Ob) (t : Nat), (σ.new d v os)[t]? = if t = d then (σ[t]?).map (fun _ => (v, os)) else σ[t]?
 | [], _, _, _, _ => by simp [St.new]
 | e :: σ, 0, v, os, t => by cases t <;> simp [St.new]
 | e :: σ, d + 1, v, os, t => by
  cases t with
  | zero => simp [St.new]
  | succ t => have := xN σ d v os t; simpa [St.new] using this
theorem JO : ∀ (σ : St) (a j : Nat) (o : Ob) (t : Nat), (σ.Zu a j o)[t]? = if t = a then (σ[t]?).map (fun e => (e.1, e.2.set j o)) else σ[t]?
 | [], _, _, _, _ => by simp [St.Zu]
 | e :: σ, 0, j, o, t => by cases t <;> simp [St.Zu]
 | e :: σ, a + 1, j, o, t => by
  cases t with
  | zero => simp [St.Zu]
  | succ t => have := JO σ a j o t; simpa [St.Zu] using this
theorem qd : Xi σ d = true ↔ σ[d]? = some (.any, []) \/ ∃ x, σ[d]? = some (.one (.d x), []) := by
 unfold Xi
 constructor
 ·intro h
  split at h
  ·rename_i h1; exact .inl h1
  ·rename_i x h1; exact .inr ⟨x, h1⟩
  ·cases h
 ·rintro (h | ⟨x, h⟩) <;> rw [h]
theorem Ql {a : Nat} {o : Ob} (h : Xi σ d = true) : Xi (σ.Zu a j o) d = true := by
 rw [qd] at *
 rw [JO]
 rcases h with h | ⟨x, h⟩
 ·left; rw [h]; split <;> rfl
 ·right; refine ⟨x, ?_⟩; rw [h]; split <;> rfl
theorem JR : ∀ {l : List (Nat × Nat)} {σ : St} {d : Nat}, Xi σ d = true -> Xi (σ.Zz l) d = true
 | [], _, _, h => h
 | p :: l, σ, d, h => by rw [St.Zz]; exact JR (l := l) (Ql h)
theorem WH (lA : d ≠ d') (h : Xi σ d = true) : Xi (σ.new d' v os) d = true := by
 unfold Xi at *; simp only [xN, if_neg lA]; exact h
theorem Xg {T : TypeId} (h : xU d x = false) : look P (σ.put d v) T x = look P σ T x := by
 cases x with
 | tmp t =>
  have lA : t ≠ d := fun e => by subst e; simp [xU] at h
  simp [look, St.zg, lA]
 | const c => rfl
 | global g => rfl
 | func f => rfl
theorem xh : ∀ (σ : St) (d : Nat) (v : V) (t j : Nat) (o : Ob), (σ.put d v).Zu t j o = (σ.Zu t j o).put d v
 | [], _, _, _, _, _ => rfl
 | e :: σ, 0, v, 0, j, o => rfl
 | e :: σ, d + 1, v, 0, j, o => rfl
 | e :: σ, 0, v, t + 1, j, o => rfl
 | e :: σ, d + 1, v, t + 1, j, o => by simp [St.put, St.Zu, xh σ d v t j o]
theorem U9 {d : Nat} {v : V} : ∀ (l : List (Nat × Nat)) (σ : St), (σ.put d v).Zz l = (σ.Zz l).put d v
 | [], _ => rfl
 | p :: l, σ => by rw [St.Zz, St.Zz, xh, U9 l]
theorem LC {σ : St} {d : Nat} {v : V} : ∀ (xs : List At), J5 (σ.put d v) xs = J5 σ xs
 | [] => rfl
 | x :: xs => by
  have : mvD (σ.put d v) x = mvD σ x := by cases x <;> simp [mvD, St.JX]
  simp only [J5, this, LC xs]
theorem Rr {σ : St} {d : Nat} {v : V} : ∀ (xs : List At), Qe (σ.put d v) xs = Qe σ xs
 | [] => rfl
 | x :: xs => by
  have : ED (σ.put d v) x = ED σ x := by cases x <;> simp [ED, St.JX]
  simp only [Qe, this, Rr xs]
theorem Pd : ∀ (l : List (Nat × V)) (σ : St), (σ.Ja l).ob = σ.ob
 | [], _ => rfl
 | p :: l, σ => by rw [St.Ja, Pd l, St.JX]
theorem ko {P : Program} {T : TypeId} {x : Operand} : ∀ (l : List (Nat × V)) (σ : St), (∀ p ∈ l, xU p.1 x = false) -> look P (σ.Ja l) T x = look P σ T x
 | [], _, _ => rfl
 | p :: l, σ, h => by rw [St.Ja, ko l _ (fun q hq => h q (by simp [hq])), Xg (h p zAF)]
theorem jb {t j : Nat} {o : Ob} : ∀ (l : List (Nat × V)) (σ : St), (σ.Ja l).Zu t j o = (σ.Zu t j o).Ja l
 | [], _ => rfl
 | p :: l, σ => by rw [St.Ja, jb l, xh, St.Ja]
theorem y6 {L : List (Nat × Nat)} : ∀ (l : List (Nat × V)) (σ : St), (σ.Ja l).Zz L = (σ.Zz L).Ja l
 | [], _ => rfl
 | p :: l, σ => by rw [St.Ja, y6 l, U9, St.Ja]
theorem vI : ∀ {σ : St} {t d : Nat} {v v' : V} {os : List Ob}, t ≠ d -> (σ.put t v').new d v os = (σ.new d v os).put t v'
 | [], _, _, _, _, _, _ => rfl
 | e :: σ, 0, 0, _, _, _, h => absurd rfl h
 | e :: σ, 0, d + 1, _, _, _, _ => rfl
 | e :: σ, t + 1, 0, _, _, _, _ => rfl
 | e :: σ, t + 1, d + 1, v, v', os, h => by simp [St.put, St.new, vI (σ := σ) (v := v) (v' := v') (os := os) (fun hh => h (congrArg (· + 1) hh))]
theorem B3 {d : Nat} {v : V} {os : List Ob} : ∀ (l : List (Nat × V)) (σ : St), (∀ p ∈ l, p.1 ≠ d) -> (σ.Ja l).new d v os = (σ.new d v os).Ja l
 | [], _, _ => rfl
 | p :: l, σ, h => by rw [St.Ja, B3 l _ (fun q hq => h q (by simp [hq])), vI (h p zAF), St.Ja]
theorem OK {d : Nat} {v : V} (hv : v.ref d = false) : ∀ {σ : St} {k t : Nat}, ym d k σ = true -> ym d k (σ.put t v) = true
 | [], _, _, h => h
 | e :: σ, k, 0, h => by
  simp only [ym, St.put, Bool.and_eq_true, Bool.or_eq_true, Bool.not_eq_true'] at h ⊢
  exact ⟨h.1.imp id (fun hh => ⟨hv, hh.2⟩), h.2⟩
 | e :: σ, k, t + 1, h => by
  simp only [ym, St.put, Bool.and_eq_true] at h ⊢
  exact ⟨h.1, OK hv h.2⟩
theorem SR {d : Nat} : ∀ (l : List (Nat × V)) {σ : St}, (∀ p ∈ l, p.2.ref d = false) -> σ.fresh d = true -> (σ.Ja l).fresh d = true
 | [], _, _, h => h
 | p :: l, σ, hl, h => by
  refine SR l (fun q hq => hl q (by simp [hq])) ?_
  simp only [St.fresh, Bool.and_eq_true, decide_eq_true_eq, St.JV] at h ⊢
  exact ⟨h.1, OK (hl p zAF) h.2⟩
theorem Vg {t : TypeId} (my : o.op = .call ⟨.builtin .append, #[x, y], #[t, t]⟩) (h : P8 o n = true) : xU n x = false /\ xU n y = false := by
 have hx : x ∈ o.op.operands.toList := by rw [my]; simp [Op.operands, Call.operands]
 have hy : y ∈ o.op.operands.toList := by rw [my]; simp [Op.operands, Call.operands]
 simp only [P8, Bool.not_eq_true'] at h
 exact ⟨Bool.eq_false_iff.2 (List.any_eq_false.1 h x hx), Bool.eq_false_iff.2 (List.any_eq_false.1 h y hy)⟩
theorem BF {σ σ' : St} (h : σ'.ob = σ.ob) : ∀ (xs : List At), J5 σ' xs = J5 σ xs
 | [] => rfl
 | x :: xs => by
  have : mvD σ' x = mvD σ x := by cases x <;> simp [mvD, h]
  simp only [J5, this, BF h xs]
theorem Hn {σ σ' : St} (h : σ'.ob = σ.ob) : ∀ (xs : List At), Qe σ' xs = Qe σ xs
 | [] => rfl
 | x :: xs => by
  have : ED σ' x = ED σ x := by cases x <;> simp [ED, h]
  simp only [Qe, this, Hn h xs]
theorem EV {σ σ' : St} (h : σ'.ob = σ.ob) : ∀ (xs : List (List At)), Ku σ' xs = Ku σ xs
 | [] => rfl
 | x :: xs => by simp only [Ku, BF h, EV h xs]
theorem Lp {σ σ' : St} (h : σ'.ob = σ.ob) : ∀ (xs : List (List At)), KV σ' xs = KV σ xs
 | [] => rfl
 | x :: xs => by simp only [KV, Hn h, Lp h xs]
theorem rq (h : σ'.ob = σ.ob) {x : V} (hd : vz σ x size lB l) : vz σ' x size lB l := by
 unfold vz at *; rw [h]; exact hd
theorem rE (h : σ'.ob = σ.ob) {x : V} (hd : v3 σ x size news l) : v3 σ' x size news l := by
 unfold v3 at *
 simp only [h, EV h, Lp h]; exact hd
theorem s8 (h : σ'.ob = σ.ob) {x : V} (hd : BV σ x size lB l) : BV σ' x size lB l := by
 unfold BV at *; rw [h]; exact hd
theorem Ei {d : Nat} : ∀ {os : List Ob} {j : Nat} {cells : List At}, Y6 d os = false -> Yj os j = .box cells -> YW d cells = false
 | [], j, cells, _, h => by simp [Yj] at h
 | o :: os, 0, cells, hr, h => by
  simp only [Yj, List.getElem?_cons_zero] at h
  subst h
  simp only [Y6, Bool.or_eq_false_iff] at hr; exact hr.1
 | o :: os, j + 1, cells, hr, h => by
  have h' : Yj os j = .box cells := zBu
  refine Ei (os := os) (j := j) ?_ h'
  cases o <;> simp only [Y6, Bool.or_eq_false_iff] at hr <;> first | exact hr.2 | exact hr
theorem He {X : St} (hd : o.dst = some d) (hlen : X.length = σ.length) (ic : ∀ t, X.get t = σ.get t) (gw : ∀ t j cells, X.ob t j = .box cells -> σ.ob t j = .box cells)
  (hO : ∀ t j q s rows, X.ob t j = .arr q s rows -> ∃ lM, σ.ob t j = .arr q s lM) (hf : X.fresh d = true)
  (hs : ∀ l : List (Nat × V), (∀ p ∈ l, p.1 ≠ d /\ P8 o p.1 = true /\ p.2.ref d = false) -> V1 P ops o (σ.Ja l) ((X.Ja l).new d v os)) (hc : ∀ l : List (Nat × V), Rg o (σ.Ja l) ((X.Ja l).new d v os)) : nB P ops o σ (X.new d v os) := by
 have lH := St.zO hf
 have hent : ∀ t e, X[t]? = some e -> t ≠ d -> e.1.ref d = false /\ Y6 d e.2 = false := fun t e he lA => by
  have h1 := hf
  simp only [St.fresh, Bool.and_eq_true] at h1
  exact xZ h1.2 t e he zAA
 refine ⟨d, hd, by rw [St.WB, hlen], fun t lA => ?_, fun t j cells lA hb => ?_, fun t j q s rows lA hb => ?_, fun l hl => ?_⟩
 ·rw [St.VL, if_neg (fun hh => lA hh.1), ic]
  refine ⟨rfl, ?_⟩
  rw [<- ic]
  unfold St.get
  cases he : X[t]? with
  | none => rfl
  | some e => exact (hent t e he lA).1
 ·rw [St.Jt, if_neg (fun hh => lA hh.1)] at hb
  refine ⟨gw t j cells hb, ?_⟩
  unfold St.ob at hb
  cases he : X[t]? with
  | none => rw [he] at hb; cases hb
  | some e => rw [he] at hb; exact Ei (hent t e he lA).2 hb
 ·rw [St.Jt, if_neg (fun hh => lA hh.1)] at hb
  exact hO t j q s rows hb
 ·have e := B3 (d := d) (v := v) (os := os) l X (fun p hp => (hl p hp).1)
  rw [<- e]
  exact ⟨hs l hl, hc l⟩
theorem H2 {cells : List At} (h : (σ.Zz L).ob t j = .box cells) : σ.ob t j = .box cells := by
 rw [St.Kn] at h
 split at h
 ·cases h
 ·exact h
theorem Hg {s : Nat} (h : (σ.Zz L).ob t j = .arr q s rows) : σ.ob t j = .arr q s rows := by
 rw [St.Kn] at h
 split at h
 ·cases h
 ·exact h
theorem uz {Q : St -> Prop} {t : TypeId} (my : o.op = .call ⟨.builtin .append, #[x, y], #[t, t]⟩) (hg : o.guard = none) (hd : o.dst = some d) (lz : bar o = true)
  (iZ : size = P.cellsOf (ZR P t)) (h1 : gOf (look P σ t x) = true /\ gOf (look P σ t y) = true /\ XZ P t = true /\ Qc P (ZR P t) = true /\ 0 < P.cellsOf (ZR P t))
  (h2 : (Vz σ (unc (look P σ t x)) size).1 /\ (Vz σ (unc (look P σ t x)) size).2 = (lB, l1)) (h3 : (Vy σ (unc (look P σ t y)) size).1 /\ (Vy σ (unc (look P σ t y)) size).2 = (news, l2))
  (h4 : (l1 ++ l2).Nodup /\ (σ.Zz (l1 ++ l2)).fresh d = true) (h5 : (lB.length + news.length) * P.bytesOf (ZR P t) <= 140737488355328 /\ lB.length + news.length <= 9223372036854775807)
  (h : Ev P ops bar rest ((σ.Zz (l1 ++ l2)).new d (.one (.sref d 0 0 (lB.length + news.length))) [.arr true size (lB ++ news)]) Q) : js P ops bar o rest σ Q := by
 subst iZ
 have e1 := vw h2.1
 have e2 := vQ h3.1
 rw [h2.2] at e1
 rw [h3.2] at e2
 have cl : ∀ σ0 : St, Rg o σ0 ((σ0.Zz (l1 ++ l2)).new d (.one (.sref d 0 0 (lB.length + news.length))) [.arr true (P.cellsOf (ZR P t)) (lB ++ news)]) := fun σ0 d' lL hc => WH (fun e => lL zBm) (JR hc)
 have go : ∀ l : List (Nat × V), (∀ p ∈ l, p.1 ≠ d /\ P8 o p.1 = true /\ p.2.ref d = false) -> V1 P ops o (σ.Ja l) (((σ.Ja l).Zz (l1 ++ l2)).new d (.one (.sref d 0 0 (lB.length + news.length))) [.arr true (P.cellsOf (ZR P t)) (lB ++ news)]) := by
  rintro l hl T0 B a w K Q' ⟨X, hh, r⟩ hK
  have hw : Region.wanted o (yielded ops a.tmps) = true := zBO
  rw [if_pos hw]
  have lx : look P (σ.Ja l) t x = look P σ t x := ko l σ (fun p hp => (Vg my (hl p hp).2.1).1)
  have ly : look P (σ.Ja l) t y = look P σ t y := ko l σ (fun p hp => (Vg my (hl p hp).2.1).2)
  refine F3 r my hd (by rw [lx]; exact h1.1) (by rw [ly]; exact h1.2.1) h1.2.2.1 h1.2.2.2.1 h1.2.2.2.2 (by rw [lx]; exact rq (Pd l σ) e1) (by rw [ly]; exact rE (Pd l σ) e2) h4.1 ?_ h5.1 h5.2 hK
  rw [y6]
  exact SR l (fun p hp => (hl p hp).2.2) h4.2
 have go0 : V1 P ops o σ ((σ.Zz (l1 ++ l2)).new d (.one (.sref d 0 0 (lB.length + news.length))) [.arr true (P.cellsOf (ZR P t)) (lB ++ news)]) := go [] (fun p hp => by cases hp)
 refine ⟨_, .inr ⟨lz, go0, cl σ, fun hh => by simp [Vr, my] at hh, fun _ => He hd (St.KS _ _) (fun t => St.yr _ _ t) (fun t j cells hb => H2 hb) (fun t j q s rows hb => ⟨rows, Hg hb⟩) h4.2 (fun l hl => ?_) (fun l => ?_), fun hh _ => by first | (simp [KY, my] at hh; done) | (unfold KY at hh; rw [my] at hh; split at hh <;> simp_all)⟩, Jh h⟩
 ·rw [<- y6]; exact go l hl
 ·rw [<- y6]; exact cl _
theorem uR (r : Rel T0 B σ a w X h) (hd : o.dst = some d) (hv : Ya P σ o.op o.type (.one (.sref u j 0 n))) (ho : σ.ob u j = .arr false size rows) (hle : n <= rows.length)
  (iJ : (σ.Zu u j .none).fresh d = true) (hK : ∀ a' w', Jz T0 B ((σ.Zu u j .none).new d (.one (.sref d 0 0 n)) [.arr false size (rows.take n)]) a' w' -> Y8 B w w' -> K a' w') : o.wp P a w K Q := by
 obtain ⟨val, lT, di⟩ := Wl r hv
 unfold Oper.wp
 rw [lT, Oper.upon_value, hd]
 have cV : YF (Tof T0 X) h σ.ob w (.sref u j 0 n) val := di
 obtain ⟨_, _, gO, _⟩ := cV.2.1 _ _ _ ho
 have he : val = N9 (h u j).v n := gO rfl
 have h0 := r.obj u j
 rw [ho] at h0
 obtain ⟨e, xs, lE, hP, lC⟩ := h0
 have lS : σ.ob u j ≠ .none := zAr
 have cM : (rows.take n).length = n := zA0
 have hE : (rows.take n).flatten = rows.flatten.take (n * size) := Ks rows size hP n hle
 have iY : w.ownsRow 0 e size val (rows.take n).length (xs.take (n * size)) := by rw [he, cM]; exact j7 lE hle
 have lH := St.zO iJ
 have iT : ((σ.Zu u j .none).new d (.one (.sref d 0 0 n)) [.arr false size (rows.take n)]).ob d 0 = .arr false size (rows.take n) := zA2
 have lk : ∀ b, blk val = some b -> ¬ B b /\ ¬ X b /\ b < w.heap.size /\ ∀ u' j', (σ.Zu u j .none).ob u' j' ≠ .none -> ¬ (h u' j').u b := by
  intro b hb
  rw [he, VZ] at hb
  have cT := r.ub u j b lS hb
  have iK := r.own u j b lS cT
  refine ⟨iK.1, iK.2.1, iK.2.2, fun u' j' lA lP => ?_⟩
  have dD : σ.ob u' j' ≠ .none := by
   intro hh
   rw [St.Xo σ u j _ u' j' lS] at lA
   split at lA
   ·exact lA rfl
   ·exact lA hh
  have := r.inj u j u' j' b lS dD cT lP
  obtain ⟨rfl, rfl⟩ := this
  rw [St.Xo σ u j _ u j lS] at lA
  simp at lA
 refine hK _ _ ⟨X, fun t k => if t = d then Hd.of val else h t k, ?_⟩ (Y8.refl _ _)
 refine (r.drop u j).wI iJ (fun b => blk val = some b) (Nat.le_refl _) (fun _ _ _ => rfl) (fun b hb => ⟨(lk b hb).1, (lk b hb).2.1, fun t k _ lA => (lk b hb).2.2.2 t k lA⟩) (fun _ hb => hb) (fun _ hb => .inl hb) _ _ [.arr false size (rows.take n)] (fun _ => Hd.of val) ?_ (fun k => ?_) (fun k b _ hb => hb) (fun k b lA lP => ?_) (fun k k' b lA l8 _ _ => ?_)
 ·refine ⟨KD iY, fun q' lU lM hh => ?_, fun lU lM hh => by rw [iT] at hh; cases hh⟩
  rw [iT] at hh; cases hh
  simp only [if_true]
  have := VC iY
  rwa [cM] at this ⊢
 ·cases k with
  | zero => exact ⟨e, xs.take (n * size), iY, fun q hq => hP q (List.mem_of_mem_take hq), by rw [hE]; exact (lC.imp fun _ _ hh => hh).take _⟩
  | succ k => simp [Yj, J0]
 ·exact ⟨.inr lP, (lk b lP).2.1, (lk b lP).2.2.1⟩
 ·have : ∀ k, Yj [Ob.arr false size (rows.take n)] k ≠ .none -> k = 0 := by
   intro k hk
   cases k with
   | zero => rfl
   | succ k => simp [Yj] at hk
  rw [this k lA, this k' l8]
theorem uH (r : Rel T0 B σ a w X h) (hd : o.dst = some d) (hv : Ya P σ o.op o.type (.one (.sref u j 0 n))) (ho : σ.ob u j = .arr true size rows) (hle : n <= rows.length)
  (iJ : (σ.Zu u j .none).fresh d = true) (hK : ∀ a' w', Jz T0 B ((σ.Zu u j .none).new d (.one (.sref d 0 0 n)) [.arr true size (rows.take n)]) a' w' -> Y8 B w w' -> K a' w') : o.wp P a w K Q := by
 obtain ⟨val, lT, di⟩ := Wl r hv
 unfold Oper.wp
 rw [lT, Oper.upon_value, hd]
 have cV : YF (Tof T0 X) h σ.ob w (.sref u j 0 n) val := di
 obtain ⟨_, _, gO, _⟩ := cV.2.1 _ _ _ ho
 have he : val = N9 (h u j).v n := gO rfl
 have h0 := r.obj u j
 rw [ho] at h0
 obtain ⟨e, xs, lE, hP, lC, fz⟩ := h0
 have lS : σ.ob u j ≠ .none := zAr
 have cM : (rows.take n).length = n := zA0
 have hE : (rows.take n).flatten = rows.flatten.take (n * size) := Ks rows size hP n hle
 have iY : w.ownsRow 0 e size val (rows.take n).length (xs.take (n * size)) := by rw [he, cM]; exact j7 lE hle
 have lH := St.zO iJ
 have iT : ((σ.Zu u j .none).new d (.one (.sref d 0 0 n)) [.arr true size (rows.take n)]).ob d 0 = .arr true size (rows.take n) := zA2
 have lk : ∀ b, (h u j).u b -> ¬ B b /\ ¬ X b /\ b < w.heap.size /\ ∀ u' j', (σ.Zu u j .none).ob u' j' ≠ .none -> ¬ (h u' j').u b := by
  intro b cT
  have iK := r.own u j b lS cT
  refine ⟨iK.1, iK.2.1, iK.2.2, fun u' j' lA lP => ?_⟩
  have dD : σ.ob u' j' ≠ .none := by
   intro hh
   rw [St.Xo σ u j _ u' j' lS] at lA
   split at lA
   ·exact lA rfl
   ·exact lA hh
  have := r.inj u j u' j' b lS dD cT lP
  obtain ⟨rfl, rfl⟩ := this
  rw [St.Xo σ u j _ u j lS] at lA
  simp at lA
 refine hK _ _ ⟨X, fun t k => if t = d then ({ v := val, u := (h u j).u, n := (h u j).n } : Hd) else h t k, ?_⟩ (Y8.refl _ _)
 refine (r.drop u j).wI iJ (fun b => (h u j).u b) (Nat.le_refl _) (fun _ _ _ => rfl) (fun b hb => ⟨(lk b hb).1, (lk b hb).2.1, fun t k _ lA => (lk b hb).2.2.2 t k lA⟩) (fun _ hb => hb) (fun _ hb => .inl hb) _ _ [.arr true size (rows.take n)] (fun _ => ({ v := val, u := (h u j).u, n := (h u j).n } : Hd)) ?_ (fun k => ?_) (fun k b _ hb => r.ub u j b lS (by have hb : blk val = some b := hb; rw [he, VZ] at hb; exact hb)) (fun k b lA lP => ?_) (fun k k' b lA l8 _ _ => ?_)
 ·refine ⟨KD iY, fun q' lU lM hh => ?_, fun lU lM hh => by rw [iT] at hh; cases hh⟩
  rw [iT] at hh; cases hh
  simp only [if_true]
  have := VC iY
  rwa [cM] at this ⊢
 ·cases k with
  | zero =>
   have dk : xs.length = rows.length * size := by rw [lC.1, YM rows _ hP]
   have eH : n * size <= xs.length := by rw [dk]; exact Nat.mul_le_mul_right _ hle
   have hp := KT.pick lC (p := n * size) (q := n * size) (n := 0) (Nat.le_refl _) zAA
   simp only [cut, List.take_zero, List.append_nil] at hp
   refine ⟨e, xs.take (n * size), iY, fun q hq => hP q (List.mem_of_mem_take hq), ?_, fun k x dd hx gY ib => ?_⟩
   ·rw [hE]
    refine hp.mono (fun b hb => ⟨hb.1, ?_⟩)
    have l0 := hb.2
    intro hh
    have hh : blk val = some b := hh
    rw [he, VZ] at hh
    exact l0 hh
   ·rw [hE] at gY
    have hk : k < n * size := by have := (List.getElem?_eq_some_iff.1 hx).1; rw [List.length_take] at this; omega
    rw [List.getElem?_take, if_pos hk] at hx gY
    exact fz k x dd hx gY ib
  | succ k => simp [Yj, J0]
 ·exact ⟨.inr lP, (lk b lP).2.1, (lk b lP).2.2.1⟩
 ·have : ∀ k, Yj [Ob.arr true size (rows.take n)] k ≠ .none -> k = 0 := by
   intro k hk
   cases k with
   | zero => rfl
   | succ k => simp [Yj] at hk
  rw [this k lA, this k' l8]
theorem Rel.oZ (r : Rel T0 B σ a w X h) (hX : ∀ b, X b -> X' b) (dB : ∀ b, X' b -> X b \/ (¬ B b /\ b < w.heap.size /\ ∀ t j, σ.ob t j ≠ .none -> ¬ (h t j).u b)) : Rel T0 B σ a w X' h := by
 have hT : ∀ b k v, Tof T0 X b k -> w.cell? ⟨b, k, none⟩ = some v -> w.cell? ⟨b, k, none⟩ = some v /\ Tof T0 X' b k := fun b k v hb hc => ⟨hc, hb.imp id (hX b)⟩
 refine ⟨r.size, r.defers, r.hB, fun b hb => ?_, r.hT, fun t ht => JP.mono hT (r.slot t ht), fun t j => ?_, r.ub, fun t j b ho hb => ?_, r.inj⟩
 ·rcases dB b hb with hb | hb
  ·exact r.hX b hb
  ·exact ⟨hb.1, hb.2.1⟩
 ·have h0 := r.obj t j
  cases ho : σ.ob t j with
  | none => trivial
  | box cells => rw [ho] at h0; obtain ⟨b, cs, e, hv, hh, lC⟩ := h0; exact ⟨b, cs, e, hv, hh, lC.imp fun _ _ => YF.mono hT⟩
  | arr q size rows =>
   rw [ho] at h0
   cases q with
   | false => obtain ⟨e, xs, gf, hz, lC⟩ := h0; exact ⟨e, xs, gf, hz, lC.imp fun _ _ => Rd.mono hT⟩
   | true => exact h0
  | lit size rows => rw [ho] at h0; obtain ⟨e, xs, gf, hz, lC⟩ := h0; exact ⟨e, xs, gf, hz, lC.imp fun _ _ => YF.mono hT⟩
 ·have := r.own t j b ho hb
  refine ⟨this.1, fun hx => ?_, this.2.2⟩
  rcases dB b hx with hx | hx
  ·exact this.2.1 hx
  ·exact hx.2.2 t j ho hb
theorem vc (r : Rel T0 B σ a w X h) (hd : o.dst = some d) (hv : Ya P σ o.op o.type (.one (.sref u j 0 n))) (ho : σ.ob u j = .arr true size rows) (hle : n <= rows.length)
  (iJ : (σ.Zu u j .none).fresh d = true) (hK : ∀ a' w', Jz T0 B ((σ.Zu u j .none).new d (.one (.sref d 0 0 n)) [.arr false size (rows.take n)]) a' w' -> Y8 B w w' -> K a' w') : o.wp P a w K Q := by
 obtain ⟨val, lT, di⟩ := Wl r hv
 unfold Oper.wp
 rw [lT, Oper.upon_value, hd]
 have cV : YF (Tof T0 X) h σ.ob w (.sref u j 0 n) val := di
 obtain ⟨_, _, gO, _⟩ := cV.2.1 _ _ _ ho
 have he : val = N9 (h u j).v n := gO rfl
 have h0 := r.obj u j
 rw [ho] at h0
 obtain ⟨e, xs, lE, hP, lC, fz⟩ := h0
 have lS : σ.ob u j ≠ .none := zAr
 have cM : (rows.take n).length = n := zA0
 have hE : (rows.take n).flatten = rows.flatten.take (n * size) := Ks rows size hP n hle
 have iY : w.ownsRow 0 e size val (rows.take n).length (xs.take (n * size)) := by rw [he, cM]; exact j7 lE hle
 have lH := St.zO iJ
 have iT : ((σ.Zu u j .none).new d (.one (.sref d 0 0 n)) [.arr false size (rows.take n)]).ob d 0 = .arr false size (rows.take n) := zA2
 have lk : ∀ b, (h u j).u b -> ¬ B b /\ ¬ X b /\ b < w.heap.size /\ ∀ u' j', (σ.Zu u j .none).ob u' j' ≠ .none -> ¬ (h u' j').u b := by
  intro b cT
  have iK := r.own u j b lS cT
  refine ⟨iK.1, iK.2.1, iK.2.2, fun u' j' lA lP => ?_⟩
  have dD : σ.ob u' j' ≠ .none := by
   intro hh
   rw [St.Xo σ u j _ u' j' lS] at lA
   split at lA
   ·exact lA rfl
   ·exact lA hh
  have := r.inj u j u' j' b lS dD cT lP
  obtain ⟨rfl, rfl⟩ := this
  rw [St.Xo σ u j _ u j lS] at lA
  simp at lA
 have aR : ∀ b, blk val = some b -> (h u j).u b /\ blk (h u j).v = some b := fun b hb => by rw [he, VZ] at hb; exact ⟨r.ub u j b lS hb, hb⟩
 have r1 := (r.drop u j).oZ (X' := fun b => X b \/ ((h u j).u b /\ blk (h u j).v ≠ some b)) (fun b hb => .inl hb) (fun b hb => hb.imp id (fun hh => ⟨(lk b hh.1).1, (lk b hh.1).2.2.1, (lk b hh.1).2.2.2⟩))
 refine hK _ _ ⟨fun b => X b \/ ((h u j).u b /\ blk (h u j).v ≠ some b), fun t k => if t = d then Hd.of val else h t k, ?_⟩ (Y8.refl _ _)
 refine r1.wI iJ (fun b => blk val = some b) (Nat.le_refl _) (fun _ _ _ => rfl) (fun b hb => ⟨(lk b (aR b hb).1).1, ?_, fun t k _ lA => (lk b (aR b hb).1).2.2.2 t k lA⟩) (fun _ hb => hb) (fun _ hb => .inl hb) _ _ [.arr false size (rows.take n)] (fun _ => Hd.of val) ?_ (fun k => ?_) (fun k b _ hb => hb) (fun k b lA lP => ?_) (fun k k' b lA l8 _ _ => ?_)
 ·rintro (hx | hx)
  ·exact (lk b (aR b hb).1).2.1 hx
  ·exact hx.2 (aR b hb).2
 ·refine ⟨KD iY, fun q' lU lM hh => ?_, fun lU lM hh => by rw [iT] at hh; cases hh⟩
  rw [iT] at hh; cases hh
  simp only [if_true]
  have := VC iY
  rwa [cM] at this ⊢
 ·cases k with
  | zero =>
   refine ⟨e, xs.take (n * size), iY, fun q hq => hP q (List.mem_of_mem_take hq), ?_⟩
   rw [hE]
   exact (lC.rd (T := Tof T0 (fun b => X b \/ ((h u j).u b /\ blk (h u j).v ≠ some b))) (fun b k hb => .inr (.inr hb))).take _
  | succ k => simp [Yj, J0]
 ·refine ⟨.inr lP, ?_, (lk b (aR b lP).1).2.2.1⟩
  rintro (hx | hx)
  ·exact (lk b (aR b lP).1).2.1 hx
  ·exact hx.2 (aR b lP).2
 ·have : ∀ k, Yj [Ob.arr false size (rows.take n)] k ≠ .none -> k = 0 := by
   intro k hk
   cases k with
   | zero => rfl
   | succ k => simp [Yj] at hk
  rw [this k lA, this k' l8]
theorem tW {Q : St -> Prop} {t : TypeId} {len lo : Nat} (my : o.op = .call ⟨.builtin .append, #[x, y], #[t, t]⟩) (hg : o.guard = none) (hd : o.dst = some d) (lz : bar o = true)
  (iZ : size = P.cellsOf (ZR P t)) (h1 : gOf (look P σ t x) = true /\ gOf (look P σ t y) = true /\ XZ P t = true /\ Qc P (ZR P t) = true /\ 0 < P.cellsOf (ZR P t))
  (h2 : unc (look P σ t x) = .one (.sref u j 0 len)) (h3 : unc (look P σ t y) = .one (.sref u j lo n)) (ho : σ.ob u j = .arr true size rows) (hle : len <= lo) (eH : lo + n <= rows.length)
  (hU : cut rows lo n = news) (h4 : (σ.Zu u j .none).fresh d = true) (h5 : (len + n) * P.bytesOf (ZR P t) <= 140737488355328 /\ len + n <= 9223372036854775807)
  (h : Ev P ops bar rest ((σ.Zu u j .none).new d (.one (.sref d 0 0 ((rows.take len).length + news.length))) [.arr true size (rows.take len ++ news)]) Q) : js P ops bar o rest σ Q := by
 subst iZ
 subst hU
 rw [XQ _ _ _ eH, List.length_take, Nat.min_eq_left zAA] at h
 have cl : ∀ σ0 : St, Rg o σ0 ((σ0.Zu u j .none).new d (.one (.sref d 0 0 (len + n))) [.arr true (P.cellsOf (ZR P t)) (rows.take len ++ cut rows lo n)]) := fun σ0 d' lL hc => WH (fun e => lL zBm) (Ql hc)
 have go : ∀ l : List (Nat × V), (∀ p ∈ l, p.1 ≠ d /\ P8 o p.1 = true /\ p.2.ref d = false) -> V1 P ops o (σ.Ja l) (((σ.Ja l).Zu u j .none).new d (.one (.sref d 0 0 (len + n))) [.arr true (P.cellsOf (ZR P t)) (rows.take len ++ cut rows lo n)]) := by
  rintro l hl T0 B a w K Q' ⟨X, hh, r⟩ hK
  have hw : Region.wanted o (yielded ops a.tmps) = true := zBO
  rw [if_pos hw]
  have lx : look P (σ.Ja l) t x = look P σ t x := ko l σ (fun p hp => (Vg my (hl p hp).2.1).1)
  have ly : look P (σ.Ja l) t y = look P σ t y := ko l σ (fun p hp => (Vg my (hl p hp).2.1).2)
  refine EF r my hd (by rw [lx]; exact h1.1) (by rw [ly]; exact h1.2.1) h1.2.2.1 h1.2.2.2.1 h1.2.2.2.2 (by rw [lx]; exact h2) (by rw [ly]; exact h3) (by rw [Pd]; exact ho) hle eH ?_ h5.1 h5.2 hK
  show ((σ.Ja l).Zu u j .none).fresh d = true
  rw [jb]
  exact SR l (fun p hp => (hl p hp).2.2) h4
 have go0 : V1 P ops o σ ((σ.Zu u j .none).new d (.one (.sref d 0 0 (len + n))) [.arr true (P.cellsOf (ZR P t)) (rows.take len ++ cut rows lo n)]) := go [] (fun p hp => by cases hp)
 refine ⟨_, .inr ⟨lz, go0, cl σ, fun hh => by simp [Vr, my] at hh, fun _ => He hd (St.XW _ _ _ _) (fun t => St.QI _ _ _ _ t) (fun t i cells hb => H2 (L := [(u, j)]) hb) (fun t i q s rows hb => ⟨rows, Hg (L := [(u, j)]) hb⟩) h4 (fun l hl => ?_) (fun l => ?_), fun hh _ => by first | (simp [KY, my] at hh; done) | (unfold KY at hh; rw [my] at hh; split at hh <;> simp_all)⟩, Jh h⟩
 ·rw [<- jb]; exact go l hl
 ·rw [<- jb]; exact cl _
theorem u5 {Q : St -> Prop} {t : TypeId} {lo : Nat} (my : o.op = .call ⟨.builtin .append, #[x, y], #[t, t]⟩) (hg : o.guard = none) (hd : o.dst = some d) (lz : bar o = true)
  (iZ : size = P.cellsOf (ZR P t)) (h1 : gOf (look P σ t x) = true /\ gOf (look P σ t y) = true /\ XZ P t = true /\ Qc P (ZR P t) = true /\ 0 < P.cellsOf (ZR P t))
  (h2 : BV σ (unc (look P σ t x)) size lB l1) (h3 : unc (look P σ t y) = .one (.sref u j lo n)) (ho : σ.ob u j = .arr true size rows) (bV : (u, j) ∉ l1) (hle : lo + n <= rows.length) (hU : cut rows lo n = news)
  (h4 : ((σ.Zu u j (.arr true size (Jw rows lo n))).Zz l1).fresh d = true) (h5 : (lB.length + n) * P.bytesOf (ZR P t) <= 140737488355328 /\ lB.length + n <= 9223372036854775807)
  (h : Ev P ops bar rest (((σ.Zu u j (.arr true size (Jw rows lo n))).Zz l1).new d (.one (.sref d 0 0 (lB.length + news.length))) [.arr true size (lB ++ news)]) Q) : js P ops bar o rest σ Q := by
 subst iZ
 subst hU
 rw [XQ _ _ _ hle] at h
 have cl : ∀ σ0 : St, Rg o σ0 (((σ0.Zu u j (.arr true (P.cellsOf (ZR P t)) (Jw rows lo n))).Zz l1).new d (.one (.sref d 0 0 (lB.length + n))) [.arr true (P.cellsOf (ZR P t)) (lB ++ cut rows lo n)]) := fun σ0 d' lL hc => WH (fun e => lL zBm) (JR (Ql hc))
 have go : ∀ l : List (Nat × V), (∀ p ∈ l, p.1 ≠ d /\ P8 o p.1 = true /\ p.2.ref d = false) -> V1 P ops o (σ.Ja l) ((((σ.Ja l).Zu u j (.arr true (P.cellsOf (ZR P t)) (Jw rows lo n))).Zz l1).new d (.one (.sref d 0 0 (lB.length + n))) [.arr true (P.cellsOf (ZR P t)) (lB ++ cut rows lo n)]) := by
  rintro l hl T0 B a w K Q' ⟨X, hh, r⟩ hK
  have hw : Region.wanted o (yielded ops a.tmps) = true := zBO
  rw [if_pos hw]
  have lx : look P (σ.Ja l) t x = look P σ t x := ko l σ (fun p hp => (Vg my (hl p hp).2.1).1)
  have ly : look P (σ.Ja l) t y = look P σ t y := ko l σ (fun p hp => (Vg my (hl p hp).2.1).2)
  refine FP r my hd (by rw [lx]; exact h1.1) (by rw [ly]; exact h1.2.1) h1.2.2.1 h1.2.2.2.1 h1.2.2.2.2 (by rw [lx]; exact s8 (Pd l σ) h2) (by rw [ly]; exact h3) (by rw [Pd]; exact ho) hle bV ?_ h5.1 h5.2 hK
  rw [jb, y6]
  exact SR l (fun p hp => (hl p hp).2.2) h4
 have lS : σ.ob u j ≠ .none := zAr
 have go0 : V1 P ops o σ (((σ.Zu u j (.arr true (P.cellsOf (ZR P t)) (Jw rows lo n))).Zz l1).new d (.one (.sref d 0 0 (lB.length + n))) [.arr true (P.cellsOf (ZR P t)) (lB ++ cut rows lo n)]) := go [] (fun p hp => by cases hp)
 refine ⟨_, .inr ⟨lz, go0, cl σ, fun hh => by simp [Vr, my] at hh, fun _ => He hd (by rw [St.KS, St.XW]) (fun t => by rw [St.yr, St.QI]) (fun t i cells hb => ?_) (fun t i q s lM hb => ?_) h4 (fun l hl => ?_) (fun l => ?_), fun hh _ => by first | (simp [KY, my] at hh; done) | (unfold KY at hh; rw [my] at hh; split at hh <;> simp_all)⟩, Jh h⟩
 ·have hb := H2 hb
  rw [St.Xo σ u j _ t i lS] at hb
  split at hb
  ·cases hb
  ·exact hb
 ·have hb := Hg hb
  rw [St.Xo σ u j _ t i lS] at hb
  split at hb
  ·rename_i hc; cases hb; rw [hc.1, hc.2]; exact ⟨rows, ho⟩
  ·exact ⟨lM, hb⟩
 ·rw [<- y6, <- jb]; exact go l hl
 ·rw [<- y6, <- jb]; exact cl _
theorem Cp {f : At -> Bool} {v : V} (hv : v.yS f = false) : ∀ {σ : St} {d : Nat}, σ.yS f = false -> (σ.put d v).yS f = false
 | [], _, _ => rfl
 | e :: σ, 0, h => by simp only [St.yS, Bool.or_eq_false_iff] at h; simp [St.put, St.yS, hv, h.1.2, h.2]
 | e :: σ, d + 1, h => by simp only [St.yS, Bool.or_eq_false_iff] at h; simp [St.put, St.yS, h.1.1, h.1.2, Cp hv h.2]
theorem LW {σ : St} : ∀ {xs : List At} {ds : List D}, J5 σ xs = some ds -> ∀ p ∈ XH xs, ∃ q s rows, σ.ob p.1 p.2 = .arr q s rows
 | [], _, _, p, hp => by cases hp
 | x :: xs, ds, h, p, hp => by
  simp only [J5] at h
  split at h
  ·rename_i d dh h1 h2
   have ih := LW h2
   cases x with
   | sref t j lo len =>
    simp only [XH, List.mem_cons] at hp
    rcases hp with rfl | hp
    ·simp only [mvD] at h1
     split at h1
     ·rename_i q s rows ho; exact ⟨q, s, rows, ho⟩
     ·cases h1
    ·exact ih p hp
   | _ => exact ih p hp
  ·cases h
theorem MM {t' lU : Nat} {q' : Bool} {lM : List (List D)} {cells : List At} {xs : List At} (hm : J5 σ xs = some ds) (hL : XH xs = L) (ho : σ.ob t j = .arr q size rows) (hn : (t, j) ∉ L) (hb : σ.ob t' 0 = .box cells) :
  ((σ.Zz L).Zu t j (.arr q' lU lM)).ob t' 0 = .box cells := by
 have h1 : (σ.Zz L).ob t j ≠ .none := by rw [St.Kn, if_neg hn, ho]; simp
 rw [St.Xo _ t j _ t' 0 h1]
 split
 ·rename_i hc; rw [hc.1, hc.2, ho] at hb; cases hb
 ·rw [St.Kn]
  split
  ·rename_i hc
   obtain ⟨q, s, rows, he⟩ := LW hm (t', 0) (by rw [hL]; exact hc)
   rw [he] at hb; cases hb
  ·exact hb
structure StM (P : Program) (σ : St) (T : TypeId) (x y : Operand) (t j i c size : Nat) (rows : List (List D)) (ds : List D) (l : List (Nat × Nat)) : Prop where
 hx : unc (look P σ 0 x) = .one (.ptr t j i c)
 ho : σ.ob t j = .arr true size rows
 hi : i < rows.length
 h1 : qT P T = true /\ gOf (look P σ 0 x) = true /\ gOf (look P σ T y) = true /\ (unc (look P σ T y)).flat = true
 h2 : J5 σ (unc (look P σ T y)).cells = some ds
 h3 : Qe σ (unc (look P σ T y)).cells
 h4 : XH (unc (look P σ T y)).cells = l
 h5 : l.Nodup /\ (t, j) ∉ l /\ (σ.Zz l).yS (At.isT t) = false
 h6 : ds.length = P.cellsOf T /\ c + P.cellsOf T <= size
theorem StM.Ja {P : Program} {o : Oper} {T : TypeId} {x y : Operand} (my : o.op = .store T x y) {t j i c size : Nat} {rows : List (List D)} {ds : List D} {l : List (Nat × Nat)} : ∀ (q : List (Nat × V)) {σ : St}, (∀ p ∈ q, VQ o p.1 = true /\ M6 p.2 = true) -> StM P σ T x y t j i c size rows ds l -> StM P (σ.Ja q) T x y t j i c size rows ds l
 | [], _, _, h => h
 | p :: q, σ, hq, h => by
  refine StM.Ja my q (fun p' cI => hq p' (by simp [cI])) ?_
  obtain ⟨hu, hp⟩ := hq p zAF
  simp only [VQ, my, Bool.and_eq_true, Bool.not_eq_true'] at hu
  have hv : p.2.yS (At.isT t) = false := by
   generalize p.2 = v at hp
   unfold M6 at hp
   split at hp <;> first | rfl | cases hp
  refine ⟨?_, ?_, h.hi, ?_, ?_, ?_, ?_, ⟨h.h5.1, h.h5.2.1, ?_⟩, h.h6⟩
  ·rw [Xg hu.1]; exact h.hx
  ·rw [St.JX]; exact h.ho
  ·rw [Xg hu.1, Xg hu.2]; exact h.h1
  ·rw [Xg hu.2, LC]; exact h.h2
  ·rw [Xg hu.2, Rr]; exact h.h3
  ·rw [Xg hu.2]; exact h.h4
  ·rw [U9]; exact Cp hv h.h5.2.2
theorem Nk {l : List (Nat × Nat)} {t j : Nat} {ob : Ob} : ∀ (q : List (Nat × V)) (σ : St), ((σ.Ja q).Zz l).Zu t j ob = ((σ.Zz l).Zu t j ob).Ja q
 | [], _ => rfl
 | p :: q, σ => by rw [St.Ja, St.Ja, Nk q, U9, xh]
theorem MP {T : TypeId} {c : Nat} (my : o.op = .store T x y) (hg : o.guard = none) (hd : o.dst = none) (h : StM P σ T x y t j i c size rows ds l) :
  V1 P ops o σ ((σ.Zz l).Zu t j (.arr true size (rows.set i (place (rowAt rows i) c ds)))) := by
 obtain ⟨hx, ho, hi, h1, h2, h3, h4, h5, h6⟩ := h
 subst h4
 rintro T0 B a w K Q' ⟨X, hh, r⟩ hK
 have hw : Region.wanted o (yielded ops a.tmps) = true := zBO
 rw [if_pos hw]
 exact IV r my hd h1.1 h1.2.1 h1.2.2.1 hx ho hi h1.2.2.2 h2 h3 h5.1 h5.2.1 h5.2.2 h6.1 h6.2 hK
theorem tZ {Q : St -> Prop} {T : TypeId} {c : Nat} (my : o.op = .store T x y) (hg : o.guard = none) (hd : o.dst = none) (lz : bar o = true)
  (hx : unc (look P σ 0 x) = .one (.ptr t j i c)) (ho : σ.ob t j = .arr true size rows) (hi : i < rows.length) (h1 : qT P T = true /\ gOf (look P σ 0 x) = true /\ gOf (look P σ T y) = true /\ (unc (look P σ T y)).flat = true)
  (h2 : J5 σ (unc (look P σ T y)).cells = some ds) (h3 : Qe σ (unc (look P σ T y)).cells) (h4 : XH (unc (look P σ T y)).cells = l) (h5 : l.Nodup /\ (t, j) ∉ l /\ (σ.Zz l).yS (At.isT t) = false) (h6 : ds.length = P.cellsOf T /\ c + P.cellsOf T <= size)
  (h : Ev P ops bar rest ((σ.Zz l).Zu t j (.arr true size (rows.set i (place (rowAt rows i) c ds)))) Q) : js P ops bar o rest σ Q := by
 have hm : StM P σ T x y t j i c size rows ds l := ⟨hx, ho, hi, h1, h2, h3, h4, h5, h6⟩
 refine ⟨_, .inr ⟨lz, MP my hg hd hm, fun d' _ hc => Ql (JR hc), fun _ => ⟨⟨by rw [St.XW, St.KS], fun u => by rw [St.QI, St.yr]⟩, fun q hq => ?_, fun t' cells hb => ?_⟩, fun hh => by simp [kc, my] at hh, fun hh _ => by simp [KY, my] at hh⟩, Jh h⟩
 ·rw [<- Nk]
  exact ⟨MP my hg hd (hm.Ja my q hq), fun d' _ hc => Ql (JR hc)⟩
 ·exact MM hm.h2 hm.h4 hm.ho hm.h5.2.1 hb
theorem E8 {T : TypeId} (my : o.op = .store T x y) (hg : o.guard = none) (hd : o.dst = none) (hZ : ds.length = size) (h : StM P σ T x y t j i 0 size rows ds l) :
  V1 P ops o σ ((σ.Zz l).Zu t j (.arr true size (rows.set i ds))) := by
 rintro T0 B a w K Q' ⟨X, hh, r⟩ hK
 refine MP my hg hd h T0 B a w K Q' ⟨X, hh, r⟩ ?_
 have h0 := r.obj t j
 rw [h.ho] at h0
 obtain ⟨_, _, _, hz, _⟩ := h0
 have e : place (rowAt rows i) 0 ds = ds := by
  have hr : (rowAt rows i).length = size := by
   have : rowAt rows i = rows[i]'h.hi := by simp [rowAt, List.getD_eq_getElem?_getD, List.getElem?_eq_getElem h.hi]
   rw [this]; exact hz _ (List.getElem_mem h.hi)
  unfold place
  rw [List.take_zero, List.nil_append, List.drop_eq_nil_of_le zAA, List.append_nil]
 rw [e]; exact hK
theorem tg {Q : St -> Prop} {T : TypeId} (my : o.op = .store T x y) (hg : o.guard = none) (hd : o.dst = none) (lz : bar o = true)
  (hx : unc (look P σ 0 x) = .one (.ptr t j i 0)) (ho : σ.ob t j = .arr true size rows) (hi : i < rows.length) (h1 : qT P T = true /\ gOf (look P σ 0 x) = true /\ gOf (look P σ T y) = true /\ (unc (look P σ T y)).flat = true)
  (h2 : J5 σ (unc (look P σ T y)).cells = some ds) (h3 : Qe σ (unc (look P σ T y)).cells) (h4 : XH (unc (look P σ T y)).cells = l) (h5 : l.Nodup /\ (t, j) ∉ l /\ (σ.Zz l).yS (At.isT t) = false) (h6 : ds.length = P.cellsOf T /\ P.cellsOf T = size)
  (h : Ev P ops bar rest ((σ.Zz l).Zu t j (.arr true size (rows.set i ds))) Q) : js P ops bar o rest σ Q := by
 have hm : StM P σ T x y t j i 0 size rows ds l := ⟨hx, ho, hi, h1, h2, h3, h4, h5, h6.1, zAA⟩
 have hf : ds.length = size := zAA
 refine ⟨_, .inr ⟨lz, E8 my hg hd hf hm, fun d' _ hc => Ql (JR hc), fun _ => ⟨⟨by rw [St.XW, St.KS], fun u => by rw [St.QI, St.yr]⟩, fun q hq => ?_, fun t' cells hb => ?_⟩, fun hh => by simp [kc, my] at hh, fun hh _ => by simp [KY, my] at hh⟩, Jh h⟩
 ·rw [<- Nk]
  exact ⟨E8 my hg hd hf (hm.Ja my q hq), fun d' _ hc => Ql (JR hc)⟩
 ·exact MM hm.h2 hm.h4 hm.ho hm.h5.2.1 hb
structure StN (P : Program) (σ : St) (T : TypeId) (x y : Operand) (t j i c k q n size : Nat) (s rows : List (List D)) (ds : List D) (l : List (Nat × Nat)) : Prop where
 hx : unc (look P σ 0 x) = .one (.tref t j i c (some (k * n + q)))
 ho : σ.ob t j = .arr true size rows
 hi : i < rows.length
 hc : (rows.getD i [])[c]? = some (.sl n s)
 hk : k < s.length
 h1 : qT P T = true /\ gOf (look P σ 0 x) = true /\ gOf (look P σ T y) = true /\ (unc (look P σ T y)).flat = true
 h2 : J5 σ (unc (look P σ T y)).cells = some ds
 h3 : Qe σ (unc (look P σ T y)).cells
 h4 : XH (unc (look P σ T y)).cells = l
 h5 : l.Nodup /\ (t, j) ∉ l
 h6 : ds.length = P.cellsOf T /\ q + P.cellsOf T <= n
theorem StN.Ja {P : Program} {o : Oper} {T : TypeId} {x y : Operand} (my : o.op = .store T x y) {t j i c k n0 n size : Nat} {s rows : List (List D)} {ds : List D} {l : List (Nat × Nat)} : ∀ (q : List (Nat × V)) {σ : St}, (∀ p ∈ q, VQ o p.1 = true /\ M6 p.2 = true) -> StN P σ T x y t j i c k n0 n size s rows ds l -> StN P (σ.Ja q) T x y t j i c k n0 n size s rows ds l
 | [], _, _, h => h
 | p :: q, σ, hq, h => by
  refine StN.Ja my q (fun p' cI => hq p' (by simp [cI])) ?_
  obtain ⟨hu, hp⟩ := hq p zAF
  simp only [VQ, my, Bool.and_eq_true, Bool.not_eq_true'] at hu
  refine ⟨?_, ?_, h.hi, h.hc, h.hk, ?_, ?_, ?_, ?_, h.h5, h.h6⟩
  ·rw [Xg hu.1]; exact h.hx
  ·rw [St.JX]; exact h.ho
  ·rw [Xg hu.1, Xg hu.2]; exact h.h1
  ·rw [Xg hu.2, LC]; exact h.h2
  ·rw [Xg hu.2, Rr]; exact h.h3
  ·rw [Xg hu.2]; exact h.h4
theorem DD {T : TypeId} {c q : Nat} (my : o.op = .store T x y) (hg : o.guard = none) (hd : o.dst = none) (h : StN P σ T x y t j i c k q n size s rows ds l) :
  V1 P ops o σ ((σ.Zz l).Zu t j (.arr true size (rows.set i (place (rowAt rows i) c [.sl n (s.set k (place (rowAt s k) q ds))])))) := by
 obtain ⟨hx, ho, hi, hc, hk, h1, h2, h3, h4, h5, h6⟩ := h
 subst h4
 rintro T0 B a w K Q' ⟨X, hh, r⟩ hK
 have hw : Region.wanted o (yielded ops a.tmps) = true := zBO
 rw [if_pos hw]
 exact Ib r my hd h1.1 h1.2.1 h1.2.2.1 hx ho hi hc hk h1.2.2.2 h2 h3 h5.1 h5.2 h6.1 h6.2 hK
theorem tj {Q : St -> Prop} {T : TypeId} {c q : Nat} (my : o.op = .store T x y) (hg : o.guard = none) (hd : o.dst = none) (lz : bar o = true)
  (hm : StN P σ T x y t j i c k q n size s rows ds l)
  (h : Ev P ops bar rest ((σ.Zz l).Zu t j (.arr true size (rows.set i (place (rowAt rows i) c [.sl n (s.set k (place (rowAt s k) q ds))])))) Q) : js P ops bar o rest σ Q := by
 refine ⟨_, .inr ⟨lz, DD my hg hd hm, fun d' _ hc => Ql (JR hc), fun _ => ⟨⟨by rw [St.XW, St.KS], fun u => by rw [St.QI, St.yr]⟩, fun q hq => ?_, fun t' cells hb => ?_⟩, fun hh => by simp [kc, my] at hh, fun hh _ => by simp [KY, my] at hh⟩, Jh h⟩
 ·rw [<- Nk]
  exact ⟨DD my hg hd (hm.Ja my q hq), fun d' _ hc => Ql (JR hc)⟩
 ·exact MM hm.h2 hm.h4 hm.ho hm.h5.2 hb
open Go.RowKit
def Ol (P : Program) (σ : St) : ResultVar -> Prop × List At
 | .tmp t => (match σ.get t with
  | .one x => (t < σ.length, [x])
  | .agg [] => (t < σ.length, [])
  | .agg (x :: y :: xs) => (t < σ.length, x :: y :: xs)
  | _ => (False, []))
 | .cell t T => (match σ.get t with
  | .one (.bptr u c) => (match σ.ob u 0 with
    | .box cells => (qT P T = true /\ TM P T = true /\ P.cellsOf T ≠ 1 /\ c + P.cellsOf T <= cells.length, cut cells c (P.cellsOf T))
    | _ => (False, []))
  | _ => (False, []))
def KC (P : Program) (σ : St) : List ResultVar -> Prop × List (List At)
 | [] => (True, [])
 | r :: rs => ((Ol P σ r).1 /\ (KC P σ rs).1, (Ol P σ r).2 :: (KC P σ rs).2)
theorem v9 (h : (Ol P σ r).1) : Gz P σ r (Ol P σ r).2 := by
 cases r with
 | tmp t =>
  simp only [Ol] at h ⊢
  simp only [Gz]
  cases hx : σ.get t with
  | one x => rw [hx] at h; exact ⟨rfl, h⟩
  | agg xs =>
   rw [hx] at h
   match xs, h with
   | [], h => exact ⟨rfl, h⟩
   | [x], h => exact h.elim
   | x :: y :: xs, h => exact ⟨rfl, h⟩
  | any => rw [hx] at h; exact h.elim
  | tup xs => rw [hx] at h; exact h.elim
  | cnd g x => rw [hx] at h; exact h.elim
  | fix u x => rw [hx] at h; exact h.elim
 | cell t T =>
  simp only [Ol] at h ⊢
  split at h
  ·rename_i u c hx
   split at h
   ·rename_i cells ho
    exact ⟨u, c, cells, hx, ho, h.1, h.2.1, h.2.2.1, h.2.2.2, rfl⟩
   ·exact h.elim
  ·exact h.elim
theorem Ty {P : Program} {σ : St} : ∀ {rs : List ResultVar}, (KC P σ rs).1 -> Se P σ rs (KC P σ rs).2
 | [], _ => rfl
 | _ :: _, h => ⟨_, _, v9 h.1, Ty h.2, rfl⟩
theorem pb (hf : fn.results = rv.toArray) (h : (KC P σ rv).1 /\ km σ (KC P σ rv).2 = some res) : Cy P fn false res .ret σ :=
 ⟨.inl rfl, _, by rw [hf]; exact Ty h.1, by simpa using h.2⟩
theorem pq (hf : fn.results = rv.toArray) (h : (KC P σ rv).1 /\ Ui σ (KC P σ rv).2 = some res /\ (XH (KC P σ rv).2.flatten).Nodup) : Cy P fn true res .ret σ :=
 ⟨.inl rfl, _, by rw [hf]; exact Ty h.1, by simpa using h.2⟩
theorem ID (hf : fn.results = rv.toArray) (h : (KC P σ rv).1 /\ Ku σ (KC P σ rv).2 = some res /\ KV σ (KC P σ rv).2 /\ (XH (KC P σ rv).2.flatten).Nodup) : vx P fn res .ret σ :=
 ⟨.inl rfl, _, by rw [hf]; exact Ty h.1, h.2⟩
attribute [simp] BV Ku J5 mvD KV Qe ED YR xT zW Vz Vy St.Zz Ay wu CP p8 W9 SC Ed St.yS V.yS V.B1 DJ TZ xE At.isT
attribute [simp] isB bOf Ev stops o7 OJ evS B8 evV ER AX R7 RS yu T5 SK S0 Nl lkI lkK Vm.look cst unc gOf jB V.flat V.cells St.put St.Zu St.new St.sD St.tQ St.rQ St.rT DF WJ sM
 Ha RB ldV cut place rowOf yP zb At.Dm Qz V.zT Yd qo jv EU vOf K1 xm KC Ol km Ui ownRow kR XH kJ Oq YW At.ref D.scalar Kf D.CW zD sn Q7
open Go.RowKit
theorem DS {row : List D} (ho : KT w cs row S) : ∃ (hf : Nat -> Hd) (Sk : Nat -> Nat -> Prop), (∀ j c, cs[j]? = some c -> (hf j).v = c) /\ (∀ k b, Sk k b -> S b) /\ (∀ i j b, Sk i b -> Sk j b -> i = j) /\
  ∀ j size rows, row[j]? = some (.sl size rows) -> (∀ b, (hf j).u b -> Sk j b) /\ (∀ b, blk (hf j).v = some b -> (hf j).u b) /\ ∀ T h ob, J0 T h ob w (hf j) (.arr true size rows) := by
 obtain ⟨hl, Sk, h1, h2, h3⟩ := ho
 have hex : ∀ j, ∃ hd : Hd, (∀ c, cs[j]? = some c -> hd.v = c) /\ (∀ size rows, row[j]? = some (.sl size rows) -> (∀ b, hd.u b -> Sk j b) /\ (∀ b, blk hd.v = some b -> hd.u b) /\ ∀ T h ob, J0 T h ob w hd (.arr true size rows)) := by
  intro j
  cases hj : row[j]? with
  | none => exact ⟨Hd.of ((cs[j]?).getD undef), fun c l7 => by simp [Hd.of, l7], fun size rows hh => by cases hh⟩
  | some dd =>
   have dE : j < cs.length := by rw [hl]; exact (List.getElem?_eq_some_iff.1 hj).1
   have dm : cs[j]? = some cs[j] := List.getElem?_eq_getElem dE
   cases dd with
   | int k n => exact ⟨Hd.of cs[j], fun c l7 => by rw [dm] at l7; cases l7; rfl, fun size rows hh => by cases hh⟩
   | bool k => exact ⟨Hd.of cs[j], fun c l7 => by rw [dm] at l7; cases l7; rfl, fun size rows hh => by cases hh⟩
   | str k => exact ⟨Hd.of cs[j], fun c l7 => by rw [dm] at l7; cases l7; rfl, fun size rows hh => by cases hh⟩
   | unk => exact ⟨Hd.of cs[j], fun c l7 => by rw [dm] at l7; cases l7; rfl, fun size rows hh => by cases hh⟩
   | sl size rows =>
    have ho := h1 j _ _ dm hj
    generalize hv : cs[j] = v at ho
    cases ho with
    | sl v size rows S e xs bM ho hz hb hl hk bX lL =>
     refine ⟨⟨v, fun k => (xs[k]?).getD undef, Sk j⟩, fun c l7 => by rw [dm, hv] at l7; cases l7; rfl, fun lU lM hh => ?_⟩
     cases hh
     exact ⟨fun b hb => hb, hb, fun T h ob => ⟨e, xs, ho, hz, ⟨hl, bM, hk, fun k b hb => bX k b hb, lL⟩, fun k x d hx _ _ => by simp [hx]⟩⟩
 obtain ⟨hf, cJ⟩ := Classical.axiomOfChoice hex
 exact ⟨hf, Sk, fun j => (cJ j).1, h2, h3, fun j => (cJ j).2⟩
theorem KT.top {row : List D} (ho : KT w cs row S) : Z9 (WM T w) cs row := by
 obtain ⟨hl, Sk, h1, h2, h3⟩ := ho
 refine Z9.xk hl (fun k x d hx hd => ?_)
 have ho := h1 k x d hx hd
 cases ho with
 | int k n => exact Rd.int _ _
 | bool b => exact Rd.bool _
 | str s => exact Rd.str _
 | unk v h => exact Rd.unk _ h
 | sl v size rows S e xs bM ho hz hb hl hk bX lL => exact ⟨e, xs, ho⟩
def nI (n : Nat) (v : Value) (row : List D) (args : List (List D)) : St := (.fix v (vOf (K1 0 0 row)), YR [] row) :: (Oq args ++ List.replicate (n - (args.length + 1)) (V.any, []))
def St.pw : St -> List At -> List D -> St
 | σ, .sref t j _ _ :: xs, .sl size rows :: ds => St.pw (σ.Zu t j (.arr true size rows)) xs ds
 | σ, _ :: xs, _ :: ds => St.pw σ xs ds
 | σ, _, _ => σ
def De : List D -> List D -> Prop
 | .sl s r :: ds, .sl s' r' :: dh => s = s' /\ r.length = r'.length /\ De ds dh
 | .sl _ _ :: _, _ => False
 | _ :: ds, _ :: dh => De ds dh
 | [], [] => True
 | _, _ => False
def AT (σ : St) : List At -> Prop
 | [] => True
 | .sref t j _ _ :: xs => (match σ.ob t j with | .arr true _ _ => True | _ => False) /\ AT σ xs
 | _ :: xs => AT σ xs
def At.nh : At -> Bool
 | .tref _ _ _ _ _ => true
 | _ => false
theorem PN : ∀ {xs : List At} {t j : Nat}, (t, j) ∈ XH xs -> ∃ (k lo len : Nat), xs[k]? = some (At.sref t j lo len)
 | [], t, j, h => zA6
 | x :: xs, t, j, h => by
  cases x with
  | sref t' j' lo len =>
   simp only [XH, List.mem_cons, Prod.mk.injEq] at h
   rcases h with ⟨rfl, rfl⟩ | h
   ·exact ⟨0, lo, len, rfl⟩
   ·obtain ⟨k, lo, len, hk⟩ := PN h; exact ⟨k + 1, lo, len, by simpa using hk⟩
  | _ => obtain ⟨k, lo, len, hk⟩ := PN (xs := xs) h; exact ⟨k + 1, lo, len, by simpa using hk⟩
theorem Mv (lA : d ≠ d') (h : Xi σ d = true) : Xi (σ.put d' v) d = true := by
 unfold Xi at *; simp only [kK, if_neg lA]; exact h
end Go.Vm
