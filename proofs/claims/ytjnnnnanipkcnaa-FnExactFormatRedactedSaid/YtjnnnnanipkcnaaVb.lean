/- An abstract machine over the model of Go, by value, and that it is sound: part Vb. No condition. -/
import Derived.Test.YtjnnnnanipkcnaaVa
namespace Go.Vm
open Go.RowKit
section
variable {P : Program} {T0 : CS} {B : Nat} {σ : St} {a : Act} {w w' : World} {X X' : Nat → Prop} {h : Nat → Nat → Value}

/-- one owned object's block is written; the object keeps its shape -/
theorem Rel.change (r : Rel T0 B σ a w X h) {t j b : Nat} (hob : σ.ob t j ≠ .none) (hb : blk (h t j) = some b) (hsz : w'.heap.size = w.heap.size) (hw : ∀ k, k ≠ b → w'.heap[k]? = w.heap[k]?)
    (o' : Ob) (_ho' : o' ≠ .none) (hsh : Cpt h h σ.ob (σ.setOb t j o').ob t j) (hnew : ObRel (Tof T0 X) h (σ.setOb t j o').ob w' (h t j) o') : Rel T0 B (σ.setOb t j o') a w' X h := by
  have hown := r.own t j b hob hb
  have hT : ∀ b k v, Tof T0 X b k → w.cell? ⟨b, k, none⟩ = some v → w'.cell? ⟨b, k, none⟩ = some v ∧ Tof T0 X b k := by
    intro b' k v hb' hcell
    refine ⟨?_, hb'⟩
    have hne : b' ≠ b := by
      rintro rfl
      rcases hb' with hb' | hb'
      · have := r.hT _ _ hb'; omega
      · exact hown.2.1 hb'
    rw [World.cell?_of_block (hw b' hne)]; exact hcell
  have hobs : ∀ u i, (u, i) ≠ (t, j) → (σ.setOb t j o').ob u i = σ.ob u i := by
    intro u i hne
    rw [St.ob_setOb σ t j o' u i hob, if_neg (fun hh => hne (by rw [hh.1, hh.2]))]
  have hself : (σ.setOb t j o').ob t j = o' := by rw [St.ob_setOb σ t j o' t j hob]; simp
  -- no site is left out: take one that nothing can name
  have hc : ∀ u i, Cpt h h σ.ob (σ.setOb t j o').ob u i := by
    intro u i
    by_cases hu : (u, i) = (t, j)
    · cases hu; exact hsh
    · refine ⟨fun size rows ho => ⟨rfl, rows, by rw [← hobs u i hu]; exact ho, rfl⟩, fun cells ho => ⟨rfl, cells, by rw [← hobs u i hu]; exact ho⟩⟩
  have at_ : ∀ {x : At} {v : Value}, AtRel (Tof T0 X) h σ.ob w x v → AtRel (Tof T0 X) h (σ.setOb t j o').ob w' x v := by
    intro x v rx
    cases x with
    | any => exact rx
    | d x => exact Rd.mono hT rx
    | nil s => exact rx
    | sref u i lo len =>
      refine ⟨rx.1, fun size rows ho => ?_⟩
      obtain ⟨_, rows0, ho0, hl⟩ := (hc u i).1 size rows ho
      rw [← hl]; exact rx.2 size rows0 ho0
    | ptr u i k c =>
      refine ⟨rx.1, fun size rows ho => ?_⟩
      obtain ⟨_, rows0, ho0, hl⟩ := (hc u i).1 size rows ho
      exact rx.2 size rows0 ho0
    | bptr u c =>
      refine ⟨rx.1, fun cells ho => ?_⟩
      obtain ⟨_, cells0, ho0⟩ := (hc u 0).2 cells ho
      exact rx.2 cells0 ho0
    | rptr rr c =>
      obtain ⟨b, off, g, e, hk⟩ := rx
      exact ⟨b, off, g, e, fun k d hd => ⟨(hT _ _ _ (hk k d hd).2.1 (hk k d hd).1).1, (hk k d hd).2.1, Rd.mono hT (hk k d hd).2.2⟩⟩
  have v1_ : ∀ {x : V} {v : Value}, V1Rel (Tof T0 X) h σ.ob w x v → V1Rel (Tof T0 X) h (σ.setOb t j o').ob w' x v := by
    intro x v rx
    cases x with
    | any => exact rx
    | one x => exact at_ rx
    | agg xs => obtain ⟨cs, e, rx⟩ := rx; exact ⟨cs, e, rx.imp fun _ _ => at_⟩
    | tup xs => exact rx.elim
    | cnd g x => exact rx.elim
  have v_ : ∀ {x : V} {v : Value}, VRel (Tof T0 X) h σ.ob w x v → VRel (Tof T0 X) h (σ.setOb t j o').ob w' x v := by
    intro x v rx
    cases x with
    | any => exact rx
    | one x => exact at_ rx
    | agg xs => exact v1_ (x := .agg xs) rx
    | tup xs => obtain ⟨vs, e, rx⟩ := rx; exact ⟨vs, e, rx.imp fun _ _ => v1_⟩
    | cnd g x => exact ⟨fun hg => v1_ (rx.1 hg), rx.2⟩
  refine ⟨by rw [r.size, St.setOb_length], r.defers, by rw [hsz]; exact r.hB, fun b hb => by rw [hsz]; exact r.hX b hb, r.hT, fun u hu => ?_, fun u i => ?_, fun u i b' hne hb' => ?_, fun u i u' i' b' hne hne' hb1 hb2 => ?_⟩
  · rw [St.setOb_length] at hu
    rw [St.get_setOb]; exact v_ (r.slot u hu)
  · by_cases hu : (u, i) = (t, j)
    · cases hu; rw [hself]; exact hnew
    · rw [hobs u i hu]
      have h0 := r.obj u i
      cases ho : σ.ob u i with
      | none => trivial
      | box cells =>
        rw [ho] at h0
        obtain ⟨b1, cs, e, hv, hh, hal⟩ := h0
        have hne : b1 ≠ b := by
          rintro rfl
          have := r.inj u i t j b1 (by rw [ho]; simp) hob (by rw [hv]; rfl) hb
          exact hu (by rw [this.1, this.2])
        exact ⟨b1, cs, e, hv, by rw [hw b1 hne]; exact hh, hal.imp fun _ _ => at_⟩
      | arr size rows =>
        rw [ho] at h0
        obtain ⟨e, xs, ⟨hl, hown'⟩, hz, hal⟩ := h0
        refine ⟨e, xs, ⟨hl, ?_⟩, hz, hal.imp fun _ _ => Rd.mono hT⟩
        rcases hown' with hn | ⟨g, cap, cur, hv, hb0, hgg, rest⟩
        · exact .inl hn
        · have hne : g ≠ b := by
            rintro rfl
            have := r.inj u i t j g (by rw [ho]; simp) hob (by rw [hv]; rfl) hb
            exact hu (by rw [this.1, this.2])
          exact .inr ⟨g, cap, cur, hv, hb0, by rw [hw g hne]; exact hgg, rest⟩
  · rw [hsz]
    by_cases hu : (u, i) = (t, j)
    · cases hu; exact r.own t j b' hob hb'
    · rw [hobs u i hu] at hne; exact r.own u i b' hne hb'
  · have f : ∀ u i, (σ.setOb t j o').ob u i ≠ .none → σ.ob u i ≠ .none := by
      intro u i hn
      by_cases hu : (u, i) = (t, j)
      · cases hu; exact hob
      · rw [hobs u i hu] at hn; exact hn
    exact r.inj u i u' i' b' (f u i hne) (f u' i' hne') hb1 hb2

theorem run_store {T : TypeId} {ti : TypeInfo} (hi : P.info? T = some ti) {g o : Nat} {e : TypeId} {cur : Array Value} {val : Value} (hg : w.heap[g]? = some (.cells cur e (0, 0))) (hsz : val.cells.size = P.cellsOf T) (hle : o + P.cellsOf T ≤ cur.size) (h1 : ∀ u ∈ val.cells.toList, u.oneCell' = true) :
    (Instr.storeAt T (.pointer (some ⟨g, o, none⟩)) val).run P w = .ok () (w.setRow g (place cur.toList o val.cells.toList).toArray) := by
  have hst := run_storeCells_at P g o e val.cells.toList 0 cur w hg (by simp; omega) h1
  have hne : ¬ val.cells.size ≠ P.cellsOf T := by omega
  simp only [Instr.storeAt, Instr.sureAddr, storeVar, Sem.run_bind, Sem.run_pure, Result.andThen_ok, run_szOf hi, if_neg hne]
  rw [hst]
  simp [place]

theorem Below.setRow {B : Nat} {g : Nat} (hg : B ≤ g) (cs : Array Value) : Below B w (w.setRow g cs) :=
  ⟨rfl, rfl, rfl, by simp [World.setRow], fun k hk => setRow_other w g k cs (by omega)⟩

theorem sound_storeBox (r : Rel T0 B σ a w X h) {o : Oper} {T : TypeId} {x y : Operand} (hop : o.op = .store T x y) (hd : o.dst = none) (ht : tyOk P T = true) (hgx : gOf (look P σ 0 x) = true) (hgy : gOf (look P σ T y) = true)
    {t c : Nat} (hx : unc (look P σ 0 x) = .one (.bptr t c)) {cells : List At} (ho : σ.ob t 0 = .box cells) (hfl : (unc (look P σ T y)).flat = true) (hl : (unc (look P σ T y)).cells.length = P.cellsOf T) (hle : c + P.cellsOf T ≤ cells.length)
    {K : Act → World → Prop} {Q : Exit → Act → World → Prop} (hK : ∀ a' w', RelE T0 B (σ.setOb t 0 (.box (place cells c (unc (look P σ T y)).cells))) a' w' → Below B w w' → K a' w') : o.wp P a w K Q := by
  obtain ⟨_, ti, _, hi, _, _⟩ := tyOk_parts ht
  have hax := r.arg (P := P) 0 x hx hgx
  obtain ⟨b, cs, e, hb, he, hh, hal⟩ := r.box ho hax
  have hy := flat_rel hfl (r.arg (P := P) T y rfl hgy)
  have hyl := hy.length
  have hcl := hal.length
  have e1 : cs.toList.length = cs.size := Array.length_toList
  have e2 : (a.eval y).cells.toList.length = (a.eval y).cells.size := Array.length_toList
  have hrun := run_store (P := P) (w := w) hi (o := c) (val := a.eval y) hh (by omega) (by omega) (fun u hu => by obtain ⟨x', _, hx'⟩ := hy.mem hu; exact AtRel.oneCell hx')
  have hob : σ.ob t 0 ≠ .none := by rw [ho]; simp
  have hblk : blk (h t 0) = some b := by rw [hb]; rfl
  have hB := r.own t 0 b hob hblk
  unfold Oper.wp
  simp only [execOp, hop, he, Sem.run_bind, hrun, Result.andThen_ok, Sem.run_pure, Oper.upon_skip, hd]
  refine hK _ _ ⟨X, h, ?_⟩ (Below.setRow hB.1 _)
  have hself : (σ.setOb t 0 (.box (place cells c (unc (look P σ T y)).cells))).ob t 0 = .box (place cells c (unc (look P σ T y)).cells) := by rw [St.ob_setOb σ t 0 _ t 0 hob]; simp
  have hcpt : Cpt h h σ.ob (σ.setOb t 0 (.box (place cells c (unc (look P σ T y)).cells))).ob t 0 := by
    refine ⟨fun size rows hh' => ?_, fun cells' _ => ⟨rfl, cells, ho⟩⟩
    rw [hself] at hh'; cases hh'
  refine r.change hob hblk (by simp [World.setRow]) (fun k hk => setRow_other w b k _ hk) _ (by simp) hcpt ?_
  have hnewheap := setRow_heap w b cs (place cs.toList c (a.eval y).cells.toList).toArray e (0, 0) hh
  refine ⟨b, _, e, hb, hnewheap, ?_⟩
  -- the atoms, in the new world
  have hT : ∀ b' k v, Tof T0 X b' k → w.cell? ⟨b', k, none⟩ = some v → (w.setRow b (place cs.toList c (a.eval y).cells.toList).toArray).cell? ⟨b', k, none⟩ = some v ∧ Tof T0 X b' k := by
    intro b' k v hb' hcell
    refine ⟨?_, hb'⟩
    have hne : b' ≠ b := by
      rintro rfl
      rcases hb' with hb' | hb'
      · have := r.hT _ _ hb'; omega
      · exact hB.2.1 hb'
    rw [World.cell?_of_block (setRow_other w b b' _ hne)]; exact hcell
  have hobs : ∀ u i, (u, i) ≠ (t, 0) → (σ.setOb t 0 (.box (place cells c (unc (look P σ T y)).cells))).ob u i = σ.ob u i := by
    intro u i hne
    rw [St.ob_setOb σ t 0 _ u i hob, if_neg (fun hh => hne (by rw [hh.1, hh.2]))]
  have hc : ∀ u i, u ≠ σ.length + 1 → Cpt h h σ.ob (σ.setOb t 0 (.box (place cells c (unc (look P σ T y)).cells))).ob u i := by
    intro u i _
    by_cases hu : (u, i) = (t, 0)
    · cases hu; exact hcpt
    · refine ⟨fun size rows ho => ⟨rfl, rows, by rw [← hobs u i hu]; exact ho, rfl⟩, fun cells ho => ⟨rfl, cells, by rw [← hobs u i hu]; exact ho⟩⟩
  have at_ : ∀ {x : At} {v : Value}, AtRel (Tof T0 X) h σ.ob w x v → AtRel (Tof T0 X) h (σ.setOb t 0 (.box (place cells c (unc (look P σ T y)).cells))).ob (w.setRow b (place cs.toList c (a.eval y).cells.toList).toArray) x v := by
    intro x v rx
    by_cases hr : x.ref (σ.length + 1) = false
    · exact AtRel.carry hT hc hr rx
    · -- a reference to a slot beyond the frame: there is no object there
      have hnone : ∀ i, (σ.setOb t 0 (.box (place cells c (unc (look P σ T y)).cells))).ob (σ.length + 1) i = .none := by
        intro i
        unfold St.ob
        rw [List.getElem?_eq_none (by rw [St.setOb_length]; omega)]
      cases x with
      | sref u i lo len =>
        have : u = σ.length + 1 := by simpa [At.ref] using hr
        subst this
        exact ⟨rx.1, fun size rows ho => by rw [hnone] at ho; cases ho⟩
      | ptr u i k c =>
        have : u = σ.length + 1 := by simpa [At.ref] using hr
        subst this
        exact ⟨rx.1, fun size rows ho => by rw [hnone] at ho; cases ho⟩
      | bptr u c =>
        have : u = σ.length + 1 := by simpa [At.ref] using hr
        subst this
        exact ⟨rx.1, fun cells ho => by rw [hnone] at ho; cases ho⟩
      | any => simp [At.ref] at hr
      | d x => simp [At.ref] at hr
      | nil s => simp [At.ref] at hr
      | rptr rr c => simp [At.ref] at hr
  have := (hal.place c hy).imp (fun _ _ => at_)
  simpa using this
end
end Go.Vm
namespace Go.Vm
open Go.RowKit
section
variable {P : Program} {T0 : CS} {B : Nat} {σ : St} {a : Act} {w w' : World} {X X' : Nat → Prop} {h : Nat → Nat → Value}

theorem flatten_place {α : Type} (size c : Nat) (ds : List α) (hc : c + ds.length ≤ size) : ∀ (rows : List (List α)) (i : Nat) (row : List α), rows[i]? = some row → (∀ r ∈ rows, r.length = size) →
    (rows.set i (place row c ds)).flatten = place rows.flatten (i * size + c) ds
  | [], i, row, hr, _ => by simp at hr
  | r0 :: rows, 0, row, hr, hz => by
    simp at hr; subst hr
    have h0 : r0.length = size := hz r0 (by simp)
    simp only [List.set_cons_zero, List.flatten_cons, place, Nat.zero_mul, Nat.zero_add]
    rw [List.take_append_of_le_length (by omega), List.drop_append_of_le_length (by omega)]
    simp
  | r0 :: rows, i + 1, row, hr, hz => by
    have h0 : r0.length = size := hz r0 (by simp)
    have ih := flatten_place size c ds hc rows i row (by simpa using hr) (fun r hr => hz r (by simp [hr]))
    rw [List.set_cons_succ, List.flatten_cons, ih, List.flatten_cons]
    unfold place
    have e1 : (i + 1) * size + c = r0.length + (i * size + c) := by rw [h0, Nat.add_mul]; omega
    have e2 : (i + 1) * size + c + ds.length = r0.length + (i * size + c + ds.length) := by rw [h0, Nat.add_mul]; omega
    rw [e2, e1, List.take_length_add_append, List.drop_length_add_append]
    simp
theorem take_place {α : Type} (l : List α) (n off : Nat) (xs : List α) (hl : off + xs.length ≤ n) (hn : n ≤ l.length) : (place l off xs).take n = place (l.take n) off xs := by
  unfold place
  rw [List.take_take, Nat.min_eq_left (by omega), List.drop_take]
  rw [List.take_append, List.take_append]
  simp only [List.length_append, List.length_take]
  rw [Nat.min_eq_left (by omega), List.take_of_length_le (l := List.take off l) (by simp; omega), List.take_of_length_le (l := xs) (by omega)]

theorem sound_storeArr (r : Rel T0 B σ a w X h) {o : Oper} {T : TypeId} {x y : Operand} (hop : o.op = .store T x y) (hd : o.dst = none) (ht : tyOk P T = true) (hgx : gOf (look P σ 0 x) = true) (hgy : gOf (look P σ T y) = true)
    {t j i c : Nat} (hx : unc (look P σ 0 x) = .one (.ptr t j i c)) {size : Nat} {rows : List (List D)} (ho : σ.ob t j = .arr size rows) (hi : i < rows.length) {ds : List D} (hfl : (unc (look P σ T y)).flat = true) (hds : rowOf σ (unc (look P σ T y)).cells = some ds) (hst : atsStable (unc (look P σ T y)).cells = true)
    (hl : ds.length = P.cellsOf T) (hle : c + P.cellsOf T ≤ size)
    {K : Act → World → Prop} {Q : Exit → Act → World → Prop} (hK : ∀ a' w', RelE T0 B (σ.setOb t j (.arr size (rows.set i (place (rows.getD i []) c ds)))) a' w' → Below B w w' → K a' w') : o.wp P a w K Q := by
  obtain ⟨_, ti, _, hti, _, _⟩ := tyOk_parts ht
  have hax := r.arg (P := P) 0 x hx hgx
  obtain ⟨b, cap, cur, e, xs, hb, he, hh, hcap, hcs, htk, hz, hal⟩ := r.arr ho hax
  have hy := flat_rel hfl (r.arg (P := P) T y rfl hgy)
  have hrd := r.rowOf true hds hy (fun _ => hst)
  simp only [if_true] at hrd
  have hyl := hrd.length
  have e2 : (a.eval y).cells.toList.length = (a.eval y).cells.size := Array.length_toList
  have e3 : cur.toList.length = cur.size := Array.length_toList
  have hrow : rows[i]? = some (rows.getD i []) := by simp [List.getD_eq_getElem?_getD, List.getElem?_eq_getElem hi]
  have hmul : i * size + size ≤ rows.length * size := by rw [← Nat.succ_mul]; exact Nat.mul_le_mul_right _ hi
  have hcap2 : rows.length * size ≤ cap * size := Nat.mul_le_mul_right _ hcap
  have hrun := run_store (P := P) (w := w) hti (o := i * size + c) (val := a.eval y) hh (by omega) (by omega) (fun u hu => by obtain ⟨x', _, hx'⟩ := hy.mem hu; exact AtRel.oneCell hx')
  have hob : σ.ob t j ≠ .none := by rw [ho]; simp
  have hblk : blk (h t j) = some b := by rw [hb]; rfl
  have hB := r.own t j b hob hblk
  unfold Oper.wp
  simp only [execOp, hop, he, Sem.run_bind, hrun, Result.andThen_ok, Sem.run_pure, Oper.upon_skip, hd]
  refine hK _ _ ⟨X, h, ?_⟩ (Below.setRow hB.1 _)
  have hself : (σ.setOb t j (.arr size (rows.set i (place (rows.getD i []) c ds)))).ob t j = .arr size (rows.set i (place (rows.getD i []) c ds)) := by rw [St.ob_setOb σ t j _ t j hob]; simp
  have hcpt : Cpt h h σ.ob (σ.setOb t j (.arr size (rows.set i (place (rows.getD i []) c ds)))).ob t j := by
    refine ⟨fun size' rows' hh' => ?_, fun cells' hh' => ?_⟩
    · rw [hself] at hh'; cases hh'
      exact ⟨rfl, rows, ho, by simp⟩
    · rw [hself] at hh'; cases hh'
  refine r.change hob hblk (by simp [World.setRow]) (fun k hk => setRow_other w b k _ hk) _ (by simp) hcpt ?_
  have hnewheap := setRow_heap w b cur (place cur.toList (i * size + c) (a.eval y).cells.toList).toArray e (0, 0) hh
  have hT : ∀ b' k v, Tof T0 X b' k → w.cell? ⟨b', k, none⟩ = some v → (w.setRow b (place cur.toList (i * size + c) (a.eval y).cells.toList).toArray).cell? ⟨b', k, none⟩ = some v ∧ Tof T0 X b' k := by
    intro b' k v hb' hcell
    refine ⟨?_, hb'⟩
    have hne : b' ≠ b := by
      rintro rfl
      rcases hb' with hb' | hb'
      · have := r.hT _ _ hb'; omega
      · exact hB.2.1 hb'
    rw [World.cell?_of_block (setRow_other w b b' _ hne)]; exact hcell
  have hxl : xs.length = rows.length * size := by rw [hal.length, flatten_length rows size hz]
  have h0 := r.obj t j
  rw [ho] at h0
  obtain ⟨_, _, ⟨_, hown0⟩, _, _⟩ := h0
  have hmx : cap ≤ maxLen := by
    rcases hown0 with ⟨hn, _⟩ | ⟨g, cap', cur', hv', _, _, _, hmx, _, _⟩
    · rw [hb] at hn; cases hn
    · rw [hb] at hv'; cases hv'; exact hmx
  have hrl : (rows.getD i []).length = size := hz _ (List.mem_of_getElem? hrow)
  refine ⟨e, place xs (i * size + c) (a.eval y).cells.toList, ⟨?_, .inr ⟨b, cap, _, by simpa using hb, Nat.zero_le _, hnewheap, by simpa using hcap, hmx, ?_, ?_⟩⟩, ?_, ?_⟩
  · rw [place_length _ _ _ (by omega), hxl]; simp
  · simp only [List.size_toArray]
    rw [place_length _ _ _ (by omega), e3, hcs]
  · simp only [List.length_set]
    rw [take_place _ _ _ _ (by omega) (by omega), htk]
  · intro r' hr'
    rcases List.mem_or_eq_of_mem_set hr' with hr' | hr'
    · exact hz r' hr'
    · rw [hr', place_length _ _ _ (by omega), hrl]
  · rw [flatten_place size c ds (by omega) rows i _ hrow hz]
    refine (hal.imp fun _ _ => Rd.mono hT).place _ (hrd.imp fun _ _ => Rd.mono hT)
end
end Go.Vm
namespace Go.Vm
open Go.RowKit
section
variable {P : Program} {T0 : CS} {B : Nat} {σ : St} {a : Act} {w w' : World} {X X' : Nat → Prop} {h : Nat → Nat → Value}

theorem run_append_room' (t ty e e0 : TypeId) (i : TypeInfo) (ht : P.underlying t = some (.slice e)) (hi : P.info? e = some i)
    (g sLen sCap : Nat) (cur : Array Value) (hg : w.heap[g]? = some (.cells cur e0 (0, 0)))
    (a : Addr) (m c : Nat) (news : List Value) (hl : news.length = m * i.size) (hnews : ∀ j u, news[j]? = some u → w.cell? (a.add j) = some u) (h1 : ∀ u ∈ news, u.oneCell' = true)
    (hroom : sLen + m ≤ sCap) (hfit : sLen * i.size + news.length ≤ cur.size) :
    (Builtin.append_ #[t, t] ty #[.slice (some ⟨g, 0, none⟩) sLen sCap, .slice (some a) m c]).run P w =
      .ok (.slice (some ⟨g, 0, none⟩) (sLen + m) sCap) (w.setRow g (cur.toList.take (sLen * i.size) ++ news ++ cur.toList.drop (sLen * i.size + news.length)).toArray) := by
  have hf := run_firstCells_some (P := P) w i.size m a m c news hl hnews
  have hst := run_storeCells_at P g (sLen * i.size) e0 news 0 cur w hg (by simpa using hfit) h1
  simp only [Nat.add_zero] at hst
  simp [Builtin.append_, run_underlying ht, sizeOf, typeInfo, hi, Builtin.lenOf, hroom, hf, Addr.add_lit, hst]

/-- append to an own slice, whatever type its row was made for -/
theorem run_append_any (t ty e e0 : TypeId) (i : TypeInfo) (z : Value) (ht : P.underlying t = some (.slice e)) (hi : P.info? e = some i) (hz : i.zero = some z)
    (hzs : z.cells.size = i.size) (hsz : 0 < i.size) (v : Value) (n : Nat) (xs : List Value) (hown : w.ownsRow 0 e0 i.size v n xs)
    (a : Addr) (m c : Nat) (news : List Value) (hl : news.length = m * i.size) (hnews : ∀ j u, news[j]? = some u → w.cell? (a.add j) = some u) (h1 : ∀ u ∈ news, u.oneCell' = true)
    (h63 : n + m ≤ maxLen) (hbytes : (n + m) * i.bytes ≤ 140737488355328) :
    ∃ v' w' e1, (Builtin.append_ #[t, t] ty #[v, .slice (some a) m c]).run P w = .ok v' w' ∧ w'.ownsRow 0 e1 i.size v' (n + m) (xs ++ news) ∧ w.grownBy w' (blk v) ∧
      (∀ b, blk v' = some b → (w.heap.size ≤ b ∧ b < w'.heap.size) ∨ blk v = some b) := by
  have hlen : (xs ++ news).length = (n + m) * i.size := by rw [List.length_append, hown.1, hl, Nat.add_mul]
  rcases hown.2 with ⟨rfl, rfl⟩ | ⟨g, cap, cur, rfl, _, hg, hnc, hcm, hcs, htake⟩
  · have hx : xs = [] := List.eq_nil_of_length_eq_zero (by simpa using hown.1)
    subst hx
    obtain ⟨v', w', hr, ho, hgr, _⟩ := run_append_own (P := P) w w.heap.size t ty e i z i.size i.bytes ht hi hz rfl rfl hzs hsz (.slice none 0 0) 0 [] (World.ownsRow_nil w _ e i.size) a m c news hl hnews h1 h63 hbytes (Nat.le_refl _)
    refine ⟨v', w', e, hr, ?_, hgr, fun b hb => .inl ?_⟩
    · refine ⟨ho.1, ho.2.imp id ?_⟩
      rintro ⟨g, cap, cur, hv, _, rest⟩
      exact ⟨g, cap, cur, hv, Nat.zero_le _, rest⟩
    · have hb' : v'.ownBlock = some b := by
        cases v' with
        | slice o l c => cases o with
          | none => simp [blk] at hb
          | some ad => simpa [blk, Value.ownBlock] using hb
        | pointer o => rcases ho.2 with ⟨hv, _⟩ | ⟨g, cap, cur, hv, _⟩ <;> cases hv
        | _ => simp [blk] at hb
      exact ho.lt b hb'
  · by_cases hroom : n + m ≤ cap
    · have hfit : n * i.size + news.length ≤ cur.size := by rw [hl, hcs, ← Nat.add_mul]; exact Nat.mul_le_mul_right _ hroom
      have hr := run_append_room' (P := P) (w := w) t ty e e0 i ht hi g n cap cur hg a m c news hl hnews h1 hroom hfit
      refine ⟨_, _, e0, hr, ⟨hlen, .inr ⟨g, cap, _, rfl, Nat.zero_le _, setRow_heap w g cur _ e0 _ hg, hroom, hcm, ?_, ?_⟩⟩, ⟨rfl, rfl, rfl, by simp [World.setRow], fun k _ hk => setRow_other w g k _ (fun e => hk (by simp [blk, e]))⟩, fun b hb => .inr (by simpa [blk] using hb)⟩
      · simp only [List.size_toArray, List.length_append, List.length_take, List.length_drop, Array.length_toList]
        omega
      · rw [htake, ← hlen]
        exact List.take_left
    · have holds : ∀ j u, xs[j]? = some u → w.cell? ((⟨g, 0, none⟩ : Addr).add j) = some u := hown.cells (g := g) rfl
      have hsmall : n + m ≤ 9223372036854775807 := by simp only [maxLen] at h63; omega
      have hr := run_append_grow (P := P) w t ty e i z ht hi hz ⟨g, 0, none⟩ n cap xs hown.1 holds a m c news hl hnews (by omega) (by omega) (growslice_fits (by omega) hbytes)
      have hge := grownCap_ge w (n + m) cap e
      have hcm2 : grownCap w (n + m) cap e ≤ maxLen := grownCap_le_maxLen w (n + m) cap e h63
      refine ⟨_, _, e, hr, ⟨hlen, .inr ⟨w.heap.size, _, _, rfl, Nat.zero_le _, heap_alloc_new w.drew _, hge, hcm2, ?_, ?_⟩⟩, ⟨rfl, rfl, rfl, by simp, fun k hk _ => (World.grownBy_alloc w.drew _ none).block k hk (by simp)⟩, fun b hb => .inl ?_⟩
      · simp only [Array.size_append, List.size_toArray, size_zeroCells, hzs, hown.1, hl, ← Nat.add_mul]
        congr 1
        omega
      · simp only [Array.toList_append, List.append_assoc]
        rw [← List.append_assoc, ← hlen]
        exact List.take_left
      · simp [blk] at hb; subst hb; simp

/-- append of nothing -/
theorem run_append_nothing (t ty e : TypeId) (i : TypeInfo) (ht : P.underlying t = some (.slice e)) (hi : P.info? e = some i) (base : Option Addr) (n cap : Nat) (hnc : n ≤ cap) (hb : base = none → cap = 0) :
    (Builtin.append_ #[t, t] ty #[.slice base n cap, .slice none 0 0]).run P w = .ok (.slice base n cap) w := by
  cases base with
  | none =>
    have := hb rfl; subst this
    have : n = 0 := by omega
    subst this
    simp [Builtin.append_, run_underlying ht, sizeOf, typeInfo, hi, Builtin.lenOf, Builtin.firstCells]
  | some ad => simp [Builtin.append_, run_underlying ht, sizeOf, typeInfo, hi, Builtin.lenOf, Builtin.firstCells, hnc, storeCells]

/-- an object is let go -/
theorem Rel.drop (r : Rel T0 B σ a w X h) (t j : Nat) : Rel T0 B (σ.setOb t j .none) a w X h := by
  by_cases hob : σ.ob t j = .none
  · have hsame : (σ.setOb t j .none).ob = σ.ob := by
      funext u i
      have key : ∀ (σ : St) (t u : Nat), σ.ob t j = .none → (σ.setOb t j .none).ob u i = σ.ob u i := by
        intro σ
        induction σ with
        | nil => intro t u _; simp [St.setOb]
        | cons e σ ih =>
          intro t u ho
          cases t with
          | zero => cases u with
            | zero =>
              simp only [St.setOb, St.ob, List.getElem?_cons_zero, obIn_set] at ho ⊢
              split
              · rename_i hh; rw [hh.1, ho]
              · rfl
            | succ u => simp [St.setOb, St.ob]
          | succ t => cases u with
            | zero => simp [St.setOb, St.ob]
            | succ u =>
              have := ih t u (by simpa [St.ob] using ho)
              simp only [St.ob, St.setOb] at this ⊢; simpa using this
      exact key σ t u hob
    refine ⟨by rw [r.size, St.setOb_length], r.defers, r.hB, r.hX, r.hT, fun u hu => ?_, fun u i => ?_, fun u i b => ?_, fun u i u' i' b => ?_⟩
    · rw [St.setOb_length] at hu
      rw [St.get_setOb, hsame]; exact r.slot u hu
    · rw [hsame]; exact r.obj u i
    · rw [hsame]; exact r.own u i b
    · rw [hsame]; exact r.inj u i u' i' b
  · have hob' : σ.ob t j ≠ .none := hob
    have hobs : ∀ u i, (u, i) ≠ (t, j) → (σ.setOb t j .none).ob u i = σ.ob u i := by
      intro u i hne
      rw [St.ob_setOb σ t j _ u i hob', if_neg (fun hh => hne (by rw [hh.1, hh.2]))]
    have hself : (σ.setOb t j .none).ob t j = .none := by rw [St.ob_setOb σ t j _ t j hob']; simp
    have back : ∀ u i o, (σ.setOb t j .none).ob u i = o → o ≠ .none → σ.ob u i = o := by
      intro u i o ho hne
      by_cases hu : (u, i) = (t, j)
      · cases hu; rw [hself] at ho; exact absurd ho.symm hne
      · rw [hobs u i hu] at ho; exact ho
    have at_ : ∀ {x : At} {v : Value}, AtRel (Tof T0 X) h σ.ob w x v → AtRel (Tof T0 X) h (σ.setOb t j .none).ob w x v := by
      intro x v rx
      cases x with
      | any => exact rx
      | d x => exact rx
      | nil s => exact rx
      | sref u i lo len => exact ⟨rx.1, fun size rows ho => rx.2 size rows (back u i _ ho (by simp))⟩
      | ptr u i k c => exact ⟨rx.1, fun size rows ho => rx.2 size rows (back u i _ ho (by simp))⟩
      | bptr u c => exact ⟨rx.1, fun cells ho => rx.2 cells (back u 0 _ ho (by simp))⟩
      | rptr rr c => exact rx
    have v1_ : ∀ {x : V} {v : Value}, V1Rel (Tof T0 X) h σ.ob w x v → V1Rel (Tof T0 X) h (σ.setOb t j .none).ob w x v := by
      intro x v rx
      cases x with
      | any => exact rx
      | one x => exact at_ rx
      | agg xs => obtain ⟨cs, e, rx⟩ := rx; exact ⟨cs, e, rx.imp fun _ _ => at_⟩
      | tup xs => exact rx.elim
      | cnd g x => exact rx.elim
    have v_ : ∀ {x : V} {v : Value}, VRel (Tof T0 X) h σ.ob w x v → VRel (Tof T0 X) h (σ.setOb t j .none).ob w x v := by
      intro x v rx
      cases x with
      | any => exact rx
      | one x => exact at_ rx
      | agg xs => exact v1_ (x := .agg xs) rx
      | tup xs => obtain ⟨vs, e, rx⟩ := rx; exact ⟨vs, e, rx.imp fun _ _ => v1_⟩
      | cnd g x => exact ⟨fun hg => v1_ (rx.1 hg), rx.2⟩
    have hne_ : ∀ u i, (σ.setOb t j .none).ob u i ≠ .none → σ.ob u i ≠ .none := by
      intro u i hn
      by_cases hu : (u, i) = (t, j)
      · cases hu; exact hob'
      · rw [hobs u i hu] at hn; exact hn
    refine ⟨by rw [r.size, St.setOb_length], r.defers, r.hB, r.hX, r.hT, fun u hu => ?_, fun u i => ?_, fun u i b hn => r.own u i b (hne_ u i hn), fun u i u' i' b hn hn' => r.inj u i u' i' b (hne_ u i hn) (hne_ u' i' hn')⟩
    · rw [St.setOb_length] at hu
      rw [St.get_setOb]; exact v_ (r.slot u hu)
    · by_cases hu : (u, i) = (t, j)
      · cases hu; rw [hself]; trivial
      · rw [hobs u i hu]
        have h0 := r.obj u i
        cases ho : σ.ob u i with
        | none => trivial
        | box cells =>
          rw [ho] at h0
          obtain ⟨b1, cs, e, hv, hh, hal⟩ := h0
          exact ⟨b1, cs, e, hv, hh, hal.imp fun _ _ => at_⟩
        | arr size rows => rw [ho] at h0; exact h0
end
end Go.Vm
namespace Go.Vm
open Go.RowKit
section
variable {P : Program} {T0 : CS} {B : Nat} {σ : St} {a : Act} {w w' : World} {X X' : Nat → Prop} {h : Nat → Nat → Value}

/-- what is known of an element's type -/
theorem elem_parts {T : TypeId} (hz : zeroOk P T = true) : ∃ i z row, P.info? T = some i ∧ i.zero = some z ∧ zrow P 12 T = some row ∧ i.size = row.length ∧ z.cells.size = i.size ∧ i.size = P.cellsOf T ∧ (∀ T' h ob w, All2 (AtRel T' h ob w) row z.cells.toList) := by
  have hzr : ∃ row, zrow P 12 T = some row := by
    unfold zeroOk at hz
    split at hz
    · rename_i row i hr hi; exact ⟨row, hr⟩
    · cases hz
  obtain ⟨row, hr⟩ := hzr
  obtain ⟨i, z, hi, hzz, hsz, hal⟩ := zero_run hz hr
  refine ⟨i, z, row, hi, hzz, hr, hsz, ?_, by simp [Program.cellsOf, hi], hal⟩
  have := (hal (fun _ _ => True) (fun _ _ => undef) (fun _ _ => .none) default).length
  have e1 : z.cells.toList.length = z.cells.size := Array.length_toList
  omega

/-- the source of an append: its rows, read from stable memory or an own slice -/
def SrcRows (σ : St) (x : V) (size : Nat) (news : List (List D)) : Prop :=
  match x with
  | .one (.d (.sl s rows)) => s = size ∧ news = rows
  | .one (.nil _) => news = []
  | .one (.sref t j lo len) => ∃ rows, σ.ob t j = .arr size rows ∧ lo + len ≤ rows.length ∧ news = cut rows lo len
  | _ => False
/-- the slice that is appended to: nil, or an own one as a whole -/
def DstRows (σ : St) (x : V) (size : Nat) (olds : List (List D)) (σ1 : St) : Prop :=
  match x with
  | .one (.nil _) => olds = [] ∧ σ1 = σ
  | .one (.sref t j lo len) => σ.ob t j = .arr size olds ∧ lo = 0 ∧ len = olds.length ∧ σ1 = σ.setOb t j .none
  | _ => False

theorem src_cells (r : Rel T0 B σ a w X h) {x : V} {v : Value} {size : Nat} {news : List (List D)} (hs : SrcRows σ x size news) (hv : VRel (Tof T0 X) h σ.ob w x v) :
    (∀ n ∈ news, n.length = size) ∧ ((v = .slice none 0 0 ∧ news = []) ∨ ∃ ad c xs, v = .slice (some ad) news.length c ∧ (∀ j u, xs[j]? = some u → w.cell? (ad.add j) = some u) ∧ All2 (Rd (Tof T0 X) w) xs news.flatten) := by
  unfold SrcRows at hs
  split at hs
  · rename_i s rows
    obtain ⟨rfl, rfl⟩ := hs
    refine ⟨rows_row_size (show Rd _ _ _ _ from hv), ?_⟩
    cases (show Rd _ _ _ _ from hv) with
    | nil => exact .inl ⟨rfl, rfl⟩
    | sl ad len cap s rows g hl hc hm hz hsp hg hr =>
      refine .inr ⟨ad, cap, (List.range news.flatten.length).map g, by rw [hl], fun j u hu => ?_, ?_⟩
      · rw [List.getElem?_map] at hu
        rcases Nat.lt_or_ge j news.flatten.length with hj | hj
        · rw [List.getElem?_range hj] at hu
          cases hu
          have hne : news.flatten ≠ [] := by intro he; rw [he] at hj; simp at hj
          have := (hg j _ (List.getElem?_eq_getElem hj)).1
          obtain ⟨b, off, sp⟩ := ad
          have := hsp hne
          simp at this; subst this
          rw [addr_add]; assumption
        · rw [List.getElem?_eq_none (by simpa using hj)] at hu; cases hu
      · refine All2.of_get (by simp) (fun k u d hu hd => ?_)
        rw [List.getElem?_map] at hu
        have hk := (List.getElem?_eq_some_iff.1 hd).1
        rw [List.getElem?_range hk] at hu
        cases hu
        exact hr k d hd
  · subst hs
    exact ⟨(by intro n hn; cases hn), .inl ⟨hv, rfl⟩⟩
  · rename_i t j lo len
    obtain ⟨rows, ho, hle, rfl⟩ := hs
    have h0 := r.obj t j
    rw [ho] at h0
    obtain ⟨e, xs, ⟨hl, hown⟩, hz, hal⟩ := h0
    refine ⟨fun x hx => hz x (List.mem_of_mem_drop (List.mem_of_mem_take hx)), ?_⟩
    have hv' : AtRel (Tof T0 X) h σ.ob w (.sref t j lo len) v := hv
    obtain ⟨_, _, base, cap, rfl, hcap, _, hnn, hb⟩ := hv'.2 size rows ho
    have hcl : (cut rows lo len).length = len := cut_length _ _ _ hle
    by_cases hpos : 0 < len
    · obtain ⟨b, cap0, hh, rfl⟩ := hb hpos
      rcases hown with ⟨hn, _⟩ | ⟨g, cap', cur, hv', _, hgg, hnc, hmx, hcs, htk⟩
      · rw [hh] at hn; cases hn
      · rw [hh] at hv'; cases hv'
        refine .inr ⟨_, cap, cut xs (lo * size) (len * size), by rw [hcl], fun j u hu => ?_, ?_⟩
        · have h1 := cut_get _ _ _ _ _ hu
          rw [addr_add]
          refine heap_cell hgg _ _ ?_
          rw [← htk, List.getElem?_take] at h1
          split at h1
          · exact h1
          · cases h1
        · have hxl : xs.length = rows.length * size := by rw [hal.length, flatten_length rows size hz]
          have hmul : lo * size + len * size ≤ rows.length * size := by rw [← Nat.add_mul]; exact Nat.mul_le_mul_right _ hle
          refine All2.of_get ?_ (fun k u d hu hd => ?_)
          · rw [cut_length _ _ _ (by omega), flatten_length (cut rows lo len) size (fun x hx => hz x (List.mem_of_mem_drop (List.mem_of_mem_take hx))), hcl]
          · have h1 := cut_get _ _ _ _ _ hu
            have h2 := cut_flatten rows size lo len hz k d hd
            obtain ⟨d', hd', hr⟩ := hal.get _ _ h1
            rw [h2] at hd'; cases hd'
            exact hr
    · have : len = 0 := by omega
      subst this
      have hnil : cut rows lo 0 = [] := by simp [cut]
      rw [hnil]
      cases base with
      | none => have := hnn rfl; subst this; exact .inl ⟨rfl, rfl⟩
      | some ad => exact .inr ⟨ad, cap, [], rfl, by simp, .nil⟩
  · exact hs.elim

theorem sound_append (r : Rel T0 B σ a w X h) {o : Oper} {t : TypeId} {x y : Operand} {d : Nat} {olds news : List (List D)} {σ1 : St} (hop : o.op = .call ⟨.builtin .append, #[x, y], #[t, t]⟩) (hd : o.dst = some d)
    (hgx : gOf (look P σ t x) = true) (hgy : gOf (look P σ t y) = true) (ht : sliceT P t = true) (hz : zeroOk P (elemT P t) = true) (hpos : 0 < P.cellsOf (elemT P t))
    (hdst : DstRows σ (unc (look P σ t x)) (P.cellsOf (elemT P t)) olds σ1) (hsrc : SrcRows σ (unc (look P σ t y)) (P.cellsOf (elemT P t)) news) (hfr : σ1.fresh d = true)
    (hbytes : (olds.length + news.length) * P.bytesOf (elemT P t) ≤ 140737488355328) (hmax : olds.length + news.length ≤ 9223372036854775807)
    {K : Act → World → Prop} {Q : Exit → Act → World → Prop} (hK : ∀ a' w', RelE T0 B (σ1.new d (.one (.sref d 0 0 (olds.length + news.length))) [.arr (P.cellsOf (elemT P t)) (olds ++ news)]) a' w' → Below B w w' → K a' w') : o.wp P a w K Q := by
  obtain ⟨ti, hu, hi, hisz⟩ := sliceT_parts ht
  obtain ⟨i, z, row, hi', hzz, hzr, hsz1, hzs, hsz2, hzal⟩ := elem_parts hz
  rw [hi] at hi'; cases hi'
  have hby : P.bytesOf (elemT P t) = ti.bytes := by simp [Program.bytesOf, hi]
  rw [hby] at hbytes
  rw [← hsz2] at hdst hsrc hpos hK
  have hvx := r.arg (P := P) t x rfl hgx
  have hvy := r.arg (P := P) t y rfl hgy
  obtain ⟨hnz, hsc⟩ := src_cells r hsrc hvy
  -- the destination: its header, its cells
  have hdx : ∃ e0 xs, w.ownsRow 0 e0 ti.size (a.eval x) olds.length xs ∧ (∀ q ∈ olds, q.length = ti.size) ∧ All2 (Rd (Tof T0 X) w) xs olds.flatten ∧ Rel T0 B σ1 a w X h ∧
      (∀ b, blk (a.eval x) = some b → B ≤ b ∧ ¬ X b ∧ b < w.heap.size ∧ ∀ u j, σ1.ob u j ≠ .none → blk (h u j) ≠ some b) := by
    unfold DstRows at hdst
    split at hdst
    · rename_i s heq
      obtain ⟨rfl, rfl⟩ := hdst
      rw [heq] at hvx
      have he : a.eval x = .slice none 0 0 := hvx
      rw [he]
      exact ⟨0, [], World.ownsRow_nil w 0 0 _, (by intro q hq; cases hq), .nil, r, (fun b hb => by cases hb)⟩
    · rename_i u j lo len heq
      obtain ⟨ho, rfl, rfl, rfl⟩ := hdst
      rw [heq] at hvx
      have hvx' : AtRel (Tof T0 X) h σ.ob w (.sref u j 0 olds.length) (a.eval x) := hvx
      obtain ⟨_, hfull, _⟩ := hvx'.2 _ _ ho
      have he : a.eval x = h u j := hfull rfl rfl
      have h0 := r.obj u j
      rw [ho] at h0
      obtain ⟨e, xs, hown, hzz', hal⟩ := h0
      have hob : σ.ob u j ≠ .none := by rw [ho]; simp
      refine ⟨e, xs, by rw [he]; exact hown, hzz', hal, r.drop u j, fun b hb => ?_⟩
      rw [he] at hb
      have hown' := r.own u j b hob hb
      refine ⟨hown'.1, hown'.2.1, hown'.2.2, fun u' j' hne hb' => ?_⟩
      have hob' : σ.ob u' j' ≠ .none := by
        intro hh
        rw [St.ob_setOb σ u j _ u' j' hob] at hne
        split at hne
        · exact hne rfl
        · exact hne hh
      have := r.inj u j u' j' b hob hob' hb hb'
      obtain ⟨rfl, rfl⟩ := this
      rw [St.ob_setOb σ u j _ u j hob] at hne
      simp at hne
    · exact hdst.elim
  obtain ⟨e0, xs, hown, hoz, hoal, r1, hblk⟩ := hdx
  have hflr : ∀ q ∈ olds ++ news, q.length = ti.size := by
    intro q hq
    rcases List.mem_append.1 hq with hq | hq
    · exact hoz q hq
    · exact hnz q hq
  -- what comes out, in either case
  have key : ∀ (v' : Value) (w' : World) (e1 : TypeId) (ys : List Value), (Builtin.append_ #[t, t] o.type #[a.eval x, a.eval y]).run P w = .ok v' w' → w'.ownsRow 0 e1 ti.size v' (olds.length + news.length) (xs ++ ys) →
      All2 (Rd (Tof T0 X) w) ys news.flatten → w.grownBy w' (blk (a.eval x)) → (∀ b, blk v' = some b → (w.heap.size ≤ b ∧ b < w'.heap.size) ∨ blk (a.eval x) = some b) → o.wp P a w K Q := by
    intro v' w' e1 ys hrun ho' hyal hgr hbv
    have hlt := St.fresh_lt hfr
    have hT : ∀ b k v, Tof T0 X b k → w.cell? ⟨b, k, none⟩ = some v → w'.cell? ⟨b, k, none⟩ = some v ∧ Tof T0 X b k := by
      intro b k v hb hcell
      refine ⟨?_, hb⟩
      have hne : some b ≠ blk (a.eval x) := by
        intro e
        have h1 := hblk b e.symm
        rcases hb with hb | hb
        · have := r.hT b k hb; omega
        · exact h1.2.1 hb
      rw [World.cell?_of_block (hgr.block b (r.Tlt hb) hne)]; exact hcell
    unfold Oper.wp
    have hexec : (execOp a.eval o).run P w = .ok (.value v') w' := by
      simp only [execOp, hop, resolve, invoke, builtin, Sem.run_bind, Sem.run_pure, Result.andThen_ok, List.map_toArray, List.map_cons, List.map_nil, hrun]
    rw [hexec, Oper.upon_value, hd]
    refine hK _ _ ⟨X, fun u j => if u = d then v' else h u j, ?_⟩ ⟨hgr.os, hgr.tape, hgr.output, hgr.size, fun k hk => hgr.block k (by have := r.hB; omega) (fun e => by have := (hblk k e.symm).1; omega)⟩
    have hob0 : (σ1.new d (.one (.sref d 0 0 (olds.length + news.length))) [.arr ti.size (olds ++ news)]).ob d 0 = .arr ti.size (olds ++ news) := by rw [St.ob_new]; simp [hlt, obIn]
    have hown2 : w'.ownsRow 0 e1 ti.size v' (olds ++ news).length (xs ++ ys) := by rw [List.length_append]; exact ho'
    have hal2 : All2 (Rd (Tof T0 X) w') (xs ++ ys) (olds ++ news).flatten := by
      rw [List.flatten_append]
      exact (hoal.imp fun _ _ => Rd.mono hT).append (hyal.imp fun _ _ => Rd.mono hT)
    refine r1.newG hfr (blk (a.eval x)) hgr (fun b hb => ⟨(hblk b hb).1, (hblk b hb).2.1, fun u j _ hne => (hblk b hb).2.2.2 u j hne⟩) (fun _ hb => hb) (fun _ hb => .inl hb) _ _ [.arr ti.size (olds ++ news)] (fun _ => v') ?_ (fun j => ?_) (fun j b hne hb' => ?_) (fun j j' b hne hne' _ _ => ?_)
    · refine ⟨owns_oneCell ho', fun size' rows' hh => ?_⟩
      rw [hob0] at hh; cases hh
      simp only [if_true, List.length_append]
      have := hd_self hown2
      rwa [List.length_append] at this
    · cases j with
      | zero => exact ⟨e1, xs ++ ys, hown2, hflr, hal2⟩
      | succ j => simp [obIn, ObRel]
    · rcases hbv b hb' with h1 | h1
      · exact ⟨.inl h1.1, fun hx => by have := (r.hX b hx).2; omega, h1.2⟩
      · have h2 := hblk b h1
        exact ⟨.inr h1, h2.2.1, by have := hgr.size; omega⟩
    · have : ∀ j, obIn [Ob.arr ti.size (olds ++ news)] j ≠ .none → j = 0 := by
        intro j hj
        cases j with
        | zero => rfl
        | succ j => simp [obIn] at hj
      rw [this j hne, this j' hne']
  rcases hsc with ⟨hey, rfl⟩ | ⟨ad, c, ys, hey, hcell, hyal⟩
  · have hform : ∃ base cap, a.eval x = .slice base olds.length cap ∧ olds.length ≤ cap ∧ (base = none → cap = 0) := by
      rcases hown.2 with ⟨h1, h2⟩ | ⟨g, cap, cur, h1, _, _, hnc, _⟩
      · exact ⟨none, 0, by rw [h1, h2], by omega, fun _ => rfl⟩
      · exact ⟨_, cap, h1, hnc, (fun hh => by cases hh)⟩
    obtain ⟨base, cap, hex, hnc, hb0⟩ := hform
    refine key (a.eval x) w e0 [] ?_ (by simpa using hown) .nil ⟨rfl, rfl, rfl, Nat.le_refl _, fun _ _ _ => rfl⟩ (fun b hb => .inr hb)
    rw [hex, hey]
    exact run_append_nothing t o.type _ ti hu hi base olds.length cap hnc hb0
  · have hyl : ys.length = news.length * ti.size := by rw [hyal.length, flatten_length news ti.size hnz]
    obtain ⟨v', w', e1, hrun, ho', hgr, hbv⟩ := run_append_any (P := P) (w := w) t o.type _ e0 ti z hu hi hzz hzs (by omega) (a.eval x) olds.length xs hown ad news.length c ys hyl hcell
      (fun u hu' => by
        obtain ⟨k, hk⟩ := List.mem_iff_getElem?.1 hu'
        obtain ⟨d', _, hr'⟩ := hyal.get k u hk
        exact Rd.oneCell hr') (by simp only [maxLen]; omega) hbytes
    refine key v' w' e1 ys ?_ ho' hyal hgr hbv
    rw [hey]; exact hrun
end
end Go.Vm
namespace Go.Vm
open Go.RowKit
section
variable {P : Program} {T0 : CS} {B : Nat} {σ : St} {a : Act} {w w' : World} {X X' : Nat → Prop} {h : Nat → Nat → Value}

def BRows (P : Program) (σ : St) (T : TypeId) (size : Nat) : List (Nat × Operand) → Nat → List (List D) → Prop
  | [], _, rs => rs = []
  | (i, x) :: ps, k, rs => i = k ∧ gOf (look P σ T x) = true ∧ (unc (look P σ T x)).flat = true ∧ atsStable (unc (look P σ T x)).cells = true ∧
      ∃ r rest, rowOf σ (unc (look P σ T x)).cells = some r ∧ r.length = size ∧ BRows P σ T size ps (k + 1) rest ∧ rs = r :: rest

theorem place_place {α : Type} (l : List α) (o : Nat) (xs ys : List α) (hl : o + (xs ++ ys).length ≤ l.length) : place (place l o xs) (o + xs.length) ys = place l o (xs ++ ys) := by
  simp only [List.length_append] at hl
  unfold place
  have h1 : (l.take o ++ xs).length = o + xs.length := by simp; omega
  have h2 : (l.take o ++ xs ++ l.drop (o + xs.length)).take (o + xs.length) = l.take o ++ xs := by
    rw [List.take_append_of_le_length (by omega), List.take_of_length_le (by omega)]
  have h3 : (l.take o ++ xs ++ l.drop (o + xs.length)).drop (o + xs.length + ys.length) = l.drop (o + (xs ++ ys).length) := by
    rw [show o + xs.length + ys.length = (l.take o ++ xs).length + ys.length by omega, List.drop_length_add_append, List.drop_drop]
    congr 1; simp; omega
  rw [h2, h3]; simp

theorem fill_rows (r : Rel T0 B σ a w X h) (T : TypeId) (size : Nat) : ∀ (ps : List (Nat × Operand)) (k : Nat) (rs : List (List D)) (cells : Array Value), BRows P σ T size ps k rs → (k + ps.length) * size ≤ cells.size →
      ∃ cells' ys, Instr.fill (fun i => some (i * size, size)) cells (ps.map fun x => (x.1, a.eval x.2)) = some cells' ∧ cells'.toList = place cells.toList (k * size) ys ∧ All2 (Rd (Tof T0 X) w) ys rs.flatten ∧ (∀ q ∈ rs, q.length = size) ∧ rs.length = ps.length
  | [], k, rs, cells, hb, _ => by cases hb; exact ⟨cells, [], rfl, by simp [place], .nil, (by intro q hq; cases hq), rfl⟩
  | (i, x) :: ps, k, rs, cells, hb, hl => by
    obtain ⟨rfl, hg, hf, hst, r0, rest, hr0, hlen, hb, rfl⟩ := hb
    have hx := flat_rel hf (r.arg (P := P) T x rfl hg)
    have hrd := r.rowOf true hr0 hx (fun _ => hst)
    simp only [if_true] at hrd
    have hl2 := hrd.length
    have e1 : cells.toList.length = cells.size := Array.length_toList
    have e2 : (a.eval x).cells.toList.length = (a.eval x).cells.size := Array.length_toList
    have hmul : (i + (ps.length + 1)) * size = i * size + size + ps.length * size := by rw [Nat.add_mul, Nat.add_mul]; omega
    simp only [List.length_cons] at hl
    have heq := foldl_place' (i * size) (a.eval x).cells cells (by omega)
    have hsz1 : ((a.eval x).cells.zipIdx.foldl (fun cs x => cs.setIfInBounds (i * size + x.2) x.1) cells).size = cells.size := by
      rw [← Array.length_toList, heq, place_length _ _ _ (by omega), e1]
    have hmul2 : (i + 1 + ps.length) * size = i * size + size + ps.length * size := by rw [Nat.add_mul, Nat.add_mul]; omega
    obtain ⟨cells', ys, h1, h2, h3, h4, h5⟩ := fill_rows r T size ps (i + 1) rest _ hb (by rw [hsz1]; omega)
    have hyl : ys.length = ps.length * size := by rw [h3.length, flatten_length rest size h4, h5]
    refine ⟨cells', (a.eval x).cells.toList ++ ys, ?_, ?_, ?_, ?_, by simp [h5]⟩
    · simp only [List.map_cons, Instr.fill]
      rw [if_neg (by simp; omega)]
      exact h1
    · rw [h2, heq]
      rw [show (i + 1) * size = i * size + (a.eval x).cells.toList.length by rw [Nat.add_mul]; omega]
      exact place_place _ _ _ _ (by simp; omega)
    · rw [List.flatten_cons]; exact hrd.append h3
    · intro q hq
      rcases List.mem_cons.1 hq with rfl | hq
      · exact hlen
      · exact h4 q hq

theorem sound_buildSlice (r : Rel T0 B σ a w X h) {o : Oper} {T : TypeId} {n : Nat} {parts : Array (Nat × Operand)} {d : Nat} {rows : List (List D)} (hop : o.op = .buildSlice T n parts) (hd : o.dst = some d) (hfr : σ.fresh d = true)
    (ht : sliceT P T = true) (hz : zeroOk P (elemT P T) = true) (hpos : 0 < P.cellsOf (elemT P T)) (hn : parts.toList.length = n) (hsm : n * P.cellsOf (elemT P T) ≤ 16777216) (hb : BRows P σ (elemT P T) (P.cellsOf (elemT P T)) parts.toList 0 rows)
    {K : Act → World → Prop} {Q : Exit → Act → World → Prop} (hK : ∀ a' w', RelE T0 B (σ.new d (.one (.sref d 0 0 rows.length)) [.arr (P.cellsOf (elemT P T)) rows]) a' w' → Below B w w' → K a' w') : o.wp P a w K Q := by
  obtain ⟨ti, hu, hi, hisz⟩ := sliceT_parts ht
  obtain ⟨i, z, row, hi', hzz, hzr, hsz1, hzs, hsz2, hzal⟩ := elem_parts hz
  rw [hi] at hi'; cases hi'
  have hzrun : (zeroValue (elemT P T)).run P w = .ok z w := by simp [zeroValue, typeInfo, hi, hzz]
  -- the cells before they are filled
  obtain ⟨zero, hzero⟩ : ∃ zero : Array Value, (n * P.cellsOf (elemT P T) = 0 → zero = #[]) ∧ (¬ n * P.cellsOf (elemT P T) = 0 → zero = z.cells) := by
    by_cases h0 : n * P.cellsOf (elemT P T) = 0
    · exact ⟨#[], fun _ => rfl, fun hh => absurd h0 hh⟩
    · exact ⟨z.cells, fun hh => absurd hh h0, fun _ => rfl⟩
  obtain ⟨cells', ys, h1, h2, h3, h4, h5⟩ := fill_rows r (elemT P T) (P.cellsOf (elemT P T)) parts.toList 0 rows ((Array.range (n * P.cellsOf (elemT P T))).map (zero[· % zero.size]!)) hb (by simp [hn])
  have hyl : ys.length = n * P.cellsOf (elemT P T) := by rw [h3.length, flatten_length rows _ h4, h5, hn]
  have hcl : cells'.toList = ys := by
    rw [h2]
    unfold place
    simp [hyl]
  have hmap : (parts.map fun (x : Nat × Operand) => (x.1, a.eval x.2)).toList = parts.toList.map fun x => (x.1, a.eval x.2) := by simp
  have hrun : (execOp a.eval o).run P w = .ok (.value (.slice (some ⟨w.heap.size, 0, none⟩) n n)) (w.alloc (.cells cells' (elemT P T))) := by
    have hnot : ¬ (n * P.cellsOf (elemT P T) > 2 ^ 24) := by omega
    by_cases h0 : n * P.cellsOf (elemT P T) = 0
    · have hz0 := hzero.1 h0
      subst hz0
      simp only [execOp, hop, Instr.buildSlice, Sem.run_bind, run_underlying hu, Result.andThen_ok, run_szOf hi, if_neg hnot, if_pos h0, hmap, h1, newRow, Sem.run_pure, run_newObj_alloc]
    · have hz0 := hzero.2 h0
      subst hz0
      simp only [execOp, hop, Instr.buildSlice, Sem.run_bind, run_underlying hu, Result.andThen_ok, run_szOf hi, if_neg hnot, if_neg h0, hzrun, hmap, h1, newRow, Sem.run_pure, run_newObj_alloc]
  unfold Oper.wp
  rw [hrun, Oper.upon_value, hd]
  have hlen : rows.length = n := by rw [h5, hn]
  have hT : ∀ b k v, Tof T0 X b k → w.cell? ⟨b, k, none⟩ = some v → (w.alloc (.cells cells' (elemT P T))).cell? ⟨b, k, none⟩ = some v ∧ Tof T0 X b k := by
    intro b k v hb hcell
    refine ⟨?_, hb⟩
    rw [World.cell?_of_block ((World.grownBy_alloc w (.cells cells' (elemT P T)) none).block b (r.Tlt hb) (by simp))]; exact hcell
  have hsz' : cells'.size = n * P.cellsOf (elemT P T) := by rw [← Array.length_toList, hcl, hyl]
  have hmx : n ≤ maxLen := by
    have : n ≤ n * P.cellsOf (elemT P T) := Nat.le_mul_of_pos_right _ hpos
    simp only [maxLen]; omega
  have := r.newArr hfr (World.grownBy_alloc w (.cells cells' (elemT P T)) none) (.slice (some ⟨w.heap.size, 0, none⟩) n n) (size := P.cellsOf (elemT P T)) (rows := rows)
    ⟨elemT P T, ys, ⟨by rw [hyl, hlen], .inr ⟨w.heap.size, n, cells', by rw [hlen], Nat.zero_le _, heap_alloc_new w _, by omega, hmx, hsz', by rw [hcl, hlen, List.take_of_length_le (by omega)]⟩⟩, h4, h3.imp fun _ _ => Rd.mono hT⟩
    (fun b hb => by simp [blk] at hb; subst hb; exact ⟨Nat.le_refl _, by simp⟩)
  exact hK _ _ this.1 this.2

/-- a row of the type's zero value, as data -/
def zD : List At → Option (List D)
  | [] => some []
  | .d x :: xs => (zD xs).map (x :: ·)
  | .nil s :: xs => (zD xs).map (.sl s [] :: ·)
  | _ => none
theorem zD_rel {T : CS} {ob : Nat → Nat → Ob} : ∀ {xs : List At} {ds : List D} {vs : List Value}, zD xs = some ds → All2 (AtRel T h ob w) xs vs → All2 (Rd T w) vs ds
  | [], ds, vs, hz, hal => by cases hal; simp [zD] at hz; subst hz; exact .nil
  | x :: xs, ds, vs, hz, hal => by
    cases hal with
    | cons hx hal =>
      cases x with
      | d x =>
        simp only [zD, Option.map_eq_some_iff] at hz
        obtain ⟨ds', hz', rfl⟩ := hz
        exact .cons hx (zD_rel hz' hal)
      | nil s =>
        simp only [zD, Option.map_eq_some_iff] at hz
        obtain ⟨ds', hz', rfl⟩ := hz
        cases hx
        exact .cons (.nil _) (zD_rel hz' hal)
      | any => simp [zD] at hz
      | sref => simp [zD] at hz
      | ptr => simp [zD] at hz
      | bptr => simp [zD] at hz
      | rptr => simp [zD] at hz

theorem flatten_replicate_get {α : Type} (z : List α) (n k : Nat) (hk : k < n * z.length) : (List.replicate n z).flatten[k]? = z[k % z.length]? := by
  induction n generalizing k with
  | zero => simp at hk
  | succ n ih =>
    rw [List.replicate_succ, List.flatten_cons]
    rcases Nat.lt_or_ge k z.length with hlt | hge
    · rw [List.getElem?_append_left hlt, Nat.mod_eq_of_lt hlt]
    · rw [List.getElem?_append_right hge, ih (k - z.length) (by rw [Nat.add_mul] at hk; omega)]
      congr 1
      rw [Nat.mod_eq_sub_mod hge]

theorem sound_makeSlice (r : Rel T0 B σ a w X h) {o : Oper} {T : TypeId} {x : Operand} {d : Nat} {k : IntKind} {n : Nat} {z : List At} {zr : List D} (hop : o.op = .makeSlice T x x) (hd : o.dst = some d) (hfr : σ.fresh d = true)
    (ht : sliceT P T = true) (hz : zeroOk P (elemT P T) = true) (hzr : zrow P 12 (elemT P T) = some z) (hzd : zD z = some zr) (hpos : 0 < P.cellsOf (elemT P T)) (hx : lkInt P σ x k (n : Int)) (hby : P.bytesOf (elemT P T) * n ≤ 281474976710656) (hmax : n ≤ 9223372036854775807)
    {K : Act → World → Prop} {Q : Exit → Act → World → Prop} (hK : ∀ a' w', RelE T0 B (σ.new d (.one (.sref d 0 0 n)) [.arr (P.cellsOf (elemT P T)) (List.replicate n zr)]) a' w' → Below B w w' → K a' w') : o.wp P a w K Q := by
  obtain ⟨ti, hu, hi, hisz⟩ := sliceT_parts ht
  obtain ⟨i, zv, row, hi', hzz, hzr', hsz1, hzs, hsz2, hzal⟩ := elem_parts hz
  rw [hi] at hi'; cases hi'
  rw [hzr] at hzr'; cases hzr'
  have hex := lkInt_eval r hx
  have hby' : (ti.bytes : Int) * (n : Int) ≤ 281474976710656 := by
    have : P.bytesOf (elemT P T) = ti.bytes := by simp [Program.bytesOf, hi]
    rw [this] at hby
    have h : ((ti.bytes * n : Nat) : Int) ≤ 281474976710656 := by omega
    rwa [Int.natCast_mul] at h
  have hrun := run_make (P := P) w T (elemT P T) ti zv hu hi hzz k k n n (by omega) (Int.le_refl _) hby' (by omega)
  simp only [Int.toNat_natCast] at hrun
  unfold Oper.wp
  simp only [execOp, hop, hex, Sem.run_bind, hrun, Result.andThen_ok, Sem.run_pure, Oper.upon_value, hd]
  have hzrd := zD_rel hzd (hzal (Tof T0 X) h σ.ob w)
  have hzl := hzrd.length
  have e1 : zv.cells.toList.length = zv.cells.size := Array.length_toList
  have hzl2 : zr.length = ti.size := by omega
  have hT : ∀ b k v, Tof T0 X b k → w.cell? ⟨b, k, none⟩ = some v → (w.alloc (.cells (madeCells zv.cells (n * ti.size)) (elemT P T))).cell? ⟨b, k, none⟩ = some v ∧ Tof T0 X b k := by
    intro b k v hb hcell
    refine ⟨?_, hb⟩
    rw [World.cell?_of_block ((World.grownBy_alloc w (.cells (madeCells zv.cells (n * ti.size)) (elemT P T)) none).block b (r.Tlt hb) (by simp))]; exact hcell
  have hmlen : (madeCells zv.cells (n * ti.size)).toList.length = n * ti.size := by rw [Array.length_toList, size_madeCells]
  have hmget : ∀ q u, (madeCells zv.cells (n * ti.size)).toList[q]? = some u → zv.cells.toList[q % ti.size]? = some u := by
    intro q u hq
    have hlt : q < n * ti.size := by have := (List.getElem?_eq_some_iff.1 hq).1; omega
    have hmod : q % ti.size < zv.cells.size := by rw [hzs]; exact Nat.mod_lt _ (by omega)
    have : (madeCells zv.cells (n * ti.size)).toList[q]? = some (zv.cells[q % zv.cells.size]!) := by
      simp [madeCells, hlt]
    rw [this] at hq
    cases hq
    rw [hzs]
    simp [hmod]
  have hal2 : All2 (Rd (Tof T0 X) w) (madeCells zv.cells (n * ti.size)).toList (List.replicate n zr).flatten := by
    refine All2.of_get (by rw [hmlen, flatten_length _ ti.size (by intro q hq; rw [List.eq_of_mem_replicate hq]; exact hzl2)]; simp) (fun q u dd hq hdd => ?_)
    have hlt : q < n * ti.size := by have := (List.getElem?_eq_some_iff.1 hq).1; omega
    rw [flatten_replicate_get zr n q (by rw [hzl2]; exact hlt), hzl2] at hdd
    obtain ⟨d', hd', hr'⟩ := hzrd.get _ _ (hmget q u hq)
    rw [hdd] at hd'; cases hd'
    exact hr'
  have := r.newArr hfr (World.grownBy_alloc w (.cells (madeCells zv.cells (n * ti.size)) (elemT P T)) none) (.slice (some ⟨w.heap.size, 0, none⟩) n n) (size := P.cellsOf (elemT P T)) (rows := List.replicate n zr)
    ⟨elemT P T, (madeCells zv.cells (n * ti.size)).toList, ⟨by rw [hmlen, hsz2]; simp, .inr ⟨w.heap.size, n, _, by simp, Nat.zero_le _, heap_alloc_new w _, by simp, by simp only [maxLen]; omega, by rw [size_madeCells, hsz2], by rw [List.take_of_length_le (by rw [hmlen, hsz2]; simp)]⟩⟩,
      (by intro q hq; rw [List.eq_of_mem_replicate hq]; omega), hal2.imp fun _ _ => Rd.mono hT⟩
    (fun b hb => by simp [blk] at hb; subst hb; exact ⟨Nat.le_refl _, by simp⟩)
  rw [List.length_replicate] at this
  exact hK _ _ this.1 this.2
end
end Go.Vm
namespace Go.Vm
open Go.RowKit

def byteRows (l : List UInt8) : List (List D) := l.map fun b => [D.int .u8 (b.toNat : Int)]
def byteT (P : Program) (t : TypeId) : Bool := match P.underlying t with
  | some (.slice e) => (match P.underlying e with | some (.int .u8) => true | _ => false)
  | _ => false
theorem byteT_parts {P : Program} {t : TypeId} (ht : byteT P t = true) : ∃ e, P.underlying t = some (.slice e) ∧ P.underlying e = some (.int .u8) := by
  unfold byteT at ht
  split at ht
  · rename_i e he
    split at ht
    · rename_i h2; exact ⟨e, he, h2⟩
    · cases ht
  · cases ht
theorem byteRows_flatten (l : List UInt8) : (byteRows l).flatten = l.map fun b => D.int .u8 (b.toNat : Int) := by
  induction l with
  | nil => rfl
  | cons b l ih => simp only [byteRows, List.map_cons, List.flatten_cons] at ih ⊢; rw [ih]; rfl

section
variable {P : Program} {T0 : CS} {B : Nat} {σ : St} {a : Act} {w w' : World} {X X' : Nat → Prop} {h : Nat → Nat → Value}

theorem sound_bytesToString (r : Rel T0 B σ a w X h) {o : Oper} {S T : TypeId} {x : Operand} {l : List UInt8} (hop : o.op = .convert S T x) (hg : gOf (look P σ S x) = true) (hS : byteT P S = true) (hT : strT P T = true)
    (hsrc : SrcRows σ (unc (look P σ S x)) 1 (byteRows l)) : ∃ val, (execOp a.eval o).run P w = .ok (.value val) w ∧ VRel (Tof T0 X) h σ.ob w (.one (.d (.str ⟨l.toArray⟩))) val := by
  obtain ⟨e, hs, he⟩ := byteT_parts hS
  have hv := r.arg (P := P) S x rfl hg
  obtain ⟨_, hsc⟩ := src_cells r hsrc hv
  refine ⟨.string ⟨l.toArray⟩, ?_, .str _⟩
  rcases hsc with ⟨hex, hnil⟩ | ⟨ad, c, xs, hex, hcell, hal⟩
  · have hl : l = [] := by cases l with
      | nil => rfl
      | cons b l => simp [byteRows] at hnil
    subst hl
    have hr : (convert S T (.slice none 0 0)).run P w = .ok (.string ⟨#[]⟩) w := by
      rw [run_convert_bytes_string w S T e none 0 0 hs he (strT_parts hT)]
      rfl
    simp only [execOp, hop, hex, Sem.run_bind, hr, Result.andThen_ok, Sem.run_pure, List.toArray]
  · have hlen : (byteRows l).length = l.length := by simp [byteRows]
    rw [hlen] at hex
    have hr := run_convert_bytes_back (P := P) w S T e ad c l hs he (strT_parts hT) (fun j hj => by
      rw [byteRows_flatten] at hal
      obtain ⟨u, hu, hr⟩ := hal.get' j (D.int .u8 (l[j].toNat : Int)) (by simp [hj])
      have := rd_int hr
      subst this
      exact hcell j _ hu)
    simp only [execOp, hop, hex, Sem.run_bind, hr, Result.andThen_ok, Sem.run_pure]

theorem sound_stringToBytes (r : Rel T0 B σ a w X h) {o : Oper} {S T : TypeId} {x : Operand} {d : Nat} {s : ByteArray} (hop : o.op = .convert S T x) (hd : o.dst = some d) (hg : gOf (look P σ S x) = true) (hS : strT P S = true) (hT : byteT P T = true)
    (hx : unc (look P σ S x) = .one (.d (.str s))) (hsz : s.size ≤ 9223372036854775807)
    {K : Act → World → Prop} {Q : Exit → Act → World → Prop} (hK : ∀ a' w', RelE T0 B (σ.put d (.one (.d (.sl 1 (byteRows s.data.toList))))) a' w' → Below B w w' → K a' w') : o.wp P a w K Q := by
  obtain ⟨e, hdd, he⟩ := byteT_parts hT
  have hex := rd_str (r.arg (P := P) S x hx hg)
  have hrun := run_bytes_of_string (P := P) w S T e s (strT_parts hS) hdd he
  unfold Oper.wp
  simp only [execOp, hop, hex, Sem.run_bind, hrun, Result.andThen_ok, Sem.run_pure, Oper.upon_value, hd]
  generalize hcap : grownCap w s.size 0 e = cap at *
  have hge : s.size ≤ cap := by rw [← hcap]; exact grownCap_ge w s.size 0 e
  have hmx : cap ≤ maxLen := by rw [← hcap]; exact grownCap_le_maxLen w s.size 0 e (by simp only [maxLen]; omega)
  generalize hw' : w.drew.alloc (.cells (bytesRow s cap) e ((bytesRow s cap).size, (bytesRow s cap).size + 1)) = w'
  have hg' : w.grownBy w' none := by
    rw [← hw']
    exact ⟨rfl, rfl, rfl, by simp, fun k hk _ => (World.grownBy_alloc w.drew _ none).block k hk (by simp)⟩
  have hnew : w'.heap[w.heap.size]? = some (.cells (bytesRow s cap) e ((bytesRow s cap).size, (bytesRow s cap).size + 1)) := by rw [← hw']; exact heap_alloc_new w.drew _
  have hsize : w.heap.size < w'.heap.size := (Array.getElem?_eq_some_iff.1 hnew).1
  have r2 := r.grow (X' := fun b => X b ∨ b = w.heap.size) hg' (fun b hb => .inl hb) (fun b hb => hb.imp id (fun hh => by subst hh; exact ⟨Nat.le_refl _, hsize⟩))
  refine hK _ _ ⟨_, _, r2.put d _ _ ?_⟩ (Below.of_grown hg' r.hB)
  have hfl := byteRows_flatten s.data.toList
  refine Rd.sl ⟨w.heap.size, 0, none⟩ s.size cap 1 _ (fun k => .int .u8 ((s.data.toList.getD k 0).toNat : Int)) (by simp [byteRows]) hge hmx (by intro q hq; simp [byteRows] at hq; obtain ⟨b, _, rfl⟩ := hq; rfl) (fun _ => rfl) (fun k dd hk => ?_) (fun k dd hk => ?_)
  · rw [hfl, List.getElem?_map] at hk
    cases hb : s.data.toList[k]? with
    | none => rw [hb] at hk; cases hk
    | some b =>
      refine ⟨?_, .inr (.inr rfl)⟩
      simp only [Nat.zero_add]
      refine heap_cell hnew _ _ ?_
      have hklt : k < s.data.size := by have := (List.getElem?_eq_some_iff.1 hb).1; simpa using this
      simp only [bytesRow]
      rw [Array.toList_append, List.getElem?_append_left (by simpa using hklt)]
      simp [hb]
  · rw [hfl, List.getElem?_map] at hk
    cases hb : s.data.toList[k]? with
    | none => rw [hb] at hk; cases hk
    | some b =>
      rw [hb] at hk; cases hk
      rw [List.getD_eq_getElem?_getD, hb]
      exact .int _ _
end
end Go.Vm
namespace Go.Vm
open Go.RowKit

def CallR (P : Program) (σ : St) (c : Call) (f : FuncId) (own : Bool) (res : List (List D)) : Prop :=
  ∃ rows, argRows P σ c.args.toList c.argTypes.toList rows ∧ SoundAt P f own rows res ∧ (argsStable P σ c.args.toList c.argTypes.toList = true ∨ resFlat own res)

/-- a step that may make or change objects -/
def Step (P : Program) (o : Oper) (d : Nat) (σ σ' : St) : Prop :=
  match o.op with
  | .alloc T => σ.fresh d = true ∧ zeroOk P T = true ∧ ∃ row, zrow P 12 T = some row ∧ σ' = σ.new d (.one (.bptr d 0)) [.box row]
  | .box T x => σ.fresh d = true ∧ gOf (look P σ T x) = true ∧ (unc (look P σ T x)).flat = true ∧ atsRef d (unc (look P σ T x)).cells = false ∧ σ' = σ.new d (.one (.bptr d 0)) [.box (unc (look P σ T x)).cells]
  | .buildSlice T n parts => σ.fresh d = true ∧ sliceT P T = true ∧ zeroOk P (elemT P T) = true ∧ 0 < P.cellsOf (elemT P T) ∧ parts.toList.length = n ∧ n * P.cellsOf (elemT P T) ≤ 16777216 ∧
      ∃ rows, BRows P σ (elemT P T) (P.cellsOf (elemT P T)) parts.toList 0 rows ∧ σ' = σ.new d (.one (.sref d 0 0 rows.length)) [.arr (P.cellsOf (elemT P T)) rows]
  | .makeSlice T x y => x = y ∧ σ.fresh d = true ∧ sliceT P T = true ∧ zeroOk P (elemT P T) = true ∧ 0 < P.cellsOf (elemT P T) ∧
      ∃ z zr k n, zrow P 12 (elemT P T) = some z ∧ zD z = some zr ∧ lkInt P σ x k (n : Nat) ∧ P.bytesOf (elemT P T) * n ≤ 281474976710656 ∧ n ≤ 9223372036854775807 ∧ σ' = σ.new d (.one (.sref d 0 0 n)) [.arr (P.cellsOf (elemT P T)) (List.replicate n zr)]
  | .call c =>
    (match c.callee with
     | .builtin .append => ∃ x y t, c.args = #[x, y] ∧ c.argTypes = #[t, t] ∧ gOf (look P σ t x) = true ∧ gOf (look P σ t y) = true ∧ sliceT P t = true ∧ zeroOk P (elemT P t) = true ∧ 0 < P.cellsOf (elemT P t) ∧
         ∃ olds news σ1, DstRows σ (unc (look P σ t x)) (P.cellsOf (elemT P t)) olds σ1 ∧ SrcRows σ (unc (look P σ t y)) (P.cellsOf (elemT P t)) news ∧ σ1.fresh d = true ∧
           (olds.length + news.length) * P.bytesOf (elemT P t) ≤ 140737488355328 ∧ olds.length + news.length ≤ 9223372036854775807 ∧ σ' = σ1.new d (.one (.sref d 0 0 (olds.length + news.length))) [.arr (P.cellsOf (elemT P t)) (olds ++ news)]
     | .value (.func f) => (∃ own res, CallR P σ c f own res ∧ σ' = σ.put d (resVd res)) ∨ (∃ res, CallR P σ c f true res ∧ σ.fresh d = true ∧ σ' = σ.new d (resV d res) (resObs res.flatten))
     | _ => ∃ v, StepV P σ o.op o.type v ∧ σ' = σ.put d v)
  | .convert S T x =>
      (∃ v, StepV P σ o.op o.type v ∧ σ' = σ.put d v) ∨
      (∃ l, gOf (look P σ S x) = true ∧ byteT P S = true ∧ strT P T = true ∧ SrcRows σ (unc (look P σ S x)) 1 (byteRows l) ∧ σ' = σ.put d (.one (.d (.str ⟨l.toArray⟩)))) ∨
      (∃ s, gOf (look P σ S x) = true ∧ strT P S = true ∧ byteT P T = true ∧ unc (look P σ S x) = .one (.d (.str s)) ∧ s.size ≤ 9223372036854775807 ∧ σ' = σ.put d (.one (.d (.sl 1 (byteRows s.data.toList)))))
  | _ => ∃ v, StepV P σ o.op o.type v ∧ σ' = σ.put d v

def StepSt (P : Program) (σ : St) (T : TypeId) (x y : Operand) (σ' : St) : Prop :=
  tyOk P T = true ∧ gOf (look P σ 0 x) = true ∧ gOf (look P σ T y) = true ∧ (unc (look P σ T y)).flat = true ∧
    (match unc (look P σ 0 x) with
     | .one (.bptr t c) => ∃ cells, σ.ob t 0 = .box cells ∧ (unc (look P σ T y)).cells.length = P.cellsOf T ∧ c + P.cellsOf T ≤ cells.length ∧ σ' = σ.setOb t 0 (.box (place cells c (unc (look P σ T y)).cells))
     | .one (.ptr t j i c) => ∃ size rows ds, σ.ob t j = .arr size rows ∧ i < rows.length ∧ rowOf σ (unc (look P σ T y)).cells = some ds ∧ atsStable (unc (look P σ T y)).cells = true ∧ ds.length = P.cellsOf T ∧ c + P.cellsOf T ≤ size ∧
         σ' = σ.setOb t j (.arr size (rows.set i (place (rows.getD i []) c ds)))
     | _ => False)

def gCond (want : Bool) : V → Option Bool
  | .one (.d (.bool b)) => some (b == want)
  | .cnd g (.one (.d (.bool b))) => some (g && (b == want))
  | .cnd false _ => some false
  | _ => none

/-- what a guarded operation yields where it is carried out -/
def StepGV (P : Program) (o : Oper) (σ : St) (v : V) : Prop :=
  match o.op with
  | .call c =>
    (match c.callee with
     | .value (.func f) => ∃ own res, CallR P σ c f own [res] ∧ v = resVd [res]
     | _ => ∃ v0, StepV P σ o.op o.type v0 ∧ gOf v0 = true ∧ v = unc v0 ∧ v.flat = true)
  | _ => ∃ v0, StepV P σ o.op o.type v0 ∧ gOf v0 = true ∧ v = unc v0 ∧ v.flat = true

def StepG (P : Program) (ops : Array Oper) (o : Oper) (σ σ' : St) : Prop :=
  match o.guard with
  | none =>
    (match o.dst with
     | some d => Step P o d σ σ'
     | none => (match o.op with | .store T x y => StepSt P σ T x y σ' | _ => False))
  | some (j, want) => ∃ dj d g v, (ops[j]?).bind (·.dst) = some dj ∧ dj < σ.length ∧ o.dst = some d ∧ gCond want (σ.get dj) = some g ∧ (g = true → StepGV P o σ v) ∧ σ' = σ.put d (.cnd g v)

def RunL (P : Program) (ops : Array Oper) : List Oper → St → (St → Prop) → Prop
  | [], σ, Q => Q σ
  | o :: rest, σ, Q => ∃ σ', StepG P ops o σ σ' ∧ RunL P ops rest σ' Q

section
variable {P : Program} {T0 : CS} {B : Nat} {σ : St} {a : Act} {w w' : World} {X X' : Nat → Prop} {h : Nat → Nat → Value}

theorem zrow_noRef (d : Nat) : ∀ (n : Nat) (t : TypeId) (row : List At), zrow P n t = some row → atsRef d row = false := by
  intro n
  induction n with
  | zero => intro t row hr; simp [zrow] at hr
  | succ n ih =>
    intro t row hr
    have happ : ∀ (rs : List (List At)), (∀ r ∈ rs, atsRef d r = false) → atsRef d rs.flatten = false := by
      intro rs hrs
      have app : ∀ (xs ys : List At), atsRef d xs = false → atsRef d ys = false → atsRef d (xs ++ ys) = false := by
        intro xs ys hx hy
        induction xs with
        | nil => exact hy
        | cons x xs ih2 => simp only [List.cons_append, atsRef, Bool.or_eq_false_iff] at hx ⊢; exact ⟨hx.1, ih2 hx.2⟩
      induction rs with
      | nil => rfl
      | cons r rs ih2 => rw [List.flatten_cons]; exact app _ _ (hrs r (by simp)) (ih2 (fun r hr => hrs r (by simp [hr])))
    rw [zrow] at hr
    split at hr
    · cases hr; rfl
    · cases hr; rfl
    · cases hr; rfl
    · cases hr; rfl
    · rename_i fs _
      simp only [Option.map_eq_some_iff] at hr
      obtain ⟨rs, hrs, rfl⟩ := hr
      refine happ rs ?_
      have : ∀ (l : List Field) (rs : List (List At)), l.mapM (fun f => zrow P n f.type) = some rs → ∀ r ∈ rs, atsRef d r = false := by
        intro l
        induction l with
        | nil => intro rs hh r hr; simp at hh; subst hh; cases hr
        | cons f l ih2 =>
          intro rs hh r hr
          simp only [List.mapM_cons, Option.bind_eq_bind, Option.bind_eq_some_iff] at hh
          obtain ⟨r0, hr0, rs', hrs', hh⟩ := hh
          simp at hh; subst hh
          rcases List.mem_cons.1 hr with rfl | hr
          · exact ih f.type _ hr0
          · exact ih2 rs' hrs' r hr
      exact this fs.toList rs hrs
    · simp only [Option.map_eq_some_iff] at hr
      obtain ⟨r0, hr0, rfl⟩ := hr
      exact happ _ (fun r hr => by rw [List.eq_of_mem_replicate hr]; exact ih _ _ hr0)
    · cases hr

theorem wp_of_value {o : Oper} {d : Nat} {v : V} (r : Rel T0 B σ a w X h) (hd : o.dst = some d) (hex : ∃ val, (execOp a.eval o).run P w = .ok (.value val) w ∧ VRel (Tof T0 X) h σ.ob w v val)
    {K : Act → World → Prop} {Q : Exit → Act → World → Prop} (hK : ∀ a' w', RelE T0 B (σ.put d v) a' w' → Below B w w' → K a' w') : o.wp P a w K Q := by
  obtain ⟨val, hrun, hv⟩ := hex
  unfold Oper.wp
  rw [hrun, Oper.upon_value, hd]
  exact hK _ _ ⟨X, h, r.put d v val hv⟩ (Below.refl _ _)

theorem step_sound (r : Rel T0 B σ a w X h) {o : Oper} {d : Nat} {σ' : St} (hd : o.dst = some d) (hs : Step P o d σ σ') {K : Act → World → Prop} {Q : Exit → Act → World → Prop}
    (hK : ∀ a' w', RelE T0 B σ' a' w' → Below B w w' → K a' w') : o.wp P a w K Q := by
  have dflt : (∃ v, StepV P σ o.op o.type v ∧ σ' = σ.put d v) → o.wp P a w K Q := by
    rintro ⟨v, hv, rfl⟩
    exact wp_of_value r hd (stepV_sound r hv) hK
  unfold Step at hs
  split at hs
  · rename_i T hop
    obtain ⟨hf, hz, row, hrow, rfl⟩ := hs
    exact sound_alloc r hop hd hf hz hrow (zrow_noRef d _ _ _ hrow) hK
  · rename_i T x hop
    obtain ⟨hf, hg, hfl, hr, rfl⟩ := hs
    exact sound_box r hop hd hf hg hfl hr hK
  · rename_i T n parts hop
    obtain ⟨hf, h1, h2, h3, h4, h5, rows, h6, rfl⟩ := hs
    exact sound_buildSlice r hop hd hf h1 h2 h3 h4 h5 h6 hK
  · rename_i T x y hop
    obtain ⟨rfl, hf, h1, h2, h3, z, zr, k, n, h4, h5, h6, h7, h8, rfl⟩ := hs
    exact sound_makeSlice r hop hd hf h1 h2 h4 h5 h3 h6 h7 h8 hK
  · rename_i c hop
    split at hs
    · rename_i hc
      obtain ⟨x, y, t, ha, hat, h1, h2, h3, h4, h5, olds, news, σ1, h6, h7, h8, h9, h10, rfl⟩ := hs
      refine sound_append r (t := t) (x := x) (y := y) ?_ hd h1 h2 h3 h4 h5 h6 h7 h8 h9 h10 hK
      rw [hop]
      obtain ⟨cc, ca, ct⟩ := c
      simp only at hc ha hat
      rw [hc, ha, hat]
    · rename_i f hc
      rcases hs with ⟨own, res, ⟨rows, ha, hs, hor⟩, rfl⟩ | ⟨res, ⟨rows, ha, hs, hor⟩, hf, rfl⟩
      · rcases hor with hor | hor
        · exact sound_callRd r hop hc hd ha true (fun _ => hor) (fun hh => by cases hh) hs hK
        · exact sound_callRd r hop hc hd ha false (fun hh => by cases hh) (fun _ => hor) hs hK
      · rcases hor with hor | hor
        · exact sound_callOwn r hop hc hd hf ha true (fun _ => hor) (fun hh => by cases hh) hs hK
        · exact sound_callOwn r hop hc hd hf ha false (fun hh => by cases hh) (fun _ => hor) hs hK
    · exact dflt hs
  · rename_i S T x hop
    rcases hs with hs | ⟨l, h1, h2, h3, h4, rfl⟩ | ⟨s, h1, h2, h3, h4, h5, rfl⟩
    · exact dflt hs
    · exact wp_of_value r hd (sound_bytesToString r hop h1 h2 h3 h4) hK
    · exact sound_stringToBytes r hop hd h1 h2 h3 h4 h5 hK
  · exact dflt hs

theorem stepSt_sound (r : Rel T0 B σ a w X h) {o : Oper} {T : TypeId} {x y : Operand} {σ' : St} (hop : o.op = .store T x y) (hd : o.dst = none) (hs : StepSt P σ T x y σ') {K : Act → World → Prop} {Q : Exit → Act → World → Prop}
    (hK : ∀ a' w', RelE T0 B σ' a' w' → Below B w w' → K a' w') : o.wp P a w K Q := by
  obtain ⟨ht, hgx, hgy, hfl, hs⟩ := hs
  split at hs
  · rename_i t c hx
    obtain ⟨cells, ho, hl, hle, rfl⟩ := hs
    exact sound_storeBox r hop hd ht hgx hgy hx ho hfl hl hle hK
  · rename_i t j i c hx
    obtain ⟨size, rows, ds, ho, hi, hds, hst, hl, hle, rfl⟩ := hs
    exact sound_storeArr r hop hd ht hgx hgy hx ho hi hfl hds hst hl hle hK
  · exact hs.elim

theorem unc_flat_v1 {T : CS} {ob : Nat → Nat → Ob} {v : V} {val : Value} (hf : (unc v).flat = true) (hv : VRel T h ob w (unc v) val) : V1Rel T h ob w (unc v) val := by
  cases hu : unc v with
  | one x => rw [hu] at hv; exact hv
  | agg xs => rw [hu] at hv; exact hv
  | any => rw [hu] at hf; cases hf
  | tup xs => rw [hu] at hf; cases hf
  | cnd g x => rw [hu] at hf; cases hf

theorem gCond_sound (r : Rel T0 B σ a w X h) {ops : Array Oper} {o : Oper} {j dj : Nat} {want g : Bool} (hgd : o.guard = some (j, want)) (hdj : (ops[j]?).bind (·.dst) = some dj) (hlt : dj < σ.length) (hg : gCond want (σ.get dj) = some g) :
    Region.wanted o (yielded ops a.tmps) = g := by
  have hsz : dj < a.tmps.size := by rw [r.size]; exact hlt
  have hv := r.slot dj hlt
  have hgetD : a.tmps.getD dj undef = a.tmps[dj] := by simp [hsz]
  rw [hgetD] at hv
  have hy : yielded ops a.tmps j = (match a.tmps[dj] with | .bool b => some b | _ => none) := by
    unfold yielded
    rw [hdj]
    simp only [Option.bind_some, Array.getElem?_eq_getElem hsz]
    cases a.tmps[dj] <;> rfl
  simp only [Region.wanted, hgd, hy]
  unfold gCond at hg
  split at hg
  · rename_i b hgv
    rw [hgv] at hv
    rw [rd_bool hv]
    cases hg
    cases b <;> cases want <;> rfl
  · rename_i g0 b hgv
    rw [hgv] at hv
    cases hg
    cases g0 with
    | true =>
      rw [rd_bool (hv.1 rfl)]
      cases b <;> cases want <;> rfl
    | false =>
      rw [hv.2 rfl]
      simp [undef]
  · rename_i hgv
    rw [hgv] at hv
    cases hg
    rw [hv.2 rfl]
    simp [undef]
  · cases hg

theorem stepG_sound (r : Rel T0 B σ a w X h) {ops : Array Oper} {o : Oper} {σ' : St} (hs : StepG P ops o σ σ') {K : Act → World → Prop} {Q : Exit → Act → World → Prop}
    (hK : ∀ a' w', RelE T0 B σ' a' w' → Below B w w' → K a' w') : if Region.wanted o (yielded ops a.tmps) then o.wp P a w K Q else K (a.put o.dst undef) w := by
  unfold StepG at hs
  split at hs
  · rename_i hg
    have hw : Region.wanted o (yielded ops a.tmps) = true := by simp [Region.wanted, hg]
    rw [if_pos hw]
    split at hs
    · rename_i d hd; exact step_sound r hd hs hK
    · rename_i hd
      split at hs
      · rename_i T x y hop; exact stepSt_sound r hop hd hs hK
      · exact hs.elim
  · rename_i j want hg
    obtain ⟨dj, d, g, v, hdj, hlt, hd, hgc, hs, rfl⟩ := hs
    rw [gCond_sound r hg hdj hlt hgc]
    cases g with
    | false =>
      simp only [Bool.false_eq_true, if_false]
      rw [hd]
      exact hK _ _ ⟨X, h, r.put d _ _ ⟨(fun hh => by cases hh), fun _ => rfl⟩⟩ (Below.refl _ _)
    | true =>
      simp only [if_true]
      have hs1 := hs rfl
      clear hs
      have dflt : (∃ v0, StepV P σ o.op o.type v0 ∧ gOf v0 = true ∧ v = unc v0 ∧ v.flat = true) → o.wp P a w K Q := by
        rintro ⟨v0, hv0, hg0, rfl, hfl⟩
        obtain ⟨val, hrun, hv⟩ := stepV_sound r hv0
        refine wp_of_value (v := .cnd true (unc v0)) r hd ⟨val, hrun, ⟨fun _ => unc_flat_v1 hfl (hv.unc hg0), fun hh => by cases hh⟩⟩ hK
      unfold StepGV at hs1
      split at hs1
      · rename_i c hop
        split at hs1
        · rename_i f hc
          obtain ⟨own, res, ⟨rows, ha, hs, hor⟩, rfl⟩ := hs1
          have fin : ∀ a' w', RelE T0 B (σ.put d (resVd [res])) a' w' → Below B w w' → K a' w' := by
            rintro a' w' ⟨X', h', r'⟩ hb
            refine hK a' w' ⟨X', h', ?_⟩ hb
            -- the slot holds what the contract gives: it may be taken as given under the guard
            refine ⟨by rw [r'.size, St.put_length, St.put_length], r'.defers, r'.hB, r'.hX, r'.hT, fun t ht => ?_, fun t j => ?_, fun t j b => ?_, fun t j t' j' b => ?_⟩
            · rw [St.put_length] at ht
              have h0 := r'.slot t (by rw [St.put_length]; exact ht)
              rw [St.ob_put] at h0 ⊢
              rw [St.get_put] at h0 ⊢
              by_cases hh : t = d ∧ d < σ.length
              · rw [if_pos hh] at h0 ⊢
                refine ⟨fun _ => ?_, fun hh => by cases hh⟩
                have hfl : (unc (vOf (res.map At.d))).flat = true := by
                  match res.map At.d with
                  | [] => rfl
                  | [x] => rfl
                  | x :: y :: xs => rfl
                have hu : unc (vOf (res.map At.d)) = vOf (res.map At.d) := by
                  match res.map At.d with
                  | [] => rfl
                  | [x] => rfl
                  | x :: y :: xs => rfl
                have := unc_flat_v1 (v := vOf (res.map At.d)) hfl (by rw [hu]; exact h0)
                rw [hu] at this; exact this
              · rw [if_neg hh] at h0 ⊢; exact h0
            · have := r'.obj t j; rw [St.ob_put] at this ⊢; exact this
            · have := r'.own t j b; rw [St.ob_put] at this ⊢; exact this
            · have := r'.inj t j t' j' b; rw [St.ob_put] at this ⊢; exact this
          rcases hor with hor | hor
          · exact sound_callRd r hop hc hd ha true (fun _ => hor) (fun hh => by cases hh) hs fin
          · exact sound_callRd r hop hc hd ha false (fun hh => by cases hh) (fun _ => hor) hs fin
        · exact dflt hs1
      · exact dflt hs1

theorem runL_sound {ops : Array Oper} : ∀ {l : List Oper} {σ : St} {a : Act} {w : World} {Q : St → Prop} {Q' : Exit → Act → World → Prop}, RunL P ops l σ Q → RelE T0 B σ a w →
    (∀ σ' a' w', Q σ' → RelE T0 B σ' a' w' → Below B w w' → Q' .normal a' w') → wpList P ops Q' l a w
  | [], σ, a, w, Q, Q', hr, hrel, hK => hK σ a w hr hrel (Below.refl _ _)
  | o :: l, σ, a, w, Q, Q', ⟨σ', hs, hr⟩, ⟨X, h, r⟩, hK => by
    refine wpList_step fun K hKK => ?_
    exact stepG_sound r hs (fun a' w' hrel hb => hKK _ _ (runL_sound hr hrel (fun σ2 a2 w2 hq hr2 hb2 => hK σ2 a2 w2 hq hr2 (hb.trans hb2))))
end
end Go.Vm
namespace Go.Vm
open Go.RowKit

/-- whatever frame and world the state speaks of: the code comes out as Q says -/
def AWP (P : Program) (c : Code) (Q : Exit → St → Prop) (σ : St) : Prop :=
  ∀ (T0 : CS) (B : Nat) (a : Act) (w : World), RelE T0 B σ a w → c.wp P (fun e a' w' => ∃ σ', Q e σ' ∧ RelE T0 B σ' a' w' ∧ Below B w w') a w

/-- a state that says less -/
def Wk (σ σ' : St) : Prop := ∀ (T0 : CS) (B : Nat) (a : Act) (w : World), RelE T0 B σ a w → RelE T0 B σ' a w

def thenA (next : St → Prop) (Q : Exit → St → Prop) : Exit → St → Prop
  | .normal, σ => next σ
  | e, σ => Q e σ
def inBlockA (id : Nat) (Q : Exit → St → Prop) : Exit → St → Prop
  | .exit id', σ => if id' = id then Q .normal σ else Q (.exit id') σ
  | e, σ => Q e σ

section
variable {P : Program} {Q : Exit → St → Prop} {σ : St}

theorem Wk.refl (σ : St) : Wk σ σ := fun _ _ _ _ h => h
theorem Wk.trans {σ σ' σ'' : St} (h : Wk σ σ') (k : Wk σ' σ'') : Wk σ σ'' := fun _ _ _ _ r => k _ _ _ _ (h _ _ _ _ r)
theorem awp_weaken {c : Code} {σ' : St} (h : Wk σ σ') (k : AWP P c Q σ') : AWP P c Q σ := fun T0 B a w r => k T0 B a w (h T0 B a w r)
theorem awp_mono {c : Code} {Q' : Exit → St → Prop} (h : ∀ e σ, Q e σ → Q' e σ) (k : AWP P c Q σ) : AWP P c Q' σ :=
  fun T0 B a w r => wp_mono (k T0 B a w r) fun e _ _ ⟨σ', hq, hr⟩ => ⟨σ', h e σ' hq, hr⟩
theorem awp_skip (h : Q .normal σ) : AWP P .skip Q σ := fun _ B _ w r => wp_skip ⟨σ, h, r, Below.refl B w⟩
theorem awp_exit {id : Nat} (h : Q (.exit id) σ) : AWP P (.exit id) Q σ := fun _ B _ w r => wp_exit ⟨σ, h, r, Below.refl B w⟩
theorem awp_ret (h : Q .ret σ) : AWP P .ret Q σ := fun _ B _ w r => wp_ret ⟨σ, h, r, Below.refl B w⟩
theorem awp_region {id : Nat} {l : List Oper} (h : RunL P l.toArray l σ (Q .normal)) : AWP P (.region id l.toArray false) Q σ :=
  fun _ _ _ _ r => wp_region_lit (runL_sound h r fun σ' _ _ hq hr hb => ⟨σ', hq, hr, hb⟩)
theorem awp_seq {x y : Code} (h : AWP P x (thenA (AWP P y Q) Q) σ) : AWP P (.seq x y) Q σ := by
  intro T0 B a w r
  refine wp_seq (wp_mono (h T0 B a w r) ?_)
  rintro e a' w' ⟨σ', hq, hr, hb⟩
  cases e with
  | normal => exact wp_mono (hq T0 B a' w' hr) fun e _ _ ⟨σ2, h1, h2, h3⟩ => ⟨σ2, h1, h2, hb.trans h3⟩
  | exit id => exact ⟨σ', hq, hr, hb⟩
  | goto l => exact ⟨σ', hq, hr, hb⟩
  | ret => exact ⟨σ', hq, hr, hb⟩
  | panic ch => exact ⟨σ', hq, hr, hb⟩
  | outgrown => exact ⟨σ', hq, hr, hb⟩
theorem awp_cond {c : Operand} {x y : Code} {b : Bool} (hc : look P σ 0 c = .one (.d (.bool b))) (ht : b = true → AWP P x Q σ) (hf : b = false → AWP P y Q σ) : AWP P (.cond c x y) Q σ := by
  intro T0 B a w r
  obtain ⟨X, h, rr⟩ := r
  have hv := rr.look (P := P) 0 c
  rw [hc] at hv
  exact wp_cond_split (rd_bool hv) (fun hb => ht hb T0 B a w ⟨X, h, rr⟩) (fun hb => hf hb T0 B a w ⟨X, h, rr⟩)
theorem awp_block {id : Nat} {c : Code} (h : AWP P c (inBlockA id Q) σ) : AWP P (.block id c) Q σ := by
  intro T0 B a w r
  refine wp_block (wp_mono (h T0 B a w r) ?_)
  rintro e a' w' ⟨σ', hq, hr, hb⟩
  cases e with
  | exit id' =>
    simp only [inBlockA] at hq
    simp only [Exit.inBlock]
    split at hq
    · rename_i hh; rw [if_pos hh]; exact ⟨σ', hq, hr, hb⟩
    · rename_i hh; rw [if_neg hh]; exact ⟨σ', hq, hr, hb⟩
  | normal => exact ⟨σ', hq, hr, hb⟩
  | goto l => exact ⟨σ', hq, hr, hb⟩
  | ret => exact ⟨σ', hq, hr, hb⟩
  | panic ch => exact ⟨σ', hq, hr, hb⟩
  | outgrown => exact ⟨σ', hq, hr, hb⟩

/-- a loop: a family of states at its head, a measure that each round lowers -/
theorem awp_loop {c : Code} {ι : Type} (S : ι → St) (μ : ι → Nat) (i0 : ι) (h0 : Wk σ (S i0))
    (round : ∀ i, AWP P c (thenA (fun σ' => ∃ i', μ i' < μ i ∧ Wk σ' (S i')) Q) (S i)) : AWP P (.loop c) Q σ := by
  intro T0 B a w r b k cs
  have key : ∀ n i a w, μ i = n → RelE T0 B (S i) a w →
      ∃ e a' w', (∃ σ', Q e σ' ∧ RelE T0 B σ' a' w' ∧ Below B w w') ∧ Arrives P (lone (b.at a (.code c :: .inLoop c :: k)) cs w) b k cs e a' w' := by
    intro n
    induction n using Nat.strongRecOn with
    | _ n ih =>
      intro i a w hn hr
      obtain ⟨e, a₁, w₁, ⟨σ₁, hq, hr₁, hb₁⟩, harr⟩ := round i T0 B a w hr b (.inLoop c :: k) cs
      cases e with
      | normal =>
        obtain ⟨i', hlt, hwk⟩ := hq
        obtain ⟨e₂, a₂, w₂, ⟨σ₂, hq₂, hr₂, hb₂⟩, harr₂⟩ := ih (μ i') (hn ▸ hlt) i' a₁ w₁ rfl (hwk T0 B a₁ w₁ hr₁)
        exact ⟨e₂, a₂, w₂, ⟨σ₂, hq₂, hr₂, hb₁.trans hb₂⟩, .of_steps (Steps.trans harr (.one step_inLoop)) harr₂⟩
      | exit id => exact ⟨_, a₁, w₁, ⟨σ₁, hq, hr₁, hb₁⟩, .pass (x := .inLoop c) rfl (fun _ _ => .inl (by simp)) harr⟩
      | goto l => exact ⟨_, a₁, w₁, ⟨σ₁, hq, hr₁, hb₁⟩, .pass (x := .inLoop c) rfl (fun _ _ => .inl (by simp)) harr⟩
      | ret => exact ⟨_, a₁, w₁, ⟨σ₁, hq, hr₁, hb₁⟩, .pass (x := .inLoop c) rfl (fun _ _ => .inl (by simp)) harr⟩
      | panic ch => exact ⟨_, a₁, w₁, ⟨σ₁, hq, hr₁, hb₁⟩, .pass (x := .inLoop c) rfl (fun _ _ => .inl (by simp)) harr⟩
      | outgrown => exact ⟨_, a₁, w₁, ⟨σ₁, hq, hr₁, hb₁⟩, .pass (x := .inLoop c) rfl (fun _ _ => .inl (by simp)) harr⟩
  obtain ⟨e, a', w', hq, harr⟩ := key _ i0 a w rfl (h0 T0 B a w r)
  exact ⟨e, a', w', hq, .of_steps (.one step_loop) harr⟩
end

/-! ### entering a function, and leaving it -/

def argV : List (List D) → St
  | [] => []
  | r :: rs => (vOf (r.map .d), []) :: argV rs
def initSt (n : Nat) (args : List (List D)) : St := argV args ++ List.replicate (n - args.length) (V.any, [])

/-- the cells of a result variable -/
def ResCells (P : Program) (σ : St) : ResultVar → List At → Prop
  | .tmp t, xs => (σ.get t = vOf xs) ∧ t < σ.length
  | .cell t T, xs => ∃ u c cells, σ.get t = .one (.bptr u c) ∧ σ.ob u 0 = .box cells ∧ tyOk P T = true ∧ aggT P T = true ∧ P.cellsOf T ≠ 1 ∧ c + P.cellsOf T ≤ cells.length ∧ xs = cut cells c (P.cellsOf T)
def AllRes (P : Program) (σ : St) : List ResultVar → List (List At) → Prop
  | [], xss => xss = []
  | r :: rs, xss => ∃ xs rest, ResCells P σ r xs ∧ AllRes P σ rs rest ∧ xss = xs :: rest

/-- the result, read where the call's own slices are given away -/
def rdRows (σ : St) : List (List At) → Option (List (List D))
  | [] => some []
  | xs :: rest => (match rowOf σ xs, rdRows σ rest with | some r, some rs => some (r :: rs) | _, _ => none)
/-- a cell of the result that is the caller's own -/
def ownAt (σ : St) : At → Option D
  | .d (.sl _ _) => none
  | .d x => some x
  | .nil s => some (.sl s [])
  | .sref t j lo len => (match σ.ob t j with | .arr size rows => if lo = 0 ∧ len = rows.length then some (.sl size rows) else none | _ => none)
  | _ => none
def ownRow (σ : St) : List At → Option (List D)
  | [] => some []
  | x :: xs => (match ownAt σ x, ownRow σ xs with | some d, some ds => some (d :: ds) | _, _ => none)
def ownRows (σ : St) : List (List At) → Option (List (List D))
  | [] => some []
  | xs :: rest => (match ownRow σ xs, ownRows σ rest with | some r, some rs => some (r :: rs) | _, _ => none)
def srefs : List At → List (Nat × Nat)
  | [] => []
  | .sref t j _ _ :: xs => (t, j) :: srefs xs
  | _ :: xs => srefs xs

/-- what the body's end owes: the result reads as res -/
def RetR (P : Program) (fn : Func) (own : Bool) (res : List (List D)) (e : Exit) (σ : St) : Prop :=
  (e = .ret ∨ e = .normal) ∧ ∃ xss, AllRes P σ fn.results.toList xss ∧ (if own then ownRows σ xss = some res ∧ (srefs xss.flatten).Nodup else rdRows σ xss = some res)
end Go.Vm
namespace Go.Vm
open Go.RowKit
section
variable {P : Program} {T0 : CS} {B : Nat} {σ : St} {a : Act} {w w' : World} {X X' : Nat → Prop} {h : Nat → Nat → Value}

theorem argV_get : ∀ (args : List (List D)) (t : Nat), (argV args)[t]? = (args[t]?).map fun r => (vOf (r.map .d), [])
  | [], t => by simp [argV]
  | r :: rs, 0 => by simp [argV]
  | r :: rs, t + 1 => by simpa [argV] using argV_get rs t
theorem argV_length (args : List (List D)) : (argV args).length = args.length := by
  induction args with
  | nil => rfl
  | cons r rs ih => simp [argV, ih]

theorem init_rel {T : CS} {n : Nat} {args : List (List D)} {vals : List Value} (hT : ∀ b k, T b k → b < w.heap.size) (ha : All2 (fun v row => ∃ cs, Formed v cs ∧ All2 (Rd T w) cs row) vals args) :
    RelE T w.heap.size (initSt n args) { tmps := vals.toArray ++ Array.replicate (n - vals.toArray.size) undef, defers := [] } w := by
  have hl := ha.length
  refine ⟨fun _ => False, fun _ _ => undef, ?_⟩
  have hob : ∀ t j, (initSt n args).ob t j = .none := by
    intro t j
    unfold St.ob initSt
    rcases Nat.lt_or_ge t args.length with h | h
    · rw [List.getElem?_append_left (by rw [argV_length]; exact h), argV_get, List.getElem?_eq_getElem h]
      simp [obIn]
    · rw [List.getElem?_append_right (by rw [argV_length]; exact h), List.getElem?_replicate]
      split
      · rename_i e he
        split at he
        · cases he; simp [obIn]
        · cases he
      · rfl
  have hTT : ∀ b k v, T b k → w.cell? ⟨b, k, none⟩ = some v → w.cell? ⟨b, k, none⟩ = some v ∧ Tof T (fun _ => False) b k := fun b k v hb hc => ⟨hc, .inl hb⟩
  refine ⟨by simp [initSt, argV_length, hl], rfl, Nat.le_refl _, (fun b hb => hb.elim), hT, fun t ht => ?_, fun t j => by rw [hob]; trivial, fun t j b hne => absurd (hob t j) hne, fun t j t' j' b hne => absurd (hob t j) hne⟩
  unfold St.get initSt
  rcases Nat.lt_or_ge t args.length with hlt | hge
  · rw [List.getElem?_append_left (by rw [argV_length]; exact hlt), argV_get, List.getElem?_eq_getElem hlt]
    obtain ⟨v, hv, cs, hf, hal⟩ := ha.get' t args[t] (List.getElem?_eq_getElem hlt)
    have hval : (vals.toArray ++ Array.replicate (n - vals.toArray.size) undef).getD t undef = v := by
      rw [Array.getD_eq_getD_getElem?, Array.getElem?_append_left (by simp; omega)]
      simp [hv]
    simp only [hval]
    exact (vOf_rel hf (map_d_rel (hal.imp fun _ _ => Rd.mono hTT))).up
  · rw [List.getElem?_append_right (by rw [argV_length]; exact hge), List.getElem?_replicate]
    split
    · rename_i e he
      split at he
      · cases he; trivial
      · cases he
    · trivial

theorem vOf_inv {T : CS} {ob : Nat → Nat → Ob} {xs : List At} {v : Value} (hv : VRel T h ob w (vOf xs) v) : ∃ cs, Formed v cs ∧ All2 (AtRel T h ob w) xs cs := by
  match xs, hv with
  | [], hv =>
    obtain ⟨cs, rfl, hal⟩ := hv
    exact ⟨cs.toList, .inr ⟨by rw [← hal.length]; simp, by simp⟩, hal⟩
  | [x], hv => exact ⟨[v], .inl ⟨v, rfl, rfl, AtRel.oneCell hv⟩, .cons hv .nil⟩
  | x :: y :: xs, hv =>
    obtain ⟨cs, rfl, hal⟩ := hv
    exact ⟨cs.toList, .inr ⟨by rw [← hal.length]; simp, by simp⟩, hal⟩

theorem res_run (r : Rel T0 B σ a w X h) : ∀ {rs : List ResultVar} {xss : List (List At)}, AllRes P σ rs xss →
    ∃ vs css, (rs.mapM (m := Sem) fun | .tmp t => pure (a.tmps.getD t undef) | .cell u t => do loadVar t (← asAddr (a.tmps.getD u undef))).run P w = .ok vs w ∧ All2 Formed vs css ∧ All2 (fun xs cs => All2 (AtRel (Tof T0 X) h σ.ob w) xs cs) xss css
  | [], xss, hr => by cases hr; exact ⟨[], [], by simp, .nil, .nil⟩
  | rv :: rs, xss, hr => by
    obtain ⟨xs, rest, h1, h2, rfl⟩ := hr
    obtain ⟨vs, css, hrun, hf, hal⟩ := res_run r h2
    have one : ∃ v cs, (match rv with | .tmp t => (pure (a.tmps.getD t undef) : Sem Value) | .cell u t => do loadVar t (← asAddr (a.tmps.getD u undef))).run P w = .ok v w ∧ Formed v cs ∧ All2 (AtRel (Tof T0 X) h σ.ob w) xs cs := by
      cases rv with
      | tmp t =>
        obtain ⟨hg, hlt⟩ := h1
        have hv := r.slot t hlt
        rw [hg] at hv
        obtain ⟨cs, hf, hal⟩ := vOf_inv hv
        exact ⟨_, cs, by simp, hf, hal⟩
      | cell t T =>
        obtain ⟨u, c, cells, hg, ho, hty, hag, hne, hle, rfl⟩ := h1
        have hv := r.get t
        rw [hg] at hv
        obtain ⟨b, cs, e, hb, he, hh, hal⟩ := r.box ho hv
        have hlen := hal.length
        obtain ⟨val, hld, hagg, _⟩ := run_ld (P := P) (w := w) hty (b := b) (off := c) (cs := cut cs.toList c (P.cellsOf T)) (cut_length _ _ _ (by omega)) (fun j u hu => heap_cell hh _ _ (cut_get _ _ _ _ _ hu))
        refine ⟨val, cut cs.toList c (P.cellsOf T), ?_, .inr ⟨by rw [cut_length _ _ _ (by omega)]; exact hne, hagg hag⟩, hal.cut _ _⟩
        simp only [Instr.loadAt, Instr.sureAddr, Sem.run_bind, Sem.run_pure, Result.andThen_ok] at hld
        simp only [he, asAddr, Sem.run_bind, Sem.run_pure, Result.andThen_ok]
        exact hld
    obtain ⟨v, cs, hrun1, hf1, hal1⟩ := one
    refine ⟨v :: vs, cs :: css, ?_, .cons hf1 hf, .cons hal1 hal⟩
    simp only [List.mapM_cons, Sem.run_bind, hrun1, Result.andThen_ok, hrun, Sem.run_pure]

theorem results_run (r : Rel T0 B σ a w X h) {fn : Func} {xss : List (List At)} (hr : AllRes P σ fn.results.toList xss) :
    ∃ vs css, (results fn a.tmps).run P w = .ok (retOf vs) w ∧ All2 Formed vs css ∧ All2 (fun xs cs => All2 (AtRel (Tof T0 X) h σ.ob w) xs cs) xss css := by
  obtain ⟨vs, css, hrun, hf, hal⟩ := res_run r hr
  refine ⟨vs, css, ?_, hf, hal⟩
  unfold results
  rw [Array.mapM_eq_mapM_toList]
  change ((((fn.results.toList.mapM (m := Sem) fun | .tmp t => pure (a.tmps.getD t undef) | .cell u t => do loadVar t (← asAddr (a.tmps.getD u undef))) >>= fun l => pure l.toArray) >>= fun (vs : Array Value) => pure (if h : vs.size = 1 then vs[0] else .tuple vs))).run P w = _
  simp only [Sem.run_bind, hrun, Result.andThen_ok, Sem.run_pure]
  congr 1
  match vs with
  | [] => rfl
  | [v] => rfl
  | v :: v' :: vs => simp [retOf]

theorem rdRows_cells (r : Rel T0 B σ a w X h) {T : CS} (hT : ∀ b k, Tall T0 X h σ b k → T b k) : ∀ {xss : List (List At)} {css : List (List Value)} {res : List (List D)}, rdRows σ xss = some res → All2 (fun xs cs => All2 (AtRel (Tof T0 X) h σ.ob w) xs cs) xss css →
    All2 (fun cs row => All2 (CellRel false T w) cs row) css res
  | [], css, res, hr, hal => by cases hal; simp [rdRows] at hr; subst hr; exact .nil
  | xs :: xss, css, res, hr, hal => by
    cases hal with
    | cons h1 hal =>
      simp only [rdRows] at hr
      split at hr
      · rename_i row rs hrow hrs
        cases hr
        refine .cons ?_ (rdRows_cells r hT hrs hal)
        have := r.rowOf false hrow h1 (fun hh => by cases hh)
        refine this.imp fun v d hd => ?_
        simp only [CellRel, Bool.false_eq_true, if_false] at hd ⊢
        exact Rd.mono (fun b k v hb hc => ⟨hc, hT b k hb⟩) hd
      · cases hr

theorem ownRow_all : ∀ {xs : List At} {ds : List D}, ownRow σ xs = some ds → All2 (fun x d => ownAt σ x = some d) xs ds
  | [], ds, hr => by simp [ownRow] at hr; subst hr; exact .nil
  | x :: xs, ds, hr => by
    simp only [ownRow] at hr
    split at hr
    · rename_i d ds' h1 h2; cases hr; exact .cons h1 (ownRow_all h2)
    · cases hr
theorem ownRows_all : ∀ {xss : List (List At)} {res : List (List D)}, ownRows σ xss = some res → All2 (fun xs row => All2 (fun x d => ownAt σ x = some d) xs row) xss res
  | [], res, hr => by simp [ownRows] at hr; subst hr; exact .nil
  | xs :: xss, res, hr => by
    simp only [ownRows] at hr
    split at hr
    · rename_i d ds' h1 h2; cases hr; exact .cons (ownRow_all h1) (ownRows_all h2)
    · cases hr

theorem ownAt_cell (r : Rel T0 B σ a w X h) {x : At} {d : D} {v : Value} (hx : ownAt σ x = some d) (hv : AtRel (Tof T0 X) h σ.ob w x v) : CellOwn (Tof T0 X) w v d ∧ (∀ b, d.scalar = false → blk v = some b → ∃ t j lo len, x = .sref t j lo len ∧ σ.ob t j ≠ .none ∧ blk (h t j) = some b) := by
  cases x with
  | d x =>
    cases x with
    | sl s rows => simp [ownAt] at hx
    | int k n => simp [ownAt] at hx; subst hx; exact ⟨hv, fun b hb => by cases hb⟩
    | bool b => simp [ownAt] at hx; subst hx; exact ⟨hv, fun b hb => by cases hb⟩
    | str s => simp [ownAt] at hx; subst hx; exact ⟨hv, fun b hb => by cases hb⟩
  | nil s =>
    simp [ownAt] at hx; subst hx
    cases hv
    exact ⟨⟨0, [], World.ownsRow_nil w 0 0 s, (by intro q hq; cases hq), .nil⟩, fun b _ hb => by cases hb⟩
  | sref t j lo len =>
    simp only [ownAt] at hx
    split at hx
    · rename_i size rows ho
      split at hx
      · rename_i hc
        obtain ⟨rfl, rfl⟩ := hc
        cases hx
        obtain ⟨_, hfull, _⟩ := hv.2 size rows ho
        have he := hfull rfl rfl
        have h0 := r.obj t j
        rw [ho] at h0
        refine ⟨by rw [he]; exact h0, fun b _ hb => ⟨t, j, 0, rows.length, rfl, by rw [ho]; simp, by rw [← he]; exact hb⟩⟩
      · cases hx
    · cases hx
  | any => simp [ownAt] at hx
  | ptr => simp [ownAt] at hx
  | bptr => simp [ownAt] at hx
  | rptr => simp [ownAt] at hx

theorem srefs_index : ∀ (xs : List At) (i j : Nat) (t u lo len lo' len' : Nat), (srefs xs).Nodup → xs[i]? = some (.sref t u lo len) → xs[j]? = some (.sref t u lo' len') → i = j := by
  intro xs
  induction xs with
  | nil => intro i j t u lo len lo' len' _ hi; simp at hi
  | cons x xs ih =>
    intro i j t u lo len lo' len' hnd hi hj
    have mem : ∀ (k lo len : Nat), xs[k]? = some (At.sref t u lo len) → (t, u) ∈ srefs xs := by
      intro k lo len hk
      clear ih hnd hi hj
      induction xs generalizing k with
      | nil => simp at hk
      | cons y ys ih2 =>
        cases k with
        | zero => simp at hk; subst hk; simp [srefs]
        | succ k =>
          have := ih2 k (by simpa using hk)
          cases y <;> simp [srefs, this]
    have nd' : (srefs xs).Nodup := by
      cases x <;> simp only [srefs] at hnd <;> first | exact hnd | exact (List.nodup_cons.1 hnd).2
    cases i with
    | zero =>
      simp at hi; subst hi
      cases j with
      | zero => rfl
      | succ j =>
        simp only [srefs] at hnd
        exact absurd (mem j lo' len' (by simpa using hj)) (List.nodup_cons.1 hnd).1
    | succ i =>
      cases j with
      | zero =>
        simp at hj; subst hj
        simp only [srefs] at hnd
        exact absurd (mem i lo len (by simpa using hi)) (List.nodup_cons.1 hnd).1
      | succ j => rw [ih i j t u lo len lo' len' nd' (by simpa using hi) (by simpa using hj)]

/-- FROM THE BODY's WALK TO THE CONTRACT -/
theorem sound_of_awp {f : FuncId} {fn : Func} {c : Code} (hf : P.funcs[f]? = some fn) (hb : fn.body = some c) (hok : fnOk P f = true) {own : Bool} {args res : List (List D)}
    (hw : AWP P c (RetR P fn own res) (initSt fn.ntmps args)) : SoundAt P f own args res := by
  refine ⟨hok, fun T w vals hT hargs => calls_of_wp hf hb ?_⟩
  refine wp_mono (hw T w.heap.size _ w (init_rel hT hargs)) ?_
  rintro e a' w' ⟨σ', ⟨he, xss, hres, hcell⟩, ⟨X, h, r⟩, hbel⟩
  obtain ⟨vs, css, hrun, hform, hal⟩ := results_run r hres
  have goal : a'.defers = [] ∧ ∃ v, (results fn a'.tmps).run P w' = .ok v w' ∧ Post own T w res (.returned v) w' := by
    refine ⟨r.defers, _, hrun, ?_⟩
    cases own with
    | false =>
      refine ⟨vs, css, fun b => w.heap.size ≤ b ∧ b < w'.heap.size, rfl, hbel, fun b hb => hb, hform, ?_, fun hh => by cases hh⟩
      refine rdRows_cells r (fun b k hb => ?_) (by simpa using hcell) hal
      rcases hb with hb | ⟨t, j, size, rows, ho, hb, _⟩
      · rcases hb with hb | hb
        · exact .inl hb
        · exact .inr (r.hX b hb)
      · have := r.own t j b (by rw [ho]; simp) hb
        exact .inr ⟨this.1, this.2.2⟩
    | true =>
      simp only [if_true] at hcell
      obtain ⟨hown, hnd⟩ := hcell
      have hall := ownRows_all hown
      have hflat1 : All2 (fun x d => ownAt σ' x = some d) xss.flatten res.flatten := all2_flatten hall
      have hflat2 : All2 (AtRel (Tof T X) h σ'.ob w') xss.flatten css.flatten := all2_flatten hal
      refine ⟨vs, css, X, rfl, hbel, r.hX, hform, ?_, fun _ => ⟨fun i cc d b hc hd hsc hb => ?_, fun i j cc cc' d d' b hc hd hc' hd' hsc hsc' hb hb' => ?_⟩⟩
      · clear hflat1 hflat2 hform hrun hres hown hnd he hw
        induction hall generalizing css with
        | nil => cases hal; exact .nil
        | cons hr _ ih =>
          cases hal with
          | cons hr2 hal =>
            refine .cons ?_ (ih _ hal)
            clear ih hal
            refine All2.of_get (by rw [← hr2.length, hr.length]) (fun i v d hv hd => ?_)
            obtain ⟨x, hx, hxd⟩ := hr.get' i d hd
            obtain ⟨v', hv', hxv⟩ := hr2.get i x hx
            rw [hv] at hv'; cases hv'
            simp only [CellRel, if_true]
            exact (ownAt_cell r hxd hxv).1
      · obtain ⟨x, hx, hxd⟩ := hflat1.get' i d hd
        obtain ⟨v', hv', hxv⟩ := hflat2.get i x hx
        rw [hc] at hv'; cases hv'
        obtain ⟨t, j, lo, len, _, hne, hbb⟩ := (ownAt_cell r hxd hxv).2 b hsc hb
        have := r.own t j b hne hbb
        exact ⟨this.1, this.2.2, this.2.1⟩
      · obtain ⟨x, hx, hxd⟩ := hflat1.get' i d hd
        obtain ⟨v', hv', hxv⟩ := hflat2.get i x hx
        rw [hc] at hv'; cases hv'
        obtain ⟨x2, hx2, hxd2⟩ := hflat1.get' j d' hd'
        obtain ⟨v2, hv2, hxv2⟩ := hflat2.get j x2 hx2
        rw [hc'] at hv2; cases hv2
        obtain ⟨t, u, lo, len, rfl, hne, hbb⟩ := (ownAt_cell r hxd hxv).2 b hsc hb
        obtain ⟨t2, u2, lo2, len2, rfl, hne2, hbb2⟩ := (ownAt_cell r hxd2 hxv2).2 b hsc' hb'
        obtain ⟨rfl, rfl⟩ := r.inj t u t2 u2 b hne hne2 hbb hbb2
        exact srefs_index _ i j t u lo len lo2 len2 hnd hx hx2
  rcases he with rfl | rfl
  · exact goal
  · exact goal
end
end Go.Vm
namespace Go.Vm
open Go.RowKit

theorem St.get_zero (e : Ent) (σ : St) : St.get (e :: σ) 0 = e.1 := rfl
theorem St.get_succ (e : Ent) (σ : St) (n : Nat) : St.get (e :: σ) (n + 1) = St.get σ n := by simp [St.get]
theorem St.ob_zero (e : Ent) (σ : St) (j : Nat) : St.ob (e :: σ) 0 j = obIn e.2 j := rfl
theorem St.ob_succ (e : Ent) (σ : St) (n j : Nat) : St.ob (e :: σ) (n + 1) j = St.ob σ n j := by simp [St.ob]
theorem obIn_zero (o : Ob) (os : List Ob) : obIn (o :: os) 0 = o := rfl
theorem obIn_succ (o : Ob) (os : List Ob) (n : Nat) : obIn (o :: os) (n + 1) = obIn os n := by simp [obIn]
theorem obIn_nil (n : Nat) : obIn [] n = .none := by simp [obIn]

def lkI (P : Program) (σ : St) (x : Operand) : Prop × Int :=
  match unc (look P σ 0 x) with
  | .one (.d (.int _ n)) => (gOf (look P σ 0 x) = true, n)
  | _ => (False, 0)
def lkK (P : Program) (σ : St) (x : Operand) : IntKind :=
  match unc (look P σ 0 x) with
  | .one (.d (.int k _)) => k
  | _ => .i64
theorem lkI_ok {P : Program} {σ : St} {x : Operand} (h : (lkI P σ x).1) : lkInt P σ x (lkK P σ x) (lkI P σ x).2 := by
  unfold lkI at h ⊢
  unfold lkK
  unfold lkInt
  split at h
  · rename_i k n heq
    rw [heq]; exact ⟨h, rfl⟩
  · exact h.elim

def evBnd (P : Program) (σ : St) (dflt : Nat) : Option Operand → Prop × Nat
  | none => (True, dflt)
  | some x => ((lkI P σ x).1 ∧ 0 ≤ (lkI P σ x).2, (lkI P σ x).2.toNat)
theorem evBnd_ok {P : Program} {σ : St} {dflt : Nat} {x : Option Operand} (h : (evBnd P σ dflt x).1) : bnd P σ dflt x (evBnd P σ dflt x).2 := by
  cases x with
  | none => rfl
  | some x =>
    have h1 := lkI_ok h.1
    exact ⟨_, _, h1.1, h1.2, h.2, rfl⟩

/-- a row of rows; simp does not look into it -/
def rowAt (rows : List (List D)) (i : Nat) : List D := rows.getD i []
def bAt (s : ByteArray) (i : Nat) : Nat := (s.data.toList.getD i 0).toNat
def evIndexAddr (P : Program) (σ : St) (T : TypeId) (x ix : Operand) : Prop × V :=
  match unc (look P σ 0 x) with
  | .one (.d (.sl size rows)) => ((gOf (look P σ 0 x) = true ∧ (lkI P σ ix).1) ∧ 0 ≤ (lkI P σ ix).2 ∧ (sliceT P T = true ∧ size = P.cellsOf (elemT P T) ∧ 0 < size) ∧ (lkI P σ ix).2 < (rows.length : Int), .one (.rptr (rowAt rows (lkI P σ ix).2.toNat) 0))
  | .one (.sref t j lo len) => ((gOf (look P σ 0 x) = true ∧ (lkI P σ ix).1) ∧ 0 ≤ (lkI P σ ix).2 ∧ (sliceT P T = true ∧ 0 < P.cellsOf (elemT P T) ∧ (match σ.ob t j with | .arr size _ => size = P.cellsOf (elemT P T) | _ => False)) ∧ (lkI P σ ix).2 < (len : Int), .one (.ptr t j (lo + (lkI P σ ix).2.toNat) 0))
  | .one (.bptr t c) => ((gOf (look P σ 0 x) = true ∧ (lkI P σ ix).1) ∧ 0 ≤ (lkI P σ ix).2 ∧ (match σ.ob t 0 with | .box _ => True | _ => False) ∧ (match arrT P T with | some n => 1 < n ∧ (lkI P σ ix).2 < (n : Int) | none => False), .one (.bptr t (c + (lkI P σ ix).2.toNat * P.cellsOf (elemT P T))))
  | _ => (False, .any)
def evLoad (P : Program) (σ : St) (T : TypeId) (x : Operand) : Prop × V :=
  match unc (look P σ 0 x) with
  | .one (.bptr t c) => (match σ.ob t 0 with | .box cells => (gOf (look P σ 0 x) = true ∧ tyOk P T = true ∧ c + P.cellsOf T ≤ cells.length, ldV P T (cut cells c (P.cellsOf T))) | _ => (False, .any))
  | .one (.ptr t j i c) => (match σ.ob t j with | .arr size rows => ((gOf (look P σ 0 x) = true ∧ tyOk P T = true ∧ c + P.cellsOf T ≤ size) ∧ i < rows.length, ldV P T ((cut (rowAt rows i) c (P.cellsOf T)).map .d)) | _ => (False, .any))
  | .one (.rptr r c) => (gOf (look P σ 0 x) = true ∧ tyOk P T = true ∧ c + P.cellsOf T ≤ r.length, ldV P T ((cut r c (P.cellsOf T)).map .d))
  | _ => (False, .any)
def evFieldAddr (P : Program) (σ : St) (T : TypeId) (x : Operand) (f : Nat) : Prop × V :=
  match unc (look P σ 0 x) with
  | .one (.bptr t c) => (gOf (look P σ 0 x) = true ∧ fieldOk P T f = true ∧ (match σ.ob t 0 with | .box _ => True | _ => False), .one (.bptr t (c + fieldOff P T f)))
  | .one (.ptr t j i c) => (gOf (look P σ 0 x) = true ∧ fieldOk P T f = true ∧ (match σ.ob t j with | .arr _ _ => True | _ => False), .one (.ptr t j i (c + fieldOff P T f)))
  | .one (.rptr r c) => (gOf (look P σ 0 x) = true ∧ fieldOk P T f = true, .one (.rptr r (c + fieldOff P T f)))
  | _ => (False, .any)
def evBin (P : Program) (op : BinOp) (T : TypeId) (x y : V) : Prop × V :=
  match op, x, y with
  | .eql, .one (.d (.int k m)), .one (.d (.int k' n)) => (k' = k, .one (.d (.bool (m == n))))
  | .neq, .one (.d (.int k m)), .one (.d (.int k' n)) => (k' = k, .one (.d (.bool (m != n))))
  | .lss, .one (.d (.int k m)), .one (.d (.int k' n)) => (k' = k, .one (.d (.bool (decide (m < n)))))
  | .leq, .one (.d (.int k m)), .one (.d (.int k' n)) => (k' = k, .one (.d (.bool (decide (m ≤ n)))))
  | .gtr, .one (.d (.int k m)), .one (.d (.int k' n)) => (k' = k, .one (.d (.bool (decide (m > n)))))
  | .geq, .one (.d (.int k m)), .one (.d (.int k' n)) => (k' = k, .one (.d (.bool (decide (m ≥ n)))))
  | .add, .one (.d (.int k m)), .one (.d (.int k' n)) => (k' = k, .one (.d (.int k (k.wrap (m + n)))))
  | .sub, .one (.d (.int k m)), .one (.d (.int k' n)) => (k' = k, .one (.d (.int k (k.wrap (m - n)))))
  | .mul, .one (.d (.int k m)), .one (.d (.int k' n)) => (k' = k, .one (.d (.int k (k.wrap (m * n)))))
  | .quo, .one (.d (.int k m)), .one (.d (.int k' n)) => (k' = k ∧ n ≠ 0, .one (.d (.int k (k.wrap (m.tdiv n)))))
  | .rem, .one (.d (.int k m)), .one (.d (.int k' n)) => (k' = k ∧ n ≠ 0, .one (.d (.int k (m.tmod n))))
  | .and, .one (.d (.int k m)), .one (.d (.int k' n)) => (k' = k, .one (.d (.int k (k.wrap (BitVec.ofInt k.bits m &&& BitVec.ofInt k.bits n).toNat))))
  | .or, .one (.d (.int k m)), .one (.d (.int k' n)) => (k' = k, .one (.d (.int k (k.wrap (BitVec.ofInt k.bits m ||| BitVec.ofInt k.bits n).toNat))))
  | .shl, .one (.d (.int k m)), .one (.d (.int _ n)) => (0 ≤ n, .one (.d (.int k (k.wrap (m * 2 ^ (min n.toNat k.bits))))))
  | .shr, .one (.d (.int k m)), .one (.d (.int _ n)) => (0 ≤ n, .one (.d (.int k (m.fdiv (2 ^ (min n.toNat k.bits))))))
  | .add, .one (.d (.str m)), .one (.d (.str n)) => (((m.size + n.size : Nat) : Int) ≤ 9223372036854775807, .one (.d (.str (m ++ n))))
  | .eql, .one (.d (.str m)), .one (.d (.str n)) => (True, .one (.d (.bool (decide (m = n)))))
  | .neq, .one (.d (.str m)), .one (.d (.str n)) => (True, .one (.d (.bool (!decide (m = n)))))
  | .eql, .one (.d (.bool m)), .one (.d (.bool n)) => (boolT P T = true, .one (.d (.bool (m == n))))
  | .neq, .one (.d (.bool m)), .one (.d (.bool n)) => (boolT P T = true, .one (.d (.bool (!(m == n)))))
  | .eql, .agg xs, .agg ys => (eqOk P T = true ∧ (eqRow P (P.fieldsOf T).toList xs ys).isSome = true, .one (.d (.bool ((eqRow P (P.fieldsOf T).toList xs ys).getD false))))
  | .neq, .agg xs, .agg ys => (eqOk P T = true ∧ (eqRow P (P.fieldsOf T).toList xs ys).isSome = true, .one (.d (.bool (!(eqRow P (P.fieldsOf T).toList xs ys).getD false))))
  | _, _, _ => (False, .any)
def evBuild (P : Program) (σ : St) (T : TypeId) : List (Nat × Operand) → List At → Prop × List At
  | [], r => (True, r)
  | (i, x) :: ps, r => ((bOk P T i = true ∧ gOf (look P σ (bTy P T i) x) = true ∧ (unc (look P σ (bTy P T i) x)).flat = true ∧
      (unc (look P σ (bTy P T i) x)).cells.length = P.cellsOf (bTy P T i) ∧ bOff P T i + P.cellsOf (bTy P T i) ≤ r.length) ∧ (evBuild P σ T ps (place r (bOff P T i) (unc (look P σ (bTy P T i) x)).cells)).1,
      (evBuild P σ T ps (place r (bOff P T i) (unc (look P σ (bTy P T i) x)).cells)).2)
theorem evBuild_ok {P : Program} {σ : St} {T : TypeId} : ∀ {ps : List (Nat × Operand)} {r : List At}, (evBuild P σ T ps r).1 → BuildR P σ T ps r (evBuild P σ T ps r).2
  | [], _, _ => rfl
  | (_, _) :: _, _, h => ⟨h.1.1, h.1.2.1, h.1.2.2.1, h.1.2.2.2.1, h.1.2.2.2.2, evBuild_ok h.2⟩

def isB : V → Bool
  | .one (.d (.bool _)) => true
  | _ => false
def bOf : V → Bool
  | .one (.d (.bool b)) => b
  | _ => false
theorem isB_ok : ∀ {v : V}, isB v = true → v = .one (.d (.bool (bOf v)))
  | .one (.d (.bool _)), _ => rfl
/-- the value that an operation computes, and what it asks -/
def evV (P : Program) (σ : St) (op : Op) (ty : TypeId) : Prop × V :=
  match op with
  | .move x => (True, look P σ ty x)
  | .assign x => (True, look P σ ty x)
  | .pick c a b =>
    (match unc (look P σ ty c) with
     | .one (.d (.bool bc)) => ((gOf (look P σ ty c) = true ∧ (bc = true → isB (unc (look P σ ty a)) = true) ∧ (bc = false → isB (unc (look P σ ty b)) = true)) ∧ (bc = true → gOf (look P σ ty a) = true) ∧ (bc = false → gOf (look P σ ty b) = true), .one (.d (.bool (cond bc (bOf (unc (look P σ ty a))) (bOf (unc (look P σ ty b)))))))
     | _ => (False, .any))
  | .load T x => evLoad P σ T x
  | .fieldAddr T x f => evFieldAddr P σ T x f
  | .indexAddr T x ix => evIndexAddr P σ T x ix
  | .index T x ix =>
    (match unc (look P σ 0 x) with
     | .one (.d (.str s)) => ((gOf (look P σ 0 x) = true ∧ (lkI P σ ix).1) ∧ 0 ≤ (lkI P σ ix).2 ∧ strT P T = true ∧ (lkI P σ ix).2 < (s.size : Int), .one (.d (.int .u8 (bAt s (lkI P σ ix).2.toNat))))
     | .agg xs => ((gOf (look P σ 0 x) = true ∧ (lkI P σ ix).1) ∧ 0 ≤ (lkI P σ ix).2 ∧ (match arrT P T with | some n => (lkI P σ ix).2 < (n : Int) | none => False) ∧ tyOk P (elemT P T) = true ∧ (lkI P σ ix).2.toNat * P.cellsOf (elemT P T) + P.cellsOf (elemT P T) ≤ xs.length,
         ldV P (elemT P T) (cut xs ((lkI P σ ix).2.toNat * P.cellsOf (elemT P T)) (P.cellsOf (elemT P T))))
     | _ => (False, .any))
  | .slice T x lo hi none =>
    (match unc (look P σ 0 x) with
     | .one (.d (.str s)) => ((gOf (look P σ 0 x) = true ∧ strT P T = true ∧ (evBnd P σ 0 lo).1 ∧ (evBnd P σ s.size hi).1) ∧ (evBnd P σ 0 lo).2 ≤ (evBnd P σ s.size hi).2 ∧ (evBnd P σ s.size hi).2 ≤ s.size, .one (.d (.str (s.extract (evBnd P σ 0 lo).2 (evBnd P σ s.size hi).2))))
     | .one (.d (.sl size rows)) => ((gOf (look P σ 0 x) = true ∧ sliceT P T = true ∧ size = P.cellsOf (elemT P T) ∧ (evBnd P σ 0 lo).1 ∧ (evBnd P σ rows.length hi).1) ∧ (evBnd P σ 0 lo).2 ≤ (evBnd P σ rows.length hi).2 ∧ (evBnd P σ rows.length hi).2 ≤ rows.length,
         .one (.d (.sl size (cut rows (evBnd P σ 0 lo).2 ((evBnd P σ rows.length hi).2 - (evBnd P σ 0 lo).2)))))
     | .one (.sref t j o len) => ((gOf (look P σ 0 x) = true ∧ sliceT P T = true ∧ (match σ.ob t j with | .arr size _ => size = P.cellsOf (elemT P T) | _ => False) ∧ (evBnd P σ 0 lo).1 ∧ (evBnd P σ len hi).1) ∧ (evBnd P σ 0 lo).2 ≤ (evBnd P σ len hi).2 ∧ (evBnd P σ len hi).2 ≤ len,
         .one (.sref t j (o + (evBnd P σ 0 lo).2) ((evBnd P σ len hi).2 - (evBnd P σ 0 lo).2)))
     | _ => (False, .any))
  | .binOp op T x y _ => ((gOf (look P σ T x) = true ∧ gOf (look P σ T y) = true) ∧ (evBin P op T (unc (look P σ T x)) (unc (look P σ T y))).1, (evBin P op T (unc (look P σ T x)) (unc (look P σ T y))).2)
  | .unOp .not _ x => (match unc (look P σ 0 x) with | .one (.d (.bool b)) => (gOf (look P σ 0 x) = true, .one (.d (.bool (!b)))) | _ => (False, .any))
  | .unOp .neg _ x => (match unc (look P σ 0 x) with | .one (.d (.int k n)) => (gOf (look P σ 0 x) = true, .one (.d (.int k (k.wrap (-n))))) | _ => (False, .any))
  | .convert S T x => (match unc (look P σ 0 x), intT P T with | .one (.d (.int _ n)), some k => (gOf (look P σ 0 x) = true ∧ (P.underlying S).isSome = true, .one (.d (.int k (k.wrap n)))) | _, _ => (False, .any))
  | .extract x i => (match unc (look P σ 0 x) with | .tup xs => (gOf (look P σ 0 x) = true ∧ i < xs.length ∧ (xs.getD i .any).flat = true, xs.getD i .any) | _ => (False, .any))
  | .field T x f =>
    (match unc (look P σ 0 x) with
     | .agg xs => (gOf (look P σ 0 x) = true ∧ fieldOk P T f = true ∧ tyOk P (fieldTy P T f) = true ∧ fieldOff P T f + P.cellsOf (fieldTy P T f) ≤ xs.length, ldV P (fieldTy P T f) (cut xs (fieldOff P T f) (P.cellsOf (fieldTy P T f))))
     | _ => (False, .any))
  | .build T parts => (match zrow P 12 T with | some z => ((zeroOk P T = true ∧ aggT P T = true) ∧ (evBuild P σ T parts.toList z).1, .agg (evBuild P σ T parts.toList z).2) | none => (False, .any))
  | .call ⟨.builtin .len, ⟨[x]⟩, ⟨[t]⟩⟩ =>
    (match unc (look P σ t x) with
     | .one (.d (.str s)) => (gOf (look P σ t x) = true ∧ strT P t = true, .one (.d (.int .i64 s.size)))
     | .one (.d (.sl _ rows)) => (gOf (look P σ t x) = true ∧ sliceT P t = true, .one (.d (.int .i64 rows.length)))
     | .one (.nil _) => (gOf (look P σ t x) = true ∧ sliceT P t = true, .one (.d (.int .i64 0)))
     | .one (.sref u j _ len) => (gOf (look P σ t x) = true ∧ sliceT P t = true ∧ (match σ.ob u j with | .arr _ _ => True | _ => False), .one (.d (.int .i64 len)))
     | _ => (False, .any))
  | .call ⟨.builtin .max, ⟨[x, y]⟩, _⟩ => ((lkI P σ x).1 ∧ (lkI P σ y).1 ∧ lkK P σ y = lkK P σ x, .one (.d (.int (lkK P σ x) (if (lkI P σ y).2 > (lkI P σ x).2 then (lkI P σ y).2 else (lkI P σ x).2))))
  | .call ⟨.builtin .min, ⟨[x, y]⟩, _⟩ => ((lkI P σ x).1 ∧ (lkI P σ y).1 ∧ lkK P σ y = lkK P σ x, .one (.d (.int (lkK P σ x) (if (lkI P σ y).2 < (lkI P σ x).2 then (lkI P σ y).2 else (lkI P σ x).2))))
  | _ => (False, .any)

theorem ob_box {o : Ob} (h : (match o with | .box _ => True | _ => False)) : ∃ cells, o = .box cells := by
  cases o with
  | box cells => exact ⟨cells, rfl⟩
  | none => exact h.elim
  | arr s r => exact h.elim
theorem ob_arr {o : Ob} (h : (match o with | .arr _ _ => True | _ => False)) : ∃ size rows, o = .arr size rows := by
  cases o with
  | arr s r => exact ⟨s, r, rfl⟩
  | none => exact h.elim
  | box c => exact h.elim
theorem ob_arrz {o : Ob} {n : Nat} (h : (match o with | .arr size _ => size = n | _ => False)) : ∃ rows, o = .arr n rows := by
  cases o with
  | arr s r => simp at h; subst h; exact ⟨r, rfl⟩
  | none => exact h.elim
  | box c => exact h.elim

theorem evBin_ok {P : Program} {op : BinOp} {T : TypeId} {x y : V} (hc : (evBin P op T x y).1) : binOK P op T x y (evBin P op T x y).2 := by
  unfold evBin at hc ⊢
  split at hc
  all_goals first
    | exact hc.elim
    | exact ⟨.inr hc, rfl⟩
    | exact ⟨.inr hc.1, hc.2, rfl⟩
    | exact ⟨.inl (.inl rfl), hc, rfl⟩
    | exact ⟨.inl (.inr rfl), hc, rfl⟩
    | exact ⟨hc, rfl⟩
    | rfl
    | (obtain ⟨q, hq⟩ := Option.isSome_iff_exists.1 hc.2; exact ⟨hc.1, q, hq, .inl ⟨rfl, by rw [hq]; rfl⟩⟩)
    | (obtain ⟨q, hq⟩ := Option.isSome_iff_exists.1 hc.2; exact ⟨hc.1, q, hq, .inr ⟨rfl, by rw [hq]; rfl⟩⟩)

theorem evV_ok {P : Program} {σ : St} {op : Op} {ty : TypeId} (hc : (evV P σ op ty).1) : StepV P σ op ty (evV P σ op ty).2 := by
  unfold evV at hc ⊢
  split at hc
  · rfl
  · rfl
  · rename_i c a b
    split at hc
    · rename_i bc h1; exact ⟨bc, _, _, hc.1.1, h1, (fun hh => isB_ok (hc.1.2.1 hh)), (fun hh => isB_ok (hc.1.2.2 hh)), hc.2.1, hc.2.2, (by first | rfl | trivial)⟩
    · exact hc.elim
  · rename_i T x
    unfold evLoad at hc ⊢
    simp only [StepV]
    split at hc
    · rename_i t c hx
      split at hc
      · rename_i cells ho; simp only [hx, ho]; exact ⟨hc.1, hc.2.1, cells, rfl, hc.2.2, (by first | rfl | trivial)⟩
      · exact hc.elim
    · rename_i t j i c hx
      split at hc
      · rename_i size rows ho; simp only [hx, ho]; exact ⟨hc.1.1, hc.1.2.1, size, rows, rfl, hc.2, hc.1.2.2, (by first | rfl | trivial)⟩
      · exact hc.elim
    · rename_i r c hx; simp only [hx]; exact ⟨hc.1, hc.2.1, hc.2.2, (by first | rfl | trivial)⟩
    · exact hc.elim
  · rename_i T x f
    unfold evFieldAddr at hc ⊢
    simp only [StepV]
    split at hc
    · rename_i t c hx; simp only [hx]; exact ⟨hc.1, hc.2.1, ob_box hc.2.2, (by first | rfl | trivial)⟩
    · rename_i t j i c hx; simp only [hx]; exact ⟨hc.1, hc.2.1, ob_arr hc.2.2, (by first | rfl | trivial)⟩
    · rename_i r c hx; simp only [hx]; exact ⟨hc.1, hc.2, (by first | rfl | trivial)⟩
    · exact hc.elim
  · rename_i T x ix
    unfold evIndexAddr at hc ⊢
    simp only [StepV]
    split at hc
    · rename_i size rows hx
      simp only [hx]
      exact ⟨_, _, lkI_ok hc.1.2, hc.2.1, hc.1.1, hc.2.2.1.1, hc.2.2.1.2.1, hc.2.2.1.2.2, hc.2.2.2, (by first | rfl | trivial)⟩
    · rename_i t j lo len hx
      simp only [hx]
      exact ⟨_, _, lkI_ok hc.1.2, hc.2.1, hc.1.1, hc.2.2.1.1, hc.2.2.1.2.1, ob_arrz hc.2.2.1.2.2, hc.2.2.2, (by first | rfl | trivial)⟩
    · rename_i t c hx
      simp only [hx]
      refine ⟨_, _, lkI_ok hc.1.2, hc.2.1, hc.1.1, ob_box hc.2.2.1, ?_, (by first | rfl | trivial)⟩
      have := hc.2.2.2
      split at this
      · rename_i n hn; exact ⟨n, hn, this.1, this.2⟩
      · exact this.elim
    · exact hc.elim
  · rename_i T x ix
    simp only [StepV]
    split at hc
    · rename_i s hx; simp only [hx]; exact ⟨_, _, lkI_ok hc.1.2, hc.2.1, hc.1.1, hc.2.2.1, hc.2.2.2, (by first | rfl | trivial)⟩
    · rename_i xs hx
      simp only [hx]
      refine ⟨_, _, lkI_ok hc.1.2, hc.2.1, hc.1.1, ?_, hc.2.2.2.1, hc.2.2.2.2, (by first | rfl | trivial)⟩
      have := hc.2.2.1
      split at this
      · rename_i n hn; exact ⟨n, hn, this⟩
      · exact this.elim
    · exact hc.elim
  · rename_i T x lo hi
    simp only [StepV]
    split at hc
    · rename_i s hx; simp only [hx]; exact ⟨hc.1.1, hc.1.2.1, _, _, evBnd_ok hc.1.2.2.1, evBnd_ok hc.1.2.2.2, hc.2.1, hc.2.2, (by first | rfl | trivial)⟩
    · rename_i size rows hx; simp only [hx]; exact ⟨hc.1.1, hc.1.2.1, hc.1.2.2.1, _, _, evBnd_ok hc.1.2.2.2.1, evBnd_ok hc.1.2.2.2.2, hc.2.1, hc.2.2, (by first | rfl | trivial)⟩
    · rename_i t j o len hx; simp only [hx]; exact ⟨hc.1.1, hc.1.2.1, ob_arrz hc.1.2.2.1, _, _, evBnd_ok hc.1.2.2.2.1, evBnd_ok hc.1.2.2.2.2, hc.2.1, hc.2.2, (by first | rfl | trivial)⟩
    · exact hc.elim
  · exact ⟨hc.1.1, hc.1.2, evBin_ok hc.2⟩
  · simp only [StepV]
    split at hc
    · rename_i b hx; simp only [hx]; exact ⟨hc, (by first | rfl | trivial)⟩
    · exact hc.elim
  · simp only [StepV]
    split at hc
    · rename_i k n hx; simp only [hx]; exact ⟨hc, (by first | rfl | trivial)⟩
    · exact hc.elim
  · rename_i S T x
    simp only [StepV]
    split at hc
    · rename_i k0 n k hx hk; simp only [hx, hk]; exact ⟨hc.1, hc.2, k, rfl, (by first | rfl | trivial)⟩
    · exact hc.elim
  · rename_i x i
    simp only [StepV]
    split at hc
    · rename_i xs hx
      simp only [hx]
      exact ⟨hc.1, by simp [List.getD_eq_getElem?_getD, List.getElem?_eq_getElem hc.2.1], hc.2.2⟩
    · exact hc.elim
  · simp only [StepV]
    split at hc
    · rename_i xs hx; simp only [hx]; exact ⟨hc.1, hc.2.1, hc.2.2.1, hc.2.2.2, (by first | rfl | trivial)⟩
    · exact hc.elim
  · simp only [StepV]
    split at hc
    · rename_i z hz; exact ⟨hc.1.1, hc.1.2, z, _, hz, evBuild_ok hc.2, (by first | rfl | trivial)⟩
    · exact hc.elim
  · simp only [StepV]
    split at hc
    · rename_i s hx; simp only [hx]; exact ⟨hc.1, hc.2, (by first | rfl | trivial)⟩
    · rename_i s rows hx; simp only [hx]; exact ⟨hc.1, hc.2, (by first | rfl | trivial)⟩
    · rename_i s hx; simp only [hx]; exact ⟨hc.1, hc.2, (by first | rfl | trivial)⟩
    · rename_i u j lo len hx; simp only [hx]; exact ⟨hc.1, hc.2.1, ob_arr hc.2.2, (by first | rfl | trivial)⟩
    · exact hc.elim
  · simp only [StepV]
    have hy := lkI_ok hc.2.1
    rw [hc.2.2] at hy
    exact ⟨_, _, _, lkI_ok hc.1, hy, (by first | rfl | trivial)⟩
  · simp only [StepV]
    have hy := lkI_ok hc.2.1
    rw [hc.2.2] at hy
    exact ⟨_, _, _, lkI_ok hc.1, hy, (by first | rfl | trivial)⟩
  · exact hc.elim
end Go.Vm
namespace Go.Vm
open Go.RowKit

def evRows (P : Program) (σ : St) (T : TypeId) (size : Nat) : List (Nat × Operand) → Nat → Prop × List (List D)
  | [], _ => (True, [])
  | (i, x) :: ps, k => ((i = k ∧ gOf (look P σ T x) = true ∧ (unc (look P σ T x)).flat = true ∧ atsStable (unc (look P σ T x)).cells = true ∧ (rowOf σ (unc (look P σ T x)).cells).isSome = true ∧ ((rowOf σ (unc (look P σ T x)).cells).getD []).length = size) ∧ (evRows P σ T size ps (k + 1)).1,
      (rowOf σ (unc (look P σ T x)).cells).getD [] :: (evRows P σ T size ps (k + 1)).2)
theorem evRows_ok {P : Program} {σ : St} {T : TypeId} {size : Nat} : ∀ {ps : List (Nat × Operand)} {k : Nat}, (evRows P σ T size ps k).1 → BRows P σ T size ps k (evRows P σ T size ps k).2
  | [], _, _ => rfl
  | (_, x) :: _, _, h => by
    obtain ⟨⟨h1, h2, h3, h4, h5, h6⟩, h7⟩ := h
    obtain ⟨r, hr⟩ := Option.isSome_iff_exists.1 h5
    refine ⟨h1, h2, h3, h4, r, _, hr, ?_, evRows_ok h7, ?_⟩
    · rw [hr] at h6; exact h6
    · simp only [evRows, hr, Option.getD_some]

def evDst (σ : St) (x : V) (size : Nat) : Prop × List (List D) × St :=
  match x with
  | .one (.nil _) => (True, [], σ)
  | .one (.sref t j lo len) => (match σ.ob t j with | .arr s olds => (s = size ∧ lo = 0 ∧ len = olds.length, olds, σ.setOb t j .none) | _ => (False, [], σ))
  | _ => (False, [], σ)
theorem evDst_ok {σ : St} {x : V} {size : Nat} (h : (evDst σ x size).1) : DstRows σ x size (evDst σ x size).2.1 (evDst σ x size).2.2 := by
  unfold evDst at h ⊢
  split at h
  · exact ⟨rfl, rfl⟩
  · rename_i t j lo len
    split at h
    · rename_i s olds ho
      obtain ⟨rfl, rfl, rfl⟩ := h
      exact ⟨ho, rfl, rfl, rfl⟩
    · exact h.elim
  · exact h.elim
def evSrc (σ : St) (x : V) (size : Nat) : Prop × List (List D) :=
  match x with
  | .one (.d (.sl s rows)) => (s = size, rows)
  | .one (.nil _) => (True, [])
  | .one (.sref t j lo len) => (match σ.ob t j with | .arr s rows => (s = size ∧ lo + len ≤ rows.length, cut rows lo len) | _ => (False, []))
  | _ => (False, [])
theorem evSrc_ok {σ : St} {x : V} {size : Nat} (h : (evSrc σ x size).1) : SrcRows σ x size (evSrc σ x size).2 := by
  unfold evSrc at h ⊢
  split at h
  · exact ⟨h, rfl⟩
  · rfl
  · rename_i t j lo len
    split at h
    · rename_i s rows ho
      obtain ⟨rfl, hle⟩ := h
      exact ⟨rows, ho, hle, rfl⟩
    · exact h.elim
  · exact h.elim

def evS (P : Program) (σ : St) (o : Oper) (d : Nat) : Prop × St :=
  match o.op with
  | .alloc T => (match zrow P 12 T with | some row => (σ.fresh d = true ∧ zeroOk P T = true, σ.new d (.one (.bptr d 0)) [.box row]) | none => (False, σ))
  | .box T x => (σ.fresh d = true ∧ gOf (look P σ T x) = true ∧ (unc (look P σ T x)).flat = true ∧ atsRef d (unc (look P σ T x)).cells = false, σ.new d (.one (.bptr d 0)) [.box (unc (look P σ T x)).cells])
  | .buildSlice T n parts => ((σ.fresh d = true ∧ sliceT P T = true ∧ zeroOk P (elemT P T) = true ∧ 0 < P.cellsOf (elemT P T) ∧ parts.toList.length = n ∧ n * P.cellsOf (elemT P T) ≤ 16777216) ∧ (evRows P σ (elemT P T) (P.cellsOf (elemT P T)) parts.toList 0).1,
      σ.new d (.one (.sref d 0 0 (evRows P σ (elemT P T) (P.cellsOf (elemT P T)) parts.toList 0).2.length)) [.arr (P.cellsOf (elemT P T)) (evRows P σ (elemT P T) (P.cellsOf (elemT P T)) parts.toList 0).2])
  | .makeSlice T x y => (match zrow P 12 (elemT P T) with
      | some z => (match zD z with
        | some zr => ((x = y ∧ σ.fresh d = true ∧ sliceT P T = true ∧ zeroOk P (elemT P T) = true ∧ 0 < P.cellsOf (elemT P T) ∧ (lkI P σ x).1) ∧ 0 ≤ (lkI P σ x).2 ∧ P.bytesOf (elemT P T) * (lkI P σ x).2.toNat ≤ 281474976710656 ∧ (lkI P σ x).2 ≤ 9223372036854775807,
            σ.new d (.one (.sref d 0 0 (lkI P σ x).2.toNat)) [.arr (P.cellsOf (elemT P T)) (List.replicate (lkI P σ x).2.toNat zr)])
        | none => (False, σ))
      | none => (False, σ))
  | .call ⟨.builtin .append, ⟨[x, y]⟩, ⟨[t, t']⟩⟩ =>
      (((t = t' ∧ gOf (look P σ t x) = true ∧ gOf (look P σ t y) = true ∧ sliceT P t = true ∧ zeroOk P (elemT P t) = true ∧ 0 < P.cellsOf (elemT P t)) ∧ (evDst σ (unc (look P σ t x)) (P.cellsOf (elemT P t))).1 ∧ (evSrc σ (unc (look P σ t y)) (P.cellsOf (elemT P t))).1 ∧ (evDst σ (unc (look P σ t x)) (P.cellsOf (elemT P t))).2.2.fresh d = true) ∧
        ((evDst σ (unc (look P σ t x)) (P.cellsOf (elemT P t))).2.1.length + (evSrc σ (unc (look P σ t y)) (P.cellsOf (elemT P t))).2.length) * P.bytesOf (elemT P t) ≤ 140737488355328 ∧
        (evDst σ (unc (look P σ t x)) (P.cellsOf (elemT P t))).2.1.length + (evSrc σ (unc (look P σ t y)) (P.cellsOf (elemT P t))).2.length ≤ 9223372036854775807,
       (evDst σ (unc (look P σ t x)) (P.cellsOf (elemT P t))).2.2.new d (.one (.sref d 0 0 ((evDst σ (unc (look P σ t x)) (P.cellsOf (elemT P t))).2.1.length + (evSrc σ (unc (look P σ t y)) (P.cellsOf (elemT P t))).2.length)))
         [.arr (P.cellsOf (elemT P t)) ((evDst σ (unc (look P σ t x)) (P.cellsOf (elemT P t))).2.1 ++ (evSrc σ (unc (look P σ t y)) (P.cellsOf (elemT P t))).2)])
  | op => ((evV P σ op o.type).1, σ.put d (evV P σ op o.type).2)

def evSt (P : Program) (σ : St) (T : TypeId) (x y : Operand) : Prop × St :=
  match unc (look P σ 0 x) with
  | .one (.bptr t c) => (match σ.ob t 0 with
     | .box cells => (tyOk P T = true ∧ gOf (look P σ 0 x) = true ∧ gOf (look P σ T y) = true ∧ (unc (look P σ T y)).flat = true ∧ (unc (look P σ T y)).cells.length = P.cellsOf T ∧ c + P.cellsOf T ≤ cells.length, σ.setOb t 0 (.box (place cells c (unc (look P σ T y)).cells)))
     | _ => (False, σ))
  | .one (.ptr t j i c) => (match σ.ob t j with
     | .arr size rows => ((tyOk P T = true ∧ gOf (look P σ 0 x) = true ∧ gOf (look P σ T y) = true ∧ (unc (look P σ T y)).flat = true ∧ (rowOf σ (unc (look P σ T y)).cells).isSome = true ∧ atsStable (unc (look P σ T y)).cells = true ∧ ((rowOf σ (unc (look P σ T y)).cells).getD []).length = P.cellsOf T ∧ c + P.cellsOf T ≤ size) ∧ i < rows.length,
         σ.setOb t j (.arr size (rows.set i (place (rowAt rows i) c ((rowOf σ (unc (look P σ T y)).cells).getD [])))))
     | _ => (False, σ))
  | _ => (False, σ)

theorem evS_ok {P : Program} {σ : St} {o : Oper} {d : Nat} (hns : ∀ c, o.op = .call c → ∀ f, c.callee ≠ .value (.func f)) (hc : (evS P σ o d).1) : Step P o d σ (evS P σ o d).2 := by
  unfold evS at hc ⊢
  split at hc
  · rename_i T hop
    unfold Step
    rw [hop]
    split at hc
    · rename_i row hrow; simp only [hrow]; exact ⟨hc.1, hc.2, row, rfl, rfl⟩
    · exact hc.elim
  · rename_i T x hop
    unfold Step; rw [hop]
    exact ⟨hc.1, hc.2.1, hc.2.2.1, hc.2.2.2, rfl⟩
  · rename_i T n parts hop
    unfold Step; rw [hop]
    obtain ⟨⟨h1, h2, h3, h4, h5, h6⟩, h7⟩ := hc
    exact ⟨h1, h2, h3, h4, h5, h6, _, evRows_ok h7, rfl⟩
  · rename_i T x y hop
    unfold Step; rw [hop]
    split at hc
    · rename_i z hz
      split at hc
      · rename_i zr hzr
        obtain ⟨⟨h1, h2, h3, h4, h5, h6⟩, h7, h8, h9⟩ := hc
        have hl := lkI_ok h6
        simp only [hz]
        refine ⟨h1, h2, h3, h4, h5, z, zr, lkK P σ x, (lkI P σ x).2.toNat, rfl, hzr, ?_, h8, by omega, rfl⟩
        rw [Int.toNat_of_nonneg h7]; exact hl
      · exact hc.elim
    · exact hc.elim
  · rename_i x y t t' hop
    unfold Step; rw [hop]
    obtain ⟨⟨⟨rfl, h1, h2, h3, h4, h5⟩, h6, h7, h8⟩, h9, h10⟩ := hc
    exact ⟨x, y, t, rfl, rfl, h1, h2, h3, h4, h5, _, _, _, evDst_ok h6, evSrc_ok h7, h8, h9, h10, rfl⟩
  · rename_i op h1 h2 h3 h4 h5
    have hv := evV_ok hc
    unfold Step
    split
    · rename_i T hop; exact absurd hop (h1 T)
    · rename_i T x hop; exact absurd hop (h2 T x)
    · rename_i T n ps hop; exact absurd hop (h3 T n ps)
    · rename_i T x y hop; exact absurd hop (h4 T x y)
    · rename_i c hop
      split
      · rename_i hcal
        rw [hop] at hv
        simp only [StepV] at hv
        split at hv
        · rename_i hc2 _ _; rw [hcal] at hc2; cases hc2
        · rename_i hc2 _; rw [hcal] at hc2; cases hc2
        · rename_i hc2 _; rw [hcal] at hc2; cases hc2
        · exact hv.elim
      · rename_i f hcal; exact absurd hcal (hns c hop f)
      · exact ⟨_, hv, rfl⟩
    · exact .inl ⟨_, hv, rfl⟩
    · exact ⟨_, hv, rfl⟩

theorem evSt_ok {P : Program} {σ : St} {T : TypeId} {x y : Operand} (hc : (evSt P σ T x y).1) : StepSt P σ T x y (evSt P σ T x y).2 := by
  unfold evSt at hc ⊢
  unfold StepSt
  split at hc
  · rename_i t c hx
    split at hc
    · rename_i cells ho
      obtain ⟨h1, h2, h3, h4, h5, h6⟩ := hc
      first | (rw [hx]; simp only [ho]) | simp only [ho]
      exact ⟨h1, h2, h3, h4, cells, rfl, h5, h6, rfl⟩
    · exact hc.elim
  · rename_i t j i c hx
    split at hc
    · rename_i size rows ho
      obtain ⟨⟨h1, h2, h3, h4, h5, h6, h7, h8⟩, h9⟩ := hc
      obtain ⟨ds, hds⟩ := Option.isSome_iff_exists.1 h5
      first | (rw [hx]; simp only [ho]) | simp only [ho]
      refine ⟨h1, h2, h3, h4, size, rows, ds, rfl, h9, hds, h6, ?_, h8, ?_⟩
      · rw [hds] at h7; exact h7
      · rw [hds]; rfl
    · exact hc.elim
  · exact hc.elim

/-- here the evaluation stops: a call of a Go function, a conversion between a string and bytes -/
def stops (P : Program) (o : Oper) : Bool :=
  match o.op with
  | .call ⟨.value _, _, _⟩ => true
  | .convert _ T _ => (intT P T).isNone
  | .indexAddr _ _ _ => o.guard.isSome
  | .index _ _ _ => o.guard.isSome
  | .slice _ _ _ _ _ => o.guard.isSome
  | _ => false
def StopK (P : Program) (ops : Array Oper) (o : Oper) (rest : List Oper) (σ : St) (Q : St → Prop) : Prop := ∃ σ', StepG P ops o σ σ' ∧ RunL P ops rest σ' Q

def Ev (P : Program) (ops : Array Oper) : List Oper → St → (St → Prop) → Prop
  | [], σ, Q => Q σ
  | o :: rest, σ, Q =>
    if stops P o then StopK P ops o rest σ Q else
    match o.guard with
    | none =>
      (match o.dst with
       | some d => (evS P σ o d).1 ∧ Ev P ops rest (evS P σ o d).2 Q
       | none => (match o.op with | .store T x y => (evSt P σ T x y).1 ∧ Ev P ops rest (evSt P σ T x y).2 Q | _ => False))
    | some (j, want) =>
      (match (ops[j]?).bind (·.dst), o.dst with
       | some dj, some d => (match gCond want (σ.get dj) with
         | some g => (dj < σ.length ∧ (g = true → (evV P σ o.op o.type).1 ∧ gOf (evV P σ o.op o.type).2 = true ∧ (unc (evV P σ o.op o.type).2).flat = true)) ∧ Ev P ops rest (σ.put d (.cnd g (unc (evV P σ o.op o.type).2))) Q
         | none => False)
       | _, _ => False)

theorem ev_run {P : Program} {ops : Array Oper} : ∀ {l : List Oper} {σ : St} {Q : St → Prop}, Ev P ops l σ Q → RunL P ops l σ Q
  | [], _, _, h => h
  | o :: rest, σ, Q, h => by
    unfold Ev at h
    split at h
    · exact h
    · rename_i hst
      have hns : ∀ c, o.op = .call c → ∀ f, c.callee ≠ .value (.func f) := by
        intro c hop f hcal
        obtain ⟨cc, ca, ct⟩ := c
        simp only at hcal; subst hcal
        exact hst (by simp [stops, hop])
      split at h
      · rename_i hg
        split at h
        · rename_i d hd
          refine ⟨_, ?_, ev_run h.2⟩
          unfold StepG
          simp only [hg, hd]
          exact evS_ok hns h.1
        · rename_i hd
          split at h
          · rename_i T x y hop
            refine ⟨_, ?_, ev_run h.2⟩
            unfold StepG
            simp only [hg, hd, hop]
            exact evSt_ok h.1
          · exact h.elim
      · rename_i j want hg
        split at h
        · rename_i dj d hdj hd
          split at h
          · rename_i g hgc
            refine ⟨_, ?_, ev_run h.2⟩
            unfold StepG
            simp only [hg]
            refine ⟨dj, d, g, _, hdj, h.1.1, hd, hgc, fun hgt => ?_, rfl⟩
            obtain ⟨h1, h2, h3⟩ := h.1.2 hgt
            have base : ∃ v0, StepV P σ o.op o.type v0 ∧ gOf v0 = true ∧ unc (evV P σ o.op o.type).2 = unc v0 ∧ (unc (evV P σ o.op o.type).2).flat = true := ⟨_, evV_ok h1, h2, rfl, h3⟩
            unfold StepGV
            split
            · rename_i c hop
              split
              · rename_i f hcal; exact absurd hcal (hns c hop f)
              · exact base
            · exact base
          · exact h.elim
        · exact h.elim

theorem awp_ev {P : Program} {Q : Exit → St → Prop} {σ : St} {id : Nat} {l : List Oper} (h : Ev P l.toArray l σ (Q .normal)) : AWP P (.region id l.toArray false) Q σ := awp_region (ev_run h)

/-- a call: its arguments, its contract, how its result is taken -/
theorem stop_callRd {P : Program} {ops : Array Oper} {o : Oper} {rest : List Oper} {σ : St} {Q : St → Prop} {c : Call} {f : FuncId} {d : Nat} {own : Bool} {rows res : List (List D)} (hop : o.op = .call c) (hc : c.callee = .value (.func f)) (hg : o.guard = none) (hd : o.dst = some d)
    (hargs : argRows P σ c.args.toList c.argTypes.toList rows) (hs : SoundAt P f own rows res) (hst : argsStable P σ c.args.toList c.argTypes.toList = true ∨ resFlat own res) (h : Ev P ops rest (σ.put d (resVd res)) Q) : StopK P ops o rest σ Q := by
  refine ⟨_, ?_, ev_run h⟩
  unfold StepG; simp only [hg, hd]
  unfold Step
  rw [hop]
  simp only [hc]
  exact .inl ⟨own, res, ⟨rows, hargs, hs, hst⟩, rfl⟩
theorem stop_callOwn {P : Program} {ops : Array Oper} {o : Oper} {rest : List Oper} {σ : St} {Q : St → Prop} {c : Call} {f : FuncId} {d : Nat} {rows res : List (List D)} (hop : o.op = .call c) (hc : c.callee = .value (.func f)) (hg : o.guard = none) (hd : o.dst = some d)
    (hargs : argRows P σ c.args.toList c.argTypes.toList rows) (hs : SoundAt P f true rows res) (hst : argsStable P σ c.args.toList c.argTypes.toList = true ∨ resFlat true res) (hf : σ.fresh d = true) (h : Ev P ops rest (σ.new d (resV d res) (resObs res.flatten)) Q) : StopK P ops o rest σ Q := by
  refine ⟨_, ?_, ev_run h⟩
  unfold StepG; simp only [hg, hd]
  unfold Step
  rw [hop]
  simp only [hc]
  exact .inr ⟨res, ⟨rows, hargs, hs, hst⟩, hf, rfl⟩
theorem stop_callG {P : Program} {ops : Array Oper} {o : Oper} {rest : List Oper} {σ : St} {Q : St → Prop} {c : Call} {f : FuncId} {d j dj : Nat} {want g own : Bool} {rows : List (List D)} {res : List D} (hop : o.op = .call c) (hc : c.callee = .value (.func f)) (hg : o.guard = some (j, want)) (hd : o.dst = some d)
    (hdj : (ops[j]?).bind (·.dst) = some dj) (hlt : dj < σ.length) (hgc : gCond want (σ.get dj) = some g)
    (hargs : g = true → argRows P σ c.args.toList c.argTypes.toList rows) (hs : g = true → SoundAt P f own rows [res]) (hst : argsStable P σ c.args.toList c.argTypes.toList = true ∨ resFlat own [res]) (h : Ev P ops rest (σ.put d (.cnd g (resVd [res]))) Q) : StopK P ops o rest σ Q := by
  refine ⟨_, ?_, ev_run h⟩
  unfold StepG; simp only [hg]
  refine ⟨dj, d, g, _, hdj, hlt, hd, hgc, fun hgt => ?_, rfl⟩
  unfold StepGV
  rw [hop]
  simp only [hc]
  exact ⟨own, res, ⟨rows, hargs hgt, hs hgt, hst⟩, rfl⟩
theorem stop_toStr {P : Program} {ops : Array Oper} {o : Oper} {rest : List Oper} {σ : St} {Q : St → Prop} {S T : TypeId} {x : Operand} {d : Nat} {l : List UInt8} (hop : o.op = .convert S T x) (hg : o.guard = none) (hd : o.dst = some d)
    (h1 : gOf (look P σ S x) = true) (h2 : byteT P S = true) (h3 : strT P T = true) (h4 : SrcRows σ (unc (look P σ S x)) 1 (byteRows l)) (h : Ev P ops rest (σ.put d (.one (.d (.str ⟨l.toArray⟩)))) Q) : StopK P ops o rest σ Q := by
  refine ⟨_, ?_, ev_run h⟩
  unfold StepG; simp only [hg, hd]
  unfold Step
  rw [hop]
  exact .inr (.inl ⟨l, h1, h2, h3, h4, rfl⟩)
theorem stop_toBytes {P : Program} {ops : Array Oper} {o : Oper} {rest : List Oper} {σ : St} {Q : St → Prop} {S T : TypeId} {x : Operand} {d : Nat} {s : ByteArray} (hop : o.op = .convert S T x) (hg : o.guard = none) (hd : o.dst = some d)
    (h1 : gOf (look P σ S x) = true) (h2 : strT P S = true) (h3 : byteT P T = true) (h4 : unc (look P σ S x) = .one (.d (.str s))) (h5 : s.size ≤ 9223372036854775807) (h : Ev P ops rest (σ.put d (.one (.d (.sl 1 (byteRows s.data.toList))))) Q) : StopK P ops o rest σ Q := by
  refine ⟨_, ?_, ev_run h⟩
  unfold StepG; simp only [hg, hd]
  unfold Step
  rw [hop]
  exact .inr (.inr ⟨s, h1, h2, h3, h4, h5, rfl⟩)
end Go.Vm
namespace Go.Vm
open Go.RowKit

def evResV (P : Program) (σ : St) : ResultVar → Prop × List At
  | .tmp t => (match σ.get t with
     | .one x => (t < σ.length, [x])
     | .agg [] => (t < σ.length, [])
     | .agg (x :: y :: xs) => (t < σ.length, x :: y :: xs)
     | _ => (False, []))
  | .cell t T => (match σ.get t with
     | .one (.bptr u c) => (match σ.ob u 0 with
        | .box cells => (tyOk P T = true ∧ aggT P T = true ∧ P.cellsOf T ≠ 1 ∧ c + P.cellsOf T ≤ cells.length, cut cells c (P.cellsOf T))
        | _ => (False, []))
     | _ => (False, []))
def evRes (P : Program) (σ : St) : List ResultVar → Prop × List (List At)
  | [] => (True, [])
  | r :: rs => ((evResV P σ r).1 ∧ (evRes P σ rs).1, (evResV P σ r).2 :: (evRes P σ rs).2)
theorem evResV_ok {P : Program} {σ : St} {r : ResultVar} (h : (evResV P σ r).1) : ResCells P σ r (evResV P σ r).2 := by
  cases r with
  | tmp t =>
    simp only [evResV] at h ⊢
    simp only [ResCells]
    cases hx : σ.get t with
    | one x => rw [hx] at h; exact ⟨rfl, h⟩
    | agg xs =>
      rw [hx] at h
      match xs, h with
      | [], h => exact ⟨rfl, h⟩
      | [x], h => exact h.elim
      | x :: y :: xs, h => exact ⟨rfl, h⟩
    | any => rw [hx] at h; exact h.elim
    | tup xs => rw [hx] at h; exact h.elim
    | cnd g x => rw [hx] at h; exact h.elim
  | cell t T =>
    simp only [evResV] at h ⊢
    split at h
    · rename_i u c hx
      split at h
      · rename_i cells ho
        exact ⟨u, c, cells, hx, ho, h.1, h.2.1, h.2.2.1, h.2.2.2, rfl⟩
      · exact h.elim
    · exact h.elim
theorem evRes_ok {P : Program} {σ : St} : ∀ {rs : List ResultVar}, (evRes P σ rs).1 → AllRes P σ rs (evRes P σ rs).2
  | [], _ => rfl
  | _ :: _, h => ⟨_, _, evResV_ok h.1, evRes_ok h.2, rfl⟩
theorem retRd {P : Program} {fn : Func} {σ : St} {res : List (List D)} {rv : List ResultVar} (hf : fn.results = rv.toArray) (h : (evRes P σ rv).1 ∧ rdRows σ (evRes P σ rv).2 = some res) : RetR P fn false res .ret σ :=
  ⟨.inl rfl, _, by rw [hf]; exact evRes_ok h.1, by simpa using h.2⟩
theorem retOwn {P : Program} {fn : Func} {σ : St} {res : List (List D)} {rv : List ResultVar} (hf : fn.results = rv.toArray) (h : (evRes P σ rv).1 ∧ ownRows σ (evRes P σ rv).2 = some res ∧ (srefs (evRes P σ rv).2.flatten).Nodup) : RetR P fn true res .ret σ :=
  ⟨.inl rfl, _, by rw [hf]; exact evRes_ok h.1, by simpa using h.2⟩

attribute [simp] isB bOf Ev stops evS evSt evV evBin evLoad evFieldAddr evIndexAddr evBnd evBuild evRows evDst evSrc lkI lkK Vm.look cst unc gOf gCond V.flat V.cells St.put St.setOb St.new St.get_zero St.get_succ St.ob_zero St.ob_succ obIn_zero obIn_succ obIn_nil
  thenA inBlockA ldV cut place rowOf dataOf atsStable At.stable argRows V.flatRow argsStable resVd resV resVs vOf resAts resObs evRes evResV rdRows ownRows ownRow ownAt srefs initSt argV atsRef At.ref D.scalar resFlat D.flatSl zD eqAt eqRow
end Go.Vm
