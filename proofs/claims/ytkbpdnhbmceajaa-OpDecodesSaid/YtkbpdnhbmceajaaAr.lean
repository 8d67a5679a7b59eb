/- Arrays of whole numbers, by value and as variables in memory: what one operation on them does, for the printed walks of this seat. No conditions. -/
import Derived.Test.YtkbpdnhbmceajaaWMore
import Derived.Laws.Rows
import Derived.Laws.Tables
import Derived.Laws.StructEq
import Derived.ChangeKeysEq
import Derived.OpenShut
import Derived.ChangeShapes
import Derived.Laws.IdiomCopy
namespace Go.Proofs.Ytkbpdnhbmceajaa.Ar
open Go.RowKit Go.Proofs.YtkbpdnhbmceajaaW.PrintWords

/-- A list as one of n numbers. -/
def fit (n : Nat) (l : List Int) : List Int := l.take n ++ List.replicate (n - l.length) 0
theorem fit_len (n : Nat) (l : List Int) : (fit n l).length = n := by simp [fit]; omega
theorem fit_id {n : Nat} {l : List Int} (h : l.length = n) : fit n l = l := by subst h; simp [fit]
def cells (k : IntKind) (n : Nat) (l : List Int) : Array Value := (nums k (fit n l)).toArray
abbrev val (k : IntKind) (n : Nat) (l : List Int) : Value := .agg (cells k n l)
def get (n : Nat) (l : List Int) (j : Int) : Int := rd (fit n l) j
def set (n : Nat) (l : List Int) (j v : Int) : List Int := (fit n l).set j.toNat v
def eqb (n : Nat) (a b : List Int) : Bool := fit n a == fit n b
theorem cells_size (k : IntKind) (n : Nat) (l : List Int) : (cells k n l).size = n := by simp [cells, nums, fit_len]
theorem cells_at {k : IntKind} {n : Nat} {l : List Int} {j : Int} (h0 : 0 ≤ j) (h1 : j < n) : (cells k n l)[j.toNat]? = some (.int k (get n l j)) := by
  have hl : j.toNat < (fit n l).length := by rw [fit_len]; omega
  simp [cells, nums, get, rd, List.getD, List.getElem?_eq_getElem hl]
theorem cells_set {k : IntKind} {n : Nat} {l : List Int} {j v : Int} : (cells k n l).setIfInBounds j.toNat (.int k v) = cells k n (set n l j v) := by
  have e : fit n (set n l j v) = set n l j v := fit_id (by simp [set, fit_len])
  rw [cells, cells, e]
  simp [set, nums, List.map_set]
theorem cells_eq (k : IntKind) (n : Nat) (l : List Int) : cells k n l = ((List.range n).map fun i : Nat => Value.int k (get n l i)).toArray := by
  unfold cells
  congr 1
  apply List.ext_getElem
  · simp [nums, fit_len]
  · intro i h1 h2
    have h3 : i < (fit n l).length := by simpa [nums] using h1
    simp [nums, get, rd, List.getD, List.getElem?_eq_getElem h3]
theorem cell_run {W : World} {g T n : Nat} {k : IntKind} {l : List Int} (hb : W.heap[g]? = some (.cells (cells k n l) T (0, 0))) {j : Int} (h0 : 0 ≤ j) (h1 : j < n) : W.cell? ⟨g, j.toNat, none⟩ = some (.int k (get n l j)) := by
  rw [blk_cell hb]; exact cells_at h0 h1
theorem cells_run {P : Program} {W : World} {g T n : Nat} {k : IntKind} {l : List Int} (hb : W.heap[g]? = some (.cells (cells k n l) T (0, 0))) : (loadCellsFrom ⟨g, 0, none⟩ 0 n #[]).run P W = .ok (cells k n l) W := by
  have := run_loadCells_list (P := P) W ⟨g, 0, none⟩ (cells k n l).toList (fun j v hv => by
    have hadd : (⟨g, 0, none⟩ : Addr).add j = ⟨g, j, none⟩ := by unfold Addr.add; split <;> simp_all
    rw [hadd, cell_of_row _ _ j _ T (0, 0) hb]
    simpa using hv)
  simpa [loadCells, cells_size] using this
theorem cells_one (k : IntKind) (n : Nat) (l : List Int) : (cells k n l).all (·.oneCell') = true := by
  simp [cells, nums, Value.oneCell']

section
variable {P : Program} {ops : Array Oper} {rest : List Oper} {o : Oper} {a : Act} {Q : Exit → Act → World → Prop} {W : World}

/-- The address of an element. -/
theorem idx_event (hgd : o.guard = none) {D : Tmp} (_hd : o.dst = some D) {T E : TypeId} {n : Nat} {x i : Operand} (ho : o.op = .indexAddr T x i) (hT : P.underlying T = some (.array n E)) (hE : (P.info? E).map (·.size) = some 1)
    {g : Nat} (hx : a.eval x = .pointer (some ⟨g, 0, none⟩)) {ki : IntKind} {j : Int} (hi : a.eval i = .int ki j) (h0 : 0 ≤ j) (h1 : j < n)
    (h : wpList P ops Q rest (a.put o.dst (.pointer (some ⟨g, j.toNat, none⟩))) W) : wpList P ops Q (o :: rest) a W := by
  refine Kd.event_run hgd ?_ h
  obtain ⟨ie, hie, hsz⟩ := Option.map_eq_some_iff.1 hE
  have ha : Program.arrayLen P T = n := by simp [Program.arrayLen, hT]
  have he : Program.elem P T = E := by simp [Program.elem, hT]
  have hs : (sizeOf E).run P W = .ok 1 W := by simp [sizeOf, typeInfo, hie, hsz]
  have hr := run_indexAt_array (P := P) W T ⟨g, 0, none⟩ ki j (by rw [ha, he]; exact hT)
  rw [ha, he, if_pos ⟨h0, h1⟩, hs] at hr
  have hadd : (⟨g, 0, none⟩ : Addr).add (j.toNat * 1) = ⟨g, j.toNat, none⟩ := by
    rw [Nat.mul_one]; unfold Addr.add; split <;> simp_all
  unfold execOp
  simp only [ho, hx, hi, Sem.run_bind, hr, Result.andThen_ok, hadd]
  rfl

/-- An element's value. -/
theorem get_event (hgd : o.guard = none) {D : Tmp} (_hd : o.dst = some D) {E : TypeId} {x : Operand} (ho : o.op = .load E x) {k : IntKind} (hE : P.underlying E = some (.int k))
    {g : Nat} {j : Int} (hx : a.eval x = .pointer (some ⟨g, j.toNat, none⟩)) {n : Nat} {l : List Int} {T : TypeId} (hb : W.heap[g]? = some (.cells (cells k n l) T (0, 0))) (h0 : 0 ≤ j) (h1 : j < n)
    (h : wpList P ops Q rest (a.put o.dst (.int k (get n l j))) W) : wpList P ops Q (o :: rest) a W := by
  refine Kd.event_run hgd ?_ h
  have hc : W.cell? ⟨g, j.toNat, none⟩ = some (.int k (get n l j)) := by rw [blk_cell hb]; exact cells_at h0 h1
  have hu : (isAgg E).run P W = .ok false W := by simp [isAgg, run_underlying hE]
  unfold execOp
  simp only [ho, hx, Instr.loadAt, Instr.sureAddr, Sem.run_bind, Sem.run_pure, Result.andThen_ok, loadVar, hu]
  simp [hc]

/-- A store into an element. -/
theorem put_event (hgd : o.guard = none) {E : TypeId} {p : Tmp} {v : Operand} (ho : o.op = .store E (.tmp p) v) (hN : o.dst = none) {k : IntKind} (hE : (P.info? E).map (·.size) = some 1)
    {g : Nat} {j : Int} (hx : a.eval (.tmp p) = .pointer (some ⟨g, j.toNat, none⟩)) {z : Int} (hv : a.eval v = .int k z) {n : Nat} {l : List Int} {T : TypeId} (hb : W.heap[g]? = some (.cells (cells k n l) T (0, 0))) (h0 : 0 ≤ j) (h1 : j < n)
    (h : ∀ w', w'.heap[g]? = some (.cells (cells k n (set n l j z)) T (0, 0)) → W.grownBy w' (some g) → wpList P ops Q rest a w') : wpList P ops Q (o :: rest) a W := by
  obtain ⟨ie, hie, hsz⟩ := Option.map_eq_some_iff.1 hE
  have hc : W.cell? ⟨g, j.toNat, none⟩ = some (.int k (get n l j)) := by rw [blk_cell hb]; exact cells_at h0 h1
  have hf : W.frozen? ⟨g, j.toNat, none⟩ = false := blk_frozen hb _
  have hadd : (⟨g, j.toNat, none⟩ : Addr).add 0 = ⟨g, j.toNat, none⟩ := by unfold Addr.add; split <;> simp_all
  have hs : (sizeOf E).run P W = .ok 1 W := by simp [sizeOf, typeInfo, hie, hsz]
  have hrun : (execOp a.eval o).run P W = .ok .skip (W.setCell ⟨g, j.toNat, none⟩ (.int k z)) := by
    unfold execOp
    simp only [ho, hx, hv, Instr.storeAt, Instr.sureAddr, Sem.run_bind, Sem.run_pure, Result.andThen_ok, storeVar, hs]
    simp [Value.cells, storeCells, hadd, run_store_int, stored, hc, hf]
  refine store_event hgd (t := E) (p := p) (v := v) ho hN hrun ?_
  rintro w' rfl
  refine h _ ?_ ?_
  · have := blk_set hb j.toNat (.int k z)
    rw [this, cells_set]
  · exact ⟨rfl, rfl, rfl, by simp [World.setCell], fun q _ hq => Below.heap_setCell _ _ _ _ (by rintro rfl; exact hq rfl)⟩

/-- The whole array. -/
theorem load_event (hgd : o.guard = none) {D : Tmp} (_hd : o.dst = some D) {T E : TypeId} {x : Operand} (ho : o.op = .load T x) {n : Nat} (hT : P.underlying T = some (.array n E)) (hi : (P.info? T).map (·.size) = some n)
    {g : Nat} (hx : a.eval x = .pointer (some ⟨g, 0, none⟩)) {k : IntKind} {l : List Int} {T' : TypeId} (hb : W.heap[g]? = some (.cells (cells k n l) T' (0, 0)))
    (h : wpList P ops Q rest (a.put o.dst (val k n l)) W) : wpList P ops Q (o :: rest) a W :=
  wpList_load_row hgd T x ho g hx T' _ (0, 0) _ hb hT rfl (by rw [cells_size]; exact hi) h

theorem load_run {T E : TypeId} {x : Operand} (ho : o.op = .load T x) {n : Nat} (hT : P.underlying T = some (.array n E)) (hi : (P.info? T).map (·.size) = some n)
    {g : Nat} (hx : a.eval x = .pointer (some ⟨g, 0, none⟩)) {k : IntKind} {l : List Int} {T' : TypeId} (hb : W.heap[g]? = some (.cells (cells k n l) T' (0, 0))) :
    (execOp a.eval o).run P W = .ok (.value (.agg (cells k n l))) W := by
  unfold execOp
  simp only [ho, hx, Instr.loadAt, Instr.sureAddr, Sem.run_bind, Sem.run_pure, Result.andThen_ok, run_loadVar_row (P := P) W g T' T _ (0, 0) _ hb hT rfl (by rw [cells_size]; exact hi)]
/-- A whole array laid into a variable. -/
theorem store_all_event (hgd : o.guard = none) {T E : TypeId} {p : Tmp} {v : Operand} (ho : o.op = .store T (.tmp p) v) (hN : o.dst = none) {n : Nat} (_hT : P.underlying T = some (.array n E)) (hi : (P.info? T).map (·.size) = some n)
    {g : Nat} (hx : a.eval (.tmp p) = .pointer (some ⟨g, 0, none⟩)) {k : IntKind} {z : List Int} (hv : a.eval v = val k n z) {l : List Int} {T' : TypeId} (hb : W.heap[g]? = some (.cells (cells k n l) T' (0, 0)))
    (h : ∀ w', w'.heap[g]? = some (.cells (cells k n z) T' (0, 0)) → W.grownBy w' (some g) → wpList P ops Q rest a w') : wpList P ops Q (o :: rest) a W := by
  refine wpList_store_row hgd T (.tmp p) v ho g (cells k n z) hx hv T' _ hb (by rw [cells_size]; exact hi) (by rw [cells_size, cells_size]) (cells_one _ _ _) ?_
  rw [hN]
  refine h _ (setRow_heap _ _ _ _ _ _ hb) ⟨rfl, rfl, rfl, by simp, fun q _ hq => setRow_other _ _ _ _ (by rintro rfl; exact hq rfl)⟩

section
variable {Kc : Act → World → Prop}
/-- The two stores as steps of a region that draws. -/
theorem put_step (hw : Region.wanted o (yielded ops a.tmps) = true) {E : TypeId} {p : Tmp} {v : Operand} (ho : o.op = .store E (.tmp p) v) (hN : o.dst = none) {k : IntKind} (hE : (P.info? E).map (·.size) = some 1)
    {g : Nat} {j : Int} (hx : a.eval (.tmp p) = .pointer (some ⟨g, j.toNat, none⟩)) {z : Int} (hv : a.eval v = .int k z) {n : Nat} {l : List Int} {T : TypeId} (hb : W.heap[g]? = some (.cells (cells k n l) T (0, 0))) (h0 : 0 ≤ j) (h1 : j < n)
    (h : ∀ w', w'.heap[g]? = some (.cells (cells k n (set n l j z)) T (0, 0)) → W.grownBy w' (some g) → Kc a w') : if Region.wanted o (yielded ops a.tmps) = true then Oper.wp P o a W Kc Q else Kc (a.put o.dst undef) W := by
  obtain ⟨ie, hie, hsz⟩ := Option.map_eq_some_iff.1 hE
  have hc : W.cell? ⟨g, j.toNat, none⟩ = some (.int k (get n l j)) := by rw [blk_cell hb]; exact cells_at h0 h1
  have hf : W.frozen? ⟨g, j.toNat, none⟩ = false := blk_frozen hb _
  have hadd : (⟨g, j.toNat, none⟩ : Addr).add 0 = ⟨g, j.toNat, none⟩ := by unfold Addr.add; split <;> simp_all
  have hs : (sizeOf E).run P W = .ok 1 W := by simp [sizeOf, typeInfo, hie, hsz]
  have hrun : (execOp a.eval o).run P W = .ok .skip (W.setCell ⟨g, j.toNat, none⟩ (.int k z)) := by
    unfold execOp
    simp only [ho, hx, hv, Instr.storeAt, Instr.sureAddr, Sem.run_bind, Sem.run_pure, Result.andThen_ok, storeVar, hs]
    simp [Value.cells, storeCells, hadd, run_store_int, stored, hc, hf]
  rw [if_pos hw]
  unfold Oper.wp
  rw [hrun]
  show Kc (a.put o.dst undef) _
  rw [hN]
  refine h _ ?_ ?_
  · have := blk_set hb j.toNat (.int k z)
    rw [this, cells_set]
  · exact ⟨rfl, rfl, rfl, by simp [World.setCell], fun q _ hq => Below.heap_setCell _ _ _ _ (by rintro rfl; exact hq rfl)⟩
theorem store_all_step (hw : Region.wanted o (yielded ops a.tmps) = true) {T E : TypeId} {p : Tmp} {v : Operand} (ho : o.op = .store T (.tmp p) v) (hN : o.dst = none) {n : Nat} (_hT : P.underlying T = some (.array n E)) (hi : (P.info? T).map (·.size) = some n)
    {g : Nat} (hx : a.eval (.tmp p) = .pointer (some ⟨g, 0, none⟩)) {k : IntKind} {z : List Int} (hv : a.eval v = val k n z) {l : List Int} {T' : TypeId} (hb : W.heap[g]? = some (.cells (cells k n l) T' (0, 0)))
    (h : ∀ w', w'.heap[g]? = some (.cells (cells k n z) T' (0, 0)) → W.grownBy w' (some g) → Kc a w') : if Region.wanted o (yielded ops a.tmps) = true then Oper.wp P o a W Kc Q else Kc (a.put o.dst undef) W := by
  rw [if_pos hw]
  refine wp_store_row T (.tmp p) v ho g (cells k n z) hx hv T' _ hb (by rw [cells_size]; exact hi) (by rw [cells_size, cells_size]) (cells_one _ _ _) ?_
  rw [hN]
  exact h _ (setRow_heap _ _ _ _ _ _ hb) ⟨rfl, rfl, rfl, by simp, fun q _ hq => setRow_other _ _ _ _ (by rintro rfl; exact hq rfl)⟩
end

/-- A variable out of a value. -/
theorem box_run {T : TypeId} {x : Operand} (ho : o.op = .box T x) {k : IntKind} {n : Nat} {l : List Int} (hx : a.eval x = val k n l) :
    (execOp a.eval o).run P W = .ok (.value (.pointer (some ⟨W.heap.size, 0, none⟩))) (W.alloc (.cells (cells k n l) T (0, 0))) := by
  unfold execOp
  simp [ho, hx, Instr.box, newVar, newRow, newObj, val, Value.cells]
  rfl
theorem alloc_run {T : TypeId} (ho : o.op = .alloc T) {k : IntKind} {n : Nat} (hz : (P.info? T).map (·.zero) = some (some (val k n (List.replicate n 0)))) :
    (execOp a.eval o).run P W = .ok (.value (.pointer (some ⟨W.heap.size, 0, none⟩))) (W.alloc (.cells (cells k n (List.replicate n 0)) T (0, 0))) := by
  obtain ⟨i, hi, hzz⟩ := Option.map_eq_some_iff.1 hz
  unfold execOp
  simp [ho, Instr.alloc, zeroValue, typeInfo, hi, hzz, newVar, newRow, newObj, val, Value.cells]
  rfl

theorem vidx_run {T E : TypeId} {n : Nat} (hT : P.underlying T = some (.array n E)) (hE : (P.info? E).map (·.size) = some 1)
    {k : IntKind} (hk : P.underlying E = some (.int k)) {l : List Int} {ki : IntKind} {j : Int} (h0 : 0 ≤ j) (h1 : j < n) :
    (Instr.index T (.agg (cells k n l)) (.int ki j)).run P W = .ok (.int k (get n l j)) W := by
  obtain ⟨ie, hie, hsz⟩ := Option.map_eq_some_iff.1 hE
  have hs : (sizeOf E).run P W = .ok 1 W := by simp [sizeOf, typeInfo, hie, hsz]
  have hu : (isAgg E).run P W = .ok false W := by simp [isAgg, run_underlying hk]
  have hc := cells_at (k := k) (l := l) h0 h1
  simp only [Instr.index, asIntOf, Sem.run_bind, Sem.run_pure, Result.andThen_ok, run_underlying hT, if_pos (And.intro h0 h1), hs, part, hu, Nat.mul_one]
  simp [hc]
/-- An element of a value. -/
theorem vidx_event (hgd : o.guard = none) {D : Tmp} (_hd : o.dst = some D) {T E : TypeId} {n : Nat} {x i : Operand} (ho : o.op = .index T x i) (hT : P.underlying T = some (.array n E)) (hE : (P.info? E).map (·.size) = some 1)
    {k : IntKind} (hk : P.underlying E = some (.int k)) {l : List Int} (hx : a.eval x = val k n l) {ki : IntKind} {j : Int} (hi : a.eval i = .int ki j) (h0 : 0 ≤ j) (h1 : j < n)
    (h : wpList P ops Q rest (a.put o.dst (.int k (get n l j))) W) : wpList P ops Q (o :: rest) a W := by
  refine Kd.event_run hgd ?_ h
  obtain ⟨ie, hie, hsz⟩ := Option.map_eq_some_iff.1 hE
  have hs : (sizeOf E).run P W = .ok 1 W := by simp [sizeOf, typeInfo, hie, hsz]
  have hu : (isAgg E).run P W = .ok false W := by simp [isAgg, run_underlying hk]
  have hc := cells_at (k := k) (l := l) h0 h1
  unfold execOp
  simp only [ho, hx, hi, Instr.index, val, asIntOf, Sem.run_bind, Sem.run_pure, Result.andThen_ok, run_underlying hT, if_pos (And.intro h0 h1), hs, part, hu, Nat.mul_one]
  simp [hc]

/-- A literal. -/
theorem fill_ints (k : IntKind) (n : Nat) : ∀ (ps : List (Nat × Int)) (l : List Int), l.length = n → (ps.map (·.1)).all (fun i => decide (i < n)) = true →
    Instr.fill (fun i => some (i * 1, 1)) (cells k n l) (ps.map fun p => (p.1, .int k p.2)) = some (cells k n (ps.foldl (fun l p => l.set p.1 p.2) l))
  | [], l, _, _ => rfl
  | (i, z) :: ps, l, hl, hi => by
    simp only [List.map_cons, List.all_cons, Bool.and_eq_true, decide_eq_true_eq] at hi
    have hs : (Value.int k z).cells.zipIdx.foldl (fun cs (c, j) => cs.setIfInBounds (i * 1 + j) c) (cells k n l) = cells k n (l.set i z) := by
      have e1 : fit n l = l := fit_id hl
      have e2 : fit n (l.set i z) = l.set i z := fit_id (by simpa using hl)
      simp [Value.cells, cells, e1, e2, nums, List.map_set]
    have h1 : ¬ ((Value.int k z).cells.size ≠ 1 || i * 1 + (Value.int k z).cells.size > (cells k n l).size) = true := by
      simp [Value.cells, cells_size]; omega
    simp only [List.map_cons, Instr.fill]
    rw [if_neg h1, hs]
    exact fill_ints k n ps (l.set i z) (by simpa using hl) hi.2
theorem build_event (hgd : o.guard = none) {D : Tmp} (_hd : o.dst = some D) {T E : TypeId} {parts : Array (Nat × Operand)} (ho : o.op = .build T parts) {k : IntKind} {n : Nat} {l : List Int}
    (hT : P.underlying T = some (.array n E)) (hE : (P.info? E).map (·.size) = some 1) (hz : (P.info? T).map (·.zero) = some (some (val k n (List.replicate n 0)))) (ps : List (Nat × Int))
    (hps : (parts.toList.map fun (i, x) => (i, a.eval x)) = ps.map fun p => (p.1, .int k p.2)) (hlt : (ps.map (·.1)).all (fun i => decide (i < n)) = true) (hl : ps.foldl (fun l p => l.set p.1 p.2) (List.replicate n 0) = l)
    (h : wpList P ops Q rest (a.put o.dst (val k n l)) W) : wpList P ops Q (o :: rest) a W := by
  obtain ⟨ie, hie, hsz⟩ := Option.map_eq_some_iff.1 hE
  obtain ⟨it, hit, hzz⟩ := Option.map_eq_some_iff.1 hz
  have hb2 : P.built T (parts.map fun (i, x) => (i, a.eval x)).toList = some (cells k n l) := by
    unfold Program.built
    simp only [hit, hT, hzz, hie, hsz, Value.cells, Array.toList_map, hps]
    rw [fill_ints k n ps _ (by simp) hlt, hl]
  refine wpList_build hgd T parts ho (by rw [hb2]; rfl) ?_
  rw [hb2]
  exact h

/-- '==' and '!='. -/
theorem all_range (n : Nat) : ∀ (xs ys : List Int), xs.length = n → ys.length = n → ((List.range n).all fun i => xs.getD i 0 == ys.getD i 0) = (xs == ys) := by
  induction n with
  | zero => intro xs ys hx hy; rw [List.length_eq_zero_iff.1 hx, List.length_eq_zero_iff.1 hy]; rfl
  | succ n ih =>
    intro xs ys hx hy
    rcases xs with _ | ⟨x, xs⟩
    · simp at hx
    rcases ys with _ | ⟨y, ys⟩
    · simp at hy
    have := ih xs ys (by simpa using hx) (by simpa using hy)
    rw [List.range_succ_eq_map, List.all_cons, List.all_map]
    simp only [List.getD_cons_zero, Function.comp_def, List.getD_cons_succ, this]
    simp [List.cons_beq_cons]
theorem run_eq (d : Nat) (T E : TypeId) {n : Nat} (hT : P.underlying T = some (.array n E)) (hE : (P.info? E).map (·.size) = some 1) {k : IntKind} (hk : P.underlying E = some (.int k)) (x y : List Int) (W : World) :
    (Op.equalIn (d + 2) T (val k n x) (val k n y)).run P W = .ok (eqb n x y) W := by
  obtain ⟨ie, hie, hsz⟩ := Option.map_eq_some_iff.1 hE
  have hs : ∀ W, (sizeOf E).run P W = .ok 1 W := fun W => by simp [sizeOf, typeInfo, hie, hsz]
  unfold eqb
  rw [← all_range n _ _ (fit_len n x) (fit_len n y), List.range_eq_range', val, val, Op.equalIn]
  simp only [Sem.run_bind, run_underlying hT, Result.andThen_ok, hs, Std.Legacy.Range.forIn_eq_forIn_range', Std.Legacy.Range.size, Nat.sub_zero, Nat.add_sub_cancel, Nat.div_one]
  have hl : ∀ i ∈ List.range' 0 n 1, i < n := fun i hi => by simpa using (List.mem_range'_1.1 hi).2
  generalize List.range' 0 n 1 = l at hl ⊢
  have hu : ∀ W, (isAgg E).run P W = .ok false W := fun W => by simp [isAgg, run_underlying hk]
  have hp : ∀ (z : List Int) (i : Nat), i < n → (part E (cells k n z) (i * 1)).run P W = .ok (.int k ((fit n z).getD i 0)) W := fun z i hi => by
    have hc := cells_at (k := k) (n := n) (l := z) (j := (i : Int)) (by omega) (by omega)
    simp only [Int.toNat_natCast, get, rd] at hc
    simp only [part, Sem.run_bind, hu, Result.andThen_ok, Nat.mul_one]
    simp [hc]
  induction l with
  | nil => simp
  | cons i l ih =>
    have hi : i < n := hl i (by simp)
    have pe : (Op.equalIn (d + 1) E (.int k ((fit n x).getD i 0)) (.int k ((fit n y).getD i 0))).run P W = .ok ((fit n x).getD i 0 == (fit n y).getD i 0) W := by
      rw [run_equalIn_int W d E k k _ _ hk]
    simp only [List.forIn_cons, Sem.run_bind, hp x i hi, hp y i hi, pe, Result.andThen_ok, List.all_cons]
    cases hb : ((fit n x).getD i 0 == (fit n y).getD i 0)
    · simp
    · simp only [Bool.not_true, Bool.false_eq_true, if_false, Sem.run_pure, Result.andThen_ok, Bool.true_and]
      exact ih fun j hj => hl j (by simp [hj])
theorem guard_eq (op : BinOp) (T : TypeId) (hg : P.eqGuardType P.depth T = false) (x y : Operand) (u v : Array Value) (W : World) : (eqGuard op T x y (.agg u) (.agg v)).run P W = .ok () W := by
  unfold eqGuard
  cases op <;> simp [hg]
theorem eq_event (hgd : o.guard = none) {D : Tmp} (_hd : o.dst = some D) {T E T2 : TypeId} {n : Nat} {x y : Operand} {neq : Bool} (ho : o.op = .binOp (if neq then .neq else .eql) T x y T2) (hT : P.underlying T = some (.array n E)) (hE : (P.info? E).map (·.size) = some 1)
    {k : IntKind} (hk : P.underlying E = some (.int k)) (hg : P.eqGuardType P.depth T = false) {l m : List Int} (hx : a.eval x = val k n l) (hy : a.eval y = val k n m)
    (h : wpList P ops Q rest (a.put o.dst (.bool (if neq then !(eqb n l m) else eqb n l m))) W) : wpList P ops Q (o :: rest) a W := by
  refine Kd.event_run hgd ?_ h
  have h1 := fun op => guard_eq (P := P) op T hg x y (cells k n l) (cells k n m) W
  have h2 := run_eq (P := P) 9998 T E hT hE hk l m W
  unfold execOp
  cases neq
  · simp only [Bool.false_eq_true, if_false] at ho ⊢
    simp only [ho, hx, hy, Sem.run_bind, val, h1, Result.andThen_ok]
    rw [run_eql_struct]
    simp only [val] at h2
    rw [h2]; rfl
  · simp only [if_true] at ho ⊢
    simp only [ho, hx, hy, Sem.run_bind, val, h1, Result.andThen_ok]
    rw [run_neq_struct]
    simp only [val] at h2
    rw [h2]; rfl
end
/-! copy from one array variable into another -/
def part (m : Nat) (l : List Int) (o c : Nat) : List Int := ((fit m l).drop o).take c
def putAll (n : Nat) : List Int → Nat → List Int → List Int
  | l, _, [] => l
  | l, o, v :: r => putAll n (set n l (o : Int) v) (o + 1) r
theorem part_len {m o c : Nat} (l : List Int) (h : o + c ≤ m) : (part m l o c).length = c := by simp [part, fit_len]; omega
theorem setCells_ar {k : IntKind} {n g T : Nat} : ∀ (vs l : List Int) (o : Nat) (W : World), W.heap[g]? = some (.cells (cells k n l) T (0, 0)) →
    (W.setCells g o (nums k vs)).heap[g]? = some (.cells (cells k n (putAll n l o vs)) T (0, 0)) ∧ W.grownBy (W.setCells g o (nums k vs)) (some g)
  | [], _, _, _, hb => ⟨hb, rfl, rfl, rfl, Nat.le_refl _, fun _ _ _ => rfl⟩
  | v :: r, l, o, W, hb => by
    have h1 : (W.setCell ⟨g, o, none⟩ (.int k v)).heap[g]? = some (.cells (cells k n (set n l (o : Int) v)) T (0, 0)) := by
      have := blk_set hb o (.int k v)
      rw [this]
      have e := cells_set (k := k) (n := n) (l := l) (j := (o : Int)) (v := v)
      rw [Int.toNat_natCast] at e
      rw [e]
    have h2 : W.grownBy (W.setCell ⟨g, o, none⟩ (.int k v)) (some g) := ⟨rfl, rfl, rfl, by simp [World.setCell], fun q _ hq => Below.heap_setCell _ _ _ _ (by rintro rfl; exact hq rfl)⟩
    obtain ⟨h3, h4⟩ := setCells_ar r (set n l (o : Int) v) (o + 1) _ h1
    refine ⟨h3, h4.os.trans h2.os, h4.tape.trans h2.tape, h4.output.trans h2.output, Nat.le_trans h2.size h4.size, fun q hq hne => ?_⟩
    exact (h4.block q (Nat.lt_of_lt_of_le hq h2.size) hne).trans (h2.block q hq hne)
section
variable {P : Program} {o : Oper} {ρ : Operand → Value} {W : World}
theorem copy_run {x y : Operand} {dT sT E : TypeId} (hu : P.underlying dT = some (.slice E)) (hE : (P.info? E).map (·.size) = some 1)
    {gd gs od os dl dc sl sc n m T T2 : Nat} {k : IntKind} {d s : List Int} (hx : ρ x = .slice (some ⟨gd, od, none⟩) dl dc) (hy : ρ y = .slice (some ⟨gs, os, none⟩) sl sc)
    (hbd : W.heap[gd]? = some (.cells (cells k n d) T (0, 0))) (hbs : W.heap[gs]? = some (.cells (cells k m s) T2 (0, 0))) (c : Nat) (hc : c = Nat.min sl dl) (h1 : od + c ≤ n) (h2 : os + c ≤ m) :
    (Builtin.copy_ #[dT, sT] o.type #[ρ x, ρ y]).run P W = .ok (goInt c) (W.setCells gd od (nums k (part m s os c))) := by
  have hl : (nums k (part m s os c)).length = c := by rw [nums_length, part_len s h2]
  have hr := run_copy_cells (P := P) W dT sT o.type E gd od dl dc ⟨gs, os, none⟩ sl sc (nums k (part m s os c)) hu hE (hl.trans hc) ?_ ?_ ?_ ?_
  · rw [hx, hy, hr, hl]
  · intro j v hj
    have hjc : j < c := by rw [← hl]; exact (List.getElem?_eq_some_iff.1 hj).1
    have hadd : (⟨gs, os, none⟩ : Addr).add j = ⟨gs, os + j, none⟩ := by unfold Addr.add; split <;> simp_all
    have hcell := cell_run hbs (j := ((os + j : Nat) : Int)) (by omega) (by omega)
    rw [Int.toNat_natCast] at hcell
    rw [hadd, hcell]
    have hlt : os + j < (fit m s).length := by rw [fit_len]; omega
    rw [← hj]
    have e : ((os + j : Nat) : Int).toNat = os + j := Int.toNat_natCast _
    unfold get rd
    rw [e]
    simp [nums, part, List.getElem?_drop, hjc, List.getD, List.getElem?_eq_getElem hlt]
  · intro j hj
    have hcell := cell_run hbd (j := ((od + j : Nat) : Int)) (by omega) (by omega)
    rw [Int.toNat_natCast] at hcell
    rw [hcell]; rfl
  · intro j _
    exact blk_frozen hbd _
  · intro v hv
    obtain ⟨z, _, rfl⟩ := List.mem_map.1 hv
    rfl
end

section
variable {P : Program} {ops : Array Oper} {rest : List Oper} {o : Oper} {a : Act} {Q : Exit → Act → World → Prop} {Kc : Act → World → Prop} {W : World}
theorem copy_step (hw : Region.wanted o (yielded ops a.tmps) = true) {x y : Operand} {dT sT E : TypeId} (ho : o.op = .call { callee := .builtin .copy, args := #[x, y], argTypes := #[dT, sT] }) (hu : P.underlying dT = some (.slice E)) (hE : (P.info? E).map (·.size) = some 1)
    {gd gs od os dl dc sl sc n m T T2 : Nat} {k : IntKind} {d s : List Int} (hx : a.eval x = .slice (some ⟨gd, od, none⟩) dl dc) (hy : a.eval y = .slice (some ⟨gs, os, none⟩) sl sc)
    (hbd : W.heap[gd]? = some (.cells (cells k n d) T (0, 0))) (hbs : W.heap[gs]? = some (.cells (cells k m s) T2 (0, 0))) (c : Nat) (hc : c = Nat.min sl dl) (h1 : od + c ≤ n) (h2 : os + c ≤ m)
    (h : ∀ w', w'.heap[gd]? = some (.cells (cells k n (putAll n d od (part m s os c))) T (0, 0)) → W.grownBy w' (some gd) → Kc (a.put o.dst (.int .i64 c)) w') :
    if Region.wanted o (yielded ops a.tmps) = true then Oper.wp P o a W Kc Q else Kc (a.put o.dst undef) W := by
  rw [if_pos hw]
  have hrun := copy_run (P := P) (o := o) (ρ := a.eval) hu hE hx hy hbd hbs c hc h1 h2 (dT := dT) (sT := sT)
  obtain ⟨h3, h4⟩ := setCells_ar (part m s os c) d od W hbd
  unfold Oper.wp
  simp [execOp, ho, resolve, invoke, builtin, hrun, Result.andThen]
  exact h _ h3 h4
theorem copy_event (hgd : o.guard = none) {x y : Operand} {dT sT E : TypeId} (ho : o.op = .call { callee := .builtin .copy, args := #[x, y], argTypes := #[dT, sT] }) (hu : P.underlying dT = some (.slice E)) (hE : (P.info? E).map (·.size) = some 1)
    {gd gs od os dl dc sl sc n m T T2 : Nat} {k : IntKind} {d s : List Int} (hx : a.eval x = .slice (some ⟨gd, od, none⟩) dl dc) (hy : a.eval y = .slice (some ⟨gs, os, none⟩) sl sc)
    (hbd : W.heap[gd]? = some (.cells (cells k n d) T (0, 0))) (hbs : W.heap[gs]? = some (.cells (cells k m s) T2 (0, 0))) (c : Nat) (hc : c = Nat.min sl dl) (h1 : od + c ≤ n) (h2 : os + c ≤ m)
    (h : ∀ w', w'.heap[gd]? = some (.cells (cells k n (putAll n d od (part m s os c))) T (0, 0)) → W.grownBy w' (some gd) → wpList P ops Q rest (a.put o.dst (.int .i64 c)) w') : wpList P ops Q (o :: rest) a W := by
  refine wpList_plain hgd fun K hK => ?_
  have hrun := copy_run (P := P) (o := o) (ρ := a.eval) hu hE hx hy hbd hbs c hc h1 h2 (dT := dT) (sT := sT)
  obtain ⟨h3, h4⟩ := setCells_ar (part m s os c) d od W hbd
  unfold Oper.wp
  simp [execOp, ho, resolve, invoke, builtin, hrun, Result.andThen]
  exact hK _ _ (h _ h3 h4)
end

/-! a cut of an array variable, as an array again -/
section
variable {P : Program} {ops : Array Oper} {rest : List Oper} {o : Oper} {a : Act} {Q : Exit → Act → World → Prop} {W : World}
theorem at_ (g i : Nat) : (⟨g, 0, none⟩ : Addr).add i = ⟨g, i, none⟩ := by unfold Addr.add; split <;> simp_all
theorem at2_ (g i j : Nat) : (⟨g, i, none⟩ : Addr).add j = ⟨g, i + j, none⟩ := by unfold Addr.add; split <;> simp_all
theorem cut_run {T E : TypeId} {n : Nat} (hT : P.underlying T = some (.array n E)) (hE : (P.info? E).map (·.size) = some 1) {g : Nat} {kl kh : IntKind} {l h : Int} (h0 : 0 ≤ l) (h1 : l ≤ h) (h2 : h ≤ n) (h3 : l < n) :
    (Instr.sliceAt T (.pointer (some ⟨g, 0, none⟩)) (some (.int kl l)) (some (.int kh h)) none).run P W = .ok (.slice (some ⟨g, l.toNat, none⟩) (h.toNat - l.toNat) (n - l.toNat)) W := by
  obtain ⟨ie, hie, hsz⟩ := Option.map_eq_some_iff.1 hE
  have ha : Program.arrayLen P T = n := by simp [Program.arrayLen, hT]
  have he : Program.elem P T = E := by simp [Program.elem, hT]
  have hs : (sizeOf E).run P W = .ok 1 W := by simp [sizeOf, typeInfo, hie, hsz]
  have hr := run_sliceAt_array_lh (P := P) W T ⟨g, 0, none⟩ (by rw [ha, he]; exact hT) kl kh l h h0 h1 (by rw [ha]; exact h2)
  rw [hr, he, hs, ha]
  simp only [Result.andThen_ok, slicedAt, Nat.mul_one]
  rw [if_neg (by omega), at_]
theorem cut_event (hgd : o.guard = none) {D : Tmp} (_hd : o.dst = some D) {T E : TypeId} {n : Nat} {x i j : Operand} (ho : o.op = .slice T x (some i) (some j) none) (hT : P.underlying T = some (.array n E)) (hE : (P.info? E).map (·.size) = some 1)
    {g : Nat} (hx : a.eval x = .pointer (some ⟨g, 0, none⟩)) {kl kh : IntKind} {l h : Int} (hi : a.eval i = .int kl l) (hj : a.eval j = .int kh h) (h0 : 0 ≤ l) (h1 : l ≤ h) (h2 : h ≤ n) (h3 : l < n)
    (hK : wpList P ops Q rest (a.put o.dst (.slice (some ⟨g, l.toNat, none⟩) (h.toNat - l.toNat) (n - l.toNat))) W) : wpList P ops Q (o :: rest) a W := by
  refine Kd.event_run hgd ?_ hK
  unfold execOp
  simp only [ho, hx, hi, hj, Option.map_some, Option.map_none, Sem.run_bind, cut_run hT hE h0 h1 h2 h3, Result.andThen_ok]
  rfl
theorem cutl_run {T E : TypeId} {n : Nat} (hT : P.underlying T = some (.array n E)) (hE : (P.info? E).map (·.size) = some 1) {W : World} {g : Nat} {kl : IntKind} {l : Int} (h0 : 0 ≤ l) (h3 : l < n) :
    (Instr.sliceAt T (.pointer (some ⟨g, 0, none⟩)) (some (.int kl l)) none none).run P W = .ok (.slice (some ⟨g, l.toNat, none⟩) (n - l.toNat) (n - l.toNat)) W := by
  obtain ⟨ie, hie, hsz⟩ := Option.map_eq_some_iff.1 hE
  have ha : Program.arrayLen P T = n := by simp [Program.arrayLen, hT]
  have he : Program.elem P T = E := by simp [Program.elem, hT]
  have hs : (sizeOf E).run P W = .ok 1 W := by simp [sizeOf, typeInfo, hie, hsz]
  have hr := run_sliceAt_array_l (P := P) W T ⟨g, 0, none⟩ (by rw [ha, he]; exact hT) kl l h0 (by rw [ha]; omega)
  rw [hr, he, hs, ha]
  simp only [Result.andThen_ok, slicedAt, Nat.mul_one]
  rw [if_neg (by omega), at_]
theorem cutl_event (hgd : o.guard = none) {D : Tmp} (_hd : o.dst = some D) {T E : TypeId} {n : Nat} {x i : Operand} (ho : o.op = .slice T x (some i) none none) (hT : P.underlying T = some (.array n E)) (hE : (P.info? E).map (·.size) = some 1)
    {g : Nat} (hx : a.eval x = .pointer (some ⟨g, 0, none⟩)) {kl : IntKind} {l : Int} (hi : a.eval i = .int kl l) (h0 : 0 ≤ l) (h3 : l < n)
    (hK : wpList P ops Q rest (a.put o.dst (.slice (some ⟨g, l.toNat, none⟩) (n - l.toNat) (n - l.toNat))) W) : wpList P ops Q (o :: rest) a W := by
  refine Kd.event_run hgd ?_ hK
  unfold execOp
  simp only [ho, hx, hi, Option.map_some, Option.map_none, Sem.run_bind, cutl_run hT hE h0 h3, Result.andThen_ok]
  rfl
theorem ptr_event (hgd : o.guard = none) {D : Tmp} (_hd : o.dst = some D) {T E : TypeId} {m : Nat} {x : Operand} (ho : o.op = .sliceToArrayPointer T x) (hT : P.underlying T = some (.array m E)) {A : Addr} {len cap : Nat} (hx : a.eval x = .slice (some A) len cap) (hl : m ≤ len)
    (hK : wpList P ops Q rest (a.put o.dst (.pointer (some A))) W) : wpList P ops Q (o :: rest) a W := by
  refine Kd.event_run hgd ?_ hK
  unfold execOp
  simp only [ho, hx, Instr.arrayAt, Sem.run_bind, run_underlying hT, Result.andThen_ok, if_neg (Nat.not_lt.2 hl), Sem.run_pure]
theorem load_part_event (hgd : o.guard = none) {D : Tmp} (_hd : o.dst = some D) {T E : TypeId} {m : Nat} {x : Operand} (ho : o.op = .load T x) (hT : P.underlying T = some (.array m E)) (hi : (P.info? T).map (·.size) = some m)
    {g c : Nat} (hx : a.eval x = .pointer (some ⟨g, c, none⟩)) {k : IntKind} {n : Nat} {l : List Int} {T' : TypeId} (hb : W.heap[g]? = some (.cells (cells k n l) T' (0, 0))) (hc : c + m ≤ n)
    (hK : wpList P ops Q rest (a.put o.dst (val k m (part n l c m))) W) : wpList P ops Q (o :: rest) a W := by
  refine Kd.event_run hgd ?_ hK
  obtain ⟨it, hit, hsz⟩ := Option.map_eq_some_iff.1 hi
  have hpl : (part n l c m).length = m := part_len l hc
  have hcs : cells k m (part n l c m) = (nums k (part n l c m)).toArray := by unfold cells; rw [fit_id hpl]
  have hr := run_loadCells_list (P := P) W ⟨g, c, none⟩ (nums k (part n l c m)) (fun j v hj => by
    have hjc : j < m := by
      have := (List.getElem?_eq_some_iff.1 hj).1
      rwa [nums_length, hpl] at this
    have hcell := cell_run hb (j := ((c + j : Nat) : Int)) (by omega) (by omega)
    rw [Int.toNat_natCast] at hcell
    rw [at2_, hcell, ← hj]
    have hlt : c + j < (fit n l).length := by rw [fit_len]; omega
    have e : ((c + j : Nat) : Int).toNat = c + j := Int.toNat_natCast _
    unfold get rd
    rw [e]
    simp [nums, part, List.getElem?_drop, hjc, List.getD, List.getElem?_eq_getElem hlt])
  rw [nums_length, hpl] at hr
  have hagg : (isAgg T).run P W = .ok true W := by simp [isAgg, run_underlying hT]
  have hs : (sizeOf T).run P W = .ok m W := by simp [sizeOf, typeInfo, hit, hsz]
  unfold execOp
  simp only [ho, hx, Instr.loadAt, Instr.sureAddr, Sem.run_bind, Sem.run_pure, Result.andThen_ok, loadVar, hagg, if_true, hs, hr]
  rw [val, hcs]
end

/-! an array that came in -/
def intOf : Value → Int | .int _ z => z | _ => 0
theorem open_arr {H : Type} {enc : TypeId × Value → H} {P : Program} {w : World} {base : Nat} {spare : Nat → Bool} {held : Bool} {r : Reach} {b0 : Nat} {t E : TypeId} {n : Nat} {k : IntKind} {v : Value} {d : DataW H} {ps : List MemPlace}
    (hT : P.underlying t = some (.array n E)) (hk : P.underlying E = some (.int k)) (hE : (P.info? E).map (·.size) = some 1) (hi : (P.info? t).map (·.size) = some n)
    (hval : Value.okWide P w r b0 t v) (hd : DataW.Trod enc P w base spare held t v d ps) :
    ∃ l, v = .agg (cells k n l) ∧ l.length = n ∧ ∀ x ∈ l, (Lit.int k x).wf = true := by
  unfold Value.okWide at hval
  rw [hT] at hval
  obtain ⟨cs, rfl, hsz, _⟩ := hval
  have hc1 : P.cellsOf E = 1 := by unfold Program.cellsOf; rw [hE]; rfl
  have hcn : P.cellsOf t = n := by unfold Program.cellsOf; rw [hi]; rfl
  rw [hcn] at hsz
  obtain ⟨fuel, hf⟩ := hd
  obtain ⟨xs, m, rfl, _, _, hxn, hall⟩ := DataW.trod_array hT hf
  have key : ∀ i, i < n → ∃ z, cs[i]? = some (.int k z) ∧ (Lit.int k z).wf = true := fun i hin => by
    have h := hall i hin
    rw [hc1, Nat.mul_one] at h
    obtain ⟨x, hx⟩ : ∃ x, xs[i]? = some x := ⟨_, List.getElem?_eq_getElem (by omega)⟩
    rw [hx] at h
    obtain ⟨z, hz, _, hw⟩ := DataW.trod_int hk h
    refine ⟨z, ?_, hw⟩
    have h2 := congrArg (·[0]?) hz
    simpa [Value.cells, List.getElem?_take, List.getElem?_drop] using h2
  refine ⟨cs.toList.map intOf, ?_, by simpa using hsz, fun x hx => ?_⟩
  · congr 1
    have e : fit n (cs.toList.map intOf) = cs.toList.map intOf := fit_id (by simpa using hsz)
    apply Array.ext_getElem?
    intro i
    simp only [cells, e, nums, List.map_map, List.getElem?_toArray, List.getElem?_map, Array.getElem?_toList]
    by_cases hin : i < n
    · obtain ⟨z, hz, _⟩ := key i hin
      simp [hz, intOf]
    · rw [Array.getElem?_eq_none (by omega)]; rfl
  · obtain ⟨v, hv, rfl⟩ := List.mem_map.1 hx
    obtain ⟨i, hin, he⟩ := List.mem_iff_getElem.1 hv
    obtain ⟨z, hz, hw⟩ := key i (by simpa [hsz] using hin)
    have hvz : v = .int k z := by
      have h3 : cs[i]? = some v := by
        rw [← Array.getElem?_toList, List.getElem?_eq_getElem hin, he]
      exact Option.some.inj (h3.symm.trans hz)
    rw [hvz]; exact hw
end Go.Proofs.Ytkbpdnhbmceajaa.Ar
