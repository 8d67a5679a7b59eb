/- Arrays of whole numbers, by value and as variables in memory: what one operation on them does, for the printed walks of this seat. No conditions. -/
import Derived.Test.YtkbpdnhbmceajaaWMore
import Derived.Laws.Rows
import Derived.Laws.Tables
import Derived.Laws.StructEq
import Derived.ChangeKeysEq
import Derived.OpenShut
import Derived.ChangeShapes
import Derived.Laws.IdiomCopy
namespace Go.Proofs.Ytkbpdnhbmceajaa.Ar
open Go.RowKit Go.Proofs.YtkbpdnhbmceajaaW.PrintWords

/-- A list as one of n numbers. -/
def fit (n : Nat) (l : List Int) : List Int := l.take n ++ List.replicate (n - l.length) 0
theorem fit_len (n : Nat) (l : List Int) : (fit n l).length = n := by simp [fit]; omega
theorem fit_id {n : Nat} {l : List Int} (h : l.length = n) : fit n l = l := by subst h; simp [fit]
def cells (k : IntKind) (n : Nat) (l : List Int) : Array Value := (nums k (fit n l)).toArray
abbrev val (k : IntKind) (n : Nat) (l : List Int) : Value := .agg (cells k n l)
def get (n : Nat) (l : List Int) (j : Int) : Int := rd (fit n l) j
def set (n : Nat) (l : List Int) (j v : Int) : List Int := (fit n l).set j.toNat v
def eqb (n : Nat) (a b : List Int) : Bool := fit n a == fit n b
theorem cells_size (k : IntKind) (n : Nat) (l : List Int) : (cells k n l).size = n := by simp [cells, nums, fit_len]
theorem cells_at {k : IntKind} {n : Nat} {l : List Int} {j : Int} (h0 : 0 ≤ j) (h1 : j < n) : (cells k n l)[j.toNat]? = some (.int k (get n l j)) := by
  have hl : j.toNat < (fit n l).length := by rw [fit_len]; omega
  simp [cells, nums, get, rd, List.getD, List.getElem?_eq_getElem hl]
theorem cells_set {k : IntKind} {n : Nat} {l : List Int} {j v : Int} : (cells k n l).setIfInBounds j.toNat (.int k v) = cells k n (set n l j v) := by
  have e : fit n (set n l j v) = set n l j v := fit_id (by simp [set, fit_len])
  rw [cells, cells, e]
  simp [set, nums, List.map_set]
theorem cells_eq (k : IntKind) (n : Nat) (l : List Int) : cells k n l = ((List.range n).map fun i : Nat => Value.int k (get n l i)).toArray := by
  unfold cells
  congr 1
  apply List.ext_getElem
  · simp [nums, fit_len]
  · intro i h1 h2
    have h3 : i < (fit n l).length := by simpa [nums] using h1
    simp [nums, get, rd, List.getD, List.getElem?_eq_getElem h3]
theorem cells_one (k : IntKind) (n : Nat) (l : List Int) : (cells k n l).all (·.oneCell') = true := by
  simp [cells, nums, Value.oneCell']

section
variable {P : Program} {ops : Array Oper} {rest : List Oper} {o : Oper} {a : Act} {Q : Exit → Act → World → Prop} {W : World}

/-- The address of an element. -/
theorem idx_event (hgd : o.guard = none) {D : Tmp} (_hd : o.dst = some D) {T E : TypeId} {n : Nat} {x i : Operand} (ho : o.op = .indexAddr T x i) (hT : P.underlying T = some (.array n E)) (hE : (P.info? E).map (·.size) = some 1)
    {g : Nat} (hx : a.eval x = .pointer (some ⟨g, 0, none⟩)) {ki : IntKind} {j : Int} (hi : a.eval i = .int ki j) (h0 : 0 ≤ j) (h1 : j < n)
    (h : wpList P ops Q rest (a.put o.dst (.pointer (some ⟨g, j.toNat, none⟩))) W) : wpList P ops Q (o :: rest) a W := by
  refine Kd.event_run hgd ?_ h
  obtain ⟨ie, hie, hsz⟩ := Option.map_eq_some_iff.1 hE
  have ha : Program.arrayLen P T = n := by simp [Program.arrayLen, hT]
  have he : Program.elem P T = E := by simp [Program.elem, hT]
  have hs : (sizeOf E).run P W = .ok 1 W := by simp [sizeOf, typeInfo, hie, hsz]
  have hr := run_indexAt_array (P := P) W T ⟨g, 0, none⟩ ki j (by rw [ha, he]; exact hT)
  rw [ha, he, if_pos ⟨h0, h1⟩, hs] at hr
  have hadd : (⟨g, 0, none⟩ : Addr).add (j.toNat * 1) = ⟨g, j.toNat, none⟩ := by
    rw [Nat.mul_one]; unfold Addr.add; split <;> simp_all
  unfold execOp
  simp only [ho, hx, hi, Sem.run_bind, hr, Result.andThen_ok, hadd]
  rfl

/-- An element's value. -/
theorem get_event (hgd : o.guard = none) {D : Tmp} (_hd : o.dst = some D) {E : TypeId} {x : Operand} (ho : o.op = .load E x) {k : IntKind} (hE : P.underlying E = some (.int k))
    {g : Nat} {j : Int} (hx : a.eval x = .pointer (some ⟨g, j.toNat, none⟩)) {n : Nat} {l : List Int} {T : TypeId} (hb : W.heap[g]? = some (.cells (cells k n l) T (0, 0))) (h0 : 0 ≤ j) (h1 : j < n)
    (h : wpList P ops Q rest (a.put o.dst (.int k (get n l j))) W) : wpList P ops Q (o :: rest) a W := by
  refine Kd.event_run hgd ?_ h
  have hc : W.cell? ⟨g, j.toNat, none⟩ = some (.int k (get n l j)) := by rw [blk_cell hb]; exact cells_at h0 h1
  have hu : (isAgg E).run P W = .ok false W := by simp [isAgg, run_underlying hE]
  unfold execOp
  simp only [ho, hx, Instr.loadAt, Instr.sureAddr, Sem.run_bind, Sem.run_pure, Result.andThen_ok, loadVar, hu]
  simp [hc]

/-- A store into an element. -/
theorem put_event (hgd : o.guard = none) {E : TypeId} {p : Tmp} {v : Operand} (ho : o.op = .store E (.tmp p) v) (hN : o.dst = none) {k : IntKind} (hE : (P.info? E).map (·.size) = some 1)
    {g : Nat} {j : Int} (hx : a.eval (.tmp p) = .pointer (some ⟨g, j.toNat, none⟩)) {z : Int} (hv : a.eval v = .int k z) {n : Nat} {l : List Int} {T : TypeId} (hb : W.heap[g]? = some (.cells (cells k n l) T (0, 0))) (h0 : 0 ≤ j) (h1 : j < n)
    (h : ∀ w', w'.heap[g]? = some (.cells (cells k n (set n l j z)) T (0, 0)) → W.grownBy w' (some g) → wpList P ops Q rest a w') : wpList P ops Q (o :: rest) a W := by
  obtain ⟨ie, hie, hsz⟩ := Option.map_eq_some_iff.1 hE
  have hc : W.cell? ⟨g, j.toNat, none⟩ = some (.int k (get n l j)) := by rw [blk_cell hb]; exact cells_at h0 h1
  have hf : W.frozen? ⟨g, j.toNat, none⟩ = false := blk_frozen hb _
  have hadd : (⟨g, j.toNat, none⟩ : Addr).add 0 = ⟨g, j.toNat, none⟩ := by unfold Addr.add; split <;> simp_all
  have hs : (sizeOf E).run P W = .ok 1 W := by simp [sizeOf, typeInfo, hie, hsz]
  have hrun : (execOp a.eval o).run P W = .ok .skip (W.setCell ⟨g, j.toNat, none⟩ (.int k z)) := by
    unfold execOp
    simp only [ho, hx, hv, Instr.storeAt, Instr.sureAddr, Sem.run_bind, Sem.run_pure, Result.andThen_ok, storeVar, hs]
    simp [Value.cells, storeCells, hadd, run_store_int, stored, hc, hf]
  refine store_event hgd (t := E) (p := p) (v := v) ho hN hrun ?_
  rintro w' rfl
  refine h _ ?_ ?_
  · have := blk_set hb j.toNat (.int k z)
    rw [this, cells_set]
  · exact ⟨rfl, rfl, rfl, by simp [World.setCell], fun q _ hq => Below.heap_setCell _ _ _ _ (by rintro rfl; exact hq rfl)⟩

/-- The whole array. -/
theorem load_event (hgd : o.guard = none) {D : Tmp} (_hd : o.dst = some D) {T E : TypeId} {x : Operand} (ho : o.op = .load T x) {n : Nat} (hT : P.underlying T = some (.array n E)) (hi : (P.info? T).map (·.size) = some n)
    {g : Nat} (hx : a.eval x = .pointer (some ⟨g, 0, none⟩)) {k : IntKind} {l : List Int} {T' : TypeId} (hb : W.heap[g]? = some (.cells (cells k n l) T' (0, 0)))
    (h : wpList P ops Q rest (a.put o.dst (val k n l)) W) : wpList P ops Q (o :: rest) a W :=
  wpList_load_row hgd T x ho g hx T' _ (0, 0) _ hb hT rfl (by rw [cells_size]; exact hi) h

/-- A whole array laid into a variable. -/
theorem store_all_event (hgd : o.guard = none) {T E : TypeId} {p : Tmp} {v : Operand} (ho : o.op = .store T (.tmp p) v) (hN : o.dst = none) {n : Nat} (_hT : P.underlying T = some (.array n E)) (hi : (P.info? T).map (·.size) = some n)
    {g : Nat} (hx : a.eval (.tmp p) = .pointer (some ⟨g, 0, none⟩)) {k : IntKind} {z : List Int} (hv : a.eval v = val k n z) {l : List Int} {T' : TypeId} (hb : W.heap[g]? = some (.cells (cells k n l) T' (0, 0)))
    (h : ∀ w', w'.heap[g]? = some (.cells (cells k n z) T' (0, 0)) → W.grownBy w' (some g) → wpList P ops Q rest a w') : wpList P ops Q (o :: rest) a W := by
  refine wpList_store_row hgd T (.tmp p) v ho g (cells k n z) hx hv T' _ hb (by rw [cells_size]; exact hi) (by rw [cells_size, cells_size]) (cells_one _ _ _) ?_
  rw [hN]
  refine h _ (setRow_heap _ _ _ _ _ _ hb) ⟨rfl, rfl, rfl, by simp, fun q _ hq => setRow_other _ _ _ _ (by rintro rfl; exact hq rfl)⟩

section
variable {Kc : Act → World → Prop}
end

/-- A variable out of a value. -/
theorem box_run {T : TypeId} {x : Operand} (ho : o.op = .box T x) {k : IntKind} {n : Nat} {l : List Int} (hx : a.eval x = val k n l) :
    (execOp a.eval o).run P W = .ok (.value (.pointer (some ⟨W.heap.size, 0, none⟩))) (W.alloc (.cells (cells k n l) T (0, 0))) := by
  unfold execOp
  simp [ho, hx, Instr.box, newVar, newRow, newObj, val, Value.cells]
  rfl
theorem alloc_run {T : TypeId} (ho : o.op = .alloc T) {k : IntKind} {n : Nat} (hz : (P.info? T).map (·.zero) = some (some (val k n (List.replicate n 0)))) :
    (execOp a.eval o).run P W = .ok (.value (.pointer (some ⟨W.heap.size, 0, none⟩))) (W.alloc (.cells (cells k n (List.replicate n 0)) T (0, 0))) := by
  obtain ⟨i, hi, hzz⟩ := Option.map_eq_some_iff.1 hz
  unfold execOp
  simp [ho, Instr.alloc, zeroValue, typeInfo, hi, hzz, newVar, newRow, newObj, val, Value.cells]
  rfl

/-- An element of a value. -/
theorem vidx_event (hgd : o.guard = none) {D : Tmp} (_hd : o.dst = some D) {T E : TypeId} {n : Nat} {x i : Operand} (ho : o.op = .index T x i) (hT : P.underlying T = some (.array n E)) (hE : (P.info? E).map (·.size) = some 1)
    {k : IntKind} (hk : P.underlying E = some (.int k)) {l : List Int} (hx : a.eval x = val k n l) {ki : IntKind} {j : Int} (hi : a.eval i = .int ki j) (h0 : 0 ≤ j) (h1 : j < n)
    (h : wpList P ops Q rest (a.put o.dst (.int k (get n l j))) W) : wpList P ops Q (o :: rest) a W := by
  refine Kd.event_run hgd ?_ h
  obtain ⟨ie, hie, hsz⟩ := Option.map_eq_some_iff.1 hE
  have hs : (sizeOf E).run P W = .ok 1 W := by simp [sizeOf, typeInfo, hie, hsz]
  have hu : (isAgg E).run P W = .ok false W := by simp [isAgg, run_underlying hk]
  have hc := cells_at (k := k) (l := l) h0 h1
  unfold execOp
  simp only [ho, hx, hi, Instr.index, val, asIntOf, Sem.run_bind, Sem.run_pure, Result.andThen_ok, run_underlying hT, if_pos (And.intro h0 h1), hs, part, hu, Nat.mul_one]
  simp [hc]

/-- A literal. -/
theorem fill_ints (k : IntKind) (n : Nat) : ∀ (ps : List (Nat × Int)) (l : List Int), l.length = n → (ps.map (·.1)).all (fun i => decide (i < n)) = true →
    Instr.fill (fun i => some (i * 1, 1)) (cells k n l) (ps.map fun p => (p.1, .int k p.2)) = some (cells k n (ps.foldl (fun l p => l.set p.1 p.2) l))
  | [], l, _, _ => rfl
  | (i, z) :: ps, l, hl, hi => by
    simp only [List.map_cons, List.all_cons, Bool.and_eq_true, decide_eq_true_eq] at hi
    have hs : (Value.int k z).cells.zipIdx.foldl (fun cs (c, j) => cs.setIfInBounds (i * 1 + j) c) (cells k n l) = cells k n (l.set i z) := by
      have e1 : fit n l = l := fit_id hl
      have e2 : fit n (l.set i z) = l.set i z := fit_id (by simpa using hl)
      simp [Value.cells, cells, e1, e2, nums, List.map_set]
    have h1 : ¬ ((Value.int k z).cells.size ≠ 1 || i * 1 + (Value.int k z).cells.size > (cells k n l).size) = true := by
      simp [Value.cells, cells_size]; omega
    simp only [List.map_cons, Instr.fill]
    rw [if_neg h1, hs]
    exact fill_ints k n ps (l.set i z) (by simpa using hl) hi.2
theorem build_event (hgd : o.guard = none) {D : Tmp} (_hd : o.dst = some D) {T E : TypeId} {parts : Array (Nat × Operand)} (ho : o.op = .build T parts) {k : IntKind} {n : Nat} {l : List Int}
    (hT : P.underlying T = some (.array n E)) (hE : (P.info? E).map (·.size) = some 1) (hz : (P.info? T).map (·.zero) = some (some (val k n (List.replicate n 0)))) (ps : List (Nat × Int))
    (hps : (parts.toList.map fun (i, x) => (i, a.eval x)) = ps.map fun p => (p.1, .int k p.2)) (hlt : (ps.map (·.1)).all (fun i => decide (i < n)) = true) (hl : ps.foldl (fun l p => l.set p.1 p.2) (List.replicate n 0) = l)
    (h : wpList P ops Q rest (a.put o.dst (val k n l)) W) : wpList P ops Q (o :: rest) a W := by
  obtain ⟨ie, hie, hsz⟩ := Option.map_eq_some_iff.1 hE
  obtain ⟨it, hit, hzz⟩ := Option.map_eq_some_iff.1 hz
  have hb2 : P.built T (parts.map fun (i, x) => (i, a.eval x)).toList = some (cells k n l) := by
    unfold Program.built
    simp only [hit, hT, hzz, hie, hsz, Value.cells, Array.toList_map, hps]
    rw [fill_ints k n ps _ (by simp) hlt, hl]
  refine wpList_build hgd T parts ho (by rw [hb2]; rfl) ?_
  rw [hb2]
  exact h

/-- '==' and '!='. -/
theorem all_range (n : Nat) : ∀ (xs ys : List Int), xs.length = n → ys.length = n → ((List.range n).all fun i => xs.getD i 0 == ys.getD i 0) = (xs == ys) := by
  induction n with
  | zero => intro xs ys hx hy; rw [List.length_eq_zero_iff.1 hx, List.length_eq_zero_iff.1 hy]; rfl
  | succ n ih =>
    intro xs ys hx hy
    rcases xs with _ | ⟨x, xs⟩
    · simp at hx
    rcases ys with _ | ⟨y, ys⟩
    · simp at hy
    have := ih xs ys (by simpa using hx) (by simpa using hy)
    rw [List.range_succ_eq_map, List.all_cons, List.all_map]
    simp only [List.getD_cons_zero, Function.comp_def, List.getD_cons_succ, this]
    simp [List.cons_beq_cons]
theorem run_eq (d : Nat) (T E : TypeId) {n : Nat} (hT : P.underlying T = some (.array n E)) (hE : (P.info? E).map (·.size) = some 1) {k : IntKind} (hk : P.underlying E = some (.int k)) (x y : List Int) (W : World) :
    (Op.equalIn (d + 2) T (val k n x) (val k n y)).run P W = .ok (eqb n x y) W := by
  obtain ⟨ie, hie, hsz⟩ := Option.map_eq_some_iff.1 hE
  have hs : ∀ W, (sizeOf E).run P W = .ok 1 W := fun W => by simp [sizeOf, typeInfo, hie, hsz]
  unfold eqb
  rw [← all_range n _ _ (fit_len n x) (fit_len n y), List.range_eq_range', val, val, Op.equalIn]
  simp only [Sem.run_bind, run_underlying hT, Result.andThen_ok, hs, Std.Legacy.Range.forIn_eq_forIn_range', Std.Legacy.Range.size, Nat.sub_zero, Nat.add_sub_cancel, Nat.div_one]
  have hl : ∀ i ∈ List.range' 0 n 1, i < n := fun i hi => by simpa using (List.mem_range'_1.1 hi).2
  generalize List.range' 0 n 1 = l at hl ⊢
  have hu : ∀ W, (isAgg E).run P W = .ok false W := fun W => by simp [isAgg, run_underlying hk]
  have hp : ∀ (z : List Int) (i : Nat), i < n → (part E (cells k n z) (i * 1)).run P W = .ok (.int k ((fit n z).getD i 0)) W := fun z i hi => by
    have hc := cells_at (k := k) (n := n) (l := z) (j := (i : Int)) (by omega) (by omega)
    simp only [Int.toNat_natCast, get, rd] at hc
    simp only [part, Sem.run_bind, hu, Result.andThen_ok, Nat.mul_one]
    simp [hc]
  induction l with
  | nil => simp
  | cons i l ih =>
    have hi : i < n := hl i (by simp)
    have pe : (Op.equalIn (d + 1) E (.int k ((fit n x).getD i 0)) (.int k ((fit n y).getD i 0))).run P W = .ok ((fit n x).getD i 0 == (fit n y).getD i 0) W := by
      rw [run_equalIn_int W d E k k _ _ hk]
    simp only [List.forIn_cons, Sem.run_bind, hp x i hi, hp y i hi, pe, Result.andThen_ok, List.all_cons]
    cases hb : ((fit n x).getD i 0 == (fit n y).getD i 0)
    · simp
    · simp only [Bool.not_true, Bool.false_eq_true, if_false, Sem.run_pure, Result.andThen_ok, Bool.true_and]
      exact ih fun j hj => hl j (by simp [hj])
theorem guard_eq (op : BinOp) (T : TypeId) (hg : P.eqGuardType P.depth T = false) (x y : Operand) (u v : Array Value) (W : World) : (eqGuard op T x y (.agg u) (.agg v)).run P W = .ok () W := by
  unfold eqGuard
  cases op <;> simp [hg]
theorem eq_event (hgd : o.guard = none) {D : Tmp} (_hd : o.dst = some D) {T E T2 : TypeId} {n : Nat} {x y : Operand} {neq : Bool} (ho : o.op = .binOp (if neq then .neq else .eql) T x y T2) (hT : P.underlying T = some (.array n E)) (hE : (P.info? E).map (·.size) = some 1)
    {k : IntKind} (hk : P.underlying E = some (.int k)) (hg : P.eqGuardType P.depth T = false) {l m : List Int} (hx : a.eval x = val k n l) (hy : a.eval y = val k n m)
    (h : wpList P ops Q rest (a.put o.dst (.bool (if neq then !(eqb n l m) else eqb n l m))) W) : wpList P ops Q (o :: rest) a W := by
  refine Kd.event_run hgd ?_ h
  have h1 := fun op => guard_eq (P := P) op T hg x y (cells k n l) (cells k n m) W
  have h2 := run_eq (P := P) 9998 T E hT hE hk l m W
  unfold execOp
  cases neq
  · simp only [Bool.false_eq_true, if_false] at ho ⊢
    simp only [ho, hx, hy, Sem.run_bind, val, h1, Result.andThen_ok]
    rw [run_eql_struct]
    simp only [val] at h2
    rw [h2]; rfl
  · simp only [if_true] at ho ⊢
    simp only [ho, hx, hy, Sem.run_bind, val, h1, Result.andThen_ok]
    rw [run_neq_struct]
    simp only [val] at h2
    rw [h2]; rfl
end
/-! copy from one array variable into another -/
def part (m : Nat) (l : List Int) (o c : Nat) : List Int := ((fit m l).drop o).take c
def putAll (n : Nat) : List Int → Nat → List Int → List Int
  | l, _, [] => l
  | l, o, v :: r => putAll n (set n l (o : Int) v) (o + 1) r
section
variable {P : Program} {o : Oper} {ρ : Operand → Value} {W : World}
end

section
variable {P : Program} {ops : Array Oper} {rest : List Oper} {o : Oper} {a : Act} {Q : Exit → Act → World → Prop} {Kc : Act → World → Prop} {W : World}
end

/-! a cut of an array variable, as an array again -/
section
variable {P : Program} {ops : Array Oper} {rest : List Oper} {o : Oper} {a : Act} {Q : Exit → Act → World → Prop} {W : World}
theorem at_ (g i : Nat) : (⟨g, 0, none⟩ : Addr).add i = ⟨g, i, none⟩ := by unfold Addr.add; split <;> simp_all
theorem at2_ (g i j : Nat) : (⟨g, i, none⟩ : Addr).add j = ⟨g, i + j, none⟩ := by unfold Addr.add; split <;> simp_all
theorem ptr_event (hgd : o.guard = none) {D : Tmp} (_hd : o.dst = some D) {T E : TypeId} {m : Nat} {x : Operand} (ho : o.op = .sliceToArrayPointer T x) (hT : P.underlying T = some (.array m E)) {A : Addr} {len cap : Nat} (hx : a.eval x = .slice (some A) len cap) (hl : m ≤ len)
    (hK : wpList P ops Q rest (a.put o.dst (.pointer (some A))) W) : wpList P ops Q (o :: rest) a W := by
  refine Kd.event_run hgd ?_ hK
  unfold execOp
  simp only [ho, hx, Instr.arrayAt, Sem.run_bind, run_underlying hT, Result.andThen_ok, if_neg (Nat.not_lt.2 hl), Sem.run_pure]
end

/-! an array that came in -/
def intOf : Value → Int | .int _ z => z | _ => 0
end Go.Proofs.Ytkbpdnhbmceajaa.Ar
