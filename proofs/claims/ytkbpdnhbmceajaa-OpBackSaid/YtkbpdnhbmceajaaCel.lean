/- One field of a variable that holds a struct, read and written, and an array laid into the midst of one: what one operation does, for the walks of this seat. No conditions. -/
import Derived.Test.YtkbpdnhbmceajaaFat
import Derived.Deep.MidRow
import Derived.Test.YtkbpdnhbmceajaaFnv
namespace Go.Proofs.Ytkbpdnhbmceajaa.Ar
open Go.RowKit Go.Proofs.YtkbpdnhbmceajaaW.PrintWords

section
variable {P : Program} {ops : Array Oper} {rest : List Oper} {o : Oper} {a : Act} {Q : Exit → Act → World → Prop} {W : World}
/-- What is no struct and no array is read where its cell lies. -/
theorem cload_run {T : TypeId} {x : Operand} (ho : o.op = .load T x) {d : TypeDesc} (hu : P.underlying T = some d) (hd : (match d with | .struct _ | .array _ _ => true | _ => false) = false) {A : Addr} (hx : a.eval x = .pointer (some A)) {v : Value} (hc : W.cell? A = some v) :
    (execOp a.eval o).run P W = .ok (.value v) W := by
  have hagg : (isAgg T).run P W = .ok false W := by
    cases d <;> simp_all [isAgg, run_underlying hu]
  unfold execOp
  simp only [ho, hx, Instr.loadAt, Instr.sureAddr, Sem.run_bind, Sem.run_pure, Result.andThen_ok, loadVar, hagg]
  simp [hc]
theorem cload_event (hgd : o.guard = none) {T : TypeId} {x : Operand} (ho : o.op = .load T x) {d : TypeDesc} (hu : P.underlying T = some d) (hd : (match d with | .struct _ | .array _ _ => true | _ => false) = false) {A : Addr} (hx : a.eval x = .pointer (some A)) {v : Value} (hc : W.cell? A = some v)
    (hK : wpList P ops Q rest (a.put o.dst v) W) : wpList P ops Q (o :: rest) a W := Kd.event_run hgd (cload_run ho hu hd hx hc) hK
theorem blk_at {g T c : Nat} {C : Array Value} {v : Value} (hb : W.heap[g]? = some (.cells C T (0, 0))) (h : C.toList[c]? = some v) : W.cell? ⟨g, c, none⟩ = some v := by
  rw [cell_of_row _ _ _ _ T (0, 0) hb, ← Array.getElem?_toList]; exact h
/-- A whole number laid into one cell of a variable. -/
theorem cstore_run {E : TypeId} {p v : Operand} (ho : o.op = .store E p v) {k : IntKind} (hE : (P.info? E).map (·.size) = some 1)
    {g c : Nat} (hx : a.eval p = .pointer (some ⟨g, c, none⟩)) {z : Int} (hv : a.eval v = .int k z) {C : Array Value} {T : TypeId} (hb : W.heap[g]? = some (.cells C T (0, 0))) {z0 : Int} (hc0 : C.toList[c]? = some (.int k z0)) :
    (execOp a.eval o).run P W = .ok .skip (W.setCell ⟨g, c, none⟩ (.int k z)) := by
  obtain ⟨ie, hie, hsz⟩ := Option.map_eq_some_iff.1 hE
  have hc : W.cell? ⟨g, c, none⟩ = some (.int k z0) := blk_at hb hc0
  have hf : W.frozen? ⟨g, c, none⟩ = false := blk_frozen hb _
  have hadd : (⟨g, c, none⟩ : Addr).add 0 = ⟨g, c, none⟩ := by unfold Addr.add; split <;> simp_all
  have hs : (sizeOf E).run P W = .ok 1 W := by simp [sizeOf, typeInfo, hie, hsz]
  unfold execOp
  simp only [ho, hx, hv, Instr.storeAt, Instr.sureAddr, Sem.run_bind, Sem.run_pure, Result.andThen_ok, storeVar, hs]
  simp [Value.cells, storeCells, hadd, run_store_int, stored, hc, hf]
theorem cstore_after {k : IntKind} {g c : Nat} {z : Int} {C : Array Value} {T : TypeId} (hb : W.heap[g]? = some (.cells C T (0, 0))) :
    (W.setCell ⟨g, c, none⟩ (.int k z)).heap[g]? = some (.cells (C.setIfInBounds c (.int k z)) T (0, 0)) ∧ W.grownBy (W.setCell ⟨g, c, none⟩ (.int k z)) (some g) :=
  ⟨blk_set hb c (.int k z), rfl, rfl, rfl, by simp [World.setCell], fun q _ hq => Below.heap_setCell _ _ _ _ (by rintro rfl; exact hq rfl)⟩
theorem cstore_event (hgd : o.guard = none) {E : TypeId} {p v : Operand} (ho : o.op = .store E p v) (hN : o.dst = none) {k : IntKind} (hE : (P.info? E).map (·.size) = some 1)
    {g c : Nat} (hx : a.eval p = .pointer (some ⟨g, c, none⟩)) {z : Int} (hv : a.eval v = .int k z) {C : Array Value} {T : TypeId} (hb : W.heap[g]? = some (.cells C T (0, 0))) {z0 : Int} (hc0 : C.toList[c]? = some (.int k z0))
    (h : ∀ w', w'.heap[g]? = some (.cells (C.setIfInBounds c (.int k z)) T (0, 0)) → W.grownBy w' (some g) → wpList P ops Q rest a w') : wpList P ops Q (o :: rest) a W := by
  refine wpList_plain hgd fun K hK => ?_
  have hr := cstore_run (P := P) ho hE hx hv hb hc0
  obtain ⟨h1, h2⟩ := cstore_after (k := k) (c := c) (z := z) hb
  unfold Oper.wp
  rw [hr]
  show K (a.put o.dst undef) _
  rw [hN]
  exact hK _ _ (h _ h1 h2)
/-- All of an array, as a slice. -/
theorem cutall_run {T E : TypeId} {n : Nat} (hT : P.underlying T = some (.array n E)) (hE : (P.info? E).map (·.size) = some 1) {g c : Nat} (h0 : 0 < n) :
    (Instr.sliceAt T (.pointer (some ⟨g, c, none⟩)) none none none).run P W = .ok (.slice (some ⟨g, c, none⟩) n n) W := by
  obtain ⟨ie, hie, hsz⟩ := Option.map_eq_some_iff.1 hE
  have ha : Program.arrayLen P T = n := by simp [Program.arrayLen, hT]
  have he : Program.elem P T = E := by simp [Program.elem, hT]
  have hs : (sizeOf E).run P W = .ok 1 W := by simp [sizeOf, typeInfo, hie, hsz]
  have hr := run_sliceAt_array_all (P := P) W T ⟨g, c, none⟩ (by rw [ha, he]; exact hT)
  rw [hr, he, hs, ha]
  simp only [Result.andThen_ok, slicedAt, Nat.mul_one, Nat.sub_zero]
  rw [if_neg (by omega), at2_]
  rfl
theorem cutall_event (hgd : o.guard = none) {T E : TypeId} {n : Nat} {x : Operand} (ho : o.op = .slice T x none none none) (hT : P.underlying T = some (.array n E)) (hE : (P.info? E).map (·.size) = some 1)
    {g c : Nat} (hx : a.eval x = .pointer (some ⟨g, c, none⟩)) (h0 : 0 < n) (hK : wpList P ops Q rest (a.put o.dst (.slice (some ⟨g, c, none⟩) n n)) W) : wpList P ops Q (o :: rest) a W := by
  refine Kd.event_run hgd ?_ hK
  unfold execOp
  simp only [ho, hx, Option.map_none, Sem.run_bind, cutall_run hT hE h0, Result.andThen_ok]
  rfl
/-- A row of whole numbers that lies in the midst of a variable, as an array of its own does. -/
theorem row_C {k : IntKind} {w : World} {g c T n : Nat} {C : Array Value} {l : List Int} (hb : w.heap[g]? = some (.cells C T (0, 0))) (hl : l.length = n) (hm : n ≤ maxLen) (h : ∀ (j : Nat) (v : Value), (cells k n l).toList[j]? = some v → C.toList[c + j]? = some v) :
    Kd.C (Kd.int k) w (some ⟨g, c, none⟩) n l := by
  refine ⟨hl, hm, fun _ => ⟨⟨g, c, none⟩, rfl, fun j x hj => ?_⟩⟩
  refine ⟨[.int k x], rfl, rfl, fun i u hu => ?_⟩
  have hi : i = 0 := by
    have := (List.getElem?_eq_some_iff.1 hu).1
    simpa using this
  subst hi
  have hu' : u = .int k x := by simpa using hu.symm
  subst hu'
  have hx := h j (.int k x) (by
    have e : (cells k n l).toList = nums k l := by simp [cells, fit_id hl]
    rw [e, nums, List.getElem?_map, hj]; rfl)
  have := blk_at hb hx
  show w.cell? ((⟨g, c, none⟩ : Addr).add (j * 1 + 0)) = _
  rw [Nat.mul_one, Nat.add_zero, at2_]
  exact this
/-! an array laid into the midst of a variable -/
def lay : Array Value → Nat → List Value → Array Value
  | C, _, [] => C
  | C, o, v :: r => lay (C.setIfInBounds o v) (o + 1) r
theorem lay_list : ∀ (vs : List Value) (C : Array Value) (o : Nat), o + vs.length ≤ C.size → (lay C o vs).toList = C.toList.take o ++ (vs ++ C.toList.drop (o + vs.length))
  | [], C, o, _ => by simp [lay]
  | v :: r, C, o, h => by
    simp only [List.length_cons] at h
    rw [lay, lay_list r _ _ (by simp; omega), Array.toList_setIfInBounds, List.take_set, List.drop_set_of_lt (by omega), List.take_succ_eq_append_getElem (by simp; omega), List.set_append_right _ _ (by simp; omega)]
    simp [show min o C.size = o by omega, Nat.add_comm, Nat.add_left_comm]
theorem lay_mid {A Z B D : Array Value} {c : Nat} (hA : A.size = c) (h : Z.size = D.size) : lay (A ++ (Z ++ B)) c D.toList = A ++ (D ++ B) := by
  subst hA
  apply Array.toList_inj.mp
  rw [lay_list _ _ _ (by simp; omega)]
  simp only [Array.toList_append]
  rw [show A.size = A.toList.length by simp, List.take_left]
  congr 2
  rw [show A.toList.length + D.toList.length = (A.toList ++ Z.toList).length by simp [h], ← List.append_assoc, List.drop_left]
theorem setCells_lay {g T : Nat} : ∀ (vs : List Value) (C : Array Value) (o : Nat) (W : World), W.heap[g]? = some (.cells C T (0, 0)) →
    (W.setCells g o vs).heap[g]? = some (.cells (lay C o vs) T (0, 0)) ∧ W.grownBy (W.setCells g o vs) (some g)
  | [], _, _, _, hb => ⟨hb, rfl, rfl, rfl, Nat.le_refl _, fun _ _ _ => rfl⟩
  | v :: r, C, o, W, hb => by
    have h1 : (W.setCell ⟨g, o, none⟩ v).heap[g]? = some (.cells (C.setIfInBounds o v) T (0, 0)) := blk_set hb o v
    have h2 : W.grownBy (W.setCell ⟨g, o, none⟩ v) (some g) := ⟨rfl, rfl, rfl, by simp [World.setCell], fun q _ hq => Below.heap_setCell _ _ _ _ (by rintro rfl; exact hq rfl)⟩
    obtain ⟨h3, h4⟩ := setCells_lay r (C.setIfInBounds o v) (o + 1) _ h1
    refine ⟨h3, h4.os.trans h2.os, h4.tape.trans h2.tape, h4.output.trans h2.output, Nat.le_trans h2.size h4.size, fun q hq hne => ?_⟩
    exact (h4.block q (Nat.lt_of_lt_of_le hq h2.size) hne).trans (h2.block q hq hne)
theorem pstore_event (hgd : o.guard = none) {T : TypeId} {p v : Operand} (ho : o.op = .store T p v) (hN : o.dst = none) {D : Array Value} (hi : (P.info? T).map (·.size) = some D.size)
    {g c : Nat} (hx : a.eval p = .pointer (some ⟨g, c, none⟩)) (hv : a.eval v = .agg D) {A Z B : Array Value} {T' : TypeId} (hb : W.heap[g]? = some (.cells (A ++ (Z ++ B)) T' (0, 0))) (hA : A.size = c) (hs : Z.size = D.size) (h1 : D.all (·.oneCell') = true)
    (h : ∀ w', w'.heap[g]? = some (.cells (A ++ (D ++ B)) T' (0, 0)) → W.grownBy w' (some g) → wpList P ops Q rest a w') : wpList P ops Q (o :: rest) a W := by
  have ht : W.there g c D.size := fun j hj => by
    refine ⟨?_, blk_frozen hb _⟩
    rw [cell_of_row _ _ _ _ T' (0, 0) hb]
    simp; omega
  refine wpList_store_mid hgd T p v ho g c D hx hv ht hi h1 ?_
  rw [hN]
  obtain ⟨h3, h4⟩ := setCells_lay D.toList _ c W hb
  rw [lay_mid hA hs] at h3
  exact h _ h3 h4
end
theorem parted_ {α : Type} (Z : Array α) {n m : Nat} (h : Z.size = n + m) : ∃ X Y, Z = X ++ Y ∧ X.size = n ∧ Y.size = m :=
  ⟨(Z.toList.take n).toArray, (Z.toList.drop n).toArray, by rw [← Array.toList_inj]; simp, by simp; omega, by simp; omega⟩
/-- '[]T{x, y}' of two structs. -/
theorem glit2_run {P : Program} {o : Oper} {a : Act} {W : World} {T E : TypeId} {x y : Operand} (ho : o.op = .buildSlice T 2 #[(0, x), (1, y)]) {D D' : Array Value} (hT : P.underlying T = some (.slice E)) {z : Value} {n by_ : Nat}
    (hE : (P.info? E).map (fun i => (i.zero, i.size, i.bytes)) = some (some z, n, by_)) (_ : z.cells.size = n) (hn0 : 0 < n) (hn : n ≤ 2 ^ 22) (hx : a.eval x = .agg D) (hD : D.size = n) (hy : a.eval y = .agg D') (hD' : D'.size = n) :
    (execOp a.eval o).run P W = .ok (.value (.slice (some ⟨W.heap.size, 0, none⟩) 2 2)) (W.alloc (.cells (D ++ D') E)) := by
  obtain ⟨ie, hie, hh⟩ := Option.map_eq_some_iff.1 hE
  simp only [Prod.mk.injEq] at hh
  obtain ⟨hzz, hs, _⟩ := hh
  have hf : Instr.fill (fun i => some (i * ie.size, ie.size)) ((Array.range (2 * ie.size)).map (z.cells[· % z.cells.size]!)) (#[(0, .agg D), (1, .agg D')] : Array (Nat × Value)).toList = some (D ++ D') := by
    obtain ⟨X, Y, hZ, hX, hY⟩ := parted_ ((Array.range (2 * ie.size)).map (z.cells[· % z.cells.size]!)) (n := n) (m := n) (by simp; omega)
    rw [hZ]
    show Instr.fill _ (X ++ Y) [(0, .agg D), (1, .agg D')] = _
    rw [fill_first (by simp; omega) (by omega), fill_last (by simp; omega) (by omega)]
    rfl
  have hr := run_buildSlice (P := P) W T E 2 #[(0, .agg D), (1, .agg D')] (D ++ D') ie _ hT hie hzz (by omega) (by omega) hf
  have e2 : (#[(0, x), (1, y)] : Array (Nat × Operand)).map (fun (i, x) => (i, a.eval x)) = #[(0, .agg D), (1, .agg D')] := by simp [hx, hy]
  unfold execOp
  simp only [ho, Sem.run_bind, e2, hr, Result.andThen_ok]
  simp
theorem glit2_event {P : Program} {ops : Array Oper} {rest : List Oper} {o : Oper} {a : Act} {Q : Exit → Act → World → Prop} {W : World} (hgd : o.guard = none) {T E : TypeId} {x y : Operand} (ho : o.op = .buildSlice T 2 #[(0, x), (1, y)]) {D D' : Array Value} (hT : P.underlying T = some (.slice E)) {z : Value} {n by_ : Nat}
    (hE : (P.info? E).map (fun i => (i.zero, i.size, i.bytes)) = some (some z, n, by_)) (hz : z.cells.size = n) (hn0 : 0 < n) (hn : n ≤ 2 ^ 22) (hx : a.eval x = .agg D) (hD : D.size = n) (hy : a.eval y = .agg D') (hD' : D'.size = n)
    (h : ∀ g, g = W.heap.size → ∀ w1, w1.heap[g]? = some (.cells (D ++ D') E (0, 0)) → Below W.heap.size W w1 → wpList P ops Q rest (a.put o.dst (.slice (some ⟨g, 0, none⟩) 2 2)) w1) : wpList P ops Q (o :: rest) a W :=
  Kd.event_run hgd (glit2_run ho hT hE hz hn0 hn hx hD hy hD') (h _ rfl _ (blk_new W _) (below_alloc (Below.refl _ _) _))
theorem glit1_event {P : Program} {ops : Array Oper} {rest : List Oper} {o : Oper} {a : Act} {Q : Exit → Act → World → Prop} {W : World} (hgd : o.guard = none) {T E : TypeId} {x : Operand} (ho : o.op = .buildSlice T 1 #[(0, x)]) {D : Array Value} (hT : P.underlying T = some (.slice E)) {z : Value} {n by_ : Nat}
    (hE : (P.info? E).map (fun i => (i.zero, i.size, i.bytes)) = some (some z, n, by_)) (hz : z.cells.size = n) (hn0 : 0 < n) (hn : n ≤ 2 ^ 24) (hx : a.eval x = .agg D) (hD : D.size = n)
    (h : ∀ g, g = W.heap.size → ∀ w1, w1.heap[g]? = some (.cells D E (0, 0)) → Below W.heap.size W w1 → wpList P ops Q rest (a.put o.dst (.slice (some ⟨g, 0, none⟩) 1 1)) w1) : wpList P ops Q (o :: rest) a W :=
  Kd.event_run hgd (glit_run ho hT hE hz hn0 hn hx hD) (h _ rfl _ (by have := blk_new W (.cells D.toList.toArray E (0, 0)); simpa using this) (below_alloc (Below.refl _ _) _))
section
open Go.Proofs.YtkbpdnhbmceajaaW.PrintLast
variable {P : Program} {ops : Array Oper} {Q : Exit → Act → World → Prop}
/-- A call through a slot in a region that draws. -/
theorem goesV_ {oi : Oper} {N : Option Tmp} {a : Act} {w : World} {K : Act → World → Prop} {f : FuncId} {fn : Func} {as : Array Operand} {ts : Array TypeId} {j : Tmp} {cap : Array Value} (hf : P.funcs[f]? = some fn) (hname : (fn.name == "runtime.NumGoroutine") = false) (hb : fn.body.isSome = true) (args : Array Value)
    (hw : Region.wanted oi (yielded ops a.tmps) = true) (hN : oi.dst = N) (hop : oi.op = .call { callee := .value (.tmp j), args := as, argTypes := ts }) (hcl : a.eval (.tmp j) = .func (.func f) #[] cap) (hargs : as.map a.eval ++ cap = args)
    (h : Calls P f args w fun e w' => ∃ v, e = .returned v ∧ K (a.put N v) w') : if Region.wanted oi (yielded ops a.tmps) = true then Oper.wp P oi a w K Q else K (a.put N undef) w := by
  refine call_ f args hw hN ?_ h
  have he := enters_ hf hname hb args w
  unfold execOp
  simp [hop, resolve, Deferred.ofValue, invoke, hcl, hargs, he]
end
section
variable {P : Program} {ops : Array Oper} {o : Oper} {a : Act} {Q : Exit → Act → World → Prop} {W : World} {Kc : Act → World → Prop}
theorem gstore_step (hw : Region.wanted o (yielded ops a.tmps) = true) {T : TypeId} {p : Tmp} {v : Operand} (ho : o.op = .store T (.tmp p) v) (hN : o.dst = none) {D : Array Value} (hi : (P.info? T).map (·.size) = some D.size)
    {g : Nat} (hx : a.eval (.tmp p) = .pointer (some ⟨g, 0, none⟩)) (hv : a.eval v = .agg D) {C : Array Value} {T' : TypeId} (hb : W.heap[g]? = some (.cells C T' (0, 0))) (hs : C.size = D.size) (h1 : D.all (·.oneCell') = true)
    (h : ∀ w', w'.heap[g]? = some (.cells D T' (0, 0)) → W.grownBy w' (some g) → Kc a w') : if Region.wanted o (yielded ops a.tmps) = true then Oper.wp P o a W Kc Q else Kc (a.put none undef) W := by
  rw [if_pos hw]
  refine wp_store_row T (.tmp p) v ho g D hx hv T' _ hb hi hs h1 ?_
  rw [hN]
  exact h _ (setRow_heap _ _ _ _ _ _ hb) ⟨rfl, rfl, rfl, by simp, fun q _ hq => setRow_other _ _ _ _ (by rintro rfl; exact hq rfl)⟩
end
section
variable {P : Program} {ops : Array Oper} {rest : List Oper} {o : Oper} {a : Act} {Q : Exit → Act → World → Prop} {W : World}
/-- A literal of whole numbers. -/
theorem build_run {T E : TypeId} {parts : Array (Nat × Operand)} (ho : o.op = .build T parts) {k : IntKind} {n : Nat} {l : List Int}
    (hT : P.underlying T = some (.array n E)) (hE : (P.info? E).map (·.size) = some 1) (hz : (P.info? T).map (·.zero) = some (some (val k n (List.replicate n 0)))) (ps : List (Nat × Int))
    (hps : (parts.toList.map fun (i, x) => (i, a.eval x)) = ps.map fun p => (p.1, .int k p.2)) (hlt : (ps.map (·.1)).all (fun i => decide (i < n)) = true) (hl : ps.foldl (fun l p => l.set p.1 p.2) (List.replicate n 0) = l) :
    (execOp a.eval o).run P W = .ok (.value (val k n l)) W := by
  obtain ⟨ie, hie, hsz⟩ := Option.map_eq_some_iff.1 hE
  obtain ⟨it, hit, hzz⟩ := Option.map_eq_some_iff.1 hz
  have hb2 : P.built T (parts.map fun (i, x) => (i, a.eval x)).toList = some (cells k n l) := by
    unfold Program.built
    simp only [hit, hT, hzz, hie, hsz, Value.cells, Array.toList_map, hps]
    rw [fill_ints k n ps _ (by simp) hlt, hl]
  have hr := run_build (P := P) W T (parts.map fun (i, x) => (i, a.eval x)) _ hb2
  unfold execOp
  simp only [ho, Sem.run_bind, hr, Result.andThen_ok]
  rfl
/-- The address of an element of an array that lies in the midst of a variable. -/
theorem idxo_event (hgd : o.guard = none) {T E : TypeId} {n : Nat} {x i : Operand} (ho : o.op = .indexAddr T x i) (hT : P.underlying T = some (.array n E)) (hE : (P.info? E).map (·.size) = some 1)
    {g c : Nat} (hx : a.eval x = .pointer (some ⟨g, c, none⟩)) {ki : IntKind} {j : Nat} (hi : a.eval i = .int ki (j : Int)) (h1 : j < n)
    (h : wpList P ops Q rest (a.put o.dst (.pointer (some ⟨g, c + j, none⟩))) W) : wpList P ops Q (o :: rest) a W := by
  refine Kd.event_run hgd ?_ h
  obtain ⟨ie, hie, hsz⟩ := Option.map_eq_some_iff.1 hE
  have ha : Program.arrayLen P T = n := by simp [Program.arrayLen, hT]
  have he : Program.elem P T = E := by simp [Program.elem, hT]
  have hs : (sizeOf E).run P W = .ok 1 W := by simp [sizeOf, typeInfo, hie, hsz]
  have hr := run_indexAt_array (P := P) W T ⟨g, c, none⟩ ki (j : Int) (by rw [ha, he]; exact hT)
  rw [ha, he, if_pos ⟨by omega, by omega⟩, hs] at hr
  have hadd : (⟨g, c, none⟩ : Addr).add ((j : Int).toNat * 1) = ⟨g, c + j, none⟩ := by rw [Nat.mul_one, Int.toNat_natCast, at2_]
  unfold execOp
  simp only [ho, hx, hi, Sem.run_bind, hr, Result.andThen_ok, hadd]
  rfl
end
/-- Results: a variable, and a value. -/
theorem results_cell_tmp {P : Program} {fn : Func} {p : Tmp} {ty : TypeId} {q : Tmp} (h : fn.results = #[.cell p ty, .tmp q]) (tmps : Array Value) (w : World) (g : Nat) (t : TypeId) (cs : Array Value) (fr : Nat × Nat) (d : TypeDesc)
    (hp : tmps.getD p undef = .pointer (some ⟨g, 0, none⟩)) (hg : w.heap[g]? = some (.cells cs t fr))
    (hu : P.underlying ty = some d) (hd : (match d with | .struct _ | .array _ _ => true | _ => false) = true) (hi : (P.info? ty).map (·.size) = some cs.size) :
    (results fn tmps).run P w = .ok (.tuple #[.agg cs, tmps.getD q undef]) w := by
  have hp' : tmps[p]?.getD undef = .pointer (some ⟨g, 0, none⟩) := by simpa using hp
  simp [results, h, hp', asAddr, run_loadVar_row w g t ty cs fr d hg hu hd hi]
/-- A function without results comes to its end. -/
theorem end0 {P : Program} {fn : Func} {R : Ending → World → Prop} {a : Act} {w : World} (hr : fn.results = #[]) (hd : a.defers = []) (hR : R (.returned (.tuple #[])) w) : bodyPost P fn R .normal a w :=
  ⟨hd, .tuple #[], by simp [results, hr], hR⟩
end Go.Proofs.Ytkbpdnhbmceajaa.Ar
