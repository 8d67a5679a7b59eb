/- Structs that have arrays in them: what one operation on them does, for the printed walks of this seat. No conditions. -/
import Derived.Test.YtkbpdnhbmceajaaArs
namespace Go.Proofs.Ytkbpdnhbmceajaa.Ar
open Go.RowKit Go.Proofs.YtkbpdnhbmceajaaW.PrintWords

/-! where a part of cells lies -/
theorem in_first {D B : Array Value} : ∀ (j : Nat) (v : Value), D.toList[j]? = some v → (D ++ B).toList[0 + j]? = some v := fun j v h => by
  rw [Array.toList_append, Nat.zero_add, List.getElem?_append_left (List.getElem?_eq_some_iff.1 h).1]; exact h
theorem in_last {A D : Array Value} {c : Nat} (hc : A.size = c) : ∀ (j : Nat) (v : Value), D.toList[j]? = some v → (A ++ D).toList[c + j]? = some v := fun j v h => by
  subst hc
  rw [Array.toList_append, List.getElem?_append_right (by simp), Array.length_toList, Nat.add_sub_cancel_left]; exact h
theorem in_mid {A D B : Array Value} {c : Nat} (hc : A.size = c) : ∀ (j : Nat) (v : Value), D.toList[j]? = some v → (A ++ (D ++ B)).toList[c + j]? = some v := fun j v h => by
  refine in_last hc j v ?_
  have := in_first (B := B) j v h
  rwa [Nat.zero_add] at this
theorem in_whole {D : Array Value} : ∀ (j : Nat) (v : Value), D.toList[j]? = some v → D.toList[0 + j]? = some v := fun j v h => by rw [Nat.zero_add]; exact h
theorem tl_at (k : IntKind) (n : Nat) (l : List Int) (B : Array Value) (i : Nat) : (cells k n l ++ B)[n + i]? = B[i]? := by
  rw [Array.getElem?_append_right (by rw [cells_size]; omega), cells_size, Nat.add_sub_cancel_left]
theorem tl_at' (k : IntKind) (n : Nat) (l : List Int) (B : Array Value) (i : Nat) : (cells k n l ++ B).toList[n + i]? = B.toList[i]? := by
  rw [Array.getElem?_toList, Array.getElem?_toList]; exact tl_at k n l B i
theorem hd_at (A B : Array Value) (i : Nat) (h : i < A.size) : (A ++ B)[i]? = A[i]? := Array.getElem?_append_left h
theorem sd_at (A B : Array Value) (i : Nat) {c : Nat} (hc : A.size = c) : (A ++ B)[c + i]? = B[i]? := by
  subst hc
  rw [Array.getElem?_append_right (by omega), Nat.add_sub_cancel_left]
/-- A part of a variable. -/
theorem blk_part {W : World} {g c T : Nat} {C D : Array Value} (hb : W.heap[g]? = some (.cells C T (0, 0))) (h : ∀ (j : Nat) (v : Value), D.toList[j]? = some v → C.toList[c + j]? = some v) :
    ∀ (j : Nat) (v : Value), D.toList[j]? = some v → W.cell? ((⟨g, c, none⟩ : Addr).add j) = some v := fun j v hj => by
  rw [at2_, cell_of_row _ _ _ _ T (0, 0) hb, ← Array.getElem?_toList]
  exact h j v hj
theorem off_add (A : Addr) {c : Nat} (hc : 0 < c) : (⟨A.block, A.off + c, none⟩ : Addr) = A.add c := by
  rcases A with ⟨b, o, p⟩
  unfold Addr.add
  rw [if_neg (by omega)]
/-- A part of an element. -/
theorem elem_part0 {W : World} {ad : Addr} {s : Nat} {C : List Value} {D : Array Value} (hb : ∀ (j : Nat) (u : Value), C[j]? = some u → W.cell? (ad.add (s + j)) = some u) (h : ∀ (j : Nat) (v : Value), D.toList[j]? = some v → C[0 + j]? = some v) :
    ∀ (j : Nat) (v : Value), D.toList[j]? = some v → W.cell? ((ad.add s).add j) = some v := fun j v hj => by
  rw [add_add]
  have := h j v hj
  rw [Nat.zero_add] at this
  exact hb j v this
theorem elem_partc {W : World} {ad : Addr} {s c : Nat} {C : List Value} {D : Array Value} (hc : 0 < c) (hb : ∀ (j : Nat) (u : Value), C[j]? = some u → W.cell? (ad.add (s + j)) = some u) (h : ∀ (j : Nat) (v : Value), D.toList[j]? = some v → C[c + j]? = some v) :
    ∀ (j : Nat) (v : Value), D.toList[j]? = some v → W.cell? ((⟨(ad.add s).block, (ad.add s).off + c, none⟩ : Addr).add j) = some v := fun j v hj => by
  rw [off_add _ hc, add_add, add_add]
  exact hb (c + j) v (h j v hj)

section
variable {P : Program} {ops : Array Oper} {rest : List Oper} {o : Oper} {a : Act} {Q : Exit → Act → World → Prop} {W : World}
/-- A struct, or an array, is read where its cells lie. -/
theorem gload_run {T : TypeId} {d : TypeDesc} {x : Operand} (ho : o.op = .load T x) (hu : P.underlying T = some d) (hd : (match d with | .struct _ | .array _ _ => true | _ => false) = true) {D : Array Value} (hi : (P.info? T).map (·.size) = some D.size)
    {A : Addr} (hx : a.eval x = .pointer (some A)) (hc : ∀ (j : Nat) (v : Value), D.toList[j]? = some v → W.cell? (A.add j) = some v) :
    (execOp a.eval o).run P W = .ok (.value (.agg D)) W := by
  obtain ⟨it, hit, hsz⟩ := Option.map_eq_some_iff.1 hi
  have hr := run_loadCells_list (P := P) W A D.toList hc
  have hagg : (isAgg T).run P W = .ok true W := by
    cases d <;> simp_all [isAgg, run_underlying hu]
  have hs : (sizeOf T).run P W = .ok D.size W := by simp [sizeOf, typeInfo, hit, hsz]
  rw [Array.length_toList, Array.toArray_toList] at hr
  unfold execOp
  simp only [ho, hx, Instr.loadAt, Instr.sureAddr, Sem.run_bind, Sem.run_pure, Result.andThen_ok, loadVar, hagg, if_true, hs, hr]
theorem gload_event (hgd : o.guard = none) {T : TypeId} {d : TypeDesc} {x : Operand} (ho : o.op = .load T x) (hu : P.underlying T = some d) (hd : (match d with | .struct _ | .array _ _ => true | _ => false) = true) {D : Array Value} (hi : (P.info? T).map (·.size) = some D.size)
    {A : Addr} (hx : a.eval x = .pointer (some A)) (hc : ∀ (j : Nat) (v : Value), D.toList[j]? = some v → W.cell? (A.add j) = some v)
    (hK : wpList P ops Q rest (a.put o.dst (.agg D)) W) : wpList P ops Q (o :: rest) a W := Kd.event_run hgd (gload_run ho hu hd hi hx hc) hK
/-- A whole struct laid into a variable. -/
theorem gstore_event (hgd : o.guard = none) {T : TypeId} {p : Tmp} {v : Operand} (ho : o.op = .store T (.tmp p) v) (hN : o.dst = none) {D : Array Value} (hi : (P.info? T).map (·.size) = some D.size)
    {g : Nat} (hx : a.eval (.tmp p) = .pointer (some ⟨g, 0, none⟩)) (hv : a.eval v = .agg D) {C : Array Value} {T' : TypeId} (hb : W.heap[g]? = some (.cells C T' (0, 0))) (hs : C.size = D.size) (h1 : D.all (·.oneCell') = true)
    (h : ∀ w', w'.heap[g]? = some (.cells D T' (0, 0)) → W.grownBy w' (some g) → wpList P ops Q rest a w') : wpList P ops Q (o :: rest) a W := by
  refine wpList_store_row hgd T (.tmp p) v ho g D hx hv T' _ hb hi hs h1 ?_
  rw [hN]
  refine h _ (setRow_heap _ _ _ _ _ _ hb) ⟨rfl, rfl, rfl, by simp, fun q _ hq => setRow_other _ _ _ _ (by rintro rfl; exact hq rfl)⟩
theorem gbox_run {T : TypeId} {x : Operand} (ho : o.op = .box T x) {D : Array Value} (hx : a.eval x = .agg D) :
    (execOp a.eval o).run P W = .ok (.value (.pointer (some ⟨W.heap.size, 0, none⟩))) (W.alloc (.cells D T (0, 0))) := by
  unfold execOp
  simp [ho, hx, Instr.box, newVar, newRow, newObj, Value.cells]
  rfl
theorem galloc_run {T : TypeId} (ho : o.op = .alloc T) {D : Array Value} (hz : (P.info? T).map (·.zero) = some (some (.agg D))) :
    (execOp a.eval o).run P W = .ok (.value (.pointer (some ⟨W.heap.size, 0, none⟩))) (W.alloc (.cells D T (0, 0))) := by
  obtain ⟨i, hi, hzz⟩ := Option.map_eq_some_iff.1 hz
  unfold execOp
  simp [ho, Instr.alloc, newVar, newRow, newObj, Value.cells, zeroValue, typeInfo, hi, hzz]
  rfl
/-- A struct's value that is built. -/
theorem gbuild_event (hgd : o.guard = none) {T : TypeId} {parts : Array (Nat × Operand)} (ho : o.op = .build T parts) {D : Array Value} (hr : (Instr.build T (parts.map fun (i, x) => (i, a.eval x))).run P W = .ok (.agg D) W)
    (hK : wpList P ops Q rest (a.put o.dst (.agg D)) W) : wpList P ops Q (o :: rest) a W := by
  refine Kd.event_run hgd ?_ hK
  unfold execOp
  simp only [ho, Sem.run_bind, hr, Result.andThen_ok]
  rfl
theorem geq_run {T T2 : TypeId} {x y : Operand} (ho : o.op = .binOp .eql T x y T2) (hq : P.eqGuardType P.depth T = false) {C D : Array Value} {b : Bool}
    (he : ∀ w : World, (Op.equalIn 10000 T (.agg C) (.agg D)).run P w = .ok b w) (hx : a.eval x = .agg C) (hy : a.eval y = .agg D) : (execOp a.eval o).run P W = .ok (.value (.bool b)) W := by
  have h1 := fun op => guard_eq (P := P) op T hq x y C D W
  unfold execOp
  simp only [ho, hx, hy, Sem.run_bind, h1, Result.andThen_ok]
  rw [run_eql_struct, he]; rfl
theorem gneq_run {T T2 : TypeId} {x y : Operand} (ho : o.op = .binOp .neq T x y T2) (hq : P.eqGuardType P.depth T = false) {C D : Array Value} {b : Bool}
    (he : ∀ w : World, (Op.equalIn 10000 T (.agg C) (.agg D)).run P w = .ok b w) (hx : a.eval x = .agg C) (hy : a.eval y = .agg D) : (execOp a.eval o).run P W = .ok (.value (.bool (!b))) W := by
  have h1 := fun op => guard_eq (P := P) op T hq x y C D W
  unfold execOp
  simp only [ho, hx, hy, Sem.run_bind, h1, Result.andThen_ok]
  rw [run_neq_struct, he]; rfl
theorem geq_event (hgd : o.guard = none) {T T2 : TypeId} {x y : Operand} (ho : o.op = .binOp .eql T x y T2) (hq : P.eqGuardType P.depth T = false) {C D : Array Value} {b : Bool}
    (he : ∀ w : World, (Op.equalIn 10000 T (.agg C) (.agg D)).run P w = .ok b w) (hx : a.eval x = .agg C) (hy : a.eval y = .agg D)
    (hK : wpList P ops Q rest (a.put o.dst (.bool b)) W) : wpList P ops Q (o :: rest) a W := Kd.event_run hgd (geq_run ho hq he hx hy) hK
theorem gneq_event (hgd : o.guard = none) {T T2 : TypeId} {x y : Operand} (ho : o.op = .binOp .neq T x y T2) (hq : P.eqGuardType P.depth T = false) {C D : Array Value} {b : Bool}
    (he : ∀ w : World, (Op.equalIn 10000 T (.agg C) (.agg D)).run P w = .ok b w) (hx : a.eval x = .agg C) (hy : a.eval y = .agg D)
    (hK : wpList P ops Q rest (a.put o.dst (.bool (!b))) W) : wpList P ops Q (o :: rest) a W := Kd.event_run hgd (gneq_run ho hq he hx hy) hK
theorem gbuild_run {T : TypeId} {parts : Array (Nat × Operand)} (ho : o.op = .build T parts) {D : Array Value} (hr : (Instr.build T (parts.map fun (i, x) => (i, a.eval x))).run P W = .ok (.agg D) W) : (execOp a.eval o).run P W = .ok (.value (.agg D)) W := by
  unfold execOp
  simp only [ho, Sem.run_bind, hr, Result.andThen_ok]
  rfl
end
/-- Cells that are laid one behind the other, from a place on. -/
theorem fold_from (b : Array Value) (o : Nat) (a : Array Value) (h : o + b.size ≤ a.size) : b.zipIdx.foldl (fun (cs : Array Value) (p : Value × Nat) => cs.setIfInBounds (o + p.2) p.1) a = a.extract 0 o ++ (b ++ a.extract (o + b.size) a.size) := by
  have key : ∀ (l : List (Value × Nat)) (c : Array Value), (l.foldl (fun (cs : Array Value) (p : Value × Nat) => cs.setIfInBounds (o + p.2) p.1) c).toList = l.foldl (fun (cs : List Value) (p : Value × Nat) => cs.set (o + p.2) p.1) c.toList := by
    intro l
    induction l with
    | nil => intro c; rfl
    | cons p l ih => intro c; simp only [List.foldl_cons]; rw [ih]; simp
  have sh : ∀ (xs : List Value) (i : Nat) (cs : List Value), (xs.zipIdx i).foldl (fun (cs : List Value) (p : Value × Nat) => cs.set (o + p.2) p.1) cs = (xs.zipIdx (o + i)).foldl (fun (cs : List Value) (p : Value × Nat) => cs.set p.2 p.1) cs := by
    intro xs
    induction xs with
    | nil => intro i cs; rfl
    | cons x xs ih => intro i cs; simp only [List.zipIdx_cons, List.foldl_cons]; rw [ih]; rfl
  apply Array.toList_inj.mp
  rw [← Array.foldl_toList, Array.toList_zipIdx, key, sh, Nat.add_zero, fold_set _ _ _ (by simpa using h)]
  simp
  rw [List.take_of_length_le (by simp)]
theorem fold_mid (A Z B D : Array Value) (h : Z.size = D.size) : D.zipIdx.foldl (fun (cs : Array Value) (p : Value × Nat) => cs.setIfInBounds (A.size + p.2) p.1) (A ++ (Z ++ B)) = A ++ (D ++ B) := by
  rw [fold_from _ _ _ (by simp; omega)]
  apply Array.toList_inj.mp
  simp only [Array.toList_append, Array.toList_extract, List.extract_eq_take_drop, Array.size_append, List.drop_zero, Nat.sub_zero]
  rw [show A.size = A.toList.length by simp, List.take_left]
  congr 2
  rw [show A.toList.length + D.size = (A.toList ++ Z.toList).length by simp [h], ← List.append_assoc, List.drop_left]
  exact List.take_of_length_le (by simp; omega)
section
variable {pl : Nat → Option (Nat × Nat)} {i : Nat} {A Z B D C : Array Value} {rest : List (Nat × Value)}
theorem fill_mid (hp : pl i = some (A.size, D.size)) (h : Z.size = D.size) : Instr.fill pl (A ++ (Z ++ B)) ((i, .agg D) :: rest) = Instr.fill pl (A ++ (D ++ B)) rest := by
  simp only [Instr.fill, hp]
  rw [show (Value.agg D).cells = D from rfl, if_neg (by simp; omega), fold_mid A Z B D h]
theorem fill_first (hp : pl i = some (0, D.size)) (h : Z.size = D.size) : Instr.fill pl (Z ++ B) ((i, .agg D) :: rest) = Instr.fill pl (D ++ B) rest := by
  have := fill_mid (pl := pl) (i := i) (A := #[]) (Z := Z) (B := B) (D := D) (rest := rest) (by simpa using hp) h
  simpa using this
theorem fill_last (hp : pl i = some (A.size, D.size)) (h : Z.size = D.size) : Instr.fill pl (A ++ Z) ((i, .agg D) :: rest) = Instr.fill pl (A ++ D) rest := by
  have := fill_mid (pl := pl) (i := i) (A := A) (Z := Z) (B := #[]) (D := D) (rest := rest) hp h
  simpa using this
theorem fill_one {c : Nat} {v : Value} (hp : pl i = some (c, 1)) (hv : v.cells = #[v]) (hc : c < C.size) : Instr.fill pl C ((i, v) :: rest) = Instr.fill pl (C.setIfInBounds c v) rest := by
  simp only [Instr.fill, hp, hv]
  rw [if_neg (by simp; omega)]
  rfl
theorem set_tail {a c : Nat} (v : Value) (h : A.size = a) : (A ++ B).setIfInBounds (a + c) v = A ++ B.setIfInBounds c v := by
  subst h
  apply Array.toList_inj.mp
  simp
theorem set_head {c : Nat} (v : Value) (h : c < A.size) : (A ++ B).setIfInBounds c v = A.setIfInBounds c v ++ B := by
  apply Array.toList_inj.mp
  simp [h]
end
theorem built_struct {P : Program} {T : TypeId} {fs : Array Field} {Z : Array Value} {pl : List (Nat × Nat)} (parts : List (Nat × Value)) (hz : (P.info? T).map (·.zero) = some (some (.agg Z))) (hu : P.underlying T = some (.struct fs))
    (hp : fs.toList.mapM (fun f => (P.info? f.type).map fun i => (f.offset, i.size)) = some pl) : P.built T parts = Instr.fill (pl.toArray[·]?) Z parts := by
  obtain ⟨i, hi, hzz⟩ := Option.map_eq_some_iff.1 hz
  unfold Program.built
  simp only [hi, hu, hzz, hp, Value.cells]
theorem part_seg {P : Program} {W : World} {T : TypeId} {d : TypeDesc} {C D : Array Value} {c : Nat} (hu : P.underlying T = some d) (hd : (match d with | .struct _ | .array _ _ => true | _ => false) = true) (hi : (P.info? T).map (·.size) = some D.size)
    (h : ∀ (j : Nat) (v : Value), D.toList[j]? = some v → C.toList[c + j]? = some v) : (_root_.Go.part T C c).run P W = .ok (.agg D) W := by
  obtain ⟨it, hit, hsz⟩ := Option.map_eq_some_iff.1 hi
  have hagg : (isAgg T).run P W = .ok true W := by
    cases d <;> simp_all [isAgg, run_underlying hu]
  have hs : (sizeOf T).run P W = .ok D.size W := by simp [sizeOf, typeInfo, hit, hsz]
  have e : C.extract c (c + D.size) = D := by
    apply Array.toList_inj.mp
    rw [Array.toList_extract, List.extract_eq_take_drop, show c + D.size - c = D.size by omega]
    apply List.ext_getElem?
    intro j
    by_cases hj : j < D.size
    · rw [List.getElem?_take, if_pos hj, List.getElem?_drop]
      have hl : j < D.toList.length := by simpa using hj
      rw [List.getElem?_eq_getElem hl]
      exact h j _ (List.getElem?_eq_getElem hl)
    · rw [List.getElem?_take, if_neg hj, List.getElem?_eq_none (by simpa using hj)]
  unfold _root_.Go.part
  simp only [Sem.run_bind, hagg, hs, Result.andThen_ok, if_true, e, Sem.run_pure]
theorem part_one {P : Program} {W : World} {T : TypeId} {d : TypeDesc} {C : Array Value} {c : Nat} {v : Value} (hu : P.underlying T = some d) (hd : (match d with | .struct _ | .array _ _ => true | _ => false) = false) (h : C[c]? = some v) : (_root_.Go.part T C c).run P W = .ok v W := by
  have hagg : (isAgg T).run P W = .ok false W := by
    cases d <;> simp_all [isAgg, run_underlying hu]
  unfold _root_.Go.part
  simp only [Sem.run_bind, hagg, Result.andThen_ok, h, Sem.run_pure, Bool.false_eq_true, if_false]
theorem in_skip {A C D : Array Value} {a c : Nat} (hA : A.size = a) (h : ∀ (j : Nat) (v : Value), D.toList[j]? = some v → C.toList[c + j]? = some v) : ∀ (j : Nat) (v : Value), D.toList[j]? = some v → (A ++ C).toList[(a + c) + j]? = some v := fun j v hj => by
  subst hA
  rw [Nat.add_assoc, Array.toList_append, List.getElem?_append_right (by simp), Array.length_toList, Nat.add_sub_cancel_left]
  exact h j v hj
theorem at_skip {A C : Array Value} {a c : Nat} {u : Value} (hA : A.size = a) (h : C.toList[c]? = some u) : (A ++ C).toList[a + c]? = some u := by
  subst hA
  rw [Array.toList_append, List.getElem?_append_right (by simp), Array.length_toList, Nat.add_sub_cancel_left]; exact h
theorem at_head {A C : Array Value} {i : Nat} {u : Value} (h : A.toList[i]? = some u) : (A ++ C).toList[i]? = some u := by
  rw [Array.toList_append, List.getElem?_append_left (List.getElem?_eq_some_iff.1 h).1]; exact h
/-- '[]T{x}' of one struct. -/
theorem glit_run {P : Program} {o : Oper} {a : Act} {W : World} {T E : TypeId} {x : Operand} (ho : o.op = .buildSlice T 1 #[(0, x)]) {D : Array Value} (hT : P.underlying T = some (.slice E)) {z : Value} {n by_ : Nat}
    (hE : (P.info? E).map (fun i => (i.zero, i.size, i.bytes)) = some (some z, n, by_)) (_ : z.cells.size = n) (hn0 : 0 < n) (hn : n ≤ 2 ^ 24) (hx : a.eval x = .agg D) (hD : D.size = n) :
    (execOp a.eval o).run P W = .ok (.value (.slice (some ⟨W.heap.size, 0, none⟩) 1 1)) (W.alloc (.cells D.toList.toArray E)) := by
  obtain ⟨ie, hie, hh⟩ := Option.map_eq_some_iff.1 hE
  simp only [Prod.mk.injEq] at hh
  obtain ⟨hzz, hs, _⟩ := hh
  have hf : Instr.fill (fun i => some (i * ie.size, ie.size)) ((Array.range (1 * ie.size)).map (z.cells[· % z.cells.size]!)) (#[(0, .agg D)] : Array (Nat × Value)).toList = some D := by
    simp only [Instr.fill, hs]
    have e1 : (Value.agg D).cells = D := rfl
    rw [e1, if_neg (by simp [hD])]
    congr 1
    simp only [Nat.zero_mul, Nat.zero_add]
    exact fold_arr _ _ (by simp [hD])
  have hr := run_buildSlice (P := P) W T E 1 #[(0, .agg D)] D ie _ hT hie hzz (by omega) (by omega) hf
  have e2 : (#[(0, x)] : Array (Nat × Operand)).map (fun (i, x) => (i, a.eval x)) = #[(0, .agg D)] := by simp [hx]
  unfold execOp
  simp only [ho, Sem.run_bind, e2, hr, Result.andThen_ok]
  simp
theorem glit_event {P : Program} {ops : Array Oper} {rest : List Oper} {o : Oper} {a : Act} {Q : Exit → Act → World → Prop} {W : World} (hgd : o.guard = none) {T E : TypeId} {x : Operand} (ho : o.op = .buildSlice T 1 #[(0, x)]) {D : Array Value} (hT : P.underlying T = some (.slice E)) {z : Value} {n by_ : Nat}
    (hE : (P.info? E).map (fun i => (i.zero, i.size, i.bytes)) = some (some z, n, by_)) (hz : z.cells.size = n) (hn0 : 0 < n) (hn : n ≤ 2 ^ 24) (hx : a.eval x = .agg D) (hD : D.size = n)
    (hK : wpList P ops Q rest (a.put o.dst (.slice (some ⟨W.heap.size, 0, none⟩) 1 1)) (W.alloc (.cells D.toList.toArray E))) : wpList P ops Q (o :: rest) a W := Kd.event_run hgd (glit_run ho hT hE hz hn0 hn hx hD) hK
theorem all_app {A B : Array Value} (hA : A.all (·.oneCell') = true) (hB : B.all (·.oneCell') = true) : (A ++ B).all (·.oneCell') = true := by
  rw [Array.all_append, hA, hB]; rfl
/-! a make with a capacity: an empty row -/
section
variable {α : Type} {P : Program} {ops : Array Oper} {rest : List Oper} {o : Oper} {a : Act} {Q : Exit → Act → World → Prop}
theorem R_make0 (d : Kd α) {w0 W : World} (base e : Nat) (hgd : o.guard = none) {N : Tmp} (_hd : o.dst = some N) (t : TypeId) (x y : Operand) (ho : o.op = .makeSlice t x y) (n : Int) (hx : a.eval x = .int .i64 0) (hy : a.eval y = .int .i64 n)
    (ht : P.underlying t = some (.slice e)) (z : Value) (bytes : Nat) (hinfo : (P.info? e).map (fun i => (i.zero, i.size, i.bytes)) = some (some z, d.sz, bytes)) (_hz : z.cells.size = d.sz) (_hs0 : 0 < d.sz) (hb0 : 0 < bytes)
    {ok : Nat → Prop} (hfresh : ok W.heap.size) (h0 : 0 ≤ n) (hl : n.toNat * bytes ≤ 281474976710656) (HB : Below base w0 W) (hbase : base ≤ W.heap.size)
    (h : ∀ v1 w1, d.R e w1 base ok v1 [] → Below base w0 w1 → W.grownBy w1 none → (∃ b, v1.ownBlock = some b ∧ W.heap.size ≤ b) → wpList P ops Q rest (a.put o.dst v1) w1) : wpList P ops Q (o :: rest) a W := by
  obtain ⟨m, rfl⟩ := Int.eq_ofNat_of_zero_le h0
  simp only [Int.toNat_natCast] at hl
  obtain ⟨i0, hi, hzz⟩ := Option.map_eq_some_iff.1 hinfo
  simp only [Prod.mk.injEq] at hzz
  obtain ⟨hz0, hz1, hz2⟩ := hzz
  have hm : m ≤ 281474976710656 := Nat.le_trans (Nat.le_mul_of_pos_right _ hb0) hl
  have hm' : m ≤ maxLen := by simp [maxLen]; omega
  have hr := run_make (P := P) W t e i0 z ht hi hz0 .i64 .i64 0 (m : Int) (by omega) (by omega)
    (by
      have h3 : ((i0.bytes * m : Nat) : Int) ≤ 281474976710656 := by rw [hz2, Nat.mul_comm]; omega
      rwa [Int.natCast_mul] at h3) (by omega)
  simp only [Int.toNat_zero, Int.toNat_natCast] at hr
  rw [hz1] at hr
  have hrun : (execOp a.eval o).run P W = .ok (.value (.slice (some ⟨W.heap.size, 0, none⟩) 0 m)) (W.alloc (.cells (madeCells z.cells (m * d.sz)) e)) := by simp [execOp, ho, hx, hy, hr]
  refine Kd.event_run hgd hrun (h _ _ ⟨fun k hk => ?_, [], World.ownsRow_made W _ m hbase hm' (size_madeCells _ _), Reps.none _ _⟩ (HB.alloc hbase _) (World.grownBy_alloc W _ none) ⟨W.heap.size, by simp [Value.ownBlock], Nat.le_refl _⟩)
  have h3 : W.heap.size = k := by simpa [Value.ownBlock] using hk
  subst h3
  exact hfresh
end
/-! append to a slice that came in, cut down to its length: it goes into a new row -/
theorem own_lower {w : World} {b0 b1 : Nat} {e : TypeId} {size n : Nat} {v : Value} {xs : List Value} (h : w.ownsRow b1 e size v n xs) (hb : b0 ≤ b1) : w.ownsRow b0 e size v n xs := by
  obtain ⟨h1, h2 | ⟨g, cap, cur, he, hg, hr⟩⟩ := h
  · exact ⟨h1, .inl h2⟩
  · exact ⟨h1, .inr ⟨g, cap, cur, he, Nat.le_trans hb hg, hr⟩⟩
theorem own_new {w : World} {b1 : Nat} {e : TypeId} {size n : Nat} {v : Value} {xs : List Value} (h : w.ownsRow b1 e size v n xs) (hn : 0 < n) : ∃ b, v.ownBlock = some b ∧ b1 ≤ b := by
  obtain ⟨h1, ⟨_, h2⟩ | ⟨g, cap, cur, he, hg, hr⟩⟩ := h
  · omega
  · subst he
    exact ⟨g, rfl, hg⟩
section
variable {P : Program} {ops : Array Oper} {rest : List Oper} {o : Oper} {a : Act} {Q : Exit → Act → World → Prop} {α : Type}
theorem C_append_run (d : Kd α) {w0 W : World} (base : Nat) (s x : Operand) (t e : TypeId) (z : Value) (bytes : Nat)
    (ho : o.op = .call { callee := .builtin .append, args := #[s, x], argTypes := #[t, t] })
    (ht : P.underlying t = some (.slice e)) (hinfo : (P.info? e).map (fun i => (i.zero, i.size, i.bytes)) = some (some z, d.sz, bytes)) (hz : z.cells.size = d.sz) (hs0 : 0 < d.sz) (hb0 : 0 < bytes)
    (xs : List α) (p : α) (cs : List Value) (ok okp : Nat → Prop) {A : Option Addr} (hs : a.eval s = .slice A xs.length xs.length) (hx : a.eval x = .slice (some ⟨W.heap.size, 0, none⟩) 1 1)
    (hp : d.M W base okp p cs) (hokp : ∀ k, okp k → ok k ∧ some k ≠ (Value.slice none 0 0).ownBlock) (hfresh : ∀ k, W.heap.size ≤ k → ok k)
    (HO : d.C W A xs.length xs) (hKM : ∀ x cs, d.K W x cs → d.M W base (fun k => ok k ∧ some k ≠ (Value.slice none 0 0).ownBlock) x cs) (HB : Below base w0 W) (hbase : base ≤ W.heap.size) (hl : (xs.length + 1) * bytes ≤ 140737488355328) :
    ∃ v1 w1, (execOp a.eval o).run P (W.alloc (.cells cs.toArray e)) = .ok (.value v1) w1 ∧ d.R e w1 base ok v1 (xs ++ [p]) ∧ Below base w0 w1 ∧ W.grownBy w1 (Value.slice none 0 0).ownBlock ∧ (v1.ownBlock = (Value.slice none 0 0).ownBlock ∨ ∃ b, v1.ownBlock = some b ∧ W.heap.size ≤ b) := by
  obtain ⟨i0, hi, hzz⟩ := Option.map_eq_some_iff.1 hinfo
  simp only [Prod.mk.injEq] at hzz
  obtain ⟨hz0, hz1, hz2⟩ := hzz
  have hlen : xs.length + 1 ≤ 140737488355328 := Nat.le_trans (Nat.le_mul_of_pos_right _ hb0) hl
  have hcs := d.K_len (d.K_of_M hp)
  have hnews := World.news_of_block (cs := cs.toArray) (t := e) (fr := (0, 0)) (heap_alloc_new W (.cells cs.toArray e))
  have hsz : (W.alloc (.cells cs.toArray e)).heap.size = W.heap.size + 1 := by simp
  have hrun : ∃ inner v1 w1, Reps (d.K W) d.sz xs inner ∧ (Builtin.append_ #[t, t] o.type #[.slice A xs.length xs.length, .slice (some ⟨W.heap.size, 0, none⟩) 1 1]).run P (W.alloc (.cells cs.toArray e)) = .ok v1 w1 ∧
      w1.ownsRow (W.alloc (.cells cs.toArray e)).heap.size e d.sz v1 (xs.length + 1) (inner ++ cs) ∧ (W.alloc (.cells cs.toArray e)).grownBy w1 none := by
    rcases A with _ | ad
    · have h0 : xs.length = 0 := by
        rcases Nat.eq_zero_or_pos xs.length with h0 | h0
        · exact h0
        · obtain ⟨ad, h, _⟩ := HO.2.2 h0
          cases h
      obtain rfl : xs = [] := List.eq_nil_of_length_eq_zero h0
      obtain ⟨v', w', hr, r1, r2, _⟩ := run_append_own (P := P) (W.alloc (.cells cs.toArray e)) (W.alloc (.cells cs.toArray e)).heap.size t o.type e i0 z d.sz bytes ht hi hz0 hz1 hz2 hz hs0 (.slice none 0 0) 0 [] (World.ownsRow_nil _ _ e d.sz) ⟨W.heap.size, 0, none⟩ 1 1 cs (by rw [hcs, Nat.one_mul]) hnews (d.K_one (d.K_of_M hp)) (by simp only [maxLen]; omega) hl (Nat.le_refl _)
      exact ⟨[], v', w', Reps.none _ _, hr, r1, r2⟩
    · obtain ⟨news, hnr, hnc⟩ := ReadsRow.inner_ HO
      obtain ⟨v', w', hr, r1, r2⟩ := run_append_arg_grows (P := P) (W.alloc (.cells cs.toArray e)) t o.type e i0 z d.sz bytes ht hi hz0 hz1 hz2 hz hs0 ad xs.length xs.length news hnr.1 (fun j u hu => (World.cell?_alloc_lt _ _ _ (World.block_lt_of_cell? _ _ (hnc j u hu))).trans (hnc j u hu)) ⟨W.heap.size, 0, none⟩ 1 1 cs (by rw [hcs, Nat.one_mul]) hnews (by omega) (by simp only [maxLen]; omega) hl
      exact ⟨news, v', w', hnr, hr, r1, r2⟩
  obtain ⟨inner, v1, w1, hreps, hr, hown, hg⟩ := hrun
  have hg' : W.grownBy w1 none := World.grownBy.trans (World.grownBy_alloc W _ _) hg
  obtain ⟨b, hb1, hb2⟩ := own_new hown (by omega)
  have hat : v1.ownBlock = (Value.slice none 0 0).ownBlock ∨ ∃ b, v1.ownBlock = some b ∧ W.heap.size ≤ b := .inr ⟨b, hb1, by omega⟩
  refine ⟨v1, w1, ?_, Kd.R_appended (fun k hk => by simp [Value.ownBlock] at hk) (hreps.imp_ (fun _ _ hq => hKM _ _ hq)) hp hokp hfresh (own_lower hown (by omega)) (by simpa [Value.ownBlock] using hg') hat, (HB.alloc hbase _).grown hg (by omega) (fun k hk => by cases hk), by simpa [Value.ownBlock] using hg', hat⟩
  unfold execOp
  simp only [ho, resolve, invoke, builtin, Sem.run_bind, Sem.run_pure, Result.andThen_ok, List.map_toArray, List.map_cons, List.map_nil, hs, hx, hr]
theorem C_append_full (d : Kd α) {w0 W : World} (base : Nat) (hgd : o.guard = none) (s x : Operand) (t e : TypeId) (z : Value) (bytes : Nat)
    (ho : o.op = .call { callee := .builtin .append, args := #[s, x], argTypes := #[t, t] })
    (ht : P.underlying t = some (.slice e)) (hinfo : (P.info? e).map (fun i => (i.zero, i.size, i.bytes)) = some (some z, d.sz, bytes)) (hz : z.cells.size = d.sz) (hs0 : 0 < d.sz) (hb0 : 0 < bytes)
    (v : Value) (xs : List α) (p : α) (cs : List Value) (ok okp : Nat → Prop) {A : Option Addr} (hs : a.eval s = .slice A xs.length xs.length) (hx : a.eval x = .slice (some ⟨W.heap.size, 0, none⟩) 1 1) (hv : v = .slice none 0 0)
    (hp : d.M W base okp p cs) (hokp : ∀ k, okp k → ok k ∧ some k ≠ v.ownBlock) (hfresh : ∀ k, W.heap.size ≤ k → ok k)
    (HO : d.C W A xs.length xs) (hKM : ∀ x cs, d.K W x cs → d.M W base (fun k => ok k ∧ some k ≠ v.ownBlock) x cs) (HB : Below base w0 W) (hbase : base ≤ W.heap.size) (hl : (xs.length + 1) * bytes ≤ 140737488355328)
    (h : ∀ v1 w1, d.R e w1 base ok v1 (xs ++ [p]) → Below base w0 w1 → W.grownBy w1 v.ownBlock → (v1.ownBlock = v.ownBlock ∨ ∃ b, v1.ownBlock = some b ∧ W.heap.size ≤ b) → wpList P ops Q rest (a.put o.dst v1) w1) :
    wpList P ops Q (o :: rest) a (W.alloc (.cells cs.toArray e)) := by
  subst hv
  obtain ⟨v1, w1, hr, h1, h2, h3, h4⟩ := C_append_run (P := P) (o := o) (a := a) d base s x t e z bytes ho ht hinfo hz hs0 hb0 xs p cs ok okp hs hx hp hokp hfresh HO hKM HB hbase hl
  exact Kd.event_run hgd hr (h v1 w1 h1 h2 h3 h4)
theorem C_append_full_step {Kc : Act → World → Prop} (d : Kd α) {w0 W : World} (base : Nat) (hw : Region.wanted o (yielded ops a.tmps) = true) (s x : Operand) (t e : TypeId) (z : Value) (bytes : Nat)
    (ho : o.op = .call { callee := .builtin .append, args := #[s, x], argTypes := #[t, t] })
    (ht : P.underlying t = some (.slice e)) (hinfo : (P.info? e).map (fun i => (i.zero, i.size, i.bytes)) = some (some z, d.sz, bytes)) (hz : z.cells.size = d.sz) (hs0 : 0 < d.sz) (hb0 : 0 < bytes)
    (v : Value) (xs : List α) (p : α) (cs : List Value) (ok okp : Nat → Prop) {A : Option Addr} (hs : a.eval s = .slice A xs.length xs.length) (hx : a.eval x = .slice (some ⟨W.heap.size, 0, none⟩) 1 1) (hv : v = .slice none 0 0)
    (hp : d.M W base okp p cs) (hokp : ∀ k, okp k → ok k ∧ some k ≠ v.ownBlock) (hfresh : ∀ k, W.heap.size ≤ k → ok k)
    (HO : d.C W A xs.length xs) (hKM : ∀ x cs, d.K W x cs → d.M W base (fun k => ok k ∧ some k ≠ v.ownBlock) x cs) (HB : Below base w0 W) (hbase : base ≤ W.heap.size) (hl : (xs.length + 1) * bytes ≤ 140737488355328)
    (h : ∀ v1 w1, d.R e w1 base ok v1 (xs ++ [p]) → Below base w0 w1 → W.grownBy w1 v.ownBlock → (v1.ownBlock = v.ownBlock ∨ ∃ b, v1.ownBlock = some b ∧ W.heap.size ≤ b) → Kc (a.put o.dst v1) w1) :
    if Region.wanted o (yielded ops a.tmps) = true then Oper.wp P o a (W.alloc (.cells cs.toArray e)) Kc Q else Kc (a.put o.dst undef) (W.alloc (.cells cs.toArray e)) := by
  subst hv
  obtain ⟨v1, w1, hr, h1, h2, h3, h4⟩ := C_append_run (P := P) (o := o) (a := a) d base s x t e z bytes ho ht hinfo hz hs0 hb0 xs p cs ok okp hs hx hp hokp hfresh HO hKM HB hbase hl
  exact event_step hw hr (h v1 w1 h1 h2 h3 h4)
end
end Go.Proofs.Ytkbpdnhbmceajaa.Ar
