/- Arrays of whole numbers as elements of slices, and read out of slices of numbers: what one operation on them does. No conditions. -/
import Derived.Test.YtkbpdnhbmceajaaAr
import Derived.Great.BuildSlice
namespace Go.Proofs.Ytkbpdnhbmceajaa.Ar
open Go.RowKit Go.Proofs.YtkbpdnhbmceajaaW.PrintWords

theorem cells_len (k : IntKind) (n : Nat) (l : List Int) : (cells k n l).toList.length = n := by simp [cells_size]
/-- Arrays of n numbers as elements. -/
def K (k : IntKind) (n : Nat) : Kd (List Int) where
  sz := n
  E := []
  K := fun _ x cs => cs = (cells k n x).toList
  M := fun _ _ _ x cs => cs = (cells k n x).toList
  K_len := fun h => by rw [h]; exact cells_len k n _
  K_one := fun h u hu => by
    rw [h] at hu
    have := cells_one k n ‹List Int›
    rw [Array.all_eq_true_iff_forall_mem] at this
    exact this u (by simpa using hu)
  K_below := fun _ h => h
  K_of_M := fun h => h
  M_mono := fun _ h => h
  M_bound := fun h => h
  M_move := fun _ h => h
  M_lower := fun _ h => h
/-- A number of an element. -/
theorem elem_at {k : IntKind} {n : Nat} {w : World} {A : Option Addr} {m : Nat} {xs : List (List Int)} (h : Kd.C (K k n) w A m xs) (z : List Int) (i : Int) (h0 : 0 ≤ i) (h1 : i < m) :
    ∃ ad, A = some ad ∧ ∀ j : Nat, j < n → w.cell? (ad.add (i.toNat * n + j)) = some (.int k (get n (xs.getD i.toNat z) j)) := by
  obtain ⟨ad, c, e, _, hK, hc⟩ := Kd.C_get h z i h0 h1
  refine ⟨ad, e, fun j hj => hc j _ ?_⟩
  rw [show c = (cells k n (xs.getD i.toNat z)).toList from hK]
  have := cells_at (k := k) (n := n) (l := xs.getD i.toNat z) (j := (j : Int)) (by omega) (by omega)
  simpa using this
theorem add_add (ad : Addr) (i j : Nat) : (ad.add i).add j = ad.add (i + j) := by
  rcases ad with ⟨b, o, p⟩
  unfold Addr.add
  by_cases hi : i = 0
  · subst hi; simp
  · by_cases hj : j = 0
    · subst hj; simp [hi]
    · simp [hi, hj]; omega
theorem elem_at1 {k : IntKind} {n : Nat} {w : World} {A : Option Addr} {m : Nat} {xs : List (List Int)} (jj : Nat) (hj : jj < n) (h : Kd.C (K k n) w A m xs) (i : Int) (h0 : 0 ≤ i) (h1 : i < m) :
    ∃ ad, A = some ad ∧ w.cell? ((ad.add (i.toNat * n)).add jj) = some (.int k (get n (xs.getD i.toNat (List.replicate n 0)) jj)) := by
  obtain ⟨ad, e, hc⟩ := elem_at h (List.replicate n 0) i h0 h1
  exact ⟨ad, e, by rw [add_add]; exact hc jj hj⟩
section
variable {P : Program} {o : Oper} {a : Act} {W : World}
/-- An array is read where its numbers lie. -/
theorem load_at_run {T E : TypeId} {x : Operand} (ho : o.op = .load T x) {n : Nat} (hT : P.underlying T = some (.array n E)) (hi : (P.info? T).map (·.size) = some n)
    {A : Addr} (hx : a.eval x = .pointer (some A)) {k : IntKind} {l : List Int} (hc : ∀ j : Nat, j < n → W.cell? (A.add j) = some (.int k (get n l j))) :
    (execOp a.eval o).run P W = .ok (.value (val k n l)) W := by
  obtain ⟨it, hit, hsz⟩ := Option.map_eq_some_iff.1 hi
  have hr := run_loadCells_list (P := P) W A (nums k (fit n l)) (fun j v hj => by
    have hjn : j < n := by
      have := (List.getElem?_eq_some_iff.1 hj).1
      rwa [nums_length, fit_len] at this
    rw [hc j hjn, ← hj]
    have hlt : j < (fit n l).length := by rw [fit_len]; omega
    unfold get rd
    rw [Int.toNat_natCast]
    simp [nums, List.getD, List.getElem?_eq_getElem hlt])
  rw [nums_length, fit_len] at hr
  have hagg : (isAgg T).run P W = .ok true W := by simp [isAgg, run_underlying hT]
  have hs : (sizeOf T).run P W = .ok n W := by simp [sizeOf, typeInfo, hit, hsz]
  unfold execOp
  simp only [ho, hx, Instr.loadAt, Instr.sureAddr, Sem.run_bind, Sem.run_pure, Result.andThen_ok, loadVar, hagg, if_true, hs, hr]
  rfl
/-- The pointer to the array at a slice's head. -/
theorem ptr_run {T E : TypeId} {m : Nat} {x : Operand} (ho : o.op = .sliceToArrayPointer T x) (hT : P.underlying T = some (.array m E)) {A : Addr} {len cap : Nat} (hx : a.eval x = .slice (some A) len cap) (hl : m ≤ len) :
    (execOp a.eval o).run P W = .ok (.value (.pointer (some A))) W := by
  unfold execOp
  simp only [ho, hx, Instr.arrayAt, Sem.run_bind, run_underlying hT, Result.andThen_ok, if_neg (Nat.not_lt.2 hl), Sem.run_pure]
end
/-- Cells that are laid one behind the other. -/
theorem fold_set : ∀ (xs : List Value) (o : Nat) (cs : List Value), o + xs.length ≤ cs.length → (xs.zipIdx o).foldl (fun (cs : List Value) (p : Value × Nat) => cs.set p.2 p.1) cs = cs.take o ++ xs ++ cs.drop (o + xs.length)
  | [], o, cs, _ => by simp
  | x :: xs, o, cs, h => by
    simp only [List.zipIdx_cons, List.foldl_cons]
    simp only [List.length_cons] at h
    have hl : o < cs.length := by omega
    rw [fold_set xs (o + 1) _ (by simp; omega), List.take_set, List.drop_set_of_lt (by omega)]
    have e : (cs.take (o + 1)).set o x = cs.take o ++ [x] := by
      rw [List.take_succ_eq_append_getElem hl, List.set_append_right _ _ (by rw [List.length_take]; omega)]
      simp [Nat.min_eq_left (Nat.le_of_lt hl)]
    rw [e, List.length_cons, show o + 1 + xs.length = o + (xs.length + 1) by omega]
    simp
theorem fold_arr (b a : Array Value) (h : b.size = a.size) : b.zipIdx.foldl (fun (cs : Array Value) (p : Value × Nat) => cs.setIfInBounds p.2 p.1) a = b := by
  have key : ∀ (l : List (Value × Nat)) (c : Array Value), (l.foldl (fun (cs : Array Value) (p : Value × Nat) => cs.setIfInBounds p.2 p.1) c).toList = l.foldl (fun (cs : List Value) (p : Value × Nat) => cs.set p.2 p.1) c.toList := by
    intro l
    induction l with
    | nil => intro c; rfl
    | cons p l ih => intro c; simp only [List.foldl_cons]; rw [ih]; simp
  apply Array.toList_inj.mp
  rw [← Array.foldl_toList, Array.toList_zipIdx, key, fold_set _ _ _ (by simp [h])]
  simp [h]
/-- '[]T{x}' of one array. -/
theorem one_lit_run {P : Program} {o : Oper} {a : Act} {W : World} {T E : TypeId} {x : Operand} (ho : o.op = .buildSlice T 1 #[(0, x)]) {k : IntKind} {n : Nat} {l : List Int} (hT : P.underlying T = some (.slice E)) {by_ : Nat} (hE : (P.info? E).map (fun i => (i.zero, i.size, i.bytes)) = some (some (.agg (cells k n (List.replicate n 0))), n, by_)) (h0 : 0 < n) (hn : n ≤ 2 ^ 24) (hx : a.eval x = val k n l) :
    (execOp a.eval o).run P W = .ok (.value (.slice (some ⟨W.heap.size, 0, none⟩) 1 1)) (W.alloc (.cells (cells k n l).toList.toArray E)) := by
  obtain ⟨ie, hie, hh⟩ := Option.map_eq_some_iff.1 hE
  simp only [Prod.mk.injEq] at hh
  obtain ⟨hz, hs, _⟩ := hh
  have hf : Instr.fill (fun i => some (i * ie.size, ie.size)) ((Array.range (1 * ie.size)).map ((Value.agg (cells k n (List.replicate n 0))).cells[· % (Value.agg (cells k n (List.replicate n 0))).cells.size]!)) (#[(0, val k n l)] : Array (Nat × Value)).toList = some (cells k n l) := by
    simp only [Instr.fill, hs]
    have e1 : (val k n l).cells = cells k n l := rfl
    rw [e1, if_neg (by simp [cells_size])]
    congr 1
    simp only [Nat.zero_mul, Nat.zero_add]
    exact fold_arr _ _ (by simp [cells_size])
  have hr := run_buildSlice (P := P) W T E 1 #[(0, val k n l)] (cells k n l) ie _ hT hie hz (by omega) (by omega) hf
  have e2 : (#[(0, x)] : Array (Nat × Operand)).map (fun (i, x) => (i, a.eval x)) = #[(0, val k n l)] := by simp [hx]
  unfold execOp
  simp only [ho, Sem.run_bind, e2, hr, Result.andThen_ok]
  rfl
/-- The numbers of a slice, as an array's. -/
theorem get_take {n : Nat} {l : List Int} (h : n ≤ l.length) {j : Nat} (hj : j < n) : get n (l.take n) j = rd l j := by
  unfold get
  rw [fit_id (by rw [List.length_take]; omega)]
  unfold rd
  rw [Int.toNat_natCast, List.getD_eq_getElem?_getD, List.getD_eq_getElem?_getD, List.getElem?_take, if_pos hj]
theorem get_set {n : Nat} {l : List Int} {i j : Nat} {x : Int} (hi : i < n) : get n (set n l i x) j = if j = i then x else get n l j := by
  have e : fit n (set n l i x) = set n l i x := fit_id (by simp [set, fit_len])
  unfold get
  rw [e]
  unfold set rd
  rw [Int.toNat_natCast, Int.toNat_natCast, List.getD_eq_getElem?_getD, List.getD_eq_getElem?_getD]
  by_cases c : j = i
  · subst c; rw [if_pos rfl, List.getElem?_set_self (by rw [fit_len]; exact hi)]; rfl
  · rw [if_neg c, List.getElem?_set_ne (fun e => c e.symm)]
theorem cells_of_get {k : IntKind} {n : Nat} {y z : List Int} (h : ∀ j : Nat, j < n → get n y j = get n z j) : cells k n y = cells k n z := by
  rw [cells_eq, cells_eq]
  congr 1
  exact List.map_congr_left fun j hj => by rw [h j (List.mem_range.1 hj)]
theorem get_drop_take {n : Nat} {l : List Int} {t : Int} (h : t + n ≤ l.length) (h0 : 0 ≤ t) {j : Nat} (hj : j < n) : get n ((l.drop t.toNat).take n) j = rd l (t + j) := by
  rw [get_take (by rw [List.length_drop]; omega) hj]
  unfold rd
  rw [List.getD_eq_getElem?_getD, List.getD_eq_getElem?_getD, List.getElem?_drop, show (t + (j : Int)).toNat = t.toNat + (j : Int).toNat by omega]
/-- What is behind a place of what came in and is shared. -/
theorem cut_V {P : Program} {k : IntKind} {t e : TypeId} {i : TypeInfo} (ht : P.underlying t = some (.slice e)) (hi : P.info? e = some i) (hsz : i.size = 1) {w : World} {base : Nat} {ok : Nat → Prop} {A : Option Addr} {c : Nat} {xs : List Int}
    (h : Kd.V (Kd.int k) e w base ok (.slice A xs.length c) xs) (j : Int) (h0 : 0 ≤ j) (hm : j ≤ xs.length) :
    ∃ A', (∀ W : World, (Instr.slice t (.slice A xs.length c) (some (.int .i64 j)) none none).run P W = .ok (.slice A' (xs.drop j.toNat).length (c - j.toNat)) W) ∧ Kd.V (Kd.int k) e w base ok (.slice A' (xs.drop j.toNat).length (c - j.toNat)) (xs.drop j.toNat) := by
  obtain ⟨_, hc, hF⟩ := Kd.V_at h
  obtain ⟨A', hr, hR, hl⟩ := print_drop_of (P := P) (Value.int k) 0 t e .i64 ht hi hsz A c xs j h0 hm hc
  exact ⟨A', hr, Kd.V_mk hl (Kd.F_imp hF (fun _ hC => Kd.C_of_reads (h1 := fun _ => rfl) (hR _ (Kd.reads_of_C hC))))⟩
end Go.Proofs.Ytkbpdnhbmceajaa.Ar
