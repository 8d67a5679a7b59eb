/- Written by xprint.py, this session's own driver, for the seat YtgfkclgpphnjfaaDoor: contracts of Go functions, each saying that a call answers what a plain Lean function of the same name says, and, in a text named Law, the row of a law: its Go function answers true for every input. No conditions. -/
import Derived.Test.YtgfkclgpphnjfaaDoorPNx0
import Derived.Test.YtgfkclgpphnjfaaDoorPNx1
import Derived.Test.YtgfkclgpphnjfaaDoorPNx2
import Derived.Test.YtgfkclgpphnjfaaDoorPNx4
namespace Go.Proofs.YtgfkclgpphnjfaaDoor.PN
open Go.RowKit Go.Proofs.YtgfkclgpphnjfaaDoorW.PrintWords Go.Proofs.YtgfkclgpphnjfaaDoorW.PrintLast Go.Proofs.YtgfkclgpphnjfaaDoorW.PrintMore
attribute [local go_sem] max2_int min2_int max_two min_two max_three min_three max_four min_four   -- for this text's walks alone
set_option linter.unusedVariables false
set_option linter.unusedSimpArgs false

/-! ### nat_Pow: function 26 -/
theorem mulOne_ : ∀ k : Nat, k < 65 → bits_Mul.f 1 (k : Int) = some (0, (k : Int)) := by decide +kernel
/-- Cells that are written one behind the other, all the same value. -/
theorem setCells_fill_ {g T : Nat} {v : Value} : ∀ (c o : Nat) (W : World) (cur : Array Value), W.heap[g]? = some (.cells cur T (0, 0)) → o + c ≤ cur.size → (∀ j, j < o → cur[j]? = some v) →
    (∃ cur', (W.setCells g o (List.replicate c v)).heap[g]? = some (.cells cur' T (0, 0)) ∧ cur'.size = cur.size ∧ ∀ j, j < o + c → cur'[j]? = some v) ∧ W.grownBy (W.setCells g o (List.replicate c v)) (some g)
  | 0, o, W, cur, hb, _, hj => ⟨⟨cur, hb, rfl, hj⟩, rfl, rfl, rfl, Nat.le_refl _, fun _ _ _ => rfl⟩
  | c + 1, o, W, cur, hb, ho, hj => by
    have h1 : (W.setCell ⟨g, o, none⟩ v).heap[g]? = some (.cells (cur.setIfInBounds o v) T (0, 0)) := blk_set hb o v
    have h2 : W.grownBy (W.setCell ⟨g, o, none⟩ v) (some g) := ⟨rfl, rfl, rfl, by simp [World.setCell], fun q _ hq => Below.heap_setCell _ _ _ _ (by rintro rfl; exact hq rfl)⟩
    obtain ⟨⟨cur', h3, h4, h5⟩, h6⟩ := setCells_fill_ c (o + 1) _ _ h1 (by simp; omega) (fun j hjo => by
      by_cases e : j = o
      · subst e; rw [Array.getElem?_setIfInBounds_self_of_lt (by omega)]
      · rw [Array.getElem?_setIfInBounds_ne (by omega)]; exact hj j (by omega))
    refine ⟨⟨cur', h3, by rw [h4]; simp, fun j hjc => h5 j (by omega)⟩, h6.os.trans h2.os, h6.tape.trans h2.tape, h6.output.trans h2.output, Nat.le_trans h2.size h6.size, fun q hq hne => ?_⟩
    exact (h6.block q (Nat.lt_of_lt_of_le hq h2.size) hne).trans (h2.block q hq hne)
section
variable {P : Program} {ops : Array Oper} {rest : List Oper} {o : Oper} {a : Act} {Q : Exit → Act → World → Prop} {Kc : Act → World → Prop} {W : World}
/-- A copy of cells that all hold one value, into a block whose first cells hold it. -/
theorem copyV_run_ {ρ : Operand → Value} {x y : Operand} {dT sT E : TypeId} (hu : P.underlying dT = some (.slice E)) (hE : (P.info? E).map (·.size) = some 1) {v : Value} (hv : v.oneCell' = true)
    {gd gs od os dl dc sl sc T : Nat} {cur : Array Value} (hx : ρ x = .slice (some ⟨gd, od, none⟩) dl dc) (hy : ρ y = .slice (some ⟨gs, os, none⟩) sl sc)
    (hbd : W.heap[gd]? = some (.cells cur T (0, 0))) (c : Nat) (hc : c = Nat.min sl dl) (h1 : od + c ≤ cur.size) (hs : ∀ j, j < c → W.cell? ⟨gs, os + j, none⟩ = some v) :
    (Builtin.copy_ #[dT, sT] o.type #[ρ x, ρ y]).run P W = .ok (goInt c) (W.setCells gd od (List.replicate c v)) := by
  have hr := run_copy_cells (P := P) W dT sT o.type E gd od dl dc ⟨gs, os, none⟩ sl sc (List.replicate c v) hu hE (by rw [List.length_replicate]; exact hc) ?_ ?_ ?_ ?_
  · rw [hx, hy, hr, List.length_replicate]
  · intro j u hj
    obtain ⟨hjl, e⟩ := List.getElem?_eq_some_iff.1 hj
    rw [List.length_replicate] at hjl
    rw [List.getElem_replicate] at e
    subst e
    have hadd : (⟨gs, os, none⟩ : Addr).add j = ⟨gs, os + j, none⟩ := by unfold Addr.add; split <;> simp_all
    rw [hadd]; exact hs j hjl
  · intro j hj
    rw [List.length_replicate] at hj
    rw [blk_cell hbd, Array.getElem?_eq_getElem (show od + j < cur.size by omega)]
    rfl
  · intro j _
    exact blk_frozen hbd _
  · intro u hu2
    rw [List.eq_of_mem_replicate hu2]; exact hv
theorem copyV_event_ {v : Value} {x y : Operand} {dT sT E : TypeId} (hgd : o.guard = none) (ho : o.op = .call { callee := .builtin .copy, args := #[x, y], argTypes := #[dT, sT] }) (hu : P.underlying dT = some (.slice E)) (hE : (P.info? E).map (·.size) = some 1) (hv : v.oneCell' = true)
    {gd gs od os dl dc sl sc T : Nat} {cur : Array Value} (hx : a.eval x = .slice (some ⟨gd, od, none⟩) dl dc) (hy : a.eval y = .slice (some ⟨gs, os, none⟩) sl sc)
    (hbd : W.heap[gd]? = some (.cells cur T (0, 0))) (c : Nat) (hc : c = Nat.min sl dl) (h1 : od + c ≤ cur.size) (hs : ∀ j, j < c → W.cell? ⟨gs, os + j, none⟩ = some v) (hp : ∀ j, j < od → cur[j]? = some v)
    (h : ∀ w' cur', w'.heap[gd]? = some (.cells cur' T (0, 0)) → cur'.size = cur.size → (∀ j, j < od + c → cur'[j]? = some v) → W.grownBy w' (some gd) → wpList P ops Q rest (a.put o.dst (.int .i64 c)) w') : wpList P ops Q (o :: rest) a W := by
  refine wpList_plain hgd fun K hK => ?_
  have hrun := copyV_run_ (P := P) (o := o) (ρ := a.eval) hu hE hv hx hy hbd c hc h1 hs (dT := dT) (sT := sT)
  obtain ⟨⟨cur', h3, h4, h5⟩, h6⟩ := setCells_fill_ c od W cur hbd h1 hp
  unfold Oper.wp
  simp [execOp, ho, resolve, invoke, builtin, hrun, Result.andThen]
  exact hK _ _ (h _ cur' h3 h4 h5 h6)
theorem copyV_step_ {v : Value} {x y : Operand} {dT sT E : TypeId} (hw : Region.wanted o (yielded ops a.tmps) = true) (ho : o.op = .call { callee := .builtin .copy, args := #[x, y], argTypes := #[dT, sT] }) (hu : P.underlying dT = some (.slice E)) (hE : (P.info? E).map (·.size) = some 1) (hv : v.oneCell' = true)
    {gd gs od os dl dc sl sc T : Nat} {cur : Array Value} (hx : a.eval x = .slice (some ⟨gd, od, none⟩) dl dc) (hy : a.eval y = .slice (some ⟨gs, os, none⟩) sl sc)
    (hbd : W.heap[gd]? = some (.cells cur T (0, 0))) (c : Nat) (hc : c = Nat.min sl dl) (h1 : od + c ≤ cur.size) (hs : ∀ j, j < c → W.cell? ⟨gs, os + j, none⟩ = some v) (hp : ∀ j, j < od → cur[j]? = some v)
    (h : ∀ w' cur', w'.heap[gd]? = some (.cells cur' T (0, 0)) → cur'.size = cur.size → (∀ j, j < od + c → cur'[j]? = some v) → W.grownBy w' (some gd) → Kc (a.put o.dst (.int .i64 c)) w') :
    if Region.wanted o (yielded ops a.tmps) = true then Oper.wp P o a W Kc Q else Kc (a.put o.dst undef) W := by
  rw [if_pos hw]
  have hrun := copyV_run_ (P := P) (o := o) (ρ := a.eval) hu hE hv hx hy hbd c hc h1 hs (dT := dT) (sT := sT)
  obtain ⟨⟨cur', h3, h4, h5⟩, h6⟩ := setCells_fill_ c od W cur hbd h1 hp
  unfold Oper.wp
  simp [execOp, ho, resolve, invoke, builtin, hrun, Result.andThen]
  exact h _ cur' h3 h4 h5 h6
end
theorem one_cell_ {W : World} {g0 T k : Nat} {v : Value} (hg : W.heap[g0]? = some (.cells #[v] T (0, 0))) : ∀ j, j < Nat.min 1 k → W.cell? ⟨g0, 0 + j, none⟩ = some v := fun j hj => by
  have : j < 1 := Nat.lt_of_lt_of_le hj (Nat.min_le_left 1 k)
  obtain rfl : j = 0 := by omega
  rw [blk_cell hg]
  rfl
theorem grown_here_ {w W W1 : World} (h : Below w.heap.size w W) (hg : W.grownBy W1 (some w.heap.size)) : Below w.heap.size w W1 := Below.grown h hg (below_size h) (fun _ e_ => by cases e_; exact Nat.le_refl _)
set_option maxHeartbeats 8000000 in
set_option maxRecDepth 100000 in
theorem Repeat_calls_ (v : Value) (hv : v.oneCell' = true) (g0 : Nat) (k : Nat) (hk : k < 65) (w : World) (hg0 : w.heap[g0]? = some (.cells #[v] 26 (0, 0))) :
    Calls Tryd.prog 43 #[.slice (some ⟨g0, 0, none⟩) 1 1, .int .i64 k] w fun e w' => ∃ gr, e = .returned (.slice (some ⟨gr, 0, none⟩) k k) ∧ (∀ j, j < k → w'.cell? ⟨gr, j, none⟩ = some v) ∧ Below w.heap.size w w' := by
  have HB := Aside0.mk (Below.refl w.heap.size w)
  have hg := Aside0.mk hg0
  clear hg0
  have hmk : ∀ w_ : World, (Instr.makeSlice 22 (.int .i64 (k : Int)) (.int .i64 (k : Int))).run Tryd.prog w_ = .ok (.slice (some ⟨w_.heap.size, 0, none⟩) k k) (w_.alloc (.cells (Array.replicate k (.slice none 0 0)) 26)) := fun w_ => by
    obtain ⟨i, hi, hz⟩ : ∃ i, Tryd.prog.info? 26 = some i ∧ (i.zero, i.size, i.bytes) = (some (.slice none 0 0), 1, 24) := by
      have h : (Tryd.prog.info? 26).map (fun i => (i.zero, i.size, i.bytes)) = some (some (.slice none 0 0), 1, 24) := by kernel_rfl
      exact Option.map_eq_some_iff.1 h
    simp only [Prod.mk.injEq] at hz
    have h := run_makeSlice (P := Tryd.prog) w_ 22 26 i (.slice none 0 0) Tryd.underlying22 hi hz.1 .i64 .i64 k k (by omega) (Int.le_refl _) (by rw [hz.2.1]; omega) (by rw [hz.2.2]; omega) (by omega)
    rw [h, hz.2.1]
    have hm : madeCells (Value.slice none 0 0).cells ((k : Int).toNat * 1) = Array.replicate k (.slice none 0 0) := by
      apply Array.ext
      · simp [size_madeCells]
      · intro i h1 h2
        simp [madeCells, Value.cells, Nat.mod_one]
    rw [hm]
    simp
  have hneg : decide ((k : Int) < 0) = false := decide_eq_false (by omega)
  have hu1 : IntKind.u64.wrap (k : Int) = (k : Int) := by simp [IntKind.wrap, IntKind.bits, IntKind.signed]; omega
  have hu2 : wrap64 (k : Int) = (k : Int) := by unfold wrap64; omega
  have hbig : decide ((k : Int) > 9223372036854775807) = false := decide_eq_false (by omega)
  go_enter Tryd.func43, Tryd.ntmps43
  go_wp2_with (first | ((with_reducible refine gate_callee (f := 50) rfl ?_); refine goesL_ (some 18) rfl rfl Tryd.func50 (by kernel_rfl) rfl #[.int .u64 1, .int .u64 k] rfl (by (try simp only [List.map_toArray, List.map_cons, List.map_nil]); first | done | rfl | go_simp) ?_; (with_reducible refine (bits_Mul.calls 1 k 0 k _ (mulOne_ k hk)).mono ?_); rintro e w' ⟨rfl, ⟨nd, rfl⟩⟩; refine ⟨_, rfl, ?_⟩) | ((with_reducible refine gate_dst (N := 33) rfl ?_); refine copyV_event_ (gd := w.heap.size) (od := 0) (gs := g0) (os := 0) (cur := Array.replicate k (.slice none 0 0)) (T := 26) rfl rfl Tryd.underlying22 (by kernel_rfl) hv rfl rfl (heap_alloc_new (w.drewN nd) _) (Nat.min 1 k) rfl (by simp; exact Nat.min_le_right 1 k) (one_cell_ (by (with_reducible repeat (first | refine blk_drewN ?_ _ | refine blk_drew ?_ | refine blk_alloc ?_ _)); exact hg.out)) (fun j hj => by omega) ?_; intro w2 cur2 hb2_ hsz2_ hp2_ hgr2_; have hb2 := Aside0.mk hb2_; have hsz2 := Aside0.mk hsz2_; have hp2 := Aside0.mk hp2_; have HB2 := Aside0.mk (grown_here_ (by repeat (first | exact HB.out | apply below_alloc | apply pw_below_drewN | apply below_drew1)) hgr2_); clear hb2_ hsz2_ hp2_ hgr2_ HB))
  go_loopg [8] k (fun kq v8 w' => ∃ n : Nat, v8 = .int .i64 n ∧ Aside0 (n ≤ k ∧ (0 < k → 0 < n)) ∧ Aside0 (k - n ≤ kq) ∧ Aside0 (∃ cur : Array Value, w'.heap[w.heap.size]? = some (.cells cur 26 (0, 0)) ∧ cur.size = k ∧ ∀ j, j < n → cur[j]? = some v) ∧ Aside0 (Below w.heap.size w w'))
  case atStart => exact ⟨Nat.min 1 k, rfl, ⟨Nat.min_le_right 1 k, fun h => by unfold Nat.min; omega⟩, ⟨Nat.sub_le _ _⟩, ⟨cur2, hb2.out, by rw [hsz2.out]; simp, fun j hj => hp2.out j (by rw [Nat.zero_add]; exact hj)⟩, HB2⟩
  case round =>
    clear hb2 hsz2 hp2 HB2
    obtain ⟨n, rfl, hn, hq, hcur, HB⟩ := hrel
    by_cases hlt : n < k
    · have l1 : decide ((n : Int) < (k : Int)) = true := decide_eq_true (by omega)
      have l2 : decide (n < k) = true := decide_eq_true hlt
      obtain ⟨m, hm⟩ : ∃ m, gk = m + 1 := ⟨gk - 1, by have := hq.out; omega⟩
      subst hm
      go_wp2
      obtain ⟨cur, hb_, hsz_, hp_⟩ := hcur.out
      have hb := Aside0.mk hb_
      have hsz := Aside0.mk hsz_
      have hp := Aside0.mk hp_
      clear hb_ hsz_ hp_ hcur
      have t1 : (n ≤ k) = True := eq_true (by omega)
      have t2 : (k = n) = False := eq_false (by omega)
      refine start_ (n := 10) (S := fun w' => True) (ds := []) #[false, false, false, false, false, false, false, false, false, false] (by kernel_rfl) rfl rfl trivial (fun hHeld => ?_)
      refine pure_ (i := 0) (N := some 38) (v := ?_) (a' := ?_) #[true, false, false, false, false, false, false, false, false, false] rfl rfl (by kernel_rfl) (fun _ _ _ h => h) (Or.inl ⟨by rfl, ?_⟩) ?_ ?_
      rotate_left
      · intro w'
        go_simp
        with_reducible rfl
      rotate_left
      · simp only [Act.put, List.setIfInBounds_toArray, List.set_cons_zero, List.set_cons_succ, i64_w, i32_w]
        rfl
      refine pure_ (i := 1) (N := some 39) (v := ?_) (a' := ?_) #[true, true, false, false, false, false, false, false, false, false] rfl rfl (by kernel_rfl) (fun _ _ _ h => h) (Or.inl ⟨by rfl, ?_⟩) ?_ ?_
      rotate_left
      · intro w'
        go_simp
        with_reducible rfl
      rotate_left
      · simp only [Act.put, List.setIfInBounds_toArray, List.set_cons_zero, List.set_cons_succ, i64_w, i32_w]
        rfl
      refine pure_ (i := 2) (N := some 40) (v := ?_) (a' := ?_) #[true, true, true, false, false, false, false, false, false, false] rfl rfl (by kernel_rfl) (fun _ _ _ h => h) (Or.inl ⟨by rfl, ?_⟩) ?_ ?_
      rotate_left
      · intro w'
        go_simp
        with_reducible rfl
      rotate_left
      · simp only [Act.put, List.setIfInBounds_toArray, List.set_cons_zero, List.set_cons_succ, i64_w, i32_w]
        rfl
      refine pure_ (i := 3) (N := some 41) (v := ?_) (a' := ?_) #[true, true, true, true, false, false, false, false, false, false] rfl rfl (by kernel_rfl) (fun _ _ _ h => h) (Or.inl ⟨by rfl, ?_⟩) ?_ ?_
      rotate_left
      · intro w'
        go_simp
        with_reducible rfl
      rotate_left
      · simp only [Act.put, List.setIfInBounds_toArray, List.set_cons_zero, List.set_cons_succ, i64_w, i32_w]
        rfl
      refine pure_ (i := 4) (N := some 42) (v := ?_) (a' := ?_) #[true, true, true, true, true, false, false, false, false, false] rfl rfl (by kernel_rfl) (fun _ _ _ h => h) (Or.inl ⟨by rfl, ?_⟩) ?_ ?_
      rotate_left
      · intro w'
        go_simp
        with_reducible rfl
      rotate_left
      · simp only [Act.put, List.setIfInBounds_toArray, List.set_cons_zero, List.set_cons_succ, i64_w, i32_w]
        rfl
      refine pure_ (i := 5) (N := some 43) (v := ?_) (a' := ?_) #[true, true, true, true, true, true, false, false, false, false] rfl rfl (by kernel_rfl) (fun _ _ _ h => h) (Or.inl ⟨by rfl, ?_⟩) ?_ ?_
      rotate_left
      · intro w'
        go_simp
        with_reducible rfl
      rotate_left
      · simp only [Act.put, List.setIfInBounds_toArray, List.set_cons_zero, List.set_cons_succ, i64_w, i32_w]
        rfl
      refine pure_ (i := 6) (N := some 44) (v := ?_) (a' := ?_) #[true, true, true, true, true, true, true, false, false, false] rfl rfl (by kernel_rfl) (fun _ _ _ h => h) (Or.inl ⟨by rfl, ?_⟩) ?_ ?_
      rotate_left
      · intro w'
        go_simp
        with_reducible rfl
      rotate_left
      · simp only [Act.put, List.setIfInBounds_toArray, List.set_cons_zero, List.set_cons_succ, i64_w, i32_w]
        rfl
      refine one_ (i := 7) (N := some 45) #[true, true, true, true, true, true, true, true, false, false] rfl rfl (by kernel_rfl) (by decide) (fun K hK => ?_)
      refine copyV_step_ (gd := w.heap.size) (od := n) (gs := w.heap.size) (os := 0) (cur := cur) (T := 26) (by rfl) rfl Tryd.underlying22 (by kernel_rfl) hv (by rfl) (by rfl) (blk_drew hb.out) (Nat.min n (k - n)) rfl (by rw [hsz.out]; have h_ : Nat.min n (k - n) ≤ k - n := Nat.min_le_right n (k - n); omega) (fun j hj => ?_) hp.out ?_
      · have : j < n := Nat.lt_of_lt_of_le hj (Nat.min_le_left n (k - n))
        rw [Nat.zero_add, blk_cell (blk_drew hb.out)]
        exact hp.out j this
      intro w2 cur2 hb2 hsz2 hp2 hgr2
      refine hK.out _ _ trivial (fun hHeld => ?_)
      clear hK K
      refine norm_ (a' := ?_) ?_ ?_
      rotate_left
      · show Act.put _ (some 45) _ = _
        simp only [Act.put, List.setIfInBounds_toArray, List.set_cons_zero, List.set_cons_succ, i64_w, i32_w]
        rfl
      refine pure_ (i := 8) (N := some 46) (v := ?_) (a' := ?_) #[true, true, true, true, true, true, true, true, true, false] rfl rfl (by kernel_rfl) (fun _ _ _ h => h) (Or.inl ⟨by rfl, ?_⟩) ?_ ?_
      rotate_left
      · intro w'
        go_simp
        with_reducible rfl
      rotate_left
      · simp only [Act.put, List.setIfInBounds_toArray, List.set_cons_zero, List.set_cons_succ, i64_w, i32_w]
        rfl
      refine pure_ (i := 9) (N := some 8) (v := ?_) (a' := ?_) #[true, true, true, true, true, true, true, true, true, true] rfl rfl (by kernel_rfl) (fun _ _ _ h => h) (Or.inl ⟨by rfl, ?_⟩) ?_ ?_
      rotate_left
      · intro w'
        go_simp
        with_reducible rfl
      rotate_left
      · simp only [Act.put, List.setIfInBounds_toArray, List.set_cons_zero, List.set_cons_succ, i64_w, i32_w]
        rfl
      refine done_ (by kernel_rfl) ?_
      have HB2 := grown_here_ (below_drew1 HB.out) hgr2
      have hle : Nat.min n (k - n) ≤ k - n := Nat.min_le_right n (k - n)
      have hge : 0 < Nat.min n (k - n) := Nat.lt_min.2 ⟨hn.out.2 (by omega), by omega⟩
      have hsum : wrap64 ((n : Int) + ((Nat.min n (k - n) : Nat) : Int)) = ((n + Nat.min n (k - n) : Nat) : Int) := by unfold wrap64; omega
      have hb2' := Aside0.mk hb2
      have hsz2' := Aside0.mk hsz2
      have hp2' := Aside0.mk hp2
      have HB2' := Aside0.mk HB2
      have hle' := Aside0.mk hle
      have hge' := Aside0.mk hge
      clear hb2 hsz2 hp2 hgr2 HB2 HB hle hge
      go_wp2
      go_roundg m
      case measure => omega
      case rel => exact ⟨n + Nat.min n (k - n), congrArg (Value.int .i64) hsum, ⟨by have := hle'.out; omega, by have := hge'.out; omega⟩, ⟨by have := hge'.out; have := hq.out; omega⟩, ⟨cur2, hb2'.out, hsz2'.out.trans hsz.out, hp2'.out⟩, HB2'⟩
    · have l1 : decide ((n : Int) < (k : Int)) = false := decide_eq_false (by omega)
      have l2 : decide (n < k) = false := decide_eq_false hlt
      go_wp2
      go_ret
      obtain ⟨cur, hb, _, hp⟩ := hcur.out
      exact ⟨_, rfl, fun j hj => by rw [blk_cell hb]; exact hp j (by omega), HB.out⟩

theorem rep_C_ {w w3 : World} {A0 : Option Addr} {c0 : Nat} {l0 : List Int} (hr : Kd.C (Kd.int .u32) w A0 l0.length l0) (hc : l0.length ≤ c0) (hb : Below w.heap.size w w3) {gr n : Nat} (hn : n < 65)
    (hcell : ∀ j, j < n → w3.cell? ⟨gr, j, none⟩ = some (.slice A0 l0.length c0)) : Kd.C (Kd.slice 45 (Kd.int .u32)) w3 (some ⟨gr, 0, none⟩) (List.replicate n l0).length (List.replicate n l0) := by
  refine ⟨rfl, by rw [List.length_replicate]; omega, fun _ => ⟨⟨gr, 0, none⟩, rfl, fun j p hj => ?_⟩⟩
  obtain ⟨hjl, he⟩ := List.getElem?_eq_some_iff.1 hj
  rw [List.length_replicate] at hjl
  rw [List.getElem_replicate] at he
  subst he
  refine ⟨[.slice A0 l0.length c0], rfl, ⟨A0, c0, rfl, hc, Kd.C_below hr hb⟩, fun i u hu => ?_⟩
  obtain ⟨hil, hu⟩ := List.getElem?_eq_some_iff.1 hu
  have hi0 : i = 0 := by simpa using hil
  subst hi0
  have hadd : (⟨gr, 0, none⟩ : Addr).add (j * (Kd.slice 45 (Kd.int .u32)).sz + 0) = ⟨gr, j, none⟩ := by
    show (⟨gr, 0, none⟩ : Addr).add (j * 1 + 0) = _
    rw [Nat.mul_one, Nat.add_zero]; unfold Addr.add; split <;> simp_all
  rw [hadd, hcell j hjl]
  exact congrArg some (by simpa using hu)
def nat_Pow.f (k : Nat) (l0 : List Int) (a1 : Int) : Option (List Int × Int) := (nat_Right.f k l0).bind fun t => if t = true then (if 0 ≤ a1 ∧ a1 ≤ 64 then nat_Mul.f k (List.replicate a1.toNat l0) else some ([], 1)) else some ([], 1)
theorem nat_Pow.mono : ∀ a0 a1 k, LeO (nat_Pow.f k a0 a1) (nat_Pow.f (k + 1) a0 a1) := by
  intro a0 a1 k
  unfold nat_Pow.f
  refine LeO.bind (nat_Right.mono _ _) (fun _ => LeO.ite (LeO.ite (nat_Mul.mono _ _) (LeO.refl _)) (LeO.refl _))
set_option maxHeartbeats 8000000 in
set_option maxRecDepth 100000 in
theorem nat_Pow.calls (k : Nat) (A0 : Option Addr) (c0 : Nat) (l0 : List Int) (a1 : Int) (r1 : List Int) (r2 : Int) (w : World) (hr0 : Kd.C (Kd.int .u32) w A0 l0.length l0) (hc0 : l0.length ≤ c0) (h : nat_Pow.f k l0 a1 = some (r1, r2)) :
    Calls Tryd.prog 26 #[.slice A0 l0.length c0, .int .i64 a1] w fun e w' => ∃ v0_ : Value, e = .returned (.tuple #[v0_, .int .i64 r2]) ∧ Kd.V (Kd.int .u32) 45 w' w.heap.size (fun k_ => (w.heap.size ≤ k_)) v0_ r1 ∧ Below w.heap.size w w' := by
  have HR0 := Aside0.mk hr0
  have HC0 := Aside0.mk hc0
  clear hr0 hc0
  have H : ((nat_Right.f k l0).bind fun t => if t = true then (if 0 ≤ a1 ∧ a1 ≤ 64 then nat_Mul.f k (List.replicate a1.toNat l0) else some ([], 1)) else some ([], 1)) = some (r1, r2) := h
  clear h
  replace H := Option.bind_eq_some_iff.mp H
  obtain ⟨t, A1, H⟩ := H
  have A1 := Aside0.mk A1
  cases t with
  | false =>
    rw [if_neg (by decide)] at H
    simp only [Option.some.injEq, Prod.mk.injEq] at H
    obtain ⟨rfl, rfl⟩ := H
    go_enter Tryd.func26, Tryd.ntmps26
    go_wp2_with (first | ((with_reducible refine gate_callee (f := 22) rfl ?_); refine goesL_ (some 7) rfl rfl Tryd.func22 (by kernel_rfl) rfl #[.slice A0 l0.length c0] rfl (by (try simp only [List.map_toArray, List.map_cons, List.map_nil]); first | done | rfl) ?_; (with_reducible refine (nat_Right.calls k _ _ l0 false _ ?side1 ?side2 A1.out).mono ?_); (case side1 => exact HR0.out); (case side2 => exact HC0.out); rintro e w2 ⟨rfl, hb_⟩; have HB := Aside0.mk hb_; clear hb_; refine ⟨_, rfl, ?_⟩))
    go_ret2
    exact ⟨_, by first | rfl | (simp; done), Kd.V_nil _ _ _ _ _, HB.out⟩
  | true =>
    rw [if_pos rfl] at H
    by_cases h1 : 0 ≤ a1
    · by_cases h2 : a1 ≤ 64
      · rw [if_pos ⟨h1, h2⟩] at H
        obtain ⟨n, rfl⟩ := Int.eq_ofNat_of_zero_le h1
        rw [Int.toNat_natCast] at H
        have hn : n < 65 := by omega
        have A2 := Aside0.mk H
        clear H
        have d1 : decide ((n : Int) < 0) = false := decide_eq_false (by omega)
        have d2 : decide ((n : Int) > 64) = false := decide_eq_false (by omega)
        have d3 : decide ((64 : Int) < (n : Int)) = false := decide_eq_false (by omega)
        go_enter Tryd.func26, Tryd.ntmps26
        go_wp2_with (first | ((with_reducible refine gate_callee (f := 22) rfl ?_); refine goesL_ (some 7) rfl rfl Tryd.func22 (by kernel_rfl) rfl #[.slice A0 l0.length c0] rfl (by (try simp only [List.map_toArray, List.map_cons, List.map_nil]); first | done | rfl) ?_; (with_reducible refine (nat_Right.calls k _ _ l0 true _ ?side1 ?side2 A1.out).mono ?_); (case side1 => exact HR0.out); (case side2 => exact HC0.out); rintro e w2 ⟨rfl, hb_⟩; have HB := Aside0.mk hb_; clear hb_; refine ⟨_, rfl, ?_⟩) | ((with_reducible refine gate_callee (f := 43) rfl ?_); refine goesL_ (some 20) rfl rfl Tryd.func43 (by kernel_rfl) rfl #[.slice (some ⟨w2.heap.size, 0, none⟩) 1 1, .int .i64 n] rfl (by (try simp only [List.map_toArray, List.map_cons, List.map_nil]); first | done | rfl) ?_; refine (Repeat_calls_ (.slice A0 l0.length c0) rfl w2.heap.size n hn _ (heap_alloc_new w2 _)).mono ?_; rintro e w3 ⟨gr, rfl, hc_, hb_⟩; have HC2 := Aside0.mk hc_; have HB2 := Aside0.mk (below_step (below_alloc HB.out _) hb_); clear hc_ hb_; refine ⟨_, rfl, ?_⟩) | ((with_reducible refine gate_callee (f := 12) rfl ?_); refine goesL_ (some 21) rfl rfl Tryd.func12 (by kernel_rfl) rfl #[.slice (some ⟨gr, 0, none⟩) (List.replicate n l0).length n] rfl (by rw [List.length_replicate]; (try simp only [List.map_toArray, List.map_cons, List.map_nil]); first | done | rfl) ?_; refine (nat_Mul.calls k _ _ (List.replicate n l0) r1 r2 _ (rep_C_ HR0.out HC0.out HB2.out hn HC2.out) (by rw [List.length_replicate]; exact Nat.le_refl _) A2.out).mono ?_; rintro e w4 ⟨v0, rfl, hv_, hb_⟩; have HV := Aside0.mk (Kd.V_mono hv_ (fun k_ hk_ => Nat.le_trans (below_size HB2.out) hk_)); have HB4 := Aside0.mk (below_step HB2.out hb_); clear hv_ hb_; refine ⟨_, rfl, ?_⟩))
        go_ret2
        exact ⟨v0, rfl, Kd.V_lower HV.out (below_size HB2.out), HB4.out⟩
      · rw [if_neg (by omega)] at H
        simp only [Option.some.injEq, Prod.mk.injEq] at H
        obtain ⟨rfl, rfl⟩ := H
        have d1 : decide (a1 < 0) = false := decide_eq_false (by omega)
        have d2 : decide (a1 > 64) = true := decide_eq_true (by omega)
        have d3 : decide ((64 : Int) < a1) = true := decide_eq_true (by omega)
        go_enter Tryd.func26, Tryd.ntmps26
        go_wp2_with (first | ((with_reducible refine gate_callee (f := 22) rfl ?_); refine goesL_ (some 7) rfl rfl Tryd.func22 (by kernel_rfl) rfl #[.slice A0 l0.length c0] rfl (by (try simp only [List.map_toArray, List.map_cons, List.map_nil]); first | done | rfl) ?_; (with_reducible refine (nat_Right.calls k _ _ l0 true _ ?side1 ?side2 A1.out).mono ?_); (case side1 => exact HR0.out); (case side2 => exact HC0.out); rintro e w2 ⟨rfl, hb_⟩; have HB := Aside0.mk hb_; clear hb_; refine ⟨_, rfl, ?_⟩))
        go_ret2
        exact ⟨_, by first | rfl | (simp; done), Kd.V_nil _ _ _ _ _, HB.out⟩
    · rw [if_neg (by omega)] at H
      simp only [Option.some.injEq, Prod.mk.injEq] at H
      obtain ⟨rfl, rfl⟩ := H
      have d1 : decide (a1 < 0) = true := decide_eq_true (by omega)
      go_enter Tryd.func26, Tryd.ntmps26
      go_wp2_with (first | ((with_reducible refine gate_callee (f := 22) rfl ?_); refine goesL_ (some 7) rfl rfl Tryd.func22 (by kernel_rfl) rfl #[.slice A0 l0.length c0] rfl (by (try simp only [List.map_toArray, List.map_cons, List.map_nil]); first | done | rfl) ?_; (with_reducible refine (nat_Right.calls k _ _ l0 true _ ?side1 ?side2 A1.out).mono ?_); (case side1 => exact HR0.out); (case side2 => exact HC0.out); rintro e w2 ⟨rfl, hb_⟩; have HB := Aside0.mk hb_; clear hb_; refine ⟨_, rfl, ?_⟩))
      go_ret2
      exact ⟨_, by first | rfl | (simp; done), Kd.V_nil _ _ _ _ _, HB.out⟩

/-! ### nat_Two: function 28 -/
def nat_Two.f (a0 : Int) : Option (List Int × Int) := if a0 < 0 then (some (([] : List Int), 1)) else (if a0 ≥ 8192 then (some (([] : List Int), 1)) else (if 0 ≤ (wrap64 ((wrap64 (Int.tdiv a0 32)) + 1)) then (if (wrap64 ((wrap64 (Int.tdiv a0 32)) + 1) : Int).toNat ≤ 70368744177664 then ((some (List.replicate (wrap64 ((wrap64 (Int.tdiv a0 32)) + 1) : Int).toNat 0 : List Int)).bind fun y202 => (if 0 ≤ (Int.tmod a0 32) then (if 0 ≤ (wrap64 (Int.tdiv a0 32)) then (if (wrap64 (Int.tdiv a0 32)) < (y202.length : Int) then (some ((y202.set ((wrap64 (Int.tdiv a0 32)) : Int).toNat (shl .u32 1 (Int.tmod a0 32))), 0)) else (none)) else (none)) else (none))) else (none)) else (none)))
set_option maxHeartbeats 8000000 in
set_option maxRecDepth 100000 in
theorem nat_Two.calls (a0 : Int) (r1 : List Int) (r2 : Int) (w : World) (h : nat_Two.f a0 = some (r1, r2)) :
  Calls Tryd.prog 28 #[.int .i64 a0] w fun e w' => ∃ v0_ : Value, e = .returned (.tuple #[v0_, .int .i64 r2]) ∧ Kd.V (Kd.int .u32) 45 w' w.heap.size (fun k_ => (w.heap.size ≤ k_)) v0_ r1 ∧ Below w.heap.size w w' := by
 have HB := Aside0.mk (Below.refl w.heap.size w)
 have H : (if a0 < 0 then (some (([] : List Int), 1)) else (if a0 ≥ 8192 then (some (([] : List Int), 1)) else (if 0 ≤ (wrap64 ((wrap64 (Int.tdiv a0 32)) + 1)) then (if (wrap64 ((wrap64 (Int.tdiv a0 32)) + 1) : Int).toNat ≤ 70368744177664 then ((some (List.replicate (wrap64 ((wrap64 (Int.tdiv a0 32)) + 1) : Int).toNat 0 : List Int)).bind fun y202 => (if 0 ≤ (Int.tmod a0 32) then (if 0 ≤ (wrap64 (Int.tdiv a0 32)) then (if (wrap64 (Int.tdiv a0 32)) < (y202.length : Int) then (some ((y202.set ((wrap64 (Int.tdiv a0 32)) : Int).toNat (shl .u32 1 (Int.tmod a0 32))), 0)) else (none)) else (none)) else (none))) else (none)) else (none)))) = some (r1, r2) := h
 clear h
 by_cases c2 : a0 < 0
 ·rw [if_pos c2] at H
  have c2b0 : decide (a0 < 0) = true := decide_eq_true c2
  clear c2
  simp only [Option.some.injEq, Prod.mk.injEq] at H
  obtain ⟨rfl, rfl⟩ := H
  go_enter Tryd.func28, Tryd.ntmps28
  go_wp2
  go_ret2
  exact ⟨_, by first | rfl | (simp [errW_none, errW_some] <;> rfl) | (simp [*, errW_none, errW_some] <;> rfl), Kd.V_nil _ _ _ _ _, by repeat (first | (with_reducible first | exact HB.out | apply below_alloc | apply pw_below_drewN | apply below_drew1) | exact HB.out)⟩
 ·rw [if_neg c2] at H
  have c2b0 : decide (a0 < 0) = false := decide_eq_false c2
  clear c2
  by_cases c3 : a0 ≥ 8192
  ·rw [if_pos c3] at H
   have c3b0 : decide (8192 ≤ a0) = true := decide_eq_true c3
   clear c3
   simp only [Option.some.injEq, Prod.mk.injEq] at H
   obtain ⟨rfl, rfl⟩ := H
   go_enter Tryd.func28, Tryd.ntmps28
   go_wp2
   go_ret2
   exact ⟨_, by first | rfl | (simp [errW_none, errW_some] <;> rfl) | (simp [*, errW_none, errW_some] <;> rfl), Kd.V_nil _ _ _ _ _, by repeat (first | (with_reducible first | exact HB.out | apply below_alloc | apply pw_below_drewN | apply below_drew1) | exact HB.out)⟩
  ·rw [if_neg c3] at H
   have c3b0 : decide (8192 ≤ a0) = false := decide_eq_false c3
   clear c3
   obtain ⟨ji4, hji4⟩ : ∃ j_ : Int, (wrap64 ((wrap64 (Int.tdiv a0 32)) + 1)) = j_ := ⟨_, rfl⟩
   replace H : (if 0 ≤ (ji4) then (if (ji4 : Int).toNat ≤ 70368744177664 then ((some (List.replicate (ji4 : Int).toNat 0 : List Int)).bind fun y202 => (if 0 ≤ (Int.tmod a0 32) then (if 0 ≤ (wrap64 (Int.tdiv a0 32)) then (if (wrap64 (Int.tdiv a0 32)) < (y202.length : Int) then (some ((y202.set ((wrap64 (Int.tdiv a0 32)) : Int).toNat (shl .u32 1 (Int.tmod a0 32))), 0)) else (none)) else (none)) else (none))) else (none)) else (none)) = some (r1, r2) := by first | (rw [hji4] at H; exact H) | (simp only [hji4] at H ⊢; exact H)
   have hji4w : (IntKind.i64.wrap ((wrap64 (Int.tdiv a0 32)) + 1)) = ji4 := (i64_w _).trans hji4
   by_cases c5 : 0 ≤ (ji4)
   ·rw [if_pos c5] at H
    have c5b0 := eq_true c5
    have c5b1 : decide (0 ≤ (ji4)) = true := decide_eq_true c5
    clear c5
    by_cases c6 : (ji4 : Int).toNat ≤ 70368744177664
    ·rw [if_pos c6] at H
     have c6b0 := eq_true c6
     have c6b1 : decide ((ji4 : Int).toNat ≤ 70368744177664) = true := decide_eq_true c6
     clear c6
     obtain ⟨y202, hy202⟩ : ∃ y_ : List Int, y_ = (List.replicate (ji4 : Int).toNat 0) := ⟨_, rfl⟩
     replace H : (if 0 ≤ (Int.tmod a0 32) then (if 0 ≤ (wrap64 (Int.tdiv a0 32)) then (if (wrap64 (Int.tdiv a0 32)) < (y202.length : Int) then (some ((y202.set ((wrap64 (Int.tdiv a0 32)) : Int).toNat (shl .u32 1 (Int.tmod a0 32))), 0)) else (none)) else (none)) else (none)) = some (r1, r2) := by first | (rw [hy202]; with_reducible exact H) | (have H2_ := (Option.bind_some _ _).symm.trans H; rw [hy202]; with_reducible exact H2_) | (have H2_ := (Option.bind_some _ _).symm.trans H; with_reducible exact H2_) | with_reducible exact H | (rw [hy202]; exact H) | exact H
     have Ny202 := Aside0.mk hy202
     clear hy202
     obtain ⟨ji7, hji7⟩ : ∃ j_ : Int, (Int.tmod a0 32) = j_ := ⟨_, rfl⟩
     replace H : (if 0 ≤ (ji7) then (if 0 ≤ (wrap64 (Int.tdiv a0 32)) then (if (wrap64 (Int.tdiv a0 32)) < (y202.length : Int) then (some ((y202.set ((wrap64 (Int.tdiv a0 32)) : Int).toNat (shl .u32 1 (ji7))), 0)) else (none)) else (none)) else (none)) = some (r1, r2) := by first | (rw [hji7] at H; exact H) | (simp only [hji7] at H ⊢; exact H)
     by_cases c8 : 0 ≤ (ji7)
     ·rw [if_pos c8] at H
      have c8b0 := eq_true c8
      have c8b1 : decide (0 ≤ (ji7)) = true := decide_eq_true c8
      clear c8
      obtain ⟨ji9, hji9⟩ : ∃ j_ : Int, (shl .u32 1 (ji7)) = j_ := ⟨_, rfl⟩
      replace H : (if 0 ≤ (wrap64 (Int.tdiv a0 32)) then (if (wrap64 (Int.tdiv a0 32)) < (y202.length : Int) then (some ((y202.set ((wrap64 (Int.tdiv a0 32)) : Int).toNat (ji9)), 0)) else (none)) else (none)) = some (r1, r2) := by first | (rw [hji9] at H; exact H) | (simp only [hji9] at H ⊢; exact H)
      have hji9_ : (IntKind.u32.wrap (1 * 2 ^ min (ji7).toNat 32)) = ji9 := hji9
      have hji9z : (ji7) ≤ 32 → (IntKind.u32.wrap (1 * 2 ^ (ji7).toNat)) = ji9 := shl_small hji9
      have hji9u : (IntKind.u32.wrap (2 ^ min (ji7).toNat 32)) = ji9 := by have h_ := hji9_; rw [Int.one_mul] at h_; exact h_
      have hji9v : (ji7) ≤ 32 → (IntKind.u32.wrap (2 ^ (ji7).toNat)) = ji9 := fun hle_ => by have h_ := hji9z hle_; rw [Int.one_mul] at h_; exact h_
      obtain ⟨ji10, hji10⟩ : ∃ j_ : Int, (wrap64 (Int.tdiv a0 32)) = j_ := ⟨_, rfl⟩
      (try simp only [hji10] at hji4); (try simp only [hji10] at hji4w)
      replace H : (if 0 ≤ (ji10) then (if (ji10) < (y202.length : Int) then (some ((y202.set ((ji10) : Int).toNat (ji9)), 0)) else (none)) else (none)) = some (r1, r2) := by first | (rw [hji10] at H; exact H) | (simp only [hji10] at H ⊢; exact H)
      have hji10w : (IntKind.i64.wrap (Int.tdiv a0 32)) = ji10 := (i64_w _).trans hji10
      by_cases c11 : 0 ≤ (ji10)
      ·rw [if_pos c11] at H
       have c11b0 : decide (0 ≤ (ji10)) = true := decide_eq_true c11
       clear c11
       by_cases c12 : (ji10) < (y202.length : Int)
       ·rw [if_pos c12] at H
        have c12b0 : decide ((ji10) < (y202.length : Int)) = true := decide_eq_true c12
        clear c12
        obtain ⟨y205, hy205⟩ : ∃ y_ : List Int, y_ = (y202.set ((ji10) : Int).toNat (ji9)) := ⟨_, rfl⟩
        replace H : (some (y205, 0)) = some (r1, r2) := by first | (rw [hy205]; with_reducible exact H) | (have H2_ := (Option.bind_some _ _).symm.trans H; rw [hy205]; with_reducible exact H2_) | (have H2_ := (Option.bind_some _ _).symm.trans H; with_reducible exact H2_) | with_reducible exact H | (rw [hy205]; exact H) | exact H
        have Ny205 := Aside0.mk hy205
        clear hy205
        simp only [Option.some.injEq, Prod.mk.injEq] at H
        obtain ⟨rfl, rfl⟩ := H
        go_enter Tryd.func28, Tryd.ntmps28
        go_wp2_with (first | ((with_reducible refine gate_dst (N := 14) rfl ?_); refine Kd.R_make (Kd.int .u32) _ 45 rfl (N := 14) rfl 26 _ _ rfl ji4 rfl rfl Tryd.underlying26 (.int .u32 0) 4 info45 rfl (by decide) (by omega) 0 (ok := fun _ => True) (okp := fun _ => True) rfl (fun _ hk => hk) trivial (of_decide_eq_true (by first | (with_reducible assumption) | assumption)) (Nat.le_trans (Nat.mul_le_mul_right _ (of_decide_eq_true (by first | (with_reducible assumption) | assumption) : ji4.toNat ≤ 70368744177664)) (by omega)) (Below.refl _ _) (Nat.le_refl _) ?_; intro v203 w14 ho15 hb hg_ hnew_; clear hg_ hnew_; (first | rw [← Ny202.out] at ho15 | (simp only [Int.reduceToNat] at ho15; rw [← Ny202.out] at ho15)); have n0_ := Aside0.mk (Kd.R_lower (Kd.R_newM (M := fun k_ => (w.heap.size ≤ k_)) ho15 (below_size (by repeat (first | (with_reducible first | exact HB.out | apply below_alloc | apply pw_below_drewN | apply below_drew1) | exact HB.out))) (fun k_ h_ => h_)) (below_size (by repeat (first | (with_reducible first | exact HB.out | apply below_alloc | apply pw_below_drewN | apply below_drew1) | exact HB.out)))); have n1_ := Aside0.mk (below_step (by repeat (first | (with_reducible first | exact HB.out | apply below_alloc | apply pw_below_drewN | apply below_drew1) | exact HB.out)) hb); clear HB; have HO204 := n0_; have HB := n1_; clear n0_ n1_; clear hb ho15; have p13 : 0 ≤ ((ji10) : Int) := of_decide_eq_true (by first | (with_reducible assumption) | assumption); have q13 : ((ji10) : Int) < ((y202.length : Int) : Int) := of_decide_eq_true (by first | (with_reducible assumption) | assumption); obtain ⟨go13, co13, eo13, gb13, gl13, cl13, HG13⟩ := Kd.R_form HO204.out (by omega); (first | cases eo13 | (injection eo13 with ea_ en_ ec_; (first | subst ea_ | (injection ea_ with ea_; subst ea_)); subst ec_; clear en_)); have GB13 := Aside0.mk gb13; have GG13 := Aside0.mk HG13; clear gb13 gl13 HG13; obtain ⟨hx13_0, hf13_0⟩ := Kd.R_celln 0 HO204.out ((ji10) : Int) p13 q13; replace p13 := eq_true p13; replace q13 := eq_true q13; have n_ := Aside0.mk (Kd.R_mono (ok' := (fun k_ => (w.heap.size ≤ k_))) HO204.out (fun k_ hk => hk.1)); clear HO204; have HO204 := n_; clear n_; obtain ⟨hy16_, hz16_⟩ := Kd.R_celln 0 HO204.out ((ji10) : Int) (of_decide_eq_true (by first | (with_reducible assumption) | assumption)) (of_decide_eq_true (by first | (with_reducible assumption) | assumption)); have HP16 := Kd.R_putg HO204.out ((ji10) : Int) ji9) | ((with_reducible refine gate_store (t := 45) (p := 21) rfl ?_); refine store_event (t := 45) (p := 21) (v := ?vo_w17) (w1 := (w14.setCell ⟨go13, ((ji10) : Int).toNat, none⟩ (.int .u32 ji9))) ?hg ?ho ?hn ?hr ?_; (case ho => rfl); (case hg => rfl); (case hn => rfl); (case hr => first | (go_simp; done) | (go_simp; rfl)); intro w17 hw; have hg : w14.grownBy w17 (some go13) := (by rw [hw]; exact HP16.2); have hp_ : Kd.R (Kd.int .u32) 45 w17 w.heap.size (fun k_ => (w.heap.size ≤ k_)) (.slice (some ⟨go13, 0, none⟩) y202.length co13) y205 := (by rw [hw, Ny205.out]; exact HP16.1); clear HP16; have n0_ := Aside0.mk (hp_); have n1_ := Aside0.mk ((by rw [hw]; exact below_set (HB.out) GB13.out : Below w.heap.size w w17)); clear HO204; clear HB; have HO204 := n0_; have HB := n1_; clear n0_ n1_; clear hg hw hp_))
        go_ret2
        exact ⟨_, by first | rfl | (simp [errW_none, errW_some] <;> rfl) | (simp only [← hji4, ← hji7, ← hji9, ← hji10]; first | rfl | (simp [errW_none, errW_some] <;> rfl)) | (simp [*, errW_none, errW_some] <;> rfl), Kd.R_V (by (with_reducible repeat (first | apply Kd.R_alloc | apply Kd.R_drewN | apply Kd.R_drew)); exact HO204.out), by repeat (first | (with_reducible first | exact HB.out | apply below_alloc | apply pw_below_drewN | apply below_drew1) | exact HB.out)⟩
       ·rw [if_neg c12] at H
        exact absurd H (by simp)
      ·rw [if_neg c11] at H
       exact absurd H (by simp)
     ·rw [if_neg c8] at H
      exact absurd H (by simp)
    ·rw [if_neg c6] at H
     exact absurd H (by simp)
   ·rw [if_neg c5] at H
    exact absurd H (by simp)

-- NOT PRINTED: function 60 (strconv_small)

-- NOT PRINTED: function 67 (strconv_log10Pow2)

-- NOT PRINTED: function 68 (bits_Len64)

-- NOT PRINTED: function 69 (strconv_bool2_int)

-- NOT PRINTED: function 61 (strconv_numDigits)

-- NOT PRINTED: function 62 (strconv_formatBase10)

-- NOT PRINTED: function 70 (strconv_isPowerOfTwo)

-- NOT PRINTED: function 74 (bits_TrailingZeros32)

-- NOT PRINTED: function 75 (bits_TrailingZeros64)

-- NOT PRINTED: function 71 (bits_TrailingZeros)

-- NOT PRINTED: function 63 (strconv_formatBits)

-- NOT PRINTED: function 51 (strconv_FormatUint_51)

/-! ### strconv_FormatUint_44: function 44 -/
def strconv_FormatUint_44.f (a0 a1 : Int) : Option ByteArray := if a1 = 10 ∧ 0 ≤ a0 ∧ a0 < 18446744073709551616 then some (⟨(Lib.decDigits a0.toNat).toArray⟩ : ByteArray) else none
theorem strconv_FormatUint_44.calls (a0 a1 : Int) (r : ByteArray) (w : World) (h : strconv_FormatUint_44.f a0 a1 = some r) (hT : Lib.TabIs Tryd.prog w "internal/strconv.uint64pow10" .u64 Lib.pow10Tab) :
    Calls Tryd.prog 44 #[.int .u64 a0, .int .i64 a1] w fun e w' => e = .returned (.string r) ∧ Below w.heap.size w w' := by
  unfold strconv_FormatUint_44.f at h
  split at h
  · rename_i c
    obtain ⟨rfl, h0, h1⟩ := c
    obtain ⟨u, rfl⟩ : ∃ u : Nat, a0 = (u : Int) := ⟨a0.toNat, by omega⟩
    rw [Int.toNat_natCast] at h
    obtain rfl := Option.some.inj h
    exact Fmt.formatUint u (by omega) w hT
  · cases h

-- NOT PRINTED: function 64 (stringslite_HasPrefix)

-- NOT PRINTED: function 52 (strings_HasPrefix)

-- NOT PRINTED: function 72 (abi_NoEscape)

-- NOT PRINTED: function 65 (strings_Builder_copyCheck)

-- NOT PRINTED: function 73 (bytealg_MakeNoZero)

-- NOT PRINTED: function 66 (strings_Builder_grow)

-- NOT PRINTED: function 53 (strings_Builder_Grow)

-- NOT PRINTED: function 54 (strings_Builder_WriteString)

-- NOT PRINTED: function 55 (strings_Builder_Len)

-- NOT PRINTED: function 56 (strings_Builder_String)

/-! ### strings_Repeat: function 45 -/
def strings_Repeat.f (a0 : ByteArray) (a1 : Int) : Option ByteArray := if 0 ≤ a1 ∧ a1 ≤ 1000000 ∧ a0.size ≤ 1000000 then some (⟨(Lib.repeatL a0.data.toList a1.toNat).toArray⟩ : ByteArray) else none
theorem strings_Repeat.calls (a0 : ByteArray) (a1 : Int) (r : ByteArray) (w : World) (h : strings_Repeat.f a0 a1 = some r) :
    Calls Tryd.prog 45 #[.string a0, .int .i64 a1] w fun e w' => e = .returned (.string r) ∧ Below w.heap.size w w' := by
  unfold strings_Repeat.f at h
  split at h
  · rename_i c
    obtain ⟨h0, h1, h2⟩ := c
    obtain ⟨u, rfl⟩ : ∃ u : Nat, a1 = (u : Int) := ⟨a1.toNat, by omega⟩
    rw [Int.toNat_natCast] at h
    obtain rfl := Option.some.inj h
    have hm : a0.size * u ≤ 1000000 * 1000000 := Nat.mul_le_mul h2 (by omega)
    exact Go.Proofs.Tryd.strings_Repeat a0 u w (by omega) (by omega)
  · cases h

/-! ### slices_Reverse_string_string: function 46 -/
def slices_Reverse_string_string.l0 : Nat → List ByteArray → Int → Int → Option (List ByteArray)
 | 0, _, _, _ => none
 | k + 1, x0, x2, x3 => if x2 < x3 then (if 0 ≤ x3 then (if x3 < (x0.length : Int) then (if 0 ≤ x2 then (if x2 < (x0.length : Int) then (slices_Reverse_string_string.l0 k ((x0.set (x2 : Int).toNat (rdOf ByteArray.empty x0 x3)).set (x3 : Int).toNat (rdOf ByteArray.empty x0 x2)) (wrap64 (x2 + 1)) (wrap64 (x3 - 1))) else (none)) else (none)) else (none)) else (none)) else (some x0)
def slices_Reverse_string_string.f (k : Nat) (l0 : List ByteArray) : Option (List ByteArray) := slices_Reverse_string_string.l0 k l0 0 (wrap64 ((l0.length : Int) - 1))
theorem slices_Reverse_string_string.mono_l : ∀ k, (∀ y0 y1 y2, LeO (slices_Reverse_string_string.l0 k y0 y1 y2) (slices_Reverse_string_string.l0 (k + 1) y0 y1 y2))
 | 0 => fun _ _ _ r h => by simp [slices_Reverse_string_string.l0] at h
 | k + 1 => by
  have ih0 := slices_Reverse_string_string.mono_l k
  ·intro y0 y1 y2
   unfold slices_Reverse_string_string.l0
   repeat' first
   | (with_reducible exact ih0 _ _ _)
   | (with_reducible exact LeO.refl _)
   | (with_reducible exact LeO.none _)
   | (with_reducible refine LeO.ite ?_ ?_)
   | (with_reducible refine LeO.bind ?_ (fun _ => ?_))
   | exact ih0 _ _ _
   | exact LeO.none _
   | refine LeO.ite ?_ ?_
   | refine LeO.bind ?_ (fun _ => ?_)
theorem slices_Reverse_string_string.mono : ∀ a0 k, LeO (slices_Reverse_string_string.f k a0) (slices_Reverse_string_string.f (k + 1) a0) := by
 intro a0 k
 have ih0 := slices_Reverse_string_string.mono_l k
 unfold slices_Reverse_string_string.f
 repeat' first
   | (with_reducible exact ih0 _ _ _)
   | (with_reducible exact LeO.refl _)
   | (with_reducible exact LeO.none _)
   | (with_reducible refine LeO.ite ?_ ?_)
   | (with_reducible refine LeO.bind ?_ (fun _ => ?_))
   | exact ih0 _ _ _
   | exact LeO.none _
   | refine LeO.ite ?_ ?_
   | refine LeO.bind ?_ (fun _ => ?_)
def slices_Reverse_string_string.T3 : Bool × List (List Nat × List Nat) := (true, [([], []), ([], []), ([], []), ([], []), ([], []), ([], []), ([4, 5], [4, 5]), ([6], [6]), ([], []), ([], []), ([8, 9], [8, 9]), ([10], [10]), ([0, 1, 0, 1, 4, 5, 6, 7, 11], [0, 1]), ([12, 7, 0, 1, 4, 5, 6, 7, 11], [7, 12]), ([2, 3, 0, 1, 2, 3, 4, 5, 6, 7, 8, 9, 10, 11, 12, 13], [2, 3]), ([14, 11, 13, 0, 1, 2, 3, 4, 5, 6, 7, 8, 9, 10, 11, 12, 13], [11, 14])])
def slices_Reverse_string_string.B3 : List Nat := [0, 0, 0, 0, 0, 0, 48, 112, 0, 0, 768, 1792, 4083, 8179, 16383, 32767]
theorem slices_Reverse_string_string.tab3 : rtab .any (opsOf Tryd.f46 3) = slices_Reverse_string_string.T3 := by kernel_rfl
theorem slices_Reverse_string_string.bits3 : waitsOk slices_Reverse_string_string.T3.2 slices_Reverse_string_string.B3 = true := by kernel_rfl
set_option maxHeartbeats 8000000 in
set_option maxRecDepth 100000 in
theorem slices_Reverse_string_string.calls (k : Nat) (P0_ : Nat → Prop) (u9000_ : Value) (l0 : List ByteArray) (r : List ByteArray) (w0 w : World) (hB : Below w0.heap.size w0 w) (ho0 : Kd.R Kd.string 9 w w0.heap.size P0_ u9000_ l0) (h : slices_Reverse_string_string.f k l0 = some r) :
  Calls Tryd.prog 46 #[u9000_] w fun e w' => e = .returned (.tuple #[]) ∧ Kd.R Kd.string 9 w' w0.heap.size (fun k_ => (P0_ k_ ∨ w.heap.size ≤ k_)) u9000_ r ∧ Below w0.heap.size w0 w' ∧ Kept w w' (fun k_ => P0_ k_) := by
 have HO0 := Aside0.mk (show Kd.R Kd.string 9 w w0.heap.size (fun k_ => (P0_ k_ ∨ w.heap.size ≤ k_)) u9000_ l0 from Kd.R_mono ho0 (fun k_ hk => (.inl hk)))
 have HK := Aside0.mk (Kept.refl w (fun k_ => P0_ k_))
 have HW0 := Aside0.mk hB.size
 have HB := Aside0.mk hB
 clear hB
 have H : (slices_Reverse_string_string.l0 k l0 0 (wrap64 ((l0.length : Int) - 1))) = some r := h
 clear h
 have H' := Aside0.mk H
 clear H
 obtain ⟨Ao2, co2, eo2⟩ := Kd.R_slice HO0.out
 subst eo2
 go_enter Tryd.func46, Tryd.ntmps46
 go_wp2
 go_loopg [2, 3] k (fun kq v2 v3 w' => ∃ (x0_1 : List ByteArray) (x2_1 : Int) (x3_1 : Int), v2 = .int .i64 x2_1 ∧ v3 = .int .i64 x3_1 ∧ Aside0 (slices_Reverse_string_string.l0 kq x0_1 x2_1 x3_1 = some r) ∧ Aside0 (kq ≤ k) ∧ Aside0 (Kd.R Kd.string 9 w' w0.heap.size (fun k_ => (P0_ k_ ∨ w.heap.size ≤ k_)) (.slice Ao2 l0.length co2) x0_1) ∧ Aside0 (Kept w w' (fun k_ => P0_ k_)) ∧ Aside0 (Below w0.heap.size w0 w'))
 case atStart => exact ⟨(l0), (0), (wrap64 ((l0.length : Int) - 1)), (by first | rfl | (simp; done) | (simp [*]; done)), (by first | rfl | (simp; done) | (simp [*]; done)), H', ⟨Nat.le_refl _⟩, ⟨by (with_reducible repeat (first | apply Kd.R_alloc | apply Kd.R_drewN | apply Kd.R_drew)); exact HO0.out⟩, ⟨by repeat (first | (with_reducible first | exact HK.out | apply Kept.alloc | apply Kept.drewN | apply Kept.drew) | exact HK.out)⟩, ⟨by repeat (first | (with_reducible first | exact HB.out | apply below_alloc | apply pw_below_drewN | apply below_drew1) | exact HB.out)⟩⟩
 case round =>
  clear H'
  try clear p2
  obtain ⟨x0_1, x2_1, x3_1, rfl, rfl, HA, HK1, HO_0, HK, HB⟩ := hrel
  have hl0_1 := (Kd.R_reads' HO_0.out).1
  rw [hl0_1] at HO_0
  (try simp only [hl0_1])
  cases gk with
  | zero => exact absurd HA.out (by simp [slices_Reverse_string_string.l0])
  | succ k1 =>
   have H := HA.out
   clear HA
   simp only [slices_Reverse_string_string.l0] at H
   by_cases c3 : x2_1 < x3_1
   ·rw [if_pos c3] at H
    have c3b0 : decide (x2_1 < x3_1) = true := decide_eq_true c3
    clear c3
    by_cases c4 : 0 ≤ x3_1
    ·rw [if_pos c4] at H
     have c4b0 : decide (0 ≤ x3_1) = true := decide_eq_true c4
     clear c4
     by_cases c5 : x3_1 < (x0_1.length : Int)
     ·rw [if_pos c5] at H
      have c5b0 : decide (x3_1 < (x0_1.length : Int)) = true := decide_eq_true c5
      clear c5
      by_cases c6 : 0 ≤ x2_1
      ·rw [if_pos c6] at H
       have c6b0 : decide (0 ≤ x2_1) = true := decide_eq_true c6
       clear c6
       by_cases c7 : x2_1 < (x0_1.length : Int)
       ·rw [if_pos c7] at H
        have c7b0 : decide (x2_1 < (x0_1.length : Int)) = true := decide_eq_true c7
        clear c7
        obtain ⟨y208, hy208⟩ : ∃ y_ : List ByteArray, y_ = (x0_1.set (x2_1 : Int).toNat (rdOf ByteArray.empty x0_1 x3_1)) := ⟨_, rfl⟩
        replace H : (slices_Reverse_string_string.l0 k1 (y208.set (x3_1 : Int).toNat (rdOf ByteArray.empty x0_1 x2_1)) (wrap64 (x2_1 + 1)) (wrap64 (x3_1 - 1))) = some r := by first | (rw [hy208]; with_reducible exact H) | (have H2_ := (Option.bind_some _ _).symm.trans H; rw [hy208]; with_reducible exact H2_) | (have H2_ := (Option.bind_some _ _).symm.trans H; with_reducible exact H2_) | with_reducible exact H | (rw [hy208]; exact H) | exact H
        have Ny208 := Aside0.mk hy208
        clear hy208
        obtain ⟨y209, hy209⟩ : ∃ y_ : List ByteArray, y_ = (y208.set (x3_1 : Int).toNat (rdOf ByteArray.empty x0_1 x2_1)) := ⟨_, rfl⟩
        replace H : (slices_Reverse_string_string.l0 k1 y209 (wrap64 (x2_1 + 1)) (wrap64 (x3_1 - 1))) = some r := by first | (rw [hy209]; with_reducible exact H) | (have H2_ := (Option.bind_some _ _).symm.trans H; rw [hy209]; with_reducible exact H2_) | (have H2_ := (Option.bind_some _ _).symm.trans H; with_reducible exact H2_) | with_reducible exact H | (rw [hy209]; exact H) | exact H
        have Ny209 := Aside0.mk hy209
        clear hy209
        have H' := Aside0.mk H
        clear H
        try go_wp2
        have n0_ := Aside0.mk (Kd.R_drew HO_0.out)
        have n1_ := Aside0.mk (Kept.drew HK.out)
        have n2_ := Aside0.mk (below_drew1 HB.out)
        clear HO_0
        clear HK
        clear HB
        have HO_0 := n0_
        have HK := n1_
        have HB := n2_
        clear n0_ n1_ n2_
        have p206 : 0 ≤ (x3_1 : Int) := of_decide_eq_true (by first | (with_reducible assumption) | assumption)
        have q206 : x3_1 < (x0_1.length : Int) := of_decide_eq_true (by first | (with_reducible assumption) | assumption)
        obtain ⟨ad206, e206, hx206_0⟩ := Kd.at_string (Kd.R_reads' HO_0.out).2.2 x3_1 p206 q206
        cases e206
        replace p206 := eq_true p206
        replace q206 := eq_true q206
        have p207 : 0 ≤ (x2_1 : Int) := of_decide_eq_true (by first | (with_reducible assumption) | assumption)
        have q207 : x2_1 < (x0_1.length : Int) := of_decide_eq_true (by first | (with_reducible assumption) | assumption)
        obtain ⟨ad207, e207, hx207_0⟩ := Kd.at_string (Kd.R_reads' HO_0.out).2.2 x2_1 p207 q207
        obtain rfl : ad206 = ad207 := (by injection e207)
        replace p207 := eq_true p207
        replace q207 := eq_true q207
        have p8 : 0 ≤ (x2_1 : Int) := of_decide_eq_true (by first | (with_reducible assumption) | assumption)
        have q8 : (x2_1 : Int) < ((x0_1.length : Int) : Int) := of_decide_eq_true (by first | (with_reducible assumption) | assumption)
        obtain ⟨go8, co8, eo8, gb8, gl8, cl8, HG8⟩ := Kd.R_form HO_0.out (by omega)
        (first | cases eo8 | (injection eo8 with ea_ en_ ec_; (first | subst ea_ | (injection ea_ with ea_; subst ea_)); subst ec_; clear en_))
        have GB8 := Aside0.mk gb8
        have GG8 := Aside0.mk HG8
        clear gb8 gl8 HG8
        have HMgo8 := Aside0.mk (show (P0_ go8 ∨ w.heap.size ≤ go8) from (HO_0.out.1 _ rfl))
        (first | simp only [add_plain] at hx206_0 | skip)
        (first | simp only [add_plain] at hx207_0 | skip)
        obtain ⟨hx8_0, hf8_0⟩ := Kd.R_celln (⟨#[]⟩ : ByteArray) HO_0.out (x2_1 : Int) p8 q8
        replace p8 := eq_true p8
        replace q8 := eq_true q8
        have HP11 := Kd.R_putn HO_0.out (x2_1 : Int) (rdOf ByteArray.empty x0_1 x3_1)
        rw [← Ny208.out] at HP11
        have HQ11 := Aside0.mk HP11
        clear HP11
        have p9 : 0 ≤ (x3_1 : Int) := of_decide_eq_true (by first | (with_reducible assumption) | assumption)
        have q9 : (x3_1 : Int) < ((x0_1.length : Int) : Int) := of_decide_eq_true (by first | (with_reducible assumption) | assumption)
        obtain ⟨hx9_0, hf9_0⟩ := Kd.R_celln (⟨#[]⟩ : ByteArray) HQ11.out (x3_1 : Int) p9 q9
        replace p9 := eq_true p9
        replace q9 := eq_true q9
        have HP12 := Kd.R_putn HQ11.out (x3_1 : Int) (rdOf ByteArray.empty x0_1 x2_1)
        rw [← Ny209.out] at HP12
        have HQ12 := Aside0.mk HP12
        clear HP12
        refine start_ (n := 16) (S := fun w' => w'.cell? ⟨go8, (x3_1).toNat, none⟩ = some (.string (rdOf ByteArray.empty x0_1 x3_1)) ∧ w'.cell? ⟨go8, (x2_1).toNat, none⟩ = some (.string (rdOf ByteArray.empty x0_1 x2_1))) (ds := [13, 15]) #[false, false, false, false, false, false, false, false, false, false, false, false, false, false, false, false] (by kernel_rfl) rfl rfl ⟨hx206_0, hx207_0⟩ (fun hHeld => ?_); refine with_tabW slices_Reverse_string_string.tab3 slices_Reverse_string_string.bits3 (fun HT_ HW_ => ?_)
        generalize wr.drew = w10 at HO_0 HK HB GG8 HQ11 HQ12 hf8_0 hf9_0 hx206_0 hx207_0 hx8_0 hx9_0 hHeld ⊢
        refine pure_ (i := 0) (N := some 14) (v := ?_) (a' := ?_) #[true, false, false, false, false, false, false, false, false, false, false, false, false, false, false, false] rfl rfl (any_of HT_.out (by kernel_rfl)) (fun _ _ _ h => h) (Or.inl ⟨by rfl, ?_⟩) ?_ ?_
        rotate_left
        ·intro w'
         go_simp
         with_reducible rfl
        rotate_left
        ·simp only [Act.put, List.setIfInBounds_toArray, List.set_cons_zero, List.set_cons_succ, i64_w, i32_w]
         rfl
        refine pure_ (i := 1) (N := some 15) (v := ?_) (a' := ?_) #[true, true, false, false, false, false, false, false, false, false, false, false, false, false, false, false] rfl rfl (any_of HT_.out (by kernel_rfl)) (fun _ _ _ h => h) (Or.inl ⟨by rfl, ?_⟩) ?_ ?_
        rotate_left
        ·intro w'
         go_simp
         with_reducible rfl
        rotate_left
        ·simp only [Act.put, List.setIfInBounds_toArray, List.set_cons_zero, List.set_cons_succ, i64_w, i32_w]
         rfl
        refine pure_ (i := 2) (N := some 16) (v := ?_) (a' := ?_) #[true, true, true, false, false, false, false, false, false, false, false, false, false, false, false, false] rfl rfl (any_of HT_.out (by kernel_rfl)) (fun _ _ _ h => h) (Or.inl ⟨by rfl, ?_⟩) ?_ ?_
        rotate_left
        ·intro w'
         go_simp
         with_reducible rfl
        rotate_left
        ·simp only [Act.put, List.setIfInBounds_toArray, List.set_cons_zero, List.set_cons_succ, i64_w, i32_w]
         rfl
        refine pure_ (i := 3) (N := some 17) (v := ?_) (a' := ?_) #[true, true, true, true, false, false, false, false, false, false, false, false, false, false, false, false] rfl rfl (any_of HT_.out (by kernel_rfl)) (fun _ _ _ h => h) (Or.inl ⟨by rfl, ?_⟩) ?_ ?_
        rotate_left
        ·intro w'
         go_simp
         with_reducible rfl
        rotate_left
        ·simp only [Act.put, List.setIfInBounds_toArray, List.set_cons_zero, List.set_cons_succ, i64_w, i32_w]
         rfl
        refine pure_ (i := 4) (N := some 18) (v := ?_) (a' := ?_) #[true, true, true, true, true, false, false, false, false, false, false, false, false, false, false, false] rfl rfl (any_of HT_.out (by kernel_rfl)) (fun _ _ _ h => h) (Or.inl ⟨by rfl, ?_⟩) ?_ ?_
        rotate_left
        ·intro w'
         go_simp
         with_reducible rfl
        rotate_left
        ·simp only [Act.put, List.setIfInBounds_toArray, List.set_cons_zero, List.set_cons_succ, i64_w, i32_w]
         rfl
        refine pure_ (i := 5) (N := some 19) (v := ?_) (a' := ?_) #[true, true, true, true, true, true, false, false, false, false, false, false, false, false, false, false] rfl rfl (any_of HT_.out (by kernel_rfl)) (fun _ _ _ h => h) (Or.inl ⟨by rfl, ?_⟩) ?_ ?_
        rotate_left
        ·intro w'
         go_simp
         with_reducible rfl
        rotate_left
        ·simp only [Act.put, List.setIfInBounds_toArray, List.set_cons_zero, List.set_cons_succ, i64_w, i32_w]
         rfl
        refine pure_ (i := 6) (N := some 20) (v := ?_) (a' := ?_) #[true, true, true, true, true, true, true, false, false, false, false, false, false, false, false, false] rfl rfl (any_of HT_.out (by kernel_rfl)) (fun _ _ _ h => h) (Or.inl ⟨by rfl, ?_⟩) ?_ ?_
        rotate_left
        ·intro w'
         go_simp
         with_reducible rfl
        rotate_left
        ·simp only [Act.put, List.setIfInBounds_toArray, List.set_cons_zero, List.set_cons_succ, i64_w, i32_w]
         rfl
        refine pure_ (i := 8) (N := some 22) (v := ?_) (a' := ?_) #[true, true, true, true, true, true, true, false, true, false, false, false, false, false, false, false] rfl rfl (any_of HT_.out (by kernel_rfl)) (fun _ _ _ h => h) (Or.inl ⟨by rfl, ?_⟩) ?_ ?_
        rotate_left
        ·intro w'
         go_simp
         with_reducible rfl
        rotate_left
        ·simp only [Act.put, List.setIfInBounds_toArray, List.set_cons_zero, List.set_cons_succ, i64_w, i32_w]
         rfl
        refine pure_ (i := 9) (N := some 23) (v := ?_) (a' := ?_) #[true, true, true, true, true, true, true, false, true, true, false, false, false, false, false, false] rfl rfl (any_of HT_.out (by kernel_rfl)) (fun _ _ _ h => h) (Or.inl ⟨by rfl, ?_⟩) ?_ ?_
        rotate_left
        ·intro w'
         go_simp
         with_reducible rfl
        rotate_left
        ·simp only [Act.put, List.setIfInBounds_toArray, List.set_cons_zero, List.set_cons_succ, i64_w, i32_w]
         rfl
        refine pure_ (i := 10) (N := some 24) (v := ?_) (a' := ?_) #[true, true, true, true, true, true, true, false, true, true, true, false, false, false, false, false] rfl rfl (any_of HT_.out (by kernel_rfl)) (fun _ _ _ h => h) (Or.inl ⟨by rfl, ?_⟩) ?_ ?_
        rotate_left
        ·intro w'
         go_simp
         with_reducible rfl
        rotate_left
        ·simp only [Act.put, List.setIfInBounds_toArray, List.set_cons_zero, List.set_cons_succ, i64_w, i32_w]
         rfl
        refine take_ (i := 7) (N := some 21) (v := ?_) (a' := ?_) #[true, true, true, true, true, true, true, true, true, true, true, false, false, false, false, false] rfl rfl (take_ofW HT_.out HW_.out (by kernel_rfl)) (fun _ _ _ h => h) (Or.inl ⟨by rfl, ?_⟩) hHeld ?_ ?_
        rotate_left
        ·rintro w' ⟨s0, s1⟩
         go_simp
         with_reducible rfl
        rotate_left
        ·simp only [Act.put, List.setIfInBounds_toArray, List.set_cons_zero, List.set_cons_succ, i64_w, i32_w]
         rfl
        refine take_ (i := 11) (N := some 25) (v := ?_) (a' := ?_) #[true, true, true, true, true, true, true, true, true, true, true, true, false, false, false, false] rfl rfl (take_ofW HT_.out HW_.out (by kernel_rfl)) (fun _ _ _ h => h) (Or.inl ⟨by rfl, ?_⟩) hHeld ?_ ?_
        rotate_left
        ·rintro w' ⟨s0, s1⟩
         go_simp
         with_reducible rfl
        rotate_left
        ·simp only [Act.put, List.setIfInBounds_toArray, List.set_cons_zero, List.set_cons_succ, i64_w, i32_w]
         rfl
        refine pure_ (i := 12) (N := some 26) (v := ?_) (a' := ?_) #[true, true, true, true, true, true, true, true, true, true, true, true, true, false, false, false] rfl rfl (any_of HT_.out (by kernel_rfl)) (fun _ _ _ h => h) (Or.inl ⟨by rfl, ?_⟩) ?_ ?_
        rotate_left
        ·intro w'
         go_simp
         with_reducible rfl
        rotate_left
        ·simp only [Act.put, List.setIfInBounds_toArray, List.set_cons_zero, List.set_cons_succ, i64_w, i32_w]
         rfl
        refine last_ (i := 13) (N := none) #[true, true, true, true, true, true, true, true, true, true, true, true, true, true, false, false] rfl rfl (one_of HT_.out (by kernel_rfl)) (by decide) (fun K hK => ?_)
        refine skip_ (w1 := ?_) (by rfl) rfl ?_ ?_
        rotate_left
        ·go_simp
         rfl
        refine hK.out _ _ ?_
        clear hK K
        refine pure_ (i := 14) (N := some 27) (v := ?_) (a' := ?_) #[true, true, true, true, true, true, true, true, true, true, true, true, true, true, true, false] rfl rfl (any_of HT_.out (by kernel_rfl)) (fun _ _ _ h => h) (Or.inl ⟨by rfl, ?_⟩) ?_ ?_
        rotate_left
        ·intro w'
         go_simp
         with_reducible rfl
        rotate_left
        ·simp only [Act.put, List.setIfInBounds_toArray, List.set_cons_zero, List.set_cons_succ, i64_w, i32_w]
         rfl
        refine last_ (i := 15) (N := none) #[true, true, true, true, true, true, true, true, true, true, true, true, true, true, true, true] rfl rfl (one_of HT_.out (by kernel_rfl)) (by decide) (fun K hK => ?_)
        refine skip_ (w1 := ?_) (by rfl) rfl ?_ ?_
        rotate_left
        ·go_simp
         rfl
        refine hK.out _ _ ?_
        clear hK K
        refine done_ (done_of HT_.out (by kernel_rfl)) ?_
        try go_wp2
        (try simp only [← hl0_1])
        go_roundg k1
        case measure => have := HK1.out; omega
        case rel => exact ⟨(y209), (wrap64 (x2_1 + 1)), (wrap64 (x3_1 - 1)), (by first | rfl | (simp; done) | (simp [*]; done)), (by first | rfl | (simp; done) | (simp [*]; done)), H', ⟨by have := HK1.out; omega⟩, ⟨by (try simp only [hl0_1]); (with_reducible repeat (first | apply Kd.R_alloc | apply Kd.R_drewN | apply Kd.R_drew)); exact HQ12.out⟩, ⟨by repeat (first | (with_reducible first | exact HK.out | apply Kept.alloc | apply Kept.drewN | apply Kept.drew | refine Kept.setCell ?_ HMgo8.out _ | refine Kept.setCell ?_ HMgo8.out _) | exact HK.out)⟩, ⟨by repeat (first | (with_reducible first | exact HB.out | apply below_alloc | apply pw_below_drewN | apply below_drew1 | refine below_set ?_ GB8.out | refine below_set ?_ GB8.out) | exact HB.out)⟩⟩
       ·rw [if_neg c7] at H
        exact absurd H (by simp)
      ·rw [if_neg c6] at H
       exact absurd H (by simp)
     ·rw [if_neg c5] at H
      exact absurd H (by simp)
    ·rw [if_neg c4] at H
     exact absurd H (by simp)
   ·rw [if_neg c3] at H
    have c3b0 : decide (x2_1 < x3_1) = false := decide_eq_false c3
    clear c3
    obtain rfl := Option.some.inj H
    go_wp2
    first | go_end0 | ((try simp only [Exit.inBlock, Exit.then]); refine bodyPost_ret (results_none rfl _ _ _) rfl ?_)
    exact ⟨by first | rfl | (simp [errW_none, errW_some] <;> rfl) | (simp [*, errW_none, errW_some] <;> rfl), (by first | exact (by (with_reducible repeat (first | apply Kd.R_alloc | apply Kd.R_drewN | apply Kd.R_drew)); exact HO_0.out) | (simp only [hl0_1]; exact (by (with_reducible repeat (first | apply Kd.R_alloc | apply Kd.R_drewN | apply Kd.R_drew)); exact HO_0.out))), by repeat (first | (with_reducible first | exact HB.out | apply below_alloc | apply pw_below_drewN | apply below_drew1) | exact HB.out), by repeat (first | (with_reducible first | exact HK.out | apply Kept.alloc | apply Kept.drewN | apply Kept.drew) | exact HK.out)⟩

/-! ### strings_Join: function 47 -/
def strings_Join.f (l0 : List ByteArray) (a1 : ByteArray) : Option ByteArray := if (Lib.join (l0.map (·.data.toList)) a1.data.toList).length ≤ 140737488355328 ∧ l0.length ≤ 140737488355328 then some (⟨(Lib.join (l0.map (·.data.toList)) a1.data.toList).toArray⟩ : ByteArray) else none
theorem strings_Join.calls (A0 : Option Addr) (c0 : Nat) (l0 : List ByteArray) (a1 r : ByteArray) (w : World) (hr0 : Kd.C Kd.string w A0 l0.length l0) (hc0 : l0.length ≤ c0) (h : strings_Join.f l0 a1 = some r) :
    Calls Tryd.prog 47 #[.slice A0 l0.length c0, .string a1] w fun e w' => e = .returned (.string r) ∧ Below w.heap.size w w' := by
  unfold strings_Join.f at h
  split at h
  · rename_i c
    obtain rfl := Option.some.inj h
    by_cases hz : l0.length = 0
    · have e0 : l0 = [] := List.length_eq_zero_iff.mp hz
      subst e0
      exact (Go.Proofs.Tryd.strings_Join_none A0 c0 a1 w).mono (by rintro e w' ⟨rfl, rfl⟩; exact ⟨rfl, Below.refl _ _⟩)
    · obtain ⟨ad, rfl, hx⟩ := Kd.at_string hr0 0 (by omega) (by omega)
      obtain ⟨b, o, sp⟩ := ad
      have hsp : sp = none := by
        cases sp with
        | none => rfl
        | some s =>
          unfold World.cell? at hx
          unfold Addr.add at hx
          split at hx
          · split at hx <;> simp_all
          · cases hx
      subst hsp
      have hx0 := hx
      rw [Lib.add_plain] at hx0
      refine Go.Proofs.Tryd.strings_Join b o c0 l0 a1 w (fun j x hj => ?_) (World.block_lt_of_cell? w _ hx0) c.2 hc0 c.1
      obtain ⟨hl, e⟩ := List.getElem?_eq_some_iff.1 hj
      obtain ⟨ad2, e2, hy⟩ := Kd.at_string hr0 (j : Int) (by omega) (by omega)
      injection e2 with e2
      subst e2
      rw [Lib.add_plain, Int.toNat_natCast] at hy
      rw [hy]
      unfold rdOf
      rw [Int.toNat_natCast, List.getD_eq_getElem?_getD, hj]
      rfl
  · cases h

end Go.Proofs.YtgfkclgpphnjfaaDoor.PN
