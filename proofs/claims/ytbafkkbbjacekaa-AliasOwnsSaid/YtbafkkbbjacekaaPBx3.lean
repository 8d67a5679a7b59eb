/- Written by xprint.py, this session's own driver, for the seat Ytbafkkbbjacekaa: contracts of Go functions, each saying that a call answers what a plain Lean function of the same name says, and, in a text named Law, the row of a law: its Go function answers true for every input. No conditions. -/
import Derived.Test.YtbafkkbbjacekaaPBx0
import Derived.Test.YtbafkkbbjacekaaPBx2
namespace Go.Proofs.Ytbafkkbbjacekaa.PB
open Go.RowKit Go.Proofs.YtbafkkbbjacekaaW.PrintWords Go.Proofs.YtbafkkbbjacekaaW.PrintLast Go.Proofs.YtbafkkbbjacekaaW.PrintMore
attribute [local go_sem] max2_int min2_int max_two min_two max_three min_three max_four min_four   -- for this text's walks alone
set_option linter.unusedVariables false
set_option linter.unusedSimpArgs false

/-! ### alias_Build: function 14 -/

/-- The builder's state: its block, and its four rows. -/
def BdS (W : World) (base g : Nat) (T : Int) (vc vh vs vl : Value) (cl : List S62) (hs sm lg : List Int) : Prop :=
  W.heap[g]? = some (.cells #[.int .u64 T, vc, vh, vs, vl] 68 (0, 0)) ∧ base ≤ g ∧ Kd.R k62 62 W base (fun _ => True) vc cl ∧ Kd.R (Kd.int .u64) 24 W base (fun _ => True) vh hs ∧ Kd.R (Kd.int .i64) 3 W base (fun k => some k ≠ vl.ownBlock) vs sm ∧ Kd.R (Kd.int .i64) 3 W base (fun k => some k ≠ vs.ownBlock) vl lg
set_option maxHeartbeats 8000000 in
set_option maxRecDepth 100000 in
theorem sort_small {w : World} {base g : Nat} {T : Int} {vc vh vs vl : Value} {cl : List S62} {hs sm lg : List Int} (hb : BdS w base g T vc vh vs vl cl hs sm lg) (i : Int) (h0 : 0 ≤ i) (h1 : i < hs.length) (l1 : sm.length < 17592186044416) (c : rd hs i < T) :
    Calls Try.prog 50 #[.pointer (some ⟨g, 0, none⟩), .int .i64 i] w fun e w' => e = .returned (.tuple #[]) ∧ Below base w w' ∧ ∃ vs', BdS w' base g T vc vh vs' vl cl hs (sm ++ [i]) lg := by
  obtain ⟨hB, hg, hC, hH, hS, hL⟩ := hb
  obtain ⟨gh, ch, rfl, _, _, cells, hcells⟩ := Kd.R_form hH (by omega)
  have hH' := Kd.R_drew hH
  have hB' := blk_drew hB
  obtain ⟨ad, e, hx⟩ := Kd.at_int (Kd.R_reads' hH').2.2 i h0 h1
  injection e with e
  subst e
  simp only [add_plain] at hx
  have hc0 : w.drew.cell? ⟨g, 0, none⟩ = some (.int .u64 T) := (blk_cell hB' 0).trans rfl
  have hc2 : w.drew.cell? ⟨g, 2, none⟩ = some (.slice (some ⟨gh, 0, none⟩) hs.length ch) := (blk_cell hB' 2).trans rfl
  have p1 := eq_true h0
  have q1 := eq_true h1
  have hc3 : w.drew.cell? ⟨g, 3, none⟩ = some vs := (blk_cell hB' 3).trans rfl
  have hc4 : w.drew.cell? ⟨g, 4, none⟩ = some vl := (blk_cell hB' 4).trans rfl
  have hSd := Kd.R_drew hS
  have hLd := Kd.R_drew hL
  have hCd := Kd.R_drew hC
  have hbase : base ≤ w.drew.heap.size := Nat.le_trans hg (Nat.le_of_lt (blk_lt hB'))
  have HB : Below base w w.drew := below_drew1 (Below.refl base w)
  go_enter Try.func50, Try.ntmps50
  try go_wp2
  refine start_ (n := 13) (S := fun w' => w'.cell? ⟨g, 0, none⟩ = some (.int .u64 T) ∧ w'.cell? ⟨g, 2, none⟩ = some (.slice (some ⟨gh, 0, none⟩) hs.length ch) ∧ w'.cell? ⟨gh, i.toNat, none⟩ = some (.int .u64 (rd hs i))) (ds := []) #[false, false, false, false, false, false, false, false, false, false, false, false, false] (by kernel_rfl) rfl rfl ⟨hc0, hc2, hx⟩ (fun hHeld => ?_)
  generalize w.drew = wd at hB' hH' hx hc0 hc2 hc3 hc4 hSd hLd hCd hbase HB hHeld ⊢
  refine pure_ (i := 0) (N := some 4) (v := ?_) (a' := ?_) #[true, false, false, false, false, false, false, false, false, false, false, false, false] rfl rfl (by kernel_rfl) (fun _ _ _ h => h) (Or.inl ⟨by rfl, ?_⟩) ?_ ?_
  rotate_left
  · intro w'
    go_simp
    with_reducible rfl
  rotate_left
  · simp only [Act.put, List.setIfInBounds_toArray, List.set_cons_zero, List.set_cons_succ, i64_w, i32_w]
    rfl
  refine pure_ (i := 1) (N := some 5) (v := ?_) (a' := ?_) #[true, true, false, false, false, false, false, false, false, false, false, false, false] rfl rfl (by kernel_rfl) (fun _ _ _ h => h) (Or.inl ⟨by rfl, ?_⟩) ?_ ?_
  rotate_left
  · intro w'
    go_simp
    with_reducible rfl
  rotate_left
  · simp only [Act.put, List.setIfInBounds_toArray, List.set_cons_zero, List.set_cons_succ, i64_w, i32_w]
    rfl
  refine pure_ (i := 2) (N := some 6) (v := ?_) (a' := ?_) #[true, true, true, false, false, false, false, false, false, false, false, false, false] rfl rfl (by kernel_rfl) (fun _ _ _ h => h) (Or.inl ⟨by rfl, ?_⟩) ?_ ?_
  rotate_left
  · intro w'
    go_simp
    with_reducible rfl
  rotate_left
  · simp only [Act.put, List.setIfInBounds_toArray, List.set_cons_zero, List.set_cons_succ, i64_w, i32_w]
    rfl
  refine take_ (i := 3) (N := some 7) (v := ?_) (a' := ?_) #[true, true, true, true, false, false, false, false, false, false, false, false, false] rfl rfl (by kernel_rfl) (fun _ _ _ h => h) (Or.inl ⟨by rfl, ?_⟩) hHeld ?_ ?_
  rotate_left
  · rintro w' ⟨s0, s1, s2⟩
    go_simp
    with_reducible rfl
  rotate_left
  · simp only [Act.put, List.setIfInBounds_toArray, List.set_cons_zero, List.set_cons_succ, i64_w, i32_w]
    rfl
  refine pure_ (i := 4) (N := some 8) (v := ?_) (a' := ?_) #[true, true, true, true, true, false, false, false, false, false, false, false, false] rfl rfl (by kernel_rfl) (fun _ _ _ h => h) (Or.inl ⟨by rfl, ?_⟩) ?_ ?_
  rotate_left
  · intro w'
    go_simp
    with_reducible rfl
  rotate_left
  · simp only [Act.put, List.setIfInBounds_toArray, List.set_cons_zero, List.set_cons_succ, i64_w, i32_w]
    rfl
  refine pure_ (i := 5) (N := some 9) (v := ?_) (a' := ?_) #[true, true, true, true, true, true, false, false, false, false, false, false, false] rfl rfl (by kernel_rfl) (fun _ _ _ h => h) (Or.inl ⟨by rfl, ?_⟩) ?_ ?_
  rotate_left
  · intro w'
    go_simp
    with_reducible rfl
  rotate_left
  · simp only [Act.put, List.setIfInBounds_toArray, List.set_cons_zero, List.set_cons_succ, i64_w, i32_w]
    rfl
  refine take_ (i := 6) (N := some 10) (v := ?_) (a' := ?_) #[true, true, true, true, true, true, true, false, false, false, false, false, false] rfl rfl (by kernel_rfl) (fun _ _ _ h => h) (Or.inl ⟨by rfl, ?_⟩) hHeld ?_ ?_
  rotate_left
  · rintro w' ⟨s0, s1, s2⟩
    go_simp
    with_reducible rfl
  rotate_left
  · simp only [Act.put, List.setIfInBounds_toArray, List.set_cons_zero, List.set_cons_succ, i64_w, i32_w]
    rfl
  refine pure_ (i := 7) (N := some 11) (v := ?_) (a' := ?_) #[true, true, true, true, true, true, true, true, false, false, false, false, false] rfl rfl (by kernel_rfl) (fun _ _ _ h => h) (Or.inl ⟨by rfl, ?_⟩) ?_ ?_
  rotate_left
  · intro w'
    go_simp
    with_reducible rfl
  rotate_left
  · simp only [Act.put, List.setIfInBounds_toArray, List.set_cons_zero, List.set_cons_succ, i64_w, i32_w]
    rfl
  refine pure_ (i := 8) (N := some 12) (v := ?_) (a' := ?_) #[true, true, true, true, true, true, true, true, true, false, false, false, false] rfl rfl (by kernel_rfl) (fun _ _ _ h => h) (Or.inl ⟨by rfl, ?_⟩) ?_ ?_
  rotate_left
  · intro w'
    go_simp
    with_reducible rfl
  rotate_left
  · simp only [Act.put, List.setIfInBounds_toArray, List.set_cons_zero, List.set_cons_succ, i64_w, i32_w]
    rfl
  refine pure_ (i := 9) (N := some 13) (v := ?_) (a' := ?_) #[true, true, true, true, true, true, true, true, true, true, false, false, false] rfl rfl (by kernel_rfl) (fun _ _ _ h => h) (Or.inl ⟨by rfl, ?_⟩) ?_ ?_
  rotate_left
  · intro w'
    go_simp
    with_reducible rfl
  rotate_left
  · simp only [Act.put, List.setIfInBounds_toArray, List.set_cons_zero, List.set_cons_succ, i64_w, i32_w]
    rfl
  refine pure_ (i := 10) (N := some 14) (v := ?_) (a' := ?_) #[true, true, true, true, true, true, true, true, true, true, true, false, false] rfl rfl (by kernel_rfl) (fun _ _ _ h => h) (Or.inl ⟨by rfl, ?_⟩) ?_ ?_
  rotate_left
  · intro w'
    go_simp
    with_reducible rfl
  rotate_left
  · simp only [Act.put, List.setIfInBounds_toArray, List.set_cons_zero, List.set_cons_succ, i64_w, i32_w]
    rfl
  refine take_ (i := 11) (N := some 15) (v := ?_) (a' := ?_) #[true, true, true, true, true, true, true, true, true, true, true, true, false] rfl rfl (by kernel_rfl) (fun _ _ _ h => h) (Or.inl ⟨by rfl, ?_⟩) hHeld ?_ ?_
  rotate_left
  · rintro w' ⟨s0, s1, s2⟩
    go_simp
    with_reducible rfl
  rotate_left
  · simp only [Act.put, List.setIfInBounds_toArray, List.set_cons_zero, List.set_cons_succ, i64_w, i32_w]
    rfl
  refine pure_ (i := 12) (N := some 16) (v := ?_) (a' := ?_) #[true, true, true, true, true, true, true, true, true, true, true, true, true] rfl rfl (by kernel_rfl) (fun _ _ _ h => h) (Or.inl ⟨by rfl, ?_⟩) ?_ ?_
  rotate_left
  · intro w'
    go_simp
    with_reducible rfl
  rotate_left
  · simp only [Act.put, List.setIfInBounds_toArray, List.set_cons_zero, List.set_cons_succ, i64_w, i32_w]
    rfl
  refine done_ (by kernel_rfl) ?_
  clear c
  go_wp2_with (first | ((with_reducible refine gate_builtin (b := .append) (xs := #[.tmp 21, .tmp 23]) rfl ?_); (try (refine gate_guard (by rfl) ?_; dsimp only)); at_builtin; refine Kd.R_append (Kd.int .i64) (w0 := w) base rfl (.tmp 21) (.tmp 23) 66 3 (.int .i64 0) 8 rfl Try.underlying66 info3 rfl (by decide) (by omega) vs sm i [.int .i64 i] (fun k_ => some k_ ≠ vl.ownBlock) (fun _ => False) rfl rfl ?aP (fun _ hk => hk.elim) ?aF ?aO ?aB ?aS ?aL ?_; (case aP => exact rfl); (case aB => exact HB); (case aF => exact (fun k_ hk => Kd.fresh' (Kd.R_lt hLd) k_ hk)); (case aO => exact hSd); (case aS => exact hbase); (case aL => omega); intro v1 w1 ho hb hg1 hat; obtain ⟨A1, c1, rfl⟩ := Kd.R_slice ho; have hB1 := blk_grown (g := g) hB' hg1 (Kd.R_ne hSd hB' (by decide)); have hc1 := (blk_cell hB1 3).trans rfl; have hf1 := blk_frozen hB1 3) | ((with_reducible refine gate_store (t := 66) (p := 26) rfl ?_); refine store_event (t := 66) (p := 26) (v := ?_) (w1 := (w1.setCell ⟨g, 3, none⟩ (.slice A1 (sm ++ [i]).length c1))) ?hg ?ho ?hn ?hr ?_; (case ho => rfl); (case hg => rfl); (case hn => rfl); (case hr => first | (go_simp; done) | (go_simp; rfl)); intro w2 hw))
  go_end0
  subst hw
  have hC1 := Kd.R_over' hCd (Kd.R_typed hSd) (by decide) hg1
  have hH1 := Kd.R_over' hH' (Kd.R_typed hSd) (by decide) hg1
  have hL1 := Kd.R_after (ok := (fun _ => True)) (Kd.R_mono hLd (fun _ hk => ⟨trivial, hk⟩)) hg1 hat
  refine ⟨rfl, hb.setCell (p := ⟨g, 3, none⟩) hg _, .slice A1 (sm ++ [i]).length c1, ?_, hg, Kd.R_set hC1 hB1 (by decide) 3 _, Kd.R_set hH1 hB1 (by decide) 3 _, ?_, ?_⟩
  · simpa using blk_set hB1 3 (.slice A1 (sm ++ [i]).length c1)
  · have := Kd.R_set ho hB1 (by decide) 3 (.slice A1 (sm ++ [i]).length c1)
    simpa using this
  · have := Kd.R_mono (Kd.R_set hL1 hB1 (by decide) 3 (.slice A1 (sm ++ [i]).length c1)) (fun _ hk => hk.2)
    simpa using this
set_option maxHeartbeats 8000000 in
set_option maxRecDepth 100000 in
theorem sort_large {w : World} {base g : Nat} {T : Int} {vc vh vs vl : Value} {cl : List S62} {hs sm lg : List Int} (hb : BdS w base g T vc vh vs vl cl hs sm lg) (i : Int) (h0 : 0 ≤ i) (h1 : i < hs.length) (l1 : lg.length < 17592186044416) (c : ¬ rd hs i < T) :
    Calls Try.prog 50 #[.pointer (some ⟨g, 0, none⟩), .int .i64 i] w fun e w' => e = .returned (.tuple #[]) ∧ Below base w w' ∧ ∃ vl', BdS w' base g T vc vh vs vl' cl hs sm (lg ++ [i]) := by
  obtain ⟨hB, hg, hC, hH, hS, hL⟩ := hb
  obtain ⟨gh, ch, rfl, _, _, cells, hcells⟩ := Kd.R_form hH (by omega)
  have hH' := Kd.R_drew hH
  have hB' := blk_drew hB
  obtain ⟨ad, e, hx⟩ := Kd.at_int (Kd.R_reads' hH').2.2 i h0 h1
  injection e with e
  subst e
  simp only [add_plain] at hx
  have hc0 : w.drew.cell? ⟨g, 0, none⟩ = some (.int .u64 T) := (blk_cell hB' 0).trans rfl
  have hc2 : w.drew.cell? ⟨g, 2, none⟩ = some (.slice (some ⟨gh, 0, none⟩) hs.length ch) := (blk_cell hB' 2).trans rfl
  have p1 := eq_true h0
  have q1 := eq_true h1
  have hc3 : w.drew.cell? ⟨g, 3, none⟩ = some vs := (blk_cell hB' 3).trans rfl
  have hc4 : w.drew.cell? ⟨g, 4, none⟩ = some vl := (blk_cell hB' 4).trans rfl
  have hSd := Kd.R_drew hS
  have hLd := Kd.R_drew hL
  have hCd := Kd.R_drew hC
  have hbase : base ≤ w.drew.heap.size := Nat.le_trans hg (Nat.le_of_lt (blk_lt hB'))
  have HB : Below base w w.drew := below_drew1 (Below.refl base w)
  go_enter Try.func50, Try.ntmps50
  try go_wp2
  refine start_ (n := 13) (S := fun w' => w'.cell? ⟨g, 0, none⟩ = some (.int .u64 T) ∧ w'.cell? ⟨g, 2, none⟩ = some (.slice (some ⟨gh, 0, none⟩) hs.length ch) ∧ w'.cell? ⟨gh, i.toNat, none⟩ = some (.int .u64 (rd hs i))) (ds := []) #[false, false, false, false, false, false, false, false, false, false, false, false, false] (by kernel_rfl) rfl rfl ⟨hc0, hc2, hx⟩ (fun hHeld => ?_)
  generalize w.drew = wd at hB' hH' hx hc0 hc2 hc3 hc4 hSd hLd hCd hbase HB hHeld ⊢
  refine pure_ (i := 0) (N := some 4) (v := ?_) (a' := ?_) #[true, false, false, false, false, false, false, false, false, false, false, false, false] rfl rfl (by kernel_rfl) (fun _ _ _ h => h) (Or.inl ⟨by rfl, ?_⟩) ?_ ?_
  rotate_left
  · intro w'
    go_simp
    with_reducible rfl
  rotate_left
  · simp only [Act.put, List.setIfInBounds_toArray, List.set_cons_zero, List.set_cons_succ, i64_w, i32_w]
    rfl
  refine pure_ (i := 1) (N := some 5) (v := ?_) (a' := ?_) #[true, true, false, false, false, false, false, false, false, false, false, false, false] rfl rfl (by kernel_rfl) (fun _ _ _ h => h) (Or.inl ⟨by rfl, ?_⟩) ?_ ?_
  rotate_left
  · intro w'
    go_simp
    with_reducible rfl
  rotate_left
  · simp only [Act.put, List.setIfInBounds_toArray, List.set_cons_zero, List.set_cons_succ, i64_w, i32_w]
    rfl
  refine pure_ (i := 2) (N := some 6) (v := ?_) (a' := ?_) #[true, true, true, false, false, false, false, false, false, false, false, false, false] rfl rfl (by kernel_rfl) (fun _ _ _ h => h) (Or.inl ⟨by rfl, ?_⟩) ?_ ?_
  rotate_left
  · intro w'
    go_simp
    with_reducible rfl
  rotate_left
  · simp only [Act.put, List.setIfInBounds_toArray, List.set_cons_zero, List.set_cons_succ, i64_w, i32_w]
    rfl
  refine take_ (i := 3) (N := some 7) (v := ?_) (a' := ?_) #[true, true, true, true, false, false, false, false, false, false, false, false, false] rfl rfl (by kernel_rfl) (fun _ _ _ h => h) (Or.inl ⟨by rfl, ?_⟩) hHeld ?_ ?_
  rotate_left
  · rintro w' ⟨s0, s1, s2⟩
    go_simp
    with_reducible rfl
  rotate_left
  · simp only [Act.put, List.setIfInBounds_toArray, List.set_cons_zero, List.set_cons_succ, i64_w, i32_w]
    rfl
  refine pure_ (i := 4) (N := some 8) (v := ?_) (a' := ?_) #[true, true, true, true, true, false, false, false, false, false, false, false, false] rfl rfl (by kernel_rfl) (fun _ _ _ h => h) (Or.inl ⟨by rfl, ?_⟩) ?_ ?_
  rotate_left
  · intro w'
    go_simp
    with_reducible rfl
  rotate_left
  · simp only [Act.put, List.setIfInBounds_toArray, List.set_cons_zero, List.set_cons_succ, i64_w, i32_w]
    rfl
  refine pure_ (i := 5) (N := some 9) (v := ?_) (a' := ?_) #[true, true, true, true, true, true, false, false, false, false, false, false, false] rfl rfl (by kernel_rfl) (fun _ _ _ h => h) (Or.inl ⟨by rfl, ?_⟩) ?_ ?_
  rotate_left
  · intro w'
    go_simp
    with_reducible rfl
  rotate_left
  · simp only [Act.put, List.setIfInBounds_toArray, List.set_cons_zero, List.set_cons_succ, i64_w, i32_w]
    rfl
  refine take_ (i := 6) (N := some 10) (v := ?_) (a' := ?_) #[true, true, true, true, true, true, true, false, false, false, false, false, false] rfl rfl (by kernel_rfl) (fun _ _ _ h => h) (Or.inl ⟨by rfl, ?_⟩) hHeld ?_ ?_
  rotate_left
  · rintro w' ⟨s0, s1, s2⟩
    go_simp
    with_reducible rfl
  rotate_left
  · simp only [Act.put, List.setIfInBounds_toArray, List.set_cons_zero, List.set_cons_succ, i64_w, i32_w]
    rfl
  refine pure_ (i := 7) (N := some 11) (v := ?_) (a' := ?_) #[true, true, true, true, true, true, true, true, false, false, false, false, false] rfl rfl (by kernel_rfl) (fun _ _ _ h => h) (Or.inl ⟨by rfl, ?_⟩) ?_ ?_
  rotate_left
  · intro w'
    go_simp
    with_reducible rfl
  rotate_left
  · simp only [Act.put, List.setIfInBounds_toArray, List.set_cons_zero, List.set_cons_succ, i64_w, i32_w]
    rfl
  refine pure_ (i := 8) (N := some 12) (v := ?_) (a' := ?_) #[true, true, true, true, true, true, true, true, true, false, false, false, false] rfl rfl (by kernel_rfl) (fun _ _ _ h => h) (Or.inl ⟨by rfl, ?_⟩) ?_ ?_
  rotate_left
  · intro w'
    go_simp
    with_reducible rfl
  rotate_left
  · simp only [Act.put, List.setIfInBounds_toArray, List.set_cons_zero, List.set_cons_succ, i64_w, i32_w]
    rfl
  refine pure_ (i := 9) (N := some 13) (v := ?_) (a' := ?_) #[true, true, true, true, true, true, true, true, true, true, false, false, false] rfl rfl (by kernel_rfl) (fun _ _ _ h => h) (Or.inl ⟨by rfl, ?_⟩) ?_ ?_
  rotate_left
  · intro w'
    go_simp
    with_reducible rfl
  rotate_left
  · simp only [Act.put, List.setIfInBounds_toArray, List.set_cons_zero, List.set_cons_succ, i64_w, i32_w]
    rfl
  refine pure_ (i := 10) (N := some 14) (v := ?_) (a' := ?_) #[true, true, true, true, true, true, true, true, true, true, true, false, false] rfl rfl (by kernel_rfl) (fun _ _ _ h => h) (Or.inl ⟨by rfl, ?_⟩) ?_ ?_
  rotate_left
  · intro w'
    go_simp
    with_reducible rfl
  rotate_left
  · simp only [Act.put, List.setIfInBounds_toArray, List.set_cons_zero, List.set_cons_succ, i64_w, i32_w]
    rfl
  refine take_ (i := 11) (N := some 15) (v := ?_) (a' := ?_) #[true, true, true, true, true, true, true, true, true, true, true, true, false] rfl rfl (by kernel_rfl) (fun _ _ _ h => h) (Or.inl ⟨by rfl, ?_⟩) hHeld ?_ ?_
  rotate_left
  · rintro w' ⟨s0, s1, s2⟩
    go_simp
    with_reducible rfl
  rotate_left
  · simp only [Act.put, List.setIfInBounds_toArray, List.set_cons_zero, List.set_cons_succ, i64_w, i32_w]
    rfl
  refine pure_ (i := 12) (N := some 16) (v := ?_) (a' := ?_) #[true, true, true, true, true, true, true, true, true, true, true, true, true] rfl rfl (by kernel_rfl) (fun _ _ _ h => h) (Or.inl ⟨by rfl, ?_⟩) ?_ ?_
  rotate_left
  · intro w'
    go_simp
    with_reducible rfl
  rotate_left
  · simp only [Act.put, List.setIfInBounds_toArray, List.set_cons_zero, List.set_cons_succ, i64_w, i32_w]
    rfl
  refine done_ (by kernel_rfl) ?_
  go_wp2_with (first | ((with_reducible refine gate_builtin (b := .append) (xs := #[.tmp 31, .tmp 33]) rfl ?_); (try (refine gate_guard (by rfl) ?_; dsimp only)); at_builtin; refine Kd.R_append (Kd.int .i64) (w0 := w) base rfl (.tmp 31) (.tmp 33) 66 3 (.int .i64 0) 8 rfl Try.underlying66 info3 rfl (by decide) (by omega) vl lg i [.int .i64 i] (fun k_ => some k_ ≠ vs.ownBlock) (fun _ => False) rfl rfl ?aP (fun _ hk => hk.elim) ?aF ?aO ?aB ?aS ?aL ?_; (case aP => exact rfl); (case aB => exact HB); (case aF => exact (fun k_ hk => Kd.fresh' (Kd.R_lt hSd) k_ hk)); (case aO => exact hLd); (case aS => exact hbase); (case aL => omega); intro v1 w1 ho hb hg1 hat; obtain ⟨A1, c1, rfl⟩ := Kd.R_slice ho; have hB1 := blk_grown (g := g) hB' hg1 (Kd.R_ne hLd hB' (by decide)); have hc1 := (blk_cell hB1 4).trans rfl; have hf1 := blk_frozen hB1 4) | ((with_reducible refine gate_store (t := 66) (p := 36) rfl ?_); refine store_event (t := 66) (p := 36) (v := ?_) (w1 := (w1.setCell ⟨g, 4, none⟩ (.slice A1 (lg ++ [i]).length c1))) ?hg ?ho ?hn ?hr ?_; (case ho => rfl); (case hg => rfl); (case hn => rfl); (case hr => first | (go_simp; done) | (go_simp; rfl)); intro w2 hw))
  go_end0
  subst hw
  have hC1 := Kd.R_over' hCd (Kd.R_typed hLd) (by decide) hg1
  have hH1 := Kd.R_over' hH' (Kd.R_typed hLd) (by decide) hg1
  have hS1 := Kd.R_after (ok := (fun _ => True)) (Kd.R_mono hSd (fun _ hk => ⟨trivial, hk⟩)) hg1 hat
  refine ⟨rfl, hb.setCell (p := ⟨g, 4, none⟩) hg _, .slice A1 (lg ++ [i]).length c1, ?_, hg, Kd.R_set hC1 hB1 (by decide) 4 _, Kd.R_set hH1 hB1 (by decide) 4 _, ?_, ?_⟩
  · simpa using blk_set hB1 4 (.slice A1 (lg ++ [i]).length c1)
  · have := Kd.R_mono (Kd.R_set hS1 hB1 (by decide) 4 (.slice A1 (lg ++ [i]).length c1)) (fun _ hk => hk.2)
    simpa using this
  · have := Kd.R_set ho hB1 (by decide) 4 (.slice A1 (lg ++ [i]).length c1)
    simpa using this

set_option maxHeartbeats 8000000 in
set_option maxRecDepth 100000 in
theorem pop_small {w : World} {base g : Nat} {T : Int} {vc vh vs vl : Value} {cl : List S62} {hs sm lg : List Int} (hb : BdS w base g T vc vh vs vl cl hs sm lg) (h0 : 0 ≤ wrap64 ((sm.length : Int) - 1)) (h1 : wrap64 ((sm.length : Int) - 1) < sm.length) :
    Calls Try.prog 74 #[.pointer (some ⟨g, 3, none⟩)] w fun e w' => e = .returned (.int .i64 (rd sm (wrap64 ((sm.length : Int) - 1)))) ∧ Below base w w' ∧ ∃ vs', BdS w' base g T vc vh vs' vl cl hs (sm.take (wrap64 ((sm.length : Int) - 1)).toNat) lg := by
  obtain ⟨hB, hg, hC, hH, hS, hL⟩ := hb
  have HB0 : Below base w w := Below.refl base w
  have hp : 0 < sm.length := by omega
  obtain ⟨gs, cs, rfl, _, _, cells, hcells⟩ := Kd.R_form hS hp
  have hCd := Kd.R_drew hC
  have hHd := Kd.R_drew hH
  have hSd := Kd.R_drew hS
  have hLd := Kd.R_drew hL
  have hB' := blk_drew hB
  have HB := below_drew1 HB0
  obtain ⟨ad, e, hx⟩ := Kd.at_int (Kd.R_reads' hSd).2.2 _ h0 h1
  injection e with e
  subst e
  simp only [add_plain] at hx
  have hcx : w.drew.cell? ⟨g, 3, none⟩ = some (.slice (some ⟨gs, 0, none⟩) sm.length cs) := (blk_cell hB' 3).trans rfl
  have p1 := eq_true h0
  have q1 := eq_true h1
  have r1 : decide ((wrap64 ((sm.length : Int) - 1)) ≤ (sm.length : Int)) = true := decide_eq_true (by omega)
  have r2 := eq_true (show wrap64 ((sm.length : Int) - 1) ≤ (sm.length : Int) by omega)
  have r3 := eq_true (show (wrap64 ((sm.length : Int) - 1)).toNat ≤ cs by have := (Kd.R_reads' hSd).2.1; omega)
  have r4 := eq_true (show wrap64 ((sm.length : Int) - 1) ≤ (cs : Int) by have := (Kd.R_reads' hSd).2.1; omega)
  go_enter Try.func74, Try.ntmps74
  go_wp2
  refine start_ (n := 11) (S := fun w' => w'.cell? ⟨g, 3, none⟩ = some (.slice (some ⟨gs, 0, none⟩) sm.length cs) ∧ w'.cell? ⟨gs, (wrap64 ((sm.length : Int) - 1)).toNat, none⟩ = some (.int .i64 (rd sm (wrap64 ((sm.length : Int) - 1))))) (ds := []) #[false, false, false, false, false, false, false, false, false, false, false] (by kernel_rfl) rfl rfl ⟨hcx, hx⟩ (fun hHeld => ?_)
  generalize w.drew = wd at hB' hCd hHd hSd hLd hx hcx HB hHeld ⊢
  refine pure_ (i := 0) (N := some 4) (v := ?_) (a' := ?_) #[true, false, false, false, false, false, false, false, false, false, false] rfl rfl (by kernel_rfl) (fun _ _ _ h => h) (Or.inl ⟨by rfl, ?_⟩) ?_ ?_
  rotate_left
  · intro w'
    go_simp
    with_reducible rfl
  rotate_left
  · simp only [Act.put, List.setIfInBounds_toArray, List.set_cons_zero, List.set_cons_succ, i64_w, i32_w]
    rfl
  refine pure_ (i := 1) (N := some 5) (v := ?_) (a' := ?_) #[true, true, false, false, false, false, false, false, false, false, false] rfl rfl (by kernel_rfl) (fun _ _ _ h => h) (Or.inl ⟨by rfl, ?_⟩) ?_ ?_
  rotate_left
  · intro w'
    go_simp
    with_reducible rfl
  rotate_left
  · simp only [Act.put, List.setIfInBounds_toArray, List.set_cons_zero, List.set_cons_succ, i64_w, i32_w]
    rfl
  refine pure_ (i := 3) (N := some 7) (v := ?_) (a' := ?_) #[true, true, false, true, false, false, false, false, false, false, false] rfl rfl (by kernel_rfl) (fun _ _ _ h => h) (Or.inl ⟨by rfl, ?_⟩) ?_ ?_
  rotate_left
  · intro w'
    go_simp
    with_reducible rfl
  rotate_left
  · simp only [Act.put, List.setIfInBounds_toArray, List.set_cons_zero, List.set_cons_succ, i64_w, i32_w]
    rfl
  refine pure_ (i := 4) (N := some 8) (v := ?_) (a' := ?_) #[true, true, false, true, true, false, false, false, false, false, false] rfl rfl (by kernel_rfl) (fun _ _ _ h => h) (Or.inl ⟨by rfl, ?_⟩) ?_ ?_
  rotate_left
  · intro w'
    go_simp
    with_reducible rfl
  rotate_left
  · simp only [Act.put, List.setIfInBounds_toArray, List.set_cons_zero, List.set_cons_succ, i64_w, i32_w]
    rfl
  refine take_ (i := 2) (N := some 6) (v := ?_) (a' := ?_) #[true, true, true, true, true, false, false, false, false, false, false] rfl rfl (by kernel_rfl) (fun _ _ _ h => h) (Or.inl ⟨by rfl, ?_⟩) hHeld ?_ ?_
  rotate_left
  · rintro w' ⟨s0, s1⟩
    go_simp
    with_reducible rfl
  rotate_left
  · simp only [Act.put, List.setIfInBounds_toArray, List.set_cons_zero, List.set_cons_succ, i64_w, i32_w]
    rfl
  refine take_ (i := 5) (N := some 9) (v := ?_) (a' := ?_) #[true, true, true, true, true, true, false, false, false, false, false] rfl rfl (by kernel_rfl) (fun _ _ _ h => h) (Or.inl ⟨by rfl, ?_⟩) hHeld ?_ ?_
  rotate_left
  · rintro w' ⟨s0, s1⟩
    go_simp
    with_reducible rfl
  rotate_left
  · simp only [Act.put, List.setIfInBounds_toArray, List.set_cons_zero, List.set_cons_succ, i64_w, i32_w]
    rfl
  refine pure_ (i := 6) (N := some 10) (v := ?_) (a' := ?_) #[true, true, true, true, true, true, true, false, false, false, false] rfl rfl (by kernel_rfl) (fun _ _ _ h => h) (Or.inl ⟨by rfl, ?_⟩) ?_ ?_
  rotate_left
  · intro w'
    go_simp
    with_reducible rfl
  rotate_left
  · simp only [Act.put, List.setIfInBounds_toArray, List.set_cons_zero, List.set_cons_succ, i64_w, i32_w]
    rfl
  refine pure_ (i := 7) (N := some 11) (v := ?_) (a' := ?_) #[true, true, true, true, true, true, true, true, false, false, false] rfl rfl (by kernel_rfl) (fun _ _ _ h => h) (Or.inl ⟨by rfl, ?_⟩) ?_ ?_
  rotate_left
  · intro w'
    go_simp
    with_reducible rfl
  rotate_left
  · simp only [Act.put, List.setIfInBounds_toArray, List.set_cons_zero, List.set_cons_succ, i64_w, i32_w]
    rfl
  refine pure_ (i := 8) (N := some 12) (v := ?_) (a' := ?_) #[true, true, true, true, true, true, true, true, true, false, false] rfl rfl (by kernel_rfl) (fun _ _ _ h => h) (Or.inl ⟨by rfl, ?_⟩) ?_ ?_
  rotate_left
  · intro w'
    go_simp
    with_reducible rfl
  rotate_left
  · simp only [Act.put, List.setIfInBounds_toArray, List.set_cons_zero, List.set_cons_succ, i64_w, i32_w]
    rfl
  refine take_ (i := 9) (N := some 13) (v := ?_) (a' := ?_) #[true, true, true, true, true, true, true, true, true, true, false] rfl rfl (by kernel_rfl) (fun _ _ _ h => h) (Or.inl ⟨by rfl, ?_⟩) hHeld ?_ ?_
  rotate_left
  · rintro w' ⟨s0, s1⟩
    go_simp
    with_reducible rfl
  rotate_left
  · simp only [Act.put, List.setIfInBounds_toArray, List.set_cons_zero, List.set_cons_succ, i64_w, i32_w]
    rfl
  refine pure_ (i := 10) (N := some 3) (v := ?_) (a' := ?_) #[true, true, true, true, true, true, true, true, true, true, true] rfl rfl (by kernel_rfl) (fun _ _ _ h => h) (Or.inl ⟨by rfl, ?_⟩) ?_ ?_
  rotate_left
  · intro w'
    go_simp
    with_reducible rfl
  rotate_left
  · simp only [Act.put, List.setIfInBounds_toArray, List.set_cons_zero, List.set_cons_succ, i64_w, i32_w]
    rfl
  refine done_ (by kernel_rfl) ?_
  
  try go_wp2
  clear hx
  have hB' := blk_drew hB'
  have hCd := Kd.R_drew hCd
  have hHd := Kd.R_drew hHd
  have hSd := Kd.R_drew hSd
  have hLd := Kd.R_drew hLd
  have HB := below_drew1 HB
  have hcx : wd.drew.cell? ⟨g, 3, none⟩ = some (.slice (some ⟨gs, 0, none⟩) sm.length cs) := (blk_cell hB' 3).trans rfl
  have hfx := blk_frozen hB' 3
  refine start_ (n := 12) (S := fun w' => w'.cell? ⟨g, 3, none⟩ = some (.slice (some ⟨gs, 0, none⟩) sm.length cs)) (ds := [11]) #[false, false, false, false, false, false, false, false, false, false, false, false] (by kernel_rfl) rfl rfl (hcx) (fun hHeld => ?_)
  generalize wd.drew = we at hB' hCd hHd hSd hLd hcx hfx HB hHeld ⊢
  refine pure_ (i := 0) (N := some 14) (v := ?_) (a' := ?_) #[true, false, false, false, false, false, false, false, false, false, false, false] rfl rfl (by kernel_rfl) (fun _ _ _ h => h) (Or.inl ⟨by rfl, ?_⟩) ?_ ?_
  rotate_left
  · intro w'
    go_simp
    with_reducible rfl
  rotate_left
  · simp only [Act.put, List.setIfInBounds_toArray, List.set_cons_zero, List.set_cons_succ, i64_w, i32_w]
    rfl
  refine pure_ (i := 1) (N := some 15) (v := ?_) (a' := ?_) #[true, true, false, false, false, false, false, false, false, false, false, false] rfl rfl (by kernel_rfl) (fun _ _ _ h => h) (Or.inl ⟨by rfl, ?_⟩) ?_ ?_
  rotate_left
  · intro w'
    go_simp
    with_reducible rfl
  rotate_left
  · simp only [Act.put, List.setIfInBounds_toArray, List.set_cons_zero, List.set_cons_succ, i64_w, i32_w]
    rfl
  refine pure_ (i := 2) (N := some 16) (v := ?_) (a' := ?_) #[true, true, true, false, false, false, false, false, false, false, false, false] rfl rfl (by kernel_rfl) (fun _ _ _ h => h) (Or.inl ⟨by rfl, ?_⟩) ?_ ?_
  rotate_left
  · intro w'
    go_simp
    with_reducible rfl
  rotate_left
  · simp only [Act.put, List.setIfInBounds_toArray, List.set_cons_zero, List.set_cons_succ, i64_w, i32_w]
    rfl
  refine pure_ (i := 4) (N := some 18) (v := ?_) (a' := ?_) #[true, true, true, false, true, false, false, false, false, false, false, false] rfl rfl (by kernel_rfl) (fun _ _ _ h => h) (Or.inl ⟨by rfl, ?_⟩) ?_ ?_
  rotate_left
  · intro w'
    go_simp
    with_reducible rfl
  rotate_left
  · simp only [Act.put, List.setIfInBounds_toArray, List.set_cons_zero, List.set_cons_succ, i64_w, i32_w]
    rfl
  refine pure_ (i := 5) (N := some 19) (v := ?_) (a' := ?_) #[true, true, true, false, true, true, false, false, false, false, false, false] rfl rfl (by kernel_rfl) (fun _ _ _ h => h) (Or.inl ⟨by rfl, ?_⟩) ?_ ?_
  rotate_left
  · intro w'
    go_simp
    with_reducible rfl
  rotate_left
  · simp only [Act.put, List.setIfInBounds_toArray, List.set_cons_zero, List.set_cons_succ, i64_w, i32_w]
    rfl
  refine take_ (i := 3) (N := some 17) (v := ?_) (a' := ?_) #[true, true, true, true, true, true, false, false, false, false, false, false] rfl rfl (by kernel_rfl) (fun _ _ _ h => h) (Or.inl ⟨by rfl, ?_⟩) hHeld ?_ ?_
  rotate_left
  · intro w' s0
    go_simp
    with_reducible rfl
  rotate_left
  · simp only [Act.put, List.setIfInBounds_toArray, List.set_cons_zero, List.set_cons_succ, i64_w, i32_w]
    rfl
  refine take_ (i := 6) (N := some 20) (v := ?_) (a' := ?_) #[true, true, true, true, true, true, true, false, false, false, false, false] rfl rfl (by kernel_rfl) (fun _ _ _ h => h) (Or.inl ⟨by rfl, ?_⟩) hHeld ?_ ?_
  rotate_left
  · intro w' s0
    go_simp
    with_reducible rfl
  rotate_left
  · simp only [Act.put, List.setIfInBounds_toArray, List.set_cons_zero, List.set_cons_succ, i64_w, i32_w]
    rfl
  refine pure_ (i := 7) (N := some 21) (v := ?_) (a' := ?_) #[true, true, true, true, true, true, true, true, false, false, false, false] rfl rfl (by kernel_rfl) (fun _ _ _ h => h) (Or.inl ⟨by rfl, ?_⟩) ?_ ?_
  rotate_left
  · intro w'
    go_simp
    with_reducible rfl
  rotate_left
  · simp only [Act.put, List.setIfInBounds_toArray, List.set_cons_zero, List.set_cons_succ, i64_w, i32_w]
    rfl
  refine pure_ (i := 8) (N := some 22) (v := ?_) (a' := ?_) #[true, true, true, true, true, true, true, true, true, false, false, false] rfl rfl (by kernel_rfl) (fun _ _ _ h => h) (Or.inl ⟨by rfl, ?_⟩) ?_ ?_
  rotate_left
  · intro w'
    go_simp
    with_reducible rfl
  rotate_left
  · simp only [Act.put, List.setIfInBounds_toArray, List.set_cons_zero, List.set_cons_succ, i64_w, i32_w]
    rfl
  refine pure_ (i := 9) (N := some 23) (v := ?_) (a' := ?_) #[true, true, true, true, true, true, true, true, true, true, false, false] rfl rfl (by kernel_rfl) (fun _ _ _ h => h) (Or.inl ⟨by rfl, ?_⟩) ?_ ?_
  rotate_left
  · intro w'
    go_simp
    with_reducible rfl
  rotate_left
  · simp only [Act.put, List.setIfInBounds_toArray, List.set_cons_zero, List.set_cons_succ, i64_w, i32_w]
    rfl
  refine pure_ (i := 10) (N := some 24) (v := ?_) (a' := ?_) #[true, true, true, true, true, true, true, true, true, true, true, false] rfl rfl (by kernel_rfl) (fun _ _ _ h => h) (Or.inl ⟨by rfl, ?_⟩) ?_ ?_
  rotate_left
  · intro w'
    go_simp
    with_reducible rfl
  rotate_left
  · simp only [Act.put, List.setIfInBounds_toArray, List.set_cons_zero, List.set_cons_succ, i64_w, i32_w]
    rfl
  refine last_ (i := 11) (N := none) #[true, true, true, true, true, true, true, true, true, true, true, true] rfl rfl (by kernel_rfl) (by decide) (fun K hK => ?_)
  refine skip_ (w1 := ?_) (by rfl) rfl ?_ ?_
  rotate_left
  · go_simp
    rfl
  refine hK.out _ _ ?_
  clear hK K
  refine done_ (by kernel_rfl) ?_
  
  try go_wp2
  go_ret
  have hle : (wrap64 ((sm.length : Int) - 1)).toNat ≤ sm.length := by omega
  have hbk : base ≤ g := hg
  refine ⟨rfl, HB.setCell (p := ⟨g, 3, none⟩) hg _, .slice (some ⟨gs, 0, none⟩) (wrap64 ((sm.length : Int) - 1)).toNat cs, ?_, hg, Kd.R_set hCd hB' (by decide) 3 _, Kd.R_set hHd hB' (by decide) 3 _, ?_, ?_⟩
  · simpa using blk_set hB' 3 (.slice (some ⟨gs, 0, none⟩) (wrap64 ((sm.length : Int) - 1)).toNat cs)
  · have := Kd.R_set (Kd.R_take hSd hle) hB' (by decide) 3 (.slice (some ⟨gs, 0, none⟩) (wrap64 ((sm.length : Int) - 1)).toNat cs)
    simpa using this
  · have := Kd.R_set hLd hB' (by decide) 3 (.slice (some ⟨gs, 0, none⟩) (wrap64 ((sm.length : Int) - 1)).toNat cs)
    exact Kd.R_mono this (fun k_ hk => hk)

set_option maxHeartbeats 8000000 in
set_option maxRecDepth 100000 in
theorem pop_large {w : World} {base g : Nat} {T : Int} {vc vh vs vl : Value} {cl : List S62} {hs sm lg : List Int} (hb : BdS w base g T vc vh vs vl cl hs sm lg) (h0 : 0 ≤ wrap64 ((lg.length : Int) - 1)) (h1 : wrap64 ((lg.length : Int) - 1) < lg.length) :
    Calls Try.prog 74 #[.pointer (some ⟨g, 4, none⟩)] w fun e w' => e = .returned (.int .i64 (rd lg (wrap64 ((lg.length : Int) - 1)))) ∧ Below base w w' ∧ ∃ vl', BdS w' base g T vc vh vs vl' cl hs sm (lg.take (wrap64 ((lg.length : Int) - 1)).toNat) := by
  obtain ⟨hB, hg, hC, hH, hS, hL⟩ := hb
  have HB0 : Below base w w := Below.refl base w
  have hp : 0 < lg.length := by omega
  obtain ⟨gs, cs, rfl, _, _, cells, hcells⟩ := Kd.R_form hL hp
  have hCd := Kd.R_drew hC
  have hHd := Kd.R_drew hH
  have hSd := Kd.R_drew hS
  have hLd := Kd.R_drew hL
  have hB' := blk_drew hB
  have HB := below_drew1 HB0
  obtain ⟨ad, e, hx⟩ := Kd.at_int (Kd.R_reads' hLd).2.2 _ h0 h1
  injection e with e
  subst e
  simp only [add_plain] at hx
  have hcx : w.drew.cell? ⟨g, 4, none⟩ = some (.slice (some ⟨gs, 0, none⟩) lg.length cs) := (blk_cell hB' 4).trans rfl
  have p1 := eq_true h0
  have q1 := eq_true h1
  have r1 : decide ((wrap64 ((lg.length : Int) - 1)) ≤ (lg.length : Int)) = true := decide_eq_true (by omega)
  have r2 := eq_true (show wrap64 ((lg.length : Int) - 1) ≤ (lg.length : Int) by omega)
  have r3 := eq_true (show (wrap64 ((lg.length : Int) - 1)).toNat ≤ cs by have := (Kd.R_reads' hLd).2.1; omega)
  have r4 := eq_true (show wrap64 ((lg.length : Int) - 1) ≤ (cs : Int) by have := (Kd.R_reads' hLd).2.1; omega)
  go_enter Try.func74, Try.ntmps74
  go_wp2
  refine start_ (n := 11) (S := fun w' => w'.cell? ⟨g, 4, none⟩ = some (.slice (some ⟨gs, 0, none⟩) lg.length cs) ∧ w'.cell? ⟨gs, (wrap64 ((lg.length : Int) - 1)).toNat, none⟩ = some (.int .i64 (rd lg (wrap64 ((lg.length : Int) - 1))))) (ds := []) #[false, false, false, false, false, false, false, false, false, false, false] (by kernel_rfl) rfl rfl ⟨hcx, hx⟩ (fun hHeld => ?_)
  generalize w.drew = wd at hB' hCd hHd hSd hLd hx hcx HB hHeld ⊢
  refine pure_ (i := 0) (N := some 4) (v := ?_) (a' := ?_) #[true, false, false, false, false, false, false, false, false, false, false] rfl rfl (by kernel_rfl) (fun _ _ _ h => h) (Or.inl ⟨by rfl, ?_⟩) ?_ ?_
  rotate_left
  · intro w'
    go_simp
    with_reducible rfl
  rotate_left
  · simp only [Act.put, List.setIfInBounds_toArray, List.set_cons_zero, List.set_cons_succ, i64_w, i32_w]
    rfl
  refine pure_ (i := 1) (N := some 5) (v := ?_) (a' := ?_) #[true, true, false, false, false, false, false, false, false, false, false] rfl rfl (by kernel_rfl) (fun _ _ _ h => h) (Or.inl ⟨by rfl, ?_⟩) ?_ ?_
  rotate_left
  · intro w'
    go_simp
    with_reducible rfl
  rotate_left
  · simp only [Act.put, List.setIfInBounds_toArray, List.set_cons_zero, List.set_cons_succ, i64_w, i32_w]
    rfl
  refine pure_ (i := 3) (N := some 7) (v := ?_) (a' := ?_) #[true, true, false, true, false, false, false, false, false, false, false] rfl rfl (by kernel_rfl) (fun _ _ _ h => h) (Or.inl ⟨by rfl, ?_⟩) ?_ ?_
  rotate_left
  · intro w'
    go_simp
    with_reducible rfl
  rotate_left
  · simp only [Act.put, List.setIfInBounds_toArray, List.set_cons_zero, List.set_cons_succ, i64_w, i32_w]
    rfl
  refine pure_ (i := 4) (N := some 8) (v := ?_) (a' := ?_) #[true, true, false, true, true, false, false, false, false, false, false] rfl rfl (by kernel_rfl) (fun _ _ _ h => h) (Or.inl ⟨by rfl, ?_⟩) ?_ ?_
  rotate_left
  · intro w'
    go_simp
    with_reducible rfl
  rotate_left
  · simp only [Act.put, List.setIfInBounds_toArray, List.set_cons_zero, List.set_cons_succ, i64_w, i32_w]
    rfl
  refine take_ (i := 2) (N := some 6) (v := ?_) (a' := ?_) #[true, true, true, true, true, false, false, false, false, false, false] rfl rfl (by kernel_rfl) (fun _ _ _ h => h) (Or.inl ⟨by rfl, ?_⟩) hHeld ?_ ?_
  rotate_left
  · rintro w' ⟨s0, s1⟩
    go_simp
    with_reducible rfl
  rotate_left
  · simp only [Act.put, List.setIfInBounds_toArray, List.set_cons_zero, List.set_cons_succ, i64_w, i32_w]
    rfl
  refine take_ (i := 5) (N := some 9) (v := ?_) (a' := ?_) #[true, true, true, true, true, true, false, false, false, false, false] rfl rfl (by kernel_rfl) (fun _ _ _ h => h) (Or.inl ⟨by rfl, ?_⟩) hHeld ?_ ?_
  rotate_left
  · rintro w' ⟨s0, s1⟩
    go_simp
    with_reducible rfl
  rotate_left
  · simp only [Act.put, List.setIfInBounds_toArray, List.set_cons_zero, List.set_cons_succ, i64_w, i32_w]
    rfl
  refine pure_ (i := 6) (N := some 10) (v := ?_) (a' := ?_) #[true, true, true, true, true, true, true, false, false, false, false] rfl rfl (by kernel_rfl) (fun _ _ _ h => h) (Or.inl ⟨by rfl, ?_⟩) ?_ ?_
  rotate_left
  · intro w'
    go_simp
    with_reducible rfl
  rotate_left
  · simp only [Act.put, List.setIfInBounds_toArray, List.set_cons_zero, List.set_cons_succ, i64_w, i32_w]
    rfl
  refine pure_ (i := 7) (N := some 11) (v := ?_) (a' := ?_) #[true, true, true, true, true, true, true, true, false, false, false] rfl rfl (by kernel_rfl) (fun _ _ _ h => h) (Or.inl ⟨by rfl, ?_⟩) ?_ ?_
  rotate_left
  · intro w'
    go_simp
    with_reducible rfl
  rotate_left
  · simp only [Act.put, List.setIfInBounds_toArray, List.set_cons_zero, List.set_cons_succ, i64_w, i32_w]
    rfl
  refine pure_ (i := 8) (N := some 12) (v := ?_) (a' := ?_) #[true, true, true, true, true, true, true, true, true, false, false] rfl rfl (by kernel_rfl) (fun _ _ _ h => h) (Or.inl ⟨by rfl, ?_⟩) ?_ ?_
  rotate_left
  · intro w'
    go_simp
    with_reducible rfl
  rotate_left
  · simp only [Act.put, List.setIfInBounds_toArray, List.set_cons_zero, List.set_cons_succ, i64_w, i32_w]
    rfl
  refine take_ (i := 9) (N := some 13) (v := ?_) (a' := ?_) #[true, true, true, true, true, true, true, true, true, true, false] rfl rfl (by kernel_rfl) (fun _ _ _ h => h) (Or.inl ⟨by rfl, ?_⟩) hHeld ?_ ?_
  rotate_left
  · rintro w' ⟨s0, s1⟩
    go_simp
    with_reducible rfl
  rotate_left
  · simp only [Act.put, List.setIfInBounds_toArray, List.set_cons_zero, List.set_cons_succ, i64_w, i32_w]
    rfl
  refine pure_ (i := 10) (N := some 3) (v := ?_) (a' := ?_) #[true, true, true, true, true, true, true, true, true, true, true] rfl rfl (by kernel_rfl) (fun _ _ _ h => h) (Or.inl ⟨by rfl, ?_⟩) ?_ ?_
  rotate_left
  · intro w'
    go_simp
    with_reducible rfl
  rotate_left
  · simp only [Act.put, List.setIfInBounds_toArray, List.set_cons_zero, List.set_cons_succ, i64_w, i32_w]
    rfl
  refine done_ (by kernel_rfl) ?_
  
  try go_wp2
  clear hx
  have hB' := blk_drew hB'
  have hCd := Kd.R_drew hCd
  have hHd := Kd.R_drew hHd
  have hSd := Kd.R_drew hSd
  have hLd := Kd.R_drew hLd
  have HB := below_drew1 HB
  have hcx : wd.drew.cell? ⟨g, 4, none⟩ = some (.slice (some ⟨gs, 0, none⟩) lg.length cs) := (blk_cell hB' 4).trans rfl
  have hfx := blk_frozen hB' 4
  refine start_ (n := 12) (S := fun w' => w'.cell? ⟨g, 4, none⟩ = some (.slice (some ⟨gs, 0, none⟩) lg.length cs)) (ds := [11]) #[false, false, false, false, false, false, false, false, false, false, false, false] (by kernel_rfl) rfl rfl (hcx) (fun hHeld => ?_)
  generalize wd.drew = we at hB' hCd hHd hSd hLd hcx hfx HB hHeld ⊢
  refine pure_ (i := 0) (N := some 14) (v := ?_) (a' := ?_) #[true, false, false, false, false, false, false, false, false, false, false, false] rfl rfl (by kernel_rfl) (fun _ _ _ h => h) (Or.inl ⟨by rfl, ?_⟩) ?_ ?_
  rotate_left
  · intro w'
    go_simp
    with_reducible rfl
  rotate_left
  · simp only [Act.put, List.setIfInBounds_toArray, List.set_cons_zero, List.set_cons_succ, i64_w, i32_w]
    rfl
  refine pure_ (i := 1) (N := some 15) (v := ?_) (a' := ?_) #[true, true, false, false, false, false, false, false, false, false, false, false] rfl rfl (by kernel_rfl) (fun _ _ _ h => h) (Or.inl ⟨by rfl, ?_⟩) ?_ ?_
  rotate_left
  · intro w'
    go_simp
    with_reducible rfl
  rotate_left
  · simp only [Act.put, List.setIfInBounds_toArray, List.set_cons_zero, List.set_cons_succ, i64_w, i32_w]
    rfl
  refine pure_ (i := 2) (N := some 16) (v := ?_) (a' := ?_) #[true, true, true, false, false, false, false, false, false, false, false, false] rfl rfl (by kernel_rfl) (fun _ _ _ h => h) (Or.inl ⟨by rfl, ?_⟩) ?_ ?_
  rotate_left
  · intro w'
    go_simp
    with_reducible rfl
  rotate_left
  · simp only [Act.put, List.setIfInBounds_toArray, List.set_cons_zero, List.set_cons_succ, i64_w, i32_w]
    rfl
  refine pure_ (i := 4) (N := some 18) (v := ?_) (a' := ?_) #[true, true, true, false, true, false, false, false, false, false, false, false] rfl rfl (by kernel_rfl) (fun _ _ _ h => h) (Or.inl ⟨by rfl, ?_⟩) ?_ ?_
  rotate_left
  · intro w'
    go_simp
    with_reducible rfl
  rotate_left
  · simp only [Act.put, List.setIfInBounds_toArray, List.set_cons_zero, List.set_cons_succ, i64_w, i32_w]
    rfl
  refine pure_ (i := 5) (N := some 19) (v := ?_) (a' := ?_) #[true, true, true, false, true, true, false, false, false, false, false, false] rfl rfl (by kernel_rfl) (fun _ _ _ h => h) (Or.inl ⟨by rfl, ?_⟩) ?_ ?_
  rotate_left
  · intro w'
    go_simp
    with_reducible rfl
  rotate_left
  · simp only [Act.put, List.setIfInBounds_toArray, List.set_cons_zero, List.set_cons_succ, i64_w, i32_w]
    rfl
  refine take_ (i := 3) (N := some 17) (v := ?_) (a' := ?_) #[true, true, true, true, true, true, false, false, false, false, false, false] rfl rfl (by kernel_rfl) (fun _ _ _ h => h) (Or.inl ⟨by rfl, ?_⟩) hHeld ?_ ?_
  rotate_left
  · intro w' s0
    go_simp
    with_reducible rfl
  rotate_left
  · simp only [Act.put, List.setIfInBounds_toArray, List.set_cons_zero, List.set_cons_succ, i64_w, i32_w]
    rfl
  refine take_ (i := 6) (N := some 20) (v := ?_) (a' := ?_) #[true, true, true, true, true, true, true, false, false, false, false, false] rfl rfl (by kernel_rfl) (fun _ _ _ h => h) (Or.inl ⟨by rfl, ?_⟩) hHeld ?_ ?_
  rotate_left
  · intro w' s0
    go_simp
    with_reducible rfl
  rotate_left
  · simp only [Act.put, List.setIfInBounds_toArray, List.set_cons_zero, List.set_cons_succ, i64_w, i32_w]
    rfl
  refine pure_ (i := 7) (N := some 21) (v := ?_) (a' := ?_) #[true, true, true, true, true, true, true, true, false, false, false, false] rfl rfl (by kernel_rfl) (fun _ _ _ h => h) (Or.inl ⟨by rfl, ?_⟩) ?_ ?_
  rotate_left
  · intro w'
    go_simp
    with_reducible rfl
  rotate_left
  · simp only [Act.put, List.setIfInBounds_toArray, List.set_cons_zero, List.set_cons_succ, i64_w, i32_w]
    rfl
  refine pure_ (i := 8) (N := some 22) (v := ?_) (a' := ?_) #[true, true, true, true, true, true, true, true, true, false, false, false] rfl rfl (by kernel_rfl) (fun _ _ _ h => h) (Or.inl ⟨by rfl, ?_⟩) ?_ ?_
  rotate_left
  · intro w'
    go_simp
    with_reducible rfl
  rotate_left
  · simp only [Act.put, List.setIfInBounds_toArray, List.set_cons_zero, List.set_cons_succ, i64_w, i32_w]
    rfl
  refine pure_ (i := 9) (N := some 23) (v := ?_) (a' := ?_) #[true, true, true, true, true, true, true, true, true, true, false, false] rfl rfl (by kernel_rfl) (fun _ _ _ h => h) (Or.inl ⟨by rfl, ?_⟩) ?_ ?_
  rotate_left
  · intro w'
    go_simp
    with_reducible rfl
  rotate_left
  · simp only [Act.put, List.setIfInBounds_toArray, List.set_cons_zero, List.set_cons_succ, i64_w, i32_w]
    rfl
  refine pure_ (i := 10) (N := some 24) (v := ?_) (a' := ?_) #[true, true, true, true, true, true, true, true, true, true, true, false] rfl rfl (by kernel_rfl) (fun _ _ _ h => h) (Or.inl ⟨by rfl, ?_⟩) ?_ ?_
  rotate_left
  · intro w'
    go_simp
    with_reducible rfl
  rotate_left
  · simp only [Act.put, List.setIfInBounds_toArray, List.set_cons_zero, List.set_cons_succ, i64_w, i32_w]
    rfl
  refine last_ (i := 11) (N := none) #[true, true, true, true, true, true, true, true, true, true, true, true] rfl rfl (by kernel_rfl) (by decide) (fun K hK => ?_)
  refine skip_ (w1 := ?_) (by rfl) rfl ?_ ?_
  rotate_left
  · go_simp
    rfl
  refine hK.out _ _ ?_
  clear hK K
  refine done_ (by kernel_rfl) ?_
  
  try go_wp2
  go_ret
  have hle : (wrap64 ((lg.length : Int) - 1)).toNat ≤ lg.length := by omega
  have hbk : base ≤ g := hg
  refine ⟨rfl, HB.setCell (p := ⟨g, 4, none⟩) hg _, .slice (some ⟨gs, 0, none⟩) (wrap64 ((lg.length : Int) - 1)).toNat cs, ?_, hg, Kd.R_set hCd hB' (by decide) 4 _, Kd.R_set hHd hB' (by decide) 4 _, ?_, ?_⟩
  · simpa using blk_set hB' 4 (.slice (some ⟨gs, 0, none⟩) (wrap64 ((lg.length : Int) - 1)).toNat cs)
  · have := Kd.R_set hSd hB' (by decide) 4 (.slice (some ⟨gs, 0, none⟩) (wrap64 ((lg.length : Int) - 1)).toNat cs)
    exact Kd.R_mono this (fun k_ hk => hk)
  · have := Kd.R_set (Kd.R_take hLd hle) hB' (by decide) 4 (.slice (some ⟨gs, 0, none⟩) (wrap64 ((lg.length : Int) - 1)).toNat cs)
    simpa using this

theorem BdS.drew {w : World} {base g : Nat} {T : Int} {vc vh vs vl : Value} {cl : List S62} {hs sm lg : List Int} (hb : BdS w base g T vc vh vs vl cl hs sm lg) : BdS w.drew base g T vc vh vs vl cl hs sm lg :=
  ⟨blk_drew hb.1, hb.2.1, Kd.R_drew hb.2.2.1, Kd.R_drew hb.2.2.2.1, Kd.R_drew hb.2.2.2.2.1, Kd.R_drew hb.2.2.2.2.2⟩
theorem BdS.cells {w : World} {base g : Nat} {T : Int} {vc vh vs vl : Value} {cl : List S62} {hs sm lg : List Int} (hb : BdS w base g T vc vh vs vl cl hs sm lg) :
    w.cell? ⟨g, 0, none⟩ = some (.int .u64 T) ∧ w.cell? ⟨g, 1, none⟩ = some vc ∧ w.cell? ⟨g, 2, none⟩ = some vh ∧ w.cell? ⟨g, 3, none⟩ = some vs ∧ w.cell? ⟨g, 4, none⟩ = some vl :=
  ⟨(blk_cell hb.1 0).trans rfl, (blk_cell hb.1 1).trans rfl, (blk_cell hb.1 2).trans rfl, (blk_cell hb.1 3).trans rfl, (blk_cell hb.1 4).trans rfl⟩
theorem BdS.has {w : World} {base g gh ch : Nat} {T : Int} {vc vs vl : Value} {cl : List S62} {hs sm lg : List Int} (hb : BdS w base g T vc (.slice (some ⟨gh, 0, none⟩) hs.length ch) vs vl cl hs sm lg) (i : Int) (h0 : 0 ≤ i) (h1 : i < hs.length) : w.cell? ⟨gh, i.toNat, none⟩ = some (.int .u64 (rd hs i)) := by
  obtain ⟨ad, e, hx⟩ := Kd.at_int (Kd.R_reads' hb.2.2.2.1).2.2 i h0 h1
  injection e with e
  subst e
  simpa only [add_plain] using hx
/-- A cell of the table is written. -/
theorem BdS.put {w : World} {base g gc cc : Nat} {T : Int} {vh vs vl : Value} {cl : List S62} {hs sm lg : List Int} (hb : BdS w base g T (.slice (some ⟨gc, 0, none⟩) cl.length cc) vh vs vl cl hs sm lg) (i x y : Int) (h0 : 0 ≤ i) (h1 : i < cl.length) :
    (∃ u0, w.cell? ⟨gc, i.toNat * 2, none⟩ = some u0) ∧ (∃ u1, w.cell? ⟨gc, i.toNat * 2 + 1, none⟩ = some u1) ∧ w.frozen? ⟨gc, i.toNat * 2, none⟩ = false ∧ w.frozen? ⟨gc, i.toNat * 2 + 1, none⟩ = false ∧
    BdS ((w.setCell ⟨gc, i.toNat * 2, none⟩ (.int .u64 x)).setCell ⟨gc, i.toNat * 2 + 1, none⟩ (.int .i64 y)) base g T (.slice (some ⟨gc, 0, none⟩) cl.length cc) vh vs vl (cl.set i.toNat ⟨x, y⟩) hs sm lg ∧
    Below base w ((w.setCell ⟨gc, i.toNat * 2, none⟩ (.int .u64 x)).setCell ⟨gc, i.toNat * 2 + 1, none⟩ (.int .i64 y)) := by
  obtain ⟨hB, hg, hC, hH, hS, hL⟩ := hb
  obtain ⟨ce, hcl, hM, hcc, hfr⟩ := Kd.R_elem hC z62 i h0 h1
  obtain rfl := k62_openM hM
  have HP := Kd.R_seg hC i h0 h1 (seg := [.int .u64 x, .int .i64 y]) (j := 0) hcl hcc (show 2 ≤ 2 from by decide) (x' := (⟨x, y⟩ : S62)) (k62_mkM _ _ _ (⟨x, y⟩ : S62)) (fun _ hk => hk)
  have hx0 := hcc 0 _ rfl
  have hx1 := hcc 1 _ rfl
  have hf0 := hfr 0
  have hf1 := hfr 1
  simp only [show (k62).sz = 2 from rfl, Nat.mul_one, Nat.add_zero] at hx0 hx1 hf0 hf1
  obtain ⟨gc', cc', he, hbc, hlc, hcells⟩ := Kd.R_form hC (by omega)
  injection he with he _ _
  injection he with he
  injection he with he
  subst he
  refine ⟨⟨_, hx0⟩, ⟨_, hx1⟩, hf0, hf1, ⟨?_, hg, HP.1, ?_, ?_, ?_⟩, ?_⟩
  · exact blk_grown (g := g) hB HP.2 (by have := Kd.R_ne hC hB (by decide); simpa [Value.ownBlock] using this)
  · exact Kd.R_over' (v := (.slice (some ⟨gc, 0, none⟩) cl.length cc)) hH (Kd.R_typed hC) (by decide) HP.2
  · exact Kd.R_over' (v := (.slice (some ⟨gc, 0, none⟩) cl.length cc)) hS (Kd.R_typed hC) (by decide) HP.2
  · exact Kd.R_over' (v := (.slice (some ⟨gc, 0, none⟩) cl.length cc)) hL (Kd.R_typed hC) (by decide) HP.2
  · exact (((Below.refl base w).setCell (p := ⟨gc, i.toNat * 2, none⟩) hbc _).setCell (p := ⟨gc, i.toNat * 2 + 1, none⟩) hbc _)
/-- What a place has is written. -/
theorem BdS.put_has {w : World} {base g gh ch : Nat} {T : Int} {vc vs vl : Value} {cl : List S62} {hs sm lg : List Int} (hb : BdS w base g T vc (.slice (some ⟨gh, 0, none⟩) hs.length ch) vs vl cl hs sm lg) (i x : Int) (h0 : 0 ≤ i) (h1 : i < hs.length) :
    w.frozen? ⟨gh, i.toNat, none⟩ = false ∧ BdS (w.setCell ⟨gh, i.toNat, none⟩ (.int .u64 x)) base g T vc (.slice (some ⟨gh, 0, none⟩) hs.length ch) vs vl cl (hs.set i.toNat x) sm lg ∧ Below base w (w.setCell ⟨gh, i.toNat, none⟩ (.int .u64 x)) := by
  obtain ⟨hB, hg, hC, hH, hS, hL⟩ := hb
  have HP := Kd.R_putg hH i x
  obtain ⟨gh', ch', he, hbc, hlc, cells, hcells⟩ := Kd.R_form hH (by omega)
  injection he with he _ _
  injection he with he
  injection he with he
  subst he
  refine ⟨blk_frozen hcells _, ⟨?_, hg, ?_, HP.1, ?_, ?_⟩, ?_⟩
  · exact blk_grown (g := g) hB HP.2 (by have := Kd.R_ne hH hB (by decide); simpa [Value.ownBlock] using this)
  · exact Kd.R_over' (v := (.slice (some ⟨gh, 0, none⟩) hs.length ch)) hC (Kd.R_typed hH) (by decide) HP.2
  · exact Kd.R_over' (v := (.slice (some ⟨gh, 0, none⟩) hs.length ch)) hS (Kd.R_typed hH) (by decide) HP.2
  · exact Kd.R_over' (v := (.slice (some ⟨gh, 0, none⟩) hs.length ch)) hL (Kd.R_typed hH) (by decide) HP.2
  · exact ((Below.refl base w).setCell (p := ⟨gh, i.toNat, none⟩) hbc _)

theorem pop_small' {w : World} {base g : Nat} {T : Int} {vc vh vs vl : Value} {cl : List S62} {hs sm lg : List Int} (hb : BdS w base g T vc vh vs vl cl hs sm lg) (h0 : 0 ≤ wrap64 ((sm.length : Int) - 1)) (h1 : wrap64 ((sm.length : Int) - 1) < sm.length) (i : Int) (hi : rd sm (wrap64 ((sm.length : Int) - 1)) = i) (sm' : List Int) (hsm : sm.take (wrap64 ((sm.length : Int) - 1)).toNat = sm') :
    Calls Try.prog 74 #[.pointer (some ⟨g, 3, none⟩)] w fun e w' => e = .returned (.int .i64 i) ∧ Below base w w' ∧ ∃ vs', BdS w' base g T vc vh vs' vl cl hs sm' lg := by
  subst hi hsm
  exact pop_small hb h0 h1
theorem pop_large' {w : World} {base g : Nat} {T : Int} {vc vh vs vl : Value} {cl : List S62} {hs sm lg : List Int} (hb : BdS w base g T vc vh vs vl cl hs sm lg) (h0 : 0 ≤ wrap64 ((lg.length : Int) - 1)) (h1 : wrap64 ((lg.length : Int) - 1) < lg.length) (i : Int) (hi : rd lg (wrap64 ((lg.length : Int) - 1)) = i) (lg' : List Int) (hlg : lg.take (wrap64 ((lg.length : Int) - 1)).toNat = lg') :
    Calls Try.prog 74 #[.pointer (some ⟨g, 4, none⟩)] w fun e w' => e = .returned (.int .i64 i) ∧ Below base w w' ∧ ∃ vl', BdS w' base g T vc vh vs vl' cl hs sm lg' := by
  subst hi hlg
  exact pop_large hb h0 h1
theorem sort_calls {w : World} {base g : Nat} {T : Int} {vc vh vs vl : Value} {cl : List S62} {hs sm lg : List Int} (hb : BdS w base g T vc vh vs vl cl hs sm lg) (i : Int) (h0 : 0 ≤ i) (h1 : i < hs.length) (ls : sm.length < 17592186044416) (ll : lg.length < 17592186044416) (x : Int) (hx : rd hs i = x) (sm2 lg2 : List Int) (h2 : (if x < T then sm ++ [i] else sm) = sm2) (h3 : (if x < T then lg else lg ++ [i]) = lg2) :
    Calls Try.prog 50 #[.pointer (some ⟨g, 0, none⟩), .int .i64 i] w fun e w' => e = .returned (.tuple #[]) ∧ Below base w w' ∧ ∃ vs' vl', BdS w' base g T vc vh vs' vl' cl hs sm2 lg2 := by
  subst hx
  by_cases c : rd hs i < T
  · rw [if_pos c] at h2 h3
    subst h2 h3
    refine (sort_small hb i h0 h1 ls c).mono ?_
    rintro e w' ⟨h, hB, vs', hb'⟩
    exact ⟨h, hB, vs', vl, hb'⟩
  · rw [if_neg c] at h2 h3
    subst h2 h3
    refine (sort_large hb i h0 h1 ll c).mono ?_
    rintro e w' ⟨h, hB, vl', hb'⟩
    exact ⟨h, hB, vs, vl', hb'⟩
set_option maxHeartbeats 8000000 in
set_option maxRecDepth 100000 in
theorem pair_calls {w : World} {base g : Nat} {T : Int} {vc vh vs vl : Value} {cl : List S62} {hs sm lg : List Int} (hbd : BdS w base g T vc vh vs vl cl hs sm lg) (a0 : 0 ≤ wrap64 ((sm.length : Int) - 1)) (a1 : wrap64 ((sm.length : Int) - 1) < sm.length) (b0 : 0 ≤ wrap64 ((lg.length : Int) - 1)) (b1 : wrap64 ((lg.length : Int) - 1) < lg.length)
    (i k : Int) (hi : rd sm (wrap64 ((sm.length : Int) - 1)) = i) (hk : rd lg (wrap64 ((lg.length : Int) - 1)) = k) (sm' lg' : List Int) (hsm : sm.take (wrap64 ((sm.length : Int) - 1)).toNat = sm') (hlg : lg.take (wrap64 ((lg.length : Int) - 1)).toNat = lg')
    (i0 : 0 ≤ i) (i1 : i < hs.length) (i2 : i < cl.length) (k0 : 0 ≤ k) (k1 : k < hs.length) (x : Int) (hx : IntKind.u64.wrap (rd hs k - IntKind.u64.wrap (T - rd hs i)) = x) (ls : sm'.length < 17592186044416) (ll : lg'.length < 17592186044416) (sm2 lg2 : List Int) (h2 : (if x < T then sm' ++ [k] else sm') = sm2) (h3 : (if x < T then lg' else lg' ++ [k]) = lg2) :
    Calls Try.prog 51 #[.pointer (some ⟨g, 0, none⟩)] w fun e w' => e = .returned (.tuple #[]) ∧ Below base w w' ∧ ∃ vs' vl', BdS w' base g T vc vh vs' vl' (cl.set i.toNat ⟨rd hs i, k⟩) (hs.set k.toNat x) sm2 lg2 := by
  obtain ⟨gc, cc, rfl, _⟩ := Kd.R_form hbd.2.2.1 (by omega)
  obtain ⟨gh, ch, rfl, _⟩ := Kd.R_form hbd.2.2.2.1 (by omega)
  have hb0 := below_drew1 (Below.refl base w)
  replace hbd := hbd.drew
  have p1 := eq_true i0
  have q1 := eq_true i1
  have q2 := eq_true i2
  have p3 := eq_true k0
  have q3 := eq_true k1
  have H2 := Aside0.mk h2
  have H3 := Aside0.mk h3
  clear h2 h3
  go_enter Try.func51, Try.ntmps51
  try go_wp2
  refine start_ (n := 10) (S := fun w' => True) (ds := []) #[false, false, false, false, false, false, false, false, false, false] (by kernel_rfl) rfl rfl trivial (fun hHeld => ?_)
  generalize w.drew = wd at hbd hb0 ⊢
  refine pure_ (i := 0) (N := some 4) (v := ?_) (a' := ?_) #[true, false, false, false, false, false, false, false, false, false] rfl rfl (by kernel_rfl) (fun _ _ _ h => h) (Or.inl ⟨by rfl, ?_⟩) ?_ ?_
  rotate_left
  · intro w'
    go_simp
    with_reducible rfl
  rotate_left
  · simp only [Act.put, List.setIfInBounds_toArray, List.set_cons_zero, List.set_cons_succ, i64_w, i32_w]
    rfl
  refine pure_ (i := 1) (N := some 5) (v := ?_) (a' := ?_) #[true, true, false, false, false, false, false, false, false, false] rfl rfl (by kernel_rfl) (fun _ _ _ h => h) (Or.inl ⟨by rfl, ?_⟩) ?_ ?_
  rotate_left
  · intro w'
    go_simp
    with_reducible rfl
  rotate_left
  · simp only [Act.put, List.setIfInBounds_toArray, List.set_cons_zero, List.set_cons_succ, i64_w, i32_w]
    rfl
  refine pure_ (i := 2) (N := some 6) (v := ?_) (a' := ?_) #[true, true, true, false, false, false, false, false, false, false] rfl rfl (by kernel_rfl) (fun _ _ _ h => h) (Or.inl ⟨by rfl, ?_⟩) ?_ ?_
  rotate_left
  · intro w'
    go_simp
    with_reducible rfl
  rotate_left
  · simp only [Act.put, List.setIfInBounds_toArray, List.set_cons_zero, List.set_cons_succ, i64_w, i32_w]
    rfl
  refine pure_ (i := 4) (N := some 8) (v := ?_) (a' := ?_) #[true, true, true, false, true, false, false, false, false, false] rfl rfl (by kernel_rfl) (fun _ _ _ h => h) (Or.inl ⟨by rfl, ?_⟩) ?_ ?_
  rotate_left
  · intro w'
    go_simp
    with_reducible rfl
  rotate_left
  · simp only [Act.put, List.setIfInBounds_toArray, List.set_cons_zero, List.set_cons_succ, i64_w, i32_w]
    rfl
  refine pure_ (i := 5) (N := some 9) (v := ?_) (a' := ?_) #[true, true, true, false, true, true, false, false, false, false] rfl rfl (by kernel_rfl) (fun _ _ _ h => h) (Or.inl ⟨by rfl, ?_⟩) ?_ ?_
  rotate_left
  · intro w'
    go_simp
    with_reducible rfl
  rotate_left
  · simp only [Act.put, List.setIfInBounds_toArray, List.set_cons_zero, List.set_cons_succ, i64_w, i32_w]
    rfl
  refine pure_ (i := 6) (N := some 10) (v := ?_) (a' := ?_) #[true, true, true, false, true, true, true, false, false, false] rfl rfl (by kernel_rfl) (fun _ _ _ h => h) (Or.inl ⟨by rfl, ?_⟩) ?_ ?_
  rotate_left
  · intro w'
    go_simp
    with_reducible rfl
  rotate_left
  · simp only [Act.put, List.setIfInBounds_toArray, List.set_cons_zero, List.set_cons_succ, i64_w, i32_w]
    rfl
  refine one_ (i := 3) (N := some 7) #[true, true, true, true, true, true, true, false, false, false] rfl rfl (by kernel_rfl) (by decide) (fun K hK => ?_)
  refine goes_ Try.func74 (by kernel_rfl) rfl #[.pointer (some ⟨g, 3, none⟩)] (by rfl) rfl rfl (by simp only [List.map_toArray, List.map_cons, List.map_nil]; rfl) ?_
  with_reducible refine (pop_small' hbd a0 a1 i hi sm' hsm).mono ?_
  rintro e w3 ⟨rfl, hb1, vs1, hbd1⟩
  refine ⟨_, rfl, ?_⟩
  refine hK.out _ _ trivial (fun hHeld => ?_)
  clear hK K
  refine norm_ (a' := ?_) ?_ ?_
  rotate_left
  · show Act.put _ (some 7) _ = _
    simp only [Act.put, List.setIfInBounds_toArray, List.set_cons_zero, List.set_cons_succ, i64_w, i32_w]
    rfl
  refine one_ (i := 7) (N := some 11) #[true, true, true, true, true, true, true, true, false, false] rfl rfl (by kernel_rfl) (by decide) (fun K hK => ?_)
  refine goes_ Try.func74 (by kernel_rfl) rfl #[.pointer (some ⟨g, 4, none⟩)] (by rfl) rfl rfl (by simp only [List.map_toArray, List.map_cons, List.map_nil]; rfl) ?_
  with_reducible refine (pop_large' hbd1 b0 b1 k hk lg' hlg).mono ?_
  rintro e w4 ⟨rfl, hb2, vl1, hbd2⟩
  refine ⟨_, rfl, ?_⟩
  refine hK.out _ _ trivial (fun hHeld => ?_)
  clear hK K
  refine norm_ (a' := ?_) ?_ ?_
  rotate_left
  · show Act.put _ (some 11) _ = _
    simp only [Act.put, List.setIfInBounds_toArray, List.set_cons_zero, List.set_cons_succ, i64_w, i32_w]
    rfl
  refine pure_ (i := 8) (N := some 2) (v := ?_) (a' := ?_) #[true, true, true, true, true, true, true, true, true, false] rfl rfl (by kernel_rfl) (fun _ _ _ h => h) (Or.inl ⟨by rfl, ?_⟩) ?_ ?_
  rotate_left
  · intro w'
    go_simp
    with_reducible rfl
  rotate_left
  · simp only [Act.put, List.setIfInBounds_toArray, List.set_cons_zero, List.set_cons_succ, i64_w, i32_w]
    rfl
  refine pure_ (i := 9) (N := some 3) (v := ?_) (a' := ?_) #[true, true, true, true, true, true, true, true, true, true] rfl rfl (by kernel_rfl) (fun _ _ _ h => h) (Or.inl ⟨by rfl, ?_⟩) ?_ ?_
  rotate_left
  · intro w'
    go_simp
    with_reducible rfl
  rotate_left
  · simp only [Act.put, List.setIfInBounds_toArray, List.set_cons_zero, List.set_cons_succ, i64_w, i32_w]
    rfl
  refine done_ (by kernel_rfl) ?_
  
  try go_wp2
  clear hHeld
  replace hbd2 := hbd2.drew
  replace hb2 := ((hb0.trans hb1).trans hb2).drew
  obtain ⟨⟨u0, hu0⟩, ⟨u1, hu1⟩, hf0, hf1, hbd3, hb3⟩ := hbd2.put i (rd hs i) k i0 i2
  refine start_ (n := 17) (S := fun w' => w'.cell? ⟨g, 1, none⟩ = some (.slice (some ⟨gc, 0, none⟩) cl.length cc) ∧ w'.cell? ⟨g, 2, none⟩ = some (.slice (some ⟨gh, 0, none⟩) hs.length ch) ∧ w'.cell? ⟨gh, i.toNat, none⟩ = some (.int .u64 (rd hs i))) (ds := [16]) #[false, false, false, false, false, false, false, false, false, false, false, false, false, false, false, false, false] (by kernel_rfl) rfl rfl ⟨hbd2.cells.2.1, hbd2.cells.2.2.1, hbd2.has i i0 i1⟩ (fun hHeld => ?_)
  generalize w4.drew = we at hbd2 hb2 hf0 hf1 hu0 hu1 hbd3 hb3 hHeld ⊢
  refine pure_ (i := 0) (N := some 12) (v := ?_) (a' := ?_) #[true, false, false, false, false, false, false, false, false, false, false, false, false, false, false, false, false] rfl rfl (by kernel_rfl) (fun _ _ _ h => h) (Or.inl ⟨by rfl, ?_⟩) ?_ ?_
  rotate_left
  · intro w'
    go_simp
    with_reducible rfl
  rotate_left
  · simp only [Act.put, List.setIfInBounds_toArray, List.set_cons_zero, List.set_cons_succ, i64_w, i32_w]
    rfl
  refine pure_ (i := 1) (N := some 13) (v := ?_) (a' := ?_) #[true, true, false, false, false, false, false, false, false, false, false, false, false, false, false, false, false] rfl rfl (by kernel_rfl) (fun _ _ _ h => h) (Or.inl ⟨by rfl, ?_⟩) ?_ ?_
  rotate_left
  · intro w'
    go_simp
    with_reducible rfl
  rotate_left
  · simp only [Act.put, List.setIfInBounds_toArray, List.set_cons_zero, List.set_cons_succ, i64_w, i32_w]
    rfl
  refine pure_ (i := 2) (N := some 14) (v := ?_) (a' := ?_) #[true, true, true, false, false, false, false, false, false, false, false, false, false, false, false, false, false] rfl rfl (by kernel_rfl) (fun _ _ _ h => h) (Or.inl ⟨by rfl, ?_⟩) ?_ ?_
  rotate_left
  · intro w'
    go_simp
    with_reducible rfl
  rotate_left
  · simp only [Act.put, List.setIfInBounds_toArray, List.set_cons_zero, List.set_cons_succ, i64_w, i32_w]
    rfl
  refine pure_ (i := 3) (N := some 15) (v := ?_) (a' := ?_) #[true, true, true, true, false, false, false, false, false, false, false, false, false, false, false, false, false] rfl rfl (by kernel_rfl) (fun _ _ _ h => h) (Or.inl ⟨by rfl, ?_⟩) ?_ ?_
  rotate_left
  · intro w'
    go_simp
    with_reducible rfl
  rotate_left
  · simp only [Act.put, List.setIfInBounds_toArray, List.set_cons_zero, List.set_cons_succ, i64_w, i32_w]
    rfl
  refine pure_ (i := 5) (N := some 17) (v := ?_) (a' := ?_) #[true, true, true, true, false, true, false, false, false, false, false, false, false, false, false, false, false] rfl rfl (by kernel_rfl) (fun _ _ _ h => h) (Or.inl ⟨by rfl, ?_⟩) ?_ ?_
  rotate_left
  · intro w'
    go_simp
    with_reducible rfl
  rotate_left
  · simp only [Act.put, List.setIfInBounds_toArray, List.set_cons_zero, List.set_cons_succ, i64_w, i32_w]
    rfl
  refine pure_ (i := 6) (N := some 18) (v := ?_) (a' := ?_) #[true, true, true, true, false, true, true, false, false, false, false, false, false, false, false, false, false] rfl rfl (by kernel_rfl) (fun _ _ _ h => h) (Or.inl ⟨by rfl, ?_⟩) ?_ ?_
  rotate_left
  · intro w'
    go_simp
    with_reducible rfl
  rotate_left
  · simp only [Act.put, List.setIfInBounds_toArray, List.set_cons_zero, List.set_cons_succ, i64_w, i32_w]
    rfl
  refine pure_ (i := 7) (N := some 19) (v := ?_) (a' := ?_) #[true, true, true, true, false, true, true, true, false, false, false, false, false, false, false, false, false] rfl rfl (by kernel_rfl) (fun _ _ _ h => h) (Or.inl ⟨by rfl, ?_⟩) ?_ ?_
  rotate_left
  · intro w'
    go_simp
    with_reducible rfl
  rotate_left
  · simp only [Act.put, List.setIfInBounds_toArray, List.set_cons_zero, List.set_cons_succ, i64_w, i32_w]
    rfl
  refine pure_ (i := 8) (N := some 20) (v := ?_) (a' := ?_) #[true, true, true, true, false, true, true, true, true, false, false, false, false, false, false, false, false] rfl rfl (by kernel_rfl) (fun _ _ _ h => h) (Or.inl ⟨by rfl, ?_⟩) ?_ ?_
  rotate_left
  · intro w'
    go_simp
    with_reducible rfl
  rotate_left
  · simp only [Act.put, List.setIfInBounds_toArray, List.set_cons_zero, List.set_cons_succ, i64_w, i32_w]
    rfl
  refine pure_ (i := 10) (N := some 22) (v := ?_) (a' := ?_) #[true, true, true, true, false, true, true, true, true, false, true, false, false, false, false, false, false] rfl rfl (by kernel_rfl) (fun _ _ _ h => h) (Or.inl ⟨by rfl, ?_⟩) ?_ ?_
  rotate_left
  · intro w'
    go_simp
    with_reducible rfl
  rotate_left
  · simp only [Act.put, List.setIfInBounds_toArray, List.set_cons_zero, List.set_cons_succ, i64_w, i32_w]
    rfl
  refine pure_ (i := 13) (N := some 25) (v := ?_) (a' := ?_) #[true, true, true, true, false, true, true, true, true, false, true, false, false, true, false, false, false] rfl rfl (by kernel_rfl) (fun _ _ _ h => h) (Or.inl ⟨by rfl, ?_⟩) ?_ ?_
  rotate_left
  · intro w'
    go_simp
    with_reducible rfl
  rotate_left
  · simp only [Act.put, List.setIfInBounds_toArray, List.set_cons_zero, List.set_cons_succ, i64_w, i32_w]
    rfl
  refine take_ (i := 4) (N := some 16) (v := ?_) (a' := ?_) #[true, true, true, true, true, true, true, true, true, false, true, false, false, true, false, false, false] rfl rfl (by kernel_rfl) (fun _ _ _ h => h) (Or.inl ⟨by rfl, ?_⟩) hHeld ?_ ?_
  rotate_left
  · rintro w' ⟨s0, s1, s2⟩
    go_simp
    with_reducible rfl
  rotate_left
  · simp only [Act.put, List.setIfInBounds_toArray, List.set_cons_zero, List.set_cons_succ, i64_w, i32_w]
    rfl
  refine take_ (i := 9) (N := some 21) (v := ?_) (a' := ?_) #[true, true, true, true, true, true, true, true, true, true, true, false, false, true, false, false, false] rfl rfl (by kernel_rfl) (fun _ _ _ h => h) (Or.inl ⟨by rfl, ?_⟩) hHeld ?_ ?_
  rotate_left
  · rintro w' ⟨s0, s1, s2⟩
    go_simp
    with_reducible rfl
  rotate_left
  · simp only [Act.put, List.setIfInBounds_toArray, List.set_cons_zero, List.set_cons_succ, i64_w, i32_w]
    rfl
  refine pure_ (i := 11) (N := some 23) (v := ?_) (a' := ?_) #[true, true, true, true, true, true, true, true, true, true, true, true, false, true, false, false, false] rfl rfl (by kernel_rfl) (fun _ _ _ h => h) (Or.inl ⟨by rfl, ?_⟩) ?_ ?_
  rotate_left
  · intro w'
    go_simp
    with_reducible rfl
  rotate_left
  · simp only [Act.put, List.setIfInBounds_toArray, List.set_cons_zero, List.set_cons_succ, i64_w, i32_w]
    rfl
  refine take_ (i := 12) (N := some 24) (v := ?_) (a' := ?_) #[true, true, true, true, true, true, true, true, true, true, true, true, true, true, false, false, false] rfl rfl (by kernel_rfl) (fun _ _ _ h => h) (Or.inl ⟨by rfl, ?_⟩) hHeld ?_ ?_
  rotate_left
  · rintro w' ⟨s0, s1, s2⟩
    go_simp
    with_reducible rfl
  rotate_left
  · simp only [Act.put, List.setIfInBounds_toArray, List.set_cons_zero, List.set_cons_succ, i64_w, i32_w]
    rfl
  refine pure_ (i := 14) (N := some 26) (v := ?_) (a' := ?_) #[true, true, true, true, true, true, true, true, true, true, true, true, true, true, true, false, false] rfl rfl (by kernel_rfl) (fun _ _ _ h => h) (Or.inl ⟨by rfl, ?_⟩) ?_ ?_
  rotate_left
  · intro w'
    go_simp
    with_reducible rfl
  rotate_left
  · simp only [Act.put, List.setIfInBounds_toArray, List.set_cons_zero, List.set_cons_succ, i64_w, i32_w]
    rfl
  refine pure_ (i := 15) (N := some 27) (v := ?_) (a' := ?_) #[true, true, true, true, true, true, true, true, true, true, true, true, true, true, true, true, false] rfl rfl (by kernel_rfl) (fun _ _ _ h => h) (Or.inl ⟨by rfl, ?_⟩) ?_ ?_
  rotate_left
  · intro w'
    go_simp
    with_reducible rfl
  rotate_left
  · simp only [Act.put, List.setIfInBounds_toArray, List.set_cons_zero, List.set_cons_succ, i64_w, i32_w]
    rfl
  refine last_ (i := 16) (N := none) #[true, true, true, true, true, true, true, true, true, true, true, true, true, true, true, true, true] rfl rfl (by kernel_rfl) (by decide) (fun K hK => ?_)
  refine skip_ (w1 := ?_) (by rfl) rfl ?_ ?_
  rotate_left
  · go_simp
    rfl
  refine hK.out _ _ ?_
  clear hK K
  refine done_ (by kernel_rfl) ?_
  
  try go_wp2
  clear hHeld hu0 hu1 hf0 hf1
  replace hb3 := hb2.trans hb3
  generalize (we.setCell ⟨gc, i.toNat * 2, none⟩ (.int .u64 (rd hs i))).setCell ⟨gc, i.toNat * 2 + 1, none⟩ (.int .i64 k) = wf at hbd3 hb3 ⊢
  clear hb2 hbd2 hbd1 hb1 hbd hb0
  replace hbd3 := hbd3.drew
  replace hb3 := hb3.drew
  have hcl : (cl.set i.toNat (⟨rd hs i, k⟩ : S62)).length = cl.length := List.length_set
  obtain ⟨hf, hbd4, hb4⟩ := hbd3.put_has k x k0 k1
  refine start_ (n := 23) (S := fun w' => w'.cell? ⟨g, 0, none⟩ = some (.int .u64 T) ∧ w'.cell? ⟨g, 2, none⟩ = some (.slice (some ⟨gh, 0, none⟩) hs.length ch) ∧ w'.cell? ⟨gh, k.toNat, none⟩ = some (.int .u64 (rd hs k)) ∧ w'.cell? ⟨gh, i.toNat, none⟩ = some (.int .u64 (rd hs i))) (ds := [22]) #[false, false, false, false, false, false, false, false, false, false, false, false, false, false, false, false, false, false, false, false, false, false, false] (by kernel_rfl) rfl rfl ⟨hbd3.cells.1, hbd3.cells.2.2.1, hbd3.has k k0 k1, hbd3.has i i0 i1⟩ (fun hHeld => ?_)
  generalize wf.drew = wg at hbd3 hf hbd4 hb3 hb4 hHeld ⊢
  refine pure_ (i := 0) (N := some 28) (v := ?_) (a' := ?_) #[true, false, false, false, false, false, false, false, false, false, false, false, false, false, false, false, false, false, false, false, false, false, false] rfl rfl (by kernel_rfl) (fun _ _ _ h => h) (Or.inl ⟨by rfl, ?_⟩) ?_ ?_
  rotate_left
  · intro w'
    go_simp
    with_reducible rfl
  rotate_left
  · simp only [Act.put, List.setIfInBounds_toArray, List.set_cons_zero, List.set_cons_succ, i64_w, i32_w]
    rfl
  refine pure_ (i := 1) (N := some 29) (v := ?_) (a' := ?_) #[true, true, false, false, false, false, false, false, false, false, false, false, false, false, false, false, false, false, false, false, false, false, false] rfl rfl (by kernel_rfl) (fun _ _ _ h => h) (Or.inl ⟨by rfl, ?_⟩) ?_ ?_
  rotate_left
  · intro w'
    go_simp
    with_reducible rfl
  rotate_left
  · simp only [Act.put, List.setIfInBounds_toArray, List.set_cons_zero, List.set_cons_succ, i64_w, i32_w]
    rfl
  refine pure_ (i := 2) (N := some 30) (v := ?_) (a' := ?_) #[true, true, true, false, false, false, false, false, false, false, false, false, false, false, false, false, false, false, false, false, false, false, false] rfl rfl (by kernel_rfl) (fun _ _ _ h => h) (Or.inl ⟨by rfl, ?_⟩) ?_ ?_
  rotate_left
  · intro w'
    go_simp
    with_reducible rfl
  rotate_left
  · simp only [Act.put, List.setIfInBounds_toArray, List.set_cons_zero, List.set_cons_succ, i64_w, i32_w]
    rfl
  refine pure_ (i := 4) (N := some 32) (v := ?_) (a' := ?_) #[true, true, true, false, true, false, false, false, false, false, false, false, false, false, false, false, false, false, false, false, false, false, false] rfl rfl (by kernel_rfl) (fun _ _ _ h => h) (Or.inl ⟨by rfl, ?_⟩) ?_ ?_
  rotate_left
  · intro w'
    go_simp
    with_reducible rfl
  rotate_left
  · simp only [Act.put, List.setIfInBounds_toArray, List.set_cons_zero, List.set_cons_succ, i64_w, i32_w]
    rfl
  refine pure_ (i := 7) (N := some 35) (v := ?_) (a' := ?_) #[true, true, true, false, true, false, false, true, false, false, false, false, false, false, false, false, false, false, false, false, false, false, false] rfl rfl (by kernel_rfl) (fun _ _ _ h => h) (Or.inl ⟨by rfl, ?_⟩) ?_ ?_
  rotate_left
  · intro w'
    go_simp
    with_reducible rfl
  rotate_left
  · simp only [Act.put, List.setIfInBounds_toArray, List.set_cons_zero, List.set_cons_succ, i64_w, i32_w]
    rfl
  refine pure_ (i := 8) (N := some 36) (v := ?_) (a' := ?_) #[true, true, true, false, true, false, false, true, true, false, false, false, false, false, false, false, false, false, false, false, false, false, false] rfl rfl (by kernel_rfl) (fun _ _ _ h => h) (Or.inl ⟨by rfl, ?_⟩) ?_ ?_
  rotate_left
  · intro w'
    go_simp
    with_reducible rfl
  rotate_left
  · simp only [Act.put, List.setIfInBounds_toArray, List.set_cons_zero, List.set_cons_succ, i64_w, i32_w]
    rfl
  refine pure_ (i := 9) (N := some 37) (v := ?_) (a' := ?_) #[true, true, true, false, true, false, false, true, true, true, false, false, false, false, false, false, false, false, false, false, false, false, false] rfl rfl (by kernel_rfl) (fun _ _ _ h => h) (Or.inl ⟨by rfl, ?_⟩) ?_ ?_
  rotate_left
  · intro w'
    go_simp
    with_reducible rfl
  rotate_left
  · simp only [Act.put, List.setIfInBounds_toArray, List.set_cons_zero, List.set_cons_succ, i64_w, i32_w]
    rfl
  refine pure_ (i := 10) (N := some 38) (v := ?_) (a' := ?_) #[true, true, true, false, true, false, false, true, true, true, true, false, false, false, false, false, false, false, false, false, false, false, false] rfl rfl (by kernel_rfl) (fun _ _ _ h => h) (Or.inl ⟨by rfl, ?_⟩) ?_ ?_
  rotate_left
  · intro w'
    go_simp
    with_reducible rfl
  rotate_left
  · simp only [Act.put, List.setIfInBounds_toArray, List.set_cons_zero, List.set_cons_succ, i64_w, i32_w]
    rfl
  refine pure_ (i := 12) (N := some 40) (v := ?_) (a' := ?_) #[true, true, true, false, true, false, false, true, true, true, true, false, true, false, false, false, false, false, false, false, false, false, false] rfl rfl (by kernel_rfl) (fun _ _ _ h => h) (Or.inl ⟨by rfl, ?_⟩) ?_ ?_
  rotate_left
  · intro w'
    go_simp
    with_reducible rfl
  rotate_left
  · simp only [Act.put, List.setIfInBounds_toArray, List.set_cons_zero, List.set_cons_succ, i64_w, i32_w]
    rfl
  refine pure_ (i := 13) (N := some 41) (v := ?_) (a' := ?_) #[true, true, true, false, true, false, false, true, true, true, true, false, true, true, false, false, false, false, false, false, false, false, false] rfl rfl (by kernel_rfl) (fun _ _ _ h => h) (Or.inl ⟨by rfl, ?_⟩) ?_ ?_
  rotate_left
  · intro w'
    go_simp
    with_reducible rfl
  rotate_left
  · simp only [Act.put, List.setIfInBounds_toArray, List.set_cons_zero, List.set_cons_succ, i64_w, i32_w]
    rfl
  refine pure_ (i := 14) (N := some 42) (v := ?_) (a' := ?_) #[true, true, true, false, true, false, false, true, true, true, true, false, true, true, true, false, false, false, false, false, false, false, false] rfl rfl (by kernel_rfl) (fun _ _ _ h => h) (Or.inl ⟨by rfl, ?_⟩) ?_ ?_
  rotate_left
  · intro w'
    go_simp
    with_reducible rfl
  rotate_left
  · simp only [Act.put, List.setIfInBounds_toArray, List.set_cons_zero, List.set_cons_succ, i64_w, i32_w]
    rfl
  refine pure_ (i := 16) (N := some 44) (v := ?_) (a' := ?_) #[true, true, true, false, true, false, false, true, true, true, true, false, true, true, true, false, true, false, false, false, false, false, false] rfl rfl (by kernel_rfl) (fun _ _ _ h => h) (Or.inl ⟨by rfl, ?_⟩) ?_ ?_
  rotate_left
  · intro w'
    go_simp
    with_reducible rfl
  rotate_left
  · simp only [Act.put, List.setIfInBounds_toArray, List.set_cons_zero, List.set_cons_succ, i64_w, i32_w]
    rfl
  refine take_ (i := 3) (N := some 31) (v := ?_) (a' := ?_) #[true, true, true, true, true, false, false, true, true, true, true, false, true, true, true, false, true, false, false, false, false, false, false] rfl rfl (by kernel_rfl) (fun _ _ _ h => h) (Or.inl ⟨by rfl, ?_⟩) hHeld ?_ ?_
  rotate_left
  · rintro w' ⟨s0, s1, s2, s3⟩
    go_simp
    with_reducible rfl
  rotate_left
  · simp only [Act.put, List.setIfInBounds_toArray, List.set_cons_zero, List.set_cons_succ, i64_w, i32_w]
    rfl
  refine pure_ (i := 5) (N := some 33) (v := ?_) (a' := ?_) #[true, true, true, true, true, true, false, true, true, true, true, false, true, true, true, false, true, false, false, false, false, false, false] rfl rfl (by kernel_rfl) (fun _ _ _ h => h) (Or.inl ⟨by rfl, ?_⟩) ?_ ?_
  rotate_left
  · intro w'
    go_simp
    with_reducible rfl
  rotate_left
  · simp only [Act.put, List.setIfInBounds_toArray, List.set_cons_zero, List.set_cons_succ, i64_w, i32_w]
    rfl
  refine take_ (i := 6) (N := some 34) (v := ?_) (a' := ?_) #[true, true, true, true, true, true, true, true, true, true, true, false, true, true, true, false, true, false, false, false, false, false, false] rfl rfl (by kernel_rfl) (fun _ _ _ h => h) (Or.inl ⟨by rfl, ?_⟩) hHeld ?_ ?_
  rotate_left
  · rintro w' ⟨s0, s1, s2, s3⟩
    go_simp
    with_reducible rfl
  rotate_left
  · simp only [Act.put, List.setIfInBounds_toArray, List.set_cons_zero, List.set_cons_succ, i64_w, i32_w]
    rfl
  refine take_ (i := 11) (N := some 39) (v := ?_) (a' := ?_) #[true, true, true, true, true, true, true, true, true, true, true, true, true, true, true, false, true, false, false, false, false, false, false] rfl rfl (by kernel_rfl) (fun _ _ _ h => h) (Or.inl ⟨by rfl, ?_⟩) hHeld ?_ ?_
  rotate_left
  · rintro w' ⟨s0, s1, s2, s3⟩
    go_simp
    with_reducible rfl
  rotate_left
  · simp only [Act.put, List.setIfInBounds_toArray, List.set_cons_zero, List.set_cons_succ, i64_w, i32_w]
    rfl
  refine take_ (i := 15) (N := some 43) (v := ?_) (a' := ?_) #[true, true, true, true, true, true, true, true, true, true, true, true, true, true, true, true, true, false, false, false, false, false, false] rfl rfl (by kernel_rfl) (fun _ _ _ h => h) (Or.inl ⟨by rfl, ?_⟩) hHeld ?_ ?_
  rotate_left
  · rintro w' ⟨s0, s1, s2, s3⟩
    go_simp
    with_reducible rfl
  rotate_left
  · simp only [Act.put, List.setIfInBounds_toArray, List.set_cons_zero, List.set_cons_succ, i64_w, i32_w]
    rfl
  refine pure_ (i := 17) (N := some 45) (v := ?_) (a' := ?_) #[true, true, true, true, true, true, true, true, true, true, true, true, true, true, true, true, true, true, false, false, false, false, false] rfl rfl (by kernel_rfl) (fun _ _ _ h => h) (Or.inl ⟨by rfl, ?_⟩) ?_ ?_
  rotate_left
  · intro w'
    go_simp
    with_reducible rfl
  rotate_left
  · simp only [Act.put, List.setIfInBounds_toArray, List.set_cons_zero, List.set_cons_succ, i64_w, i32_w]
    rfl
  refine take_ (i := 18) (N := some 46) (v := ?_) (a' := ?_) #[true, true, true, true, true, true, true, true, true, true, true, true, true, true, true, true, true, true, true, false, false, false, false] rfl rfl (by kernel_rfl) (fun _ _ _ h => h) (Or.inl ⟨by rfl, ?_⟩) hHeld ?_ ?_
  rotate_left
  · rintro w' ⟨s0, s1, s2, s3⟩
    go_simp
    with_reducible rfl
  rotate_left
  · simp only [Act.put, List.setIfInBounds_toArray, List.set_cons_zero, List.set_cons_succ, i64_w, i32_w]
    rfl
  refine pure_ (i := 19) (N := some 47) (v := ?_) (a' := ?_) #[true, true, true, true, true, true, true, true, true, true, true, true, true, true, true, true, true, true, true, true, false, false, false] rfl rfl (by kernel_rfl) (fun _ _ _ h => h) (Or.inl ⟨by rfl, ?_⟩) ?_ ?_
  rotate_left
  · intro w'
    go_simp
    with_reducible rfl
  rotate_left
  · simp only [Act.put, List.setIfInBounds_toArray, List.set_cons_zero, List.set_cons_succ, i64_w, i32_w]
    rfl
  refine pure_ (i := 20) (N := some 48) (v := ?_) (a' := ?_) #[true, true, true, true, true, true, true, true, true, true, true, true, true, true, true, true, true, true, true, true, true, false, false] rfl rfl (by kernel_rfl) (fun _ _ _ h => h) (Or.inl ⟨by rfl, ?_⟩) ?_ ?_
  rotate_left
  · intro w'
    go_simp
    with_reducible rfl
  rotate_left
  · simp only [Act.put, List.setIfInBounds_toArray, List.set_cons_zero, List.set_cons_succ, i64_w, i32_w]
    rfl
  refine pure_ (i := 21) (N := some 49) (v := ?_) (a' := ?_) #[true, true, true, true, true, true, true, true, true, true, true, true, true, true, true, true, true, true, true, true, true, true, false] rfl rfl (by kernel_rfl) (fun _ _ _ h => h) (Or.inl ⟨by rfl, ?_⟩) ?_ ?_
  rotate_left
  · intro w'
    go_simp
    with_reducible rfl
  rotate_left
  · simp only [Act.put, List.setIfInBounds_toArray, List.set_cons_zero, List.set_cons_succ, i64_w, i32_w]
    rfl
  refine last_ (i := 22) (N := none) #[true, true, true, true, true, true, true, true, true, true, true, true, true, true, true, true, true, true, true, true, true, true, true] rfl rfl (by kernel_rfl) (by decide) (fun K hK => ?_)
  refine skip_ (w1 := ?_) (by rfl) rfl ?_ ?_
  rotate_left
  · go_simp
    rfl
  refine hK.out _ _ ?_
  clear hK K
  refine done_ (by kernel_rfl) ?_
  
  clear hHeld hf hbd3
  replace hb4 := hb3.trans hb4
  try rw [hx]
  have hrd : rd (hs.set k.toNat x) k = x := by
    unfold rd
    rw [List.getD_eq_getElem?_getD, List.getElem?_set_self (by omega)]
    rfl
  generalize wg.setCell ⟨gh, k.toNat, none⟩ (.int .u64 x) = wh at hbd4 hb4 ⊢
  clear hb3
  have hbd4' : BdS wh base g T (.slice (some ⟨gc, 0, none⟩) cl.length cc) (.slice (some ⟨gh, 0, none⟩) hs.length ch) vs1 vl1 (cl.set i.toNat ⟨rd hs i, k⟩) (hs.set k.toNat x) sm' lg' := hbd4
  go_wp2_with (first | ((with_reducible refine gate_callee (f := 50) rfl ?_); refine goesL_ (some 52) rfl rfl Try.func50 (by kernel_rfl) rfl #[.pointer (some ⟨g, 0, none⟩), .int .i64 k] rfl (by (try simp only [List.map_toArray, List.map_cons, List.map_nil]); first | done | rfl) ?_; (with_reducible refine (sort_calls hbd4' k k0 (by rw [List.length_set]; exact k1) ls ll x hrd sm2 lg2 H2.out H3.out).mono ?_); rintro e w7 ⟨rfl, hb7, vs', vl', hbd7⟩; refine ⟨_, rfl, ?_⟩))
  go_end0
  exact ⟨rfl, hb4.trans hb7, vs', vl', hbd7⟩

/-- The state of alias.Build's second loop: T, what each place has, the cells, the small and the large places. -/
def alias_Build.l1 : Nat → Int → List Int → List S62 → List Int → List Int → Option (Int × (List (S62)) × Int)
  | 0, _, _, _, _, _ => none
  | k + 1, T, hs, cl, sm, lg => if 0 < (sm.length : Int) ∧ 0 < (lg.length : Int) then
      (if 0 ≤ wrap64 ((sm.length : Int) - 1) ∧ wrap64 ((sm.length : Int) - 1) < sm.length ∧ 0 ≤ wrap64 ((lg.length : Int) - 1) ∧ wrap64 ((lg.length : Int) - 1) < lg.length ∧
          0 ≤ rd sm (wrap64 ((sm.length : Int) - 1)) ∧ rd sm (wrap64 ((sm.length : Int) - 1)) < hs.length ∧ rd sm (wrap64 ((sm.length : Int) - 1)) < cl.length ∧ 0 ≤ rd lg (wrap64 ((lg.length : Int) - 1)) ∧ rd lg (wrap64 ((lg.length : Int) - 1)) < hs.length ∧ sm.length < 17592186044416 ∧ lg.length < 17592186044416 then
        alias_Build.l1 k T (hs.set (rd lg (wrap64 ((lg.length : Int) - 1))).toNat (IntKind.u64.wrap (rd hs (rd lg (wrap64 ((lg.length : Int) - 1))) - IntKind.u64.wrap (T - rd hs (rd sm (wrap64 ((sm.length : Int) - 1)))))))
          (cl.set (rd sm (wrap64 ((sm.length : Int) - 1))).toNat ⟨rd hs (rd sm (wrap64 ((sm.length : Int) - 1))), rd lg (wrap64 ((lg.length : Int) - 1))⟩)
          (if IntKind.u64.wrap (rd hs (rd lg (wrap64 ((lg.length : Int) - 1))) - IntKind.u64.wrap (T - rd hs (rd sm (wrap64 ((sm.length : Int) - 1))))) < T then sm.take (wrap64 ((sm.length : Int) - 1)).toNat ++ [rd lg (wrap64 ((lg.length : Int) - 1))] else sm.take (wrap64 ((sm.length : Int) - 1)).toNat)
          (if IntKind.u64.wrap (rd hs (rd lg (wrap64 ((lg.length : Int) - 1))) - IntKind.u64.wrap (T - rd hs (rd sm (wrap64 ((sm.length : Int) - 1))))) < T then lg.take (wrap64 ((lg.length : Int) - 1)).toNat else lg.take (wrap64 ((lg.length : Int) - 1)).toNat ++ [rd lg (wrap64 ((lg.length : Int) - 1))])
      else none) else some (T, cl, 0)
/-- The state of its first loop. -/
def alias_Build.l0 : Nat → List Int → Int → List Int → List S62 → List Int → List Int → Int → Option (Int × (List (S62)) × Int)
  | 0, _, _, _, _, _, _, _ => none
  | k + 1, l, T, hs, cl, sm, lg, i => if i < (l.length : Int) then
      (if 0 ≤ i ∧ i < hs.length ∧ cl.length < 1048576 ∧ sm.length < 17592186044416 ∧ lg.length < 17592186044416 then
        alias_Build.l0 k l T (hs.set i.toNat (IntKind.u64.wrap (rd l i * IntKind.u64.wrap (l.length : Int)))) (cl ++ [⟨T, i⟩])
          (if IntKind.u64.wrap (rd l i * IntKind.u64.wrap (l.length : Int)) < T then sm ++ [i] else sm) (if IntKind.u64.wrap (rd l i * IntKind.u64.wrap (l.length : Int)) < T then lg else lg ++ [i]) (wrap64 (i + 1))
      else none) else alias_Build.l1 k T hs cl sm lg
def alias_Build.f (k : Nat) (l0 : List Int) : Option (Int × (List (S62)) × Int) := (alias_total.f k l0).bind fun t => if t.2 = 0 then (if l0.length ≤ 1048576 then alias_Build.l0 k l0 t.1 (List.replicate ((l0.length : Int)).toNat 0) [] [] [] 0 else none) else some (0, ([] : List (S62)), t.2)
theorem alias_Build.l1_mono : ∀ k T hs cl sm lg, LeO (alias_Build.l1 k T hs cl sm lg) (alias_Build.l1 (k + 1) T hs cl sm lg)
  | 0, _, _, _, _, _ => fun r h => by simp [alias_Build.l1] at h
  | k + 1, _, _, _, _, _ => by
    unfold alias_Build.l1
    exact LeO.ite (LeO.ite (alias_Build.l1_mono k _ _ _ _ _) (LeO.none _)) (LeO.refl _)
theorem alias_Build.l0_mono : ∀ k l T hs cl sm lg i, LeO (alias_Build.l0 k l T hs cl sm lg i) (alias_Build.l0 (k + 1) l T hs cl sm lg i)
  | 0, _, _, _, _, _, _, _ => fun r h => by simp [alias_Build.l0] at h
  | k + 1, _, _, _, _, _, _, _ => by
    unfold alias_Build.l0
    exact LeO.ite (LeO.ite (alias_Build.l0_mono k _ _ _ _ _ _ _) (LeO.none _)) (alias_Build.l1_mono k _ _ _ _ _)
theorem alias_Build.mono : ∀ a0 k, LeO (alias_Build.f k a0) (alias_Build.f (k + 1) a0) := by
  intro a0 k
  unfold alias_Build.f
  exact LeO.bind (alias_total.mono _ _) (fun _ => LeO.ite (LeO.ite (alias_Build.l0_mono k _ _ _ _ _ _ _) (LeO.none _)) (LeO.refl _))

set_option maxHeartbeats 8000000 in
set_option maxRecDepth 100000 in
theorem alias_Build.bad (k : Nat) (A0 : Option Addr) (c0 : Nat) (l0 : List Int) (t1 t2 : Int) (w : World) (hr0 : Kd.C (Kd.int .u64) w A0 l0.length l0) (hc0 : l0.length ≤ c0) (h : alias_total.f k l0 = some (t1, t2)) (c : ¬ t2 = 0) :
    Calls Try.prog 14 #[.slice A0 l0.length c0] w fun e w' => ∃ v1_ : Value, e = .returned (.tuple #[.agg #[.int .u64 0, v1_], .int .i64 t2]) ∧ Kd.R k62 62 w' w.heap.size (fun _ => True) v1_ ([] : List S62) ∧ Below w.heap.size w w' := by
  have hu27 := Try.underlying27
  have HR0 := Aside0.mk hr0
  have HC0 := Aside0.mk hc0
  have A2 := Aside0.mk h
  clear hr0 hc0 h
  have HB := Aside0.mk (Below.refl w.heap.size w)
  have cb0 : (t2 == 0) = false := beq_eq_false_iff_ne.mpr c
  have cb1 : (t2 != 0) = true := bne_iff_ne.mpr c
  clear c
  go_enter Try.func14, Try.ntmps14
  try simp only [List.append]
  go_wp2_with (first | ((with_reducible refine gate_dst (N := 2) rfl ?_); (try (refine gate_guard (by rfl) ?_; dsimp only)); refine box_event ?hg (N := 2) ?hd (cs := #[.int .u64 0, .slice none 0 0]) (t := 27) ?hr ?_; (case hd => rfl); (case hg => rfl); (case hr => first | (go_simp; done) | (go_simp; rfl)); intro gr hg w3 hbox hb; have n0_ := Aside0.mk (below_step (by repeat (first | (with_reducible first | exact HB.out | apply below_alloc | apply pw_below_drewN | apply below_drew1) | exact HB.out)) hb); have BK := Aside0.mk hbox; have GE := Aside0.mk ((by rw [hg]; exact (below_size (by repeat (first | (with_reducible first | exact HB.out | apply below_alloc | apply pw_below_drewN | apply below_drew1) | exact HB.out)))) : w.heap.size ≤ gr); clear HB; have HB := n0_; clear n0_; clear hb hbox hg) | ((with_reducible refine gate_callee (f := 49) rfl ?_); refine goesL_ (some 11) rfl rfl Try.func49 (by kernel_rfl) rfl #[.slice A0 l0.length c0] rfl (by (try simp only [List.map_toArray, List.map_cons, List.map_nil]); first | done | rfl | (simp only [List.length_drop, List.length_take]; rfl)) ?_; (with_reducible refine (alias_total.calls k _ _ l0 t1 t2 _ ?side1 ?side2 A2.out).mono ?_); (case side1 => exact (Kd.C_below HR0.out (by repeat (first | (with_reducible first | exact HB.out | apply below_alloc | apply pw_below_drewN | apply below_drew1) | exact HB.out)))); (case side2 => exact HC0.out); rintro e w' ⟨rfl, ⟨nd, rfl⟩⟩; refine ⟨_, rfl, ?_⟩; (try (rw [drewN_self w3]; generalize hq_ : World.drewN w3 _ = w3; have n0_ := Aside0.mk (show w3.heap[gr]? = some (.cells #[.int .u64 0, .slice none 0 0] 27 (0, 0)) by rw [← hq_]; exact blk_drewN BK.out _); have n1_ := Aside0.mk (show Below w.heap.size w w3 by rw [← hq_]; exact pw_below_drewN HB.out _); clear BK HB hq_; have BK := n0_; have HB := n1_; clear n0_ n1_)); have hcz0 : w3.cell? ⟨gr, 0, none⟩ = some (.int .u64 0) := (blk_cell BK.out 0).trans rfl; have hcz1 : w3.cell? ⟨gr, 1, none⟩ = some (.slice none 0 0) := (blk_cell BK.out 1).trans rfl; have hfz0 := blk_frozen BK.out 0; have hfz1 := blk_frozen BK.out 1))
  refine bodyPost_ret (results_ct rfl _ _ gr 27 #[.int .u64 0, .slice none 0 0] (0, 0) _ rfl (by (with_reducible repeat (first | refine blk_drewN ?_ _ | refine blk_drew ?_ | refine blk_alloc ?_ _)); refine blk_put (cs := #[.int .u64 0, .slice none 0 0]) ?_ 1 _ rfl; (with_reducible repeat (first | refine blk_drewN ?_ _ | refine blk_drew ?_ | refine blk_alloc ?_ _)); refine blk_put (cs := #[.int .u64 0, .slice none 0 0]) ?_ 0 _ rfl; (with_reducible repeat (first | refine blk_drewN ?_ _ | refine blk_drew ?_ | refine blk_alloc ?_ _)); exact BK.out) Try.underlying27 rfl (by first | (rw [Ar.cells_size]; kernel_rfl) | kernel_rfl)) rfl ?_
  exact ⟨_, rfl, Kd.R_nil _ _ _ _ _, by repeat (first | (with_reducible first | exact HB.out | apply below_alloc | apply pw_below_drewN | apply below_drew1 | refine below_set ?_ GE.out) | exact HB.out)⟩

theorem rd_set_self (hs : List Int) {i : Int} (x : Int) (h0 : 0 ≤ i) (h1 : i < hs.length) : rd (hs.set i.toNat x) i = x := by
  unfold rd
  rw [List.getD_eq_getElem?_getD, List.getElem?_set_self (by omega)]
  rfl
theorem BdS.app {w w1 w2 : World} {base g : Nat} {T : Int} {vc vh vs vl v1 : Value} {cl cl1 : List S62} {hs sm lg : List Int} (hb : BdS w base g T vc vh vs vl cl hs sm lg) (ho : Kd.R k62 62 w1 base (fun _ => True) v1 cl1) (hg1 : w.grownBy w1 vc.ownBlock) (hw : w2 = w1.setCell ⟨g, 1, none⟩ v1) : BdS w2 base g T v1 vh vs vl cl1 hs sm lg := by
  subst hw
  obtain ⟨hB, hg, hC, hH, hS, hL⟩ := hb
  have hB1 := blk_grown (g := g) hB hg1 (Kd.R_ne hC hB (by decide))
  have ty := Kd.R_typed hC
  refine ⟨by simpa using blk_set hB1 1 v1, hg, Kd.R_set ho hB1 (by decide) 1 _, Kd.R_set (Kd.R_over' hH ty (by decide) hg1) hB1 (by decide) 1 _, Kd.R_set (Kd.R_over' hS ty (by decide) hg1) hB1 (by decide) 1 _, Kd.R_set (Kd.R_over' hL ty (by decide) hg1) hB1 (by decide) 1 _⟩
theorem R_sl {α : Type} {d : Kd α} {e : Nat} {w : World} {base : Nat} {ok : Nat → Prop} {v : Value} {xs : List α} (h : d.R e w base ok v xs) : ∃ A n c, v = .slice A n c := by
  obtain ⟨A, c, rfl⟩ := Kd.R_slice h
  exact ⟨A, _, c, rfl⟩
theorem bd_start {w w1 : World} {base g : Nat} {vh : Value} {hs : List Int} (hb : w.heap[g]? = some (.cells #[.int .u64 0, .slice none 0 0, vh, .slice none 0 0, .slice none 0 0] 68 (0, 0))) (hg : base ≤ g) (hh : Kd.R (Kd.int .u64) 24 w base (fun _ => True) vh hs) (T : Int) (hw : w1 = w.setCell ⟨g, 0, none⟩ (.int .u64 T)) : BdS w1 base g T (.slice none 0 0) vh (.slice none 0 0) (.slice none 0 0) [] hs [] [] := by
  subst hw
  exact ⟨by simpa using blk_set hb 0 (.int .u64 T), hg, Kd.R_nil _ _ _ _ _, Kd.R_set hh hb (by decide) 0 _, Kd.R_nil _ _ _ _ _, Kd.R_nil _ _ _ _ _⟩
set_option maxHeartbeats 8000000 in
set_option maxRecDepth 100000 in
theorem alias_Build.good (k : Nat) (A0 : Option Addr) (c0 : Nat) (l0 : List Int) (T r1 : Int) (r2 : List S62) (r3 : Int) (w : World) (hr0 : Kd.C (Kd.int .u64) w A0 l0.length l0) (hc0 : l0.length ≤ c0) (h : alias_total.f k l0 = some (T, 0)) (cl : l0.length ≤ 1048576) (H : alias_Build.l0 k l0 T (List.replicate ((l0.length : Int)).toNat 0) [] [] [] 0 = some (r1, r2, r3)) :
    Calls Try.prog 14 #[.slice A0 l0.length c0] w fun e w' => ∃ v1_ : Value, e = .returned (.tuple #[.agg #[.int .u64 r1, v1_], .int .i64 r3]) ∧ Kd.R k62 62 w' w.heap.size (fun _ => True) v1_ r2 ∧ Below w.heap.size w w' := by
  have hu27 := Try.underlying27
  have hu62 := Try.underlying62
  have HR0 := Aside0.mk hr0
  have HC0 := Aside0.mk hc0
  have A2 := Aside0.mk h
  have CL := Aside0.mk cl
  have H' := Aside0.mk H
  have hl0 : decide (0 ≤ (l0.length : Int)) = true := decide_eq_true (Int.natCast_nonneg _)
  clear hr0 hc0 h cl H
  have HB := Aside0.mk (Below.refl w.heap.size w)
  go_enter Try.func14, Try.ntmps14
  try simp only [List.append]
  go_wp2_with (first | ((with_reducible refine gate_dst (N := 2) rfl ?_); (try (refine gate_guard (by rfl) ?_; dsimp only)); refine box_event ?hg (N := 2) ?hd (cs := #[.int .u64 0, .slice none 0 0]) (t := 27) ?hr ?_; (case hd => rfl); (case hg => rfl); (case hr => first | (go_simp; done) | (go_simp; rfl)); intro gr hg w3 hbox hb; have n0_ := Aside0.mk (below_step (by repeat (first | (with_reducible first | exact HB.out | apply below_alloc | apply pw_below_drewN | apply below_drew1) | exact HB.out)) hb); have BK := Aside0.mk hbox; have GE := Aside0.mk ((by rw [hg]; exact (below_size (by repeat (first | (with_reducible first | exact HB.out | apply below_alloc | apply pw_below_drewN | apply below_drew1) | exact HB.out)))) : w.heap.size ≤ gr); clear HB; have HB := n0_; clear n0_; clear hb hbox hg) | ((with_reducible refine gate_callee (f := 49) rfl ?_); refine goesL_ (some 11) rfl rfl Try.func49 (by kernel_rfl) rfl #[.slice A0 l0.length c0] rfl (by (try simp only [List.map_toArray, List.map_cons, List.map_nil]); first | done | rfl | (simp only [List.length_drop, List.length_take]; rfl)) ?_; (with_reducible refine (alias_total.calls k _ _ l0 T 0 _ ?side1 ?side2 A2.out).mono ?_); (case side1 => exact (Kd.C_below HR0.out (by repeat (first | (with_reducible first | exact HB.out | apply below_alloc | apply pw_below_drewN | apply below_drew1) | exact HB.out)))); (case side2 => exact HC0.out); rintro e w' ⟨rfl, ⟨nd, rfl⟩⟩; refine ⟨_, rfl, ?_⟩; skip) | ((with_reducible refine gate_dst (N := 20) rfl ?_); (try (refine gate_guard (by rfl) ?_; dsimp only)); refine Kd.R_make (Kd.int .u64) _ 24 rfl (N := 20) rfl 22 _ _ rfl (l0.length : Int) rfl rfl Try.underlying22 (.int .u64 0) 8 info24 rfl (by decide) (by omega) 0 (ok := fun _ => True) (okp := fun _ => True) rfl (fun _ hk => hk) trivial (Int.natCast_nonneg _) (by have := CL.out; omega) (Below.refl _ _) (Nat.le_refl _) ?_; intro vh w5 ho hb hg_ hnew_; clear hg_ hnew_; obtain ⟨Ah, nh, ch, rfl⟩ := R_sl ho; have HH := Aside0.mk (Kd.R_lower ho (Nat.le_of_eq (by rfl) : w3.heap.size ≤ _)); have HW := Aside0.mk (show Below w3.heap.size w3 w5 by first | exact hb | exact below_step (by repeat (first | exact Below.refl _ _ | apply pw_below_drewN | apply below_drew1)) hb); clear hb ho) | ((with_reducible refine gate_dst (N := 22) rfl ?_); (try (refine gate_guard (by rfl) ?_; dsimp only)); refine box_event ?hg (N := 22) ?hd (cs := #[.int .u64 0, .slice none 0 0, .slice Ah nh ch, .slice none 0 0, .slice none 0 0]) (t := 68) ?hr ?_; (case hd => rfl); (case hg => rfl); (case hr => first | (go_simp; done) | (go_simp; rfl)); intro g hg w7 hbox hb; have BG := Aside0.mk hbox; have GG := Aside0.mk ((by rw [hg]; exact below_size HW.out) : w3.heap.size ≤ g); have n0_ := Aside0.mk (Kd.R_below HH.out hb); have n1_ := Aside0.mk (below_step HW.out hb); clear HH HW; have HH := n0_; have HW := n1_; clear n0_ n1_; clear hb hbox hg; have hcg0 : w7.cell? ⟨g, 0, none⟩ = some (.int .u64 0) := (blk_cell BG.out 0).trans rfl; have hfg0 := blk_frozen BG.out 0) | ((with_reducible refine gate_store (t := 24) (p := 27) rfl ?_); refine store_event (t := 24) (p := 27) (v := ?vv) (w1 := (w7.setCell ⟨g, 0, none⟩ (.int .u64 T))) ?hg ?ho ?hn ?hr ?_; (case ho => rfl); (case hg => rfl); (case hn => rfl); (case hr => first | (go_simp; done) | (go_simp; rfl)); intro w8 hw; have BS := Aside0.mk (bd_start BG.out GG.out HH.out T hw); have n1_ := Aside0.mk (show Below w3.heap.size w3 w8 by rw [hw]; exact HW.out.setCell (p := ⟨g, 0, none⟩) GG.out _); clear HW; have HW := n1_; clear n1_ hw hcg0 hfg0 BG HH))
  go_loopg [30] k (fun kq v30 w' => ∃ (hs : List Int) (cl : List S62) (sm lg : List Int) (i : Int) (vc vs vl : Value), v30 = .int .i64 i ∧ Aside0 (alias_Build.l0 kq l0 T hs cl sm lg i = some (r1, r2, r3)) ∧ Aside0 (kq ≤ k) ∧ Aside0 (BdS w' w3.heap.size g T vc (.slice Ah nh ch) vs vl cl hs sm lg) ∧ Aside0 (Below w3.heap.size w3 w'))
  case atStart => exact ⟨_, _, _, _, _, _, _, _, rfl, H', ⟨Nat.le_refl _⟩, BS, HW⟩
  case round =>
    clear H' BS HW
    obtain ⟨hs, cl, sm, lg, i, vc, vs, vl, rfl, HA, HK1, BS, HW⟩ := hrel
    cases gk with
    | zero => exact absurd HA.out (by simp [alias_Build.l0])
    | succ k1 =>
      have H := HA.out
      clear HA
      simp only [alias_Build.l0] at H
      have HB2 := below_step HB.out HW.out
      by_cases c2 : i < (l0.length : Int)
      · rw [if_pos c2] at H
        by_cases c3 : 0 ≤ i ∧ i < (hs.length : Int) ∧ cl.length < 1048576 ∧ sm.length < 17592186044416 ∧ lg.length < 17592186044416
        · rw [if_pos c3] at H
          obtain ⟨i0, i1, lc, ls, ll⟩ := c3
          obtain ⟨gh, chh, ehh, _⟩ := Kd.R_form BS.out.2.2.2.1 (by omega)
          injection ehh with e1 e2 e3
          subst e1 e2 e3
          obtain ⟨x, hx⟩ : ∃ x, IntKind.u64.wrap (rd l0 i * IntKind.u64.wrap (l0.length : Int)) = x := ⟨_, rfl⟩
          rw [hx] at H
          obtain ⟨sm2, h2⟩ : ∃ z, (if x < T then sm ++ [i] else sm) = z := ⟨_, rfl⟩
          obtain ⟨lg2, h3⟩ : ∃ z, (if x < T then lg else lg ++ [i]) = z := ⟨_, rfl⟩
          rw [h2, h3] at H
          have H2 := Aside0.mk h2
          have H3 := Aside0.mk h3
          have H' := Aside0.mk H
          clear h2 h3 H
          obtain ⟨ad, rfl, hxe⟩ := Kd.at_int HR0.out i i0 c2
          replace hxe := (HB2.cell (World.block_lt_of_cell? w _ hxe)).trans hxe
          have p1 := eq_true i0
          have q1 := eq_true i1
          have q2 := eq_true c2
          have c2b : decide (i < (l0.length : Int)) = true := decide_eq_true c2
          have LS := Aside0.mk ls
          have LL := Aside0.mk ll
          have LC := Aside0.mk lc
          have I0 := Aside0.mk i0
          have I1 := Aside0.mk i1
          clear ls ll lc i0 i1 c2
          obtain ⟨hf, hbd4, hb4⟩ := BS.out.put_has i x I0.out I1.out
          have hc2 := BS.out.cells.2.2.1
          have hce := BS.out.has i I0.out I1.out
          replace hb4 := HW.out.trans hb4
          have HP := Aside0.mk (And.intro hbd4 hb4)
          clear hbd4 hb4 HW BS HB2
          obtain ⟨Ac, nc, cc, rfl⟩ := R_sl HP.out.1.2.2.1
          go_wp2_with (first | ((with_reducible refine gate_store (t := 24) (p := 45) rfl ?_); refine store_event (t := 24) (p := 45) (v := ?vv45) (w1 := (wr.setCell ⟨gh, i.toNat, none⟩ (.int .u64 x))) ?hg ?ho ?hn ?hr ?_; (case ho => rfl); (case hg => rfl); (case hn => rfl); (case hr => first | (go_simp; done) | (go_simp; rfl)); intro w9 hw; rw [← hw] at HP; clear hw hf hc2 hce hxe; have hc1 := HP.out.1.cells.2.1) | ((with_reducible refine gate_builtin (b := .append) (xs := #[.tmp 51, .tmp 55]) rfl ?_); (try (refine gate_guard (by rfl) ?_; dsimp only)); at_builtin; refine Kd.R_append k62 (w0 := w9) w3.heap.size rfl (.tmp 51) (.tmp 55) 25 62 (.agg #[.int .u64 0, .int .i64 0]) 16 rfl Try.underlying25 info62 rfl (by decide) (by omega) (.slice Ac nc cc) cl (⟨T, i⟩ : S62) [.int .u64 T, .int .i64 i] (fun _ => True) (fun _ => False) rfl rfl (k62_mkM _ _ _ (⟨T, i⟩ : S62)) (fun _ hk => hk.elim) (fun _ _ => trivial) HP.out.1.2.2.1 (Below.refl _ _) (Nat.le_trans HP.out.1.2.1 (Nat.le_of_lt (blk_lt HP.out.1.1))) (by have := LC.out; omega) ?_; intro v1 w10 ho hb hg1 hat; obtain ⟨A1, n1, c1, rfl⟩ := R_sl ho; have HN := Aside0.mk (And.intro ho hg1); have HL := Aside0.mk (HP.out.2.trans hb); have hB1 := blk_grown (g := g) HP.out.1.1 hg1 (Kd.R_ne HP.out.1.2.2.1 HP.out.1.1 (by decide)); clear hc1 ho hb hg1 hat; have hc1 := (blk_cell hB1 1).trans rfl; have hf1 := blk_frozen hB1 1) | ((with_reducible refine gate_store (t := 25) (p := 59) rfl ?_); refine store_event (t := 25) (p := 59) (v := ?vv59) (w1 := (w10.setCell ⟨g, 1, none⟩ (.slice A1 n1 c1))) ?hg ?ho ?hn ?hr ?_; (case ho => rfl); (case hg => rfl); (case hn => rfl); (case hr => first | (go_simp; done) | (go_simp; rfl)); intro w11 hw; have BS := Aside0.mk (HP.out.1.app HN.out.1 HN.out.2 hw); have HW := Aside0.mk (show Below w3.heap.size w3 w11 by rw [hw]; exact HL.out.setCell (p := ⟨g, 1, none⟩) GG.out _); clear hw hB1 hc1 hf1 HP HN HL; have hrd := rd_set_self hs x I0.out I1.out) | ((with_reducible refine gate_callee (f := 50) rfl ?_); refine goesL_ (some 62) rfl rfl Try.func50 (by kernel_rfl) rfl #[.pointer (some ⟨g, 0, none⟩), .int .i64 i] rfl (by (try simp only [List.map_toArray, List.map_cons, List.map_nil]); first | done | rfl | (simp only [List.length_drop, List.length_take]; rfl)) ?_; (with_reducible refine (sort_calls BS.out i I0.out (by rw [List.length_set]; exact I1.out) LS.out LL.out x hrd sm2 lg2 H2.out H3.out).mono ?_); rintro e w12 ⟨rfl, hb7, vs', vl', hbd7⟩; refine ⟨_, rfl, ?_⟩; clear BS; have BS := Aside0.mk hbd7; have n0_ := Aside0.mk (HW.out.trans hb7); clear HW; have HW := n0_; clear n0_ hb7 hbd7 hrd))
          go_roundg k1
          case measure => have := HK1.out; omega
          case rel => exact ⟨_, _, _, _, _, _, _, _, rfl, H', ⟨by have := HK1.out; omega⟩, BS, HW⟩
        · rw [if_neg c3] at H
          exact absurd H (by simp)
      · rw [if_neg c2] at H
        have c2b : decide (i < (l0.length : Int)) = false := decide_eq_false c2
        have H' := Aside0.mk H
        clear H c2 HB2
        go_wp2
        go_loopg [] k1 (fun kq w' => ∃ (hs : List Int) (cl : List S62) (sm lg : List Int) (vc vs vl : Value), Aside0 (alias_Build.l1 kq T hs cl sm lg = some (r1, r2, r3)) ∧ Aside0 (kq ≤ k1) ∧ Aside0 (BdS w' w3.heap.size g T vc (.slice Ah nh ch) vs vl cl hs sm lg) ∧ Aside0 (Below w3.heap.size w3 w'))
        case atStart => exact ⟨_, _, _, _, _, _, _, H', ⟨Nat.le_refl _⟩, BS, HW⟩
        case round =>
          clear H' BS HW
          obtain ⟨hs, cl, sm, lg, vc, vs, vl, HA, HK2, BS, HW⟩ := hrel
          cases gk with
          | zero => exact absurd HA.out (by simp [alias_Build.l1])
          | succ k2 =>
            have H := HA.out
            clear HA
            simp only [alias_Build.l1] at H
            obtain ⟨As, cs, rfl⟩ := Kd.R_slice BS.out.2.2.2.2.1
            obtain ⟨Al, cl', rfl⟩ := Kd.R_slice BS.out.2.2.2.2.2
            obtain ⟨Ac, cc, rfl⟩ := Kd.R_slice BS.out.2.2.1
            have hc3 := BS.out.cells.2.2.2.1
            have hc4 := BS.out.cells.2.2.2.2
            by_cases c1 : 0 < (sm.length : Int)
            · have c1b : decide (0 < (sm.length : Int)) = true := decide_eq_true c1
              have c1n : decide (0 < sm.length) = true := decide_eq_true (by omega)
              by_cases c4 : 0 < (lg.length : Int)
              · rw [if_pos ⟨c1, c4⟩] at H
                have c4b : decide (0 < (lg.length : Int)) = true := decide_eq_true c4
                have c4n : decide (0 < lg.length) = true := decide_eq_true (by omega)
                by_cases c5 : 0 ≤ wrap64 ((sm.length : Int) - 1) ∧ wrap64 ((sm.length : Int) - 1) < sm.length ∧ 0 ≤ wrap64 ((lg.length : Int) - 1) ∧ wrap64 ((lg.length : Int) - 1) < lg.length ∧ 0 ≤ rd sm (wrap64 ((sm.length : Int) - 1)) ∧ rd sm (wrap64 ((sm.length : Int) - 1)) < hs.length ∧ rd sm (wrap64 ((sm.length : Int) - 1)) < cl.length ∧ 0 ≤ rd lg (wrap64 ((lg.length : Int) - 1)) ∧ rd lg (wrap64 ((lg.length : Int) - 1)) < hs.length ∧ sm.length < 17592186044416 ∧ lg.length < 17592186044416
                · rw [if_pos c5] at H
                  have H' := Aside0.mk H
                  have C5 := Aside0.mk c5
                  clear H c5 c1 c4
                  go_wp2_with (first | ((with_reducible refine gate_callee (f := 51) rfl ?_); refine goesL_ (some 79) rfl rfl Try.func51 (by kernel_rfl) rfl #[.pointer (some ⟨g, 0, none⟩)] rfl (by (try simp only [List.map_toArray, List.map_cons, List.map_nil]); first | done | rfl | (simp only [List.length_drop, List.length_take]; rfl)) ?_; (with_reducible refine (pair_calls BS.out C5.out.1 C5.out.2.1 C5.out.2.2.1 C5.out.2.2.2.1 _ _ rfl rfl _ _ rfl rfl C5.out.2.2.2.2.1 C5.out.2.2.2.2.2.1 C5.out.2.2.2.2.2.2.1 C5.out.2.2.2.2.2.2.2.1 C5.out.2.2.2.2.2.2.2.2.1 _ rfl (by rw [List.length_take]; have := C5.out.2.2.2.2.2.2.2.2.2.1; omega) (by rw [List.length_take]; have := C5.out.2.2.2.2.2.2.2.2.2.2; omega) _ _ rfl rfl).mono ?_); rintro e w12 ⟨rfl, hb7, vs', vl', hbd7⟩; refine ⟨_, rfl, ?_⟩; clear BS; have BS := Aside0.mk hbd7; have n0_ := Aside0.mk (HW.out.trans hb7); clear HW; have HW := n0_; clear n0_ hb7 hbd7))
                  go_roundg k2
                  case measure => have := HK2.out; omega
                  case rel => exact ⟨_, _, _, _, _, _, _, H', ⟨by have := HK2.out; omega⟩, BS, HW⟩
                · rw [if_neg c5] at H
                  exact absurd H (by simp)
              · have c4b : decide (0 < (lg.length : Int)) = false := decide_eq_false c4
                have c4n : decide (0 < lg.length) = false := decide_eq_false (by omega)
                rw [if_neg (fun h => c4 h.2)] at H
                simp only [Option.some.injEq, Prod.mk.injEq] at H
                obtain ⟨rfl, rfl, rfl⟩ := H
                have hc0 := BS.out.cells.1
                have hc1 := BS.out.cells.2.1
                have BK2 := Aside0.mk (blk_below (g := gr) (o := .cells #[.int .u64 0, .slice none 0 0] 27 (0, 0)) BK.out HW.out)
                have hcz0 : wr.cell? ⟨gr, 0, none⟩ = some (.int .u64 0) := (blk_cell BK2.out 0).trans rfl
                have hcz1 : wr.cell? ⟨gr, 1, none⟩ = some (.slice none 0 0) := (blk_cell BK2.out 1).trans rfl
                have hfz0 := blk_frozen BK2.out 0
                have hfz1 := blk_frozen BK2.out 1
                have HR := Aside0.mk (Kd.R_lower BS.out.2.2.1 (below_size HB.out))
                have HB2 := Aside0.mk (below_step HB.out HW.out)
                clear c1 c4 BS HW
                go_wp2
                refine bodyPost_ret (results_ct rfl _ _ gr 27 #[.int .u64 T, .slice Ac cl.length cc] (0, 0) _ rfl (by (with_reducible repeat (first | refine blk_drewN ?_ _ | refine blk_drew ?_ | refine blk_alloc ?_ _)); refine blk_put (cs := #[.int .u64 T, .slice none 0 0]) ?_ 1 _ rfl; (with_reducible repeat (first | refine blk_drewN ?_ _ | refine blk_drew ?_ | refine blk_alloc ?_ _)); refine blk_put (cs := #[.int .u64 0, .slice none 0 0]) ?_ 0 _ rfl; (with_reducible repeat (first | refine blk_drewN ?_ _ | refine blk_drew ?_ | refine blk_alloc ?_ _)); exact BK2.out) Try.underlying27 rfl (by first | (rw [Ar.cells_size]; kernel_rfl) | kernel_rfl)) rfl ?_
                exact ⟨_, rfl, Kd.R_mono (Kd.R_far (p := ⟨gr, 1, none⟩) (Kd.R_far (p := ⟨gr, 0, none⟩) (Kd.R_types HR.out BK2.out (by decide)) (fun _ hk => hk.2) (.int .u64 T)) (fun _ hk => hk.2) (.slice Ac cl.length cc)) (fun _ hk => trivial), (HB2.out.setCell (p := ⟨gr, 0, none⟩) GE.out _).setCell (p := ⟨gr, 1, none⟩) GE.out _⟩
            · have c1b : decide (0 < (sm.length : Int)) = false := decide_eq_false c1
              have c1n : decide (0 < sm.length) = false := decide_eq_false (by omega)
              rw [if_neg (fun h => c1 h.1)] at H
              simp only [Option.some.injEq, Prod.mk.injEq] at H
              obtain ⟨rfl, rfl, rfl⟩ := H
              have hc0 := BS.out.cells.1
              have hc1 := BS.out.cells.2.1
              have BK2 := Aside0.mk (blk_below (g := gr) (o := .cells #[.int .u64 0, .slice none 0 0] 27 (0, 0)) BK.out HW.out)
              have hcz0 : wr.cell? ⟨gr, 0, none⟩ = some (.int .u64 0) := (blk_cell BK2.out 0).trans rfl
              have hcz1 : wr.cell? ⟨gr, 1, none⟩ = some (.slice none 0 0) := (blk_cell BK2.out 1).trans rfl
              have hfz0 := blk_frozen BK2.out 0
              have hfz1 := blk_frozen BK2.out 1
              have HR := Aside0.mk (Kd.R_lower BS.out.2.2.1 (below_size HB.out))
              have HB2 := Aside0.mk (below_step HB.out HW.out)
              clear c1 BS HW
              go_wp2
              refine bodyPost_ret (results_ct rfl _ _ gr 27 #[.int .u64 T, .slice Ac cl.length cc] (0, 0) _ rfl (by (with_reducible repeat (first | refine blk_drewN ?_ _ | refine blk_drew ?_ | refine blk_alloc ?_ _)); refine blk_put (cs := #[.int .u64 T, .slice none 0 0]) ?_ 1 _ rfl; (with_reducible repeat (first | refine blk_drewN ?_ _ | refine blk_drew ?_ | refine blk_alloc ?_ _)); refine blk_put (cs := #[.int .u64 0, .slice none 0 0]) ?_ 0 _ rfl; (with_reducible repeat (first | refine blk_drewN ?_ _ | refine blk_drew ?_ | refine blk_alloc ?_ _)); exact BK2.out) Try.underlying27 rfl (by first | (rw [Ar.cells_size]; kernel_rfl) | kernel_rfl)) rfl ?_
              exact ⟨_, rfl, Kd.R_mono (Kd.R_far (p := ⟨gr, 1, none⟩) (Kd.R_far (p := ⟨gr, 0, none⟩) (Kd.R_types HR.out BK2.out (by decide)) (fun _ hk => hk.2) (.int .u64 T)) (fun _ hk => hk.2) (.slice Ac cl.length cc)) (fun _ hk => trivial), (HB2.out.setCell (p := ⟨gr, 0, none⟩) GE.out _).setCell (p := ⟨gr, 1, none⟩) GE.out _⟩

theorem alias_Build.calls (k : Nat) (A0 : Option Addr) (c0 : Nat) (l0 : List Int) (r1 : Int) (r2 : List (S62)) (r3 : Int) (w : World) (hr0 : Kd.C (Kd.int .u64) w A0 l0.length l0) (hc0 : l0.length ≤ c0) (h : alias_Build.f k l0 = some (r1, r2, r3)) :
    Calls Try.prog 14 #[.slice A0 l0.length c0] w fun e w' => ∃ v1_ : Value, e = .returned (.tuple #[.agg #[.int .u64 r1, v1_], .int .i64 r3]) ∧ Kd.R k62 62 w' w.heap.size (fun _ => True) v1_ r2 ∧ Below w.heap.size w w' := by
  unfold alias_Build.f at h
  obtain ⟨⟨t1, t2⟩, A2, H⟩ := Option.bind_eq_some_iff.mp h
  replace H : (if t2 = 0 then (if l0.length ≤ 1048576 then alias_Build.l0 k l0 t1 (List.replicate ((l0.length : Int)).toNat 0) [] [] [] 0 else none) else some (0, ([] : List (S62)), t2)) = some (r1, r2, r3) := H
  by_cases c : t2 = 0
  · subst c
    rw [if_pos rfl] at H
    by_cases cl : l0.length ≤ 1048576
    · rw [if_pos cl] at H
      exact alias_Build.good k A0 c0 l0 t1 r1 r2 r3 w hr0 hc0 A2 cl H
    · rw [if_neg cl] at H
      exact absurd H (by simp)
  · rw [if_neg c] at H
    simp only [Option.some.injEq, Prod.mk.injEq] at H
    obtain ⟨rfl, rfl, rfl⟩ := H
    exact alias_Build.bad k A0 c0 l0 t1 t2 w hr0 hc0 A2 c

end Go.Proofs.Ytbafkkbbjacekaa.PB
