/- Written by xprint.py, this session's own driver, for the seat Ytkbpdnhbmceajaa: contracts of Go functions, each saying that a call answers what a plain Lean function of the same name says, and, in a text named Law, the row of a law: its Go function answers true for every input. No conditions. -/
import Derived.Test.YtkbpdnhbmceajaaPQx0
namespace Go.Proofs.Ytkbpdnhbmceajaa.PQ
open Go.RowKit Go.Proofs.YtkbpdnhbmceajaaW.PrintWords Go.Proofs.YtkbpdnhbmceajaaW.PrintLast Go.Proofs.YtkbpdnhbmceajaaW.PrintMore
attribute [local go_sem] max2_int min2_int max_two min_two max_three min_three max_four min_four   -- for this text's walks alone
set_option linter.unusedVariables false
set_option linter.unusedSimpArgs false

/-! ### drawlotref01_Put32: function 31 -/
def drawlotref01_Put32.f (a0 : Int) : Option (List Int) := some [((Int.tdiv a0 16777216) % 4294967296) % 256, ((Int.tdiv a0 65536) % 4294967296) % 256, ((Int.tdiv a0 256) % 4294967296) % 256, (Int.tmod a0 256) % 256]
set_option maxHeartbeats 8000000 in
set_option maxRecDepth 100000 in
theorem drawlotref01_Put32.calls (a0 : Int) (r : List Int) (w : World) (h : drawlotref01_Put32.f a0 = some r) :
    Calls Try.prog 31 #[.int .u32 a0] w fun e w' => e = .returned (.agg (Ar.cells .u8 4 r)) ∧ Below w.heap.size w w' := by
  have HB := Aside0.mk (Below.refl w.heap.size w)
  have H : (some [((Int.tdiv a0 16777216) % 4294967296) % 256, ((Int.tdiv a0 65536) % 4294967296) % 256, ((Int.tdiv a0 256) % 4294967296) % 256, (Int.tmod a0 256) % 256]) = some r := h
  clear h
  obtain rfl := Option.some.inj H
  go_enter Try.func31, Try.ntmps31
  go_wp2_with (first | ((with_reducible refine gate_dst (N := 2) rfl ?_); (try (refine gate_guard (by rfl) ?_; dsimp only)); refine box_event ?hg (N := 2) ?hd (cs := (Ar.cells .u8 4 (List.replicate 4 0))) (t := 60) ?hr ?_; (case hd => rfl); (case hg => rfl); (case hr => first | exact Ar.box_run rfl rfl | exact Ar.alloc_run rfl (by kernel_rfl) | (go_simp; done) | (go_simp; rfl)); intro gb303 hg w2 hbox hb; have n0_ := Aside0.mk (below_step (by repeat (first | (with_reducible first | exact HB.out | apply below_alloc | apply pw_below_drewN | apply below_drew1) | exact HB.out)) hb); have n1_ := Aside0.mk (hbox); have n2_ := Aside0.mk ((by rw [hg]; exact (below_size (by repeat (first | (with_reducible first | exact HB.out | apply below_alloc | apply pw_below_drewN | apply below_drew1) | exact HB.out))) : w.heap.size ≤ gb303)); have n3_ := Aside0.mk ((by rw [hg]; exact (below_size (by repeat (first | (with_reducible first | exact HB.out | apply below_alloc | apply pw_below_drewN | apply below_drew1) | exact HB.out))) : w.heap.size ≤ gb303)); clear HB; have HB := n0_; have BK303 := n1_; have GW303 := n2_; have GE303 := n3_; clear n0_ n1_ n2_ n3_; clear hb hbox hg) | ((with_reducible refine gate_dst (N := 17) rfl ?_); (try (refine gate_guard (by rfl) ?_; dsimp only)); refine Ar.build_event rfl (D := 17) rfl (T := 60) rfl (k := .u8) (n := 4) (l := [((Int.tdiv a0 16777216) % 4294967296) % 256, ((Int.tdiv a0 65536) % 4294967296) % 256, ((Int.tdiv a0 256) % 4294967296) % 256, (Int.tmod a0 256) % 256]) Try.underlying60 (by kernel_rfl) (by kernel_rfl) [(0, ((Int.tdiv a0 16777216) % 4294967296) % 256), (1, ((Int.tdiv a0 65536) % 4294967296) % 256), (2, ((Int.tdiv a0 256) % 4294967296) % 256), (3, (Int.tmod a0 256) % 256)] (by rfl) (by rfl) (by rfl) ?_) | ((with_reducible refine gate_store (t := 60) (p := 2) rfl ?_); refine Ar.store_all_event rfl rfl rfl Try.underlying60 (by kernel_rfl) (g := gb303) rfl (z := [((Int.tdiv a0 16777216) % 4294967296) % 256, ((Int.tdiv a0 65536) % 4294967296) % 256, ((Int.tdiv a0 256) % 4294967296) % 256, (Int.tmod a0 256) % 256]) (by first | rfl | (go_simp; done) | (go_simp; rfl)) (by (with_reducible repeat (first | refine blk_drewN ?_ _ | refine blk_drew ?_ | refine blk_alloc ?_ _)); exact BK303.out) ?_; intro w3 hbk_ hg; have n0_ := Aside0.mk (hbk_); have n1_ := Aside0.mk (Below.grown (by repeat (first | (with_reducible first | exact HB.out | apply below_alloc | apply pw_below_drewN | apply below_drew1 | refine below_set ?_ GE303.out) | exact HB.out)) hg ((below_size (by repeat (first | (with_reducible first | exact HB.out | apply below_alloc | apply pw_below_drewN | apply below_drew1 | refine below_set ?_ GE303.out) | exact HB.out)))) (fun _ e_ => by cases e_; exact GE303.out)); clear BK303; clear HB; have BK303 := n0_; have HB := n1_; clear n0_ n1_; clear hbk_ hg))
  refine bodyPost_ret (results_cell_row rfl _ _ gb303 60 (Ar.cells .u8 4 [((Int.tdiv a0 16777216) % 4294967296) % 256, ((Int.tdiv a0 65536) % 4294967296) % 256, ((Int.tdiv a0 256) % 4294967296) % 256, (Int.tmod a0 256) % 256]) (0, 0) _ rfl (by (with_reducible repeat (first | refine blk_drewN ?_ _ | refine blk_drew ?_ | refine blk_alloc ?_ _)); exact BK303.out) Try.underlying60 rfl (by first | (rw [Ar.cells_size]; kernel_rfl) | (simp only [Array.size_append, Ar.cells_size, List.size_toArray, List.length_cons, List.length_nil]; kernel_rfl) | kernel_rfl)) rfl ?_
  exact ⟨by first | rfl | (simp [errW_none, errW_some] <;> rfl) | (simp [*, errW_none, errW_some] <;> rfl), by repeat (first | (with_reducible first | exact HB.out | apply below_alloc | apply pw_below_drewN | apply below_drew1 | refine below_set ?_ GE303.out) | exact HB.out)⟩

/-! ### drawlotref01_Put64: function 32 -/
def drawlotref01_Put64.l0 : Nat → Int → Int → List Int → Option (List Int)
 | 0, _, _, _ => none
 | k + 1, x0, x4, x306000 => if x4 ≥ 0 then (if 0 ≤ x4 then (if x4 < 8 then (drawlotref01_Put64.l0 k (IntKind.u64.wrap (Int.tdiv x0 256)) (wrap64 (x4 - 1)) (Ar.set 8 x306000 x4 ((Int.tmod x0 256) % 256))) else (none)) else (none)) else (some x306000)
def drawlotref01_Put64.f (k : Nat) (a0 : Int) : Option (List Int) := drawlotref01_Put64.l0 k a0 7 (List.replicate 8 0)
theorem drawlotref01_Put64.mono_l : ∀ k, (∀ y0 y1 y2, LeO (drawlotref01_Put64.l0 k y0 y1 y2) (drawlotref01_Put64.l0 (k + 1) y0 y1 y2))
 | 0 => fun _ _ _ r h => by simp [drawlotref01_Put64.l0] at h
 | k + 1 => by
  have ih0 := drawlotref01_Put64.mono_l k
  ·intro y0 y1 y2
   unfold drawlotref01_Put64.l0
   repeat' first
   | (with_reducible exact ih0 _ _ _)
   | (with_reducible exact LeO.refl _)
   | (with_reducible exact LeO.none _)
   | (with_reducible refine LeO.ite ?_ ?_)
   | (with_reducible refine LeO.bind ?_ (fun _ => ?_))
   | exact ih0 _ _ _
   | exact LeO.none _
   | refine LeO.ite ?_ ?_
   | refine LeO.bind ?_ (fun _ => ?_)
theorem drawlotref01_Put64.mono : ∀ a0 k, LeO (drawlotref01_Put64.f k a0) (drawlotref01_Put64.f (k + 1) a0) := by
 intro a0 k
 have ih0 := drawlotref01_Put64.mono_l k
 unfold drawlotref01_Put64.f
 repeat' first
   | (with_reducible exact ih0 _ _ _)
   | (with_reducible exact LeO.refl _)
   | (with_reducible exact LeO.none _)
   | (with_reducible refine LeO.ite ?_ ?_)
   | (with_reducible refine LeO.bind ?_ (fun _ => ?_))
   | exact ih0 _ _ _
   | exact LeO.none _
   | refine LeO.ite ?_ ?_
   | refine LeO.bind ?_ (fun _ => ?_)
set_option maxHeartbeats 8000000 in
set_option maxRecDepth 100000 in
theorem drawlotref01_Put64.calls (k : Nat) (a0 : Int) (r : List Int) (w : World) (h : drawlotref01_Put64.f k a0 = some r) :
  Calls Try.prog 32 #[.int .u64 a0] w fun e w' => e = .returned (.agg (Ar.cells .u8 8 r)) ∧ Below w.heap.size w w' := by
 have HB := Aside0.mk (Below.refl w.heap.size w)
 have H : (drawlotref01_Put64.l0 k a0 7 (List.replicate 8 0)) = some r := h
 clear h
 have H' := Aside0.mk H
 clear H
 go_enter Try.func32, Try.ntmps32
 go_wp2_with (first | ((with_reducible refine gate_dst (N := 2) rfl ?_); (try (refine gate_guard (by rfl) ?_; dsimp only)); refine box_event ?hg (N := 2) ?hd (cs := (Ar.cells .u8 8 (List.replicate 8 0))) (t := 62) ?hr ?_; (case hd => rfl); (case hg => rfl); (case hr => first | exact Ar.box_run rfl rfl | exact Ar.alloc_run rfl (by kernel_rfl) | (go_simp; done) | (go_simp; rfl)); intro gb304 hg w2 hbox hb; have n0_ := Aside0.mk (below_step (by repeat (first | (with_reducible first | exact HB.out | apply below_alloc | apply pw_below_drewN | apply below_drew1) | exact HB.out)) hb); have n1_ := Aside0.mk (hbox); have n2_ := Aside0.mk ((by rw [hg]; exact (below_size (by repeat (first | (with_reducible first | exact HB.out | apply below_alloc | apply pw_below_drewN | apply below_drew1) | exact HB.out))) : w.heap.size ≤ gb304)); have n3_ := Aside0.mk ((by rw [hg]; exact (below_size (by repeat (first | (with_reducible first | exact HB.out | apply below_alloc | apply pw_below_drewN | apply below_drew1) | exact HB.out))) : w.heap.size ≤ gb304)); clear HB; have HB := n0_; have BK304 := n1_; have GW304 := n2_; have GE304 := n3_; clear n0_ n1_ n2_ n3_; clear hb hbox hg) | ((with_reducible refine gate_dst (N := 3) rfl ?_); (try (refine gate_guard (by rfl) ?_; dsimp only)); refine box_event ?hg (N := 3) ?hd (cs := (Ar.cells .u8 8 (List.replicate 8 0))) (t := 62) ?hr ?_; (case hd => rfl); (case hg => rfl); (case hr => first | exact Ar.box_run rfl rfl | exact Ar.alloc_run rfl (by kernel_rfl) | (go_simp; done) | (go_simp; rfl)); intro gb305 hg w3 hbox hb; have n0_ := Aside0.mk (blk_below (g := gb304) (o := .cells (Ar.cells .u8 8 (List.replicate 8 0)) 62 (0, 0)) (by (with_reducible repeat (first | refine blk_drewN ?_ _ | refine blk_drew ?_ | refine blk_alloc ?_ _)); exact BK304.out) hb); have n1_ := Aside0.mk (below_step (by repeat (first | (with_reducible first | exact HB.out | apply below_alloc | apply pw_below_drewN | apply below_drew1 | refine below_set ?_ GE304.out) | exact HB.out)) hb); have n2_ := Aside0.mk (hbox); have n3_ := Aside0.mk ((by rw [hg]; exact (below_size (by repeat (first | (with_reducible first | exact HB.out | apply below_alloc | apply pw_below_drewN | apply below_drew1 | refine below_set ?_ GE304.out) | exact HB.out))) : w.heap.size ≤ gb305)); have n4_ := Aside0.mk ((by rw [hg]; exact (below_size (by repeat (first | (with_reducible first | exact HB.out | apply below_alloc | apply pw_below_drewN | apply below_drew1 | refine below_set ?_ GE304.out) | exact HB.out))) : w.heap.size ≤ gb305)); have n5_ := Aside0.mk ((by rw [hg]; exact Nat.ne_of_lt (blk_lt (g := gb304) (o := .cells (Ar.cells .u8 8 (List.replicate 8 0)) 62 (0, 0)) (by (with_reducible repeat (first | refine blk_drewN ?_ _ | refine blk_drew ?_ | refine blk_alloc ?_ _)); exact BK304.out)) : gb304 ≠ gb305)); have n6_ := Aside0.mk ((by rw [hg]; exact Nat.ne_of_gt (blk_lt (g := gb304) (o := .cells (Ar.cells .u8 8 (List.replicate 8 0)) 62 (0, 0)) (by (with_reducible repeat (first | refine blk_drewN ?_ _ | refine blk_drew ?_ | refine blk_alloc ?_ _)); exact BK304.out)) : gb305 ≠ gb304)); clear BK304; clear HB; have BK304 := n0_; have HB := n1_; have BK305 := n2_; have GW305 := n3_; have GE305 := n4_; have NB304_305 := n5_; have NB305_304 := n6_; clear n0_ n1_ n2_ n3_ n4_ n5_ n6_; clear hb hbox hg))
 go_loopg [0, 4] k (fun kq v0 v4 w' => ∃ (x0_1 : Int) (x4_1 : Int) (x306000_1 : List Int), v0 = .int .u64 x0_1 ∧ v4 = .int .i64 x4_1 ∧ Aside0 (drawlotref01_Put64.l0 kq x0_1 x4_1 x306000_1 = some r) ∧ Aside0 (kq ≤ k) ∧ Aside0 (w'.heap[gb304]? = some (.cells (Ar.cells .u8 8 (List.replicate 8 0)) 62 (0, 0))) ∧ Aside0 (w'.heap[gb305]? = some (.cells (Ar.cells .u8 8 x306000_1) 62 (0, 0))) ∧ Aside0 (Below w.heap.size w w'))
 case atStart => exact ⟨(a0), (7), ((List.replicate 8 0)), (by first | rfl | (simp; done) | (simp [*]; done)), (by first | rfl | (simp; done) | (simp [*]; done)), H', ⟨Nat.le_refl _⟩, ⟨by (with_reducible repeat (first | refine blk_drewN ?_ _ | refine blk_drew ?_ | refine blk_alloc ?_ _)); exact BK304.out⟩, ⟨by (with_reducible repeat (first | refine blk_drewN ?_ _ | refine blk_drew ?_ | refine blk_alloc ?_ _)); exact BK305.out⟩, ⟨by repeat (first | (with_reducible first | exact HB.out | apply below_alloc | apply pw_below_drewN | apply below_drew1 | refine below_set ?_ GE304.out | refine below_set ?_ GE305.out) | exact HB.out)⟩⟩
 case round =>
  clear H'
  try clear p2
  try clear c3
  obtain ⟨x0_1, x4_1, x306000_1, rfl, rfl, HA, HK1, BK304, BK305, HB⟩ := hrel
  cases gk with
  | zero => exact absurd HA.out (by simp [drawlotref01_Put64.l0])
  | succ k1 =>
   have H := HA.out
   clear HA
   simp only [drawlotref01_Put64.l0] at H
   by_cases c4 : x4_1 ≥ 0
   ·rw [if_pos c4] at H
    have c4b0 : decide (0 ≤ x4_1) = true := decide_eq_true c4
    clear c4
    by_cases c5 : 0 ≤ x4_1
    ·rw [if_pos c5] at H
     have c5b0 : decide (0 ≤ x4_1) = true := decide_eq_true c5
     clear c5
     by_cases c6 : x4_1 < 8
     ·rw [if_pos c6] at H
      have c6b0 : decide (x4_1 < 8) = true := decide_eq_true c6
      clear c6
      obtain ⟨y306, hy306⟩ : ∃ y_ : List Int, y_ = (Ar.set 8 x306000_1 x4_1 ((Int.tmod x0_1 256) % 256)) := ⟨_, rfl⟩
      replace H : (drawlotref01_Put64.l0 k1 (IntKind.u64.wrap (Int.tdiv x0_1 256)) (wrap64 (x4_1 - 1)) y306) = some r := by first | (rw [hy306]; with_reducible exact H) | (have H2_ := (Option.bind_some _ _).symm.trans H; rw [hy306]; with_reducible exact H2_) | (have H2_ := (Option.bind_some _ _).symm.trans H; with_reducible exact H2_) | with_reducible exact H | (rw [hy306]; exact H) | exact H
      have Ny306 := Aside0.mk hy306
      clear hy306
      have H' := Aside0.mk H
      clear H
      go_wp2_with (first | ((with_reducible refine gate_dst (N := 13) rfl ?_); (try (refine gate_guard (by rfl) ?_; dsimp only)); refine Ar.idx_event rfl (D := 13) rfl (T := 62) (n := 8) rfl Try.underlying62 (by kernel_rfl) (g := gb305) rfl (j := x4_1) (by first | rfl | (go_simp; done) | (go_simp; rfl)) (of_decide_eq_true (by first | (with_reducible assumption) | assumption)) (of_decide_eq_true (by first | (with_reducible assumption) | assumption)) ?_) | ((with_reducible refine gate_store (t := 5) (p := 13) rfl ?_); refine Ar.put_event rfl rfl rfl (by kernel_rfl) (g := gb305) (j := x4_1) rfl (z := ((Int.tmod x0_1 256) % 256)) (by first | rfl | (go_simp; done) | (go_simp; rfl)) (by (with_reducible repeat (first | refine blk_drewN ?_ _ | refine blk_drew ?_ | refine blk_alloc ?_ _)); exact BK305.out) (of_decide_eq_true (by first | (with_reducible assumption) | assumption)) (of_decide_eq_true (by first | (with_reducible assumption) | assumption)) ?_; intro w7 hbk_ hg; rw [← Ny306.out] at hbk_; have n0_ := Aside0.mk (blk_grown (g := gb304) (o := .cells (Ar.cells .u8 8 (List.replicate 8 0)) 62 (0, 0)) (by (with_reducible repeat (first | refine blk_drewN ?_ _ | refine blk_drew ?_ | refine blk_alloc ?_ _)); exact BK304.out) hg (fun e_ => NB304_305.out (Option.some.inj e_))); have n1_ := Aside0.mk (hbk_); have n2_ := Aside0.mk (Below.grown (by repeat (first | (with_reducible first | exact HB.out | apply below_alloc | apply pw_below_drewN | apply below_drew1 | refine below_set ?_ GE304.out | refine below_set ?_ GE305.out) | exact HB.out)) hg ((below_size (by repeat (first | (with_reducible first | exact HB.out | apply below_alloc | apply pw_below_drewN | apply below_drew1 | refine below_set ?_ GE304.out | refine below_set ?_ GE305.out) | exact HB.out)))) (fun _ e_ => by cases e_; exact GE305.out)); clear BK304; clear BK305; clear HB; have BK304 := n0_; have BK305 := n1_; have HB := n2_; clear n0_ n1_ n2_; clear hbk_ hg))
      go_roundg k1
      case measure => have := HK1.out; omega
      case rel => exact ⟨(IntKind.u64.wrap (Int.tdiv x0_1 256)), (wrap64 (x4_1 - 1)), (y306), (by first | rfl | (simp; done) | (simp [*]; done)), (by first | rfl | (simp; done) | (simp [*]; done)), H', ⟨by have := HK1.out; omega⟩, ⟨by (with_reducible repeat (first | refine blk_drewN ?_ _ | refine blk_drew ?_ | refine blk_alloc ?_ _)); exact BK304.out⟩, ⟨by (with_reducible repeat (first | refine blk_drewN ?_ _ | refine blk_drew ?_ | refine blk_alloc ?_ _)); exact BK305.out⟩, ⟨by repeat (first | (with_reducible first | exact HB.out | apply below_alloc | apply pw_below_drewN | apply below_drew1 | refine below_set ?_ GE304.out | refine below_set ?_ GE305.out) | exact HB.out)⟩⟩
     ·rw [if_neg c6] at H
      exact absurd H (by simp)
    ·rw [if_neg c5] at H
     exact absurd H (by simp)
   ·rw [if_neg c4] at H
    have c4b0 : decide (0 ≤ x4_1) = false := decide_eq_false c4
    clear c4
    obtain rfl := Option.some.inj H
    go_wp2_with (first | ((with_reducible refine gate_dst (N := 16) rfl ?_); (try (refine gate_guard (by rfl) ?_; dsimp only)); refine Ar.load_event rfl (D := 16) rfl (T := 62) rfl Try.underlying62 (by kernel_rfl) (g := gb305) rfl (by (with_reducible repeat (first | refine blk_drewN ?_ _ | refine blk_drew ?_ | refine blk_alloc ?_ _)); exact BK305.out) ?_) | ((with_reducible refine gate_store (t := 62) (p := 2) rfl ?_); refine Ar.store_all_event rfl rfl rfl Try.underlying62 (by kernel_rfl) (g := gb304) rfl (z := x306000_1) (by first | rfl | (go_simp; done) | (go_simp; rfl)) (by (with_reducible repeat (first | refine blk_drewN ?_ _ | refine blk_drew ?_ | refine blk_alloc ?_ _)); exact BK304.out) ?_; intro w8 hbk_ hg; have n0_ := Aside0.mk (blk_grown (g := gb305) (o := .cells (Ar.cells .u8 8 x306000_1) 62 (0, 0)) (by (with_reducible repeat (first | refine blk_drewN ?_ _ | refine blk_drew ?_ | refine blk_alloc ?_ _)); exact BK305.out) hg (fun e_ => NB305_304.out (Option.some.inj e_))); have n1_ := Aside0.mk (hbk_); have n2_ := Aside0.mk (Below.grown (by repeat (first | (with_reducible first | exact HB.out | apply below_alloc | apply pw_below_drewN | apply below_drew1 | refine below_set ?_ GE304.out | refine below_set ?_ GE305.out) | exact HB.out)) hg ((below_size (by repeat (first | (with_reducible first | exact HB.out | apply below_alloc | apply pw_below_drewN | apply below_drew1 | refine below_set ?_ GE304.out | refine below_set ?_ GE305.out) | exact HB.out)))) (fun _ e_ => by cases e_; exact GE304.out)); clear BK305; clear BK304; clear HB; have BK305 := n0_; have BK304 := n1_; have HB := n2_; clear n0_ n1_ n2_; clear hbk_ hg))
    refine bodyPost_ret (results_cell_row rfl _ _ gb304 62 (Ar.cells .u8 8 x306000_1) (0, 0) _ rfl (by (with_reducible repeat (first | refine blk_drewN ?_ _ | refine blk_drew ?_ | refine blk_alloc ?_ _)); exact BK304.out) Try.underlying62 rfl (by first | (rw [Ar.cells_size]; kernel_rfl) | (simp only [Array.size_append, Ar.cells_size, List.size_toArray, List.length_cons, List.length_nil]; kernel_rfl) | kernel_rfl)) rfl ?_
    exact ⟨by first | rfl | (simp [errW_none, errW_some] <;> rfl) | (simp [*, errW_none, errW_some] <;> rfl), by repeat (first | (with_reducible first | exact HB.out | apply below_alloc | apply pw_below_drewN | apply below_drew1 | refine below_set ?_ GE304.out | refine below_set ?_ GE305.out) | exact HB.out)⟩

/-! ### drawlotref24_put: function 24 -/
mutual
def drawlotref24_put.j0 : Nat → Int → List Int → Int → Bool → Int → Int → Int → List Int → Int → Option (List Int)
 | 0, _, _, _, _, _, _, _, _, _ => none
 | k + 1, x1, x5, x11, x12, x308000, x308001, x308002, x308003, x308004 => if x12 = true then ((drawlotref01_Put32.f ((x308001) % 4294967296)).bind fun t308 => (if x1 = 110 then ((drawlotref01_Put32.f ((x308004) % 4294967296)).bind fun t310 => (drawlotref24_put.j1 k x5 t310)) else (drawlotref24_put.j1 k x5 t308))) else (if x11 = 97 then ((drawlotref01_Put64.f k x308002).bind fun t314 => (drawlotref24_put.l1 k x5 0 t314)) else (if x11 = 104 then (drawlotref24_put.l2 k x5 0 x308000 x308001 x308002 x308003 x308004) else (some x5)))
def drawlotref24_put.j1 : Nat → List Int → List Int → Option (List Int)
 | 0, _, _ => none
 | k + 1, x5, x310000 => drawlotref24_put.l0 k x5 0 x310000
def drawlotref24_put.l0 : Nat → List Int → Int → List Int → Option (List Int)
 | 0, _, _, _ => none
 | k + 1, x5, x7, x310000 => if x7 < 4 then (if 0 ≤ x7 then (if x5.length < 140737488355328 then (drawlotref24_put.l0 k (x5 ++ [Ar.get 4 x310000 x7]) (wrap64 (x7 + 1)) x310000) else (none)) else (none)) else (some x5)
def drawlotref24_put.l1 : Nat → List Int → Int → List Int → Option (List Int)
 | 0, _, _, _ => none
 | k + 1, x5, x9, x316000 => if x9 < 8 then (if 0 ≤ x9 then (if x5.length < 140737488355328 then (drawlotref24_put.l1 k (x5 ++ [Ar.get 8 x316000 x9]) (wrap64 (x9 + 1)) x316000) else (none)) else (none)) else (some x5)
def drawlotref24_put.l2 : Nat → List Int → Int → Int → Int → Int → List Int → Int → Option (List Int)
 | 0, _, _, _, _, _, _, _ => none
 | k + 1, x5, x10, x308000, x308001, x308002, x308003, x308004 => if x10 < 32 then (if 0 ≤ x10 then (if x5.length < 140737488355328 then (drawlotref24_put.l2 k (x5 ++ [Ar.get 32 x308003 x10]) (wrap64 (x10 + 1)) x308000 x308001 x308002 x308003 x308004) else (none)) else (none)) else (some x5)
end
def drawlotref24_put.f (k : Nat) (a0_0 : Int) (a0_1 : Int) (a0_2 : Int) (a0_3 : List Int) (a0_4 : Int) (a1 : Int) : Option (List Int) := if a1 = 119 then (drawlotref24_put.j0 k a1 ([] : List Int) a1 (a1 == 119) a0_0 a0_1 a0_2 a0_3 a0_4) else (drawlotref24_put.j0 k a1 ([] : List Int) a1 (a1 == 110) a0_0 a0_1 a0_2 a0_3 a0_4)
theorem drawlotref24_put.mono_l : ∀ k, (∀ y0 y1 y2 y3 y4 y5 y6 y7 y8, LeO (drawlotref24_put.j0 k y0 y1 y2 y3 y4 y5 y6 y7 y8) (drawlotref24_put.j0 (k + 1) y0 y1 y2 y3 y4 y5 y6 y7 y8)) ∧ (∀ y0 y1, LeO (drawlotref24_put.j1 k y0 y1) (drawlotref24_put.j1 (k + 1) y0 y1)) ∧ (∀ y0 y1 y2, LeO (drawlotref24_put.l0 k y0 y1 y2) (drawlotref24_put.l0 (k + 1) y0 y1 y2)) ∧ (∀ y0 y1 y2, LeO (drawlotref24_put.l1 k y0 y1 y2) (drawlotref24_put.l1 (k + 1) y0 y1 y2)) ∧ (∀ y0 y1 y2 y3 y4 y5 y6, LeO (drawlotref24_put.l2 k y0 y1 y2 y3 y4 y5 y6) (drawlotref24_put.l2 (k + 1) y0 y1 y2 y3 y4 y5 y6))
 | 0 => ⟨fun _ _ _ _ _ _ _ _ _ r h => by simp [drawlotref24_put.j0] at h, fun _ _ r h => by simp [drawlotref24_put.j1] at h, fun _ _ _ r h => by simp [drawlotref24_put.l0] at h, fun _ _ _ r h => by simp [drawlotref24_put.l1] at h, fun _ _ _ _ _ _ _ r h => by simp [drawlotref24_put.l2] at h⟩
 | k + 1 => by
  obtain ⟨ih0, ih1, ih2, ih3, ih4⟩ := drawlotref24_put.mono_l k
  refine ⟨?_, ?_, ?_, ?_, ?_⟩
  ·intro y0 y1 y2 y3 y4 y5 y6 y7 y8
   unfold drawlotref24_put.j0
   repeat' first
   | (with_reducible exact ih0 _ _ _ _ _ _ _ _ _)
   | (with_reducible exact ih1 _ _)
   | (with_reducible exact ih2 _ _ _)
   | (with_reducible exact ih3 _ _ _)
   | (with_reducible exact ih4 _ _ _ _ _ _ _)
   | (with_reducible exact drawlotref01_Put64.mono _ _)
   | (with_reducible exact LeO.refl _)
   | (with_reducible exact LeO.none _)
   | (with_reducible refine LeO.ite ?_ ?_)
   | (with_reducible refine LeO.bind ?_ (fun _ => ?_))
   | exact ih0 _ _ _ _ _ _ _ _ _
   | exact ih1 _ _
   | exact ih2 _ _ _
   | exact ih3 _ _ _
   | exact ih4 _ _ _ _ _ _ _
   | exact drawlotref01_Put64.mono _ _
   | exact LeO.none _
   | refine LeO.ite ?_ ?_
   | refine LeO.bind ?_ (fun _ => ?_)
  ·intro y0 y1
   unfold drawlotref24_put.j1
   repeat' first
   | (with_reducible exact ih0 _ _ _ _ _ _ _ _ _)
   | (with_reducible exact ih1 _ _)
   | (with_reducible exact ih2 _ _ _)
   | (with_reducible exact ih3 _ _ _)
   | (with_reducible exact ih4 _ _ _ _ _ _ _)
   | (with_reducible exact drawlotref01_Put64.mono _ _)
   | (with_reducible exact LeO.refl _)
   | (with_reducible exact LeO.none _)
   | (with_reducible refine LeO.ite ?_ ?_)
   | (with_reducible refine LeO.bind ?_ (fun _ => ?_))
   | exact ih0 _ _ _ _ _ _ _ _ _
   | exact ih1 _ _
   | exact ih2 _ _ _
   | exact ih3 _ _ _
   | exact ih4 _ _ _ _ _ _ _
   | exact drawlotref01_Put64.mono _ _
   | exact LeO.none _
   | refine LeO.ite ?_ ?_
   | refine LeO.bind ?_ (fun _ => ?_)
  ·intro y0 y1 y2
   unfold drawlotref24_put.l0
   repeat' first
   | (with_reducible exact ih0 _ _ _ _ _ _ _ _ _)
   | (with_reducible exact ih1 _ _)
   | (with_reducible exact ih2 _ _ _)
   | (with_reducible exact ih3 _ _ _)
   | (with_reducible exact ih4 _ _ _ _ _ _ _)
   | (with_reducible exact drawlotref01_Put64.mono _ _)
   | (with_reducible exact LeO.refl _)
   | (with_reducible exact LeO.none _)
   | (with_reducible refine LeO.ite ?_ ?_)
   | (with_reducible refine LeO.bind ?_ (fun _ => ?_))
   | exact ih0 _ _ _ _ _ _ _ _ _
   | exact ih1 _ _
   | exact ih2 _ _ _
   | exact ih3 _ _ _
   | exact ih4 _ _ _ _ _ _ _
   | exact drawlotref01_Put64.mono _ _
   | exact LeO.none _
   | refine LeO.ite ?_ ?_
   | refine LeO.bind ?_ (fun _ => ?_)
  ·intro y0 y1 y2
   unfold drawlotref24_put.l1
   repeat' first
   | (with_reducible exact ih0 _ _ _ _ _ _ _ _ _)
   | (with_reducible exact ih1 _ _)
   | (with_reducible exact ih2 _ _ _)
   | (with_reducible exact ih3 _ _ _)
   | (with_reducible exact ih4 _ _ _ _ _ _ _)
   | (with_reducible exact drawlotref01_Put64.mono _ _)
   | (with_reducible exact LeO.refl _)
   | (with_reducible exact LeO.none _)
   | (with_reducible refine LeO.ite ?_ ?_)
   | (with_reducible refine LeO.bind ?_ (fun _ => ?_))
   | exact ih0 _ _ _ _ _ _ _ _ _
   | exact ih1 _ _
   | exact ih2 _ _ _
   | exact ih3 _ _ _
   | exact ih4 _ _ _ _ _ _ _
   | exact drawlotref01_Put64.mono _ _
   | exact LeO.none _
   | refine LeO.ite ?_ ?_
   | refine LeO.bind ?_ (fun _ => ?_)
  ·intro y0 y1 y2 y3 y4 y5 y6
   unfold drawlotref24_put.l2
   repeat' first
   | (with_reducible exact ih0 _ _ _ _ _ _ _ _ _)
   | (with_reducible exact ih1 _ _)
   | (with_reducible exact ih2 _ _ _)
   | (with_reducible exact ih3 _ _ _)
   | (with_reducible exact ih4 _ _ _ _ _ _ _)
   | (with_reducible exact drawlotref01_Put64.mono _ _)
   | (with_reducible exact LeO.refl _)
   | (with_reducible exact LeO.none _)
   | (with_reducible refine LeO.ite ?_ ?_)
   | (with_reducible refine LeO.bind ?_ (fun _ => ?_))
   | exact ih0 _ _ _ _ _ _ _ _ _
   | exact ih1 _ _
   | exact ih2 _ _ _
   | exact ih3 _ _ _
   | exact ih4 _ _ _ _ _ _ _
   | exact drawlotref01_Put64.mono _ _
   | exact LeO.none _
   | refine LeO.ite ?_ ?_
   | refine LeO.bind ?_ (fun _ => ?_)
theorem drawlotref24_put.mono : ∀ a0 a1 a2 a3 a4 a5 k, LeO (drawlotref24_put.f k a0 a1 a2 a3 a4 a5) (drawlotref24_put.f (k + 1) a0 a1 a2 a3 a4 a5) := by
 intro a0 a1 a2 a3 a4 a5 k
 obtain ⟨ih0, ih1, ih2, ih3, ih4⟩ := drawlotref24_put.mono_l k
 unfold drawlotref24_put.f
 repeat' first
   | (with_reducible exact ih0 _ _ _ _ _ _ _ _ _)
   | (with_reducible exact ih1 _ _)
   | (with_reducible exact ih2 _ _ _)
   | (with_reducible exact ih3 _ _ _)
   | (with_reducible exact ih4 _ _ _ _ _ _ _)
   | (with_reducible exact drawlotref01_Put64.mono _ _)
   | (with_reducible exact LeO.refl _)
   | (with_reducible exact LeO.none _)
   | (with_reducible refine LeO.ite ?_ ?_)
   | (with_reducible refine LeO.bind ?_ (fun _ => ?_))
   | exact ih0 _ _ _ _ _ _ _ _ _
   | exact ih1 _ _
   | exact ih2 _ _ _
   | exact ih3 _ _ _
   | exact ih4 _ _ _ _ _ _ _
   | exact drawlotref01_Put64.mono _ _
   | exact LeO.none _
   | refine LeO.ite ?_ ?_
   | refine LeO.bind ?_ (fun _ => ?_)
set_option maxHeartbeats 8000000 in
set_option maxRecDepth 100000 in
theorem drawlotref24_put.calls (k : Nat) (a0_0 : Int) (a0_1 : Int) (a0_2 : Int) (a0_3 : List Int) (a0_4 : Int) (a1 : Int) (r : List Int) (w : World) (h : drawlotref24_put.f k a0_0 a0_1 a0_2 a0_3 a0_4 a1 = some r) :
  Calls Try.prog 24 #[.agg (#[.int .i64 a0_0, .int .i64 a0_1, .int .u64 a0_2] ++ (Ar.cells .u8 32 a0_3 ++ #[.int .i64 a0_4])), .int .u8 a1] w fun e w' => ∃ v0_ : Value, e = .returned (v0_) ∧ Kd.R (Kd.int .u8) 5 w' w.heap.size (fun _ => True) v0_ r ∧ Below w.heap.size w w' := by
 have hu39 := Try.underlying39
 have HB := Aside0.mk (Below.refl w.heap.size w)
 have H : (if a1 = 119 then (drawlotref24_put.j0 k a1 ([] : List Int) a1 (a1 == 119) a0_0 a0_1 a0_2 a0_3 a0_4) else (drawlotref24_put.j0 k a1 ([] : List Int) a1 (a1 == 110) a0_0 a0_1 a0_2 a0_3 a0_4)) = some r := h
 clear h
 have HC3 := Aside0.mk H
 clear H
 go_enter Try.func24, Try.ntmps24
 go_upto_if 12 with (first | ((with_reducible refine gate_dst (N := 2) rfl ?_); (try (refine gate_guard (by rfl) ?_; dsimp only)); refine box_event ?hg (N := 2) ?hd (cs := (#[.int .i64 a0_0, .int .i64 a0_1, .int .u64 a0_2] ++ ((Ar.cells .u8 32 a0_3) ++ #[.int .i64 a0_4]))) (t := 39) ?hr ?_; (case hd => rfl); (case hg => rfl); (case hr => first | exact Ar.gbox_run rfl rfl | exact Ar.galloc_run rfl (by kernel_rfl) | (go_simp; done) | (go_simp; rfl)); intro gb307 hg w4 hbox hb; have n0_ := Aside0.mk (below_step (by repeat (first | (with_reducible first | exact HB.out | apply below_alloc | apply pw_below_drewN | apply below_drew1) | exact HB.out)) hb); have n1_ := Aside0.mk (hbox); have n2_ := Aside0.mk ((by rw [hg]; exact (below_size (by repeat (first | (with_reducible first | exact HB.out | apply below_alloc | apply pw_below_drewN | apply below_drew1) | exact HB.out))) : w.heap.size ≤ gb307)); have n3_ := Aside0.mk ((by rw [hg]; exact (below_size (by repeat (first | (with_reducible first | exact HB.out | apply below_alloc | apply pw_below_drewN | apply below_drew1) | exact HB.out))) : w.heap.size ≤ gb307)); clear HB; have HB := n0_; have BK307 := n1_; have GW307 := n2_; have GE307 := n3_; clear n0_ n1_ n2_ n3_; clear hb hbox hg))
 (try simp only [Act.put, List.setIfInBounds_toArray, List.set_cons_zero, List.set_cons_succ])
 go_cut [12] (fun v12 wc => ∃ (kq : Nat) (x12_2 : Bool), v12 = .bool x12_2 ∧ Aside0 (drawlotref24_put.j0 kq a1 ([] : List Int) a1 x12_2 a0_0 a0_1 a0_2 a0_3 a0_4 = some r) ∧ Aside0 (kq ≤ k) ∧ Aside0 (Kd.R (Kd.int .u8) 5 wc w.heap.size (fun _ => True) (.slice none 0 0) ([] : List Int)) ∧ Aside0 (wc.heap[gb307]? = some (.cells (#[.int .i64 a0_0, .int .i64 a0_1, .int .u64 a0_2] ++ (Ar.cells .u8 32 a0_3 ++ #[.int .i64 a0_4])) 39 (0, 0))) ∧ Aside0 (Below w.heap.size w wc))
 case first =>
  have H := HC3.out
  clear HC3
  by_cases c5 : a1 = 119
  ·rw [if_pos c5] at H
   have c5b0 : (a1 == 119) = true := beq_iff_eq.mpr c5
   have c5b1 : (a1 != 119) = false := bne_eq_false_iff_eq.mpr c5
   clear c5
   (first | rw [c5b0] | (simp only [i64_w, i32_w]; rw [c5b0]) | skip)
   have H' := Aside0.mk H
   clear H
   go_wp2
   go_meet
   case rel => exact ⟨_, ((a1 == 119)), (by first | rfl | (simp; done) | (simp [*]; done)), H', ⟨by first | omega | exact Nat.le_refl _⟩, ⟨by first | exact Kd.R_nil _ _ _ _ _ | exact Kd.N_nil _ _ _ _ _ | exact Kd.V_nil _ _ _ _ _ | exact Kd.Q_nil _ _ _ _ _ | exact Kd.S_nil _ _ _ _ _⟩, ⟨by (with_reducible repeat (first | refine blk_drewN ?_ _ | refine blk_drew ?_ | refine blk_alloc ?_ _)); exact BK307.out⟩, ⟨by repeat (first | (with_reducible first | exact HB.out | apply below_alloc | apply pw_below_drewN | apply below_drew1 | refine below_set ?_ GE307.out) | exact HB.out)⟩⟩
  ·rw [if_neg c5] at H
   have c5b0 : (a1 == 119) = false := beq_eq_false_iff_ne.mpr c5
   have c5b1 : (a1 != 119) = true := bne_iff_ne.mpr c5
   (first | rw [c5b0] | (simp only [i64_w, i32_w]; rw [c5b0]) | skip)
   have H' := Aside0.mk H
   clear H
   go_wp2
   go_meet
   case rel => exact ⟨_, ((a1 == 110)), (by first | rfl | (simp; done) | (simp [*]; done)), H', ⟨by first | omega | exact Nat.le_refl _⟩, ⟨by first | exact Kd.R_nil _ _ _ _ _ | exact Kd.N_nil _ _ _ _ _ | exact Kd.V_nil _ _ _ _ _ | exact Kd.Q_nil _ _ _ _ _ | exact Kd.S_nil _ _ _ _ _⟩, ⟨by (with_reducible repeat (first | refine blk_drewN ?_ _ | refine blk_drew ?_ | refine blk_alloc ?_ _)); exact BK307.out⟩, ⟨by repeat (first | (with_reducible first | exact HB.out | apply below_alloc | apply pw_below_drewN | apply below_drew1 | refine below_set ?_ GE307.out) | exact HB.out)⟩⟩
 case rest =>
  clear HC3
  try clear c2
  try clear p2
  try clear c5
  try clear c5b0
  try clear c5b1
  obtain ⟨kq, x12_2, rfl, HA, HJ2, HO_5, BK307, HB⟩ := hcut
  cases kq with
  | zero => exact absurd HA.out (by simp [drawlotref24_put.j0])
  | succ kj2 =>
   have H := HA.out
   clear HA
   simp only [drawlotref24_put.j0] at H
   by_cases c6 : x12_2 = true
   ·subst c6
    have H1 : ((drawlotref01_Put32.f ((a0_1) % 4294967296)).bind fun t308 => (if a1 = 110 then ((drawlotref01_Put32.f ((a0_4) % 4294967296)).bind fun t310 => (drawlotref24_put.j1 kj2 ([] : List Int) t310)) else (drawlotref24_put.j1 kj2 ([] : List Int) t308))) = some r := by rw [if_pos rfl] at H; exact H
    clear H
    have H := H1
    clear H1
    replace H := Option.bind_eq_some_iff.mp H
    obtain ⟨t308, A70, H⟩ := H
    replace H : (if a1 = 110 then ((drawlotref01_Put32.f ((a0_4) % 4294967296)).bind fun t310 => (drawlotref24_put.j1 kj2 ([] : List Int) t310)) else (drawlotref24_put.j1 kj2 ([] : List Int) t308)) = some r := H
    have A7 := Aside0.mk A70
    clear A70
    have HC8 := Aside0.mk H
    clear H
    have hcz9_0 : wc.cell? ⟨gb307, 0, none⟩ = some (.int .i64 a0_0) := (blk_cell BK307.out 0).trans (by first | (simp [Array.getElem?_append, Ar.cells_size]; done) | (simp [Array.getElem?_append, Array.getElem_push, Ar.cells_size]; done))
    have hcz9_1 : wc.cell? ⟨gb307, 1, none⟩ = some (.int .i64 a0_1) := (blk_cell BK307.out 1).trans (by first | (simp [Array.getElem?_append, Ar.cells_size]; done) | (simp [Array.getElem?_append, Array.getElem_push, Ar.cells_size]; done))
    have hcz9_2 : wc.cell? ⟨gb307, 2, none⟩ = some (.int .u64 a0_2) := (blk_cell BK307.out 2).trans (by first | (simp [Array.getElem?_append, Ar.cells_size]; done) | (simp [Array.getElem?_append, Array.getElem_push, Ar.cells_size]; done))
    have hcz9_4 : wc.cell? ⟨gb307, 35, none⟩ = some (.int .i64 a0_4) := (blk_cell BK307.out 35).trans (by first | (simp [Array.getElem?_append, Ar.cells_size]; done) | (simp [Array.getElem?_append, Array.getElem_push, Ar.cells_size]; done))
    go_upto_if 20 with (first | ((with_reducible refine gate_callee (f := 31) rfl ?_); refine goesL_ (some 18) rfl rfl Try.func31 (by kernel_rfl) rfl #[.int .u32 ((a0_1) % 4294967296)] rfl (by (try simp only [List.map_toArray, List.map_cons, List.map_nil]); first | done | rfl | (simp only [List.length_drop, List.length_take]; rfl)) ?_; (with_reducible refine (drawlotref01_Put32.calls ((a0_1) % 4294967296) t308 _ A7.out).mono ?_); rintro e w10 ⟨rfl, hb⟩; refine ⟨_, rfl, ?_⟩; have n0_ := Aside0.mk (Kd.R_below (by (with_reducible repeat (first | apply Kd.R_alloc | apply Kd.R_drewN | apply Kd.R_drew)); exact HO_5.out) hb); have n1_ := Aside0.mk (blk_below (g := gb307) (o := .cells (#[.int .i64 a0_0, .int .i64 a0_1, .int .u64 a0_2] ++ ((Ar.cells .u8 32 a0_3) ++ #[.int .i64 a0_4])) 39 (0, 0)) (by (with_reducible repeat (first | refine blk_drewN ?_ _ | refine blk_drew ?_ | refine blk_alloc ?_ _)); exact BK307.out) hb); have n2_ := Aside0.mk (below_step (by repeat (first | (with_reducible first | exact HB.out | apply below_alloc | apply pw_below_drewN | apply below_drew1 | refine below_set ?_ GE307.out) | exact HB.out)) hb); clear HO_5; clear BK307; clear HB; have HO_5 := n0_; have BK307 := n1_; have HB := n2_; clear n0_ n1_ n2_; (try clear hb); (try clear hb2); (try clear hk); (try clear hi)) | ((with_reducible refine gate_dst (N := 6) rfl ?_); (try (refine gate_guard (by rfl) ?_; dsimp only)); refine box_event ?hg (N := 6) ?hd (cs := (Ar.cells .u8 4 (List.replicate 4 0))) (t := 60) ?hr ?_; (case hd => rfl); (case hg => rfl); (case hr => first | exact Ar.box_run rfl rfl | exact Ar.alloc_run rfl (by kernel_rfl) | (go_simp; done) | (go_simp; rfl)); intro gb309 hg w11 hbox hb; have n0_ := Aside0.mk (Kd.R_below (by (with_reducible repeat (first | apply Kd.R_alloc | apply Kd.R_drewN | apply Kd.R_drew)); exact HO_5.out) hb); have n1_ := Aside0.mk (blk_below (g := gb307) (o := .cells (#[.int .i64 a0_0, .int .i64 a0_1, .int .u64 a0_2] ++ ((Ar.cells .u8 32 a0_3) ++ #[.int .i64 a0_4])) 39 (0, 0)) (by (with_reducible repeat (first | refine blk_drewN ?_ _ | refine blk_drew ?_ | refine blk_alloc ?_ _)); exact BK307.out) hb); have n2_ := Aside0.mk (below_step (by repeat (first | (with_reducible first | exact HB.out | apply below_alloc | apply pw_below_drewN | apply below_drew1 | refine below_set ?_ GE307.out) | exact HB.out)) hb); have n3_ := Aside0.mk (hbox); have n4_ := Aside0.mk ((by rw [hg]; exact (below_size (by repeat (first | (with_reducible first | exact HB.out | apply below_alloc | apply pw_below_drewN | apply below_drew1 | refine below_set ?_ GE307.out) | exact HB.out))) : w.heap.size ≤ gb309)); have n5_ := Aside0.mk ((by rw [hg]; exact (below_size (by repeat (first | (with_reducible first | exact HB.out | apply below_alloc | apply pw_below_drewN | apply below_drew1 | refine below_set ?_ GE307.out) | exact HB.out))) : w.heap.size ≤ gb309)); have n6_ := Aside0.mk ((by rw [hg]; exact Nat.ne_of_lt (blk_lt (g := gb307) (o := .cells (#[.int .i64 a0_0, .int .i64 a0_1, .int .u64 a0_2] ++ ((Ar.cells .u8 32 a0_3) ++ #[.int .i64 a0_4])) 39 (0, 0)) (by (with_reducible repeat (first | refine blk_drewN ?_ _ | refine blk_drew ?_ | refine blk_alloc ?_ _)); exact BK307.out)) : gb307 ≠ gb309)); have n7_ := Aside0.mk ((by rw [hg]; exact Nat.ne_of_gt (blk_lt (g := gb307) (o := .cells (#[.int .i64 a0_0, .int .i64 a0_1, .int .u64 a0_2] ++ ((Ar.cells .u8 32 a0_3) ++ #[.int .i64 a0_4])) 39 (0, 0)) (by (with_reducible repeat (first | refine blk_drewN ?_ _ | refine blk_drew ?_ | refine blk_alloc ?_ _)); exact BK307.out)) : gb309 ≠ gb307)); clear HO_5; clear BK307; clear HB; have HO_5 := n0_; have BK307 := n1_; have HB := n2_; have BK309 := n3_; have GW309 := n4_; have GE309 := n5_; have NB307_309 := n6_; have NB309_307 := n7_; clear n0_ n1_ n2_ n3_ n4_ n5_ n6_ n7_; clear hb hbox hg) | ((with_reducible refine gate_store (t := 60) (p := 6) rfl ?_); refine Ar.store_all_event rfl rfl rfl Try.underlying60 (by kernel_rfl) (g := gb309) rfl (z := t308) (by first | rfl | (go_simp; done) | (go_simp; rfl)) (by (with_reducible repeat (first | refine blk_drewN ?_ _ | refine blk_drew ?_ | refine blk_alloc ?_ _)); exact BK309.out) ?_; intro w12 hbk_ hg; have n0_ := Aside0.mk (Kd.R_mono (Kd.R_grown (Kd.R_types (by (with_reducible repeat (first | apply Kd.R_alloc | apply Kd.R_drewN | apply Kd.R_drew)); exact HO_5.out) BK309.out (by decide)) hg (fun k_ hk_ e_ => hk_.2 (Option.some.inj e_))) (fun _ h_ => h_.1)); have n1_ := Aside0.mk (blk_grown (g := gb307) (o := .cells (#[.int .i64 a0_0, .int .i64 a0_1, .int .u64 a0_2] ++ ((Ar.cells .u8 32 a0_3) ++ #[.int .i64 a0_4])) 39 (0, 0)) (by (with_reducible repeat (first | refine blk_drewN ?_ _ | refine blk_drew ?_ | refine blk_alloc ?_ _)); exact BK307.out) hg (fun e_ => NB307_309.out (Option.some.inj e_))); have n2_ := Aside0.mk (hbk_); have n3_ := Aside0.mk (Below.grown (by repeat (first | (with_reducible first | exact HB.out | apply below_alloc | apply pw_below_drewN | apply below_drew1 | refine below_set ?_ GE307.out | refine below_set ?_ GE309.out) | exact HB.out)) hg ((below_size (by repeat (first | (with_reducible first | exact HB.out | apply below_alloc | apply pw_below_drewN | apply below_drew1 | refine below_set ?_ GE307.out | refine below_set ?_ GE309.out) | exact HB.out)))) (fun _ e_ => by cases e_; exact GE309.out)); clear HO_5; clear BK307; clear BK309; clear HB; have HO_5 := n0_; have BK307 := n1_; have BK309 := n2_; have HB := n3_; clear n0_ n1_ n2_ n3_; clear hbk_ hg))
    (try simp only [Act.put, List.setIfInBounds_toArray, List.set_cons_zero, List.set_cons_succ])
    go_cut [] (fun wc => ∃ (kq : Nat) (x310000_7 : List Int), Aside0 (drawlotref24_put.j1 kq ([] : List Int) x310000_7 = some r) ∧ Aside0 (kq ≤ kj2) ∧ Aside0 (Kd.R (Kd.int .u8) 5 wc w.heap.size (fun _ => True) (.slice none 0 0) ([] : List Int)) ∧ Aside0 (wc.heap[gb307]? = some (.cells (#[.int .i64 a0_0, .int .i64 a0_1, .int .u64 a0_2] ++ (Ar.cells .u8 32 a0_3 ++ #[.int .i64 a0_4])) 39 (0, 0))) ∧ Aside0 (wc.heap[gb309]? = some (.cells (Ar.cells .u8 4 x310000_7) 60 (0, 0))) ∧ Aside0 (Below w.heap.size w wc))
    case first =>
     have H := HC8.out
     clear HC8
     by_cases c13 : a1 = 110
     ·rw [if_pos c13] at H
      have c13b0 : (a1 == 110) = true := beq_iff_eq.mpr c13
      have c13b1 : (a1 != 110) = false := bne_eq_false_iff_eq.mpr c13
      clear c13
      (first | rw [c13b0] | (simp only [i64_w, i32_w]; rw [c13b0]) | skip)
      replace H := Option.bind_eq_some_iff.mp H
      obtain ⟨t310, A140, H⟩ := H
      replace H : (drawlotref24_put.j1 kj2 ([] : List Int) t310) = some r := H
      have A14 := Aside0.mk A140
      clear A140
      have H' := Aside0.mk H
      clear H
      have hnb15 := NB307_309.out
      have hnc15 := NB309_307.out
      have hcz16_0 : w12.cell? ⟨gb307, 0, none⟩ = some (.int .i64 a0_0) := (blk_cell BK307.out 0).trans (by first | (simp [Array.getElem?_append, Ar.cells_size]; done) | (simp [Array.getElem?_append, Array.getElem_push, Ar.cells_size]; done))
      have hcz16_1 : w12.cell? ⟨gb307, 1, none⟩ = some (.int .i64 a0_1) := (blk_cell BK307.out 1).trans (by first | (simp [Array.getElem?_append, Ar.cells_size]; done) | (simp [Array.getElem?_append, Array.getElem_push, Ar.cells_size]; done))
      have hcz16_2 : w12.cell? ⟨gb307, 2, none⟩ = some (.int .u64 a0_2) := (blk_cell BK307.out 2).trans (by first | (simp [Array.getElem?_append, Ar.cells_size]; done) | (simp [Array.getElem?_append, Array.getElem_push, Ar.cells_size]; done))
      have hcz16_4 : w12.cell? ⟨gb307, 35, none⟩ = some (.int .i64 a0_4) := (blk_cell BK307.out 35).trans (by first | (simp [Array.getElem?_append, Ar.cells_size]; done) | (simp [Array.getElem?_append, Array.getElem_push, Ar.cells_size]; done))
      go_wp2_with (first | ((with_reducible refine gate_callee (f := 31) rfl ?_); refine goesL_ (some 24) rfl rfl Try.func31 (by kernel_rfl) rfl #[.int .u32 ((a0_4) % 4294967296)] rfl (by (try simp only [List.map_toArray, List.map_cons, List.map_nil]); first | done | rfl | (simp only [List.length_drop, List.length_take]; rfl)) ?_; (with_reducible refine (drawlotref01_Put32.calls ((a0_4) % 4294967296) t310 _ A14.out).mono ?_); rintro e w17 ⟨rfl, hb⟩; refine ⟨_, rfl, ?_⟩; have n0_ := Aside0.mk (Kd.R_below (by (with_reducible repeat (first | apply Kd.R_alloc | apply Kd.R_drewN | apply Kd.R_drew)); exact HO_5.out) hb); have n1_ := Aside0.mk (blk_below (g := gb307) (o := .cells (#[.int .i64 a0_0, .int .i64 a0_1, .int .u64 a0_2] ++ ((Ar.cells .u8 32 a0_3) ++ #[.int .i64 a0_4])) 39 (0, 0)) (by (with_reducible repeat (first | refine blk_drewN ?_ _ | refine blk_drew ?_ | refine blk_alloc ?_ _)); exact BK307.out) hb); have n2_ := Aside0.mk (blk_below (g := gb309) (o := .cells (Ar.cells .u8 4 t308) 60 (0, 0)) (by (with_reducible repeat (first | refine blk_drewN ?_ _ | refine blk_drew ?_ | refine blk_alloc ?_ _)); exact BK309.out) hb); have n3_ := Aside0.mk (below_step (by repeat (first | (with_reducible first | exact HB.out | apply below_alloc | apply pw_below_drewN | apply below_drew1 | refine below_set ?_ GE307.out | refine below_set ?_ GE309.out) | exact HB.out)) hb); clear HO_5; clear BK307; clear BK309; clear HB; have HO_5 := n0_; have BK307 := n1_; have BK309 := n2_; have HB := n3_; clear n0_ n1_ n2_ n3_; (try clear hb); (try clear hb2); (try clear hk); (try clear hi)) | ((with_reducible refine gate_store (t := 60) (p := 6) rfl ?_); refine Ar.store_all_event rfl rfl rfl Try.underlying60 (by kernel_rfl) (g := gb309) rfl (z := t310) (by first | rfl | (go_simp; done) | (go_simp; rfl)) (by (with_reducible repeat (first | refine blk_drewN ?_ _ | refine blk_drew ?_ | refine blk_alloc ?_ _)); exact BK309.out) ?_; intro w18 hbk_ hg; have n0_ := Aside0.mk (Kd.R_mono (Kd.R_grown (Kd.R_types (by (with_reducible repeat (first | apply Kd.R_alloc | apply Kd.R_drewN | apply Kd.R_drew)); exact HO_5.out) BK309.out (by decide)) hg (fun k_ hk_ e_ => hk_.2 (Option.some.inj e_))) (fun _ h_ => h_.1)); have n1_ := Aside0.mk (blk_grown (g := gb307) (o := .cells (#[.int .i64 a0_0, .int .i64 a0_1, .int .u64 a0_2] ++ ((Ar.cells .u8 32 a0_3) ++ #[.int .i64 a0_4])) 39 (0, 0)) (by (with_reducible repeat (first | refine blk_drewN ?_ _ | refine blk_drew ?_ | refine blk_alloc ?_ _)); exact BK307.out) hg (fun e_ => NB307_309.out (Option.some.inj e_))); have n2_ := Aside0.mk (hbk_); have n3_ := Aside0.mk (Below.grown (by repeat (first | (with_reducible first | exact HB.out | apply below_alloc | apply pw_below_drewN | apply below_drew1 | refine below_set ?_ GE307.out | refine below_set ?_ GE309.out) | exact HB.out)) hg ((below_size (by repeat (first | (with_reducible first | exact HB.out | apply below_alloc | apply pw_below_drewN | apply below_drew1 | refine below_set ?_ GE307.out | refine below_set ?_ GE309.out) | exact HB.out)))) (fun _ e_ => by cases e_; exact GE309.out)); clear HO_5; clear BK307; clear BK309; clear HB; have HO_5 := n0_; have BK307 := n1_; have BK309 := n2_; have HB := n3_; clear n0_ n1_ n2_ n3_; clear hbk_ hg))
      go_meet
      case rel => exact ⟨_, (t310), H', ⟨by have := HJ2.out; first | omega | exact Nat.le_refl _⟩, ⟨by (with_reducible repeat (first | apply Kd.R_alloc | apply Kd.R_drewN | apply Kd.R_drew)); exact HO_5.out⟩, ⟨by (with_reducible repeat (first | refine blk_drewN ?_ _ | refine blk_drew ?_ | refine blk_alloc ?_ _)); exact BK307.out⟩, ⟨by (with_reducible repeat (first | refine blk_drewN ?_ _ | refine blk_drew ?_ | refine blk_alloc ?_ _)); exact BK309.out⟩, ⟨by repeat (first | (with_reducible first | exact HB.out | apply below_alloc | apply pw_below_drewN | apply below_drew1 | refine below_set ?_ GE307.out | refine below_set ?_ GE309.out) | exact HB.out)⟩⟩
     ·rw [if_neg c13] at H
      have c13b0 : (a1 == 110) = false := beq_eq_false_iff_ne.mpr c13
      have c13b1 : (a1 != 110) = true := bne_iff_ne.mpr c13
      (first | rw [c13b0] | (simp only [i64_w, i32_w]; rw [c13b0]) | skip)
      have H' := Aside0.mk H
      clear H
      go_wp2
      go_meet
      case rel => exact ⟨_, (t308), H', ⟨by have := HJ2.out; first | omega | exact Nat.le_refl _⟩, ⟨by (with_reducible repeat (first | apply Kd.R_alloc | apply Kd.R_drewN | apply Kd.R_drew)); exact HO_5.out⟩, ⟨by (with_reducible repeat (first | refine blk_drewN ?_ _ | refine blk_drew ?_ | refine blk_alloc ?_ _)); exact BK307.out⟩, ⟨by (with_reducible repeat (first | refine blk_drewN ?_ _ | refine blk_drew ?_ | refine blk_alloc ?_ _)); exact BK309.out⟩, ⟨by repeat (first | (with_reducible first | exact HB.out | apply below_alloc | apply pw_below_drewN | apply below_drew1 | refine below_set ?_ GE307.out | refine below_set ?_ GE309.out) | exact HB.out)⟩⟩
    case rest =>
     clear HC8
     try clear c1
     try clear c2
     try clear p2
     try clear c3
     try clear c5
     try clear c5b0
     try clear c5b1
     try clear c6
     try clear c13
     try clear c13b0
     try clear c13b1
     try clear c15
     try clear hcz16_0
     try clear hcz16_1
     try clear hcz16_2
     try clear hcz16_4
     try clear hcz9_0
     try clear hcz9_1
     try clear hcz9_2
     try clear hcz9_4
     try clear p2
     obtain ⟨kq, x310000_7, HA, HJ7, HO_5, BK307, BK309, HB⟩ := hcut
     cases kq with
     | zero => exact absurd HA.out (by simp [drawlotref24_put.j1])
     | succ kj7 =>
      have H := HA.out
      clear HA
      simp only [drawlotref24_put.j1] at H
      have H' := Aside0.mk H
      clear H
      go_wp2
      go_loopg [5, 7] kj7 (fun kq v5 v7 w' => ∃ (x5_3 : List Int) (x7_3 : Int), v7 = .int .i64 x7_3 ∧ Aside0 (drawlotref24_put.l0 kq x5_3 x7_3 x310000_7 = some r) ∧ Aside0 (kq ≤ kj7) ∧ Aside0 (Kd.R (Kd.int .u8) 5 w' w.heap.size (fun _ => True) v5 x5_3) ∧ Aside0 (w'.heap[gb307]? = some (.cells (#[.int .i64 a0_0, .int .i64 a0_1, .int .u64 a0_2] ++ (Ar.cells .u8 32 a0_3 ++ #[.int .i64 a0_4])) 39 (0, 0))) ∧ Aside0 (w'.heap[gb309]? = some (.cells (Ar.cells .u8 4 x310000_7) 60 (0, 0))) ∧ Aside0 (Below w.heap.size w w'))
      case atStart => exact ⟨(([] : List Int)), (0), (by first | rfl | (simp; done) | (simp [*]; done)), H', ⟨Nat.le_refl _⟩, ⟨by (with_reducible repeat (first | apply Kd.R_alloc | apply Kd.R_drewN | apply Kd.R_drew)); exact HO_5.out⟩, ⟨by (with_reducible repeat (first | refine blk_drewN ?_ _ | refine blk_drew ?_ | refine blk_alloc ?_ _)); exact BK307.out⟩, ⟨by (with_reducible repeat (first | refine blk_drewN ?_ _ | refine blk_drew ?_ | refine blk_alloc ?_ _)); exact BK309.out⟩, ⟨by repeat (first | (with_reducible first | exact HB.out | apply below_alloc | apply pw_below_drewN | apply below_drew1 | refine below_set ?_ GE307.out | refine below_set ?_ GE309.out) | exact HB.out)⟩⟩
      case round =>
       clear H'
       try clear c1
       try clear c2
       try clear p2
       try clear c3
       try clear c5
       try clear c5b0
       try clear c5b1
       try clear c6
       try clear c13
       try clear c13b0
       try clear c13b1
       try clear c15
       try clear hcz16_0
       try clear hcz16_1
       try clear hcz16_2
       try clear hcz16_4
       try clear hcz9_0
       try clear hcz9_1
       try clear hcz9_2
       try clear hcz9_4
       try clear p2
       obtain ⟨x5_3, x7_3, rfl, HA, HK3, HO_5, BK307, BK309, HB⟩ := hrel
       cases gk with
       | zero => exact absurd HA.out (by simp [drawlotref24_put.l0])
       | succ k3 =>
        have H := HA.out
        clear HA
        simp only [drawlotref24_put.l0] at H
        by_cases c19 : x7_3 < 4
        ·rw [if_pos c19] at H
         have c19b0 : decide (x7_3 < 4) = true := decide_eq_true c19
         clear c19
         by_cases c20 : 0 ≤ x7_3
         ·rw [if_pos c20] at H
          have c20b0 : decide (0 ≤ x7_3) = true := decide_eq_true c20
          clear c20
          by_cases c21 : x5_3.length < 140737488355328
          ·rw [if_pos c21] at H
           have LMc21 := Aside0.mk c21
           clear c21
           obtain ⟨y311, hy311⟩ : ∃ y_ : List Int, y_ = (x5_3 ++ [Ar.get 4 x310000_7 x7_3]) := ⟨_, rfl⟩
           replace H : (drawlotref24_put.l0 k3 y311 (wrap64 (x7_3 + 1)) x310000_7) = some r := by first | (rw [hy311]; with_reducible exact H) | (have H2_ := (Option.bind_some _ _).symm.trans H; rw [hy311]; with_reducible exact H2_) | (have H2_ := (Option.bind_some _ _).symm.trans H; with_reducible exact H2_) | with_reducible exact H | (rw [hy311]; exact H) | exact H
           have Ny311 := Aside0.mk hy311
           clear hy311
           have H' := Aside0.mk H
           clear H
           go_wp2_with (first | ((with_reducible refine gate_dst (N := 31) rfl ?_); (try (refine gate_guard (by rfl) ?_; dsimp only)); refine Ar.idx_event rfl (D := 31) rfl (T := 60) (n := 4) rfl Try.underlying60 (by kernel_rfl) (g := gb309) rfl (j := x7_3) (by first | rfl | (go_simp; done) | (go_simp; rfl)) (of_decide_eq_true (by first | (with_reducible assumption) | assumption)) (of_decide_eq_true (by first | (with_reducible assumption) | assumption)) ?_) | ((with_reducible refine gate_dst (N := 32) rfl ?_); (try (refine gate_guard (by rfl) ?_; dsimp only)); refine Ar.get_event rfl (D := 32) rfl (E := 5) rfl Try.underlying5 (g := gb309) (j := x7_3) rfl (by (with_reducible repeat (first | refine blk_drewN ?_ _ | refine blk_drew ?_ | refine blk_alloc ?_ _)); exact BK309.out) (of_decide_eq_true (by first | (with_reducible assumption) | assumption)) (of_decide_eq_true (by first | (with_reducible assumption) | assumption)) ?_) | ((with_reducible refine gate_builtin (b := .append) (xs := #[.tmp 29, .tmp 33]) rfl ?_); (try (refine gate_guard (by rfl) ?_; dsimp only)); at_builtin; refine Kd.R_append (Kd.int .u8) (w0 := w) w.heap.size rfl (.tmp 29) (.tmp 33) 22 5 (.int .u8 0) 1 rfl Try.underlying22 info5 rfl (by decide) (by omega) u5 x5_3 (Ar.get 4 x310000_7 x7_3) [.int .u8 (Ar.get 4 x310000_7 x7_3)] (fun _ => True) (fun _ => False) rfl rfl ?aP (fun _ hk => hk.elim) ?aF ?aO ?aB ?aS ?aL ?_; (case aP => exact rfl); (case aB => exact (by repeat (first | (with_reducible first | exact HB.out | apply below_alloc | apply pw_below_drewN | apply below_drew1 | refine below_set ?_ GE307.out | refine below_set ?_ GE309.out) | exact HB.out))); (case aF => exact (fun _ _ => trivial)); (case aO => exact (by (with_reducible repeat (first | apply Kd.R_alloc | apply Kd.R_drewN | apply Kd.R_drew)); exact HO_5.out)); (case aS => exact (below_size (by repeat (first | (with_reducible first | exact HB.out | apply below_alloc | apply pw_below_drewN | apply below_drew1 | refine below_set ?_ GE307.out | refine below_set ?_ GE309.out) | exact HB.out)))); (case aL => have := LMc21.out; omega); intro v312 w22 ho hb hg hat; rw [← Ny311.out] at ho; have n0_ := Aside0.mk (blk_grown (g := gb307) (o := .cells (#[.int .i64 a0_0, .int .i64 a0_1, .int .u64 a0_2] ++ ((Ar.cells .u8 32 a0_3) ++ #[.int .i64 a0_4])) 39 (0, 0)) (by (with_reducible repeat (first | refine blk_drewN ?_ _ | refine blk_drew ?_ | refine blk_alloc ?_ _)); exact BK307.out) hg (Kd.R_ne HO_5.out BK307.out (by decide))); have n1_ := Aside0.mk (blk_grown (g := gb309) (o := .cells (Ar.cells .u8 4 x310000_7) 60 (0, 0)) (by (with_reducible repeat (first | refine blk_drewN ?_ _ | refine blk_drew ?_ | refine blk_alloc ?_ _)); exact BK309.out) hg (Kd.R_ne HO_5.out BK309.out (by decide))); have n2_ := Aside0.mk (hb); have n3_ := Aside0.mk (ho); clear BK307; clear BK309; clear HB; clear HO_5; have BK307 := n0_; have BK309 := n1_; have HB := n2_; have HO313 := n3_; clear n0_ n1_ n2_ n3_; clear ho hb hg hat))
           go_roundg k3
           case measure => have := HJ2.out; have := HJ7.out; have := HK3.out; omega
           case rel => exact ⟨(y311), (wrap64 (x7_3 + 1)), (by first | rfl | (simp; done) | (simp [*]; done)), H', ⟨by have := HJ2.out; have := HJ7.out; have := HK3.out; omega⟩, ⟨by (with_reducible repeat (first | apply Kd.R_alloc | apply Kd.R_drewN | apply Kd.R_drew)); exact HO313.out⟩, ⟨by (with_reducible repeat (first | refine blk_drewN ?_ _ | refine blk_drew ?_ | refine blk_alloc ?_ _)); exact BK307.out⟩, ⟨by (with_reducible repeat (first | refine blk_drewN ?_ _ | refine blk_drew ?_ | refine blk_alloc ?_ _)); exact BK309.out⟩, ⟨by repeat (first | (with_reducible first | exact HB.out | apply below_alloc | apply pw_below_drewN | apply below_drew1 | refine below_set ?_ GE307.out | refine below_set ?_ GE309.out) | exact HB.out)⟩⟩
          ·rw [if_neg c21] at H
           exact absurd H (by simp)
         ·rw [if_neg c20] at H
          exact absurd H (by simp)
        ·rw [if_neg c19] at H
         have c19b0 : decide (x7_3 < 4) = false := decide_eq_false c19
         clear c19
         obtain rfl := Option.some.inj H
         go_wp2
         go_ret
         exact ⟨_, by first | rfl | (simp [errW_none, errW_some] <;> rfl) | (simp [*, errW_none, errW_some] <;> rfl), by (with_reducible repeat (first | apply Kd.R_alloc | apply Kd.R_drewN | apply Kd.R_drew)); exact HO_5.out, by repeat (first | (with_reducible first | exact HB.out | apply below_alloc | apply pw_below_drewN | apply below_drew1 | refine below_set ?_ GE307.out | refine below_set ?_ GE309.out) | exact HB.out)⟩
   ·replace c6 := Bool.eq_false_iff.mpr c6
    subst c6
    have H1 : (if a1 = 97 then ((drawlotref01_Put64.f kj2 a0_2).bind fun t314 => (drawlotref24_put.l1 kj2 ([] : List Int) 0 t314)) else (if a1 = 104 then (drawlotref24_put.l2 kj2 ([] : List Int) 0 a0_0 a0_1 a0_2 a0_3 a0_4) else (some ([] : List Int)))) = some r := by rw [if_neg (show ¬ (false = true) by decide)] at H; exact H
    clear H
    have H := H1
    clear H1
    by_cases c23 : a1 = 97
    ·rw [if_pos c23] at H
     have c23b0 : (a1 == 97) = true := beq_iff_eq.mpr c23
     have c23b1 : (a1 != 97) = false := bne_eq_false_iff_eq.mpr c23
     clear c23
     replace H := Option.bind_eq_some_iff.mp H
     obtain ⟨t314, A240, H⟩ := H
     replace H : (drawlotref24_put.l1 kj2 ([] : List Int) 0 t314) = some r := H
     have A24 := Aside0.mk A240
     clear A240
     have H' := Aside0.mk H
     clear H
     have hcz25_0 : wc.cell? ⟨gb307, 0, none⟩ = some (.int .i64 a0_0) := (blk_cell BK307.out 0).trans (by first | (simp [Array.getElem?_append, Ar.cells_size]; done) | (simp [Array.getElem?_append, Array.getElem_push, Ar.cells_size]; done))
     have hcz25_1 : wc.cell? ⟨gb307, 1, none⟩ = some (.int .i64 a0_1) := (blk_cell BK307.out 1).trans (by first | (simp [Array.getElem?_append, Ar.cells_size]; done) | (simp [Array.getElem?_append, Array.getElem_push, Ar.cells_size]; done))
     have hcz25_2 : wc.cell? ⟨gb307, 2, none⟩ = some (.int .u64 a0_2) := (blk_cell BK307.out 2).trans (by first | (simp [Array.getElem?_append, Ar.cells_size]; done) | (simp [Array.getElem?_append, Array.getElem_push, Ar.cells_size]; done))
     have hcz25_4 : wc.cell? ⟨gb307, 35, none⟩ = some (.int .i64 a0_4) := (blk_cell BK307.out 35).trans (by first | (simp [Array.getElem?_append, Ar.cells_size]; done) | (simp [Array.getElem?_append, Array.getElem_push, Ar.cells_size]; done))
     go_wp2_with (first | ((with_reducible refine gate_callee (f := 32) rfl ?_); refine goesL_ (some 39) rfl rfl Try.func32 (by kernel_rfl) rfl #[.int .u64 a0_2] rfl (by (try simp only [List.map_toArray, List.map_cons, List.map_nil]); first | done | rfl | (simp only [List.length_drop, List.length_take]; rfl)) ?_; (with_reducible refine (drawlotref01_Put64.calls kj2 a0_2 t314 _ A24.out).mono ?_); rintro e w26 ⟨rfl, hb⟩; refine ⟨_, rfl, ?_⟩; have n0_ := Aside0.mk (Kd.R_below (by (with_reducible repeat (first | apply Kd.R_alloc | apply Kd.R_drewN | apply Kd.R_drew)); exact HO_5.out) hb); have n1_ := Aside0.mk (blk_below (g := gb307) (o := .cells (#[.int .i64 a0_0, .int .i64 a0_1, .int .u64 a0_2] ++ ((Ar.cells .u8 32 a0_3) ++ #[.int .i64 a0_4])) 39 (0, 0)) (by (with_reducible repeat (first | refine blk_drewN ?_ _ | refine blk_drew ?_ | refine blk_alloc ?_ _)); exact BK307.out) hb); have n2_ := Aside0.mk (below_step (by repeat (first | (with_reducible first | exact HB.out | apply below_alloc | apply pw_below_drewN | apply below_drew1 | refine below_set ?_ GE307.out) | exact HB.out)) hb); clear HO_5; clear BK307; clear HB; have HO_5 := n0_; have BK307 := n1_; have HB := n2_; clear n0_ n1_ n2_; (try clear hb); (try clear hb2); (try clear hk); (try clear hi)) | ((with_reducible refine gate_dst (N := 8) rfl ?_); (try (refine gate_guard (by rfl) ?_; dsimp only)); refine box_event ?hg (N := 8) ?hd (cs := (Ar.cells .u8 8 (List.replicate 8 0))) (t := 62) ?hr ?_; (case hd => rfl); (case hg => rfl); (case hr => first | exact Ar.box_run rfl rfl | exact Ar.alloc_run rfl (by kernel_rfl) | (go_simp; done) | (go_simp; rfl)); intro gb315 hg w27 hbox hb; have n0_ := Aside0.mk (Kd.R_below (by (with_reducible repeat (first | apply Kd.R_alloc | apply Kd.R_drewN | apply Kd.R_drew)); exact HO_5.out) hb); have n1_ := Aside0.mk (blk_below (g := gb307) (o := .cells (#[.int .i64 a0_0, .int .i64 a0_1, .int .u64 a0_2] ++ ((Ar.cells .u8 32 a0_3) ++ #[.int .i64 a0_4])) 39 (0, 0)) (by (with_reducible repeat (first | refine blk_drewN ?_ _ | refine blk_drew ?_ | refine blk_alloc ?_ _)); exact BK307.out) hb); have n2_ := Aside0.mk (below_step (by repeat (first | (with_reducible first | exact HB.out | apply below_alloc | apply pw_below_drewN | apply below_drew1 | refine below_set ?_ GE307.out) | exact HB.out)) hb); have n3_ := Aside0.mk (hbox); have n4_ := Aside0.mk ((by rw [hg]; exact (below_size (by repeat (first | (with_reducible first | exact HB.out | apply below_alloc | apply pw_below_drewN | apply below_drew1 | refine below_set ?_ GE307.out) | exact HB.out))) : w.heap.size ≤ gb315)); have n5_ := Aside0.mk ((by rw [hg]; exact (below_size (by repeat (first | (with_reducible first | exact HB.out | apply below_alloc | apply pw_below_drewN | apply below_drew1 | refine below_set ?_ GE307.out) | exact HB.out))) : w.heap.size ≤ gb315)); have n6_ := Aside0.mk ((by rw [hg]; exact Nat.ne_of_lt (blk_lt (g := gb307) (o := .cells (#[.int .i64 a0_0, .int .i64 a0_1, .int .u64 a0_2] ++ ((Ar.cells .u8 32 a0_3) ++ #[.int .i64 a0_4])) 39 (0, 0)) (by (with_reducible repeat (first | refine blk_drewN ?_ _ | refine blk_drew ?_ | refine blk_alloc ?_ _)); exact BK307.out)) : gb307 ≠ gb315)); have n7_ := Aside0.mk ((by rw [hg]; exact Nat.ne_of_gt (blk_lt (g := gb307) (o := .cells (#[.int .i64 a0_0, .int .i64 a0_1, .int .u64 a0_2] ++ ((Ar.cells .u8 32 a0_3) ++ #[.int .i64 a0_4])) 39 (0, 0)) (by (with_reducible repeat (first | refine blk_drewN ?_ _ | refine blk_drew ?_ | refine blk_alloc ?_ _)); exact BK307.out)) : gb315 ≠ gb307)); clear HO_5; clear BK307; clear HB; have HO_5 := n0_; have BK307 := n1_; have HB := n2_; have BK315 := n3_; have GW315 := n4_; have GE315 := n5_; have NB307_315 := n6_; have NB315_307 := n7_; clear n0_ n1_ n2_ n3_ n4_ n5_ n6_ n7_; clear hb hbox hg) | ((with_reducible refine gate_store (t := 62) (p := 8) rfl ?_); refine Ar.store_all_event rfl rfl rfl Try.underlying62 (by kernel_rfl) (g := gb315) rfl (z := t314) (by first | rfl | (go_simp; done) | (go_simp; rfl)) (by (with_reducible repeat (first | refine blk_drewN ?_ _ | refine blk_drew ?_ | refine blk_alloc ?_ _)); exact BK315.out) ?_; intro w28 hbk_ hg; have n0_ := Aside0.mk (Kd.R_mono (Kd.R_grown (Kd.R_types (by (with_reducible repeat (first | apply Kd.R_alloc | apply Kd.R_drewN | apply Kd.R_drew)); exact HO_5.out) BK315.out (by decide)) hg (fun k_ hk_ e_ => hk_.2 (Option.some.inj e_))) (fun _ h_ => h_.1)); have n1_ := Aside0.mk (blk_grown (g := gb307) (o := .cells (#[.int .i64 a0_0, .int .i64 a0_1, .int .u64 a0_2] ++ ((Ar.cells .u8 32 a0_3) ++ #[.int .i64 a0_4])) 39 (0, 0)) (by (with_reducible repeat (first | refine blk_drewN ?_ _ | refine blk_drew ?_ | refine blk_alloc ?_ _)); exact BK307.out) hg (fun e_ => NB307_315.out (Option.some.inj e_))); have n2_ := Aside0.mk (hbk_); have n3_ := Aside0.mk (Below.grown (by repeat (first | (with_reducible first | exact HB.out | apply below_alloc | apply pw_below_drewN | apply below_drew1 | refine below_set ?_ GE307.out | refine below_set ?_ GE315.out) | exact HB.out)) hg ((below_size (by repeat (first | (with_reducible first | exact HB.out | apply below_alloc | apply pw_below_drewN | apply below_drew1 | refine below_set ?_ GE307.out | refine below_set ?_ GE315.out) | exact HB.out)))) (fun _ e_ => by cases e_; exact GE315.out)); clear HO_5; clear BK307; clear BK315; clear HB; have HO_5 := n0_; have BK307 := n1_; have BK315 := n2_; have HB := n3_; clear n0_ n1_ n2_ n3_; clear hbk_ hg))
     go_loopg [5, 9] kj2 (fun kq v5 v9 w' => ∃ (x5_2 : List Int) (x9_2 : Int), v9 = .int .i64 x9_2 ∧ Aside0 (drawlotref24_put.l1 kq x5_2 x9_2 t314 = some r) ∧ Aside0 (kq ≤ kj2) ∧ Aside0 (Kd.R (Kd.int .u8) 5 w' w.heap.size (fun _ => True) v5 x5_2) ∧ Aside0 (w'.heap[gb307]? = some (.cells (#[.int .i64 a0_0, .int .i64 a0_1, .int .u64 a0_2] ++ (Ar.cells .u8 32 a0_3 ++ #[.int .i64 a0_4])) 39 (0, 0))) ∧ Aside0 (w'.heap[gb315]? = some (.cells (Ar.cells .u8 8 t314) 62 (0, 0))) ∧ Aside0 (Below w.heap.size w w'))
     case atStart => exact ⟨(([] : List Int)), (0), (by first | rfl | (simp; done) | (simp [*]; done)), H', ⟨Nat.le_refl _⟩, ⟨by (with_reducible repeat (first | apply Kd.R_alloc | apply Kd.R_drewN | apply Kd.R_drew)); exact HO_5.out⟩, ⟨by (with_reducible repeat (first | refine blk_drewN ?_ _ | refine blk_drew ?_ | refine blk_alloc ?_ _)); exact BK307.out⟩, ⟨by (with_reducible repeat (first | refine blk_drewN ?_ _ | refine blk_drew ?_ | refine blk_alloc ?_ _)); exact BK315.out⟩, ⟨by repeat (first | (with_reducible first | exact HB.out | apply below_alloc | apply pw_below_drewN | apply below_drew1 | refine below_set ?_ GE307.out | refine below_set ?_ GE315.out) | exact HB.out)⟩⟩
     case round =>
      clear H'
      try clear c1
      try clear c2
      try clear p2
      try clear c3
      try clear c5
      try clear c5b0
      try clear c5b1
      try clear c6
      try clear p6
      try clear c13
      try clear c13b0
      try clear c13b1
      try clear c15
      try clear c19
      try clear c19b0
      try clear c20
      try clear c20b0
      try clear c21
      try clear c23
      try clear c23b0
      try clear c23b1
      try clear c24
      try clear hcz16_0
      try clear hcz16_1
      try clear hcz16_2
      try clear hcz16_4
      try clear hcz25_0
      try clear hcz25_1
      try clear hcz25_2
      try clear hcz25_4
      try clear hcz9_0
      try clear hcz9_1
      try clear hcz9_2
      try clear hcz9_4
      try clear p2
      obtain ⟨x5_2, x9_2, rfl, HA, HK2, HO_5, BK307, BK315, HB⟩ := hrel
      cases gk with
      | zero => exact absurd HA.out (by simp [drawlotref24_put.l1])
      | succ k2 =>
       have H := HA.out
       clear HA
       simp only [drawlotref24_put.l1] at H
       by_cases c29 : x9_2 < 8
       ·rw [if_pos c29] at H
        have c29b0 : decide (x9_2 < 8) = true := decide_eq_true c29
        clear c29
        by_cases c30 : 0 ≤ x9_2
        ·rw [if_pos c30] at H
         have c30b0 : decide (0 ≤ x9_2) = true := decide_eq_true c30
         clear c30
         by_cases c31 : x5_2.length < 140737488355328
         ·rw [if_pos c31] at H
          have LMc31 := Aside0.mk c31
          clear c31
          obtain ⟨y316, hy316⟩ : ∃ y_ : List Int, y_ = (x5_2 ++ [Ar.get 8 t314 x9_2]) := ⟨_, rfl⟩
          replace H : (drawlotref24_put.l1 k2 y316 (wrap64 (x9_2 + 1)) t314) = some r := by first | (rw [hy316]; with_reducible exact H) | (have H2_ := (Option.bind_some _ _).symm.trans H; rw [hy316]; with_reducible exact H2_) | (have H2_ := (Option.bind_some _ _).symm.trans H; with_reducible exact H2_) | with_reducible exact H | (rw [hy316]; exact H) | exact H
          have Ny316 := Aside0.mk hy316
          clear hy316
          have H' := Aside0.mk H
          clear H
          go_wp2_with (first | ((with_reducible refine gate_dst (N := 46) rfl ?_); (try (refine gate_guard (by rfl) ?_; dsimp only)); refine Ar.idx_event rfl (D := 46) rfl (T := 62) (n := 8) rfl Try.underlying62 (by kernel_rfl) (g := gb315) rfl (j := x9_2) (by first | rfl | (go_simp; done) | (go_simp; rfl)) (of_decide_eq_true (by first | (with_reducible assumption) | assumption)) (of_decide_eq_true (by first | (with_reducible assumption) | assumption)) ?_) | ((with_reducible refine gate_dst (N := 47) rfl ?_); (try (refine gate_guard (by rfl) ?_; dsimp only)); refine Ar.get_event rfl (D := 47) rfl (E := 5) rfl Try.underlying5 (g := gb315) (j := x9_2) rfl (by (with_reducible repeat (first | refine blk_drewN ?_ _ | refine blk_drew ?_ | refine blk_alloc ?_ _)); exact BK315.out) (of_decide_eq_true (by first | (with_reducible assumption) | assumption)) (of_decide_eq_true (by first | (with_reducible assumption) | assumption)) ?_) | ((with_reducible refine gate_builtin (b := .append) (xs := #[.tmp 44, .tmp 48]) rfl ?_); (try (refine gate_guard (by rfl) ?_; dsimp only)); at_builtin; refine Kd.R_append (Kd.int .u8) (w0 := w) w.heap.size rfl (.tmp 44) (.tmp 48) 22 5 (.int .u8 0) 1 rfl Try.underlying22 info5 rfl (by decide) (by omega) u5 x5_2 (Ar.get 8 t314 x9_2) [.int .u8 (Ar.get 8 t314 x9_2)] (fun _ => True) (fun _ => False) rfl rfl ?aP (fun _ hk => hk.elim) ?aF ?aO ?aB ?aS ?aL ?_; (case aP => exact rfl); (case aB => exact (by repeat (first | (with_reducible first | exact HB.out | apply below_alloc | apply pw_below_drewN | apply below_drew1 | refine below_set ?_ GE307.out | refine below_set ?_ GE315.out) | exact HB.out))); (case aF => exact (fun _ _ => trivial)); (case aO => exact (by (with_reducible repeat (first | apply Kd.R_alloc | apply Kd.R_drewN | apply Kd.R_drew)); exact HO_5.out)); (case aS => exact (below_size (by repeat (first | (with_reducible first | exact HB.out | apply below_alloc | apply pw_below_drewN | apply below_drew1 | refine below_set ?_ GE307.out | refine below_set ?_ GE315.out) | exact HB.out)))); (case aL => have := LMc31.out; omega); intro v317 w32 ho hb hg hat; rw [← Ny316.out] at ho; have n0_ := Aside0.mk (blk_grown (g := gb307) (o := .cells (#[.int .i64 a0_0, .int .i64 a0_1, .int .u64 a0_2] ++ ((Ar.cells .u8 32 a0_3) ++ #[.int .i64 a0_4])) 39 (0, 0)) (by (with_reducible repeat (first | refine blk_drewN ?_ _ | refine blk_drew ?_ | refine blk_alloc ?_ _)); exact BK307.out) hg (Kd.R_ne HO_5.out BK307.out (by decide))); have n1_ := Aside0.mk (blk_grown (g := gb315) (o := .cells (Ar.cells .u8 8 t314) 62 (0, 0)) (by (with_reducible repeat (first | refine blk_drewN ?_ _ | refine blk_drew ?_ | refine blk_alloc ?_ _)); exact BK315.out) hg (Kd.R_ne HO_5.out BK315.out (by decide))); have n2_ := Aside0.mk (hb); have n3_ := Aside0.mk (ho); clear BK307; clear BK315; clear HB; clear HO_5; have BK307 := n0_; have BK315 := n1_; have HB := n2_; have HO318 := n3_; clear n0_ n1_ n2_ n3_; clear ho hb hg hat))
          go_roundg k2
          case measure => have := HJ2.out; have := HK2.out; omega
          case rel => exact ⟨(y316), (wrap64 (x9_2 + 1)), (by first | rfl | (simp; done) | (simp [*]; done)), H', ⟨by have := HJ2.out; have := HK2.out; omega⟩, ⟨by (with_reducible repeat (first | apply Kd.R_alloc | apply Kd.R_drewN | apply Kd.R_drew)); exact HO318.out⟩, ⟨by (with_reducible repeat (first | refine blk_drewN ?_ _ | refine blk_drew ?_ | refine blk_alloc ?_ _)); exact BK307.out⟩, ⟨by (with_reducible repeat (first | refine blk_drewN ?_ _ | refine blk_drew ?_ | refine blk_alloc ?_ _)); exact BK315.out⟩, ⟨by repeat (first | (with_reducible first | exact HB.out | apply below_alloc | apply pw_below_drewN | apply below_drew1 | refine below_set ?_ GE307.out | refine below_set ?_ GE315.out) | exact HB.out)⟩⟩
         ·rw [if_neg c31] at H
          exact absurd H (by simp)
        ·rw [if_neg c30] at H
         exact absurd H (by simp)
       ·rw [if_neg c29] at H
        have c29b0 : decide (x9_2 < 8) = false := decide_eq_false c29
        clear c29
        obtain rfl := Option.some.inj H
        go_wp2
        go_ret
        exact ⟨_, by first | rfl | (simp [errW_none, errW_some] <;> rfl) | (simp [*, errW_none, errW_some] <;> rfl), by (with_reducible repeat (first | apply Kd.R_alloc | apply Kd.R_drewN | apply Kd.R_drew)); exact HO_5.out, by repeat (first | (with_reducible first | exact HB.out | apply below_alloc | apply pw_below_drewN | apply below_drew1 | refine below_set ?_ GE307.out | refine below_set ?_ GE315.out) | exact HB.out)⟩
    ·rw [if_neg c23] at H
     have c23b0 : (a1 == 97) = false := beq_eq_false_iff_ne.mpr c23
     have c23b1 : (a1 != 97) = true := bne_iff_ne.mpr c23
     by_cases c33 : a1 = 104
     ·rw [if_pos c33] at H
      have c33b0 : (a1 == 104) = true := beq_iff_eq.mpr c33
      have c33b1 : (a1 != 104) = false := bne_eq_false_iff_eq.mpr c33
      clear c33
      have H' := Aside0.mk H
      clear H
      go_wp2
      go_loopg [5, 10] kj2 (fun kq v5 v10 w' => ∃ (x5_2 : List Int) (x10_2 : Int), v10 = .int .i64 x10_2 ∧ Aside0 (drawlotref24_put.l2 kq x5_2 x10_2 a0_0 a0_1 a0_2 a0_3 a0_4 = some r) ∧ Aside0 (kq ≤ kj2) ∧ Aside0 (Kd.R (Kd.int .u8) 5 w' w.heap.size (fun _ => True) v5 x5_2) ∧ Aside0 (w'.heap[gb307]? = some (.cells (#[.int .i64 a0_0, .int .i64 a0_1, .int .u64 a0_2] ++ (Ar.cells .u8 32 a0_3 ++ #[.int .i64 a0_4])) 39 (0, 0))) ∧ Aside0 (Below w.heap.size w w'))
      case atStart => exact ⟨(([] : List Int)), (0), (by first | rfl | (simp; done) | (simp [*]; done)), H', ⟨Nat.le_refl _⟩, ⟨by (with_reducible repeat (first | apply Kd.R_alloc | apply Kd.R_drewN | apply Kd.R_drew)); exact HO_5.out⟩, ⟨by (with_reducible repeat (first | refine blk_drewN ?_ _ | refine blk_drew ?_ | refine blk_alloc ?_ _)); exact BK307.out⟩, ⟨by repeat (first | (with_reducible first | exact HB.out | apply below_alloc | apply pw_below_drewN | apply below_drew1 | refine below_set ?_ GE307.out) | exact HB.out)⟩⟩
      case round =>
       clear H'
       try clear c1
       try clear c2
       try clear p2
       try clear c3
       try clear c5
       try clear c5b0
       try clear c5b1
       try clear c6
       try clear p6
       try clear c13
       try clear c13b0
       try clear c13b1
       try clear c15
       try clear c19
       try clear c19b0
       try clear c20
       try clear c20b0
       try clear c21
       try clear c23
       try clear c23b0
       try clear c23b1
       try clear c24
       try clear c29
       try clear c29b0
       try clear c30
       try clear c30b0
       try clear c31
       try clear c32
       try clear c33
       try clear c33b0
       try clear c33b1
       try clear hcz16_0
       try clear hcz16_1
       try clear hcz16_2
       try clear hcz16_4
       try clear hcz25_0
       try clear hcz25_1
       try clear hcz25_2
       try clear hcz25_4
       try clear hcz9_0
       try clear hcz9_1
       try clear hcz9_2
       try clear hcz9_4
       try clear p2
       try clear p6
       obtain ⟨x5_2, x10_2, rfl, HA, HK2, HO_5, BK307, HB⟩ := hrel
       cases gk with
       | zero => exact absurd HA.out (by simp [drawlotref24_put.l2])
       | succ k2 =>
        have H := HA.out
        clear HA
        simp only [drawlotref24_put.l2] at H
        by_cases c34 : x10_2 < 32
        ·rw [if_pos c34] at H
         have c34b0 : decide (x10_2 < 32) = true := decide_eq_true c34
         clear c34
         by_cases c35 : 0 ≤ x10_2
         ·rw [if_pos c35] at H
          have c35b0 : decide (0 ≤ x10_2) = true := decide_eq_true c35
          clear c35
          by_cases c36 : x5_2.length < 140737488355328
          ·rw [if_pos c36] at H
           have LMc36 := Aside0.mk c36
           clear c36
           obtain ⟨y319, hy319⟩ : ∃ y_ : List Int, y_ = (x5_2 ++ [Ar.get 32 a0_3 x10_2]) := ⟨_, rfl⟩
           replace H : (drawlotref24_put.l2 k2 y319 (wrap64 (x10_2 + 1)) a0_0 a0_1 a0_2 a0_3 a0_4) = some r := by first | (rw [hy319]; with_reducible exact H) | (have H2_ := (Option.bind_some _ _).symm.trans H; rw [hy319]; with_reducible exact H2_) | (have H2_ := (Option.bind_some _ _).symm.trans H; with_reducible exact H2_) | with_reducible exact H | (rw [hy319]; exact H) | exact H
           have Ny319 := Aside0.mk hy319
           clear hy319
           have H' := Aside0.mk H
           clear H
           go_wp2_with (first | ((with_reducible refine gate_dst (N := 59) rfl ?_); (try (refine gate_guard (by rfl) ?_; dsimp only)); refine Ar.fidx_event rfl (D := 59) rfl (T := 37) (n := 32) rfl Try.underlying37 (by kernel_rfl) (g := gb307) (c := 3) rfl (j := x10_2) (by first | rfl | (go_simp; done) | (go_simp; rfl)) (of_decide_eq_true (by first | (with_reducible assumption) | assumption)) (of_decide_eq_true (by first | (with_reducible assumption) | assumption)) ?_) | ((with_reducible refine gate_dst (N := 60) rfl ?_); (try (refine gate_guard (by rfl) ?_; dsimp only)); refine Ar.cload_event rfl (T := 5) rfl Try.underlying5 rfl (A := ⟨gb307, 3 + (x10_2 : Int).toNat, none⟩) rfl (v := .int .u8 (Ar.get 32 a0_3 x10_2)) (Ar.fcell_run (by (with_reducible repeat (first | refine blk_drewN ?_ _ | refine blk_drew ?_ | refine blk_alloc ?_ _)); exact BK307.out) (Ar.in_skip (a := 3) (c := 0) (by simp [Ar.cells_size]) Ar.in_first) (of_decide_eq_true (by first | (with_reducible assumption) | assumption)) (of_decide_eq_true (by first | (with_reducible assumption) | assumption))) ?_) | ((with_reducible refine gate_builtin (b := .append) (xs := #[.tmp 56, .tmp 61]) rfl ?_); (try (refine gate_guard (by rfl) ?_; dsimp only)); at_builtin; refine Kd.R_append (Kd.int .u8) (w0 := w) w.heap.size rfl (.tmp 56) (.tmp 61) 22 5 (.int .u8 0) 1 rfl Try.underlying22 info5 rfl (by decide) (by omega) u5 x5_2 (Ar.get 32 a0_3 x10_2) [.int .u8 (Ar.get 32 a0_3 x10_2)] (fun _ => True) (fun _ => False) rfl rfl ?aP (fun _ hk => hk.elim) ?aF ?aO ?aB ?aS ?aL ?_; (case aP => exact rfl); (case aB => exact (by repeat (first | (with_reducible first | exact HB.out | apply below_alloc | apply pw_below_drewN | apply below_drew1 | refine below_set ?_ GE307.out) | exact HB.out))); (case aF => exact (fun _ _ => trivial)); (case aO => exact (by (with_reducible repeat (first | apply Kd.R_alloc | apply Kd.R_drewN | apply Kd.R_drew)); exact HO_5.out)); (case aS => exact (below_size (by repeat (first | (with_reducible first | exact HB.out | apply below_alloc | apply pw_below_drewN | apply below_drew1 | refine below_set ?_ GE307.out) | exact HB.out)))); (case aL => have := LMc36.out; omega); intro v320 w37 ho hb hg hat; rw [← Ny319.out] at ho; have n0_ := Aside0.mk (blk_grown (g := gb307) (o := .cells (#[.int .i64 a0_0, .int .i64 a0_1, .int .u64 a0_2] ++ ((Ar.cells .u8 32 a0_3) ++ #[.int .i64 a0_4])) 39 (0, 0)) (by (with_reducible repeat (first | refine blk_drewN ?_ _ | refine blk_drew ?_ | refine blk_alloc ?_ _)); exact BK307.out) hg (Kd.R_ne HO_5.out BK307.out (by decide))); have n1_ := Aside0.mk (hb); have n2_ := Aside0.mk (ho); clear BK307; clear HB; clear HO_5; have BK307 := n0_; have HB := n1_; have HO321 := n2_; clear n0_ n1_ n2_; clear ho hb hg hat))
           go_roundg k2
           case measure => have := HJ2.out; have := HK2.out; omega
           case rel => exact ⟨(y319), (wrap64 (x10_2 + 1)), (by first | rfl | (simp; done) | (simp [*]; done)), H', ⟨by have := HJ2.out; have := HK2.out; omega⟩, ⟨by (with_reducible repeat (first | apply Kd.R_alloc | apply Kd.R_drewN | apply Kd.R_drew)); exact HO321.out⟩, ⟨by (with_reducible repeat (first | refine blk_drewN ?_ _ | refine blk_drew ?_ | refine blk_alloc ?_ _)); exact BK307.out⟩, ⟨by repeat (first | (with_reducible first | exact HB.out | apply below_alloc | apply pw_below_drewN | apply below_drew1 | refine below_set ?_ GE307.out) | exact HB.out)⟩⟩
          ·rw [if_neg c36] at H
           exact absurd H (by simp)
         ·rw [if_neg c35] at H
          exact absurd H (by simp)
        ·rw [if_neg c34] at H
         have c34b0 : decide (x10_2 < 32) = false := decide_eq_false c34
         clear c34
         obtain rfl := Option.some.inj H
         go_wp2
         go_ret
         exact ⟨_, by first | rfl | (simp [errW_none, errW_some] <;> rfl) | (simp [*, errW_none, errW_some] <;> rfl), by (with_reducible repeat (first | apply Kd.R_alloc | apply Kd.R_drewN | apply Kd.R_drew)); exact HO_5.out, by repeat (first | (with_reducible first | exact HB.out | apply below_alloc | apply pw_below_drewN | apply below_drew1 | refine below_set ?_ GE307.out) | exact HB.out)⟩
     ·rw [if_neg c33] at H
      have c33b0 : (a1 == 104) = false := beq_eq_false_iff_ne.mpr c33
      have c33b1 : (a1 != 104) = true := bne_iff_ne.mpr c33
      obtain rfl := Option.some.inj H
      go_wp2
      go_ret
      exact ⟨_, by first | rfl | (simp [errW_none, errW_some] <;> rfl) | (simp [*, errW_none, errW_some] <;> rfl), by (with_reducible repeat (first | apply Kd.R_alloc | apply Kd.R_drewN | apply Kd.R_drew)); exact HO_5.out, by repeat (first | (with_reducible first | exact HB.out | apply below_alloc | apply pw_below_drewN | apply below_drew1 | refine below_set ?_ GE307.out) | exact HB.out)⟩

end Go.Proofs.Ytkbpdnhbmceajaa.PQ
