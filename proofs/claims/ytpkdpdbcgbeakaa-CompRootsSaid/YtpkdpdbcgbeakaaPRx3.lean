/- Written by xprint.py, this session's own driver, for the seat Ytpkdpdbcgbeakaa: contracts of Go functions, each saying that a call answers what a plain Lean function of the same name says, and, in a text named Law, the row of a law: its Go function answers true for every input. No conditions. -/
import Derived.Test.YtpkdpdbcgbeakaaPRx0
import Derived.Test.YtpkdpdbcgbeakaaPRx1
import Derived.Test.YtpkdpdbcgbeakaaPRx2
namespace Go.Proofs.Ytpkdpdbcgbeakaa.PR
open Go.RowKit Go.Proofs.YtpkdpdbcgbeakaaW.PrintWords Go.Proofs.YtpkdpdbcgbeakaaW.PrintLast Go.Proofs.YtpkdpdbcgbeakaaW.PrintMore
attribute [local go_sem] max2_int min2_int max_two min_two max_three min_three max_four min_four   -- for this text's walks alone
set_option linter.unusedVariables false
set_option linter.unusedSimpArgs false

/-! ### comp_Take: function 52 -/
mutual
def comp_Take.l0 : Nat → List Int → Int → List Int → List Int → List Int → Option (List Int)
 | 0, _, _, _, _, _ => none
 | k + 1, x13, x14, x128000, x132000, x133000 => if x14 < 64 then (if 0 ≤ x14 then ((comp_Round.f x132000 (Ar.get 64 x13 x14) (Ar.get 64 x133000 x14)).bind fun t134 => (comp_Take.l0 k x13 (wrap64 (x14 + 1)) x128000 t134 x133000)) else (none)) else (comp_Take.l1 k 0 x128000 x132000)
def comp_Take.l1 : Nat → Int → List Int → List Int → Option (List Int)
 | 0, _, _, _ => none
 | k + 1, x25, x128000, x132000 => if x25 < 8 then (if 0 ≤ x25 then (comp_Take.l1 k (wrap64 (x25 + 1)) x128000 (Ar.set 8 x132000 x25 (((Ar.get 8 x132000 x25) + (Ar.get 8 x128000 x25)) % 4294967296))) else (none)) else (some x132000)
end
def comp_Take.f (k : Nat) (a0 : List Int) (a1 : List Int) : Option (List Int) := (comp_constants.f).bind fun t130 => ((plan_Of.f k a1).bind fun t133 => (comp_Take.l0 k t133 0 a0 a0 t130))
theorem comp_Take.mono_l : ∀ k, (∀ y0 y1 y2 y3 y4, LeO (comp_Take.l0 k y0 y1 y2 y3 y4) (comp_Take.l0 (k + 1) y0 y1 y2 y3 y4)) ∧ (∀ y0 y1 y2, LeO (comp_Take.l1 k y0 y1 y2) (comp_Take.l1 (k + 1) y0 y1 y2))
 | 0 => ⟨fun _ _ _ _ _ r h => by simp [comp_Take.l0] at h, fun _ _ _ r h => by simp [comp_Take.l1] at h⟩
 | k + 1 => by
  obtain ⟨ih0, ih1⟩ := comp_Take.mono_l k
  refine ⟨?_, ?_⟩
  ·intro y0 y1 y2 y3 y4
   unfold comp_Take.l0
   repeat' first
   | (with_reducible exact ih0 _ _ _ _ _)
   | (with_reducible exact ih1 _ _ _)
   | (with_reducible exact plan_Of.mono _ _)
   | (with_reducible exact LeO.refl _)
   | (with_reducible exact LeO.none _)
   | (with_reducible refine LeO.ite ?_ ?_)
   | (with_reducible refine LeO.bind ?_ (fun _ => ?_))
   | exact ih0 _ _ _ _ _
   | exact ih1 _ _ _
   | exact plan_Of.mono _ _
   | exact LeO.none _
   | refine LeO.ite ?_ ?_
   | refine LeO.bind ?_ (fun _ => ?_)
  ·intro y0 y1 y2
   unfold comp_Take.l1
   repeat' first
   | (with_reducible exact ih0 _ _ _ _ _)
   | (with_reducible exact ih1 _ _ _)
   | (with_reducible exact plan_Of.mono _ _)
   | (with_reducible exact LeO.refl _)
   | (with_reducible exact LeO.none _)
   | (with_reducible refine LeO.ite ?_ ?_)
   | (with_reducible refine LeO.bind ?_ (fun _ => ?_))
   | exact ih0 _ _ _ _ _
   | exact ih1 _ _ _
   | exact plan_Of.mono _ _
   | exact LeO.none _
   | refine LeO.ite ?_ ?_
   | refine LeO.bind ?_ (fun _ => ?_)
theorem comp_Take.mono : ∀ a0 a1 k, LeO (comp_Take.f k a0 a1) (comp_Take.f (k + 1) a0 a1) := by
 intro a0 a1 k
 obtain ⟨ih0, ih1⟩ := comp_Take.mono_l k
 unfold comp_Take.f
 repeat' first
   | (with_reducible exact ih0 _ _ _ _ _)
   | (with_reducible exact ih1 _ _ _)
   | (with_reducible exact plan_Of.mono _ _)
   | (with_reducible exact LeO.refl _)
   | (with_reducible exact LeO.none _)
   | (with_reducible refine LeO.ite ?_ ?_)
   | (with_reducible refine LeO.bind ?_ (fun _ => ?_))
   | exact ih0 _ _ _ _ _
   | exact ih1 _ _ _
   | exact plan_Of.mono _ _
   | exact LeO.none _
   | refine LeO.ite ?_ ?_
   | refine LeO.bind ?_ (fun _ => ?_)
def comp_Take.T10 : Bool × List (List Nat × List Nat) := (true, [([], []), ([0], [0]), ([1], [1]), ([], []), ([3], [3]), ([4], [4]), ([2, 5], [2, 5]), ([0, 0, 1, 2, 3, 4, 5, 6], [0]), ([7, 6, 0, 1, 2, 3, 4, 5, 6], [6, 7])])
def comp_Take.B10 : List Nat := [0, 1, 3, 0, 8, 24, 63, 127, 255]
theorem comp_Take.tab10 : rtab .any (opsOf Try.f52 10) = comp_Take.T10 := by kernel_rfl
theorem comp_Take.bits10 : waitsOk comp_Take.T10.2 comp_Take.B10 = true := by kernel_rfl
set_option maxHeartbeats 8000000 in
set_option maxRecDepth 100000 in
theorem comp_Take.calls (k : Nat) (a0 : List Int) (a1 : List Int) (r : List Int) (w : World) (h : comp_Take.f k a0 a1 = some r) :
  Calls Try.prog 52 #[.agg (Ar.cells .u32 8 a0), .agg (Ar.cells .u8 64 a1)] w fun e w' => e = .returned (.agg (Ar.cells .u32 8 r)) ∧ Below w.heap.size w w' := by
 have HB := Aside0.mk (Below.refl w.heap.size w)
 have H : ((comp_constants.f).bind fun t130 => ((plan_Of.f k a1).bind fun t133 => (comp_Take.l0 k t133 0 a0 a0 t130))) = some r := h
 clear h
 replace H := Option.bind_eq_some_iff.mp H
 obtain ⟨t130, A30, H⟩ := H
 replace H : ((plan_Of.f k a1).bind fun t133 => (comp_Take.l0 k t133 0 a0 a0 t130)) = some r := H
 have A3 := Aside0.mk A30
 clear A30
 replace H := Option.bind_eq_some_iff.mp H
 obtain ⟨t133, A40, H⟩ := H
 replace H : (comp_Take.l0 k t133 0 a0 a0 t130) = some r := H
 have A4 := Aside0.mk A40
 clear A40
 have H' := Aside0.mk H
 clear H
 go_enter Try.func52, Try.ntmps52
 try go_wp2_with (first | ((with_reducible refine gate_dst (N := 2) rfl ?_); (try (refine gate_guard (by rfl) ?_; dsimp only)); refine box_event ?hg (N := 2) ?hd (cs := (Ar.cells .u32 8 a0)) (t := 60) ?hr ?_; (case hd => rfl); (case hg => rfl); (case hr => first | exact Ar.box_run rfl rfl | exact Ar.alloc_run rfl (by kernel_rfl) | (go_simp; done) | (go_simp; rfl)); intro gb127 hg w5 hbox hb; have n0_ := Aside0.mk (below_step (by repeat (first | (with_reducible first | exact HB.out | apply below_alloc | apply pw_below_drewN | apply below_drew1) | exact HB.out)) hb); have n1_ := Aside0.mk (hbox); have n2_ := Aside0.mk ((by rw [hg]; exact (below_size (by repeat (first | (with_reducible first | exact HB.out | apply below_alloc | apply pw_below_drewN | apply below_drew1) | exact HB.out))) : w.heap.size ≤ gb127)); have n3_ := Aside0.mk ((by rw [hg]; exact (below_size (by repeat (first | (with_reducible first | exact HB.out | apply below_alloc | apply pw_below_drewN | apply below_drew1) | exact HB.out))) : w.heap.size ≤ gb127)); clear HB; have HB := n0_; have BK127 := n1_; have GW127 := n2_; have GE127 := n3_; clear n0_ n1_ n2_ n3_; clear hb hbox hg) | ((with_reducible refine gate_dst (N := 3) rfl ?_); (try (refine gate_guard (by rfl) ?_; dsimp only)); refine box_event ?hg (N := 3) ?hd (cs := (Ar.cells .u8 64 a1)) (t := 39) ?hr ?_; (case hd => rfl); (case hg => rfl); (case hr => first | exact Ar.box_run rfl rfl | exact Ar.alloc_run rfl (by kernel_rfl) | (go_simp; done) | (go_simp; rfl)); intro gb128 hg w6 hbox hb; have n0_ := Aside0.mk (blk_below (g := gb127) (o := .cells (Ar.cells .u32 8 a0) 60 (0, 0)) (by (with_reducible repeat (first | refine blk_drewN ?_ _ | refine blk_drew ?_ | refine blk_alloc ?_ _)); exact BK127.out) hb); have n1_ := Aside0.mk (below_step (by repeat (first | (with_reducible first | exact HB.out | apply below_alloc | apply pw_below_drewN | apply below_drew1 | refine below_set ?_ GE127.out) | exact HB.out)) hb); have n2_ := Aside0.mk (hbox); have n3_ := Aside0.mk ((by rw [hg]; exact (below_size (by repeat (first | (with_reducible first | exact HB.out | apply below_alloc | apply pw_below_drewN | apply below_drew1 | refine below_set ?_ GE127.out) | exact HB.out))) : w.heap.size ≤ gb128)); have n4_ := Aside0.mk ((by rw [hg]; exact (below_size (by repeat (first | (with_reducible first | exact HB.out | apply below_alloc | apply pw_below_drewN | apply below_drew1 | refine below_set ?_ GE127.out) | exact HB.out))) : w.heap.size ≤ gb128)); have n5_ := Aside0.mk ((by rw [hg]; exact Nat.ne_of_lt (blk_lt (g := gb127) (o := .cells (Ar.cells .u32 8 a0) 60 (0, 0)) (by (with_reducible repeat (first | refine blk_drewN ?_ _ | refine blk_drew ?_ | refine blk_alloc ?_ _)); exact BK127.out)) : gb127 ≠ gb128)); have n6_ := Aside0.mk ((by rw [hg]; exact Nat.ne_of_gt (blk_lt (g := gb127) (o := .cells (Ar.cells .u32 8 a0) 60 (0, 0)) (by (with_reducible repeat (first | refine blk_drewN ?_ _ | refine blk_drew ?_ | refine blk_alloc ?_ _)); exact BK127.out)) : gb128 ≠ gb127)); clear BK127; clear HB; have BK127 := n0_; have HB := n1_; have BK128 := n2_; have GW128 := n3_; have GE128 := n4_; have NB127_128 := n5_; have NB128_127 := n6_; clear n0_ n1_ n2_ n3_ n4_ n5_ n6_; clear hb hbox hg) | ((with_reducible refine gate_dst (N := 4) rfl ?_); (try (refine gate_guard (by rfl) ?_; dsimp only)); refine box_event ?hg (N := 4) ?hd (cs := (Ar.cells .u32 8 (List.replicate 8 0))) (t := 60) ?hr ?_; (case hd => rfl); (case hg => rfl); (case hr => first | exact Ar.box_run rfl rfl | exact Ar.alloc_run rfl (by kernel_rfl) | (go_simp; done) | (go_simp; rfl)); intro gb129 hg w7 hbox hb; have n0_ := Aside0.mk (blk_below (g := gb127) (o := .cells (Ar.cells .u32 8 a0) 60 (0, 0)) (by (with_reducible repeat (first | refine blk_drewN ?_ _ | refine blk_drew ?_ | refine blk_alloc ?_ _)); exact BK127.out) hb); have n1_ := Aside0.mk (blk_below (g := gb128) (o := .cells (Ar.cells .u8 64 a1) 39 (0, 0)) (by (with_reducible repeat (first | refine blk_drewN ?_ _ | refine blk_drew ?_ | refine blk_alloc ?_ _)); exact BK128.out) hb); have n2_ := Aside0.mk (below_step (by repeat (first | (with_reducible first | exact HB.out | apply below_alloc | apply pw_below_drewN | apply below_drew1 | refine below_set ?_ GE127.out | refine below_set ?_ GE128.out) | exact HB.out)) hb); have n3_ := Aside0.mk (hbox); have n4_ := Aside0.mk ((by rw [hg]; exact (below_size (by repeat (first | (with_reducible first | exact HB.out | apply below_alloc | apply pw_below_drewN | apply below_drew1 | refine below_set ?_ GE127.out | refine below_set ?_ GE128.out) | exact HB.out))) : w.heap.size ≤ gb129)); have n5_ := Aside0.mk ((by rw [hg]; exact (below_size (by repeat (first | (with_reducible first | exact HB.out | apply below_alloc | apply pw_below_drewN | apply below_drew1 | refine below_set ?_ GE127.out | refine below_set ?_ GE128.out) | exact HB.out))) : w.heap.size ≤ gb129)); have n6_ := Aside0.mk ((by rw [hg]; exact Nat.ne_of_lt (blk_lt (g := gb127) (o := .cells (Ar.cells .u32 8 a0) 60 (0, 0)) (by (with_reducible repeat (first | refine blk_drewN ?_ _ | refine blk_drew ?_ | refine blk_alloc ?_ _)); exact BK127.out)) : gb127 ≠ gb129)); have n7_ := Aside0.mk ((by rw [hg]; exact Nat.ne_of_gt (blk_lt (g := gb127) (o := .cells (Ar.cells .u32 8 a0) 60 (0, 0)) (by (with_reducible repeat (first | refine blk_drewN ?_ _ | refine blk_drew ?_ | refine blk_alloc ?_ _)); exact BK127.out)) : gb129 ≠ gb127)); have n8_ := Aside0.mk ((by rw [hg]; exact Nat.ne_of_lt (blk_lt (g := gb128) (o := .cells (Ar.cells .u8 64 a1) 39 (0, 0)) (by (with_reducible repeat (first | refine blk_drewN ?_ _ | refine blk_drew ?_ | refine blk_alloc ?_ _)); exact BK128.out)) : gb128 ≠ gb129)); have n9_ := Aside0.mk ((by rw [hg]; exact Nat.ne_of_gt (blk_lt (g := gb128) (o := .cells (Ar.cells .u8 64 a1) 39 (0, 0)) (by (with_reducible repeat (first | refine blk_drewN ?_ _ | refine blk_drew ?_ | refine blk_alloc ?_ _)); exact BK128.out)) : gb129 ≠ gb128)); clear BK127; clear BK128; clear HB; have BK127 := n0_; have BK128 := n1_; have HB := n2_; have BK129 := n3_; have GW129 := n4_; have GE129 := n5_; have NB127_129 := n6_; have NB129_127 := n7_; have NB128_129 := n8_; have NB129_128 := n9_; clear n0_ n1_ n2_ n3_ n4_ n5_ n6_ n7_ n8_ n9_; clear hb hbox hg))
 have n0_ := Aside0.mk (blk_drew BK127.out)
 have n1_ := Aside0.mk (blk_drew BK128.out)
 have n2_ := Aside0.mk (blk_drew BK129.out)
 have n3_ := Aside0.mk (below_drew1 HB.out)
 clear BK127
 clear BK128
 clear BK129
 clear HB
 have BK127 := n0_
 have BK128 := n1_
 have BK129 := n2_
 have HB := n3_
 clear n0_ n1_ n2_ n3_
 refine start_ (n := 6) (S := fun w' => w'.heap[gb127]? = some (.cells (Ar.cells .u32 8 a0) 60 (0, 0))) (ds := []) #[false, false, false, false, false, false] (by kernel_rfl) rfl rfl (BK127.out) (fun hHeld => ?_)
 generalize w7.drew = w8 at BK127 BK128 BK129 HB hHeld ⊢
 refine take_ (i := 0) (N := some 10) (v := ?_) (a' := ?_) #[true, false, false, false, false, false] rfl rfl (by kernel_rfl) (fun _ _ _ h => h) (Or.inl ⟨by rfl, ?_⟩) hHeld ?_ ?_
 rotate_left
 ·intro w' s0
  first | (refine (Ar.load_run rfl Try.underlying60 (by kernel_rfl) rfl (by assumption)).trans ?_; with_reducible rfl) | (go_simp; with_reducible rfl)
 rotate_left
 ·simp only [Act.put, List.setIfInBounds_toArray, List.set_cons_zero, List.set_cons_succ, i64_w, i32_w]
  rfl
 refine join_ (σ := Nat × Nat) 2 #[true, true, true, true, false, false] (fun s_ => [(11, .agg (Ar.cells .u32 64 t130)), (5, .pointer (some ⟨s_.1, 0, none⟩)), (6, .pointer (some ⟨s_.2, 0, none⟩))]) (fun s_ w' => (w'.heap[gb127]? = some (.cells (Ar.cells .u32 8 a0) 60 (0, 0))) ∧ (w'.heap[gb127]? = some (.cells (Ar.cells .u32 8 a0) 60 (0, 0))) ∧ (w'.heap[gb128]? = some (.cells (Ar.cells .u8 64 a1) 39 (0, 0))) ∧ (w'.heap[gb129]? = some (.cells (Ar.cells .u32 8 (List.replicate 8 0)) 60 (0, 0))) ∧ (w'.heap[s_.1]? = some (.cells (Ar.cells .u32 8 (List.replicate 8 0)) 60 (0, 0))) ∧ (w'.heap[s_.2]? = some (.cells (Ar.cells .u32 64 (List.replicate 64 0)) 41 (0, 0))) ∧ (w.heap.size ≤ s_.1) ∧ (w.heap.size ≤ s_.1) ∧ (gb127 ≠ s_.1) ∧ (s_.1 ≠ gb127) ∧ (gb128 ≠ s_.1) ∧ (s_.1 ≠ gb128) ∧ (gb129 ≠ s_.1) ∧ (s_.1 ≠ gb129) ∧ (s_.2 ≠ s_.1) ∧ (s_.1 ≠ s_.2) ∧ (w.heap.size ≤ s_.2) ∧ (w.heap.size ≤ s_.2) ∧ (gb127 ≠ s_.2) ∧ (s_.2 ≠ gb127) ∧ (gb128 ≠ s_.2) ∧ (s_.2 ≠ gb128) ∧ (gb129 ≠ s_.2) ∧ (s_.2 ≠ gb129) ∧ (Below w.heap.size w w')) ?_ ?_
 rotate_left
 ·intro hJ1_2_3
  refine join_ (σ := Nat) 3 #[true, true, true, false, false, false] (fun s_ => [(11, .agg (Ar.cells .u32 64 t130)), (5, .pointer (some ⟨s_, 0, none⟩))]) (fun s_ w' => (w'.heap[gb127]? = some (.cells (Ar.cells .u32 8 a0) 60 (0, 0))) ∧ (w'.heap[gb127]? = some (.cells (Ar.cells .u32 8 a0) 60 (0, 0))) ∧ (w'.heap[gb128]? = some (.cells (Ar.cells .u8 64 a1) 39 (0, 0))) ∧ (w'.heap[gb129]? = some (.cells (Ar.cells .u32 8 (List.replicate 8 0)) 60 (0, 0))) ∧ (w'.heap[s_]? = some (.cells (Ar.cells .u32 8 (List.replicate 8 0)) 60 (0, 0))) ∧ (w.heap.size ≤ s_) ∧ (w.heap.size ≤ s_) ∧ (gb127 ≠ s_) ∧ (s_ ≠ gb127) ∧ (gb128 ≠ s_) ∧ (s_ ≠ gb128) ∧ (gb129 ≠ s_) ∧ (s_ ≠ gb129) ∧ (Below w.heap.size w w')) ?_ ?_
  rotate_left
  ·intro hJ1_2
   refine join_ (σ := Nat) 3 #[true, true, false, true, false, false] (fun s_ => [(11, .agg (Ar.cells .u32 64 t130)), (6, .pointer (some ⟨s_, 0, none⟩))]) (fun s_ w' => (w'.heap[gb127]? = some (.cells (Ar.cells .u32 8 a0) 60 (0, 0))) ∧ (w'.heap[gb127]? = some (.cells (Ar.cells .u32 8 a0) 60 (0, 0))) ∧ (w'.heap[gb128]? = some (.cells (Ar.cells .u8 64 a1) 39 (0, 0))) ∧ (w'.heap[gb129]? = some (.cells (Ar.cells .u32 8 (List.replicate 8 0)) 60 (0, 0))) ∧ (w'.heap[s_]? = some (.cells (Ar.cells .u32 64 (List.replicate 64 0)) 41 (0, 0))) ∧ (w.heap.size ≤ s_) ∧ (w.heap.size ≤ s_) ∧ (gb127 ≠ s_) ∧ (s_ ≠ gb127) ∧ (gb128 ≠ s_) ∧ (s_ ≠ gb128) ∧ (gb129 ≠ s_) ∧ (s_ ≠ gb129) ∧ (Below w.heap.size w w')) ?_ ?_
   rotate_left
   ·intro hJ1_3
    refine join_ (σ := Nat × Nat) 3 #[true, false, true, true, false, false] (fun s_ => [(5, .pointer (some ⟨s_.1, 0, none⟩)), (6, .pointer (some ⟨s_.2, 0, none⟩))]) (fun s_ w' => (w'.heap[gb127]? = some (.cells (Ar.cells .u32 8 a0) 60 (0, 0))) ∧ (w'.heap[gb127]? = some (.cells (Ar.cells .u32 8 a0) 60 (0, 0))) ∧ (w'.heap[gb128]? = some (.cells (Ar.cells .u8 64 a1) 39 (0, 0))) ∧ (w'.heap[gb129]? = some (.cells (Ar.cells .u32 8 (List.replicate 8 0)) 60 (0, 0))) ∧ (w'.heap[s_.1]? = some (.cells (Ar.cells .u32 8 (List.replicate 8 0)) 60 (0, 0))) ∧ (w'.heap[s_.2]? = some (.cells (Ar.cells .u32 64 (List.replicate 64 0)) 41 (0, 0))) ∧ (w.heap.size ≤ s_.1) ∧ (w.heap.size ≤ s_.1) ∧ (gb127 ≠ s_.1) ∧ (s_.1 ≠ gb127) ∧ (gb128 ≠ s_.1) ∧ (s_.1 ≠ gb128) ∧ (gb129 ≠ s_.1) ∧ (s_.1 ≠ gb129) ∧ (s_.2 ≠ s_.1) ∧ (s_.1 ≠ s_.2) ∧ (w.heap.size ≤ s_.2) ∧ (w.heap.size ≤ s_.2) ∧ (gb127 ≠ s_.2) ∧ (s_.2 ≠ gb127) ∧ (gb128 ≠ s_.2) ∧ (s_.2 ≠ gb128) ∧ (gb129 ≠ s_.2) ∧ (s_.2 ≠ gb129) ∧ (Below w.heap.size w w')) ?_ ?_
    rotate_left
    ·intro hJ2_3
     refine join_ (σ := Unit) 4 #[true, true, false, false, false, false] (fun s_ => [(11, .agg (Ar.cells .u32 64 t130))]) (fun s_ w' => (w'.heap[gb127]? = some (.cells (Ar.cells .u32 8 a0) 60 (0, 0))) ∧ (w'.heap[gb127]? = some (.cells (Ar.cells .u32 8 a0) 60 (0, 0))) ∧ (w'.heap[gb128]? = some (.cells (Ar.cells .u8 64 a1) 39 (0, 0))) ∧ (w'.heap[gb129]? = some (.cells (Ar.cells .u32 8 (List.replicate 8 0)) 60 (0, 0))) ∧ (Below w.heap.size w w')) ?_ ?_
     rotate_left
     ·intro hJ1
      refine join_ (σ := Nat) 4 #[true, false, true, false, false, false] (fun s_ => [(5, .pointer (some ⟨s_, 0, none⟩))]) (fun s_ w' => (w'.heap[gb127]? = some (.cells (Ar.cells .u32 8 a0) 60 (0, 0))) ∧ (w'.heap[gb127]? = some (.cells (Ar.cells .u32 8 a0) 60 (0, 0))) ∧ (w'.heap[gb128]? = some (.cells (Ar.cells .u8 64 a1) 39 (0, 0))) ∧ (w'.heap[gb129]? = some (.cells (Ar.cells .u32 8 (List.replicate 8 0)) 60 (0, 0))) ∧ (w'.heap[s_]? = some (.cells (Ar.cells .u32 8 (List.replicate 8 0)) 60 (0, 0))) ∧ (w.heap.size ≤ s_) ∧ (w.heap.size ≤ s_) ∧ (gb127 ≠ s_) ∧ (s_ ≠ gb127) ∧ (gb128 ≠ s_) ∧ (s_ ≠ gb128) ∧ (gb129 ≠ s_) ∧ (s_ ≠ gb129) ∧ (Below w.heap.size w w')) ?_ ?_
      rotate_left
      ·intro hJ2
       refine join_ (σ := Nat) 4 #[true, false, false, true, false, false] (fun s_ => [(6, .pointer (some ⟨s_, 0, none⟩))]) (fun s_ w' => (w'.heap[gb127]? = some (.cells (Ar.cells .u32 8 a0) 60 (0, 0))) ∧ (w'.heap[gb127]? = some (.cells (Ar.cells .u32 8 a0) 60 (0, 0))) ∧ (w'.heap[gb128]? = some (.cells (Ar.cells .u8 64 a1) 39 (0, 0))) ∧ (w'.heap[gb129]? = some (.cells (Ar.cells .u32 8 (List.replicate 8 0)) 60 (0, 0))) ∧ (w'.heap[s_]? = some (.cells (Ar.cells .u32 64 (List.replicate 64 0)) 41 (0, 0))) ∧ (w.heap.size ≤ s_) ∧ (w.heap.size ≤ s_) ∧ (gb127 ≠ s_) ∧ (s_ ≠ gb127) ∧ (gb128 ≠ s_) ∧ (s_ ≠ gb128) ∧ (gb129 ≠ s_) ∧ (s_ ≠ gb129) ∧ (Below w.heap.size w w')) ?_ ?_
       rotate_left
       ·intro hJ3
        refine three_ (i := 1) (j := 2) (k := 3) (Ni := some 11) (Nj := some 5) (Nk := some 6) #[true, true, false, false, false, false] #[true, false, true, false, false, false] #[true, false, false, true, false, false] rfl rfl rfl rfl rfl rfl (by kernel_rfl) (by decide) (by decide) (by decide) (fun K hK => ?_) (fun K hK => ?_) (fun K hK => ?_)
        ·skip
         refine goes_ Try.func64 (by kernel_rfl) rfl #[] (by rfl) rfl rfl (by (try simp only [List.map_toArray, List.map_cons, List.map_nil]); first | done | rfl | (simp only [List.length_drop, List.length_take]; rfl)) ?_
         with_reducible refine (comp_constants.calls  t130 _ A3.out).mono ?_
         rintro e w9 ⟨rfl, hb⟩
         refine ⟨_, rfl, ?_⟩
         have n0_ := Aside0.mk (blk_below (g := gb127) (o := .cells (Ar.cells .u32 8 a0) 60 (0, 0)) (by (with_reducible repeat (first | refine blk_drewN ?_ _ | refine blk_drew ?_ | refine blk_alloc ?_ _)); exact BK127.out) hb)
         have n1_ := Aside0.mk (blk_below (g := gb128) (o := .cells (Ar.cells .u8 64 a1) 39 (0, 0)) (by (with_reducible repeat (first | refine blk_drewN ?_ _ | refine blk_drew ?_ | refine blk_alloc ?_ _)); exact BK128.out) hb)
         have n2_ := Aside0.mk (blk_below (g := gb129) (o := .cells (Ar.cells .u32 8 (List.replicate 8 0)) 60 (0, 0)) (by (with_reducible repeat (first | refine blk_drewN ?_ _ | refine blk_drew ?_ | refine blk_alloc ?_ _)); exact BK129.out) hb)
         have n3_ := Aside0.mk (below_step (by repeat (first | (with_reducible first | exact HB.out | apply below_alloc | apply pw_below_drewN | apply below_drew1 | refine below_set ?_ GE127.out | refine below_set ?_ GE128.out | refine below_set ?_ GE129.out) | exact HB.out)) hb)
         clear BK127
         clear BK128
         clear BK129
         clear HB
         have BK127 := n0_
         have BK128 := n1_
         have BK129 := n2_
         have HB := n3_
         clear n0_ n1_ n2_ n3_
         (try clear hb)
         (try clear hb2)
         (try clear hk)
         (try clear hi)
         refine hK.out _ _ (BK127.out) (fun hHeld => ?_)
         clear hK K
         refine norm_ (a' := ?_) ?_ ?_
         rotate_left
         ·show Act.put _ (some 11) _ = _
          simp only [Act.put, List.setIfInBounds_toArray, List.set_cons_zero, List.set_cons_succ, i64_w, i32_w]
          rfl
         exact norm_ (by first | (simp only [putAll, Act.put, List.setIfInBounds_toArray, List.set_cons_zero, List.set_cons_succ]; done) | (simp only [putAll, Act.put, List.setIfInBounds_toArray, List.set_cons_zero, List.set_cons_succ]; rfl)) (hJ1 () _ ⟨hHeld, (by (with_reducible repeat (first | refine blk_drewN ?_ _ | refine blk_drew ?_ | refine blk_alloc ?_ _)); exact BK127.out), (by (with_reducible repeat (first | refine blk_drewN ?_ _ | refine blk_drew ?_ | refine blk_alloc ?_ _)); exact BK128.out), (by (with_reducible repeat (first | refine blk_drewN ?_ _ | refine blk_drew ?_ | refine blk_alloc ?_ _)); exact BK129.out), (by repeat (first | (with_reducible first | exact HB.out | apply below_alloc | apply pw_below_drewN | apply below_drew1 | refine below_set ?_ GE127.out | refine below_set ?_ GE128.out | refine below_set ?_ GE129.out) | exact HB.out))⟩)
        ·skip
         refine box_step ?hg (N := 5) ?hd (cs := (Ar.cells .u32 8 (List.replicate 8 0))) (t := 60) ?hr ?_; (case hd => rfl); (case hg => rfl); (case hr => first | exact Ar.box_run rfl rfl | exact Ar.alloc_run rfl (by kernel_rfl) | (go_simp; done) | (go_simp; rfl))
         intro gb131 hg w9 hbox hb
         have n0_ := Aside0.mk (blk_below (g := gb127) (o := .cells (Ar.cells .u32 8 a0) 60 (0, 0)) (by (with_reducible repeat (first | refine blk_drewN ?_ _ | refine blk_drew ?_ | refine blk_alloc ?_ _)); exact BK127.out) hb)
         have n1_ := Aside0.mk (blk_below (g := gb128) (o := .cells (Ar.cells .u8 64 a1) 39 (0, 0)) (by (with_reducible repeat (first | refine blk_drewN ?_ _ | refine blk_drew ?_ | refine blk_alloc ?_ _)); exact BK128.out) hb)
         have n2_ := Aside0.mk (blk_below (g := gb129) (o := .cells (Ar.cells .u32 8 (List.replicate 8 0)) 60 (0, 0)) (by (with_reducible repeat (first | refine blk_drewN ?_ _ | refine blk_drew ?_ | refine blk_alloc ?_ _)); exact BK129.out) hb)
         have n3_ := Aside0.mk (below_step (by repeat (first | (with_reducible first | exact HB.out | apply below_alloc | apply pw_below_drewN | apply below_drew1 | refine below_set ?_ GE127.out | refine below_set ?_ GE128.out | refine below_set ?_ GE129.out) | exact HB.out)) hb)
         have n4_ := Aside0.mk (hbox)
         have n5_ := Aside0.mk ((by rw [hg]; exact (below_size (by repeat (first | (with_reducible first | exact HB.out | apply below_alloc | apply pw_below_drewN | apply below_drew1 | refine below_set ?_ GE127.out | refine below_set ?_ GE128.out | refine below_set ?_ GE129.out) | exact HB.out))) : w.heap.size ≤ gb131))
         have n6_ := Aside0.mk ((by rw [hg]; exact (below_size (by repeat (first | (with_reducible first | exact HB.out | apply below_alloc | apply pw_below_drewN | apply below_drew1 | refine below_set ?_ GE127.out | refine below_set ?_ GE128.out | refine below_set ?_ GE129.out) | exact HB.out))) : w.heap.size ≤ gb131))
         have n7_ := Aside0.mk ((by rw [hg]; exact Nat.ne_of_lt (blk_lt (g := gb127) (o := .cells (Ar.cells .u32 8 a0) 60 (0, 0)) (by (with_reducible repeat (first | refine blk_drewN ?_ _ | refine blk_drew ?_ | refine blk_alloc ?_ _)); exact BK127.out)) : gb127 ≠ gb131))
         have n8_ := Aside0.mk ((by rw [hg]; exact Nat.ne_of_gt (blk_lt (g := gb127) (o := .cells (Ar.cells .u32 8 a0) 60 (0, 0)) (by (with_reducible repeat (first | refine blk_drewN ?_ _ | refine blk_drew ?_ | refine blk_alloc ?_ _)); exact BK127.out)) : gb131 ≠ gb127))
         have n9_ := Aside0.mk ((by rw [hg]; exact Nat.ne_of_lt (blk_lt (g := gb128) (o := .cells (Ar.cells .u8 64 a1) 39 (0, 0)) (by (with_reducible repeat (first | refine blk_drewN ?_ _ | refine blk_drew ?_ | refine blk_alloc ?_ _)); exact BK128.out)) : gb128 ≠ gb131))
         have n10_ := Aside0.mk ((by rw [hg]; exact Nat.ne_of_gt (blk_lt (g := gb128) (o := .cells (Ar.cells .u8 64 a1) 39 (0, 0)) (by (with_reducible repeat (first | refine blk_drewN ?_ _ | refine blk_drew ?_ | refine blk_alloc ?_ _)); exact BK128.out)) : gb131 ≠ gb128))
         have n11_ := Aside0.mk ((by rw [hg]; exact Nat.ne_of_lt (blk_lt (g := gb129) (o := .cells (Ar.cells .u32 8 (List.replicate 8 0)) 60 (0, 0)) (by (with_reducible repeat (first | refine blk_drewN ?_ _ | refine blk_drew ?_ | refine blk_alloc ?_ _)); exact BK129.out)) : gb129 ≠ gb131))
         have n12_ := Aside0.mk ((by rw [hg]; exact Nat.ne_of_gt (blk_lt (g := gb129) (o := .cells (Ar.cells .u32 8 (List.replicate 8 0)) 60 (0, 0)) (by (with_reducible repeat (first | refine blk_drewN ?_ _ | refine blk_drew ?_ | refine blk_alloc ?_ _)); exact BK129.out)) : gb131 ≠ gb129))
         clear BK127
         clear BK128
         clear BK129
         clear HB
         have BK127 := n0_
         have BK128 := n1_
         have BK129 := n2_
         have HB := n3_
         have BK131 := n4_
         have GW131 := n5_
         have GE131 := n6_
         have NB127_131 := n7_
         have NB131_127 := n8_
         have NB128_131 := n9_
         have NB131_128 := n10_
         have NB129_131 := n11_
         have NB131_129 := n12_
         clear n0_ n1_ n2_ n3_ n4_ n5_ n6_ n7_ n8_ n9_ n10_ n11_ n12_
         clear hb hbox hg
         refine hK.out _ _ (BK127.out) (fun hHeld => ?_)
         clear hK K
         refine norm_ (a' := ?_) ?_ ?_
         rotate_left
         ·show Act.put _ (some 5) _ = _
          simp only [Act.put, List.setIfInBounds_toArray, List.set_cons_zero, List.set_cons_succ, i64_w, i32_w]
          rfl
         exact norm_ (by first | (simp only [putAll, Act.put, List.setIfInBounds_toArray, List.set_cons_zero, List.set_cons_succ]; done) | (simp only [putAll, Act.put, List.setIfInBounds_toArray, List.set_cons_zero, List.set_cons_succ]; rfl)) (hJ2 (gb131) _ ⟨hHeld, (by (with_reducible repeat (first | refine blk_drewN ?_ _ | refine blk_drew ?_ | refine blk_alloc ?_ _)); exact BK127.out), (by (with_reducible repeat (first | refine blk_drewN ?_ _ | refine blk_drew ?_ | refine blk_alloc ?_ _)); exact BK128.out), (by (with_reducible repeat (first | refine blk_drewN ?_ _ | refine blk_drew ?_ | refine blk_alloc ?_ _)); exact BK129.out), (by (with_reducible repeat (first | refine blk_drewN ?_ _ | refine blk_drew ?_ | refine blk_alloc ?_ _)); exact BK131.out), GW131.out, GE131.out, NB127_131.out, NB131_127.out, NB128_131.out, NB131_128.out, NB129_131.out, NB131_129.out, (by repeat (first | (with_reducible first | exact HB.out | apply below_alloc | apply pw_below_drewN | apply below_drew1 | refine below_set ?_ GE127.out | refine below_set ?_ GE128.out | refine below_set ?_ GE129.out | refine below_set ?_ GE131.out) | exact HB.out))⟩)
        ·skip
         refine box_step ?hg (N := 6) ?hd (cs := (Ar.cells .u32 64 (List.replicate 64 0))) (t := 41) ?hr ?_; (case hd => rfl); (case hg => rfl); (case hr => first | exact Ar.box_run rfl rfl | exact Ar.alloc_run rfl (by kernel_rfl) | (go_simp; done) | (go_simp; rfl))
         intro gb132 hg w9 hbox hb
         have n0_ := Aside0.mk (blk_below (g := gb127) (o := .cells (Ar.cells .u32 8 a0) 60 (0, 0)) (by (with_reducible repeat (first | refine blk_drewN ?_ _ | refine blk_drew ?_ | refine blk_alloc ?_ _)); exact BK127.out) hb)
         have n1_ := Aside0.mk (blk_below (g := gb128) (o := .cells (Ar.cells .u8 64 a1) 39 (0, 0)) (by (with_reducible repeat (first | refine blk_drewN ?_ _ | refine blk_drew ?_ | refine blk_alloc ?_ _)); exact BK128.out) hb)
         have n2_ := Aside0.mk (blk_below (g := gb129) (o := .cells (Ar.cells .u32 8 (List.replicate 8 0)) 60 (0, 0)) (by (with_reducible repeat (first | refine blk_drewN ?_ _ | refine blk_drew ?_ | refine blk_alloc ?_ _)); exact BK129.out) hb)
         have n3_ := Aside0.mk (below_step (by repeat (first | (with_reducible first | exact HB.out | apply below_alloc | apply pw_below_drewN | apply below_drew1 | refine below_set ?_ GE127.out | refine below_set ?_ GE128.out | refine below_set ?_ GE129.out) | exact HB.out)) hb)
         have n4_ := Aside0.mk (hbox)
         have n5_ := Aside0.mk ((by rw [hg]; exact (below_size (by repeat (first | (with_reducible first | exact HB.out | apply below_alloc | apply pw_below_drewN | apply below_drew1 | refine below_set ?_ GE127.out | refine below_set ?_ GE128.out | refine below_set ?_ GE129.out) | exact HB.out))) : w.heap.size ≤ gb132))
         have n6_ := Aside0.mk ((by rw [hg]; exact (below_size (by repeat (first | (with_reducible first | exact HB.out | apply below_alloc | apply pw_below_drewN | apply below_drew1 | refine below_set ?_ GE127.out | refine below_set ?_ GE128.out | refine below_set ?_ GE129.out) | exact HB.out))) : w.heap.size ≤ gb132))
         have n7_ := Aside0.mk ((by rw [hg]; exact Nat.ne_of_lt (blk_lt (g := gb127) (o := .cells (Ar.cells .u32 8 a0) 60 (0, 0)) (by (with_reducible repeat (first | refine blk_drewN ?_ _ | refine blk_drew ?_ | refine blk_alloc ?_ _)); exact BK127.out)) : gb127 ≠ gb132))
         have n8_ := Aside0.mk ((by rw [hg]; exact Nat.ne_of_gt (blk_lt (g := gb127) (o := .cells (Ar.cells .u32 8 a0) 60 (0, 0)) (by (with_reducible repeat (first | refine blk_drewN ?_ _ | refine blk_drew ?_ | refine blk_alloc ?_ _)); exact BK127.out)) : gb132 ≠ gb127))
         have n9_ := Aside0.mk ((by rw [hg]; exact Nat.ne_of_lt (blk_lt (g := gb128) (o := .cells (Ar.cells .u8 64 a1) 39 (0, 0)) (by (with_reducible repeat (first | refine blk_drewN ?_ _ | refine blk_drew ?_ | refine blk_alloc ?_ _)); exact BK128.out)) : gb128 ≠ gb132))
         have n10_ := Aside0.mk ((by rw [hg]; exact Nat.ne_of_gt (blk_lt (g := gb128) (o := .cells (Ar.cells .u8 64 a1) 39 (0, 0)) (by (with_reducible repeat (first | refine blk_drewN ?_ _ | refine blk_drew ?_ | refine blk_alloc ?_ _)); exact BK128.out)) : gb132 ≠ gb128))
         have n11_ := Aside0.mk ((by rw [hg]; exact Nat.ne_of_lt (blk_lt (g := gb129) (o := .cells (Ar.cells .u32 8 (List.replicate 8 0)) 60 (0, 0)) (by (with_reducible repeat (first | refine blk_drewN ?_ _ | refine blk_drew ?_ | refine blk_alloc ?_ _)); exact BK129.out)) : gb129 ≠ gb132))
         have n12_ := Aside0.mk ((by rw [hg]; exact Nat.ne_of_gt (blk_lt (g := gb129) (o := .cells (Ar.cells .u32 8 (List.replicate 8 0)) 60 (0, 0)) (by (with_reducible repeat (first | refine blk_drewN ?_ _ | refine blk_drew ?_ | refine blk_alloc ?_ _)); exact BK129.out)) : gb132 ≠ gb129))
         clear BK127
         clear BK128
         clear BK129
         clear HB
         have BK127 := n0_
         have BK128 := n1_
         have BK129 := n2_
         have HB := n3_
         have BK132 := n4_
         have GW132 := n5_
         have GE132 := n6_
         have NB127_132 := n7_
         have NB132_127 := n8_
         have NB128_132 := n9_
         have NB132_128 := n10_
         have NB129_132 := n11_
         have NB132_129 := n12_
         clear n0_ n1_ n2_ n3_ n4_ n5_ n6_ n7_ n8_ n9_ n10_ n11_ n12_
         clear hb hbox hg
         refine hK.out _ _ (BK127.out) (fun hHeld => ?_)
         clear hK K
         refine norm_ (a' := ?_) ?_ ?_
         rotate_left
         ·show Act.put _ (some 6) _ = _
          simp only [Act.put, List.setIfInBounds_toArray, List.set_cons_zero, List.set_cons_succ, i64_w, i32_w]
          rfl
         exact norm_ (by first | (simp only [putAll, Act.put, List.setIfInBounds_toArray, List.set_cons_zero, List.set_cons_succ]; done) | (simp only [putAll, Act.put, List.setIfInBounds_toArray, List.set_cons_zero, List.set_cons_succ]; rfl)) (hJ3 (gb132) _ ⟨hHeld, (by (with_reducible repeat (first | refine blk_drewN ?_ _ | refine blk_drew ?_ | refine blk_alloc ?_ _)); exact BK127.out), (by (with_reducible repeat (first | refine blk_drewN ?_ _ | refine blk_drew ?_ | refine blk_alloc ?_ _)); exact BK128.out), (by (with_reducible repeat (first | refine blk_drewN ?_ _ | refine blk_drew ?_ | refine blk_alloc ?_ _)); exact BK129.out), (by (with_reducible repeat (first | refine blk_drewN ?_ _ | refine blk_drew ?_ | refine blk_alloc ?_ _)); exact BK132.out), GW132.out, GE132.out, NB127_132.out, NB132_127.out, NB128_132.out, NB132_128.out, NB129_132.out, NB132_129.out, (by repeat (first | (with_reducible first | exact HB.out | apply below_alloc | apply pw_below_drewN | apply below_drew1 | refine below_set ?_ GE127.out | refine below_set ?_ GE128.out | refine below_set ?_ GE129.out | refine below_set ?_ GE132.out) | exact HB.out))⟩)
       ·skip
        rintro gb132 w10 ⟨hS_, h0_, h1_, h2_, h3_, h4_, h5_, h6_, h7_, h8_, h9_, h10_, h11_, h12_⟩
        have n0_ : Aside0 (w10.heap[gb127]? = some (.cells (Ar.cells .u32 8 a0) 60 (0, 0))) := ⟨h0_⟩
        have n1_ : Aside0 (w10.heap[gb128]? = some (.cells (Ar.cells .u8 64 a1) 39 (0, 0))) := ⟨h1_⟩
        have n2_ : Aside0 (w10.heap[gb129]? = some (.cells (Ar.cells .u32 8 (List.replicate 8 0)) 60 (0, 0))) := ⟨h2_⟩
        have n3_ : Aside0 (w10.heap[gb132]? = some (.cells (Ar.cells .u32 64 (List.replicate 64 0)) 41 (0, 0))) := ⟨h3_⟩
        have n4_ : Aside0 (w.heap.size ≤ gb132) := ⟨h4_⟩
        have n5_ : Aside0 (w.heap.size ≤ gb132) := ⟨h5_⟩
        have n6_ : Aside0 (gb127 ≠ gb132) := ⟨h6_⟩
        have n7_ : Aside0 (gb132 ≠ gb127) := ⟨h7_⟩
        have n8_ : Aside0 (gb128 ≠ gb132) := ⟨h8_⟩
        have n9_ : Aside0 (gb132 ≠ gb128) := ⟨h9_⟩
        have n10_ : Aside0 (gb129 ≠ gb132) := ⟨h10_⟩
        have n11_ : Aside0 (gb132 ≠ gb129) := ⟨h11_⟩
        have n12_ : Aside0 (Below w.heap.size w w10) := ⟨h12_⟩
        clear BK127
        clear BK128
        clear BK129
        clear HB
        clear h0_ h1_ h2_ h3_ h4_ h5_ h6_ h7_ h8_ h9_ h10_ h11_ h12_
        have BK127 := n0_
        have BK128 := n1_
        have BK129 := n2_
        have BK132 := n3_
        have GW132 := n4_
        have GE132 := n5_
        have NB127_132 := n6_
        have NB132_127 := n7_
        have NB128_132 := n8_
        have NB132_128 := n9_
        have NB129_132 := n10_
        have NB132_129 := n11_
        have HB := n12_
        clear n0_ n1_ n2_ n3_ n4_ n5_ n6_ n7_ n8_ n9_ n10_ n11_ n12_
        have hHeld : w10.heap[gb127]? = some (.cells (Ar.cells .u32 8 a0) 60 (0, 0)) := hS_
        refine norm_ (a' := ?_) ?_ ?_
        rotate_left
        ·simp only [putAll, Act.put, List.setIfInBounds_toArray, List.set_cons_zero, List.set_cons_succ]
         rfl
        refine two_ (i := 1) (j := 2) (Ni := some 11) (Nj := some 5) #[true, true, false, true, false, false] #[true, false, true, true, false, false] rfl rfl rfl rfl (by kernel_rfl) (by decide) (by decide) (fun K hK => ?_) (fun K hK => ?_)
        ·skip
         refine goes_ Try.func64 (by kernel_rfl) rfl #[] (by rfl) rfl rfl (by (try simp only [List.map_toArray, List.map_cons, List.map_nil]); first | done | rfl | (simp only [List.length_drop, List.length_take]; rfl)) ?_
         with_reducible refine (comp_constants.calls  t130 _ A3.out).mono ?_
         rintro e w11 ⟨rfl, hb⟩
         refine ⟨_, rfl, ?_⟩
         have n0_ := Aside0.mk (blk_below (g := gb127) (o := .cells (Ar.cells .u32 8 a0) 60 (0, 0)) (by (with_reducible repeat (first | refine blk_drewN ?_ _ | refine blk_drew ?_ | refine blk_alloc ?_ _)); exact BK127.out) hb)
         have n1_ := Aside0.mk (blk_below (g := gb128) (o := .cells (Ar.cells .u8 64 a1) 39 (0, 0)) (by (with_reducible repeat (first | refine blk_drewN ?_ _ | refine blk_drew ?_ | refine blk_alloc ?_ _)); exact BK128.out) hb)
         have n2_ := Aside0.mk (blk_below (g := gb129) (o := .cells (Ar.cells .u32 8 (List.replicate 8 0)) 60 (0, 0)) (by (with_reducible repeat (first | refine blk_drewN ?_ _ | refine blk_drew ?_ | refine blk_alloc ?_ _)); exact BK129.out) hb)
         have n3_ := Aside0.mk (blk_below (g := gb132) (o := .cells (Ar.cells .u32 64 (List.replicate 64 0)) 41 (0, 0)) (by (with_reducible repeat (first | refine blk_drewN ?_ _ | refine blk_drew ?_ | refine blk_alloc ?_ _)); exact BK132.out) hb)
         have n4_ := Aside0.mk (below_step (by repeat (first | (with_reducible first | exact HB.out | apply below_alloc | apply pw_below_drewN | apply below_drew1 | refine below_set ?_ GE127.out | refine below_set ?_ GE128.out | refine below_set ?_ GE129.out | refine below_set ?_ GE132.out) | exact HB.out)) hb)
         clear BK127
         clear BK128
         clear BK129
         clear BK132
         clear HB
         have BK127 := n0_
         have BK128 := n1_
         have BK129 := n2_
         have BK132 := n3_
         have HB := n4_
         clear n0_ n1_ n2_ n3_ n4_
         (try clear hb)
         (try clear hb2)
         (try clear hk)
         (try clear hi)
         refine hK.out _ _ (BK127.out) (fun hHeld => ?_)
         clear hK K
         refine norm_ (a' := ?_) ?_ ?_
         rotate_left
         ·show Act.put _ (some 11) _ = _
          simp only [Act.put, List.setIfInBounds_toArray, List.set_cons_zero, List.set_cons_succ, i64_w, i32_w]
          rfl
         exact norm_ (by first | (simp only [putAll, Act.put, List.setIfInBounds_toArray, List.set_cons_zero, List.set_cons_succ]; done) | (simp only [putAll, Act.put, List.setIfInBounds_toArray, List.set_cons_zero, List.set_cons_succ]; rfl)) (hJ1_3 (gb132) _ ⟨hHeld, (by (with_reducible repeat (first | refine blk_drewN ?_ _ | refine blk_drew ?_ | refine blk_alloc ?_ _)); exact BK127.out), (by (with_reducible repeat (first | refine blk_drewN ?_ _ | refine blk_drew ?_ | refine blk_alloc ?_ _)); exact BK128.out), (by (with_reducible repeat (first | refine blk_drewN ?_ _ | refine blk_drew ?_ | refine blk_alloc ?_ _)); exact BK129.out), (by (with_reducible repeat (first | refine blk_drewN ?_ _ | refine blk_drew ?_ | refine blk_alloc ?_ _)); exact BK132.out), GW132.out, GE132.out, NB127_132.out, NB132_127.out, NB128_132.out, NB132_128.out, NB129_132.out, NB132_129.out, (by repeat (first | (with_reducible first | exact HB.out | apply below_alloc | apply pw_below_drewN | apply below_drew1 | refine below_set ?_ GE127.out | refine below_set ?_ GE128.out | refine below_set ?_ GE129.out | refine below_set ?_ GE132.out) | exact HB.out))⟩)
        ·skip
         refine box_step ?hg (N := 5) ?hd (cs := (Ar.cells .u32 8 (List.replicate 8 0))) (t := 60) ?hr ?_; (case hd => rfl); (case hg => rfl); (case hr => first | exact Ar.box_run rfl rfl | exact Ar.alloc_run rfl (by kernel_rfl) | (go_simp; done) | (go_simp; rfl))
         intro gb131 hg w11 hbox hb
         have n0_ := Aside0.mk (blk_below (g := gb127) (o := .cells (Ar.cells .u32 8 a0) 60 (0, 0)) (by (with_reducible repeat (first | refine blk_drewN ?_ _ | refine blk_drew ?_ | refine blk_alloc ?_ _)); exact BK127.out) hb)
         have n1_ := Aside0.mk (blk_below (g := gb128) (o := .cells (Ar.cells .u8 64 a1) 39 (0, 0)) (by (with_reducible repeat (first | refine blk_drewN ?_ _ | refine blk_drew ?_ | refine blk_alloc ?_ _)); exact BK128.out) hb)
         have n2_ := Aside0.mk (blk_below (g := gb129) (o := .cells (Ar.cells .u32 8 (List.replicate 8 0)) 60 (0, 0)) (by (with_reducible repeat (first | refine blk_drewN ?_ _ | refine blk_drew ?_ | refine blk_alloc ?_ _)); exact BK129.out) hb)
         have n3_ := Aside0.mk (blk_below (g := gb132) (o := .cells (Ar.cells .u32 64 (List.replicate 64 0)) 41 (0, 0)) (by (with_reducible repeat (first | refine blk_drewN ?_ _ | refine blk_drew ?_ | refine blk_alloc ?_ _)); exact BK132.out) hb)
         have n4_ := Aside0.mk (below_step (by repeat (first | (with_reducible first | exact HB.out | apply below_alloc | apply pw_below_drewN | apply below_drew1 | refine below_set ?_ GE127.out | refine below_set ?_ GE128.out | refine below_set ?_ GE129.out | refine below_set ?_ GE132.out) | exact HB.out)) hb)
         have n5_ := Aside0.mk (hbox)
         have n6_ := Aside0.mk ((by rw [hg]; exact (below_size (by repeat (first | (with_reducible first | exact HB.out | apply below_alloc | apply pw_below_drewN | apply below_drew1 | refine below_set ?_ GE127.out | refine below_set ?_ GE128.out | refine below_set ?_ GE129.out | refine below_set ?_ GE132.out) | exact HB.out))) : w.heap.size ≤ gb131))
         have n7_ := Aside0.mk ((by rw [hg]; exact (below_size (by repeat (first | (with_reducible first | exact HB.out | apply below_alloc | apply pw_below_drewN | apply below_drew1 | refine below_set ?_ GE127.out | refine below_set ?_ GE128.out | refine below_set ?_ GE129.out | refine below_set ?_ GE132.out) | exact HB.out))) : w.heap.size ≤ gb131))
         have n8_ := Aside0.mk ((by rw [hg]; exact Nat.ne_of_lt (blk_lt (g := gb127) (o := .cells (Ar.cells .u32 8 a0) 60 (0, 0)) (by (with_reducible repeat (first | refine blk_drewN ?_ _ | refine blk_drew ?_ | refine blk_alloc ?_ _)); exact BK127.out)) : gb127 ≠ gb131))
         have n9_ := Aside0.mk ((by rw [hg]; exact Nat.ne_of_gt (blk_lt (g := gb127) (o := .cells (Ar.cells .u32 8 a0) 60 (0, 0)) (by (with_reducible repeat (first | refine blk_drewN ?_ _ | refine blk_drew ?_ | refine blk_alloc ?_ _)); exact BK127.out)) : gb131 ≠ gb127))
         have n10_ := Aside0.mk ((by rw [hg]; exact Nat.ne_of_lt (blk_lt (g := gb128) (o := .cells (Ar.cells .u8 64 a1) 39 (0, 0)) (by (with_reducible repeat (first | refine blk_drewN ?_ _ | refine blk_drew ?_ | refine blk_alloc ?_ _)); exact BK128.out)) : gb128 ≠ gb131))
         have n11_ := Aside0.mk ((by rw [hg]; exact Nat.ne_of_gt (blk_lt (g := gb128) (o := .cells (Ar.cells .u8 64 a1) 39 (0, 0)) (by (with_reducible repeat (first | refine blk_drewN ?_ _ | refine blk_drew ?_ | refine blk_alloc ?_ _)); exact BK128.out)) : gb131 ≠ gb128))
         have n12_ := Aside0.mk ((by rw [hg]; exact Nat.ne_of_lt (blk_lt (g := gb129) (o := .cells (Ar.cells .u32 8 (List.replicate 8 0)) 60 (0, 0)) (by (with_reducible repeat (first | refine blk_drewN ?_ _ | refine blk_drew ?_ | refine blk_alloc ?_ _)); exact BK129.out)) : gb129 ≠ gb131))
         have n13_ := Aside0.mk ((by rw [hg]; exact Nat.ne_of_gt (blk_lt (g := gb129) (o := .cells (Ar.cells .u32 8 (List.replicate 8 0)) 60 (0, 0)) (by (with_reducible repeat (first | refine blk_drewN ?_ _ | refine blk_drew ?_ | refine blk_alloc ?_ _)); exact BK129.out)) : gb131 ≠ gb129))
         have n14_ := Aside0.mk ((by rw [hg]; exact Nat.ne_of_lt (blk_lt (g := gb132) (o := .cells (Ar.cells .u32 64 (List.replicate 64 0)) 41 (0, 0)) (by (with_reducible repeat (first | refine blk_drewN ?_ _ | refine blk_drew ?_ | refine blk_alloc ?_ _)); exact BK132.out)) : gb132 ≠ gb131))
         have n15_ := Aside0.mk ((by rw [hg]; exact Nat.ne_of_gt (blk_lt (g := gb132) (o := .cells (Ar.cells .u32 64 (List.replicate 64 0)) 41 (0, 0)) (by (with_reducible repeat (first | refine blk_drewN ?_ _ | refine blk_drew ?_ | refine blk_alloc ?_ _)); exact BK132.out)) : gb131 ≠ gb132))
         clear BK127
         clear BK128
         clear BK129
         clear BK132
         clear HB
         have BK127 := n0_
         have BK128 := n1_
         have BK129 := n2_
         have BK132 := n3_
         have HB := n4_
         have BK131 := n5_
         have GW131 := n6_
         have GE131 := n7_
         have NB127_131 := n8_
         have NB131_127 := n9_
         have NB128_131 := n10_
         have NB131_128 := n11_
         have NB129_131 := n12_
         have NB131_129 := n13_
         have NB132_131 := n14_
         have NB131_132 := n15_
         clear n0_ n1_ n2_ n3_ n4_ n5_ n6_ n7_ n8_ n9_ n10_ n11_ n12_ n13_ n14_ n15_
         clear hb hbox hg
         refine hK.out _ _ (BK127.out) (fun hHeld => ?_)
         clear hK K
         refine norm_ (a' := ?_) ?_ ?_
         rotate_left
         ·show Act.put _ (some 5) _ = _
          simp only [Act.put, List.setIfInBounds_toArray, List.set_cons_zero, List.set_cons_succ, i64_w, i32_w]
          rfl
         exact norm_ (by first | (simp only [putAll, Act.put, List.setIfInBounds_toArray, List.set_cons_zero, List.set_cons_succ]; done) | (simp only [putAll, Act.put, List.setIfInBounds_toArray, List.set_cons_zero, List.set_cons_succ]; rfl)) (hJ2_3 (gb131, gb132) _ ⟨hHeld, (by (with_reducible repeat (first | refine blk_drewN ?_ _ | refine blk_drew ?_ | refine blk_alloc ?_ _)); exact BK127.out), (by (with_reducible repeat (first | refine blk_drewN ?_ _ | refine blk_drew ?_ | refine blk_alloc ?_ _)); exact BK128.out), (by (with_reducible repeat (first | refine blk_drewN ?_ _ | refine blk_drew ?_ | refine blk_alloc ?_ _)); exact BK129.out), (by (with_reducible repeat (first | refine blk_drewN ?_ _ | refine blk_drew ?_ | refine blk_alloc ?_ _)); exact BK131.out), (by (with_reducible repeat (first | refine blk_drewN ?_ _ | refine blk_drew ?_ | refine blk_alloc ?_ _)); exact BK132.out), GW131.out, GE131.out, NB127_131.out, NB131_127.out, NB128_131.out, NB131_128.out, NB129_131.out, NB131_129.out, NB132_131.out, NB131_132.out, GW132.out, GE132.out, NB127_132.out, NB132_127.out, NB128_132.out, NB132_128.out, NB129_132.out, NB132_129.out, (by repeat (first | (with_reducible first | exact HB.out | apply below_alloc | apply pw_below_drewN | apply below_drew1 | refine below_set ?_ GE127.out | refine below_set ?_ GE128.out | refine below_set ?_ GE129.out | refine below_set ?_ GE132.out | refine below_set ?_ GE131.out) | exact HB.out))⟩)
      ·skip
       rintro gb131 w10 ⟨hS_, h0_, h1_, h2_, h3_, h4_, h5_, h6_, h7_, h8_, h9_, h10_, h11_, h12_⟩
       have n0_ : Aside0 (w10.heap[gb127]? = some (.cells (Ar.cells .u32 8 a0) 60 (0, 0))) := ⟨h0_⟩
       have n1_ : Aside0 (w10.heap[gb128]? = some (.cells (Ar.cells .u8 64 a1) 39 (0, 0))) := ⟨h1_⟩
       have n2_ : Aside0 (w10.heap[gb129]? = some (.cells (Ar.cells .u32 8 (List.replicate 8 0)) 60 (0, 0))) := ⟨h2_⟩
       have n3_ : Aside0 (w10.heap[gb131]? = some (.cells (Ar.cells .u32 8 (List.replicate 8 0)) 60 (0, 0))) := ⟨h3_⟩
       have n4_ : Aside0 (w.heap.size ≤ gb131) := ⟨h4_⟩
       have n5_ : Aside0 (w.heap.size ≤ gb131) := ⟨h5_⟩
       have n6_ : Aside0 (gb127 ≠ gb131) := ⟨h6_⟩
       have n7_ : Aside0 (gb131 ≠ gb127) := ⟨h7_⟩
       have n8_ : Aside0 (gb128 ≠ gb131) := ⟨h8_⟩
       have n9_ : Aside0 (gb131 ≠ gb128) := ⟨h9_⟩
       have n10_ : Aside0 (gb129 ≠ gb131) := ⟨h10_⟩
       have n11_ : Aside0 (gb131 ≠ gb129) := ⟨h11_⟩
       have n12_ : Aside0 (Below w.heap.size w w10) := ⟨h12_⟩
       clear BK127
       clear BK128
       clear BK129
       clear HB
       clear h0_ h1_ h2_ h3_ h4_ h5_ h6_ h7_ h8_ h9_ h10_ h11_ h12_
       have BK127 := n0_
       have BK128 := n1_
       have BK129 := n2_
       have BK131 := n3_
       have GW131 := n4_
       have GE131 := n5_
       have NB127_131 := n6_
       have NB131_127 := n7_
       have NB128_131 := n8_
       have NB131_128 := n9_
       have NB129_131 := n10_
       have NB131_129 := n11_
       have HB := n12_
       clear n0_ n1_ n2_ n3_ n4_ n5_ n6_ n7_ n8_ n9_ n10_ n11_ n12_
       have hHeld : w10.heap[gb127]? = some (.cells (Ar.cells .u32 8 a0) 60 (0, 0)) := hS_
       refine norm_ (a' := ?_) ?_ ?_
       rotate_left
       ·simp only [putAll, Act.put, List.setIfInBounds_toArray, List.set_cons_zero, List.set_cons_succ]
        rfl
       refine two_ (i := 1) (j := 3) (Ni := some 11) (Nj := some 6) #[true, true, true, false, false, false] #[true, false, true, true, false, false] rfl rfl rfl rfl (by kernel_rfl) (by decide) (by decide) (fun K hK => ?_) (fun K hK => ?_)
       ·skip
        refine goes_ Try.func64 (by kernel_rfl) rfl #[] (by rfl) rfl rfl (by (try simp only [List.map_toArray, List.map_cons, List.map_nil]); first | done | rfl | (simp only [List.length_drop, List.length_take]; rfl)) ?_
        with_reducible refine (comp_constants.calls  t130 _ A3.out).mono ?_
        rintro e w11 ⟨rfl, hb⟩
        refine ⟨_, rfl, ?_⟩
        have n0_ := Aside0.mk (blk_below (g := gb127) (o := .cells (Ar.cells .u32 8 a0) 60 (0, 0)) (by (with_reducible repeat (first | refine blk_drewN ?_ _ | refine blk_drew ?_ | refine blk_alloc ?_ _)); exact BK127.out) hb)
        have n1_ := Aside0.mk (blk_below (g := gb128) (o := .cells (Ar.cells .u8 64 a1) 39 (0, 0)) (by (with_reducible repeat (first | refine blk_drewN ?_ _ | refine blk_drew ?_ | refine blk_alloc ?_ _)); exact BK128.out) hb)
        have n2_ := Aside0.mk (blk_below (g := gb129) (o := .cells (Ar.cells .u32 8 (List.replicate 8 0)) 60 (0, 0)) (by (with_reducible repeat (first | refine blk_drewN ?_ _ | refine blk_drew ?_ | refine blk_alloc ?_ _)); exact BK129.out) hb)
        have n3_ := Aside0.mk (blk_below (g := gb131) (o := .cells (Ar.cells .u32 8 (List.replicate 8 0)) 60 (0, 0)) (by (with_reducible repeat (first | refine blk_drewN ?_ _ | refine blk_drew ?_ | refine blk_alloc ?_ _)); exact BK131.out) hb)
        have n4_ := Aside0.mk (below_step (by repeat (first | (with_reducible first | exact HB.out | apply below_alloc | apply pw_below_drewN | apply below_drew1 | refine below_set ?_ GE127.out | refine below_set ?_ GE128.out | refine below_set ?_ GE129.out | refine below_set ?_ GE131.out) | exact HB.out)) hb)
        clear BK127
        clear BK128
        clear BK129
        clear BK131
        clear HB
        have BK127 := n0_
        have BK128 := n1_
        have BK129 := n2_
        have BK131 := n3_
        have HB := n4_
        clear n0_ n1_ n2_ n3_ n4_
        (try clear hb)
        (try clear hb2)
        (try clear hk)
        (try clear hi)
        refine hK.out _ _ (BK127.out) (fun hHeld => ?_)
        clear hK K
        refine norm_ (a' := ?_) ?_ ?_
        rotate_left
        ·show Act.put _ (some 11) _ = _
         simp only [Act.put, List.setIfInBounds_toArray, List.set_cons_zero, List.set_cons_succ, i64_w, i32_w]
         rfl
        exact norm_ (by first | (simp only [putAll, Act.put, List.setIfInBounds_toArray, List.set_cons_zero, List.set_cons_succ]; done) | (simp only [putAll, Act.put, List.setIfInBounds_toArray, List.set_cons_zero, List.set_cons_succ]; rfl)) (hJ1_2 (gb131) _ ⟨hHeld, (by (with_reducible repeat (first | refine blk_drewN ?_ _ | refine blk_drew ?_ | refine blk_alloc ?_ _)); exact BK127.out), (by (with_reducible repeat (first | refine blk_drewN ?_ _ | refine blk_drew ?_ | refine blk_alloc ?_ _)); exact BK128.out), (by (with_reducible repeat (first | refine blk_drewN ?_ _ | refine blk_drew ?_ | refine blk_alloc ?_ _)); exact BK129.out), (by (with_reducible repeat (first | refine blk_drewN ?_ _ | refine blk_drew ?_ | refine blk_alloc ?_ _)); exact BK131.out), GW131.out, GE131.out, NB127_131.out, NB131_127.out, NB128_131.out, NB131_128.out, NB129_131.out, NB131_129.out, (by repeat (first | (with_reducible first | exact HB.out | apply below_alloc | apply pw_below_drewN | apply below_drew1 | refine below_set ?_ GE127.out | refine below_set ?_ GE128.out | refine below_set ?_ GE129.out | refine below_set ?_ GE131.out) | exact HB.out))⟩)
       ·skip
        refine box_step ?hg (N := 6) ?hd (cs := (Ar.cells .u32 64 (List.replicate 64 0))) (t := 41) ?hr ?_; (case hd => rfl); (case hg => rfl); (case hr => first | exact Ar.box_run rfl rfl | exact Ar.alloc_run rfl (by kernel_rfl) | (go_simp; done) | (go_simp; rfl))
        intro gb132 hg w11 hbox hb
        have n0_ := Aside0.mk (blk_below (g := gb127) (o := .cells (Ar.cells .u32 8 a0) 60 (0, 0)) (by (with_reducible repeat (first | refine blk_drewN ?_ _ | refine blk_drew ?_ | refine blk_alloc ?_ _)); exact BK127.out) hb)
        have n1_ := Aside0.mk (blk_below (g := gb128) (o := .cells (Ar.cells .u8 64 a1) 39 (0, 0)) (by (with_reducible repeat (first | refine blk_drewN ?_ _ | refine blk_drew ?_ | refine blk_alloc ?_ _)); exact BK128.out) hb)
        have n2_ := Aside0.mk (blk_below (g := gb129) (o := .cells (Ar.cells .u32 8 (List.replicate 8 0)) 60 (0, 0)) (by (with_reducible repeat (first | refine blk_drewN ?_ _ | refine blk_drew ?_ | refine blk_alloc ?_ _)); exact BK129.out) hb)
        have n3_ := Aside0.mk (blk_below (g := gb131) (o := .cells (Ar.cells .u32 8 (List.replicate 8 0)) 60 (0, 0)) (by (with_reducible repeat (first | refine blk_drewN ?_ _ | refine blk_drew ?_ | refine blk_alloc ?_ _)); exact BK131.out) hb)
        have n4_ := Aside0.mk (below_step (by repeat (first | (with_reducible first | exact HB.out | apply below_alloc | apply pw_below_drewN | apply below_drew1 | refine below_set ?_ GE127.out | refine below_set ?_ GE128.out | refine below_set ?_ GE129.out | refine below_set ?_ GE131.out) | exact HB.out)) hb)
        have n5_ := Aside0.mk (hbox)
        have n6_ := Aside0.mk ((by rw [hg]; exact (below_size (by repeat (first | (with_reducible first | exact HB.out | apply below_alloc | apply pw_below_drewN | apply below_drew1 | refine below_set ?_ GE127.out | refine below_set ?_ GE128.out | refine below_set ?_ GE129.out | refine below_set ?_ GE131.out) | exact HB.out))) : w.heap.size ≤ gb132))
        have n7_ := Aside0.mk ((by rw [hg]; exact (below_size (by repeat (first | (with_reducible first | exact HB.out | apply below_alloc | apply pw_below_drewN | apply below_drew1 | refine below_set ?_ GE127.out | refine below_set ?_ GE128.out | refine below_set ?_ GE129.out | refine below_set ?_ GE131.out) | exact HB.out))) : w.heap.size ≤ gb132))
        have n8_ := Aside0.mk ((by rw [hg]; exact Nat.ne_of_lt (blk_lt (g := gb127) (o := .cells (Ar.cells .u32 8 a0) 60 (0, 0)) (by (with_reducible repeat (first | refine blk_drewN ?_ _ | refine blk_drew ?_ | refine blk_alloc ?_ _)); exact BK127.out)) : gb127 ≠ gb132))
        have n9_ := Aside0.mk ((by rw [hg]; exact Nat.ne_of_gt (blk_lt (g := gb127) (o := .cells (Ar.cells .u32 8 a0) 60 (0, 0)) (by (with_reducible repeat (first | refine blk_drewN ?_ _ | refine blk_drew ?_ | refine blk_alloc ?_ _)); exact BK127.out)) : gb132 ≠ gb127))
        have n10_ := Aside0.mk ((by rw [hg]; exact Nat.ne_of_lt (blk_lt (g := gb128) (o := .cells (Ar.cells .u8 64 a1) 39 (0, 0)) (by (with_reducible repeat (first | refine blk_drewN ?_ _ | refine blk_drew ?_ | refine blk_alloc ?_ _)); exact BK128.out)) : gb128 ≠ gb132))
        have n11_ := Aside0.mk ((by rw [hg]; exact Nat.ne_of_gt (blk_lt (g := gb128) (o := .cells (Ar.cells .u8 64 a1) 39 (0, 0)) (by (with_reducible repeat (first | refine blk_drewN ?_ _ | refine blk_drew ?_ | refine blk_alloc ?_ _)); exact BK128.out)) : gb132 ≠ gb128))
        have n12_ := Aside0.mk ((by rw [hg]; exact Nat.ne_of_lt (blk_lt (g := gb129) (o := .cells (Ar.cells .u32 8 (List.replicate 8 0)) 60 (0, 0)) (by (with_reducible repeat (first | refine blk_drewN ?_ _ | refine blk_drew ?_ | refine blk_alloc ?_ _)); exact BK129.out)) : gb129 ≠ gb132))
        have n13_ := Aside0.mk ((by rw [hg]; exact Nat.ne_of_gt (blk_lt (g := gb129) (o := .cells (Ar.cells .u32 8 (List.replicate 8 0)) 60 (0, 0)) (by (with_reducible repeat (first | refine blk_drewN ?_ _ | refine blk_drew ?_ | refine blk_alloc ?_ _)); exact BK129.out)) : gb132 ≠ gb129))
        have n14_ := Aside0.mk ((by rw [hg]; exact Nat.ne_of_lt (blk_lt (g := gb131) (o := .cells (Ar.cells .u32 8 (List.replicate 8 0)) 60 (0, 0)) (by (with_reducible repeat (first | refine blk_drewN ?_ _ | refine blk_drew ?_ | refine blk_alloc ?_ _)); exact BK131.out)) : gb131 ≠ gb132))
        have n15_ := Aside0.mk ((by rw [hg]; exact Nat.ne_of_gt (blk_lt (g := gb131) (o := .cells (Ar.cells .u32 8 (List.replicate 8 0)) 60 (0, 0)) (by (with_reducible repeat (first | refine blk_drewN ?_ _ | refine blk_drew ?_ | refine blk_alloc ?_ _)); exact BK131.out)) : gb132 ≠ gb131))
        clear BK127
        clear BK128
        clear BK129
        clear BK131
        clear HB
        have BK127 := n0_
        have BK128 := n1_
        have BK129 := n2_
        have BK131 := n3_
        have HB := n4_
        have BK132 := n5_
        have GW132 := n6_
        have GE132 := n7_
        have NB127_132 := n8_
        have NB132_127 := n9_
        have NB128_132 := n10_
        have NB132_128 := n11_
        have NB129_132 := n12_
        have NB132_129 := n13_
        have NB131_132 := n14_
        have NB132_131 := n15_
        clear n0_ n1_ n2_ n3_ n4_ n5_ n6_ n7_ n8_ n9_ n10_ n11_ n12_ n13_ n14_ n15_
        clear hb hbox hg
        refine hK.out _ _ (BK127.out) (fun hHeld => ?_)
        clear hK K
        refine norm_ (a' := ?_) ?_ ?_
        rotate_left
        ·show Act.put _ (some 6) _ = _
         simp only [Act.put, List.setIfInBounds_toArray, List.set_cons_zero, List.set_cons_succ, i64_w, i32_w]
         rfl
        exact norm_ (by first | (simp only [putAll, Act.put, List.setIfInBounds_toArray, List.set_cons_zero, List.set_cons_succ]; done) | (simp only [putAll, Act.put, List.setIfInBounds_toArray, List.set_cons_zero, List.set_cons_succ]; rfl)) (hJ2_3 (gb131, gb132) _ ⟨hHeld, (by (with_reducible repeat (first | refine blk_drewN ?_ _ | refine blk_drew ?_ | refine blk_alloc ?_ _)); exact BK127.out), (by (with_reducible repeat (first | refine blk_drewN ?_ _ | refine blk_drew ?_ | refine blk_alloc ?_ _)); exact BK128.out), (by (with_reducible repeat (first | refine blk_drewN ?_ _ | refine blk_drew ?_ | refine blk_alloc ?_ _)); exact BK129.out), (by (with_reducible repeat (first | refine blk_drewN ?_ _ | refine blk_drew ?_ | refine blk_alloc ?_ _)); exact BK131.out), (by (with_reducible repeat (first | refine blk_drewN ?_ _ | refine blk_drew ?_ | refine blk_alloc ?_ _)); exact BK132.out), GW131.out, GE131.out, NB127_131.out, NB131_127.out, NB128_131.out, NB131_128.out, NB129_131.out, NB131_129.out, NB132_131.out, NB131_132.out, GW132.out, GE132.out, NB127_132.out, NB132_127.out, NB128_132.out, NB132_128.out, NB129_132.out, NB132_129.out, (by repeat (first | (with_reducible first | exact HB.out | apply below_alloc | apply pw_below_drewN | apply below_drew1 | refine below_set ?_ GE127.out | refine below_set ?_ GE128.out | refine below_set ?_ GE129.out | refine below_set ?_ GE131.out | refine below_set ?_ GE132.out) | exact HB.out))⟩)
     ·skip
      rintro _ w10 ⟨hS_, h0_, h1_, h2_, h3_⟩
      have n0_ : Aside0 (w10.heap[gb127]? = some (.cells (Ar.cells .u32 8 a0) 60 (0, 0))) := ⟨h0_⟩
      have n1_ : Aside0 (w10.heap[gb128]? = some (.cells (Ar.cells .u8 64 a1) 39 (0, 0))) := ⟨h1_⟩
      have n2_ : Aside0 (w10.heap[gb129]? = some (.cells (Ar.cells .u32 8 (List.replicate 8 0)) 60 (0, 0))) := ⟨h2_⟩
      have n3_ : Aside0 (Below w.heap.size w w10) := ⟨h3_⟩
      clear BK127
      clear BK128
      clear BK129
      clear HB
      clear h0_ h1_ h2_ h3_
      have BK127 := n0_
      have BK128 := n1_
      have BK129 := n2_
      have HB := n3_
      clear n0_ n1_ n2_ n3_
      have hHeld : w10.heap[gb127]? = some (.cells (Ar.cells .u32 8 a0) 60 (0, 0)) := hS_
      refine norm_ (a' := ?_) ?_ ?_
      rotate_left
      ·simp only [putAll, Act.put, List.setIfInBounds_toArray, List.set_cons_zero, List.set_cons_succ]
       rfl
      refine two_ (i := 2) (j := 3) (Ni := some 5) (Nj := some 6) #[true, true, true, false, false, false] #[true, true, false, true, false, false] rfl rfl rfl rfl (by kernel_rfl) (by decide) (by decide) (fun K hK => ?_) (fun K hK => ?_)
      ·skip
       refine box_step ?hg (N := 5) ?hd (cs := (Ar.cells .u32 8 (List.replicate 8 0))) (t := 60) ?hr ?_; (case hd => rfl); (case hg => rfl); (case hr => first | exact Ar.box_run rfl rfl | exact Ar.alloc_run rfl (by kernel_rfl) | (go_simp; done) | (go_simp; rfl))
       intro gb131 hg w11 hbox hb
       have n0_ := Aside0.mk (blk_below (g := gb127) (o := .cells (Ar.cells .u32 8 a0) 60 (0, 0)) (by (with_reducible repeat (first | refine blk_drewN ?_ _ | refine blk_drew ?_ | refine blk_alloc ?_ _)); exact BK127.out) hb)
       have n1_ := Aside0.mk (blk_below (g := gb128) (o := .cells (Ar.cells .u8 64 a1) 39 (0, 0)) (by (with_reducible repeat (first | refine blk_drewN ?_ _ | refine blk_drew ?_ | refine blk_alloc ?_ _)); exact BK128.out) hb)
       have n2_ := Aside0.mk (blk_below (g := gb129) (o := .cells (Ar.cells .u32 8 (List.replicate 8 0)) 60 (0, 0)) (by (with_reducible repeat (first | refine blk_drewN ?_ _ | refine blk_drew ?_ | refine blk_alloc ?_ _)); exact BK129.out) hb)
       have n3_ := Aside0.mk (below_step (by repeat (first | (with_reducible first | exact HB.out | apply below_alloc | apply pw_below_drewN | apply below_drew1 | refine below_set ?_ GE127.out | refine below_set ?_ GE128.out | refine below_set ?_ GE129.out) | exact HB.out)) hb)
       have n4_ := Aside0.mk (hbox)
       have n5_ := Aside0.mk ((by rw [hg]; exact (below_size (by repeat (first | (with_reducible first | exact HB.out | apply below_alloc | apply pw_below_drewN | apply below_drew1 | refine below_set ?_ GE127.out | refine below_set ?_ GE128.out | refine below_set ?_ GE129.out) | exact HB.out))) : w.heap.size ≤ gb131))
       have n6_ := Aside0.mk ((by rw [hg]; exact (below_size (by repeat (first | (with_reducible first | exact HB.out | apply below_alloc | apply pw_below_drewN | apply below_drew1 | refine below_set ?_ GE127.out | refine below_set ?_ GE128.out | refine below_set ?_ GE129.out) | exact HB.out))) : w.heap.size ≤ gb131))
       have n7_ := Aside0.mk ((by rw [hg]; exact Nat.ne_of_lt (blk_lt (g := gb127) (o := .cells (Ar.cells .u32 8 a0) 60 (0, 0)) (by (with_reducible repeat (first | refine blk_drewN ?_ _ | refine blk_drew ?_ | refine blk_alloc ?_ _)); exact BK127.out)) : gb127 ≠ gb131))
       have n8_ := Aside0.mk ((by rw [hg]; exact Nat.ne_of_gt (blk_lt (g := gb127) (o := .cells (Ar.cells .u32 8 a0) 60 (0, 0)) (by (with_reducible repeat (first | refine blk_drewN ?_ _ | refine blk_drew ?_ | refine blk_alloc ?_ _)); exact BK127.out)) : gb131 ≠ gb127))
       have n9_ := Aside0.mk ((by rw [hg]; exact Nat.ne_of_lt (blk_lt (g := gb128) (o := .cells (Ar.cells .u8 64 a1) 39 (0, 0)) (by (with_reducible repeat (first | refine blk_drewN ?_ _ | refine blk_drew ?_ | refine blk_alloc ?_ _)); exact BK128.out)) : gb128 ≠ gb131))
       have n10_ := Aside0.mk ((by rw [hg]; exact Nat.ne_of_gt (blk_lt (g := gb128) (o := .cells (Ar.cells .u8 64 a1) 39 (0, 0)) (by (with_reducible repeat (first | refine blk_drewN ?_ _ | refine blk_drew ?_ | refine blk_alloc ?_ _)); exact BK128.out)) : gb131 ≠ gb128))
       have n11_ := Aside0.mk ((by rw [hg]; exact Nat.ne_of_lt (blk_lt (g := gb129) (o := .cells (Ar.cells .u32 8 (List.replicate 8 0)) 60 (0, 0)) (by (with_reducible repeat (first | refine blk_drewN ?_ _ | refine blk_drew ?_ | refine blk_alloc ?_ _)); exact BK129.out)) : gb129 ≠ gb131))
       have n12_ := Aside0.mk ((by rw [hg]; exact Nat.ne_of_gt (blk_lt (g := gb129) (o := .cells (Ar.cells .u32 8 (List.replicate 8 0)) 60 (0, 0)) (by (with_reducible repeat (first | refine blk_drewN ?_ _ | refine blk_drew ?_ | refine blk_alloc ?_ _)); exact BK129.out)) : gb131 ≠ gb129))
       clear BK127
       clear BK128
       clear BK129
       clear HB
       have BK127 := n0_
       have BK128 := n1_
       have BK129 := n2_
       have HB := n3_
       have BK131 := n4_
       have GW131 := n5_
       have GE131 := n6_
       have NB127_131 := n7_
       have NB131_127 := n8_
       have NB128_131 := n9_
       have NB131_128 := n10_
       have NB129_131 := n11_
       have NB131_129 := n12_
       clear n0_ n1_ n2_ n3_ n4_ n5_ n6_ n7_ n8_ n9_ n10_ n11_ n12_
       clear hb hbox hg
       refine hK.out _ _ (BK127.out) (fun hHeld => ?_)
       clear hK K
       refine norm_ (a' := ?_) ?_ ?_
       rotate_left
       ·show Act.put _ (some 5) _ = _
        simp only [Act.put, List.setIfInBounds_toArray, List.set_cons_zero, List.set_cons_succ, i64_w, i32_w]
        rfl
       exact norm_ (by first | (simp only [putAll, Act.put, List.setIfInBounds_toArray, List.set_cons_zero, List.set_cons_succ]; done) | (simp only [putAll, Act.put, List.setIfInBounds_toArray, List.set_cons_zero, List.set_cons_succ]; rfl)) (hJ1_2 (gb131) _ ⟨hHeld, (by (with_reducible repeat (first | refine blk_drewN ?_ _ | refine blk_drew ?_ | refine blk_alloc ?_ _)); exact BK127.out), (by (with_reducible repeat (first | refine blk_drewN ?_ _ | refine blk_drew ?_ | refine blk_alloc ?_ _)); exact BK128.out), (by (with_reducible repeat (first | refine blk_drewN ?_ _ | refine blk_drew ?_ | refine blk_alloc ?_ _)); exact BK129.out), (by (with_reducible repeat (first | refine blk_drewN ?_ _ | refine blk_drew ?_ | refine blk_alloc ?_ _)); exact BK131.out), GW131.out, GE131.out, NB127_131.out, NB131_127.out, NB128_131.out, NB131_128.out, NB129_131.out, NB131_129.out, (by repeat (first | (with_reducible first | exact HB.out | apply below_alloc | apply pw_below_drewN | apply below_drew1 | refine below_set ?_ GE127.out | refine below_set ?_ GE128.out | refine below_set ?_ GE129.out | refine below_set ?_ GE131.out) | exact HB.out))⟩)
      ·skip
       refine box_step ?hg (N := 6) ?hd (cs := (Ar.cells .u32 64 (List.replicate 64 0))) (t := 41) ?hr ?_; (case hd => rfl); (case hg => rfl); (case hr => first | exact Ar.box_run rfl rfl | exact Ar.alloc_run rfl (by kernel_rfl) | (go_simp; done) | (go_simp; rfl))
       intro gb132 hg w11 hbox hb
       have n0_ := Aside0.mk (blk_below (g := gb127) (o := .cells (Ar.cells .u32 8 a0) 60 (0, 0)) (by (with_reducible repeat (first | refine blk_drewN ?_ _ | refine blk_drew ?_ | refine blk_alloc ?_ _)); exact BK127.out) hb)
       have n1_ := Aside0.mk (blk_below (g := gb128) (o := .cells (Ar.cells .u8 64 a1) 39 (0, 0)) (by (with_reducible repeat (first | refine blk_drewN ?_ _ | refine blk_drew ?_ | refine blk_alloc ?_ _)); exact BK128.out) hb)
       have n2_ := Aside0.mk (blk_below (g := gb129) (o := .cells (Ar.cells .u32 8 (List.replicate 8 0)) 60 (0, 0)) (by (with_reducible repeat (first | refine blk_drewN ?_ _ | refine blk_drew ?_ | refine blk_alloc ?_ _)); exact BK129.out) hb)
       have n3_ := Aside0.mk (below_step (by repeat (first | (with_reducible first | exact HB.out | apply below_alloc | apply pw_below_drewN | apply below_drew1 | refine below_set ?_ GE127.out | refine below_set ?_ GE128.out | refine below_set ?_ GE129.out) | exact HB.out)) hb)
       have n4_ := Aside0.mk (hbox)
       have n5_ := Aside0.mk ((by rw [hg]; exact (below_size (by repeat (first | (with_reducible first | exact HB.out | apply below_alloc | apply pw_below_drewN | apply below_drew1 | refine below_set ?_ GE127.out | refine below_set ?_ GE128.out | refine below_set ?_ GE129.out) | exact HB.out))) : w.heap.size ≤ gb132))
       have n6_ := Aside0.mk ((by rw [hg]; exact (below_size (by repeat (first | (with_reducible first | exact HB.out | apply below_alloc | apply pw_below_drewN | apply below_drew1 | refine below_set ?_ GE127.out | refine below_set ?_ GE128.out | refine below_set ?_ GE129.out) | exact HB.out))) : w.heap.size ≤ gb132))
       have n7_ := Aside0.mk ((by rw [hg]; exact Nat.ne_of_lt (blk_lt (g := gb127) (o := .cells (Ar.cells .u32 8 a0) 60 (0, 0)) (by (with_reducible repeat (first | refine blk_drewN ?_ _ | refine blk_drew ?_ | refine blk_alloc ?_ _)); exact BK127.out)) : gb127 ≠ gb132))
       have n8_ := Aside0.mk ((by rw [hg]; exact Nat.ne_of_gt (blk_lt (g := gb127) (o := .cells (Ar.cells .u32 8 a0) 60 (0, 0)) (by (with_reducible repeat (first | refine blk_drewN ?_ _ | refine blk_drew ?_ | refine blk_alloc ?_ _)); exact BK127.out)) : gb132 ≠ gb127))
       have n9_ := Aside0.mk ((by rw [hg]; exact Nat.ne_of_lt (blk_lt (g := gb128) (o := .cells (Ar.cells .u8 64 a1) 39 (0, 0)) (by (with_reducible repeat (first | refine blk_drewN ?_ _ | refine blk_drew ?_ | refine blk_alloc ?_ _)); exact BK128.out)) : gb128 ≠ gb132))
       have n10_ := Aside0.mk ((by rw [hg]; exact Nat.ne_of_gt (blk_lt (g := gb128) (o := .cells (Ar.cells .u8 64 a1) 39 (0, 0)) (by (with_reducible repeat (first | refine blk_drewN ?_ _ | refine blk_drew ?_ | refine blk_alloc ?_ _)); exact BK128.out)) : gb132 ≠ gb128))
       have n11_ := Aside0.mk ((by rw [hg]; exact Nat.ne_of_lt (blk_lt (g := gb129) (o := .cells (Ar.cells .u32 8 (List.replicate 8 0)) 60 (0, 0)) (by (with_reducible repeat (first | refine blk_drewN ?_ _ | refine blk_drew ?_ | refine blk_alloc ?_ _)); exact BK129.out)) : gb129 ≠ gb132))
       have n12_ := Aside0.mk ((by rw [hg]; exact Nat.ne_of_gt (blk_lt (g := gb129) (o := .cells (Ar.cells .u32 8 (List.replicate 8 0)) 60 (0, 0)) (by (with_reducible repeat (first | refine blk_drewN ?_ _ | refine blk_drew ?_ | refine blk_alloc ?_ _)); exact BK129.out)) : gb132 ≠ gb129))
       clear BK127
       clear BK128
       clear BK129
       clear HB
       have BK127 := n0_
       have BK128 := n1_
       have BK129 := n2_
       have HB := n3_
       have BK132 := n4_
       have GW132 := n5_
       have GE132 := n6_
       have NB127_132 := n7_
       have NB132_127 := n8_
       have NB128_132 := n9_
       have NB132_128 := n10_
       have NB129_132 := n11_
       have NB132_129 := n12_
       clear n0_ n1_ n2_ n3_ n4_ n5_ n6_ n7_ n8_ n9_ n10_ n11_ n12_
       clear hb hbox hg
       refine hK.out _ _ (BK127.out) (fun hHeld => ?_)
       clear hK K
       refine norm_ (a' := ?_) ?_ ?_
       rotate_left
       ·show Act.put _ (some 6) _ = _
        simp only [Act.put, List.setIfInBounds_toArray, List.set_cons_zero, List.set_cons_succ, i64_w, i32_w]
        rfl
       exact norm_ (by first | (simp only [putAll, Act.put, List.setIfInBounds_toArray, List.set_cons_zero, List.set_cons_succ]; done) | (simp only [putAll, Act.put, List.setIfInBounds_toArray, List.set_cons_zero, List.set_cons_succ]; rfl)) (hJ1_3 (gb132) _ ⟨hHeld, (by (with_reducible repeat (first | refine blk_drewN ?_ _ | refine blk_drew ?_ | refine blk_alloc ?_ _)); exact BK127.out), (by (with_reducible repeat (first | refine blk_drewN ?_ _ | refine blk_drew ?_ | refine blk_alloc ?_ _)); exact BK128.out), (by (with_reducible repeat (first | refine blk_drewN ?_ _ | refine blk_drew ?_ | refine blk_alloc ?_ _)); exact BK129.out), (by (with_reducible repeat (first | refine blk_drewN ?_ _ | refine blk_drew ?_ | refine blk_alloc ?_ _)); exact BK132.out), GW132.out, GE132.out, NB127_132.out, NB132_127.out, NB128_132.out, NB132_128.out, NB129_132.out, NB132_129.out, (by repeat (first | (with_reducible first | exact HB.out | apply below_alloc | apply pw_below_drewN | apply below_drew1 | refine below_set ?_ GE127.out | refine below_set ?_ GE128.out | refine below_set ?_ GE129.out | refine below_set ?_ GE132.out) | exact HB.out))⟩)
    ·skip
     rintro ⟨gb131, gb132⟩ w11 ⟨hS_, h0_, h1_, h2_, h3_, h4_, h5_, h6_, h7_, h8_, h9_, h10_, h11_, h12_, h13_, h14_, h15_, h16_, h17_, h18_, h19_, h20_, h21_, h22_, h23_⟩
     have n0_ : Aside0 (w11.heap[gb127]? = some (.cells (Ar.cells .u32 8 a0) 60 (0, 0))) := ⟨h0_⟩
     have n1_ : Aside0 (w11.heap[gb128]? = some (.cells (Ar.cells .u8 64 a1) 39 (0, 0))) := ⟨h1_⟩
     have n2_ : Aside0 (w11.heap[gb129]? = some (.cells (Ar.cells .u32 8 (List.replicate 8 0)) 60 (0, 0))) := ⟨h2_⟩
     have n3_ : Aside0 (w11.heap[gb131]? = some (.cells (Ar.cells .u32 8 (List.replicate 8 0)) 60 (0, 0))) := ⟨h3_⟩
     have n4_ : Aside0 (w11.heap[gb132]? = some (.cells (Ar.cells .u32 64 (List.replicate 64 0)) 41 (0, 0))) := ⟨h4_⟩
     have n5_ : Aside0 (w.heap.size ≤ gb131) := ⟨h5_⟩
     have n6_ : Aside0 (w.heap.size ≤ gb131) := ⟨h6_⟩
     have n7_ : Aside0 (gb127 ≠ gb131) := ⟨h7_⟩
     have n8_ : Aside0 (gb131 ≠ gb127) := ⟨h8_⟩
     have n9_ : Aside0 (gb128 ≠ gb131) := ⟨h9_⟩
     have n10_ : Aside0 (gb131 ≠ gb128) := ⟨h10_⟩
     have n11_ : Aside0 (gb129 ≠ gb131) := ⟨h11_⟩
     have n12_ : Aside0 (gb131 ≠ gb129) := ⟨h12_⟩
     have n13_ : Aside0 (gb132 ≠ gb131) := ⟨h13_⟩
     have n14_ : Aside0 (gb131 ≠ gb132) := ⟨h14_⟩
     have n15_ : Aside0 (w.heap.size ≤ gb132) := ⟨h15_⟩
     have n16_ : Aside0 (w.heap.size ≤ gb132) := ⟨h16_⟩
     have n17_ : Aside0 (gb127 ≠ gb132) := ⟨h17_⟩
     have n18_ : Aside0 (gb132 ≠ gb127) := ⟨h18_⟩
     have n19_ : Aside0 (gb128 ≠ gb132) := ⟨h19_⟩
     have n20_ : Aside0 (gb132 ≠ gb128) := ⟨h20_⟩
     have n21_ : Aside0 (gb129 ≠ gb132) := ⟨h21_⟩
     have n22_ : Aside0 (gb132 ≠ gb129) := ⟨h22_⟩
     have n23_ : Aside0 (Below w.heap.size w w11) := ⟨h23_⟩
     clear BK127
     clear BK128
     clear BK129
     clear HB
     clear h0_ h1_ h2_ h3_ h4_ h5_ h6_ h7_ h8_ h9_ h10_ h11_ h12_ h13_ h14_ h15_ h16_ h17_ h18_ h19_ h20_ h21_ h22_ h23_
     have BK127 := n0_
     have BK128 := n1_
     have BK129 := n2_
     have BK131 := n3_
     have BK132 := n4_
     have GW131 := n5_
     have GE131 := n6_
     have NB127_131 := n7_
     have NB131_127 := n8_
     have NB128_131 := n9_
     have NB131_128 := n10_
     have NB129_131 := n11_
     have NB131_129 := n12_
     have NB132_131 := n13_
     have NB131_132 := n14_
     have GW132 := n15_
     have GE132 := n16_
     have NB127_132 := n17_
     have NB132_127 := n18_
     have NB128_132 := n19_
     have NB132_128 := n20_
     have NB129_132 := n21_
     have NB132_129 := n22_
     have HB := n23_
     clear n0_ n1_ n2_ n3_ n4_ n5_ n6_ n7_ n8_ n9_ n10_ n11_ n12_ n13_ n14_ n15_ n16_ n17_ n18_ n19_ n20_ n21_ n22_ n23_
     have hHeld : w11.heap[gb127]? = some (.cells (Ar.cells .u32 8 a0) 60 (0, 0)) := hS_
     refine norm_ (a' := ?_) ?_ ?_
     rotate_left
     ·simp only [putAll, Act.put, List.setIfInBounds_toArray, List.set_cons_zero, List.set_cons_succ]
      rfl
     refine one_ (i := 1) (N := some 11) #[true, true, true, true, false, false] rfl rfl (by kernel_rfl) (by decide) (fun K hK => ?_)
     refine goes_ Try.func64 (by kernel_rfl) rfl #[] (by rfl) rfl rfl (by (try simp only [List.map_toArray, List.map_cons, List.map_nil]); first | done | rfl | (simp only [List.length_drop, List.length_take]; rfl)) ?_
     with_reducible refine (comp_constants.calls  t130 _ A3.out).mono ?_
     rintro e w12 ⟨rfl, hb⟩
     refine ⟨_, rfl, ?_⟩
     have n0_ := Aside0.mk (blk_below (g := gb127) (o := .cells (Ar.cells .u32 8 a0) 60 (0, 0)) (by (with_reducible repeat (first | refine blk_drewN ?_ _ | refine blk_drew ?_ | refine blk_alloc ?_ _)); exact BK127.out) hb)
     have n1_ := Aside0.mk (blk_below (g := gb128) (o := .cells (Ar.cells .u8 64 a1) 39 (0, 0)) (by (with_reducible repeat (first | refine blk_drewN ?_ _ | refine blk_drew ?_ | refine blk_alloc ?_ _)); exact BK128.out) hb)
     have n2_ := Aside0.mk (blk_below (g := gb129) (o := .cells (Ar.cells .u32 8 (List.replicate 8 0)) 60 (0, 0)) (by (with_reducible repeat (first | refine blk_drewN ?_ _ | refine blk_drew ?_ | refine blk_alloc ?_ _)); exact BK129.out) hb)
     have n3_ := Aside0.mk (blk_below (g := gb131) (o := .cells (Ar.cells .u32 8 (List.replicate 8 0)) 60 (0, 0)) (by (with_reducible repeat (first | refine blk_drewN ?_ _ | refine blk_drew ?_ | refine blk_alloc ?_ _)); exact BK131.out) hb)
     have n4_ := Aside0.mk (blk_below (g := gb132) (o := .cells (Ar.cells .u32 64 (List.replicate 64 0)) 41 (0, 0)) (by (with_reducible repeat (first | refine blk_drewN ?_ _ | refine blk_drew ?_ | refine blk_alloc ?_ _)); exact BK132.out) hb)
     have n5_ := Aside0.mk (below_step (by repeat (first | (with_reducible first | exact HB.out | apply below_alloc | apply pw_below_drewN | apply below_drew1 | refine below_set ?_ GE127.out | refine below_set ?_ GE128.out | refine below_set ?_ GE129.out | refine below_set ?_ GE131.out | refine below_set ?_ GE132.out) | exact HB.out)) hb)
     clear BK127
     clear BK128
     clear BK129
     clear BK131
     clear BK132
     clear HB
     have BK127 := n0_
     have BK128 := n1_
     have BK129 := n2_
     have BK131 := n3_
     have BK132 := n4_
     have HB := n5_
     clear n0_ n1_ n2_ n3_ n4_ n5_
     (try clear hb)
     (try clear hb2)
     (try clear hk)
     (try clear hi)
     refine hK.out _ _ (BK127.out) (fun hHeld => ?_)
     clear hK K
     refine norm_ (a' := ?_) ?_ ?_
     rotate_left
     ·show Act.put _ (some 11) _ = _
      simp only [Act.put, List.setIfInBounds_toArray, List.set_cons_zero, List.set_cons_succ, i64_w, i32_w]
      rfl
     exact norm_ (by first | (simp only [putAll, Act.put, List.setIfInBounds_toArray, List.set_cons_zero, List.set_cons_succ]; done) | (simp only [putAll, Act.put, List.setIfInBounds_toArray, List.set_cons_zero, List.set_cons_succ]; rfl)) (hJ1_2_3 (gb131, gb132) _ ⟨hHeld, (by (with_reducible repeat (first | refine blk_drewN ?_ _ | refine blk_drew ?_ | refine blk_alloc ?_ _)); exact BK127.out), (by (with_reducible repeat (first | refine blk_drewN ?_ _ | refine blk_drew ?_ | refine blk_alloc ?_ _)); exact BK128.out), (by (with_reducible repeat (first | refine blk_drewN ?_ _ | refine blk_drew ?_ | refine blk_alloc ?_ _)); exact BK129.out), (by (with_reducible repeat (first | refine blk_drewN ?_ _ | refine blk_drew ?_ | refine blk_alloc ?_ _)); exact BK131.out), (by (with_reducible repeat (first | refine blk_drewN ?_ _ | refine blk_drew ?_ | refine blk_alloc ?_ _)); exact BK132.out), GW131.out, GE131.out, NB127_131.out, NB131_127.out, NB128_131.out, NB131_128.out, NB129_131.out, NB131_129.out, NB132_131.out, NB131_132.out, GW132.out, GE132.out, NB127_132.out, NB132_127.out, NB128_132.out, NB132_128.out, NB129_132.out, NB132_129.out, (by repeat (first | (with_reducible first | exact HB.out | apply below_alloc | apply pw_below_drewN | apply below_drew1 | refine below_set ?_ GE127.out | refine below_set ?_ GE128.out | refine below_set ?_ GE129.out | refine below_set ?_ GE131.out | refine below_set ?_ GE132.out) | exact HB.out))⟩)
   ·skip
    rintro gb132 w11 ⟨hS_, h0_, h1_, h2_, h3_, h4_, h5_, h6_, h7_, h8_, h9_, h10_, h11_, h12_⟩
    have n0_ : Aside0 (w11.heap[gb127]? = some (.cells (Ar.cells .u32 8 a0) 60 (0, 0))) := ⟨h0_⟩
    have n1_ : Aside0 (w11.heap[gb128]? = some (.cells (Ar.cells .u8 64 a1) 39 (0, 0))) := ⟨h1_⟩
    have n2_ : Aside0 (w11.heap[gb129]? = some (.cells (Ar.cells .u32 8 (List.replicate 8 0)) 60 (0, 0))) := ⟨h2_⟩
    have n3_ : Aside0 (w11.heap[gb132]? = some (.cells (Ar.cells .u32 64 (List.replicate 64 0)) 41 (0, 0))) := ⟨h3_⟩
    have n4_ : Aside0 (w.heap.size ≤ gb132) := ⟨h4_⟩
    have n5_ : Aside0 (w.heap.size ≤ gb132) := ⟨h5_⟩
    have n6_ : Aside0 (gb127 ≠ gb132) := ⟨h6_⟩
    have n7_ : Aside0 (gb132 ≠ gb127) := ⟨h7_⟩
    have n8_ : Aside0 (gb128 ≠ gb132) := ⟨h8_⟩
    have n9_ : Aside0 (gb132 ≠ gb128) := ⟨h9_⟩
    have n10_ : Aside0 (gb129 ≠ gb132) := ⟨h10_⟩
    have n11_ : Aside0 (gb132 ≠ gb129) := ⟨h11_⟩
    have n12_ : Aside0 (Below w.heap.size w w11) := ⟨h12_⟩
    clear BK127
    clear BK128
    clear BK129
    clear HB
    clear h0_ h1_ h2_ h3_ h4_ h5_ h6_ h7_ h8_ h9_ h10_ h11_ h12_
    have BK127 := n0_
    have BK128 := n1_
    have BK129 := n2_
    have BK132 := n3_
    have GW132 := n4_
    have GE132 := n5_
    have NB127_132 := n6_
    have NB132_127 := n7_
    have NB128_132 := n8_
    have NB132_128 := n9_
    have NB129_132 := n10_
    have NB132_129 := n11_
    have HB := n12_
    clear n0_ n1_ n2_ n3_ n4_ n5_ n6_ n7_ n8_ n9_ n10_ n11_ n12_
    have hHeld : w11.heap[gb127]? = some (.cells (Ar.cells .u32 8 a0) 60 (0, 0)) := hS_
    refine norm_ (a' := ?_) ?_ ?_
    rotate_left
    ·simp only [putAll, Act.put, List.setIfInBounds_toArray, List.set_cons_zero, List.set_cons_succ]
     rfl
    refine one_ (i := 2) (N := some 5) #[true, true, true, true, false, false] rfl rfl (by kernel_rfl) (by decide) (fun K hK => ?_)
    refine box_step ?hg (N := 5) ?hd (cs := (Ar.cells .u32 8 (List.replicate 8 0))) (t := 60) ?hr ?_; (case hd => rfl); (case hg => rfl); (case hr => first | exact Ar.box_run rfl rfl | exact Ar.alloc_run rfl (by kernel_rfl) | (go_simp; done) | (go_simp; rfl))
    intro gb131 hg w12 hbox hb
    have n0_ := Aside0.mk (blk_below (g := gb127) (o := .cells (Ar.cells .u32 8 a0) 60 (0, 0)) (by (with_reducible repeat (first | refine blk_drewN ?_ _ | refine blk_drew ?_ | refine blk_alloc ?_ _)); exact BK127.out) hb)
    have n1_ := Aside0.mk (blk_below (g := gb128) (o := .cells (Ar.cells .u8 64 a1) 39 (0, 0)) (by (with_reducible repeat (first | refine blk_drewN ?_ _ | refine blk_drew ?_ | refine blk_alloc ?_ _)); exact BK128.out) hb)
    have n2_ := Aside0.mk (blk_below (g := gb129) (o := .cells (Ar.cells .u32 8 (List.replicate 8 0)) 60 (0, 0)) (by (with_reducible repeat (first | refine blk_drewN ?_ _ | refine blk_drew ?_ | refine blk_alloc ?_ _)); exact BK129.out) hb)
    have n3_ := Aside0.mk (blk_below (g := gb132) (o := .cells (Ar.cells .u32 64 (List.replicate 64 0)) 41 (0, 0)) (by (with_reducible repeat (first | refine blk_drewN ?_ _ | refine blk_drew ?_ | refine blk_alloc ?_ _)); exact BK132.out) hb)
    have n4_ := Aside0.mk (below_step (by repeat (first | (with_reducible first | exact HB.out | apply below_alloc | apply pw_below_drewN | apply below_drew1 | refine below_set ?_ GE127.out | refine below_set ?_ GE128.out | refine below_set ?_ GE129.out | refine below_set ?_ GE132.out) | exact HB.out)) hb)
    have n5_ := Aside0.mk (hbox)
    have n6_ := Aside0.mk ((by rw [hg]; exact (below_size (by repeat (first | (with_reducible first | exact HB.out | apply below_alloc | apply pw_below_drewN | apply below_drew1 | refine below_set ?_ GE127.out | refine below_set ?_ GE128.out | refine below_set ?_ GE129.out | refine below_set ?_ GE132.out) | exact HB.out))) : w.heap.size ≤ gb131))
    have n7_ := Aside0.mk ((by rw [hg]; exact (below_size (by repeat (first | (with_reducible first | exact HB.out | apply below_alloc | apply pw_below_drewN | apply below_drew1 | refine below_set ?_ GE127.out | refine below_set ?_ GE128.out | refine below_set ?_ GE129.out | refine below_set ?_ GE132.out) | exact HB.out))) : w.heap.size ≤ gb131))
    have n8_ := Aside0.mk ((by rw [hg]; exact Nat.ne_of_lt (blk_lt (g := gb127) (o := .cells (Ar.cells .u32 8 a0) 60 (0, 0)) (by (with_reducible repeat (first | refine blk_drewN ?_ _ | refine blk_drew ?_ | refine blk_alloc ?_ _)); exact BK127.out)) : gb127 ≠ gb131))
    have n9_ := Aside0.mk ((by rw [hg]; exact Nat.ne_of_gt (blk_lt (g := gb127) (o := .cells (Ar.cells .u32 8 a0) 60 (0, 0)) (by (with_reducible repeat (first | refine blk_drewN ?_ _ | refine blk_drew ?_ | refine blk_alloc ?_ _)); exact BK127.out)) : gb131 ≠ gb127))
    have n10_ := Aside0.mk ((by rw [hg]; exact Nat.ne_of_lt (blk_lt (g := gb128) (o := .cells (Ar.cells .u8 64 a1) 39 (0, 0)) (by (with_reducible repeat (first | refine blk_drewN ?_ _ | refine blk_drew ?_ | refine blk_alloc ?_ _)); exact BK128.out)) : gb128 ≠ gb131))
    have n11_ := Aside0.mk ((by rw [hg]; exact Nat.ne_of_gt (blk_lt (g := gb128) (o := .cells (Ar.cells .u8 64 a1) 39 (0, 0)) (by (with_reducible repeat (first | refine blk_drewN ?_ _ | refine blk_drew ?_ | refine blk_alloc ?_ _)); exact BK128.out)) : gb131 ≠ gb128))
    have n12_ := Aside0.mk ((by rw [hg]; exact Nat.ne_of_lt (blk_lt (g := gb129) (o := .cells (Ar.cells .u32 8 (List.replicate 8 0)) 60 (0, 0)) (by (with_reducible repeat (first | refine blk_drewN ?_ _ | refine blk_drew ?_ | refine blk_alloc ?_ _)); exact BK129.out)) : gb129 ≠ gb131))
    have n13_ := Aside0.mk ((by rw [hg]; exact Nat.ne_of_gt (blk_lt (g := gb129) (o := .cells (Ar.cells .u32 8 (List.replicate 8 0)) 60 (0, 0)) (by (with_reducible repeat (first | refine blk_drewN ?_ _ | refine blk_drew ?_ | refine blk_alloc ?_ _)); exact BK129.out)) : gb131 ≠ gb129))
    have n14_ := Aside0.mk ((by rw [hg]; exact Nat.ne_of_lt (blk_lt (g := gb132) (o := .cells (Ar.cells .u32 64 (List.replicate 64 0)) 41 (0, 0)) (by (with_reducible repeat (first | refine blk_drewN ?_ _ | refine blk_drew ?_ | refine blk_alloc ?_ _)); exact BK132.out)) : gb132 ≠ gb131))
    have n15_ := Aside0.mk ((by rw [hg]; exact Nat.ne_of_gt (blk_lt (g := gb132) (o := .cells (Ar.cells .u32 64 (List.replicate 64 0)) 41 (0, 0)) (by (with_reducible repeat (first | refine blk_drewN ?_ _ | refine blk_drew ?_ | refine blk_alloc ?_ _)); exact BK132.out)) : gb131 ≠ gb132))
    clear BK127
    clear BK128
    clear BK129
    clear BK132
    clear HB
    have BK127 := n0_
    have BK128 := n1_
    have BK129 := n2_
    have BK132 := n3_
    have HB := n4_
    have BK131 := n5_
    have GW131 := n6_
    have GE131 := n7_
    have NB127_131 := n8_
    have NB131_127 := n9_
    have NB128_131 := n10_
    have NB131_128 := n11_
    have NB129_131 := n12_
    have NB131_129 := n13_
    have NB132_131 := n14_
    have NB131_132 := n15_
    clear n0_ n1_ n2_ n3_ n4_ n5_ n6_ n7_ n8_ n9_ n10_ n11_ n12_ n13_ n14_ n15_
    clear hb hbox hg
    refine hK.out _ _ (BK127.out) (fun hHeld => ?_)
    clear hK K
    refine norm_ (a' := ?_) ?_ ?_
    rotate_left
    ·show Act.put _ (some 5) _ = _
     simp only [Act.put, List.setIfInBounds_toArray, List.set_cons_zero, List.set_cons_succ, i64_w, i32_w]
     rfl
    exact norm_ (by first | (simp only [putAll, Act.put, List.setIfInBounds_toArray, List.set_cons_zero, List.set_cons_succ]; done) | (simp only [putAll, Act.put, List.setIfInBounds_toArray, List.set_cons_zero, List.set_cons_succ]; rfl)) (hJ1_2_3 (gb131, gb132) _ ⟨hHeld, (by (with_reducible repeat (first | refine blk_drewN ?_ _ | refine blk_drew ?_ | refine blk_alloc ?_ _)); exact BK127.out), (by (with_reducible repeat (first | refine blk_drewN ?_ _ | refine blk_drew ?_ | refine blk_alloc ?_ _)); exact BK128.out), (by (with_reducible repeat (first | refine blk_drewN ?_ _ | refine blk_drew ?_ | refine blk_alloc ?_ _)); exact BK129.out), (by (with_reducible repeat (first | refine blk_drewN ?_ _ | refine blk_drew ?_ | refine blk_alloc ?_ _)); exact BK131.out), (by (with_reducible repeat (first | refine blk_drewN ?_ _ | refine blk_drew ?_ | refine blk_alloc ?_ _)); exact BK132.out), GW131.out, GE131.out, NB127_131.out, NB131_127.out, NB128_131.out, NB131_128.out, NB129_131.out, NB131_129.out, NB132_131.out, NB131_132.out, GW132.out, GE132.out, NB127_132.out, NB132_127.out, NB128_132.out, NB132_128.out, NB129_132.out, NB132_129.out, (by repeat (first | (with_reducible first | exact HB.out | apply below_alloc | apply pw_below_drewN | apply below_drew1 | refine below_set ?_ GE127.out | refine below_set ?_ GE128.out | refine below_set ?_ GE129.out | refine below_set ?_ GE132.out | refine below_set ?_ GE131.out) | exact HB.out))⟩)
  ·skip
   rintro gb131 w11 ⟨hS_, h0_, h1_, h2_, h3_, h4_, h5_, h6_, h7_, h8_, h9_, h10_, h11_, h12_⟩
   have n0_ : Aside0 (w11.heap[gb127]? = some (.cells (Ar.cells .u32 8 a0) 60 (0, 0))) := ⟨h0_⟩
   have n1_ : Aside0 (w11.heap[gb128]? = some (.cells (Ar.cells .u8 64 a1) 39 (0, 0))) := ⟨h1_⟩
   have n2_ : Aside0 (w11.heap[gb129]? = some (.cells (Ar.cells .u32 8 (List.replicate 8 0)) 60 (0, 0))) := ⟨h2_⟩
   have n3_ : Aside0 (w11.heap[gb131]? = some (.cells (Ar.cells .u32 8 (List.replicate 8 0)) 60 (0, 0))) := ⟨h3_⟩
   have n4_ : Aside0 (w.heap.size ≤ gb131) := ⟨h4_⟩
   have n5_ : Aside0 (w.heap.size ≤ gb131) := ⟨h5_⟩
   have n6_ : Aside0 (gb127 ≠ gb131) := ⟨h6_⟩
   have n7_ : Aside0 (gb131 ≠ gb127) := ⟨h7_⟩
   have n8_ : Aside0 (gb128 ≠ gb131) := ⟨h8_⟩
   have n9_ : Aside0 (gb131 ≠ gb128) := ⟨h9_⟩
   have n10_ : Aside0 (gb129 ≠ gb131) := ⟨h10_⟩
   have n11_ : Aside0 (gb131 ≠ gb129) := ⟨h11_⟩
   have n12_ : Aside0 (Below w.heap.size w w11) := ⟨h12_⟩
   clear BK127
   clear BK128
   clear BK129
   clear HB
   clear h0_ h1_ h2_ h3_ h4_ h5_ h6_ h7_ h8_ h9_ h10_ h11_ h12_
   have BK127 := n0_
   have BK128 := n1_
   have BK129 := n2_
   have BK131 := n3_
   have GW131 := n4_
   have GE131 := n5_
   have NB127_131 := n6_
   have NB131_127 := n7_
   have NB128_131 := n8_
   have NB131_128 := n9_
   have NB129_131 := n10_
   have NB131_129 := n11_
   have HB := n12_
   clear n0_ n1_ n2_ n3_ n4_ n5_ n6_ n7_ n8_ n9_ n10_ n11_ n12_
   have hHeld : w11.heap[gb127]? = some (.cells (Ar.cells .u32 8 a0) 60 (0, 0)) := hS_
   refine norm_ (a' := ?_) ?_ ?_
   rotate_left
   ·simp only [putAll, Act.put, List.setIfInBounds_toArray, List.set_cons_zero, List.set_cons_succ]
    rfl
   refine one_ (i := 3) (N := some 6) #[true, true, true, true, false, false] rfl rfl (by kernel_rfl) (by decide) (fun K hK => ?_)
   refine box_step ?hg (N := 6) ?hd (cs := (Ar.cells .u32 64 (List.replicate 64 0))) (t := 41) ?hr ?_; (case hd => rfl); (case hg => rfl); (case hr => first | exact Ar.box_run rfl rfl | exact Ar.alloc_run rfl (by kernel_rfl) | (go_simp; done) | (go_simp; rfl))
   intro gb132 hg w12 hbox hb
   have n0_ := Aside0.mk (blk_below (g := gb127) (o := .cells (Ar.cells .u32 8 a0) 60 (0, 0)) (by (with_reducible repeat (first | refine blk_drewN ?_ _ | refine blk_drew ?_ | refine blk_alloc ?_ _)); exact BK127.out) hb)
   have n1_ := Aside0.mk (blk_below (g := gb128) (o := .cells (Ar.cells .u8 64 a1) 39 (0, 0)) (by (with_reducible repeat (first | refine blk_drewN ?_ _ | refine blk_drew ?_ | refine blk_alloc ?_ _)); exact BK128.out) hb)
   have n2_ := Aside0.mk (blk_below (g := gb129) (o := .cells (Ar.cells .u32 8 (List.replicate 8 0)) 60 (0, 0)) (by (with_reducible repeat (first | refine blk_drewN ?_ _ | refine blk_drew ?_ | refine blk_alloc ?_ _)); exact BK129.out) hb)
   have n3_ := Aside0.mk (blk_below (g := gb131) (o := .cells (Ar.cells .u32 8 (List.replicate 8 0)) 60 (0, 0)) (by (with_reducible repeat (first | refine blk_drewN ?_ _ | refine blk_drew ?_ | refine blk_alloc ?_ _)); exact BK131.out) hb)
   have n4_ := Aside0.mk (below_step (by repeat (first | (with_reducible first | exact HB.out | apply below_alloc | apply pw_below_drewN | apply below_drew1 | refine below_set ?_ GE127.out | refine below_set ?_ GE128.out | refine below_set ?_ GE129.out | refine below_set ?_ GE131.out) | exact HB.out)) hb)
   have n5_ := Aside0.mk (hbox)
   have n6_ := Aside0.mk ((by rw [hg]; exact (below_size (by repeat (first | (with_reducible first | exact HB.out | apply below_alloc | apply pw_below_drewN | apply below_drew1 | refine below_set ?_ GE127.out | refine below_set ?_ GE128.out | refine below_set ?_ GE129.out | refine below_set ?_ GE131.out) | exact HB.out))) : w.heap.size ≤ gb132))
   have n7_ := Aside0.mk ((by rw [hg]; exact (below_size (by repeat (first | (with_reducible first | exact HB.out | apply below_alloc | apply pw_below_drewN | apply below_drew1 | refine below_set ?_ GE127.out | refine below_set ?_ GE128.out | refine below_set ?_ GE129.out | refine below_set ?_ GE131.out) | exact HB.out))) : w.heap.size ≤ gb132))
   have n8_ := Aside0.mk ((by rw [hg]; exact Nat.ne_of_lt (blk_lt (g := gb127) (o := .cells (Ar.cells .u32 8 a0) 60 (0, 0)) (by (with_reducible repeat (first | refine blk_drewN ?_ _ | refine blk_drew ?_ | refine blk_alloc ?_ _)); exact BK127.out)) : gb127 ≠ gb132))
   have n9_ := Aside0.mk ((by rw [hg]; exact Nat.ne_of_gt (blk_lt (g := gb127) (o := .cells (Ar.cells .u32 8 a0) 60 (0, 0)) (by (with_reducible repeat (first | refine blk_drewN ?_ _ | refine blk_drew ?_ | refine blk_alloc ?_ _)); exact BK127.out)) : gb132 ≠ gb127))
   have n10_ := Aside0.mk ((by rw [hg]; exact Nat.ne_of_lt (blk_lt (g := gb128) (o := .cells (Ar.cells .u8 64 a1) 39 (0, 0)) (by (with_reducible repeat (first | refine blk_drewN ?_ _ | refine blk_drew ?_ | refine blk_alloc ?_ _)); exact BK128.out)) : gb128 ≠ gb132))
   have n11_ := Aside0.mk ((by rw [hg]; exact Nat.ne_of_gt (blk_lt (g := gb128) (o := .cells (Ar.cells .u8 64 a1) 39 (0, 0)) (by (with_reducible repeat (first | refine blk_drewN ?_ _ | refine blk_drew ?_ | refine blk_alloc ?_ _)); exact BK128.out)) : gb132 ≠ gb128))
   have n12_ := Aside0.mk ((by rw [hg]; exact Nat.ne_of_lt (blk_lt (g := gb129) (o := .cells (Ar.cells .u32 8 (List.replicate 8 0)) 60 (0, 0)) (by (with_reducible repeat (first | refine blk_drewN ?_ _ | refine blk_drew ?_ | refine blk_alloc ?_ _)); exact BK129.out)) : gb129 ≠ gb132))
   have n13_ := Aside0.mk ((by rw [hg]; exact Nat.ne_of_gt (blk_lt (g := gb129) (o := .cells (Ar.cells .u32 8 (List.replicate 8 0)) 60 (0, 0)) (by (with_reducible repeat (first | refine blk_drewN ?_ _ | refine blk_drew ?_ | refine blk_alloc ?_ _)); exact BK129.out)) : gb132 ≠ gb129))
   have n14_ := Aside0.mk ((by rw [hg]; exact Nat.ne_of_lt (blk_lt (g := gb131) (o := .cells (Ar.cells .u32 8 (List.replicate 8 0)) 60 (0, 0)) (by (with_reducible repeat (first | refine blk_drewN ?_ _ | refine blk_drew ?_ | refine blk_alloc ?_ _)); exact BK131.out)) : gb131 ≠ gb132))
   have n15_ := Aside0.mk ((by rw [hg]; exact Nat.ne_of_gt (blk_lt (g := gb131) (o := .cells (Ar.cells .u32 8 (List.replicate 8 0)) 60 (0, 0)) (by (with_reducible repeat (first | refine blk_drewN ?_ _ | refine blk_drew ?_ | refine blk_alloc ?_ _)); exact BK131.out)) : gb132 ≠ gb131))
   clear BK127
   clear BK128
   clear BK129
   clear BK131
   clear HB
   have BK127 := n0_
   have BK128 := n1_
   have BK129 := n2_
   have BK131 := n3_
   have HB := n4_
   have BK132 := n5_
   have GW132 := n6_
   have GE132 := n7_
   have NB127_132 := n8_
   have NB132_127 := n9_
   have NB128_132 := n10_
   have NB132_128 := n11_
   have NB129_132 := n12_
   have NB132_129 := n13_
   have NB131_132 := n14_
   have NB132_131 := n15_
   clear n0_ n1_ n2_ n3_ n4_ n5_ n6_ n7_ n8_ n9_ n10_ n11_ n12_ n13_ n14_ n15_
   clear hb hbox hg
   refine hK.out _ _ (BK127.out) (fun hHeld => ?_)
   clear hK K
   refine norm_ (a' := ?_) ?_ ?_
   rotate_left
   ·show Act.put _ (some 6) _ = _
    simp only [Act.put, List.setIfInBounds_toArray, List.set_cons_zero, List.set_cons_succ, i64_w, i32_w]
    rfl
   exact norm_ (by first | (simp only [putAll, Act.put, List.setIfInBounds_toArray, List.set_cons_zero, List.set_cons_succ]; done) | (simp only [putAll, Act.put, List.setIfInBounds_toArray, List.set_cons_zero, List.set_cons_succ]; rfl)) (hJ1_2_3 (gb131, gb132) _ ⟨hHeld, (by (with_reducible repeat (first | refine blk_drewN ?_ _ | refine blk_drew ?_ | refine blk_alloc ?_ _)); exact BK127.out), (by (with_reducible repeat (first | refine blk_drewN ?_ _ | refine blk_drew ?_ | refine blk_alloc ?_ _)); exact BK128.out), (by (with_reducible repeat (first | refine blk_drewN ?_ _ | refine blk_drew ?_ | refine blk_alloc ?_ _)); exact BK129.out), (by (with_reducible repeat (first | refine blk_drewN ?_ _ | refine blk_drew ?_ | refine blk_alloc ?_ _)); exact BK131.out), (by (with_reducible repeat (first | refine blk_drewN ?_ _ | refine blk_drew ?_ | refine blk_alloc ?_ _)); exact BK132.out), GW131.out, GE131.out, NB127_131.out, NB131_127.out, NB128_131.out, NB131_128.out, NB129_131.out, NB131_129.out, NB132_131.out, NB131_132.out, GW132.out, GE132.out, NB127_132.out, NB132_127.out, NB128_132.out, NB132_128.out, NB129_132.out, NB132_129.out, (by repeat (first | (with_reducible first | exact HB.out | apply below_alloc | apply pw_below_drewN | apply below_drew1 | refine below_set ?_ GE127.out | refine below_set ?_ GE128.out | refine below_set ?_ GE129.out | refine below_set ?_ GE131.out | refine below_set ?_ GE132.out) | exact HB.out))⟩)
 rintro ⟨gb131, gb132⟩ w12 ⟨hS_, h0_, h1_, h2_, h3_, h4_, h5_, h6_, h7_, h8_, h9_, h10_, h11_, h12_, h13_, h14_, h15_, h16_, h17_, h18_, h19_, h20_, h21_, h22_, h23_⟩
 have n0_ : Aside0 (w12.heap[gb127]? = some (.cells (Ar.cells .u32 8 a0) 60 (0, 0))) := ⟨h0_⟩
 have n1_ : Aside0 (w12.heap[gb128]? = some (.cells (Ar.cells .u8 64 a1) 39 (0, 0))) := ⟨h1_⟩
 have n2_ : Aside0 (w12.heap[gb129]? = some (.cells (Ar.cells .u32 8 (List.replicate 8 0)) 60 (0, 0))) := ⟨h2_⟩
 have n3_ : Aside0 (w12.heap[gb131]? = some (.cells (Ar.cells .u32 8 (List.replicate 8 0)) 60 (0, 0))) := ⟨h3_⟩
 have n4_ : Aside0 (w12.heap[gb132]? = some (.cells (Ar.cells .u32 64 (List.replicate 64 0)) 41 (0, 0))) := ⟨h4_⟩
 have n5_ : Aside0 (w.heap.size ≤ gb131) := ⟨h5_⟩
 have n6_ : Aside0 (w.heap.size ≤ gb131) := ⟨h6_⟩
 have n7_ : Aside0 (gb127 ≠ gb131) := ⟨h7_⟩
 have n8_ : Aside0 (gb131 ≠ gb127) := ⟨h8_⟩
 have n9_ : Aside0 (gb128 ≠ gb131) := ⟨h9_⟩
 have n10_ : Aside0 (gb131 ≠ gb128) := ⟨h10_⟩
 have n11_ : Aside0 (gb129 ≠ gb131) := ⟨h11_⟩
 have n12_ : Aside0 (gb131 ≠ gb129) := ⟨h12_⟩
 have n13_ : Aside0 (gb132 ≠ gb131) := ⟨h13_⟩
 have n14_ : Aside0 (gb131 ≠ gb132) := ⟨h14_⟩
 have n15_ : Aside0 (w.heap.size ≤ gb132) := ⟨h15_⟩
 have n16_ : Aside0 (w.heap.size ≤ gb132) := ⟨h16_⟩
 have n17_ : Aside0 (gb127 ≠ gb132) := ⟨h17_⟩
 have n18_ : Aside0 (gb132 ≠ gb127) := ⟨h18_⟩
 have n19_ : Aside0 (gb128 ≠ gb132) := ⟨h19_⟩
 have n20_ : Aside0 (gb132 ≠ gb128) := ⟨h20_⟩
 have n21_ : Aside0 (gb129 ≠ gb132) := ⟨h21_⟩
 have n22_ : Aside0 (gb132 ≠ gb129) := ⟨h22_⟩
 have n23_ : Aside0 (Below w.heap.size w w12) := ⟨h23_⟩
 clear BK127
 clear BK128
 clear BK129
 clear HB
 clear h0_ h1_ h2_ h3_ h4_ h5_ h6_ h7_ h8_ h9_ h10_ h11_ h12_ h13_ h14_ h15_ h16_ h17_ h18_ h19_ h20_ h21_ h22_ h23_
 have BK127 := n0_
 have BK128 := n1_
 have BK129 := n2_
 have BK131 := n3_
 have BK132 := n4_
 have GW131 := n5_
 have GE131 := n6_
 have NB127_131 := n7_
 have NB131_127 := n8_
 have NB128_131 := n9_
 have NB131_128 := n10_
 have NB129_131 := n11_
 have NB131_129 := n12_
 have NB132_131 := n13_
 have NB131_132 := n14_
 have GW132 := n15_
 have GE132 := n16_
 have NB127_132 := n17_
 have NB132_127 := n18_
 have NB128_132 := n19_
 have NB132_128 := n20_
 have NB129_132 := n21_
 have NB132_129 := n22_
 have HB := n23_
 clear n0_ n1_ n2_ n3_ n4_ n5_ n6_ n7_ n8_ n9_ n10_ n11_ n12_ n13_ n14_ n15_ n16_ n17_ n18_ n19_ n20_ n21_ n22_ n23_
 have hHeld : w12.heap[gb127]? = some (.cells (Ar.cells .u32 8 a0) 60 (0, 0)) := hS_
 refine norm_ (a' := ?_) ?_ ?_
 rotate_left
 ·simp only [putAll, Act.put, List.setIfInBounds_toArray, List.set_cons_zero, List.set_cons_succ]
  rfl
 refine one_ (i := 4) (N := none) #[true, true, true, true, true, false] rfl rfl (by kernel_rfl) (by decide) (fun K hK => ?_)
 refine Ar.store_all_step (by rfl) rfl rfl Try.underlying60 (by kernel_rfl) (g := gb131) rfl (z := a0) (by first | rfl | (go_simp; done) | (go_simp; rfl)) (by (with_reducible repeat (first | refine blk_drewN ?_ _ | refine blk_drew ?_ | refine blk_alloc ?_ _)); exact BK131.out) ?_; intro w13 hbk_ hg
 have n0_ := Aside0.mk (blk_grown (g := gb127) (o := .cells (Ar.cells .u32 8 a0) 60 (0, 0)) (by (with_reducible repeat (first | refine blk_drewN ?_ _ | refine blk_drew ?_ | refine blk_alloc ?_ _)); exact BK127.out) hg (fun e_ => NB127_131.out (Option.some.inj e_)))
 have n1_ := Aside0.mk (blk_grown (g := gb128) (o := .cells (Ar.cells .u8 64 a1) 39 (0, 0)) (by (with_reducible repeat (first | refine blk_drewN ?_ _ | refine blk_drew ?_ | refine blk_alloc ?_ _)); exact BK128.out) hg (fun e_ => NB128_131.out (Option.some.inj e_)))
 have n2_ := Aside0.mk (blk_grown (g := gb129) (o := .cells (Ar.cells .u32 8 (List.replicate 8 0)) 60 (0, 0)) (by (with_reducible repeat (first | refine blk_drewN ?_ _ | refine blk_drew ?_ | refine blk_alloc ?_ _)); exact BK129.out) hg (fun e_ => NB129_131.out (Option.some.inj e_)))
 have n3_ := Aside0.mk (blk_grown (g := gb132) (o := .cells (Ar.cells .u32 64 (List.replicate 64 0)) 41 (0, 0)) (by (with_reducible repeat (first | refine blk_drewN ?_ _ | refine blk_drew ?_ | refine blk_alloc ?_ _)); exact BK132.out) hg (fun e_ => NB132_131.out (Option.some.inj e_)))
 have n4_ := Aside0.mk (hbk_)
 have n5_ := Aside0.mk (Below.grown (by repeat (first | (with_reducible first | exact HB.out | apply below_alloc | apply pw_below_drewN | apply below_drew1 | refine below_set ?_ GE127.out | refine below_set ?_ GE128.out | refine below_set ?_ GE129.out | refine below_set ?_ GE131.out | refine below_set ?_ GE132.out) | exact HB.out)) hg ((below_size (by repeat (first | (with_reducible first | exact HB.out | apply below_alloc | apply pw_below_drewN | apply below_drew1 | refine below_set ?_ GE127.out | refine below_set ?_ GE128.out | refine below_set ?_ GE129.out | refine below_set ?_ GE131.out | refine below_set ?_ GE132.out) | exact HB.out)))) (fun _ e_ => by cases e_; exact GE131.out))
 clear BK127
 clear BK128
 clear BK129
 clear BK132
 clear BK131
 clear HB
 have BK127 := n0_
 have BK128 := n1_
 have BK129 := n2_
 have BK132 := n3_
 have BK131 := n4_
 have HB := n5_
 clear n0_ n1_ n2_ n3_ n4_ n5_
 clear hbk_ hg
 refine hK.out _ _ (BK127.out) (fun hHeld => ?_)
 clear hK K
 refine one_ (i := 5) (N := none) #[true, true, true, true, true, true] rfl rfl (by kernel_rfl) (by decide) (fun K hK => ?_)
 refine Ar.store_all_step (by rfl) rfl rfl Try.underlying41 (by kernel_rfl) (g := gb132) rfl (z := t130) (by first | rfl | (go_simp; done) | (go_simp; rfl)) (by (with_reducible repeat (first | refine blk_drewN ?_ _ | refine blk_drew ?_ | refine blk_alloc ?_ _)); exact BK132.out) ?_; intro w14 hbk_ hg
 have n0_ := Aside0.mk (blk_grown (g := gb127) (o := .cells (Ar.cells .u32 8 a0) 60 (0, 0)) (by (with_reducible repeat (first | refine blk_drewN ?_ _ | refine blk_drew ?_ | refine blk_alloc ?_ _)); exact BK127.out) hg (fun e_ => NB127_132.out (Option.some.inj e_)))
 have n1_ := Aside0.mk (blk_grown (g := gb128) (o := .cells (Ar.cells .u8 64 a1) 39 (0, 0)) (by (with_reducible repeat (first | refine blk_drewN ?_ _ | refine blk_drew ?_ | refine blk_alloc ?_ _)); exact BK128.out) hg (fun e_ => NB128_132.out (Option.some.inj e_)))
 have n2_ := Aside0.mk (blk_grown (g := gb129) (o := .cells (Ar.cells .u32 8 (List.replicate 8 0)) 60 (0, 0)) (by (with_reducible repeat (first | refine blk_drewN ?_ _ | refine blk_drew ?_ | refine blk_alloc ?_ _)); exact BK129.out) hg (fun e_ => NB129_132.out (Option.some.inj e_)))
 have n3_ := Aside0.mk (blk_grown (g := gb131) (o := .cells (Ar.cells .u32 8 a0) 60 (0, 0)) (by (with_reducible repeat (first | refine blk_drewN ?_ _ | refine blk_drew ?_ | refine blk_alloc ?_ _)); exact BK131.out) hg (fun e_ => NB131_132.out (Option.some.inj e_)))
 have n4_ := Aside0.mk (hbk_)
 have n5_ := Aside0.mk (Below.grown (by repeat (first | (with_reducible first | exact HB.out | apply below_alloc | apply pw_below_drewN | apply below_drew1 | refine below_set ?_ GE127.out | refine below_set ?_ GE128.out | refine below_set ?_ GE129.out | refine below_set ?_ GE131.out | refine below_set ?_ GE132.out) | exact HB.out)) hg ((below_size (by repeat (first | (with_reducible first | exact HB.out | apply below_alloc | apply pw_below_drewN | apply below_drew1 | refine below_set ?_ GE127.out | refine below_set ?_ GE128.out | refine below_set ?_ GE129.out | refine below_set ?_ GE131.out | refine below_set ?_ GE132.out) | exact HB.out)))) (fun _ e_ => by cases e_; exact GE132.out))
 clear BK127
 clear BK128
 clear BK129
 clear BK131
 clear BK132
 clear HB
 have BK127 := n0_
 have BK128 := n1_
 have BK129 := n2_
 have BK131 := n3_
 have BK132 := n4_
 have HB := n5_
 clear n0_ n1_ n2_ n3_ n4_ n5_
 clear hbk_ hg
 refine hK.out _ _ (BK127.out) (fun hHeld => ?_)
 clear hK K
 refine done_ (by kernel_rfl) ?_
 try go_wp2_with (first | ((with_reducible refine gate_dst (N := 12) rfl ?_); (try (refine gate_guard (by rfl) ?_; dsimp only)); refine Ar.load_event rfl (D := 12) rfl (T := 39) rfl Try.underlying39 (by kernel_rfl) (g := gb128) rfl (by (with_reducible repeat (first | refine blk_drewN ?_ _ | refine blk_drew ?_ | refine blk_alloc ?_ _)); exact BK128.out) ?_) | ((with_reducible refine gate_callee (f := 39) rfl ?_); refine goesL_ (some 13) rfl rfl Try.func39 (by kernel_rfl) rfl #[.agg (Ar.cells .u8 64 a1)] rfl (by (try simp only [List.map_toArray, List.map_cons, List.map_nil]); first | done | rfl | (simp only [List.length_drop, List.length_take]; rfl)) ?_; (with_reducible refine (plan_Of.calls k a1 t133 _ A4.out).mono ?_); rintro e w15 ⟨rfl, hb⟩; refine ⟨_, rfl, ?_⟩; have n0_ := Aside0.mk (blk_below (g := gb127) (o := .cells (Ar.cells .u32 8 a0) 60 (0, 0)) (by (with_reducible repeat (first | refine blk_drewN ?_ _ | refine blk_drew ?_ | refine blk_alloc ?_ _)); exact BK127.out) hb); have n1_ := Aside0.mk (blk_below (g := gb128) (o := .cells (Ar.cells .u8 64 a1) 39 (0, 0)) (by (with_reducible repeat (first | refine blk_drewN ?_ _ | refine blk_drew ?_ | refine blk_alloc ?_ _)); exact BK128.out) hb); have n2_ := Aside0.mk (blk_below (g := gb129) (o := .cells (Ar.cells .u32 8 (List.replicate 8 0)) 60 (0, 0)) (by (with_reducible repeat (first | refine blk_drewN ?_ _ | refine blk_drew ?_ | refine blk_alloc ?_ _)); exact BK129.out) hb); have n3_ := Aside0.mk (blk_below (g := gb131) (o := .cells (Ar.cells .u32 8 a0) 60 (0, 0)) (by (with_reducible repeat (first | refine blk_drewN ?_ _ | refine blk_drew ?_ | refine blk_alloc ?_ _)); exact BK131.out) hb); have n4_ := Aside0.mk (blk_below (g := gb132) (o := .cells (Ar.cells .u32 64 t130) 41 (0, 0)) (by (with_reducible repeat (first | refine blk_drewN ?_ _ | refine blk_drew ?_ | refine blk_alloc ?_ _)); exact BK132.out) hb); have n5_ := Aside0.mk (below_step (by repeat (first | (with_reducible first | exact HB.out | apply below_alloc | apply pw_below_drewN | apply below_drew1 | refine below_set ?_ GE127.out | refine below_set ?_ GE128.out | refine below_set ?_ GE129.out | refine below_set ?_ GE131.out | refine below_set ?_ GE132.out) | exact HB.out)) hb); clear BK127; clear BK128; clear BK129; clear BK131; clear BK132; clear HB; have BK127 := n0_; have BK128 := n1_; have BK129 := n2_; have BK131 := n3_; have BK132 := n4_; have HB := n5_; clear n0_ n1_ n2_ n3_ n4_ n5_; (try clear hb); (try clear hb2); (try clear hk); (try clear hi)))
 go_loopg [14] k (fun kq v14 w' => ∃ (x14_1 : Int) (x132000_1 : List Int), v14 = .int .i64 x14_1 ∧ Aside0 (comp_Take.l0 kq t133 x14_1 a0 x132000_1 t130 = some r) ∧ Aside0 (kq ≤ k) ∧ Aside0 (w'.heap[gb127]? = some (.cells (Ar.cells .u32 8 a0) 60 (0, 0))) ∧ Aside0 (w'.heap[gb128]? = some (.cells (Ar.cells .u8 64 a1) 39 (0, 0))) ∧ Aside0 (w'.heap[gb129]? = some (.cells (Ar.cells .u32 8 (List.replicate 8 0)) 60 (0, 0))) ∧ Aside0 (w'.heap[gb131]? = some (.cells (Ar.cells .u32 8 x132000_1) 60 (0, 0))) ∧ Aside0 (w'.heap[gb132]? = some (.cells (Ar.cells .u32 64 t130) 41 (0, 0))) ∧ Aside0 (Below w.heap.size w w'))
 case atStart => exact ⟨(0), (a0), (by first | rfl | (simp; done) | (simp [*]; done)), H', ⟨Nat.le_refl _⟩, ⟨by (with_reducible repeat (first | refine blk_drewN ?_ _ | refine blk_drew ?_ | refine blk_alloc ?_ _)); exact BK127.out⟩, ⟨by (with_reducible repeat (first | refine blk_drewN ?_ _ | refine blk_drew ?_ | refine blk_alloc ?_ _)); exact BK128.out⟩, ⟨by (with_reducible repeat (first | refine blk_drewN ?_ _ | refine blk_drew ?_ | refine blk_alloc ?_ _)); exact BK129.out⟩, ⟨by (with_reducible repeat (first | refine blk_drewN ?_ _ | refine blk_drew ?_ | refine blk_alloc ?_ _)); exact BK131.out⟩, ⟨by (with_reducible repeat (first | refine blk_drewN ?_ _ | refine blk_drew ?_ | refine blk_alloc ?_ _)); exact BK132.out⟩, ⟨by repeat (first | (with_reducible first | exact HB.out | apply below_alloc | apply pw_below_drewN | apply below_drew1 | refine below_set ?_ GE127.out | refine below_set ?_ GE128.out | refine below_set ?_ GE129.out | refine below_set ?_ GE131.out | refine below_set ?_ GE132.out) | exact HB.out)⟩⟩
 case round =>
  clear H'
  try clear p2
  try clear c3
  try clear c6
  obtain ⟨x14_1, x132000_1, rfl, HA, HK1, BK127, BK128, BK129, BK131, BK132, HB⟩ := hrel
  cases gk with
  | zero => exact absurd HA.out (by simp [comp_Take.l0])
  | succ k1 =>
   have H := HA.out
   clear HA
   simp only [comp_Take.l0] at H
   by_cases c16 : x14_1 < 64
   ·rw [if_pos c16] at H
    have c16b0 : decide (x14_1 < 64) = true := decide_eq_true c16
    clear c16
    by_cases c17 : 0 ≤ x14_1
    ·rw [if_pos c17] at H
     have c17b0 : decide (0 ≤ x14_1) = true := decide_eq_true c17
     clear c17
     replace H := Option.bind_eq_some_iff.mp H
     obtain ⟨t134, A180, H⟩ := H
     replace H : (comp_Take.l0 k1 t133 (wrap64 (x14_1 + 1)) a0 t134 t130) = some r := H
     have A18 := Aside0.mk A180
     clear A180
     have H' := Aside0.mk H
     clear H
     try go_wp2_with (first | ((with_reducible refine gate_dst (N := 17) rfl ?_); (try (refine gate_guard (by rfl) ?_; dsimp only)); refine Ar.vidx_event rfl (D := 17) rfl (T := 42) rfl Try.underlying42 (by kernel_rfl) Try.underlying22 (k := .u32) (n := 64) (l := t133) (by first | rfl | (go_simp; done) | (go_simp; rfl)) (j := x14_1) (by first | rfl | (go_simp; done) | (go_simp; rfl)) (of_decide_eq_true (by first | (with_reducible assumption) | assumption)) (of_decide_eq_true (by first | (with_reducible assumption) | assumption)) ?_))
     have n0_ := Aside0.mk (blk_drew BK127.out)
     have n1_ := Aside0.mk (blk_drew BK128.out)
     have n2_ := Aside0.mk (blk_drew BK129.out)
     have n3_ := Aside0.mk (blk_drew BK131.out)
     have n4_ := Aside0.mk (blk_drew BK132.out)
     have n5_ := Aside0.mk (below_drew1 HB.out)
     clear BK127
     clear BK128
     clear BK129
     clear BK131
     clear BK132
     clear HB
     have BK127 := n0_
     have BK128 := n1_
     have BK129 := n2_
     have BK131 := n3_
     have BK132 := n4_
     have HB := n5_
     clear n0_ n1_ n2_ n3_ n4_ n5_
     have p20 : (0 ≤ (x14_1 : Int)) = True := eq_true (of_decide_eq_true (by first | (with_reducible assumption) | assumption))
     have q20 : ((x14_1 : Int) < 64) = True := eq_true (of_decide_eq_true (by first | (with_reducible assumption) | assumption))
     refine start_ (n := 7) (S := fun w' => w'.heap[gb131]? = some (.cells (Ar.cells .u32 8 x132000_1) 60 (0, 0)) ∧ w'.cell? ⟨gb132, (x14_1 : Int).toNat, none⟩ = some (.int .u32 (Ar.get 64 t130 x14_1))) (ds := [6]) #[false, false, false, false, false, false, false] (by kernel_rfl) rfl rfl ⟨BK131.out, (Ar.cell_run (j := x14_1) BK132.out (of_decide_eq_true (by first | (with_reducible assumption) | assumption)) (of_decide_eq_true (by first | (with_reducible assumption) | assumption)))⟩ (fun hHeld => ?_)
     generalize wr.drew = w19 at BK127 BK128 BK129 BK131 BK132 HB hHeld ⊢
     refine pure_ (i := 1) (N := some 19) (v := ?_) (a' := ?_) #[false, true, false, false, false, false, false] rfl rfl (by kernel_rfl) (fun _ _ _ h => h) (Or.inl ⟨by rfl, ?_⟩) ?_ ?_
     rotate_left
     ·intro w'
      go_simp
      with_reducible rfl
     rotate_left
     ·simp only [Act.put, List.setIfInBounds_toArray, List.set_cons_zero, List.set_cons_succ, i64_w, i32_w]
      rfl
     refine pure_ (i := 2) (N := some 20) (v := ?_) (a' := ?_) #[false, true, true, false, false, false, false] rfl rfl (by kernel_rfl) (fun _ _ _ h => h) (Or.inl ⟨by rfl, ?_⟩) ?_ ?_
     rotate_left
     ·intro w'
      go_simp
      with_reducible rfl
     rotate_left
     ·simp only [Act.put, List.setIfInBounds_toArray, List.set_cons_zero, List.set_cons_succ, i64_w, i32_w]
      rfl
     refine pure_ (i := 3) (N := some 21) (v := ?_) (a' := ?_) #[false, true, true, true, false, false, false] rfl rfl (by kernel_rfl) (fun _ _ _ h => h) (Or.inl ⟨by rfl, ?_⟩) ?_ ?_
     rotate_left
     ·intro w'
      go_simp
      with_reducible rfl
     rotate_left
     ·simp only [Act.put, List.setIfInBounds_toArray, List.set_cons_zero, List.set_cons_succ, i64_w, i32_w]
      rfl
     refine take_ (i := 0) (N := some 18) (v := ?_) (a' := ?_) #[true, true, true, true, false, false, false] rfl rfl (by kernel_rfl) (fun _ _ _ h => h) (Or.inl ⟨by rfl, ?_⟩) hHeld ?_ ?_
     rotate_left
     ·rintro w' ⟨s0, s1⟩
      first | (refine (Ar.load_run rfl Try.underlying60 (by kernel_rfl) rfl (by assumption)).trans ?_; with_reducible rfl) | (go_simp; with_reducible rfl)
     rotate_left
     ·simp only [Act.put, List.setIfInBounds_toArray, List.set_cons_zero, List.set_cons_succ, i64_w, i32_w]
      rfl
     refine take_ (i := 4) (N := some 22) (v := ?_) (a' := ?_) #[true, true, true, true, true, false, false] rfl rfl (by kernel_rfl) (fun _ _ _ h => h) (Or.inl ⟨by rfl, ?_⟩) hHeld ?_ ?_
     rotate_left
     ·rintro w' ⟨s0, s1⟩
      go_simp
      with_reducible rfl
     rotate_left
     ·simp only [Act.put, List.setIfInBounds_toArray, List.set_cons_zero, List.set_cons_succ, i64_w, i32_w]
      rfl
     refine one_ (i := 5) (N := some 23) #[true, true, true, true, true, true, false] rfl rfl (by kernel_rfl) (by decide) (fun K hK => ?_)
     refine goes_ Try.func57 (by kernel_rfl) rfl #[.agg (Ar.cells .u32 8 x132000_1), .int .u32 (Ar.get 64 t133 x14_1), .int .u32 (Ar.get 64 t130 x14_1)] (by rfl) rfl rfl (by (try simp only [List.map_toArray, List.map_cons, List.map_nil]); first | done | rfl | (simp only [List.length_drop, List.length_take]; rfl)) ?_
     with_reducible refine (comp_Round.calls x132000_1 (Ar.get 64 t133 x14_1) (Ar.get 64 t130 x14_1) t134 _ A18.out).mono ?_
     rintro e w21 ⟨rfl, hb⟩
     refine ⟨_, rfl, ?_⟩
     have n0_ := Aside0.mk (blk_below (g := gb127) (o := .cells (Ar.cells .u32 8 a0) 60 (0, 0)) (by (with_reducible repeat (first | refine blk_drewN ?_ _ | refine blk_drew ?_ | refine blk_alloc ?_ _)); exact BK127.out) hb)
     have n1_ := Aside0.mk (blk_below (g := gb128) (o := .cells (Ar.cells .u8 64 a1) 39 (0, 0)) (by (with_reducible repeat (first | refine blk_drewN ?_ _ | refine blk_drew ?_ | refine blk_alloc ?_ _)); exact BK128.out) hb)
     have n2_ := Aside0.mk (blk_below (g := gb129) (o := .cells (Ar.cells .u32 8 (List.replicate 8 0)) 60 (0, 0)) (by (with_reducible repeat (first | refine blk_drewN ?_ _ | refine blk_drew ?_ | refine blk_alloc ?_ _)); exact BK129.out) hb)
     have n3_ := Aside0.mk (blk_below (g := gb131) (o := .cells (Ar.cells .u32 8 x132000_1) 60 (0, 0)) (by (with_reducible repeat (first | refine blk_drewN ?_ _ | refine blk_drew ?_ | refine blk_alloc ?_ _)); exact BK131.out) hb)
     have n4_ := Aside0.mk (blk_below (g := gb132) (o := .cells (Ar.cells .u32 64 t130) 41 (0, 0)) (by (with_reducible repeat (first | refine blk_drewN ?_ _ | refine blk_drew ?_ | refine blk_alloc ?_ _)); exact BK132.out) hb)
     have n5_ := Aside0.mk (below_step (by repeat (first | (with_reducible first | exact HB.out | apply below_alloc | apply pw_below_drewN | apply below_drew1 | refine below_set ?_ GE127.out | refine below_set ?_ GE128.out | refine below_set ?_ GE129.out | refine below_set ?_ GE131.out | refine below_set ?_ GE132.out) | exact HB.out)) hb)
     clear BK127
     clear BK128
     clear BK129
     clear BK131
     clear BK132
     clear HB
     have BK127 := n0_
     have BK128 := n1_
     have BK129 := n2_
     have BK131 := n3_
     have BK132 := n4_
     have HB := n5_
     clear n0_ n1_ n2_ n3_ n4_ n5_
     (try clear hb)
     (try clear hb2)
     (try clear hk)
     (try clear hi)
     refine hK.out _ _ ⟨BK131.out, (Ar.cell_run (j := x14_1) BK132.out (of_decide_eq_true (by first | (with_reducible assumption) | assumption)) (of_decide_eq_true (by first | (with_reducible assumption) | assumption)))⟩ (fun hHeld => ?_)
     clear hK K
     refine norm_ (a' := ?_) ?_ ?_
     rotate_left
     ·show Act.put _ (some 23) _ = _
      simp only [Act.put, List.setIfInBounds_toArray, List.set_cons_zero, List.set_cons_succ, i64_w, i32_w]
      rfl
     refine last_ (i := 6) (N := none) #[true, true, true, true, true, true, true] rfl rfl (by kernel_rfl) (by decide) (fun K hK => ?_)
     refine Ar.store_all_step (by rfl) rfl rfl Try.underlying60 (by kernel_rfl) (g := gb131) rfl (z := t134) (by first | rfl | (go_simp; done) | (go_simp; rfl)) (by (with_reducible repeat (first | refine blk_drewN ?_ _ | refine blk_drew ?_ | refine blk_alloc ?_ _)); exact BK131.out) ?_; intro w22 hbk_ hg
     have n0_ := Aside0.mk (blk_grown (g := gb127) (o := .cells (Ar.cells .u32 8 a0) 60 (0, 0)) (by (with_reducible repeat (first | refine blk_drewN ?_ _ | refine blk_drew ?_ | refine blk_alloc ?_ _)); exact BK127.out) hg (fun e_ => NB127_131.out (Option.some.inj e_)))
     have n1_ := Aside0.mk (blk_grown (g := gb128) (o := .cells (Ar.cells .u8 64 a1) 39 (0, 0)) (by (with_reducible repeat (first | refine blk_drewN ?_ _ | refine blk_drew ?_ | refine blk_alloc ?_ _)); exact BK128.out) hg (fun e_ => NB128_131.out (Option.some.inj e_)))
     have n2_ := Aside0.mk (blk_grown (g := gb129) (o := .cells (Ar.cells .u32 8 (List.replicate 8 0)) 60 (0, 0)) (by (with_reducible repeat (first | refine blk_drewN ?_ _ | refine blk_drew ?_ | refine blk_alloc ?_ _)); exact BK129.out) hg (fun e_ => NB129_131.out (Option.some.inj e_)))
     have n3_ := Aside0.mk (blk_grown (g := gb132) (o := .cells (Ar.cells .u32 64 t130) 41 (0, 0)) (by (with_reducible repeat (first | refine blk_drewN ?_ _ | refine blk_drew ?_ | refine blk_alloc ?_ _)); exact BK132.out) hg (fun e_ => NB132_131.out (Option.some.inj e_)))
     have n4_ := Aside0.mk (hbk_)
     have n5_ := Aside0.mk (Below.grown (by repeat (first | (with_reducible first | exact HB.out | apply below_alloc | apply pw_below_drewN | apply below_drew1 | refine below_set ?_ GE127.out | refine below_set ?_ GE128.out | refine below_set ?_ GE129.out | refine below_set ?_ GE131.out | refine below_set ?_ GE132.out) | exact HB.out)) hg ((below_size (by repeat (first | (with_reducible first | exact HB.out | apply below_alloc | apply pw_below_drewN | apply below_drew1 | refine below_set ?_ GE127.out | refine below_set ?_ GE128.out | refine below_set ?_ GE129.out | refine below_set ?_ GE131.out | refine below_set ?_ GE132.out) | exact HB.out)))) (fun _ e_ => by cases e_; exact GE131.out))
     clear BK127
     clear BK128
     clear BK129
     clear BK132
     clear BK131
     clear HB
     have BK127 := n0_
     have BK128 := n1_
     have BK129 := n2_
     have BK132 := n3_
     have BK131 := n4_
     have HB := n5_
     clear n0_ n1_ n2_ n3_ n4_ n5_
     clear hbk_ hg
     refine hK.out _ _ ?_
     clear hK K
     refine done_ (by kernel_rfl) ?_
     try go_wp2
     go_roundg k1
     case measure => have := HK1.out; omega
     case rel => exact ⟨(wrap64 (x14_1 + 1)), (t134), (by first | rfl | (simp; done) | (simp [*]; done)), H', ⟨by have := HK1.out; omega⟩, ⟨by (with_reducible repeat (first | refine blk_drewN ?_ _ | refine blk_drew ?_ | refine blk_alloc ?_ _)); exact BK127.out⟩, ⟨by (with_reducible repeat (first | refine blk_drewN ?_ _ | refine blk_drew ?_ | refine blk_alloc ?_ _)); exact BK128.out⟩, ⟨by (with_reducible repeat (first | refine blk_drewN ?_ _ | refine blk_drew ?_ | refine blk_alloc ?_ _)); exact BK129.out⟩, ⟨by (with_reducible repeat (first | refine blk_drewN ?_ _ | refine blk_drew ?_ | refine blk_alloc ?_ _)); exact BK131.out⟩, ⟨by (with_reducible repeat (first | refine blk_drewN ?_ _ | refine blk_drew ?_ | refine blk_alloc ?_ _)); exact BK132.out⟩, ⟨by repeat (first | (with_reducible first | exact HB.out | apply below_alloc | apply pw_below_drewN | apply below_drew1 | refine below_set ?_ GE127.out | refine below_set ?_ GE128.out | refine below_set ?_ GE129.out | refine below_set ?_ GE131.out | refine below_set ?_ GE132.out) | exact HB.out)⟩⟩
    ·rw [if_neg c17] at H
     exact absurd H (by simp)
   ·rw [if_neg c16] at H
    have c16b0 : decide (x14_1 < 64) = false := decide_eq_false c16
    clear c16
    have H' := Aside0.mk H
    clear H
    go_wp2
    go_loopg [25] k1 (fun kq v25 w' => ∃ (x25_2 : Int) (x132000_2 : List Int), v25 = .int .i64 x25_2 ∧ Aside0 (comp_Take.l1 kq x25_2 a0 x132000_2 = some r) ∧ Aside0 (kq ≤ k1) ∧ Aside0 (w'.heap[gb127]? = some (.cells (Ar.cells .u32 8 a0) 60 (0, 0))) ∧ Aside0 (w'.heap[gb128]? = some (.cells (Ar.cells .u8 64 a1) 39 (0, 0))) ∧ Aside0 (w'.heap[gb129]? = some (.cells (Ar.cells .u32 8 (List.replicate 8 0)) 60 (0, 0))) ∧ Aside0 (w'.heap[gb131]? = some (.cells (Ar.cells .u32 8 x132000_2) 60 (0, 0))) ∧ Aside0 (w'.heap[gb132]? = some (.cells (Ar.cells .u32 64 t130) 41 (0, 0))) ∧ Aside0 (Below w.heap.size w w'))
    case atStart => exact ⟨(0), (x132000_1), (by first | rfl | (simp; done) | (simp [*]; done)), H', ⟨Nat.le_refl _⟩, ⟨by (with_reducible repeat (first | refine blk_drewN ?_ _ | refine blk_drew ?_ | refine blk_alloc ?_ _)); exact BK127.out⟩, ⟨by (with_reducible repeat (first | refine blk_drewN ?_ _ | refine blk_drew ?_ | refine blk_alloc ?_ _)); exact BK128.out⟩, ⟨by (with_reducible repeat (first | refine blk_drewN ?_ _ | refine blk_drew ?_ | refine blk_alloc ?_ _)); exact BK129.out⟩, ⟨by (with_reducible repeat (first | refine blk_drewN ?_ _ | refine blk_drew ?_ | refine blk_alloc ?_ _)); exact BK131.out⟩, ⟨by (with_reducible repeat (first | refine blk_drewN ?_ _ | refine blk_drew ?_ | refine blk_alloc ?_ _)); exact BK132.out⟩, ⟨by repeat (first | (with_reducible first | exact HB.out | apply below_alloc | apply pw_below_drewN | apply below_drew1 | refine below_set ?_ GE127.out | refine below_set ?_ GE128.out | refine below_set ?_ GE129.out | refine below_set ?_ GE131.out | refine below_set ?_ GE132.out) | exact HB.out)⟩⟩
    case round =>
     clear H'
     try clear c1
     try clear p2
     try clear q2
     try clear c3
     try clear c5
     try clear c6
     try clear p6
     try clear c16
     try clear c16b0
     try clear c17
     try clear c17b0
     try clear p20
     try clear q20
     try clear p2
     try clear p20
     try clear q20
     obtain ⟨x25_2, x132000_2, rfl, HA, HK2, BK127, BK128, BK129, BK131, BK132, HB⟩ := hrel
     cases gk with
     | zero => exact absurd HA.out (by simp [comp_Take.l1])
     | succ k2 =>
      have H := HA.out
      clear HA
      simp only [comp_Take.l1] at H
      by_cases c23 : x25_2 < 8
      ·rw [if_pos c23] at H
       have c23b0 : decide (x25_2 < 8) = true := decide_eq_true c23
       clear c23
       by_cases c24 : 0 ≤ x25_2
       ·rw [if_pos c24] at H
        have c24b0 : decide (0 ≤ x25_2) = true := decide_eq_true c24
        clear c24
        obtain ⟨y135, hy135⟩ : ∃ y_ : List Int, y_ = (Ar.set 8 x132000_2 x25_2 (((Ar.get 8 x132000_2 x25_2) + (Ar.get 8 a0 x25_2)) % 4294967296)) := ⟨_, rfl⟩
        replace H : (comp_Take.l1 k2 (wrap64 (x25_2 + 1)) a0 y135) = some r := by first | (rw [hy135]; with_reducible exact H) | (have H2_ := (Option.bind_some _ _).symm.trans H; rw [hy135]; with_reducible exact H2_) | (have H2_ := (Option.bind_some _ _).symm.trans H; with_reducible exact H2_) | with_reducible exact H | (rw [hy135]; exact H) | exact H
        have Ny135 := Aside0.mk hy135
        clear hy135
        have H' := Aside0.mk H
        clear H
        try go_wp2
        have n0_ := Aside0.mk (blk_drew BK127.out)
        have n1_ := Aside0.mk (blk_drew BK128.out)
        have n2_ := Aside0.mk (blk_drew BK129.out)
        have n3_ := Aside0.mk (blk_drew BK131.out)
        have n4_ := Aside0.mk (blk_drew BK132.out)
        have n5_ := Aside0.mk (below_drew1 HB.out)
        clear BK127
        clear BK128
        clear BK129
        clear BK131
        clear BK132
        clear HB
        have BK127 := n0_
        have BK128 := n1_
        have BK129 := n2_
        have BK131 := n3_
        have BK132 := n4_
        have HB := n5_
        clear n0_ n1_ n2_ n3_ n4_ n5_
        have p26 : (0 ≤ (x25_2 : Int)) = True := eq_true (of_decide_eq_true (by first | (with_reducible assumption) | assumption))
        have q26 : ((x25_2 : Int) < 8) = True := eq_true (of_decide_eq_true (by first | (with_reducible assumption) | assumption))
        have p27 : (0 ≤ (x25_2 : Int)) = True := eq_true (of_decide_eq_true (by first | (with_reducible assumption) | assumption))
        have q27 : ((x25_2 : Int) < 8) = True := eq_true (of_decide_eq_true (by first | (with_reducible assumption) | assumption))
        have p28 : (0 ≤ (x25_2 : Int)) = True := eq_true (of_decide_eq_true (by first | (with_reducible assumption) | assumption))
        have q28 : ((x25_2 : Int) < 8) = True := eq_true (of_decide_eq_true (by first | (with_reducible assumption) | assumption))
        refine start_ (n := 9) (S := fun w' => w'.cell? ⟨gb131, (x25_2 : Int).toNat, none⟩ = some (.int .u32 (Ar.get 8 x132000_2 x25_2)) ∧ w'.cell? ⟨gb127, (x25_2 : Int).toNat, none⟩ = some (.int .u32 (Ar.get 8 a0 x25_2))) (ds := [8]) #[false, false, false, false, false, false, false, false, false] (by kernel_rfl) rfl rfl ⟨(Ar.cell_run (j := x25_2) BK131.out (of_decide_eq_true (by first | (with_reducible assumption) | assumption)) (of_decide_eq_true (by first | (with_reducible assumption) | assumption))), (Ar.cell_run (j := x25_2) BK127.out (of_decide_eq_true (by first | (with_reducible assumption) | assumption)) (of_decide_eq_true (by first | (with_reducible assumption) | assumption)))⟩ (fun hHeld => ?_); refine with_tabW comp_Take.tab10 comp_Take.bits10 (fun HT_ HW_ => ?_)
        generalize wr.drew = w25 at BK127 BK128 BK129 BK131 BK132 HB hHeld ⊢
        refine pure_ (i := 0) (N := some 28) (v := ?_) (a' := ?_) #[true, false, false, false, false, false, false, false, false] rfl rfl (any_of HT_.out (by kernel_rfl)) (fun _ _ _ h => h) (Or.inl ⟨by rfl, ?_⟩) ?_ ?_
        rotate_left
        ·intro w'
         go_simp
         with_reducible rfl
        rotate_left
        ·simp only [Act.put, List.setIfInBounds_toArray, List.set_cons_zero, List.set_cons_succ, i64_w, i32_w]
         rfl
        refine pure_ (i := 1) (N := some 29) (v := ?_) (a' := ?_) #[true, true, false, false, false, false, false, false, false] rfl rfl (any_of HT_.out (by kernel_rfl)) (fun _ _ _ h => h) (Or.inl ⟨by rfl, ?_⟩) ?_ ?_
        rotate_left
        ·intro w'
         go_simp
         with_reducible rfl
        rotate_left
        ·simp only [Act.put, List.setIfInBounds_toArray, List.set_cons_zero, List.set_cons_succ, i64_w, i32_w]
         rfl
        refine pure_ (i := 3) (N := some 31) (v := ?_) (a' := ?_) #[true, true, false, true, false, false, false, false, false] rfl rfl (any_of HT_.out (by kernel_rfl)) (fun _ _ _ h => h) (Or.inl ⟨by rfl, ?_⟩) ?_ ?_
        rotate_left
        ·intro w'
         go_simp
         with_reducible rfl
        rotate_left
        ·simp only [Act.put, List.setIfInBounds_toArray, List.set_cons_zero, List.set_cons_succ, i64_w, i32_w]
         rfl
        refine pure_ (i := 4) (N := some 32) (v := ?_) (a' := ?_) #[true, true, false, true, true, false, false, false, false] rfl rfl (any_of HT_.out (by kernel_rfl)) (fun _ _ _ h => h) (Or.inl ⟨by rfl, ?_⟩) ?_ ?_
        rotate_left
        ·intro w'
         go_simp
         with_reducible rfl
        rotate_left
        ·simp only [Act.put, List.setIfInBounds_toArray, List.set_cons_zero, List.set_cons_succ, i64_w, i32_w]
         rfl
        refine take_ (i := 2) (N := some 30) (v := ?_) (a' := ?_) #[true, true, true, true, true, false, false, false, false] rfl rfl (take_ofW HT_.out HW_.out (by kernel_rfl)) (fun _ _ _ h => h) (Or.inl ⟨by rfl, ?_⟩) hHeld ?_ ?_
        rotate_left
        ·rintro w' ⟨s0, s1⟩
         go_simp
         with_reducible rfl
        rotate_left
        ·simp only [Act.put, List.setIfInBounds_toArray, List.set_cons_zero, List.set_cons_succ, i64_w, i32_w]
         rfl
        refine take_ (i := 5) (N := some 33) (v := ?_) (a' := ?_) #[true, true, true, true, true, true, false, false, false] rfl rfl (take_ofW HT_.out HW_.out (by kernel_rfl)) (fun _ _ _ h => h) (Or.inl ⟨by rfl, ?_⟩) hHeld ?_ ?_
        rotate_left
        ·rintro w' ⟨s0, s1⟩
         go_simp
         with_reducible rfl
        rotate_left
        ·simp only [Act.put, List.setIfInBounds_toArray, List.set_cons_zero, List.set_cons_succ, i64_w, i32_w]
         rfl
        refine pure_ (i := 6) (N := some 34) (v := ?_) (a' := ?_) #[true, true, true, true, true, true, true, false, false] rfl rfl (any_of HT_.out (by kernel_rfl)) (fun _ _ _ h => h) (Or.inl ⟨by rfl, ?_⟩) ?_ ?_
        rotate_left
        ·intro w'
         go_simp
         with_reducible rfl
        rotate_left
        ·simp only [Act.put, List.setIfInBounds_toArray, List.set_cons_zero, List.set_cons_succ, i64_w, i32_w]
         rfl
        refine pure_ (i := 7) (N := some 35) (v := ?_) (a' := ?_) #[true, true, true, true, true, true, true, true, false] rfl rfl (any_of HT_.out (by kernel_rfl)) (fun _ _ _ h => h) (Or.inl ⟨by rfl, ?_⟩) ?_ ?_
        rotate_left
        ·intro w'
         go_simp
         with_reducible rfl
        rotate_left
        ·simp only [Act.put, List.setIfInBounds_toArray, List.set_cons_zero, List.set_cons_succ, i64_w, i32_w]
         rfl
        refine last_ (i := 8) (N := none) #[true, true, true, true, true, true, true, true, true] rfl rfl (one_of HT_.out (by kernel_rfl)) (by decide) (fun K hK => ?_)
        refine Ar.put_step (by rfl) rfl rfl (by kernel_rfl) (g := gb131) (j := x25_2) rfl (z := (((Ar.get 8 x132000_2 x25_2) + (Ar.get 8 a0 x25_2)) % 4294967296)) (by first | rfl | (go_simp; done) | (go_simp; rfl)) (by (with_reducible repeat (first | refine blk_drewN ?_ _ | refine blk_drew ?_ | refine blk_alloc ?_ _)); exact BK131.out) (of_decide_eq_true (by first | (with_reducible assumption) | assumption)) (of_decide_eq_true (by first | (with_reducible assumption) | assumption)) ?_; intro w29 hbk_ hg
        rw [← Ny135.out] at hbk_
        have n0_ := Aside0.mk (blk_grown (g := gb127) (o := .cells (Ar.cells .u32 8 a0) 60 (0, 0)) (by (with_reducible repeat (first | refine blk_drewN ?_ _ | refine blk_drew ?_ | refine blk_alloc ?_ _)); exact BK127.out) hg (fun e_ => NB127_131.out (Option.some.inj e_)))
        have n1_ := Aside0.mk (blk_grown (g := gb128) (o := .cells (Ar.cells .u8 64 a1) 39 (0, 0)) (by (with_reducible repeat (first | refine blk_drewN ?_ _ | refine blk_drew ?_ | refine blk_alloc ?_ _)); exact BK128.out) hg (fun e_ => NB128_131.out (Option.some.inj e_)))
        have n2_ := Aside0.mk (blk_grown (g := gb129) (o := .cells (Ar.cells .u32 8 (List.replicate 8 0)) 60 (0, 0)) (by (with_reducible repeat (first | refine blk_drewN ?_ _ | refine blk_drew ?_ | refine blk_alloc ?_ _)); exact BK129.out) hg (fun e_ => NB129_131.out (Option.some.inj e_)))
        have n3_ := Aside0.mk (blk_grown (g := gb132) (o := .cells (Ar.cells .u32 64 t130) 41 (0, 0)) (by (with_reducible repeat (first | refine blk_drewN ?_ _ | refine blk_drew ?_ | refine blk_alloc ?_ _)); exact BK132.out) hg (fun e_ => NB132_131.out (Option.some.inj e_)))
        have n4_ := Aside0.mk (hbk_)
        have n5_ := Aside0.mk (Below.grown (by repeat (first | (with_reducible first | exact HB.out | apply below_alloc | apply pw_below_drewN | apply below_drew1 | refine below_set ?_ GE127.out | refine below_set ?_ GE128.out | refine below_set ?_ GE129.out | refine below_set ?_ GE131.out | refine below_set ?_ GE132.out) | exact HB.out)) hg ((below_size (by repeat (first | (with_reducible first | exact HB.out | apply below_alloc | apply pw_below_drewN | apply below_drew1 | refine below_set ?_ GE127.out | refine below_set ?_ GE128.out | refine below_set ?_ GE129.out | refine below_set ?_ GE131.out | refine below_set ?_ GE132.out) | exact HB.out)))) (fun _ e_ => by cases e_; exact GE131.out))
        clear BK127
        clear BK128
        clear BK129
        clear BK132
        clear BK131
        clear HB
        have BK127 := n0_
        have BK128 := n1_
        have BK129 := n2_
        have BK132 := n3_
        have BK131 := n4_
        have HB := n5_
        clear n0_ n1_ n2_ n3_ n4_ n5_
        clear hbk_ hg
        refine hK.out _ _ ?_
        clear hK K
        refine done_ (done_of HT_.out (by kernel_rfl)) ?_
        try go_wp2
        go_roundg k2
        case measure => have := HK1.out; have := HK2.out; omega
        case rel => exact ⟨(wrap64 (x25_2 + 1)), (y135), (by first | rfl | (simp; done) | (simp [*]; done)), H', ⟨by have := HK1.out; have := HK2.out; omega⟩, ⟨by (with_reducible repeat (first | refine blk_drewN ?_ _ | refine blk_drew ?_ | refine blk_alloc ?_ _)); exact BK127.out⟩, ⟨by (with_reducible repeat (first | refine blk_drewN ?_ _ | refine blk_drew ?_ | refine blk_alloc ?_ _)); exact BK128.out⟩, ⟨by (with_reducible repeat (first | refine blk_drewN ?_ _ | refine blk_drew ?_ | refine blk_alloc ?_ _)); exact BK129.out⟩, ⟨by (with_reducible repeat (first | refine blk_drewN ?_ _ | refine blk_drew ?_ | refine blk_alloc ?_ _)); exact BK131.out⟩, ⟨by (with_reducible repeat (first | refine blk_drewN ?_ _ | refine blk_drew ?_ | refine blk_alloc ?_ _)); exact BK132.out⟩, ⟨by repeat (first | (with_reducible first | exact HB.out | apply below_alloc | apply pw_below_drewN | apply below_drew1 | refine below_set ?_ GE127.out | refine below_set ?_ GE128.out | refine below_set ?_ GE129.out | refine below_set ?_ GE131.out | refine below_set ?_ GE132.out) | exact HB.out)⟩⟩
       ·rw [if_neg c24] at H
        exact absurd H (by simp)
      ·rw [if_neg c23] at H
       have c23b0 : decide (x25_2 < 8) = false := decide_eq_false c23
       clear c23
       obtain rfl := Option.some.inj H
       go_wp2_with (first | ((with_reducible refine gate_dst (N := 37) rfl ?_); (try (refine gate_guard (by rfl) ?_; dsimp only)); refine Ar.load_event rfl (D := 37) rfl (T := 60) rfl Try.underlying60 (by kernel_rfl) (g := gb131) rfl (by (with_reducible repeat (first | refine blk_drewN ?_ _ | refine blk_drew ?_ | refine blk_alloc ?_ _)); exact BK131.out) ?_) | ((with_reducible refine gate_store (t := 60) (p := 4) rfl ?_); refine Ar.store_all_event rfl rfl rfl Try.underlying60 (by kernel_rfl) (g := gb129) rfl (z := x132000_2) (by first | rfl | (go_simp; done) | (go_simp; rfl)) (by (with_reducible repeat (first | refine blk_drewN ?_ _ | refine blk_drew ?_ | refine blk_alloc ?_ _)); exact BK129.out) ?_; intro w30 hbk_ hg; have n0_ := Aside0.mk (blk_grown (g := gb127) (o := .cells (Ar.cells .u32 8 a0) 60 (0, 0)) (by (with_reducible repeat (first | refine blk_drewN ?_ _ | refine blk_drew ?_ | refine blk_alloc ?_ _)); exact BK127.out) hg (fun e_ => NB127_129.out (Option.some.inj e_))); have n1_ := Aside0.mk (blk_grown (g := gb128) (o := .cells (Ar.cells .u8 64 a1) 39 (0, 0)) (by (with_reducible repeat (first | refine blk_drewN ?_ _ | refine blk_drew ?_ | refine blk_alloc ?_ _)); exact BK128.out) hg (fun e_ => NB128_129.out (Option.some.inj e_))); have n2_ := Aside0.mk (blk_grown (g := gb131) (o := .cells (Ar.cells .u32 8 x132000_2) 60 (0, 0)) (by (with_reducible repeat (first | refine blk_drewN ?_ _ | refine blk_drew ?_ | refine blk_alloc ?_ _)); exact BK131.out) hg (fun e_ => NB131_129.out (Option.some.inj e_))); have n3_ := Aside0.mk (blk_grown (g := gb132) (o := .cells (Ar.cells .u32 64 t130) 41 (0, 0)) (by (with_reducible repeat (first | refine blk_drewN ?_ _ | refine blk_drew ?_ | refine blk_alloc ?_ _)); exact BK132.out) hg (fun e_ => NB132_129.out (Option.some.inj e_))); have n4_ := Aside0.mk (hbk_); have n5_ := Aside0.mk (Below.grown (by repeat (first | (with_reducible first | exact HB.out | apply below_alloc | apply pw_below_drewN | apply below_drew1 | refine below_set ?_ GE127.out | refine below_set ?_ GE128.out | refine below_set ?_ GE129.out | refine below_set ?_ GE131.out | refine below_set ?_ GE132.out) | exact HB.out)) hg ((below_size (by repeat (first | (with_reducible first | exact HB.out | apply below_alloc | apply pw_below_drewN | apply below_drew1 | refine below_set ?_ GE127.out | refine below_set ?_ GE128.out | refine below_set ?_ GE129.out | refine below_set ?_ GE131.out | refine below_set ?_ GE132.out) | exact HB.out)))) (fun _ e_ => by cases e_; exact GE129.out)); clear BK127; clear BK128; clear BK131; clear BK132; clear BK129; clear HB; have BK127 := n0_; have BK128 := n1_; have BK131 := n2_; have BK132 := n3_; have BK129 := n4_; have HB := n5_; clear n0_ n1_ n2_ n3_ n4_ n5_; clear hbk_ hg))
       refine bodyPost_ret (results_cell_row rfl _ _ gb129 60 (Ar.cells .u32 8 x132000_2) (0, 0) _ rfl (by (with_reducible repeat (first | refine blk_drewN ?_ _ | refine blk_drew ?_ | refine blk_alloc ?_ _)); exact BK129.out) Try.underlying60 rfl (by first | (rw [Ar.cells_size]; kernel_rfl) | kernel_rfl)) rfl ?_
       exact ⟨by first | rfl | (simp [errW_none, errW_some] <;> rfl) | (simp [*, errW_none, errW_some] <;> rfl), by repeat (first | (with_reducible first | exact HB.out | apply below_alloc | apply pw_below_drewN | apply below_drew1 | refine below_set ?_ GE127.out | refine below_set ?_ GE128.out | refine below_set ?_ GE129.out | refine below_set ?_ GE131.out | refine below_set ?_ GE132.out) | exact HB.out)⟩

end Go.Proofs.Ytpkdpdbcgbeakaa.PR
