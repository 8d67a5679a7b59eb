/- Written by xprint.py, this session's own driver, for the seat Ytpkdpdbcgbeakaa: contracts of Go functions, each saying that a call answers what a plain Lean function of the same name says, and, in a text named Law, the row of a law: its Go function answers true for every input. No conditions. -/
import Derived.Test.YtpkdpdbcgbeakaaPCx0
import Derived.Test.YtpkdpdbcgbeakaaPCx1
import Derived.Test.YtpkdpdbcgbeakaaPCx2
namespace Go.Proofs.Ytpkdpdbcgbeakaa.PC
open Go.RowKit Go.Proofs.YtpkdpdbcgbeakaaW.PrintWords Go.Proofs.YtpkdpdbcgbeakaaW.PrintLast Go.Proofs.YtpkdpdbcgbeakaaW.PrintMore
attribute [local go_sem] max2_int min2_int max_two min_two max_three min_three max_four min_four   -- for this text's walks alone
set_option linter.unusedVariables false
set_option linter.unusedSimpArgs false

/-! ### drawlotlaw03_PlanAny: function 9 -/
mutual
def drawlotlaw03_PlanAny.l0 : Nat → Int → Int → List Int → List Int → List Int → Option (Bool)
  | 0, _, _, _, _, _ => none
  | k + 1, x6, x8, x153000, x156000, x157000 => if x8 < 16 then (if 0 ≤ (wrap64 (x6 + x8)) then (if (wrap64 (x6 + x8)) < 64 then (drawlotlaw03_PlanAny.l0 k x6 (wrap64 (x8 + 1)) x153000 x156000 (Ar.set 64 x157000 (wrap64 (x6 + x8)) (Ar.get 64 x156000 (wrap64 (x6 + x8))))) else (none)) else (none)) else (drawlotlaw03_PlanAny.l1 k (wrap64 (x6 - 1)) x153000 x157000)
def drawlotlaw03_PlanAny.l1 : Nat → Int → List Int → List Int → Option (Bool)
  | 0, _, _, _ => none
  | k + 1, x9, x153000, x157000 => if x9 ≥ 0 then (if 0 ≤ (wrap64 (x9 + 16)) then (if (wrap64 (x9 + 16)) < 64 then (if 0 ≤ (wrap64 (x9 + 14)) then (if (wrap64 (x9 + 14)) < 64 then ((plan_Second.f (Ar.get 64 x157000 (wrap64 (x9 + 14)))).bind fun t158 => (if 0 ≤ (wrap64 (x9 + 9)) then (if (wrap64 (x9 + 9)) < 64 then (if 0 ≤ (wrap64 (x9 + 1)) then (if (wrap64 (x9 + 1)) < 64 then ((plan_First.f (Ar.get 64 x157000 (wrap64 (x9 + 1)))).bind fun t159 => (if 0 ≤ x9 then (if x9 < 64 then (drawlotlaw03_PlanAny.l1 k (wrap64 (x9 - 1)) x153000 (Ar.set 64 x157000 x9 (((((((Ar.get 64 x157000 (wrap64 (x9 + 16))) - t158) % 4294967296) - (Ar.get 64 x157000 (wrap64 (x9 + 9)))) % 4294967296) - t159) % 4294967296))) else (none)) else (none))) else (none)) else (none)) else (none)) else (none))) else (none)) else (none)) else (none)) else (none)) else (drawlotlaw03_PlanAny.l2 k 0 x153000 x157000 (List.replicate 16 0))
def drawlotlaw03_PlanAny.l2 : Nat → Int → List Int → List Int → List Int → Option (Bool)
  | 0, _, _, _, _ => none
  | k + 1, x11, x153000, x157000, x162000 => if x11 < 16 then (if 0 ≤ x11 then (if x11 < 64 then (drawlotlaw03_PlanAny.l2 k (wrap64 (x11 + 1)) x153000 x157000 (Ar.set 16 x162000 x11 (Ar.get 64 x157000 x11))) else (none)) else (none)) else ((plan_Back.f k x162000).bind fun t163 => (some (Ar.eqb 64 t163 x153000)))
end
def drawlotlaw03_PlanAny.f (k : Nat) (a0 : List Int) (a1 : Int) : Option (Bool) := (drawlotlaw03_alive.f k).bind fun t153 => (if t153 = true then ((plan_Of.f k a0).bind fun t154 => (drawlotlaw03_PlanAny.l0 k (wrap64 (Int.tmod a1 49)) 0 a0 t154 (List.replicate 64 0))) else (none))
theorem drawlotlaw03_PlanAny.mono_l : ∀ k, (∀ y0 y1 y2 y3 y4, LeO (drawlotlaw03_PlanAny.l0 k y0 y1 y2 y3 y4) (drawlotlaw03_PlanAny.l0 (k + 1) y0 y1 y2 y3 y4)) ∧ (∀ y0 y1 y2, LeO (drawlotlaw03_PlanAny.l1 k y0 y1 y2) (drawlotlaw03_PlanAny.l1 (k + 1) y0 y1 y2)) ∧ (∀ y0 y1 y2 y3, LeO (drawlotlaw03_PlanAny.l2 k y0 y1 y2 y3) (drawlotlaw03_PlanAny.l2 (k + 1) y0 y1 y2 y3))
  | 0 => ⟨fun _ _ _ _ _ r h => by simp [drawlotlaw03_PlanAny.l0] at h, fun _ _ _ r h => by simp [drawlotlaw03_PlanAny.l1] at h, fun _ _ _ _ r h => by simp [drawlotlaw03_PlanAny.l2] at h⟩
  | k + 1 => by
    obtain ⟨ih0, ih1, ih2⟩ := drawlotlaw03_PlanAny.mono_l k
    refine ⟨?_, ?_, ?_⟩
    · intro y0 y1 y2 y3 y4
      unfold drawlotlaw03_PlanAny.l0
      repeat' first
      | (with_reducible exact ih0 _ _ _ _ _)
      | (with_reducible exact ih1 _ _ _)
      | (with_reducible exact ih2 _ _ _ _)
      | (with_reducible exact drawlotlaw03_alive.mono _)
      | (with_reducible exact plan_Back.mono _ _)
      | (with_reducible exact plan_Of.mono _ _)
      | (with_reducible exact LeO.refl _)
      | (with_reducible exact LeO.none _)
      | (with_reducible refine LeO.ite ?_ ?_)
      | (with_reducible refine LeO.bind ?_ (fun _ => ?_))
      | exact ih0 _ _ _ _ _
      | exact ih1 _ _ _
      | exact ih2 _ _ _ _
      | exact drawlotlaw03_alive.mono _
      | exact plan_Back.mono _ _
      | exact plan_Of.mono _ _
      | exact LeO.none _
      | refine LeO.ite ?_ ?_
      | refine LeO.bind ?_ (fun _ => ?_)
    · intro y0 y1 y2
      unfold drawlotlaw03_PlanAny.l1
      repeat' first
      | (with_reducible exact ih0 _ _ _ _ _)
      | (with_reducible exact ih1 _ _ _)
      | (with_reducible exact ih2 _ _ _ _)
      | (with_reducible exact drawlotlaw03_alive.mono _)
      | (with_reducible exact plan_Back.mono _ _)
      | (with_reducible exact plan_Of.mono _ _)
      | (with_reducible exact LeO.refl _)
      | (with_reducible exact LeO.none _)
      | (with_reducible refine LeO.ite ?_ ?_)
      | (with_reducible refine LeO.bind ?_ (fun _ => ?_))
      | exact ih0 _ _ _ _ _
      | exact ih1 _ _ _
      | exact ih2 _ _ _ _
      | exact drawlotlaw03_alive.mono _
      | exact plan_Back.mono _ _
      | exact plan_Of.mono _ _
      | exact LeO.none _
      | refine LeO.ite ?_ ?_
      | refine LeO.bind ?_ (fun _ => ?_)
    · intro y0 y1 y2 y3
      unfold drawlotlaw03_PlanAny.l2
      repeat' first
      | (with_reducible exact ih0 _ _ _ _ _)
      | (with_reducible exact ih1 _ _ _)
      | (with_reducible exact ih2 _ _ _ _)
      | (with_reducible exact drawlotlaw03_alive.mono _)
      | (with_reducible exact plan_Back.mono _ _)
      | (with_reducible exact plan_Of.mono _ _)
      | (with_reducible exact LeO.refl _)
      | (with_reducible exact LeO.none _)
      | (with_reducible refine LeO.ite ?_ ?_)
      | (with_reducible refine LeO.bind ?_ (fun _ => ?_))
      | exact ih0 _ _ _ _ _
      | exact ih1 _ _ _
      | exact ih2 _ _ _ _
      | exact drawlotlaw03_alive.mono _
      | exact plan_Back.mono _ _
      | exact plan_Of.mono _ _
      | exact LeO.none _
      | refine LeO.ite ?_ ?_
      | refine LeO.bind ?_ (fun _ => ?_)
theorem drawlotlaw03_PlanAny.mono : ∀ a0 a1 k, LeO (drawlotlaw03_PlanAny.f k a0 a1) (drawlotlaw03_PlanAny.f (k + 1) a0 a1) := by
  intro a0 a1 k
  obtain ⟨ih0, ih1, ih2⟩ := drawlotlaw03_PlanAny.mono_l k
  unfold drawlotlaw03_PlanAny.f
  repeat' first
      | (with_reducible exact ih0 _ _ _ _ _)
      | (with_reducible exact ih1 _ _ _)
      | (with_reducible exact ih2 _ _ _ _)
      | (with_reducible exact drawlotlaw03_alive.mono _)
      | (with_reducible exact plan_Back.mono _ _)
      | (with_reducible exact plan_Of.mono _ _)
      | (with_reducible exact LeO.refl _)
      | (with_reducible exact LeO.none _)
      | (with_reducible refine LeO.ite ?_ ?_)
      | (with_reducible refine LeO.bind ?_ (fun _ => ?_))
      | exact ih0 _ _ _ _ _
      | exact ih1 _ _ _
      | exact ih2 _ _ _ _
      | exact drawlotlaw03_alive.mono _
      | exact plan_Back.mono _ _
      | exact plan_Of.mono _ _
      | exact LeO.none _
      | refine LeO.ite ?_ ?_
      | refine LeO.bind ?_ (fun _ => ?_)
def drawlotlaw03_PlanAny.T13 : Bool × List (List Nat × List Nat) := (true, [([], []), ([], []), ([1], [1]), ([2], [2]), ([3], [3]), ([], []), ([5], [5]), ([6], [6]), ([7], [7]), ([8], [8]), ([4, 9], [4, 9]), ([], []), ([11], [11]), ([12], [12]), ([13], [13]), ([10, 14], [10, 14]), ([], []), ([16], [16]), ([17], [17]), ([18], [18]), ([19, 9], [19]), ([15, 20], [15, 20]), ([0, 0, 1, 2, 3, 4, 5, 6, 7, 8, 9, 10, 11, 12, 13, 14, 15, 16, 17, 18, 19, 20, 21], [0]), ([22, 21, 20, 0, 1, 2, 3, 4, 5, 6, 7, 8, 9, 10, 11, 12, 13, 14, 15, 16, 17, 18, 19, 20, 21], [21, 22])])
def drawlotlaw03_PlanAny.B13 : List Nat := [0, 0, 2, 6, 14, 0, 32, 96, 224, 480, 1022, 0, 2048, 6144, 14336, 32766, 0, 65536, 196608, 458752, 984032, 2097150, 4194303, 8388607]
theorem drawlotlaw03_PlanAny.tab13 : rtab .any (opsOf Try.f9 13) = drawlotlaw03_PlanAny.T13 := by kernel_rfl
theorem drawlotlaw03_PlanAny.bits13 : waitsOk drawlotlaw03_PlanAny.T13.2 drawlotlaw03_PlanAny.B13 = true := by kernel_rfl
set_option maxHeartbeats 8000000 in
set_option maxRecDepth 100000 in
theorem drawlotlaw03_PlanAny.calls (k : Nat) (a0 : List Int) (a1 : Int) (r : Bool) (w : World) (h : drawlotlaw03_PlanAny.f k a0 a1 = some r) :
    Calls Try.prog 9 #[.agg (Ar.cells .u8 64 a0), .int .u8 a1] w fun e w' => e = .returned (.bool r) ∧ Below w.heap.size w w' := by
  have HB := Aside0.mk (Below.refl w.heap.size w)
  have H : ((drawlotlaw03_alive.f k).bind fun t153 => (if t153 = true then ((plan_Of.f k a0).bind fun t154 => (drawlotlaw03_PlanAny.l0 k (wrap64 (Int.tmod a1 49)) 0 a0 t154 (List.replicate 64 0))) else (none))) = some r := h
  clear h
  replace H := Option.bind_eq_some_iff.mp H
  obtain ⟨t153, A30, H⟩ := H
  replace H : (if t153 = true then ((plan_Of.f k a0).bind fun t154 => (drawlotlaw03_PlanAny.l0 k (wrap64 (Int.tmod a1 49)) 0 a0 t154 (List.replicate 64 0))) else (none)) = some r := H
  have A3 := Aside0.mk A30
  clear A30
  by_cases c4 : t153 = true
  · subst c4
    have H1 : ((plan_Of.f k a0).bind fun t154 => (drawlotlaw03_PlanAny.l0 k (wrap64 (Int.tmod a1 49)) 0 a0 t154 (List.replicate 64 0))) = some r := by rw [if_pos rfl] at H; exact H
    clear H
    have H := H1
    clear H1
    replace H := Option.bind_eq_some_iff.mp H
    obtain ⟨t154, A50, H⟩ := H
    replace H : (drawlotlaw03_PlanAny.l0 k (wrap64 (Int.tmod a1 49)) 0 a0 t154 (List.replicate 64 0)) = some r := H
    have A5 := Aside0.mk A50
    clear A50
    have H' := Aside0.mk H
    clear H
    go_enter Try.func9, Try.ntmps9
    try simp only [List.append]
    go_wp2_with (first | ((with_reducible refine gate_dst (N := 2) rfl ?_); (try (refine gate_guard (by rfl) ?_; dsimp only)); refine box_event ?hg (N := 2) ?hd (cs := (Ar.cells .u8 64 a0)) (t := 39) ?hr ?_; (case hd => rfl); (case hg => rfl); (case hr => first | exact Ar.box_run rfl rfl | exact Ar.alloc_run rfl (by kernel_rfl) | (go_simp; done) | (go_simp; rfl)); intro gb152 hg w6 hbox hb; have n0_ := Aside0.mk (below_step (by repeat (first | (with_reducible first | exact HB.out | apply below_alloc | apply pw_below_drewN | apply below_drew1) | exact HB.out)) hb); have n1_ := Aside0.mk (hbox); have n2_ := Aside0.mk ((by rw [hg]; exact (below_size (by repeat (first | (with_reducible first | exact HB.out | apply below_alloc | apply pw_below_drewN | apply below_drew1) | exact HB.out))) : w.heap.size ≤ gb152)); have n3_ := Aside0.mk ((by rw [hg]; exact (below_size (by repeat (first | (with_reducible first | exact HB.out | apply below_alloc | apply pw_below_drewN | apply below_drew1) | exact HB.out))) : w.heap.size ≤ gb152)); clear HB; have HB := n0_; have BK152 := n1_; have GW152 := n2_; have GE152 := n3_; clear n0_ n1_ n2_ n3_; clear hb hbox hg) | ((with_reducible refine gate_callee (f := 34) rfl ?_); refine goesL_ (some 12) rfl rfl Try.func34 (by kernel_rfl) rfl #[] rfl (by (try simp only [List.map_toArray, List.map_cons, List.map_nil]); first | done | rfl | (simp only [List.length_drop, List.length_take]; rfl)) ?_; (with_reducible refine (drawlotlaw03_alive.calls k  true _ A3.out).mono ?_); rintro e w7 ⟨rfl, hb⟩; refine ⟨_, rfl, ?_⟩; have n0_ := Aside0.mk (blk_below (g := gb152) (o := .cells (Ar.cells .u8 64 a0) 39 (0, 0)) (by (with_reducible repeat (first | refine blk_drewN ?_ _ | refine blk_drew ?_ | refine blk_alloc ?_ _)); exact BK152.out) hb); have n1_ := Aside0.mk (below_step (by repeat (first | (with_reducible first | exact HB.out | apply below_alloc | apply pw_below_drewN | apply below_drew1 | refine below_set ?_ GE152.out) | exact HB.out)) hb); clear BK152; clear HB; have BK152 := n0_; have HB := n1_; clear n0_ n1_; (try clear hb); (try clear hb2); (try clear hk); (try clear hi)) | ((with_reducible refine gate_dst (N := 14) rfl ?_); (try (refine gate_guard (by rfl) ?_; dsimp only)); refine Ar.load_event rfl (D := 14) rfl (T := 39) rfl Try.underlying39 (by kernel_rfl) (g := gb152) rfl (by (with_reducible repeat (first | refine blk_drewN ?_ _ | refine blk_drew ?_ | refine blk_alloc ?_ _)); exact BK152.out) ?_) | ((with_reducible refine gate_callee (f := 39) rfl ?_); refine goesL_ (some 15) rfl rfl Try.func39 (by kernel_rfl) rfl #[.agg (Ar.cells .u8 64 a0)] rfl (by (try simp only [List.map_toArray, List.map_cons, List.map_nil]); first | done | rfl | (simp only [List.length_drop, List.length_take]; rfl)) ?_; (with_reducible refine (plan_Of.calls k a0 t154 _ A5.out).mono ?_); rintro e w8 ⟨rfl, hb⟩; refine ⟨_, rfl, ?_⟩; have n0_ := Aside0.mk (blk_below (g := gb152) (o := .cells (Ar.cells .u8 64 a0) 39 (0, 0)) (by (with_reducible repeat (first | refine blk_drewN ?_ _ | refine blk_drew ?_ | refine blk_alloc ?_ _)); exact BK152.out) hb); have n1_ := Aside0.mk (below_step (by repeat (first | (with_reducible first | exact HB.out | apply below_alloc | apply pw_below_drewN | apply below_drew1 | refine below_set ?_ GE152.out) | exact HB.out)) hb); clear BK152; clear HB; have BK152 := n0_; have HB := n1_; clear n0_ n1_; (try clear hb); (try clear hb2); (try clear hk); (try clear hi)) | ((with_reducible refine gate_dst (N := 5) rfl ?_); (try (refine gate_guard (by rfl) ?_; dsimp only)); refine box_event ?hg (N := 5) ?hd (cs := (Ar.cells .u32 64 (List.replicate 64 0))) (t := 42) ?hr ?_; (case hd => rfl); (case hg => rfl); (case hr => first | exact Ar.box_run rfl rfl | exact Ar.alloc_run rfl (by kernel_rfl) | (go_simp; done) | (go_simp; rfl)); intro gb155 hg w9 hbox hb; have n0_ := Aside0.mk (blk_below (g := gb152) (o := .cells (Ar.cells .u8 64 a0) 39 (0, 0)) (by (with_reducible repeat (first | refine blk_drewN ?_ _ | refine blk_drew ?_ | refine blk_alloc ?_ _)); exact BK152.out) hb); have n1_ := Aside0.mk (below_step (by repeat (first | (with_reducible first | exact HB.out | apply below_alloc | apply pw_below_drewN | apply below_drew1 | refine below_set ?_ GE152.out) | exact HB.out)) hb); have n2_ := Aside0.mk (hbox); have n3_ := Aside0.mk ((by rw [hg]; exact (below_size (by repeat (first | (with_reducible first | exact HB.out | apply below_alloc | apply pw_below_drewN | apply below_drew1 | refine below_set ?_ GE152.out) | exact HB.out))) : w.heap.size ≤ gb155)); have n4_ := Aside0.mk ((by rw [hg]; exact (below_size (by repeat (first | (with_reducible first | exact HB.out | apply below_alloc | apply pw_below_drewN | apply below_drew1 | refine below_set ?_ GE152.out) | exact HB.out))) : w.heap.size ≤ gb155)); have n5_ := Aside0.mk ((by rw [hg]; exact Nat.ne_of_lt (blk_lt (g := gb152) (o := .cells (Ar.cells .u8 64 a0) 39 (0, 0)) (by (with_reducible repeat (first | refine blk_drewN ?_ _ | refine blk_drew ?_ | refine blk_alloc ?_ _)); exact BK152.out)) : gb152 ≠ gb155)); have n6_ := Aside0.mk ((by rw [hg]; exact Nat.ne_of_gt (blk_lt (g := gb152) (o := .cells (Ar.cells .u8 64 a0) 39 (0, 0)) (by (with_reducible repeat (first | refine blk_drewN ?_ _ | refine blk_drew ?_ | refine blk_alloc ?_ _)); exact BK152.out)) : gb155 ≠ gb152)); clear BK152; clear HB; have BK152 := n0_; have HB := n1_; have BK155 := n2_; have GW155 := n3_; have GE155 := n4_; have NB152_155 := n5_; have NB155_152 := n6_; clear n0_ n1_ n2_ n3_ n4_ n5_ n6_; clear hb hbox hg) | ((with_reducible refine gate_store (t := 42) (p := 5) rfl ?_); refine Ar.store_all_event rfl rfl rfl Try.underlying42 (by kernel_rfl) (g := gb155) rfl (z := t154) (by first | rfl | (go_simp; done) | (go_simp; rfl)) (by (with_reducible repeat (first | refine blk_drewN ?_ _ | refine blk_drew ?_ | refine blk_alloc ?_ _)); exact BK155.out) ?_; intro w10 hbk_ hg; have n0_ := Aside0.mk (blk_grown (g := gb152) (o := .cells (Ar.cells .u8 64 a0) 39 (0, 0)) (by (with_reducible repeat (first | refine blk_drewN ?_ _ | refine blk_drew ?_ | refine blk_alloc ?_ _)); exact BK152.out) hg (fun e_ => NB152_155.out (Option.some.inj e_))); have n1_ := Aside0.mk (hbk_); have n2_ := Aside0.mk (Below.grown (by repeat (first | (with_reducible first | exact HB.out | apply below_alloc | apply pw_below_drewN | apply below_drew1 | refine below_set ?_ GE152.out | refine below_set ?_ GE155.out) | exact HB.out)) hg ((below_size (by repeat (first | (with_reducible first | exact HB.out | apply below_alloc | apply pw_below_drewN | apply below_drew1 | refine below_set ?_ GE152.out | refine below_set ?_ GE155.out) | exact HB.out)))) (fun _ e_ => by cases e_; exact GE155.out)); clear BK152; clear BK155; clear HB; have BK152 := n0_; have BK155 := n1_; have HB := n2_; clear n0_ n1_ n2_; clear hbk_ hg) | ((with_reducible refine gate_dst (N := 7) rfl ?_); (try (refine gate_guard (by rfl) ?_; dsimp only)); refine box_event ?hg (N := 7) ?hd (cs := (Ar.cells .u32 64 (List.replicate 64 0))) (t := 41) ?hr ?_; (case hd => rfl); (case hg => rfl); (case hr => first | exact Ar.box_run rfl rfl | exact Ar.alloc_run rfl (by kernel_rfl) | (go_simp; done) | (go_simp; rfl)); intro gb156 hg w11 hbox hb; have n0_ := Aside0.mk (blk_below (g := gb152) (o := .cells (Ar.cells .u8 64 a0) 39 (0, 0)) (by (with_reducible repeat (first | refine blk_drewN ?_ _ | refine blk_drew ?_ | refine blk_alloc ?_ _)); exact BK152.out) hb); have n1_ := Aside0.mk (blk_below (g := gb155) (o := .cells (Ar.cells .u32 64 t154) 42 (0, 0)) (by (with_reducible repeat (first | refine blk_drewN ?_ _ | refine blk_drew ?_ | refine blk_alloc ?_ _)); exact BK155.out) hb); have n2_ := Aside0.mk (below_step (by repeat (first | (with_reducible first | exact HB.out | apply below_alloc | apply pw_below_drewN | apply below_drew1 | refine below_set ?_ GE152.out | refine below_set ?_ GE155.out) | exact HB.out)) hb); have n3_ := Aside0.mk (hbox); have n4_ := Aside0.mk ((by rw [hg]; exact (below_size (by repeat (first | (with_reducible first | exact HB.out | apply below_alloc | apply pw_below_drewN | apply below_drew1 | refine below_set ?_ GE152.out | refine below_set ?_ GE155.out) | exact HB.out))) : w.heap.size ≤ gb156)); have n5_ := Aside0.mk ((by rw [hg]; exact (below_size (by repeat (first | (with_reducible first | exact HB.out | apply below_alloc | apply pw_below_drewN | apply below_drew1 | refine below_set ?_ GE152.out | refine below_set ?_ GE155.out) | exact HB.out))) : w.heap.size ≤ gb156)); have n6_ := Aside0.mk ((by rw [hg]; exact Nat.ne_of_lt (blk_lt (g := gb152) (o := .cells (Ar.cells .u8 64 a0) 39 (0, 0)) (by (with_reducible repeat (first | refine blk_drewN ?_ _ | refine blk_drew ?_ | refine blk_alloc ?_ _)); exact BK152.out)) : gb152 ≠ gb156)); have n7_ := Aside0.mk ((by rw [hg]; exact Nat.ne_of_gt (blk_lt (g := gb152) (o := .cells (Ar.cells .u8 64 a0) 39 (0, 0)) (by (with_reducible repeat (first | refine blk_drewN ?_ _ | refine blk_drew ?_ | refine blk_alloc ?_ _)); exact BK152.out)) : gb156 ≠ gb152)); have n8_ := Aside0.mk ((by rw [hg]; exact Nat.ne_of_lt (blk_lt (g := gb155) (o := .cells (Ar.cells .u32 64 t154) 42 (0, 0)) (by (with_reducible repeat (first | refine blk_drewN ?_ _ | refine blk_drew ?_ | refine blk_alloc ?_ _)); exact BK155.out)) : gb155 ≠ gb156)); have n9_ := Aside0.mk ((by rw [hg]; exact Nat.ne_of_gt (blk_lt (g := gb155) (o := .cells (Ar.cells .u32 64 t154) 42 (0, 0)) (by (with_reducible repeat (first | refine blk_drewN ?_ _ | refine blk_drew ?_ | refine blk_alloc ?_ _)); exact BK155.out)) : gb156 ≠ gb155)); clear BK152; clear BK155; clear HB; have BK152 := n0_; have BK155 := n1_; have HB := n2_; have BK156 := n3_; have GW156 := n4_; have GE156 := n5_; have NB152_156 := n6_; have NB156_152 := n7_; have NB155_156 := n8_; have NB156_155 := n9_; clear n0_ n1_ n2_ n3_ n4_ n5_ n6_ n7_ n8_ n9_; clear hb hbox hg))
    go_loopg [8] k (fun kq v8 w' => ∃ (x8_1 : Int) (x157000_1 : List Int), v8 = .int .i64 x8_1 ∧ Aside0 (drawlotlaw03_PlanAny.l0 kq (wrap64 (Int.tmod a1 49)) x8_1 a0 t154 x157000_1 = some r) ∧ Aside0 (kq ≤ k) ∧ Aside0 (w'.heap[gb152]? = some (.cells (Ar.cells .u8 64 a0) 39 (0, 0))) ∧ Aside0 (w'.heap[gb155]? = some (.cells (Ar.cells .u32 64 t154) 42 (0, 0))) ∧ Aside0 (w'.heap[gb156]? = some (.cells (Ar.cells .u32 64 x157000_1) 41 (0, 0))) ∧ Aside0 (Below w.heap.size w w'))
    case atStart => exact ⟨(0), ((List.replicate 64 0)), (by first | rfl | (simp; done) | (simp [*]; done)), H', ⟨Nat.le_refl _⟩, ⟨by (with_reducible repeat (first | refine blk_drewN ?_ _ | refine blk_drew ?_ | refine blk_alloc ?_ _)); exact BK152.out⟩, ⟨by (with_reducible repeat (first | refine blk_drewN ?_ _ | refine blk_drew ?_ | refine blk_alloc ?_ _)); exact BK155.out⟩, ⟨by (with_reducible repeat (first | refine blk_drewN ?_ _ | refine blk_drew ?_ | refine blk_alloc ?_ _)); exact BK156.out⟩, ⟨by repeat (first | (with_reducible first | exact HB.out | apply below_alloc | apply pw_below_drewN | apply below_drew1 | refine below_set ?_ GE152.out | refine below_set ?_ GE155.out | refine below_set ?_ GE156.out) | exact HB.out)⟩⟩
    case round =>
      clear H'
      try clear p2
      try clear c3
      try clear c4
      try clear p6
      try clear c9
      obtain ⟨x8_1, x157000_1, rfl, HA, HK1, BK152, BK155, BK156, HB⟩ := hrel
      cases gk with
      | zero => exact absurd HA.out (by simp [drawlotlaw03_PlanAny.l0])
      | succ k1 =>
        have H := HA.out
        clear HA
        simp only [drawlotlaw03_PlanAny.l0] at H
        by_cases c12 : x8_1 < 16
        · rw [if_pos c12] at H
          have c12b0 : decide (x8_1 < 16) = true := decide_eq_true c12
          clear c12
          obtain ⟨ji13, hji13⟩ : ∃ j_ : Int, (wrap64 ((wrap64 (Int.tmod a1 49)) + x8_1)) = j_ := ⟨_, rfl⟩
          replace H : (if 0 ≤ (ji13) then (if (ji13) < 64 then (drawlotlaw03_PlanAny.l0 k1 (wrap64 (Int.tmod a1 49)) (wrap64 (x8_1 + 1)) a0 t154 (Ar.set 64 x157000_1 (ji13) (Ar.get 64 t154 (ji13)))) else (none)) else (none)) = some r := by first | (rw [hji13] at H; exact H) | (simp only [hji13] at H ⊢; exact H)
          have hji13w : (IntKind.i64.wrap ((wrap64 (Int.tmod a1 49)) + x8_1)) = ji13 := (i64_w _).trans hji13
          by_cases c14 : 0 ≤ (ji13)
          · rw [if_pos c14] at H
            have c14b0 : decide (0 ≤ (ji13)) = true := decide_eq_true c14
            clear c14
            by_cases c15 : (ji13) < 64
            · rw [if_pos c15] at H
              have c15b0 : decide ((ji13) < 64) = true := decide_eq_true c15
              clear c15
              obtain ⟨y157, hy157⟩ : ∃ y_ : List Int, y_ = (Ar.set 64 x157000_1 (ji13) (Ar.get 64 t154 (ji13))) := ⟨_, rfl⟩
              replace H : (drawlotlaw03_PlanAny.l0 k1 (wrap64 (Int.tmod a1 49)) (wrap64 (x8_1 + 1)) a0 t154 y157) = some r := by first | (rw [hy157]; with_reducible exact H) | (have H2_ := (Option.bind_some _ _).symm.trans H; rw [hy157]; with_reducible exact H2_) | (have H2_ := (Option.bind_some _ _).symm.trans H; with_reducible exact H2_) | with_reducible exact H | (rw [hy157]; exact H) | exact H
              have Ny157 := Aside0.mk hy157
              clear hy157
              have H' := Aside0.mk H
              clear H
              go_wp2_with (first | ((with_reducible refine gate_dst (N := 29) rfl ?_); (try (refine gate_guard (by rfl) ?_; dsimp only)); refine Ar.idx_event rfl (D := 29) rfl (T := 42) (n := 64) rfl Try.underlying42 (by kernel_rfl) (g := gb155) rfl (j := (ji13)) (by first | rfl | (go_simp; done) | (go_simp; rfl)) (of_decide_eq_true (by first | (with_reducible assumption) | assumption)) (of_decide_eq_true (by first | (with_reducible assumption) | assumption)) ?_) | ((with_reducible refine gate_dst (N := 30) rfl ?_); (try (refine gate_guard (by rfl) ?_; dsimp only)); refine Ar.get_event rfl (D := 30) rfl (E := 22) rfl Try.underlying22 (g := gb155) (j := (ji13)) rfl (by (with_reducible repeat (first | refine blk_drewN ?_ _ | refine blk_drew ?_ | refine blk_alloc ?_ _)); exact BK155.out) (of_decide_eq_true (by first | (with_reducible assumption) | assumption)) (of_decide_eq_true (by first | (with_reducible assumption) | assumption)) ?_) | ((with_reducible refine gate_dst (N := 31) rfl ?_); (try (refine gate_guard (by rfl) ?_; dsimp only)); refine Ar.idx_event rfl (D := 31) rfl (T := 41) (n := 64) rfl Try.underlying41 (by kernel_rfl) (g := gb156) rfl (j := (ji13)) (by first | rfl | (go_simp; done) | (go_simp; rfl)) (of_decide_eq_true (by first | (with_reducible assumption) | assumption)) (of_decide_eq_true (by first | (with_reducible assumption) | assumption)) ?_) | ((with_reducible refine gate_store (t := 22) (p := 31) rfl ?_); refine Ar.put_event rfl rfl rfl (by kernel_rfl) (g := gb156) (j := (ji13)) rfl (z := (Ar.get 64 t154 (ji13))) (by first | rfl | (go_simp; done) | (go_simp; rfl)) (by (with_reducible repeat (first | refine blk_drewN ?_ _ | refine blk_drew ?_ | refine blk_alloc ?_ _)); exact BK156.out) (of_decide_eq_true (by first | (with_reducible assumption) | assumption)) (of_decide_eq_true (by first | (with_reducible assumption) | assumption)) ?_; intro w16 hbk_ hg; rw [← Ny157.out] at hbk_; have n0_ := Aside0.mk (blk_grown (g := gb152) (o := .cells (Ar.cells .u8 64 a0) 39 (0, 0)) (by (with_reducible repeat (first | refine blk_drewN ?_ _ | refine blk_drew ?_ | refine blk_alloc ?_ _)); exact BK152.out) hg (fun e_ => NB152_156.out (Option.some.inj e_))); have n1_ := Aside0.mk (blk_grown (g := gb155) (o := .cells (Ar.cells .u32 64 t154) 42 (0, 0)) (by (with_reducible repeat (first | refine blk_drewN ?_ _ | refine blk_drew ?_ | refine blk_alloc ?_ _)); exact BK155.out) hg (fun e_ => NB155_156.out (Option.some.inj e_))); have n2_ := Aside0.mk (hbk_); have n3_ := Aside0.mk (Below.grown (by repeat (first | (with_reducible first | exact HB.out | apply below_alloc | apply pw_below_drewN | apply below_drew1 | refine below_set ?_ GE152.out | refine below_set ?_ GE155.out | refine below_set ?_ GE156.out) | exact HB.out)) hg ((below_size (by repeat (first | (with_reducible first | exact HB.out | apply below_alloc | apply pw_below_drewN | apply below_drew1 | refine below_set ?_ GE152.out | refine below_set ?_ GE155.out | refine below_set ?_ GE156.out) | exact HB.out)))) (fun _ e_ => by cases e_; exact GE156.out)); clear BK152; clear BK155; clear BK156; clear HB; have BK152 := n0_; have BK155 := n1_; have BK156 := n2_; have HB := n3_; clear n0_ n1_ n2_ n3_; clear hbk_ hg))
              go_roundg k1
              case measure => have := HK1.out; omega
              case rel => exact ⟨(wrap64 (x8_1 + 1)), (y157), (by first | rfl | (simp; done) | (simp [*]; done)), H', ⟨by have := HK1.out; omega⟩, ⟨by (with_reducible repeat (first | refine blk_drewN ?_ _ | refine blk_drew ?_ | refine blk_alloc ?_ _)); exact BK152.out⟩, ⟨by (with_reducible repeat (first | refine blk_drewN ?_ _ | refine blk_drew ?_ | refine blk_alloc ?_ _)); exact BK155.out⟩, ⟨by (with_reducible repeat (first | refine blk_drewN ?_ _ | refine blk_drew ?_ | refine blk_alloc ?_ _)); exact BK156.out⟩, ⟨by repeat (first | (with_reducible first | exact HB.out | apply below_alloc | apply pw_below_drewN | apply below_drew1 | refine below_set ?_ GE152.out | refine below_set ?_ GE155.out | refine below_set ?_ GE156.out) | exact HB.out)⟩⟩
            · rw [if_neg c15] at H
              exact absurd H (by simp)
          · rw [if_neg c14] at H
            exact absurd H (by simp)
        · rw [if_neg c12] at H
          have c12b0 : decide (x8_1 < 16) = false := decide_eq_false c12
          clear c12
          have H' := Aside0.mk H
          clear H
          go_wp2
          go_loopg [9] k1 (fun kq v9 w' => ∃ (x9_2 : Int) (x157000_2 : List Int), v9 = .int .i64 x9_2 ∧ Aside0 (drawlotlaw03_PlanAny.l1 kq x9_2 a0 x157000_2 = some r) ∧ Aside0 (kq ≤ k1) ∧ Aside0 (w'.heap[gb152]? = some (.cells (Ar.cells .u8 64 a0) 39 (0, 0))) ∧ Aside0 (w'.heap[gb155]? = some (.cells (Ar.cells .u32 64 t154) 42 (0, 0))) ∧ Aside0 (w'.heap[gb156]? = some (.cells (Ar.cells .u32 64 x157000_2) 41 (0, 0))) ∧ Aside0 (Below w.heap.size w w'))
          case atStart => exact ⟨(wrap64 ((wrap64 (Int.tmod a1 49)) - 1)), (x157000_1), (by first | rfl | (simp; done) | (simp [*]; done)), H', ⟨Nat.le_refl _⟩, ⟨by (with_reducible repeat (first | refine blk_drewN ?_ _ | refine blk_drew ?_ | refine blk_alloc ?_ _)); exact BK152.out⟩, ⟨by (with_reducible repeat (first | refine blk_drewN ?_ _ | refine blk_drew ?_ | refine blk_alloc ?_ _)); exact BK155.out⟩, ⟨by (with_reducible repeat (first | refine blk_drewN ?_ _ | refine blk_drew ?_ | refine blk_alloc ?_ _)); exact BK156.out⟩, ⟨by repeat (first | (with_reducible first | exact HB.out | apply below_alloc | apply pw_below_drewN | apply below_drew1 | refine below_set ?_ GE152.out | refine below_set ?_ GE155.out | refine below_set ?_ GE156.out) | exact HB.out)⟩⟩
          case round =>
            clear H'
            try clear c1
            try clear p2
            try clear c3
            try clear c4
            try clear p6
            try clear c9
            try clear c12
            try clear c12b0
            try clear c14
            try clear c14b0
            try clear c15
            try clear c15b0
            try clear p2
            try clear p6
            obtain ⟨x9_2, x157000_2, rfl, HA, HK2, BK152, BK155, BK156, HB⟩ := hrel
            cases gk with
            | zero => exact absurd HA.out (by simp [drawlotlaw03_PlanAny.l1])
            | succ k2 =>
              have H := HA.out
              clear HA
              simp only [drawlotlaw03_PlanAny.l1] at H
              by_cases c17 : x9_2 ≥ 0
              · rw [if_pos c17] at H
                have c17b0 : decide (0 ≤ x9_2) = true := decide_eq_true c17
                clear c17
                obtain ⟨ji18, hji18⟩ : ∃ j_ : Int, (wrap64 (x9_2 + 16)) = j_ := ⟨_, rfl⟩
                replace H : (if 0 ≤ (ji18) then (if (ji18) < 64 then (if 0 ≤ (wrap64 (x9_2 + 14)) then (if (wrap64 (x9_2 + 14)) < 64 then ((plan_Second.f (Ar.get 64 x157000_2 (wrap64 (x9_2 + 14)))).bind fun t158 => (if 0 ≤ (wrap64 (x9_2 + 9)) then (if (wrap64 (x9_2 + 9)) < 64 then (if 0 ≤ (wrap64 (x9_2 + 1)) then (if (wrap64 (x9_2 + 1)) < 64 then ((plan_First.f (Ar.get 64 x157000_2 (wrap64 (x9_2 + 1)))).bind fun t159 => (if 0 ≤ x9_2 then (if x9_2 < 64 then (drawlotlaw03_PlanAny.l1 k2 (wrap64 (x9_2 - 1)) a0 (Ar.set 64 x157000_2 x9_2 (((((((Ar.get 64 x157000_2 (ji18)) - t158) % 4294967296) - (Ar.get 64 x157000_2 (wrap64 (x9_2 + 9)))) % 4294967296) - t159) % 4294967296))) else (none)) else (none))) else (none)) else (none)) else (none)) else (none))) else (none)) else (none)) else (none)) else (none)) = some r := by first | (rw [hji18] at H; exact H) | (simp only [hji18] at H ⊢; exact H)
                have hji18w : (IntKind.i64.wrap (x9_2 + 16)) = ji18 := (i64_w _).trans hji18
                by_cases c19 : 0 ≤ (ji18)
                · rw [if_pos c19] at H
                  have c19b0 : decide (0 ≤ (ji18)) = true := decide_eq_true c19
                  clear c19
                  by_cases c20 : (ji18) < 64
                  · rw [if_pos c20] at H
                    have c20b0 : decide ((ji18) < 64) = true := decide_eq_true c20
                    clear c20
                    obtain ⟨ji21, hji21⟩ : ∃ j_ : Int, (wrap64 (x9_2 + 14)) = j_ := ⟨_, rfl⟩
                    replace H : (if 0 ≤ (ji21) then (if (ji21) < 64 then ((plan_Second.f (Ar.get 64 x157000_2 (ji21))).bind fun t158 => (if 0 ≤ (wrap64 (x9_2 + 9)) then (if (wrap64 (x9_2 + 9)) < 64 then (if 0 ≤ (wrap64 (x9_2 + 1)) then (if (wrap64 (x9_2 + 1)) < 64 then ((plan_First.f (Ar.get 64 x157000_2 (wrap64 (x9_2 + 1)))).bind fun t159 => (if 0 ≤ x9_2 then (if x9_2 < 64 then (drawlotlaw03_PlanAny.l1 k2 (wrap64 (x9_2 - 1)) a0 (Ar.set 64 x157000_2 x9_2 (((((((Ar.get 64 x157000_2 (ji18)) - t158) % 4294967296) - (Ar.get 64 x157000_2 (wrap64 (x9_2 + 9)))) % 4294967296) - t159) % 4294967296))) else (none)) else (none))) else (none)) else (none)) else (none)) else (none))) else (none)) else (none)) = some r := by first | (rw [hji21] at H; exact H) | (simp only [hji21] at H ⊢; exact H)
                    have hji21w : (IntKind.i64.wrap (x9_2 + 14)) = ji21 := (i64_w _).trans hji21
                    by_cases c22 : 0 ≤ (ji21)
                    · rw [if_pos c22] at H
                      have c22b0 : decide (0 ≤ (ji21)) = true := decide_eq_true c22
                      clear c22
                      by_cases c23 : (ji21) < 64
                      · rw [if_pos c23] at H
                        have c23b0 : decide ((ji21) < 64) = true := decide_eq_true c23
                        clear c23
                        replace H := Option.bind_eq_some_iff.mp H
                        obtain ⟨t158, A240, H⟩ := H
                        replace H : (if 0 ≤ (wrap64 (x9_2 + 9)) then (if (wrap64 (x9_2 + 9)) < 64 then (if 0 ≤ (wrap64 (x9_2 + 1)) then (if (wrap64 (x9_2 + 1)) < 64 then ((plan_First.f (Ar.get 64 x157000_2 (wrap64 (x9_2 + 1)))).bind fun t159 => (if 0 ≤ x9_2 then (if x9_2 < 64 then (drawlotlaw03_PlanAny.l1 k2 (wrap64 (x9_2 - 1)) a0 (Ar.set 64 x157000_2 x9_2 (((((((Ar.get 64 x157000_2 (ji18)) - t158) % 4294967296) - (Ar.get 64 x157000_2 (wrap64 (x9_2 + 9)))) % 4294967296) - t159) % 4294967296))) else (none)) else (none))) else (none)) else (none)) else (none)) else (none)) = some r := H
                        have A24 := Aside0.mk A240
                        clear A240
                        obtain ⟨ji25, hji25⟩ : ∃ j_ : Int, (wrap64 (x9_2 + 9)) = j_ := ⟨_, rfl⟩
                        replace H : (if 0 ≤ (ji25) then (if (ji25) < 64 then (if 0 ≤ (wrap64 (x9_2 + 1)) then (if (wrap64 (x9_2 + 1)) < 64 then ((plan_First.f (Ar.get 64 x157000_2 (wrap64 (x9_2 + 1)))).bind fun t159 => (if 0 ≤ x9_2 then (if x9_2 < 64 then (drawlotlaw03_PlanAny.l1 k2 (wrap64 (x9_2 - 1)) a0 (Ar.set 64 x157000_2 x9_2 (((((((Ar.get 64 x157000_2 (ji18)) - t158) % 4294967296) - (Ar.get 64 x157000_2 (ji25))) % 4294967296) - t159) % 4294967296))) else (none)) else (none))) else (none)) else (none)) else (none)) else (none)) = some r := by first | (rw [hji25] at H; exact H) | (simp only [hji25] at H ⊢; exact H)
                        (try rw [hji25] at A24)
                        have hji25w : (IntKind.i64.wrap (x9_2 + 9)) = ji25 := (i64_w _).trans hji25
                        by_cases c26 : 0 ≤ (ji25)
                        · rw [if_pos c26] at H
                          have c26b0 : decide (0 ≤ (ji25)) = true := decide_eq_true c26
                          clear c26
                          by_cases c27 : (ji25) < 64
                          · rw [if_pos c27] at H
                            have c27b0 : decide ((ji25) < 64) = true := decide_eq_true c27
                            clear c27
                            obtain ⟨ji28, hji28⟩ : ∃ j_ : Int, (wrap64 (x9_2 + 1)) = j_ := ⟨_, rfl⟩
                            replace H : (if 0 ≤ (ji28) then (if (ji28) < 64 then ((plan_First.f (Ar.get 64 x157000_2 (ji28))).bind fun t159 => (if 0 ≤ x9_2 then (if x9_2 < 64 then (drawlotlaw03_PlanAny.l1 k2 (wrap64 (x9_2 - 1)) a0 (Ar.set 64 x157000_2 x9_2 (((((((Ar.get 64 x157000_2 (ji18)) - t158) % 4294967296) - (Ar.get 64 x157000_2 (ji25))) % 4294967296) - t159) % 4294967296))) else (none)) else (none))) else (none)) else (none)) = some r := by first | (rw [hji28] at H; exact H) | (simp only [hji28] at H ⊢; exact H)
                            (try rw [hji28] at A24)
                            have hji28w : (IntKind.i64.wrap (x9_2 + 1)) = ji28 := (i64_w _).trans hji28
                            by_cases c29 : 0 ≤ (ji28)
                            · rw [if_pos c29] at H
                              have c29b0 : decide (0 ≤ (ji28)) = true := decide_eq_true c29
                              clear c29
                              by_cases c30 : (ji28) < 64
                              · rw [if_pos c30] at H
                                have c30b0 : decide ((ji28) < 64) = true := decide_eq_true c30
                                clear c30
                                replace H := Option.bind_eq_some_iff.mp H
                                obtain ⟨t159, A310, H⟩ := H
                                replace H : (if 0 ≤ x9_2 then (if x9_2 < 64 then (drawlotlaw03_PlanAny.l1 k2 (wrap64 (x9_2 - 1)) a0 (Ar.set 64 x157000_2 x9_2 (((((((Ar.get 64 x157000_2 (ji18)) - t158) % 4294967296) - (Ar.get 64 x157000_2 (ji25))) % 4294967296) - t159) % 4294967296))) else (none)) else (none)) = some r := H
                                have A31 := Aside0.mk A310
                                clear A310
                                by_cases c32 : 0 ≤ x9_2
                                · rw [if_pos c32] at H
                                  have c32b0 : decide (0 ≤ x9_2) = true := decide_eq_true c32
                                  clear c32
                                  by_cases c33 : x9_2 < 64
                                  · rw [if_pos c33] at H
                                    have c33b0 : decide (x9_2 < 64) = true := decide_eq_true c33
                                    clear c33
                                    obtain ⟨y160, hy160⟩ : ∃ y_ : List Int, y_ = (Ar.set 64 x157000_2 x9_2 (((((((Ar.get 64 x157000_2 (ji18)) - t158) % 4294967296) - (Ar.get 64 x157000_2 (ji25))) % 4294967296) - t159) % 4294967296)) := ⟨_, rfl⟩
                                    replace H : (drawlotlaw03_PlanAny.l1 k2 (wrap64 (x9_2 - 1)) a0 y160) = some r := by first | (rw [hy160]; with_reducible exact H) | (have H2_ := (Option.bind_some _ _).symm.trans H; rw [hy160]; with_reducible exact H2_) | (have H2_ := (Option.bind_some _ _).symm.trans H; with_reducible exact H2_) | with_reducible exact H | (rw [hy160]; exact H) | exact H
                                    have Ny160 := Aside0.mk hy160
                                    clear hy160
                                    have H' := Aside0.mk H
                                    clear H
                                    try go_wp2
                                    have n0_ := Aside0.mk (blk_drew BK152.out)
                                    have n1_ := Aside0.mk (blk_drew BK155.out)
                                    have n2_ := Aside0.mk (blk_drew BK156.out)
                                    have n3_ := Aside0.mk (below_drew1 HB.out)
                                    clear BK152
                                    clear BK155
                                    clear BK156
                                    clear HB
                                    have BK152 := n0_
                                    have BK155 := n1_
                                    have BK156 := n2_
                                    have HB := n3_
                                    clear n0_ n1_ n2_ n3_
                                    have p35 : (0 ≤ ((ji18) : Int)) = True := eq_true (of_decide_eq_true (by first | (with_reducible assumption) | assumption))
                                    have q35 : (((ji18) : Int) < 64) = True := eq_true (of_decide_eq_true (by first | (with_reducible assumption) | assumption))
                                    have p36 : (0 ≤ ((ji21) : Int)) = True := eq_true (of_decide_eq_true (by first | (with_reducible assumption) | assumption))
                                    have q36 : (((ji21) : Int) < 64) = True := eq_true (of_decide_eq_true (by first | (with_reducible assumption) | assumption))
                                    have p37 : (0 ≤ ((ji25) : Int)) = True := eq_true (of_decide_eq_true (by first | (with_reducible assumption) | assumption))
                                    have q37 : (((ji25) : Int) < 64) = True := eq_true (of_decide_eq_true (by first | (with_reducible assumption) | assumption))
                                    have p38 : (0 ≤ ((ji28) : Int)) = True := eq_true (of_decide_eq_true (by first | (with_reducible assumption) | assumption))
                                    have q38 : (((ji28) : Int) < 64) = True := eq_true (of_decide_eq_true (by first | (with_reducible assumption) | assumption))
                                    refine start_ (n := 24) (S := fun w' => w'.cell? ⟨gb156, ((ji18) : Int).toNat, none⟩ = some (.int .u32 (Ar.get 64 x157000_2 (ji18))) ∧ w'.cell? ⟨gb156, ((ji21) : Int).toNat, none⟩ = some (.int .u32 (Ar.get 64 x157000_2 (ji21))) ∧ w'.cell? ⟨gb156, ((ji25) : Int).toNat, none⟩ = some (.int .u32 (Ar.get 64 x157000_2 (ji25))) ∧ w'.cell? ⟨gb156, ((ji28) : Int).toNat, none⟩ = some (.int .u32 (Ar.get 64 x157000_2 (ji28)))) (ds := [23]) #[false, false, false, false, false, false, false, false, false, false, false, false, false, false, false, false, false, false, false, false, false, false, false, false] (by kernel_rfl) rfl rfl ⟨(Ar.cell_run (j := (ji18)) BK156.out (of_decide_eq_true (by first | (with_reducible assumption) | assumption)) (of_decide_eq_true (by first | (with_reducible assumption) | assumption))), (Ar.cell_run (j := (ji21)) BK156.out (of_decide_eq_true (by first | (with_reducible assumption) | assumption)) (of_decide_eq_true (by first | (with_reducible assumption) | assumption))), (Ar.cell_run (j := (ji25)) BK156.out (of_decide_eq_true (by first | (with_reducible assumption) | assumption)) (of_decide_eq_true (by first | (with_reducible assumption) | assumption))), (Ar.cell_run (j := (ji28)) BK156.out (of_decide_eq_true (by first | (with_reducible assumption) | assumption)) (of_decide_eq_true (by first | (with_reducible assumption) | assumption)))⟩ (fun hHeld => ?_); refine with_tabW drawlotlaw03_PlanAny.tab13 drawlotlaw03_PlanAny.bits13 (fun HT_ HW_ => ?_)
                                    generalize wr.drew = w34 at BK152 BK155 BK156 HB hHeld ⊢
                                    refine pure_ (i := 0) (N := some 38) (v := ?_) (a' := ?_) #[true, false, false, false, false, false, false, false, false, false, false, false, false, false, false, false, false, false, false, false, false, false, false, false] rfl rfl (any_of HT_.out (by kernel_rfl)) (fun _ _ _ h => h) (Or.inl ⟨by rfl, ?_⟩) ?_ ?_
                                    rotate_left
                                    · intro w'
                                      go_simp
                                      with_reducible rfl
                                    rotate_left
                                    · simp only [Act.put, List.setIfInBounds_toArray, List.set_cons_zero, List.set_cons_succ, i64_w, i32_w]
                                      rfl
                                    refine pure_ (i := 1) (N := some 39) (v := ?_) (a' := ?_) #[true, true, false, false, false, false, false, false, false, false, false, false, false, false, false, false, false, false, false, false, false, false, false, false] rfl rfl (any_of HT_.out (by kernel_rfl)) (fun _ _ _ h => h) (Or.inl ⟨by rfl, ?_⟩) ?_ ?_
                                    rotate_left
                                    · intro w'
                                      go_simp
                                      with_reducible rfl
                                    rotate_left
                                    · simp only [Act.put, List.setIfInBounds_toArray, List.set_cons_zero, List.set_cons_succ, i64_w, i32_w]
                                      rfl
                                    refine pure_ (i := 2) (N := some 40) (v := ?_) (a' := ?_) #[true, true, true, false, false, false, false, false, false, false, false, false, false, false, false, false, false, false, false, false, false, false, false, false] rfl rfl (any_of HT_.out (by kernel_rfl)) (fun _ _ _ h => h) (Or.inl ⟨by rfl, ?_⟩) ?_ ?_
                                    rotate_left
                                    · intro w'
                                      go_simp
                                      with_reducible rfl
                                    rotate_left
                                    · simp only [Act.put, List.setIfInBounds_toArray, List.set_cons_zero, List.set_cons_succ, i64_w, i32_w]
                                      rfl
                                    refine pure_ (i := 3) (N := some 41) (v := ?_) (a' := ?_) #[true, true, true, true, false, false, false, false, false, false, false, false, false, false, false, false, false, false, false, false, false, false, false, false] rfl rfl (any_of HT_.out (by kernel_rfl)) (fun _ _ _ h => h) (Or.inl ⟨by rfl, ?_⟩) ?_ ?_
                                    rotate_left
                                    · intro w'
                                      go_simp
                                      with_reducible rfl
                                    rotate_left
                                    · simp only [Act.put, List.setIfInBounds_toArray, List.set_cons_zero, List.set_cons_succ, i64_w, i32_w]
                                      rfl
                                    refine pure_ (i := 5) (N := some 43) (v := ?_) (a' := ?_) #[true, true, true, true, false, true, false, false, false, false, false, false, false, false, false, false, false, false, false, false, false, false, false, false] rfl rfl (any_of HT_.out (by kernel_rfl)) (fun _ _ _ h => h) (Or.inl ⟨by rfl, ?_⟩) ?_ ?_
                                    rotate_left
                                    · intro w'
                                      go_simp
                                      with_reducible rfl
                                    rotate_left
                                    · simp only [Act.put, List.setIfInBounds_toArray, List.set_cons_zero, List.set_cons_succ, i64_w, i32_w]
                                      rfl
                                    refine pure_ (i := 6) (N := some 44) (v := ?_) (a' := ?_) #[true, true, true, true, false, true, true, false, false, false, false, false, false, false, false, false, false, false, false, false, false, false, false, false] rfl rfl (any_of HT_.out (by kernel_rfl)) (fun _ _ _ h => h) (Or.inl ⟨by rfl, ?_⟩) ?_ ?_
                                    rotate_left
                                    · intro w'
                                      go_simp
                                      with_reducible rfl
                                    rotate_left
                                    · simp only [Act.put, List.setIfInBounds_toArray, List.set_cons_zero, List.set_cons_succ, i64_w, i32_w]
                                      rfl
                                    refine pure_ (i := 7) (N := some 45) (v := ?_) (a' := ?_) #[true, true, true, true, false, true, true, true, false, false, false, false, false, false, false, false, false, false, false, false, false, false, false, false] rfl rfl (any_of HT_.out (by kernel_rfl)) (fun _ _ _ h => h) (Or.inl ⟨by rfl, ?_⟩) ?_ ?_
                                    rotate_left
                                    · intro w'
                                      go_simp
                                      with_reducible rfl
                                    rotate_left
                                    · simp only [Act.put, List.setIfInBounds_toArray, List.set_cons_zero, List.set_cons_succ, i64_w, i32_w]
                                      rfl
                                    refine pure_ (i := 11) (N := some 49) (v := ?_) (a' := ?_) #[true, true, true, true, false, true, true, true, false, false, false, true, false, false, false, false, false, false, false, false, false, false, false, false] rfl rfl (any_of HT_.out (by kernel_rfl)) (fun _ _ _ h => h) (Or.inl ⟨by rfl, ?_⟩) ?_ ?_
                                    rotate_left
                                    · intro w'
                                      go_simp
                                      with_reducible rfl
                                    rotate_left
                                    · simp only [Act.put, List.setIfInBounds_toArray, List.set_cons_zero, List.set_cons_succ, i64_w, i32_w]
                                      rfl
                                    refine pure_ (i := 12) (N := some 50) (v := ?_) (a' := ?_) #[true, true, true, true, false, true, true, true, false, false, false, true, true, false, false, false, false, false, false, false, false, false, false, false] rfl rfl (any_of HT_.out (by kernel_rfl)) (fun _ _ _ h => h) (Or.inl ⟨by rfl, ?_⟩) ?_ ?_
                                    rotate_left
                                    · intro w'
                                      go_simp
                                      with_reducible rfl
                                    rotate_left
                                    · simp only [Act.put, List.setIfInBounds_toArray, List.set_cons_zero, List.set_cons_succ, i64_w, i32_w]
                                      rfl
                                    refine pure_ (i := 13) (N := some 51) (v := ?_) (a' := ?_) #[true, true, true, true, false, true, true, true, false, false, false, true, true, true, false, false, false, false, false, false, false, false, false, false] rfl rfl (any_of HT_.out (by kernel_rfl)) (fun _ _ _ h => h) (Or.inl ⟨by rfl, ?_⟩) ?_ ?_
                                    rotate_left
                                    · intro w'
                                      go_simp
                                      with_reducible rfl
                                    rotate_left
                                    · simp only [Act.put, List.setIfInBounds_toArray, List.set_cons_zero, List.set_cons_succ, i64_w, i32_w]
                                      rfl
                                    refine pure_ (i := 16) (N := some 54) (v := ?_) (a' := ?_) #[true, true, true, true, false, true, true, true, false, false, false, true, true, true, false, false, true, false, false, false, false, false, false, false] rfl rfl (any_of HT_.out (by kernel_rfl)) (fun _ _ _ h => h) (Or.inl ⟨by rfl, ?_⟩) ?_ ?_
                                    rotate_left
                                    · intro w'
                                      go_simp
                                      with_reducible rfl
                                    rotate_left
                                    · simp only [Act.put, List.setIfInBounds_toArray, List.set_cons_zero, List.set_cons_succ, i64_w, i32_w]
                                      rfl
                                    refine pure_ (i := 17) (N := some 55) (v := ?_) (a' := ?_) #[true, true, true, true, false, true, true, true, false, false, false, true, true, true, false, false, true, true, false, false, false, false, false, false] rfl rfl (any_of HT_.out (by kernel_rfl)) (fun _ _ _ h => h) (Or.inl ⟨by rfl, ?_⟩) ?_ ?_
                                    rotate_left
                                    · intro w'
                                      go_simp
                                      with_reducible rfl
                                    rotate_left
                                    · simp only [Act.put, List.setIfInBounds_toArray, List.set_cons_zero, List.set_cons_succ, i64_w, i32_w]
                                      rfl
                                    refine pure_ (i := 18) (N := some 56) (v := ?_) (a' := ?_) #[true, true, true, true, false, true, true, true, false, false, false, true, true, true, false, false, true, true, true, false, false, false, false, false] rfl rfl (any_of HT_.out (by kernel_rfl)) (fun _ _ _ h => h) (Or.inl ⟨by rfl, ?_⟩) ?_ ?_
                                    rotate_left
                                    · intro w'
                                      go_simp
                                      with_reducible rfl
                                    rotate_left
                                    · simp only [Act.put, List.setIfInBounds_toArray, List.set_cons_zero, List.set_cons_succ, i64_w, i32_w]
                                      rfl
                                    refine take_ (i := 4) (N := some 42) (v := ?_) (a' := ?_) #[true, true, true, true, true, true, true, true, false, false, false, true, true, true, false, false, true, true, true, false, false, false, false, false] rfl rfl (take_ofW HT_.out HW_.out (by kernel_rfl)) (fun _ _ _ h => h) (Or.inl ⟨by rfl, ?_⟩) hHeld ?_ ?_
                                    rotate_left
                                    · rintro w' ⟨s0, s1, s2, s3⟩
                                      go_simp
                                      with_reducible rfl
                                    rotate_left
                                    · simp only [Act.put, List.setIfInBounds_toArray, List.set_cons_zero, List.set_cons_succ, i64_w, i32_w]
                                      rfl
                                    refine take_ (i := 8) (N := some 46) (v := ?_) (a' := ?_) #[true, true, true, true, true, true, true, true, true, false, false, true, true, true, false, false, true, true, true, false, false, false, false, false] rfl rfl (take_ofW HT_.out HW_.out (by kernel_rfl)) (fun _ _ _ h => h) (Or.inl ⟨by rfl, ?_⟩) hHeld ?_ ?_
                                    rotate_left
                                    · rintro w' ⟨s0, s1, s2, s3⟩
                                      go_simp
                                      with_reducible rfl
                                    rotate_left
                                    · simp only [Act.put, List.setIfInBounds_toArray, List.set_cons_zero, List.set_cons_succ, i64_w, i32_w]
                                      rfl
                                    refine take_ (i := 14) (N := some 52) (v := ?_) (a' := ?_) #[true, true, true, true, true, true, true, true, true, false, false, true, true, true, true, false, true, true, true, false, false, false, false, false] rfl rfl (take_ofW HT_.out HW_.out (by kernel_rfl)) (fun _ _ _ h => h) (Or.inl ⟨by rfl, ?_⟩) hHeld ?_ ?_
                                    rotate_left
                                    · rintro w' ⟨s0, s1, s2, s3⟩
                                      go_simp
                                      with_reducible rfl
                                    rotate_left
                                    · simp only [Act.put, List.setIfInBounds_toArray, List.set_cons_zero, List.set_cons_succ, i64_w, i32_w]
                                      rfl
                                    refine take_ (i := 19) (N := some 57) (v := ?_) (a' := ?_) #[true, true, true, true, true, true, true, true, true, false, false, true, true, true, true, false, true, true, true, true, false, false, false, false] rfl rfl (take_ofW HT_.out HW_.out (by kernel_rfl)) (fun _ _ _ h => h) (Or.inl ⟨by rfl, ?_⟩) hHeld ?_ ?_
                                    rotate_left
                                    · rintro w' ⟨s0, s1, s2, s3⟩
                                      go_simp
                                      with_reducible rfl
                                    rotate_left
                                    · simp only [Act.put, List.setIfInBounds_toArray, List.set_cons_zero, List.set_cons_succ, i64_w, i32_w]
                                      rfl
                                    refine one_ (i := 9) (N := some 47) #[true, true, true, true, true, true, true, true, true, true, false, true, true, true, true, false, true, true, true, true, false, false, false, false] rfl rfl (one_of HT_.out (by kernel_rfl)) (by decide) (fun K hK => ?_)
                                    refine goes_ Try.func37 (by kernel_rfl) rfl #[.int .u32 (Ar.get 64 x157000_2 (ji21))] (by rfl) rfl rfl (by (try simp only [List.map_toArray, List.map_cons, List.map_nil]); first | done | (simp only [hji21]; rfl) | rfl | (simp only [List.length_drop, List.length_take]; rfl)) ?_
                                    with_reducible refine (plan_Second.calls (Ar.get 64 x157000_2 (ji21)) t158 _ A24.out).mono ?_
                                    rintro e w39 ⟨rfl, hb⟩
                                    refine ⟨_, rfl, ?_⟩
                                    have n0_ := Aside0.mk (blk_below (g := gb152) (o := .cells (Ar.cells .u8 64 a0) 39 (0, 0)) (by (with_reducible repeat (first | refine blk_drewN ?_ _ | refine blk_drew ?_ | refine blk_alloc ?_ _)); exact BK152.out) hb)
                                    have n1_ := Aside0.mk (blk_below (g := gb155) (o := .cells (Ar.cells .u32 64 t154) 42 (0, 0)) (by (with_reducible repeat (first | refine blk_drewN ?_ _ | refine blk_drew ?_ | refine blk_alloc ?_ _)); exact BK155.out) hb)
                                    have n2_ := Aside0.mk (blk_below (g := gb156) (o := .cells (Ar.cells .u32 64 x157000_2) 41 (0, 0)) (by (with_reducible repeat (first | refine blk_drewN ?_ _ | refine blk_drew ?_ | refine blk_alloc ?_ _)); exact BK156.out) hb)
                                    have n3_ := Aside0.mk (below_step (by repeat (first | (with_reducible first | exact HB.out | apply below_alloc | apply pw_below_drewN | apply below_drew1 | refine below_set ?_ GE152.out | refine below_set ?_ GE155.out | refine below_set ?_ GE156.out) | exact HB.out)) hb)
                                    clear BK152
                                    clear BK155
                                    clear BK156
                                    clear HB
                                    have BK152 := n0_
                                    have BK155 := n1_
                                    have BK156 := n2_
                                    have HB := n3_
                                    clear n0_ n1_ n2_ n3_
                                    (try clear hb)
                                    (try clear hb2)
                                    (try clear hk)
                                    (try clear hi)
                                    refine hK.out _ _ ⟨(Ar.cell_run (j := (ji18)) BK156.out (of_decide_eq_true (by first | (with_reducible assumption) | assumption)) (of_decide_eq_true (by first | (with_reducible assumption) | assumption))), (Ar.cell_run (j := (ji21)) BK156.out (of_decide_eq_true (by first | (with_reducible assumption) | assumption)) (of_decide_eq_true (by first | (with_reducible assumption) | assumption))), (Ar.cell_run (j := (ji25)) BK156.out (of_decide_eq_true (by first | (with_reducible assumption) | assumption)) (of_decide_eq_true (by first | (with_reducible assumption) | assumption))), (Ar.cell_run (j := (ji28)) BK156.out (of_decide_eq_true (by first | (with_reducible assumption) | assumption)) (of_decide_eq_true (by first | (with_reducible assumption) | assumption)))⟩ (fun hHeld => ?_)
                                    clear hK K
                                    refine norm_ (a' := ?_) ?_ ?_
                                    rotate_left
                                    · show Act.put _ (some 47) _ = _
                                      simp only [Act.put, List.setIfInBounds_toArray, List.set_cons_zero, List.set_cons_succ, i64_w, i32_w]
                                      rfl
                                    refine pure_ (i := 10) (N := some 48) (v := ?_) (a' := ?_) #[true, true, true, true, true, true, true, true, true, true, true, true, true, true, true, false, true, true, true, true, false, false, false, false] rfl rfl (any_of HT_.out (by kernel_rfl)) (fun _ _ _ h => h) (Or.inl ⟨by rfl, ?_⟩) ?_ ?_
                                    rotate_left
                                    · intro w'
                                      go_simp
                                      with_reducible rfl
                                    rotate_left
                                    · simp only [Act.put, List.setIfInBounds_toArray, List.set_cons_zero, List.set_cons_succ, i64_w, i32_w]
                                      rfl
                                    refine pure_ (i := 15) (N := some 53) (v := ?_) (a' := ?_) #[true, true, true, true, true, true, true, true, true, true, true, true, true, true, true, true, true, true, true, true, false, false, false, false] rfl rfl (any_of HT_.out (by kernel_rfl)) (fun _ _ _ h => h) (Or.inl ⟨by rfl, ?_⟩) ?_ ?_
                                    rotate_left
                                    · intro w'
                                      go_simp
                                      with_reducible rfl
                                    rotate_left
                                    · simp only [Act.put, List.setIfInBounds_toArray, List.set_cons_zero, List.set_cons_succ, i64_w, i32_w]
                                      rfl
                                    refine one_ (i := 20) (N := some 58) #[true, true, true, true, true, true, true, true, true, true, true, true, true, true, true, true, true, true, true, true, true, false, false, false] rfl rfl (one_of HT_.out (by kernel_rfl)) (by decide) (fun K hK => ?_)
                                    refine goes_ Try.func35 (by kernel_rfl) rfl #[.int .u32 (Ar.get 64 x157000_2 (ji28))] (by rfl) rfl rfl (by (try simp only [List.map_toArray, List.map_cons, List.map_nil]); first | done | (simp only [hji28]; rfl) | rfl | (simp only [List.length_drop, List.length_take]; rfl)) ?_
                                    with_reducible refine (plan_First.calls (Ar.get 64 x157000_2 (ji28)) t159 _ A31.out).mono ?_
                                    rintro e w40 ⟨rfl, hb⟩
                                    refine ⟨_, rfl, ?_⟩
                                    have n0_ := Aside0.mk (blk_below (g := gb152) (o := .cells (Ar.cells .u8 64 a0) 39 (0, 0)) (by (with_reducible repeat (first | refine blk_drewN ?_ _ | refine blk_drew ?_ | refine blk_alloc ?_ _)); exact BK152.out) hb)
                                    have n1_ := Aside0.mk (blk_below (g := gb155) (o := .cells (Ar.cells .u32 64 t154) 42 (0, 0)) (by (with_reducible repeat (first | refine blk_drewN ?_ _ | refine blk_drew ?_ | refine blk_alloc ?_ _)); exact BK155.out) hb)
                                    have n2_ := Aside0.mk (blk_below (g := gb156) (o := .cells (Ar.cells .u32 64 x157000_2) 41 (0, 0)) (by (with_reducible repeat (first | refine blk_drewN ?_ _ | refine blk_drew ?_ | refine blk_alloc ?_ _)); exact BK156.out) hb)
                                    have n3_ := Aside0.mk (below_step (by repeat (first | (with_reducible first | exact HB.out | apply below_alloc | apply pw_below_drewN | apply below_drew1 | refine below_set ?_ GE152.out | refine below_set ?_ GE155.out | refine below_set ?_ GE156.out) | exact HB.out)) hb)
                                    clear BK152
                                    clear BK155
                                    clear BK156
                                    clear HB
                                    have BK152 := n0_
                                    have BK155 := n1_
                                    have BK156 := n2_
                                    have HB := n3_
                                    clear n0_ n1_ n2_ n3_
                                    (try clear hb)
                                    (try clear hb2)
                                    (try clear hk)
                                    (try clear hi)
                                    have p41 : (0 ≤ (x9_2 : Int)) = True := eq_true (of_decide_eq_true (by first | (with_reducible assumption) | assumption))
                                    have q41 : ((x9_2 : Int) < 64) = True := eq_true (of_decide_eq_true (by first | (with_reducible assumption) | assumption))
                                    refine hK.out _ _ ⟨(Ar.cell_run (j := (ji18)) BK156.out (of_decide_eq_true (by first | (with_reducible assumption) | assumption)) (of_decide_eq_true (by first | (with_reducible assumption) | assumption))), (Ar.cell_run (j := (ji21)) BK156.out (of_decide_eq_true (by first | (with_reducible assumption) | assumption)) (of_decide_eq_true (by first | (with_reducible assumption) | assumption))), (Ar.cell_run (j := (ji25)) BK156.out (of_decide_eq_true (by first | (with_reducible assumption) | assumption)) (of_decide_eq_true (by first | (with_reducible assumption) | assumption))), (Ar.cell_run (j := (ji28)) BK156.out (of_decide_eq_true (by first | (with_reducible assumption) | assumption)) (of_decide_eq_true (by first | (with_reducible assumption) | assumption)))⟩ (fun hHeld => ?_)
                                    clear hK K
                                    refine norm_ (a' := ?_) ?_ ?_
                                    rotate_left
                                    · show Act.put _ (some 58) _ = _
                                      simp only [Act.put, List.setIfInBounds_toArray, List.set_cons_zero, List.set_cons_succ, i64_w, i32_w]
                                      rfl
                                    refine pure_ (i := 21) (N := some 59) (v := ?_) (a' := ?_) #[true, true, true, true, true, true, true, true, true, true, true, true, true, true, true, true, true, true, true, true, true, true, false, false] rfl rfl (any_of HT_.out (by kernel_rfl)) (fun _ _ _ h => h) (Or.inl ⟨by rfl, ?_⟩) ?_ ?_
                                    rotate_left
                                    · intro w'
                                      go_simp
                                      with_reducible rfl
                                    rotate_left
                                    · simp only [Act.put, List.setIfInBounds_toArray, List.set_cons_zero, List.set_cons_succ, i64_w, i32_w]
                                      rfl
                                    refine pure_ (i := 22) (N := some 60) (v := ?_) (a' := ?_) #[true, true, true, true, true, true, true, true, true, true, true, true, true, true, true, true, true, true, true, true, true, true, true, false] rfl rfl (any_of HT_.out (by kernel_rfl)) (fun _ _ _ h => h) (Or.inl ⟨by rfl, ?_⟩) ?_ ?_
                                    rotate_left
                                    · intro w'
                                      go_simp
                                      with_reducible rfl
                                    rotate_left
                                    · simp only [Act.put, List.setIfInBounds_toArray, List.set_cons_zero, List.set_cons_succ, i64_w, i32_w]
                                      rfl
                                    refine last_ (i := 23) (N := none) #[true, true, true, true, true, true, true, true, true, true, true, true, true, true, true, true, true, true, true, true, true, true, true, true] rfl rfl (one_of HT_.out (by kernel_rfl)) (by decide) (fun K hK => ?_)
                                    refine Ar.put_step (by rfl) rfl rfl (by kernel_rfl) (g := gb156) (j := x9_2) rfl (z := (((((((Ar.get 64 x157000_2 (ji18)) - t158) % 4294967296) - (Ar.get 64 x157000_2 (ji25))) % 4294967296) - t159) % 4294967296)) (by first | rfl | (go_simp; done) | (go_simp; rfl)) (by (with_reducible repeat (first | refine blk_drewN ?_ _ | refine blk_drew ?_ | refine blk_alloc ?_ _)); exact BK156.out) (of_decide_eq_true (by first | (with_reducible assumption) | assumption)) (of_decide_eq_true (by first | (with_reducible assumption) | assumption)) ?_; intro w42 hbk_ hg
                                    rw [← Ny160.out] at hbk_
                                    have n0_ := Aside0.mk (blk_grown (g := gb152) (o := .cells (Ar.cells .u8 64 a0) 39 (0, 0)) (by (with_reducible repeat (first | refine blk_drewN ?_ _ | refine blk_drew ?_ | refine blk_alloc ?_ _)); exact BK152.out) hg (fun e_ => NB152_156.out (Option.some.inj e_)))
                                    have n1_ := Aside0.mk (blk_grown (g := gb155) (o := .cells (Ar.cells .u32 64 t154) 42 (0, 0)) (by (with_reducible repeat (first | refine blk_drewN ?_ _ | refine blk_drew ?_ | refine blk_alloc ?_ _)); exact BK155.out) hg (fun e_ => NB155_156.out (Option.some.inj e_)))
                                    have n2_ := Aside0.mk (hbk_)
                                    have n3_ := Aside0.mk (Below.grown (by repeat (first | (with_reducible first | exact HB.out | apply below_alloc | apply pw_below_drewN | apply below_drew1 | refine below_set ?_ GE152.out | refine below_set ?_ GE155.out | refine below_set ?_ GE156.out) | exact HB.out)) hg ((below_size (by repeat (first | (with_reducible first | exact HB.out | apply below_alloc | apply pw_below_drewN | apply below_drew1 | refine below_set ?_ GE152.out | refine below_set ?_ GE155.out | refine below_set ?_ GE156.out) | exact HB.out)))) (fun _ e_ => by cases e_; exact GE156.out))
                                    clear BK152
                                    clear BK155
                                    clear BK156
                                    clear HB
                                    have BK152 := n0_
                                    have BK155 := n1_
                                    have BK156 := n2_
                                    have HB := n3_
                                    clear n0_ n1_ n2_ n3_
                                    clear hbk_ hg
                                    refine hK.out _ _ ?_
                                    clear hK K
                                    refine done_ (done_of HT_.out (by kernel_rfl)) ?_
                                    try go_wp2
                                    go_roundg k2
                                    case measure => have := HK1.out; have := HK2.out; omega
                                    case rel => exact ⟨(wrap64 (x9_2 - 1)), (y160), (by first | rfl | (simp; done) | (simp [*]; done)), H', ⟨by have := HK1.out; have := HK2.out; omega⟩, ⟨by (with_reducible repeat (first | refine blk_drewN ?_ _ | refine blk_drew ?_ | refine blk_alloc ?_ _)); exact BK152.out⟩, ⟨by (with_reducible repeat (first | refine blk_drewN ?_ _ | refine blk_drew ?_ | refine blk_alloc ?_ _)); exact BK155.out⟩, ⟨by (with_reducible repeat (first | refine blk_drewN ?_ _ | refine blk_drew ?_ | refine blk_alloc ?_ _)); exact BK156.out⟩, ⟨by repeat (first | (with_reducible first | exact HB.out | apply below_alloc | apply pw_below_drewN | apply below_drew1 | refine below_set ?_ GE152.out | refine below_set ?_ GE155.out | refine below_set ?_ GE156.out) | exact HB.out)⟩⟩
                                  · rw [if_neg c33] at H
                                    exact absurd H (by simp)
                                · rw [if_neg c32] at H
                                  exact absurd H (by simp)
                              · rw [if_neg c30] at H
                                exact absurd H (by simp)
                            · rw [if_neg c29] at H
                              exact absurd H (by simp)
                          · rw [if_neg c27] at H
                            exact absurd H (by simp)
                        · rw [if_neg c26] at H
                          exact absurd H (by simp)
                      · rw [if_neg c23] at H
                        exact absurd H (by simp)
                    · rw [if_neg c22] at H
                      exact absurd H (by simp)
                  · rw [if_neg c20] at H
                    exact absurd H (by simp)
                · rw [if_neg c19] at H
                  exact absurd H (by simp)
              · rw [if_neg c17] at H
                have c17b0 : decide (0 ≤ x9_2) = false := decide_eq_false c17
                clear c17
                have H' := Aside0.mk H
                clear H
                go_wp2_with (first | ((with_reducible refine gate_dst (N := 10) rfl ?_); (try (refine gate_guard (by rfl) ?_; dsimp only)); refine box_event ?hg (N := 10) ?hd (cs := (Ar.cells .u32 16 (List.replicate 16 0))) (t := 40) ?hr ?_; (case hd => rfl); (case hg => rfl); (case hr => first | exact Ar.box_run rfl rfl | exact Ar.alloc_run rfl (by kernel_rfl) | (go_simp; done) | (go_simp; rfl)); intro gb161 hg w43 hbox hb; have n0_ := Aside0.mk (blk_below (g := gb152) (o := .cells (Ar.cells .u8 64 a0) 39 (0, 0)) (by (with_reducible repeat (first | refine blk_drewN ?_ _ | refine blk_drew ?_ | refine blk_alloc ?_ _)); exact BK152.out) hb); have n1_ := Aside0.mk (blk_below (g := gb155) (o := .cells (Ar.cells .u32 64 t154) 42 (0, 0)) (by (with_reducible repeat (first | refine blk_drewN ?_ _ | refine blk_drew ?_ | refine blk_alloc ?_ _)); exact BK155.out) hb); have n2_ := Aside0.mk (blk_below (g := gb156) (o := .cells (Ar.cells .u32 64 x157000_2) 41 (0, 0)) (by (with_reducible repeat (first | refine blk_drewN ?_ _ | refine blk_drew ?_ | refine blk_alloc ?_ _)); exact BK156.out) hb); have n3_ := Aside0.mk (below_step (by repeat (first | (with_reducible first | exact HB.out | apply below_alloc | apply pw_below_drewN | apply below_drew1 | refine below_set ?_ GE152.out | refine below_set ?_ GE155.out | refine below_set ?_ GE156.out) | exact HB.out)) hb); have n4_ := Aside0.mk (hbox); have n5_ := Aside0.mk ((by rw [hg]; exact (below_size (by repeat (first | (with_reducible first | exact HB.out | apply below_alloc | apply pw_below_drewN | apply below_drew1 | refine below_set ?_ GE152.out | refine below_set ?_ GE155.out | refine below_set ?_ GE156.out) | exact HB.out))) : w.heap.size ≤ gb161)); have n6_ := Aside0.mk ((by rw [hg]; exact (below_size (by repeat (first | (with_reducible first | exact HB.out | apply below_alloc | apply pw_below_drewN | apply below_drew1 | refine below_set ?_ GE152.out | refine below_set ?_ GE155.out | refine below_set ?_ GE156.out) | exact HB.out))) : w.heap.size ≤ gb161)); have n7_ := Aside0.mk ((by rw [hg]; exact Nat.ne_of_lt (blk_lt (g := gb152) (o := .cells (Ar.cells .u8 64 a0) 39 (0, 0)) (by (with_reducible repeat (first | refine blk_drewN ?_ _ | refine blk_drew ?_ | refine blk_alloc ?_ _)); exact BK152.out)) : gb152 ≠ gb161)); have n8_ := Aside0.mk ((by rw [hg]; exact Nat.ne_of_gt (blk_lt (g := gb152) (o := .cells (Ar.cells .u8 64 a0) 39 (0, 0)) (by (with_reducible repeat (first | refine blk_drewN ?_ _ | refine blk_drew ?_ | refine blk_alloc ?_ _)); exact BK152.out)) : gb161 ≠ gb152)); have n9_ := Aside0.mk ((by rw [hg]; exact Nat.ne_of_lt (blk_lt (g := gb155) (o := .cells (Ar.cells .u32 64 t154) 42 (0, 0)) (by (with_reducible repeat (first | refine blk_drewN ?_ _ | refine blk_drew ?_ | refine blk_alloc ?_ _)); exact BK155.out)) : gb155 ≠ gb161)); have n10_ := Aside0.mk ((by rw [hg]; exact Nat.ne_of_gt (blk_lt (g := gb155) (o := .cells (Ar.cells .u32 64 t154) 42 (0, 0)) (by (with_reducible repeat (first | refine blk_drewN ?_ _ | refine blk_drew ?_ | refine blk_alloc ?_ _)); exact BK155.out)) : gb161 ≠ gb155)); have n11_ := Aside0.mk ((by rw [hg]; exact Nat.ne_of_lt (blk_lt (g := gb156) (o := .cells (Ar.cells .u32 64 x157000_2) 41 (0, 0)) (by (with_reducible repeat (first | refine blk_drewN ?_ _ | refine blk_drew ?_ | refine blk_alloc ?_ _)); exact BK156.out)) : gb156 ≠ gb161)); have n12_ := Aside0.mk ((by rw [hg]; exact Nat.ne_of_gt (blk_lt (g := gb156) (o := .cells (Ar.cells .u32 64 x157000_2) 41 (0, 0)) (by (with_reducible repeat (first | refine blk_drewN ?_ _ | refine blk_drew ?_ | refine blk_alloc ?_ _)); exact BK156.out)) : gb161 ≠ gb156)); clear BK152; clear BK155; clear BK156; clear HB; have BK152 := n0_; have BK155 := n1_; have BK156 := n2_; have HB := n3_; have BK161 := n4_; have GW161 := n5_; have GE161 := n6_; have NB152_161 := n7_; have NB161_152 := n8_; have NB155_161 := n9_; have NB161_155 := n10_; have NB156_161 := n11_; have NB161_156 := n12_; clear n0_ n1_ n2_ n3_ n4_ n5_ n6_ n7_ n8_ n9_ n10_ n11_ n12_; clear hb hbox hg))
                go_loopg [11] k2 (fun kq v11 w' => ∃ (x11_3 : Int) (x162000_3 : List Int), v11 = .int .i64 x11_3 ∧ Aside0 (drawlotlaw03_PlanAny.l2 kq x11_3 a0 x157000_2 x162000_3 = some r) ∧ Aside0 (kq ≤ k2) ∧ Aside0 (w'.heap[gb152]? = some (.cells (Ar.cells .u8 64 a0) 39 (0, 0))) ∧ Aside0 (w'.heap[gb155]? = some (.cells (Ar.cells .u32 64 t154) 42 (0, 0))) ∧ Aside0 (w'.heap[gb156]? = some (.cells (Ar.cells .u32 64 x157000_2) 41 (0, 0))) ∧ Aside0 (w'.heap[gb161]? = some (.cells (Ar.cells .u32 16 x162000_3) 40 (0, 0))) ∧ Aside0 (Below w.heap.size w w'))
                case atStart => exact ⟨(0), ((List.replicate 16 0)), (by first | rfl | (simp; done) | (simp [*]; done)), H', ⟨Nat.le_refl _⟩, ⟨by (with_reducible repeat (first | refine blk_drewN ?_ _ | refine blk_drew ?_ | refine blk_alloc ?_ _)); exact BK152.out⟩, ⟨by (with_reducible repeat (first | refine blk_drewN ?_ _ | refine blk_drew ?_ | refine blk_alloc ?_ _)); exact BK155.out⟩, ⟨by (with_reducible repeat (first | refine blk_drewN ?_ _ | refine blk_drew ?_ | refine blk_alloc ?_ _)); exact BK156.out⟩, ⟨by (with_reducible repeat (first | refine blk_drewN ?_ _ | refine blk_drew ?_ | refine blk_alloc ?_ _)); exact BK161.out⟩, ⟨by repeat (first | (with_reducible first | exact HB.out | apply below_alloc | apply pw_below_drewN | apply below_drew1 | refine below_set ?_ GE152.out | refine below_set ?_ GE155.out | refine below_set ?_ GE156.out | refine below_set ?_ GE161.out) | exact HB.out)⟩⟩
                case round =>
                  clear H'
                  try clear c1
                  try clear c2
                  try clear p2
                  try clear c3
                  try clear p3
                  try clear q3
                  try clear c4
                  try clear p4
                  try clear q4
                  try clear p6
                  try clear c9
                  try clear c12
                  try clear c12b0
                  try clear c14
                  try clear c14b0
                  try clear c15
                  try clear c15b0
                  try clear c17
                  try clear c17b0
                  try clear c19
                  try clear c19b0
                  try clear c20
                  try clear c20b0
                  try clear c22
                  try clear c22b0
                  try clear c23
                  try clear c23b0
                  try clear c26
                  try clear c26b0
                  try clear c27
                  try clear c27b0
                  try clear c29
                  try clear c29b0
                  try clear c30
                  try clear c30b0
                  try clear c32
                  try clear c32b0
                  try clear c33
                  try clear c33b0
                  try clear c34
                  try clear c35
                  try clear p35
                  try clear q35
                  try clear p36
                  try clear q36
                  try clear c37
                  try clear p37
                  try clear q37
                  try clear p38
                  try clear q38
                  try clear c39
                  try clear p41
                  try clear q41
                  try clear p2
                  try clear p35
                  try clear p36
                  try clear p37
                  try clear p38
                  try clear p41
                  try clear p6
                  try clear q35
                  try clear q36
                  try clear q37
                  try clear q38
                  try clear q41
                  obtain ⟨x11_3, x162000_3, rfl, HA, HK3, BK152, BK155, BK156, BK161, HB⟩ := hrel
                  cases gk with
                  | zero => exact absurd HA.out (by simp [drawlotlaw03_PlanAny.l2])
                  | succ k3 =>
                    have H := HA.out
                    clear HA
                    simp only [drawlotlaw03_PlanAny.l2] at H
                    by_cases c44 : x11_3 < 16
                    · rw [if_pos c44] at H
                      have c44b0 : decide (x11_3 < 16) = true := decide_eq_true c44
                      clear c44
                      by_cases c45 : 0 ≤ x11_3
                      · rw [if_pos c45] at H
                        have c45b0 : decide (0 ≤ x11_3) = true := decide_eq_true c45
                        clear c45
                        by_cases c46 : x11_3 < 64
                        · rw [if_pos c46] at H
                          have c46b0 : decide (x11_3 < 64) = true := decide_eq_true c46
                          clear c46
                          obtain ⟨y162, hy162⟩ : ∃ y_ : List Int, y_ = (Ar.set 16 x162000_3 x11_3 (Ar.get 64 x157000_2 x11_3)) := ⟨_, rfl⟩
                          replace H : (drawlotlaw03_PlanAny.l2 k3 (wrap64 (x11_3 + 1)) a0 x157000_2 y162) = some r := by first | (rw [hy162]; with_reducible exact H) | (have H2_ := (Option.bind_some _ _).symm.trans H; rw [hy162]; with_reducible exact H2_) | (have H2_ := (Option.bind_some _ _).symm.trans H; with_reducible exact H2_) | with_reducible exact H | (rw [hy162]; exact H) | exact H
                          have Ny162 := Aside0.mk hy162
                          clear hy162
                          have H' := Aside0.mk H
                          clear H
                          go_wp2_with (first | ((with_reducible refine gate_dst (N := 67) rfl ?_); (try (refine gate_guard (by rfl) ?_; dsimp only)); refine Ar.idx_event rfl (D := 67) rfl (T := 41) (n := 64) rfl Try.underlying41 (by kernel_rfl) (g := gb156) rfl (j := x11_3) (by first | rfl | (go_simp; done) | (go_simp; rfl)) (of_decide_eq_true (by first | (with_reducible assumption) | assumption)) (of_decide_eq_true (by first | (with_reducible assumption) | assumption)) ?_) | ((with_reducible refine gate_dst (N := 68) rfl ?_); (try (refine gate_guard (by rfl) ?_; dsimp only)); refine Ar.get_event rfl (D := 68) rfl (E := 22) rfl Try.underlying22 (g := gb156) (j := x11_3) rfl (by (with_reducible repeat (first | refine blk_drewN ?_ _ | refine blk_drew ?_ | refine blk_alloc ?_ _)); exact BK156.out) (of_decide_eq_true (by first | (with_reducible assumption) | assumption)) (of_decide_eq_true (by first | (with_reducible assumption) | assumption)) ?_) | ((with_reducible refine gate_dst (N := 69) rfl ?_); (try (refine gate_guard (by rfl) ?_; dsimp only)); refine Ar.idx_event rfl (D := 69) rfl (T := 40) (n := 16) rfl Try.underlying40 (by kernel_rfl) (g := gb161) rfl (j := x11_3) (by first | rfl | (go_simp; done) | (go_simp; rfl)) (of_decide_eq_true (by first | (with_reducible assumption) | assumption)) (of_decide_eq_true (by first | (with_reducible assumption) | assumption)) ?_) | ((with_reducible refine gate_store (t := 22) (p := 69) rfl ?_); refine Ar.put_event rfl rfl rfl (by kernel_rfl) (g := gb161) (j := x11_3) rfl (z := (Ar.get 64 x157000_2 x11_3)) (by first | rfl | (go_simp; done) | (go_simp; rfl)) (by (with_reducible repeat (first | refine blk_drewN ?_ _ | refine blk_drew ?_ | refine blk_alloc ?_ _)); exact BK161.out) (of_decide_eq_true (by first | (with_reducible assumption) | assumption)) (of_decide_eq_true (by first | (with_reducible assumption) | assumption)) ?_; intro w47 hbk_ hg; rw [← Ny162.out] at hbk_; have n0_ := Aside0.mk (blk_grown (g := gb152) (o := .cells (Ar.cells .u8 64 a0) 39 (0, 0)) (by (with_reducible repeat (first | refine blk_drewN ?_ _ | refine blk_drew ?_ | refine blk_alloc ?_ _)); exact BK152.out) hg (fun e_ => NB152_161.out (Option.some.inj e_))); have n1_ := Aside0.mk (blk_grown (g := gb155) (o := .cells (Ar.cells .u32 64 t154) 42 (0, 0)) (by (with_reducible repeat (first | refine blk_drewN ?_ _ | refine blk_drew ?_ | refine blk_alloc ?_ _)); exact BK155.out) hg (fun e_ => NB155_161.out (Option.some.inj e_))); have n2_ := Aside0.mk (blk_grown (g := gb156) (o := .cells (Ar.cells .u32 64 x157000_2) 41 (0, 0)) (by (with_reducible repeat (first | refine blk_drewN ?_ _ | refine blk_drew ?_ | refine blk_alloc ?_ _)); exact BK156.out) hg (fun e_ => NB156_161.out (Option.some.inj e_))); have n3_ := Aside0.mk (hbk_); have n4_ := Aside0.mk (Below.grown (by repeat (first | (with_reducible first | exact HB.out | apply below_alloc | apply pw_below_drewN | apply below_drew1 | refine below_set ?_ GE152.out | refine below_set ?_ GE155.out | refine below_set ?_ GE156.out | refine below_set ?_ GE161.out) | exact HB.out)) hg ((below_size (by repeat (first | (with_reducible first | exact HB.out | apply below_alloc | apply pw_below_drewN | apply below_drew1 | refine below_set ?_ GE152.out | refine below_set ?_ GE155.out | refine below_set ?_ GE156.out | refine below_set ?_ GE161.out) | exact HB.out)))) (fun _ e_ => by cases e_; exact GE161.out)); clear BK152; clear BK155; clear BK156; clear BK161; clear HB; have BK152 := n0_; have BK155 := n1_; have BK156 := n2_; have BK161 := n3_; have HB := n4_; clear n0_ n1_ n2_ n3_ n4_; clear hbk_ hg))
                          go_roundg k3
                          case measure => have := HK1.out; have := HK2.out; have := HK3.out; omega
                          case rel => exact ⟨(wrap64 (x11_3 + 1)), (y162), (by first | rfl | (simp; done) | (simp [*]; done)), H', ⟨by have := HK1.out; have := HK2.out; have := HK3.out; omega⟩, ⟨by (with_reducible repeat (first | refine blk_drewN ?_ _ | refine blk_drew ?_ | refine blk_alloc ?_ _)); exact BK152.out⟩, ⟨by (with_reducible repeat (first | refine blk_drewN ?_ _ | refine blk_drew ?_ | refine blk_alloc ?_ _)); exact BK155.out⟩, ⟨by (with_reducible repeat (first | refine blk_drewN ?_ _ | refine blk_drew ?_ | refine blk_alloc ?_ _)); exact BK156.out⟩, ⟨by (with_reducible repeat (first | refine blk_drewN ?_ _ | refine blk_drew ?_ | refine blk_alloc ?_ _)); exact BK161.out⟩, ⟨by repeat (first | (with_reducible first | exact HB.out | apply below_alloc | apply pw_below_drewN | apply below_drew1 | refine below_set ?_ GE152.out | refine below_set ?_ GE155.out | refine below_set ?_ GE156.out | refine below_set ?_ GE161.out) | exact HB.out)⟩⟩
                        · rw [if_neg c46] at H
                          exact absurd H (by simp)
                      · rw [if_neg c45] at H
                        exact absurd H (by simp)
                    · rw [if_neg c44] at H
                      have c44b0 : decide (x11_3 < 16) = false := decide_eq_false c44
                      clear c44
                      replace H := Option.bind_eq_some_iff.mp H
                      obtain ⟨t163, A480, H⟩ := H
                      replace H : (some (Ar.eqb 64 t163 a0)) = some r := H
                      have A48 := Aside0.mk A480
                      clear A480
                      obtain rfl := Option.some.inj H
                      try go_wp2
                      have n0_ := Aside0.mk (blk_drew BK152.out)
                      have n1_ := Aside0.mk (blk_drew BK155.out)
                      have n2_ := Aside0.mk (blk_drew BK156.out)
                      have n3_ := Aside0.mk (blk_drew BK161.out)
                      have n4_ := Aside0.mk (below_drew1 HB.out)
                      clear BK152
                      clear BK155
                      clear BK156
                      clear BK161
                      clear HB
                      have BK152 := n0_
                      have BK155 := n1_
                      have BK156 := n2_
                      have BK161 := n3_
                      have HB := n4_
                      clear n0_ n1_ n2_ n3_ n4_
                      refine start_ (n := 5) (S := fun w' => w'.heap[gb161]? = some (.cells (Ar.cells .u32 16 x162000_3) 40 (0, 0)) ∧ w'.heap[gb152]? = some (.cells (Ar.cells .u8 64 a0) 39 (0, 0))) (ds := []) #[false, false, false, false, false] (by kernel_rfl) rfl rfl ⟨BK161.out, BK152.out⟩ (fun hHeld => ?_)
                      generalize wr.drew = w49 at BK152 BK155 BK156 BK161 HB hHeld ⊢
                      refine take_ (i := 0) (N := some 70) (v := ?_) (a' := ?_) #[true, false, false, false, false] rfl rfl (by kernel_rfl) (fun _ _ _ h => h) (Or.inl ⟨by rfl, ?_⟩) hHeld ?_ ?_
                      rotate_left
                      · rintro w' ⟨s0, s1⟩
                        first | (refine (Ar.load_run rfl Try.underlying40 (by kernel_rfl) rfl (by assumption)).trans ?_; with_reducible rfl) | (go_simp; with_reducible rfl)
                      rotate_left
                      · simp only [Act.put, List.setIfInBounds_toArray, List.set_cons_zero, List.set_cons_succ, i64_w, i32_w]
                        rfl
                      refine take_ (i := 2) (N := some 72) (v := ?_) (a' := ?_) #[true, false, true, false, false] rfl rfl (by kernel_rfl) (fun _ _ _ h => h) (Or.inl ⟨by rfl, ?_⟩) hHeld ?_ ?_
                      rotate_left
                      · rintro w' ⟨s0, s1⟩
                        first | (refine (Ar.load_run rfl Try.underlying39 (by kernel_rfl) rfl (by assumption)).trans ?_; with_reducible rfl) | (go_simp; with_reducible rfl)
                      rotate_left
                      · simp only [Act.put, List.setIfInBounds_toArray, List.set_cons_zero, List.set_cons_succ, i64_w, i32_w]
                        rfl
                      refine one_ (i := 1) (N := some 71) #[true, true, true, false, false] rfl rfl (by kernel_rfl) (by decide) (fun K hK => ?_)
                      refine goes_ Try.func40 (by kernel_rfl) rfl #[.agg (Ar.cells .u32 16 x162000_3)] (by rfl) rfl rfl (by (try simp only [List.map_toArray, List.map_cons, List.map_nil]); first | done | rfl | (simp only [List.length_drop, List.length_take]; rfl)) ?_
                      with_reducible refine (plan_Back.calls k3 x162000_3 t163 _ A48.out).mono ?_
                      rintro e w50 ⟨rfl, hb⟩
                      refine ⟨_, rfl, ?_⟩
                      have n0_ := Aside0.mk (blk_below (g := gb152) (o := .cells (Ar.cells .u8 64 a0) 39 (0, 0)) (by (with_reducible repeat (first | refine blk_drewN ?_ _ | refine blk_drew ?_ | refine blk_alloc ?_ _)); exact BK152.out) hb)
                      have n1_ := Aside0.mk (blk_below (g := gb155) (o := .cells (Ar.cells .u32 64 t154) 42 (0, 0)) (by (with_reducible repeat (first | refine blk_drewN ?_ _ | refine blk_drew ?_ | refine blk_alloc ?_ _)); exact BK155.out) hb)
                      have n2_ := Aside0.mk (blk_below (g := gb156) (o := .cells (Ar.cells .u32 64 x157000_2) 41 (0, 0)) (by (with_reducible repeat (first | refine blk_drewN ?_ _ | refine blk_drew ?_ | refine blk_alloc ?_ _)); exact BK156.out) hb)
                      have n3_ := Aside0.mk (blk_below (g := gb161) (o := .cells (Ar.cells .u32 16 x162000_3) 40 (0, 0)) (by (with_reducible repeat (first | refine blk_drewN ?_ _ | refine blk_drew ?_ | refine blk_alloc ?_ _)); exact BK161.out) hb)
                      have n4_ := Aside0.mk (below_step (by repeat (first | (with_reducible first | exact HB.out | apply below_alloc | apply pw_below_drewN | apply below_drew1 | refine below_set ?_ GE152.out | refine below_set ?_ GE155.out | refine below_set ?_ GE156.out | refine below_set ?_ GE161.out) | exact HB.out)) hb)
                      clear BK152
                      clear BK155
                      clear BK156
                      clear BK161
                      clear HB
                      have BK152 := n0_
                      have BK155 := n1_
                      have BK156 := n2_
                      have BK161 := n3_
                      have HB := n4_
                      clear n0_ n1_ n2_ n3_ n4_
                      (try clear hb)
                      (try clear hb2)
                      (try clear hk)
                      (try clear hi)
                      refine hK.out _ _ ⟨BK161.out, BK152.out⟩ (fun hHeld => ?_)
                      clear hK K
                      refine norm_ (a' := ?_) ?_ ?_
                      rotate_left
                      · show Act.put _ (some 71) _ = _
                        simp only [Act.put, List.setIfInBounds_toArray, List.set_cons_zero, List.set_cons_succ, i64_w, i32_w]
                        rfl
                      refine pure_ (i := 3) (N := some 73) (v := ?_) (a' := ?_) #[true, true, true, true, false] rfl rfl (by kernel_rfl) (fun _ _ _ h => h) (Or.inl ⟨by rfl, ?_⟩) ?_ ?_
                      rotate_left
                      · intro w'
                        go_simp
                        with_reducible rfl
                      rotate_left
                      · simp only [Act.put, List.setIfInBounds_toArray, List.set_cons_zero, List.set_cons_succ, i64_w, i32_w]
                        rfl
                      refine pure_ (i := 4) (N := some 4) (v := ?_) (a' := ?_) #[true, true, true, true, true] rfl rfl (by kernel_rfl) (fun _ _ _ h => h) (Or.inl ⟨by rfl, ?_⟩) ?_ ?_
                      rotate_left
                      · intro w'
                        go_simp
                        with_reducible rfl
                      rotate_left
                      · simp only [Act.put, List.setIfInBounds_toArray, List.set_cons_zero, List.set_cons_succ, i64_w, i32_w]
                        rfl
                      refine done_ (by kernel_rfl) ?_
                      try go_wp2
                      go_ret
                      exact ⟨by first | rfl | (simp [errW_none, errW_some] <;> rfl) | (simp [*, errW_none, errW_some] <;> rfl), by repeat (first | (with_reducible first | exact HB.out | apply below_alloc | apply pw_below_drewN | apply below_drew1 | refine below_set ?_ GE152.out | refine below_set ?_ GE155.out | refine below_set ?_ GE156.out | refine below_set ?_ GE161.out) | exact HB.out)⟩
  · replace c4 := Bool.eq_false_iff.mpr c4
    subst c4
    have H1 : (none) = some r := by rw [if_neg (show ¬ (false = true) by decide)] at H; exact H
    clear H
    have H := H1
    clear H1
    exact absurd H (by simp)

/-- THE ONE PURE STATEMENT of drawlotlaw03_PlanAny: yours. -/
def drawlotlaw03_PlanAny.Pure : Prop := ∀ (a0 : List Int) (a1 : Int), (a0.length = 64 ∧ ∀ x ∈ a0, (Lit.int .u8 x).wf = true) → (Lit.int .u8 a1).wf = true → ∃ k, drawlotlaw03_PlanAny.f k a0 a1 = some true
theorem drawlotlaw03_PlanAny.walk (P : drawlotlaw03_PlanAny.Pure) (a0 : List Int) (a1 : Int) (w : World) (w0 : a0.length = 64 ∧ ∀ x ∈ a0, (Lit.int .u8 x).wf = true) (w1 : (Lit.int .u8 a1).wf = true) :
    Calls Try.prog 9 #[.agg (Ar.cells .u8 64 a0), .int .u8 a1] w fun e w' => e = .returned (.bool true) ∧ Below w.heap.size w w' := by
  obtain ⟨k, h⟩ := P a0 a1 w0 w1
  refine (drawlotlaw03_PlanAny.calls k a0 a1 true w h).mono ?_
  rintro e w' ⟨rfl, hd⟩
  exact ⟨rfl, hd⟩

end Go.Proofs.Ytpkdpdbcgbeakaa.PC
