/- Written by xprint.py, this session's own driver, for the seat Ytoaeedepfmfkkaa: contracts of Go functions, each saying that a call answers what a plain Lean function of the same name says, and, in a text named Law, the row of a law: its Go function answers true for every input. No conditions. -/
import Derived.Test.YtoaeedepfmfkkaaPBx0
import Derived.Test.YtoaeedepfmfkkaaPBx1
import Derived.Test.YtoaeedepfmfkkaaPBx3
import Derived.Test.YtoaeedepfmfkkaaPBx4
import Derived.Test.YtoaeedepfmfkkaaPBx5
import Derived.Test.YtoaeedepfmfkkaaPBx6
import Derived.Test.YtoaeedepfmfkkaaPBx8
import Derived.Test.YtoaeedepfmfkkaaPBx9
namespace Go.Proofs.Ytoaeedepfmfkkaa.PB
open Go.RowKit Go.Proofs.YtoaeedepfmfkkaaW.PrintWords Go.Proofs.YtoaeedepfmfkkaaW.PrintLast Go.Proofs.YtoaeedepfmfkkaaW.PrintMore
attribute [local go_sem] max2_int min2_int max_two min_two max_three min_three max_four min_four   -- for this text's walks alone
set_option linter.unusedVariables false
set_option linter.unusedSimpArgs false

/-! ### drawlotlaw22_BookTells: function 5 -/
def drawlotlaw22_BookTells.f (k : Nat) (l0 : List (S27)) (l1 : List (S27)) (a2 : List Int) : Option (Bool) := (drawlotlaw22_alive.f k).bind fun t415 => (if t415 = true then (if (l0.length : Int) > 60 then (some true) else (if (l1.length : Int) > 60 then (some true) else ((book_Find.f k l0 a2).bind fun bt416 => ((drawlotref22_Find.f k l0 a2).bind fun bt418 => (if bt416.1 = bt418.1 then (if (bt416.2 == bt418.2) = true then ((book_Right.f k l0).bind fun t420 => ((drawlotref22_Right.f k l0).bind fun t421 => (if (t420 == t421) = true then ((book_Activate.f k l0).bind fun t422 => ((drawlotref22_Activate.f k l0).bind fun t425 => ((drawlotref22_Same.f k t422 t425).bind fun t428 => (if t428 = true then ((book_Stakes.f k l0).bind fun t429 => ((drawlotref22_Stakes.f k l0).bind fun t432 => ((drawlotref09_Same.f k t429 t432).bind fun t435 => (if t435 = true then ((book_Same.f k l0 l1).bind fun t436 => ((drawlotref22_Same.f k l0 l1).bind fun t437 => (some (t436 == t437)))) else (none))))) else (none))))) else (none)))) else (none)) else (none)))))) else (none))
theorem drawlotlaw22_BookTells.mono : ∀ a0 a1 a2 k, LeO (drawlotlaw22_BookTells.f k a0 a1 a2) (drawlotlaw22_BookTells.f (k + 1) a0 a1 a2) := by
 intro a0 a1 a2 k
 unfold drawlotlaw22_BookTells.f
 repeat' first
   | (with_reducible exact book_Activate.mono _ _)
   | (with_reducible exact book_Find.mono _ _ _)
   | (with_reducible exact book_Right.mono _ _)
   | (with_reducible exact book_Same.mono _ _ _)
   | (with_reducible exact book_Stakes.mono _ _)
   | (with_reducible exact drawlotlaw22_alive.mono _)
   | (with_reducible exact drawlotref09_Same.mono _ _ _)
   | (with_reducible exact drawlotref22_Activate.mono _ _)
   | (with_reducible exact drawlotref22_Find.mono _ _ _)
   | (with_reducible exact drawlotref22_Right.mono _ _)
   | (with_reducible exact drawlotref22_Same.mono _ _ _)
   | (with_reducible exact drawlotref22_Stakes.mono _ _)
   | (with_reducible exact LeO.refl _)
   | (with_reducible exact LeO.none _)
   | (with_reducible refine LeO.ite ?_ ?_)
   | (with_reducible refine LeO.bind ?_ (fun _ => ?_))
   | exact book_Activate.mono _ _
   | exact book_Find.mono _ _ _
   | exact book_Right.mono _ _
   | exact book_Same.mono _ _ _
   | exact book_Stakes.mono _ _
   | exact drawlotlaw22_alive.mono _
   | exact drawlotref09_Same.mono _ _ _
   | exact drawlotref22_Activate.mono _ _
   | exact drawlotref22_Find.mono _ _ _
   | exact drawlotref22_Right.mono _ _
   | exact drawlotref22_Same.mono _ _ _
   | exact drawlotref22_Stakes.mono _ _
   | exact LeO.none _
   | refine LeO.ite ?_ ?_
   | refine LeO.bind ?_ (fun _ => ?_)
set_option maxHeartbeats 8000000 in
set_option maxRecDepth 100000 in
theorem drawlotlaw22_BookTells.calls (k : Nat) (A0 : Option Addr) (c0 : Nat) (l0 : List (S27)) (A1 : Option Addr) (c1 : Nat) (l1 : List (S27)) (a2 : List Int) (r : Bool) (w : World) (hr0 : Kd.C k27 w A0 l0.length l0) (hc0 : l0.length ≤ c0) (hr1 : Kd.C k27 w A1 l1.length l1) (hc1 : l1.length ≤ c1) (h : drawlotlaw22_BookTells.f k l0 l1 a2 = some r) :
  Calls Try.prog 5 #[.slice A0 l0.length c0, .slice A1 l1.length c1, .agg (Ar.cells .u8 32 a2)] w fun e w' => e = .returned (.bool r) ∧ Below w.heap.size w w' := by
 have HR0 := Aside0.mk hr0
 have HC0 := Aside0.mk hc0
 clear hr0 hc0
 have HR1 := Aside0.mk hr1
 have HC1 := Aside0.mk hc1
 clear hr1 hc1
 have HB := Aside0.mk (Below.refl w.heap.size w)
 have H : ((drawlotlaw22_alive.f k).bind fun t415 => (if t415 = true then (if (l0.length : Int) > 60 then (some true) else (if (l1.length : Int) > 60 then (some true) else ((book_Find.f k l0 a2).bind fun bt416 => ((drawlotref22_Find.f k l0 a2).bind fun bt418 => (if bt416.1 = bt418.1 then (if (bt416.2 == bt418.2) = true then ((book_Right.f k l0).bind fun t420 => ((drawlotref22_Right.f k l0).bind fun t421 => (if (t420 == t421) = true then ((book_Activate.f k l0).bind fun t422 => ((drawlotref22_Activate.f k l0).bind fun t425 => ((drawlotref22_Same.f k t422 t425).bind fun t428 => (if t428 = true then ((book_Stakes.f k l0).bind fun t429 => ((drawlotref22_Stakes.f k l0).bind fun t432 => ((drawlotref09_Same.f k t429 t432).bind fun t435 => (if t435 = true then ((book_Same.f k l0 l1).bind fun t436 => ((drawlotref22_Same.f k l0 l1).bind fun t437 => (some (t436 == t437)))) else (none))))) else (none))))) else (none)))) else (none)) else (none)))))) else (none))) = some r := h
 clear h
 replace H := Option.bind_eq_some_iff.mp H
 obtain ⟨t415, A40, H⟩ := H
 replace H : (if t415 = true then (if (l0.length : Int) > 60 then (some true) else (if (l1.length : Int) > 60 then (some true) else ((book_Find.f k l0 a2).bind fun bt416 => ((drawlotref22_Find.f k l0 a2).bind fun bt418 => (if bt416.1 = bt418.1 then (if (bt416.2 == bt418.2) = true then ((book_Right.f k l0).bind fun t420 => ((drawlotref22_Right.f k l0).bind fun t421 => (if (t420 == t421) = true then ((book_Activate.f k l0).bind fun t422 => ((drawlotref22_Activate.f k l0).bind fun t425 => ((drawlotref22_Same.f k t422 t425).bind fun t428 => (if t428 = true then ((book_Stakes.f k l0).bind fun t429 => ((drawlotref22_Stakes.f k l0).bind fun t432 => ((drawlotref09_Same.f k t429 t432).bind fun t435 => (if t435 = true then ((book_Same.f k l0 l1).bind fun t436 => ((drawlotref22_Same.f k l0 l1).bind fun t437 => (some (t436 == t437)))) else (none))))) else (none))))) else (none)))) else (none)) else (none)))))) else (none)) = some r := H
 have A4 := Aside0.mk A40
 clear A40
 by_cases c5 : t415 = true
 ·subst c5
  have H1 : (if (l0.length : Int) > 60 then (some true) else (if (l1.length : Int) > 60 then (some true) else ((book_Find.f k l0 a2).bind fun bt416 => ((drawlotref22_Find.f k l0 a2).bind fun bt418 => (if bt416.1 = bt418.1 then (if (bt416.2 == bt418.2) = true then ((book_Right.f k l0).bind fun t420 => ((drawlotref22_Right.f k l0).bind fun t421 => (if (t420 == t421) = true then ((book_Activate.f k l0).bind fun t422 => ((drawlotref22_Activate.f k l0).bind fun t425 => ((drawlotref22_Same.f k t422 t425).bind fun t428 => (if t428 = true then ((book_Stakes.f k l0).bind fun t429 => ((drawlotref22_Stakes.f k l0).bind fun t432 => ((drawlotref09_Same.f k t429 t432).bind fun t435 => (if t435 = true then ((book_Same.f k l0 l1).bind fun t436 => ((drawlotref22_Same.f k l0 l1).bind fun t437 => (some (t436 == t437)))) else (none))))) else (none))))) else (none)))) else (none)) else (none)))))) = some r := by rw [if_pos rfl] at H; exact H
  clear H
  have H := H1
  clear H1
  by_cases c6 : (l0.length : Int) > 60
  ·rw [if_pos c6] at H
   have c6b0 : decide (60 < (l0.length : Int)) = true := decide_eq_true c6
   have c6b1 : decide (60 < l0.length) = true := decide_eq_true (by omega)
   clear c6
   obtain rfl := Option.some.inj H
   go_enter Try.func5, Try.ntmps5
   try simp only [List.append]
   go_wp2_with (first | ((with_reducible refine gate_dst (N := 5) rfl ?_); (try (refine gate_guard (by rfl) ?_; dsimp only)); refine box_event ?hg (N := 5) ?hd (cs := (Ar.cells .u8 32 a2)) (t := 24) ?hr ?_; (case hd => rfl); (case hg => rfl); (case hr => first | exact Ar.box_run rfl rfl | exact Ar.alloc_run rfl (by kernel_rfl) | (go_simp; done) | (go_simp; rfl)); intro gb414 hg w7 hbox hb; have n0_ := Aside0.mk (below_step (by repeat (first | (with_reducible first | exact HB.out | apply below_alloc | apply pw_below_drewN | apply below_drew1) | exact HB.out)) hb); have n1_ := Aside0.mk (hbox); have n2_ := Aside0.mk ((by rw [hg]; exact (below_size (by repeat (first | (with_reducible first | exact HB.out | apply below_alloc | apply pw_below_drewN | apply below_drew1) | exact HB.out))) : w.heap.size ≤ gb414)); have n3_ := Aside0.mk ((by rw [hg]; exact (below_size (by repeat (first | (with_reducible first | exact HB.out | apply below_alloc | apply pw_below_drewN | apply below_drew1) | exact HB.out))) : w.heap.size ≤ gb414)); clear HB; have HB := n0_; have BK414 := n1_; have GW414 := n2_; have GE414 := n3_; clear n0_ n1_ n2_ n3_; clear hb hbox hg) | ((with_reducible refine gate_callee (f := 13) rfl ?_); refine goesL_ (some 11) rfl rfl Try.func13 (by kernel_rfl) rfl #[] rfl (by (try simp only [List.map_toArray, List.map_cons, List.map_nil]); first | done | rfl | (simp only [List.length_drop, List.length_take]; rfl)) ?_; (with_reducible refine (drawlotlaw22_alive.calls k  true _ A4.out).mono ?_); rintro e w8 ⟨rfl, hb⟩; refine ⟨_, rfl, ?_⟩; have n0_ := Aside0.mk (blk_below (g := gb414) (o := .cells (Ar.cells .u8 32 a2) 24 (0, 0)) (by (with_reducible repeat (first | refine blk_drewN ?_ _ | refine blk_drew ?_ | refine blk_alloc ?_ _)); exact BK414.out) hb); have n1_ := Aside0.mk (below_step (by repeat (first | (with_reducible first | exact HB.out | apply below_alloc | apply pw_below_drewN | apply below_drew1 | refine below_set ?_ GE414.out) | exact HB.out)) hb); clear BK414; clear HB; have BK414 := n0_; have HB := n1_; clear n0_ n1_; (try clear hb); (try clear hb2); (try clear hk); (try clear hi)))
   go_ret
   exact ⟨by first | rfl | (simp [errW_none, errW_some] <;> rfl) | (simp [*, errW_none, errW_some] <;> rfl), by repeat (first | (with_reducible first | exact HB.out | apply below_alloc | apply pw_below_drewN | apply below_drew1 | refine below_set ?_ GE414.out) | exact HB.out)⟩
  ·rw [if_neg c6] at H
   have c6b0 : decide (60 < (l0.length : Int)) = false := decide_eq_false c6
   have c6b1 : decide (60 < l0.length) = false := decide_eq_false (by omega)
   clear c6
   by_cases c9 : (l1.length : Int) > 60
   ·rw [if_pos c9] at H
    have c9b0 : decide (60 < (l1.length : Int)) = true := decide_eq_true c9
    have c9b1 : decide (60 < l1.length) = true := decide_eq_true (by omega)
    clear c9
    obtain rfl := Option.some.inj H
    go_enter Try.func5, Try.ntmps5
    try simp only [List.append]
    go_wp2_with (first | ((with_reducible refine gate_dst (N := 5) rfl ?_); (try (refine gate_guard (by rfl) ?_; dsimp only)); refine box_event ?hg (N := 5) ?hd (cs := (Ar.cells .u8 32 a2)) (t := 24) ?hr ?_; (case hd => rfl); (case hg => rfl); (case hr => first | exact Ar.box_run rfl rfl | exact Ar.alloc_run rfl (by kernel_rfl) | (go_simp; done) | (go_simp; rfl)); intro gb414 hg w10 hbox hb; have n0_ := Aside0.mk (below_step (by repeat (first | (with_reducible first | exact HB.out | apply below_alloc | apply pw_below_drewN | apply below_drew1) | exact HB.out)) hb); have n1_ := Aside0.mk (hbox); have n2_ := Aside0.mk ((by rw [hg]; exact (below_size (by repeat (first | (with_reducible first | exact HB.out | apply below_alloc | apply pw_below_drewN | apply below_drew1) | exact HB.out))) : w.heap.size ≤ gb414)); have n3_ := Aside0.mk ((by rw [hg]; exact (below_size (by repeat (first | (with_reducible first | exact HB.out | apply below_alloc | apply pw_below_drewN | apply below_drew1) | exact HB.out))) : w.heap.size ≤ gb414)); clear HB; have HB := n0_; have BK414 := n1_; have GW414 := n2_; have GE414 := n3_; clear n0_ n1_ n2_ n3_; clear hb hbox hg) | ((with_reducible refine gate_callee (f := 13) rfl ?_); refine goesL_ (some 11) rfl rfl Try.func13 (by kernel_rfl) rfl #[] rfl (by (try simp only [List.map_toArray, List.map_cons, List.map_nil]); first | done | rfl | (simp only [List.length_drop, List.length_take]; rfl)) ?_; (with_reducible refine (drawlotlaw22_alive.calls k  true _ A4.out).mono ?_); rintro e w11 ⟨rfl, hb⟩; refine ⟨_, rfl, ?_⟩; have n0_ := Aside0.mk (blk_below (g := gb414) (o := .cells (Ar.cells .u8 32 a2) 24 (0, 0)) (by (with_reducible repeat (first | refine blk_drewN ?_ _ | refine blk_drew ?_ | refine blk_alloc ?_ _)); exact BK414.out) hb); have n1_ := Aside0.mk (below_step (by repeat (first | (with_reducible first | exact HB.out | apply below_alloc | apply pw_below_drewN | apply below_drew1 | refine below_set ?_ GE414.out) | exact HB.out)) hb); clear BK414; clear HB; have BK414 := n0_; have HB := n1_; clear n0_ n1_; (try clear hb); (try clear hb2); (try clear hk); (try clear hi)))
    go_ret
    exact ⟨by first | rfl | (simp [errW_none, errW_some] <;> rfl) | (simp [*, errW_none, errW_some] <;> rfl), by repeat (first | (with_reducible first | exact HB.out | apply below_alloc | apply pw_below_drewN | apply below_drew1 | refine below_set ?_ GE414.out) | exact HB.out)⟩
   ·rw [if_neg c9] at H
    have c9b0 : decide (60 < (l1.length : Int)) = false := decide_eq_false c9
    have c9b1 : decide (60 < l1.length) = false := decide_eq_false (by omega)
    clear c9
    replace H := Option.bind_eq_some_iff.mp H
    obtain ⟨⟨t416, t417⟩, A120, H⟩ := H
    replace H : ((drawlotref22_Find.f k l0 a2).bind fun bt418 => (if t416 = bt418.1 then (if (t417 == bt418.2) = true then ((book_Right.f k l0).bind fun t420 => ((drawlotref22_Right.f k l0).bind fun t421 => (if (t420 == t421) = true then ((book_Activate.f k l0).bind fun t422 => ((drawlotref22_Activate.f k l0).bind fun t425 => ((drawlotref22_Same.f k t422 t425).bind fun t428 => (if t428 = true then ((book_Stakes.f k l0).bind fun t429 => ((drawlotref22_Stakes.f k l0).bind fun t432 => ((drawlotref09_Same.f k t429 t432).bind fun t435 => (if t435 = true then ((book_Same.f k l0 l1).bind fun t436 => ((drawlotref22_Same.f k l0 l1).bind fun t437 => (some (t436 == t437)))) else (none))))) else (none))))) else (none)))) else (none)) else (none))) = some r := H
    have A12 := Aside0.mk A120
    clear A120
    replace H := Option.bind_eq_some_iff.mp H
    obtain ⟨⟨t418, t419⟩, A130, H⟩ := H
    replace H : (if t416 = t418 then (if (t417 == t419) = true then ((book_Right.f k l0).bind fun t420 => ((drawlotref22_Right.f k l0).bind fun t421 => (if (t420 == t421) = true then ((book_Activate.f k l0).bind fun t422 => ((drawlotref22_Activate.f k l0).bind fun t425 => ((drawlotref22_Same.f k t422 t425).bind fun t428 => (if t428 = true then ((book_Stakes.f k l0).bind fun t429 => ((drawlotref22_Stakes.f k l0).bind fun t432 => ((drawlotref09_Same.f k t429 t432).bind fun t435 => (if t435 = true then ((book_Same.f k l0 l1).bind fun t436 => ((drawlotref22_Same.f k l0 l1).bind fun t437 => (some (t436 == t437)))) else (none))))) else (none))))) else (none)))) else (none)) else (none)) = some r := H
    have A13 := Aside0.mk A130
    clear A130
    by_cases c14 : t416 = t418
    ·rw [if_pos c14] at H
     have c14b0 : (t416 == t418) = true := beq_iff_eq.mpr c14
     have c14b1 : (t416 != t418) = false := bne_eq_false_iff_eq.mpr c14
     clear c14
     by_cases c15 : (t417 == t419) = true
     ·rw [if_pos c15] at H
      have c15b0 : (t417 == t419) = true := c15
      (try (have c15b1 : decide (t417 = t419) = true := by simpa using c15))
      (try (have c15b2 : (t417 == t419) = true := by simpa using c15))
      clear c15
      replace H := Option.bind_eq_some_iff.mp H
      obtain ⟨t420, A160, H⟩ := H
      replace H : ((drawlotref22_Right.f k l0).bind fun t421 => (if (t420 == t421) = true then ((book_Activate.f k l0).bind fun t422 => ((drawlotref22_Activate.f k l0).bind fun t425 => ((drawlotref22_Same.f k t422 t425).bind fun t428 => (if t428 = true then ((book_Stakes.f k l0).bind fun t429 => ((drawlotref22_Stakes.f k l0).bind fun t432 => ((drawlotref09_Same.f k t429 t432).bind fun t435 => (if t435 = true then ((book_Same.f k l0 l1).bind fun t436 => ((drawlotref22_Same.f k l0 l1).bind fun t437 => (some (t436 == t437)))) else (none))))) else (none))))) else (none))) = some r := H
      have A16 := Aside0.mk A160
      clear A160
      replace H := Option.bind_eq_some_iff.mp H
      obtain ⟨t421, A170, H⟩ := H
      replace H : (if (t420 == t421) = true then ((book_Activate.f k l0).bind fun t422 => ((drawlotref22_Activate.f k l0).bind fun t425 => ((drawlotref22_Same.f k t422 t425).bind fun t428 => (if t428 = true then ((book_Stakes.f k l0).bind fun t429 => ((drawlotref22_Stakes.f k l0).bind fun t432 => ((drawlotref09_Same.f k t429 t432).bind fun t435 => (if t435 = true then ((book_Same.f k l0 l1).bind fun t436 => ((drawlotref22_Same.f k l0 l1).bind fun t437 => (some (t436 == t437)))) else (none))))) else (none))))) else (none)) = some r := H
      have A17 := Aside0.mk A170
      clear A170
      by_cases c18 : (t420 == t421) = true
      ·rw [if_pos c18] at H
       have c18b0 : (t420 == t421) = true := c18
       (try (have c18b1 : decide (t420 = t421) = true := by simpa using c18))
       (try (have c18b2 : (t420 == t421) = true := by simpa using c18))
       clear c18
       replace H := Option.bind_eq_some_iff.mp H
       obtain ⟨t422, A190, H⟩ := H
       replace H : ((drawlotref22_Activate.f k l0).bind fun t425 => ((drawlotref22_Same.f k t422 t425).bind fun t428 => (if t428 = true then ((book_Stakes.f k l0).bind fun t429 => ((drawlotref22_Stakes.f k l0).bind fun t432 => ((drawlotref09_Same.f k t429 t432).bind fun t435 => (if t435 = true then ((book_Same.f k l0 l1).bind fun t436 => ((drawlotref22_Same.f k l0 l1).bind fun t437 => (some (t436 == t437)))) else (none))))) else (none)))) = some r := H
       have A19 := Aside0.mk A190
       clear A190
       replace H := Option.bind_eq_some_iff.mp H
       obtain ⟨t425, A200, H⟩ := H
       replace H : ((drawlotref22_Same.f k t422 t425).bind fun t428 => (if t428 = true then ((book_Stakes.f k l0).bind fun t429 => ((drawlotref22_Stakes.f k l0).bind fun t432 => ((drawlotref09_Same.f k t429 t432).bind fun t435 => (if t435 = true then ((book_Same.f k l0 l1).bind fun t436 => ((drawlotref22_Same.f k l0 l1).bind fun t437 => (some (t436 == t437)))) else (none))))) else (none))) = some r := H
       have A20 := Aside0.mk A200
       clear A200
       replace H := Option.bind_eq_some_iff.mp H
       obtain ⟨t428, A210, H⟩ := H
       replace H : (if t428 = true then ((book_Stakes.f k l0).bind fun t429 => ((drawlotref22_Stakes.f k l0).bind fun t432 => ((drawlotref09_Same.f k t429 t432).bind fun t435 => (if t435 = true then ((book_Same.f k l0 l1).bind fun t436 => ((drawlotref22_Same.f k l0 l1).bind fun t437 => (some (t436 == t437)))) else (none))))) else (none)) = some r := H
       have A21 := Aside0.mk A210
       clear A210
       by_cases c22 : t428 = true
       ·subst c22
        have H1 : ((book_Stakes.f k l0).bind fun t429 => ((drawlotref22_Stakes.f k l0).bind fun t432 => ((drawlotref09_Same.f k t429 t432).bind fun t435 => (if t435 = true then ((book_Same.f k l0 l1).bind fun t436 => ((drawlotref22_Same.f k l0 l1).bind fun t437 => (some (t436 == t437)))) else (none))))) = some r := by rw [if_pos rfl] at H; exact H
        clear H
        have H := H1
        clear H1
        replace H := Option.bind_eq_some_iff.mp H
        obtain ⟨t429, A230, H⟩ := H
        replace H : ((drawlotref22_Stakes.f k l0).bind fun t432 => ((drawlotref09_Same.f k t429 t432).bind fun t435 => (if t435 = true then ((book_Same.f k l0 l1).bind fun t436 => ((drawlotref22_Same.f k l0 l1).bind fun t437 => (some (t436 == t437)))) else (none)))) = some r := H
        have A23 := Aside0.mk A230
        clear A230
        replace H := Option.bind_eq_some_iff.mp H
        obtain ⟨t432, A240, H⟩ := H
        replace H : ((drawlotref09_Same.f k t429 t432).bind fun t435 => (if t435 = true then ((book_Same.f k l0 l1).bind fun t436 => ((drawlotref22_Same.f k l0 l1).bind fun t437 => (some (t436 == t437)))) else (none))) = some r := H
        have A24 := Aside0.mk A240
        clear A240
        replace H := Option.bind_eq_some_iff.mp H
        obtain ⟨t435, A250, H⟩ := H
        replace H : (if t435 = true then ((book_Same.f k l0 l1).bind fun t436 => ((drawlotref22_Same.f k l0 l1).bind fun t437 => (some (t436 == t437)))) else (none)) = some r := H
        have A25 := Aside0.mk A250
        clear A250
        by_cases c26 : t435 = true
        ·subst c26
         have H1 : ((book_Same.f k l0 l1).bind fun t436 => ((drawlotref22_Same.f k l0 l1).bind fun t437 => (some (t436 == t437)))) = some r := by rw [if_pos rfl] at H; exact H
         clear H
         have H := H1
         clear H1
         replace H := Option.bind_eq_some_iff.mp H
         obtain ⟨t436, A270, H⟩ := H
         replace H : ((drawlotref22_Same.f k l0 l1).bind fun t437 => (some (t436 == t437))) = some r := H
         have A27 := Aside0.mk A270
         clear A270
         replace H := Option.bind_eq_some_iff.mp H
         obtain ⟨t437, A280, H⟩ := H
         replace H : (some (t436 == t437)) = some r := H
         have A28 := Aside0.mk A280
         clear A280
         obtain rfl := Option.some.inj H
         go_enter Try.func5, Try.ntmps5
         try simp only [List.append]
         go_wp2_with (first | ((with_reducible refine gate_dst (N := 5) rfl ?_); (try (refine gate_guard (by rfl) ?_; dsimp only)); refine box_event ?hg (N := 5) ?hd (cs := (Ar.cells .u8 32 a2)) (t := 24) ?hr ?_; (case hd => rfl); (case hg => rfl); (case hr => first | exact Ar.box_run rfl rfl | exact Ar.alloc_run rfl (by kernel_rfl) | (go_simp; done) | (go_simp; rfl)); intro gb414 hg w29 hbox hb; have n0_ := Aside0.mk (below_step (by repeat (first | (with_reducible first | exact HB.out | apply below_alloc | apply pw_below_drewN | apply below_drew1) | exact HB.out)) hb); have n1_ := Aside0.mk (hbox); have n2_ := Aside0.mk ((by rw [hg]; exact (below_size (by repeat (first | (with_reducible first | exact HB.out | apply below_alloc | apply pw_below_drewN | apply below_drew1) | exact HB.out))) : w.heap.size ≤ gb414)); have n3_ := Aside0.mk ((by rw [hg]; exact (below_size (by repeat (first | (with_reducible first | exact HB.out | apply below_alloc | apply pw_below_drewN | apply below_drew1) | exact HB.out))) : w.heap.size ≤ gb414)); clear HB; have HB := n0_; have BK414 := n1_; have GW414 := n2_; have GE414 := n3_; clear n0_ n1_ n2_ n3_; clear hb hbox hg) | ((with_reducible refine gate_callee (f := 13) rfl ?_); refine goesL_ (some 11) rfl rfl Try.func13 (by kernel_rfl) rfl #[] rfl (by (try simp only [List.map_toArray, List.map_cons, List.map_nil]); first | done | rfl | (simp only [List.length_drop, List.length_take]; rfl)) ?_; (with_reducible refine (drawlotlaw22_alive.calls k  true _ A4.out).mono ?_); rintro e w30 ⟨rfl, hb⟩; refine ⟨_, rfl, ?_⟩; have n0_ := Aside0.mk (blk_below (g := gb414) (o := .cells (Ar.cells .u8 32 a2) 24 (0, 0)) (by (with_reducible repeat (first | refine blk_drewN ?_ _ | refine blk_drew ?_ | refine blk_alloc ?_ _)); exact BK414.out) hb); have n1_ := Aside0.mk (below_step (by repeat (first | (with_reducible first | exact HB.out | apply below_alloc | apply pw_below_drewN | apply below_drew1 | refine below_set ?_ GE414.out) | exact HB.out)) hb); clear BK414; clear HB; have BK414 := n0_; have HB := n1_; clear n0_ n1_; (try clear hb); (try clear hb2); (try clear hk); (try clear hi)) | ((with_reducible refine gate_dst (N := 23) rfl ?_); (try (refine gate_guard (by rfl) ?_; dsimp only)); refine Ar.load_event rfl (D := 23) rfl (T := 24) rfl Try.underlying24 (by kernel_rfl) (g := gb414) rfl (by (with_reducible repeat (first | refine blk_drewN ?_ _ | refine blk_drew ?_ | refine blk_alloc ?_ _)); exact BK414.out) ?_) | ((with_reducible refine gate_callee (f := 21) rfl ?_); refine goesL_ (some 24) rfl rfl Try.func21 (by kernel_rfl) rfl #[.slice A0 l0.length c0, .agg (Ar.cells .u8 32 a2)] rfl (by (try simp only [List.map_toArray, List.map_cons, List.map_nil]); first | done | rfl | (simp only [List.length_drop, List.length_take]; rfl)) ?_; (with_reducible refine (book_Find.calls k _ _ l0 a2 t416 t417 _ ?side1 ?side2 A12.out).mono ?_); (case side1 => repeat (first | exact (Kd.C_below HR0.out HB.out) | (with_reducible refine Kd.C_alloc ?_ _) | (with_reducible refine Kd.C_drewN ?_ _) | (with_reducible refine Kd.C_drew ?_))); (case side2 => exact HC0.out); rintro e w31 ⟨rfl, hb⟩; refine ⟨_, rfl, ?_⟩; have n0_ := Aside0.mk (blk_below (g := gb414) (o := .cells (Ar.cells .u8 32 a2) 24 (0, 0)) (by (with_reducible repeat (first | refine blk_drewN ?_ _ | refine blk_drew ?_ | refine blk_alloc ?_ _)); exact BK414.out) hb); have n1_ := Aside0.mk (below_step (by repeat (first | (with_reducible first | exact HB.out | apply below_alloc | apply pw_below_drewN | apply below_drew1 | refine below_set ?_ GE414.out) | exact HB.out)) hb); clear BK414; clear HB; have BK414 := n0_; have HB := n1_; clear n0_ n1_; (try clear hb); (try clear hb2); (try clear hk); (try clear hi)) | ((with_reducible refine gate_dst (N := 29) rfl ?_); (try (refine gate_guard (by rfl) ?_; dsimp only)); refine Ar.load_event rfl (D := 29) rfl (T := 24) rfl Try.underlying24 (by kernel_rfl) (g := gb414) rfl (by (with_reducible repeat (first | refine blk_drewN ?_ _ | refine blk_drew ?_ | refine blk_alloc ?_ _)); exact BK414.out) ?_) | ((with_reducible refine gate_callee (f := 22) rfl ?_); refine goesL_ (some 30) rfl rfl Try.func22 (by kernel_rfl) rfl #[.slice A0 l0.length c0, .agg (Ar.cells .u8 32 a2)] rfl (by (try simp only [List.map_toArray, List.map_cons, List.map_nil]); first | done | rfl | (simp only [List.length_drop, List.length_take]; rfl)) ?_; (with_reducible refine (drawlotref22_Find.calls k _ _ l0 a2 t418 t419 _ ?side1 ?side2 A13.out).mono ?_); (case side1 => repeat (first | exact (Kd.C_below HR0.out HB.out) | (with_reducible refine Kd.C_alloc ?_ _) | (with_reducible refine Kd.C_drewN ?_ _) | (with_reducible refine Kd.C_drew ?_))); (case side2 => exact HC0.out); rintro e w32 ⟨rfl, hb⟩; refine ⟨_, rfl, ?_⟩; have n0_ := Aside0.mk (blk_below (g := gb414) (o := .cells (Ar.cells .u8 32 a2) 24 (0, 0)) (by (with_reducible repeat (first | refine blk_drewN ?_ _ | refine blk_drew ?_ | refine blk_alloc ?_ _)); exact BK414.out) hb); have n1_ := Aside0.mk (below_step (by repeat (first | (with_reducible first | exact HB.out | apply below_alloc | apply pw_below_drewN | apply below_drew1 | refine below_set ?_ GE414.out) | exact HB.out)) hb); clear BK414; clear HB; have BK414 := n0_; have HB := n1_; clear n0_ n1_; (try clear hb); (try clear hb2); (try clear hk); (try clear hi)) | (go_at_call 23; (with_reducible refine (book_Right.calls k _ _ l0 t420 _ ?side1 ?side2 A16.out).mono ?_); (case side1 => repeat (first | exact (Kd.C_below HR0.out HB.out) | (with_reducible refine Kd.C_alloc ?_ _) | (with_reducible refine Kd.C_drewN ?_ _) | (with_reducible refine Kd.C_drew ?_))); (case side2 => exact HC0.out); rintro e w33 ⟨rfl, hb⟩; have n0_ := Aside0.mk (blk_below (g := gb414) (o := .cells (Ar.cells .u8 32 a2) 24 (0, 0)) (by (with_reducible repeat (first | refine blk_drewN ?_ _ | refine blk_drew ?_ | refine blk_alloc ?_ _)); exact BK414.out) hb); have n1_ := Aside0.mk (below_step (by repeat (first | (with_reducible first | exact HB.out | apply below_alloc | apply pw_below_drewN | apply below_drew1 | refine below_set ?_ GE414.out) | exact HB.out)) hb); clear BK414; clear HB; have BK414 := n0_; have HB := n1_; clear n0_ n1_; (try clear hb); (try clear hb2); (try clear hk); (try clear hi)) | (go_at_call 24; (with_reducible refine (drawlotref22_Right.calls k _ _ l0 t421 _ ?side1 ?side2 A17.out).mono ?_); (case side1 => repeat (first | exact (Kd.C_below HR0.out HB.out) | (with_reducible refine Kd.C_alloc ?_ _) | (with_reducible refine Kd.C_drewN ?_ _) | (with_reducible refine Kd.C_drew ?_))); (case side2 => exact HC0.out); rintro e w34 ⟨rfl, hb⟩; have n0_ := Aside0.mk (blk_below (g := gb414) (o := .cells (Ar.cells .u8 32 a2) 24 (0, 0)) (by (with_reducible repeat (first | refine blk_drewN ?_ _ | refine blk_drew ?_ | refine blk_alloc ?_ _)); exact BK414.out) hb); have n1_ := Aside0.mk (below_step (by repeat (first | (with_reducible first | exact HB.out | apply below_alloc | apply pw_below_drewN | apply below_drew1 | refine below_set ?_ GE414.out) | exact HB.out)) hb); clear BK414; clear HB; have BK414 := n0_; have HB := n1_; clear n0_ n1_; (try clear hb); (try clear hb2); (try clear hk); (try clear hi)) | (go_at_call 25; (with_reducible refine (book_Activate.calls k _ _ l0 t422 _ ?side1 ?side2 A19.out).mono ?_); (case side1 => repeat (first | exact (Kd.C_below HR0.out HB.out) | (with_reducible refine Kd.C_alloc ?_ _) | (with_reducible refine Kd.C_drewN ?_ _) | (with_reducible refine Kd.C_drew ?_))); (case side2 => exact HC0.out); rintro e w35 ⟨v423, rfl, ho0, hb⟩; have n0_ := Aside0.mk (Kd.R_lower ho0 (below_size (by repeat (first | (with_reducible first | exact HB.out | apply below_alloc | apply pw_below_drewN | apply below_drew1 | refine below_set ?_ GE414.out) | exact HB.out)))); have n1_ := Aside0.mk (blk_below (g := gb414) (o := .cells (Ar.cells .u8 32 a2) 24 (0, 0)) (by (with_reducible repeat (first | refine blk_drewN ?_ _ | refine blk_drew ?_ | refine blk_alloc ?_ _)); exact BK414.out) hb); have n2_ := Aside0.mk (below_step (by repeat (first | (with_reducible first | exact HB.out | apply below_alloc | apply pw_below_drewN | apply below_drew1 | refine below_set ?_ GE414.out) | exact HB.out)) hb); clear BK414; clear HB; have HO424 := n0_; have BK414 := n1_; have HB := n2_; clear n0_ n1_ n2_; (try clear hb); (try clear hb2); (try clear hk); (try clear hi); (try clear ho0)) | (go_at_call 26; (with_reducible refine (drawlotref22_Activate.calls k _ _ l0 t425 _ ?side1 ?side2 A20.out).mono ?_); (case side1 => repeat (first | exact (Kd.C_below HR0.out HB.out) | (with_reducible refine Kd.C_alloc ?_ _) | (with_reducible refine Kd.C_drewN ?_ _) | (with_reducible refine Kd.C_drew ?_))); (case side2 => exact HC0.out); rintro e w36 ⟨v426, rfl, ho0, hb⟩; have n0_ := Aside0.mk (Kd.R_elder' (by (with_reducible repeat (first | apply Kd.R_alloc | apply Kd.R_drewN | apply Kd.R_drew)); exact HO424.out) (Kd.R_base ho0) hb); have n1_ := Aside0.mk (Kd.R_lower (Kd.R_new' ho0 (Kd.R_lt (by (with_reducible repeat (first | apply Kd.R_alloc | apply Kd.R_drewN | apply Kd.R_drew)); exact HO424.out))) (below_size (by repeat (first | (with_reducible first | exact HB.out | apply below_alloc | apply pw_below_drewN | apply below_drew1 | refine below_set ?_ GE414.out) | exact HB.out)))); have n2_ := Aside0.mk (blk_below (g := gb414) (o := .cells (Ar.cells .u8 32 a2) 24 (0, 0)) (by (with_reducible repeat (first | refine blk_drewN ?_ _ | refine blk_drew ?_ | refine blk_alloc ?_ _)); exact BK414.out) hb); have n3_ := Aside0.mk (below_step (by repeat (first | (with_reducible first | exact HB.out | apply below_alloc | apply pw_below_drewN | apply below_drew1 | refine below_set ?_ GE414.out) | exact HB.out)) hb); clear HO424; clear BK414; clear HB; have HO424 := n0_; have HO427 := n1_; have BK414 := n2_; have HB := n3_; clear n0_ n1_ n2_ n3_; (try clear hb); (try clear hb2); (try clear hk); (try clear hi); (try clear ho0); obtain ⟨Ao37, co37, eo37⟩ := Kd.R_slice HO424.out; subst eo37; obtain ⟨Ao38, co38, eo38⟩ := Kd.R_slice HO427.out; subst eo38) | (go_at_call 16; (with_reducible refine (drawlotref22_Same.calls k _ _ t422 _ _ t425 true _ ?side1 ?side2 ?side3 ?side4 A21.out).mono ?_); (case side1 => repeat (first | exact (Kd.R_reads' HO424.out).2.2 | (with_reducible refine Kd.C_alloc ?_ _) | (with_reducible refine Kd.C_drewN ?_ _) | (with_reducible refine Kd.C_drew ?_))); (case side2 => exact (Kd.R_reads' HO424.out).2.1); (case side3 => repeat (first | exact (Kd.R_reads' HO427.out).2.2 | (with_reducible refine Kd.C_alloc ?_ _) | (with_reducible refine Kd.C_drewN ?_ _) | (with_reducible refine Kd.C_drew ?_))); (case side4 => exact (Kd.R_reads' HO427.out).2.1); rintro e w39 ⟨rfl, hb⟩; have n0_ := Aside0.mk (Kd.R_below (by (with_reducible repeat (first | apply Kd.R_alloc | apply Kd.R_drewN | apply Kd.R_drew)); exact HO424.out) hb); have n1_ := Aside0.mk (Kd.R_below (by (with_reducible repeat (first | apply Kd.R_alloc | apply Kd.R_drewN | apply Kd.R_drew)); exact HO427.out) hb); have n2_ := Aside0.mk (blk_below (g := gb414) (o := .cells (Ar.cells .u8 32 a2) 24 (0, 0)) (by (with_reducible repeat (first | refine blk_drewN ?_ _ | refine blk_drew ?_ | refine blk_alloc ?_ _)); exact BK414.out) hb); have n3_ := Aside0.mk (below_step (by repeat (first | (with_reducible first | exact HB.out | apply below_alloc | apply pw_below_drewN | apply below_drew1 | refine below_set ?_ GE414.out) | exact HB.out)) hb); clear HO424; clear HO427; clear BK414; clear HB; have HO424 := n0_; have HO427 := n1_; have BK414 := n2_; have HB := n3_; clear n0_ n1_ n2_ n3_; (try clear hb); (try clear hb2); (try clear hk); (try clear hi)) | (go_at_call 28; (with_reducible refine (book_Stakes.calls k _ _ l0 t429 _ ?side1 ?side2 A23.out).mono ?_); (case side1 => repeat (first | exact (Kd.C_below HR0.out HB.out) | (with_reducible refine Kd.C_alloc ?_ _) | (with_reducible refine Kd.C_drewN ?_ _) | (with_reducible refine Kd.C_drew ?_))); (case side2 => exact HC0.out); rintro e w40 ⟨v430, rfl, ho0, hb⟩; have n0_ := Aside0.mk (Kd.R_below (by (with_reducible repeat (first | apply Kd.R_alloc | apply Kd.R_drewN | apply Kd.R_drew)); exact HO424.out) hb); have n1_ := Aside0.mk (Kd.R_below (by (with_reducible repeat (first | apply Kd.R_alloc | apply Kd.R_drewN | apply Kd.R_drew)); exact HO427.out) hb); have n2_ := Aside0.mk (Kd.R_lower ho0 (below_size (by repeat (first | (with_reducible first | exact HB.out | apply below_alloc | apply pw_below_drewN | apply below_drew1 | refine below_set ?_ GE414.out) | exact HB.out)))); have n3_ := Aside0.mk (blk_below (g := gb414) (o := .cells (Ar.cells .u8 32 a2) 24 (0, 0)) (by (with_reducible repeat (first | refine blk_drewN ?_ _ | refine blk_drew ?_ | refine blk_alloc ?_ _)); exact BK414.out) hb); have n4_ := Aside0.mk (below_step (by repeat (first | (with_reducible first | exact HB.out | apply below_alloc | apply pw_below_drewN | apply below_drew1 | refine below_set ?_ GE414.out) | exact HB.out)) hb); clear HO424; clear HO427; clear BK414; clear HB; have HO424 := n0_; have HO427 := n1_; have HO431 := n2_; have BK414 := n3_; have HB := n4_; clear n0_ n1_ n2_ n3_ n4_; (try clear hb); (try clear hb2); (try clear hk); (try clear hi); (try clear ho0)) | (go_at_call 29; (with_reducible refine (drawlotref22_Stakes.calls k _ _ l0 t432 _ ?side1 ?side2 A24.out).mono ?_); (case side1 => repeat (first | exact (Kd.C_below HR0.out HB.out) | (with_reducible refine Kd.C_alloc ?_ _) | (with_reducible refine Kd.C_drewN ?_ _) | (with_reducible refine Kd.C_drew ?_))); (case side2 => exact HC0.out); rintro e w41 ⟨v433, rfl, ho0, hb⟩; have n0_ := Aside0.mk (Kd.R_below (by (with_reducible repeat (first | apply Kd.R_alloc | apply Kd.R_drewN | apply Kd.R_drew)); exact HO424.out) hb); have n1_ := Aside0.mk (Kd.R_below (by (with_reducible repeat (first | apply Kd.R_alloc | apply Kd.R_drewN | apply Kd.R_drew)); exact HO427.out) hb); have n2_ := Aside0.mk (Kd.R_elder' (by (with_reducible repeat (first | apply Kd.R_alloc | apply Kd.R_drewN | apply Kd.R_drew)); exact HO431.out) (Kd.R_base ho0) hb); have n3_ := Aside0.mk (Kd.R_lower (Kd.R_new' ho0 (Kd.R_lt (by (with_reducible repeat (first | apply Kd.R_alloc | apply Kd.R_drewN | apply Kd.R_drew)); exact HO431.out))) (below_size (by repeat (first | (with_reducible first | exact HB.out | apply below_alloc | apply pw_below_drewN | apply below_drew1 | refine below_set ?_ GE414.out) | exact HB.out)))); have n4_ := Aside0.mk (blk_below (g := gb414) (o := .cells (Ar.cells .u8 32 a2) 24 (0, 0)) (by (with_reducible repeat (first | refine blk_drewN ?_ _ | refine blk_drew ?_ | refine blk_alloc ?_ _)); exact BK414.out) hb); have n5_ := Aside0.mk (below_step (by repeat (first | (with_reducible first | exact HB.out | apply below_alloc | apply pw_below_drewN | apply below_drew1 | refine below_set ?_ GE414.out) | exact HB.out)) hb); clear HO424; clear HO427; clear HO431; clear BK414; clear HB; have HO424 := n0_; have HO427 := n1_; have HO431 := n2_; have HO434 := n3_; have BK414 := n4_; have HB := n5_; clear n0_ n1_ n2_ n3_ n4_ n5_; (try clear hb); (try clear hb2); (try clear hk); (try clear hi); (try clear ho0); obtain ⟨Ao42, co42, eo42⟩ := Kd.R_slice HO431.out; subst eo42; obtain ⟨Ao43, co43, eo43⟩ := Kd.R_slice HO434.out; subst eo43) | (go_at_call 27; (with_reducible refine (drawlotref09_Same.calls k _ _ t429 _ _ t432 true _ ?side1 ?side2 ?side3 ?side4 A25.out).mono ?_); (case side1 => repeat (first | exact (Kd.R_reads' HO431.out).2.2 | (with_reducible refine Kd.C_alloc ?_ _) | (with_reducible refine Kd.C_drewN ?_ _) | (with_reducible refine Kd.C_drew ?_))); (case side2 => exact (Kd.R_reads' HO431.out).2.1); (case side3 => repeat (first | exact (Kd.R_reads' HO434.out).2.2 | (with_reducible refine Kd.C_alloc ?_ _) | (with_reducible refine Kd.C_drewN ?_ _) | (with_reducible refine Kd.C_drew ?_))); (case side4 => exact (Kd.R_reads' HO434.out).2.1); rintro e w' ⟨rfl, ⟨nd, rfl⟩⟩) | (go_at_call 30; (with_reducible refine (book_Same.calls k _ _ l0 _ _ l1 t436 _ ?side1 ?side2 ?side3 ?side4 A27.out).mono ?_); (case side1 => repeat (first | exact (Kd.C_below HR0.out (by repeat (first | (with_reducible first | exact HB.out | apply below_alloc | apply pw_below_drewN | apply below_drew1 | refine below_set ?_ GE414.out) | exact HB.out))) | (with_reducible refine Kd.C_alloc ?_ _) | (with_reducible refine Kd.C_drewN ?_ _) | (with_reducible refine Kd.C_drew ?_))); (case side2 => exact HC0.out); (case side3 => repeat (first | exact (Kd.C_below HR1.out (by repeat (first | (with_reducible first | exact HB.out | apply below_alloc | apply pw_below_drewN | apply below_drew1 | refine below_set ?_ GE414.out) | exact HB.out))) | (with_reducible refine Kd.C_alloc ?_ _) | (with_reducible refine Kd.C_drewN ?_ _) | (with_reducible refine Kd.C_drew ?_))); (case side4 => exact HC1.out); rintro e w44 ⟨rfl, hb⟩; have n0_ := Aside0.mk (Kd.R_below (by (with_reducible repeat (first | apply Kd.R_alloc | apply Kd.R_drewN | apply Kd.R_drew)); exact HO424.out) hb); have n1_ := Aside0.mk (Kd.R_below (by (with_reducible repeat (first | apply Kd.R_alloc | apply Kd.R_drewN | apply Kd.R_drew)); exact HO427.out) hb); have n2_ := Aside0.mk (Kd.R_below (by (with_reducible repeat (first | apply Kd.R_alloc | apply Kd.R_drewN | apply Kd.R_drew)); exact HO431.out) hb); have n3_ := Aside0.mk (Kd.R_below (by (with_reducible repeat (first | apply Kd.R_alloc | apply Kd.R_drewN | apply Kd.R_drew)); exact HO434.out) hb); have n4_ := Aside0.mk (blk_below (g := gb414) (o := .cells (Ar.cells .u8 32 a2) 24 (0, 0)) (by (with_reducible repeat (first | refine blk_drewN ?_ _ | refine blk_drew ?_ | refine blk_alloc ?_ _)); exact BK414.out) hb); have n5_ := Aside0.mk (below_step (by repeat (first | (with_reducible first | exact HB.out | apply below_alloc | apply pw_below_drewN | apply below_drew1 | refine below_set ?_ GE414.out) | exact HB.out)) hb); clear HO424; clear HO427; clear HO431; clear HO434; clear BK414; clear HB; have HO424 := n0_; have HO427 := n1_; have HO431 := n2_; have HO434 := n3_; have BK414 := n4_; have HB := n5_; clear n0_ n1_ n2_ n3_ n4_ n5_; (try clear hb); (try clear hb2); (try clear hk); (try clear hi)) | (go_at_call 16; (with_reducible refine (drawlotref22_Same.calls k _ _ l0 _ _ l1 t437 _ ?side1 ?side2 ?side3 ?side4 A28.out).mono ?_); (case side1 => repeat (first | exact (Kd.C_below HR0.out HB.out) | (with_reducible refine Kd.C_alloc ?_ _) | (with_reducible refine Kd.C_drewN ?_ _) | (with_reducible refine Kd.C_drew ?_))); (case side2 => exact HC0.out); (case side3 => repeat (first | exact (Kd.C_below HR1.out HB.out) | (with_reducible refine Kd.C_alloc ?_ _) | (with_reducible refine Kd.C_drewN ?_ _) | (with_reducible refine Kd.C_drew ?_))); (case side4 => exact HC1.out); rintro e w45 ⟨rfl, hb⟩; have n0_ := Aside0.mk (Kd.R_below (by (with_reducible repeat (first | apply Kd.R_alloc | apply Kd.R_drewN | apply Kd.R_drew)); exact HO424.out) hb); have n1_ := Aside0.mk (Kd.R_below (by (with_reducible repeat (first | apply Kd.R_alloc | apply Kd.R_drewN | apply Kd.R_drew)); exact HO427.out) hb); have n2_ := Aside0.mk (Kd.R_below (by (with_reducible repeat (first | apply Kd.R_alloc | apply Kd.R_drewN | apply Kd.R_drew)); exact HO431.out) hb); have n3_ := Aside0.mk (Kd.R_below (by (with_reducible repeat (first | apply Kd.R_alloc | apply Kd.R_drewN | apply Kd.R_drew)); exact HO434.out) hb); have n4_ := Aside0.mk (blk_below (g := gb414) (o := .cells (Ar.cells .u8 32 a2) 24 (0, 0)) (by (with_reducible repeat (first | refine blk_drewN ?_ _ | refine blk_drew ?_ | refine blk_alloc ?_ _)); exact BK414.out) hb); have n5_ := Aside0.mk (below_step (by repeat (first | (with_reducible first | exact HB.out | apply below_alloc | apply pw_below_drewN | apply below_drew1 | refine below_set ?_ GE414.out) | exact HB.out)) hb); clear HO424; clear HO427; clear HO431; clear HO434; clear BK414; clear HB; have HO424 := n0_; have HO427 := n1_; have HO431 := n2_; have HO434 := n3_; have BK414 := n4_; have HB := n5_; clear n0_ n1_ n2_ n3_ n4_ n5_; (try clear hb); (try clear hb2); (try clear hk); (try clear hi)))
         go_ret
         exact ⟨by first | rfl | (simp [errW_none, errW_some] <;> rfl) | (simp [*, errW_none, errW_some] <;> rfl), by repeat (first | (with_reducible first | exact HB.out | apply below_alloc | apply pw_below_drewN | apply below_drew1 | refine below_set ?_ GE414.out) | exact HB.out)⟩
        ·replace c26 := Bool.eq_false_iff.mpr c26
         subst c26
         have H1 : (none) = some r := by rw [if_neg (show ¬ (false = true) by decide)] at H; exact H
         clear H
         have H := H1
         clear H1
         exact absurd H (by simp)
       ·replace c22 := Bool.eq_false_iff.mpr c22
        subst c22
        have H1 : (none) = some r := by rw [if_neg (show ¬ (false = true) by decide)] at H; exact H
        clear H
        have H := H1
        clear H1
        exact absurd H (by simp)
      ·rw [if_neg c18] at H
       exact absurd H (by simp)
     ·rw [if_neg c15] at H
      exact absurd H (by simp)
    ·rw [if_neg c14] at H
     exact absurd H (by simp)
 ·replace c5 := Bool.eq_false_iff.mpr c5
  subst c5
  have H1 : (none) = some r := by rw [if_neg (show ¬ (false = true) by decide)] at H; exact H
  clear H
  have H := H1
  clear H1
  exact absurd H (by simp)

/-- THE ONE PURE STATEMENT of drawlotlaw22_BookTells: yours. -/
def drawlotlaw22_BookTells.Pure : Prop := ∀ (l0 : List (S27)) (l1 : List (S27)) (a2 : List Int), (l0.length ≤ maxLen ∧ ∀ x ∈ l0, ((x.f0.length = 32 ∧ ∀ x_ ∈ x.f0, (Lit.int .u8 x_).wf = true) ∧ (Lit.int .u64 x.f1).wf = true ∧ (Lit.int .u64 x.f2).wf = true)) → (l1.length ≤ maxLen ∧ ∀ x ∈ l1, ((x.f0.length = 32 ∧ ∀ x_ ∈ x.f0, (Lit.int .u8 x_).wf = true) ∧ (Lit.int .u64 x.f1).wf = true ∧ (Lit.int .u64 x.f2).wf = true)) → (a2.length = 32 ∧ ∀ x ∈ a2, (Lit.int .u8 x).wf = true) → ∃ k, drawlotlaw22_BookTells.f k l0 l1 a2 = some true
theorem drawlotlaw22_BookTells.walk (P : drawlotlaw22_BookTells.Pure) (A0 : Option Addr) (c0 : Nat) (l0 : List (S27)) (A1 : Option Addr) (c1 : Nat) (l1 : List (S27)) (a2 : List Int) (w : World) (w0 : Kd.C k27 w A0 l0.length l0 ∧ l0.length ≤ c0 ∧ (l0.length ≤ maxLen ∧ ∀ x ∈ l0, ((x.f0.length = 32 ∧ ∀ x_ ∈ x.f0, (Lit.int .u8 x_).wf = true) ∧ (Lit.int .u64 x.f1).wf = true ∧ (Lit.int .u64 x.f2).wf = true))) (w1 : Kd.C k27 w A1 l1.length l1 ∧ l1.length ≤ c1 ∧ (l1.length ≤ maxLen ∧ ∀ x ∈ l1, ((x.f0.length = 32 ∧ ∀ x_ ∈ x.f0, (Lit.int .u8 x_).wf = true) ∧ (Lit.int .u64 x.f1).wf = true ∧ (Lit.int .u64 x.f2).wf = true))) (w2 : a2.length = 32 ∧ ∀ x ∈ a2, (Lit.int .u8 x).wf = true) :
  Calls Try.prog 5 #[.slice A0 l0.length c0, .slice A1 l1.length c1, .agg (Ar.cells .u8 32 a2)] w fun e w' => e = .returned (.bool true) ∧ Below w.heap.size w w' := by
 obtain ⟨k, h⟩ := P l0 l1 a2 w0.2.2 w1.2.2 w2
 refine (drawlotlaw22_BookTells.calls k _ _ l0 _ _ l1 a2 true w w0.1 w0.2.1 w1.1 w1.2.1 h).mono ?_
 rintro e w' ⟨rfl, hd⟩
 exact ⟨rfl, hd⟩

end Go.Proofs.Ytoaeedepfmfkkaa.PB
