/- Written by xprint.py, this session's own driver, for the seat Ytoaeedepfmfkkaa: contracts of Go functions, each saying that a call answers what a plain Lean function of the same name says, and, in a text named Law, the row of a law: its Go function answers true for every input. No conditions. -/
import Derived.Test.YtoaeedepfmfkkaaPBx0
import Derived.Test.YtoaeedepfmfkkaaPBx2
import Derived.Test.YtoaeedepfmfkkaaPBx3
import Derived.Test.YtoaeedepfmfkkaaPBx4
import Derived.Test.YtoaeedepfmfkkaaPBx8
namespace Go.Proofs.Ytoaeedepfmfkkaa.PB
open Go.RowKit Go.Proofs.YtoaeedepfmfkkaaW.PrintWords Go.Proofs.YtoaeedepfmfkkaaW.PrintLast Go.Proofs.YtoaeedepfmfkkaaW.PrintMore
attribute [local go_sem] max2_int min2_int max_two min_two max_three min_three max_four min_four   -- for this text's walks alone
set_option linter.unusedVariables false
set_option linter.unusedSimpArgs false

/-! ### drawlotlaw22_BookBack: function 7 -/
def drawlotlaw22_BookBack.f (k : Nat) (l0 : List (S27)) (a1 : List Int) (a2 : Int) : Option (Bool) := (drawlotlaw22_alive.f k).bind fun t480 => (if t480 = true then (if (l0.length : Int) > 60 then (some true) else ((book_Deposit.f k l0 a1 a2 100).bind fun bt481 => (if bt481.2.2 = 0 then ((book_Withdraw.f k bt481.1 bt481.2.1 a2).bind fun bt486 => (if bt486.2.2 = 0 then (if bt481.2.1 < 0 then (none) else (if bt481.2.1 ≥ (bt481.1.length : Int) then (none) else (if (bt486.1.length : Int) = (bt481.1.length : Int) then (if 0 ≤ bt481.2.1 then (if bt481.2.1 < (bt486.1.length : Int) then (if bt486.2.1 = ((rd_T27 bt486.1 bt481.2.1).f2) then (if (bt481.1.length : Int) = (l0.length : Int) then ((drawlotref22_Same.f k bt486.1 l0).bind fun t492 => (some t492)) else (if (bt481.1.length : Int) = (wrap64 ((l0.length : Int) + 1)) then (if bt481.2.1 = (l0.length : Int) then (if bt486.2.1 = 0 then (if 0 ≤ (l0.length : Int) then (if (l0.length : Int) ≤ (bt486.1.length : Int) then ((drawlotref22_Same.f k (bt486.1.take ((l0.length : Int) : Int).toNat) l0).bind fun t497 => (some t497)) else (none)) else (none)) else (none)) else (none)) else (none))) else (none)) else (none)) else (none)) else (none)))) else (none))) else (if (bt481.1.length : Int) = 0 then (some (bt481.2.1 == 0)) else (none))))) else (none))
theorem drawlotlaw22_BookBack.mono : ∀ a0 a1 a2 k, LeO (drawlotlaw22_BookBack.f k a0 a1 a2) (drawlotlaw22_BookBack.f (k + 1) a0 a1 a2) := by
 intro a0 a1 a2 k
 unfold drawlotlaw22_BookBack.f
 repeat' first
   | (with_reducible exact book_Deposit.mono _ _ _ _ _)
   | (with_reducible exact book_Withdraw.mono _ _ _ _)
   | (with_reducible exact drawlotlaw22_alive.mono _)
   | (with_reducible exact drawlotref22_Same.mono _ _ _)
   | (with_reducible exact LeO.refl _)
   | (with_reducible exact LeO.none _)
   | (with_reducible refine LeO.ite ?_ ?_)
   | (with_reducible refine LeO.bind ?_ (fun _ => ?_))
   | exact book_Deposit.mono _ _ _ _ _
   | exact book_Withdraw.mono _ _ _ _
   | exact drawlotlaw22_alive.mono _
   | exact drawlotref22_Same.mono _ _ _
   | exact LeO.none _
   | refine LeO.ite ?_ ?_
   | refine LeO.bind ?_ (fun _ => ?_)
set_option maxHeartbeats 8000000 in
set_option maxRecDepth 100000 in
theorem drawlotlaw22_BookBack.calls (k : Nat) (A0 : Option Addr) (c0 : Nat) (l0 : List (S27)) (a1 : List Int) (a2 : Int) (r : Bool) (w : World) (hr0 : Kd.C k27 w A0 l0.length l0) (hc0 : l0.length ≤ c0) (h : drawlotlaw22_BookBack.f k l0 a1 a2 = some r) :
  Calls Try.prog 7 #[.slice A0 l0.length c0, .agg (Ar.cells .u8 32 a1), .int .u64 a2] w fun e w' => e = .returned (.bool r) ∧ Below w.heap.size w w' := by
 have HR0 := Aside0.mk hr0
 have HC0 := Aside0.mk hc0
 clear hr0 hc0
 have HB := Aside0.mk (Below.refl w.heap.size w)
 have H : ((drawlotlaw22_alive.f k).bind fun t480 => (if t480 = true then (if (l0.length : Int) > 60 then (some true) else ((book_Deposit.f k l0 a1 a2 100).bind fun bt481 => (if bt481.2.2 = 0 then ((book_Withdraw.f k bt481.1 bt481.2.1 a2).bind fun bt486 => (if bt486.2.2 = 0 then (if bt481.2.1 < 0 then (none) else (if bt481.2.1 ≥ (bt481.1.length : Int) then (none) else (if (bt486.1.length : Int) = (bt481.1.length : Int) then (if 0 ≤ bt481.2.1 then (if bt481.2.1 < (bt486.1.length : Int) then (if bt486.2.1 = ((rd_T27 bt486.1 bt481.2.1).f2) then (if (bt481.1.length : Int) = (l0.length : Int) then ((drawlotref22_Same.f k bt486.1 l0).bind fun t492 => (some t492)) else (if (bt481.1.length : Int) = (wrap64 ((l0.length : Int) + 1)) then (if bt481.2.1 = (l0.length : Int) then (if bt486.2.1 = 0 then (if 0 ≤ (l0.length : Int) then (if (l0.length : Int) ≤ (bt486.1.length : Int) then ((drawlotref22_Same.f k (bt486.1.take ((l0.length : Int) : Int).toNat) l0).bind fun t497 => (some t497)) else (none)) else (none)) else (none)) else (none)) else (none))) else (none)) else (none)) else (none)) else (none)))) else (none))) else (if (bt481.1.length : Int) = 0 then (some (bt481.2.1 == 0)) else (none))))) else (none))) = some r := h
 clear h
 replace H := Option.bind_eq_some_iff.mp H
 obtain ⟨t480, A40, H⟩ := H
 replace H : (if t480 = true then (if (l0.length : Int) > 60 then (some true) else ((book_Deposit.f k l0 a1 a2 100).bind fun bt481 => (if bt481.2.2 = 0 then ((book_Withdraw.f k bt481.1 bt481.2.1 a2).bind fun bt486 => (if bt486.2.2 = 0 then (if bt481.2.1 < 0 then (none) else (if bt481.2.1 ≥ (bt481.1.length : Int) then (none) else (if (bt486.1.length : Int) = (bt481.1.length : Int) then (if 0 ≤ bt481.2.1 then (if bt481.2.1 < (bt486.1.length : Int) then (if bt486.2.1 = ((rd_T27 bt486.1 bt481.2.1).f2) then (if (bt481.1.length : Int) = (l0.length : Int) then ((drawlotref22_Same.f k bt486.1 l0).bind fun t492 => (some t492)) else (if (bt481.1.length : Int) = (wrap64 ((l0.length : Int) + 1)) then (if bt481.2.1 = (l0.length : Int) then (if bt486.2.1 = 0 then (if 0 ≤ (l0.length : Int) then (if (l0.length : Int) ≤ (bt486.1.length : Int) then ((drawlotref22_Same.f k (bt486.1.take ((l0.length : Int) : Int).toNat) l0).bind fun t497 => (some t497)) else (none)) else (none)) else (none)) else (none)) else (none))) else (none)) else (none)) else (none)) else (none)))) else (none))) else (if (bt481.1.length : Int) = 0 then (some (bt481.2.1 == 0)) else (none))))) else (none)) = some r := H
 have A4 := Aside0.mk A40
 clear A40
 by_cases c5 : t480 = true
 ·subst c5
  have H1 : (if (l0.length : Int) > 60 then (some true) else ((book_Deposit.f k l0 a1 a2 100).bind fun bt481 => (if bt481.2.2 = 0 then ((book_Withdraw.f k bt481.1 bt481.2.1 a2).bind fun bt486 => (if bt486.2.2 = 0 then (if bt481.2.1 < 0 then (none) else (if bt481.2.1 ≥ (bt481.1.length : Int) then (none) else (if (bt486.1.length : Int) = (bt481.1.length : Int) then (if 0 ≤ bt481.2.1 then (if bt481.2.1 < (bt486.1.length : Int) then (if bt486.2.1 = ((rd_T27 bt486.1 bt481.2.1).f2) then (if (bt481.1.length : Int) = (l0.length : Int) then ((drawlotref22_Same.f k bt486.1 l0).bind fun t492 => (some t492)) else (if (bt481.1.length : Int) = (wrap64 ((l0.length : Int) + 1)) then (if bt481.2.1 = (l0.length : Int) then (if bt486.2.1 = 0 then (if 0 ≤ (l0.length : Int) then (if (l0.length : Int) ≤ (bt486.1.length : Int) then ((drawlotref22_Same.f k (bt486.1.take ((l0.length : Int) : Int).toNat) l0).bind fun t497 => (some t497)) else (none)) else (none)) else (none)) else (none)) else (none))) else (none)) else (none)) else (none)) else (none)))) else (none))) else (if (bt481.1.length : Int) = 0 then (some (bt481.2.1 == 0)) else (none))))) = some r := by rw [if_pos rfl] at H; exact H
  clear H
  have H := H1
  clear H1
  by_cases c6 : (l0.length : Int) > 60
  ·rw [if_pos c6] at H
   have c6b0 : decide (60 < (l0.length : Int)) = true := decide_eq_true c6
   have c6b1 : decide (60 < l0.length) = true := decide_eq_true (by omega)
   clear c6
   obtain rfl := Option.some.inj H
   go_enter Try.func7, Try.ntmps7
   try simp only [List.append]
   go_wp2_with (first | ((with_reducible refine gate_dst (N := 4) rfl ?_); (try (refine gate_guard (by rfl) ?_; dsimp only)); refine box_event ?hg (N := 4) ?hd (cs := (Ar.cells .u8 32 a1)) (t := 24) ?hr ?_; (case hd => rfl); (case hg => rfl); (case hr => first | exact Ar.box_run rfl rfl | exact Ar.alloc_run rfl (by kernel_rfl) | (go_simp; done) | (go_simp; rfl)); intro gb479 hg w7 hbox hb; have n0_ := Aside0.mk (below_step (by repeat (first | (with_reducible first | exact HB.out | apply below_alloc | apply pw_below_drewN | apply below_drew1) | exact HB.out)) hb); have n1_ := Aside0.mk (hbox); have n2_ := Aside0.mk ((by rw [hg]; exact (below_size (by repeat (first | (with_reducible first | exact HB.out | apply below_alloc | apply pw_below_drewN | apply below_drew1) | exact HB.out))) : w.heap.size ≤ gb479)); have n3_ := Aside0.mk ((by rw [hg]; exact (below_size (by repeat (first | (with_reducible first | exact HB.out | apply below_alloc | apply pw_below_drewN | apply below_drew1) | exact HB.out))) : w.heap.size ≤ gb479)); clear HB; have HB := n0_; have BK479 := n1_; have GW479 := n2_; have GE479 := n3_; clear n0_ n1_ n2_ n3_; clear hb hbox hg) | ((with_reducible refine gate_callee (f := 13) rfl ?_); refine goesL_ (some 13) rfl rfl Try.func13 (by kernel_rfl) rfl #[] rfl (by (try simp only [List.map_toArray, List.map_cons, List.map_nil]); first | done | rfl | (simp only [List.length_drop, List.length_take]; rfl)) ?_; (with_reducible refine (drawlotlaw22_alive.calls k  true _ A4.out).mono ?_); rintro e w8 ⟨rfl, hb⟩; refine ⟨_, rfl, ?_⟩; have n0_ := Aside0.mk (blk_below (g := gb479) (o := .cells (Ar.cells .u8 32 a1) 24 (0, 0)) (by (with_reducible repeat (first | refine blk_drewN ?_ _ | refine blk_drew ?_ | refine blk_alloc ?_ _)); exact BK479.out) hb); have n1_ := Aside0.mk (below_step (by repeat (first | (with_reducible first | exact HB.out | apply below_alloc | apply pw_below_drewN | apply below_drew1 | refine below_set ?_ GE479.out) | exact HB.out)) hb); clear BK479; clear HB; have BK479 := n0_; have HB := n1_; clear n0_ n1_; (try clear hb); (try clear hb2); (try clear hk); (try clear hi)))
   go_ret
   exact ⟨by first | rfl | (simp [errW_none, errW_some] <;> rfl) | (simp [*, errW_none, errW_some] <;> rfl), by repeat (first | (with_reducible first | exact HB.out | apply below_alloc | apply pw_below_drewN | apply below_drew1 | refine below_set ?_ GE479.out) | exact HB.out)⟩
  ·rw [if_neg c6] at H
   have c6b0 : decide (60 < (l0.length : Int)) = false := decide_eq_false c6
   have c6b1 : decide (60 < l0.length) = false := decide_eq_false (by omega)
   clear c6
   replace H := Option.bind_eq_some_iff.mp H
   obtain ⟨⟨t481, t482, t483⟩, A90, H⟩ := H
   replace H : (if t483 = 0 then ((book_Withdraw.f k t481 t482 a2).bind fun bt486 => (if bt486.2.2 = 0 then (if t482 < 0 then (none) else (if t482 ≥ (t481.length : Int) then (none) else (if (bt486.1.length : Int) = (t481.length : Int) then (if 0 ≤ t482 then (if t482 < (bt486.1.length : Int) then (if bt486.2.1 = ((rd_T27 bt486.1 t482).f2) then (if (t481.length : Int) = (l0.length : Int) then ((drawlotref22_Same.f k bt486.1 l0).bind fun t492 => (some t492)) else (if (t481.length : Int) = (wrap64 ((l0.length : Int) + 1)) then (if t482 = (l0.length : Int) then (if bt486.2.1 = 0 then (if 0 ≤ (l0.length : Int) then (if (l0.length : Int) ≤ (bt486.1.length : Int) then ((drawlotref22_Same.f k (bt486.1.take ((l0.length : Int) : Int).toNat) l0).bind fun t497 => (some t497)) else (none)) else (none)) else (none)) else (none)) else (none))) else (none)) else (none)) else (none)) else (none)))) else (none))) else (if (t481.length : Int) = 0 then (some (t482 == 0)) else (none))) = some r := H
   have A9 := Aside0.mk A90
   clear A90
   by_cases c10 : t483 = 0
   ·rw [if_pos c10] at H
    have c10b0 : (t483 == 0) = true := beq_iff_eq.mpr c10
    have c10b1 : (t483 != 0) = false := bne_eq_false_iff_eq.mpr c10
    clear c10
    replace H := Option.bind_eq_some_iff.mp H
    obtain ⟨⟨t486, t487, t488⟩, A110, H⟩ := H
    replace H : (if t488 = 0 then (if t482 < 0 then (none) else (if t482 ≥ (t481.length : Int) then (none) else (if (t486.length : Int) = (t481.length : Int) then (if 0 ≤ t482 then (if t482 < (t486.length : Int) then (if t487 = ((rd_T27 t486 t482).f2) then (if (t481.length : Int) = (l0.length : Int) then ((drawlotref22_Same.f k t486 l0).bind fun t492 => (some t492)) else (if (t481.length : Int) = (wrap64 ((l0.length : Int) + 1)) then (if t482 = (l0.length : Int) then (if t487 = 0 then (if 0 ≤ (l0.length : Int) then (if (l0.length : Int) ≤ (t486.length : Int) then ((drawlotref22_Same.f k (t486.take ((l0.length : Int) : Int).toNat) l0).bind fun t497 => (some t497)) else (none)) else (none)) else (none)) else (none)) else (none))) else (none)) else (none)) else (none)) else (none)))) else (none)) = some r := H
    have A11 := Aside0.mk A110
    clear A110
    by_cases c12 : t488 = 0
    ·rw [if_pos c12] at H
     have c12b0 : (t488 == 0) = true := beq_iff_eq.mpr c12
     have c12b1 : (t488 != 0) = false := bne_eq_false_iff_eq.mpr c12
     clear c12
     by_cases c13 : t482 < 0
     ·rw [if_pos c13] at H
      exact absurd H (by simp)
     ·rw [if_neg c13] at H
      have c13b0 : decide (t482 < 0) = false := decide_eq_false c13
      clear c13
      by_cases c14 : t482 ≥ (t481.length : Int)
      ·rw [if_pos c14] at H
       exact absurd H (by simp)
      ·rw [if_neg c14] at H
       have c14b0 : decide ((t481.length : Int) ≤ t482) = false := decide_eq_false c14
       clear c14
       by_cases c15 : (t486.length : Int) = (t481.length : Int)
       ·rw [if_pos c15] at H
        have c15b0 : ((t486.length : Int) == (t481.length : Int)) = true := beq_iff_eq.mpr c15
        have c15b1 : ((t486.length : Int) != (t481.length : Int)) = false := bne_eq_false_iff_eq.mpr c15
        have c15b2 : (t486.length == t481.length) = true := by first | simpa using c15 | (simp at c15 ⊢; omega)
        clear c15
        by_cases c16 : 0 ≤ t482
        ·rw [if_pos c16] at H
         have c16b0 : decide (0 ≤ t482) = true := decide_eq_true c16
         clear c16
         by_cases c17 : t482 < (t486.length : Int)
         ·rw [if_pos c17] at H
          have c17b0 : decide (t482 < (t486.length : Int)) = true := decide_eq_true c17
          clear c17
          by_cases c18 : t487 = ((rd_T27 t486 t482).f2)
          ·rw [if_pos c18] at H
           have c18b0 : (t487 == ((rd_T27 t486 t482).f2)) = true := beq_iff_eq.mpr c18
           have c18b1 : (t487 != ((rd_T27 t486 t482).f2)) = false := bne_eq_false_iff_eq.mpr c18
           clear c18
           by_cases c19 : (t481.length : Int) = (l0.length : Int)
           ·rw [if_pos c19] at H
            have c19b0 : ((t481.length : Int) == (l0.length : Int)) = true := beq_iff_eq.mpr c19
            have c19b1 : ((t481.length : Int) != (l0.length : Int)) = false := bne_eq_false_iff_eq.mpr c19
            have c19b2 : (t481.length == l0.length) = true := by first | simpa using c19 | (simp at c19 ⊢; omega)
            clear c19
            replace H := Option.bind_eq_some_iff.mp H
            obtain ⟨t492, A200, H⟩ := H
            replace H : (some t492) = some r := H
            have A20 := Aside0.mk A200
            clear A200
            obtain rfl := Option.some.inj H
            go_enter Try.func7, Try.ntmps7
            try simp only [List.append]
            go_wp2_with (first | ((with_reducible refine gate_dst (N := 4) rfl ?_); (try (refine gate_guard (by rfl) ?_; dsimp only)); refine box_event ?hg (N := 4) ?hd (cs := (Ar.cells .u8 32 a1)) (t := 24) ?hr ?_; (case hd => rfl); (case hg => rfl); (case hr => first | exact Ar.box_run rfl rfl | exact Ar.alloc_run rfl (by kernel_rfl) | (go_simp; done) | (go_simp; rfl)); intro gb479 hg w21 hbox hb; have n0_ := Aside0.mk (below_step (by repeat (first | (with_reducible first | exact HB.out | apply below_alloc | apply pw_below_drewN | apply below_drew1) | exact HB.out)) hb); have n1_ := Aside0.mk (hbox); have n2_ := Aside0.mk ((by rw [hg]; exact (below_size (by repeat (first | (with_reducible first | exact HB.out | apply below_alloc | apply pw_below_drewN | apply below_drew1) | exact HB.out))) : w.heap.size ≤ gb479)); have n3_ := Aside0.mk ((by rw [hg]; exact (below_size (by repeat (first | (with_reducible first | exact HB.out | apply below_alloc | apply pw_below_drewN | apply below_drew1) | exact HB.out))) : w.heap.size ≤ gb479)); clear HB; have HB := n0_; have BK479 := n1_; have GW479 := n2_; have GE479 := n3_; clear n0_ n1_ n2_ n3_; clear hb hbox hg) | ((with_reducible refine gate_callee (f := 13) rfl ?_); refine goesL_ (some 13) rfl rfl Try.func13 (by kernel_rfl) rfl #[] rfl (by (try simp only [List.map_toArray, List.map_cons, List.map_nil]); first | done | rfl | (simp only [List.length_drop, List.length_take]; rfl)) ?_; (with_reducible refine (drawlotlaw22_alive.calls k  true _ A4.out).mono ?_); rintro e w22 ⟨rfl, hb⟩; refine ⟨_, rfl, ?_⟩; have n0_ := Aside0.mk (blk_below (g := gb479) (o := .cells (Ar.cells .u8 32 a1) 24 (0, 0)) (by (with_reducible repeat (first | refine blk_drewN ?_ _ | refine blk_drew ?_ | refine blk_alloc ?_ _)); exact BK479.out) hb); have n1_ := Aside0.mk (below_step (by repeat (first | (with_reducible first | exact HB.out | apply below_alloc | apply pw_below_drewN | apply below_drew1 | refine below_set ?_ GE479.out) | exact HB.out)) hb); clear BK479; clear HB; have BK479 := n0_; have HB := n1_; clear n0_ n1_; (try clear hb); (try clear hb2); (try clear hk); (try clear hi)) | ((with_reducible refine gate_dst (N := 20) rfl ?_); (try (refine gate_guard (by rfl) ?_; dsimp only)); refine Ar.load_event rfl (D := 20) rfl (T := 24) rfl Try.underlying24 (by kernel_rfl) (g := gb479) rfl (by (with_reducible repeat (first | refine blk_drewN ?_ _ | refine blk_drew ?_ | refine blk_alloc ?_ _)); exact BK479.out) ?_) | ((with_reducible refine gate_callee (f := 14) rfl ?_); refine goesL_ (some 22) rfl rfl Try.func14 (by kernel_rfl) rfl #[.slice A0 l0.length c0, .agg (Ar.cells .u8 32 a1), .int .u64 a2, .int .i64 100] rfl (by (try simp only [List.map_toArray, List.map_cons, List.map_nil]); first | done | rfl | (simp only [List.length_drop, List.length_take]; rfl)) ?_; (with_reducible refine (book_Deposit.calls k _ _ l0 a1 a2 100 t481 t482 t483 _ ?side1 ?side2 A9.out).mono ?_); (case side1 => repeat (first | exact (Kd.C_below HR0.out HB.out) | (with_reducible refine Kd.C_alloc ?_ _) | (with_reducible refine Kd.C_drewN ?_ _) | (with_reducible refine Kd.C_drew ?_))); (case side2 => exact HC0.out); rintro e w23 ⟨v484, rfl, ho0, hb⟩; refine ⟨_, rfl, ?_⟩; have n0_ := Aside0.mk (Kd.R_lower ho0 (below_size (by repeat (first | (with_reducible first | exact HB.out | apply below_alloc | apply pw_below_drewN | apply below_drew1 | refine below_set ?_ GE479.out) | exact HB.out)))); have n1_ := Aside0.mk (blk_below (g := gb479) (o := .cells (Ar.cells .u8 32 a1) 24 (0, 0)) (by (with_reducible repeat (first | refine blk_drewN ?_ _ | refine blk_drew ?_ | refine blk_alloc ?_ _)); exact BK479.out) hb); have n2_ := Aside0.mk (below_step (by repeat (first | (with_reducible first | exact HB.out | apply below_alloc | apply pw_below_drewN | apply below_drew1 | refine below_set ?_ GE479.out) | exact HB.out)) hb); clear BK479; clear HB; have HO485 := n0_; have BK479 := n1_; have HB := n2_; clear n0_ n1_ n2_; (try clear hb); (try clear hb2); (try clear hk); (try clear hi); (try clear ho0); obtain ⟨Ao24, co24, eo24⟩ := Kd.R_slice HO485.out; subst eo24) | ((with_reducible refine gate_callee (f := 17) rfl ?_); refine goesL_ (some 39) rfl rfl Try.func17 (by kernel_rfl) rfl #[.slice Ao24 t481.length co24, .int .i64 t482, .int .u64 a2] rfl (by (try simp only [List.map_toArray, List.map_cons, List.map_nil]); first | done | rfl | (simp only [List.length_drop, List.length_take]; rfl)) ?_; (with_reducible refine (book_Withdraw.calls k _ _ t481 t482 a2 t486 t487 t488 _ ?side1 ?side2 A11.out).mono ?_); (case side1 => repeat (first | exact (Kd.R_reads' HO485.out).2.2 | (with_reducible refine Kd.C_alloc ?_ _) | (with_reducible refine Kd.C_drewN ?_ _) | (with_reducible refine Kd.C_drew ?_))); (case side2 => exact (Kd.R_reads' HO485.out).2.1); rintro e w25 ⟨v489, rfl, ho0, hb⟩; refine ⟨_, rfl, ?_⟩; have n0_ := Aside0.mk (Kd.R_elder' (by (with_reducible repeat (first | apply Kd.R_alloc | apply Kd.R_drewN | apply Kd.R_drew)); exact HO485.out) (Kd.R_base ho0) hb); have n1_ := Aside0.mk (Kd.R_lower (Kd.R_new' ho0 (Kd.R_lt (by (with_reducible repeat (first | apply Kd.R_alloc | apply Kd.R_drewN | apply Kd.R_drew)); exact HO485.out))) (below_size (by repeat (first | (with_reducible first | exact HB.out | apply below_alloc | apply pw_below_drewN | apply below_drew1 | refine below_set ?_ GE479.out) | exact HB.out)))); have n2_ := Aside0.mk (blk_below (g := gb479) (o := .cells (Ar.cells .u8 32 a1) 24 (0, 0)) (by (with_reducible repeat (first | refine blk_drewN ?_ _ | refine blk_drew ?_ | refine blk_alloc ?_ _)); exact BK479.out) hb); have n3_ := Aside0.mk (below_step (by repeat (first | (with_reducible first | exact HB.out | apply below_alloc | apply pw_below_drewN | apply below_drew1 | refine below_set ?_ GE479.out) | exact HB.out)) hb); clear HO485; clear BK479; clear HB; have HO485 := n0_; have HO490 := n1_; have BK479 := n2_; have HB := n3_; clear n0_ n1_ n2_ n3_; (try clear hb); (try clear hb2); (try clear hk); (try clear hi); (try clear ho0); obtain ⟨Ao26, co26, eo26⟩ := Kd.R_slice HO490.out; subst eo26; have p491 : 0 ≤ (t482 : Int) := of_decide_eq_true (by first | (with_reducible assumption) | assumption); have q491 : t482 < (t486.length : Int) := of_decide_eq_true (by first | (with_reducible assumption) | assumption); obtain ⟨ad491, e491, hx491_0, hx491_1, hx491_2⟩ := at_T27 (Kd.R_reads' HO490.out).2.2 t482 p491 q491; cases e491; replace p491 := eq_true p491; replace q491 := eq_true q491) | ((with_reducible refine gate_callee (f := 16) rfl ?_); refine goesL_ (some 78) rfl rfl Try.func16 (by kernel_rfl) rfl #[.slice (some ad491) t486.length co26, .slice A0 l0.length c0] rfl (by (try simp only [List.map_toArray, List.map_cons, List.map_nil]); first | done | rfl | (simp only [List.length_drop, List.length_take]; rfl)) ?_; (with_reducible refine (drawlotref22_Same.calls k _ _ t486 _ _ l0 t492 _ ?side1 ?side2 ?side3 ?side4 A20.out).mono ?_); (case side1 => repeat (first | exact (Kd.R_reads' HO490.out).2.2 | (with_reducible refine Kd.C_alloc ?_ _) | (with_reducible refine Kd.C_drewN ?_ _) | (with_reducible refine Kd.C_drew ?_))); (case side2 => exact (Kd.R_reads' HO490.out).2.1); (case side3 => repeat (first | exact (Kd.C_below HR0.out HB.out) | (with_reducible refine Kd.C_alloc ?_ _) | (with_reducible refine Kd.C_drewN ?_ _) | (with_reducible refine Kd.C_drew ?_))); (case side4 => exact HC0.out); rintro e w27 ⟨rfl, hb⟩; refine ⟨_, rfl, ?_⟩; have n0_ := Aside0.mk (Kd.R_below (by (with_reducible repeat (first | apply Kd.R_alloc | apply Kd.R_drewN | apply Kd.R_drew)); exact HO485.out) hb); have n1_ := Aside0.mk (Kd.R_below (by (with_reducible repeat (first | apply Kd.R_alloc | apply Kd.R_drewN | apply Kd.R_drew)); exact HO490.out) hb); have n2_ := Aside0.mk (blk_below (g := gb479) (o := .cells (Ar.cells .u8 32 a1) 24 (0, 0)) (by (with_reducible repeat (first | refine blk_drewN ?_ _ | refine blk_drew ?_ | refine blk_alloc ?_ _)); exact BK479.out) hb); have n3_ := Aside0.mk (below_step (by repeat (first | (with_reducible first | exact HB.out | apply below_alloc | apply pw_below_drewN | apply below_drew1 | refine below_set ?_ GE479.out) | exact HB.out)) hb); clear HO485; clear HO490; clear BK479; clear HB; have HO485 := n0_; have HO490 := n1_; have BK479 := n2_; have HB := n3_; clear n0_ n1_ n2_ n3_; (try clear hb); (try clear hb2); (try clear hk); (try clear hi)))
            go_ret
            exact ⟨by first | rfl | (simp [errW_none, errW_some] <;> rfl) | (simp [*, errW_none, errW_some] <;> rfl), by repeat (first | (with_reducible first | exact HB.out | apply below_alloc | apply pw_below_drewN | apply below_drew1 | refine below_set ?_ GE479.out) | exact HB.out)⟩
           ·rw [if_neg c19] at H
            have c19b0 : ((t481.length : Int) == (l0.length : Int)) = false := beq_eq_false_iff_ne.mpr c19
            have c19b1 : ((t481.length : Int) != (l0.length : Int)) = true := bne_iff_ne.mpr c19
            have c19b2 : (t481.length == l0.length) = false := by first | simpa using c19 | (simp at c19 ⊢; omega)
            by_cases c28 : (t481.length : Int) = (wrap64 ((l0.length : Int) + 1))
            ·rw [if_pos c28] at H
             have c28b0 : ((t481.length : Int) == (wrap64 ((l0.length : Int) + 1))) = true := beq_iff_eq.mpr c28
             have c28b1 : ((t481.length : Int) != (wrap64 ((l0.length : Int) + 1))) = false := bne_eq_false_iff_eq.mpr c28
             clear c28
             by_cases c29 : t482 = (l0.length : Int)
             ·rw [if_pos c29] at H
              have c29b0 : (t482 == (l0.length : Int)) = true := beq_iff_eq.mpr c29
              have c29b1 : (t482 != (l0.length : Int)) = false := bne_eq_false_iff_eq.mpr c29
              clear c29
              by_cases c30 : t487 = 0
              ·rw [if_pos c30] at H
               have c30b0 : (t487 == 0) = true := beq_iff_eq.mpr c30
               have c30b1 : (t487 != 0) = false := bne_eq_false_iff_eq.mpr c30
               clear c30
               by_cases c31 : 0 ≤ (l0.length : Int)
               ·rw [if_pos c31] at H
                have c31b0 := eq_true c31
                have c31b1 : decide (0 ≤ (l0.length : Int)) = true := decide_eq_true c31
                clear c31
                by_cases c32 : (l0.length : Int) ≤ (t486.length : Int)
                ·rw [if_pos c32] at H
                 have c32b0 := eq_true c32
                 have c32b1 : decide ((l0.length : Int) ≤ (t486.length : Int)) = true := decide_eq_true c32
                 clear c32
                 obtain ⟨y493, hy493⟩ : ∃ y_ : List (S27), y_ = (t486.take ((l0.length : Int) : Int).toNat) := ⟨_, rfl⟩
                 replace H : ((drawlotref22_Same.f k y493 l0).bind fun t497 => (some t497)) = some r := by first | (rw [hy493]; with_reducible exact H) | (have H2_ := (Option.bind_some _ _).symm.trans H; rw [hy493]; with_reducible exact H2_) | (have H2_ := (Option.bind_some _ _).symm.trans H; with_reducible exact H2_) | with_reducible exact H | (rw [hy493]; exact H) | exact H
                 have Ny493 := Aside0.mk hy493
                 clear hy493
                 replace H := Option.bind_eq_some_iff.mp H
                 obtain ⟨t497, A330, H⟩ := H
                 replace H : (some t497) = some r := H
                 have A33 := Aside0.mk A330
                 clear A330
                 obtain rfl := Option.some.inj H
                 go_enter Try.func7, Try.ntmps7
                 try simp only [List.append]
                 go_wp2_with (first | ((with_reducible refine gate_dst (N := 4) rfl ?_); (try (refine gate_guard (by rfl) ?_; dsimp only)); refine box_event ?hg (N := 4) ?hd (cs := (Ar.cells .u8 32 a1)) (t := 24) ?hr ?_; (case hd => rfl); (case hg => rfl); (case hr => first | exact Ar.box_run rfl rfl | exact Ar.alloc_run rfl (by kernel_rfl) | (go_simp; done) | (go_simp; rfl)); intro gb479 hg w34 hbox hb; have n0_ := Aside0.mk (below_step (by repeat (first | (with_reducible first | exact HB.out | apply below_alloc | apply pw_below_drewN | apply below_drew1) | exact HB.out)) hb); have n1_ := Aside0.mk (hbox); have n2_ := Aside0.mk ((by rw [hg]; exact (below_size (by repeat (first | (with_reducible first | exact HB.out | apply below_alloc | apply pw_below_drewN | apply below_drew1) | exact HB.out))) : w.heap.size ≤ gb479)); have n3_ := Aside0.mk ((by rw [hg]; exact (below_size (by repeat (first | (with_reducible first | exact HB.out | apply below_alloc | apply pw_below_drewN | apply below_drew1) | exact HB.out))) : w.heap.size ≤ gb479)); clear HB; have HB := n0_; have BK479 := n1_; have GW479 := n2_; have GE479 := n3_; clear n0_ n1_ n2_ n3_; clear hb hbox hg) | ((with_reducible refine gate_callee (f := 13) rfl ?_); refine goesL_ (some 13) rfl rfl Try.func13 (by kernel_rfl) rfl #[] rfl (by (try simp only [List.map_toArray, List.map_cons, List.map_nil]); first | done | rfl | (simp only [List.length_drop, List.length_take]; rfl)) ?_; (with_reducible refine (drawlotlaw22_alive.calls k  true _ A4.out).mono ?_); rintro e w35 ⟨rfl, hb⟩; refine ⟨_, rfl, ?_⟩; have n0_ := Aside0.mk (blk_below (g := gb479) (o := .cells (Ar.cells .u8 32 a1) 24 (0, 0)) (by (with_reducible repeat (first | refine blk_drewN ?_ _ | refine blk_drew ?_ | refine blk_alloc ?_ _)); exact BK479.out) hb); have n1_ := Aside0.mk (below_step (by repeat (first | (with_reducible first | exact HB.out | apply below_alloc | apply pw_below_drewN | apply below_drew1 | refine below_set ?_ GE479.out) | exact HB.out)) hb); clear BK479; clear HB; have BK479 := n0_; have HB := n1_; clear n0_ n1_; (try clear hb); (try clear hb2); (try clear hk); (try clear hi)) | ((with_reducible refine gate_dst (N := 20) rfl ?_); (try (refine gate_guard (by rfl) ?_; dsimp only)); refine Ar.load_event rfl (D := 20) rfl (T := 24) rfl Try.underlying24 (by kernel_rfl) (g := gb479) rfl (by (with_reducible repeat (first | refine blk_drewN ?_ _ | refine blk_drew ?_ | refine blk_alloc ?_ _)); exact BK479.out) ?_) | ((with_reducible refine gate_callee (f := 14) rfl ?_); refine goesL_ (some 22) rfl rfl Try.func14 (by kernel_rfl) rfl #[.slice A0 l0.length c0, .agg (Ar.cells .u8 32 a1), .int .u64 a2, .int .i64 100] rfl (by (try simp only [List.map_toArray, List.map_cons, List.map_nil]); first | done | rfl | (simp only [List.length_drop, List.length_take]; rfl)) ?_; (with_reducible refine (book_Deposit.calls k _ _ l0 a1 a2 100 t481 t482 t483 _ ?side1 ?side2 A9.out).mono ?_); (case side1 => repeat (first | exact (Kd.C_below HR0.out HB.out) | (with_reducible refine Kd.C_alloc ?_ _) | (with_reducible refine Kd.C_drewN ?_ _) | (with_reducible refine Kd.C_drew ?_))); (case side2 => exact HC0.out); rintro e w36 ⟨v484, rfl, ho0, hb⟩; refine ⟨_, rfl, ?_⟩; have n0_ := Aside0.mk (Kd.R_lower ho0 (below_size (by repeat (first | (with_reducible first | exact HB.out | apply below_alloc | apply pw_below_drewN | apply below_drew1 | refine below_set ?_ GE479.out) | exact HB.out)))); have n1_ := Aside0.mk (blk_below (g := gb479) (o := .cells (Ar.cells .u8 32 a1) 24 (0, 0)) (by (with_reducible repeat (first | refine blk_drewN ?_ _ | refine blk_drew ?_ | refine blk_alloc ?_ _)); exact BK479.out) hb); have n2_ := Aside0.mk (below_step (by repeat (first | (with_reducible first | exact HB.out | apply below_alloc | apply pw_below_drewN | apply below_drew1 | refine below_set ?_ GE479.out) | exact HB.out)) hb); clear BK479; clear HB; have HO485 := n0_; have BK479 := n1_; have HB := n2_; clear n0_ n1_ n2_; (try clear hb); (try clear hb2); (try clear hk); (try clear hi); (try clear ho0); obtain ⟨Ao37, co37, eo37⟩ := Kd.R_slice HO485.out; subst eo37) | ((with_reducible refine gate_callee (f := 17) rfl ?_); refine goesL_ (some 39) rfl rfl Try.func17 (by kernel_rfl) rfl #[.slice Ao37 t481.length co37, .int .i64 t482, .int .u64 a2] rfl (by (try simp only [List.map_toArray, List.map_cons, List.map_nil]); first | done | rfl | (simp only [List.length_drop, List.length_take]; rfl)) ?_; (with_reducible refine (book_Withdraw.calls k _ _ t481 t482 a2 t486 t487 t488 _ ?side1 ?side2 A11.out).mono ?_); (case side1 => repeat (first | exact (Kd.R_reads' HO485.out).2.2 | (with_reducible refine Kd.C_alloc ?_ _) | (with_reducible refine Kd.C_drewN ?_ _) | (with_reducible refine Kd.C_drew ?_))); (case side2 => exact (Kd.R_reads' HO485.out).2.1); rintro e w38 ⟨v489, rfl, ho0, hb⟩; refine ⟨_, rfl, ?_⟩; have n0_ := Aside0.mk (Kd.R_elder' (by (with_reducible repeat (first | apply Kd.R_alloc | apply Kd.R_drewN | apply Kd.R_drew)); exact HO485.out) (Kd.R_base ho0) hb); have n1_ := Aside0.mk (Kd.R_lower (Kd.R_new' ho0 (Kd.R_lt (by (with_reducible repeat (first | apply Kd.R_alloc | apply Kd.R_drewN | apply Kd.R_drew)); exact HO485.out))) (below_size (by repeat (first | (with_reducible first | exact HB.out | apply below_alloc | apply pw_below_drewN | apply below_drew1 | refine below_set ?_ GE479.out) | exact HB.out)))); have n2_ := Aside0.mk (blk_below (g := gb479) (o := .cells (Ar.cells .u8 32 a1) 24 (0, 0)) (by (with_reducible repeat (first | refine blk_drewN ?_ _ | refine blk_drew ?_ | refine blk_alloc ?_ _)); exact BK479.out) hb); have n3_ := Aside0.mk (below_step (by repeat (first | (with_reducible first | exact HB.out | apply below_alloc | apply pw_below_drewN | apply below_drew1 | refine below_set ?_ GE479.out) | exact HB.out)) hb); clear HO485; clear BK479; clear HB; have HO485 := n0_; have HO490 := n1_; have BK479 := n2_; have HB := n3_; clear n0_ n1_ n2_ n3_; (try clear hb); (try clear hb2); (try clear hk); (try clear hi); (try clear ho0); obtain ⟨Ao39, co39, eo39⟩ := Kd.R_slice HO490.out; subst eo39; have p491 : 0 ≤ (t482 : Int) := of_decide_eq_true (by first | (with_reducible assumption) | assumption); have q491 : t482 < (t486.length : Int) := of_decide_eq_true (by first | (with_reducible assumption) | assumption); obtain ⟨ad491, e491, hx491_0, hx491_1, hx491_2⟩ := at_T27 (Kd.R_reads' HO490.out).2.2 t482 p491 q491; cases e491; replace p491 := eq_true p491; replace q491 := eq_true q491; have q40 : ((l0.length : Int) : Int) ≤ ((t486.length : Int) : Int) := of_decide_eq_true (by first | (with_reducible assumption) | assumption); obtain ⟨i040, hi040, _, hsz40, _⟩ := info_parts info27; have hroom40 : t486.length ≤ co39 := (Kd.R_reads' HO490.out).2.1; have hC40 : Kd.C k27 _ (some ad491) t486.length t486 := (Kd.R_reads' HO490.out).2.2; have hcut40 := cut_to (P := Try.prog) 22 27 .i64 Try.underlying22 hi040 (some ad491) t486.length co39 (l0.length : Int) (of_decide_eq_true (by first | (with_reducible assumption) | assumption)) q40 hroom40; have hr40 := Kd.C_take (m := ((l0.length : Int) : Int).toNat) hC40 (by omega); have hy40 : y493.length = ((l0.length : Int) : Int).toNat := (by rw [Ny493.out, List.length_take]; omega); rw [← Ny493.out] at hr40; rw [← hy40] at hcut40; have HR496 := Aside0.mk hr40; have HC496 := Aside0.mk (show y493.length ≤ co39 from by omega); clear hr40 hC40 hroom40 hi040 hsz40; have KY40 := Aside0.mk hy40; clear hy40; have KL40 := Aside0.mk (show ((l0.length : Int) : Int).toNat ≤ t486.length from by omega); replace q40 := eq_true q40) | (go_at_call 16; (with_reducible refine (drawlotref22_Same.calls k _ _ y493 _ _ l0 t497 _ ?side1 ?side2 ?side3 ?side4 A33.out).mono ?_); (case side1 => repeat (first | exact (by repeat (first | (with_reducible exact HR496.out) | (with_reducible refine Kd.C_alloc ?_ _) | (with_reducible refine Kd.C_drewN ?_ _) | (with_reducible refine Kd.C_drew ?_) | exact HR496.out)) | (with_reducible refine Kd.C_alloc ?_ _) | (with_reducible refine Kd.C_drewN ?_ _) | (with_reducible refine Kd.C_drew ?_))); (case side2 => exact HC496.out); (case side3 => repeat (first | exact (Kd.C_below HR0.out HB.out) | (with_reducible refine Kd.C_alloc ?_ _) | (with_reducible refine Kd.C_drewN ?_ _) | (with_reducible refine Kd.C_drew ?_))); (case side4 => exact HC0.out); rintro e w41 ⟨rfl, hb⟩; have n0_ := Aside0.mk (Kd.R_below (by (with_reducible repeat (first | apply Kd.R_alloc | apply Kd.R_drewN | apply Kd.R_drew)); exact HO485.out) hb); have n1_ := Aside0.mk (Kd.R_below (by (with_reducible repeat (first | apply Kd.R_alloc | apply Kd.R_drewN | apply Kd.R_drew)); exact HO490.out) hb); have n2_ := Aside0.mk (blk_below (g := gb479) (o := .cells (Ar.cells .u8 32 a1) 24 (0, 0)) (by (with_reducible repeat (first | refine blk_drewN ?_ _ | refine blk_drew ?_ | refine blk_alloc ?_ _)); exact BK479.out) hb); have n3_ := Aside0.mk (Kd.C_below (by repeat (first | (with_reducible exact HR496.out) | (with_reducible refine Kd.C_alloc ?_ _) | (with_reducible refine Kd.C_drewN ?_ _) | (with_reducible refine Kd.C_drew ?_) | exact HR496.out)) hb); have n4_ := Aside0.mk (below_step (by repeat (first | (with_reducible first | exact HB.out | apply below_alloc | apply pw_below_drewN | apply below_drew1 | refine below_set ?_ GE479.out) | exact HB.out)) hb); clear HO485; clear HO490; clear BK479; clear HR496; clear HB; have HO485 := n0_; have HO490 := n1_; have BK479 := n2_; have HR496 := n3_; have HB := n4_; clear n0_ n1_ n2_ n3_ n4_; (try clear hb); (try clear hb2); (try clear hk); (try clear hi)))
                 go_ret
                 exact ⟨by first | rfl | (simp [errW_none, errW_some] <;> rfl) | (simp [*, errW_none, errW_some] <;> rfl), by repeat (first | (with_reducible first | exact HB.out | apply below_alloc | apply pw_below_drewN | apply below_drew1 | refine below_set ?_ GE479.out) | exact HB.out)⟩
                ·rw [if_neg c32] at H
                 exact absurd H (by simp)
               ·rw [if_neg c31] at H
                exact absurd H (by simp)
              ·rw [if_neg c30] at H
               exact absurd H (by simp)
             ·rw [if_neg c29] at H
              exact absurd H (by simp)
            ·rw [if_neg c28] at H
             exact absurd H (by simp)
          ·rw [if_neg c18] at H
           exact absurd H (by simp)
         ·rw [if_neg c17] at H
          exact absurd H (by simp)
        ·rw [if_neg c16] at H
         exact absurd H (by simp)
       ·rw [if_neg c15] at H
        exact absurd H (by simp)
    ·rw [if_neg c12] at H
     exact absurd H (by simp)
   ·rw [if_neg c10] at H
    have c10b0 : (t483 == 0) = false := beq_eq_false_iff_ne.mpr c10
    have c10b1 : (t483 != 0) = true := bne_iff_ne.mpr c10
    by_cases c42 : (t481.length : Int) = 0
    ·rw [if_pos c42] at H
     have c42b0 : ((t481.length : Int) == 0) = true := beq_iff_eq.mpr c42
     have c42b1 : ((t481.length : Int) != 0) = false := bne_eq_false_iff_eq.mpr c42
     clear c42
     obtain rfl := Option.some.inj H
     go_enter Try.func7, Try.ntmps7
     try simp only [List.append]
     go_wp2_with (first | ((with_reducible refine gate_dst (N := 4) rfl ?_); (try (refine gate_guard (by rfl) ?_; dsimp only)); refine box_event ?hg (N := 4) ?hd (cs := (Ar.cells .u8 32 a1)) (t := 24) ?hr ?_; (case hd => rfl); (case hg => rfl); (case hr => first | exact Ar.box_run rfl rfl | exact Ar.alloc_run rfl (by kernel_rfl) | (go_simp; done) | (go_simp; rfl)); intro gb479 hg w43 hbox hb; have n0_ := Aside0.mk (below_step (by repeat (first | (with_reducible first | exact HB.out | apply below_alloc | apply pw_below_drewN | apply below_drew1) | exact HB.out)) hb); have n1_ := Aside0.mk (hbox); have n2_ := Aside0.mk ((by rw [hg]; exact (below_size (by repeat (first | (with_reducible first | exact HB.out | apply below_alloc | apply pw_below_drewN | apply below_drew1) | exact HB.out))) : w.heap.size ≤ gb479)); have n3_ := Aside0.mk ((by rw [hg]; exact (below_size (by repeat (first | (with_reducible first | exact HB.out | apply below_alloc | apply pw_below_drewN | apply below_drew1) | exact HB.out))) : w.heap.size ≤ gb479)); clear HB; have HB := n0_; have BK479 := n1_; have GW479 := n2_; have GE479 := n3_; clear n0_ n1_ n2_ n3_; clear hb hbox hg) | ((with_reducible refine gate_callee (f := 13) rfl ?_); refine goesL_ (some 13) rfl rfl Try.func13 (by kernel_rfl) rfl #[] rfl (by (try simp only [List.map_toArray, List.map_cons, List.map_nil]); first | done | rfl | (simp only [List.length_drop, List.length_take]; rfl)) ?_; (with_reducible refine (drawlotlaw22_alive.calls k  true _ A4.out).mono ?_); rintro e w44 ⟨rfl, hb⟩; refine ⟨_, rfl, ?_⟩; have n0_ := Aside0.mk (blk_below (g := gb479) (o := .cells (Ar.cells .u8 32 a1) 24 (0, 0)) (by (with_reducible repeat (first | refine blk_drewN ?_ _ | refine blk_drew ?_ | refine blk_alloc ?_ _)); exact BK479.out) hb); have n1_ := Aside0.mk (below_step (by repeat (first | (with_reducible first | exact HB.out | apply below_alloc | apply pw_below_drewN | apply below_drew1 | refine below_set ?_ GE479.out) | exact HB.out)) hb); clear BK479; clear HB; have BK479 := n0_; have HB := n1_; clear n0_ n1_; (try clear hb); (try clear hb2); (try clear hk); (try clear hi)) | ((with_reducible refine gate_dst (N := 20) rfl ?_); (try (refine gate_guard (by rfl) ?_; dsimp only)); refine Ar.load_event rfl (D := 20) rfl (T := 24) rfl Try.underlying24 (by kernel_rfl) (g := gb479) rfl (by (with_reducible repeat (first | refine blk_drewN ?_ _ | refine blk_drew ?_ | refine blk_alloc ?_ _)); exact BK479.out) ?_) | ((with_reducible refine gate_callee (f := 14) rfl ?_); refine goesL_ (some 22) rfl rfl Try.func14 (by kernel_rfl) rfl #[.slice A0 l0.length c0, .agg (Ar.cells .u8 32 a1), .int .u64 a2, .int .i64 100] rfl (by (try simp only [List.map_toArray, List.map_cons, List.map_nil]); first | done | rfl | (simp only [List.length_drop, List.length_take]; rfl)) ?_; (with_reducible refine (book_Deposit.calls k _ _ l0 a1 a2 100 t481 t482 t483 _ ?side1 ?side2 A9.out).mono ?_); (case side1 => repeat (first | exact (Kd.C_below HR0.out HB.out) | (with_reducible refine Kd.C_alloc ?_ _) | (with_reducible refine Kd.C_drewN ?_ _) | (with_reducible refine Kd.C_drew ?_))); (case side2 => exact HC0.out); rintro e w45 ⟨v484, rfl, ho0, hb⟩; refine ⟨_, rfl, ?_⟩; have n0_ := Aside0.mk (Kd.R_lower ho0 (below_size (by repeat (first | (with_reducible first | exact HB.out | apply below_alloc | apply pw_below_drewN | apply below_drew1 | refine below_set ?_ GE479.out) | exact HB.out)))); have n1_ := Aside0.mk (blk_below (g := gb479) (o := .cells (Ar.cells .u8 32 a1) 24 (0, 0)) (by (with_reducible repeat (first | refine blk_drewN ?_ _ | refine blk_drew ?_ | refine blk_alloc ?_ _)); exact BK479.out) hb); have n2_ := Aside0.mk (below_step (by repeat (first | (with_reducible first | exact HB.out | apply below_alloc | apply pw_below_drewN | apply below_drew1 | refine below_set ?_ GE479.out) | exact HB.out)) hb); clear BK479; clear HB; have HO485 := n0_; have BK479 := n1_; have HB := n2_; clear n0_ n1_ n2_; (try clear hb); (try clear hb2); (try clear hk); (try clear hi); (try clear ho0); obtain ⟨Ao46, co46, eo46⟩ := Kd.R_slice HO485.out; subst eo46))
     go_ret
     exact ⟨by first | rfl | (simp [errW_none, errW_some] <;> rfl) | (simp [*, errW_none, errW_some] <;> rfl), by repeat (first | (with_reducible first | exact HB.out | apply below_alloc | apply pw_below_drewN | apply below_drew1 | refine below_set ?_ GE479.out) | exact HB.out)⟩
    ·rw [if_neg c42] at H
     exact absurd H (by simp)
 ·replace c5 := Bool.eq_false_iff.mpr c5
  subst c5
  have H1 : (none) = some r := by rw [if_neg (show ¬ (false = true) by decide)] at H; exact H
  clear H
  have H := H1
  clear H1
  exact absurd H (by simp)

/-- THE ONE PURE STATEMENT of drawlotlaw22_BookBack: yours. -/
def drawlotlaw22_BookBack.Pure : Prop := ∀ (l0 : List (S27)) (a1 : List Int) (a2 : Int), (l0.length ≤ maxLen ∧ ∀ x ∈ l0, ((x.f0.length = 32 ∧ ∀ x_ ∈ x.f0, (Lit.int .u8 x_).wf = true) ∧ (Lit.int .u64 x.f1).wf = true ∧ (Lit.int .u64 x.f2).wf = true)) → (a1.length = 32 ∧ ∀ x ∈ a1, (Lit.int .u8 x).wf = true) → (Lit.int .u64 a2).wf = true → ∃ k, drawlotlaw22_BookBack.f k l0 a1 a2 = some true
theorem drawlotlaw22_BookBack.walk (P : drawlotlaw22_BookBack.Pure) (A0 : Option Addr) (c0 : Nat) (l0 : List (S27)) (a1 : List Int) (a2 : Int) (w : World) (w0 : Kd.C k27 w A0 l0.length l0 ∧ l0.length ≤ c0 ∧ (l0.length ≤ maxLen ∧ ∀ x ∈ l0, ((x.f0.length = 32 ∧ ∀ x_ ∈ x.f0, (Lit.int .u8 x_).wf = true) ∧ (Lit.int .u64 x.f1).wf = true ∧ (Lit.int .u64 x.f2).wf = true))) (w1 : a1.length = 32 ∧ ∀ x ∈ a1, (Lit.int .u8 x).wf = true) (w2 : (Lit.int .u64 a2).wf = true) :
  Calls Try.prog 7 #[.slice A0 l0.length c0, .agg (Ar.cells .u8 32 a1), .int .u64 a2] w fun e w' => e = .returned (.bool true) ∧ Below w.heap.size w w' := by
 obtain ⟨k, h⟩ := P l0 a1 a2 w0.2.2 w1 w2
 refine (drawlotlaw22_BookBack.calls k _ _ l0 a1 a2 true w w0.1 w0.2.1 h).mono ?_
 rintro e w' ⟨rfl, hd⟩
 exact ⟨rfl, hd⟩

end Go.Proofs.Ytoaeedepfmfkkaa.PB
