/- Written by xprint.py, this session's own driver, for the seat Ytbafkkbbjacekaa: contracts of Go functions, each saying that a call answers what a plain Lean function of the same name says, and, in a text named Law, the row of a law: its Go function answers true for every input. No conditions. -/
import Derived.Test.YtbafkkbbjacekaaPOx0
import Derived.Test.YtbafkkbbjacekaaPOx1
import Derived.Test.YtbafkkbbjacekaaPOx3
import Derived.Test.YtbafkkbbjacekaaPOx4
import Derived.Test.YtbafkkbbjacekaaPOx5
import Derived.Test.YtbafkkbbjacekaaPOx6
import Derived.Test.YtbafkkbbjacekaaPOx9
namespace Go.Proofs.Ytbafkkbbjacekaa.PO
open Go.RowKit Go.Proofs.YtbafkkbbjacekaaW.PrintWords Go.Proofs.YtbafkkbbjacekaaW.PrintLast Go.Proofs.YtbafkkbbjacekaaW.PrintMore
attribute [local go_sem] max2_int min2_int max_two min_two max_three min_three max_four min_four   -- for this text's walks alone
set_option linter.unusedVariables false
set_option linter.unusedSimpArgs false

/-! ### drawlotlaw16_OddsWhole: function 12 -/
def drawlotlaw16_OddsWhole.f (k : Nat) (a0 : Int) (a1 : Int) (a2 : Int) : Option (Bool) := (drawlotlaw16_alive.f k).bind fun t658 => (if t658 = true then (if a0 = 0 then ((odds_All.f k a0 (wrap64 (1 + (wrap64 (Int.tmod a2 64))))).bind fun bt659 => (some (bt659.2 == 1))) else (if a0 ≥ 9223372036854775808 then ((odds_All.f k a0 (wrap64 (1 + (wrap64 (Int.tmod a2 64))))).bind fun bt663 => (some (bt663.2 == 1))) else (if (IntKind.u64.wrap (a0 + 1)) = 0 then (none) else ((odds_All.f k a0 (wrap64 (1 + (wrap64 (Int.tmod a2 64))))).bind fun bt667 => ((odds_Lost.f k a0 (wrap64 (1 + (wrap64 (Int.tmod a2 64))))).bind fun bt671 => ((odds_Share.f k (Int.tmod a1 (IntKind.u64.wrap (a0 + 1))) a0 (wrap64 (1 + (wrap64 (Int.tmod a2 64))))).bind fun bt675 => ((odds_Share.f k (IntKind.u64.wrap (a0 - (Int.tmod a1 (IntKind.u64.wrap (a0 + 1))))) a0 (wrap64 (1 + (wrap64 (Int.tmod a2 64))))).bind fun bt679 => (if bt667.2 = 0 then (if bt671.2 = 0 then (if bt675.2 = 0 then (if bt679.2 = 0 then (if (bt671.1.length : Int) > 200 then (none) else (if (bt675.1.length : Int) > 200 then (none) else (if (bt679.1.length : Int) > 200 then (none) else ((drawlotref10_Sum.f k bt675.1 bt679.1).bind fun t683 => ((drawlotref10_Sum.f k t683 bt671.1).bind fun t686 => ((drawlotref10_Same.f k t686 bt667.1).bind fun t689 => (some t689))))))) else (none)) else (none)) else (none)) else (none))))))))) else (none))
theorem drawlotlaw16_OddsWhole.mono : ∀ a0 a1 a2 k, LeO (drawlotlaw16_OddsWhole.f k a0 a1 a2) (drawlotlaw16_OddsWhole.f (k + 1) a0 a1 a2) := by
 intro a0 a1 a2 k
 unfold drawlotlaw16_OddsWhole.f
 repeat' first
   | (with_reducible exact drawlotlaw16_alive.mono _)
   | (with_reducible exact drawlotref10_Same.mono _ _ _)
   | (with_reducible exact drawlotref10_Sum.mono _ _ _)
   | (with_reducible exact odds_All.mono _ _ _)
   | (with_reducible exact odds_Lost.mono _ _ _)
   | (with_reducible exact odds_Share.mono _ _ _ _)
   | (with_reducible exact LeO.refl _)
   | (with_reducible exact LeO.none _)
   | (with_reducible refine LeO.ite ?_ ?_)
   | (with_reducible refine LeO.bind ?_ (fun _ => ?_))
   | exact drawlotlaw16_alive.mono _
   | exact drawlotref10_Same.mono _ _ _
   | exact drawlotref10_Sum.mono _ _ _
   | exact odds_All.mono _ _ _
   | exact odds_Lost.mono _ _ _
   | exact odds_Share.mono _ _ _ _
   | exact LeO.none _
   | refine LeO.ite ?_ ?_
   | refine LeO.bind ?_ (fun _ => ?_)
set_option maxHeartbeats 8000000 in
set_option maxRecDepth 100000 in
theorem drawlotlaw16_OddsWhole.calls (k : Nat) (a0 : Int) (a1 : Int) (a2 : Int) (r : Bool) (w : World) (h : drawlotlaw16_OddsWhole.f k a0 a1 a2 = some r) :
  Calls Try.prog 12 #[.int .u64 a0, .int .u64 a1, .int .u8 a2] w fun e w' => e = .returned (.bool r) ∧ Below w.heap.size w w' := by
 have HB := Aside0.mk (Below.refl w.heap.size w)
 have H : ((drawlotlaw16_alive.f k).bind fun t658 => (if t658 = true then (if a0 = 0 then ((odds_All.f k a0 (wrap64 (1 + (wrap64 (Int.tmod a2 64))))).bind fun bt659 => (some (bt659.2 == 1))) else (if a0 ≥ 9223372036854775808 then ((odds_All.f k a0 (wrap64 (1 + (wrap64 (Int.tmod a2 64))))).bind fun bt663 => (some (bt663.2 == 1))) else (if (IntKind.u64.wrap (a0 + 1)) = 0 then (none) else ((odds_All.f k a0 (wrap64 (1 + (wrap64 (Int.tmod a2 64))))).bind fun bt667 => ((odds_Lost.f k a0 (wrap64 (1 + (wrap64 (Int.tmod a2 64))))).bind fun bt671 => ((odds_Share.f k (Int.tmod a1 (IntKind.u64.wrap (a0 + 1))) a0 (wrap64 (1 + (wrap64 (Int.tmod a2 64))))).bind fun bt675 => ((odds_Share.f k (IntKind.u64.wrap (a0 - (Int.tmod a1 (IntKind.u64.wrap (a0 + 1))))) a0 (wrap64 (1 + (wrap64 (Int.tmod a2 64))))).bind fun bt679 => (if bt667.2 = 0 then (if bt671.2 = 0 then (if bt675.2 = 0 then (if bt679.2 = 0 then (if (bt671.1.length : Int) > 200 then (none) else (if (bt675.1.length : Int) > 200 then (none) else (if (bt679.1.length : Int) > 200 then (none) else ((drawlotref10_Sum.f k bt675.1 bt679.1).bind fun t683 => ((drawlotref10_Sum.f k t683 bt671.1).bind fun t686 => ((drawlotref10_Same.f k t686 bt667.1).bind fun t689 => (some t689))))))) else (none)) else (none)) else (none)) else (none))))))))) else (none))) = some r := h
 clear h
 replace H := Option.bind_eq_some_iff.mp H
 obtain ⟨t658, A40, H⟩ := H
 replace H : (if t658 = true then (if a0 = 0 then ((odds_All.f k a0 (wrap64 (1 + (wrap64 (Int.tmod a2 64))))).bind fun bt659 => (some (bt659.2 == 1))) else (if a0 ≥ 9223372036854775808 then ((odds_All.f k a0 (wrap64 (1 + (wrap64 (Int.tmod a2 64))))).bind fun bt663 => (some (bt663.2 == 1))) else (if (IntKind.u64.wrap (a0 + 1)) = 0 then (none) else ((odds_All.f k a0 (wrap64 (1 + (wrap64 (Int.tmod a2 64))))).bind fun bt667 => ((odds_Lost.f k a0 (wrap64 (1 + (wrap64 (Int.tmod a2 64))))).bind fun bt671 => ((odds_Share.f k (Int.tmod a1 (IntKind.u64.wrap (a0 + 1))) a0 (wrap64 (1 + (wrap64 (Int.tmod a2 64))))).bind fun bt675 => ((odds_Share.f k (IntKind.u64.wrap (a0 - (Int.tmod a1 (IntKind.u64.wrap (a0 + 1))))) a0 (wrap64 (1 + (wrap64 (Int.tmod a2 64))))).bind fun bt679 => (if bt667.2 = 0 then (if bt671.2 = 0 then (if bt675.2 = 0 then (if bt679.2 = 0 then (if (bt671.1.length : Int) > 200 then (none) else (if (bt675.1.length : Int) > 200 then (none) else (if (bt679.1.length : Int) > 200 then (none) else ((drawlotref10_Sum.f k bt675.1 bt679.1).bind fun t683 => ((drawlotref10_Sum.f k t683 bt671.1).bind fun t686 => ((drawlotref10_Same.f k t686 bt667.1).bind fun t689 => (some t689))))))) else (none)) else (none)) else (none)) else (none))))))))) else (none)) = some r := H
 have A4 := Aside0.mk A40
 clear A40
 by_cases c5 : t658 = true
 ·subst c5
  have H1 : (if a0 = 0 then ((odds_All.f k a0 (wrap64 (1 + (wrap64 (Int.tmod a2 64))))).bind fun bt659 => (some (bt659.2 == 1))) else (if a0 ≥ 9223372036854775808 then ((odds_All.f k a0 (wrap64 (1 + (wrap64 (Int.tmod a2 64))))).bind fun bt663 => (some (bt663.2 == 1))) else (if (IntKind.u64.wrap (a0 + 1)) = 0 then (none) else ((odds_All.f k a0 (wrap64 (1 + (wrap64 (Int.tmod a2 64))))).bind fun bt667 => ((odds_Lost.f k a0 (wrap64 (1 + (wrap64 (Int.tmod a2 64))))).bind fun bt671 => ((odds_Share.f k (Int.tmod a1 (IntKind.u64.wrap (a0 + 1))) a0 (wrap64 (1 + (wrap64 (Int.tmod a2 64))))).bind fun bt675 => ((odds_Share.f k (IntKind.u64.wrap (a0 - (Int.tmod a1 (IntKind.u64.wrap (a0 + 1))))) a0 (wrap64 (1 + (wrap64 (Int.tmod a2 64))))).bind fun bt679 => (if bt667.2 = 0 then (if bt671.2 = 0 then (if bt675.2 = 0 then (if bt679.2 = 0 then (if (bt671.1.length : Int) > 200 then (none) else (if (bt675.1.length : Int) > 200 then (none) else (if (bt679.1.length : Int) > 200 then (none) else ((drawlotref10_Sum.f k bt675.1 bt679.1).bind fun t683 => ((drawlotref10_Sum.f k t683 bt671.1).bind fun t686 => ((drawlotref10_Same.f k t686 bt667.1).bind fun t689 => (some t689))))))) else (none)) else (none)) else (none)) else (none))))))))) = some r := by rw [if_pos rfl] at H; exact H
  clear H
  have H := H1
  clear H1
  by_cases c6 : a0 = 0
  ·rw [if_pos c6] at H
   have c6b0 : (a0 == 0) = true := beq_iff_eq.mpr c6
   have c6b1 : (a0 != 0) = false := bne_eq_false_iff_eq.mpr c6
   clear c6
   replace H := Option.bind_eq_some_iff.mp H
   obtain ⟨⟨t659, t660⟩, A70, H⟩ := H
   replace H : (some (t660 == 1)) = some r := H
   have A7 := Aside0.mk A70
   clear A70
   obtain rfl := Option.some.inj H
   go_enter Try.func12, Try.ntmps12
   try simp only [List.append]
   go_wp2_with (first | ((with_reducible refine gate_callee (f := 29) rfl ?_); refine goesL_ (some 19) rfl rfl Try.func29 (by kernel_rfl) rfl #[] rfl (by (try simp only [List.map_toArray, List.map_cons, List.map_nil]); first | done | rfl | (simp only [List.length_drop, List.length_take]; rfl)) ?_; (with_reducible refine (drawlotlaw16_alive.calls k  true _ A4.out).mono ?_); rintro e w8 ⟨rfl, hb⟩; refine ⟨_, rfl, ?_⟩; have n0_ := Aside0.mk (below_step (by repeat (first | (with_reducible first | exact HB.out | apply below_alloc | apply pw_below_drewN | apply below_drew1) | exact HB.out)) hb); clear HB; have HB := n0_; clear n0_; (try clear hb); (try clear hb2); (try clear hk); (try clear hi)) | ((with_reducible refine gate_callee (f := 30) rfl ?_); refine goesL_ (some 34) rfl rfl Try.func30 (by kernel_rfl) rfl #[.int .u64 a0, .int .i64 (wrap64 (1 + (wrap64 (Int.tmod a2 64))))] rfl (by (try simp only [List.map_toArray, List.map_cons, List.map_nil]); first | done | rfl | (simp only [List.length_drop, List.length_take]; rfl)) ?_; (with_reducible refine (odds_All.calls k a0 (wrap64 (1 + (wrap64 (Int.tmod a2 64)))) t659 t660 _ A7.out).mono ?_); rintro e w9 ⟨v661, rfl, ho0, hb⟩; refine ⟨_, rfl, ?_⟩; have n0_ := Aside0.mk (Kd.R_lower ho0 (below_size (by repeat (first | (with_reducible first | exact HB.out | apply below_alloc | apply pw_below_drewN | apply below_drew1) | exact HB.out)))); have n1_ := Aside0.mk (below_step (by repeat (first | (with_reducible first | exact HB.out | apply below_alloc | apply pw_below_drewN | apply below_drew1) | exact HB.out)) hb); clear HB; have HO662 := n0_; have HB := n1_; clear n0_ n1_; (try clear hb); (try clear hb2); (try clear hk); (try clear hi); (try clear ho0)))
   go_ret
   exact ⟨by first | rfl | (simp [errW_none, errW_some] <;> rfl) | (simp [*, errW_none, errW_some] <;> rfl), by repeat (first | (with_reducible first | exact HB.out | apply below_alloc | apply pw_below_drewN | apply below_drew1) | exact HB.out)⟩
  ·rw [if_neg c6] at H
   have c6b0 : (a0 == 0) = false := beq_eq_false_iff_ne.mpr c6
   have c6b1 : (a0 != 0) = true := bne_iff_ne.mpr c6
   by_cases c10 : a0 ≥ 9223372036854775808
   ·rw [if_pos c10] at H
    have c10b0 : decide (9223372036854775808 ≤ a0) = true := decide_eq_true c10
    clear c10
    replace H := Option.bind_eq_some_iff.mp H
    obtain ⟨⟨t663, t664⟩, A110, H⟩ := H
    replace H : (some (t664 == 1)) = some r := H
    have A11 := Aside0.mk A110
    clear A110
    obtain rfl := Option.some.inj H
    go_enter Try.func12, Try.ntmps12
    try simp only [List.append]
    go_wp2_with (first | ((with_reducible refine gate_callee (f := 29) rfl ?_); refine goesL_ (some 19) rfl rfl Try.func29 (by kernel_rfl) rfl #[] rfl (by (try simp only [List.map_toArray, List.map_cons, List.map_nil]); first | done | rfl | (simp only [List.length_drop, List.length_take]; rfl)) ?_; (with_reducible refine (drawlotlaw16_alive.calls k  true _ A4.out).mono ?_); rintro e w12 ⟨rfl, hb⟩; refine ⟨_, rfl, ?_⟩; have n0_ := Aside0.mk (below_step (by repeat (first | (with_reducible first | exact HB.out | apply below_alloc | apply pw_below_drewN | apply below_drew1) | exact HB.out)) hb); clear HB; have HB := n0_; clear n0_; (try clear hb); (try clear hb2); (try clear hk); (try clear hi)) | ((with_reducible refine gate_callee (f := 30) rfl ?_); refine goesL_ (some 34) rfl rfl Try.func30 (by kernel_rfl) rfl #[.int .u64 a0, .int .i64 (wrap64 (1 + (wrap64 (Int.tmod a2 64))))] rfl (by (try simp only [List.map_toArray, List.map_cons, List.map_nil]); first | done | rfl | (simp only [List.length_drop, List.length_take]; rfl)) ?_; (with_reducible refine (odds_All.calls k a0 (wrap64 (1 + (wrap64 (Int.tmod a2 64)))) t663 t664 _ A11.out).mono ?_); rintro e w13 ⟨v665, rfl, ho0, hb⟩; refine ⟨_, rfl, ?_⟩; have n0_ := Aside0.mk (Kd.R_lower ho0 (below_size (by repeat (first | (with_reducible first | exact HB.out | apply below_alloc | apply pw_below_drewN | apply below_drew1) | exact HB.out)))); have n1_ := Aside0.mk (below_step (by repeat (first | (with_reducible first | exact HB.out | apply below_alloc | apply pw_below_drewN | apply below_drew1) | exact HB.out)) hb); clear HB; have HO666 := n0_; have HB := n1_; clear n0_ n1_; (try clear hb); (try clear hb2); (try clear hk); (try clear hi); (try clear ho0)))
    go_ret
    exact ⟨by first | rfl | (simp [errW_none, errW_some] <;> rfl) | (simp [*, errW_none, errW_some] <;> rfl), by repeat (first | (with_reducible first | exact HB.out | apply below_alloc | apply pw_below_drewN | apply below_drew1) | exact HB.out)⟩
   ·rw [if_neg c10] at H
    have c10b0 : decide (9223372036854775808 ≤ a0) = false := decide_eq_false c10
    clear c10
    by_cases c14 : (IntKind.u64.wrap (a0 + 1)) = 0
    ·rw [if_pos c14] at H
     exact absurd H (by simp)
    ·rw [if_neg c14] at H
     have c14b0 : ((IntKind.u64.wrap (a0 + 1)) == 0) = false := beq_eq_false_iff_ne.mpr c14
     have c14b1 : ((IntKind.u64.wrap (a0 + 1)) != 0) = true := bne_iff_ne.mpr c14
     replace H := Option.bind_eq_some_iff.mp H
     obtain ⟨⟨t667, t668⟩, A150, H⟩ := H
     replace H : ((odds_Lost.f k a0 (wrap64 (1 + (wrap64 (Int.tmod a2 64))))).bind fun bt671 => ((odds_Share.f k (Int.tmod a1 (IntKind.u64.wrap (a0 + 1))) a0 (wrap64 (1 + (wrap64 (Int.tmod a2 64))))).bind fun bt675 => ((odds_Share.f k (IntKind.u64.wrap (a0 - (Int.tmod a1 (IntKind.u64.wrap (a0 + 1))))) a0 (wrap64 (1 + (wrap64 (Int.tmod a2 64))))).bind fun bt679 => (if t668 = 0 then (if bt671.2 = 0 then (if bt675.2 = 0 then (if bt679.2 = 0 then (if (bt671.1.length : Int) > 200 then (none) else (if (bt675.1.length : Int) > 200 then (none) else (if (bt679.1.length : Int) > 200 then (none) else ((drawlotref10_Sum.f k bt675.1 bt679.1).bind fun t683 => ((drawlotref10_Sum.f k t683 bt671.1).bind fun t686 => ((drawlotref10_Same.f k t686 t667).bind fun t689 => (some t689))))))) else (none)) else (none)) else (none)) else (none))))) = some r := H
     have A15 := Aside0.mk A150
     clear A150
     replace H := Option.bind_eq_some_iff.mp H
     obtain ⟨⟨t671, t674⟩, A160, H⟩ := H
     replace H : ((odds_Share.f k (Int.tmod a1 (IntKind.u64.wrap (a0 + 1))) a0 (wrap64 (1 + (wrap64 (Int.tmod a2 64))))).bind fun bt675 => ((odds_Share.f k (IntKind.u64.wrap (a0 - (Int.tmod a1 (IntKind.u64.wrap (a0 + 1))))) a0 (wrap64 (1 + (wrap64 (Int.tmod a2 64))))).bind fun bt679 => (if t668 = 0 then (if t674 = 0 then (if bt675.2 = 0 then (if bt679.2 = 0 then (if (t671.length : Int) > 200 then (none) else (if (bt675.1.length : Int) > 200 then (none) else (if (bt679.1.length : Int) > 200 then (none) else ((drawlotref10_Sum.f k bt675.1 bt679.1).bind fun t683 => ((drawlotref10_Sum.f k t683 t671).bind fun t686 => ((drawlotref10_Same.f k t686 t667).bind fun t689 => (some t689))))))) else (none)) else (none)) else (none)) else (none)))) = some r := H
     have A16 := Aside0.mk A160
     clear A160
     replace H := Option.bind_eq_some_iff.mp H
     obtain ⟨⟨t675, t678⟩, A170, H⟩ := H
     replace H : ((odds_Share.f k (IntKind.u64.wrap (a0 - (Int.tmod a1 (IntKind.u64.wrap (a0 + 1))))) a0 (wrap64 (1 + (wrap64 (Int.tmod a2 64))))).bind fun bt679 => (if t668 = 0 then (if t674 = 0 then (if t678 = 0 then (if bt679.2 = 0 then (if (t671.length : Int) > 200 then (none) else (if (t675.length : Int) > 200 then (none) else (if (bt679.1.length : Int) > 200 then (none) else ((drawlotref10_Sum.f k t675 bt679.1).bind fun t683 => ((drawlotref10_Sum.f k t683 t671).bind fun t686 => ((drawlotref10_Same.f k t686 t667).bind fun t689 => (some t689))))))) else (none)) else (none)) else (none)) else (none))) = some r := H
     have A17 := Aside0.mk A170
     clear A170
     replace H := Option.bind_eq_some_iff.mp H
     obtain ⟨⟨t679, t682⟩, A180, H⟩ := H
     replace H : (if t668 = 0 then (if t674 = 0 then (if t678 = 0 then (if t682 = 0 then (if (t671.length : Int) > 200 then (none) else (if (t675.length : Int) > 200 then (none) else (if (t679.length : Int) > 200 then (none) else ((drawlotref10_Sum.f k t675 t679).bind fun t683 => ((drawlotref10_Sum.f k t683 t671).bind fun t686 => ((drawlotref10_Same.f k t686 t667).bind fun t689 => (some t689))))))) else (none)) else (none)) else (none)) else (none)) = some r := H
     have A18 := Aside0.mk A180
     clear A180
     by_cases c19 : t668 = 0
     ·rw [if_pos c19] at H
      have c19b0 : (t668 == 0) = true := beq_iff_eq.mpr c19
      have c19b1 : (t668 != 0) = false := bne_eq_false_iff_eq.mpr c19
      clear c19
      by_cases c20 : t674 = 0
      ·rw [if_pos c20] at H
       have c20b0 : (t674 == 0) = true := beq_iff_eq.mpr c20
       have c20b1 : (t674 != 0) = false := bne_eq_false_iff_eq.mpr c20
       clear c20
       by_cases c21 : t678 = 0
       ·rw [if_pos c21] at H
        have c21b0 : (t678 == 0) = true := beq_iff_eq.mpr c21
        have c21b1 : (t678 != 0) = false := bne_eq_false_iff_eq.mpr c21
        clear c21
        by_cases c22 : t682 = 0
        ·rw [if_pos c22] at H
         have c22b0 : (t682 == 0) = true := beq_iff_eq.mpr c22
         have c22b1 : (t682 != 0) = false := bne_eq_false_iff_eq.mpr c22
         clear c22
         by_cases c23 : (t671.length : Int) > 200
         ·rw [if_pos c23] at H
          exact absurd H (by simp)
         ·rw [if_neg c23] at H
          have c23b0 : decide (200 < (t671.length : Int)) = false := decide_eq_false c23
          have c23b1 : decide (200 < t671.length) = false := decide_eq_false (by omega)
          clear c23
          by_cases c24 : (t675.length : Int) > 200
          ·rw [if_pos c24] at H
           exact absurd H (by simp)
          ·rw [if_neg c24] at H
           have c24b0 : decide (200 < (t675.length : Int)) = false := decide_eq_false c24
           have c24b1 : decide (200 < t675.length) = false := decide_eq_false (by omega)
           clear c24
           by_cases c25 : (t679.length : Int) > 200
           ·rw [if_pos c25] at H
            exact absurd H (by simp)
           ·rw [if_neg c25] at H
            have c25b0 : decide (200 < (t679.length : Int)) = false := decide_eq_false c25
            have c25b1 : decide (200 < t679.length) = false := decide_eq_false (by omega)
            clear c25
            replace H := Option.bind_eq_some_iff.mp H
            obtain ⟨t683, A260, H⟩ := H
            replace H : ((drawlotref10_Sum.f k t683 t671).bind fun t686 => ((drawlotref10_Same.f k t686 t667).bind fun t689 => (some t689))) = some r := H
            have A26 := Aside0.mk A260
            clear A260
            replace H := Option.bind_eq_some_iff.mp H
            obtain ⟨t686, A270, H⟩ := H
            replace H : ((drawlotref10_Same.f k t686 t667).bind fun t689 => (some t689)) = some r := H
            have A27 := Aside0.mk A270
            clear A270
            replace H := Option.bind_eq_some_iff.mp H
            obtain ⟨t689, A280, H⟩ := H
            replace H : (some t689) = some r := H
            have A28 := Aside0.mk A280
            clear A280
            obtain rfl := Option.some.inj H
            go_enter Try.func12, Try.ntmps12
            try simp only [List.append]
            go_wp2_with (first | ((with_reducible refine gate_callee (f := 29) rfl ?_); refine goesL_ (some 19) rfl rfl Try.func29 (by kernel_rfl) rfl #[] rfl (by (try simp only [List.map_toArray, List.map_cons, List.map_nil]); first | done | rfl | (simp only [List.length_drop, List.length_take]; rfl)) ?_; (with_reducible refine (drawlotlaw16_alive.calls k  true _ A4.out).mono ?_); rintro e w29 ⟨rfl, hb⟩; refine ⟨_, rfl, ?_⟩; have n0_ := Aside0.mk (below_step (by repeat (first | (with_reducible first | exact HB.out | apply below_alloc | apply pw_below_drewN | apply below_drew1) | exact HB.out)) hb); clear HB; have HB := n0_; clear n0_; (try clear hb); (try clear hb2); (try clear hk); (try clear hi)) | ((with_reducible refine gate_callee (f := 30) rfl ?_); refine goesL_ (some 46) rfl rfl Try.func30 (by kernel_rfl) rfl #[.int .u64 a0, .int .i64 (wrap64 (1 + (wrap64 (Int.tmod a2 64))))] rfl (by (try simp only [List.map_toArray, List.map_cons, List.map_nil]); first | done | rfl | (simp only [List.length_drop, List.length_take]; rfl)) ?_; (with_reducible refine (odds_All.calls k a0 (wrap64 (1 + (wrap64 (Int.tmod a2 64)))) t667 t668 _ A15.out).mono ?_); rintro e w30 ⟨v669, rfl, ho0, hb⟩; refine ⟨_, rfl, ?_⟩; have n0_ := Aside0.mk (Kd.R_lower ho0 (below_size (by repeat (first | (with_reducible first | exact HB.out | apply below_alloc | apply pw_below_drewN | apply below_drew1) | exact HB.out)))); have n1_ := Aside0.mk (below_step (by repeat (first | (with_reducible first | exact HB.out | apply below_alloc | apply pw_below_drewN | apply below_drew1) | exact HB.out)) hb); clear HB; have HO670 := n0_; have HB := n1_; clear n0_ n1_; (try clear hb); (try clear hb2); (try clear hk); (try clear hi); (try clear ho0)) | ((with_reducible refine gate_callee (f := 32) rfl ?_); refine goesL_ (some 52) rfl rfl Try.func32 (by kernel_rfl) rfl #[.int .u64 a0, .int .i64 (wrap64 (1 + (wrap64 (Int.tmod a2 64))))] rfl (by (try simp only [List.map_toArray, List.map_cons, List.map_nil]); first | done | rfl | (simp only [List.length_drop, List.length_take]; rfl)) ?_; (with_reducible refine (odds_Lost.calls k a0 (wrap64 (1 + (wrap64 (Int.tmod a2 64)))) t671 t674 _ A16.out).mono ?_); rintro e w31 ⟨v672, rfl, ho0, hb⟩; refine ⟨_, rfl, ?_⟩; have n0_ := Aside0.mk (Kd.R_below (by (with_reducible repeat (first | apply Kd.R_alloc | apply Kd.R_drewN | apply Kd.R_drew)); exact HO670.out) hb); have n1_ := Aside0.mk (Kd.V_lower (Kd.V_mono (ok' := fun k_ => some k_ ≠ (v669 : Value).ownBlock) ho0 (fun k_ hk_ => (Kd.fresh' (Kd.R_lt (by (with_reducible repeat (first | apply Kd.R_alloc | apply Kd.R_drewN | apply Kd.R_drew)); exact HO670.out)) k_ hk_))) (below_size (by repeat (first | (with_reducible first | exact HB.out | apply below_alloc | apply pw_below_drewN | apply below_drew1) | exact HB.out)))); have n2_ := Aside0.mk (below_step (by repeat (first | (with_reducible first | exact HB.out | apply below_alloc | apply pw_below_drewN | apply below_drew1) | exact HB.out)) hb); clear HO670; clear HB; have HO670 := n0_; have HO673 := n1_; have HB := n2_; clear n0_ n1_ n2_; (try clear hb); (try clear hb2); (try clear hk); (try clear hi); (try clear ho0)) | ((with_reducible refine gate_callee (f := 36) rfl ?_); refine goesL_ (some 59) rfl rfl Try.func36 (by kernel_rfl) rfl #[.int .u64 (Int.tmod a1 (IntKind.u64.wrap (a0 + 1))), .int .u64 a0, .int .i64 (wrap64 (1 + (wrap64 (Int.tmod a2 64))))] rfl (by (try simp only [List.map_toArray, List.map_cons, List.map_nil]); first | done | rfl | (simp only [List.length_drop, List.length_take]; rfl)) ?_; (with_reducible refine (odds_Share.calls k (Int.tmod a1 (IntKind.u64.wrap (a0 + 1))) a0 (wrap64 (1 + (wrap64 (Int.tmod a2 64)))) t675 t678 _ A17.out).mono ?_); rintro e w32 ⟨v676, rfl, ho0, hb⟩; refine ⟨_, rfl, ?_⟩; have n0_ := Aside0.mk (Kd.R_below (by (with_reducible repeat (first | apply Kd.R_alloc | apply Kd.R_drewN | apply Kd.R_drew)); exact HO670.out) hb); have n1_ := Aside0.mk (Kd.V_below (by (with_reducible repeat (first | apply Kd.V_alloc | apply Kd.V_drewN | apply Kd.V_drew)); exact HO673.out) hb); have n2_ := Aside0.mk (Kd.V_lower (Kd.V_mono (ok' := fun k_ => some k_ ≠ (v669 : Value).ownBlock) ho0 (fun k_ hk_ => (Kd.fresh' (Kd.R_lt (by (with_reducible repeat (first | apply Kd.R_alloc | apply Kd.R_drewN | apply Kd.R_drew)); exact HO670.out)) k_ hk_))) (below_size (by repeat (first | (with_reducible first | exact HB.out | apply below_alloc | apply pw_below_drewN | apply below_drew1) | exact HB.out)))); have n3_ := Aside0.mk (below_step (by repeat (first | (with_reducible first | exact HB.out | apply below_alloc | apply pw_below_drewN | apply below_drew1) | exact HB.out)) hb); clear HO670; clear HO673; clear HB; have HO670 := n0_; have HO673 := n1_; have HO677 := n2_; have HB := n3_; clear n0_ n1_ n2_ n3_; (try clear hb); (try clear hb2); (try clear hk); (try clear hi); (try clear ho0)) | ((with_reducible refine gate_callee (f := 36) rfl ?_); refine goesL_ (some 68) rfl rfl Try.func36 (by kernel_rfl) rfl #[.int .u64 (IntKind.u64.wrap (a0 - (Int.tmod a1 (IntKind.u64.wrap (a0 + 1))))), .int .u64 a0, .int .i64 (wrap64 (1 + (wrap64 (Int.tmod a2 64))))] rfl (by (try simp only [List.map_toArray, List.map_cons, List.map_nil]); first | done | rfl | (simp only [List.length_drop, List.length_take]; rfl)) ?_; (with_reducible refine (odds_Share.calls k (IntKind.u64.wrap (a0 - (Int.tmod a1 (IntKind.u64.wrap (a0 + 1))))) a0 (wrap64 (1 + (wrap64 (Int.tmod a2 64)))) t679 t682 _ A18.out).mono ?_); rintro e w33 ⟨v680, rfl, ho0, hb⟩; refine ⟨_, rfl, ?_⟩; have n0_ := Aside0.mk (Kd.R_below (by (with_reducible repeat (first | apply Kd.R_alloc | apply Kd.R_drewN | apply Kd.R_drew)); exact HO670.out) hb); have n1_ := Aside0.mk (Kd.V_below (by (with_reducible repeat (first | apply Kd.V_alloc | apply Kd.V_drewN | apply Kd.V_drew)); exact HO673.out) hb); have n2_ := Aside0.mk (Kd.V_below (by (with_reducible repeat (first | apply Kd.V_alloc | apply Kd.V_drewN | apply Kd.V_drew)); exact HO677.out) hb); have n3_ := Aside0.mk (Kd.V_lower (Kd.V_mono (ok' := fun k_ => some k_ ≠ (v669 : Value).ownBlock) ho0 (fun k_ hk_ => (Kd.fresh' (Kd.R_lt (by (with_reducible repeat (first | apply Kd.R_alloc | apply Kd.R_drewN | apply Kd.R_drew)); exact HO670.out)) k_ hk_))) (below_size (by repeat (first | (with_reducible first | exact HB.out | apply below_alloc | apply pw_below_drewN | apply below_drew1) | exact HB.out)))); have n4_ := Aside0.mk (below_step (by repeat (first | (with_reducible first | exact HB.out | apply below_alloc | apply pw_below_drewN | apply below_drew1) | exact HB.out)) hb); clear HO670; clear HO673; clear HO677; clear HB; have HO670 := n0_; have HO673 := n1_; have HO677 := n2_; have HO681 := n3_; have HB := n4_; clear n0_ n1_ n2_ n3_ n4_; (try clear hb); (try clear hb2); (try clear hk); (try clear hi); (try clear ho0); obtain ⟨Ao34, co34, eo34⟩ := Kd.V_slice HO673.out; subst eo34; obtain ⟨Ao35, co35, eo35⟩ := Kd.V_slice HO677.out; subst eo35; obtain ⟨Ao36, co36, eo36⟩ := Kd.V_slice HO681.out; subst eo36) | ((with_reducible refine gate_callee (f := 46) rfl ?_); refine goesL_ (some 102) rfl rfl Try.func46 (by kernel_rfl) rfl #[.slice Ao35 t675.length co35, .slice Ao36 t679.length co36] rfl (by (try simp only [List.map_toArray, List.map_cons, List.map_nil]); first | done | rfl | (simp only [List.length_drop, List.length_take]; rfl)) ?_; (with_reducible refine (drawlotref10_Sum.calls k _ _ t675 _ _ t679 t683 _ ?side1 ?side2 ?side3 ?side4 A26.out).mono ?_); (case side1 => repeat (first | exact (Kd.V_reads' HO677.out).2.2 | (with_reducible refine Kd.C_alloc ?_ _) | (with_reducible refine Kd.C_drewN ?_ _) | (with_reducible refine Kd.C_drew ?_))); (case side2 => exact (Kd.V_reads' HO677.out).2.1); (case side3 => repeat (first | exact (Kd.V_reads' HO681.out).2.2 | (with_reducible refine Kd.C_alloc ?_ _) | (with_reducible refine Kd.C_drewN ?_ _) | (with_reducible refine Kd.C_drew ?_))); (case side4 => exact (Kd.V_reads' HO681.out).2.1); rintro e w37 ⟨v684, rfl, ho0, hb⟩; refine ⟨_, rfl, ?_⟩; have n0_ := Aside0.mk (Kd.R_below (by (with_reducible repeat (first | apply Kd.R_alloc | apply Kd.R_drewN | apply Kd.R_drew)); exact HO670.out) hb); have n1_ := Aside0.mk (Kd.V_below (by (with_reducible repeat (first | apply Kd.V_alloc | apply Kd.V_drewN | apply Kd.V_drew)); exact HO673.out) hb); have n2_ := Aside0.mk (Kd.V_below (by (with_reducible repeat (first | apply Kd.V_alloc | apply Kd.V_drewN | apply Kd.V_drew)); exact HO677.out) hb); have n3_ := Aside0.mk (Kd.V_below (by (with_reducible repeat (first | apply Kd.V_alloc | apply Kd.V_drewN | apply Kd.V_drew)); exact HO681.out) hb); have n4_ := Aside0.mk (Kd.V_lower (Kd.V_mono (ok' := fun k_ => some k_ ≠ (v669 : Value).ownBlock) ho0 (fun k_ hk_ => (Kd.fresh' (Kd.R_lt (by (with_reducible repeat (first | apply Kd.R_alloc | apply Kd.R_drewN | apply Kd.R_drew)); exact HO670.out)) k_ hk_))) (below_size (by repeat (first | (with_reducible first | exact HB.out | apply below_alloc | apply pw_below_drewN | apply below_drew1) | exact HB.out)))); have n5_ := Aside0.mk (below_step (by repeat (first | (with_reducible first | exact HB.out | apply below_alloc | apply pw_below_drewN | apply below_drew1) | exact HB.out)) hb); clear HO670; clear HO673; clear HO677; clear HO681; clear HB; have HO670 := n0_; have HO673 := n1_; have HO677 := n2_; have HO681 := n3_; have HO685 := n4_; have HB := n5_; clear n0_ n1_ n2_ n3_ n4_ n5_; (try clear hb); (try clear hb2); (try clear hk); (try clear hi); (try clear ho0); obtain ⟨Ao38, co38, eo38⟩ := Kd.V_slice HO685.out; subst eo38) | ((with_reducible refine gate_callee (f := 46) rfl ?_); refine goesL_ (some 104) rfl rfl Try.func46 (by kernel_rfl) rfl #[.slice Ao38 t683.length co38, .slice Ao34 t671.length co34] rfl (by (try simp only [List.map_toArray, List.map_cons, List.map_nil]); first | done | rfl | (simp only [List.length_drop, List.length_take]; rfl)) ?_; (with_reducible refine (drawlotref10_Sum.calls k _ _ t683 _ _ t671 t686 _ ?side1 ?side2 ?side3 ?side4 A27.out).mono ?_); (case side1 => repeat (first | exact (Kd.V_reads' HO685.out).2.2 | (with_reducible refine Kd.C_alloc ?_ _) | (with_reducible refine Kd.C_drewN ?_ _) | (with_reducible refine Kd.C_drew ?_))); (case side2 => exact (Kd.V_reads' HO685.out).2.1); (case side3 => repeat (first | exact (Kd.V_reads' HO673.out).2.2 | (with_reducible refine Kd.C_alloc ?_ _) | (with_reducible refine Kd.C_drewN ?_ _) | (with_reducible refine Kd.C_drew ?_))); (case side4 => exact (Kd.V_reads' HO673.out).2.1); rintro e w39 ⟨v687, rfl, ho0, hb⟩; refine ⟨_, rfl, ?_⟩; have n0_ := Aside0.mk (Kd.R_below (by (with_reducible repeat (first | apply Kd.R_alloc | apply Kd.R_drewN | apply Kd.R_drew)); exact HO670.out) hb); have n1_ := Aside0.mk (Kd.V_below (by (with_reducible repeat (first | apply Kd.V_alloc | apply Kd.V_drewN | apply Kd.V_drew)); exact HO673.out) hb); have n2_ := Aside0.mk (Kd.V_below (by (with_reducible repeat (first | apply Kd.V_alloc | apply Kd.V_drewN | apply Kd.V_drew)); exact HO677.out) hb); have n3_ := Aside0.mk (Kd.V_below (by (with_reducible repeat (first | apply Kd.V_alloc | apply Kd.V_drewN | apply Kd.V_drew)); exact HO681.out) hb); have n4_ := Aside0.mk (Kd.V_below (by (with_reducible repeat (first | apply Kd.V_alloc | apply Kd.V_drewN | apply Kd.V_drew)); exact HO685.out) hb); have n5_ := Aside0.mk (Kd.V_lower (Kd.V_mono (ok' := fun k_ => some k_ ≠ (v669 : Value).ownBlock) ho0 (fun k_ hk_ => (Kd.fresh' (Kd.R_lt (by (with_reducible repeat (first | apply Kd.R_alloc | apply Kd.R_drewN | apply Kd.R_drew)); exact HO670.out)) k_ hk_))) (below_size (by repeat (first | (with_reducible first | exact HB.out | apply below_alloc | apply pw_below_drewN | apply below_drew1) | exact HB.out)))); have n6_ := Aside0.mk (below_step (by repeat (first | (with_reducible first | exact HB.out | apply below_alloc | apply pw_below_drewN | apply below_drew1) | exact HB.out)) hb); clear HO670; clear HO673; clear HO677; clear HO681; clear HO685; clear HB; have HO670 := n0_; have HO673 := n1_; have HO677 := n2_; have HO681 := n3_; have HO685 := n4_; have HO688 := n5_; have HB := n6_; clear n0_ n1_ n2_ n3_ n4_ n5_ n6_; (try clear hb); (try clear hb2); (try clear hk); (try clear hi); (try clear ho0); obtain ⟨Ao40, co40, eo40⟩ := Kd.V_slice HO688.out; subst eo40; obtain ⟨Ao41, co41, eo41⟩ := Kd.R_slice HO670.out; subst eo41) | ((with_reducible refine gate_callee (f := 40) rfl ?_); refine goesL_ (some 106) rfl rfl Try.func40 (by kernel_rfl) rfl #[.slice Ao40 t686.length co40, .slice Ao41 t667.length co41] rfl (by (try simp only [List.map_toArray, List.map_cons, List.map_nil]); first | done | rfl | (simp only [List.length_drop, List.length_take]; rfl)) ?_; (with_reducible refine (drawlotref10_Same.calls k _ _ t686 _ _ t667 t689 _ ?side1 ?side2 ?side3 ?side4 A28.out).mono ?_); (case side1 => repeat (first | exact (Kd.V_reads' HO688.out).2.2 | (with_reducible refine Kd.C_alloc ?_ _) | (with_reducible refine Kd.C_drewN ?_ _) | (with_reducible refine Kd.C_drew ?_))); (case side2 => exact (Kd.V_reads' HO688.out).2.1); (case side3 => repeat (first | exact (Kd.R_reads' HO670.out).2.2 | (with_reducible refine Kd.C_alloc ?_ _) | (with_reducible refine Kd.C_drewN ?_ _) | (with_reducible refine Kd.C_drew ?_))); (case side4 => exact (Kd.R_reads' HO670.out).2.1); rintro e w' ⟨rfl, ⟨nd, rfl⟩⟩; refine ⟨_, rfl, ?_⟩))
            go_ret
            exact ⟨by first | rfl | (simp [errW_none, errW_some] <;> rfl) | (simp [*, errW_none, errW_some] <;> rfl), by repeat (first | (with_reducible first | exact HB.out | apply below_alloc | apply pw_below_drewN | apply below_drew1) | exact HB.out)⟩
        ·rw [if_neg c22] at H
         exact absurd H (by simp)
       ·rw [if_neg c21] at H
        exact absurd H (by simp)
      ·rw [if_neg c20] at H
       exact absurd H (by simp)
     ·rw [if_neg c19] at H
      exact absurd H (by simp)
 ·replace c5 := Bool.eq_false_iff.mpr c5
  subst c5
  have H1 : (none) = some r := by rw [if_neg (show ¬ (false = true) by decide)] at H; exact H
  clear H
  have H := H1
  clear H1
  exact absurd H (by simp)

/-- THE ONE PURE STATEMENT of drawlotlaw16_OddsWhole: yours. -/
def drawlotlaw16_OddsWhole.Pure : Prop := ∀ (a0 : Int) (a1 : Int) (a2 : Int), (Lit.int .u64 a0).wf = true → (Lit.int .u64 a1).wf = true → (Lit.int .u8 a2).wf = true → ∃ k, drawlotlaw16_OddsWhole.f k a0 a1 a2 = some true
theorem drawlotlaw16_OddsWhole.walk (P : drawlotlaw16_OddsWhole.Pure) (a0 : Int) (a1 : Int) (a2 : Int) (w : World) (w0 : (Lit.int .u64 a0).wf = true) (w1 : (Lit.int .u64 a1).wf = true) (w2 : (Lit.int .u8 a2).wf = true) :
  Calls Try.prog 12 #[.int .u64 a0, .int .u64 a1, .int .u8 a2] w fun e w' => e = .returned (.bool true) ∧ Below w.heap.size w w' := by
 obtain ⟨k, h⟩ := P a0 a1 a2 w0 w1 w2
 refine (drawlotlaw16_OddsWhole.calls k a0 a1 a2 true w h).mono ?_
 rintro e w' ⟨rfl, hd⟩
 exact ⟨rfl, hd⟩

end Go.Proofs.Ytbafkkbbjacekaa.PO
