/- Written by xprint.py, this session's own driver, for the seat YtgfkclgpphnjfaaDoor: contracts of Go functions, each saying that a call answers what a plain Lean function of the same name says, and, in a text named Law, the row of a law: its Go function answers true for every input. No conditions. -/
import Derived.Test.YtgfkclgpphnjfaaDoorPNx0
import Derived.Test.YtgfkclgpphnjfaaDoorPNx5
import Derived.Test.YtgfkclgpphnjfaaDoorPNx6
import Derived.Test.YtgfkclgpphnjfaaDoorPNx8
import Derived.Test.YtgfkclgpphnjfaaDoorPNx9
import Derived.Test.YtgfkclgpphnjfaaDoorPNx10
namespace Go.Proofs.YtgfkclgpphnjfaaDoor.PN
open Go.RowKit Go.Proofs.YtgfkclgpphnjfaaDoorW.PrintWords Go.Proofs.YtgfkclgpphnjfaaDoorW.PrintLast Go.Proofs.YtgfkclgpphnjfaaDoorW.PrintMore
attribute [local go_sem] max2_int min2_int max_two min_two max_three min_three max_four min_four   -- for this text's walks alone
set_option linter.unusedVariables false
set_option linter.unusedSimpArgs false

/-! ### drawlotlaw10_NatPowers: function 5 -/
def drawlotlaw10_NatPowers.f (k : Nat) (l0 : List Int) (a1 : Int) : Option (Bool) := (drawlotlaw10_alive.f k).bind fun t475 => (if t475 = true then (if (l0.length : Int) > 60 then (some true) else ((nat_Pow.f k l0 a1).bind fun bt476 => ((drawlotref10_Pow.f k l0 a1).bind fun bt480 => ((nat_Two.f a1).bind fun bt484 => ((drawlotref10_Two.f k a1).bind fun bt488 => ((drawlotref10_Same.f k bt476.1 bt480.1).bind fun t492 => (if t492 = true then (if bt476.2 = bt480.2 then ((drawlotref10_Same.f k bt484.1 bt488.1).bind fun t493 => (if t493 = true then (if bt484.2 = bt488.2 then ((nat_Text.f k l0).bind fun t494 => ((drawlotref10_Text.f k l0).bind fun t495 => (some (t494.toList == t495.toList)))) else (none)) else (none))) else (none)) else (none)))))))) else (none))
theorem drawlotlaw10_NatPowers.mono : ∀ a0 a1 k, LeO (drawlotlaw10_NatPowers.f k a0 a1) (drawlotlaw10_NatPowers.f (k + 1) a0 a1) := by
 intro a0 a1 k
 unfold drawlotlaw10_NatPowers.f
 repeat' first
   | (with_reducible exact drawlotlaw10_alive.mono _)
   | (with_reducible exact drawlotref10_Pow.mono _ _ _)
   | (with_reducible exact drawlotref10_Same.mono _ _ _)
   | (with_reducible exact drawlotref10_Text.mono _ _)
   | (with_reducible exact drawlotref10_Two.mono _ _)
   | (with_reducible exact nat_Pow.mono _ _ _)
   | (with_reducible exact nat_Text.mono _ _)
   | (with_reducible exact LeO.refl _)
   | (with_reducible exact LeO.none _)
   | (with_reducible refine LeO.ite ?_ ?_)
   | (with_reducible refine LeO.bind ?_ (fun _ => ?_))
   | exact drawlotlaw10_alive.mono _
   | exact drawlotref10_Pow.mono _ _ _
   | exact drawlotref10_Same.mono _ _ _
   | exact drawlotref10_Text.mono _ _
   | exact drawlotref10_Two.mono _ _
   | exact nat_Pow.mono _ _ _
   | exact nat_Text.mono _ _
   | exact LeO.none _
   | refine LeO.ite ?_ ?_
   | refine LeO.bind ?_ (fun _ => ?_)
set_option maxHeartbeats 8000000 in
set_option maxRecDepth 100000 in
theorem drawlotlaw10_NatPowers.calls (k : Nat) (A0 : Option Addr) (c0 : Nat) (l0 : List Int) (a1 : Int) (r : Bool) (w : World) (hr0 : Kd.C (Kd.int .u32) w A0 l0.length l0) (hc0 : l0.length ≤ c0) (h : drawlotlaw10_NatPowers.f k l0 a1 = some r) (hT : Lib.TabIs Tryd.prog w "internal/strconv.uint64pow10" .u64 Lib.pow10Tab) :
  Calls Tryd.prog 5 #[.slice A0 l0.length c0, .int .i64 a1] w fun e w' => e = .returned (.bool r) ∧ Below w.heap.size w w' := by
 have HT := Aside0.mk hT
 clear hT
 have HR0 := Aside0.mk hr0
 have HC0 := Aside0.mk hc0
 clear hr0 hc0
 have HB := Aside0.mk (Below.refl w.heap.size w)
 have H : ((drawlotlaw10_alive.f k).bind fun t475 => (if t475 = true then (if (l0.length : Int) > 60 then (some true) else ((nat_Pow.f k l0 a1).bind fun bt476 => ((drawlotref10_Pow.f k l0 a1).bind fun bt480 => ((nat_Two.f a1).bind fun bt484 => ((drawlotref10_Two.f k a1).bind fun bt488 => ((drawlotref10_Same.f k bt476.1 bt480.1).bind fun t492 => (if t492 = true then (if bt476.2 = bt480.2 then ((drawlotref10_Same.f k bt484.1 bt488.1).bind fun t493 => (if t493 = true then (if bt484.2 = bt488.2 then ((nat_Text.f k l0).bind fun t494 => ((drawlotref10_Text.f k l0).bind fun t495 => (some (t494.toList == t495.toList)))) else (none)) else (none))) else (none)) else (none)))))))) else (none))) = some r := h
 clear h
 replace H := Option.bind_eq_some_iff.mp H
 obtain ⟨t475, A30, H⟩ := H
 replace H : (if t475 = true then (if (l0.length : Int) > 60 then (some true) else ((nat_Pow.f k l0 a1).bind fun bt476 => ((drawlotref10_Pow.f k l0 a1).bind fun bt480 => ((nat_Two.f a1).bind fun bt484 => ((drawlotref10_Two.f k a1).bind fun bt488 => ((drawlotref10_Same.f k bt476.1 bt480.1).bind fun t492 => (if t492 = true then (if bt476.2 = bt480.2 then ((drawlotref10_Same.f k bt484.1 bt488.1).bind fun t493 => (if t493 = true then (if bt484.2 = bt488.2 then ((nat_Text.f k l0).bind fun t494 => ((drawlotref10_Text.f k l0).bind fun t495 => (some (t494.toList == t495.toList)))) else (none)) else (none))) else (none)) else (none)))))))) else (none)) = some r := H
 have A3 := Aside0.mk A30
 clear A30
 by_cases c4 : t475 = true
 ·subst c4
  have H1 : (if (l0.length : Int) > 60 then (some true) else ((nat_Pow.f k l0 a1).bind fun bt476 => ((drawlotref10_Pow.f k l0 a1).bind fun bt480 => ((nat_Two.f a1).bind fun bt484 => ((drawlotref10_Two.f k a1).bind fun bt488 => ((drawlotref10_Same.f k bt476.1 bt480.1).bind fun t492 => (if t492 = true then (if bt476.2 = bt480.2 then ((drawlotref10_Same.f k bt484.1 bt488.1).bind fun t493 => (if t493 = true then (if bt484.2 = bt488.2 then ((nat_Text.f k l0).bind fun t494 => ((drawlotref10_Text.f k l0).bind fun t495 => (some (t494.toList == t495.toList)))) else (none)) else (none))) else (none)) else (none)))))))) = some r := by rw [if_pos rfl] at H; exact H
  clear H
  have H := H1
  clear H1
  by_cases c5 : (l0.length : Int) > 60
  ·rw [if_pos c5] at H
   have c5b0 : decide (60 < (l0.length : Int)) = true := decide_eq_true c5
   have c5b1 : decide (60 < l0.length) = true := decide_eq_true (by omega)
   clear c5
   obtain rfl := Option.some.inj H
   go_enter Tryd.func5, Tryd.ntmps5
   try simp only [List.append]
   go_wp2_with (first | ((with_reducible refine gate_callee (f := 8) rfl ?_); refine goesL_ (some 13) rfl rfl Tryd.func8 (by kernel_rfl) rfl #[] rfl (by (try simp only [List.map_toArray, List.map_cons, List.map_nil]); first | done | rfl | (simp only [List.length_drop, List.length_take]; rfl)) ?_; (with_reducible refine (drawlotlaw10_alive.calls k  true _ A3.out ?tabT).mono ?_); (case tabT => exact Fmt.tab_below HT.out (by repeat (first | (with_reducible first | exact HB.out | apply below_alloc | apply pw_below_drewN | apply below_drew1) | exact HB.out))); rintro e w6 ⟨rfl, hb⟩; refine ⟨_, rfl, ?_⟩; have n0_ := Aside0.mk (below_step (by repeat (first | (with_reducible first | exact HB.out | apply below_alloc | apply pw_below_drewN | apply below_drew1) | exact HB.out)) hb); clear HB; have HB := n0_; clear n0_; (try clear hb); (try clear hb2); (try clear hk); (try clear hi)))
   go_ret
   exact ⟨by first | rfl | (simp [errW_none, errW_some] <;> rfl) | (simp [*, errW_none, errW_some] <;> rfl), by repeat (first | (with_reducible first | exact HB.out | apply below_alloc | apply pw_below_drewN | apply below_drew1) | exact HB.out)⟩
  ·rw [if_neg c5] at H
   have c5b0 : decide (60 < (l0.length : Int)) = false := decide_eq_false c5
   have c5b1 : decide (60 < l0.length) = false := decide_eq_false (by omega)
   clear c5
   replace H := Option.bind_eq_some_iff.mp H
   obtain ⟨⟨t476, t479⟩, A70, H⟩ := H
   replace H : ((drawlotref10_Pow.f k l0 a1).bind fun bt480 => ((nat_Two.f a1).bind fun bt484 => ((drawlotref10_Two.f k a1).bind fun bt488 => ((drawlotref10_Same.f k t476 bt480.1).bind fun t492 => (if t492 = true then (if t479 = bt480.2 then ((drawlotref10_Same.f k bt484.1 bt488.1).bind fun t493 => (if t493 = true then (if bt484.2 = bt488.2 then ((nat_Text.f k l0).bind fun t494 => ((drawlotref10_Text.f k l0).bind fun t495 => (some (t494.toList == t495.toList)))) else (none)) else (none))) else (none)) else (none)))))) = some r := H
   have A7 := Aside0.mk A70
   clear A70
   replace H := Option.bind_eq_some_iff.mp H
   obtain ⟨⟨t480, t483⟩, A80, H⟩ := H
   replace H : ((nat_Two.f a1).bind fun bt484 => ((drawlotref10_Two.f k a1).bind fun bt488 => ((drawlotref10_Same.f k t476 t480).bind fun t492 => (if t492 = true then (if t479 = t483 then ((drawlotref10_Same.f k bt484.1 bt488.1).bind fun t493 => (if t493 = true then (if bt484.2 = bt488.2 then ((nat_Text.f k l0).bind fun t494 => ((drawlotref10_Text.f k l0).bind fun t495 => (some (t494.toList == t495.toList)))) else (none)) else (none))) else (none)) else (none))))) = some r := H
   have A8 := Aside0.mk A80
   clear A80
   replace H := Option.bind_eq_some_iff.mp H
   obtain ⟨⟨t484, t487⟩, A90, H⟩ := H
   replace H : ((drawlotref10_Two.f k a1).bind fun bt488 => ((drawlotref10_Same.f k t476 t480).bind fun t492 => (if t492 = true then (if t479 = t483 then ((drawlotref10_Same.f k t484 bt488.1).bind fun t493 => (if t493 = true then (if t487 = bt488.2 then ((nat_Text.f k l0).bind fun t494 => ((drawlotref10_Text.f k l0).bind fun t495 => (some (t494.toList == t495.toList)))) else (none)) else (none))) else (none)) else (none)))) = some r := H
   have A9 := Aside0.mk A90
   clear A90
   replace H := Option.bind_eq_some_iff.mp H
   obtain ⟨⟨t488, t489⟩, A100, H⟩ := H
   replace H : ((drawlotref10_Same.f k t476 t480).bind fun t492 => (if t492 = true then (if t479 = t483 then ((drawlotref10_Same.f k t484 t488).bind fun t493 => (if t493 = true then (if t487 = t489 then ((nat_Text.f k l0).bind fun t494 => ((drawlotref10_Text.f k l0).bind fun t495 => (some (t494.toList == t495.toList)))) else (none)) else (none))) else (none)) else (none))) = some r := H
   have A10 := Aside0.mk A100
   clear A100
   replace H := Option.bind_eq_some_iff.mp H
   obtain ⟨t492, A110, H⟩ := H
   replace H : (if t492 = true then (if t479 = t483 then ((drawlotref10_Same.f k t484 t488).bind fun t493 => (if t493 = true then (if t487 = t489 then ((nat_Text.f k l0).bind fun t494 => ((drawlotref10_Text.f k l0).bind fun t495 => (some (t494.toList == t495.toList)))) else (none)) else (none))) else (none)) else (none)) = some r := H
   have A11 := Aside0.mk A110
   clear A110
   by_cases c12 : t492 = true
   ·subst c12
    have H1 : (if t479 = t483 then ((drawlotref10_Same.f k t484 t488).bind fun t493 => (if t493 = true then (if t487 = t489 then ((nat_Text.f k l0).bind fun t494 => ((drawlotref10_Text.f k l0).bind fun t495 => (some (t494.toList == t495.toList)))) else (none)) else (none))) else (none)) = some r := by rw [if_pos rfl] at H; exact H
    clear H
    have H := H1
    clear H1
    by_cases c13 : t479 = t483
    ·rw [if_pos c13] at H
     have c13b0 : (t479 == t483) = true := beq_iff_eq.mpr c13
     have c13b1 : (t479 != t483) = false := bne_eq_false_iff_eq.mpr c13
     clear c13
     replace H := Option.bind_eq_some_iff.mp H
     obtain ⟨t493, A140, H⟩ := H
     replace H : (if t493 = true then (if t487 = t489 then ((nat_Text.f k l0).bind fun t494 => ((drawlotref10_Text.f k l0).bind fun t495 => (some (t494.toList == t495.toList)))) else (none)) else (none)) = some r := H
     have A14 := Aside0.mk A140
     clear A140
     by_cases c15 : t493 = true
     ·subst c15
      have H1 : (if t487 = t489 then ((nat_Text.f k l0).bind fun t494 => ((drawlotref10_Text.f k l0).bind fun t495 => (some (t494.toList == t495.toList)))) else (none)) = some r := by rw [if_pos rfl] at H; exact H
      clear H
      have H := H1
      clear H1
      by_cases c16 : t487 = t489
      ·rw [if_pos c16] at H
       have c16b0 : (t487 == t489) = true := beq_iff_eq.mpr c16
       have c16b1 : (t487 != t489) = false := bne_eq_false_iff_eq.mpr c16
       clear c16
       replace H := Option.bind_eq_some_iff.mp H
       obtain ⟨t494, A170, H⟩ := H
       replace H : ((drawlotref10_Text.f k l0).bind fun t495 => (some (t494.toList == t495.toList))) = some r := H
       have A17 := Aside0.mk A170
       clear A170
       replace H := Option.bind_eq_some_iff.mp H
       obtain ⟨t495, A180, H⟩ := H
       replace H : (some (t494.toList == t495.toList)) = some r := H
       have A18 := Aside0.mk A180
       clear A180
       obtain rfl := Option.some.inj H
       go_enter Tryd.func5, Tryd.ntmps5
       try simp only [List.append]
       go_wp2_with (first | ((with_reducible refine gate_callee (f := 8) rfl ?_); refine goesL_ (some 13) rfl rfl Tryd.func8 (by kernel_rfl) rfl #[] rfl (by (try simp only [List.map_toArray, List.map_cons, List.map_nil]); first | done | rfl | (simp only [List.length_drop, List.length_take]; rfl)) ?_; (with_reducible refine (drawlotlaw10_alive.calls k  true _ A3.out ?tabT).mono ?_); (case tabT => exact Fmt.tab_below HT.out (by repeat (first | (with_reducible first | exact HB.out | apply below_alloc | apply pw_below_drewN | apply below_drew1) | exact HB.out))); rintro e w19 ⟨rfl, hb⟩; refine ⟨_, rfl, ?_⟩; have n0_ := Aside0.mk (below_step (by repeat (first | (with_reducible first | exact HB.out | apply below_alloc | apply pw_below_drewN | apply below_drew1) | exact HB.out)) hb); clear HB; have HB := n0_; clear n0_; (try clear hb); (try clear hb2); (try clear hk); (try clear hi)) | ((with_reducible refine gate_callee (f := 26) rfl ?_); refine goesL_ (some 21) rfl rfl Tryd.func26 (by kernel_rfl) rfl #[.slice A0 l0.length c0, .int .i64 a1] rfl (by (try simp only [List.map_toArray, List.map_cons, List.map_nil]); first | done | rfl | (simp only [List.length_drop, List.length_take]; rfl)) ?_; (with_reducible refine (nat_Pow.calls k _ _ l0 a1 t476 t479 _ ?side1 ?side2 A7.out).mono ?_); (case side1 => repeat (first | exact (Kd.C_below HR0.out HB.out) | (with_reducible refine Kd.C_alloc ?_ _) | (with_reducible refine Kd.C_drewN ?_ _) | (with_reducible refine Kd.C_drew ?_))); (case side2 => exact HC0.out); rintro e w20 ⟨v477, rfl, ho0, hb⟩; refine ⟨_, rfl, ?_⟩; have n0_ := Aside0.mk (Kd.V_lower (Kd.V_mono (ok' := fun k_ => True) ho0 (fun k_ hk_ => trivial)) (below_size (by repeat (first | (with_reducible first | exact HB.out | apply below_alloc | apply pw_below_drewN | apply below_drew1) | exact HB.out)))); have n1_ := Aside0.mk (below_step (by repeat (first | (with_reducible first | exact HB.out | apply below_alloc | apply pw_below_drewN | apply below_drew1) | exact HB.out)) hb); clear HB; have HO478 := n0_; have HB := n1_; clear n0_ n1_; (try clear hb); (try clear hb2); (try clear hk); (try clear hi); (try clear ho0)) | ((with_reducible refine gate_callee (f := 27) rfl ?_); refine goesL_ (some 27) rfl rfl Tryd.func27 (by kernel_rfl) rfl #[.slice A0 l0.length c0, .int .i64 a1] rfl (by (try simp only [List.map_toArray, List.map_cons, List.map_nil]); first | done | rfl | (simp only [List.length_drop, List.length_take]; rfl)) ?_; (with_reducible refine (drawlotref10_Pow.calls k (fun k_ => k_ < w.heap.size) _ _ l0 a1 t480 t483 _ ?side1 A8.out).mono ?_); (case side1 => exact Kd.V_mk HC0.out (Kd.F_below (Kd.C_F (Kd.heap_int .u32) HR0.out) (by repeat (first | (with_reducible first | exact HB.out | apply below_alloc | apply pw_below_drewN | apply below_drew1) | exact HB.out)))); rintro e w21 ⟨v481, rfl, ho0, hb⟩; refine ⟨_, rfl, ?_⟩; have n0_ := Aside0.mk (Kd.V_below (by (with_reducible repeat (first | apply Kd.V_alloc | apply Kd.V_drewN | apply Kd.V_drew)); exact HO478.out) hb); have n1_ := Aside0.mk (Kd.V_lower (Kd.V_mono (ok' := fun k_ => True) ho0 (fun k_ hk_ => trivial)) (below_size (by repeat (first | (with_reducible first | exact HB.out | apply below_alloc | apply pw_below_drewN | apply below_drew1) | exact HB.out)))); have n2_ := Aside0.mk (below_step (by repeat (first | (with_reducible first | exact HB.out | apply below_alloc | apply pw_below_drewN | apply below_drew1) | exact HB.out)) hb); clear HO478; clear HB; have HO478 := n0_; have HO482 := n1_; have HB := n2_; clear n0_ n1_ n2_; (try clear hb); (try clear hb2); (try clear hk); (try clear hi); (try clear ho0)) | ((with_reducible refine gate_callee (f := 28) rfl ?_); refine goesL_ (some 32) rfl rfl Tryd.func28 (by kernel_rfl) rfl #[.int .i64 a1] rfl (by (try simp only [List.map_toArray, List.map_cons, List.map_nil]); first | done | rfl | (simp only [List.length_drop, List.length_take]; rfl)) ?_; (with_reducible refine (nat_Two.calls a1 t484 t487 _ A9.out).mono ?_); rintro e w22 ⟨v485, rfl, ho0, hb⟩; refine ⟨_, rfl, ?_⟩; have n0_ := Aside0.mk (Kd.V_below (by (with_reducible repeat (first | apply Kd.V_alloc | apply Kd.V_drewN | apply Kd.V_drew)); exact HO478.out) hb); have n1_ := Aside0.mk (Kd.V_below (by (with_reducible repeat (first | apply Kd.V_alloc | apply Kd.V_drewN | apply Kd.V_drew)); exact HO482.out) hb); have n2_ := Aside0.mk (Kd.V_lower (Kd.V_mono (ok' := fun k_ => True) ho0 (fun k_ hk_ => trivial)) (below_size (by repeat (first | (with_reducible first | exact HB.out | apply below_alloc | apply pw_below_drewN | apply below_drew1) | exact HB.out)))); have n3_ := Aside0.mk (below_step (by repeat (first | (with_reducible first | exact HB.out | apply below_alloc | apply pw_below_drewN | apply below_drew1) | exact HB.out)) hb); clear HO478; clear HO482; clear HB; have HO478 := n0_; have HO482 := n1_; have HO486 := n2_; have HB := n3_; clear n0_ n1_ n2_ n3_; (try clear hb); (try clear hb2); (try clear hk); (try clear hi); (try clear ho0)) | ((with_reducible refine gate_callee (f := 29) rfl ?_); refine goesL_ (some 37) rfl rfl Tryd.func29 (by kernel_rfl) rfl #[.int .i64 a1] rfl (by (try simp only [List.map_toArray, List.map_cons, List.map_nil]); first | done | rfl | (simp only [List.length_drop, List.length_take]; rfl)) ?_; (with_reducible refine (drawlotref10_Two.calls k a1 t488 t489 _ A10.out).mono ?_); rintro e w23 ⟨v490, rfl, ho0, hb⟩; refine ⟨_, rfl, ?_⟩; have n0_ := Aside0.mk (Kd.V_elder' (by (with_reducible repeat (first | apply Kd.V_alloc | apply Kd.V_drewN | apply Kd.V_drew)); exact HO478.out) (Kd.R_base ho0) hb); have n1_ := Aside0.mk (Kd.V_elder' (by (with_reducible repeat (first | apply Kd.V_alloc | apply Kd.V_drewN | apply Kd.V_drew)); exact HO482.out) (Kd.R_base ho0) hb); have n2_ := Aside0.mk (Kd.V_elder' (by (with_reducible repeat (first | apply Kd.V_alloc | apply Kd.V_drewN | apply Kd.V_drew)); exact HO486.out) (Kd.R_base ho0) hb); have n3_ := Aside0.mk (Kd.R_lower ho0 (below_size (by repeat (first | (with_reducible first | exact HB.out | apply below_alloc | apply pw_below_drewN | apply below_drew1) | exact HB.out)))); have n4_ := Aside0.mk (below_step (by repeat (first | (with_reducible first | exact HB.out | apply below_alloc | apply pw_below_drewN | apply below_drew1) | exact HB.out)) hb); clear HO478; clear HO482; clear HO486; clear HB; have HO478 := n0_; have HO482 := n1_; have HO486 := n2_; have HO491 := n3_; have HB := n4_; clear n0_ n1_ n2_ n3_ n4_; (try clear hb); (try clear hb2); (try clear hk); (try clear hi); (try clear ho0); obtain ⟨Ao24, co24, eo24⟩ := Kd.V_slice HO478.out; subst eo24; obtain ⟨Ao25, co25, eo25⟩ := Kd.V_slice HO482.out; subst eo25) | ((with_reducible refine gate_callee (f := 14) rfl ?_); refine goesL_ (some 42) rfl rfl Tryd.func14 (by kernel_rfl) rfl #[.slice Ao24 t476.length co24, .slice Ao25 t480.length co25] rfl (by (try simp only [List.map_toArray, List.map_cons, List.map_nil]); first | done | rfl | (simp only [List.length_drop, List.length_take]; rfl)) ?_; (with_reducible refine (drawlotref10_Same.calls k _ _ t476 _ _ t480 true _ ?side1 ?side2 ?side3 ?side4 A11.out).mono ?_); (case side1 => repeat (first | exact (Kd.V_reads' HO478.out).2.2 | (with_reducible refine Kd.C_alloc ?_ _) | (with_reducible refine Kd.C_drewN ?_ _) | (with_reducible refine Kd.C_drew ?_))); (case side2 => exact (Kd.V_reads' HO478.out).2.1); (case side3 => repeat (first | exact (Kd.V_reads' HO482.out).2.2 | (with_reducible refine Kd.C_alloc ?_ _) | (with_reducible refine Kd.C_drewN ?_ _) | (with_reducible refine Kd.C_drew ?_))); (case side4 => exact (Kd.V_reads' HO482.out).2.1); rintro e w' ⟨rfl, ⟨nd, rfl⟩⟩; refine ⟨_, rfl, ?_⟩; obtain ⟨Ao26, co26, eo26⟩ := Kd.V_slice HO486.out; subst eo26; obtain ⟨Ao27, co27, eo27⟩ := Kd.R_slice HO491.out; subst eo27) | (go_at_call 14; (with_reducible refine (drawlotref10_Same.calls k _ _ t484 _ _ t488 true _ ?side1 ?side2 ?side3 ?side4 A14.out).mono ?_); (case side1 => repeat (first | exact (Kd.V_reads' HO486.out).2.2 | (with_reducible refine Kd.C_alloc ?_ _) | (with_reducible refine Kd.C_drewN ?_ _) | (with_reducible refine Kd.C_drew ?_))); (case side2 => exact (Kd.V_reads' HO486.out).2.1); (case side3 => repeat (first | exact (Kd.R_reads' HO491.out).2.2 | (with_reducible refine Kd.C_alloc ?_ _) | (with_reducible refine Kd.C_drewN ?_ _) | (with_reducible refine Kd.C_drew ?_))); (case side4 => exact (Kd.R_reads' HO491.out).2.1); rintro e w' ⟨rfl, ⟨nd, rfl⟩⟩) | (go_at_call 30; (with_reducible refine (nat_Text.calls k (fun k_ => k_ < w.heap.size) _ _ l0 t494 _ ?side1 A17.out ?tabT).mono ?_); (case tabT => exact Fmt.tab_below HT.out (by repeat (first | (with_reducible first | exact HB.out | apply below_alloc | apply pw_below_drewN | apply below_drew1) | exact HB.out))); (case side1 => exact Kd.V_mk HC0.out (Kd.F_below (Kd.C_F (Kd.heap_int .u32) HR0.out) (by repeat (first | (with_reducible first | exact HB.out | apply below_alloc | apply pw_below_drewN | apply below_drew1) | exact HB.out)))); rintro e w28 ⟨rfl, hb⟩; have n0_ := Aside0.mk (Kd.V_below (by (with_reducible repeat (first | apply Kd.V_alloc | apply Kd.V_drewN | apply Kd.V_drew)); exact HO478.out) hb); have n1_ := Aside0.mk (Kd.V_below (by (with_reducible repeat (first | apply Kd.V_alloc | apply Kd.V_drewN | apply Kd.V_drew)); exact HO482.out) hb); have n2_ := Aside0.mk (Kd.V_below (by (with_reducible repeat (first | apply Kd.V_alloc | apply Kd.V_drewN | apply Kd.V_drew)); exact HO486.out) hb); have n3_ := Aside0.mk (Kd.R_below (by (with_reducible repeat (first | apply Kd.R_alloc | apply Kd.R_drewN | apply Kd.R_drew)); exact HO491.out) hb); have n4_ := Aside0.mk (below_step (by repeat (first | (with_reducible first | exact HB.out | apply below_alloc | apply pw_below_drewN | apply below_drew1) | exact HB.out)) hb); clear HO478; clear HO482; clear HO486; clear HO491; clear HB; have HO478 := n0_; have HO482 := n1_; have HO486 := n2_; have HO491 := n3_; have HB := n4_; clear n0_ n1_ n2_ n3_ n4_; (try clear hb); (try clear hb2); (try clear hk); (try clear hi)) | (go_at_call 31; (with_reducible refine (drawlotref10_Text.calls k (fun k_ => k_ < w.heap.size) _ _ l0 t495 _ ?side1 A18.out).mono ?_); (case side1 => exact Kd.V_mk HC0.out (Kd.F_below (Kd.C_F (Kd.heap_int .u32) HR0.out) (by repeat (first | (with_reducible first | exact HB.out | apply below_alloc | apply pw_below_drewN | apply below_drew1) | exact HB.out)))); rintro e w29 ⟨rfl, hb⟩; have n0_ := Aside0.mk (Kd.V_below (by (with_reducible repeat (first | apply Kd.V_alloc | apply Kd.V_drewN | apply Kd.V_drew)); exact HO478.out) hb); have n1_ := Aside0.mk (Kd.V_below (by (with_reducible repeat (first | apply Kd.V_alloc | apply Kd.V_drewN | apply Kd.V_drew)); exact HO482.out) hb); have n2_ := Aside0.mk (Kd.V_below (by (with_reducible repeat (first | apply Kd.V_alloc | apply Kd.V_drewN | apply Kd.V_drew)); exact HO486.out) hb); have n3_ := Aside0.mk (Kd.R_below (by (with_reducible repeat (first | apply Kd.R_alloc | apply Kd.R_drewN | apply Kd.R_drew)); exact HO491.out) hb); have n4_ := Aside0.mk (below_step (by repeat (first | (with_reducible first | exact HB.out | apply below_alloc | apply pw_below_drewN | apply below_drew1) | exact HB.out)) hb); clear HO478; clear HO482; clear HO486; clear HO491; clear HB; have HO478 := n0_; have HO482 := n1_; have HO486 := n2_; have HO491 := n3_; have HB := n4_; clear n0_ n1_ n2_ n3_ n4_; (try clear hb); (try clear hb2); (try clear hk); (try clear hi)))
       go_ret
       exact ⟨by first | rfl | (simp [errW_none, errW_some] <;> rfl) | (simp [*, errW_none, errW_some] <;> rfl), by repeat (first | (with_reducible first | exact HB.out | apply below_alloc | apply pw_below_drewN | apply below_drew1) | exact HB.out)⟩
      ·rw [if_neg c16] at H
       exact absurd H (by simp)
     ·replace c15 := Bool.eq_false_iff.mpr c15
      subst c15
      have H1 : (none) = some r := by rw [if_neg (show ¬ (false = true) by decide)] at H; exact H
      clear H
      have H := H1
      clear H1
      exact absurd H (by simp)
    ·rw [if_neg c13] at H
     exact absurd H (by simp)
   ·replace c12 := Bool.eq_false_iff.mpr c12
    subst c12
    have H1 : (none) = some r := by rw [if_neg (show ¬ (false = true) by decide)] at H; exact H
    clear H
    have H := H1
    clear H1
    exact absurd H (by simp)
 ·replace c4 := Bool.eq_false_iff.mpr c4
  subst c4
  have H1 : (none) = some r := by rw [if_neg (show ¬ (false = true) by decide)] at H; exact H
  clear H
  have H := H1
  clear H1
  exact absurd H (by simp)

/-- THE ONE PURE STATEMENT of drawlotlaw10_NatPowers: yours. -/
def drawlotlaw10_NatPowers.Pure : Prop := ∀ (l0 : List Int) (a1 : Int), l0.length ≤ maxLen → l0.length * 4 ≤ 140737488351232 → (∀ x ∈ l0, (Lit.int .u32 x).wf = true) → (Lit.int .i64 a1).wf = true → ∃ k, drawlotlaw10_NatPowers.f k l0 a1 = some true
theorem drawlotlaw10_NatPowers.walk (P : drawlotlaw10_NatPowers.Pure) (a0 : Option Addr) (len0 cap0 : Nat) (z0 : List Int) (a1 : Int) (w : World) (w0 : (a0 = none ∧ len0 = 0 ∧ cap0 = 0 ∧ z0 = []) ∨ ∃ x, a0 = some x ∧ len0 ≤ cap0 ∧ cap0 ≤ maxLen ∧ z0.length = cap0 ∧ (∀ i, i < z0.length → w.cell? (x.add i) = some (.int .u32 (z0.getD i 0))) ∧ ∀ n ∈ z0, (Lit.int .u32 n).wf = true) (y0 : len0 * 4 ≤ 140737488351232) (w1 : (Lit.int .i64 a1).wf = true) (hT : Lib.TabIs Tryd.prog w "internal/strconv.uint64pow10" .u64 Lib.pow10Tab) :
  Calls Tryd.prog 5 #[.slice a0 len0 cap0, .int .i64 a1] w fun e w' => e = .returned (.bool true) ∧ Below w.heap.size w w' := by
 obtain ⟨l0, rfl, hr0, hm0, hw0, hc0⟩ := ReadsInt.ofRowC w0
 obtain ⟨k, h⟩ := P l0 a1 hm0 y0 hw0 w1
 refine (drawlotlaw10_NatPowers.calls k _ _ l0 a1 true w (Kd.C_of_reads (d := (0 : Int)) (h1 := fun _ => rfl) hr0) hc0 h hT).mono ?_
 rintro e w' ⟨rfl, hd⟩
 exact ⟨rfl, hd⟩

end Go.Proofs.YtgfkclgpphnjfaaDoor.PN
