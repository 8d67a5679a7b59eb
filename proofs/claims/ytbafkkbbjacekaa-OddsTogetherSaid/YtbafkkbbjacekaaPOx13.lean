/- Written by xprint.py, this session's own driver, for the seat Ytbafkkbbjacekaa: contracts of Go functions, each saying that a call answers what a plain Lean function of the same name says, and, in a text named Law, the row of a law: its Go function answers true for every input. No conditions. -/
import Derived.Test.YtbafkkbbjacekaaPOx0
import Derived.Test.YtbafkkbbjacekaaPOx1
import Derived.Test.YtbafkkbbjacekaaPOx3
import Derived.Test.YtbafkkbbjacekaaPOx5
import Derived.Test.YtbafkkbbjacekaaPOx6
import Derived.Test.YtbafkkbbjacekaaPOx9
namespace Go.Proofs.Ytbafkkbbjacekaa.PO
open Go.RowKit Go.Proofs.YtbafkkbbjacekaaW.PrintWords Go.Proofs.YtbafkkbbjacekaaW.PrintLast Go.Proofs.YtbafkkbbjacekaaW.PrintMore
attribute [local go_sem] max2_int min2_int max_two min_two max_three min_three max_four min_four   -- for this text's walks alone
set_option linter.unusedVariables false
set_option linter.unusedSimpArgs false

/-! ### drawlotlaw16_OddsTogether: function 10 -/
def drawlotlaw16_OddsTogether.l0 : Nat → List Int → Int → List Int → List Int → Int → Option (Bool)
 | 0, _, _, _, _, _ => none
 | k + 1, x1, x5, x8, x10, x12 => if x12 < (x1.length : Int) then ((odds_Lead.f k x12 x5 x1).bind fun bt603 => (if bt603.2 = 0 then (if (bt603.1.length : Int) > 200 then (none) else (if (x10.length : Int) > 200 then (none) else ((drawlotref10_Sum.f k x10 bt603.1).bind fun t607 => (drawlotlaw16_OddsTogether.l0 k x1 x5 x8 t607 (wrap64 (x12 + 1)))))) else (none))) else ((drawlotref10_Same.f k x10 x8).bind fun t610 => (some t610))
def drawlotlaw16_OddsTogether.f (k : Nat) (a0 : Int) (l1 : List Int) : Option (Bool) := (drawlotlaw16_alive.f k).bind fun t592 => (if t592 = true then (if (l1.length : Int) > 20 then (some true) else ((drawlotref09_Total.f k l1).bind fun bt593 => (if bt593.2 = true then (if bt593.1 = 0 then (some true) else ((odds_All.f k bt593.1 (wrap64 (1 + (wrap64 (Int.tmod a0 64))))).bind fun bt595 => ((odds_Lost.f k bt593.1 (wrap64 (1 + (wrap64 (Int.tmod a0 64))))).bind fun bt599 => (if bt595.2 = 0 then (if bt599.2 = 0 then (drawlotlaw16_OddsTogether.l0 k l1 (wrap64 (1 + (wrap64 (Int.tmod a0 64)))) bt595.1 bt599.1 0) else (none)) else (none))))) else (some true)))) else (none))
theorem drawlotlaw16_OddsTogether.mono_l : ∀ k, (∀ y0 y1 y2 y3 y4, LeO (drawlotlaw16_OddsTogether.l0 k y0 y1 y2 y3 y4) (drawlotlaw16_OddsTogether.l0 (k + 1) y0 y1 y2 y3 y4))
 | 0 => fun _ _ _ _ _ r h => by simp [drawlotlaw16_OddsTogether.l0] at h
 | k + 1 => by
  have ih0 := drawlotlaw16_OddsTogether.mono_l k
  ·intro y0 y1 y2 y3 y4
   unfold drawlotlaw16_OddsTogether.l0
   repeat' first
   | (with_reducible exact ih0 _ _ _ _ _)
   | (with_reducible exact drawlotlaw16_alive.mono _)
   | (with_reducible exact drawlotref09_Total.mono _ _)
   | (with_reducible exact drawlotref10_Same.mono _ _ _)
   | (with_reducible exact drawlotref10_Sum.mono _ _ _)
   | (with_reducible exact odds_All.mono _ _ _)
   | (with_reducible exact odds_Lead.mono _ _ _ _)
   | (with_reducible exact odds_Lost.mono _ _ _)
   | (with_reducible exact LeO.refl _)
   | (with_reducible exact LeO.none _)
   | (with_reducible refine LeO.ite ?_ ?_)
   | (with_reducible refine LeO.bind ?_ (fun _ => ?_))
   | exact ih0 _ _ _ _ _
   | exact drawlotlaw16_alive.mono _
   | exact drawlotref09_Total.mono _ _
   | exact drawlotref10_Same.mono _ _ _
   | exact drawlotref10_Sum.mono _ _ _
   | exact odds_All.mono _ _ _
   | exact odds_Lead.mono _ _ _ _
   | exact odds_Lost.mono _ _ _
   | exact LeO.none _
   | refine LeO.ite ?_ ?_
   | refine LeO.bind ?_ (fun _ => ?_)
theorem drawlotlaw16_OddsTogether.mono : ∀ a0 a1 k, LeO (drawlotlaw16_OddsTogether.f k a0 a1) (drawlotlaw16_OddsTogether.f (k + 1) a0 a1) := by
 intro a0 a1 k
 have ih0 := drawlotlaw16_OddsTogether.mono_l k
 unfold drawlotlaw16_OddsTogether.f
 repeat' first
   | (with_reducible exact ih0 _ _ _ _ _)
   | (with_reducible exact drawlotlaw16_alive.mono _)
   | (with_reducible exact drawlotref09_Total.mono _ _)
   | (with_reducible exact drawlotref10_Same.mono _ _ _)
   | (with_reducible exact drawlotref10_Sum.mono _ _ _)
   | (with_reducible exact odds_All.mono _ _ _)
   | (with_reducible exact odds_Lead.mono _ _ _ _)
   | (with_reducible exact odds_Lost.mono _ _ _)
   | (with_reducible exact LeO.refl _)
   | (with_reducible exact LeO.none _)
   | (with_reducible refine LeO.ite ?_ ?_)
   | (with_reducible refine LeO.bind ?_ (fun _ => ?_))
   | exact ih0 _ _ _ _ _
   | exact drawlotlaw16_alive.mono _
   | exact drawlotref09_Total.mono _ _
   | exact drawlotref10_Same.mono _ _ _
   | exact drawlotref10_Sum.mono _ _ _
   | exact odds_All.mono _ _ _
   | exact odds_Lead.mono _ _ _ _
   | exact odds_Lost.mono _ _ _
   | exact LeO.none _
   | refine LeO.ite ?_ ?_
   | refine LeO.bind ?_ (fun _ => ?_)
set_option maxHeartbeats 8000000 in
set_option maxRecDepth 100000 in
theorem drawlotlaw16_OddsTogether.calls (k : Nat) (a0 : Int) (A1 : Option Addr) (c1 : Nat) (l1 : List Int) (r : Bool) (w : World) (hr1 : Kd.C (Kd.int .u64) w A1 l1.length l1) (hc1 : l1.length ≤ c1) (h : drawlotlaw16_OddsTogether.f k a0 l1 = some r) :
  Calls Try.prog 10 #[.int .u8 a0, .slice A1 l1.length c1] w fun e w' => e = .returned (.bool r) ∧ Below w.heap.size w w' := by
 have HR1 := Aside0.mk hr1
 have HC1 := Aside0.mk hc1
 clear hr1 hc1
 have HB := Aside0.mk (Below.refl w.heap.size w)
 have H : ((drawlotlaw16_alive.f k).bind fun t592 => (if t592 = true then (if (l1.length : Int) > 20 then (some true) else ((drawlotref09_Total.f k l1).bind fun bt593 => (if bt593.2 = true then (if bt593.1 = 0 then (some true) else ((odds_All.f k bt593.1 (wrap64 (1 + (wrap64 (Int.tmod a0 64))))).bind fun bt595 => ((odds_Lost.f k bt593.1 (wrap64 (1 + (wrap64 (Int.tmod a0 64))))).bind fun bt599 => (if bt595.2 = 0 then (if bt599.2 = 0 then (drawlotlaw16_OddsTogether.l0 k l1 (wrap64 (1 + (wrap64 (Int.tmod a0 64)))) bt595.1 bt599.1 0) else (none)) else (none))))) else (some true)))) else (none))) = some r := h
 clear h
 replace H := Option.bind_eq_some_iff.mp H
 obtain ⟨t592, A30, H⟩ := H
 replace H : (if t592 = true then (if (l1.length : Int) > 20 then (some true) else ((drawlotref09_Total.f k l1).bind fun bt593 => (if bt593.2 = true then (if bt593.1 = 0 then (some true) else ((odds_All.f k bt593.1 (wrap64 (1 + (wrap64 (Int.tmod a0 64))))).bind fun bt595 => ((odds_Lost.f k bt593.1 (wrap64 (1 + (wrap64 (Int.tmod a0 64))))).bind fun bt599 => (if bt595.2 = 0 then (if bt599.2 = 0 then (drawlotlaw16_OddsTogether.l0 k l1 (wrap64 (1 + (wrap64 (Int.tmod a0 64)))) bt595.1 bt599.1 0) else (none)) else (none))))) else (some true)))) else (none)) = some r := H
 have A3 := Aside0.mk A30
 clear A30
 by_cases c4 : t592 = true
 ·subst c4
  have H1 : (if (l1.length : Int) > 20 then (some true) else ((drawlotref09_Total.f k l1).bind fun bt593 => (if bt593.2 = true then (if bt593.1 = 0 then (some true) else ((odds_All.f k bt593.1 (wrap64 (1 + (wrap64 (Int.tmod a0 64))))).bind fun bt595 => ((odds_Lost.f k bt593.1 (wrap64 (1 + (wrap64 (Int.tmod a0 64))))).bind fun bt599 => (if bt595.2 = 0 then (if bt599.2 = 0 then (drawlotlaw16_OddsTogether.l0 k l1 (wrap64 (1 + (wrap64 (Int.tmod a0 64)))) bt595.1 bt599.1 0) else (none)) else (none))))) else (some true)))) = some r := by rw [if_pos rfl] at H; exact H
  clear H
  have H := H1
  clear H1
  by_cases c5 : (l1.length : Int) > 20
  ·rw [if_pos c5] at H
   have c5b0 : decide (20 < (l1.length : Int)) = true := decide_eq_true c5
   have c5b1 : decide (20 < l1.length) = true := decide_eq_true (by omega)
   clear c5
   obtain rfl := Option.some.inj H
   go_enter Try.func10, Try.ntmps10
   try simp only [List.append]
   go_wp2_with (first | ((with_reducible refine gate_callee (f := 29) rfl ?_); refine goesL_ (some 15) rfl rfl Try.func29 (by kernel_rfl) rfl #[] rfl (by (try simp only [List.map_toArray, List.map_cons, List.map_nil]); first | done | rfl | (simp only [List.length_drop, List.length_take]; rfl)) ?_; (with_reducible refine (drawlotlaw16_alive.calls k  true _ A3.out).mono ?_); rintro e w6 ⟨rfl, hb⟩; refine ⟨_, rfl, ?_⟩; have n0_ := Aside0.mk (below_step (by repeat (first | (with_reducible first | exact HB.out | apply below_alloc | apply pw_below_drewN | apply below_drew1) | exact HB.out)) hb); clear HB; have HB := n0_; clear n0_; (try clear hb); (try clear hb2); (try clear hk); (try clear hi)))
   go_ret
   exact ⟨by first | rfl | (simp [errW_none, errW_some] <;> rfl) | (simp [*, errW_none, errW_some] <;> rfl), by repeat (first | (with_reducible first | exact HB.out | apply below_alloc | apply pw_below_drewN | apply below_drew1) | exact HB.out)⟩
  ·rw [if_neg c5] at H
   have c5b0 : decide (20 < (l1.length : Int)) = false := decide_eq_false c5
   have c5b1 : decide (20 < l1.length) = false := decide_eq_false (by omega)
   clear c5
   replace H := Option.bind_eq_some_iff.mp H
   obtain ⟨⟨t593, t594⟩, A70, H⟩ := H
   replace H : (if t594 = true then (if t593 = 0 then (some true) else ((odds_All.f k t593 (wrap64 (1 + (wrap64 (Int.tmod a0 64))))).bind fun bt595 => ((odds_Lost.f k t593 (wrap64 (1 + (wrap64 (Int.tmod a0 64))))).bind fun bt599 => (if bt595.2 = 0 then (if bt599.2 = 0 then (drawlotlaw16_OddsTogether.l0 k l1 (wrap64 (1 + (wrap64 (Int.tmod a0 64)))) bt595.1 bt599.1 0) else (none)) else (none))))) else (some true)) = some r := H
   have A7 := Aside0.mk A70
   clear A70
   by_cases c8 : t594 = true
   ·subst c8
    have H1 : (if t593 = 0 then (some true) else ((odds_All.f k t593 (wrap64 (1 + (wrap64 (Int.tmod a0 64))))).bind fun bt595 => ((odds_Lost.f k t593 (wrap64 (1 + (wrap64 (Int.tmod a0 64))))).bind fun bt599 => (if bt595.2 = 0 then (if bt599.2 = 0 then (drawlotlaw16_OddsTogether.l0 k l1 (wrap64 (1 + (wrap64 (Int.tmod a0 64)))) bt595.1 bt599.1 0) else (none)) else (none))))) = some r := by rw [if_pos rfl] at H; exact H
    clear H
    have H := H1
    clear H1
    by_cases c9 : t593 = 0
    ·rw [if_pos c9] at H
     have c9b0 : (t593 == 0) = true := beq_iff_eq.mpr c9
     have c9b1 : (t593 != 0) = false := bne_eq_false_iff_eq.mpr c9
     clear c9
     obtain rfl := Option.some.inj H
     go_enter Try.func10, Try.ntmps10
     try simp only [List.append]
     go_wp2_with (first | ((with_reducible refine gate_callee (f := 29) rfl ?_); refine goesL_ (some 15) rfl rfl Try.func29 (by kernel_rfl) rfl #[] rfl (by (try simp only [List.map_toArray, List.map_cons, List.map_nil]); first | done | rfl | (simp only [List.length_drop, List.length_take]; rfl)) ?_; (with_reducible refine (drawlotlaw16_alive.calls k  true _ A3.out).mono ?_); rintro e w10 ⟨rfl, hb⟩; refine ⟨_, rfl, ?_⟩; have n0_ := Aside0.mk (below_step (by repeat (first | (with_reducible first | exact HB.out | apply below_alloc | apply pw_below_drewN | apply below_drew1) | exact HB.out)) hb); clear HB; have HB := n0_; clear n0_; (try clear hb); (try clear hb2); (try clear hk); (try clear hi)) | ((with_reducible refine gate_callee (f := 45) rfl ?_); refine goesL_ (some 26) rfl rfl Try.func45 (by kernel_rfl) rfl #[.slice A1 l1.length c1] rfl (by (try simp only [List.map_toArray, List.map_cons, List.map_nil]); first | done | rfl | (simp only [List.length_drop, List.length_take]; rfl)) ?_; (with_reducible refine (drawlotref09_Total.calls k _ _ l1 t593 true _ ?side1 ?side2 A7.out).mono ?_); (case side1 => repeat (first | exact (Kd.C_below HR1.out HB.out) | (with_reducible refine Kd.C_alloc ?_ _) | (with_reducible refine Kd.C_drewN ?_ _) | (with_reducible refine Kd.C_drew ?_))); (case side2 => exact HC1.out); rintro e w' ⟨rfl, ⟨nd, rfl⟩⟩; refine ⟨_, rfl, ?_⟩))
     go_ret
     exact ⟨by first | rfl | (simp [errW_none, errW_some] <;> rfl) | (simp [*, errW_none, errW_some] <;> rfl), by repeat (first | (with_reducible first | exact HB.out | apply below_alloc | apply pw_below_drewN | apply below_drew1) | exact HB.out)⟩
    ·rw [if_neg c9] at H
     have c9b0 : (t593 == 0) = false := beq_eq_false_iff_ne.mpr c9
     have c9b1 : (t593 != 0) = true := bne_iff_ne.mpr c9
     replace H := Option.bind_eq_some_iff.mp H
     obtain ⟨⟨t595, t596⟩, A110, H⟩ := H
     replace H : ((odds_Lost.f k t593 (wrap64 (1 + (wrap64 (Int.tmod a0 64))))).bind fun bt599 => (if t596 = 0 then (if bt599.2 = 0 then (drawlotlaw16_OddsTogether.l0 k l1 (wrap64 (1 + (wrap64 (Int.tmod a0 64)))) t595 bt599.1 0) else (none)) else (none))) = some r := H
     have A11 := Aside0.mk A110
     clear A110
     replace H := Option.bind_eq_some_iff.mp H
     obtain ⟨⟨t599, t602⟩, A120, H⟩ := H
     replace H : (if t596 = 0 then (if t602 = 0 then (drawlotlaw16_OddsTogether.l0 k l1 (wrap64 (1 + (wrap64 (Int.tmod a0 64)))) t595 t599 0) else (none)) else (none)) = some r := H
     have A12 := Aside0.mk A120
     clear A120
     by_cases c13 : t596 = 0
     ·rw [if_pos c13] at H
      have c13b0 : (t596 == 0) = true := beq_iff_eq.mpr c13
      have c13b1 : (t596 != 0) = false := bne_eq_false_iff_eq.mpr c13
      clear c13
      by_cases c14 : t602 = 0
      ·rw [if_pos c14] at H
       have c14b0 : (t602 == 0) = true := beq_iff_eq.mpr c14
       have c14b1 : (t602 != 0) = false := bne_eq_false_iff_eq.mpr c14
       clear c14
       have H' := Aside0.mk H
       clear H
       go_enter Try.func10, Try.ntmps10
       try simp only [List.append]
       go_wp2_with (first | ((with_reducible refine gate_callee (f := 29) rfl ?_); refine goesL_ (some 15) rfl rfl Try.func29 (by kernel_rfl) rfl #[] rfl (by (try simp only [List.map_toArray, List.map_cons, List.map_nil]); first | done | rfl | (simp only [List.length_drop, List.length_take]; rfl)) ?_; (with_reducible refine (drawlotlaw16_alive.calls k  true _ A3.out).mono ?_); rintro e w15 ⟨rfl, hb⟩; refine ⟨_, rfl, ?_⟩; have n0_ := Aside0.mk (below_step (by repeat (first | (with_reducible first | exact HB.out | apply below_alloc | apply pw_below_drewN | apply below_drew1) | exact HB.out)) hb); clear HB; have HB := n0_; clear n0_; (try clear hb); (try clear hb2); (try clear hk); (try clear hi)) | ((with_reducible refine gate_callee (f := 45) rfl ?_); refine goesL_ (some 26) rfl rfl Try.func45 (by kernel_rfl) rfl #[.slice A1 l1.length c1] rfl (by (try simp only [List.map_toArray, List.map_cons, List.map_nil]); first | done | rfl | (simp only [List.length_drop, List.length_take]; rfl)) ?_; (with_reducible refine (drawlotref09_Total.calls k _ _ l1 t593 true _ ?side1 ?side2 A7.out).mono ?_); (case side1 => repeat (first | exact (Kd.C_below HR1.out HB.out) | (with_reducible refine Kd.C_alloc ?_ _) | (with_reducible refine Kd.C_drewN ?_ _) | (with_reducible refine Kd.C_drew ?_))); (case side2 => exact HC1.out); rintro e w' ⟨rfl, ⟨nd, rfl⟩⟩; refine ⟨_, rfl, ?_⟩) | ((with_reducible refine gate_callee (f := 30) rfl ?_); refine goesL_ (some 38) rfl rfl Try.func30 (by kernel_rfl) rfl #[.int .u64 t593, .int .i64 (wrap64 (1 + (wrap64 (Int.tmod a0 64))))] rfl (by (try simp only [List.map_toArray, List.map_cons, List.map_nil]); first | done | rfl | (simp only [List.length_drop, List.length_take]; rfl)) ?_; (with_reducible refine (odds_All.calls k t593 (wrap64 (1 + (wrap64 (Int.tmod a0 64)))) t595 t596 _ A11.out).mono ?_); rintro e w16 ⟨v597, rfl, ho0, hb⟩; refine ⟨_, rfl, ?_⟩; have n0_ := Aside0.mk (Kd.R_lower ho0 (below_size (by repeat (first | (with_reducible first | exact HB.out | apply below_alloc | apply pw_below_drewN | apply below_drew1) | exact HB.out)))); have n1_ := Aside0.mk (below_step (by repeat (first | (with_reducible first | exact HB.out | apply below_alloc | apply pw_below_drewN | apply below_drew1) | exact HB.out)) hb); clear HB; have HO598 := n0_; have HB := n1_; clear n0_ n1_; (try clear hb); (try clear hb2); (try clear hk); (try clear hi); (try clear ho0)) | ((with_reducible refine gate_callee (f := 32) rfl ?_); refine goesL_ (some 44) rfl rfl Try.func32 (by kernel_rfl) rfl #[.int .u64 t593, .int .i64 (wrap64 (1 + (wrap64 (Int.tmod a0 64))))] rfl (by (try simp only [List.map_toArray, List.map_cons, List.map_nil]); first | done | rfl | (simp only [List.length_drop, List.length_take]; rfl)) ?_; (with_reducible refine (odds_Lost.calls k t593 (wrap64 (1 + (wrap64 (Int.tmod a0 64)))) t599 t602 _ A12.out).mono ?_); rintro e w17 ⟨v600, rfl, ho0, hb⟩; refine ⟨_, rfl, ?_⟩; have n0_ := Aside0.mk (Kd.R_below (by (with_reducible repeat (first | apply Kd.R_alloc | apply Kd.R_drewN | apply Kd.R_drew)); exact HO598.out) hb); have n1_ := Aside0.mk (Kd.V_lower (Kd.V_mono (ok' := fun k_ => some k_ ≠ (v597 : Value).ownBlock) ho0 (fun k_ hk_ => (Kd.fresh' (Kd.R_lt (by (with_reducible repeat (first | apply Kd.R_alloc | apply Kd.R_drewN | apply Kd.R_drew)); exact HO598.out)) k_ hk_))) (below_size (by repeat (first | (with_reducible first | exact HB.out | apply below_alloc | apply pw_below_drewN | apply below_drew1) | exact HB.out)))); have n2_ := Aside0.mk (below_step (by repeat (first | (with_reducible first | exact HB.out | apply below_alloc | apply pw_below_drewN | apply below_drew1) | exact HB.out)) hb); clear HO598; clear HB; have HO598 := n0_; have HO601 := n1_; have HB := n2_; clear n0_ n1_ n2_; (try clear hb); (try clear hb2); (try clear hk); (try clear hi); (try clear ho0)))
       go_loopg [10, 12] k (fun kq v10 v12 w' => ∃ (x10_1 : List Int) (x12_1 : Int), v12 = .int .i64 x12_1 ∧ Aside0 (drawlotlaw16_OddsTogether.l0 kq l1 (wrap64 (1 + (wrap64 (Int.tmod a0 64)))) t595 x10_1 x12_1 = some r) ∧ Aside0 (kq ≤ k) ∧ Aside0 (Kd.R (Kd.int .u32) 75 w' w.heap.size (fun _ => True) v597 t595) ∧ Aside0 (Kd.V (Kd.int .u32) 75 w' w.heap.size (fun k_ => some k_ ≠ (v597 : Value).ownBlock) v10 x10_1) ∧ Aside0 (Below w.heap.size w w'))
       case atStart => exact ⟨(t599), (0), (by first | rfl | (simp; done) | (simp [*]; done)), H', ⟨Nat.le_refl _⟩, ⟨by (with_reducible repeat (first | apply Kd.R_alloc | apply Kd.R_drewN | apply Kd.R_drew)); exact HO598.out⟩, ⟨by (with_reducible repeat (first | apply Kd.V_alloc | apply Kd.V_drewN | apply Kd.V_drew)); exact HO601.out⟩, ⟨by repeat (first | (with_reducible first | exact HB.out | apply below_alloc | apply pw_below_drewN | apply below_drew1) | exact HB.out)⟩⟩
       case round =>
        clear H'
        try clear c1
        try clear c2
        try clear p2
        try clear c3
        try clear c4
        try clear c5
        try clear c5b0
        try clear c5b1
        try clear p6
        try clear c8
        try clear c9
        try clear c9b0
        try clear c9b1
        try clear c10
        try clear c13
        try clear c13b0
        try clear c13b1
        try clear c14
        try clear c14b0
        try clear c14b1
        obtain ⟨x10_1, x12_1, rfl, HA, HK1, HO_8, HO_10, HB⟩ := hrel
        cases gk with
        | zero => exact absurd HA.out (by simp [drawlotlaw16_OddsTogether.l0])
        | succ k1 =>
         have H := HA.out
         clear HA
         simp only [drawlotlaw16_OddsTogether.l0] at H
         by_cases c18 : x12_1 < (l1.length : Int)
         ·rw [if_pos c18] at H
          have c18b0 : decide (x12_1 < (l1.length : Int)) = true := decide_eq_true c18
          clear c18
          replace H := Option.bind_eq_some_iff.mp H
          obtain ⟨⟨t603, t606⟩, A190, H⟩ := H
          replace H : (if t606 = 0 then (if (t603.length : Int) > 200 then (none) else (if (x10_1.length : Int) > 200 then (none) else ((drawlotref10_Sum.f k1 x10_1 t603).bind fun t607 => (drawlotlaw16_OddsTogether.l0 k1 l1 (wrap64 (1 + (wrap64 (Int.tmod a0 64)))) t595 t607 (wrap64 (x12_1 + 1)))))) else (none)) = some r := H
          have A19 := Aside0.mk A190
          clear A190
          by_cases c20 : t606 = 0
          ·rw [if_pos c20] at H
           have c20b0 : (t606 == 0) = true := beq_iff_eq.mpr c20
           have c20b1 : (t606 != 0) = false := bne_eq_false_iff_eq.mpr c20
           clear c20
           by_cases c21 : (t603.length : Int) > 200
           ·rw [if_pos c21] at H
            exact absurd H (by simp)
           ·rw [if_neg c21] at H
            have c21b0 : decide (200 < (t603.length : Int)) = false := decide_eq_false c21
            have c21b1 : decide (200 < t603.length) = false := decide_eq_false (by omega)
            clear c21
            by_cases c22 : (x10_1.length : Int) > 200
            ·rw [if_pos c22] at H
             exact absurd H (by simp)
            ·rw [if_neg c22] at H
             have c22b0 : decide (200 < (x10_1.length : Int)) = false := decide_eq_false c22
             have c22b1 : decide (200 < x10_1.length) = false := decide_eq_false (by omega)
             clear c22
             replace H := Option.bind_eq_some_iff.mp H
             obtain ⟨t607, A230, H⟩ := H
             replace H : (drawlotlaw16_OddsTogether.l0 k1 l1 (wrap64 (1 + (wrap64 (Int.tmod a0 64)))) t595 t607 (wrap64 (x12_1 + 1))) = some r := H
             have A23 := Aside0.mk A230
             clear A230
             have H' := Aside0.mk H
             clear H
             go_wp2_with (first | ((with_reducible refine gate_callee (f := 41) rfl ?_); refine goesL_ (some 63) rfl rfl Try.func41 (by kernel_rfl) rfl #[.int .i64 x12_1, .int .i64 (wrap64 (1 + (wrap64 (Int.tmod a0 64)))), .slice A1 l1.length c1] rfl (by (try simp only [List.map_toArray, List.map_cons, List.map_nil]); first | done | rfl | (simp only [List.length_drop, List.length_take]; rfl)) ?_; (with_reducible refine (odds_Lead.calls k1 x12_1 (wrap64 (1 + (wrap64 (Int.tmod a0 64)))) _ _ l1 t603 t606 _ ?side1 ?side2 A19.out).mono ?_); (case side1 => repeat (first | exact (Kd.C_below HR1.out HB.out) | (with_reducible refine Kd.C_alloc ?_ _) | (with_reducible refine Kd.C_drewN ?_ _) | (with_reducible refine Kd.C_drew ?_))); (case side2 => exact HC1.out); rintro e w24 ⟨v604, rfl, ho0, hb⟩; refine ⟨_, rfl, ?_⟩; have n0_ := Aside0.mk (Kd.R_below (by (with_reducible repeat (first | apply Kd.R_alloc | apply Kd.R_drewN | apply Kd.R_drew)); exact HO_8.out) hb); have n1_ := Aside0.mk (Kd.V_below (by (with_reducible repeat (first | apply Kd.V_alloc | apply Kd.V_drewN | apply Kd.V_drew)); exact HO_10.out) hb); have n2_ := Aside0.mk (Kd.V_lower (Kd.V_mono (ok' := fun k_ => some k_ ≠ (v597 : Value).ownBlock) ho0 (fun k_ hk_ => (Kd.fresh' (Kd.R_lt (by (with_reducible repeat (first | apply Kd.R_alloc | apply Kd.R_drewN | apply Kd.R_drew)); exact HO_8.out)) k_ hk_))) (below_size (by repeat (first | (with_reducible first | exact HB.out | apply below_alloc | apply pw_below_drewN | apply below_drew1) | exact HB.out)))); have n3_ := Aside0.mk (below_step (by repeat (first | (with_reducible first | exact HB.out | apply below_alloc | apply pw_below_drewN | apply below_drew1) | exact HB.out)) hb); clear HO_8; clear HO_10; clear HB; have HO_8 := n0_; have HO_10 := n1_; have HO605 := n2_; have HB := n3_; clear n0_ n1_ n2_ n3_; (try clear hb); (try clear hb2); (try clear hk); (try clear hi); (try clear ho0); obtain ⟨Ao25, co25, eo25⟩ := Kd.V_slice HO605.out; subst eo25; obtain ⟨Ao26, co26, eo26⟩ := Kd.V_slice HO_10.out; subst eo26) | ((with_reducible refine gate_callee (f := 46) rfl ?_); refine goesL_ (some 80) rfl rfl Try.func46 (by kernel_rfl) rfl #[.slice Ao26 x10_1.length co26, .slice Ao25 t603.length co25] rfl (by (try simp only [List.map_toArray, List.map_cons, List.map_nil]); first | done | rfl | (simp only [List.length_drop, List.length_take]; rfl)) ?_; (with_reducible refine (drawlotref10_Sum.calls k1 _ _ x10_1 _ _ t603 t607 _ ?side1 ?side2 ?side3 ?side4 A23.out).mono ?_); (case side1 => repeat (first | exact (Kd.V_reads' HO_10.out).2.2 | (with_reducible refine Kd.C_alloc ?_ _) | (with_reducible refine Kd.C_drewN ?_ _) | (with_reducible refine Kd.C_drew ?_))); (case side2 => exact (Kd.V_reads' HO_10.out).2.1); (case side3 => repeat (first | exact (Kd.V_reads' HO605.out).2.2 | (with_reducible refine Kd.C_alloc ?_ _) | (with_reducible refine Kd.C_drewN ?_ _) | (with_reducible refine Kd.C_drew ?_))); (case side4 => exact (Kd.V_reads' HO605.out).2.1); rintro e w27 ⟨v608, rfl, ho0, hb⟩; refine ⟨_, rfl, ?_⟩; have n0_ := Aside0.mk (Kd.R_below (by (with_reducible repeat (first | apply Kd.R_alloc | apply Kd.R_drewN | apply Kd.R_drew)); exact HO_8.out) hb); have n1_ := Aside0.mk (Kd.V_below (by (with_reducible repeat (first | apply Kd.V_alloc | apply Kd.V_drewN | apply Kd.V_drew)); exact HO_10.out) hb); have n2_ := Aside0.mk (Kd.V_below (by (with_reducible repeat (first | apply Kd.V_alloc | apply Kd.V_drewN | apply Kd.V_drew)); exact HO605.out) hb); have n3_ := Aside0.mk (Kd.V_lower (Kd.V_mono (ok' := fun k_ => some k_ ≠ (v597 : Value).ownBlock) ho0 (fun k_ hk_ => (Kd.fresh' (Kd.R_lt (by (with_reducible repeat (first | apply Kd.R_alloc | apply Kd.R_drewN | apply Kd.R_drew)); exact HO_8.out)) k_ hk_))) (below_size (by repeat (first | (with_reducible first | exact HB.out | apply below_alloc | apply pw_below_drewN | apply below_drew1) | exact HB.out)))); have n4_ := Aside0.mk (below_step (by repeat (first | (with_reducible first | exact HB.out | apply below_alloc | apply pw_below_drewN | apply below_drew1) | exact HB.out)) hb); clear HO_8; clear HO_10; clear HO605; clear HB; have HO_8 := n0_; have HO_10 := n1_; have HO605 := n2_; have HO609 := n3_; have HB := n4_; clear n0_ n1_ n2_ n3_ n4_; (try clear hb); (try clear hb2); (try clear hk); (try clear hi); (try clear ho0)))
             go_roundg k1
             case measure => have := HK1.out; omega
             case rel => exact ⟨(t607), (wrap64 (x12_1 + 1)), (by first | rfl | (simp; done) | (simp [*]; done)), H', ⟨by have := HK1.out; omega⟩, ⟨by (with_reducible repeat (first | apply Kd.R_alloc | apply Kd.R_drewN | apply Kd.R_drew)); exact HO_8.out⟩, ⟨by (with_reducible repeat (first | apply Kd.V_alloc | apply Kd.V_drewN | apply Kd.V_drew)); exact HO609.out⟩, ⟨by repeat (first | (with_reducible first | exact HB.out | apply below_alloc | apply pw_below_drewN | apply below_drew1) | exact HB.out)⟩⟩
          ·rw [if_neg c20] at H
           exact absurd H (by simp)
         ·rw [if_neg c18] at H
          have c18b0 : decide (x12_1 < (l1.length : Int)) = false := decide_eq_false c18
          clear c18
          replace H := Option.bind_eq_some_iff.mp H
          obtain ⟨t610, A280, H⟩ := H
          replace H : (some t610) = some r := H
          have A28 := Aside0.mk A280
          clear A280
          obtain rfl := Option.some.inj H
          obtain ⟨Ao29, co29, eo29⟩ := Kd.V_slice HO_10.out
          subst eo29
          obtain ⟨Ao30, co30, eo30⟩ := Kd.R_slice HO_8.out
          subst eo30
          go_wp2_with (first | ((with_reducible refine gate_callee (f := 40) rfl ?_); refine goesL_ (some 83) rfl rfl Try.func40 (by kernel_rfl) rfl #[.slice Ao29 x10_1.length co29, .slice Ao30 t595.length co30] rfl (by (try simp only [List.map_toArray, List.map_cons, List.map_nil]); first | done | rfl | (simp only [List.length_drop, List.length_take]; rfl)) ?_; (with_reducible refine (drawlotref10_Same.calls k1 _ _ x10_1 _ _ t595 t610 _ ?side1 ?side2 ?side3 ?side4 A28.out).mono ?_); (case side1 => repeat (first | exact (Kd.V_reads' HO_10.out).2.2 | (with_reducible refine Kd.C_alloc ?_ _) | (with_reducible refine Kd.C_drewN ?_ _) | (with_reducible refine Kd.C_drew ?_))); (case side2 => exact (Kd.V_reads' HO_10.out).2.1); (case side3 => repeat (first | exact (Kd.R_reads' HO_8.out).2.2 | (with_reducible refine Kd.C_alloc ?_ _) | (with_reducible refine Kd.C_drewN ?_ _) | (with_reducible refine Kd.C_drew ?_))); (case side4 => exact (Kd.R_reads' HO_8.out).2.1); rintro e w' ⟨rfl, ⟨nd, rfl⟩⟩; refine ⟨_, rfl, ?_⟩))
          go_ret
          exact ⟨by first | rfl | (simp [errW_none, errW_some] <;> rfl) | (simp [*, errW_none, errW_some] <;> rfl), by repeat (first | (with_reducible first | exact HB.out | apply below_alloc | apply pw_below_drewN | apply below_drew1) | exact HB.out)⟩
      ·rw [if_neg c14] at H
       exact absurd H (by simp)
     ·rw [if_neg c13] at H
      exact absurd H (by simp)
   ·replace c8 := Bool.eq_false_iff.mpr c8
    subst c8
    have H1 : (some true) = some r := by rw [if_neg (show ¬ (false = true) by decide)] at H; exact H
    clear H
    have H := H1
    clear H1
    obtain rfl := Option.some.inj H
    go_enter Try.func10, Try.ntmps10
    try simp only [List.append]
    go_wp2_with (first | ((with_reducible refine gate_callee (f := 29) rfl ?_); refine goesL_ (some 15) rfl rfl Try.func29 (by kernel_rfl) rfl #[] rfl (by (try simp only [List.map_toArray, List.map_cons, List.map_nil]); first | done | rfl | (simp only [List.length_drop, List.length_take]; rfl)) ?_; (with_reducible refine (drawlotlaw16_alive.calls k  true _ A3.out).mono ?_); rintro e w31 ⟨rfl, hb⟩; refine ⟨_, rfl, ?_⟩; have n0_ := Aside0.mk (below_step (by repeat (first | (with_reducible first | exact HB.out | apply below_alloc | apply pw_below_drewN | apply below_drew1) | exact HB.out)) hb); clear HB; have HB := n0_; clear n0_; (try clear hb); (try clear hb2); (try clear hk); (try clear hi)) | ((with_reducible refine gate_callee (f := 45) rfl ?_); refine goesL_ (some 26) rfl rfl Try.func45 (by kernel_rfl) rfl #[.slice A1 l1.length c1] rfl (by (try simp only [List.map_toArray, List.map_cons, List.map_nil]); first | done | rfl | (simp only [List.length_drop, List.length_take]; rfl)) ?_; (with_reducible refine (drawlotref09_Total.calls k _ _ l1 t593 false _ ?side1 ?side2 A7.out).mono ?_); (case side1 => repeat (first | exact (Kd.C_below HR1.out HB.out) | (with_reducible refine Kd.C_alloc ?_ _) | (with_reducible refine Kd.C_drewN ?_ _) | (with_reducible refine Kd.C_drew ?_))); (case side2 => exact HC1.out); rintro e w' ⟨rfl, ⟨nd, rfl⟩⟩; refine ⟨_, rfl, ?_⟩))
    go_ret
    exact ⟨by first | rfl | (simp [errW_none, errW_some] <;> rfl) | (simp [*, errW_none, errW_some] <;> rfl), by repeat (first | (with_reducible first | exact HB.out | apply below_alloc | apply pw_below_drewN | apply below_drew1) | exact HB.out)⟩
 ·replace c4 := Bool.eq_false_iff.mpr c4
  subst c4
  have H1 : (none) = some r := by rw [if_neg (show ¬ (false = true) by decide)] at H; exact H
  clear H
  have H := H1
  clear H1
  exact absurd H (by simp)

/-- THE ONE PURE STATEMENT of drawlotlaw16_OddsTogether: yours. -/
def drawlotlaw16_OddsTogether.Pure : Prop := ∀ (a0 : Int) (l1 : List Int), (Lit.int .u8 a0).wf = true → l1.length ≤ maxLen → l1.length * 8 ≤ 140737488351232 → (∀ x ∈ l1, (Lit.int .u64 x).wf = true) → ∃ k, drawlotlaw16_OddsTogether.f k a0 l1 = some true
theorem drawlotlaw16_OddsTogether.walk (P : drawlotlaw16_OddsTogether.Pure) (a0 : Int) (a1 : Option Addr) (len1 cap1 : Nat) (z1 : List Int) (w : World) (w0 : (Lit.int .u8 a0).wf = true) (w1 : (a1 = none ∧ len1 = 0 ∧ cap1 = 0 ∧ z1 = []) ∨ ∃ x, a1 = some x ∧ len1 ≤ cap1 ∧ cap1 ≤ maxLen ∧ z1.length = cap1 ∧ (∀ i, i < z1.length → w.cell? (x.add i) = some (.int .u64 (z1.getD i 0))) ∧ ∀ n ∈ z1, (Lit.int .u64 n).wf = true) (y1 : len1 * 8 ≤ 140737488351232) :
  Calls Try.prog 10 #[.int .u8 a0, .slice a1 len1 cap1] w fun e w' => e = .returned (.bool true) ∧ Below w.heap.size w w' := by
 obtain ⟨l1, rfl, hr1, hm1, hw1, hc1⟩ := ReadsInt.ofRowC w1
 obtain ⟨k, h⟩ := P a0 l1 w0 hm1 y1 hw1
 refine (drawlotlaw16_OddsTogether.calls k a0 _ _ l1 true w (Kd.C_of_reads (d := (0 : Int)) (h1 := fun _ => rfl) hr1) hc1 h).mono ?_
 rintro e w' ⟨rfl, hd⟩
 exact ⟨rfl, hd⟩

end Go.Proofs.Ytbafkkbbjacekaa.PO
