/- Written by xprint.py, this session's own driver, for the seat Ytbafkkbbjacekaa: contracts of Go functions, each saying that a call answers what a plain Lean function of the same name says, and, in a text named Law, the row of a law: its Go function answers true for every input. No conditions. -/
import Derived.Test.YtbafkkbbjacekaaPOx0
import Derived.Test.YtbafkkbbjacekaaPOx5
import Derived.Test.YtbafkkbbjacekaaPOx6
import Derived.Test.YtbafkkbbjacekaaPOx9
import Derived.Test.YtbafkkbbjacekaaPOx10
namespace Go.Proofs.Ytbafkkbbjacekaa.PO
open Go.RowKit Go.Proofs.YtbafkkbbjacekaaW.PrintWords Go.Proofs.YtbafkkbbjacekaaW.PrintLast Go.Proofs.YtbafkkbbjacekaaW.PrintMore
attribute [local go_sem] max2_int min2_int max_two min_two max_three min_three max_four min_four   -- for this text's walks alone
set_option linter.unusedVariables false
set_option linter.unusedSimpArgs false

/-! ### drawlotlaw16_OddsStakes: function 9 -/
def drawlotlaw16_OddsStakes.f (k : Nat) (a0 : Int) (a1 : Int) (l2 : List Int) : Option (Bool) := (drawlotlaw16_alive.f k).bind fun t566 => (if t566 = true then (if (l2.length : Int) > 300 then (some true) else ((some (([] : List Int) : List Int)).bind fun y567 => (if y567.length + l2.length < 17592186044416 then ((some (y567 ++ l2 : List Int)).bind fun y570 => ((odds_Lead.f k a0 a1 y570).bind fun bt573 => ((drawlotref16_Lead.f k a0 a1 l2).bind fun bt577 => ((odds_Pick.f k a0 a1 y570).bind fun bt581 => ((drawlotref16_Pick.f k a0 a1 l2).bind fun bt585 => ((drawlotref10_Same.f k bt573.1 bt577.1).bind fun t589 => (if t589 = true then (if bt573.2 = bt577.2 then ((drawlotref10_Same.f k bt581.1 bt585.1).bind fun t590 => (if t590 = true then (if bt581.2 = bt585.2 then ((drawlotref09_Same.f k y570 l2).bind fun t591 => (some t591)) else (none)) else (none))) else (none)) else (none)))))))) else (none)))) else (none))
theorem drawlotlaw16_OddsStakes.mono : ∀ a0 a1 a2 k, LeO (drawlotlaw16_OddsStakes.f k a0 a1 a2) (drawlotlaw16_OddsStakes.f (k + 1) a0 a1 a2) := by
 intro a0 a1 a2 k
 unfold drawlotlaw16_OddsStakes.f
 repeat' first
   | (with_reducible exact drawlotlaw16_alive.mono _)
   | (with_reducible exact drawlotref09_Same.mono _ _ _)
   | (with_reducible exact drawlotref10_Same.mono _ _ _)
   | (with_reducible exact drawlotref16_Lead.mono _ _ _ _)
   | (with_reducible exact drawlotref16_Pick.mono _ _ _ _)
   | (with_reducible exact odds_Lead.mono _ _ _ _)
   | (with_reducible exact odds_Pick.mono _ _ _ _)
   | (with_reducible exact LeO.refl _)
   | (with_reducible exact LeO.none _)
   | (with_reducible refine LeO.ite ?_ ?_)
   | (with_reducible refine LeO.bind ?_ (fun _ => ?_))
   | exact drawlotlaw16_alive.mono _
   | exact drawlotref09_Same.mono _ _ _
   | exact drawlotref10_Same.mono _ _ _
   | exact drawlotref16_Lead.mono _ _ _ _
   | exact drawlotref16_Pick.mono _ _ _ _
   | exact odds_Lead.mono _ _ _ _
   | exact odds_Pick.mono _ _ _ _
   | exact LeO.none _
   | refine LeO.ite ?_ ?_
   | refine LeO.bind ?_ (fun _ => ?_)
set_option maxHeartbeats 8000000 in
set_option maxRecDepth 100000 in
theorem drawlotlaw16_OddsStakes.calls (k : Nat) (a0 : Int) (a1 : Int) (A2 : Option Addr) (c2 : Nat) (l2 : List Int) (r : Bool) (w : World) (hr2 : Kd.C (Kd.int .u64) w A2 l2.length l2) (hc2 : l2.length ≤ c2) (h : drawlotlaw16_OddsStakes.f k a0 a1 l2 = some r) :
  Calls Try.prog 9 #[.int .i64 a0, .int .i64 a1, .slice A2 l2.length c2] w fun e w' => e = .returned (.bool r) ∧ Below w.heap.size w w' := by
 have HR2 := Aside0.mk hr2
 have HC2 := Aside0.mk hc2
 clear hr2 hc2
 have HB := Aside0.mk (Below.refl w.heap.size w)
 have H : ((drawlotlaw16_alive.f k).bind fun t566 => (if t566 = true then (if (l2.length : Int) > 300 then (some true) else ((some (([] : List Int) : List Int)).bind fun y567 => (if y567.length + l2.length < 17592186044416 then ((some (y567 ++ l2 : List Int)).bind fun y570 => ((odds_Lead.f k a0 a1 y570).bind fun bt573 => ((drawlotref16_Lead.f k a0 a1 l2).bind fun bt577 => ((odds_Pick.f k a0 a1 y570).bind fun bt581 => ((drawlotref16_Pick.f k a0 a1 l2).bind fun bt585 => ((drawlotref10_Same.f k bt573.1 bt577.1).bind fun t589 => (if t589 = true then (if bt573.2 = bt577.2 then ((drawlotref10_Same.f k bt581.1 bt585.1).bind fun t590 => (if t590 = true then (if bt581.2 = bt585.2 then ((drawlotref09_Same.f k y570 l2).bind fun t591 => (some t591)) else (none)) else (none))) else (none)) else (none)))))))) else (none)))) else (none))) = some r := h
 clear h
 replace H := Option.bind_eq_some_iff.mp H
 obtain ⟨t566, A40, H⟩ := H
 replace H : (if t566 = true then (if (l2.length : Int) > 300 then (some true) else ((some (([] : List Int) : List Int)).bind fun y567 => (if y567.length + l2.length < 17592186044416 then ((some (y567 ++ l2 : List Int)).bind fun y570 => ((odds_Lead.f k a0 a1 y570).bind fun bt573 => ((drawlotref16_Lead.f k a0 a1 l2).bind fun bt577 => ((odds_Pick.f k a0 a1 y570).bind fun bt581 => ((drawlotref16_Pick.f k a0 a1 l2).bind fun bt585 => ((drawlotref10_Same.f k bt573.1 bt577.1).bind fun t589 => (if t589 = true then (if bt573.2 = bt577.2 then ((drawlotref10_Same.f k bt581.1 bt585.1).bind fun t590 => (if t590 = true then (if bt581.2 = bt585.2 then ((drawlotref09_Same.f k y570 l2).bind fun t591 => (some t591)) else (none)) else (none))) else (none)) else (none)))))))) else (none)))) else (none)) = some r := H
 have A4 := Aside0.mk A40
 clear A40
 by_cases c5 : t566 = true
 ·subst c5
  have H1 : (if (l2.length : Int) > 300 then (some true) else ((some (([] : List Int) : List Int)).bind fun y567 => (if y567.length + l2.length < 17592186044416 then ((some (y567 ++ l2 : List Int)).bind fun y570 => ((odds_Lead.f k a0 a1 y570).bind fun bt573 => ((drawlotref16_Lead.f k a0 a1 l2).bind fun bt577 => ((odds_Pick.f k a0 a1 y570).bind fun bt581 => ((drawlotref16_Pick.f k a0 a1 l2).bind fun bt585 => ((drawlotref10_Same.f k bt573.1 bt577.1).bind fun t589 => (if t589 = true then (if bt573.2 = bt577.2 then ((drawlotref10_Same.f k bt581.1 bt585.1).bind fun t590 => (if t590 = true then (if bt581.2 = bt585.2 then ((drawlotref09_Same.f k y570 l2).bind fun t591 => (some t591)) else (none)) else (none))) else (none)) else (none)))))))) else (none)))) = some r := by rw [if_pos rfl] at H; exact H
  clear H
  have H := H1
  clear H1
  by_cases c6 : (l2.length : Int) > 300
  ·rw [if_pos c6] at H
   have c6b0 : decide (300 < (l2.length : Int)) = true := decide_eq_true c6
   have c6b1 : decide (300 < l2.length) = true := decide_eq_true (by omega)
   clear c6
   obtain rfl := Option.some.inj H
   go_enter Try.func9, Try.ntmps9
   try simp only [List.append]
   go_wp2_with (first | ((with_reducible refine gate_callee (f := 29) rfl ?_); refine goesL_ (some 16) rfl rfl Try.func29 (by kernel_rfl) rfl #[] rfl (by (try simp only [List.map_toArray, List.map_cons, List.map_nil]); first | done | rfl | (simp only [List.length_drop, List.length_take]; rfl)) ?_; (with_reducible refine (drawlotlaw16_alive.calls k  true _ A4.out).mono ?_); rintro e w7 ⟨rfl, hb⟩; refine ⟨_, rfl, ?_⟩; have n0_ := Aside0.mk (below_step (by repeat (first | (with_reducible first | exact HB.out | apply below_alloc | apply pw_below_drewN | apply below_drew1) | exact HB.out)) hb); clear HB; have HB := n0_; clear n0_; (try clear hb); (try clear hb2); (try clear hk); (try clear hi)))
   go_ret
   exact ⟨by first | rfl | (simp [errW_none, errW_some] <;> rfl) | (simp [*, errW_none, errW_some] <;> rfl), by repeat (first | (with_reducible first | exact HB.out | apply below_alloc | apply pw_below_drewN | apply below_drew1) | exact HB.out)⟩
  ·rw [if_neg c6] at H
   have c6b0 : decide (300 < (l2.length : Int)) = false := decide_eq_false c6
   have c6b1 : decide (300 < l2.length) = false := decide_eq_false (by omega)
   clear c6
   obtain ⟨y567, hy567⟩ : ∃ y_ : List Int, y_ = (([] : List Int)) := ⟨_, rfl⟩
   replace H : (if y567.length + l2.length < 17592186044416 then ((some (y567 ++ l2 : List Int)).bind fun y570 => ((odds_Lead.f k a0 a1 y570).bind fun bt573 => ((drawlotref16_Lead.f k a0 a1 l2).bind fun bt577 => ((odds_Pick.f k a0 a1 y570).bind fun bt581 => ((drawlotref16_Pick.f k a0 a1 l2).bind fun bt585 => ((drawlotref10_Same.f k bt573.1 bt577.1).bind fun t589 => (if t589 = true then (if bt573.2 = bt577.2 then ((drawlotref10_Same.f k bt581.1 bt585.1).bind fun t590 => (if t590 = true then (if bt581.2 = bt585.2 then ((drawlotref09_Same.f k y570 l2).bind fun t591 => (some t591)) else (none)) else (none))) else (none)) else (none)))))))) else (none)) = some r := by first | (rw [hy567]; with_reducible exact H) | (have H2_ := (Option.bind_some _ _).symm.trans H; rw [hy567]; with_reducible exact H2_) | (have H2_ := (Option.bind_some _ _).symm.trans H; with_reducible exact H2_) | with_reducible exact H | (rw [hy567]; exact H) | exact H
   have Ny567 := Aside0.mk hy567
   clear hy567
   by_cases c8 : y567.length + l2.length < 17592186044416
   ·rw [if_pos c8] at H
    have LMc8 := Aside0.mk c8
    clear c8
    obtain ⟨y570, hy570⟩ : ∃ y_ : List Int, y_ = (y567 ++ l2) := ⟨_, rfl⟩
    replace H : ((odds_Lead.f k a0 a1 y570).bind fun bt573 => ((drawlotref16_Lead.f k a0 a1 l2).bind fun bt577 => ((odds_Pick.f k a0 a1 y570).bind fun bt581 => ((drawlotref16_Pick.f k a0 a1 l2).bind fun bt585 => ((drawlotref10_Same.f k bt573.1 bt577.1).bind fun t589 => (if t589 = true then (if bt573.2 = bt577.2 then ((drawlotref10_Same.f k bt581.1 bt585.1).bind fun t590 => (if t590 = true then (if bt581.2 = bt585.2 then ((drawlotref09_Same.f k y570 l2).bind fun t591 => (some t591)) else (none)) else (none))) else (none)) else (none))))))) = some r := by first | (rw [hy570]; with_reducible exact H) | (have H2_ := (Option.bind_some _ _).symm.trans H; rw [hy570]; with_reducible exact H2_) | (have H2_ := (Option.bind_some _ _).symm.trans H; with_reducible exact H2_) | with_reducible exact H | (rw [hy570]; exact H) | exact H
    have Ny570 := Aside0.mk hy570
    clear hy570
    replace H := Option.bind_eq_some_iff.mp H
    obtain ⟨⟨t573, t576⟩, A90, H⟩ := H
    replace H : ((drawlotref16_Lead.f k a0 a1 l2).bind fun bt577 => ((odds_Pick.f k a0 a1 y570).bind fun bt581 => ((drawlotref16_Pick.f k a0 a1 l2).bind fun bt585 => ((drawlotref10_Same.f k t573 bt577.1).bind fun t589 => (if t589 = true then (if t576 = bt577.2 then ((drawlotref10_Same.f k bt581.1 bt585.1).bind fun t590 => (if t590 = true then (if bt581.2 = bt585.2 then ((drawlotref09_Same.f k y570 l2).bind fun t591 => (some t591)) else (none)) else (none))) else (none)) else (none)))))) = some r := H
    have A9 := Aside0.mk A90
    clear A90
    replace H := Option.bind_eq_some_iff.mp H
    obtain ⟨⟨t577, t580⟩, A100, H⟩ := H
    replace H : ((odds_Pick.f k a0 a1 y570).bind fun bt581 => ((drawlotref16_Pick.f k a0 a1 l2).bind fun bt585 => ((drawlotref10_Same.f k t573 t577).bind fun t589 => (if t589 = true then (if t576 = t580 then ((drawlotref10_Same.f k bt581.1 bt585.1).bind fun t590 => (if t590 = true then (if bt581.2 = bt585.2 then ((drawlotref09_Same.f k y570 l2).bind fun t591 => (some t591)) else (none)) else (none))) else (none)) else (none))))) = some r := H
    have A10 := Aside0.mk A100
    clear A100
    replace H := Option.bind_eq_some_iff.mp H
    obtain ⟨⟨t581, t584⟩, A110, H⟩ := H
    replace H : ((drawlotref16_Pick.f k a0 a1 l2).bind fun bt585 => ((drawlotref10_Same.f k t573 t577).bind fun t589 => (if t589 = true then (if t576 = t580 then ((drawlotref10_Same.f k t581 bt585.1).bind fun t590 => (if t590 = true then (if t584 = bt585.2 then ((drawlotref09_Same.f k y570 l2).bind fun t591 => (some t591)) else (none)) else (none))) else (none)) else (none)))) = some r := H
    have A11 := Aside0.mk A110
    clear A110
    replace H := Option.bind_eq_some_iff.mp H
    obtain ⟨⟨t585, t588⟩, A120, H⟩ := H
    replace H : ((drawlotref10_Same.f k t573 t577).bind fun t589 => (if t589 = true then (if t576 = t580 then ((drawlotref10_Same.f k t581 t585).bind fun t590 => (if t590 = true then (if t584 = t588 then ((drawlotref09_Same.f k y570 l2).bind fun t591 => (some t591)) else (none)) else (none))) else (none)) else (none))) = some r := H
    have A12 := Aside0.mk A120
    clear A120
    replace H := Option.bind_eq_some_iff.mp H
    obtain ⟨t589, A130, H⟩ := H
    replace H : (if t589 = true then (if t576 = t580 then ((drawlotref10_Same.f k t581 t585).bind fun t590 => (if t590 = true then (if t584 = t588 then ((drawlotref09_Same.f k y570 l2).bind fun t591 => (some t591)) else (none)) else (none))) else (none)) else (none)) = some r := H
    have A13 := Aside0.mk A130
    clear A130
    by_cases c14 : t589 = true
    ·subst c14
     have H1 : (if t576 = t580 then ((drawlotref10_Same.f k t581 t585).bind fun t590 => (if t590 = true then (if t584 = t588 then ((drawlotref09_Same.f k y570 l2).bind fun t591 => (some t591)) else (none)) else (none))) else (none)) = some r := by rw [if_pos rfl] at H; exact H
     clear H
     have H := H1
     clear H1
     by_cases c15 : t576 = t580
     ·rw [if_pos c15] at H
      have c15b0 : (t576 == t580) = true := beq_iff_eq.mpr c15
      have c15b1 : (t576 != t580) = false := bne_eq_false_iff_eq.mpr c15
      clear c15
      replace H := Option.bind_eq_some_iff.mp H
      obtain ⟨t590, A160, H⟩ := H
      replace H : (if t590 = true then (if t584 = t588 then ((drawlotref09_Same.f k y570 l2).bind fun t591 => (some t591)) else (none)) else (none)) = some r := H
      have A16 := Aside0.mk A160
      clear A160
      by_cases c17 : t590 = true
      ·subst c17
       have H1 : (if t584 = t588 then ((drawlotref09_Same.f k y570 l2).bind fun t591 => (some t591)) else (none)) = some r := by rw [if_pos rfl] at H; exact H
       clear H
       have H := H1
       clear H1
       by_cases c18 : t584 = t588
       ·rw [if_pos c18] at H
        have c18b0 : (t584 == t588) = true := beq_iff_eq.mpr c18
        have c18b1 : (t584 != t588) = false := bne_eq_false_iff_eq.mpr c18
        clear c18
        replace H := Option.bind_eq_some_iff.mp H
        obtain ⟨t591, A190, H⟩ := H
        replace H : (some t591) = some r := H
        have A19 := Aside0.mk A190
        clear A190
        obtain rfl := Option.some.inj H
        go_enter Try.func9, Try.ntmps9
        try simp only [List.append]
        go_wp2_with (first | ((with_reducible refine gate_callee (f := 29) rfl ?_); refine goesL_ (some 16) rfl rfl Try.func29 (by kernel_rfl) rfl #[] rfl (by (try simp only [List.map_toArray, List.map_cons, List.map_nil]); first | done | rfl | (simp only [List.length_drop, List.length_take]; rfl)) ?_; (with_reducible refine (drawlotlaw16_alive.calls k  true _ A4.out).mono ?_); rintro e w20 ⟨rfl, hb⟩; refine ⟨_, rfl, ?_⟩; have n0_ := Aside0.mk (below_step (by repeat (first | (with_reducible first | exact HB.out | apply below_alloc | apply pw_below_drewN | apply below_drew1) | exact HB.out)) hb); clear HB; have HB := n0_; clear n0_; (try clear hb); (try clear hb2); (try clear hk); (try clear hi)) | ((with_reducible refine gate_dst (N := 21) rfl ?_); refine Kd.R_lit (Kd.int .u64) _ 24 ?hg (N := 21) ?hd (xs := ([] : List Int)) (inner := []) (ok := fun _ => True) (okp := fun _ => True) ?hr ?hp (fun _ hk => hk) trivial (Below.refl _ _) (Nat.le_refl _) (by simp) ?_; (case hd => rfl); (case hg => rfl); (case hr => first | (go_simp; done) | (go_simp; rfl)); (case hp => exact (Reps.none _ _)); intro v568 w21 ho22 hb hg_ hnew_; clear hg_ hnew_; (first | rw [← Ny567.out] at ho22 | (simp only [Int.reduceToNat] at ho22; rw [← Ny567.out] at ho22)); have n0_ := Aside0.mk (Kd.R_lower ho22 (below_size (by repeat (first | (with_reducible first | exact HB.out | apply below_alloc | apply pw_below_drewN | apply below_drew1) | exact HB.out)))); have n1_ := Aside0.mk (below_step (by repeat (first | (with_reducible first | exact HB.out | apply below_alloc | apply pw_below_drewN | apply below_drew1) | exact HB.out)) hb); clear HB; have HO569 := n0_; have HB := n1_; clear n0_ n1_; clear hb ho22) | ((with_reducible refine gate_builtin (b := .append) (xs := #[.tmp 21, .tmp 22]) rfl ?_); at_builtin; refine Kd.R_append_rows (Kd.int .u64) (w0 := w) w.heap.size rfl (.tmp 21) (.tmp 22) 22 24 (.int .u64 0) 8 rfl Try.underlying22 info24 rfl (by decide) (by omega) v568 y567 l2 _ _ _ (fun _ => True) (fun _ => False) rfl rfl ?aO ?aR (fun _ _ h => h) (fun _ h => h.elim) ?aF ?aB ?aS ?aL ?_; (case aR => repeat (first | exact (Kd.C_below HR2.out HB.out) | (with_reducible refine Kd.C_alloc ?_ _) | (with_reducible refine Kd.C_drewN ?_ _) | (with_reducible refine Kd.C_drew ?_))); (case aB => exact (by repeat (first | (with_reducible first | exact HB.out | apply below_alloc | apply pw_below_drewN | apply below_drew1) | exact HB.out))); (case aF => exact (fun _ _ => trivial)); (case aO => exact (by (with_reducible repeat (first | apply Kd.R_alloc | apply Kd.R_drewN | apply Kd.R_drew)); exact HO569.out)); (case aS => exact (below_size (by repeat (first | (with_reducible first | exact HB.out | apply below_alloc | apply pw_below_drewN | apply below_drew1) | exact HB.out)))); (case aL => have := LMc8.out; omega); intro v571 w23 ho hb hg hat; rw [← Ny570.out] at ho; have n0_ := Aside0.mk (hb); have n1_ := Aside0.mk (ho); clear HB; clear HO569; have HB := n0_; have HO572 := n1_; clear n0_ n1_; clear ho hb hg hat; obtain ⟨Ao24, co24, eo24⟩ := Kd.R_slice HO572.out; subst eo24) | ((with_reducible refine gate_callee (f := 41) rfl ?_); refine goesL_ (some 28) rfl rfl Try.func41 (by kernel_rfl) rfl #[.int .i64 a0, .int .i64 a1, .slice Ao24 y570.length co24] rfl (by (try simp only [List.map_toArray, List.map_cons, List.map_nil]); first | done | rfl | (simp only [List.length_drop, List.length_take]; rfl)) ?_; (with_reducible refine (odds_Lead.calls k a0 a1 _ _ y570 t573 t576 _ ?side1 ?side2 A9.out).mono ?_); (case side1 => repeat (first | exact (Kd.R_reads' HO572.out).2.2 | (with_reducible refine Kd.C_alloc ?_ _) | (with_reducible refine Kd.C_drewN ?_ _) | (with_reducible refine Kd.C_drew ?_))); (case side2 => exact (Kd.R_reads' HO572.out).2.1); rintro e w25 ⟨v574, rfl, ho0, hb⟩; refine ⟨_, rfl, ?_⟩; have n0_ := Aside0.mk (Kd.R_below (by (with_reducible repeat (first | apply Kd.R_alloc | apply Kd.R_drewN | apply Kd.R_drew)); exact HO572.out) hb); have n1_ := Aside0.mk (Kd.V_lower (Kd.V_mono (ok' := fun k_ => some k_ ≠ (.slice Ao24 y570.length co24 : Value).ownBlock) ho0 (fun k_ hk_ => (Kd.fresh' (Kd.R_lt (by (with_reducible repeat (first | apply Kd.R_alloc | apply Kd.R_drewN | apply Kd.R_drew)); exact HO572.out)) k_ hk_))) (below_size (by repeat (first | (with_reducible first | exact HB.out | apply below_alloc | apply pw_below_drewN | apply below_drew1) | exact HB.out)))); have n2_ := Aside0.mk (below_step (by repeat (first | (with_reducible first | exact HB.out | apply below_alloc | apply pw_below_drewN | apply below_drew1) | exact HB.out)) hb); clear HO572; clear HB; have HO572 := n0_; have HO575 := n1_; have HB := n2_; clear n0_ n1_ n2_; (try clear hb); (try clear hb2); (try clear hk); (try clear hi); (try clear ho0)) | ((with_reducible refine gate_callee (f := 42) rfl ?_); refine goesL_ (some 35) rfl rfl Try.func42 (by kernel_rfl) rfl #[.int .i64 a0, .int .i64 a1, .slice A2 l2.length c2] rfl (by (try simp only [List.map_toArray, List.map_cons, List.map_nil]); first | done | rfl | (simp only [List.length_drop, List.length_take]; rfl)) ?_; (with_reducible refine (drawlotref16_Lead.calls k a0 a1 _ _ l2 t577 t580 _ ?side1 ?side2 A10.out).mono ?_); (case side1 => repeat (first | exact (Kd.C_below HR2.out HB.out) | (with_reducible refine Kd.C_alloc ?_ _) | (with_reducible refine Kd.C_drewN ?_ _) | (with_reducible refine Kd.C_drew ?_))); (case side2 => exact HC2.out); rintro e w26 ⟨v578, rfl, ho0, hb⟩; refine ⟨_, rfl, ?_⟩; have n0_ := Aside0.mk (Kd.R_below (by (with_reducible repeat (first | apply Kd.R_alloc | apply Kd.R_drewN | apply Kd.R_drew)); exact HO572.out) hb); have n1_ := Aside0.mk (Kd.V_below (by (with_reducible repeat (first | apply Kd.V_alloc | apply Kd.V_drewN | apply Kd.V_drew)); exact HO575.out) hb); have n2_ := Aside0.mk (Kd.V_lower (Kd.V_mono (ok' := fun k_ => some k_ ≠ (.slice Ao24 y570.length co24 : Value).ownBlock) ho0 (fun k_ hk_ => (Kd.fresh' (Kd.R_lt (by (with_reducible repeat (first | apply Kd.R_alloc | apply Kd.R_drewN | apply Kd.R_drew)); exact HO572.out)) k_ hk_))) (below_size (by repeat (first | (with_reducible first | exact HB.out | apply below_alloc | apply pw_below_drewN | apply below_drew1) | exact HB.out)))); have n3_ := Aside0.mk (below_step (by repeat (first | (with_reducible first | exact HB.out | apply below_alloc | apply pw_below_drewN | apply below_drew1) | exact HB.out)) hb); clear HO572; clear HO575; clear HB; have HO572 := n0_; have HO575 := n1_; have HO579 := n2_; have HB := n3_; clear n0_ n1_ n2_ n3_; (try clear hb); (try clear hb2); (try clear hk); (try clear hi); (try clear ho0)) | ((with_reducible refine gate_callee (f := 43) rfl ?_); refine goesL_ (some 42) rfl rfl Try.func43 (by kernel_rfl) rfl #[.int .i64 a0, .int .i64 a1, .slice Ao24 y570.length co24] rfl (by (try simp only [List.map_toArray, List.map_cons, List.map_nil]); first | done | rfl | (simp only [List.length_drop, List.length_take]; rfl)) ?_; (with_reducible refine (odds_Pick.calls k a0 a1 _ _ y570 t581 t584 _ ?side1 ?side2 A11.out).mono ?_); (case side1 => repeat (first | exact (Kd.R_reads' HO572.out).2.2 | (with_reducible refine Kd.C_alloc ?_ _) | (with_reducible refine Kd.C_drewN ?_ _) | (with_reducible refine Kd.C_drew ?_))); (case side2 => exact (Kd.R_reads' HO572.out).2.1); rintro e w27 ⟨v582, rfl, ho0, hb⟩; refine ⟨_, rfl, ?_⟩; have n0_ := Aside0.mk (Kd.R_below (by (with_reducible repeat (first | apply Kd.R_alloc | apply Kd.R_drewN | apply Kd.R_drew)); exact HO572.out) hb); have n1_ := Aside0.mk (Kd.V_below (by (with_reducible repeat (first | apply Kd.V_alloc | apply Kd.V_drewN | apply Kd.V_drew)); exact HO575.out) hb); have n2_ := Aside0.mk (Kd.V_below (by (with_reducible repeat (first | apply Kd.V_alloc | apply Kd.V_drewN | apply Kd.V_drew)); exact HO579.out) hb); have n3_ := Aside0.mk (Kd.V_lower (Kd.V_mono (ok' := fun k_ => some k_ ≠ (.slice Ao24 y570.length co24 : Value).ownBlock) ho0 (fun k_ hk_ => (Kd.fresh' (Kd.R_lt (by (with_reducible repeat (first | apply Kd.R_alloc | apply Kd.R_drewN | apply Kd.R_drew)); exact HO572.out)) k_ hk_))) (below_size (by repeat (first | (with_reducible first | exact HB.out | apply below_alloc | apply pw_below_drewN | apply below_drew1) | exact HB.out)))); have n4_ := Aside0.mk (below_step (by repeat (first | (with_reducible first | exact HB.out | apply below_alloc | apply pw_below_drewN | apply below_drew1) | exact HB.out)) hb); clear HO572; clear HO575; clear HO579; clear HB; have HO572 := n0_; have HO575 := n1_; have HO579 := n2_; have HO583 := n3_; have HB := n4_; clear n0_ n1_ n2_ n3_ n4_; (try clear hb); (try clear hb2); (try clear hk); (try clear hi); (try clear ho0)) | ((with_reducible refine gate_callee (f := 44) rfl ?_); refine goesL_ (some 49) rfl rfl Try.func44 (by kernel_rfl) rfl #[.int .i64 a0, .int .i64 a1, .slice A2 l2.length c2] rfl (by (try simp only [List.map_toArray, List.map_cons, List.map_nil]); first | done | rfl | (simp only [List.length_drop, List.length_take]; rfl)) ?_; (with_reducible refine (drawlotref16_Pick.calls k a0 a1 _ _ l2 t585 t588 _ ?side1 ?side2 A12.out).mono ?_); (case side1 => repeat (first | exact (Kd.C_below HR2.out HB.out) | (with_reducible refine Kd.C_alloc ?_ _) | (with_reducible refine Kd.C_drewN ?_ _) | (with_reducible refine Kd.C_drew ?_))); (case side2 => exact HC2.out); rintro e w28 ⟨v586, rfl, ho0, hb⟩; refine ⟨_, rfl, ?_⟩; have n0_ := Aside0.mk (Kd.R_below (by (with_reducible repeat (first | apply Kd.R_alloc | apply Kd.R_drewN | apply Kd.R_drew)); exact HO572.out) hb); have n1_ := Aside0.mk (Kd.V_below (by (with_reducible repeat (first | apply Kd.V_alloc | apply Kd.V_drewN | apply Kd.V_drew)); exact HO575.out) hb); have n2_ := Aside0.mk (Kd.V_below (by (with_reducible repeat (first | apply Kd.V_alloc | apply Kd.V_drewN | apply Kd.V_drew)); exact HO579.out) hb); have n3_ := Aside0.mk (Kd.V_below (by (with_reducible repeat (first | apply Kd.V_alloc | apply Kd.V_drewN | apply Kd.V_drew)); exact HO583.out) hb); have n4_ := Aside0.mk (Kd.V_lower (Kd.V_mono (ok' := fun k_ => some k_ ≠ (.slice Ao24 y570.length co24 : Value).ownBlock) ho0 (fun k_ hk_ => (Kd.fresh' (Kd.R_lt (by (with_reducible repeat (first | apply Kd.R_alloc | apply Kd.R_drewN | apply Kd.R_drew)); exact HO572.out)) k_ hk_))) (below_size (by repeat (first | (with_reducible first | exact HB.out | apply below_alloc | apply pw_below_drewN | apply below_drew1) | exact HB.out)))); have n5_ := Aside0.mk (below_step (by repeat (first | (with_reducible first | exact HB.out | apply below_alloc | apply pw_below_drewN | apply below_drew1) | exact HB.out)) hb); clear HO572; clear HO575; clear HO579; clear HO583; clear HB; have HO572 := n0_; have HO575 := n1_; have HO579 := n2_; have HO583 := n3_; have HO587 := n4_; have HB := n5_; clear n0_ n1_ n2_ n3_ n4_ n5_; (try clear hb); (try clear hb2); (try clear hk); (try clear hi); (try clear ho0); obtain ⟨Ao29, co29, eo29⟩ := Kd.V_slice HO575.out; subst eo29; obtain ⟨Ao30, co30, eo30⟩ := Kd.V_slice HO579.out; subst eo30) | ((with_reducible refine gate_callee (f := 40) rfl ?_); refine goesL_ (some 54) rfl rfl Try.func40 (by kernel_rfl) rfl #[.slice Ao29 t573.length co29, .slice Ao30 t577.length co30] rfl (by (try simp only [List.map_toArray, List.map_cons, List.map_nil]); first | done | rfl | (simp only [List.length_drop, List.length_take]; rfl)) ?_; (with_reducible refine (drawlotref10_Same.calls k _ _ t573 _ _ t577 true _ ?side1 ?side2 ?side3 ?side4 A13.out).mono ?_); (case side1 => repeat (first | exact (Kd.V_reads' HO575.out).2.2 | (with_reducible refine Kd.C_alloc ?_ _) | (with_reducible refine Kd.C_drewN ?_ _) | (with_reducible refine Kd.C_drew ?_))); (case side2 => exact (Kd.V_reads' HO575.out).2.1); (case side3 => repeat (first | exact (Kd.V_reads' HO579.out).2.2 | (with_reducible refine Kd.C_alloc ?_ _) | (with_reducible refine Kd.C_drewN ?_ _) | (with_reducible refine Kd.C_drew ?_))); (case side4 => exact (Kd.V_reads' HO579.out).2.1); rintro e w' ⟨rfl, ⟨nd, rfl⟩⟩; refine ⟨_, rfl, ?_⟩; obtain ⟨Ao31, co31, eo31⟩ := Kd.V_slice HO583.out; subst eo31; obtain ⟨Ao32, co32, eo32⟩ := Kd.V_slice HO587.out; subst eo32) | (go_at_call 40; (with_reducible refine (drawlotref10_Same.calls k _ _ t581 _ _ t585 true _ ?side1 ?side2 ?side3 ?side4 A16.out).mono ?_); (case side1 => repeat (first | exact (Kd.V_reads' HO583.out).2.2 | (with_reducible refine Kd.C_alloc ?_ _) | (with_reducible refine Kd.C_drewN ?_ _) | (with_reducible refine Kd.C_drew ?_))); (case side2 => exact (Kd.V_reads' HO583.out).2.1); (case side3 => repeat (first | exact (Kd.V_reads' HO587.out).2.2 | (with_reducible refine Kd.C_alloc ?_ _) | (with_reducible refine Kd.C_drewN ?_ _) | (with_reducible refine Kd.C_drew ?_))); (case side4 => exact (Kd.V_reads' HO587.out).2.1); rintro e w' ⟨rfl, ⟨nd, rfl⟩⟩) | (go_at_call 17; (with_reducible refine (drawlotref09_Same.calls k _ _ y570 _ _ l2 t591 _ ?side1 ?side2 ?side3 ?side4 A19.out).mono ?_); (case side1 => repeat (first | exact (Kd.R_reads' HO572.out).2.2 | (with_reducible refine Kd.C_alloc ?_ _) | (with_reducible refine Kd.C_drewN ?_ _) | (with_reducible refine Kd.C_drew ?_))); (case side2 => exact (Kd.R_reads' HO572.out).2.1); (case side3 => repeat (first | exact (Kd.C_below HR2.out (by repeat (first | (with_reducible first | exact HB.out | apply below_alloc | apply pw_below_drewN | apply below_drew1) | exact HB.out))) | (with_reducible refine Kd.C_alloc ?_ _) | (with_reducible refine Kd.C_drewN ?_ _) | (with_reducible refine Kd.C_drew ?_))); (case side4 => exact HC2.out); rintro e w' ⟨rfl, ⟨nd, rfl⟩⟩))
        go_ret
        exact ⟨by first | rfl | (simp [errW_none, errW_some] <;> rfl) | (simp [*, errW_none, errW_some] <;> rfl), by repeat (first | (with_reducible first | exact HB.out | apply below_alloc | apply pw_below_drewN | apply below_drew1) | exact HB.out)⟩
       ·rw [if_neg c18] at H
        exact absurd H (by simp)
      ·replace c17 := Bool.eq_false_iff.mpr c17
       subst c17
       have H1 : (none) = some r := by rw [if_neg (show ¬ (false = true) by decide)] at H; exact H
       clear H
       have H := H1
       clear H1
       exact absurd H (by simp)
     ·rw [if_neg c15] at H
      exact absurd H (by simp)
    ·replace c14 := Bool.eq_false_iff.mpr c14
     subst c14
     have H1 : (none) = some r := by rw [if_neg (show ¬ (false = true) by decide)] at H; exact H
     clear H
     have H := H1
     clear H1
     exact absurd H (by simp)
   ·rw [if_neg c8] at H
    exact absurd H (by simp)
 ·replace c5 := Bool.eq_false_iff.mpr c5
  subst c5
  have H1 : (none) = some r := by rw [if_neg (show ¬ (false = true) by decide)] at H; exact H
  clear H
  have H := H1
  clear H1
  exact absurd H (by simp)

/-- THE ONE PURE STATEMENT of drawlotlaw16_OddsStakes: yours. -/
def drawlotlaw16_OddsStakes.Pure : Prop := ∀ (a0 : Int) (a1 : Int) (l2 : List Int), (Lit.int .i64 a0).wf = true → (Lit.int .i64 a1).wf = true → l2.length ≤ maxLen → l2.length * 8 ≤ 140737488351232 → (∀ x ∈ l2, (Lit.int .u64 x).wf = true) → ∃ k, drawlotlaw16_OddsStakes.f k a0 a1 l2 = some true
theorem drawlotlaw16_OddsStakes.walk (P : drawlotlaw16_OddsStakes.Pure) (a0 : Int) (a1 : Int) (a2 : Option Addr) (len2 cap2 : Nat) (z2 : List Int) (w : World) (w0 : (Lit.int .i64 a0).wf = true) (w1 : (Lit.int .i64 a1).wf = true) (w2 : (a2 = none ∧ len2 = 0 ∧ cap2 = 0 ∧ z2 = []) ∨ ∃ x, a2 = some x ∧ len2 ≤ cap2 ∧ cap2 ≤ maxLen ∧ z2.length = cap2 ∧ (∀ i, i < z2.length → w.cell? (x.add i) = some (.int .u64 (z2.getD i 0))) ∧ ∀ n ∈ z2, (Lit.int .u64 n).wf = true) (y2 : len2 * 8 ≤ 140737488351232) :
  Calls Try.prog 9 #[.int .i64 a0, .int .i64 a1, .slice a2 len2 cap2] w fun e w' => e = .returned (.bool true) ∧ Below w.heap.size w w' := by
 obtain ⟨l2, rfl, hr2, hm2, hw2, hc2⟩ := ReadsInt.ofRowC w2
 obtain ⟨k, h⟩ := P a0 a1 l2 w0 w1 hm2 y2 hw2
 refine (drawlotlaw16_OddsStakes.calls k a0 a1 _ _ l2 true w (Kd.C_of_reads (d := (0 : Int)) (h1 := fun _ => rfl) hr2) hc2 h).mono ?_
 rintro e w' ⟨rfl, hd⟩
 exact ⟨rfl, hd⟩

end Go.Proofs.Ytbafkkbbjacekaa.PO
