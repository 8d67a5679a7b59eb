/- Written by xprint.py, this session's own driver, for the seat Ytoaeedepfmfkkaa: contracts of Go functions, each saying that a call answers what a plain Lean function of the same name says, and, in a text named Law, the row of a law: its Go function answers true for every input. No conditions. -/
import Derived.Test.YtoaeedepfmfkkaaPBx0
import Derived.Test.YtoaeedepfmfkkaaPBx3
import Derived.Test.YtoaeedepfmfkkaaPBx4
import Derived.Test.YtoaeedepfmfkkaaPBx8
import Derived.Test.YtoaeedepfmfkkaaPBx9
namespace Go.Proofs.Ytoaeedepfmfkkaa.PB
open Go.RowKit Go.Proofs.YtoaeedepfmfkkaaW.PrintWords Go.Proofs.YtoaeedepfmfkkaaW.PrintLast Go.Proofs.YtoaeedepfmfkkaaW.PrintMore
attribute [local go_sem] max2_int min2_int max_two min_two max_three min_three max_four min_four   -- for this text's walks alone
set_option linter.unusedVariables false
set_option linter.unusedSimpArgs false

/-! ### drawlotlaw22_BookTakes: function 4 -/
def drawlotlaw22_BookTakes.f (k : Nat) (l0 : List (S27)) (a1 : Int) (a2 : Int) : Option (Bool) := (drawlotlaw22_alive.f k).bind fun t376 => (if t376 = true then (if (l0.length : Int) > 60 then (some true) else ((some (([] : List (S27)) : List (S27))).bind fun y377 => (if y377.length + l0.length < 2932031007402 then ((some (y377 ++ l0 : List (S27))).bind fun y380 => ((book_Withdraw.f k y380 a1 a2).bind fun bt383 => ((drawlotref22_Withdraw.f k l0 a1 a2).bind fun bt388 => ((book_Slash.f k y380 a1 a2).bind fun bt393 => ((drawlotref22_Slash.f k l0 a1 a2).bind fun bt398 => ((drawlotref22_Same.f k bt383.1 bt388.1).bind fun t403 => (if t403 = true then (if bt383.2.1 = bt388.2.1 then (if bt383.2.2 = bt388.2.2 then ((drawlotref22_Same.f k bt393.1 bt398.1).bind fun t404 => (if t404 = true then (if bt393.2.1 = bt398.2.1 then (if bt393.2.2 = bt398.2.2 then ((drawlotref22_Same.f k y380 l0).bind fun t405 => (some t405)) else (none)) else (none)) else (none))) else (none)) else (none)) else (none)))))))) else (none)))) else (none))
theorem drawlotlaw22_BookTakes.mono : ∀ a0 a1 a2 k, LeO (drawlotlaw22_BookTakes.f k a0 a1 a2) (drawlotlaw22_BookTakes.f (k + 1) a0 a1 a2) := by
 intro a0 a1 a2 k
 unfold drawlotlaw22_BookTakes.f
 repeat' first
   | (with_reducible exact book_Slash.mono _ _ _ _)
   | (with_reducible exact book_Withdraw.mono _ _ _ _)
   | (with_reducible exact drawlotlaw22_alive.mono _)
   | (with_reducible exact drawlotref22_Same.mono _ _ _)
   | (with_reducible exact drawlotref22_Slash.mono _ _ _ _)
   | (with_reducible exact drawlotref22_Withdraw.mono _ _ _ _)
   | (with_reducible exact LeO.refl _)
   | (with_reducible exact LeO.none _)
   | (with_reducible refine LeO.ite ?_ ?_)
   | (with_reducible refine LeO.bind ?_ (fun _ => ?_))
   | exact book_Slash.mono _ _ _ _
   | exact book_Withdraw.mono _ _ _ _
   | exact drawlotlaw22_alive.mono _
   | exact drawlotref22_Same.mono _ _ _
   | exact drawlotref22_Slash.mono _ _ _ _
   | exact drawlotref22_Withdraw.mono _ _ _ _
   | exact LeO.none _
   | refine LeO.ite ?_ ?_
   | refine LeO.bind ?_ (fun _ => ?_)
set_option maxHeartbeats 8000000 in
set_option maxRecDepth 100000 in
theorem drawlotlaw22_BookTakes.calls (k : Nat) (A0 : Option Addr) (c0 : Nat) (l0 : List (S27)) (a1 : Int) (a2 : Int) (r : Bool) (w : World) (hr0 : Kd.C k27 w A0 l0.length l0) (hc0 : l0.length ≤ c0) (h : drawlotlaw22_BookTakes.f k l0 a1 a2 = some r) :
  Calls Try.prog 4 #[.slice A0 l0.length c0, .int .i64 a1, .int .u64 a2] w fun e w' => e = .returned (.bool r) ∧ Below w.heap.size w w' := by
 have HR0 := Aside0.mk hr0
 have HC0 := Aside0.mk hc0
 clear hr0 hc0
 have HB := Aside0.mk (Below.refl w.heap.size w)
 have H : ((drawlotlaw22_alive.f k).bind fun t376 => (if t376 = true then (if (l0.length : Int) > 60 then (some true) else ((some (([] : List (S27)) : List (S27))).bind fun y377 => (if y377.length + l0.length < 2932031007402 then ((some (y377 ++ l0 : List (S27))).bind fun y380 => ((book_Withdraw.f k y380 a1 a2).bind fun bt383 => ((drawlotref22_Withdraw.f k l0 a1 a2).bind fun bt388 => ((book_Slash.f k y380 a1 a2).bind fun bt393 => ((drawlotref22_Slash.f k l0 a1 a2).bind fun bt398 => ((drawlotref22_Same.f k bt383.1 bt388.1).bind fun t403 => (if t403 = true then (if bt383.2.1 = bt388.2.1 then (if bt383.2.2 = bt388.2.2 then ((drawlotref22_Same.f k bt393.1 bt398.1).bind fun t404 => (if t404 = true then (if bt393.2.1 = bt398.2.1 then (if bt393.2.2 = bt398.2.2 then ((drawlotref22_Same.f k y380 l0).bind fun t405 => (some t405)) else (none)) else (none)) else (none))) else (none)) else (none)) else (none)))))))) else (none)))) else (none))) = some r := h
 clear h
 replace H := Option.bind_eq_some_iff.mp H
 obtain ⟨t376, A40, H⟩ := H
 replace H : (if t376 = true then (if (l0.length : Int) > 60 then (some true) else ((some (([] : List (S27)) : List (S27))).bind fun y377 => (if y377.length + l0.length < 2932031007402 then ((some (y377 ++ l0 : List (S27))).bind fun y380 => ((book_Withdraw.f k y380 a1 a2).bind fun bt383 => ((drawlotref22_Withdraw.f k l0 a1 a2).bind fun bt388 => ((book_Slash.f k y380 a1 a2).bind fun bt393 => ((drawlotref22_Slash.f k l0 a1 a2).bind fun bt398 => ((drawlotref22_Same.f k bt383.1 bt388.1).bind fun t403 => (if t403 = true then (if bt383.2.1 = bt388.2.1 then (if bt383.2.2 = bt388.2.2 then ((drawlotref22_Same.f k bt393.1 bt398.1).bind fun t404 => (if t404 = true then (if bt393.2.1 = bt398.2.1 then (if bt393.2.2 = bt398.2.2 then ((drawlotref22_Same.f k y380 l0).bind fun t405 => (some t405)) else (none)) else (none)) else (none))) else (none)) else (none)) else (none)))))))) else (none)))) else (none)) = some r := H
 have A4 := Aside0.mk A40
 clear A40
 by_cases c5 : t376 = true
 ·subst c5
  have H1 : (if (l0.length : Int) > 60 then (some true) else ((some (([] : List (S27)) : List (S27))).bind fun y377 => (if y377.length + l0.length < 2932031007402 then ((some (y377 ++ l0 : List (S27))).bind fun y380 => ((book_Withdraw.f k y380 a1 a2).bind fun bt383 => ((drawlotref22_Withdraw.f k l0 a1 a2).bind fun bt388 => ((book_Slash.f k y380 a1 a2).bind fun bt393 => ((drawlotref22_Slash.f k l0 a1 a2).bind fun bt398 => ((drawlotref22_Same.f k bt383.1 bt388.1).bind fun t403 => (if t403 = true then (if bt383.2.1 = bt388.2.1 then (if bt383.2.2 = bt388.2.2 then ((drawlotref22_Same.f k bt393.1 bt398.1).bind fun t404 => (if t404 = true then (if bt393.2.1 = bt398.2.1 then (if bt393.2.2 = bt398.2.2 then ((drawlotref22_Same.f k y380 l0).bind fun t405 => (some t405)) else (none)) else (none)) else (none))) else (none)) else (none)) else (none)))))))) else (none)))) = some r := by rw [if_pos rfl] at H; exact H
  clear H
  have H := H1
  clear H1
  by_cases c6 : (l0.length : Int) > 60
  ·rw [if_pos c6] at H
   have c6b0 : decide (60 < (l0.length : Int)) = true := decide_eq_true c6
   have c6b1 : decide (60 < l0.length) = true := decide_eq_true (by omega)
   clear c6
   obtain rfl := Option.some.inj H
   go_enter Try.func4, Try.ntmps4
   try simp only [List.append]
   go_wp2_with (first | ((with_reducible refine gate_callee (f := 13) rfl ?_); refine goesL_ (some 20) rfl rfl Try.func13 (by kernel_rfl) rfl #[] rfl (by (try simp only [List.map_toArray, List.map_cons, List.map_nil]); first | done | rfl | (simp only [List.length_drop, List.length_take]; rfl)) ?_; (with_reducible refine (drawlotlaw22_alive.calls k  true _ A4.out).mono ?_); rintro e w7 ⟨rfl, hb⟩; refine ⟨_, rfl, ?_⟩; have n0_ := Aside0.mk (below_step (by repeat (first | (with_reducible first | exact HB.out | apply below_alloc | apply pw_below_drewN | apply below_drew1) | exact HB.out)) hb); clear HB; have HB := n0_; clear n0_; (try clear hb); (try clear hb2); (try clear hk); (try clear hi)))
   go_ret
   exact ⟨by first | rfl | (simp [errW_none, errW_some] <;> rfl) | (simp [*, errW_none, errW_some] <;> rfl), by repeat (first | (with_reducible first | exact HB.out | apply below_alloc | apply pw_below_drewN | apply below_drew1) | exact HB.out)⟩
  ·rw [if_neg c6] at H
   have c6b0 : decide (60 < (l0.length : Int)) = false := decide_eq_false c6
   have c6b1 : decide (60 < l0.length) = false := decide_eq_false (by omega)
   clear c6
   obtain ⟨y377, hy377⟩ : ∃ y_ : List (S27), y_ = (([] : List (S27))) := ⟨_, rfl⟩
   replace H : (if y377.length + l0.length < 2932031007402 then ((some (y377 ++ l0 : List (S27))).bind fun y380 => ((book_Withdraw.f k y380 a1 a2).bind fun bt383 => ((drawlotref22_Withdraw.f k l0 a1 a2).bind fun bt388 => ((book_Slash.f k y380 a1 a2).bind fun bt393 => ((drawlotref22_Slash.f k l0 a1 a2).bind fun bt398 => ((drawlotref22_Same.f k bt383.1 bt388.1).bind fun t403 => (if t403 = true then (if bt383.2.1 = bt388.2.1 then (if bt383.2.2 = bt388.2.2 then ((drawlotref22_Same.f k bt393.1 bt398.1).bind fun t404 => (if t404 = true then (if bt393.2.1 = bt398.2.1 then (if bt393.2.2 = bt398.2.2 then ((drawlotref22_Same.f k y380 l0).bind fun t405 => (some t405)) else (none)) else (none)) else (none))) else (none)) else (none)) else (none)))))))) else (none)) = some r := by first | (rw [hy377]; with_reducible exact H) | (have H2_ := (Option.bind_some _ _).symm.trans H; rw [hy377]; with_reducible exact H2_) | (have H2_ := (Option.bind_some _ _).symm.trans H; with_reducible exact H2_) | with_reducible exact H | (rw [hy377]; exact H) | exact H
   have Ny377 := Aside0.mk hy377
   clear hy377
   by_cases c8 : y377.length + l0.length < 2932031007402
   ·rw [if_pos c8] at H
    have LMc8 := Aside0.mk c8
    clear c8
    obtain ⟨y380, hy380⟩ : ∃ y_ : List (S27), y_ = (y377 ++ l0) := ⟨_, rfl⟩
    replace H : ((book_Withdraw.f k y380 a1 a2).bind fun bt383 => ((drawlotref22_Withdraw.f k l0 a1 a2).bind fun bt388 => ((book_Slash.f k y380 a1 a2).bind fun bt393 => ((drawlotref22_Slash.f k l0 a1 a2).bind fun bt398 => ((drawlotref22_Same.f k bt383.1 bt388.1).bind fun t403 => (if t403 = true then (if bt383.2.1 = bt388.2.1 then (if bt383.2.2 = bt388.2.2 then ((drawlotref22_Same.f k bt393.1 bt398.1).bind fun t404 => (if t404 = true then (if bt393.2.1 = bt398.2.1 then (if bt393.2.2 = bt398.2.2 then ((drawlotref22_Same.f k y380 l0).bind fun t405 => (some t405)) else (none)) else (none)) else (none))) else (none)) else (none)) else (none))))))) = some r := by first | (rw [hy380]; with_reducible exact H) | (have H2_ := (Option.bind_some _ _).symm.trans H; rw [hy380]; with_reducible exact H2_) | (have H2_ := (Option.bind_some _ _).symm.trans H; with_reducible exact H2_) | with_reducible exact H | (rw [hy380]; exact H) | exact H
    have Ny380 := Aside0.mk hy380
    clear hy380
    replace H := Option.bind_eq_some_iff.mp H
    obtain ⟨⟨t383, t384, t385⟩, A90, H⟩ := H
    replace H : ((drawlotref22_Withdraw.f k l0 a1 a2).bind fun bt388 => ((book_Slash.f k y380 a1 a2).bind fun bt393 => ((drawlotref22_Slash.f k l0 a1 a2).bind fun bt398 => ((drawlotref22_Same.f k t383 bt388.1).bind fun t403 => (if t403 = true then (if t384 = bt388.2.1 then (if t385 = bt388.2.2 then ((drawlotref22_Same.f k bt393.1 bt398.1).bind fun t404 => (if t404 = true then (if bt393.2.1 = bt398.2.1 then (if bt393.2.2 = bt398.2.2 then ((drawlotref22_Same.f k y380 l0).bind fun t405 => (some t405)) else (none)) else (none)) else (none))) else (none)) else (none)) else (none)))))) = some r := H
    have A9 := Aside0.mk A90
    clear A90
    replace H := Option.bind_eq_some_iff.mp H
    obtain ⟨⟨t388, t389, t390⟩, A100, H⟩ := H
    replace H : ((book_Slash.f k y380 a1 a2).bind fun bt393 => ((drawlotref22_Slash.f k l0 a1 a2).bind fun bt398 => ((drawlotref22_Same.f k t383 t388).bind fun t403 => (if t403 = true then (if t384 = t389 then (if t385 = t390 then ((drawlotref22_Same.f k bt393.1 bt398.1).bind fun t404 => (if t404 = true then (if bt393.2.1 = bt398.2.1 then (if bt393.2.2 = bt398.2.2 then ((drawlotref22_Same.f k y380 l0).bind fun t405 => (some t405)) else (none)) else (none)) else (none))) else (none)) else (none)) else (none))))) = some r := H
    have A10 := Aside0.mk A100
    clear A100
    replace H := Option.bind_eq_some_iff.mp H
    obtain ⟨⟨t393, t394, t395⟩, A110, H⟩ := H
    replace H : ((drawlotref22_Slash.f k l0 a1 a2).bind fun bt398 => ((drawlotref22_Same.f k t383 t388).bind fun t403 => (if t403 = true then (if t384 = t389 then (if t385 = t390 then ((drawlotref22_Same.f k t393 bt398.1).bind fun t404 => (if t404 = true then (if t394 = bt398.2.1 then (if t395 = bt398.2.2 then ((drawlotref22_Same.f k y380 l0).bind fun t405 => (some t405)) else (none)) else (none)) else (none))) else (none)) else (none)) else (none)))) = some r := H
    have A11 := Aside0.mk A110
    clear A110
    replace H := Option.bind_eq_some_iff.mp H
    obtain ⟨⟨t398, t399, t400⟩, A120, H⟩ := H
    replace H : ((drawlotref22_Same.f k t383 t388).bind fun t403 => (if t403 = true then (if t384 = t389 then (if t385 = t390 then ((drawlotref22_Same.f k t393 t398).bind fun t404 => (if t404 = true then (if t394 = t399 then (if t395 = t400 then ((drawlotref22_Same.f k y380 l0).bind fun t405 => (some t405)) else (none)) else (none)) else (none))) else (none)) else (none)) else (none))) = some r := H
    have A12 := Aside0.mk A120
    clear A120
    replace H := Option.bind_eq_some_iff.mp H
    obtain ⟨t403, A130, H⟩ := H
    replace H : (if t403 = true then (if t384 = t389 then (if t385 = t390 then ((drawlotref22_Same.f k t393 t398).bind fun t404 => (if t404 = true then (if t394 = t399 then (if t395 = t400 then ((drawlotref22_Same.f k y380 l0).bind fun t405 => (some t405)) else (none)) else (none)) else (none))) else (none)) else (none)) else (none)) = some r := H
    have A13 := Aside0.mk A130
    clear A130
    by_cases c14 : t403 = true
    ·subst c14
     have H1 : (if t384 = t389 then (if t385 = t390 then ((drawlotref22_Same.f k t393 t398).bind fun t404 => (if t404 = true then (if t394 = t399 then (if t395 = t400 then ((drawlotref22_Same.f k y380 l0).bind fun t405 => (some t405)) else (none)) else (none)) else (none))) else (none)) else (none)) = some r := by rw [if_pos rfl] at H; exact H
     clear H
     have H := H1
     clear H1
     by_cases c15 : t384 = t389
     ·rw [if_pos c15] at H
      have c15b0 : (t384 == t389) = true := beq_iff_eq.mpr c15
      have c15b1 : (t384 != t389) = false := bne_eq_false_iff_eq.mpr c15
      clear c15
      by_cases c16 : t385 = t390
      ·rw [if_pos c16] at H
       have c16b0 : (t385 == t390) = true := beq_iff_eq.mpr c16
       have c16b1 : (t385 != t390) = false := bne_eq_false_iff_eq.mpr c16
       clear c16
       replace H := Option.bind_eq_some_iff.mp H
       obtain ⟨t404, A170, H⟩ := H
       replace H : (if t404 = true then (if t394 = t399 then (if t395 = t400 then ((drawlotref22_Same.f k y380 l0).bind fun t405 => (some t405)) else (none)) else (none)) else (none)) = some r := H
       have A17 := Aside0.mk A170
       clear A170
       by_cases c18 : t404 = true
       ·subst c18
        have H1 : (if t394 = t399 then (if t395 = t400 then ((drawlotref22_Same.f k y380 l0).bind fun t405 => (some t405)) else (none)) else (none)) = some r := by rw [if_pos rfl] at H; exact H
        clear H
        have H := H1
        clear H1
        by_cases c19 : t394 = t399
        ·rw [if_pos c19] at H
         have c19b0 : (t394 == t399) = true := beq_iff_eq.mpr c19
         have c19b1 : (t394 != t399) = false := bne_eq_false_iff_eq.mpr c19
         clear c19
         by_cases c20 : t395 = t400
         ·rw [if_pos c20] at H
          have c20b0 : (t395 == t400) = true := beq_iff_eq.mpr c20
          have c20b1 : (t395 != t400) = false := bne_eq_false_iff_eq.mpr c20
          clear c20
          replace H := Option.bind_eq_some_iff.mp H
          obtain ⟨t405, A210, H⟩ := H
          replace H : (some t405) = some r := H
          have A21 := Aside0.mk A210
          clear A210
          obtain rfl := Option.some.inj H
          go_enter Try.func4, Try.ntmps4
          try simp only [List.append]
          go_wp2_with (first | ((with_reducible refine gate_callee (f := 13) rfl ?_); refine goesL_ (some 20) rfl rfl Try.func13 (by kernel_rfl) rfl #[] rfl (by (try simp only [List.map_toArray, List.map_cons, List.map_nil]); first | done | rfl | (simp only [List.length_drop, List.length_take]; rfl)) ?_; (with_reducible refine (drawlotlaw22_alive.calls k  true _ A4.out).mono ?_); rintro e w22 ⟨rfl, hb⟩; refine ⟨_, rfl, ?_⟩; have n0_ := Aside0.mk (below_step (by repeat (first | (with_reducible first | exact HB.out | apply below_alloc | apply pw_below_drewN | apply below_drew1) | exact HB.out)) hb); clear HB; have HB := n0_; clear n0_; (try clear hb); (try clear hb2); (try clear hk); (try clear hi)) | ((with_reducible refine gate_dst (N := 25) rfl ?_); refine Kd.R_lit k27 _ 27 ?hg (N := 25) ?hd (xs := ([] : List (S27))) (inner := []) (ok := fun _ => True) (okp := fun _ => True) ?hr ?hp (fun _ hk => hk) trivial (Below.refl _ _) (Nat.le_refl _) (by simp) ?_; (case hd => rfl); (case hg => rfl); (case hr => first | (go_simp; done) | (go_simp; rfl)); (case hp => exact (Reps.none _ _)); intro v378 w23 ho24 hb hg_ hnew_; clear hg_ hnew_; (first | rw [← Ny377.out] at ho24 | (simp only [Int.reduceToNat] at ho24; rw [← Ny377.out] at ho24)); have n0_ := Aside0.mk (Kd.R_lower ho24 (below_size (by repeat (first | (with_reducible first | exact HB.out | apply below_alloc | apply pw_below_drewN | apply below_drew1) | exact HB.out)))); have n1_ := Aside0.mk (below_step (by repeat (first | (with_reducible first | exact HB.out | apply below_alloc | apply pw_below_drewN | apply below_drew1) | exact HB.out)) hb); clear HB; have HO379 := n0_; have HB := n1_; clear n0_ n1_; clear hb ho24) | ((with_reducible refine gate_builtin (b := .append) (xs := #[.tmp 25, .tmp 26]) rfl ?_); at_builtin; refine Kd.R_append_rows k27 (w0 := w) w.heap.size rfl (.tmp 25) (.tmp 26) 22 27 (.agg #[(.int .u8 0), (.int .u8 0), (.int .u8 0), (.int .u8 0), (.int .u8 0), (.int .u8 0), (.int .u8 0), (.int .u8 0), (.int .u8 0), (.int .u8 0), (.int .u8 0), (.int .u8 0), (.int .u8 0), (.int .u8 0), (.int .u8 0), (.int .u8 0), (.int .u8 0), (.int .u8 0), (.int .u8 0), (.int .u8 0), (.int .u8 0), (.int .u8 0), (.int .u8 0), (.int .u8 0), (.int .u8 0), (.int .u8 0), (.int .u8 0), (.int .u8 0), (.int .u8 0), (.int .u8 0), (.int .u8 0), (.int .u8 0), (.int .u64 0), (.int .u64 0)]) 48 rfl Try.underlying22 info27 rfl (by decide) (by omega) v378 y377 l0 _ _ _ (fun _ => True) (fun _ => False) rfl rfl ?aO ?aR (fun _ _ h => h) (fun _ h => h.elim) ?aF ?aB ?aS ?aL ?_; (case aR => repeat (first | exact (Kd.C_below HR0.out HB.out) | (with_reducible refine Kd.C_alloc ?_ _) | (with_reducible refine Kd.C_drewN ?_ _) | (with_reducible refine Kd.C_drew ?_))); (case aB => exact (by repeat (first | (with_reducible first | exact HB.out | apply below_alloc | apply pw_below_drewN | apply below_drew1) | exact HB.out))); (case aF => exact (fun _ _ => trivial)); (case aO => exact (by (with_reducible repeat (first | apply Kd.R_alloc | apply Kd.R_drewN | apply Kd.R_drew)); exact HO379.out)); (case aS => exact (below_size (by repeat (first | (with_reducible first | exact HB.out | apply below_alloc | apply pw_below_drewN | apply below_drew1) | exact HB.out)))); (case aL => have := LMc8.out; omega); intro v381 w25 ho hb hg hat; rw [← Ny380.out] at ho; have n0_ := Aside0.mk (hb); have n1_ := Aside0.mk (ho); clear HB; clear HO379; have HB := n0_; have HO382 := n1_; clear n0_ n1_; clear ho hb hg hat; obtain ⟨Ao26, co26, eo26⟩ := Kd.R_slice HO382.out; subst eo26) | ((with_reducible refine gate_callee (f := 17) rfl ?_); refine goesL_ (some 32) rfl rfl Try.func17 (by kernel_rfl) rfl #[.slice Ao26 y380.length co26, .int .i64 a1, .int .u64 a2] rfl (by (try simp only [List.map_toArray, List.map_cons, List.map_nil]); first | done | rfl | (simp only [List.length_drop, List.length_take]; rfl)) ?_; (with_reducible refine (book_Withdraw.calls k _ _ y380 a1 a2 t383 t384 t385 _ ?side1 ?side2 A9.out).mono ?_); (case side1 => repeat (first | exact (Kd.R_reads' HO382.out).2.2 | (with_reducible refine Kd.C_alloc ?_ _) | (with_reducible refine Kd.C_drewN ?_ _) | (with_reducible refine Kd.C_drew ?_))); (case side2 => exact (Kd.R_reads' HO382.out).2.1); rintro e w27 ⟨v386, rfl, ho0, hb⟩; refine ⟨_, rfl, ?_⟩; have n0_ := Aside0.mk (Kd.R_elder' (by (with_reducible repeat (first | apply Kd.R_alloc | apply Kd.R_drewN | apply Kd.R_drew)); exact HO382.out) (Kd.R_base ho0) hb); have n1_ := Aside0.mk (Kd.R_lower (Kd.R_new' ho0 (Kd.R_lt (by (with_reducible repeat (first | apply Kd.R_alloc | apply Kd.R_drewN | apply Kd.R_drew)); exact HO382.out))) (below_size (by repeat (first | (with_reducible first | exact HB.out | apply below_alloc | apply pw_below_drewN | apply below_drew1) | exact HB.out)))); have n2_ := Aside0.mk (below_step (by repeat (first | (with_reducible first | exact HB.out | apply below_alloc | apply pw_below_drewN | apply below_drew1) | exact HB.out)) hb); clear HO382; clear HB; have HO382 := n0_; have HO387 := n1_; have HB := n2_; clear n0_ n1_ n2_; (try clear hb); (try clear hb2); (try clear hk); (try clear hi); (try clear ho0)) | ((with_reducible refine gate_callee (f := 18) rfl ?_); refine goesL_ (some 40) rfl rfl Try.func18 (by kernel_rfl) rfl #[.slice A0 l0.length c0, .int .i64 a1, .int .u64 a2] rfl (by (try simp only [List.map_toArray, List.map_cons, List.map_nil]); first | done | rfl | (simp only [List.length_drop, List.length_take]; rfl)) ?_; (with_reducible refine (drawlotref22_Withdraw.calls k _ _ l0 a1 a2 t388 t389 t390 _ ?side1 ?side2 A10.out).mono ?_); (case side1 => repeat (first | exact (Kd.C_below HR0.out HB.out) | (with_reducible refine Kd.C_alloc ?_ _) | (with_reducible refine Kd.C_drewN ?_ _) | (with_reducible refine Kd.C_drew ?_))); (case side2 => exact HC0.out); rintro e w28 ⟨v391, rfl, ho0, hb⟩; refine ⟨_, rfl, ?_⟩; have n0_ := Aside0.mk (Kd.R_elder' (by (with_reducible repeat (first | apply Kd.R_alloc | apply Kd.R_drewN | apply Kd.R_drew)); exact HO382.out) (Kd.R_base ho0) hb); have n1_ := Aside0.mk (Kd.R_elder' (by (with_reducible repeat (first | apply Kd.R_alloc | apply Kd.R_drewN | apply Kd.R_drew)); exact HO387.out) (Kd.R_base ho0) hb); have n2_ := Aside0.mk (Kd.R_lower (Kd.R_new' (Kd.R_new' ho0 (Kd.R_lt (by (with_reducible repeat (first | apply Kd.R_alloc | apply Kd.R_drewN | apply Kd.R_drew)); exact HO382.out))) (Kd.R_lt (by (with_reducible repeat (first | apply Kd.R_alloc | apply Kd.R_drewN | apply Kd.R_drew)); exact HO387.out))) (below_size (by repeat (first | (with_reducible first | exact HB.out | apply below_alloc | apply pw_below_drewN | apply below_drew1) | exact HB.out)))); have n3_ := Aside0.mk (below_step (by repeat (first | (with_reducible first | exact HB.out | apply below_alloc | apply pw_below_drewN | apply below_drew1) | exact HB.out)) hb); clear HO382; clear HO387; clear HB; have HO382 := n0_; have HO387 := n1_; have HO392 := n2_; have HB := n3_; clear n0_ n1_ n2_ n3_; (try clear hb); (try clear hb2); (try clear hk); (try clear hi); (try clear ho0)) | ((with_reducible refine gate_callee (f := 19) rfl ?_); refine goesL_ (some 48) rfl rfl Try.func19 (by kernel_rfl) rfl #[.slice Ao26 y380.length co26, .int .i64 a1, .int .u64 a2] rfl (by (try simp only [List.map_toArray, List.map_cons, List.map_nil]); first | done | rfl | (simp only [List.length_drop, List.length_take]; rfl)) ?_; (with_reducible refine (book_Slash.calls k _ _ y380 a1 a2 t393 t394 t395 _ ?side1 ?side2 A11.out).mono ?_); (case side1 => repeat (first | exact (Kd.R_reads' HO382.out).2.2 | (with_reducible refine Kd.C_alloc ?_ _) | (with_reducible refine Kd.C_drewN ?_ _) | (with_reducible refine Kd.C_drew ?_))); (case side2 => exact (Kd.R_reads' HO382.out).2.1); rintro e w29 ⟨v396, rfl, ho0, hb⟩; refine ⟨_, rfl, ?_⟩; have n0_ := Aside0.mk (Kd.R_elder' (by (with_reducible repeat (first | apply Kd.R_alloc | apply Kd.R_drewN | apply Kd.R_drew)); exact HO382.out) (Kd.R_base ho0) hb); have n1_ := Aside0.mk (Kd.R_elder' (by (with_reducible repeat (first | apply Kd.R_alloc | apply Kd.R_drewN | apply Kd.R_drew)); exact HO387.out) (Kd.R_base ho0) hb); have n2_ := Aside0.mk (Kd.R_elder' (by (with_reducible repeat (first | apply Kd.R_alloc | apply Kd.R_drewN | apply Kd.R_drew)); exact HO392.out) (Kd.R_base ho0) hb); have n3_ := Aside0.mk (Kd.R_lower (Kd.R_new' (Kd.R_new' (Kd.R_new' ho0 (Kd.R_lt (by (with_reducible repeat (first | apply Kd.R_alloc | apply Kd.R_drewN | apply Kd.R_drew)); exact HO382.out))) (Kd.R_lt (by (with_reducible repeat (first | apply Kd.R_alloc | apply Kd.R_drewN | apply Kd.R_drew)); exact HO387.out))) (Kd.R_lt (by (with_reducible repeat (first | apply Kd.R_alloc | apply Kd.R_drewN | apply Kd.R_drew)); exact HO392.out))) (below_size (by repeat (first | (with_reducible first | exact HB.out | apply below_alloc | apply pw_below_drewN | apply below_drew1) | exact HB.out)))); have n4_ := Aside0.mk (below_step (by repeat (first | (with_reducible first | exact HB.out | apply below_alloc | apply pw_below_drewN | apply below_drew1) | exact HB.out)) hb); clear HO382; clear HO387; clear HO392; clear HB; have HO382 := n0_; have HO387 := n1_; have HO392 := n2_; have HO397 := n3_; have HB := n4_; clear n0_ n1_ n2_ n3_ n4_; (try clear hb); (try clear hb2); (try clear hk); (try clear hi); (try clear ho0)) | ((with_reducible refine gate_callee (f := 20) rfl ?_); refine goesL_ (some 56) rfl rfl Try.func20 (by kernel_rfl) rfl #[.slice A0 l0.length c0, .int .i64 a1, .int .u64 a2] rfl (by (try simp only [List.map_toArray, List.map_cons, List.map_nil]); first | done | rfl | (simp only [List.length_drop, List.length_take]; rfl)) ?_; (with_reducible refine (drawlotref22_Slash.calls k _ _ l0 a1 a2 t398 t399 t400 _ ?side1 ?side2 A12.out).mono ?_); (case side1 => repeat (first | exact (Kd.C_below HR0.out HB.out) | (with_reducible refine Kd.C_alloc ?_ _) | (with_reducible refine Kd.C_drewN ?_ _) | (with_reducible refine Kd.C_drew ?_))); (case side2 => exact HC0.out); rintro e w30 ⟨v401, rfl, ho0, hb⟩; refine ⟨_, rfl, ?_⟩; have n0_ := Aside0.mk (Kd.R_elder' (by (with_reducible repeat (first | apply Kd.R_alloc | apply Kd.R_drewN | apply Kd.R_drew)); exact HO382.out) (Kd.R_base ho0) hb); have n1_ := Aside0.mk (Kd.R_elder' (by (with_reducible repeat (first | apply Kd.R_alloc | apply Kd.R_drewN | apply Kd.R_drew)); exact HO387.out) (Kd.R_base ho0) hb); have n2_ := Aside0.mk (Kd.R_elder' (by (with_reducible repeat (first | apply Kd.R_alloc | apply Kd.R_drewN | apply Kd.R_drew)); exact HO392.out) (Kd.R_base ho0) hb); have n3_ := Aside0.mk (Kd.R_elder' (by (with_reducible repeat (first | apply Kd.R_alloc | apply Kd.R_drewN | apply Kd.R_drew)); exact HO397.out) (Kd.R_base ho0) hb); have n4_ := Aside0.mk (Kd.R_lower (Kd.R_new' (Kd.R_new' (Kd.R_new' (Kd.R_new' ho0 (Kd.R_lt (by (with_reducible repeat (first | apply Kd.R_alloc | apply Kd.R_drewN | apply Kd.R_drew)); exact HO382.out))) (Kd.R_lt (by (with_reducible repeat (first | apply Kd.R_alloc | apply Kd.R_drewN | apply Kd.R_drew)); exact HO387.out))) (Kd.R_lt (by (with_reducible repeat (first | apply Kd.R_alloc | apply Kd.R_drewN | apply Kd.R_drew)); exact HO392.out))) (Kd.R_lt (by (with_reducible repeat (first | apply Kd.R_alloc | apply Kd.R_drewN | apply Kd.R_drew)); exact HO397.out))) (below_size (by repeat (first | (with_reducible first | exact HB.out | apply below_alloc | apply pw_below_drewN | apply below_drew1) | exact HB.out)))); have n5_ := Aside0.mk (below_step (by repeat (first | (with_reducible first | exact HB.out | apply below_alloc | apply pw_below_drewN | apply below_drew1) | exact HB.out)) hb); clear HO382; clear HO387; clear HO392; clear HO397; clear HB; have HO382 := n0_; have HO387 := n1_; have HO392 := n2_; have HO397 := n3_; have HO402 := n4_; have HB := n5_; clear n0_ n1_ n2_ n3_ n4_ n5_; (try clear hb); (try clear hb2); (try clear hk); (try clear hi); (try clear ho0); obtain ⟨Ao31, co31, eo31⟩ := Kd.R_slice HO387.out; subst eo31; obtain ⟨Ao32, co32, eo32⟩ := Kd.R_slice HO392.out; subst eo32) | ((with_reducible refine gate_callee (f := 16) rfl ?_); refine goesL_ (some 62) rfl rfl Try.func16 (by kernel_rfl) rfl #[.slice Ao31 t383.length co31, .slice Ao32 t388.length co32] rfl (by (try simp only [List.map_toArray, List.map_cons, List.map_nil]); first | done | rfl | (simp only [List.length_drop, List.length_take]; rfl)) ?_; (with_reducible refine (drawlotref22_Same.calls k _ _ t383 _ _ t388 true _ ?side1 ?side2 ?side3 ?side4 A13.out).mono ?_); (case side1 => repeat (first | exact (Kd.R_reads' HO387.out).2.2 | (with_reducible refine Kd.C_alloc ?_ _) | (with_reducible refine Kd.C_drewN ?_ _) | (with_reducible refine Kd.C_drew ?_))); (case side2 => exact (Kd.R_reads' HO387.out).2.1); (case side3 => repeat (first | exact (Kd.R_reads' HO392.out).2.2 | (with_reducible refine Kd.C_alloc ?_ _) | (with_reducible refine Kd.C_drewN ?_ _) | (with_reducible refine Kd.C_drew ?_))); (case side4 => exact (Kd.R_reads' HO392.out).2.1); rintro e w33 ⟨rfl, hb⟩; refine ⟨_, rfl, ?_⟩; have n0_ := Aside0.mk (Kd.R_below (by (with_reducible repeat (first | apply Kd.R_alloc | apply Kd.R_drewN | apply Kd.R_drew)); exact HO382.out) hb); have n1_ := Aside0.mk (Kd.R_below (by (with_reducible repeat (first | apply Kd.R_alloc | apply Kd.R_drewN | apply Kd.R_drew)); exact HO387.out) hb); have n2_ := Aside0.mk (Kd.R_below (by (with_reducible repeat (first | apply Kd.R_alloc | apply Kd.R_drewN | apply Kd.R_drew)); exact HO392.out) hb); have n3_ := Aside0.mk (Kd.R_below (by (with_reducible repeat (first | apply Kd.R_alloc | apply Kd.R_drewN | apply Kd.R_drew)); exact HO397.out) hb); have n4_ := Aside0.mk (Kd.R_below (by (with_reducible repeat (first | apply Kd.R_alloc | apply Kd.R_drewN | apply Kd.R_drew)); exact HO402.out) hb); have n5_ := Aside0.mk (below_step (by repeat (first | (with_reducible first | exact HB.out | apply below_alloc | apply pw_below_drewN | apply below_drew1) | exact HB.out)) hb); clear HO382; clear HO387; clear HO392; clear HO397; clear HO402; clear HB; have HO382 := n0_; have HO387 := n1_; have HO392 := n2_; have HO397 := n3_; have HO402 := n4_; have HB := n5_; clear n0_ n1_ n2_ n3_ n4_ n5_; (try clear hb); (try clear hb2); (try clear hk); (try clear hi); obtain ⟨Ao34, co34, eo34⟩ := Kd.R_slice HO397.out; subst eo34; obtain ⟨Ao35, co35, eo35⟩ := Kd.R_slice HO402.out; subst eo35) | (go_at_call 16; (with_reducible refine (drawlotref22_Same.calls k _ _ t393 _ _ t398 true _ ?side1 ?side2 ?side3 ?side4 A17.out).mono ?_); (case side1 => repeat (first | exact (Kd.R_reads' HO397.out).2.2 | (with_reducible refine Kd.C_alloc ?_ _) | (with_reducible refine Kd.C_drewN ?_ _) | (with_reducible refine Kd.C_drew ?_))); (case side2 => exact (Kd.R_reads' HO397.out).2.1); (case side3 => repeat (first | exact (Kd.R_reads' HO402.out).2.2 | (with_reducible refine Kd.C_alloc ?_ _) | (with_reducible refine Kd.C_drewN ?_ _) | (with_reducible refine Kd.C_drew ?_))); (case side4 => exact (Kd.R_reads' HO402.out).2.1); rintro e w36 ⟨rfl, hb⟩; have n0_ := Aside0.mk (Kd.R_below (by (with_reducible repeat (first | apply Kd.R_alloc | apply Kd.R_drewN | apply Kd.R_drew)); exact HO382.out) hb); have n1_ := Aside0.mk (Kd.R_below (by (with_reducible repeat (first | apply Kd.R_alloc | apply Kd.R_drewN | apply Kd.R_drew)); exact HO387.out) hb); have n2_ := Aside0.mk (Kd.R_below (by (with_reducible repeat (first | apply Kd.R_alloc | apply Kd.R_drewN | apply Kd.R_drew)); exact HO392.out) hb); have n3_ := Aside0.mk (Kd.R_below (by (with_reducible repeat (first | apply Kd.R_alloc | apply Kd.R_drewN | apply Kd.R_drew)); exact HO397.out) hb); have n4_ := Aside0.mk (Kd.R_below (by (with_reducible repeat (first | apply Kd.R_alloc | apply Kd.R_drewN | apply Kd.R_drew)); exact HO402.out) hb); have n5_ := Aside0.mk (below_step (by repeat (first | (with_reducible first | exact HB.out | apply below_alloc | apply pw_below_drewN | apply below_drew1) | exact HB.out)) hb); clear HO382; clear HO387; clear HO392; clear HO397; clear HO402; clear HB; have HO382 := n0_; have HO387 := n1_; have HO392 := n2_; have HO397 := n3_; have HO402 := n4_; have HB := n5_; clear n0_ n1_ n2_ n3_ n4_ n5_; (try clear hb); (try clear hb2); (try clear hk); (try clear hi)) | (go_at_call 16; (with_reducible refine (drawlotref22_Same.calls k _ _ y380 _ _ l0 t405 _ ?side1 ?side2 ?side3 ?side4 A21.out).mono ?_); (case side1 => repeat (first | exact (Kd.R_reads' HO382.out).2.2 | (with_reducible refine Kd.C_alloc ?_ _) | (with_reducible refine Kd.C_drewN ?_ _) | (with_reducible refine Kd.C_drew ?_))); (case side2 => exact (Kd.R_reads' HO382.out).2.1); (case side3 => repeat (first | exact (Kd.C_below HR0.out HB.out) | (with_reducible refine Kd.C_alloc ?_ _) | (with_reducible refine Kd.C_drewN ?_ _) | (with_reducible refine Kd.C_drew ?_))); (case side4 => exact HC0.out); rintro e w37 ⟨rfl, hb⟩; have n0_ := Aside0.mk (Kd.R_below (by (with_reducible repeat (first | apply Kd.R_alloc | apply Kd.R_drewN | apply Kd.R_drew)); exact HO382.out) hb); have n1_ := Aside0.mk (Kd.R_below (by (with_reducible repeat (first | apply Kd.R_alloc | apply Kd.R_drewN | apply Kd.R_drew)); exact HO387.out) hb); have n2_ := Aside0.mk (Kd.R_below (by (with_reducible repeat (first | apply Kd.R_alloc | apply Kd.R_drewN | apply Kd.R_drew)); exact HO392.out) hb); have n3_ := Aside0.mk (Kd.R_below (by (with_reducible repeat (first | apply Kd.R_alloc | apply Kd.R_drewN | apply Kd.R_drew)); exact HO397.out) hb); have n4_ := Aside0.mk (Kd.R_below (by (with_reducible repeat (first | apply Kd.R_alloc | apply Kd.R_drewN | apply Kd.R_drew)); exact HO402.out) hb); have n5_ := Aside0.mk (below_step (by repeat (first | (with_reducible first | exact HB.out | apply below_alloc | apply pw_below_drewN | apply below_drew1) | exact HB.out)) hb); clear HO382; clear HO387; clear HO392; clear HO397; clear HO402; clear HB; have HO382 := n0_; have HO387 := n1_; have HO392 := n2_; have HO397 := n3_; have HO402 := n4_; have HB := n5_; clear n0_ n1_ n2_ n3_ n4_ n5_; (try clear hb); (try clear hb2); (try clear hk); (try clear hi)))
          go_ret
          exact ⟨by first | rfl | (simp [errW_none, errW_some] <;> rfl) | (simp [*, errW_none, errW_some] <;> rfl), by repeat (first | (with_reducible first | exact HB.out | apply below_alloc | apply pw_below_drewN | apply below_drew1) | exact HB.out)⟩
         ·rw [if_neg c20] at H
          exact absurd H (by simp)
        ·rw [if_neg c19] at H
         exact absurd H (by simp)
       ·replace c18 := Bool.eq_false_iff.mpr c18
        subst c18
        have H1 : (none) = some r := by rw [if_neg (show ¬ (false = true) by decide)] at H; exact H
        clear H
        have H := H1
        clear H1
        exact absurd H (by simp)
      ·rw [if_neg c16] at H
       exact absurd H (by simp)
     ·rw [if_neg c15] at H
      exact absurd H (by simp)
    ·replace c14 := Bool.eq_false_iff.mpr c14
     subst c14
     have H1 : (none) = some r := by rw [if_neg (show ¬ (false = true) by decide)] at H; exact H
     clear H
     have H := H1
     clear H1
     exact absurd H (by simp)
   ·rw [if_neg c8] at H
    exact absurd H (by simp)
 ·replace c5 := Bool.eq_false_iff.mpr c5
  subst c5
  have H1 : (none) = some r := by rw [if_neg (show ¬ (false = true) by decide)] at H; exact H
  clear H
  have H := H1
  clear H1
  exact absurd H (by simp)

/-- THE ONE PURE STATEMENT of drawlotlaw22_BookTakes: yours. -/
def drawlotlaw22_BookTakes.Pure : Prop := ∀ (l0 : List (S27)) (a1 : Int) (a2 : Int), (l0.length ≤ maxLen ∧ ∀ x ∈ l0, ((x.f0.length = 32 ∧ ∀ x_ ∈ x.f0, (Lit.int .u8 x_).wf = true) ∧ (Lit.int .u64 x.f1).wf = true ∧ (Lit.int .u64 x.f2).wf = true)) → (Lit.int .i64 a1).wf = true → (Lit.int .u64 a2).wf = true → ∃ k, drawlotlaw22_BookTakes.f k l0 a1 a2 = some true
theorem drawlotlaw22_BookTakes.walk (P : drawlotlaw22_BookTakes.Pure) (A0 : Option Addr) (c0 : Nat) (l0 : List (S27)) (a1 : Int) (a2 : Int) (w : World) (w0 : Kd.C k27 w A0 l0.length l0 ∧ l0.length ≤ c0 ∧ (l0.length ≤ maxLen ∧ ∀ x ∈ l0, ((x.f0.length = 32 ∧ ∀ x_ ∈ x.f0, (Lit.int .u8 x_).wf = true) ∧ (Lit.int .u64 x.f1).wf = true ∧ (Lit.int .u64 x.f2).wf = true))) (w1 : (Lit.int .i64 a1).wf = true) (w2 : (Lit.int .u64 a2).wf = true) :
  Calls Try.prog 4 #[.slice A0 l0.length c0, .int .i64 a1, .int .u64 a2] w fun e w' => e = .returned (.bool true) ∧ Below w.heap.size w w' := by
 obtain ⟨k, h⟩ := P l0 a1 a2 w0.2.2 w1 w2
 refine (drawlotlaw22_BookTakes.calls k _ _ l0 a1 a2 true w w0.1 w0.2.1 h).mono ?_
 rintro e w' ⟨rfl, hd⟩
 exact ⟨rfl, hd⟩

end Go.Proofs.Ytoaeedepfmfkkaa.PB
