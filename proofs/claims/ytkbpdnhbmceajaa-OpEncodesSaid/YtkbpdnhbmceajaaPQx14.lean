/- Written by xprint.py, this session's own driver, for the seat Ytkbpdnhbmceajaa: contracts of Go functions, each saying that a call answers what a plain Lean function of the same name says, and, in a text named Law, the row of a law: its Go function answers true for every input. No conditions. -/
import Derived.Test.YtkbpdnhbmceajaaPQx0
import Derived.Test.YtkbpdnhbmceajaaPQx2
import Derived.Test.YtkbpdnhbmceajaaPQx3
import Derived.Test.YtkbpdnhbmceajaaPQx4
import Derived.Test.YtkbpdnhbmceajaaPQx5
import Derived.Test.YtkbpdnhbmceajaaPQx6
import Derived.Test.YtkbpdnhbmceajaaPQx9
import Derived.Test.YtkbpdnhbmceajaaPQx11
namespace Go.Proofs.Ytkbpdnhbmceajaa.PQ
open Go.RowKit Go.Proofs.YtkbpdnhbmceajaaW.PrintWords Go.Proofs.YtkbpdnhbmceajaaW.PrintLast Go.Proofs.YtkbpdnhbmceajaaW.PrintMore
attribute [local go_sem] max2_int min2_int max_two min_two max_three min_three max_four min_four   -- for this text's walks alone
set_option linter.unusedVariables false
set_option linter.unusedSimpArgs false

/-! ### drawlotlaw24_OpEncodes: function 4 -/
def drawlotlaw24_OpEncodes.l0 : Nat → List (S39) → List (S39) → List Int → Int → List Int → Int → Int → Bool → Int → Bool → Int → Option (Bool)
 | 0, _, _, _, _, _, _, _, _, _, _, _ => none
 | k + 1, x0, x1, x7, x8, x9, x10, x11, x12, x13, x14, x15 => if x15 < (x0.length : Int) then (if 0 ≤ x15 then ((op_Right.f k ((rd_T39 x0 x15).f0) ((rd_T39 x0 x15).f1) ((rd_T39 x0 x15).f2) ((rd_T39 x0 x15).f3) ((rd_T39 x0 x15).f4)).bind fun t355 => ((drawlotref24_Right.f k ((rd_T39 x0 x15).f0) ((rd_T39 x0 x15).f1) ((rd_T39 x0 x15).f2) ((rd_T39 x0 x15).f3) ((rd_T39 x0 x15).f4)).bind fun t357 => (if (t355 != t357) = true then (none) else (drawlotlaw24_OpEncodes.l0 k x0 x1 x7 x8 x9 x10 x11 x12 x13 x14 (wrap64 (x15 + 1)))))) else (none)) else (if (strOfNums x7).toList = (strOfNums x9).toList then (if x8 = x10 then (if x11 = x13 then (if (x12 == x14) = true then ((op_Same.f k x0 x1).bind fun t358 => ((drawlotref24_Same.f k x0 x1).bind fun t359 => (some (t358 == t359)))) else (none)) else (none)) else (none)) else (none))
def drawlotlaw24_OpEncodes.f (k : Nat) (l0 : List (S39)) (l1 : List (S39)) (a2 : Int) : Option (Bool) := (drawlotlaw24_alive.f k).bind fun t341 => (if t341 = true then (if (l0.length : Int) > 300 then (some true) else (if (l1.length : Int) > 300 then (some true) else ((op_Encode.f k l0).bind fun bt342 => ((drawlotref24_Encode.f k l0).bind fun bt346 => ((op_Size.f a2).bind fun bt350 => ((drawlotref24_Size.f k a2).bind fun bt352 => (drawlotlaw24_OpEncodes.l0 k l0 l1 bt342.1 bt342.2 bt346.1 bt346.2 bt350.1 bt350.2 bt352.1 bt352.2 0))))))) else (none))
theorem drawlotlaw24_OpEncodes.mono_l : ∀ k, (∀ y0 y1 y2 y3 y4 y5 y6 y7 y8 y9 y10, LeO (drawlotlaw24_OpEncodes.l0 k y0 y1 y2 y3 y4 y5 y6 y7 y8 y9 y10) (drawlotlaw24_OpEncodes.l0 (k + 1) y0 y1 y2 y3 y4 y5 y6 y7 y8 y9 y10))
 | 0 => fun _ _ _ _ _ _ _ _ _ _ _ r h => by simp [drawlotlaw24_OpEncodes.l0] at h
 | k + 1 => by
  have ih0 := drawlotlaw24_OpEncodes.mono_l k
  ·intro y0 y1 y2 y3 y4 y5 y6 y7 y8 y9 y10
   unfold drawlotlaw24_OpEncodes.l0
   repeat' first
   | (with_reducible exact ih0 _ _ _ _ _ _ _ _ _ _ _)
   | (with_reducible exact drawlotlaw24_alive.mono _)
   | (with_reducible exact drawlotref24_Encode.mono _ _)
   | (with_reducible exact drawlotref24_Right.mono _ _ _ _ _ _)
   | (with_reducible exact drawlotref24_Same.mono _ _ _)
   | (with_reducible exact drawlotref24_Size.mono _ _)
   | (with_reducible exact op_Encode.mono _ _)
   | (with_reducible exact op_Right.mono _ _ _ _ _ _)
   | (with_reducible exact op_Same.mono _ _ _)
   | (with_reducible exact LeO.refl _)
   | (with_reducible exact LeO.none _)
   | (with_reducible refine LeO.ite ?_ ?_)
   | (with_reducible refine LeO.bind ?_ (fun _ => ?_))
   | exact ih0 _ _ _ _ _ _ _ _ _ _ _
   | exact drawlotlaw24_alive.mono _
   | exact drawlotref24_Encode.mono _ _
   | exact drawlotref24_Right.mono _ _ _ _ _ _
   | exact drawlotref24_Same.mono _ _ _
   | exact drawlotref24_Size.mono _ _
   | exact op_Encode.mono _ _
   | exact op_Right.mono _ _ _ _ _ _
   | exact op_Same.mono _ _ _
   | exact LeO.none _
   | refine LeO.ite ?_ ?_
   | refine LeO.bind ?_ (fun _ => ?_)
theorem drawlotlaw24_OpEncodes.mono : ∀ a0 a1 a2 k, LeO (drawlotlaw24_OpEncodes.f k a0 a1 a2) (drawlotlaw24_OpEncodes.f (k + 1) a0 a1 a2) := by
 intro a0 a1 a2 k
 have ih0 := drawlotlaw24_OpEncodes.mono_l k
 unfold drawlotlaw24_OpEncodes.f
 repeat' first
   | (with_reducible exact ih0 _ _ _ _ _ _ _ _ _ _ _)
   | (with_reducible exact drawlotlaw24_alive.mono _)
   | (with_reducible exact drawlotref24_Encode.mono _ _)
   | (with_reducible exact drawlotref24_Right.mono _ _ _ _ _ _)
   | (with_reducible exact drawlotref24_Same.mono _ _ _)
   | (with_reducible exact drawlotref24_Size.mono _ _)
   | (with_reducible exact op_Encode.mono _ _)
   | (with_reducible exact op_Right.mono _ _ _ _ _ _)
   | (with_reducible exact op_Same.mono _ _ _)
   | (with_reducible exact LeO.refl _)
   | (with_reducible exact LeO.none _)
   | (with_reducible refine LeO.ite ?_ ?_)
   | (with_reducible refine LeO.bind ?_ (fun _ => ?_))
   | exact ih0 _ _ _ _ _ _ _ _ _ _ _
   | exact drawlotlaw24_alive.mono _
   | exact drawlotref24_Encode.mono _ _
   | exact drawlotref24_Right.mono _ _ _ _ _ _
   | exact drawlotref24_Same.mono _ _ _
   | exact drawlotref24_Size.mono _ _
   | exact op_Encode.mono _ _
   | exact op_Right.mono _ _ _ _ _ _
   | exact op_Same.mono _ _ _
   | exact LeO.none _
   | refine LeO.ite ?_ ?_
   | refine LeO.bind ?_ (fun _ => ?_)
def drawlotlaw24_OpEncodes.T12 : Bool × List (List Nat × List Nat) := (true, [([], []), ([], []), ([0, 1], [0, 1]), ([2], [2]), ([3], [3]), ([], []), ([], []), ([5, 6], [5, 6]), ([7], [7]), ([8, 4], [8]), ([4, 9], [4, 9])])
def drawlotlaw24_OpEncodes.B12 : List Nat := [0, 0, 3, 7, 15, 0, 0, 96, 224, 511, 1023]
theorem drawlotlaw24_OpEncodes.tab12 : rtab .any (opsOf Try.f4 12) = drawlotlaw24_OpEncodes.T12 := by kernel_rfl
theorem drawlotlaw24_OpEncodes.bits12 : waitsOk drawlotlaw24_OpEncodes.T12.2 drawlotlaw24_OpEncodes.B12 = true := by kernel_rfl
set_option maxHeartbeats 8000000 in
set_option maxRecDepth 100000 in
theorem drawlotlaw24_OpEncodes.calls (k : Nat) (A0 : Option Addr) (c0 : Nat) (l0 : List (S39)) (A1 : Option Addr) (c1 : Nat) (l1 : List (S39)) (a2 : Int) (r : Bool) (w : World) (hr0 : Kd.C k39 w A0 l0.length l0) (hc0 : l0.length ≤ c0) (hr1 : Kd.C k39 w A1 l1.length l1) (hc1 : l1.length ≤ c1) (h : drawlotlaw24_OpEncodes.f k l0 l1 a2 = some r) :
  Calls Try.prog 4 #[.slice A0 l0.length c0, .slice A1 l1.length c1, .int .i64 a2] w fun e w' => e = .returned (.bool r) ∧ Below w.heap.size w w' := by
 have hu39 := Try.underlying39
 have HR0 := Aside0.mk hr0
 have HC0 := Aside0.mk hc0
 clear hr0 hc0
 have HR1 := Aside0.mk hr1
 have HC1 := Aside0.mk hc1
 clear hr1 hc1
 have HB := Aside0.mk (Below.refl w.heap.size w)
 have H : ((drawlotlaw24_alive.f k).bind fun t341 => (if t341 = true then (if (l0.length : Int) > 300 then (some true) else (if (l1.length : Int) > 300 then (some true) else ((op_Encode.f k l0).bind fun bt342 => ((drawlotref24_Encode.f k l0).bind fun bt346 => ((op_Size.f a2).bind fun bt350 => ((drawlotref24_Size.f k a2).bind fun bt352 => (drawlotlaw24_OpEncodes.l0 k l0 l1 bt342.1 bt342.2 bt346.1 bt346.2 bt350.1 bt350.2 bt352.1 bt352.2 0))))))) else (none))) = some r := h
 clear h
 replace H := Option.bind_eq_some_iff.mp H
 obtain ⟨t341, A40, H⟩ := H
 replace H : (if t341 = true then (if (l0.length : Int) > 300 then (some true) else (if (l1.length : Int) > 300 then (some true) else ((op_Encode.f k l0).bind fun bt342 => ((drawlotref24_Encode.f k l0).bind fun bt346 => ((op_Size.f a2).bind fun bt350 => ((drawlotref24_Size.f k a2).bind fun bt352 => (drawlotlaw24_OpEncodes.l0 k l0 l1 bt342.1 bt342.2 bt346.1 bt346.2 bt350.1 bt350.2 bt352.1 bt352.2 0))))))) else (none)) = some r := H
 have A4 := Aside0.mk A40
 clear A40
 by_cases c5 : t341 = true
 ·subst c5
  have H1 : (if (l0.length : Int) > 300 then (some true) else (if (l1.length : Int) > 300 then (some true) else ((op_Encode.f k l0).bind fun bt342 => ((drawlotref24_Encode.f k l0).bind fun bt346 => ((op_Size.f a2).bind fun bt350 => ((drawlotref24_Size.f k a2).bind fun bt352 => (drawlotlaw24_OpEncodes.l0 k l0 l1 bt342.1 bt342.2 bt346.1 bt346.2 bt350.1 bt350.2 bt352.1 bt352.2 0))))))) = some r := by rw [if_pos rfl] at H; exact H
  clear H
  have H := H1
  clear H1
  by_cases c6 : (l0.length : Int) > 300
  ·rw [if_pos c6] at H
   have c6b0 : decide (300 < (l0.length : Int)) = true := decide_eq_true c6
   have c6b1 : decide (300 < l0.length) = true := decide_eq_true (by omega)
   clear c6
   obtain rfl := Option.some.inj H
   go_enter Try.func4, Try.ntmps4
   try simp only [List.append]
   go_wp2_with (first | ((with_reducible refine gate_callee (f := 8) rfl ?_); refine goesL_ (some 16) rfl rfl Try.func8 (by kernel_rfl) rfl #[] rfl (by (try simp only [List.map_toArray, List.map_cons, List.map_nil]); first | done | rfl | (simp only [List.length_drop, List.length_take]; rfl)) ?_; (with_reducible refine (drawlotlaw24_alive.calls k  true _ A4.out).mono ?_); rintro e w7 ⟨rfl, hb⟩; refine ⟨_, rfl, ?_⟩; have n0_ := Aside0.mk (below_step (by repeat (first | (with_reducible first | exact HB.out | apply below_alloc | apply pw_below_drewN | apply below_drew1) | exact HB.out)) hb); clear HB; have HB := n0_; clear n0_; (try clear hb); (try clear hb2); (try clear hk); (try clear hi)))
   go_ret
   exact ⟨by first | rfl | (simp [errW_none, errW_some] <;> rfl) | (simp [*, errW_none, errW_some] <;> rfl), by repeat (first | (with_reducible first | exact HB.out | apply below_alloc | apply pw_below_drewN | apply below_drew1) | exact HB.out)⟩
  ·rw [if_neg c6] at H
   have c6b0 : decide (300 < (l0.length : Int)) = false := decide_eq_false c6
   have c6b1 : decide (300 < l0.length) = false := decide_eq_false (by omega)
   clear c6
   by_cases c8 : (l1.length : Int) > 300
   ·rw [if_pos c8] at H
    have c8b0 : decide (300 < (l1.length : Int)) = true := decide_eq_true c8
    have c8b1 : decide (300 < l1.length) = true := decide_eq_true (by omega)
    clear c8
    obtain rfl := Option.some.inj H
    go_enter Try.func4, Try.ntmps4
    try simp only [List.append]
    go_wp2_with (first | ((with_reducible refine gate_callee (f := 8) rfl ?_); refine goesL_ (some 16) rfl rfl Try.func8 (by kernel_rfl) rfl #[] rfl (by (try simp only [List.map_toArray, List.map_cons, List.map_nil]); first | done | rfl | (simp only [List.length_drop, List.length_take]; rfl)) ?_; (with_reducible refine (drawlotlaw24_alive.calls k  true _ A4.out).mono ?_); rintro e w9 ⟨rfl, hb⟩; refine ⟨_, rfl, ?_⟩; have n0_ := Aside0.mk (below_step (by repeat (first | (with_reducible first | exact HB.out | apply below_alloc | apply pw_below_drewN | apply below_drew1) | exact HB.out)) hb); clear HB; have HB := n0_; clear n0_; (try clear hb); (try clear hb2); (try clear hk); (try clear hi)))
    go_ret
    exact ⟨by first | rfl | (simp [errW_none, errW_some] <;> rfl) | (simp [*, errW_none, errW_some] <;> rfl), by repeat (first | (with_reducible first | exact HB.out | apply below_alloc | apply pw_below_drewN | apply below_drew1) | exact HB.out)⟩
   ·rw [if_neg c8] at H
    have c8b0 : decide (300 < (l1.length : Int)) = false := decide_eq_false c8
    have c8b1 : decide (300 < l1.length) = false := decide_eq_false (by omega)
    clear c8
    replace H := Option.bind_eq_some_iff.mp H
    obtain ⟨⟨t342, t343⟩, A100, H⟩ := H
    replace H : ((drawlotref24_Encode.f k l0).bind fun bt346 => ((op_Size.f a2).bind fun bt350 => ((drawlotref24_Size.f k a2).bind fun bt352 => (drawlotlaw24_OpEncodes.l0 k l0 l1 t342 t343 bt346.1 bt346.2 bt350.1 bt350.2 bt352.1 bt352.2 0)))) = some r := H
    have A10 := Aside0.mk A100
    clear A100
    replace H := Option.bind_eq_some_iff.mp H
    obtain ⟨⟨t346, t347⟩, A110, H⟩ := H
    replace H : ((op_Size.f a2).bind fun bt350 => ((drawlotref24_Size.f k a2).bind fun bt352 => (drawlotlaw24_OpEncodes.l0 k l0 l1 t342 t343 t346 t347 bt350.1 bt350.2 bt352.1 bt352.2 0))) = some r := H
    have A11 := Aside0.mk A110
    clear A110
    replace H := Option.bind_eq_some_iff.mp H
    obtain ⟨⟨t350, t351⟩, A120, H⟩ := H
    replace H : ((drawlotref24_Size.f k a2).bind fun bt352 => (drawlotlaw24_OpEncodes.l0 k l0 l1 t342 t343 t346 t347 t350 t351 bt352.1 bt352.2 0)) = some r := H
    have A12 := Aside0.mk A120
    clear A120
    replace H := Option.bind_eq_some_iff.mp H
    obtain ⟨⟨t352, t353⟩, A130, H⟩ := H
    replace H : (drawlotlaw24_OpEncodes.l0 k l0 l1 t342 t343 t346 t347 t350 t351 t352 t353 0) = some r := H
    have A13 := Aside0.mk A130
    clear A130
    have H' := Aside0.mk H
    clear H
    go_enter Try.func4, Try.ntmps4
    try simp only [List.append]
    go_wp2_with (first | ((with_reducible refine gate_callee (f := 8) rfl ?_); refine goesL_ (some 16) rfl rfl Try.func8 (by kernel_rfl) rfl #[] rfl (by (try simp only [List.map_toArray, List.map_cons, List.map_nil]); first | done | rfl | (simp only [List.length_drop, List.length_take]; rfl)) ?_; (with_reducible refine (drawlotlaw24_alive.calls k  true _ A4.out).mono ?_); rintro e w14 ⟨rfl, hb⟩; refine ⟨_, rfl, ?_⟩; have n0_ := Aside0.mk (below_step (by repeat (first | (with_reducible first | exact HB.out | apply below_alloc | apply pw_below_drewN | apply below_drew1) | exact HB.out)) hb); clear HB; have HB := n0_; clear n0_; (try clear hb); (try clear hb2); (try clear hk); (try clear hi)) | ((with_reducible refine gate_callee (f := 12) rfl ?_); refine goesL_ (some 28) rfl rfl Try.func12 (by kernel_rfl) rfl #[.slice A0 l0.length c0] rfl (by (try simp only [List.map_toArray, List.map_cons, List.map_nil]); first | done | rfl | (simp only [List.length_drop, List.length_take]; rfl)) ?_; (with_reducible refine (op_Encode.calls k _ _ l0 t342 t343 _ ?side1 ?side2 A10.out).mono ?_); (case side1 => repeat (first | exact (Kd.C_below HR0.out HB.out) | (with_reducible refine Kd.C_alloc ?_ _) | (with_reducible refine Kd.C_drewN ?_ _) | (with_reducible refine Kd.C_drew ?_))); (case side2 => exact HC0.out); rintro e w15 ⟨v344, rfl, ho0, hb⟩; refine ⟨_, rfl, ?_⟩; have n0_ := Aside0.mk (Kd.R_lower ho0 (below_size (by repeat (first | (with_reducible first | exact HB.out | apply below_alloc | apply pw_below_drewN | apply below_drew1) | exact HB.out)))); have n1_ := Aside0.mk (below_step (by repeat (first | (with_reducible first | exact HB.out | apply below_alloc | apply pw_below_drewN | apply below_drew1) | exact HB.out)) hb); clear HB; have HO345 := n0_; have HB := n1_; clear n0_ n1_; (try clear hb); (try clear hb2); (try clear hk); (try clear hi); (try clear ho0)) | ((with_reducible refine gate_callee (f := 13) rfl ?_); refine goesL_ (some 33) rfl rfl Try.func13 (by kernel_rfl) rfl #[.slice A0 l0.length c0] rfl (by (try simp only [List.map_toArray, List.map_cons, List.map_nil]); first | done | rfl | (simp only [List.length_drop, List.length_take]; rfl)) ?_; (with_reducible refine (drawlotref24_Encode.calls k _ _ l0 t346 t347 _ ?side1 ?side2 A11.out).mono ?_); (case side1 => repeat (first | exact (Kd.C_below HR0.out HB.out) | (with_reducible refine Kd.C_alloc ?_ _) | (with_reducible refine Kd.C_drewN ?_ _) | (with_reducible refine Kd.C_drew ?_))); (case side2 => exact HC0.out); rintro e w16 ⟨v348, rfl, ho0, hb⟩; refine ⟨_, rfl, ?_⟩; have n0_ := Aside0.mk (Kd.R_elder' (by (with_reducible repeat (first | apply Kd.R_alloc | apply Kd.R_drewN | apply Kd.R_drew)); exact HO345.out) (Kd.R_base ho0) hb); have n1_ := Aside0.mk (Kd.R_lower (Kd.R_new' ho0 (Kd.R_lt (by (with_reducible repeat (first | apply Kd.R_alloc | apply Kd.R_drewN | apply Kd.R_drew)); exact HO345.out))) (below_size (by repeat (first | (with_reducible first | exact HB.out | apply below_alloc | apply pw_below_drewN | apply below_drew1) | exact HB.out)))); have n2_ := Aside0.mk (below_step (by repeat (first | (with_reducible first | exact HB.out | apply below_alloc | apply pw_below_drewN | apply below_drew1) | exact HB.out)) hb); clear HO345; clear HB; have HO345 := n0_; have HO349 := n1_; have HB := n2_; clear n0_ n1_ n2_; (try clear hb); (try clear hb2); (try clear hk); (try clear hi); (try clear ho0)) | ((with_reducible refine gate_callee (f := 14) rfl ?_); refine goesL_ (some 38) rfl rfl Try.func14 (by kernel_rfl) rfl #[.int .i64 a2] rfl (by (try simp only [List.map_toArray, List.map_cons, List.map_nil]); first | done | rfl | (simp only [List.length_drop, List.length_take]; rfl)) ?_; (with_reducible refine (op_Size.calls a2 t350 t351 _ A12.out).mono ?_); rintro e w17 ⟨rfl, hb⟩; refine ⟨_, rfl, ?_⟩; have n0_ := Aside0.mk (Kd.R_below (by (with_reducible repeat (first | apply Kd.R_alloc | apply Kd.R_drewN | apply Kd.R_drew)); exact HO345.out) hb); have n1_ := Aside0.mk (Kd.R_below (by (with_reducible repeat (first | apply Kd.R_alloc | apply Kd.R_drewN | apply Kd.R_drew)); exact HO349.out) hb); have n2_ := Aside0.mk (below_step (by repeat (first | (with_reducible first | exact HB.out | apply below_alloc | apply pw_below_drewN | apply below_drew1) | exact HB.out)) hb); clear HO345; clear HO349; clear HB; have HO345 := n0_; have HO349 := n1_; have HB := n2_; clear n0_ n1_ n2_; (try clear hb); (try clear hb2); (try clear hk); (try clear hi)) | ((with_reducible refine gate_callee (f := 15) rfl ?_); refine goesL_ (some 43) rfl rfl Try.func15 (by kernel_rfl) rfl #[.int .i64 a2] rfl (by (try simp only [List.map_toArray, List.map_cons, List.map_nil]); first | done | rfl | (simp only [List.length_drop, List.length_take]; rfl)) ?_; (with_reducible refine (drawlotref24_Size.calls k a2 t352 t353 _ A13.out).mono ?_); rintro e w' ⟨rfl, ⟨nd, rfl⟩⟩; refine ⟨_, rfl, ?_⟩))
    go_loopg [15] k (fun kq v15 w' => ∃ (x15_1 : Int), v15 = .int .i64 x15_1 ∧ Aside0 (drawlotlaw24_OpEncodes.l0 kq l0 l1 t342 t343 t346 t347 t350 t351 t352 t353 x15_1 = some r) ∧ Aside0 (kq ≤ k) ∧ Aside0 (Kd.R (Kd.int .u8) 5 w' w.heap.size (fun k_ => some k_ ≠ (v348 : Value).ownBlock) v344 t342) ∧ Aside0 (Kd.R (Kd.int .u8) 5 w' w.heap.size (fun k_ => some k_ ≠ (v344 : Value).ownBlock) v348 t346) ∧ Aside0 (Below w.heap.size w w'))
    case atStart => exact ⟨(0), (by first | rfl | (simp; done) | (simp [*]; done)), H', ⟨Nat.le_refl _⟩, ⟨by (with_reducible repeat (first | apply Kd.R_alloc | apply Kd.R_drewN | apply Kd.R_drew)); exact Kd.R_mono HO345.out (fun _ hk => hk.2)⟩, ⟨by (with_reducible repeat (first | apply Kd.R_alloc | apply Kd.R_drewN | apply Kd.R_drew)); exact Kd.R_mono HO349.out (fun _ hk => hk.2)⟩, ⟨by repeat (first | (with_reducible first | exact HB.out | apply below_alloc | apply pw_below_drewN | apply below_drew1) | exact HB.out)⟩⟩
    case round =>
     clear H'
     try clear c1
     try clear p2
     try clear c4
     try clear c5
     try clear c6
     try clear c6b0
     try clear c6b1
     try clear c8
     try clear c8b0
     try clear c8b1
     try clear c12
     try clear c13
     try clear c14
     try clear c15
     obtain ⟨x15_1, rfl, HA, HK1, HO_7, HO_9, HB⟩ := hrel
     cases gk with
     | zero => exact absurd HA.out (by simp [drawlotlaw24_OpEncodes.l0])
     | succ k1 =>
      have H := HA.out
      clear HA
      simp only [drawlotlaw24_OpEncodes.l0] at H
      by_cases c18 : x15_1 < (l0.length : Int)
      ·rw [if_pos c18] at H
       have c18b0 : decide (x15_1 < (l0.length : Int)) = true := decide_eq_true c18
       clear c18
       by_cases c19 : 0 ≤ x15_1
       ·rw [if_pos c19] at H
        have c19b0 : decide (0 ≤ x15_1) = true := decide_eq_true c19
        clear c19
        replace H := Option.bind_eq_some_iff.mp H
        obtain ⟨t355, A200, H⟩ := H
        replace H : ((drawlotref24_Right.f k1 ((rd_T39 l0 x15_1).f0) ((rd_T39 l0 x15_1).f1) ((rd_T39 l0 x15_1).f2) ((rd_T39 l0 x15_1).f3) ((rd_T39 l0 x15_1).f4)).bind fun t357 => (if (t355 != t357) = true then (none) else (drawlotlaw24_OpEncodes.l0 k1 l0 l1 t342 t343 t346 t347 t350 t351 t352 t353 (wrap64 (x15_1 + 1))))) = some r := H
        have A20 := Aside0.mk A200
        clear A200
        replace H := Option.bind_eq_some_iff.mp H
        obtain ⟨t357, A210, H⟩ := H
        replace H : (if (t355 != t357) = true then (none) else (drawlotlaw24_OpEncodes.l0 k1 l0 l1 t342 t343 t346 t347 t350 t351 t352 t353 (wrap64 (x15_1 + 1)))) = some r := H
        have A21 := Aside0.mk A210
        clear A210
        by_cases c22 : (t355 != t357) = true
        ·rw [if_pos c22] at H
         exact absurd H (by simp)
        ·rw [if_neg c22] at H
         have c22b0 : (t355 != t357) = false := by simpa using c22
         (try (have c22b1 : decide (t355 = t357) = true := by simpa using c22))
         (try (have c22b2 : (t355 == t357) = true := by simpa using c22))
         clear c22
         have H' := Aside0.mk H
         clear H
         try go_wp2
         have n0_ := Aside0.mk (Kd.R_drew HO_7.out)
         have n1_ := Aside0.mk (Kd.R_drew HO_9.out)
         have n2_ := Aside0.mk (below_drew1 HB.out)
         clear HO_7
         clear HO_9
         clear HB
         have HO_7 := n0_
         have HO_9 := n1_
         have HB := n2_
         clear n0_ n1_ n2_
         have p354 : 0 ≤ (x15_1 : Int) := of_decide_eq_true (by first | (with_reducible assumption) | assumption)
         have q354 : x15_1 < (l0.length : Int) := of_decide_eq_true (by first | (with_reducible assumption) | assumption)
         obtain ⟨ad354, e354, hx354_0, hx354_1, hx354_2, hx354_3, hx354_4⟩ := at_T39 HR0.out x15_1 p354 q354
         have hw354_4 := hx354_4
         have hw354_3 := hx354_3
         have hw354_2 := hx354_2
         have hw354_1 := hx354_1
         have hw354_0 := hx354_0
         cases e354
         replace hx354_0 := (HB.out.cell (World.block_lt_of_cell? w _ hx354_0)).trans hx354_0
         replace hx354_1 := (HB.out.cell (World.block_lt_of_cell? w _ hx354_1)).trans hx354_1
         replace hx354_2 := (HB.out.cell (World.block_lt_of_cell? w _ hx354_2)).trans hx354_2
         replace hx354_3 := (fun (j_ : Nat) (u_ : Value) hj_ => (HB.out.cell (World.block_lt_of_cell? w _ (hx354_3 j_ u_ hj_))).trans (hx354_3 j_ u_ hj_))
         replace hx354_4 := (HB.out.cell (World.block_lt_of_cell? w _ hx354_4)).trans hx354_4
         replace p354 := eq_true p354
         replace q354 := eq_true q354
         have p356 : 0 ≤ (x15_1 : Int) := of_decide_eq_true (by first | (with_reducible assumption) | assumption)
         have q356 : x15_1 < (l0.length : Int) := of_decide_eq_true (by first | (with_reducible assumption) | assumption)
         obtain ⟨ad356, e356, hx356_0, hx356_1, hx356_2, hx356_3, hx356_4⟩ := at_T39 HR0.out x15_1 p356 q356
         have hw356_4 := hx356_4
         have hw356_3 := hx356_3
         have hw356_2 := hx356_2
         have hw356_1 := hx356_1
         have hw356_0 := hx356_0
         obtain rfl : ad354 = ad356 := (by injection e356)
         replace hx356_0 := (HB.out.cell (World.block_lt_of_cell? w _ hx356_0)).trans hx356_0
         replace hx356_1 := (HB.out.cell (World.block_lt_of_cell? w _ hx356_1)).trans hx356_1
         replace hx356_2 := (HB.out.cell (World.block_lt_of_cell? w _ hx356_2)).trans hx356_2
         replace hx356_3 := (fun (j_ : Nat) (u_ : Value) hj_ => (HB.out.cell (World.block_lt_of_cell? w _ (hx356_3 j_ u_ hj_))).trans (hx356_3 j_ u_ hj_))
         replace hx356_4 := (HB.out.cell (World.block_lt_of_cell? w _ hx356_4)).trans hx356_4
         replace p356 := eq_true p356
         replace q356 := eq_true q356
         refine start_ (n := 11) (S := fun w' => w'.cell? (ad354.add ((x15_1).toNat * 36)) = some (.int .i64 ((rd_T39 l0 x15_1).f0)) ∧ w'.cell? ⟨(ad354.add ((x15_1).toNat * 36)).block, (ad354.add ((x15_1).toNat * 36)).off + 1, none⟩ = some (.int .i64 ((rd_T39 l0 x15_1).f1)) ∧ w'.cell? ⟨(ad354.add ((x15_1).toNat * 36)).block, (ad354.add ((x15_1).toNat * 36)).off + 2, none⟩ = some (.int .u64 ((rd_T39 l0 x15_1).f2)) ∧ (∀ (j_ : Nat) (u_ : Value), ((#[.int .i64 ((rd_T39 l0 x15_1).f0), .int .i64 ((rd_T39 l0 x15_1).f1), .int .u64 ((rd_T39 l0 x15_1).f2)] ++ (Ar.cells .u8 32 ((rd_T39 l0 x15_1).f3) ++ #[.int .i64 ((rd_T39 l0 x15_1).f4)])) : Array Value).toList[j_]? = some u_ → w'.cell? (ad354.add ((x15_1).toNat * 36 + j_)) = some u_) ∧ w'.cell? ⟨(ad354.add ((x15_1).toNat * 36)).block, (ad354.add ((x15_1).toNat * 36)).off + 35, none⟩ = some (.int .i64 ((rd_T39 l0 x15_1).f4)) ∧ w'.cell? (ad354.add ((x15_1).toNat * 36)) = some (.int .i64 ((rd_T39 l0 x15_1).f0)) ∧ w'.cell? ⟨(ad354.add ((x15_1).toNat * 36)).block, (ad354.add ((x15_1).toNat * 36)).off + 1, none⟩ = some (.int .i64 ((rd_T39 l0 x15_1).f1)) ∧ w'.cell? ⟨(ad354.add ((x15_1).toNat * 36)).block, (ad354.add ((x15_1).toNat * 36)).off + 2, none⟩ = some (.int .u64 ((rd_T39 l0 x15_1).f2)) ∧ (∀ (j_ : Nat) (u_ : Value), ((#[.int .i64 ((rd_T39 l0 x15_1).f0), .int .i64 ((rd_T39 l0 x15_1).f1), .int .u64 ((rd_T39 l0 x15_1).f2)] ++ (Ar.cells .u8 32 ((rd_T39 l0 x15_1).f3) ++ #[.int .i64 ((rd_T39 l0 x15_1).f4)])) : Array Value).toList[j_]? = some u_ → w'.cell? (ad354.add ((x15_1).toNat * 36 + j_)) = some u_) ∧ w'.cell? ⟨(ad354.add ((x15_1).toNat * 36)).block, (ad354.add ((x15_1).toNat * 36)).off + 35, none⟩ = some (.int .i64 ((rd_T39 l0 x15_1).f4))) (ds := []) #[false, false, false, false, false, false, false, false, false, false, false] (by kernel_rfl) rfl rfl ⟨((HB.out.cell (World.block_lt_of_cell? w _ hw354_0)).trans hw354_0), ((HB.out.cell (World.block_lt_of_cell? w _ hw354_1)).trans hw354_1), ((HB.out.cell (World.block_lt_of_cell? w _ hw354_2)).trans hw354_2), (fun (j_ : Nat) (u_ : Value) hj_ => (HB.out.cell (World.block_lt_of_cell? w _ (hw354_3 j_ u_ hj_))).trans (hw354_3 j_ u_ hj_)), ((HB.out.cell (World.block_lt_of_cell? w _ hw354_4)).trans hw354_4), ((HB.out.cell (World.block_lt_of_cell? w _ hw356_0)).trans hw356_0), ((HB.out.cell (World.block_lt_of_cell? w _ hw356_1)).trans hw356_1), ((HB.out.cell (World.block_lt_of_cell? w _ hw356_2)).trans hw356_2), (fun (j_ : Nat) (u_ : Value) hj_ => (HB.out.cell (World.block_lt_of_cell? w _ (hw356_3 j_ u_ hj_))).trans (hw356_3 j_ u_ hj_)), ((HB.out.cell (World.block_lt_of_cell? w _ hw356_4)).trans hw356_4)⟩ (fun hHeld => ?_); refine with_tabW drawlotlaw24_OpEncodes.tab12 drawlotlaw24_OpEncodes.bits12 (fun HT_ HW_ => ?_)
         generalize wr.drew = w23 at HO_7 HO_9 HB hx354_0 hx354_1 hx354_2 hx354_3 hx354_4 hx356_0 hx356_1 hx356_2 hx356_3 hx356_4 hHeld ⊢
         refine pure_ (i := 0) (N := some 52) (v := ?_) (a' := ?_) #[true, false, false, false, false, false, false, false, false, false, false] rfl rfl (any_of HT_.out (by kernel_rfl)) (fun _ _ _ h => h) (Or.inl ⟨by rfl, ?_⟩) ?_ ?_
         rotate_left
         ·intro w'
          go_simp
          with_reducible rfl
         rotate_left
         ·simp only [Act.put, List.setIfInBounds_toArray, List.set_cons_zero, List.set_cons_succ, i64_w, i32_w]
          rfl
         refine pure_ (i := 1) (N := some 53) (v := ?_) (a' := ?_) #[true, true, false, false, false, false, false, false, false, false, false] rfl rfl (any_of HT_.out (by kernel_rfl)) (fun _ _ _ h => h) (Or.inl ⟨by rfl, ?_⟩) ?_ ?_
         rotate_left
         ·intro w'
          go_simp
          with_reducible rfl
         rotate_left
         ·simp only [Act.put, List.setIfInBounds_toArray, List.set_cons_zero, List.set_cons_succ, i64_w, i32_w]
          rfl
         refine pure_ (i := 2) (N := some 54) (v := ?_) (a' := ?_) #[true, true, true, false, false, false, false, false, false, false, false] rfl rfl (any_of HT_.out (by kernel_rfl)) (fun _ _ _ h => h) (Or.inl ⟨by rfl, ?_⟩) ?_ ?_
         rotate_left
         ·intro w'
          go_simp
          with_reducible rfl
         rotate_left
         ·simp only [Act.put, List.setIfInBounds_toArray, List.set_cons_zero, List.set_cons_succ, i64_w, i32_w]
          rfl
         refine pure_ (i := 5) (N := some 57) (v := ?_) (a' := ?_) #[true, true, true, false, false, true, false, false, false, false, false] rfl rfl (any_of HT_.out (by kernel_rfl)) (fun _ _ _ h => h) (Or.inl ⟨by rfl, ?_⟩) ?_ ?_
         rotate_left
         ·intro w'
          go_simp
          with_reducible rfl
         rotate_left
         ·simp only [Act.put, List.setIfInBounds_toArray, List.set_cons_zero, List.set_cons_succ, i64_w, i32_w]
          rfl
         refine pure_ (i := 6) (N := some 58) (v := ?_) (a' := ?_) #[true, true, true, false, false, true, true, false, false, false, false] rfl rfl (any_of HT_.out (by kernel_rfl)) (fun _ _ _ h => h) (Or.inl ⟨by rfl, ?_⟩) ?_ ?_
         rotate_left
         ·intro w'
          go_simp
          with_reducible rfl
         rotate_left
         ·simp only [Act.put, List.setIfInBounds_toArray, List.set_cons_zero, List.set_cons_succ, i64_w, i32_w]
          rfl
         refine pure_ (i := 7) (N := some 59) (v := ?_) (a' := ?_) #[true, true, true, false, false, true, true, true, false, false, false] rfl rfl (any_of HT_.out (by kernel_rfl)) (fun _ _ _ h => h) (Or.inl ⟨by rfl, ?_⟩) ?_ ?_
         rotate_left
         ·intro w'
          go_simp
          with_reducible rfl
         rotate_left
         ·simp only [Act.put, List.setIfInBounds_toArray, List.set_cons_zero, List.set_cons_succ, i64_w, i32_w]
          rfl
         refine take_ (i := 3) (N := some 55) (v := ?_) (a' := ?_) #[true, true, true, true, false, true, true, true, false, false, false] rfl rfl (take_ofW HT_.out HW_.out (by kernel_rfl)) (fun _ _ _ h => h) (Or.inl ⟨by rfl, ?_⟩) hHeld ?_ ?_
         rotate_left
         ·rintro w' ⟨s0, s1, s2, s3, s4, s5, s6, s7, s8, s9⟩
          first | (refine (Ar.gload_run rfl Try.underlying39 rfl (D := (#[.int .i64 ((rd_T39 l0 x15_1).f0), .int .i64 ((rd_T39 l0 x15_1).f1), .int .u64 ((rd_T39 l0 x15_1).f2)] ++ ((Ar.cells .u8 32 ((rd_T39 l0 x15_1).f3)) ++ #[.int .i64 ((rd_T39 l0 x15_1).f4)]))) (by first | (rw [Ar.cells_size]; kernel_rfl) | (simp only [Array.size_append, Ar.cells_size, List.size_toArray, List.length_cons, List.length_nil]; kernel_rfl)) rfl (Ar.elem_part0 (by assumption) Ar.in_whole)).trans ?_; with_reducible rfl) | (go_simp; with_reducible rfl)
         rotate_left
         ·simp only [Act.put, List.setIfInBounds_toArray, List.set_cons_zero, List.set_cons_succ, i64_w, i32_w]
          rfl
         refine take_ (i := 8) (N := some 60) (v := ?_) (a' := ?_) #[true, true, true, true, false, true, true, true, true, false, false] rfl rfl (take_ofW HT_.out HW_.out (by kernel_rfl)) (fun _ _ _ h => h) (Or.inl ⟨by rfl, ?_⟩) hHeld ?_ ?_
         rotate_left
         ·rintro w' ⟨s0, s1, s2, s3, s4, s5, s6, s7, s8, s9⟩
          first | (refine (Ar.gload_run rfl Try.underlying39 rfl (D := (#[.int .i64 ((rd_T39 l0 x15_1).f0), .int .i64 ((rd_T39 l0 x15_1).f1), .int .u64 ((rd_T39 l0 x15_1).f2)] ++ ((Ar.cells .u8 32 ((rd_T39 l0 x15_1).f3)) ++ #[.int .i64 ((rd_T39 l0 x15_1).f4)]))) (by first | (rw [Ar.cells_size]; kernel_rfl) | (simp only [Array.size_append, Ar.cells_size, List.size_toArray, List.length_cons, List.length_nil]; kernel_rfl)) rfl (Ar.elem_part0 (by assumption) Ar.in_whole)).trans ?_; with_reducible rfl) | (go_simp; with_reducible rfl)
         rotate_left
         ·simp only [Act.put, List.setIfInBounds_toArray, List.set_cons_zero, List.set_cons_succ, i64_w, i32_w]
          rfl
         refine one_ (i := 4) (N := some 56) #[true, true, true, true, true, true, true, true, true, false, false] rfl rfl (one_of HT_.out (by kernel_rfl)) (by decide) (fun K hK => ?_)
         refine goes_ Try.func16 (by kernel_rfl) rfl #[.agg (#[.int .i64 ((rd_T39 l0 x15_1).f0), .int .i64 ((rd_T39 l0 x15_1).f1), .int .u64 ((rd_T39 l0 x15_1).f2)] ++ ((Ar.cells .u8 32 ((rd_T39 l0 x15_1).f3)) ++ #[.int .i64 ((rd_T39 l0 x15_1).f4)]))] (by rfl) rfl rfl (by (try simp only [List.map_toArray, List.map_cons, List.map_nil]); first | done | rfl | (simp only [List.length_drop, List.length_take]; rfl)) ?_
         with_reducible refine (op_Right.calls k1 ((rd_T39 l0 x15_1).f0) ((rd_T39 l0 x15_1).f1) ((rd_T39 l0 x15_1).f2) ((rd_T39 l0 x15_1).f3) ((rd_T39 l0 x15_1).f4) t355 _ A20.out).mono ?_
         rintro e w24 ⟨rfl, hb⟩
         refine ⟨_, rfl, ?_⟩
         have n0_ := Aside0.mk (Kd.R_below (by (with_reducible repeat (first | apply Kd.R_alloc | apply Kd.R_drewN | apply Kd.R_drew)); exact HO_7.out) hb)
         have n1_ := Aside0.mk (Kd.R_below (by (with_reducible repeat (first | apply Kd.R_alloc | apply Kd.R_drewN | apply Kd.R_drew)); exact HO_9.out) hb)
         have n2_ := Aside0.mk (below_step (by repeat (first | (with_reducible first | exact HB.out | apply below_alloc | apply pw_below_drewN | apply below_drew1) | exact HB.out)) hb)
         clear HO_7
         clear HO_9
         clear HB
         have HO_7 := n0_
         have HO_9 := n1_
         have HB := n2_
         clear n0_ n1_ n2_
         (try clear hb)
         (try clear hb2)
         (try clear hk)
         (try clear hi)
         refine hK.out _ _ ⟨((HB.out.cell (World.block_lt_of_cell? w _ hw354_0)).trans hw354_0), ((HB.out.cell (World.block_lt_of_cell? w _ hw354_1)).trans hw354_1), ((HB.out.cell (World.block_lt_of_cell? w _ hw354_2)).trans hw354_2), (fun (j_ : Nat) (u_ : Value) hj_ => (HB.out.cell (World.block_lt_of_cell? w _ (hw354_3 j_ u_ hj_))).trans (hw354_3 j_ u_ hj_)), ((HB.out.cell (World.block_lt_of_cell? w _ hw354_4)).trans hw354_4), ((HB.out.cell (World.block_lt_of_cell? w _ hw356_0)).trans hw356_0), ((HB.out.cell (World.block_lt_of_cell? w _ hw356_1)).trans hw356_1), ((HB.out.cell (World.block_lt_of_cell? w _ hw356_2)).trans hw356_2), (fun (j_ : Nat) (u_ : Value) hj_ => (HB.out.cell (World.block_lt_of_cell? w _ (hw356_3 j_ u_ hj_))).trans (hw356_3 j_ u_ hj_)), ((HB.out.cell (World.block_lt_of_cell? w _ hw356_4)).trans hw356_4)⟩ (fun hHeld => ?_)
         clear hK K
         refine norm_ (a' := ?_) ?_ ?_
         rotate_left
         ·show Act.put _ (some 56) _ = _
          simp only [Act.put, List.setIfInBounds_toArray, List.set_cons_zero, List.set_cons_succ, i64_w, i32_w]
          rfl
         refine one_ (i := 9) (N := some 61) #[true, true, true, true, true, true, true, true, true, true, false] rfl rfl (one_of HT_.out (by kernel_rfl)) (by decide) (fun K hK => ?_)
         refine goes_ Try.func17 (by kernel_rfl) rfl #[.agg (#[.int .i64 ((rd_T39 l0 x15_1).f0), .int .i64 ((rd_T39 l0 x15_1).f1), .int .u64 ((rd_T39 l0 x15_1).f2)] ++ ((Ar.cells .u8 32 ((rd_T39 l0 x15_1).f3)) ++ #[.int .i64 ((rd_T39 l0 x15_1).f4)]))] (by rfl) rfl rfl (by (try simp only [List.map_toArray, List.map_cons, List.map_nil]); first | done | rfl | (simp only [List.length_drop, List.length_take]; rfl)) ?_
         with_reducible refine (drawlotref24_Right.calls k1 ((rd_T39 l0 x15_1).f0) ((rd_T39 l0 x15_1).f1) ((rd_T39 l0 x15_1).f2) ((rd_T39 l0 x15_1).f3) ((rd_T39 l0 x15_1).f4) t357 _ A21.out).mono ?_
         rintro e w25 ⟨rfl, hb⟩
         refine ⟨_, rfl, ?_⟩
         have n0_ := Aside0.mk (Kd.R_below (by (with_reducible repeat (first | apply Kd.R_alloc | apply Kd.R_drewN | apply Kd.R_drew)); exact HO_7.out) hb)
         have n1_ := Aside0.mk (Kd.R_below (by (with_reducible repeat (first | apply Kd.R_alloc | apply Kd.R_drewN | apply Kd.R_drew)); exact HO_9.out) hb)
         have n2_ := Aside0.mk (below_step (by repeat (first | (with_reducible first | exact HB.out | apply below_alloc | apply pw_below_drewN | apply below_drew1) | exact HB.out)) hb)
         clear HO_7
         clear HO_9
         clear HB
         have HO_7 := n0_
         have HO_9 := n1_
         have HB := n2_
         clear n0_ n1_ n2_
         (try clear hb)
         (try clear hb2)
         (try clear hk)
         (try clear hi)
         refine hK.out _ _ ⟨((HB.out.cell (World.block_lt_of_cell? w _ hw354_0)).trans hw354_0), ((HB.out.cell (World.block_lt_of_cell? w _ hw354_1)).trans hw354_1), ((HB.out.cell (World.block_lt_of_cell? w _ hw354_2)).trans hw354_2), (fun (j_ : Nat) (u_ : Value) hj_ => (HB.out.cell (World.block_lt_of_cell? w _ (hw354_3 j_ u_ hj_))).trans (hw354_3 j_ u_ hj_)), ((HB.out.cell (World.block_lt_of_cell? w _ hw354_4)).trans hw354_4), ((HB.out.cell (World.block_lt_of_cell? w _ hw356_0)).trans hw356_0), ((HB.out.cell (World.block_lt_of_cell? w _ hw356_1)).trans hw356_1), ((HB.out.cell (World.block_lt_of_cell? w _ hw356_2)).trans hw356_2), (fun (j_ : Nat) (u_ : Value) hj_ => (HB.out.cell (World.block_lt_of_cell? w _ (hw356_3 j_ u_ hj_))).trans (hw356_3 j_ u_ hj_)), ((HB.out.cell (World.block_lt_of_cell? w _ hw356_4)).trans hw356_4)⟩ (fun hHeld => ?_)
         clear hK K
         refine norm_ (a' := ?_) ?_ ?_
         rotate_left
         ·show Act.put _ (some 61) _ = _
          simp only [Act.put, List.setIfInBounds_toArray, List.set_cons_zero, List.set_cons_succ, i64_w, i32_w]
          rfl
         refine pure_ (i := 10) (N := some 62) (v := ?_) (a' := ?_) #[true, true, true, true, true, true, true, true, true, true, true] rfl rfl (any_of HT_.out (by kernel_rfl)) (fun _ _ _ h => h) (Or.inl ⟨by rfl, ?_⟩) ?_ ?_
         rotate_left
         ·intro w'
          go_simp
          with_reducible rfl
         rotate_left
         ·simp only [Act.put, List.setIfInBounds_toArray, List.set_cons_zero, List.set_cons_succ, i64_w, i32_w]
          rfl
         refine done_ (done_of HT_.out (by kernel_rfl)) ?_
         try go_wp2
         go_roundg k1
         case measure => have := HK1.out; omega
         case rel => exact ⟨(wrap64 (x15_1 + 1)), (by first | rfl | (simp; done) | (simp [*]; done)), H', ⟨by have := HK1.out; omega⟩, ⟨by (with_reducible repeat (first | apply Kd.R_alloc | apply Kd.R_drewN | apply Kd.R_drew)); exact HO_7.out⟩, ⟨by (with_reducible repeat (first | apply Kd.R_alloc | apply Kd.R_drewN | apply Kd.R_drew)); exact HO_9.out⟩, ⟨by repeat (first | (with_reducible first | exact HB.out | apply below_alloc | apply pw_below_drewN | apply below_drew1) | exact HB.out)⟩⟩
       ·rw [if_neg c19] at H
        exact absurd H (by simp)
      ·rw [if_neg c18] at H
       have c18b0 : decide (x15_1 < (l0.length : Int)) = false := decide_eq_false c18
       clear c18
       by_cases c26 : (strOfNums t342).toList = (strOfNums t346).toList
       ·rw [if_pos c26] at H
        have c26b0 : ((strOfNums t342).toList == (strOfNums t346).toList) = true := beq_iff_eq.mpr c26
        have c26b1 : ((strOfNums t342).toList != (strOfNums t346).toList) = false := bne_eq_false_iff_eq.mpr c26
        clear c26
        by_cases c27 : t343 = t347
        ·rw [if_pos c27] at H
         have c27b0 : (t343 == t347) = true := beq_iff_eq.mpr c27
         have c27b1 : (t343 != t347) = false := bne_eq_false_iff_eq.mpr c27
         clear c27
         by_cases c28 : t350 = t352
         ·rw [if_pos c28] at H
          have c28b0 : (t350 == t352) = true := beq_iff_eq.mpr c28
          have c28b1 : (t350 != t352) = false := bne_eq_false_iff_eq.mpr c28
          clear c28
          by_cases c29 : (t351 == t353) = true
          ·rw [if_pos c29] at H
           have c29b0 : (t351 == t353) = true := c29
           (try (have c29b1 : decide (t351 = t353) = true := by simpa using c29))
           (try (have c29b2 : (t351 == t353) = true := by simpa using c29))
           clear c29
           replace H := Option.bind_eq_some_iff.mp H
           obtain ⟨t358, A300, H⟩ := H
           replace H : ((drawlotref24_Same.f k1 l0 l1).bind fun t359 => (some (t358 == t359))) = some r := H
           have A30 := Aside0.mk A300
           clear A300
           replace H := Option.bind_eq_some_iff.mp H
           obtain ⟨t359, A310, H⟩ := H
           replace H : (some (t358 == t359)) = some r := H
           have A31 := Aside0.mk A310
           clear A310
           obtain rfl := Option.some.inj H
           have hcv32 := own_string (P := Try.prog) Try.underlying22 Try.underlying5 Try.underlying9 (Kd.own_of_R HO_7.out)
           have hcv33 := fun (n_ : Nat) => own_string (P := Try.prog) Try.underlying22 Try.underlying5 Try.underlying9 (Kd.own_of_R (Kd.R_drewN HO_7.out n_))
           have hcv34 := own_string (P := Try.prog) Try.underlying22 Try.underlying5 Try.underlying9 (Kd.own_of_R HO_9.out)
           have hcv35 := fun (n_ : Nat) => own_string (P := Try.prog) Try.underlying22 Try.underlying5 Try.underlying9 (Kd.own_of_R (Kd.R_drewN HO_9.out n_))
           go_wp2_with (first | (go_at_call 18; (with_reducible refine (op_Same.calls k1 _ _ l0 _ _ l1 t358 _ ?side1 ?side2 ?side3 ?side4 A30.out).mono ?_); (case side1 => repeat (first | exact (Kd.C_below HR0.out HB.out) | (with_reducible refine Kd.C_alloc ?_ _) | (with_reducible refine Kd.C_drewN ?_ _) | (with_reducible refine Kd.C_drew ?_))); (case side2 => exact HC0.out); (case side3 => repeat (first | exact (Kd.C_below HR1.out HB.out) | (with_reducible refine Kd.C_alloc ?_ _) | (with_reducible refine Kd.C_drewN ?_ _) | (with_reducible refine Kd.C_drew ?_))); (case side4 => exact HC1.out); rintro e w36 ⟨rfl, hb⟩; have n0_ := Aside0.mk (Kd.R_below (by (with_reducible repeat (first | apply Kd.R_alloc | apply Kd.R_drewN | apply Kd.R_drew)); exact HO_7.out) hb); have n1_ := Aside0.mk (Kd.R_below (by (with_reducible repeat (first | apply Kd.R_alloc | apply Kd.R_drewN | apply Kd.R_drew)); exact HO_9.out) hb); have n2_ := Aside0.mk (below_step (by repeat (first | (with_reducible first | exact HB.out | apply below_alloc | apply pw_below_drewN | apply below_drew1) | exact HB.out)) hb); clear HO_7; clear HO_9; clear HB; have HO_7 := n0_; have HO_9 := n1_; have HB := n2_; clear n0_ n1_ n2_; (try clear hb); (try clear hb2); (try clear hk); (try clear hi)) | (go_at_call 9; (with_reducible refine (drawlotref24_Same.calls k1 _ _ l0 _ _ l1 t359 _ ?side1 ?side2 ?side3 ?side4 A31.out).mono ?_); (case side1 => repeat (first | exact (Kd.C_below HR0.out HB.out) | (with_reducible refine Kd.C_alloc ?_ _) | (with_reducible refine Kd.C_drewN ?_ _) | (with_reducible refine Kd.C_drew ?_))); (case side2 => exact HC0.out); (case side3 => repeat (first | exact (Kd.C_below HR1.out HB.out) | (with_reducible refine Kd.C_alloc ?_ _) | (with_reducible refine Kd.C_drewN ?_ _) | (with_reducible refine Kd.C_drew ?_))); (case side4 => exact HC1.out); rintro e w37 ⟨rfl, hb⟩; have n0_ := Aside0.mk (Kd.R_below (by (with_reducible repeat (first | apply Kd.R_alloc | apply Kd.R_drewN | apply Kd.R_drew)); exact HO_7.out) hb); have n1_ := Aside0.mk (Kd.R_below (by (with_reducible repeat (first | apply Kd.R_alloc | apply Kd.R_drewN | apply Kd.R_drew)); exact HO_9.out) hb); have n2_ := Aside0.mk (below_step (by repeat (first | (with_reducible first | exact HB.out | apply below_alloc | apply pw_below_drewN | apply below_drew1) | exact HB.out)) hb); clear HO_7; clear HO_9; clear HB; have HO_7 := n0_; have HO_9 := n1_; have HB := n2_; clear n0_ n1_ n2_; (try clear hb); (try clear hb2); (try clear hk); (try clear hi)))
           go_ret
           exact ⟨by first | rfl | (simp [errW_none, errW_some] <;> rfl) | (simp [*, errW_none, errW_some] <;> rfl), by repeat (first | (with_reducible first | exact HB.out | apply below_alloc | apply pw_below_drewN | apply below_drew1) | exact HB.out)⟩
          ·rw [if_neg c29] at H
           exact absurd H (by simp)
         ·rw [if_neg c28] at H
          exact absurd H (by simp)
        ·rw [if_neg c27] at H
         exact absurd H (by simp)
       ·rw [if_neg c26] at H
        exact absurd H (by simp)
 ·replace c5 := Bool.eq_false_iff.mpr c5
  subst c5
  have H1 : (none) = some r := by rw [if_neg (show ¬ (false = true) by decide)] at H; exact H
  clear H
  have H := H1
  clear H1
  exact absurd H (by simp)

/-- THE ONE PURE STATEMENT of drawlotlaw24_OpEncodes: yours. -/
def drawlotlaw24_OpEncodes.Pure : Prop := ∀ (l0 : List (S39)) (l1 : List (S39)) (a2 : Int), (l0.length ≤ maxLen ∧ ∀ x ∈ l0, ((Lit.int .i64 x.f0).wf = true ∧ (Lit.int .i64 x.f1).wf = true ∧ (Lit.int .u64 x.f2).wf = true ∧ (x.f3.length = 32 ∧ ∀ x_ ∈ x.f3, (Lit.int .u8 x_).wf = true) ∧ (Lit.int .i64 x.f4).wf = true)) → (l1.length ≤ maxLen ∧ ∀ x ∈ l1, ((Lit.int .i64 x.f0).wf = true ∧ (Lit.int .i64 x.f1).wf = true ∧ (Lit.int .u64 x.f2).wf = true ∧ (x.f3.length = 32 ∧ ∀ x_ ∈ x.f3, (Lit.int .u8 x_).wf = true) ∧ (Lit.int .i64 x.f4).wf = true)) → (Lit.int .i64 a2).wf = true → ∃ k, drawlotlaw24_OpEncodes.f k l0 l1 a2 = some true
theorem drawlotlaw24_OpEncodes.walk (P : drawlotlaw24_OpEncodes.Pure) (A0 : Option Addr) (c0 : Nat) (l0 : List (S39)) (A1 : Option Addr) (c1 : Nat) (l1 : List (S39)) (a2 : Int) (w : World) (w0 : Kd.C k39 w A0 l0.length l0 ∧ l0.length ≤ c0 ∧ (l0.length ≤ maxLen ∧ ∀ x ∈ l0, ((Lit.int .i64 x.f0).wf = true ∧ (Lit.int .i64 x.f1).wf = true ∧ (Lit.int .u64 x.f2).wf = true ∧ (x.f3.length = 32 ∧ ∀ x_ ∈ x.f3, (Lit.int .u8 x_).wf = true) ∧ (Lit.int .i64 x.f4).wf = true))) (w1 : Kd.C k39 w A1 l1.length l1 ∧ l1.length ≤ c1 ∧ (l1.length ≤ maxLen ∧ ∀ x ∈ l1, ((Lit.int .i64 x.f0).wf = true ∧ (Lit.int .i64 x.f1).wf = true ∧ (Lit.int .u64 x.f2).wf = true ∧ (x.f3.length = 32 ∧ ∀ x_ ∈ x.f3, (Lit.int .u8 x_).wf = true) ∧ (Lit.int .i64 x.f4).wf = true))) (w2 : (Lit.int .i64 a2).wf = true) :
  Calls Try.prog 4 #[.slice A0 l0.length c0, .slice A1 l1.length c1, .int .i64 a2] w fun e w' => e = .returned (.bool true) ∧ Below w.heap.size w w' := by
 obtain ⟨k, h⟩ := P l0 l1 a2 w0.2.2 w1.2.2 w2
 refine (drawlotlaw24_OpEncodes.calls k _ _ l0 _ _ l1 a2 true w w0.1 w0.2.1 w1.1 w1.2.1 h).mono ?_
 rintro e w' ⟨rfl, hd⟩
 exact ⟨rfl, hd⟩

end Go.Proofs.Ytkbpdnhbmceajaa.PQ
