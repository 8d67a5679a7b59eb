/- Written by xprint.py, this session's own driver, for the seat Ytkbpdnhbmceajaa: contracts of Go functions, each saying that a call answers what a plain Lean function of the same name says, and, in a text named Law, the row of a law: its Go function answers true for every input. No conditions. -/
import Derived.Test.YtkbpdnhbmceajaaPQx0
import Derived.Test.YtkbpdnhbmceajaaPQx3
import Derived.Test.YtkbpdnhbmceajaaPQx4
import Derived.Test.YtkbpdnhbmceajaaPQx5
import Derived.Test.YtkbpdnhbmceajaaPQx9
namespace Go.Proofs.Ytkbpdnhbmceajaa.PQ
open Go.RowKit Go.Proofs.YtkbpdnhbmceajaaW.PrintWords Go.Proofs.YtkbpdnhbmceajaaW.PrintLast Go.Proofs.YtkbpdnhbmceajaaW.PrintMore
attribute [local go_sem] max2_int min2_int max_two min_two max_three min_three max_four min_four   -- for this text's walks alone
set_option linter.unusedVariables false
set_option linter.unusedSimpArgs false

/-! ### drawlotlaw24_OpBack: function 5 -/
mutual
def drawlotlaw24_OpBack.j0 : Nat → List (S39) → List Int → Bool → Option (Bool)
 | 0, _, _, _ => none
 | k + 1, x0, x1, x23 => if x23 = true then (some true) else ((op_Encode.f k x0).bind fun bt272 => (if bt272.2 = 0 then ((op_Decode.f k bt272.1).bind fun t276 => ((drawlotref24_Same.f k t276 x0).bind fun t279 => (drawlotlaw24_OpBack.j1 k x1 (!t279)))) else (drawlotlaw24_OpBack.j1 k x1 false)))
def drawlotlaw24_OpBack.j1 : Nat → List Int → Bool → Option (Bool)
 | 0, _, _ => none
 | k + 1, x1, x37 => if x37 = true then (none) else ((op_Decode.f k x1).bind fun t280 => (drawlotlaw24_OpBack.l0 k x1 t280 0))
def drawlotlaw24_OpBack.l0 : Nat → List Int → List (S39) → Int → Option (Bool)
 | 0, _, _, _ => none
 | k + 1, x1, x7, x8 => if (wrap64 (x8 + 1)) < (x7.length : Int) then (if 0 ≤ x8 then (if x8 < (x7.length : Int) then ((drawlotref24_Right.f k ((rd_T39 x7 x8).f0) ((rd_T39 x7 x8).f1) ((rd_T39 x7 x8).f2) ((rd_T39 x7 x8).f3) ((rd_T39 x7 x8).f4)).bind fun t284 => (if t284 = true then (drawlotlaw24_OpBack.l0 k x1 x7 (wrap64 (x8 + 1))) else (none))) else (none)) else (none)) else (if (x7.length : Int) = 0 then (some ((x1.length : Int) == 0)) else (if 0 ≤ (wrap64 ((x7.length : Int) - 1)) then (if (wrap64 ((x7.length : Int) - 1)) < (x7.length : Int) then ((drawlotref24_Right.f k ((rd_T39 x7 (wrap64 ((x7.length : Int) - 1))).f0) ((rd_T39 x7 (wrap64 ((x7.length : Int) - 1))).f1) ((rd_T39 x7 (wrap64 ((x7.length : Int) - 1))).f2) ((rd_T39 x7 (wrap64 ((x7.length : Int) - 1))).f3) ((rd_T39 x7 (wrap64 ((x7.length : Int) - 1))).f4)).bind fun t286 => (if t286 = true then ((op_Encode.f k x7).bind fun bt287 => (if bt287.2 = 0 then (some ((strOfNums bt287.1).toList == (strOfNums x1).toList)) else (none))) else (if (wrap64 ((x7.length : Int) - 1)) ≤ (x7.length : Int) then ((op_Encode.f k (x7.take ((wrap64 ((x7.length : Int) - 1)) : Int).toNat)).bind fun bt295 => (if bt295.2 = 0 then (if (bt295.1.length : Int) < (x1.length : Int) then (if 0 ≤ (bt295.1.length : Int) then (if (bt295.1.length : Int) ≤ (x1.length : Int) then (if (strOfNums (x1.take ((bt295.1.length : Int) : Int).toNat)).toList = (strOfNums bt295.1).toList then (some (eqS39 (rd_T39 x7 (wrap64 ((x7.length : Int) - 1))) (⟨0, 0, 0, (List.replicate 32 0), wrap64 (rd x1 (bt295.1.length : Int))⟩ : S39))) else (none)) else (none)) else (none)) else (none)) else (none))) else (none)))) else (none)) else (none)))
end
def drawlotlaw24_OpBack.f (k : Nat) (l0 : List (S39)) (l1 : List Int) : Option (Bool) := (drawlotlaw24_alive.f k).bind fun t271 => (if t271 = true then (if (l0.length : Int) > 300 then (drawlotlaw24_OpBack.j0 k l0 l1 true) else (drawlotlaw24_OpBack.j0 k l0 l1 (decide ((l1.length : Int) > 3000)))) else (none))
theorem drawlotlaw24_OpBack.mono_l : ∀ k, (∀ y0 y1 y2, LeO (drawlotlaw24_OpBack.j0 k y0 y1 y2) (drawlotlaw24_OpBack.j0 (k + 1) y0 y1 y2)) ∧ (∀ y0 y1, LeO (drawlotlaw24_OpBack.j1 k y0 y1) (drawlotlaw24_OpBack.j1 (k + 1) y0 y1)) ∧ (∀ y0 y1 y2, LeO (drawlotlaw24_OpBack.l0 k y0 y1 y2) (drawlotlaw24_OpBack.l0 (k + 1) y0 y1 y2))
 | 0 => ⟨fun _ _ _ r h => by simp [drawlotlaw24_OpBack.j0] at h, fun _ _ r h => by simp [drawlotlaw24_OpBack.j1] at h, fun _ _ _ r h => by simp [drawlotlaw24_OpBack.l0] at h⟩
 | k + 1 => by
  obtain ⟨ih0, ih1, ih2⟩ := drawlotlaw24_OpBack.mono_l k
  refine ⟨?_, ?_, ?_⟩
  ·intro y0 y1 y2
   unfold drawlotlaw24_OpBack.j0
   repeat' first
   | (with_reducible exact ih0 _ _ _)
   | (with_reducible exact ih1 _ _)
   | (with_reducible exact ih2 _ _ _)
   | (with_reducible exact drawlotlaw24_alive.mono _)
   | (with_reducible exact drawlotref24_Right.mono _ _ _ _ _ _)
   | (with_reducible exact drawlotref24_Same.mono _ _ _)
   | (with_reducible exact op_Decode.mono _ _)
   | (with_reducible exact op_Encode.mono _ _)
   | (with_reducible exact LeO.refl _)
   | (with_reducible exact LeO.none _)
   | (with_reducible refine LeO.ite ?_ ?_)
   | (with_reducible refine LeO.bind ?_ (fun _ => ?_))
   | exact ih0 _ _ _
   | exact ih1 _ _
   | exact ih2 _ _ _
   | exact drawlotlaw24_alive.mono _
   | exact drawlotref24_Right.mono _ _ _ _ _ _
   | exact drawlotref24_Same.mono _ _ _
   | exact op_Decode.mono _ _
   | exact op_Encode.mono _ _
   | exact LeO.none _
   | refine LeO.ite ?_ ?_
   | refine LeO.bind ?_ (fun _ => ?_)
  ·intro y0 y1
   unfold drawlotlaw24_OpBack.j1
   repeat' first
   | (with_reducible exact ih0 _ _ _)
   | (with_reducible exact ih1 _ _)
   | (with_reducible exact ih2 _ _ _)
   | (with_reducible exact drawlotlaw24_alive.mono _)
   | (with_reducible exact drawlotref24_Right.mono _ _ _ _ _ _)
   | (with_reducible exact drawlotref24_Same.mono _ _ _)
   | (with_reducible exact op_Decode.mono _ _)
   | (with_reducible exact op_Encode.mono _ _)
   | (with_reducible exact LeO.refl _)
   | (with_reducible exact LeO.none _)
   | (with_reducible refine LeO.ite ?_ ?_)
   | (with_reducible refine LeO.bind ?_ (fun _ => ?_))
   | exact ih0 _ _ _
   | exact ih1 _ _
   | exact ih2 _ _ _
   | exact drawlotlaw24_alive.mono _
   | exact drawlotref24_Right.mono _ _ _ _ _ _
   | exact drawlotref24_Same.mono _ _ _
   | exact op_Decode.mono _ _
   | exact op_Encode.mono _ _
   | exact LeO.none _
   | refine LeO.ite ?_ ?_
   | refine LeO.bind ?_ (fun _ => ?_)
  ·intro y0 y1 y2
   unfold drawlotlaw24_OpBack.l0
   repeat' first
   | (with_reducible exact ih0 _ _ _)
   | (with_reducible exact ih1 _ _)
   | (with_reducible exact ih2 _ _ _)
   | (with_reducible exact drawlotlaw24_alive.mono _)
   | (with_reducible exact drawlotref24_Right.mono _ _ _ _ _ _)
   | (with_reducible exact drawlotref24_Same.mono _ _ _)
   | (with_reducible exact op_Decode.mono _ _)
   | (with_reducible exact op_Encode.mono _ _)
   | (with_reducible exact LeO.refl _)
   | (with_reducible exact LeO.none _)
   | (with_reducible refine LeO.ite ?_ ?_)
   | (with_reducible refine LeO.bind ?_ (fun _ => ?_))
   | exact ih0 _ _ _
   | exact ih1 _ _
   | exact ih2 _ _ _
   | exact drawlotlaw24_alive.mono _
   | exact drawlotref24_Right.mono _ _ _ _ _ _
   | exact drawlotref24_Same.mono _ _ _
   | exact op_Decode.mono _ _
   | exact op_Encode.mono _ _
   | exact LeO.none _
   | refine LeO.ite ?_ ?_
   | refine LeO.bind ?_ (fun _ => ?_)
theorem drawlotlaw24_OpBack.mono : ∀ a0 a1 k, LeO (drawlotlaw24_OpBack.f k a0 a1) (drawlotlaw24_OpBack.f (k + 1) a0 a1) := by
 intro a0 a1 k
 obtain ⟨ih0, ih1, ih2⟩ := drawlotlaw24_OpBack.mono_l k
 unfold drawlotlaw24_OpBack.f
 repeat' first
   | (with_reducible exact ih0 _ _ _)
   | (with_reducible exact ih1 _ _)
   | (with_reducible exact ih2 _ _ _)
   | (with_reducible exact drawlotlaw24_alive.mono _)
   | (with_reducible exact drawlotref24_Right.mono _ _ _ _ _ _)
   | (with_reducible exact drawlotref24_Same.mono _ _ _)
   | (with_reducible exact op_Decode.mono _ _)
   | (with_reducible exact op_Encode.mono _ _)
   | (with_reducible exact LeO.refl _)
   | (with_reducible exact LeO.none _)
   | (with_reducible refine LeO.ite ?_ ?_)
   | (with_reducible refine LeO.bind ?_ (fun _ => ?_))
   | exact ih0 _ _ _
   | exact ih1 _ _
   | exact ih2 _ _ _
   | exact drawlotlaw24_alive.mono _
   | exact drawlotref24_Right.mono _ _ _ _ _ _
   | exact drawlotref24_Same.mono _ _ _
   | exact op_Decode.mono _ _
   | exact op_Encode.mono _ _
   | exact LeO.none _
   | refine LeO.ite ?_ ?_
   | refine LeO.bind ?_ (fun _ => ?_)
def drawlotlaw24_OpBack.T21 : Bool × List (List Nat × List Nat) := (true, [([], []), ([0], [0]), ([1], [1]), ([2], [2]), ([3, 2], [2, 3]), ([2], [2]), ([5, 2], [2, 5]), ([4, 6, 2], [2, 4, 6]), ([2, 7], [2, 7]), ([8, 2], [8]), ([9], [9]), ([9], [9]), ([11, 9], [9, 11]), ([10, 12, 9], [9, 10, 12]), ([13, 9], [9, 13]), ([9], [9]), ([15, 9], [9, 15]), ([14, 16, 9], [9, 14, 16]), ([9, 17], [9, 17]), ([18, 9], [18]), ([19], [19]), ([19], [19]), ([19], [19]), ([22, 19], [19, 22]), ([21, 23, 19], [19, 21, 23]), ([24, 19], [19, 24]), ([25, 19], [19, 25]), ([26, 19], [19, 26]), ([20, 27, 19], [19, 20, 27]), ([19, 28], [19, 28]), ([29, 19, 0, 1, 2, 3, 4, 5, 6, 7, 8, 9, 10, 11, 12, 13, 14, 15, 16, 17, 18, 19, 20, 21, 22, 23, 24, 25, 26, 27, 28, 29], [29])])
def drawlotlaw24_OpBack.B21 : List Nat := [0, 1, 3, 7, 15, 7, 39, 127, 255, 511, 1023, 1023, 3071, 8191, 16383, 1023, 33791, 131071, 262143, 524287, 1048575, 1048575, 1048575, 5242879, 15728639, 32505855, 66060287, 133169151, 268435455, 536870911, 1073741823]
theorem drawlotlaw24_OpBack.tab21 : rtab .any (opsOf Try.f5 21) = drawlotlaw24_OpBack.T21 := by kernel_rfl
theorem drawlotlaw24_OpBack.bits21 : waitsOk drawlotlaw24_OpBack.T21.2 drawlotlaw24_OpBack.B21 = true := by kernel_rfl
set_option maxHeartbeats 8000000 in
set_option maxRecDepth 100000 in
theorem drawlotlaw24_OpBack.calls (k : Nat) (A0 : Option Addr) (c0 : Nat) (l0 : List (S39)) (A1 : Option Addr) (c1 : Nat) (l1 : List Int) (r : Bool) (w : World) (hr0 : Kd.C k39 w A0 l0.length l0) (hc0 : l0.length ≤ c0) (hr1 : Kd.C (Kd.int .u8) w A1 l1.length l1) (hc1 : l1.length ≤ c1) (h : drawlotlaw24_OpBack.f k l0 l1 = some r) :
  Calls Try.prog 5 #[.slice A0 l0.length c0, .slice A1 l1.length c1] w fun e w' => e = .returned (.bool r) ∧ Below w.heap.size w w' := by
 have hu39 := Try.underlying39
 have HR0 := Aside0.mk hr0
 have HC0 := Aside0.mk hc0
 clear hr0 hc0
 have HR1 := Aside0.mk hr1
 have HC1 := Aside0.mk hc1
 clear hr1 hc1
 have HB := Aside0.mk (Below.refl w.heap.size w)
 have H : ((drawlotlaw24_alive.f k).bind fun t271 => (if t271 = true then (if (l0.length : Int) > 300 then (drawlotlaw24_OpBack.j0 k l0 l1 true) else (drawlotlaw24_OpBack.j0 k l0 l1 (decide ((l1.length : Int) > 3000)))) else (none))) = some r := h
 clear h
 replace H := Option.bind_eq_some_iff.mp H
 obtain ⟨t271, A30, H⟩ := H
 replace H : (if t271 = true then (if (l0.length : Int) > 300 then (drawlotlaw24_OpBack.j0 k l0 l1 true) else (drawlotlaw24_OpBack.j0 k l0 l1 (decide ((l1.length : Int) > 3000)))) else (none)) = some r := H
 have A3 := Aside0.mk A30
 clear A30
 by_cases c4 : t271 = true
 ·subst c4
  have H1 : (if (l0.length : Int) > 300 then (drawlotlaw24_OpBack.j0 k l0 l1 true) else (drawlotlaw24_OpBack.j0 k l0 l1 (decide ((l1.length : Int) > 3000)))) = some r := by rw [if_pos rfl] at H; exact H
  clear H
  have H := H1
  clear H1
  have HC5 := Aside0.mk H
  clear H
  go_enter Try.func5, Try.ntmps5
  try simp only [List.append]
  go_upto_region 3 with (first | ((with_reducible refine gate_callee (f := 8) rfl ?_); refine goesL_ (some 14) rfl rfl Try.func8 (by kernel_rfl) rfl #[] rfl (by (try simp only [List.map_toArray, List.map_cons, List.map_nil]); first | done | rfl | (simp only [List.length_drop, List.length_take]; rfl)) ?_; (with_reducible refine (drawlotlaw24_alive.calls k  true _ A3.out).mono ?_); rintro e w6 ⟨rfl, hb⟩; refine ⟨_, rfl, ?_⟩; have n0_ := Aside0.mk (below_step (by repeat (first | (with_reducible first | exact HB.out | apply below_alloc | apply pw_below_drewN | apply below_drew1) | exact HB.out)) hb); clear HB; have HB := n0_; clear n0_; (try clear hb); (try clear hb2); (try clear hk); (try clear hi)))
  (try simp only [Act.put, List.setIfInBounds_toArray, List.set_cons_zero, List.set_cons_succ])
  go_cut [23] (fun v23 wc => ∃ (kq : Nat) (x23_4 : Bool), v23 = .bool x23_4 ∧ Aside0 (drawlotlaw24_OpBack.j0 kq l0 l1 x23_4 = some r) ∧ Aside0 (kq ≤ k) ∧ Aside0 (Below w.heap.size w wc))
  case first =>
   have H := HC5.out
   clear HC5
   by_cases c7 : (l0.length : Int) > 300
   ·rw [if_pos c7] at H
    have c7b0 : decide (300 < (l0.length : Int)) = true := decide_eq_true c7
    have c7b1 : decide (300 < l0.length) = true := decide_eq_true (by omega)
    clear c7
    (first | rw [c7b0] | (simp only [i64_w, i32_w]; rw [c7b0]) | skip)
    have H' := Aside0.mk H
    clear H
    go_wp2
    go_meet
    case rel => exact ⟨_, (true), (by first | rfl | (simp; done) | (simp [*]; done)), H', ⟨by first | omega | exact Nat.le_refl _⟩, ⟨by repeat (first | (with_reducible first | exact HB.out | apply below_alloc | apply pw_below_drewN | apply below_drew1) | exact HB.out)⟩⟩
   ·rw [if_neg c7] at H
    have c7b0 : decide (300 < (l0.length : Int)) = false := decide_eq_false c7
    have c7b1 : decide (300 < l0.length) = false := decide_eq_false (by omega)
    clear c7
    (first | rw [c7b0] | (simp only [i64_w, i32_w]; rw [c7b0]) | skip)
    have H' := Aside0.mk H
    clear H
    go_wp2
    go_meet
    case rel => exact ⟨_, (decide ((l1.length : Int) > 3000)), (by first | rfl | (simp; done) | (simp [*]; done)), H', ⟨by first | omega | exact Nat.le_refl _⟩, ⟨by repeat (first | (with_reducible first | exact HB.out | apply below_alloc | apply pw_below_drewN | apply below_drew1) | exact HB.out)⟩⟩
  case rest =>
   clear HC5
   try clear c1
   try clear p2
   try clear c4
   try clear c5
   try clear c7
   try clear c7b0
   try clear c7b1
   obtain ⟨kq, x23_4, rfl, HA, HJ4, HB⟩ := hcut
   cases kq with
   | zero => exact absurd HA.out (by simp [drawlotlaw24_OpBack.j0])
   | succ kj4 =>
    have H := HA.out
    clear HA
    simp only [drawlotlaw24_OpBack.j0] at H
    by_cases c8 : x23_4 = true
    ·subst c8
     have H1 : (some true) = some r := by rw [if_pos rfl] at H; exact H
     clear H
     have H := H1
     clear H1
     obtain rfl := Option.some.inj H
     go_wp2
     go_ret
     exact ⟨by first | rfl | (simp [errW_none, errW_some] <;> rfl) | (simp [*, errW_none, errW_some] <;> rfl), by repeat (first | (with_reducible first | exact HB.out | apply below_alloc | apply pw_below_drewN | apply below_drew1) | exact HB.out)⟩
    ·replace c8 := Bool.eq_false_iff.mpr c8
     subst c8
     have H1 : ((op_Encode.f kj4 l0).bind fun bt272 => (if bt272.2 = 0 then ((op_Decode.f kj4 bt272.1).bind fun t276 => ((drawlotref24_Same.f kj4 t276 l0).bind fun t279 => (drawlotlaw24_OpBack.j1 kj4 l1 (!t279)))) else (drawlotlaw24_OpBack.j1 kj4 l1 false))) = some r := by rw [if_neg (show ¬ (false = true) by decide)] at H; exact H
     clear H
     have H := H1
     clear H1
     replace H := Option.bind_eq_some_iff.mp H
     obtain ⟨⟨t272, t273⟩, A90, H⟩ := H
     replace H : (if t273 = 0 then ((op_Decode.f kj4 t272).bind fun t276 => ((drawlotref24_Same.f kj4 t276 l0).bind fun t279 => (drawlotlaw24_OpBack.j1 kj4 l1 (!t279)))) else (drawlotlaw24_OpBack.j1 kj4 l1 false)) = some r := H
     have A9 := Aside0.mk A90
     clear A90
     have HC10 := Aside0.mk H
     clear H
     go_upto_region 6 with (first | ((with_reducible refine gate_callee (f := 12) rfl ?_); refine goesL_ (some 26) rfl rfl Try.func12 (by kernel_rfl) rfl #[.slice A0 l0.length c0] rfl (by (try simp only [List.map_toArray, List.map_cons, List.map_nil]); first | done | rfl | (simp only [List.length_drop, List.length_take]; rfl)) ?_; (with_reducible refine (op_Encode.calls kj4 _ _ l0 t272 t273 _ ?side1 ?side2 A9.out).mono ?_); (case side1 => repeat (first | exact (Kd.C_below HR0.out HB.out) | (with_reducible refine Kd.C_alloc ?_ _) | (with_reducible refine Kd.C_drewN ?_ _) | (with_reducible refine Kd.C_drew ?_))); (case side2 => exact HC0.out); rintro e w11 ⟨v274, rfl, ho0, hb⟩; refine ⟨_, rfl, ?_⟩; have n0_ := Aside0.mk (Kd.R_lower ho0 (below_size (by repeat (first | (with_reducible first | exact HB.out | apply below_alloc | apply pw_below_drewN | apply below_drew1) | exact HB.out)))); have n1_ := Aside0.mk (below_step (by repeat (first | (with_reducible first | exact HB.out | apply below_alloc | apply pw_below_drewN | apply below_drew1) | exact HB.out)) hb); clear HB; have HO275 := n0_; have HB := n1_; clear n0_ n1_; (try clear hb); (try clear hb2); (try clear hk); (try clear hi); (try clear ho0)))
     (try simp only [Act.put, List.setIfInBounds_toArray, List.set_cons_zero, List.set_cons_succ])
     go_cut [37] (fun v37 wc => ∃ (kq : Nat) (x37_9 : Bool), v37 = .bool x37_9 ∧ Aside0 (drawlotlaw24_OpBack.j1 kq l1 x37_9 = some r) ∧ Aside0 (kq ≤ kj4) ∧ Aside0 (Below w.heap.size w wc))
     case first =>
      have H := HC10.out
      clear HC10
      by_cases c12 : t273 = 0
      ·rw [if_pos c12] at H
       have c12b0 : (t273 == 0) = true := beq_iff_eq.mpr c12
       have c12b1 : (t273 != 0) = false := bne_eq_false_iff_eq.mpr c12
       clear c12
       (first | rw [c12b0] | (simp only [i64_w, i32_w]; rw [c12b0]) | skip)
       replace H := Option.bind_eq_some_iff.mp H
       obtain ⟨t276, A130, H⟩ := H
       replace H : ((drawlotref24_Same.f kj4 t276 l0).bind fun t279 => (drawlotlaw24_OpBack.j1 kj4 l1 (!t279))) = some r := H
       have A13 := Aside0.mk A130
       clear A130
       replace H := Option.bind_eq_some_iff.mp H
       obtain ⟨t279, A140, H⟩ := H
       replace H : (drawlotlaw24_OpBack.j1 kj4 l1 (!t279)) = some r := H
       have A14 := Aside0.mk A140
       clear A140
       have H' := Aside0.mk H
       clear H
       obtain ⟨Ao15, co15, eo15⟩ := Kd.R_slice HO275.out
       subst eo15
       go_wp2_with (first | (go_at_call 10; (with_reducible refine (op_Decode.calls kj4 (fun k_ => some k_ = (.slice Ao15 t272.length co15 : Value).ownBlock) _ _ t272 t276 _ ?side1 A13.out).mono ?_); (case side1 => exact Kd.R_V (Kd.R_tight rfl (HO275.out))); rintro e w16 ⟨v277, rfl, ho0, hb⟩; have n0_ := Aside0.mk (Kd.R_below (by (with_reducible repeat (first | apply Kd.R_alloc | apply Kd.R_drewN | apply Kd.R_drew)); exact HO275.out) hb); have n1_ := Aside0.mk (Kd.R_lower (Kd.R_mono (ok' := fun k_ => True) ho0 (fun _ hk_ => trivial)) (below_size (by repeat (first | (with_reducible first | exact HB.out | apply below_alloc | apply pw_below_drewN | apply below_drew1) | exact HB.out)))); have n2_ := Aside0.mk (below_step (by repeat (first | (with_reducible first | exact HB.out | apply below_alloc | apply pw_below_drewN | apply below_drew1) | exact HB.out)) hb); clear HO275; clear HB; have HO275 := n0_; have HO278 := n1_; have HB := n2_; clear n0_ n1_ n2_; (try clear hb); (try clear hb2); (try clear hk); (try clear hi); (try clear ho0); obtain ⟨Ao17, co17, eo17⟩ := Kd.R_slice HO278.out; subst eo17) | (go_at_call 9; (with_reducible refine (drawlotref24_Same.calls kj4 _ _ t276 _ _ l0 t279 _ ?side1 ?side2 ?side3 ?side4 A14.out).mono ?_); (case side1 => repeat (first | exact (Kd.R_reads' HO278.out).2.2 | (with_reducible refine Kd.C_alloc ?_ _) | (with_reducible refine Kd.C_drewN ?_ _) | (with_reducible refine Kd.C_drew ?_))); (case side2 => exact (Kd.R_reads' HO278.out).2.1); (case side3 => repeat (first | exact (Kd.C_below HR0.out HB.out) | (with_reducible refine Kd.C_alloc ?_ _) | (with_reducible refine Kd.C_drewN ?_ _) | (with_reducible refine Kd.C_drew ?_))); (case side4 => exact HC0.out); rintro e w18 ⟨rfl, hb⟩; have n0_ := Aside0.mk (Kd.R_below (by (with_reducible repeat (first | apply Kd.R_alloc | apply Kd.R_drewN | apply Kd.R_drew)); exact HO275.out) hb); have n1_ := Aside0.mk (Kd.R_below (by (with_reducible repeat (first | apply Kd.R_alloc | apply Kd.R_drewN | apply Kd.R_drew)); exact HO278.out) hb); have n2_ := Aside0.mk (below_step (by repeat (first | (with_reducible first | exact HB.out | apply below_alloc | apply pw_below_drewN | apply below_drew1) | exact HB.out)) hb); clear HO275; clear HO278; clear HB; have HO275 := n0_; have HO278 := n1_; have HB := n2_; clear n0_ n1_ n2_; (try clear hb); (try clear hb2); (try clear hk); (try clear hi)))
       go_meet
       case rel => exact ⟨_, (!t279), (by first | rfl | (simp; done) | (simp [*]; done)), H', ⟨by have := HJ4.out; first | omega | exact Nat.le_refl _⟩, ⟨by repeat (first | (with_reducible first | exact HB.out | apply below_alloc | apply pw_below_drewN | apply below_drew1) | exact HB.out)⟩⟩
      ·rw [if_neg c12] at H
       have c12b0 : (t273 == 0) = false := beq_eq_false_iff_ne.mpr c12
       have c12b1 : (t273 != 0) = true := bne_iff_ne.mpr c12
       (first | rw [c12b0] | (simp only [i64_w, i32_w]; rw [c12b0]) | skip)
       have H' := Aside0.mk H
       clear H
       go_wp2
       go_meet
       case rel => exact ⟨_, (false), (by first | rfl | (simp; done) | (simp [*]; done)), H', ⟨by have := HJ4.out; first | omega | exact Nat.le_refl _⟩, ⟨by repeat (first | (with_reducible first | exact HB.out | apply below_alloc | apply pw_below_drewN | apply below_drew1) | exact HB.out)⟩⟩
     case rest =>
      clear HC10
      try clear c1
      try clear p2
      try clear c4
      try clear c5
      try clear c7
      try clear c7b0
      try clear c7b1
      try clear c8
      try clear c12
      try clear c12b0
      try clear c12b1
      try clear p2
      obtain ⟨kq, x37_9, rfl, HA, HJ9, HB⟩ := hcut
      cases kq with
      | zero => exact absurd HA.out (by simp [drawlotlaw24_OpBack.j1])
      | succ kj9 =>
       have H := HA.out
       clear HA
       simp only [drawlotlaw24_OpBack.j1] at H
       by_cases c19 : x37_9 = true
       ·subst c19
        have H1 : (none) = some r := by rw [if_pos rfl] at H; exact H
        clear H
        have H := H1
        clear H1
        exact absurd H (by simp)
       ·replace c19 := Bool.eq_false_iff.mpr c19
        subst c19
        have H1 : ((op_Decode.f kj9 l1).bind fun t280 => (drawlotlaw24_OpBack.l0 kj9 l1 t280 0)) = some r := by rw [if_neg (show ¬ (false = true) by decide)] at H; exact H
        clear H
        have H := H1
        clear H1
        replace H := Option.bind_eq_some_iff.mp H
        obtain ⟨t280, A200, H⟩ := H
        replace H : (drawlotlaw24_OpBack.l0 kj9 l1 t280 0) = some r := H
        have A20 := Aside0.mk A200
        clear A200
        have H' := Aside0.mk H
        clear H
        go_wp2_with (first | ((with_reducible refine gate_callee (f := 10) rfl ?_); refine goesL_ (some 39) rfl rfl Try.func10 (by kernel_rfl) rfl #[.slice A1 l1.length c1] rfl (by (try simp only [List.map_toArray, List.map_cons, List.map_nil]); first | done | rfl | (simp only [List.length_drop, List.length_take]; rfl)) ?_; (with_reducible refine (op_Decode.calls kj9 (fun k_ => k_ < w.heap.size) _ _ l1 t280 _ ?side1 A20.out).mono ?_); (case side1 => exact Kd.V_mk HC1.out (Kd.F_below (Kd.C_F (Kd.heap_int .u8) HR1.out) (by repeat (first | (with_reducible first | exact HB.out | apply below_alloc | apply pw_below_drewN | apply below_drew1) | exact HB.out)))); rintro e w21 ⟨v281, rfl, ho0, hb⟩; refine ⟨_, rfl, ?_⟩; have n0_ := Aside0.mk (Kd.R_lower (Kd.R_mono (ok' := fun k_ => True) ho0 (fun _ hk_ => trivial)) (below_size (by repeat (first | (with_reducible first | exact HB.out | apply below_alloc | apply pw_below_drewN | apply below_drew1) | exact HB.out)))); have n1_ := Aside0.mk (below_step (by repeat (first | (with_reducible first | exact HB.out | apply below_alloc | apply pw_below_drewN | apply below_drew1) | exact HB.out)) hb); clear HB; have HO282 := n0_; have HB := n1_; clear n0_ n1_; (try clear hb); (try clear hb2); (try clear hk); (try clear hi); (try clear ho0)))
        go_loopg [8] kj9 (fun kq v8 w' => ∃ (x8_3 : Int), v8 = .int .i64 x8_3 ∧ Aside0 (drawlotlaw24_OpBack.l0 kq l1 t280 x8_3 = some r) ∧ Aside0 (kq ≤ kj9) ∧ Aside0 (Kd.R k39 39 w' w.heap.size (fun _ => True) v281 t280) ∧ Aside0 (Below w.heap.size w w'))
        case atStart => exact ⟨(0), (by first | rfl | (simp; done) | (simp [*]; done)), H', ⟨Nat.le_refl _⟩, ⟨by (with_reducible repeat (first | apply Kd.R_alloc | apply Kd.R_drewN | apply Kd.R_drew)); exact HO282.out⟩, ⟨by repeat (first | (with_reducible first | exact HB.out | apply below_alloc | apply pw_below_drewN | apply below_drew1) | exact HB.out)⟩⟩
        case round =>
         clear H'
         try clear c1
         try clear p2
         try clear c4
         try clear c5
         try clear c7
         try clear c7b0
         try clear c7b1
         try clear c8
         try clear c10
         try clear c12
         try clear c12b0
         try clear c12b1
         try clear c19
         try clear p2
         obtain ⟨x8_3, rfl, HA, HK3, HO_7, HB⟩ := hrel
         cases gk with
         | zero => exact absurd HA.out (by simp [drawlotlaw24_OpBack.l0])
         | succ k3 =>
          have H := HA.out
          clear HA
          simp only [drawlotlaw24_OpBack.l0] at H
          by_cases c22 : (wrap64 (x8_3 + 1)) < (t280.length : Int)
          ·rw [if_pos c22] at H
           have c22b0 : decide ((wrap64 (x8_3 + 1)) < (t280.length : Int)) = true := decide_eq_true c22
           clear c22
           by_cases c23 : 0 ≤ x8_3
           ·rw [if_pos c23] at H
            have c23b0 : decide (0 ≤ x8_3) = true := decide_eq_true c23
            clear c23
            by_cases c24 : x8_3 < (t280.length : Int)
            ·rw [if_pos c24] at H
             have c24b0 : decide (x8_3 < (t280.length : Int)) = true := decide_eq_true c24
             clear c24
             replace H := Option.bind_eq_some_iff.mp H
             obtain ⟨t284, A250, H⟩ := H
             replace H : (if t284 = true then (drawlotlaw24_OpBack.l0 k3 l1 t280 (wrap64 (x8_3 + 1))) else (none)) = some r := H
             have A25 := Aside0.mk A250
             clear A250
             by_cases c26 : t284 = true
             ·subst c26
              have H1 : (drawlotlaw24_OpBack.l0 k3 l1 t280 (wrap64 (x8_3 + 1))) = some r := by rw [if_pos rfl] at H; exact H
              clear H
              have H := H1
              clear H1
              have H' := Aside0.mk H
              clear H
              obtain ⟨Ao27, co27, eo27⟩ := Kd.R_slice HO_7.out
              subst eo27
              have p283 : 0 ≤ (x8_3 : Int) := of_decide_eq_true (by first | (with_reducible assumption) | assumption)
              have q283 : x8_3 < (t280.length : Int) := of_decide_eq_true (by first | (with_reducible assumption) | assumption)
              obtain ⟨ad283, e283, hx283_0, hx283_1, hx283_2, hx283_3, hx283_4⟩ := at_T39 (Kd.R_reads' HO_7.out).2.2 x8_3 p283 q283
              cases e283
              replace p283 := eq_true p283
              replace q283 := eq_true q283
              go_wp2_with (first | ((with_reducible refine gate_dst (N := 50) rfl ?_); (try (refine gate_guard (by rfl) ?_; dsimp only)); refine Ar.gload_event rfl (T := 39) rfl Try.underlying39 rfl (D := (#[.int .i64 ((rd_T39 t280 x8_3).f0), .int .i64 ((rd_T39 t280 x8_3).f1), .int .u64 ((rd_T39 t280 x8_3).f2)] ++ ((Ar.cells .u8 32 ((rd_T39 t280 x8_3).f3)) ++ #[.int .i64 ((rd_T39 t280 x8_3).f4)]))) (by first | (rw [Ar.cells_size]; kernel_rfl) | (simp only [Array.size_append, Ar.cells_size, List.size_toArray, List.length_cons, List.length_nil]; kernel_rfl)) rfl (Ar.elem_part0 hx283_3 Ar.in_whole) ?_) | ((with_reducible refine gate_callee (f := 17) rfl ?_); refine goesL_ (some 51) rfl rfl Try.func17 (by kernel_rfl) rfl #[.agg (#[.int .i64 ((rd_T39 t280 x8_3).f0), .int .i64 ((rd_T39 t280 x8_3).f1), .int .u64 ((rd_T39 t280 x8_3).f2)] ++ ((Ar.cells .u8 32 ((rd_T39 t280 x8_3).f3)) ++ #[.int .i64 ((rd_T39 t280 x8_3).f4)]))] rfl (by (try simp only [List.map_toArray, List.map_cons, List.map_nil]); first | done | rfl | (simp only [List.length_drop, List.length_take]; rfl)) ?_; (with_reducible refine (drawlotref24_Right.calls k3 ((rd_T39 t280 x8_3).f0) ((rd_T39 t280 x8_3).f1) ((rd_T39 t280 x8_3).f2) ((rd_T39 t280 x8_3).f3) ((rd_T39 t280 x8_3).f4) true _ A25.out).mono ?_); rintro e w28 ⟨rfl, hb⟩; refine ⟨_, rfl, ?_⟩; have n0_ := Aside0.mk (Kd.R_below (by (with_reducible repeat (first | apply Kd.R_alloc | apply Kd.R_drewN | apply Kd.R_drew)); exact HO_7.out) hb); have n1_ := Aside0.mk (below_step (by repeat (first | (with_reducible first | exact HB.out | apply below_alloc | apply pw_below_drewN | apply below_drew1) | exact HB.out)) hb); clear HO_7; clear HB; have HO_7 := n0_; have HB := n1_; clear n0_ n1_; (try clear hb); (try clear hb2); (try clear hk); (try clear hi)))
              go_roundg k3
              case measure => have := HJ4.out; have := HJ9.out; have := HK3.out; omega
              case rel => exact ⟨(wrap64 (x8_3 + 1)), (by first | rfl | (simp; done) | (simp [*]; done)), H', ⟨by have := HJ4.out; have := HJ9.out; have := HK3.out; omega⟩, ⟨by (with_reducible repeat (first | apply Kd.R_alloc | apply Kd.R_drewN | apply Kd.R_drew)); exact HO_7.out⟩, ⟨by repeat (first | (with_reducible first | exact HB.out | apply below_alloc | apply pw_below_drewN | apply below_drew1) | exact HB.out)⟩⟩
             ·replace c26 := Bool.eq_false_iff.mpr c26
              subst c26
              have H1 : (none) = some r := by rw [if_neg (show ¬ (false = true) by decide)] at H; exact H
              clear H
              have H := H1
              clear H1
              exact absurd H (by simp)
            ·rw [if_neg c24] at H
             exact absurd H (by simp)
           ·rw [if_neg c23] at H
            exact absurd H (by simp)
          ·rw [if_neg c22] at H
           have c22b0 : decide ((wrap64 (x8_3 + 1)) < (t280.length : Int)) = false := decide_eq_false c22
           clear c22
           by_cases c29 : (t280.length : Int) = 0
           ·rw [if_pos c29] at H
            have c29b0 : ((t280.length : Int) == 0) = true := beq_iff_eq.mpr c29
            have c29b1 : ((t280.length : Int) != 0) = false := bne_eq_false_iff_eq.mpr c29
            clear c29
            obtain rfl := Option.some.inj H
            obtain ⟨Ao30, co30, eo30⟩ := Kd.R_slice HO_7.out
            subst eo30
            go_wp2
            go_ret
            exact ⟨by first | rfl | (simp [errW_none, errW_some] <;> rfl) | (simp [*, errW_none, errW_some] <;> rfl), by repeat (first | (with_reducible first | exact HB.out | apply below_alloc | apply pw_below_drewN | apply below_drew1) | exact HB.out)⟩
           ·rw [if_neg c29] at H
            have c29b0 : ((t280.length : Int) == 0) = false := beq_eq_false_iff_ne.mpr c29
            have c29b1 : ((t280.length : Int) != 0) = true := bne_iff_ne.mpr c29
            have c29b2 : ¬ (t280 = []) := fun h_ => c29 (by rw [h_]; rfl)
            obtain ⟨ji31, hji31⟩ : ∃ j_ : Int, (wrap64 ((t280.length : Int) - 1)) = j_ := ⟨_, rfl⟩
            replace H : (if 0 ≤ (ji31) then (if (ji31) < (t280.length : Int) then ((drawlotref24_Right.f k3 ((rd_T39 t280 (ji31)).f0) ((rd_T39 t280 (ji31)).f1) ((rd_T39 t280 (ji31)).f2) ((rd_T39 t280 (ji31)).f3) ((rd_T39 t280 (ji31)).f4)).bind fun t286 => (if t286 = true then ((op_Encode.f k3 t280).bind fun bt287 => (if bt287.2 = 0 then (some ((strOfNums bt287.1).toList == (strOfNums l1).toList)) else (none))) else (if (ji31) ≤ (t280.length : Int) then ((op_Encode.f k3 (t280.take ((ji31) : Int).toNat)).bind fun bt295 => (if bt295.2 = 0 then (if (bt295.1.length : Int) < (l1.length : Int) then (if 0 ≤ (bt295.1.length : Int) then (if (bt295.1.length : Int) ≤ (l1.length : Int) then (if (strOfNums (l1.take ((bt295.1.length : Int) : Int).toNat)).toList = (strOfNums bt295.1).toList then (some (eqS39 (rd_T39 t280 (ji31)) (⟨0, 0, 0, (List.replicate 32 0), wrap64 (rd l1 (bt295.1.length : Int))⟩ : S39))) else (none)) else (none)) else (none)) else (none)) else (none))) else (none)))) else (none)) else (none)) = some r := by first | (rw [hji31] at H; exact H) | (simp only [hji31] at H ⊢; exact H)
            have hji31w : (IntKind.i64.wrap ((t280.length : Int) - 1)) = ji31 := (i64_w _).trans hji31
            by_cases c32 : 0 ≤ (ji31)
            ·rw [if_pos c32] at H
             have c32b0 : decide (0 ≤ (ji31)) = true := decide_eq_true c32
             clear c32
             by_cases c33 : (ji31) < (t280.length : Int)
             ·rw [if_pos c33] at H
              have c33b0 : decide ((ji31) < (t280.length : Int)) = true := decide_eq_true c33
              clear c33
              replace H := Option.bind_eq_some_iff.mp H
              obtain ⟨t286, A340, H⟩ := H
              replace H : (if t286 = true then ((op_Encode.f k3 t280).bind fun bt287 => (if bt287.2 = 0 then (some ((strOfNums bt287.1).toList == (strOfNums l1).toList)) else (none))) else (if (ji31) ≤ (t280.length : Int) then ((op_Encode.f k3 (t280.take ((ji31) : Int).toNat)).bind fun bt295 => (if bt295.2 = 0 then (if (bt295.1.length : Int) < (l1.length : Int) then (if 0 ≤ (bt295.1.length : Int) then (if (bt295.1.length : Int) ≤ (l1.length : Int) then (if (strOfNums (l1.take ((bt295.1.length : Int) : Int).toNat)).toList = (strOfNums bt295.1).toList then (some (eqS39 (rd_T39 t280 (ji31)) (⟨0, 0, 0, (List.replicate 32 0), wrap64 (rd l1 (bt295.1.length : Int))⟩ : S39))) else (none)) else (none)) else (none)) else (none)) else (none))) else (none))) = some r := H
              have A34 := Aside0.mk A340
              clear A340
              by_cases c35 : t286 = true
              ·subst c35
               have H1 : ((op_Encode.f k3 t280).bind fun bt287 => (if bt287.2 = 0 then (some ((strOfNums bt287.1).toList == (strOfNums l1).toList)) else (none))) = some r := by rw [if_pos rfl] at H; exact H
               clear H
               have H := H1
               clear H1
               replace H := Option.bind_eq_some_iff.mp H
               obtain ⟨⟨t287, t288⟩, A360, H⟩ := H
               replace H : (if t288 = 0 then (some ((strOfNums t287).toList == (strOfNums l1).toList)) else (none)) = some r := H
               have A36 := Aside0.mk A360
               clear A360
               by_cases c37 : t288 = 0
               ·rw [if_pos c37] at H
                have c37b0 : (t288 == 0) = true := beq_iff_eq.mpr c37
                have c37b1 : (t288 != 0) = false := bne_eq_false_iff_eq.mpr c37
                clear c37
                obtain rfl := Option.some.inj H
                obtain ⟨Ao38, co38, eo38⟩ := Kd.R_slice HO_7.out
                subst eo38
                have p285 : 0 ≤ ((ji31) : Int) := of_decide_eq_true (by first | (with_reducible assumption) | assumption)
                have q285 : (ji31) < (t280.length : Int) := of_decide_eq_true (by first | (with_reducible assumption) | assumption)
                obtain ⟨ad285, e285, hx285_0, hx285_1, hx285_2, hx285_3, hx285_4⟩ := at_T39 (Kd.R_reads' HO_7.out).2.2 (ji31) p285 q285
                cases e285
                replace p285 := eq_true p285
                replace q285 := eq_true q285
                go_wp2_with (first | ((with_reducible refine gate_dst (N := 64) rfl ?_); (try (refine gate_guard (by rfl) ?_; dsimp only)); refine Ar.gload_event rfl (T := 39) rfl Try.underlying39 rfl (D := (#[.int .i64 ((rd_T39 t280 (ji31)).f0), .int .i64 ((rd_T39 t280 (ji31)).f1), .int .u64 ((rd_T39 t280 (ji31)).f2)] ++ ((Ar.cells .u8 32 ((rd_T39 t280 (ji31)).f3)) ++ #[.int .i64 ((rd_T39 t280 (ji31)).f4)]))) (by first | (rw [Ar.cells_size]; kernel_rfl) | (simp only [Array.size_append, Ar.cells_size, List.size_toArray, List.length_cons, List.length_nil]; kernel_rfl)) rfl (Ar.elem_part0 hx285_3 Ar.in_whole) ?_) | ((with_reducible refine gate_callee (f := 17) rfl ?_); refine goesL_ (some 65) rfl rfl Try.func17 (by kernel_rfl) rfl #[.agg (#[.int .i64 ((rd_T39 t280 (ji31)).f0), .int .i64 ((rd_T39 t280 (ji31)).f1), .int .u64 ((rd_T39 t280 (ji31)).f2)] ++ ((Ar.cells .u8 32 ((rd_T39 t280 (ji31)).f3)) ++ #[.int .i64 ((rd_T39 t280 (ji31)).f4)]))] rfl (by (try simp only [List.map_toArray, List.map_cons, List.map_nil]); first | done | (simp only [hji31]; rfl) | rfl | (simp only [List.length_drop, List.length_take]; rfl)) ?_; (with_reducible refine (drawlotref24_Right.calls k3 ((rd_T39 t280 (ji31)).f0) ((rd_T39 t280 (ji31)).f1) ((rd_T39 t280 (ji31)).f2) ((rd_T39 t280 (ji31)).f3) ((rd_T39 t280 (ji31)).f4) true _ A34.out).mono ?_); rintro e w39 ⟨rfl, hb⟩; refine ⟨_, rfl, ?_⟩; have n0_ := Aside0.mk (Kd.R_below (by (with_reducible repeat (first | apply Kd.R_alloc | apply Kd.R_drewN | apply Kd.R_drew)); exact HO_7.out) hb); have n1_ := Aside0.mk (below_step (by repeat (first | (with_reducible first | exact HB.out | apply below_alloc | apply pw_below_drewN | apply below_drew1) | exact HB.out)) hb); clear HO_7; clear HB; have HO_7 := n0_; have HB := n1_; clear n0_ n1_; (try clear hb); (try clear hb2); (try clear hk); (try clear hi)) | ((with_reducible refine gate_callee (f := 12) rfl ?_); refine goesL_ (some 68) rfl rfl Try.func12 (by kernel_rfl) rfl #[.slice (some ad285) t280.length co38] rfl (by (try simp only [List.map_toArray, List.map_cons, List.map_nil]); first | done | rfl | (simp only [List.length_drop, List.length_take]; rfl)) ?_; (with_reducible refine (op_Encode.calls k3 _ _ t280 t287 t288 _ ?side1 ?side2 A36.out).mono ?_); (case side1 => repeat (first | exact (Kd.R_reads' HO_7.out).2.2 | (with_reducible refine Kd.C_alloc ?_ _) | (with_reducible refine Kd.C_drewN ?_ _) | (with_reducible refine Kd.C_drew ?_))); (case side2 => exact (Kd.R_reads' HO_7.out).2.1); rintro e w40 ⟨v289, rfl, ho0, hb⟩; refine ⟨_, rfl, ?_⟩; have n0_ := Aside0.mk (Kd.R_below (by (with_reducible repeat (first | apply Kd.R_alloc | apply Kd.R_drewN | apply Kd.R_drew)); exact HO_7.out) hb); have n1_ := Aside0.mk (Kd.R_lower ho0 (below_size (by repeat (first | (with_reducible first | exact HB.out | apply below_alloc | apply pw_below_drewN | apply below_drew1) | exact HB.out)))); have n2_ := Aside0.mk (below_step (by repeat (first | (with_reducible first | exact HB.out | apply below_alloc | apply pw_below_drewN | apply below_drew1) | exact HB.out)) hb); clear HO_7; clear HB; have HO_7 := n0_; have HO290 := n1_; have HB := n2_; clear n0_ n1_ n2_; (try clear hb); (try clear hb2); (try clear hk); (try clear hi); (try clear ho0); have hcv41 := own_string (P := Try.prog) Try.underlying22 Try.underlying5 Try.underlying9 (Kd.own_of_R HO290.out); have hcv42 := fun (n_ : Nat) => own_string (P := Try.prog) Try.underlying22 Try.underlying5 Try.underlying9 (Kd.own_of_R (Kd.R_drewN HO290.out n_)); have hcv43 := Kd.C_string (P := Try.prog) (A := A1) (c := c1) Try.underlying22 Try.underlying5 Try.underlying9 (Kd.C_below HR1.out HB.out); have hcv44 := fun (n_ : Nat) => Kd.C_string (P := Try.prog) (A := A1) (c := c1) Try.underlying22 Try.underlying5 Try.underlying9 (Kd.C_drewN ((Kd.C_below HR1.out HB.out)) n_)))
                go_ret
                exact ⟨by first | rfl | (simp [errW_none, errW_some] <;> rfl) | (simp only [← hji31]; first | rfl | (simp [errW_none, errW_some] <;> rfl)) | (simp [*, errW_none, errW_some] <;> rfl), by repeat (first | (with_reducible first | exact HB.out | apply below_alloc | apply pw_below_drewN | apply below_drew1) | exact HB.out)⟩
               ·rw [if_neg c37] at H
                exact absurd H (by simp)
              ·replace c35 := Bool.eq_false_iff.mpr c35
               subst c35
               have H1 : (if (ji31) ≤ (t280.length : Int) then ((op_Encode.f k3 (t280.take ((ji31) : Int).toNat)).bind fun bt295 => (if bt295.2 = 0 then (if (bt295.1.length : Int) < (l1.length : Int) then (if 0 ≤ (bt295.1.length : Int) then (if (bt295.1.length : Int) ≤ (l1.length : Int) then (if (strOfNums (l1.take ((bt295.1.length : Int) : Int).toNat)).toList = (strOfNums bt295.1).toList then (some (eqS39 (rd_T39 t280 (ji31)) (⟨0, 0, 0, (List.replicate 32 0), wrap64 (rd l1 (bt295.1.length : Int))⟩ : S39))) else (none)) else (none)) else (none)) else (none)) else (none))) else (none)) = some r := by rw [if_neg (show ¬ (false = true) by decide)] at H; exact H
               clear H
               have H := H1
               clear H1
               have c45b0 := eq_true (of_decide_eq_true (by first | (with_reducible assumption) | assumption) : 0 ≤ (ji31))
               by_cases c46 : (ji31) ≤ (t280.length : Int)
               ·rw [if_pos c46] at H
                have c46b0 := eq_true c46
                have c46b1 : decide ((ji31) ≤ (t280.length : Int)) = true := decide_eq_true c46
                clear c46
                obtain ⟨y291, hy291⟩ : ∃ y_ : List (S39), y_ = (t280.take ((ji31) : Int).toNat) := ⟨_, rfl⟩
                replace H : ((op_Encode.f k3 y291).bind fun bt295 => (if bt295.2 = 0 then (if (bt295.1.length : Int) < (l1.length : Int) then (if 0 ≤ (bt295.1.length : Int) then (if (bt295.1.length : Int) ≤ (l1.length : Int) then (if (strOfNums (l1.take ((bt295.1.length : Int) : Int).toNat)).toList = (strOfNums bt295.1).toList then (some (eqS39 (rd_T39 t280 (ji31)) (⟨0, 0, 0, (List.replicate 32 0), wrap64 (rd l1 (bt295.1.length : Int))⟩ : S39))) else (none)) else (none)) else (none)) else (none)) else (none))) = some r := by first | (rw [hy291]; with_reducible exact H) | (have H2_ := (Option.bind_some _ _).symm.trans H; rw [hy291]; with_reducible exact H2_) | (have H2_ := (Option.bind_some _ _).symm.trans H; with_reducible exact H2_) | with_reducible exact H | (rw [hy291]; exact H) | exact H
                have Ny291 := Aside0.mk hy291
                clear hy291
                replace H := Option.bind_eq_some_iff.mp H
                obtain ⟨⟨t295, t296⟩, A470, H⟩ := H
                replace H : (if t296 = 0 then (if (t295.length : Int) < (l1.length : Int) then (if 0 ≤ (t295.length : Int) then (if (t295.length : Int) ≤ (l1.length : Int) then (if (strOfNums (l1.take ((t295.length : Int) : Int).toNat)).toList = (strOfNums t295).toList then (some (eqS39 (rd_T39 t280 (ji31)) (⟨0, 0, 0, (List.replicate 32 0), wrap64 (rd l1 (t295.length : Int))⟩ : S39))) else (none)) else (none)) else (none)) else (none)) else (none)) = some r := H
                have A47 := Aside0.mk A470
                clear A470
                by_cases c48 : t296 = 0
                ·rw [if_pos c48] at H
                 have c48b0 : (t296 == 0) = true := beq_iff_eq.mpr c48
                 have c48b1 : (t296 != 0) = false := bne_eq_false_iff_eq.mpr c48
                 clear c48
                 by_cases c49 : (t295.length : Int) < (l1.length : Int)
                 ·rw [if_pos c49] at H
                  have c49b0 : decide ((t295.length : Int) < (l1.length : Int)) = true := decide_eq_true c49
                  have c49b1 : decide (t295.length < l1.length) = true := decide_eq_true (Int.ofNat_lt.mp c49)
                  clear c49
                  by_cases c50 : 0 ≤ (t295.length : Int)
                  ·rw [if_pos c50] at H
                   have c50b0 := eq_true c50
                   have c50b1 : decide (0 ≤ (t295.length : Int)) = true := decide_eq_true c50
                   clear c50
                   by_cases c51 : (t295.length : Int) ≤ (l1.length : Int)
                   ·rw [if_pos c51] at H
                    have c51b0 := eq_true c51
                    have c51b1 : decide ((t295.length : Int) ≤ (l1.length : Int)) = true := decide_eq_true c51
                    clear c51
                    by_cases c52 : (strOfNums (l1.take ((t295.length : Int) : Int).toNat)).toList = (strOfNums t295).toList
                    ·rw [if_pos c52] at H
                     have c52b0 : ((strOfNums (l1.take ((t295.length : Int) : Int).toNat)).toList == (strOfNums t295).toList) = true := beq_iff_eq.mpr c52
                     (try (have c52b0t := c52b0; simp only [Int.toNat_natCast] at c52b0t))
                     have c52b1 : ((strOfNums (l1.take ((t295.length : Int) : Int).toNat)).toList != (strOfNums t295).toList) = false := bne_eq_false_iff_eq.mpr c52
                     (try (have c52b1t := c52b1; simp only [Int.toNat_natCast] at c52b1t))
                     clear c52
                     obtain rfl := Option.some.inj H
                     obtain ⟨Ao53, co53, eo53⟩ := Kd.R_slice HO_7.out
                     subst eo53
                     have p285 : 0 ≤ ((ji31) : Int) := of_decide_eq_true (by first | (with_reducible assumption) | assumption)
                     have q285 : (ji31) < (t280.length : Int) := of_decide_eq_true (by first | (with_reducible assumption) | assumption)
                     obtain ⟨ad285, e285, hx285_0, hx285_1, hx285_2, hx285_3, hx285_4⟩ := at_T39 (Kd.R_reads' HO_7.out).2.2 (ji31) p285 q285
                     cases e285
                     replace p285 := eq_true p285
                     replace q285 := eq_true q285
                     try go_wp2_with (first | ((with_reducible refine gate_dst (N := 64) rfl ?_); (try (refine gate_guard (by rfl) ?_; dsimp only)); refine Ar.gload_event rfl (T := 39) rfl Try.underlying39 rfl (D := (#[.int .i64 ((rd_T39 t280 (ji31)).f0), .int .i64 ((rd_T39 t280 (ji31)).f1), .int .u64 ((rd_T39 t280 (ji31)).f2)] ++ ((Ar.cells .u8 32 ((rd_T39 t280 (ji31)).f3)) ++ #[.int .i64 ((rd_T39 t280 (ji31)).f4)]))) (by first | (rw [Ar.cells_size]; kernel_rfl) | (simp only [Array.size_append, Ar.cells_size, List.size_toArray, List.length_cons, List.length_nil]; kernel_rfl)) rfl (Ar.elem_part0 hx285_3 Ar.in_whole) ?_) | ((with_reducible refine gate_callee (f := 17) rfl ?_); refine goesL_ (some 65) rfl rfl Try.func17 (by kernel_rfl) rfl #[.agg (#[.int .i64 ((rd_T39 t280 (ji31)).f0), .int .i64 ((rd_T39 t280 (ji31)).f1), .int .u64 ((rd_T39 t280 (ji31)).f2)] ++ ((Ar.cells .u8 32 ((rd_T39 t280 (ji31)).f3)) ++ #[.int .i64 ((rd_T39 t280 (ji31)).f4)]))] rfl (by (try simp only [List.map_toArray, List.map_cons, List.map_nil]); first | done | (simp only [hji31]; rfl) | rfl | (simp only [List.length_drop, List.length_take]; rfl)) ?_; (with_reducible refine (drawlotref24_Right.calls k3 ((rd_T39 t280 (ji31)).f0) ((rd_T39 t280 (ji31)).f1) ((rd_T39 t280 (ji31)).f2) ((rd_T39 t280 (ji31)).f3) ((rd_T39 t280 (ji31)).f4) false _ A34.out).mono ?_); rintro e w54 ⟨rfl, hb⟩; refine ⟨_, rfl, ?_⟩; have n0_ := Aside0.mk (Kd.R_below (by (with_reducible repeat (first | apply Kd.R_alloc | apply Kd.R_drewN | apply Kd.R_drew)); exact HO_7.out) hb); have n1_ := Aside0.mk (below_step (by repeat (first | (with_reducible first | exact HB.out | apply below_alloc | apply pw_below_drewN | apply below_drew1) | exact HB.out)) hb); clear HO_7; clear HB; have HO_7 := n0_; have HB := n1_; clear n0_ n1_; (try clear hb); (try clear hb2); (try clear hk); (try clear hi); have q55 : ((ji31) : Int) ≤ ((t280.length : Int) : Int) := of_decide_eq_true (by first | (with_reducible assumption) | assumption); obtain ⟨i055, hi055, _, hsz55, _⟩ := info_parts info39; have hroom55 : t280.length ≤ co53 := (Kd.R_reads' HO_7.out).2.1; have hC55 : Kd.C k39 _ (some ad285) t280.length t280 := (Kd.R_reads' HO_7.out).2.2; have hcut55 := cut_to (P := Try.prog) 25 39 .i64 Try.underlying25 hi055 (some ad285) t280.length co53 (ji31) (of_decide_eq_true (by first | (with_reducible assumption) | assumption)) q55 hroom55; have hr55 := Kd.C_take (m := ((ji31) : Int).toNat) hC55 (by omega); have hy55 : y291.length = ((ji31) : Int).toNat := (by rw [Ny291.out, List.length_take]; omega); rw [← Ny291.out] at hr55; rw [← hy55] at hcut55; have HR294 := Aside0.mk hr55; have HC294 := Aside0.mk (show y291.length ≤ co53 from by omega); clear hr55 hC55 hroom55 hi055 hsz55; have KY55 := Aside0.mk hy55; clear hy55; have KL55 := Aside0.mk (show ((ji31) : Int).toNat ≤ t280.length from by omega); replace q55 := eq_true q55) | ((with_reducible refine gate_callee (f := 12) rfl ?_); refine goesL_ (some 86) rfl rfl Try.func12 (by kernel_rfl) rfl #[.slice (some ad285) y291.length co53] rfl (by (try simp only [List.map_toArray, List.map_cons, List.map_nil]); first | done | rfl | (simp only [List.length_drop, List.length_take]; rfl)) ?_; (with_reducible refine (op_Encode.calls k3 _ _ y291 t295 t296 _ ?side1 ?side2 A47.out).mono ?_); (case side1 => repeat (first | exact (by repeat (first | (with_reducible exact HR294.out) | (with_reducible refine Kd.C_alloc ?_ _) | (with_reducible refine Kd.C_drewN ?_ _) | (with_reducible refine Kd.C_drew ?_) | exact HR294.out)) | (with_reducible refine Kd.C_alloc ?_ _) | (with_reducible refine Kd.C_drewN ?_ _) | (with_reducible refine Kd.C_drew ?_))); (case side2 => exact HC294.out); rintro e w56 ⟨v297, rfl, ho0, hb⟩; refine ⟨_, rfl, ?_⟩; have n0_ := Aside0.mk (Kd.R_below (by (with_reducible repeat (first | apply Kd.R_alloc | apply Kd.R_drewN | apply Kd.R_drew)); exact HO_7.out) hb); have n1_ := Aside0.mk (Kd.R_lower ho0 (below_size (by repeat (first | (with_reducible first | exact HB.out | apply below_alloc | apply pw_below_drewN | apply below_drew1) | exact HB.out)))); have n2_ := Aside0.mk (Kd.C_below (by repeat (first | (with_reducible exact HR294.out) | (with_reducible refine Kd.C_alloc ?_ _) | (with_reducible refine Kd.C_drewN ?_ _) | (with_reducible refine Kd.C_drew ?_) | exact HR294.out)) hb); have n3_ := Aside0.mk (below_step (by repeat (first | (with_reducible first | exact HB.out | apply below_alloc | apply pw_below_drewN | apply below_drew1) | exact HB.out)) hb); clear HO_7; clear HR294; clear HB; have HO_7 := n0_; have HO298 := n1_; have HR294 := n2_; have HB := n3_; clear n0_ n1_ n2_ n3_; (try clear hb); (try clear hb2); (try clear hk); (try clear hi); (try clear ho0); have p299 : 0 ≤ ((ji31) : Int) := of_decide_eq_true (by first | (with_reducible assumption) | assumption); have q299 : (ji31) < (t280.length : Int) := of_decide_eq_true (by first | (with_reducible assumption) | assumption); obtain ⟨ad299, e299, hx299_0, hx299_1, hx299_2, hx299_3, hx299_4⟩ := at_T39 (Kd.R_reads' HO_7.out).2.2 (ji31) p299 q299; obtain rfl : ad285 = ad299 := (by injection e299); replace p299 := eq_true p299; replace q299 := eq_true q299) | ((with_reducible refine gate_dst (N := 94) rfl ?_); (try (refine gate_guard (by rfl) ?_; dsimp only)); refine Ar.gload_event rfl (T := 39) rfl Try.underlying39 rfl (D := (#[.int .i64 ((rd_T39 t280 (ji31)).f0), .int .i64 ((rd_T39 t280 (ji31)).f1), .int .u64 ((rd_T39 t280 (ji31)).f2)] ++ ((Ar.cells .u8 32 ((rd_T39 t280 (ji31)).f3)) ++ #[.int .i64 ((rd_T39 t280 (ji31)).f4)]))) (by first | (rw [Ar.cells_size]; kernel_rfl) | (simp only [Array.size_append, Ar.cells_size, List.size_toArray, List.length_cons, List.length_nil]; kernel_rfl)) rfl (Ar.elem_part0 hx299_3 Ar.in_whole) ?_) | ((with_reducible refine gate_dst (N := 13) rfl ?_); (try (refine gate_guard (by rfl) ?_; dsimp only)); refine box_event ?hg (N := 13) ?hd (cs := (#[.int .i64 0, .int .i64 0, .int .u64 0] ++ ((Ar.cells .u8 32 (List.replicate 32 0)) ++ #[.int .i64 0]))) (t := 39) ?hr ?_; (case hd => rfl); (case hg => rfl); (case hr => first | exact Ar.gbox_run rfl rfl | exact Ar.galloc_run rfl (by kernel_rfl) | (go_simp; done) | (go_simp; rfl)); intro gb300 hg w57 hbox hb; have n0_ := Aside0.mk (Kd.R_below (Kd.R_elderB (by (with_reducible repeat (first | apply Kd.R_alloc | apply Kd.R_drewN | apply Kd.R_drew)); exact HO_7.out) gb300 (Nat.le_of_eq hg.symm)) hb); have n1_ := Aside0.mk (Kd.R_below (by (with_reducible repeat (first | apply Kd.R_alloc | apply Kd.R_drewN | apply Kd.R_drew)); exact HO298.out) hb); have n2_ := Aside0.mk (Kd.C_below (by repeat (first | (with_reducible exact HR294.out) | (with_reducible refine Kd.C_alloc ?_ _) | (with_reducible refine Kd.C_drewN ?_ _) | (with_reducible refine Kd.C_drew ?_) | exact HR294.out)) hb); have n3_ := Aside0.mk (below_step (by repeat (first | (with_reducible first | exact HB.out | apply below_alloc | apply pw_below_drewN | apply below_drew1) | exact HB.out)) hb); have n4_ := Aside0.mk (hbox); have n5_ := Aside0.mk ((by rw [hg]; exact (below_size (by repeat (first | (with_reducible first | exact HB.out | apply below_alloc | apply pw_below_drewN | apply below_drew1) | exact HB.out))) : w.heap.size ≤ gb300)); have n6_ := Aside0.mk ((by rw [hg]; exact (below_size (by repeat (first | (with_reducible first | exact HB.out | apply below_alloc | apply pw_below_drewN | apply below_drew1) | exact HB.out))) : w.heap.size ≤ gb300)); clear HO_7; clear HO298; clear HR294; clear HB; have HO_7 := n0_; have HO298 := n1_; have HR294 := n2_; have HB := n3_; have BK300 := n4_; have GW300 := n5_; have GE300 := n6_; clear n0_ n1_ n2_ n3_ n4_ n5_ n6_; clear hb hbox hg) | ((with_reducible refine gate_store (t := 39) (p := 13) rfl ?_); refine Ar.gstore_event rfl rfl rfl (D := (#[.int .i64 ((rd_T39 t280 (ji31)).f0), .int .i64 ((rd_T39 t280 (ji31)).f1), .int .u64 ((rd_T39 t280 (ji31)).f2)] ++ ((Ar.cells .u8 32 ((rd_T39 t280 (ji31)).f3)) ++ #[.int .i64 ((rd_T39 t280 (ji31)).f4)]))) (by first | (rw [Ar.cells_size]; kernel_rfl) | (simp only [Array.size_append, Ar.cells_size, List.size_toArray, List.length_cons, List.length_nil]; kernel_rfl)) (g := gb300) rfl (by first | rfl | (go_simp; done) | (go_simp; rfl)) (by (with_reducible repeat (first | refine blk_drewN ?_ _ | refine blk_drew ?_ | refine blk_alloc ?_ _)); exact BK300.out) (by simp [Ar.cells_size]) (by repeat (first | (with_reducible refine Ar.all_app ?_ ?_) | (with_reducible exact Ar.cells_one _ _ _) | (focus (simp [Value.oneCell']; done)) | rfl)) ?_; intro w58 hbk_ hg; have n0_ := Aside0.mk (Kd.R_grown (by (with_reducible repeat (first | apply Kd.R_alloc | apply Kd.R_drewN | apply Kd.R_drew)); exact HO_7.out) hg (by intro k_ hk e_; exact (hk.2) (Option.some.inj e_))); have n1_ := Aside0.mk (Kd.R_mono (Kd.R_grown (Kd.R_types (by (with_reducible repeat (first | apply Kd.R_alloc | apply Kd.R_drewN | apply Kd.R_drew)); exact HO298.out) BK300.out (by decide)) hg (fun k_ hk_ e_ => hk_.2 (Option.some.inj e_))) (fun _ h_ => h_.1)); have n2_ := Aside0.mk (hbk_); have n3_ := Aside0.mk (Below.grown (by repeat (first | (with_reducible first | exact HB.out | apply below_alloc | apply pw_below_drewN | apply below_drew1 | refine below_set ?_ GE300.out) | exact HB.out)) hg ((below_size (by repeat (first | (with_reducible first | exact HB.out | apply below_alloc | apply pw_below_drewN | apply below_drew1 | refine below_set ?_ GE300.out) | exact HB.out)))) (fun _ e_ => by cases e_; exact GE300.out)); clear HO_7; clear HO298; clear BK300; clear HB; have HO_7 := n0_; have HO298 := n1_; have BK300 := n2_; have HB := n3_; clear n0_ n1_ n2_ n3_; clear hbk_ hg))
                     have n0_ := Aside0.mk (Kd.R_drew HO_7.out)
                     have n1_ := Aside0.mk (Kd.R_drew HO298.out)
                     have n2_ := Aside0.mk (blk_drew BK300.out)
                     have n3_ := Aside0.mk (below_drew1 HB.out)
                     clear HO_7
                     clear HO298
                     clear BK300
                     clear HB
                     have HO_7 := n0_
                     have HO298 := n1_
                     have BK300 := n2_
                     have HB := n3_
                     clear n0_ n1_ n2_ n3_
                     obtain ⟨Ao60, co60, eo60⟩ := Kd.R_slice HO298.out
                     (first | subst eo60 | (injection eo60 with f1_ f2_ f3_; have f4_ := f1_.symm; have f5_ := f3_.symm; clear f1_ f2_ f3_; subst f4_; subst f5_))
                     obtain ⟨i061, hi061, _, hsz61, _⟩ := info_parts info5
                     obtain ⟨hcut61, hA61, hC61⟩ := print_take_of (P := Try.prog) (Value.int .u8) 0 22 5 .i64 Try.underlying22 hi061 hsz61 A1 c1 l1 (t295.length : Int) (of_decide_eq_true (by first | (with_reducible assumption) | assumption)) (of_decide_eq_true (by first | (with_reducible assumption) | assumption)) HC1.out
                     have HR301 := Aside0.mk (Kd.C_of_reads (h1 := fun _ => rfl) (hA61 _ (Kd.reads_of_C HR1.out)))
                     have HC301 := Aside0.mk hC61
                     clear hA61 hC61 hi061 hsz61
                     have p302 : 0 ≤ ((t295.length : Int) : Int) := of_decide_eq_true (by first | (with_reducible assumption) | assumption)
                     have q302 : (t295.length : Int) < (l1.length : Int) := of_decide_eq_true (by first | (with_reducible assumption) | assumption)
                     obtain ⟨ad302, e302, hx302_0⟩ := Kd.at_int HR1.out (t295.length : Int) p302 q302
                     have hw302_0 := hx302_0
                     cases e302
                     replace hx302_0 := (HB.out.cell (World.block_lt_of_cell? w _ hx302_0)).trans hx302_0
                     (try simp only [Go.IntWalk.toNatUp] at hx302_0)
                     replace p302 := eq_true p302
                     replace q302 := eq_true q302
                     refine start_ (n := 31) (S := fun w' => w'.heap[gb300]? = some (.cells (#[.int .i64 ((rd_T39 t280 (ji31)).f0), .int .i64 ((rd_T39 t280 (ji31)).f1), .int .u64 ((rd_T39 t280 (ji31)).f2)] ++ ((Ar.cells .u8 32 ((rd_T39 t280 (ji31)).f3)) ++ #[.int .i64 ((rd_T39 t280 (ji31)).f4)])) 39 (0, 0)) ∧ w'.cell? ⟨gb300, 0, none⟩ = some (.int .i64 ((rd_T39 t280 (ji31)).f0)) ∧ w'.cell? ⟨gb300, 1, none⟩ = some (.int .i64 ((rd_T39 t280 (ji31)).f1)) ∧ w'.cell? ⟨gb300, 2, none⟩ = some (.int .u64 ((rd_T39 t280 (ji31)).f2)) ∧ w'.cell? ⟨gb300, 35, none⟩ = some (.int .i64 ((rd_T39 t280 (ji31)).f4)) ∧ w'.cell? (ad302.add ((t295.length : Int)).toNat) = some (.int .u8 (rd l1 (t295.length : Int)))) (ds := []) #[false, false, false, false, false, false, false, false, false, false, false, false, false, false, false, false, false, false, false, false, false, false, false, false, false, false, false, false, false, false, false] (by kernel_rfl) rfl rfl ⟨BK300.out, (blk_cell BK300.out 0).trans (by first | (simp [Array.getElem?_append, Ar.cells_size]; done) | (simp [Array.getElem?_append, Array.getElem_push, Ar.cells_size]; done)), (blk_cell BK300.out 1).trans (by first | (simp [Array.getElem?_append, Ar.cells_size]; done) | (simp [Array.getElem?_append, Array.getElem_push, Ar.cells_size]; done)), (blk_cell BK300.out 2).trans (by first | (simp [Array.getElem?_append, Ar.cells_size]; done) | (simp [Array.getElem?_append, Array.getElem_push, Ar.cells_size]; done)), (blk_cell BK300.out 35).trans (by first | (simp [Array.getElem?_append, Ar.cells_size]; done) | (simp [Array.getElem?_append, Array.getElem_push, Ar.cells_size]; done)), ((HB.out.cell (World.block_lt_of_cell? w _ hw302_0)).trans hw302_0)⟩ (fun hHeld => ?_); refine with_tabW drawlotlaw24_OpBack.tab21 drawlotlaw24_OpBack.bits21 (fun HT_ HW_ => ?_)
                     generalize w58.drew = w59 at HO_7 HO298 BK300 HB HR301 hx302_0 hHeld ⊢
                     refine pure_ (i := 0) (N := some 95) (v := ?_) (a' := ?_) #[true, false, false, false, false, false, false, false, false, false, false, false, false, false, false, false, false, false, false, false, false, false, false, false, false, false, false, false, false, false, false] rfl rfl (any_of HT_.out (by kernel_rfl)) (fun _ _ _ h => h) (Or.inl ⟨by rfl, ?_⟩) ?_ ?_
                     rotate_left
                     ·intro w'
                      go_simp
                      with_reducible rfl
                     rotate_left
                     ·simp only [Act.put, List.setIfInBounds_toArray, List.set_cons_zero, List.set_cons_succ, i64_w, i32_w]
                      rfl
                     refine pure_ (i := 1) (N := some 96) (v := ?_) (a' := ?_) #[true, true, false, false, false, false, false, false, false, false, false, false, false, false, false, false, false, false, false, false, false, false, false, false, false, false, false, false, false, false, false] rfl rfl (any_of HT_.out (by kernel_rfl)) (fun _ _ _ h => h) (Or.inl ⟨by rfl, ?_⟩) ?_ ?_
                     rotate_left
                     ·intro w'
                      go_simp
                      with_reducible rfl
                     rotate_left
                     ·simp only [Act.put, List.setIfInBounds_toArray, List.set_cons_zero, List.set_cons_succ, i64_w, i32_w]
                      rfl
                     refine pure_ (i := 2) (N := some 97) (v := ?_) (a' := ?_) #[true, true, true, false, false, false, false, false, false, false, false, false, false, false, false, false, false, false, false, false, false, false, false, false, false, false, false, false, false, false, false] rfl rfl (any_of HT_.out (by kernel_rfl)) (fun _ _ _ h => h) (Or.inl ⟨by rfl, ?_⟩) ?_ ?_
                     rotate_left
                     ·intro w'
                      go_simp
                      with_reducible rfl
                     rotate_left
                     ·simp only [Act.put, List.setIfInBounds_toArray, List.set_cons_zero, List.set_cons_succ, i64_w, i32_w]
                      rfl
                     refine pure_ (i := 3) (N := some 98) (v := ?_) (a' := ?_) #[true, true, true, true, false, false, false, false, false, false, false, false, false, false, false, false, false, false, false, false, false, false, false, false, false, false, false, false, false, false, false] rfl rfl (any_of HT_.out (by kernel_rfl)) (fun _ _ _ h => h) (Or.inl ⟨by rfl, ?_⟩) ?_ ?_
                     rotate_left
                     ·intro w'
                      go_simp
                      with_reducible rfl
                     rotate_left
                     ·simp only [Act.put, List.setIfInBounds_toArray, List.set_cons_zero, List.set_cons_succ, i64_w, i32_w]
                      rfl
                     refine pure_ (i := 4) (N := some 99) (v := ?_) (a' := ?_) #[true, true, true, true, true, false, false, false, false, false, false, false, false, false, false, false, false, false, false, false, false, false, false, false, false, false, false, false, false, false, false] rfl rfl (any_of HT_.out (by kernel_rfl)) (fun _ _ _ h => h) (Or.inl ⟨by rfl, ?_⟩) ?_ ?_
                     rotate_left
                     ·intro w'
                      go_simp
                      with_reducible rfl
                     rotate_left
                     ·simp only [Act.put, List.setIfInBounds_toArray, List.set_cons_zero, List.set_cons_succ, i64_w, i32_w]
                      rfl
                     refine pure_ (i := 5) (N := some 100) (v := ?_) (a' := ?_) #[true, true, true, true, true, true, false, false, false, false, false, false, false, false, false, false, false, false, false, false, false, false, false, false, false, false, false, false, false, false, false] rfl rfl (any_of HT_.out (by kernel_rfl)) (fun _ _ _ h => h) (Or.inl ⟨by rfl, ?_⟩) ?_ ?_
                     rotate_left
                     ·intro w'
                      go_simp
                      with_reducible rfl
                     rotate_left
                     ·simp only [Act.put, List.setIfInBounds_toArray, List.set_cons_zero, List.set_cons_succ, i64_w, i32_w]
                      rfl
                     refine pure_ (i := 6) (N := some 101) (v := ?_) (a' := ?_) #[true, true, true, true, true, true, true, false, false, false, false, false, false, false, false, false, false, false, false, false, false, false, false, false, false, false, false, false, false, false, false] rfl rfl (any_of HT_.out (by kernel_rfl)) (fun _ _ _ h => h) (Or.inl ⟨by rfl, ?_⟩) ?_ ?_
                     rotate_left
                     ·intro w'
                      go_simp
                      with_reducible rfl
                     rotate_left
                     ·simp only [Act.put, List.setIfInBounds_toArray, List.set_cons_zero, List.set_cons_succ, i64_w, i32_w]
                      rfl
                     refine pure_ (i := 7) (N := some 102) (v := ?_) (a' := ?_) #[true, true, true, true, true, true, true, true, false, false, false, false, false, false, false, false, false, false, false, false, false, false, false, false, false, false, false, false, false, false, false] rfl rfl (any_of HT_.out (by kernel_rfl)) (fun _ _ _ h => h) (Or.inl ⟨by rfl, ?_⟩) ?_ ?_
                     rotate_left
                     ·intro w'
                      go_simp
                      with_reducible rfl
                     rotate_left
                     ·simp only [Act.put, List.setIfInBounds_toArray, List.set_cons_zero, List.set_cons_succ, i64_w, i32_w]
                      rfl
                     refine pure_ (i := 8) (N := some 103) (v := ?_) (a' := ?_) #[true, true, true, true, true, true, true, true, true, false, false, false, false, false, false, false, false, false, false, false, false, false, false, false, false, false, false, false, false, false, false] rfl rfl (any_of HT_.out (by kernel_rfl)) (fun _ _ _ h => h) (Or.inl ⟨by rfl, ?_⟩) ?_ ?_
                     rotate_left
                     ·intro w'
                      go_simp
                      with_reducible rfl
                     rotate_left
                     ·simp only [Act.put, List.setIfInBounds_toArray, List.set_cons_zero, List.set_cons_succ, i64_w, i32_w]
                      rfl
                     refine pure_ (i := 9) (N := some 104) (v := ?_) (a' := ?_) #[true, true, true, true, true, true, true, true, true, true, false, false, false, false, false, false, false, false, false, false, false, false, false, false, false, false, false, false, false, false, false] rfl rfl (any_of HT_.out (by kernel_rfl)) (fun _ _ _ h => h) (Or.inl ⟨by rfl, ?_⟩) ?_ ?_
                     rotate_left
                     ·intro w'
                      go_simp
                      with_reducible rfl
                     rotate_left
                     ·simp only [Act.put, List.setIfInBounds_toArray, List.set_cons_zero, List.set_cons_succ, i64_w, i32_w]
                      rfl
                     refine pure_ (i := 10) (N := some 105) (v := ?_) (a' := ?_) #[true, true, true, true, true, true, true, true, true, true, true, false, false, false, false, false, false, false, false, false, false, false, false, false, false, false, false, false, false, false, false] rfl rfl (any_of HT_.out (by kernel_rfl)) (fun _ _ _ h => h) (Or.inl ⟨by rfl, ?_⟩) ?_ ?_
                     rotate_left
                     ·intro w'
                      go_simp
                      with_reducible rfl
                     rotate_left
                     ·simp only [Act.put, List.setIfInBounds_toArray, List.set_cons_zero, List.set_cons_succ, i64_w, i32_w]
                      rfl
                     refine pure_ (i := 11) (N := some 106) (v := ?_) (a' := ?_) #[true, true, true, true, true, true, true, true, true, true, true, true, false, false, false, false, false, false, false, false, false, false, false, false, false, false, false, false, false, false, false] rfl rfl (any_of HT_.out (by kernel_rfl)) (fun _ _ _ h => h) (Or.inl ⟨by rfl, ?_⟩) ?_ ?_
                     rotate_left
                     ·intro w'
                      go_simp
                      with_reducible rfl
                     rotate_left
                     ·simp only [Act.put, List.setIfInBounds_toArray, List.set_cons_zero, List.set_cons_succ, i64_w, i32_w]
                      rfl
                     refine pure_ (i := 12) (N := some 107) (v := ?_) (a' := ?_) #[true, true, true, true, true, true, true, true, true, true, true, true, true, false, false, false, false, false, false, false, false, false, false, false, false, false, false, false, false, false, false] rfl rfl (any_of HT_.out (by kernel_rfl)) (fun _ _ _ h => h) (Or.inl ⟨by rfl, ?_⟩) ?_ ?_
                     rotate_left
                     ·intro w'
                      go_simp
                      with_reducible rfl
                     rotate_left
                     ·simp only [Act.put, List.setIfInBounds_toArray, List.set_cons_zero, List.set_cons_succ, i64_w, i32_w]
                      rfl
                     refine pure_ (i := 13) (N := some 108) (v := ?_) (a' := ?_) #[true, true, true, true, true, true, true, true, true, true, true, true, true, true, false, false, false, false, false, false, false, false, false, false, false, false, false, false, false, false, false] rfl rfl (any_of HT_.out (by kernel_rfl)) (fun _ _ _ h => h) (Or.inl ⟨by rfl, ?_⟩) ?_ ?_
                     rotate_left
                     ·intro w'
                      go_simp
                      with_reducible rfl
                     rotate_left
                     ·simp only [Act.put, List.setIfInBounds_toArray, List.set_cons_zero, List.set_cons_succ, i64_w, i32_w]
                      rfl
                     refine pure_ (i := 15) (N := some 110) (v := ?_) (a' := ?_) #[true, true, true, true, true, true, true, true, true, true, true, true, true, true, false, true, false, false, false, false, false, false, false, false, false, false, false, false, false, false, false] rfl rfl (any_of HT_.out (by kernel_rfl)) (fun _ _ _ h => h) (Or.inl ⟨by rfl, ?_⟩) ?_ ?_
                     rotate_left
                     ·intro w'
                      go_simp
                      with_reducible rfl
                     rotate_left
                     ·simp only [Act.put, List.setIfInBounds_toArray, List.set_cons_zero, List.set_cons_succ, i64_w, i32_w]
                      rfl
                     refine join_ (σ := Unit) 14 #[true, true, true, true, true, true, true, true, true, true, true, true, true, true, true, true, true, false, false, false, false, false, false, false, false, false, false, false, false, false, false] (fun s_ => [(109, .string (strOfNums (l1.take ((t295.length : Int) : Int).toNat))), (111, .string (strOfNums t295))]) (fun s_ w' => (w'.heap[gb300]? = some (.cells (#[.int .i64 ((rd_T39 t280 (ji31)).f0), .int .i64 ((rd_T39 t280 (ji31)).f1), .int .u64 ((rd_T39 t280 (ji31)).f2)] ++ ((Ar.cells .u8 32 ((rd_T39 t280 (ji31)).f3)) ++ #[.int .i64 ((rd_T39 t280 (ji31)).f4)])) 39 (0, 0)) ∧ w'.cell? ⟨gb300, 0, none⟩ = some (.int .i64 ((rd_T39 t280 (ji31)).f0)) ∧ w'.cell? ⟨gb300, 1, none⟩ = some (.int .i64 ((rd_T39 t280 (ji31)).f1)) ∧ w'.cell? ⟨gb300, 2, none⟩ = some (.int .u64 ((rd_T39 t280 (ji31)).f2)) ∧ w'.cell? ⟨gb300, 35, none⟩ = some (.int .i64 ((rd_T39 t280 (ji31)).f4)) ∧ w'.cell? (ad302.add ((t295.length : Int)).toNat) = some (.int .u8 (rd l1 (t295.length : Int)))) ∧ (Kd.R (Kd.int .u8) 5 w' w.heap.size (fun _ => True) (.slice Ao60 t295.length co60) t295) ∧ (Kd.R k39 39 w' w.heap.size (fun k_ => k_ ≠ gb300) (.slice (some ad285) t280.length co53) t280) ∧ (w'.heap[gb300]? = some (.cells (#[.int .i64 ((rd_T39 t280 (ji31)).f0), .int .i64 ((rd_T39 t280 (ji31)).f1), .int .u64 ((rd_T39 t280 (ji31)).f2)] ++ ((Ar.cells .u8 32 ((rd_T39 t280 (ji31)).f3)) ++ #[.int .i64 ((rd_T39 t280 (ji31)).f4)])) 39 (0, 0))) ∧ (Below w.heap.size w w')) ?_ ?_
                     rotate_left
                     ·intro hCont
                      refine two_ (i := 14) (j := 16) (Ni := some 109) (Nj := some 111) #[true, true, true, true, true, true, true, true, true, true, true, true, true, true, true, true, false, false, false, false, false, false, false, false, false, false, false, false, false, false, false] #[true, true, true, true, true, true, true, true, true, true, true, true, true, true, false, true, true, false, false, false, false, false, false, false, false, false, false, false, false, false, false] rfl rfl rfl rfl (two_of HT_.out (by kernel_rfl)) (by decide) (by decide) (fun K hK => ?_) (fun K hK => ?_)
                      ·skip
                       have hcv62 := Kd.C_string (P := Try.prog) (A := (some ad302)) (c := c1) Try.underlying22 Try.underlying5 Try.underlying9 (Kd.C_below HR301.out HB.out); have hcv62b := hcv62; (try simp only [List.length_take, Int.toNat_natCast] at hcv62b)
                       refine value_ (w1 := ?_) (v := ?_) (by rfl) rfl ?_ ?_
                       rotate_left 2
                       ·go_simp
                        constructor
                        ·rfl
                        ·rfl
                       clear hcv62
                       refine hK.out _ _ ⟨BK300.out, (blk_cell BK300.out 0).trans (by first | (simp [Array.getElem?_append, Ar.cells_size]; done) | (simp [Array.getElem?_append, Array.getElem_push, Ar.cells_size]; done)), (blk_cell BK300.out 1).trans (by first | (simp [Array.getElem?_append, Ar.cells_size]; done) | (simp [Array.getElem?_append, Array.getElem_push, Ar.cells_size]; done)), (blk_cell BK300.out 2).trans (by first | (simp [Array.getElem?_append, Ar.cells_size]; done) | (simp [Array.getElem?_append, Array.getElem_push, Ar.cells_size]; done)), (blk_cell BK300.out 35).trans (by first | (simp [Array.getElem?_append, Ar.cells_size]; done) | (simp [Array.getElem?_append, Array.getElem_push, Ar.cells_size]; done)), ((HB.out.cell (World.block_lt_of_cell? w _ hw302_0)).trans hw302_0)⟩ (fun hHeld => ?_)
                       clear hK K
                       refine norm_ (a' := ?_) ?_ ?_
                       rotate_left
                       ·show Act.put _ (some 109) _ = _
                        simp only [Act.put, List.setIfInBounds_toArray, List.set_cons_zero, List.set_cons_succ, i64_w, i32_w]
                        rfl
                       refine one_ (i := 16) (N := some 111) #[true, true, true, true, true, true, true, true, true, true, true, true, true, true, true, true, true, false, false, false, false, false, false, false, false, false, false, false, false, false, false] rfl rfl (one_of HT_.out (by kernel_rfl)) (by decide) (fun K hK => ?_)
                       have hcv63 := own_string (P := Try.prog) Try.underlying22 Try.underlying5 Try.underlying9 (Kd.own_of_R HO298.out)
                       refine value_ (w1 := ?_) (v := ?_) (by rfl) rfl ?_ ?_
                       rotate_left 2
                       ·go_simp
                        constructor
                        ·rfl
                        ·rfl
                       clear hcv63
                       refine hK.out _ _ ⟨BK300.out, (blk_cell BK300.out 0).trans (by first | (simp [Array.getElem?_append, Ar.cells_size]; done) | (simp [Array.getElem?_append, Array.getElem_push, Ar.cells_size]; done)), (blk_cell BK300.out 1).trans (by first | (simp [Array.getElem?_append, Ar.cells_size]; done) | (simp [Array.getElem?_append, Array.getElem_push, Ar.cells_size]; done)), (blk_cell BK300.out 2).trans (by first | (simp [Array.getElem?_append, Ar.cells_size]; done) | (simp [Array.getElem?_append, Array.getElem_push, Ar.cells_size]; done)), (blk_cell BK300.out 35).trans (by first | (simp [Array.getElem?_append, Ar.cells_size]; done) | (simp [Array.getElem?_append, Array.getElem_push, Ar.cells_size]; done)), ((HB.out.cell (World.block_lt_of_cell? w _ hw302_0)).trans hw302_0)⟩ (fun hHeld => ?_)
                       clear hK K
                       refine norm_ (a' := ?_) ?_ ?_
                       rotate_left
                       ·show Act.put _ (some 111) _ = _
                        simp only [Act.put, List.setIfInBounds_toArray, List.set_cons_zero, List.set_cons_succ, i64_w, i32_w]
                        rfl
                       exact norm_ (by simp only [putAll, Act.put, List.setIfInBounds_toArray, List.set_cons_zero, List.set_cons_succ] <;> rfl) (hCont () _ ⟨hHeld, (by (with_reducible repeat (first | apply Kd.R_alloc | apply Kd.R_drewN | apply Kd.R_drew)); exact HO298.out), (by (with_reducible repeat (first | apply Kd.R_alloc | apply Kd.R_drewN | apply Kd.R_drew)); exact Kd.R_mono HO_7.out (fun _ hk => hk.2)), (by (with_reducible repeat (first | refine blk_drewN ?_ _ | refine blk_drew ?_ | refine blk_alloc ?_ _)); exact BK300.out), (by repeat (first | (with_reducible first | exact HB.out | apply below_alloc | apply pw_below_drewN | apply below_drew1 | refine below_set ?_ GE300.out) | exact HB.out))⟩)
                      ·skip
                       have hcv62 := own_string (P := Try.prog) Try.underlying22 Try.underlying5 Try.underlying9 (Kd.own_of_R HO298.out)
                       refine value_ (w1 := ?_) (v := ?_) (by rfl) rfl ?_ ?_
                       rotate_left 2
                       ·go_simp
                        constructor
                        ·rfl
                        ·rfl
                       clear hcv62
                       refine hK.out _ _ ⟨BK300.out, (blk_cell BK300.out 0).trans (by first | (simp [Array.getElem?_append, Ar.cells_size]; done) | (simp [Array.getElem?_append, Array.getElem_push, Ar.cells_size]; done)), (blk_cell BK300.out 1).trans (by first | (simp [Array.getElem?_append, Ar.cells_size]; done) | (simp [Array.getElem?_append, Array.getElem_push, Ar.cells_size]; done)), (blk_cell BK300.out 2).trans (by first | (simp [Array.getElem?_append, Ar.cells_size]; done) | (simp [Array.getElem?_append, Array.getElem_push, Ar.cells_size]; done)), (blk_cell BK300.out 35).trans (by first | (simp [Array.getElem?_append, Ar.cells_size]; done) | (simp [Array.getElem?_append, Array.getElem_push, Ar.cells_size]; done)), ((HB.out.cell (World.block_lt_of_cell? w _ hw302_0)).trans hw302_0)⟩ (fun hHeld => ?_)
                       clear hK K
                       refine norm_ (a' := ?_) ?_ ?_
                       rotate_left
                       ·show Act.put _ (some 111) _ = _
                        simp only [Act.put, List.setIfInBounds_toArray, List.set_cons_zero, List.set_cons_succ, i64_w, i32_w]
                        rfl
                       refine one_ (i := 14) (N := some 109) #[true, true, true, true, true, true, true, true, true, true, true, true, true, true, true, true, true, false, false, false, false, false, false, false, false, false, false, false, false, false, false] rfl rfl (one_of HT_.out (by kernel_rfl)) (by decide) (fun K hK => ?_)
                       have hcv63 := Kd.C_string (P := Try.prog) (A := (some ad302)) (c := c1) Try.underlying22 Try.underlying5 Try.underlying9 (Kd.C_below HR301.out HB.out); have hcv63b := hcv63; (try simp only [List.length_take, Int.toNat_natCast] at hcv63b)
                       refine value_ (w1 := ?_) (v := ?_) (by rfl) rfl ?_ ?_
                       rotate_left 2
                       ·go_simp
                        constructor
                        ·rfl
                        ·rfl
                       clear hcv63
                       refine hK.out _ _ ⟨BK300.out, (blk_cell BK300.out 0).trans (by first | (simp [Array.getElem?_append, Ar.cells_size]; done) | (simp [Array.getElem?_append, Array.getElem_push, Ar.cells_size]; done)), (blk_cell BK300.out 1).trans (by first | (simp [Array.getElem?_append, Ar.cells_size]; done) | (simp [Array.getElem?_append, Array.getElem_push, Ar.cells_size]; done)), (blk_cell BK300.out 2).trans (by first | (simp [Array.getElem?_append, Ar.cells_size]; done) | (simp [Array.getElem?_append, Array.getElem_push, Ar.cells_size]; done)), (blk_cell BK300.out 35).trans (by first | (simp [Array.getElem?_append, Ar.cells_size]; done) | (simp [Array.getElem?_append, Array.getElem_push, Ar.cells_size]; done)), ((HB.out.cell (World.block_lt_of_cell? w _ hw302_0)).trans hw302_0)⟩ (fun hHeld => ?_)
                       clear hK K
                       refine norm_ (a' := ?_) ?_ ?_
                       rotate_left
                       ·show Act.put _ (some 109) _ = _
                        simp only [Act.put, List.setIfInBounds_toArray, List.set_cons_zero, List.set_cons_succ, i64_w, i32_w]
                        rfl
                       exact norm_ (by simp only [putAll, Act.put, List.setIfInBounds_toArray, List.set_cons_zero, List.set_cons_succ] <;> rfl) (hCont () _ ⟨hHeld, (by (with_reducible repeat (first | apply Kd.R_alloc | apply Kd.R_drewN | apply Kd.R_drew)); exact HO298.out), (by (with_reducible repeat (first | apply Kd.R_alloc | apply Kd.R_drewN | apply Kd.R_drew)); exact Kd.R_mono HO_7.out (fun _ hk => hk.2)), (by (with_reducible repeat (first | refine blk_drewN ?_ _ | refine blk_drew ?_ | refine blk_alloc ?_ _)); exact BK300.out), (by repeat (first | (with_reducible first | exact HB.out | apply below_alloc | apply pw_below_drewN | apply below_drew1 | refine below_set ?_ GE300.out) | exact HB.out))⟩)
                     rintro _ w64 ⟨hS_, h0_, h1_, h2_, h3_⟩
                     have n0_ : Aside0 (Kd.R (Kd.int .u8) 5 w64 w.heap.size (fun _ => True) (.slice Ao60 t295.length co60) t295) := ⟨h0_⟩
                     have n1_ : Aside0 (Kd.R k39 39 w64 w.heap.size (fun k_ => k_ ≠ gb300) (.slice (some ad285) t280.length co53) t280) := ⟨h1_⟩
                     have n2_ : Aside0 (w64.heap[gb300]? = some (.cells (#[.int .i64 ((rd_T39 t280 (ji31)).f0), .int .i64 ((rd_T39 t280 (ji31)).f1), .int .u64 ((rd_T39 t280 (ji31)).f2)] ++ ((Ar.cells .u8 32 ((rd_T39 t280 (ji31)).f3)) ++ #[.int .i64 ((rd_T39 t280 (ji31)).f4)])) 39 (0, 0))) := ⟨h2_⟩
                     have n3_ : Aside0 (Below w.heap.size w w64) := ⟨h3_⟩
                     clear HO_7
                     clear HO298
                     clear BK300
                     clear HB
                     clear h0_ h1_ h2_ h3_
                     have HO298 := n0_
                     have HO_7 := n1_
                     have BK300 := n2_
                     have HB := n3_
                     clear n0_ n1_ n2_ n3_
                     have hHeld : w64.heap[gb300]? = some (.cells (#[.int .i64 ((rd_T39 t280 (ji31)).f0), .int .i64 ((rd_T39 t280 (ji31)).f1), .int .u64 ((rd_T39 t280 (ji31)).f2)] ++ ((Ar.cells .u8 32 ((rd_T39 t280 (ji31)).f3)) ++ #[.int .i64 ((rd_T39 t280 (ji31)).f4)])) 39 (0, 0)) ∧ w64.cell? ⟨gb300, 0, none⟩ = some (.int .i64 ((rd_T39 t280 (ji31)).f0)) ∧ w64.cell? ⟨gb300, 1, none⟩ = some (.int .i64 ((rd_T39 t280 (ji31)).f1)) ∧ w64.cell? ⟨gb300, 2, none⟩ = some (.int .u64 ((rd_T39 t280 (ji31)).f2)) ∧ w64.cell? ⟨gb300, 35, none⟩ = some (.int .i64 ((rd_T39 t280 (ji31)).f4)) ∧ w64.cell? (ad302.add ((t295.length : Int)).toNat) = some (.int .u8 (rd l1 (t295.length : Int))) := hS_
                     refine norm_ (a' := ?_) ?_ ?_
                     rotate_left
                     ·simp only [putAll, Act.put, List.setIfInBounds_toArray, List.set_cons_zero, List.set_cons_succ]
                      (try simp only [c52b0])
                      rfl
                     refine pure_ (i := 17) (N := some 112) (v := ?_) (a' := ?_) #[true, true, true, true, true, true, true, true, true, true, true, true, true, true, true, true, true, true, false, false, false, false, false, false, false, false, false, false, false, false, false] rfl rfl (any_of HT_.out (by kernel_rfl)) (fun _ _ _ h => h) (Or.inl ⟨by rfl, ?_⟩) ?_ ?_
                     rotate_left
                     ·intro w'
                      go_simp
                      with_reducible rfl
                     rotate_left
                     ·simp only [Act.put, List.setIfInBounds_toArray, List.set_cons_zero, List.set_cons_succ, i64_w, i32_w]
                      rfl
                     refine pure_ (i := 18) (N := some 113) (v := ?_) (a' := ?_) #[true, true, true, true, true, true, true, true, true, true, true, true, true, true, true, true, true, true, true, false, false, false, false, false, false, false, false, false, false, false, false] rfl rfl (any_of HT_.out (by kernel_rfl)) (fun _ _ _ h => h) (Or.inl ⟨by rfl, ?_⟩) ?_ ?_
                     rotate_left
                     ·intro w'
                      go_simp
                      with_reducible rfl
                     rotate_left
                     ·simp only [Act.put, List.setIfInBounds_toArray, List.set_cons_zero, List.set_cons_succ, i64_w, i32_w]
                      rfl
                     refine pure_ (i := 19) (N := some 114) (v := ?_) (a' := ?_) #[true, true, true, true, true, true, true, true, true, true, true, true, true, true, true, true, true, true, true, true, false, false, false, false, false, false, false, false, false, false, false] rfl rfl (any_of HT_.out (by kernel_rfl)) (fun _ _ _ h => h) (Or.inl ⟨by rfl, ?_⟩) ?_ ?_
                     rotate_left
                     ·intro w'
                      go_simp
                      with_reducible rfl
                     rotate_left
                     ·simp only [Act.put, List.setIfInBounds_toArray, List.set_cons_zero, List.set_cons_succ, i64_w, i32_w]
                      rfl
                     refine pure_ (i := 21) (N := some 116) (v := ?_) (a' := ?_) #[true, true, true, true, true, true, true, true, true, true, true, true, true, true, true, true, true, true, true, true, false, true, false, false, false, false, false, false, false, false, false] rfl rfl (any_of HT_.out (by kernel_rfl)) (fun _ _ _ h => h) (Or.inl ⟨by rfl, ?_⟩) ?_ ?_
                     rotate_left
                     ·intro w'
                      go_simp
                      with_reducible rfl
                     rotate_left
                     ·simp only [Act.put, List.setIfInBounds_toArray, List.set_cons_zero, List.set_cons_succ, i64_w, i32_w]
                      rfl
                     refine pure_ (i := 22) (N := some 117) (v := ?_) (a' := ?_) #[true, true, true, true, true, true, true, true, true, true, true, true, true, true, true, true, true, true, true, true, false, true, true, false, false, false, false, false, false, false, false] rfl rfl (any_of HT_.out (by kernel_rfl)) (fun _ _ _ h => h) (Or.inl ⟨by rfl, ?_⟩) ?_ ?_
                     rotate_left
                     ·intro w'
                      go_simp
                      with_reducible rfl
                     rotate_left
                     ·simp only [Act.put, List.setIfInBounds_toArray, List.set_cons_zero, List.set_cons_succ, i64_w, i32_w]
                      rfl
                     refine pure_ (i := 23) (N := some 118) (v := ?_) (a' := ?_) #[true, true, true, true, true, true, true, true, true, true, true, true, true, true, true, true, true, true, true, true, false, true, true, true, false, false, false, false, false, false, false] rfl rfl (any_of HT_.out (by kernel_rfl)) (fun _ _ _ h => h) (Or.inl ⟨by rfl, ?_⟩) ?_ ?_
                     rotate_left
                     ·intro w'
                      go_simp
                      with_reducible rfl
                     rotate_left
                     ·simp only [Act.put, List.setIfInBounds_toArray, List.set_cons_zero, List.set_cons_succ, i64_w, i32_w]
                      rfl
                     refine pure_ (i := 24) (N := some 119) (v := ?_) (a' := ?_) #[true, true, true, true, true, true, true, true, true, true, true, true, true, true, true, true, true, true, true, true, false, true, true, true, true, false, false, false, false, false, false] rfl rfl (any_of HT_.out (by kernel_rfl)) (fun _ _ _ h => h) (Or.inl ⟨by rfl, ?_⟩) ?_ ?_
                     rotate_left
                     ·intro w'
                      go_simp
                      with_reducible rfl
                     rotate_left
                     ·simp only [Act.put, List.setIfInBounds_toArray, List.set_cons_zero, List.set_cons_succ, i64_w, i32_w]
                      rfl
                     refine take_ (i := 20) (N := some 115) (v := ?_) (a' := ?_) #[true, true, true, true, true, true, true, true, true, true, true, true, true, true, true, true, true, true, true, true, true, true, true, true, true, false, false, false, false, false, false] rfl rfl (take_ofW HT_.out HW_.out (by kernel_rfl)) (fun _ _ _ h => h) (Or.inl ⟨by rfl, ?_⟩) hHeld ?_ ?_
                     rotate_left
                     ·rintro w' ⟨s0, s1, s2, s3, s4, s5⟩
                      try simp only [Int.toNat_natCast] at s0 s1 s2 s3 s4 s5
                      first | (refine (Ar.gload_run rfl Try.underlying39 rfl (D := (#[.int .i64 ((rd_T39 t280 (ji31)).f0), .int .i64 ((rd_T39 t280 (ji31)).f1), .int .u64 ((rd_T39 t280 (ji31)).f2)] ++ ((Ar.cells .u8 32 ((rd_T39 t280 (ji31)).f3)) ++ #[.int .i64 ((rd_T39 t280 (ji31)).f4)]))) (by first | (rw [Ar.cells_size]; kernel_rfl) | (simp only [Array.size_append, Ar.cells_size, List.size_toArray, List.length_cons, List.length_nil]; kernel_rfl)) rfl (Ar.blk_part (by assumption) Ar.in_whole)).trans ?_; with_reducible rfl) | (go_simp; with_reducible rfl)
                     rotate_left
                     ·simp only [Act.put, List.setIfInBounds_toArray, List.set_cons_zero, List.set_cons_succ, i64_w, i32_w]
                      rfl
                     refine take_ (i := 25) (N := some 120) (v := ?_) (a' := ?_) #[true, true, true, true, true, true, true, true, true, true, true, true, true, true, true, true, true, true, true, true, true, true, true, true, true, true, false, false, false, false, false] rfl rfl (take_ofW HT_.out HW_.out (by kernel_rfl)) (fun _ _ _ h => h) (Or.inl ⟨by rfl, ?_⟩) hHeld ?_ ?_
                     rotate_left
                     ·rintro w' ⟨s0, s1, s2, s3, s4, s5⟩
                      try simp only [Int.toNat_natCast] at s0 s1 s2 s3 s4 s5
                      go_simp
                      with_reducible rfl
                     rotate_left
                     ·simp only [Act.put, List.setIfInBounds_toArray, List.set_cons_zero, List.set_cons_succ, i64_w, i32_w]
                      rfl
                     refine pure_ (i := 26) (N := some 121) (v := ?_) (a' := ?_) #[true, true, true, true, true, true, true, true, true, true, true, true, true, true, true, true, true, true, true, true, true, true, true, true, true, true, true, false, false, false, false] rfl rfl (any_of HT_.out (by kernel_rfl)) (fun _ _ _ h => h) (Or.inl ⟨by rfl, ?_⟩) ?_ ?_
                     rotate_left
                     ·intro w'
                      go_simp
                      with_reducible rfl
                     rotate_left
                     ·simp only [Act.put, List.setIfInBounds_toArray, List.set_cons_zero, List.set_cons_succ, i64_w, i32_w]
                      rfl
                     refine pure_ (i := 27) (N := some 122) (v := ?_) (a' := ?_) #[true, true, true, true, true, true, true, true, true, true, true, true, true, true, true, true, true, true, true, true, true, true, true, true, true, true, true, true, false, false, false] rfl rfl (any_of HT_.out (by kernel_rfl)) (fun _ _ _ h => h) (Or.inl ⟨by rfl, ?_⟩) ?_ ?_
                     rotate_left
                     ·intro w'
                      refine (Ar.gbuild_run rfl (D := (#[.int .i64 0, .int .i64 0, .int .u64 0] ++ ((Ar.cells .u8 32 (List.replicate 32 0)) ++ #[.int .i64 (wrap64 (rd l1 (t295.length : Int)))]))) (by simp only [List.map_toArray, List.map_cons, List.map_nil]; exact fatBuild39_4 _ (wrap64 (rd l1 (t295.length : Int))))).trans ?_; with_reducible rfl
                     rotate_left
                     ·simp only [Act.put, List.setIfInBounds_toArray, List.set_cons_zero, List.set_cons_succ, i64_w, i32_w]
                      rfl
                     refine pure_ (i := 28) (N := some 123) (v := ?_) (a' := ?_) #[true, true, true, true, true, true, true, true, true, true, true, true, true, true, true, true, true, true, true, true, true, true, true, true, true, true, true, true, true, false, false] rfl rfl (any_of HT_.out (by kernel_rfl)) (fun _ _ _ h => h) (Or.inl ⟨by rfl, ?_⟩) ?_ ?_
                     rotate_left
                     ·intro w'
                      first | (refine (Ar.geq_run rfl (by kernel_rfl) (b := (eqS39 (rd_T39 t280 (ji31)) (⟨0, 0, 0, (List.replicate 32 0), wrap64 (rd l1 (t295.length : Int))⟩ : S39))) (fun w_ => fatEq39 w_ ((rd_T39 t280 (ji31)).f0) 0 ((rd_T39 t280 (ji31)).f1) 0 ((rd_T39 t280 (ji31)).f2) 0 ((rd_T39 t280 (ji31)).f3) (List.replicate 32 0) ((rd_T39 t280 (ji31)).f4) (wrap64 (rd l1 (t295.length : Int)))) rfl rfl).trans ?_; go_simp; with_reducible rfl) | (refine (Ar.geq_run rfl (by kernel_rfl) (b := (eqS39 (rd_T39 t280 (ji31)) (⟨0, 0, 0, (List.replicate 32 0), wrap64 (rd l1 (t295.length : Int))⟩ : S39))) (fun w_ => fatEq39 w_ ((rd_T39 t280 (ji31)).f0) 0 ((rd_T39 t280 (ji31)).f1) 0 ((rd_T39 t280 (ji31)).f2) 0 ((rd_T39 t280 (ji31)).f3) (List.replicate 32 0) ((rd_T39 t280 (ji31)).f4) (wrap64 (rd l1 (t295.length : Int)))) rfl rfl).trans ?_; with_reducible rfl) | (go_simp; with_reducible rfl)
                     rotate_left
                     ·simp only [Act.put, List.setIfInBounds_toArray, List.set_cons_zero, List.set_cons_succ, i64_w, i32_w]
                      rfl
                     refine pure_ (i := 29) (N := some 124) (v := ?_) (a' := ?_) #[true, true, true, true, true, true, true, true, true, true, true, true, true, true, true, true, true, true, true, true, true, true, true, true, true, true, true, true, true, true, false] rfl rfl (any_of HT_.out (by kernel_rfl)) (fun _ _ _ h => h) (Or.inl ⟨by rfl, ?_⟩) ?_ ?_
                     rotate_left
                     ·intro w'
                      go_simp
                      with_reducible rfl
                     rotate_left
                     ·simp only [Act.put, List.setIfInBounds_toArray, List.set_cons_zero, List.set_cons_succ, i64_w, i32_w]
                      rfl
                     refine pure_ (i := 30) (N := some 4) (v := ?_) (a' := ?_) #[true, true, true, true, true, true, true, true, true, true, true, true, true, true, true, true, true, true, true, true, true, true, true, true, true, true, true, true, true, true, true] rfl rfl (any_of HT_.out (by kernel_rfl)) (fun _ _ _ h => h) (Or.inl ⟨by rfl, ?_⟩) ?_ ?_
                     rotate_left
                     ·intro w'
                      go_simp
                      with_reducible rfl
                     rotate_left
                     ·simp only [Act.put, List.setIfInBounds_toArray, List.set_cons_zero, List.set_cons_succ, i64_w, i32_w]
                      rfl
                     refine done_ (done_of HT_.out (by kernel_rfl)) ?_
                     try go_wp2
                     go_ret
                     exact ⟨by first | rfl | (simp [errW_none, errW_some] <;> rfl) | (simp only [← hji31]; first | rfl | (simp [errW_none, errW_some] <;> rfl)) | (simp [*, errW_none, errW_some] <;> rfl), by repeat (first | (with_reducible first | exact HB.out | apply below_alloc | apply pw_below_drewN | apply below_drew1 | refine below_set ?_ GE300.out) | exact HB.out)⟩
                    ·rw [if_neg c52] at H
                     exact absurd H (by simp)
                   ·rw [if_neg c51] at H
                    exact absurd H (by simp)
                  ·rw [if_neg c50] at H
                   exact absurd H (by simp)
                 ·rw [if_neg c49] at H
                  exact absurd H (by simp)
                ·rw [if_neg c48] at H
                 exact absurd H (by simp)
               ·rw [if_neg c46] at H
                exact absurd H (by simp)
             ·rw [if_neg c33] at H
              exact absurd H (by simp)
            ·rw [if_neg c32] at H
             exact absurd H (by simp)
 ·replace c4 := Bool.eq_false_iff.mpr c4
  subst c4
  have H1 : (none) = some r := by rw [if_neg (show ¬ (false = true) by decide)] at H; exact H
  clear H
  have H := H1
  clear H1
  exact absurd H (by simp)

/-- THE ONE PURE STATEMENT of drawlotlaw24_OpBack: yours. -/
def drawlotlaw24_OpBack.Pure : Prop := ∀ (l0 : List (S39)) (l1 : List Int), (l0.length ≤ maxLen ∧ ∀ x ∈ l0, ((Lit.int .i64 x.f0).wf = true ∧ (Lit.int .i64 x.f1).wf = true ∧ (Lit.int .u64 x.f2).wf = true ∧ (x.f3.length = 32 ∧ ∀ x_ ∈ x.f3, (Lit.int .u8 x_).wf = true) ∧ (Lit.int .i64 x.f4).wf = true)) → l1.length ≤ maxLen → l1.length * 1 ≤ 140737488351232 → (∀ x ∈ l1, (Lit.int .u8 x).wf = true) → ∃ k, drawlotlaw24_OpBack.f k l0 l1 = some true
theorem drawlotlaw24_OpBack.walk (P : drawlotlaw24_OpBack.Pure) (A0 : Option Addr) (c0 : Nat) (l0 : List (S39)) (a1 : Option Addr) (len1 cap1 : Nat) (z1 : List Int) (w : World) (w0 : Kd.C k39 w A0 l0.length l0 ∧ l0.length ≤ c0 ∧ (l0.length ≤ maxLen ∧ ∀ x ∈ l0, ((Lit.int .i64 x.f0).wf = true ∧ (Lit.int .i64 x.f1).wf = true ∧ (Lit.int .u64 x.f2).wf = true ∧ (x.f3.length = 32 ∧ ∀ x_ ∈ x.f3, (Lit.int .u8 x_).wf = true) ∧ (Lit.int .i64 x.f4).wf = true))) (w1 : (a1 = none ∧ len1 = 0 ∧ cap1 = 0 ∧ z1 = []) ∨ ∃ x, a1 = some x ∧ len1 ≤ cap1 ∧ cap1 ≤ maxLen ∧ z1.length = cap1 ∧ (∀ i, i < z1.length → w.cell? (x.add i) = some (.int .u8 (z1.getD i 0))) ∧ ∀ n ∈ z1, (Lit.int .u8 n).wf = true) (y1 : len1 * 1 ≤ 140737488351232) :
  Calls Try.prog 5 #[.slice A0 l0.length c0, .slice a1 len1 cap1] w fun e w' => e = .returned (.bool true) ∧ Below w.heap.size w w' := by
 obtain ⟨l1, rfl, hr1, hm1, hw1, hc1⟩ := ReadsInt.ofRowC w1
 obtain ⟨k, h⟩ := P l0 l1 w0.2.2 hm1 y1 hw1
 refine (drawlotlaw24_OpBack.calls k _ _ l0 _ _ l1 true w w0.1 w0.2.1 (Kd.C_of_reads (d := (0 : Int)) (h1 := fun _ => rfl) hr1) hc1 h).mono ?_
 rintro e w' ⟨rfl, hd⟩
 exact ⟨rfl, hd⟩

end Go.Proofs.Ytkbpdnhbmceajaa.PQ
