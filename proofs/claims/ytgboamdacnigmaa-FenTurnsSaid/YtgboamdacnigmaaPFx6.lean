/- Written by xprint.py, this session's own driver, for the seat Ytgboamdacnigmaa: contracts of Go functions, each saying that a call answers what a plain Lean function of the same name says, and, in a text named Law, the row of a law: its Go function answers true for every input. No conditions. -/
import Derived.Test.YtgboamdacnigmaaPFx0
import Derived.Test.YtgboamdacnigmaaPFx1
import Derived.Test.YtgboamdacnigmaaPFx2
import Derived.Test.YtgboamdacnigmaaPFx3
import Derived.Test.YtgboamdacnigmaaPFx4
import Derived.Test.YtgboamdacnigmaaPFx5
namespace Go.Proofs.Ytgboamdacnigmaa.PF
open Go.RowKit Go.Proofs.YtgboamdacnigmaaW.PrintWords Go.Proofs.YtgboamdacnigmaaW.PrintLast Go.Proofs.YtgboamdacnigmaaW.PrintMore
attribute [local go_sem] max2_int min2_int max_two min_two max_three min_three max_four min_four   -- for this text's walks alone
set_option linter.unusedVariables false
set_option linter.unusedSimpArgs false

/-! ### drawlotlaw11_FenTurns: function 3 -/
mutual
def drawlotlaw11_FenTurns.j0 : Nat → List Int → List (S32) → Bool → Option (Bool)
 | 0, _, _, _ => none
 | k + 1, x0, x1, x26 => if x26 = true then (some true) else ((fen_Build.f k x0).bind fun bt257 => (if bt257.2 = 0 then ((some (([] : List Int) : List Int)).bind fun y262 => (if y262.length + x0.length < 17592186044416 then (drawlotlaw11_FenTurns.l0 k x1 (y262 ++ x0) 0 bt257.1) else (none))) else (some ((bt257.1.length : Int) == 0))))
def drawlotlaw11_FenTurns.l0 : Nat → List (S32) → List Int → Int → List Int → Option (Bool)
 | 0, _, _, _, _ => none
 | k + 1, x1, x7, x8, x262000 => if x8 < (x1.length : Int) then (if 0 ≤ x8 then ((some (([] : List Int) : List Int)).bind fun y274 => (if y274.length + x262000.length < 17592186044416 then ((some (y274 ++ x262000 : List Int)).bind fun y277 => (if ((rd_T32 x1 x8).f0) < 0 then ((fen_Grow.f k x262000 ((rd_T32 x1 x8).f1)).bind fun bt281 => ((some (([] : List Int) : List Int)).bind fun y285 => (if y285.length + x7.length < 17592186044416 then ((some (y285 ++ x7 : List Int)).bind fun y288 => ((some (([(rd_T32 x1 x8).f1] : List Int) : List Int)).bind fun y291 => (if y288.length + y291.length < 17592186044416 then ((some (y288 ++ y291 : List Int)).bind fun y294 => ((drawlotref09_Total.f k y294).bind fun bt297 => (if bt297.2 = true then (drawlotlaw11_FenTurns.j2 k x1 x7 x8 y277 bt281.2 0 y294 x262000 bt281.1) else (drawlotlaw11_FenTurns.j2 k x1 x7 x8 y277 bt281.2 11 y294 x262000 bt281.1)))) else (none)))) else (none)))) else ((fen_Set.f k x262000 ((rd_T32 x1 x8).f0) ((rd_T32 x1 x8).f1)).bind fun bt299 => ((drawlotref11_Set.f k x7 ((rd_T32 x1 x8).f0) ((rd_T32 x1 x8).f1)).bind fun bt303 => (drawlotlaw11_FenTurns.j2 k x1 x7 x8 y277 bt299.2 bt303.2 bt303.1 x262000 bt299.1))))) else (none))) else (none)) else ((fen_Stakes.f k x262000).bind fun t268 => ((drawlotref09_Same.f k t268 x7).bind fun t271 => (some t271)))
def drawlotlaw11_FenTurns.j2 : Nat → List (S32) → List Int → Int → List Int → Int → Int → List Int → List Int → List Int → Option (Bool)
 | 0, _, _, _, _, _, _, _, _, _ => none
 | k + 1, x1, x7, x8, x10, x12, x13, x14, x262000, x281000 => if x12 = x13 then ((drawlotref09_Same.f k x10 x262000).bind fun t307 => (drawlotlaw11_FenTurns.j3 k x1 x7 x8 x12 x14 (!t307) x262000 x281000)) else (drawlotlaw11_FenTurns.j3 k x1 x7 x8 x12 x14 true x262000 x281000)
def drawlotlaw11_FenTurns.j3 : Nat → List (S32) → List Int → Int → Int → List Int → Bool → List Int → List Int → Option (Bool)
 | 0, _, _, _, _, _, _, _, _ => none
 | k + 1, x1, x7, x8, x12, x14, x106, x262000, x281000 => if x106 = true then (none) else (if x12 = 0 then ((drawlotref11_Tree.f k x14).bind fun t308 => ((drawlotref11_Same.f k x281000 t308).bind fun t311 => (if t311 = true then (drawlotlaw11_FenTurns.l0 k x1 x14 (wrap64 (x8 + 1)) x281000) else (none)))) else (if (x281000.length : Int) > 0 then (none) else (drawlotlaw11_FenTurns.l0 k x1 x7 (wrap64 (x8 + 1)) x262000)))
end
def drawlotlaw11_FenTurns.f (k : Nat) (l0 : List Int) (l1 : List (S32)) : Option (Bool) := (drawlotlaw11_alive.f k).bind fun t256 => (if t256 = true then (if (l0.length : Int) > 100 then (drawlotlaw11_FenTurns.j0 k l0 l1 true) else (drawlotlaw11_FenTurns.j0 k l0 l1 (decide ((l1.length : Int) > 50)))) else (none))
theorem drawlotlaw11_FenTurns.mono_l : ∀ k, (∀ y0 y1 y2, LeO (drawlotlaw11_FenTurns.j0 k y0 y1 y2) (drawlotlaw11_FenTurns.j0 (k + 1) y0 y1 y2)) ∧ (∀ y0 y1 y2 y3, LeO (drawlotlaw11_FenTurns.l0 k y0 y1 y2 y3) (drawlotlaw11_FenTurns.l0 (k + 1) y0 y1 y2 y3)) ∧ (∀ y0 y1 y2 y3 y4 y5 y6 y7 y8, LeO (drawlotlaw11_FenTurns.j2 k y0 y1 y2 y3 y4 y5 y6 y7 y8) (drawlotlaw11_FenTurns.j2 (k + 1) y0 y1 y2 y3 y4 y5 y6 y7 y8)) ∧ (∀ y0 y1 y2 y3 y4 y5 y6 y7, LeO (drawlotlaw11_FenTurns.j3 k y0 y1 y2 y3 y4 y5 y6 y7) (drawlotlaw11_FenTurns.j3 (k + 1) y0 y1 y2 y3 y4 y5 y6 y7))
 | 0 => ⟨fun _ _ _ r h => by simp [drawlotlaw11_FenTurns.j0] at h, fun _ _ _ _ r h => by simp [drawlotlaw11_FenTurns.l0] at h, fun _ _ _ _ _ _ _ _ _ r h => by simp [drawlotlaw11_FenTurns.j2] at h, fun _ _ _ _ _ _ _ _ r h => by simp [drawlotlaw11_FenTurns.j3] at h⟩
 | k + 1 => by
  obtain ⟨ih0, ih1, ih2, ih3⟩ := drawlotlaw11_FenTurns.mono_l k
  refine ⟨?_, ?_, ?_, ?_⟩
  ·intro y0 y1 y2
   unfold drawlotlaw11_FenTurns.j0
   repeat' first
   | (with_reducible exact ih0 _ _ _)
   | (with_reducible exact ih1 _ _ _ _)
   | (with_reducible exact ih2 _ _ _ _ _ _ _ _ _)
   | (with_reducible exact ih3 _ _ _ _ _ _ _ _)
   | (with_reducible exact drawlotlaw11_alive.mono _)
   | (with_reducible exact drawlotref09_Same.mono _ _ _)
   | (with_reducible exact drawlotref09_Total.mono _ _)
   | (with_reducible exact drawlotref11_Same.mono _ _ _)
   | (with_reducible exact drawlotref11_Set.mono _ _ _ _)
   | (with_reducible exact drawlotref11_Tree.mono _ _)
   | (with_reducible exact fen_Build.mono _ _)
   | (with_reducible exact fen_Grow.mono _ _ _)
   | (with_reducible exact fen_Set.mono _ _ _ _)
   | (with_reducible exact fen_Stakes.mono _ _)
   | (with_reducible exact LeO.refl _)
   | (with_reducible exact LeO.none _)
   | (with_reducible refine LeO.ite ?_ ?_)
   | (with_reducible refine LeO.bind ?_ (fun _ => ?_))
   | exact ih0 _ _ _
   | exact ih1 _ _ _ _
   | exact ih2 _ _ _ _ _ _ _ _ _
   | exact ih3 _ _ _ _ _ _ _ _
   | exact drawlotlaw11_alive.mono _
   | exact drawlotref09_Same.mono _ _ _
   | exact drawlotref09_Total.mono _ _
   | exact drawlotref11_Same.mono _ _ _
   | exact drawlotref11_Set.mono _ _ _ _
   | exact drawlotref11_Tree.mono _ _
   | exact fen_Build.mono _ _
   | exact fen_Grow.mono _ _ _
   | exact fen_Set.mono _ _ _ _
   | exact fen_Stakes.mono _ _
   | exact LeO.none _
   | refine LeO.ite ?_ ?_
   | refine LeO.bind ?_ (fun _ => ?_)
  ·intro y0 y1 y2 y3
   unfold drawlotlaw11_FenTurns.l0
   repeat' first
   | (with_reducible exact ih0 _ _ _)
   | (with_reducible exact ih1 _ _ _ _)
   | (with_reducible exact ih2 _ _ _ _ _ _ _ _ _)
   | (with_reducible exact ih3 _ _ _ _ _ _ _ _)
   | (with_reducible exact drawlotlaw11_alive.mono _)
   | (with_reducible exact drawlotref09_Same.mono _ _ _)
   | (with_reducible exact drawlotref09_Total.mono _ _)
   | (with_reducible exact drawlotref11_Same.mono _ _ _)
   | (with_reducible exact drawlotref11_Set.mono _ _ _ _)
   | (with_reducible exact drawlotref11_Tree.mono _ _)
   | (with_reducible exact fen_Build.mono _ _)
   | (with_reducible exact fen_Grow.mono _ _ _)
   | (with_reducible exact fen_Set.mono _ _ _ _)
   | (with_reducible exact fen_Stakes.mono _ _)
   | (with_reducible exact LeO.refl _)
   | (with_reducible exact LeO.none _)
   | (with_reducible refine LeO.ite ?_ ?_)
   | (with_reducible refine LeO.bind ?_ (fun _ => ?_))
   | exact ih0 _ _ _
   | exact ih1 _ _ _ _
   | exact ih2 _ _ _ _ _ _ _ _ _
   | exact ih3 _ _ _ _ _ _ _ _
   | exact drawlotlaw11_alive.mono _
   | exact drawlotref09_Same.mono _ _ _
   | exact drawlotref09_Total.mono _ _
   | exact drawlotref11_Same.mono _ _ _
   | exact drawlotref11_Set.mono _ _ _ _
   | exact drawlotref11_Tree.mono _ _
   | exact fen_Build.mono _ _
   | exact fen_Grow.mono _ _ _
   | exact fen_Set.mono _ _ _ _
   | exact fen_Stakes.mono _ _
   | exact LeO.none _
   | refine LeO.ite ?_ ?_
   | refine LeO.bind ?_ (fun _ => ?_)
  ·intro y0 y1 y2 y3 y4 y5 y6 y7 y8
   unfold drawlotlaw11_FenTurns.j2
   repeat' first
   | (with_reducible exact ih0 _ _ _)
   | (with_reducible exact ih1 _ _ _ _)
   | (with_reducible exact ih2 _ _ _ _ _ _ _ _ _)
   | (with_reducible exact ih3 _ _ _ _ _ _ _ _)
   | (with_reducible exact drawlotlaw11_alive.mono _)
   | (with_reducible exact drawlotref09_Same.mono _ _ _)
   | (with_reducible exact drawlotref09_Total.mono _ _)
   | (with_reducible exact drawlotref11_Same.mono _ _ _)
   | (with_reducible exact drawlotref11_Set.mono _ _ _ _)
   | (with_reducible exact drawlotref11_Tree.mono _ _)
   | (with_reducible exact fen_Build.mono _ _)
   | (with_reducible exact fen_Grow.mono _ _ _)
   | (with_reducible exact fen_Set.mono _ _ _ _)
   | (with_reducible exact fen_Stakes.mono _ _)
   | (with_reducible exact LeO.refl _)
   | (with_reducible exact LeO.none _)
   | (with_reducible refine LeO.ite ?_ ?_)
   | (with_reducible refine LeO.bind ?_ (fun _ => ?_))
   | exact ih0 _ _ _
   | exact ih1 _ _ _ _
   | exact ih2 _ _ _ _ _ _ _ _ _
   | exact ih3 _ _ _ _ _ _ _ _
   | exact drawlotlaw11_alive.mono _
   | exact drawlotref09_Same.mono _ _ _
   | exact drawlotref09_Total.mono _ _
   | exact drawlotref11_Same.mono _ _ _
   | exact drawlotref11_Set.mono _ _ _ _
   | exact drawlotref11_Tree.mono _ _
   | exact fen_Build.mono _ _
   | exact fen_Grow.mono _ _ _
   | exact fen_Set.mono _ _ _ _
   | exact fen_Stakes.mono _ _
   | exact LeO.none _
   | refine LeO.ite ?_ ?_
   | refine LeO.bind ?_ (fun _ => ?_)
  ·intro y0 y1 y2 y3 y4 y5 y6 y7
   unfold drawlotlaw11_FenTurns.j3
   repeat' first
   | (with_reducible exact ih0 _ _ _)
   | (with_reducible exact ih1 _ _ _ _)
   | (with_reducible exact ih2 _ _ _ _ _ _ _ _ _)
   | (with_reducible exact ih3 _ _ _ _ _ _ _ _)
   | (with_reducible exact drawlotlaw11_alive.mono _)
   | (with_reducible exact drawlotref09_Same.mono _ _ _)
   | (with_reducible exact drawlotref09_Total.mono _ _)
   | (with_reducible exact drawlotref11_Same.mono _ _ _)
   | (with_reducible exact drawlotref11_Set.mono _ _ _ _)
   | (with_reducible exact drawlotref11_Tree.mono _ _)
   | (with_reducible exact fen_Build.mono _ _)
   | (with_reducible exact fen_Grow.mono _ _ _)
   | (with_reducible exact fen_Set.mono _ _ _ _)
   | (with_reducible exact fen_Stakes.mono _ _)
   | (with_reducible exact LeO.refl _)
   | (with_reducible exact LeO.none _)
   | (with_reducible refine LeO.ite ?_ ?_)
   | (with_reducible refine LeO.bind ?_ (fun _ => ?_))
   | exact ih0 _ _ _
   | exact ih1 _ _ _ _
   | exact ih2 _ _ _ _ _ _ _ _ _
   | exact ih3 _ _ _ _ _ _ _ _
   | exact drawlotlaw11_alive.mono _
   | exact drawlotref09_Same.mono _ _ _
   | exact drawlotref09_Total.mono _ _
   | exact drawlotref11_Same.mono _ _ _
   | exact drawlotref11_Set.mono _ _ _ _
   | exact drawlotref11_Tree.mono _ _
   | exact fen_Build.mono _ _
   | exact fen_Grow.mono _ _ _
   | exact fen_Set.mono _ _ _ _
   | exact fen_Stakes.mono _ _
   | exact LeO.none _
   | refine LeO.ite ?_ ?_
   | refine LeO.bind ?_ (fun _ => ?_)
theorem drawlotlaw11_FenTurns.mono : ∀ a0 a1 k, LeO (drawlotlaw11_FenTurns.f k a0 a1) (drawlotlaw11_FenTurns.f (k + 1) a0 a1) := by
 intro a0 a1 k
 obtain ⟨ih0, ih1, ih2, ih3⟩ := drawlotlaw11_FenTurns.mono_l k
 unfold drawlotlaw11_FenTurns.f
 repeat' first
   | (with_reducible exact ih0 _ _ _)
   | (with_reducible exact ih1 _ _ _ _)
   | (with_reducible exact ih2 _ _ _ _ _ _ _ _ _)
   | (with_reducible exact ih3 _ _ _ _ _ _ _ _)
   | (with_reducible exact drawlotlaw11_alive.mono _)
   | (with_reducible exact drawlotref09_Same.mono _ _ _)
   | (with_reducible exact drawlotref09_Total.mono _ _)
   | (with_reducible exact drawlotref11_Same.mono _ _ _)
   | (with_reducible exact drawlotref11_Set.mono _ _ _ _)
   | (with_reducible exact drawlotref11_Tree.mono _ _)
   | (with_reducible exact fen_Build.mono _ _)
   | (with_reducible exact fen_Grow.mono _ _ _)
   | (with_reducible exact fen_Set.mono _ _ _ _)
   | (with_reducible exact fen_Stakes.mono _ _)
   | (with_reducible exact LeO.refl _)
   | (with_reducible exact LeO.none _)
   | (with_reducible refine LeO.ite ?_ ?_)
   | (with_reducible refine LeO.bind ?_ (fun _ => ?_))
   | exact ih0 _ _ _
   | exact ih1 _ _ _ _
   | exact ih2 _ _ _ _ _ _ _ _ _
   | exact ih3 _ _ _ _ _ _ _ _
   | exact drawlotlaw11_alive.mono _
   | exact drawlotref09_Same.mono _ _ _
   | exact drawlotref09_Total.mono _ _
   | exact drawlotref11_Same.mono _ _ _
   | exact drawlotref11_Set.mono _ _ _ _
   | exact drawlotref11_Tree.mono _ _
   | exact fen_Build.mono _ _
   | exact fen_Grow.mono _ _ _
   | exact fen_Set.mono _ _ _ _
   | exact fen_Stakes.mono _ _
   | exact LeO.none _
   | refine LeO.ite ?_ ?_
   | refine LeO.bind ?_ (fun _ => ?_)
def drawlotlaw11_FenTurns.T19 : Bool × List (List Nat × List Nat) := (true, [([], []), ([], []), ([0, 1], [0, 1]), ([], []), ([3], [3]), ([4], [4]), ([2, 5, 2], [2, 5]), ([6, 6, 0, 1, 2, 3, 4, 5, 6], [6])])
def drawlotlaw11_FenTurns.B19 : List Nat := [0, 0, 3, 0, 8, 24, 63, 127]
theorem drawlotlaw11_FenTurns.tab19 : rtab .any (opsOf Try.f3 19) = drawlotlaw11_FenTurns.T19 := by kernel_rfl
theorem drawlotlaw11_FenTurns.bits19 : waitsOk drawlotlaw11_FenTurns.T19.2 drawlotlaw11_FenTurns.B19 = true := by kernel_rfl
set_option maxHeartbeats 8000000 in
set_option maxRecDepth 100000 in
theorem drawlotlaw11_FenTurns.calls (k : Nat) (A0 : Option Addr) (c0 : Nat) (l0 : List Int) (A1 : Option Addr) (c1 : Nat) (l1 : List (S32)) (r : Bool) (w : World) (hr0 : Kd.C (Kd.int .u64) w A0 l0.length l0) (hc0 : l0.length ≤ c0) (hr1 : Kd.C k32 w A1 l1.length l1) (hc1 : l1.length ≤ c1) (h : drawlotlaw11_FenTurns.f k l0 l1 = some r) :
  Calls Try.prog 3 #[.slice A0 l0.length c0, .slice A1 l1.length c1] w fun e w' => e = .returned (.bool r) ∧ Below w.heap.size w w' := by
 have hu26 := Try.underlying26
 have hu32 := Try.underlying32
 have HR0 := Aside0.mk hr0
 have HC0 := Aside0.mk hc0
 clear hr0 hc0
 have HR1 := Aside0.mk hr1
 have HC1 := Aside0.mk hc1
 clear hr1 hc1
 have HB := Aside0.mk (Below.refl w.heap.size w)
 have H : ((drawlotlaw11_alive.f k).bind fun t256 => (if t256 = true then (if (l0.length : Int) > 100 then (drawlotlaw11_FenTurns.j0 k l0 l1 true) else (drawlotlaw11_FenTurns.j0 k l0 l1 (decide ((l1.length : Int) > 50)))) else (none))) = some r := h
 clear h
 replace H := Option.bind_eq_some_iff.mp H
 obtain ⟨t256, A30, H⟩ := H
 replace H : (if t256 = true then (if (l0.length : Int) > 100 then (drawlotlaw11_FenTurns.j0 k l0 l1 true) else (drawlotlaw11_FenTurns.j0 k l0 l1 (decide ((l1.length : Int) > 50)))) else (none)) = some r := H
 have A3 := Aside0.mk A30
 clear A30
 by_cases c4 : t256 = true
 ·subst c4
  have H1 : (if (l0.length : Int) > 100 then (drawlotlaw11_FenTurns.j0 k l0 l1 true) else (drawlotlaw11_FenTurns.j0 k l0 l1 (decide ((l1.length : Int) > 50)))) = some r := by rw [if_pos rfl] at H; exact H
  clear H
  have H := H1
  clear H1
  have HC5 := Aside0.mk H
  clear H
  go_enter Try.func3, Try.ntmps3
  try simp only [List.append]
  go_upto_region 3 with (first | ((with_reducible refine gate_callee (f := 4) rfl ?_); refine goesL_ (some 17) rfl rfl Try.func4 (by kernel_rfl) rfl #[] rfl (by (try simp only [List.map_toArray, List.map_cons, List.map_nil]); first | done | rfl | (simp only [List.length_drop, List.length_take]; rfl)) ?_; (with_reducible refine (drawlotlaw11_alive.calls k  true _ A3.out).mono ?_); rintro e w6 ⟨rfl, hb⟩; refine ⟨_, rfl, ?_⟩; have n0_ := Aside0.mk (below_step (by repeat (first | (with_reducible first | exact HB.out | apply below_alloc | apply pw_below_drewN | apply below_drew1) | exact HB.out)) hb); clear HB; have HB := n0_; clear n0_; (try clear hb); (try clear hb2); (try clear hk); (try clear hi)))
  (try simp only [Act.put, List.setIfInBounds_toArray, List.set_cons_zero, List.set_cons_succ])
  go_cut [26] (fun v26 wc => ∃ (kq : Nat) (x26_4 : Bool), v26 = .bool x26_4 ∧ Aside0 (drawlotlaw11_FenTurns.j0 kq l0 l1 x26_4 = some r) ∧ Aside0 (kq ≤ k) ∧ Aside0 (Below w.heap.size w wc))
  case first =>
   have H := HC5.out
   clear HC5
   by_cases c7 : (l0.length : Int) > 100
   ·rw [if_pos c7] at H
    have c7b0 : decide (100 < (l0.length : Int)) = true := decide_eq_true c7
    have c7b1 : decide (100 < l0.length) = true := decide_eq_true (by omega)
    clear c7
    (first | rw [c7b0] | (simp only [i64_w, i32_w]; rw [c7b0]) | skip)
    have H' := Aside0.mk H
    clear H
    go_wp2
    go_meet
    case rel => exact ⟨_, (true), (by first | rfl | (simp; done) | (simp [*]; done)), H', ⟨by first | omega | exact Nat.le_refl _⟩, ⟨by repeat (first | (with_reducible first | exact HB.out | apply below_alloc | apply pw_below_drewN | apply below_drew1) | exact HB.out)⟩⟩
   ·rw [if_neg c7] at H
    have c7b0 : decide (100 < (l0.length : Int)) = false := decide_eq_false c7
    have c7b1 : decide (100 < l0.length) = false := decide_eq_false (by omega)
    clear c7
    (first | rw [c7b0] | (simp only [i64_w, i32_w]; rw [c7b0]) | skip)
    have H' := Aside0.mk H
    clear H
    go_wp2
    go_meet
    case rel => exact ⟨_, (decide ((l1.length : Int) > 50)), (by first | rfl | (simp; done) | (simp [*]; done)), H', ⟨by first | omega | exact Nat.le_refl _⟩, ⟨by repeat (first | (with_reducible first | exact HB.out | apply below_alloc | apply pw_below_drewN | apply below_drew1) | exact HB.out)⟩⟩
  case rest =>
   clear HC5
   try clear c1
   try clear p2
   try clear c3
   try clear c4
   try clear c7
   try clear c7b0
   try clear c7b1
   obtain ⟨kq, x26_4, rfl, HA, HJ4, HB⟩ := hcut
   cases kq with
   | zero => exact absurd HA.out (by simp [drawlotlaw11_FenTurns.j0])
   | succ kj4 =>
    have H := HA.out
    clear HA
    simp only [drawlotlaw11_FenTurns.j0] at H
    by_cases c8 : x26_4 = true
    ·subst c8
     have H1 : (some true) = some r := by rw [if_pos rfl] at H; exact H
     clear H
     have H := H1
     clear H1
     obtain rfl := Option.some.inj H
     go_wp2
     go_ret
     exact ⟨by first | rfl | (simp [errW_none, errW_some] <;> rfl) | (simp [*, errW_none, errW_some] <;> rfl), by repeat (first | (with_reducible first | exact HB.out | apply below_alloc | apply pw_below_drewN | apply below_drew1) | exact HB.out)⟩
    ·replace c8 := Bool.eq_false_iff.mpr c8
     subst c8
     have H1 : ((fen_Build.f kj4 l0).bind fun bt257 => (if bt257.2 = 0 then ((some (([] : List Int) : List Int)).bind fun y262 => (if y262.length + l0.length < 17592186044416 then (drawlotlaw11_FenTurns.l0 kj4 l1 (y262 ++ l0) 0 bt257.1) else (none))) else (some ((bt257.1.length : Int) == 0)))) = some r := by rw [if_neg (show ¬ (false = true) by decide)] at H; exact H
     clear H
     have H := H1
     clear H1
     replace H := Option.bind_eq_some_iff.mp H
     obtain ⟨⟨t257, t260⟩, A90, H⟩ := H
     replace H : (if t260 = 0 then ((some (([] : List Int) : List Int)).bind fun y262 => (if y262.length + l0.length < 17592186044416 then (drawlotlaw11_FenTurns.l0 kj4 l1 (y262 ++ l0) 0 t257) else (none))) else (some ((t257.length : Int) == 0))) = some r := H
     have A9 := Aside0.mk A90
     clear A90
     by_cases c10 : t260 = 0
     ·rw [if_pos c10] at H
      have c10b0 : (t260 == 0) = true := beq_iff_eq.mpr c10
      have c10b1 : (t260 != 0) = false := bne_eq_false_iff_eq.mpr c10
      clear c10
      obtain ⟨y262, hy262⟩ : ∃ y_ : List Int, y_ = (([] : List Int)) := ⟨_, rfl⟩
      replace H : (if y262.length + l0.length < 17592186044416 then (drawlotlaw11_FenTurns.l0 kj4 l1 (y262 ++ l0) 0 t257) else (none)) = some r := by first | (rw [hy262]; with_reducible exact H) | (have H2_ := (Option.bind_some _ _).symm.trans H; rw [hy262]; with_reducible exact H2_) | (have H2_ := (Option.bind_some _ _).symm.trans H; with_reducible exact H2_) | with_reducible exact H | (rw [hy262]; exact H) | exact H
      have Ny262 := Aside0.mk hy262
      clear hy262
      by_cases c11 : y262.length + l0.length < 17592186044416
      ·rw [if_pos c11] at H
       have LMc11 := Aside0.mk c11
       clear c11
       obtain ⟨y265, hy265⟩ : ∃ y_ : List Int, y_ = (y262 ++ l0) := ⟨_, rfl⟩
       replace H : (drawlotlaw11_FenTurns.l0 kj4 l1 y265 0 t257) = some r := by first | (rw [hy265]; with_reducible exact H) | (have H2_ := (Option.bind_some _ _).symm.trans H; rw [hy265]; with_reducible exact H2_) | (have H2_ := (Option.bind_some _ _).symm.trans H; with_reducible exact H2_) | with_reducible exact H | (rw [hy265]; exact H) | exact H
       have Ny265 := Aside0.mk hy265
       clear hy265
       have H' := Aside0.mk H
       clear H
       go_wp2_with (first | ((with_reducible refine gate_callee (f := 5) rfl ?_); refine goesL_ (some 29) rfl rfl Try.func5 (by kernel_rfl) rfl #[.slice A0 l0.length c0] rfl (by (try simp only [List.map_toArray, List.map_cons, List.map_nil]); first | done | rfl | (simp only [List.length_drop, List.length_take]; rfl)) ?_; (with_reducible refine (fen_Build.calls kj4 _ _ l0 t257 t260 _ ?side1 ?side2 A9.out).mono ?_); (case side1 => repeat (first | exact (Kd.C_below HR0.out HB.out) | (with_reducible refine Kd.C_alloc ?_ _) | (with_reducible refine Kd.C_drewN ?_ _) | (with_reducible refine Kd.C_drew ?_))); (case side2 => exact HC0.out); rintro e w12 ⟨v258, rfl, ho0, hb⟩; refine ⟨_, rfl, ?_⟩; have n0_ := Aside0.mk (Kd.R_lower ho0 (below_size (by repeat (first | (with_reducible first | exact HB.out | apply below_alloc | apply pw_below_drewN | apply below_drew1) | exact HB.out)))); have n1_ := Aside0.mk (below_step (by repeat (first | (with_reducible first | exact HB.out | apply below_alloc | apply pw_below_drewN | apply below_drew1) | exact HB.out)) hb); clear HB; have HO259 := n0_; have HB := n1_; clear n0_ n1_; (try clear hb); (try clear hb2); (try clear hk); (try clear hi); (try clear ho0)) | ((with_reducible refine gate_dst (N := 5) rfl ?_); (try (refine gate_guard (by rfl) ?_; dsimp only)); refine box_event ?hg (N := 5) ?hd (cs := #[.slice none 0 0]) (t := 26) ?hr ?_; (case hd => rfl); (case hg => rfl); (case hr => first | (go_simp; done) | (go_simp; rfl)); intro gb261 hg w13 hbox hb; have n0_ := Aside0.mk (Kd.R_below (by (with_reducible repeat (first | apply Kd.R_alloc | apply Kd.R_drewN | apply Kd.R_drew)); exact HO259.out) hb); have n1_ := Aside0.mk (below_step (by repeat (first | (with_reducible first | exact HB.out | apply below_alloc | apply pw_below_drewN | apply below_drew1) | exact HB.out)) hb); have n2_ := Aside0.mk (hbox); have n3_ := Aside0.mk ((by rw [hg]; exact (below_size (by repeat (first | (with_reducible first | exact HB.out | apply below_alloc | apply pw_below_drewN | apply below_drew1) | exact HB.out))) : w.heap.size ≤ gb261)); have n4_ := Aside0.mk ((by rw [hg]; exact (below_size (by repeat (first | (with_reducible first | exact HB.out | apply below_alloc | apply pw_below_drewN | apply below_drew1) | exact HB.out))) : w.heap.size ≤ gb261)); clear HO259; clear HB; have HO259 := n0_; have HB := n1_; have BK261 := n2_; have GW261 := n3_; have GE261 := n4_; clear n0_ n1_ n2_ n3_ n4_; clear hb hbox hg; obtain ⟨Ao14, co14, eo14⟩ := Kd.R_slice HO259.out; subst eo14; have hcz15_0 : w13.cell? ⟨gb261, 0, none⟩ = some (.slice none 0 0) := (blk_cell BK261.out 0).trans rfl; have hfz15_0 := blk_frozen BK261.out 0) | ((with_reducible refine gate_dst (N := 38) rfl ?_); (try (refine gate_guard (by rfl) ?_; dsimp only)); refine Kd.R_lit (Kd.int .u64) _ 30 ?hg (N := 38) ?hd (xs := ([] : List Int)) (inner := []) (ok := fun _ => True) (okp := fun _ => True) ?hr ?hp (fun _ hk => hk) trivial (Below.refl _ _) (Nat.le_refl _) (by simp) ?_; (case hd => rfl); (case hg => rfl); (case hr => first | (go_simp; done) | (go_simp; rfl)); (case hp => exact (Reps.none _ _)); intro v263 w16 ho17 hb hg_ hnew_; clear hg_ hnew_; (first | rw [← Ny262.out] at ho17 | (simp only [Int.reduceToNat] at ho17; rw [← Ny262.out] at ho17)); have n0_ := Aside0.mk (Kd.R_elder' (by (with_reducible repeat (first | apply Kd.R_alloc | apply Kd.R_drewN | apply Kd.R_drew)); exact (Kd.R_mono (Kd.R_far (p := ⟨gb261, 0, none⟩) (Kd.R_types HO259.out BK261.out (by decide)) (fun _ hk => hk.2) (.slice Ao14 t257.length co14)) (fun _ h_ => h_.1))) (Kd.R_base ho17) hb); have n1_ := Aside0.mk (Kd.R_lower (Kd.R_new' ho17 (Kd.R_lt (by (with_reducible repeat (first | apply Kd.R_alloc | apply Kd.R_drewN | apply Kd.R_drew)); exact (Kd.R_mono (Kd.R_far (p := ⟨gb261, 0, none⟩) (Kd.R_types HO259.out BK261.out (by decide)) (fun _ hk => hk.2) (.slice Ao14 t257.length co14)) (fun _ h_ => h_.1))))) (below_size (by repeat (first | (with_reducible first | exact HB.out | apply below_alloc | apply pw_below_drewN | apply below_drew1 | refine below_set ?_ GE261.out) | exact HB.out)))); have n2_ := Aside0.mk (blk_below (g := gb261) (o := .cells #[.slice Ao14 t257.length co14] 26 (0, 0)) (by (with_reducible repeat (first | refine blk_drewN ?_ _ | refine blk_drew ?_ | refine blk_alloc ?_ _)); refine blk_put (cs := #[.slice none 0 0]) ?_ 0 _ rfl; (with_reducible repeat (first | refine blk_drewN ?_ _ | refine blk_drew ?_ | refine blk_alloc ?_ _)); exact BK261.out) hb); have n3_ := Aside0.mk (below_step (by repeat (first | (with_reducible first | exact HB.out | apply below_alloc | apply pw_below_drewN | apply below_drew1 | refine below_set ?_ GE261.out) | exact HB.out)) hb); clear HO259; clear BK261; clear HB; have HO259 := n0_; have HO264 := n1_; have BK261 := n2_; have HB := n3_; clear n0_ n1_ n2_ n3_; clear hb ho17) | ((with_reducible refine gate_builtin (b := .append) (xs := #[.tmp 38, .tmp 39]) rfl ?_); (try (refine gate_guard (by rfl) ?_; dsimp only)); at_builtin; refine Kd.R_append_rows (Kd.int .u64) (w0 := w) w.heap.size rfl (.tmp 38) (.tmp 39) 22 30 (.int .u64 0) 8 rfl Try.underlying22 info30 rfl (by decide) (by omega) v263 y262 l0 _ _ _ (fun k_ => some k_ ≠ (.slice Ao14 t257.length co14 : Value).ownBlock) (fun _ => False) rfl rfl ?aO ?aR (fun _ _ h => h) (fun _ h => h.elim) ?aF ?aB ?aS ?aL ?_; (case aR => repeat (first | exact (Kd.C_below HR0.out HB.out) | (with_reducible refine Kd.C_alloc ?_ _) | (with_reducible refine Kd.C_drewN ?_ _) | (with_reducible refine Kd.C_drew ?_))); (case aB => exact (by repeat (first | (with_reducible first | exact HB.out | apply below_alloc | apply pw_below_drewN | apply below_drew1 | refine below_set ?_ GE261.out) | exact HB.out))); (case aF => exact (fun k_ hk => Kd.fresh' (Kd.R_lt (by (with_reducible repeat (first | apply Kd.R_alloc | apply Kd.R_drewN | apply Kd.R_drew)); exact HO259.out)) k_ hk)); (case aO => exact (by (with_reducible repeat (first | apply Kd.R_alloc | apply Kd.R_drewN | apply Kd.R_drew)); exact Kd.R_mono HO264.out (fun _ hk => hk.2))); (case aS => exact (below_size (by repeat (first | (with_reducible first | exact HB.out | apply below_alloc | apply pw_below_drewN | apply below_drew1 | refine below_set ?_ GE261.out) | exact HB.out)))); (case aL => have := LMc11.out; omega); intro v266 w18 ho hb hg hat; rw [← Ny265.out] at ho; have n0_ := Aside0.mk (Kd.R_after (ok := (fun _ => True)) (by (with_reducible repeat (first | apply Kd.R_alloc | apply Kd.R_drewN | apply Kd.R_drew)); exact HO259.out) hg hat); have n1_ := Aside0.mk (blk_grown (g := gb261) (o := .cells #[.slice Ao14 t257.length co14] 26 (0, 0)) (by (with_reducible repeat (first | refine blk_drewN ?_ _ | refine blk_drew ?_ | refine blk_alloc ?_ _)); exact BK261.out) hg (Kd.R_ne HO264.out BK261.out (by decide))); have n2_ := Aside0.mk (hb); have n3_ := Aside0.mk (ho); clear HO259; clear BK261; clear HB; clear HO264; have HO259 := n0_; have BK261 := n1_; have HB := n2_; have HO267 := n3_; clear n0_ n1_ n2_ n3_; clear ho hb hg hat))
       go_loopg [7, 8] kj4 (fun kq v7 v8 w' => ∃ (x7_2 : List Int) (x8_2 : Int) (x262000_2 : List Int) (u262000 : Value), v8 = .int .i64 x8_2 ∧ Aside0 (drawlotlaw11_FenTurns.l0 kq l1 x7_2 x8_2 x262000_2 = some r) ∧ Aside0 (kq ≤ kj4) ∧ Aside0 (Kd.R (Kd.int .u64) 30 w' w.heap.size (fun k_ => some k_ ≠ (u262000 : Value).ownBlock) v7 x7_2) ∧ Aside0 (Kd.R (Kd.int .u64) 30 w' w.heap.size (fun k_ => some k_ ≠ (v7 : Value).ownBlock) u262000 x262000_2) ∧ Aside0 (w'.heap[gb261]? = some (.cells #[u262000] 26 (0, 0))) ∧ Aside0 (Below w.heap.size w w'))
       case atStart => exact ⟨(y265), (0), (t257), (.slice Ao14 t257.length co14), (by first | rfl | (simp; done) | (simp [*]; done)), H', ⟨Nat.le_refl _⟩, ⟨by (with_reducible repeat (first | apply Kd.R_alloc | apply Kd.R_drewN | apply Kd.R_drew)); exact HO267.out⟩, ⟨by (with_reducible repeat (first | apply Kd.R_alloc | apply Kd.R_drewN | apply Kd.R_drew)); exact Kd.R_mono HO259.out (fun _ hk => hk.2)⟩, ⟨by (with_reducible repeat (first | refine blk_drewN ?_ _ | refine blk_drew ?_ | refine blk_alloc ?_ _)); exact BK261.out⟩, ⟨by repeat (first | (with_reducible first | exact HB.out | apply below_alloc | apply pw_below_drewN | apply below_drew1 | refine below_set ?_ GE261.out) | exact HB.out)⟩⟩
       case round =>
        clear H'
        try clear c1
        try clear p2
        try clear c3
        try clear c4
        try clear c5
        try clear c7
        try clear c7b0
        try clear c7b1
        try clear c8
        try clear c10
        try clear c10b0
        try clear c10b1
        try clear c11
        try clear hcz15_0
        try clear hfz15_0
        try clear p2
        obtain ⟨x7_2, x8_2, x262000_2, u262000, rfl, HA, HK2, HO_7, HO_262000, BK261, HB⟩ := hrel
        cases gk with
        | zero => exact absurd HA.out (by simp [drawlotlaw11_FenTurns.l0])
        | succ k2 =>
         have H := HA.out
         clear HA
         simp only [drawlotlaw11_FenTurns.l0] at H
         by_cases c19 : x8_2 < (l1.length : Int)
         ·rw [if_pos c19] at H
          have c19b0 : decide (x8_2 < (l1.length : Int)) = true := decide_eq_true c19
          clear c19
          by_cases c20 : 0 ≤ x8_2
          ·rw [if_pos c20] at H
           have c20b0 : decide (0 ≤ x8_2) = true := decide_eq_true c20
           clear c20
           obtain ⟨y274, hy274⟩ : ∃ y_ : List Int, y_ = (([] : List Int)) := ⟨_, rfl⟩
           replace H : (if y274.length + x262000_2.length < 17592186044416 then ((some (y274 ++ x262000_2 : List Int)).bind fun y277 => (if ((rd_T32 l1 x8_2).f0) < 0 then ((fen_Grow.f k2 x262000_2 ((rd_T32 l1 x8_2).f1)).bind fun bt281 => ((some (([] : List Int) : List Int)).bind fun y285 => (if y285.length + x7_2.length < 17592186044416 then ((some (y285 ++ x7_2 : List Int)).bind fun y288 => ((some (([(rd_T32 l1 x8_2).f1] : List Int) : List Int)).bind fun y291 => (if y288.length + y291.length < 17592186044416 then ((some (y288 ++ y291 : List Int)).bind fun y294 => ((drawlotref09_Total.f k2 y294).bind fun bt297 => (if bt297.2 = true then (drawlotlaw11_FenTurns.j2 k2 l1 x7_2 x8_2 y277 bt281.2 0 y294 x262000_2 bt281.1) else (drawlotlaw11_FenTurns.j2 k2 l1 x7_2 x8_2 y277 bt281.2 11 y294 x262000_2 bt281.1)))) else (none)))) else (none)))) else ((fen_Set.f k2 x262000_2 ((rd_T32 l1 x8_2).f0) ((rd_T32 l1 x8_2).f1)).bind fun bt299 => ((drawlotref11_Set.f k2 x7_2 ((rd_T32 l1 x8_2).f0) ((rd_T32 l1 x8_2).f1)).bind fun bt303 => (drawlotlaw11_FenTurns.j2 k2 l1 x7_2 x8_2 y277 bt299.2 bt303.2 bt303.1 x262000_2 bt299.1))))) else (none)) = some r := by first | (rw [hy274]; with_reducible exact H) | (have H2_ := (Option.bind_some _ _).symm.trans H; rw [hy274]; with_reducible exact H2_) | (have H2_ := (Option.bind_some _ _).symm.trans H; with_reducible exact H2_) | with_reducible exact H | (rw [hy274]; exact H) | exact H
           have Ny274 := Aside0.mk hy274
           clear hy274
           by_cases c21 : y274.length + x262000_2.length < 17592186044416
           ·rw [if_pos c21] at H
            have LMc21 := Aside0.mk c21
            clear c21
            obtain ⟨y277, hy277⟩ : ∃ y_ : List Int, y_ = (y274 ++ x262000_2) := ⟨_, rfl⟩
            replace H : (if ((rd_T32 l1 x8_2).f0) < 0 then ((fen_Grow.f k2 x262000_2 ((rd_T32 l1 x8_2).f1)).bind fun bt281 => ((some (([] : List Int) : List Int)).bind fun y285 => (if y285.length + x7_2.length < 17592186044416 then ((some (y285 ++ x7_2 : List Int)).bind fun y288 => ((some (([(rd_T32 l1 x8_2).f1] : List Int) : List Int)).bind fun y291 => (if y288.length + y291.length < 17592186044416 then ((some (y288 ++ y291 : List Int)).bind fun y294 => ((drawlotref09_Total.f k2 y294).bind fun bt297 => (if bt297.2 = true then (drawlotlaw11_FenTurns.j2 k2 l1 x7_2 x8_2 y277 bt281.2 0 y294 x262000_2 bt281.1) else (drawlotlaw11_FenTurns.j2 k2 l1 x7_2 x8_2 y277 bt281.2 11 y294 x262000_2 bt281.1)))) else (none)))) else (none)))) else ((fen_Set.f k2 x262000_2 ((rd_T32 l1 x8_2).f0) ((rd_T32 l1 x8_2).f1)).bind fun bt299 => ((drawlotref11_Set.f k2 x7_2 ((rd_T32 l1 x8_2).f0) ((rd_T32 l1 x8_2).f1)).bind fun bt303 => (drawlotlaw11_FenTurns.j2 k2 l1 x7_2 x8_2 y277 bt299.2 bt303.2 bt303.1 x262000_2 bt299.1)))) = some r := by first | (rw [hy277]; with_reducible exact H) | (have H2_ := (Option.bind_some _ _).symm.trans H; rw [hy277]; with_reducible exact H2_) | (have H2_ := (Option.bind_some _ _).symm.trans H; with_reducible exact H2_) | with_reducible exact H | (rw [hy277]; exact H) | exact H
            have Ny277 := Aside0.mk hy277
            clear hy277
            have HC22 := Aside0.mk H
            clear H
            have p272 : 0 ≤ (x8_2 : Int) := of_decide_eq_true (by first | (with_reducible assumption) | assumption)
            have q272 : x8_2 < (l1.length : Int) := of_decide_eq_true (by first | (with_reducible assumption) | assumption)
            obtain ⟨ad272, e272, hx272_0, hx272_1⟩ := at_T32 HR1.out x8_2 p272 q272
            cases e272
            replace hx272_0 := (HB.out.cell (World.block_lt_of_cell? w _ hx272_0)).trans hx272_0
            replace hx272_1 := (HB.out.cell (World.block_lt_of_cell? w _ hx272_1)).trans hx272_1
            replace p272 := eq_true p272
            replace q272 := eq_true q272
            go_upto_if 57 with (first | ((with_reducible refine gate_dst (N := 9) rfl ?_); (try (refine gate_guard (by rfl) ?_; dsimp only)); refine box_event ?hg (N := 9) ?hd (cs := #[.int .i64 0, .int .u64 0]) (t := 32) ?hr ?_; (case hd => rfl); (case hg => rfl); (case hr => first | (go_simp; done) | (go_simp; rfl)); intro gb273 hg w23 hbox hb; have n0_ := Aside0.mk (Kd.R_below (by (with_reducible repeat (first | apply Kd.R_alloc | apply Kd.R_drewN | apply Kd.R_drew)); exact HO_7.out) hb); have n1_ := Aside0.mk (Kd.R_below (by (with_reducible repeat (first | apply Kd.R_alloc | apply Kd.R_drewN | apply Kd.R_drew)); exact HO_262000.out) hb); have n2_ := Aside0.mk (blk_below (g := gb261) (o := .cells #[u262000] 26 (0, 0)) (by (with_reducible repeat (first | refine blk_drewN ?_ _ | refine blk_drew ?_ | refine blk_alloc ?_ _)); exact BK261.out) hb); have n3_ := Aside0.mk (below_step (by repeat (first | (with_reducible first | exact HB.out | apply below_alloc | apply pw_below_drewN | apply below_drew1 | refine below_set ?_ GE261.out) | exact HB.out)) hb); have n4_ := Aside0.mk (hbox); have n5_ := Aside0.mk ((by rw [hg]; exact (below_size (by repeat (first | (with_reducible first | exact HB.out | apply below_alloc | apply pw_below_drewN | apply below_drew1 | refine below_set ?_ GE261.out) | exact HB.out))) : w.heap.size ≤ gb273)); have n6_ := Aside0.mk ((by rw [hg]; exact (below_size (by repeat (first | (with_reducible first | exact HB.out | apply below_alloc | apply pw_below_drewN | apply below_drew1 | refine below_set ?_ GE261.out) | exact HB.out))) : w.heap.size ≤ gb273)); have n7_ := Aside0.mk ((by rw [hg]; exact Nat.ne_of_lt (blk_lt (g := gb261) (o := .cells #[u262000] 26 (0, 0)) (by (with_reducible repeat (first | refine blk_drewN ?_ _ | refine blk_drew ?_ | refine blk_alloc ?_ _)); exact BK261.out)) : gb261 ≠ gb273)); have n8_ := Aside0.mk ((by rw [hg]; exact Nat.ne_of_gt (blk_lt (g := gb261) (o := .cells #[u262000] 26 (0, 0)) (by (with_reducible repeat (first | refine blk_drewN ?_ _ | refine blk_drew ?_ | refine blk_alloc ?_ _)); exact BK261.out)) : gb273 ≠ gb261)); clear HO_7; clear HO_262000; clear BK261; clear HB; have HO_7 := n0_; have HO_262000 := n1_; have BK261 := n2_; have HB := n3_; have BK273 := n4_; have GW273 := n5_; have GE273 := n6_; have NB261_273 := n7_; have NB273_261 := n8_; clear n0_ n1_ n2_ n3_ n4_ n5_ n6_ n7_ n8_; clear hb hbox hg; have hnb24 := NB273_261.out; have hnc24 := NB261_273.out; have hcz25_0 : w23.cell? ⟨gb273, 0, none⟩ = some (.int .i64 0) := (blk_cell BK273.out 0).trans rfl; have hcz25_1 : w23.cell? ⟨gb273, 1, none⟩ = some (.int .u64 0) := (blk_cell BK273.out 1).trans rfl; have hfz25_0 := blk_frozen BK273.out 0; have hfz25_1 := blk_frozen BK273.out 1) | ((with_reducible refine gate_dst (N := 51) rfl ?_); (try (refine gate_guard (by rfl) ?_; dsimp only)); refine Kd.R_lit (Kd.int .u64) _ 30 ?hg (N := 51) ?hd (xs := ([] : List Int)) (inner := []) (ok := fun _ => True) (okp := fun _ => True) ?hr ?hp (fun _ hk => hk) trivial (Below.refl _ _) (Nat.le_refl _) (by simp) ?_; (case hd => rfl); (case hg => rfl); (case hr => first | (go_simp; done) | (go_simp; rfl)); (case hp => exact (Reps.none _ _)); intro v275 w26 ho27 hb hg_ hnew_; clear hg_ hnew_; (first | rw [← Ny274.out] at ho27 | (simp only [Int.reduceToNat] at ho27; rw [← Ny274.out] at ho27)); have n0_ := Aside0.mk (Kd.R_elder' (by (with_reducible repeat (first | apply Kd.R_alloc | apply Kd.R_drewN | apply Kd.R_drew)); exact (Kd.R_mono (Kd.R_far (p := ⟨gb273, 1, none⟩) (Kd.R_far (p := ⟨gb273, 0, none⟩) (Kd.R_types HO_7.out BK273.out (by decide)) (fun _ hk => hk.2) (.int .i64 ((rd_T32 l1 x8_2).f0))) (fun _ hk => hk.2) (.int .u64 ((rd_T32 l1 x8_2).f1))) (fun _ h_ => h_.1))) (Kd.R_base ho27) hb); have n1_ := Aside0.mk (Kd.R_elder' (by (with_reducible repeat (first | apply Kd.R_alloc | apply Kd.R_drewN | apply Kd.R_drew)); exact (Kd.R_mono (Kd.R_far (p := ⟨gb273, 1, none⟩) (Kd.R_far (p := ⟨gb273, 0, none⟩) (Kd.R_types HO_262000.out BK273.out (by decide)) (fun _ hk => hk.2) (.int .i64 ((rd_T32 l1 x8_2).f0))) (fun _ hk => hk.2) (.int .u64 ((rd_T32 l1 x8_2).f1))) (fun _ h_ => h_.1))) (Kd.R_base ho27) hb); have n2_ := Aside0.mk (Kd.R_lower (Kd.R_new' (Kd.R_new' ho27 (Kd.R_lt (by (with_reducible repeat (first | apply Kd.R_alloc | apply Kd.R_drewN | apply Kd.R_drew)); exact (Kd.R_mono (Kd.R_far (p := ⟨gb273, 1, none⟩) (Kd.R_far (p := ⟨gb273, 0, none⟩) (Kd.R_types HO_7.out BK273.out (by decide)) (fun _ hk => hk.2) (.int .i64 ((rd_T32 l1 x8_2).f0))) (fun _ hk => hk.2) (.int .u64 ((rd_T32 l1 x8_2).f1))) (fun _ h_ => h_.1))))) (Kd.R_lt (by (with_reducible repeat (first | apply Kd.R_alloc | apply Kd.R_drewN | apply Kd.R_drew)); exact (Kd.R_mono (Kd.R_far (p := ⟨gb273, 1, none⟩) (Kd.R_far (p := ⟨gb273, 0, none⟩) (Kd.R_types HO_262000.out BK273.out (by decide)) (fun _ hk => hk.2) (.int .i64 ((rd_T32 l1 x8_2).f0))) (fun _ hk => hk.2) (.int .u64 ((rd_T32 l1 x8_2).f1))) (fun _ h_ => h_.1))))) (below_size (by repeat (first | (with_reducible first | exact HB.out | apply below_alloc | apply pw_below_drewN | apply below_drew1 | refine below_set ?_ GE261.out | refine below_set ?_ GE273.out) | exact HB.out)))); have n3_ := Aside0.mk (blk_below (g := gb261) (o := .cells #[u262000] 26 (0, 0)) (by (with_reducible repeat (first | refine blk_drewN ?_ _ | refine blk_drew ?_ | refine blk_alloc ?_ _)); refine blk_far ?_ NB261_273.out _; (with_reducible repeat (first | refine blk_drewN ?_ _ | refine blk_drew ?_ | refine blk_alloc ?_ _)); refine blk_far ?_ NB261_273.out _; (with_reducible repeat (first | refine blk_drewN ?_ _ | refine blk_drew ?_ | refine blk_alloc ?_ _)); exact BK261.out) hb); have n4_ := Aside0.mk (blk_below (g := gb273) (o := .cells #[.int .i64 ((rd_T32 l1 x8_2).f0), .int .u64 ((rd_T32 l1 x8_2).f1)] 32 (0, 0)) (by (with_reducible repeat (first | refine blk_drewN ?_ _ | refine blk_drew ?_ | refine blk_alloc ?_ _)); refine blk_put (cs := #[.int .i64 ((rd_T32 l1 x8_2).f0), .int .u64 0]) ?_ 1 _ rfl; (with_reducible repeat (first | refine blk_drewN ?_ _ | refine blk_drew ?_ | refine blk_alloc ?_ _)); refine blk_put (cs := #[.int .i64 0, .int .u64 0]) ?_ 0 _ rfl; (with_reducible repeat (first | refine blk_drewN ?_ _ | refine blk_drew ?_ | refine blk_alloc ?_ _)); exact BK273.out) hb); have n5_ := Aside0.mk (below_step (by repeat (first | (with_reducible first | exact HB.out | apply below_alloc | apply pw_below_drewN | apply below_drew1 | refine below_set ?_ GE261.out | refine below_set ?_ GE273.out) | exact HB.out)) hb); clear HO_7; clear HO_262000; clear BK261; clear BK273; clear HB; have HO_7 := n0_; have HO_262000 := n1_; have HO276 := n2_; have BK261 := n3_; have BK273 := n4_; have HB := n5_; clear n0_ n1_ n2_ n3_ n4_ n5_; clear hb ho27; have hcz28_0 : w26.cell? ⟨gb261, 0, none⟩ = some (u262000) := (blk_cell BK261.out 0).trans rfl; have hfz28_0 := blk_frozen BK261.out 0; obtain ⟨Ao30, co30, eo30⟩ := Kd.R_slice HO_262000.out; subst eo30) | ((with_reducible refine gate_builtin (b := .append) (xs := #[.tmp 51, .tmp 53]) rfl ?_); (try (refine gate_guard (by rfl) ?_; dsimp only)); at_builtin; refine Kd.R_append_rows (Kd.int .u64) (w0 := w) w.heap.size rfl (.tmp 51) (.tmp 53) 22 30 (.int .u64 0) 8 rfl Try.underlying22 info30 rfl (by decide) (by omega) v275 y274 x262000_2 _ _ _ (fun k_ => some k_ ≠ (u7 : Value).ownBlock ∧ some k_ ≠ (.slice Ao30 x262000_2.length co30 : Value).ownBlock) (fun _ => False) rfl rfl ?aO ?aR (fun _ _ h => h) (fun _ h => h.elim) ?aF ?aB ?aS ?aL ?_; (case aR => repeat (first | exact (Kd.R_reads' HO_262000.out).2.2 | (with_reducible refine Kd.C_alloc ?_ _) | (with_reducible refine Kd.C_drewN ?_ _) | (with_reducible refine Kd.C_drew ?_))); (case aB => exact (by repeat (first | (with_reducible first | exact HB.out | apply below_alloc | apply pw_below_drewN | apply below_drew1 | refine below_set ?_ GE261.out | refine below_set ?_ GE273.out) | exact HB.out))); (case aF => exact (fun k_ hk => ⟨Kd.fresh' (Kd.R_lt (by (with_reducible repeat (first | apply Kd.R_alloc | apply Kd.R_drewN | apply Kd.R_drew)); exact HO_7.out)) k_ hk, Kd.fresh' (Kd.R_lt (by (with_reducible repeat (first | apply Kd.R_alloc | apply Kd.R_drewN | apply Kd.R_drew)); exact HO_262000.out)) k_ hk⟩)); (case aO => exact (by (with_reducible repeat (first | apply Kd.R_alloc | apply Kd.R_drewN | apply Kd.R_drew)); exact Kd.R_mono HO276.out (fun _ hk => ⟨hk.1.2, hk.2⟩))); (case aS => exact (below_size (by repeat (first | (with_reducible first | exact HB.out | apply below_alloc | apply pw_below_drewN | apply below_drew1 | refine below_set ?_ GE261.out | refine below_set ?_ GE273.out) | exact HB.out)))); (case aL => have := LMc21.out; omega); intro v278 w29 ho hb hg hat; rw [← Ny277.out] at ho; have n0_ := Aside0.mk (Kd.R_after (ok := (fun k_ => some k_ ≠ (.slice Ao30 x262000_2.length co30 : Value).ownBlock)) (by (with_reducible repeat (first | apply Kd.R_alloc | apply Kd.R_drewN | apply Kd.R_drew)); exact HO_7.out) hg hat); have n1_ := Aside0.mk (Kd.R_after (ok := (fun k_ => some k_ ≠ (u7 : Value).ownBlock)) (by (with_reducible repeat (first | apply Kd.R_alloc | apply Kd.R_drewN | apply Kd.R_drew)); exact HO_262000.out) hg hat); have n2_ := Aside0.mk (blk_grown (g := gb261) (o := .cells #[.slice Ao30 x262000_2.length co30] 26 (0, 0)) (by (with_reducible repeat (first | refine blk_drewN ?_ _ | refine blk_drew ?_ | refine blk_alloc ?_ _)); exact BK261.out) hg (Kd.R_ne HO276.out BK261.out (by decide))); have n3_ := Aside0.mk (blk_grown (g := gb273) (o := .cells #[.int .i64 ((rd_T32 l1 x8_2).f0), .int .u64 ((rd_T32 l1 x8_2).f1)] 32 (0, 0)) (by (with_reducible repeat (first | refine blk_drewN ?_ _ | refine blk_drew ?_ | refine blk_alloc ?_ _)); exact BK273.out) hg (Kd.R_ne HO276.out BK273.out (by decide))); have n4_ := Aside0.mk (hb); have n5_ := Aside0.mk (ho); clear HO_7; clear HO_262000; clear BK261; clear BK273; clear HB; clear HO276; have HO_7 := n0_; have HO_262000 := n1_; have BK261 := n2_; have BK273 := n3_; have HB := n4_; have HO279 := n5_; clear n0_ n1_ n2_ n3_ n4_ n5_; clear ho hb hg hat) | ((with_reducible refine gate_dst (N := 11) rfl ?_); (try (refine gate_guard (by rfl) ?_; dsimp only)); refine box_event ?hg (N := 11) ?hd (cs := #[.slice none 0 0]) (t := 26) ?hr ?_; (case hd => rfl); (case hg => rfl); (case hr => first | (go_simp; done) | (go_simp; rfl)); intro gb280 hg w31 hbox hb; have n0_ := Aside0.mk (Kd.R_below (by (with_reducible repeat (first | apply Kd.R_alloc | apply Kd.R_drewN | apply Kd.R_drew)); exact HO_7.out) hb); have n1_ := Aside0.mk (Kd.R_below (by (with_reducible repeat (first | apply Kd.R_alloc | apply Kd.R_drewN | apply Kd.R_drew)); exact HO_262000.out) hb); have n2_ := Aside0.mk (Kd.R_below (by (with_reducible repeat (first | apply Kd.R_alloc | apply Kd.R_drewN | apply Kd.R_drew)); exact HO279.out) hb); have n3_ := Aside0.mk (blk_below (g := gb261) (o := .cells #[.slice Ao30 x262000_2.length co30] 26 (0, 0)) (by (with_reducible repeat (first | refine blk_drewN ?_ _ | refine blk_drew ?_ | refine blk_alloc ?_ _)); exact BK261.out) hb); have n4_ := Aside0.mk (blk_below (g := gb273) (o := .cells #[.int .i64 ((rd_T32 l1 x8_2).f0), .int .u64 ((rd_T32 l1 x8_2).f1)] 32 (0, 0)) (by (with_reducible repeat (first | refine blk_drewN ?_ _ | refine blk_drew ?_ | refine blk_alloc ?_ _)); exact BK273.out) hb); have n5_ := Aside0.mk (below_step (by repeat (first | (with_reducible first | exact HB.out | apply below_alloc | apply pw_below_drewN | apply below_drew1 | refine below_set ?_ GE261.out | refine below_set ?_ GE273.out) | exact HB.out)) hb); have n6_ := Aside0.mk (hbox); have n7_ := Aside0.mk ((by rw [hg]; exact (below_size (by repeat (first | (with_reducible first | exact HB.out | apply below_alloc | apply pw_below_drewN | apply below_drew1 | refine below_set ?_ GE261.out | refine below_set ?_ GE273.out) | exact HB.out))) : w.heap.size ≤ gb280)); have n8_ := Aside0.mk ((by rw [hg]; exact (below_size (by repeat (first | (with_reducible first | exact HB.out | apply below_alloc | apply pw_below_drewN | apply below_drew1 | refine below_set ?_ GE261.out | refine below_set ?_ GE273.out) | exact HB.out))) : w.heap.size ≤ gb280)); have n9_ := Aside0.mk ((by rw [hg]; exact Nat.ne_of_lt (blk_lt (g := gb261) (o := .cells #[.slice Ao30 x262000_2.length co30] 26 (0, 0)) (by (with_reducible repeat (first | refine blk_drewN ?_ _ | refine blk_drew ?_ | refine blk_alloc ?_ _)); exact BK261.out)) : gb261 ≠ gb280)); have n10_ := Aside0.mk ((by rw [hg]; exact Nat.ne_of_gt (blk_lt (g := gb261) (o := .cells #[.slice Ao30 x262000_2.length co30] 26 (0, 0)) (by (with_reducible repeat (first | refine blk_drewN ?_ _ | refine blk_drew ?_ | refine blk_alloc ?_ _)); exact BK261.out)) : gb280 ≠ gb261)); have n11_ := Aside0.mk ((by rw [hg]; exact Nat.ne_of_lt (blk_lt (g := gb273) (o := .cells #[.int .i64 ((rd_T32 l1 x8_2).f0), .int .u64 ((rd_T32 l1 x8_2).f1)] 32 (0, 0)) (by (with_reducible repeat (first | refine blk_drewN ?_ _ | refine blk_drew ?_ | refine blk_alloc ?_ _)); exact BK273.out)) : gb273 ≠ gb280)); have n12_ := Aside0.mk ((by rw [hg]; exact Nat.ne_of_gt (blk_lt (g := gb273) (o := .cells #[.int .i64 ((rd_T32 l1 x8_2).f0), .int .u64 ((rd_T32 l1 x8_2).f1)] 32 (0, 0)) (by (with_reducible repeat (first | refine blk_drewN ?_ _ | refine blk_drew ?_ | refine blk_alloc ?_ _)); exact BK273.out)) : gb280 ≠ gb273)); clear HO_7; clear HO_262000; clear HO279; clear BK261; clear BK273; clear HB; have HO_7 := n0_; have HO_262000 := n1_; have HO279 := n2_; have BK261 := n3_; have BK273 := n4_; have HB := n5_; have BK280 := n6_; have GW280 := n7_; have GE280 := n8_; have NB261_280 := n9_; have NB280_261 := n10_; have NB273_280 := n11_; have NB280_273 := n12_; clear n0_ n1_ n2_ n3_ n4_ n5_ n6_ n7_ n8_ n9_ n10_ n11_ n12_; clear hb hbox hg; have hnb32 := NB273_280.out; have hnc32 := NB280_273.out; have hcz33_0 : w31.cell? ⟨gb273, 0, none⟩ = some (.int .i64 ((rd_T32 l1 x8_2).f0)) := (blk_cell BK273.out 0).trans rfl; have hcz33_1 : w31.cell? ⟨gb273, 1, none⟩ = some (.int .u64 ((rd_T32 l1 x8_2).f1)) := (blk_cell BK273.out 1).trans rfl; have hfz33_0 := blk_frozen BK273.out 0; have hfz33_1 := blk_frozen BK273.out 1))
            (try simp only [Act.put, List.setIfInBounds_toArray, List.set_cons_zero, List.set_cons_succ])
            go_cut [12, 13, 14] (fun v12 v13 v14 wc => ∃ (kq : Nat) (x12_21 : Int) (x13_21 : Int) (x14_21 : List Int) (x281000_21 : List Int) (u281000 : Value), v12 = .int .i64 x12_21 ∧ v13 = .int .i64 x13_21 ∧ Aside0 (drawlotlaw11_FenTurns.j2 kq l1 x7_2 x8_2 y277 x12_21 x13_21 x14_21 x262000_2 x281000_21 = some r) ∧ Aside0 (kq ≤ k2) ∧ Aside0 (Kd.R (Kd.int .u64) 30 wc w.heap.size (fun k_ => some k_ ≠ (v278 : Value).ownBlock ∧ some k_ ≠ (v14 : Value).ownBlock ∧ some k_ ≠ ((.slice Ao30 x262000_2.length co30) : Value).ownBlock ∧ some k_ ≠ (u281000 : Value).ownBlock) u7 x7_2) ∧ Aside0 (Kd.R (Kd.int .u64) 30 wc w.heap.size (fun k_ => some k_ ≠ (u7 : Value).ownBlock ∧ some k_ ≠ (v14 : Value).ownBlock ∧ some k_ ≠ ((.slice Ao30 x262000_2.length co30) : Value).ownBlock ∧ some k_ ≠ (u281000 : Value).ownBlock) v278 y277) ∧ Aside0 (Kd.R (Kd.int .u64) 30 wc w.heap.size (fun k_ => some k_ ≠ (u7 : Value).ownBlock ∧ some k_ ≠ (v278 : Value).ownBlock ∧ some k_ ≠ ((.slice Ao30 x262000_2.length co30) : Value).ownBlock ∧ some k_ ≠ (u281000 : Value).ownBlock) v14 x14_21) ∧ Aside0 (Kd.R (Kd.int .u64) 30 wc w.heap.size (fun k_ => some k_ ≠ (u7 : Value).ownBlock ∧ some k_ ≠ (v278 : Value).ownBlock ∧ some k_ ≠ (v14 : Value).ownBlock ∧ some k_ ≠ (u281000 : Value).ownBlock) (.slice Ao30 x262000_2.length co30) x262000_2) ∧ Aside0 (Kd.R (Kd.int .u64) 30 wc w.heap.size (fun k_ => some k_ ≠ (u7 : Value).ownBlock ∧ some k_ ≠ (v278 : Value).ownBlock ∧ some k_ ≠ (v14 : Value).ownBlock ∧ some k_ ≠ ((.slice Ao30 x262000_2.length co30) : Value).ownBlock) u281000 x281000_21) ∧ Aside0 (wc.heap[gb261]? = some (.cells #[(.slice Ao30 x262000_2.length co30)] 26 (0, 0))) ∧ Aside0 (wc.heap[gb273]? = some (.cells #[.int .i64 ((rd_T32 l1 x8_2).f0), .int .u64 ((rd_T32 l1 x8_2).f1)] 32 (0, 0))) ∧ Aside0 (wc.heap[gb280]? = some (.cells #[u281000] 26 (0, 0))) ∧ Aside0 (Below w.heap.size w wc))
            case first =>
             have H := HC22.out
             clear HC22
             by_cases c34 : ((rd_T32 l1 x8_2).f0) < 0
             ·rw [if_pos c34] at H
              have c34b0 : decide (((rd_T32 l1 x8_2).f0) < 0) = true := decide_eq_true c34
              clear c34
              (first | rw [c34b0] | (simp only [i64_w, i32_w]; rw [c34b0]) | skip)
              replace H := Option.bind_eq_some_iff.mp H
              obtain ⟨⟨t281, t284⟩, A350, H⟩ := H
              replace H : ((some (([] : List Int) : List Int)).bind fun y285 => (if y285.length + x7_2.length < 17592186044416 then ((some (y285 ++ x7_2 : List Int)).bind fun y288 => ((some (([(rd_T32 l1 x8_2).f1] : List Int) : List Int)).bind fun y291 => (if y288.length + y291.length < 17592186044416 then ((some (y288 ++ y291 : List Int)).bind fun y294 => ((drawlotref09_Total.f k2 y294).bind fun bt297 => (if bt297.2 = true then (drawlotlaw11_FenTurns.j2 k2 l1 x7_2 x8_2 y277 t284 0 y294 x262000_2 t281) else (drawlotlaw11_FenTurns.j2 k2 l1 x7_2 x8_2 y277 t284 11 y294 x262000_2 t281)))) else (none)))) else (none))) = some r := H
              have A35 := Aside0.mk A350
              clear A350
              obtain ⟨y285, hy285⟩ : ∃ y_ : List Int, y_ = (([] : List Int)) := ⟨_, rfl⟩
              replace H : (if y285.length + x7_2.length < 17592186044416 then ((some (y285 ++ x7_2 : List Int)).bind fun y288 => ((some (([(rd_T32 l1 x8_2).f1] : List Int) : List Int)).bind fun y291 => (if y288.length + y291.length < 17592186044416 then ((some (y288 ++ y291 : List Int)).bind fun y294 => ((drawlotref09_Total.f k2 y294).bind fun bt297 => (if bt297.2 = true then (drawlotlaw11_FenTurns.j2 k2 l1 x7_2 x8_2 y277 t284 0 y294 x262000_2 t281) else (drawlotlaw11_FenTurns.j2 k2 l1 x7_2 x8_2 y277 t284 11 y294 x262000_2 t281)))) else (none)))) else (none)) = some r := by first | (rw [hy285]; with_reducible exact H) | (have H2_ := (Option.bind_some _ _).symm.trans H; rw [hy285]; with_reducible exact H2_) | (have H2_ := (Option.bind_some _ _).symm.trans H; with_reducible exact H2_) | with_reducible exact H | (rw [hy285]; exact H) | exact H
              have Ny285 := Aside0.mk hy285
              clear hy285
              by_cases c36 : y285.length + x7_2.length < 17592186044416
              ·rw [if_pos c36] at H
               have LMc36 := Aside0.mk c36
               clear c36
               obtain ⟨y288, hy288⟩ : ∃ y_ : List Int, y_ = (y285 ++ x7_2) := ⟨_, rfl⟩
               replace H : ((some (([(rd_T32 l1 x8_2).f1] : List Int) : List Int)).bind fun y291 => (if y288.length + y291.length < 17592186044416 then ((some (y288 ++ y291 : List Int)).bind fun y294 => ((drawlotref09_Total.f k2 y294).bind fun bt297 => (if bt297.2 = true then (drawlotlaw11_FenTurns.j2 k2 l1 x7_2 x8_2 y277 t284 0 y294 x262000_2 t281) else (drawlotlaw11_FenTurns.j2 k2 l1 x7_2 x8_2 y277 t284 11 y294 x262000_2 t281)))) else (none))) = some r := by first | (rw [hy288]; with_reducible exact H) | (have H2_ := (Option.bind_some _ _).symm.trans H; rw [hy288]; with_reducible exact H2_) | (have H2_ := (Option.bind_some _ _).symm.trans H; with_reducible exact H2_) | with_reducible exact H | (rw [hy288]; exact H) | exact H
               have Ny288 := Aside0.mk hy288
               clear hy288
               obtain ⟨y291, hy291⟩ : ∃ y_ : List Int, y_ = (([(rd_T32 l1 x8_2).f1] : List Int)) := ⟨_, rfl⟩
               replace H : (if y288.length + y291.length < 17592186044416 then ((some (y288 ++ y291 : List Int)).bind fun y294 => ((drawlotref09_Total.f k2 y294).bind fun bt297 => (if bt297.2 = true then (drawlotlaw11_FenTurns.j2 k2 l1 x7_2 x8_2 y277 t284 0 y294 x262000_2 t281) else (drawlotlaw11_FenTurns.j2 k2 l1 x7_2 x8_2 y277 t284 11 y294 x262000_2 t281)))) else (none)) = some r := by first | (rw [hy291]; with_reducible exact H) | (have H2_ := (Option.bind_some _ _).symm.trans H; rw [hy291]; with_reducible exact H2_) | (have H2_ := (Option.bind_some _ _).symm.trans H; with_reducible exact H2_) | with_reducible exact H | (rw [hy291]; exact H) | exact H
               have Ny291 := Aside0.mk hy291
               clear hy291
               by_cases c37 : y288.length + y291.length < 17592186044416
               ·rw [if_pos c37] at H
                have LMc37 := Aside0.mk c37
                clear c37
                obtain ⟨y294, hy294⟩ : ∃ y_ : List Int, y_ = (y288 ++ y291) := ⟨_, rfl⟩
                replace H : ((drawlotref09_Total.f k2 y294).bind fun bt297 => (if bt297.2 = true then (drawlotlaw11_FenTurns.j2 k2 l1 x7_2 x8_2 y277 t284 0 y294 x262000_2 t281) else (drawlotlaw11_FenTurns.j2 k2 l1 x7_2 x8_2 y277 t284 11 y294 x262000_2 t281))) = some r := by first | (rw [hy294]; with_reducible exact H) | (have H2_ := (Option.bind_some _ _).symm.trans H; rw [hy294]; with_reducible exact H2_) | (have H2_ := (Option.bind_some _ _).symm.trans H; with_reducible exact H2_) | with_reducible exact H | (rw [hy294]; exact H) | exact H
                have Ny294 := Aside0.mk hy294
                clear hy294
                replace H := Option.bind_eq_some_iff.mp H
                obtain ⟨⟨t297, t298⟩, A380, H⟩ := H
                replace H : (if t298 = true then (drawlotlaw11_FenTurns.j2 k2 l1 x7_2 x8_2 y277 t284 0 y294 x262000_2 t281) else (drawlotlaw11_FenTurns.j2 k2 l1 x7_2 x8_2 y277 t284 11 y294 x262000_2 t281)) = some r := H
                have A38 := Aside0.mk A380
                clear A380
                by_cases c39 : t298 = true
                ·subst c39
                 have H1 : (drawlotlaw11_FenTurns.j2 k2 l1 x7_2 x8_2 y277 t284 0 y294 x262000_2 t281) = some r := by rw [if_pos rfl] at H; exact H
                 clear H
                 have H := H1
                 clear H1
                 have H' := Aside0.mk H
                 clear H
                 have hnb40 := NB261_273.out
                 have hnc40 := NB273_261.out
                 have hnb41 := NB261_280.out
                 have hnc41 := NB280_261.out
                 have hcz42_0 : w31.cell? ⟨gb261, 0, none⟩ = some (.slice Ao30 x262000_2.length co30) := (blk_cell BK261.out 0).trans rfl
                 have hfz42_0 := blk_frozen BK261.out 0
                 have hnb43 := NB273_280.out
                 have hnc43 := NB280_273.out
                 have hcz44_0 : w31.cell? ⟨gb273, 0, none⟩ = some (.int .i64 ((rd_T32 l1 x8_2).f0)) := (blk_cell BK273.out 0).trans rfl
                 have hcz44_1 : w31.cell? ⟨gb273, 1, none⟩ = some (.int .u64 ((rd_T32 l1 x8_2).f1)) := (blk_cell BK273.out 1).trans rfl
                 have hfz44_0 := blk_frozen BK273.out 0
                 have hfz44_1 := blk_frozen BK273.out 1
                 try go_wp2_with (first | ((with_reducible refine gate_callee (f := 6) rfl ?_); refine goesL_ (some 62) rfl rfl Try.func6 (by kernel_rfl) rfl #[.agg #[.slice Ao30 x262000_2.length co30], .int .u64 ((rd_T32 l1 x8_2).f1)] rfl (by (try simp only [List.map_toArray, List.map_cons, List.map_nil]); first | done | rfl | (simp only [List.length_drop, List.length_take]; rfl)) ?_; (with_reducible refine (fen_Grow.calls k2 _ _ x262000_2 ((rd_T32 l1 x8_2).f1) t281 t284 _ ?side1 ?side2 A35.out).mono ?_); (case side1 => repeat (first | exact (Kd.R_reads' HO_262000.out).2.2 | (with_reducible refine Kd.C_alloc ?_ _) | (with_reducible refine Kd.C_drewN ?_ _) | (with_reducible refine Kd.C_drew ?_))); (case side2 => exact (Kd.R_reads' HO_262000.out).2.1); rintro e w45 ⟨v282, rfl, ho0, hb⟩; refine ⟨_, rfl, ?_⟩; have n0_ := Aside0.mk (Kd.R_elder' (by (with_reducible repeat (first | apply Kd.R_alloc | apply Kd.R_drewN | apply Kd.R_drew)); exact HO_7.out) (Kd.R_base ho0) hb); have n1_ := Aside0.mk (Kd.R_elder' (by (with_reducible repeat (first | apply Kd.R_alloc | apply Kd.R_drewN | apply Kd.R_drew)); exact HO_262000.out) (Kd.R_base ho0) hb); have n2_ := Aside0.mk (Kd.R_elder' (by (with_reducible repeat (first | apply Kd.R_alloc | apply Kd.R_drewN | apply Kd.R_drew)); exact HO279.out) (Kd.R_base ho0) hb); have n3_ := Aside0.mk (Kd.R_lower (Kd.R_new' (Kd.R_new' (Kd.R_new' ho0 (Kd.R_lt (by (with_reducible repeat (first | apply Kd.R_alloc | apply Kd.R_drewN | apply Kd.R_drew)); exact HO_7.out))) (Kd.R_lt (by (with_reducible repeat (first | apply Kd.R_alloc | apply Kd.R_drewN | apply Kd.R_drew)); exact HO_262000.out))) (Kd.R_lt (by (with_reducible repeat (first | apply Kd.R_alloc | apply Kd.R_drewN | apply Kd.R_drew)); exact HO279.out))) (below_size (by repeat (first | (with_reducible first | exact HB.out | apply below_alloc | apply pw_below_drewN | apply below_drew1 | refine below_set ?_ GE261.out | refine below_set ?_ GE273.out | refine below_set ?_ GE280.out) | exact HB.out)))); have n4_ := Aside0.mk (blk_below (g := gb261) (o := .cells #[.slice Ao30 x262000_2.length co30] 26 (0, 0)) (by (with_reducible repeat (first | refine blk_drewN ?_ _ | refine blk_drew ?_ | refine blk_alloc ?_ _)); exact BK261.out) hb); have n5_ := Aside0.mk (blk_below (g := gb273) (o := .cells #[.int .i64 ((rd_T32 l1 x8_2).f0), .int .u64 ((rd_T32 l1 x8_2).f1)] 32 (0, 0)) (by (with_reducible repeat (first | refine blk_drewN ?_ _ | refine blk_drew ?_ | refine blk_alloc ?_ _)); exact BK273.out) hb); have n6_ := Aside0.mk (blk_below (g := gb280) (o := .cells #[.slice none 0 0] 26 (0, 0)) (by (with_reducible repeat (first | refine blk_drewN ?_ _ | refine blk_drew ?_ | refine blk_alloc ?_ _)); exact BK280.out) hb); have n7_ := Aside0.mk (below_step (by repeat (first | (with_reducible first | exact HB.out | apply below_alloc | apply pw_below_drewN | apply below_drew1 | refine below_set ?_ GE261.out | refine below_set ?_ GE273.out | refine below_set ?_ GE280.out) | exact HB.out)) hb); clear HO_7; clear HO_262000; clear HO279; clear BK261; clear BK273; clear BK280; clear HB; have HO_7 := n0_; have HO_262000 := n1_; have HO279 := n2_; have HO283 := n3_; have BK261 := n4_; have BK273 := n5_; have BK280 := n6_; have HB := n7_; clear n0_ n1_ n2_ n3_ n4_ n5_ n6_ n7_; (try clear hb); (try clear hb2); (try clear hk); (try clear hi); (try clear ho0); obtain ⟨Ao46, co46, eo46⟩ := Kd.R_slice HO283.out; subst eo46; have hcz47_0 : w45.cell? ⟨gb280, 0, none⟩ = some (.slice none 0 0) := (blk_cell BK280.out 0).trans rfl; have hfz47_0 := blk_frozen BK280.out 0; obtain ⟨Ao48, co48, eo48⟩ := Kd.R_slice HO_7.out; subst eo48))
                 have n0_ : Aside0 (Kd.R (Kd.int .u64) 30 (w45.setCell ⟨gb280, 0, none⟩ (.slice Ao46 t281.length co46)) w.heap.size (fun k_ => some k_ ≠ (.slice Ao30 x262000_2.length co30 : Value).ownBlock ∧ some k_ ≠ (v278 : Value).ownBlock ∧ some k_ ≠ (.slice Ao46 t281.length co46 : Value).ownBlock) (.slice Ao48 x7_2.length co48) x7_2) := ⟨by (with_reducible repeat (first | apply Kd.R_alloc | apply Kd.R_drewN | apply Kd.R_drew)); exact Kd.R_mono (Kd.R_far (p := ⟨gb280, 0, none⟩) (Kd.R_types HO_7.out BK280.out (by decide)) (fun _ hk => hk.2) (.slice Ao46 t281.length co46)) (fun _ hk => ⟨hk.1.1.1, ⟨hk.1.1.2, hk.1.2⟩⟩)⟩
                 have n1_ : Aside0 (Kd.R (Kd.int .u64) 30 (w45.setCell ⟨gb280, 0, none⟩ (.slice Ao46 t281.length co46)) w.heap.size (fun k_ => some k_ ≠ (.slice Ao48 x7_2.length co48 : Value).ownBlock ∧ some k_ ≠ (v278 : Value).ownBlock ∧ some k_ ≠ (.slice Ao46 t281.length co46 : Value).ownBlock) (.slice Ao30 x262000_2.length co30) x262000_2) := ⟨by (with_reducible repeat (first | apply Kd.R_alloc | apply Kd.R_drewN | apply Kd.R_drew)); exact Kd.R_mono (Kd.R_far (p := ⟨gb280, 0, none⟩) (Kd.R_types HO_262000.out BK280.out (by decide)) (fun _ hk => hk.2) (.slice Ao46 t281.length co46)) (fun _ hk => ⟨hk.1.1.1, ⟨hk.1.1.2, hk.1.2⟩⟩)⟩
                 have n2_ : Aside0 (Kd.R (Kd.int .u64) 30 (w45.setCell ⟨gb280, 0, none⟩ (.slice Ao46 t281.length co46)) w.heap.size (fun k_ => some k_ ≠ (.slice Ao48 x7_2.length co48 : Value).ownBlock ∧ some k_ ≠ (.slice Ao30 x262000_2.length co30 : Value).ownBlock ∧ some k_ ≠ (.slice Ao46 t281.length co46 : Value).ownBlock) v278 y277) := ⟨by (with_reducible repeat (first | apply Kd.R_alloc | apply Kd.R_drewN | apply Kd.R_drew)); exact Kd.R_mono (Kd.R_far (p := ⟨gb280, 0, none⟩) (Kd.R_types HO279.out BK280.out (by decide)) (fun _ hk => hk.2) (.slice Ao46 t281.length co46)) (fun _ hk => ⟨hk.1.1.1, ⟨hk.1.1.2, hk.1.2⟩⟩)⟩
                 have n3_ : Aside0 (Kd.R (Kd.int .u64) 30 (w45.setCell ⟨gb280, 0, none⟩ (.slice Ao46 t281.length co46)) w.heap.size (fun k_ => some k_ ≠ (.slice Ao48 x7_2.length co48 : Value).ownBlock ∧ some k_ ≠ (.slice Ao30 x262000_2.length co30 : Value).ownBlock ∧ some k_ ≠ (v278 : Value).ownBlock) (.slice Ao46 t281.length co46) t281) := ⟨by (with_reducible repeat (first | apply Kd.R_alloc | apply Kd.R_drewN | apply Kd.R_drew)); exact Kd.R_mono (Kd.R_far (p := ⟨gb280, 0, none⟩) (Kd.R_types HO283.out BK280.out (by decide)) (fun _ hk => hk.2) (.slice Ao46 t281.length co46)) (fun _ hk => ⟨hk.1.1.1.2, ⟨hk.1.1.2, hk.1.2⟩⟩)⟩
                 have n4_ : Aside0 ((w45.setCell ⟨gb280, 0, none⟩ (.slice Ao46 t281.length co46)).heap[gb261]? = some (.cells #[.slice Ao30 x262000_2.length co30] 26 (0, 0))) := ⟨by (with_reducible repeat (first | refine blk_drewN ?_ _ | refine blk_drew ?_ | refine blk_alloc ?_ _)); refine blk_far ?_ NB261_280.out _; (with_reducible repeat (first | refine blk_drewN ?_ _ | refine blk_drew ?_ | refine blk_alloc ?_ _)); exact BK261.out⟩
                 have n5_ : Aside0 ((w45.setCell ⟨gb280, 0, none⟩ (.slice Ao46 t281.length co46)).heap[gb273]? = some (.cells #[.int .i64 ((rd_T32 l1 x8_2).f0), .int .u64 ((rd_T32 l1 x8_2).f1)] 32 (0, 0))) := ⟨by (with_reducible repeat (first | refine blk_drewN ?_ _ | refine blk_drew ?_ | refine blk_alloc ?_ _)); refine blk_far ?_ NB273_280.out _; (with_reducible repeat (first | refine blk_drewN ?_ _ | refine blk_drew ?_ | refine blk_alloc ?_ _)); exact BK273.out⟩
                 have n6_ : Aside0 ((w45.setCell ⟨gb280, 0, none⟩ (.slice Ao46 t281.length co46)).heap[gb280]? = some (.cells #[.slice Ao46 t281.length co46] 26 (0, 0))) := ⟨by (with_reducible repeat (first | refine blk_drewN ?_ _ | refine blk_drew ?_ | refine blk_alloc ?_ _)); refine blk_put (cs := #[.slice none 0 0]) ?_ 0 _ rfl; (with_reducible repeat (first | refine blk_drewN ?_ _ | refine blk_drew ?_ | refine blk_alloc ?_ _)); exact BK280.out⟩
                 have n7_ : Aside0 (Below w.heap.size w (w45.setCell ⟨gb280, 0, none⟩ (.slice Ao46 t281.length co46))) := ⟨by repeat (first | (with_reducible first | exact HB.out | apply below_alloc | apply pw_below_drewN | apply below_drew1 | refine below_set ?_ GE261.out | refine below_set ?_ GE273.out | refine below_set ?_ GE280.out) | exact HB.out)⟩
                 (try clear HO_7)
                 (try clear HO_262000)
                 (try clear HO279)
                 (try clear HO283)
                 (try clear BK261)
                 (try clear BK273)
                 (try clear BK280)
                 (try clear HB)
                 generalize (w45.setCell ⟨gb280, 0, none⟩ (.slice Ao46 t281.length co46)) = w49 at n0_ n1_ n2_ n3_ n4_ n5_ n6_ n7_ ⊢
                 have HO_7 := n0_
                 have HO_262000 := n1_
                 have HO279 := n2_
                 have HO283 := n3_
                 have BK261 := n4_
                 have BK273 := n5_
                 have BK280 := n6_
                 have HB := n7_
                 clear n0_ n1_ n2_ n3_ n4_ n5_ n6_ n7_
                 have n0_ := Aside0.mk (Kd.R_drew HO_7.out)
                 have n1_ := Aside0.mk (Kd.R_drew HO_262000.out)
                 have n2_ := Aside0.mk (Kd.R_drew HO279.out)
                 have n3_ := Aside0.mk (Kd.R_drew HO283.out)
                 have n4_ := Aside0.mk (blk_drew BK261.out)
                 have n5_ := Aside0.mk (blk_drew BK273.out)
                 have n6_ := Aside0.mk (blk_drew BK280.out)
                 have n7_ := Aside0.mk (below_drew1 HB.out)
                 clear HO_7
                 clear HO_262000
                 clear HO279
                 clear HO283
                 clear BK261
                 clear BK273
                 clear BK280
                 clear HB
                 have HO_7 := n0_
                 have HO_262000 := n1_
                 have HO279 := n2_
                 have HO283 := n3_
                 have BK261 := n4_
                 have BK273 := n5_
                 have BK280 := n6_
                 have HB := n7_
                 clear n0_ n1_ n2_ n3_ n4_ n5_ n6_ n7_
                 refine start_ (n := 8) (S := fun w' => w'.cell? ⟨gb273, 0, none⟩ = some (.int .i64 ((rd_T32 l1 x8_2).f0)) ∧ w'.cell? ⟨gb273, 1, none⟩ = some (.int .u64 ((rd_T32 l1 x8_2).f1))) (ds := []) #[false, false, false, false, false, false, false, false] (by kernel_rfl) rfl rfl ⟨(blk_cell BK273.out 0).trans rfl, (blk_cell BK273.out 1).trans rfl⟩ (fun hHeld => ?_); refine with_tabW drawlotlaw11_FenTurns.tab19 drawlotlaw11_FenTurns.bits19 (fun HT_ HW_ => ?_)
                 generalize w49.drew = w50 at HO_7 HO_262000 HO279 HO283 BK261 BK273 BK280 HB hHeld ⊢
                 refine pure_ (i := 1) (N := some 66) (v := ?_) (a' := ?_) #[false, true, false, false, false, false, false, false] rfl rfl (any_of HT_.out (by kernel_rfl)) (fun _ _ _ h => h) (Or.inl ⟨by rfl, ?_⟩) ?_ ?_
                 rotate_left
                 ·intro w'
                  go_simp
                  with_reducible rfl
                 rotate_left
                 ·simp only [Act.put, List.setIfInBounds_toArray, List.set_cons_zero, List.set_cons_succ, i64_w, i32_w]
                  rfl
                 refine pure_ (i := 3) (N := some 68) (v := ?_) (a' := ?_) #[false, true, false, true, false, false, false, false] rfl rfl (any_of HT_.out (by kernel_rfl)) (fun _ _ _ h => h) (Or.inl ⟨by rfl, ?_⟩) ?_ ?_
                 rotate_left
                 ·intro w'
                  go_simp
                  with_reducible rfl
                 rotate_left
                 ·simp only [Act.put, List.setIfInBounds_toArray, List.set_cons_zero, List.set_cons_succ, i64_w, i32_w]
                  rfl
                 refine take_ (i := 4) (N := some 69) (v := ?_) (a' := ?_) #[false, true, false, true, true, false, false, false] rfl rfl (take_ofW HT_.out HW_.out (by kernel_rfl)) (fun _ _ _ h => h) (Or.inl ⟨by rfl, ?_⟩) hHeld ?_ ?_
                 rotate_left
                 ·rintro w' ⟨s0, s1⟩
                  go_simp
                  with_reducible rfl
                 rotate_left
                 ·simp only [Act.put, List.setIfInBounds_toArray, List.set_cons_zero, List.set_cons_succ, i64_w, i32_w]
                  rfl
                 refine join_ (σ := Value × Value × Value) 2 #[true, true, true, true, true, true, false, false] (fun s_ => [(65, s_.1), (67, s_.2.1), (70, s_.2.2)]) (fun s_ w' => (w'.cell? ⟨gb273, 0, none⟩ = some (.int .i64 ((rd_T32 l1 x8_2).f0)) ∧ w'.cell? ⟨gb273, 1, none⟩ = some (.int .u64 ((rd_T32 l1 x8_2).f1))) ∧ (Kd.R (Kd.int .u64) 30 w' w.heap.size (fun k_ => some k_ ≠ (.slice Ao46 t281.length co46 : Value).ownBlock ∧ some k_ ≠ (s_.2.1 : Value).ownBlock ∧ some k_ ≠ (s_.2.2 : Value).ownBlock ∧ some k_ ≠ (.slice Ao30 x262000_2.length co30 : Value).ownBlock ∧ some k_ ≠ (.slice Ao48 x7_2.length co48 : Value).ownBlock) v278 y277) ∧ (Kd.R (Kd.int .u64) 30 w' w.heap.size (fun k_ => some k_ ≠ (v278 : Value).ownBlock ∧ some k_ ≠ (s_.2.1 : Value).ownBlock ∧ some k_ ≠ (s_.2.2 : Value).ownBlock ∧ some k_ ≠ (.slice Ao30 x262000_2.length co30 : Value).ownBlock ∧ some k_ ≠ (.slice Ao48 x7_2.length co48 : Value).ownBlock) (.slice Ao46 t281.length co46) t281) ∧ (Kd.R (Kd.int .u64) 30 w' w.heap.size (fun k_ => some k_ ≠ (v278 : Value).ownBlock ∧ some k_ ≠ (.slice Ao46 t281.length co46 : Value).ownBlock ∧ some k_ ≠ (s_.2.2 : Value).ownBlock ∧ some k_ ≠ (.slice Ao30 x262000_2.length co30 : Value).ownBlock ∧ some k_ ≠ (.slice Ao48 x7_2.length co48 : Value).ownBlock) s_.2.1 y288) ∧ (Kd.R (Kd.int .u64) 30 w' w.heap.size (fun k_ => some k_ ≠ (v278 : Value).ownBlock ∧ some k_ ≠ (.slice Ao46 t281.length co46 : Value).ownBlock ∧ some k_ ≠ (s_.2.1 : Value).ownBlock ∧ some k_ ≠ (.slice Ao30 x262000_2.length co30 : Value).ownBlock ∧ some k_ ≠ (.slice Ao48 x7_2.length co48 : Value).ownBlock) s_.2.2 y291) ∧ (Kd.R (Kd.int .u64) 30 w' w.heap.size (fun k_ => some k_ ≠ (v278 : Value).ownBlock ∧ some k_ ≠ (.slice Ao46 t281.length co46 : Value).ownBlock ∧ some k_ ≠ (s_.2.1 : Value).ownBlock ∧ some k_ ≠ (s_.2.2 : Value).ownBlock ∧ some k_ ≠ (.slice Ao48 x7_2.length co48 : Value).ownBlock) (.slice Ao30 x262000_2.length co30) x262000_2) ∧ (Kd.R (Kd.int .u64) 30 w' w.heap.size (fun k_ => some k_ ≠ (v278 : Value).ownBlock ∧ some k_ ≠ (.slice Ao46 t281.length co46 : Value).ownBlock ∧ some k_ ≠ (s_.2.1 : Value).ownBlock ∧ some k_ ≠ (s_.2.2 : Value).ownBlock ∧ some k_ ≠ (.slice Ao30 x262000_2.length co30 : Value).ownBlock) (.slice Ao48 x7_2.length co48) x7_2) ∧ (w'.heap[gb261]? = some (.cells #[.slice Ao30 x262000_2.length co30] 26 (0, 0))) ∧ (w'.heap[gb273]? = some (.cells #[.int .i64 ((rd_T32 l1 x8_2).f0), .int .u64 ((rd_T32 l1 x8_2).f1)] 32 (0, 0))) ∧ (w'.heap[gb280]? = some (.cells #[.slice Ao46 t281.length co46] 26 (0, 0))) ∧ (Below w.heap.size w w')) ?_ ?_
                 rotate_left
                 ·intro hCont
                  refine two_ (i := 0) (j := 5) (Ni := some 65) (Nj := some 70) #[true, true, false, true, true, false, false, false] #[false, true, false, true, true, true, false, false] rfl rfl rfl rfl (two_of HT_.out (by kernel_rfl)) (by decide) (by decide) (fun K hK => ?_) (fun K hK => ?_)
                  ·skip
                   refine Kd.R_lit_step (Kd.int .u64) _ 30 ?hg (N := 65) ?hd (xs := ([] : List Int)) (inner := []) (ok := fun _ => True) (okp := fun _ => True) ?hr ?hp (fun _ hk => hk) trivial (Below.refl _ _) (Nat.le_refl _) (by simp) ?_; (case hd => rfl); (case hg => rfl); (case hr => first | (go_simp; done) | (go_simp; rfl)); (case hp => exact (Reps.none _ _))
                   intro v286 w51 ho52 hb hg_ hnew_
                   clear hg_ hnew_
                   (first | rw [← Ny285.out] at ho52 | (simp only [Int.reduceToNat] at ho52; rw [← Ny285.out] at ho52))
                   have n0_ := Aside0.mk (Kd.R_elder' (by (with_reducible repeat (first | apply Kd.R_alloc | apply Kd.R_drewN | apply Kd.R_drew)); exact HO_7.out) (Kd.R_base ho52) hb)
                   have n1_ := Aside0.mk (Kd.R_elder' (by (with_reducible repeat (first | apply Kd.R_alloc | apply Kd.R_drewN | apply Kd.R_drew)); exact HO_262000.out) (Kd.R_base ho52) hb)
                   have n2_ := Aside0.mk (Kd.R_elder' (by (with_reducible repeat (first | apply Kd.R_alloc | apply Kd.R_drewN | apply Kd.R_drew)); exact HO279.out) (Kd.R_base ho52) hb)
                   have n3_ := Aside0.mk (Kd.R_elder' (by (with_reducible repeat (first | apply Kd.R_alloc | apply Kd.R_drewN | apply Kd.R_drew)); exact HO283.out) (Kd.R_base ho52) hb)
                   have n4_ := Aside0.mk (Kd.R_lower (Kd.R_new' (Kd.R_new' (Kd.R_new' (Kd.R_new' ho52 (Kd.R_lt (by (with_reducible repeat (first | apply Kd.R_alloc | apply Kd.R_drewN | apply Kd.R_drew)); exact HO_7.out))) (Kd.R_lt (by (with_reducible repeat (first | apply Kd.R_alloc | apply Kd.R_drewN | apply Kd.R_drew)); exact HO_262000.out))) (Kd.R_lt (by (with_reducible repeat (first | apply Kd.R_alloc | apply Kd.R_drewN | apply Kd.R_drew)); exact HO279.out))) (Kd.R_lt (by (with_reducible repeat (first | apply Kd.R_alloc | apply Kd.R_drewN | apply Kd.R_drew)); exact HO283.out))) (below_size (by repeat (first | (with_reducible first | exact HB.out | apply below_alloc | apply pw_below_drewN | apply below_drew1 | refine below_set ?_ GE261.out | refine below_set ?_ GE273.out | refine below_set ?_ GE280.out) | exact HB.out))))
                   have n5_ := Aside0.mk (blk_below (g := gb261) (o := .cells #[.slice Ao30 x262000_2.length co30] 26 (0, 0)) (by (with_reducible repeat (first | refine blk_drewN ?_ _ | refine blk_drew ?_ | refine blk_alloc ?_ _)); exact BK261.out) hb)
                   have n6_ := Aside0.mk (blk_below (g := gb273) (o := .cells #[.int .i64 ((rd_T32 l1 x8_2).f0), .int .u64 ((rd_T32 l1 x8_2).f1)] 32 (0, 0)) (by (with_reducible repeat (first | refine blk_drewN ?_ _ | refine blk_drew ?_ | refine blk_alloc ?_ _)); exact BK273.out) hb)
                   have n7_ := Aside0.mk (blk_below (g := gb280) (o := .cells #[.slice Ao46 t281.length co46] 26 (0, 0)) (by (with_reducible repeat (first | refine blk_drewN ?_ _ | refine blk_drew ?_ | refine blk_alloc ?_ _)); exact BK280.out) hb)
                   have n8_ := Aside0.mk (below_step (by repeat (first | (with_reducible first | exact HB.out | apply below_alloc | apply pw_below_drewN | apply below_drew1 | refine below_set ?_ GE261.out | refine below_set ?_ GE273.out | refine below_set ?_ GE280.out) | exact HB.out)) hb)
                   clear HO_7
                   clear HO_262000
                   clear HO279
                   clear HO283
                   clear BK261
                   clear BK273
                   clear BK280
                   clear HB
                   have HO_7 := n0_
                   have HO_262000 := n1_
                   have HO279 := n2_
                   have HO283 := n3_
                   have HO287 := n4_
                   have BK261 := n5_
                   have BK273 := n6_
                   have BK280 := n7_
                   have HB := n8_
                   clear n0_ n1_ n2_ n3_ n4_ n5_ n6_ n7_ n8_
                   clear hb ho52
                   refine hK.out _ _ ⟨(blk_cell BK273.out 0).trans rfl, (blk_cell BK273.out 1).trans rfl⟩ (fun hHeld => ?_)
                   clear hK K
                   refine norm_ (a' := ?_) ?_ ?_
                   rotate_left
                   ·show Act.put _ (some 65) _ = _
                    simp only [Act.put, List.setIfInBounds_toArray, List.set_cons_zero, List.set_cons_succ, i64_w, i32_w]
                    rfl
                   refine two_ (i := 2) (j := 5) (Ni := some 67) (Nj := some 70) #[true, true, true, true, true, false, false, false] #[true, true, false, true, true, true, false, false] rfl rfl rfl rfl (two_of HT_.out (by kernel_rfl)) (by decide) (by decide) (fun K hK => ?_) (fun K hK => ?_)
                   ·skip
                    refine Kd.R_append_rows_step (Kd.int .u64) (w0 := w) w.heap.size (by rfl) (.tmp 65) (.tmp 66) 22 30 (.int .u64 0) 8 rfl Try.underlying22 info30 rfl (by decide) (by omega) v286 y285 x7_2 _ _ _ (fun k_ => some k_ ≠ (.slice Ao48 x7_2.length co48 : Value).ownBlock ∧ some k_ ≠ (.slice Ao30 x262000_2.length co30 : Value).ownBlock ∧ some k_ ≠ (v278 : Value).ownBlock ∧ some k_ ≠ (.slice Ao46 t281.length co46 : Value).ownBlock) (fun _ => False) rfl rfl ?aO ?aR (fun _ _ h => h) (fun _ h => h.elim) ?aF ?aB ?aS ?aL ?_
                    (case aR => repeat (first | exact (Kd.R_reads' HO_7.out).2.2 | (with_reducible refine Kd.C_alloc ?_ _) | (with_reducible refine Kd.C_drewN ?_ _) | (with_reducible refine Kd.C_drew ?_)))
                    (case aB => exact (by repeat (first | (with_reducible first | exact HB.out | apply below_alloc | apply pw_below_drewN | apply below_drew1 | refine below_set ?_ GE261.out | refine below_set ?_ GE273.out | refine below_set ?_ GE280.out) | exact HB.out)))
                    (case aF => exact (fun k_ hk => ⟨Kd.fresh' (Kd.R_lt (by (with_reducible repeat (first | apply Kd.R_alloc | apply Kd.R_drewN | apply Kd.R_drew)); exact HO_7.out)) k_ hk, Kd.fresh' (Kd.R_lt (by (with_reducible repeat (first | apply Kd.R_alloc | apply Kd.R_drewN | apply Kd.R_drew)); exact HO_262000.out)) k_ hk, Kd.fresh' (Kd.R_lt (by (with_reducible repeat (first | apply Kd.R_alloc | apply Kd.R_drewN | apply Kd.R_drew)); exact HO279.out)) k_ hk, Kd.fresh' (Kd.R_lt (by (with_reducible repeat (first | apply Kd.R_alloc | apply Kd.R_drewN | apply Kd.R_drew)); exact HO283.out)) k_ hk⟩))
                    (case aO => exact (by (with_reducible repeat (first | apply Kd.R_alloc | apply Kd.R_drewN | apply Kd.R_drew)); exact Kd.R_mono HO287.out (fun _ hk => ⟨hk.1.1.1.2, ⟨hk.1.1.2, ⟨hk.1.2, hk.2⟩⟩⟩)))
                    (case aS => exact (below_size (by repeat (first | (with_reducible first | exact HB.out | apply below_alloc | apply pw_below_drewN | apply below_drew1 | refine below_set ?_ GE261.out | refine below_set ?_ GE273.out | refine below_set ?_ GE280.out) | exact HB.out))))
                    (case aL => have := LMc36.out; omega)
                    intro v289 w53 ho hb hg hat
                    rw [← Ny288.out] at ho
                    have n0_ := Aside0.mk (Kd.R_after (ok := (fun k_ => some k_ ≠ (.slice Ao30 x262000_2.length co30 : Value).ownBlock ∧ some k_ ≠ (v278 : Value).ownBlock ∧ some k_ ≠ (.slice Ao46 t281.length co46 : Value).ownBlock)) (by (with_reducible repeat (first | apply Kd.R_alloc | apply Kd.R_drewN | apply Kd.R_drew)); exact HO_7.out) hg hat)
                    have n1_ := Aside0.mk (Kd.R_after (ok := (fun k_ => some k_ ≠ (.slice Ao48 x7_2.length co48 : Value).ownBlock ∧ some k_ ≠ (v278 : Value).ownBlock ∧ some k_ ≠ (.slice Ao46 t281.length co46 : Value).ownBlock)) (by (with_reducible repeat (first | apply Kd.R_alloc | apply Kd.R_drewN | apply Kd.R_drew)); exact HO_262000.out) hg hat)
                    have n2_ := Aside0.mk (blk_grown (g := gb261) (o := .cells #[.slice Ao30 x262000_2.length co30] 26 (0, 0)) (by (with_reducible repeat (first | refine blk_drewN ?_ _ | refine blk_drew ?_ | refine blk_alloc ?_ _)); exact BK261.out) hg (Kd.R_ne HO287.out BK261.out (by decide)))
                    have n3_ := Aside0.mk (blk_grown (g := gb273) (o := .cells #[.int .i64 ((rd_T32 l1 x8_2).f0), .int .u64 ((rd_T32 l1 x8_2).f1)] 32 (0, 0)) (by (with_reducible repeat (first | refine blk_drewN ?_ _ | refine blk_drew ?_ | refine blk_alloc ?_ _)); exact BK273.out) hg (Kd.R_ne HO287.out BK273.out (by decide)))
                    have n4_ := Aside0.mk (Kd.R_after (ok := (fun k_ => some k_ ≠ (.slice Ao48 x7_2.length co48 : Value).ownBlock ∧ some k_ ≠ (.slice Ao30 x262000_2.length co30 : Value).ownBlock ∧ some k_ ≠ (.slice Ao46 t281.length co46 : Value).ownBlock)) (by (with_reducible repeat (first | apply Kd.R_alloc | apply Kd.R_drewN | apply Kd.R_drew)); exact HO279.out) hg hat)
                    have n5_ := Aside0.mk (blk_grown (g := gb280) (o := .cells #[.slice Ao46 t281.length co46] 26 (0, 0)) (by (with_reducible repeat (first | refine blk_drewN ?_ _ | refine blk_drew ?_ | refine blk_alloc ?_ _)); exact BK280.out) hg (Kd.R_ne HO287.out BK280.out (by decide)))
                    have n6_ := Aside0.mk (Kd.R_after (ok := (fun k_ => some k_ ≠ (.slice Ao48 x7_2.length co48 : Value).ownBlock ∧ some k_ ≠ (.slice Ao30 x262000_2.length co30 : Value).ownBlock ∧ some k_ ≠ (v278 : Value).ownBlock)) (by (with_reducible repeat (first | apply Kd.R_alloc | apply Kd.R_drewN | apply Kd.R_drew)); exact HO283.out) hg hat)
                    have n7_ := Aside0.mk (hb)
                    have n8_ := Aside0.mk (ho)
                    clear HO_7
                    clear HO_262000
                    clear BK261
                    clear BK273
                    clear HO279
                    clear BK280
                    clear HO283
                    clear HB
                    clear HO287
                    have HO_7 := n0_
                    have HO_262000 := n1_
                    have BK261 := n2_
                    have BK273 := n3_
                    have HO279 := n4_
                    have BK280 := n5_
                    have HO283 := n6_
                    have HB := n7_
                    have HO290 := n8_
                    clear n0_ n1_ n2_ n3_ n4_ n5_ n6_ n7_ n8_
                    clear ho hb hg hat
                    refine hK.out _ _ ⟨(blk_cell BK273.out 0).trans rfl, (blk_cell BK273.out 1).trans rfl⟩ (fun hHeld => ?_)
                    clear hK K
                    refine norm_ (a' := ?_) ?_ ?_
                    rotate_left
                    ·show Act.put _ (some 67) _ = _
                     simp only [Act.put, List.setIfInBounds_toArray, List.set_cons_zero, List.set_cons_succ, i64_w, i32_w]
                     rfl
                    refine one_ (i := 5) (N := some 70) #[true, true, true, true, true, true, false, false] rfl rfl (one_of HT_.out (by kernel_rfl)) (by decide) (fun K hK => ?_)
                    refine Kd.R_lit_step (Kd.int .u64) _ 30 ?hg (N := 70) ?hd (xs := ([(rd_T32 l1 x8_2).f1] : List Int)) (inner := [.int .u64 ((rd_T32 l1 x8_2).f1)]) (ok := fun _ => True) (okp := fun _ => True) ?hr ?hp (fun _ hk => hk) trivial (Below.refl _ _) (Nat.le_refl _) (by simp) ?_; (case hd => rfl); (case hg => rfl); (case hr => first | (go_simp; done) | (go_simp; rfl)); (case hp => exact (Reps.one (show Kd.M (Kd.int .u64) _ _ _ ((rd_T32 l1 x8_2).f1) [.int .u64 ((rd_T32 l1 x8_2).f1)] from rfl) (Reps.none _ _)))
                    intro v292 w54 ho55 hb hg_ hnew_
                    clear hg_ hnew_
                    (first | rw [← Ny291.out] at ho55 | (simp only [Int.reduceToNat] at ho55; rw [← Ny291.out] at ho55))
                    have n0_ := Aside0.mk (Kd.R_elder' (by (with_reducible repeat (first | apply Kd.R_alloc | apply Kd.R_drewN | apply Kd.R_drew)); exact HO_7.out) (Kd.R_base ho55) hb)
                    have n1_ := Aside0.mk (Kd.R_elder' (by (with_reducible repeat (first | apply Kd.R_alloc | apply Kd.R_drewN | apply Kd.R_drew)); exact HO_262000.out) (Kd.R_base ho55) hb)
                    have n2_ := Aside0.mk (Kd.R_elder' (by (with_reducible repeat (first | apply Kd.R_alloc | apply Kd.R_drewN | apply Kd.R_drew)); exact HO279.out) (Kd.R_base ho55) hb)
                    have n3_ := Aside0.mk (Kd.R_elder' (by (with_reducible repeat (first | apply Kd.R_alloc | apply Kd.R_drewN | apply Kd.R_drew)); exact HO283.out) (Kd.R_base ho55) hb)
                    have n4_ := Aside0.mk (Kd.R_elder' (by (with_reducible repeat (first | apply Kd.R_alloc | apply Kd.R_drewN | apply Kd.R_drew)); exact HO290.out) (Kd.R_base ho55) hb)
                    have n5_ := Aside0.mk (Kd.R_lower (Kd.R_new' (Kd.R_new' (Kd.R_new' (Kd.R_new' (Kd.R_new' ho55 (Kd.R_lt (by (with_reducible repeat (first | apply Kd.R_alloc | apply Kd.R_drewN | apply Kd.R_drew)); exact HO_7.out))) (Kd.R_lt (by (with_reducible repeat (first | apply Kd.R_alloc | apply Kd.R_drewN | apply Kd.R_drew)); exact HO_262000.out))) (Kd.R_lt (by (with_reducible repeat (first | apply Kd.R_alloc | apply Kd.R_drewN | apply Kd.R_drew)); exact HO279.out))) (Kd.R_lt (by (with_reducible repeat (first | apply Kd.R_alloc | apply Kd.R_drewN | apply Kd.R_drew)); exact HO283.out))) (Kd.R_lt (by (with_reducible repeat (first | apply Kd.R_alloc | apply Kd.R_drewN | apply Kd.R_drew)); exact HO290.out))) (below_size (by repeat (first | (with_reducible first | exact HB.out | apply below_alloc | apply pw_below_drewN | apply below_drew1 | refine below_set ?_ GE261.out | refine below_set ?_ GE273.out | refine below_set ?_ GE280.out) | exact HB.out))))
                    have n6_ := Aside0.mk (blk_below (g := gb261) (o := .cells #[.slice Ao30 x262000_2.length co30] 26 (0, 0)) (by (with_reducible repeat (first | refine blk_drewN ?_ _ | refine blk_drew ?_ | refine blk_alloc ?_ _)); exact BK261.out) hb)
                    have n7_ := Aside0.mk (blk_below (g := gb273) (o := .cells #[.int .i64 ((rd_T32 l1 x8_2).f0), .int .u64 ((rd_T32 l1 x8_2).f1)] 32 (0, 0)) (by (with_reducible repeat (first | refine blk_drewN ?_ _ | refine blk_drew ?_ | refine blk_alloc ?_ _)); exact BK273.out) hb)
                    have n8_ := Aside0.mk (blk_below (g := gb280) (o := .cells #[.slice Ao46 t281.length co46] 26 (0, 0)) (by (with_reducible repeat (first | refine blk_drewN ?_ _ | refine blk_drew ?_ | refine blk_alloc ?_ _)); exact BK280.out) hb)
                    have n9_ := Aside0.mk (below_step (by repeat (first | (with_reducible first | exact HB.out | apply below_alloc | apply pw_below_drewN | apply below_drew1 | refine below_set ?_ GE261.out | refine below_set ?_ GE273.out | refine below_set ?_ GE280.out) | exact HB.out)) hb)
                    clear HO_7
                    clear HO_262000
                    clear HO279
                    clear HO283
                    clear HO290
                    clear BK261
                    clear BK273
                    clear BK280
                    clear HB
                    have HO_7 := n0_
                    have HO_262000 := n1_
                    have HO279 := n2_
                    have HO283 := n3_
                    have HO290 := n4_
                    have HO293 := n5_
                    have BK261 := n6_
                    have BK273 := n7_
                    have BK280 := n8_
                    have HB := n9_
                    clear n0_ n1_ n2_ n3_ n4_ n5_ n6_ n7_ n8_ n9_
                    clear hb ho55
                    refine hK.out _ _ ⟨(blk_cell BK273.out 0).trans rfl, (blk_cell BK273.out 1).trans rfl⟩ (fun hHeld => ?_)
                    clear hK K
                    refine norm_ (a' := ?_) ?_ ?_
                    rotate_left
                    ·show Act.put _ (some 70) _ = _
                     simp only [Act.put, List.setIfInBounds_toArray, List.set_cons_zero, List.set_cons_succ, i64_w, i32_w]
                     rfl
                    exact norm_ (by simp only [putAll, Act.put, List.setIfInBounds_toArray, List.set_cons_zero, List.set_cons_succ]) (hCont (v286, v289, v292) _ ⟨hHeld, (by (with_reducible repeat (first | apply Kd.R_alloc | apply Kd.R_drewN | apply Kd.R_drew)); exact Kd.R_mono HO279.out (fun _ hk => ⟨hk.1.1.2.2, ⟨hk.1.2, ⟨hk.2, ⟨hk.1.1.2.1, hk.1.1.1⟩⟩⟩⟩)), (by (with_reducible repeat (first | apply Kd.R_alloc | apply Kd.R_drewN | apply Kd.R_drew)); exact Kd.R_mono HO283.out (fun _ hk => ⟨hk.1.1.2.2, ⟨hk.1.2, ⟨hk.2, ⟨hk.1.1.2.1, hk.1.1.1⟩⟩⟩⟩)), (by (with_reducible repeat (first | apply Kd.R_alloc | apply Kd.R_drewN | apply Kd.R_drew)); exact Kd.R_mono HO290.out (fun _ hk => ⟨hk.1.2.2.1, ⟨hk.1.2.2.2, ⟨hk.2, ⟨hk.1.2.1, hk.1.1⟩⟩⟩⟩)), (by (with_reducible repeat (first | apply Kd.R_alloc | apply Kd.R_drewN | apply Kd.R_drew)); exact Kd.R_mono HO293.out (fun _ hk => ⟨hk.1.1.2, ⟨hk.1.2, ⟨hk.2, ⟨hk.1.1.1.2, hk.1.1.1.1.2⟩⟩⟩⟩)), (by (with_reducible repeat (first | apply Kd.R_alloc | apply Kd.R_drewN | apply Kd.R_drew)); exact Kd.R_mono HO_262000.out (fun _ hk => ⟨hk.1.1.2.1, ⟨hk.1.1.2.2, ⟨hk.1.2, ⟨hk.2, hk.1.1.1⟩⟩⟩⟩)), (by (with_reducible repeat (first | apply Kd.R_alloc | apply Kd.R_drewN | apply Kd.R_drew)); exact Kd.R_mono HO_7.out (fun _ hk => ⟨hk.1.1.2.1, ⟨hk.1.1.2.2, ⟨hk.1.2, ⟨hk.2, hk.1.1.1⟩⟩⟩⟩)), (by (with_reducible repeat (first | refine blk_drewN ?_ _ | refine blk_drew ?_ | refine blk_alloc ?_ _)); exact BK261.out), (by (with_reducible repeat (first | refine blk_drewN ?_ _ | refine blk_drew ?_ | refine blk_alloc ?_ _)); exact BK273.out), (by (with_reducible repeat (first | refine blk_drewN ?_ _ | refine blk_drew ?_ | refine blk_alloc ?_ _)); exact BK280.out), (by repeat (first | (with_reducible first | exact HB.out | apply below_alloc | apply pw_below_drewN | apply below_drew1 | refine below_set ?_ GE261.out | refine below_set ?_ GE273.out | refine below_set ?_ GE280.out) | exact HB.out))⟩)
                   ·skip
                    refine Kd.R_lit_step (Kd.int .u64) _ 30 ?hg (N := 70) ?hd (xs := ([(rd_T32 l1 x8_2).f1] : List Int)) (inner := [.int .u64 ((rd_T32 l1 x8_2).f1)]) (ok := fun _ => True) (okp := fun _ => True) ?hr ?hp (fun _ hk => hk) trivial (Below.refl _ _) (Nat.le_refl _) (by simp) ?_; (case hd => rfl); (case hg => rfl); (case hr => first | (go_simp; done) | (go_simp; rfl)); (case hp => exact (Reps.one (show Kd.M (Kd.int .u64) _ _ _ ((rd_T32 l1 x8_2).f1) [.int .u64 ((rd_T32 l1 x8_2).f1)] from rfl) (Reps.none _ _)))
                    intro v292 w53 ho54 hb hg_ hnew_
                    clear hg_ hnew_
                    (first | rw [← Ny291.out] at ho54 | (simp only [Int.reduceToNat] at ho54; rw [← Ny291.out] at ho54))
                    have n0_ := Aside0.mk (Kd.R_elder' (by (with_reducible repeat (first | apply Kd.R_alloc | apply Kd.R_drewN | apply Kd.R_drew)); exact HO_7.out) (Kd.R_base ho54) hb)
                    have n1_ := Aside0.mk (Kd.R_elder' (by (with_reducible repeat (first | apply Kd.R_alloc | apply Kd.R_drewN | apply Kd.R_drew)); exact HO_262000.out) (Kd.R_base ho54) hb)
                    have n2_ := Aside0.mk (Kd.R_elder' (by (with_reducible repeat (first | apply Kd.R_alloc | apply Kd.R_drewN | apply Kd.R_drew)); exact HO279.out) (Kd.R_base ho54) hb)
                    have n3_ := Aside0.mk (Kd.R_elder' (by (with_reducible repeat (first | apply Kd.R_alloc | apply Kd.R_drewN | apply Kd.R_drew)); exact HO283.out) (Kd.R_base ho54) hb)
                    have n4_ := Aside0.mk (Kd.R_elder' (by (with_reducible repeat (first | apply Kd.R_alloc | apply Kd.R_drewN | apply Kd.R_drew)); exact HO287.out) (Kd.R_base ho54) hb)
                    have n5_ := Aside0.mk (Kd.R_lower (Kd.R_new' (Kd.R_new' (Kd.R_new' (Kd.R_new' (Kd.R_new' ho54 (Kd.R_lt (by (with_reducible repeat (first | apply Kd.R_alloc | apply Kd.R_drewN | apply Kd.R_drew)); exact HO_7.out))) (Kd.R_lt (by (with_reducible repeat (first | apply Kd.R_alloc | apply Kd.R_drewN | apply Kd.R_drew)); exact HO_262000.out))) (Kd.R_lt (by (with_reducible repeat (first | apply Kd.R_alloc | apply Kd.R_drewN | apply Kd.R_drew)); exact HO279.out))) (Kd.R_lt (by (with_reducible repeat (first | apply Kd.R_alloc | apply Kd.R_drewN | apply Kd.R_drew)); exact HO283.out))) (Kd.R_lt (by (with_reducible repeat (first | apply Kd.R_alloc | apply Kd.R_drewN | apply Kd.R_drew)); exact HO287.out))) (below_size (by repeat (first | (with_reducible first | exact HB.out | apply below_alloc | apply pw_below_drewN | apply below_drew1 | refine below_set ?_ GE261.out | refine below_set ?_ GE273.out | refine below_set ?_ GE280.out) | exact HB.out))))
                    have n6_ := Aside0.mk (blk_below (g := gb261) (o := .cells #[.slice Ao30 x262000_2.length co30] 26 (0, 0)) (by (with_reducible repeat (first | refine blk_drewN ?_ _ | refine blk_drew ?_ | refine blk_alloc ?_ _)); exact BK261.out) hb)
                    have n7_ := Aside0.mk (blk_below (g := gb273) (o := .cells #[.int .i64 ((rd_T32 l1 x8_2).f0), .int .u64 ((rd_T32 l1 x8_2).f1)] 32 (0, 0)) (by (with_reducible repeat (first | refine blk_drewN ?_ _ | refine blk_drew ?_ | refine blk_alloc ?_ _)); exact BK273.out) hb)
                    have n8_ := Aside0.mk (blk_below (g := gb280) (o := .cells #[.slice Ao46 t281.length co46] 26 (0, 0)) (by (with_reducible repeat (first | refine blk_drewN ?_ _ | refine blk_drew ?_ | refine blk_alloc ?_ _)); exact BK280.out) hb)
                    have n9_ := Aside0.mk (below_step (by repeat (first | (with_reducible first | exact HB.out | apply below_alloc | apply pw_below_drewN | apply below_drew1 | refine below_set ?_ GE261.out | refine below_set ?_ GE273.out | refine below_set ?_ GE280.out) | exact HB.out)) hb)
                    clear HO_7
                    clear HO_262000
                    clear HO279
                    clear HO283
                    clear HO287
                    clear BK261
                    clear BK273
                    clear BK280
                    clear HB
                    have HO_7 := n0_
                    have HO_262000 := n1_
                    have HO279 := n2_
                    have HO283 := n3_
                    have HO287 := n4_
                    have HO293 := n5_
                    have BK261 := n6_
                    have BK273 := n7_
                    have BK280 := n8_
                    have HB := n9_
                    clear n0_ n1_ n2_ n3_ n4_ n5_ n6_ n7_ n8_ n9_
                    clear hb ho54
                    refine hK.out _ _ ⟨(blk_cell BK273.out 0).trans rfl, (blk_cell BK273.out 1).trans rfl⟩ (fun hHeld => ?_)
                    clear hK K
                    refine norm_ (a' := ?_) ?_ ?_
                    rotate_left
                    ·show Act.put _ (some 70) _ = _
                     simp only [Act.put, List.setIfInBounds_toArray, List.set_cons_zero, List.set_cons_succ, i64_w, i32_w]
                     rfl
                    refine one_ (i := 2) (N := some 67) #[true, true, true, true, true, true, false, false] rfl rfl (one_of HT_.out (by kernel_rfl)) (by decide) (fun K hK => ?_)
                    refine Kd.R_append_rows_step (Kd.int .u64) (w0 := w) w.heap.size (by rfl) (.tmp 65) (.tmp 66) 22 30 (.int .u64 0) 8 rfl Try.underlying22 info30 rfl (by decide) (by omega) v286 y285 x7_2 _ _ _ (fun k_ => some k_ ≠ (.slice Ao48 x7_2.length co48 : Value).ownBlock ∧ some k_ ≠ (.slice Ao30 x262000_2.length co30 : Value).ownBlock ∧ some k_ ≠ (v278 : Value).ownBlock ∧ some k_ ≠ (.slice Ao46 t281.length co46 : Value).ownBlock ∧ some k_ ≠ (v292 : Value).ownBlock) (fun _ => False) rfl rfl ?aO ?aR (fun _ _ h => h) (fun _ h => h.elim) ?aF ?aB ?aS ?aL ?_
                    (case aR => repeat (first | exact (Kd.R_reads' HO_7.out).2.2 | (with_reducible refine Kd.C_alloc ?_ _) | (with_reducible refine Kd.C_drewN ?_ _) | (with_reducible refine Kd.C_drew ?_)))
                    (case aB => exact (by repeat (first | (with_reducible first | exact HB.out | apply below_alloc | apply pw_below_drewN | apply below_drew1 | refine below_set ?_ GE261.out | refine below_set ?_ GE273.out | refine below_set ?_ GE280.out) | exact HB.out)))
                    (case aF => exact (fun k_ hk => ⟨Kd.fresh' (Kd.R_lt (by (with_reducible repeat (first | apply Kd.R_alloc | apply Kd.R_drewN | apply Kd.R_drew)); exact HO_7.out)) k_ hk, Kd.fresh' (Kd.R_lt (by (with_reducible repeat (first | apply Kd.R_alloc | apply Kd.R_drewN | apply Kd.R_drew)); exact HO_262000.out)) k_ hk, Kd.fresh' (Kd.R_lt (by (with_reducible repeat (first | apply Kd.R_alloc | apply Kd.R_drewN | apply Kd.R_drew)); exact HO279.out)) k_ hk, Kd.fresh' (Kd.R_lt (by (with_reducible repeat (first | apply Kd.R_alloc | apply Kd.R_drewN | apply Kd.R_drew)); exact HO283.out)) k_ hk, Kd.fresh' (Kd.R_lt (by (with_reducible repeat (first | apply Kd.R_alloc | apply Kd.R_drewN | apply Kd.R_drew)); exact HO293.out)) k_ hk⟩))
                    (case aO => exact (by (with_reducible repeat (first | apply Kd.R_alloc | apply Kd.R_drewN | apply Kd.R_drew)); exact Kd.R_mono HO287.out (fun _ hk => ⟨hk.1.1.1.1.2, ⟨hk.1.1.1.2, ⟨hk.1.1.2, ⟨hk.1.2, hk.2⟩⟩⟩⟩)))
                    (case aS => exact (below_size (by repeat (first | (with_reducible first | exact HB.out | apply below_alloc | apply pw_below_drewN | apply below_drew1 | refine below_set ?_ GE261.out | refine below_set ?_ GE273.out | refine below_set ?_ GE280.out) | exact HB.out))))
                    (case aL => have := LMc36.out; omega)
                    intro v289 w55 ho hb hg hat
                    rw [← Ny288.out] at ho
                    have n0_ := Aside0.mk (Kd.R_after (ok := (fun k_ => some k_ ≠ (.slice Ao30 x262000_2.length co30 : Value).ownBlock ∧ some k_ ≠ (v278 : Value).ownBlock ∧ some k_ ≠ (.slice Ao46 t281.length co46 : Value).ownBlock ∧ some k_ ≠ (v292 : Value).ownBlock)) (by (with_reducible repeat (first | apply Kd.R_alloc | apply Kd.R_drewN | apply Kd.R_drew)); exact Kd.R_mono HO_7.out (fun _ hk => ⟨⟨hk.1.1.1, ⟨hk.1.1.2.1, ⟨hk.1.1.2.2, hk.2⟩⟩⟩, hk.1.2⟩)) hg hat)
                    have n1_ := Aside0.mk (Kd.R_after (ok := (fun k_ => some k_ ≠ (.slice Ao48 x7_2.length co48 : Value).ownBlock ∧ some k_ ≠ (v278 : Value).ownBlock ∧ some k_ ≠ (.slice Ao46 t281.length co46 : Value).ownBlock ∧ some k_ ≠ (v292 : Value).ownBlock)) (by (with_reducible repeat (first | apply Kd.R_alloc | apply Kd.R_drewN | apply Kd.R_drew)); exact Kd.R_mono HO_262000.out (fun _ hk => ⟨⟨hk.1.1.1, ⟨hk.1.1.2.1, ⟨hk.1.1.2.2, hk.2⟩⟩⟩, hk.1.2⟩)) hg hat)
                    have n2_ := Aside0.mk (blk_grown (g := gb261) (o := .cells #[.slice Ao30 x262000_2.length co30] 26 (0, 0)) (by (with_reducible repeat (first | refine blk_drewN ?_ _ | refine blk_drew ?_ | refine blk_alloc ?_ _)); exact BK261.out) hg (Kd.R_ne HO287.out BK261.out (by decide)))
                    have n3_ := Aside0.mk (blk_grown (g := gb273) (o := .cells #[.int .i64 ((rd_T32 l1 x8_2).f0), .int .u64 ((rd_T32 l1 x8_2).f1)] 32 (0, 0)) (by (with_reducible repeat (first | refine blk_drewN ?_ _ | refine blk_drew ?_ | refine blk_alloc ?_ _)); exact BK273.out) hg (Kd.R_ne HO287.out BK273.out (by decide)))
                    have n4_ := Aside0.mk (Kd.R_after (ok := (fun k_ => some k_ ≠ (.slice Ao48 x7_2.length co48 : Value).ownBlock ∧ some k_ ≠ (.slice Ao30 x262000_2.length co30 : Value).ownBlock ∧ some k_ ≠ (.slice Ao46 t281.length co46 : Value).ownBlock ∧ some k_ ≠ (v292 : Value).ownBlock)) (by (with_reducible repeat (first | apply Kd.R_alloc | apply Kd.R_drewN | apply Kd.R_drew)); exact Kd.R_mono HO279.out (fun _ hk => ⟨⟨hk.1.1.1, ⟨hk.1.1.2.1, ⟨hk.1.1.2.2, hk.2⟩⟩⟩, hk.1.2⟩)) hg hat)
                    have n5_ := Aside0.mk (blk_grown (g := gb280) (o := .cells #[.slice Ao46 t281.length co46] 26 (0, 0)) (by (with_reducible repeat (first | refine blk_drewN ?_ _ | refine blk_drew ?_ | refine blk_alloc ?_ _)); exact BK280.out) hg (Kd.R_ne HO287.out BK280.out (by decide)))
                    have n6_ := Aside0.mk (Kd.R_after (ok := (fun k_ => some k_ ≠ (.slice Ao48 x7_2.length co48 : Value).ownBlock ∧ some k_ ≠ (.slice Ao30 x262000_2.length co30 : Value).ownBlock ∧ some k_ ≠ (v278 : Value).ownBlock ∧ some k_ ≠ (v292 : Value).ownBlock)) (by (with_reducible repeat (first | apply Kd.R_alloc | apply Kd.R_drewN | apply Kd.R_drew)); exact Kd.R_mono HO283.out (fun _ hk => ⟨⟨hk.1.1.1, ⟨hk.1.1.2.1, ⟨hk.1.1.2.2, hk.2⟩⟩⟩, hk.1.2⟩)) hg hat)
                    have n7_ := Aside0.mk (Kd.R_after (ok := (fun k_ => some k_ ≠ (.slice Ao48 x7_2.length co48 : Value).ownBlock ∧ some k_ ≠ (.slice Ao30 x262000_2.length co30 : Value).ownBlock ∧ some k_ ≠ (v278 : Value).ownBlock ∧ some k_ ≠ (.slice Ao46 t281.length co46 : Value).ownBlock)) (by (with_reducible repeat (first | apply Kd.R_alloc | apply Kd.R_drewN | apply Kd.R_drew)); exact Kd.R_mono HO293.out (fun _ hk => ⟨⟨hk.1.1.1.1.2, ⟨hk.1.1.1.2, ⟨hk.1.1.2, hk.1.2⟩⟩⟩, hk.2⟩)) hg hat)
                    have n8_ := Aside0.mk (hb)
                    have n9_ := Aside0.mk (ho)
                    clear HO_7
                    clear HO_262000
                    clear BK261
                    clear BK273
                    clear HO279
                    clear BK280
                    clear HO283
                    clear HO293
                    clear HB
                    clear HO287
                    have HO_7 := n0_
                    have HO_262000 := n1_
                    have BK261 := n2_
                    have BK273 := n3_
                    have HO279 := n4_
                    have BK280 := n5_
                    have HO283 := n6_
                    have HO293 := n7_
                    have HB := n8_
                    have HO290 := n9_
                    clear n0_ n1_ n2_ n3_ n4_ n5_ n6_ n7_ n8_ n9_
                    clear ho hb hg hat
                    refine hK.out _ _ ⟨(blk_cell BK273.out 0).trans rfl, (blk_cell BK273.out 1).trans rfl⟩ (fun hHeld => ?_)
                    clear hK K
                    refine norm_ (a' := ?_) ?_ ?_
                    rotate_left
                    ·show Act.put _ (some 67) _ = _
                     simp only [Act.put, List.setIfInBounds_toArray, List.set_cons_zero, List.set_cons_succ, i64_w, i32_w]
                     rfl
                    exact norm_ (by simp only [putAll, Act.put, List.setIfInBounds_toArray, List.set_cons_zero, List.set_cons_succ]) (hCont (v286, v289, v292) _ ⟨hHeld, (by (with_reducible repeat (first | apply Kd.R_alloc | apply Kd.R_drewN | apply Kd.R_drew)); exact Kd.R_mono HO279.out (fun _ hk => ⟨hk.1.2.2.1, ⟨hk.2, ⟨hk.1.2.2.2, ⟨hk.1.2.1, hk.1.1⟩⟩⟩⟩)), (by (with_reducible repeat (first | apply Kd.R_alloc | apply Kd.R_drewN | apply Kd.R_drew)); exact Kd.R_mono HO283.out (fun _ hk => ⟨hk.1.2.2.1, ⟨hk.2, ⟨hk.1.2.2.2, ⟨hk.1.2.1, hk.1.1⟩⟩⟩⟩)), (by (with_reducible repeat (first | apply Kd.R_alloc | apply Kd.R_drewN | apply Kd.R_drew)); exact Kd.R_mono HO290.out (fun _ hk => ⟨hk.2.2.1, ⟨hk.2.2.2.1, ⟨hk.2.2.2.2, ⟨hk.2.1, hk.1⟩⟩⟩⟩)), (by (with_reducible repeat (first | apply Kd.R_alloc | apply Kd.R_drewN | apply Kd.R_drew)); exact Kd.R_mono HO293.out (fun _ hk => ⟨hk.1.2.2.1, ⟨hk.1.2.2.2, ⟨hk.2, ⟨hk.1.2.1, hk.1.1⟩⟩⟩⟩)), (by (with_reducible repeat (first | apply Kd.R_alloc | apply Kd.R_drewN | apply Kd.R_drew)); exact Kd.R_mono HO_262000.out (fun _ hk => ⟨hk.1.2.1, ⟨hk.1.2.2.1, ⟨hk.2, ⟨hk.1.2.2.2, hk.1.1⟩⟩⟩⟩)), (by (with_reducible repeat (first | apply Kd.R_alloc | apply Kd.R_drewN | apply Kd.R_drew)); exact Kd.R_mono HO_7.out (fun _ hk => ⟨hk.1.2.1, ⟨hk.1.2.2.1, ⟨hk.2, ⟨hk.1.2.2.2, hk.1.1⟩⟩⟩⟩)), (by (with_reducible repeat (first | refine blk_drewN ?_ _ | refine blk_drew ?_ | refine blk_alloc ?_ _)); exact BK261.out), (by (with_reducible repeat (first | refine blk_drewN ?_ _ | refine blk_drew ?_ | refine blk_alloc ?_ _)); exact BK273.out), (by (with_reducible repeat (first | refine blk_drewN ?_ _ | refine blk_drew ?_ | refine blk_alloc ?_ _)); exact BK280.out), (by repeat (first | (with_reducible first | exact HB.out | apply below_alloc | apply pw_below_drewN | apply below_drew1 | refine below_set ?_ GE261.out | refine below_set ?_ GE273.out | refine below_set ?_ GE280.out) | exact HB.out))⟩)
                  ·skip
                   refine Kd.R_lit_step (Kd.int .u64) _ 30 ?hg (N := 70) ?hd (xs := ([(rd_T32 l1 x8_2).f1] : List Int)) (inner := [.int .u64 ((rd_T32 l1 x8_2).f1)]) (ok := fun _ => True) (okp := fun _ => True) ?hr ?hp (fun _ hk => hk) trivial (Below.refl _ _) (Nat.le_refl _) (by simp) ?_; (case hd => rfl); (case hg => rfl); (case hr => first | (go_simp; done) | (go_simp; rfl)); (case hp => exact (Reps.one (show Kd.M (Kd.int .u64) _ _ _ ((rd_T32 l1 x8_2).f1) [.int .u64 ((rd_T32 l1 x8_2).f1)] from rfl) (Reps.none _ _)))
                   intro v292 w51 ho52 hb hg_ hnew_
                   clear hg_ hnew_
                   (first | rw [← Ny291.out] at ho52 | (simp only [Int.reduceToNat] at ho52; rw [← Ny291.out] at ho52))
                   have n0_ := Aside0.mk (Kd.R_elder' (by (with_reducible repeat (first | apply Kd.R_alloc | apply Kd.R_drewN | apply Kd.R_drew)); exact HO_7.out) (Kd.R_base ho52) hb)
                   have n1_ := Aside0.mk (Kd.R_elder' (by (with_reducible repeat (first | apply Kd.R_alloc | apply Kd.R_drewN | apply Kd.R_drew)); exact HO_262000.out) (Kd.R_base ho52) hb)
                   have n2_ := Aside0.mk (Kd.R_elder' (by (with_reducible repeat (first | apply Kd.R_alloc | apply Kd.R_drewN | apply Kd.R_drew)); exact HO279.out) (Kd.R_base ho52) hb)
                   have n3_ := Aside0.mk (Kd.R_elder' (by (with_reducible repeat (first | apply Kd.R_alloc | apply Kd.R_drewN | apply Kd.R_drew)); exact HO283.out) (Kd.R_base ho52) hb)
                   have n4_ := Aside0.mk (Kd.R_lower (Kd.R_new' (Kd.R_new' (Kd.R_new' (Kd.R_new' ho52 (Kd.R_lt (by (with_reducible repeat (first | apply Kd.R_alloc | apply Kd.R_drewN | apply Kd.R_drew)); exact HO_7.out))) (Kd.R_lt (by (with_reducible repeat (first | apply Kd.R_alloc | apply Kd.R_drewN | apply Kd.R_drew)); exact HO_262000.out))) (Kd.R_lt (by (with_reducible repeat (first | apply Kd.R_alloc | apply Kd.R_drewN | apply Kd.R_drew)); exact HO279.out))) (Kd.R_lt (by (with_reducible repeat (first | apply Kd.R_alloc | apply Kd.R_drewN | apply Kd.R_drew)); exact HO283.out))) (below_size (by repeat (first | (with_reducible first | exact HB.out | apply below_alloc | apply pw_below_drewN | apply below_drew1 | refine below_set ?_ GE261.out | refine below_set ?_ GE273.out | refine below_set ?_ GE280.out) | exact HB.out))))
                   have n5_ := Aside0.mk (blk_below (g := gb261) (o := .cells #[.slice Ao30 x262000_2.length co30] 26 (0, 0)) (by (with_reducible repeat (first | refine blk_drewN ?_ _ | refine blk_drew ?_ | refine blk_alloc ?_ _)); exact BK261.out) hb)
                   have n6_ := Aside0.mk (blk_below (g := gb273) (o := .cells #[.int .i64 ((rd_T32 l1 x8_2).f0), .int .u64 ((rd_T32 l1 x8_2).f1)] 32 (0, 0)) (by (with_reducible repeat (first | refine blk_drewN ?_ _ | refine blk_drew ?_ | refine blk_alloc ?_ _)); exact BK273.out) hb)
                   have n7_ := Aside0.mk (blk_below (g := gb280) (o := .cells #[.slice Ao46 t281.length co46] 26 (0, 0)) (by (with_reducible repeat (first | refine blk_drewN ?_ _ | refine blk_drew ?_ | refine blk_alloc ?_ _)); exact BK280.out) hb)
                   have n8_ := Aside0.mk (below_step (by repeat (first | (with_reducible first | exact HB.out | apply below_alloc | apply pw_below_drewN | apply below_drew1 | refine below_set ?_ GE261.out | refine below_set ?_ GE273.out | refine below_set ?_ GE280.out) | exact HB.out)) hb)
                   clear HO_7
                   clear HO_262000
                   clear HO279
                   clear HO283
                   clear BK261
                   clear BK273
                   clear BK280
                   clear HB
                   have HO_7 := n0_
                   have HO_262000 := n1_
                   have HO279 := n2_
                   have HO283 := n3_
                   have HO293 := n4_
                   have BK261 := n5_
                   have BK273 := n6_
                   have BK280 := n7_
                   have HB := n8_
                   clear n0_ n1_ n2_ n3_ n4_ n5_ n6_ n7_ n8_
                   clear hb ho52
                   refine hK.out _ _ ⟨(blk_cell BK273.out 0).trans rfl, (blk_cell BK273.out 1).trans rfl⟩ (fun hHeld => ?_)
                   clear hK K
                   refine norm_ (a' := ?_) ?_ ?_
                   rotate_left
                   ·show Act.put _ (some 70) _ = _
                    simp only [Act.put, List.setIfInBounds_toArray, List.set_cons_zero, List.set_cons_succ, i64_w, i32_w]
                    rfl
                   refine one_ (i := 0) (N := some 65) #[true, true, false, true, true, true, false, false] rfl rfl (one_of HT_.out (by kernel_rfl)) (by decide) (fun K hK => ?_)
                   refine Kd.R_lit_step (Kd.int .u64) _ 30 ?hg (N := 65) ?hd (xs := ([] : List Int)) (inner := []) (ok := fun _ => True) (okp := fun _ => True) ?hr ?hp (fun _ hk => hk) trivial (Below.refl _ _) (Nat.le_refl _) (by simp) ?_; (case hd => rfl); (case hg => rfl); (case hr => first | (go_simp; done) | (go_simp; rfl)); (case hp => exact (Reps.none _ _))
                   intro v286 w53 ho54 hb hg_ hnew_
                   clear hg_ hnew_
                   (first | rw [← Ny285.out] at ho54 | (simp only [Int.reduceToNat] at ho54; rw [← Ny285.out] at ho54))
                   have n0_ := Aside0.mk (Kd.R_elder' (by (with_reducible repeat (first | apply Kd.R_alloc | apply Kd.R_drewN | apply Kd.R_drew)); exact HO_7.out) (Kd.R_base ho54) hb)
                   have n1_ := Aside0.mk (Kd.R_elder' (by (with_reducible repeat (first | apply Kd.R_alloc | apply Kd.R_drewN | apply Kd.R_drew)); exact HO_262000.out) (Kd.R_base ho54) hb)
                   have n2_ := Aside0.mk (Kd.R_elder' (by (with_reducible repeat (first | apply Kd.R_alloc | apply Kd.R_drewN | apply Kd.R_drew)); exact HO279.out) (Kd.R_base ho54) hb)
                   have n3_ := Aside0.mk (Kd.R_elder' (by (with_reducible repeat (first | apply Kd.R_alloc | apply Kd.R_drewN | apply Kd.R_drew)); exact HO283.out) (Kd.R_base ho54) hb)
                   have n4_ := Aside0.mk (Kd.R_elder' (by (with_reducible repeat (first | apply Kd.R_alloc | apply Kd.R_drewN | apply Kd.R_drew)); exact HO293.out) (Kd.R_base ho54) hb)
                   have n5_ := Aside0.mk (Kd.R_lower (Kd.R_new' (Kd.R_new' (Kd.R_new' (Kd.R_new' (Kd.R_new' ho54 (Kd.R_lt (by (with_reducible repeat (first | apply Kd.R_alloc | apply Kd.R_drewN | apply Kd.R_drew)); exact HO_7.out))) (Kd.R_lt (by (with_reducible repeat (first | apply Kd.R_alloc | apply Kd.R_drewN | apply Kd.R_drew)); exact HO_262000.out))) (Kd.R_lt (by (with_reducible repeat (first | apply Kd.R_alloc | apply Kd.R_drewN | apply Kd.R_drew)); exact HO279.out))) (Kd.R_lt (by (with_reducible repeat (first | apply Kd.R_alloc | apply Kd.R_drewN | apply Kd.R_drew)); exact HO283.out))) (Kd.R_lt (by (with_reducible repeat (first | apply Kd.R_alloc | apply Kd.R_drewN | apply Kd.R_drew)); exact HO293.out))) (below_size (by repeat (first | (with_reducible first | exact HB.out | apply below_alloc | apply pw_below_drewN | apply below_drew1 | refine below_set ?_ GE261.out | refine below_set ?_ GE273.out | refine below_set ?_ GE280.out) | exact HB.out))))
                   have n6_ := Aside0.mk (blk_below (g := gb261) (o := .cells #[.slice Ao30 x262000_2.length co30] 26 (0, 0)) (by (with_reducible repeat (first | refine blk_drewN ?_ _ | refine blk_drew ?_ | refine blk_alloc ?_ _)); exact BK261.out) hb)
                   have n7_ := Aside0.mk (blk_below (g := gb273) (o := .cells #[.int .i64 ((rd_T32 l1 x8_2).f0), .int .u64 ((rd_T32 l1 x8_2).f1)] 32 (0, 0)) (by (with_reducible repeat (first | refine blk_drewN ?_ _ | refine blk_drew ?_ | refine blk_alloc ?_ _)); exact BK273.out) hb)
                   have n8_ := Aside0.mk (blk_below (g := gb280) (o := .cells #[.slice Ao46 t281.length co46] 26 (0, 0)) (by (with_reducible repeat (first | refine blk_drewN ?_ _ | refine blk_drew ?_ | refine blk_alloc ?_ _)); exact BK280.out) hb)
                   have n9_ := Aside0.mk (below_step (by repeat (first | (with_reducible first | exact HB.out | apply below_alloc | apply pw_below_drewN | apply below_drew1 | refine below_set ?_ GE261.out | refine below_set ?_ GE273.out | refine below_set ?_ GE280.out) | exact HB.out)) hb)
                   clear HO_7
                   clear HO_262000
                   clear HO279
                   clear HO283
                   clear HO293
                   clear BK261
                   clear BK273
                   clear BK280
                   clear HB
                   have HO_7 := n0_
                   have HO_262000 := n1_
                   have HO279 := n2_
                   have HO283 := n3_
                   have HO293 := n4_
                   have HO287 := n5_
                   have BK261 := n6_
                   have BK273 := n7_
                   have BK280 := n8_
                   have HB := n9_
                   clear n0_ n1_ n2_ n3_ n4_ n5_ n6_ n7_ n8_ n9_
                   clear hb ho54
                   refine hK.out _ _ ⟨(blk_cell BK273.out 0).trans rfl, (blk_cell BK273.out 1).trans rfl⟩ (fun hHeld => ?_)
                   clear hK K
                   refine norm_ (a' := ?_) ?_ ?_
                   rotate_left
                   ·show Act.put _ (some 65) _ = _
                    simp only [Act.put, List.setIfInBounds_toArray, List.set_cons_zero, List.set_cons_succ, i64_w, i32_w]
                    rfl
                   refine one_ (i := 2) (N := some 67) #[true, true, true, true, true, true, false, false] rfl rfl (one_of HT_.out (by kernel_rfl)) (by decide) (fun K hK => ?_)
                   refine Kd.R_append_rows_step (Kd.int .u64) (w0 := w) w.heap.size (by rfl) (.tmp 65) (.tmp 66) 22 30 (.int .u64 0) 8 rfl Try.underlying22 info30 rfl (by decide) (by omega) v286 y285 x7_2 _ _ _ (fun k_ => some k_ ≠ (.slice Ao48 x7_2.length co48 : Value).ownBlock ∧ some k_ ≠ (.slice Ao30 x262000_2.length co30 : Value).ownBlock ∧ some k_ ≠ (v278 : Value).ownBlock ∧ some k_ ≠ (.slice Ao46 t281.length co46 : Value).ownBlock ∧ some k_ ≠ (v292 : Value).ownBlock) (fun _ => False) rfl rfl ?aO ?aR (fun _ _ h => h) (fun _ h => h.elim) ?aF ?aB ?aS ?aL ?_
                   (case aR => repeat (first | exact (Kd.R_reads' HO_7.out).2.2 | (with_reducible refine Kd.C_alloc ?_ _) | (with_reducible refine Kd.C_drewN ?_ _) | (with_reducible refine Kd.C_drew ?_)))
                   (case aB => exact (by repeat (first | (with_reducible first | exact HB.out | apply below_alloc | apply pw_below_drewN | apply below_drew1 | refine below_set ?_ GE261.out | refine below_set ?_ GE273.out | refine below_set ?_ GE280.out) | exact HB.out)))
                   (case aF => exact (fun k_ hk => ⟨Kd.fresh' (Kd.R_lt (by (with_reducible repeat (first | apply Kd.R_alloc | apply Kd.R_drewN | apply Kd.R_drew)); exact HO_7.out)) k_ hk, Kd.fresh' (Kd.R_lt (by (with_reducible repeat (first | apply Kd.R_alloc | apply Kd.R_drewN | apply Kd.R_drew)); exact HO_262000.out)) k_ hk, Kd.fresh' (Kd.R_lt (by (with_reducible repeat (first | apply Kd.R_alloc | apply Kd.R_drewN | apply Kd.R_drew)); exact HO279.out)) k_ hk, Kd.fresh' (Kd.R_lt (by (with_reducible repeat (first | apply Kd.R_alloc | apply Kd.R_drewN | apply Kd.R_drew)); exact HO283.out)) k_ hk, Kd.fresh' (Kd.R_lt (by (with_reducible repeat (first | apply Kd.R_alloc | apply Kd.R_drewN | apply Kd.R_drew)); exact HO293.out)) k_ hk⟩))
                   (case aO => exact (by (with_reducible repeat (first | apply Kd.R_alloc | apply Kd.R_drewN | apply Kd.R_drew)); exact Kd.R_mono HO287.out (fun _ hk => ⟨hk.1.1.1.1.2, ⟨hk.1.1.1.2, ⟨hk.1.1.2, ⟨hk.1.2, hk.2⟩⟩⟩⟩)))
                   (case aS => exact (below_size (by repeat (first | (with_reducible first | exact HB.out | apply below_alloc | apply pw_below_drewN | apply below_drew1 | refine below_set ?_ GE261.out | refine below_set ?_ GE273.out | refine below_set ?_ GE280.out) | exact HB.out))))
                   (case aL => have := LMc36.out; omega)
                   intro v289 w55 ho hb hg hat
                   rw [← Ny288.out] at ho
                   have n0_ := Aside0.mk (Kd.R_after (ok := (fun k_ => some k_ ≠ (.slice Ao30 x262000_2.length co30 : Value).ownBlock ∧ some k_ ≠ (v278 : Value).ownBlock ∧ some k_ ≠ (.slice Ao46 t281.length co46 : Value).ownBlock ∧ some k_ ≠ (v292 : Value).ownBlock)) (by (with_reducible repeat (first | apply Kd.R_alloc | apply Kd.R_drewN | apply Kd.R_drew)); exact Kd.R_mono HO_7.out (fun _ hk => ⟨⟨hk.1.1.1, ⟨hk.1.1.2.1, ⟨hk.1.1.2.2, hk.1.2⟩⟩⟩, hk.2⟩)) hg hat)
                   have n1_ := Aside0.mk (Kd.R_after (ok := (fun k_ => some k_ ≠ (.slice Ao48 x7_2.length co48 : Value).ownBlock ∧ some k_ ≠ (v278 : Value).ownBlock ∧ some k_ ≠ (.slice Ao46 t281.length co46 : Value).ownBlock ∧ some k_ ≠ (v292 : Value).ownBlock)) (by (with_reducible repeat (first | apply Kd.R_alloc | apply Kd.R_drewN | apply Kd.R_drew)); exact Kd.R_mono HO_262000.out (fun _ hk => ⟨⟨hk.1.1.1, ⟨hk.1.1.2.1, ⟨hk.1.1.2.2, hk.1.2⟩⟩⟩, hk.2⟩)) hg hat)
                   have n2_ := Aside0.mk (blk_grown (g := gb261) (o := .cells #[.slice Ao30 x262000_2.length co30] 26 (0, 0)) (by (with_reducible repeat (first | refine blk_drewN ?_ _ | refine blk_drew ?_ | refine blk_alloc ?_ _)); exact BK261.out) hg (Kd.R_ne HO287.out BK261.out (by decide)))
                   have n3_ := Aside0.mk (blk_grown (g := gb273) (o := .cells #[.int .i64 ((rd_T32 l1 x8_2).f0), .int .u64 ((rd_T32 l1 x8_2).f1)] 32 (0, 0)) (by (with_reducible repeat (first | refine blk_drewN ?_ _ | refine blk_drew ?_ | refine blk_alloc ?_ _)); exact BK273.out) hg (Kd.R_ne HO287.out BK273.out (by decide)))
                   have n4_ := Aside0.mk (Kd.R_after (ok := (fun k_ => some k_ ≠ (.slice Ao48 x7_2.length co48 : Value).ownBlock ∧ some k_ ≠ (.slice Ao30 x262000_2.length co30 : Value).ownBlock ∧ some k_ ≠ (.slice Ao46 t281.length co46 : Value).ownBlock ∧ some k_ ≠ (v292 : Value).ownBlock)) (by (with_reducible repeat (first | apply Kd.R_alloc | apply Kd.R_drewN | apply Kd.R_drew)); exact Kd.R_mono HO279.out (fun _ hk => ⟨⟨hk.1.1.1, ⟨hk.1.1.2.1, ⟨hk.1.1.2.2, hk.1.2⟩⟩⟩, hk.2⟩)) hg hat)
                   have n5_ := Aside0.mk (blk_grown (g := gb280) (o := .cells #[.slice Ao46 t281.length co46] 26 (0, 0)) (by (with_reducible repeat (first | refine blk_drewN ?_ _ | refine blk_drew ?_ | refine blk_alloc ?_ _)); exact BK280.out) hg (Kd.R_ne HO287.out BK280.out (by decide)))
                   have n6_ := Aside0.mk (Kd.R_after (ok := (fun k_ => some k_ ≠ (.slice Ao48 x7_2.length co48 : Value).ownBlock ∧ some k_ ≠ (.slice Ao30 x262000_2.length co30 : Value).ownBlock ∧ some k_ ≠ (v278 : Value).ownBlock ∧ some k_ ≠ (v292 : Value).ownBlock)) (by (with_reducible repeat (first | apply Kd.R_alloc | apply Kd.R_drewN | apply Kd.R_drew)); exact Kd.R_mono HO283.out (fun _ hk => ⟨⟨hk.1.1.1, ⟨hk.1.1.2.1, ⟨hk.1.1.2.2, hk.1.2⟩⟩⟩, hk.2⟩)) hg hat)
                   have n7_ := Aside0.mk (Kd.R_after (ok := (fun k_ => some k_ ≠ (.slice Ao48 x7_2.length co48 : Value).ownBlock ∧ some k_ ≠ (.slice Ao30 x262000_2.length co30 : Value).ownBlock ∧ some k_ ≠ (v278 : Value).ownBlock ∧ some k_ ≠ (.slice Ao46 t281.length co46 : Value).ownBlock)) (by (with_reducible repeat (first | apply Kd.R_alloc | apply Kd.R_drewN | apply Kd.R_drew)); exact Kd.R_mono HO293.out (fun _ hk => ⟨⟨hk.1.1.1.1.2, ⟨hk.1.1.1.2, ⟨hk.1.1.2, hk.1.2⟩⟩⟩, hk.2⟩)) hg hat)
                   have n8_ := Aside0.mk (hb)
                   have n9_ := Aside0.mk (ho)
                   clear HO_7
                   clear HO_262000
                   clear BK261
                   clear BK273
                   clear HO279
                   clear BK280
                   clear HO283
                   clear HO293
                   clear HB
                   clear HO287
                   have HO_7 := n0_
                   have HO_262000 := n1_
                   have BK261 := n2_
                   have BK273 := n3_
                   have HO279 := n4_
                   have BK280 := n5_
                   have HO283 := n6_
                   have HO293 := n7_
                   have HB := n8_
                   have HO290 := n9_
                   clear n0_ n1_ n2_ n3_ n4_ n5_ n6_ n7_ n8_ n9_
                   clear ho hb hg hat
                   refine hK.out _ _ ⟨(blk_cell BK273.out 0).trans rfl, (blk_cell BK273.out 1).trans rfl⟩ (fun hHeld => ?_)
                   clear hK K
                   refine norm_ (a' := ?_) ?_ ?_
                   rotate_left
                   ·show Act.put _ (some 67) _ = _
                    simp only [Act.put, List.setIfInBounds_toArray, List.set_cons_zero, List.set_cons_succ, i64_w, i32_w]
                    rfl
                   exact norm_ (by simp only [putAll, Act.put, List.setIfInBounds_toArray, List.set_cons_zero, List.set_cons_succ]) (hCont (v286, v289, v292) _ ⟨hHeld, (by (with_reducible repeat (first | apply Kd.R_alloc | apply Kd.R_drewN | apply Kd.R_drew)); exact Kd.R_mono HO279.out (fun _ hk => ⟨hk.1.2.2.1, ⟨hk.2, ⟨hk.1.2.2.2, ⟨hk.1.2.1, hk.1.1⟩⟩⟩⟩)), (by (with_reducible repeat (first | apply Kd.R_alloc | apply Kd.R_drewN | apply Kd.R_drew)); exact Kd.R_mono HO283.out (fun _ hk => ⟨hk.1.2.2.1, ⟨hk.2, ⟨hk.1.2.2.2, ⟨hk.1.2.1, hk.1.1⟩⟩⟩⟩)), (by (with_reducible repeat (first | apply Kd.R_alloc | apply Kd.R_drewN | apply Kd.R_drew)); exact Kd.R_mono HO290.out (fun _ hk => ⟨hk.2.2.1, ⟨hk.2.2.2.1, ⟨hk.2.2.2.2, ⟨hk.2.1, hk.1⟩⟩⟩⟩)), (by (with_reducible repeat (first | apply Kd.R_alloc | apply Kd.R_drewN | apply Kd.R_drew)); exact Kd.R_mono HO293.out (fun _ hk => ⟨hk.1.2.2.1, ⟨hk.1.2.2.2, ⟨hk.2, ⟨hk.1.2.1, hk.1.1⟩⟩⟩⟩)), (by (with_reducible repeat (first | apply Kd.R_alloc | apply Kd.R_drewN | apply Kd.R_drew)); exact Kd.R_mono HO_262000.out (fun _ hk => ⟨hk.1.2.1, ⟨hk.1.2.2.1, ⟨hk.2, ⟨hk.1.2.2.2, hk.1.1⟩⟩⟩⟩)), (by (with_reducible repeat (first | apply Kd.R_alloc | apply Kd.R_drewN | apply Kd.R_drew)); exact Kd.R_mono HO_7.out (fun _ hk => ⟨hk.1.2.1, ⟨hk.1.2.2.1, ⟨hk.2, ⟨hk.1.2.2.2, hk.1.1⟩⟩⟩⟩)), (by (with_reducible repeat (first | refine blk_drewN ?_ _ | refine blk_drew ?_ | refine blk_alloc ?_ _)); exact BK261.out), (by (with_reducible repeat (first | refine blk_drewN ?_ _ | refine blk_drew ?_ | refine blk_alloc ?_ _)); exact BK273.out), (by (with_reducible repeat (first | refine blk_drewN ?_ _ | refine blk_drew ?_ | refine blk_alloc ?_ _)); exact BK280.out), (by repeat (first | (with_reducible first | exact HB.out | apply below_alloc | apply pw_below_drewN | apply below_drew1 | refine below_set ?_ GE261.out | refine below_set ?_ GE273.out | refine below_set ?_ GE280.out) | exact HB.out))⟩)
                 rintro ⟨v286, v289, v292⟩ w56 ⟨hS_, h0_, h1_, h2_, h3_, h4_, h5_, h6_, h7_, h8_, h9_⟩
                 have n0_ : Aside0 (Kd.R (Kd.int .u64) 30 w56 w.heap.size (fun k_ => some k_ ≠ (.slice Ao46 t281.length co46 : Value).ownBlock ∧ some k_ ≠ (v289 : Value).ownBlock ∧ some k_ ≠ (v292 : Value).ownBlock ∧ some k_ ≠ (.slice Ao30 x262000_2.length co30 : Value).ownBlock ∧ some k_ ≠ (.slice Ao48 x7_2.length co48 : Value).ownBlock) v278 y277) := ⟨h0_⟩
                 have n1_ : Aside0 (Kd.R (Kd.int .u64) 30 w56 w.heap.size (fun k_ => some k_ ≠ (v278 : Value).ownBlock ∧ some k_ ≠ (v289 : Value).ownBlock ∧ some k_ ≠ (v292 : Value).ownBlock ∧ some k_ ≠ (.slice Ao30 x262000_2.length co30 : Value).ownBlock ∧ some k_ ≠ (.slice Ao48 x7_2.length co48 : Value).ownBlock) (.slice Ao46 t281.length co46) t281) := ⟨h1_⟩
                 have n2_ : Aside0 (Kd.R (Kd.int .u64) 30 w56 w.heap.size (fun k_ => some k_ ≠ (v278 : Value).ownBlock ∧ some k_ ≠ (.slice Ao46 t281.length co46 : Value).ownBlock ∧ some k_ ≠ (v292 : Value).ownBlock ∧ some k_ ≠ (.slice Ao30 x262000_2.length co30 : Value).ownBlock ∧ some k_ ≠ (.slice Ao48 x7_2.length co48 : Value).ownBlock) v289 y288) := ⟨h2_⟩
                 have n3_ : Aside0 (Kd.R (Kd.int .u64) 30 w56 w.heap.size (fun k_ => some k_ ≠ (v278 : Value).ownBlock ∧ some k_ ≠ (.slice Ao46 t281.length co46 : Value).ownBlock ∧ some k_ ≠ (v289 : Value).ownBlock ∧ some k_ ≠ (.slice Ao30 x262000_2.length co30 : Value).ownBlock ∧ some k_ ≠ (.slice Ao48 x7_2.length co48 : Value).ownBlock) v292 y291) := ⟨h3_⟩
                 have n4_ : Aside0 (Kd.R (Kd.int .u64) 30 w56 w.heap.size (fun k_ => some k_ ≠ (v278 : Value).ownBlock ∧ some k_ ≠ (.slice Ao46 t281.length co46 : Value).ownBlock ∧ some k_ ≠ (v289 : Value).ownBlock ∧ some k_ ≠ (v292 : Value).ownBlock ∧ some k_ ≠ (.slice Ao48 x7_2.length co48 : Value).ownBlock) (.slice Ao30 x262000_2.length co30) x262000_2) := ⟨h4_⟩
                 have n5_ : Aside0 (Kd.R (Kd.int .u64) 30 w56 w.heap.size (fun k_ => some k_ ≠ (v278 : Value).ownBlock ∧ some k_ ≠ (.slice Ao46 t281.length co46 : Value).ownBlock ∧ some k_ ≠ (v289 : Value).ownBlock ∧ some k_ ≠ (v292 : Value).ownBlock ∧ some k_ ≠ (.slice Ao30 x262000_2.length co30 : Value).ownBlock) (.slice Ao48 x7_2.length co48) x7_2) := ⟨h5_⟩
                 have n6_ : Aside0 (w56.heap[gb261]? = some (.cells #[.slice Ao30 x262000_2.length co30] 26 (0, 0))) := ⟨h6_⟩
                 have n7_ : Aside0 (w56.heap[gb273]? = some (.cells #[.int .i64 ((rd_T32 l1 x8_2).f0), .int .u64 ((rd_T32 l1 x8_2).f1)] 32 (0, 0))) := ⟨h7_⟩
                 have n8_ : Aside0 (w56.heap[gb280]? = some (.cells #[.slice Ao46 t281.length co46] 26 (0, 0))) := ⟨h8_⟩
                 have n9_ : Aside0 (Below w.heap.size w w56) := ⟨h9_⟩
                 clear HO_7
                 clear HO_262000
                 clear HO279
                 clear HO283
                 clear BK261
                 clear BK273
                 clear BK280
                 clear HB
                 clear h0_ h1_ h2_ h3_ h4_ h5_ h6_ h7_ h8_ h9_
                 have HO279 := n0_
                 have HO283 := n1_
                 have HO290 := n2_
                 have HO293 := n3_
                 have HO_262000 := n4_
                 have HO_7 := n5_
                 have BK261 := n6_
                 have BK273 := n7_
                 have BK280 := n8_
                 have HB := n9_
                 clear n0_ n1_ n2_ n3_ n4_ n5_ n6_ n7_ n8_ n9_
                 have hHeld : w56.cell? ⟨gb273, 0, none⟩ = some (.int .i64 ((rd_T32 l1 x8_2).f0)) ∧ w56.cell? ⟨gb273, 1, none⟩ = some (.int .u64 ((rd_T32 l1 x8_2).f1)) := hS_
                 obtain ⟨Ao58, co58, eo58⟩ := Kd.R_slice HO293.out
                 (first | subst eo58 | (injection eo58 with f1_ f2_ f3_; have f4_ := f1_.symm; have f5_ := f3_.symm; clear f1_ f2_ f3_; subst f4_; subst f5_))
                 refine norm_ (a' := ?_) ?_ ?_
                 rotate_left
                 ·simp only [putAll, Act.put, List.setIfInBounds_toArray, List.set_cons_zero, List.set_cons_succ]
                  rfl
                 refine one_ (i := 6) (N := some 71) #[true, true, true, true, true, true, true, false] rfl rfl (one_of HT_.out (by kernel_rfl)) (by decide) (fun K hK => ?_)
                 refine Kd.R_append_rows_step (Kd.int .u64) (w0 := w) w.heap.size (by rfl) (.tmp 67) (.tmp 70) 22 30 (.int .u64 0) 8 rfl Try.underlying22 info30 rfl (by decide) (by omega) v289 y288 y291 _ _ _ (fun k_ => some k_ ≠ (.slice Ao48 x7_2.length co48 : Value).ownBlock ∧ some k_ ≠ (.slice Ao30 x262000_2.length co30 : Value).ownBlock ∧ some k_ ≠ (v278 : Value).ownBlock ∧ some k_ ≠ (.slice Ao46 t281.length co46 : Value).ownBlock ∧ some k_ ≠ (.slice Ao58 y291.length co58 : Value).ownBlock) (fun _ => False) rfl rfl ?aO ?aR (fun _ _ h => h) (fun _ h => h.elim) ?aF ?aB ?aS ?aL ?_
                 (case aR => repeat (first | exact (Kd.R_reads' HO293.out).2.2 | (with_reducible refine Kd.C_alloc ?_ _) | (with_reducible refine Kd.C_drewN ?_ _) | (with_reducible refine Kd.C_drew ?_)))
                 (case aB => exact (by repeat (first | (with_reducible first | exact HB.out | apply below_alloc | apply pw_below_drewN | apply below_drew1 | refine below_set ?_ GE261.out | refine below_set ?_ GE273.out | refine below_set ?_ GE280.out) | exact HB.out)))
                 (case aF => exact (fun k_ hk => ⟨Kd.fresh' (Kd.R_lt (by (with_reducible repeat (first | apply Kd.R_alloc | apply Kd.R_drewN | apply Kd.R_drew)); exact HO_7.out)) k_ hk, Kd.fresh' (Kd.R_lt (by (with_reducible repeat (first | apply Kd.R_alloc | apply Kd.R_drewN | apply Kd.R_drew)); exact HO_262000.out)) k_ hk, Kd.fresh' (Kd.R_lt (by (with_reducible repeat (first | apply Kd.R_alloc | apply Kd.R_drewN | apply Kd.R_drew)); exact HO279.out)) k_ hk, Kd.fresh' (Kd.R_lt (by (with_reducible repeat (first | apply Kd.R_alloc | apply Kd.R_drewN | apply Kd.R_drew)); exact HO283.out)) k_ hk, Kd.fresh' (Kd.R_lt (by (with_reducible repeat (first | apply Kd.R_alloc | apply Kd.R_drewN | apply Kd.R_drew)); exact HO293.out)) k_ hk⟩))
                 (case aO => exact (by (with_reducible repeat (first | apply Kd.R_alloc | apply Kd.R_drewN | apply Kd.R_drew)); exact Kd.R_mono HO290.out (fun _ hk => ⟨hk.2.2.2.2, ⟨hk.2.2.2.1, ⟨hk.1, ⟨hk.2.1, hk.2.2.1⟩⟩⟩⟩)))
                 (case aS => exact (below_size (by repeat (first | (with_reducible first | exact HB.out | apply below_alloc | apply pw_below_drewN | apply below_drew1 | refine below_set ?_ GE261.out | refine below_set ?_ GE273.out | refine below_set ?_ GE280.out) | exact HB.out))))
                 (case aL => have := LMc37.out; omega)
                 intro v295 w57 ho hb hg hat
                 rw [← Ny294.out] at ho
                 have n0_ := Aside0.mk (Kd.R_after (ok := (fun k_ => some k_ ≠ (.slice Ao30 x262000_2.length co30 : Value).ownBlock ∧ some k_ ≠ (v278 : Value).ownBlock ∧ some k_ ≠ (.slice Ao46 t281.length co46 : Value).ownBlock ∧ some k_ ≠ (.slice Ao58 y291.length co58 : Value).ownBlock)) (by (with_reducible repeat (first | apply Kd.R_alloc | apply Kd.R_drewN | apply Kd.R_drew)); exact Kd.R_mono HO_7.out (fun _ hk => ⟨⟨hk.2.2.2.2, ⟨hk.1, ⟨hk.2.1, hk.2.2.2.1⟩⟩⟩, hk.2.2.1⟩)) hg hat)
                 have n1_ := Aside0.mk (Kd.R_after (ok := (fun k_ => some k_ ≠ (.slice Ao48 x7_2.length co48 : Value).ownBlock ∧ some k_ ≠ (v278 : Value).ownBlock ∧ some k_ ≠ (.slice Ao46 t281.length co46 : Value).ownBlock ∧ some k_ ≠ (.slice Ao58 y291.length co58 : Value).ownBlock)) (by (with_reducible repeat (first | apply Kd.R_alloc | apply Kd.R_drewN | apply Kd.R_drew)); exact Kd.R_mono HO_262000.out (fun _ hk => ⟨⟨hk.2.2.2.2, ⟨hk.1, ⟨hk.2.1, hk.2.2.2.1⟩⟩⟩, hk.2.2.1⟩)) hg hat)
                 have n2_ := Aside0.mk (blk_grown (g := gb261) (o := .cells #[.slice Ao30 x262000_2.length co30] 26 (0, 0)) (by (with_reducible repeat (first | refine blk_drewN ?_ _ | refine blk_drew ?_ | refine blk_alloc ?_ _)); exact BK261.out) hg (Kd.R_ne HO290.out BK261.out (by decide)))
                 have n3_ := Aside0.mk (blk_grown (g := gb273) (o := .cells #[.int .i64 ((rd_T32 l1 x8_2).f0), .int .u64 ((rd_T32 l1 x8_2).f1)] 32 (0, 0)) (by (with_reducible repeat (first | refine blk_drewN ?_ _ | refine blk_drew ?_ | refine blk_alloc ?_ _)); exact BK273.out) hg (Kd.R_ne HO290.out BK273.out (by decide)))
                 have n4_ := Aside0.mk (Kd.R_after (ok := (fun k_ => some k_ ≠ (.slice Ao48 x7_2.length co48 : Value).ownBlock ∧ some k_ ≠ (.slice Ao30 x262000_2.length co30 : Value).ownBlock ∧ some k_ ≠ (.slice Ao46 t281.length co46 : Value).ownBlock ∧ some k_ ≠ (.slice Ao58 y291.length co58 : Value).ownBlock)) (by (with_reducible repeat (first | apply Kd.R_alloc | apply Kd.R_drewN | apply Kd.R_drew)); exact Kd.R_mono HO279.out (fun _ hk => ⟨⟨hk.2.2.2.2, ⟨hk.2.2.2.1, ⟨hk.1, hk.2.2.1⟩⟩⟩, hk.2.1⟩)) hg hat)
                 have n5_ := Aside0.mk (blk_grown (g := gb280) (o := .cells #[.slice Ao46 t281.length co46] 26 (0, 0)) (by (with_reducible repeat (first | refine blk_drewN ?_ _ | refine blk_drew ?_ | refine blk_alloc ?_ _)); exact BK280.out) hg (Kd.R_ne HO290.out BK280.out (by decide)))
                 have n6_ := Aside0.mk (Kd.R_after (ok := (fun k_ => some k_ ≠ (.slice Ao48 x7_2.length co48 : Value).ownBlock ∧ some k_ ≠ (.slice Ao30 x262000_2.length co30 : Value).ownBlock ∧ some k_ ≠ (v278 : Value).ownBlock ∧ some k_ ≠ (.slice Ao58 y291.length co58 : Value).ownBlock)) (by (with_reducible repeat (first | apply Kd.R_alloc | apply Kd.R_drewN | apply Kd.R_drew)); exact Kd.R_mono HO283.out (fun _ hk => ⟨⟨hk.2.2.2.2, ⟨hk.2.2.2.1, ⟨hk.1, hk.2.2.1⟩⟩⟩, hk.2.1⟩)) hg hat)
                 have n7_ := Aside0.mk (Kd.R_after (ok := (fun k_ => some k_ ≠ (.slice Ao48 x7_2.length co48 : Value).ownBlock ∧ some k_ ≠ (.slice Ao30 x262000_2.length co30 : Value).ownBlock ∧ some k_ ≠ (v278 : Value).ownBlock ∧ some k_ ≠ (.slice Ao46 t281.length co46 : Value).ownBlock)) (by (with_reducible repeat (first | apply Kd.R_alloc | apply Kd.R_drewN | apply Kd.R_drew)); exact Kd.R_mono HO293.out (fun _ hk => ⟨⟨hk.2.2.2.2, ⟨hk.2.2.2.1, ⟨hk.1, hk.2.1⟩⟩⟩, hk.2.2.1⟩)) hg hat)
                 have n8_ := Aside0.mk (hb)
                 have n9_ := Aside0.mk (ho)
                 clear HO_7
                 clear HO_262000
                 clear BK261
                 clear BK273
                 clear HO279
                 clear BK280
                 clear HO283
                 clear HO293
                 clear HB
                 clear HO290
                 have HO_7 := n0_
                 have HO_262000 := n1_
                 have BK261 := n2_
                 have BK273 := n3_
                 have HO279 := n4_
                 have BK280 := n5_
                 have HO283 := n6_
                 have HO293 := n7_
                 have HB := n8_
                 have HO296 := n9_
                 clear n0_ n1_ n2_ n3_ n4_ n5_ n6_ n7_ n8_ n9_
                 clear ho hb hg hat
                 refine hK.out _ _ ⟨(blk_cell BK273.out 0).trans rfl, (blk_cell BK273.out 1).trans rfl⟩ (fun hHeld => ?_)
                 clear hK K
                 refine norm_ (a' := ?_) ?_ ?_
                 rotate_left
                 ·show Act.put _ (some 71) _ = _
                  simp only [Act.put, List.setIfInBounds_toArray, List.set_cons_zero, List.set_cons_succ, i64_w, i32_w]
                  rfl
                 refine pure_ (i := 7) (N := some 14) (v := ?_) (a' := ?_) #[true, true, true, true, true, true, true, true] rfl rfl (any_of HT_.out (by kernel_rfl)) (fun _ _ _ h => h) (Or.inl ⟨by rfl, ?_⟩) ?_ ?_
                 rotate_left
                 ·intro w'
                  go_simp
                  with_reducible rfl
                 rotate_left
                 ·simp only [Act.put, List.setIfInBounds_toArray, List.set_cons_zero, List.set_cons_succ, i64_w, i32_w]
                  rfl
                 refine done_ (done_of HT_.out (by kernel_rfl)) ?_
                 obtain ⟨Ao59, co59, eo59⟩ := Kd.R_slice HO296.out
                 subst eo59
                 try go_wp2_with (first | ((with_reducible refine gate_callee (f := 7) rfl ?_); refine goesL_ (some 74) rfl rfl Try.func7 (by kernel_rfl) rfl #[.slice Ao59 y294.length co59] rfl (by (try simp only [List.map_toArray, List.map_cons, List.map_nil]); first | done | rfl | (simp only [List.length_drop, List.length_take]; rfl)) ?_; (with_reducible refine (drawlotref09_Total.calls k2 _ _ y294 t297 true _ ?side1 ?side2 A38.out).mono ?_); (case side1 => repeat (first | exact (Kd.R_reads' HO296.out).2.2 | (with_reducible refine Kd.C_alloc ?_ _) | (with_reducible refine Kd.C_drewN ?_ _) | (with_reducible refine Kd.C_drew ?_))); (case side2 => exact (Kd.R_reads' HO296.out).2.1); rintro e w' ⟨rfl, ⟨nd, rfl⟩⟩; refine ⟨_, rfl, ?_⟩))
                 go_meet
                 case rel => exact ⟨_, (t284), (0), (y294), (t281), (.slice Ao46 t281.length co46), (by first | rfl | (simp; done) | (simp [*]; done)), (by first | rfl | (simp; done) | (simp [*]; done)), H', ⟨by have := HJ4.out; have := HK2.out; first | omega | exact Nat.le_refl _⟩, ⟨by (with_reducible repeat (first | apply Kd.R_alloc | apply Kd.R_drewN | apply Kd.R_drew)); exact Kd.R_mono HO_7.out (fun _ hk => ⟨hk.1.2.1, ⟨hk.2, ⟨hk.1.1, hk.1.2.2.1⟩⟩⟩)⟩, ⟨by (with_reducible repeat (first | apply Kd.R_alloc | apply Kd.R_drewN | apply Kd.R_drew)); exact Kd.R_mono HO279.out (fun _ hk => ⟨hk.1.1, ⟨hk.2, ⟨hk.1.2.1, hk.1.2.2.1⟩⟩⟩)⟩, ⟨by (with_reducible repeat (first | apply Kd.R_alloc | apply Kd.R_drewN | apply Kd.R_drew)); exact Kd.R_mono HO296.out (fun _ hk => ⟨hk.1, ⟨hk.2.2.1, ⟨hk.2.1, hk.2.2.2.1⟩⟩⟩)⟩, ⟨by (with_reducible repeat (first | apply Kd.R_alloc | apply Kd.R_drewN | apply Kd.R_drew)); exact Kd.R_mono HO_262000.out (fun _ hk => ⟨hk.1.1, ⟨hk.1.2.1, ⟨hk.2, hk.1.2.2.1⟩⟩⟩)⟩, ⟨by (with_reducible repeat (first | apply Kd.R_alloc | apply Kd.R_drewN | apply Kd.R_drew)); exact Kd.R_mono HO283.out (fun _ hk => ⟨hk.1.1, ⟨hk.1.2.2.1, ⟨hk.2, hk.1.2.1⟩⟩⟩)⟩, ⟨by (with_reducible repeat (first | refine blk_drewN ?_ _ | refine blk_drew ?_ | refine blk_alloc ?_ _)); exact BK261.out⟩, ⟨by (with_reducible repeat (first | refine blk_drewN ?_ _ | refine blk_drew ?_ | refine blk_alloc ?_ _)); exact BK273.out⟩, ⟨by (with_reducible repeat (first | refine blk_drewN ?_ _ | refine blk_drew ?_ | refine blk_alloc ?_ _)); exact BK280.out⟩, ⟨by repeat (first | (with_reducible first | exact HB.out | apply below_alloc | apply pw_below_drewN | apply below_drew1 | refine below_set ?_ GE261.out | refine below_set ?_ GE273.out | refine below_set ?_ GE280.out) | exact HB.out)⟩⟩
                ·replace c39 := Bool.eq_false_iff.mpr c39
                 subst c39
                 have H1 : (drawlotlaw11_FenTurns.j2 k2 l1 x7_2 x8_2 y277 t284 11 y294 x262000_2 t281) = some r := by rw [if_neg (show ¬ (false = true) by decide)] at H; exact H
                 clear H
                 have H := H1
                 clear H1
                 have H' := Aside0.mk H
                 clear H
                 have hnb60 := NB261_273.out
                 have hnc60 := NB273_261.out
                 have hnb61 := NB261_280.out
                 have hnc61 := NB280_261.out
                 have hcz62_0 : w31.cell? ⟨gb261, 0, none⟩ = some (.slice Ao30 x262000_2.length co30) := (blk_cell BK261.out 0).trans rfl
                 have hfz62_0 := blk_frozen BK261.out 0
                 have hnb63 := NB273_280.out
                 have hnc63 := NB280_273.out
                 have hcz64_0 : w31.cell? ⟨gb273, 0, none⟩ = some (.int .i64 ((rd_T32 l1 x8_2).f0)) := (blk_cell BK273.out 0).trans rfl
                 have hcz64_1 : w31.cell? ⟨gb273, 1, none⟩ = some (.int .u64 ((rd_T32 l1 x8_2).f1)) := (blk_cell BK273.out 1).trans rfl
                 have hfz64_0 := blk_frozen BK273.out 0
                 have hfz64_1 := blk_frozen BK273.out 1
                 try go_wp2_with (first | ((with_reducible refine gate_callee (f := 6) rfl ?_); refine goesL_ (some 62) rfl rfl Try.func6 (by kernel_rfl) rfl #[.agg #[.slice Ao30 x262000_2.length co30], .int .u64 ((rd_T32 l1 x8_2).f1)] rfl (by (try simp only [List.map_toArray, List.map_cons, List.map_nil]); first | done | rfl | (simp only [List.length_drop, List.length_take]; rfl)) ?_; (with_reducible refine (fen_Grow.calls k2 _ _ x262000_2 ((rd_T32 l1 x8_2).f1) t281 t284 _ ?side1 ?side2 A35.out).mono ?_); (case side1 => repeat (first | exact (Kd.R_reads' HO_262000.out).2.2 | (with_reducible refine Kd.C_alloc ?_ _) | (with_reducible refine Kd.C_drewN ?_ _) | (with_reducible refine Kd.C_drew ?_))); (case side2 => exact (Kd.R_reads' HO_262000.out).2.1); rintro e w65 ⟨v282, rfl, ho0, hb⟩; refine ⟨_, rfl, ?_⟩; have n0_ := Aside0.mk (Kd.R_elder' (by (with_reducible repeat (first | apply Kd.R_alloc | apply Kd.R_drewN | apply Kd.R_drew)); exact HO_7.out) (Kd.R_base ho0) hb); have n1_ := Aside0.mk (Kd.R_elder' (by (with_reducible repeat (first | apply Kd.R_alloc | apply Kd.R_drewN | apply Kd.R_drew)); exact HO_262000.out) (Kd.R_base ho0) hb); have n2_ := Aside0.mk (Kd.R_elder' (by (with_reducible repeat (first | apply Kd.R_alloc | apply Kd.R_drewN | apply Kd.R_drew)); exact HO279.out) (Kd.R_base ho0) hb); have n3_ := Aside0.mk (Kd.R_lower (Kd.R_new' (Kd.R_new' (Kd.R_new' ho0 (Kd.R_lt (by (with_reducible repeat (first | apply Kd.R_alloc | apply Kd.R_drewN | apply Kd.R_drew)); exact HO_7.out))) (Kd.R_lt (by (with_reducible repeat (first | apply Kd.R_alloc | apply Kd.R_drewN | apply Kd.R_drew)); exact HO_262000.out))) (Kd.R_lt (by (with_reducible repeat (first | apply Kd.R_alloc | apply Kd.R_drewN | apply Kd.R_drew)); exact HO279.out))) (below_size (by repeat (first | (with_reducible first | exact HB.out | apply below_alloc | apply pw_below_drewN | apply below_drew1 | refine below_set ?_ GE261.out | refine below_set ?_ GE273.out | refine below_set ?_ GE280.out) | exact HB.out)))); have n4_ := Aside0.mk (blk_below (g := gb261) (o := .cells #[.slice Ao30 x262000_2.length co30] 26 (0, 0)) (by (with_reducible repeat (first | refine blk_drewN ?_ _ | refine blk_drew ?_ | refine blk_alloc ?_ _)); exact BK261.out) hb); have n5_ := Aside0.mk (blk_below (g := gb273) (o := .cells #[.int .i64 ((rd_T32 l1 x8_2).f0), .int .u64 ((rd_T32 l1 x8_2).f1)] 32 (0, 0)) (by (with_reducible repeat (first | refine blk_drewN ?_ _ | refine blk_drew ?_ | refine blk_alloc ?_ _)); exact BK273.out) hb); have n6_ := Aside0.mk (blk_below (g := gb280) (o := .cells #[.slice none 0 0] 26 (0, 0)) (by (with_reducible repeat (first | refine blk_drewN ?_ _ | refine blk_drew ?_ | refine blk_alloc ?_ _)); exact BK280.out) hb); have n7_ := Aside0.mk (below_step (by repeat (first | (with_reducible first | exact HB.out | apply below_alloc | apply pw_below_drewN | apply below_drew1 | refine below_set ?_ GE261.out | refine below_set ?_ GE273.out | refine below_set ?_ GE280.out) | exact HB.out)) hb); clear HO_7; clear HO_262000; clear HO279; clear BK261; clear BK273; clear BK280; clear HB; have HO_7 := n0_; have HO_262000 := n1_; have HO279 := n2_; have HO283 := n3_; have BK261 := n4_; have BK273 := n5_; have BK280 := n6_; have HB := n7_; clear n0_ n1_ n2_ n3_ n4_ n5_ n6_ n7_; (try clear hb); (try clear hb2); (try clear hk); (try clear hi); (try clear ho0); obtain ⟨Ao66, co66, eo66⟩ := Kd.R_slice HO283.out; subst eo66; have hcz67_0 : w65.cell? ⟨gb280, 0, none⟩ = some (.slice none 0 0) := (blk_cell BK280.out 0).trans rfl; have hfz67_0 := blk_frozen BK280.out 0; obtain ⟨Ao68, co68, eo68⟩ := Kd.R_slice HO_7.out; subst eo68))
                 have n0_ : Aside0 (Kd.R (Kd.int .u64) 30 (w65.setCell ⟨gb280, 0, none⟩ (.slice Ao66 t281.length co66)) w.heap.size (fun k_ => some k_ ≠ (.slice Ao30 x262000_2.length co30 : Value).ownBlock ∧ some k_ ≠ (v278 : Value).ownBlock ∧ some k_ ≠ (.slice Ao66 t281.length co66 : Value).ownBlock) (.slice Ao68 x7_2.length co68) x7_2) := ⟨by (with_reducible repeat (first | apply Kd.R_alloc | apply Kd.R_drewN | apply Kd.R_drew)); exact Kd.R_mono (Kd.R_far (p := ⟨gb280, 0, none⟩) (Kd.R_types HO_7.out BK280.out (by decide)) (fun _ hk => hk.2) (.slice Ao66 t281.length co66)) (fun _ hk => ⟨hk.1.1.1, ⟨hk.1.1.2, hk.1.2⟩⟩)⟩
                 have n1_ : Aside0 (Kd.R (Kd.int .u64) 30 (w65.setCell ⟨gb280, 0, none⟩ (.slice Ao66 t281.length co66)) w.heap.size (fun k_ => some k_ ≠ (.slice Ao68 x7_2.length co68 : Value).ownBlock ∧ some k_ ≠ (v278 : Value).ownBlock ∧ some k_ ≠ (.slice Ao66 t281.length co66 : Value).ownBlock) (.slice Ao30 x262000_2.length co30) x262000_2) := ⟨by (with_reducible repeat (first | apply Kd.R_alloc | apply Kd.R_drewN | apply Kd.R_drew)); exact Kd.R_mono (Kd.R_far (p := ⟨gb280, 0, none⟩) (Kd.R_types HO_262000.out BK280.out (by decide)) (fun _ hk => hk.2) (.slice Ao66 t281.length co66)) (fun _ hk => ⟨hk.1.1.1, ⟨hk.1.1.2, hk.1.2⟩⟩)⟩
                 have n2_ : Aside0 (Kd.R (Kd.int .u64) 30 (w65.setCell ⟨gb280, 0, none⟩ (.slice Ao66 t281.length co66)) w.heap.size (fun k_ => some k_ ≠ (.slice Ao68 x7_2.length co68 : Value).ownBlock ∧ some k_ ≠ (.slice Ao30 x262000_2.length co30 : Value).ownBlock ∧ some k_ ≠ (.slice Ao66 t281.length co66 : Value).ownBlock) v278 y277) := ⟨by (with_reducible repeat (first | apply Kd.R_alloc | apply Kd.R_drewN | apply Kd.R_drew)); exact Kd.R_mono (Kd.R_far (p := ⟨gb280, 0, none⟩) (Kd.R_types HO279.out BK280.out (by decide)) (fun _ hk => hk.2) (.slice Ao66 t281.length co66)) (fun _ hk => ⟨hk.1.1.1, ⟨hk.1.1.2, hk.1.2⟩⟩)⟩
                 have n3_ : Aside0 (Kd.R (Kd.int .u64) 30 (w65.setCell ⟨gb280, 0, none⟩ (.slice Ao66 t281.length co66)) w.heap.size (fun k_ => some k_ ≠ (.slice Ao68 x7_2.length co68 : Value).ownBlock ∧ some k_ ≠ (.slice Ao30 x262000_2.length co30 : Value).ownBlock ∧ some k_ ≠ (v278 : Value).ownBlock) (.slice Ao66 t281.length co66) t281) := ⟨by (with_reducible repeat (first | apply Kd.R_alloc | apply Kd.R_drewN | apply Kd.R_drew)); exact Kd.R_mono (Kd.R_far (p := ⟨gb280, 0, none⟩) (Kd.R_types HO283.out BK280.out (by decide)) (fun _ hk => hk.2) (.slice Ao66 t281.length co66)) (fun _ hk => ⟨hk.1.1.1.2, ⟨hk.1.1.2, hk.1.2⟩⟩)⟩
                 have n4_ : Aside0 ((w65.setCell ⟨gb280, 0, none⟩ (.slice Ao66 t281.length co66)).heap[gb261]? = some (.cells #[.slice Ao30 x262000_2.length co30] 26 (0, 0))) := ⟨by (with_reducible repeat (first | refine blk_drewN ?_ _ | refine blk_drew ?_ | refine blk_alloc ?_ _)); refine blk_far ?_ NB261_280.out _; (with_reducible repeat (first | refine blk_drewN ?_ _ | refine blk_drew ?_ | refine blk_alloc ?_ _)); exact BK261.out⟩
                 have n5_ : Aside0 ((w65.setCell ⟨gb280, 0, none⟩ (.slice Ao66 t281.length co66)).heap[gb273]? = some (.cells #[.int .i64 ((rd_T32 l1 x8_2).f0), .int .u64 ((rd_T32 l1 x8_2).f1)] 32 (0, 0))) := ⟨by (with_reducible repeat (first | refine blk_drewN ?_ _ | refine blk_drew ?_ | refine blk_alloc ?_ _)); refine blk_far ?_ NB273_280.out _; (with_reducible repeat (first | refine blk_drewN ?_ _ | refine blk_drew ?_ | refine blk_alloc ?_ _)); exact BK273.out⟩
                 have n6_ : Aside0 ((w65.setCell ⟨gb280, 0, none⟩ (.slice Ao66 t281.length co66)).heap[gb280]? = some (.cells #[.slice Ao66 t281.length co66] 26 (0, 0))) := ⟨by (with_reducible repeat (first | refine blk_drewN ?_ _ | refine blk_drew ?_ | refine blk_alloc ?_ _)); refine blk_put (cs := #[.slice none 0 0]) ?_ 0 _ rfl; (with_reducible repeat (first | refine blk_drewN ?_ _ | refine blk_drew ?_ | refine blk_alloc ?_ _)); exact BK280.out⟩
                 have n7_ : Aside0 (Below w.heap.size w (w65.setCell ⟨gb280, 0, none⟩ (.slice Ao66 t281.length co66))) := ⟨by repeat (first | (with_reducible first | exact HB.out | apply below_alloc | apply pw_below_drewN | apply below_drew1 | refine below_set ?_ GE261.out | refine below_set ?_ GE273.out | refine below_set ?_ GE280.out) | exact HB.out)⟩
                 (try clear HO_7)
                 (try clear HO_262000)
                 (try clear HO279)
                 (try clear HO283)
                 (try clear BK261)
                 (try clear BK273)
                 (try clear BK280)
                 (try clear HB)
                 generalize (w65.setCell ⟨gb280, 0, none⟩ (.slice Ao66 t281.length co66)) = w69 at n0_ n1_ n2_ n3_ n4_ n5_ n6_ n7_ ⊢
                 have HO_7 := n0_
                 have HO_262000 := n1_
                 have HO279 := n2_
                 have HO283 := n3_
                 have BK261 := n4_
                 have BK273 := n5_
                 have BK280 := n6_
                 have HB := n7_
                 clear n0_ n1_ n2_ n3_ n4_ n5_ n6_ n7_
                 have n0_ := Aside0.mk (Kd.R_drew HO_7.out)
                 have n1_ := Aside0.mk (Kd.R_drew HO_262000.out)
                 have n2_ := Aside0.mk (Kd.R_drew HO279.out)
                 have n3_ := Aside0.mk (Kd.R_drew HO283.out)
                 have n4_ := Aside0.mk (blk_drew BK261.out)
                 have n5_ := Aside0.mk (blk_drew BK273.out)
                 have n6_ := Aside0.mk (blk_drew BK280.out)
                 have n7_ := Aside0.mk (below_drew1 HB.out)
                 clear HO_7
                 clear HO_262000
                 clear HO279
                 clear HO283
                 clear BK261
                 clear BK273
                 clear BK280
                 clear HB
                 have HO_7 := n0_
                 have HO_262000 := n1_
                 have HO279 := n2_
                 have HO283 := n3_
                 have BK261 := n4_
                 have BK273 := n5_
                 have BK280 := n6_
                 have HB := n7_
                 clear n0_ n1_ n2_ n3_ n4_ n5_ n6_ n7_
                 refine start_ (n := 8) (S := fun w' => w'.cell? ⟨gb273, 0, none⟩ = some (.int .i64 ((rd_T32 l1 x8_2).f0)) ∧ w'.cell? ⟨gb273, 1, none⟩ = some (.int .u64 ((rd_T32 l1 x8_2).f1))) (ds := []) #[false, false, false, false, false, false, false, false] (by kernel_rfl) rfl rfl ⟨(blk_cell BK273.out 0).trans rfl, (blk_cell BK273.out 1).trans rfl⟩ (fun hHeld => ?_); refine with_tabW drawlotlaw11_FenTurns.tab19 drawlotlaw11_FenTurns.bits19 (fun HT_ HW_ => ?_)
                 generalize w69.drew = w70 at HO_7 HO_262000 HO279 HO283 BK261 BK273 BK280 HB hHeld ⊢
                 refine pure_ (i := 1) (N := some 66) (v := ?_) (a' := ?_) #[false, true, false, false, false, false, false, false] rfl rfl (any_of HT_.out (by kernel_rfl)) (fun _ _ _ h => h) (Or.inl ⟨by rfl, ?_⟩) ?_ ?_
                 rotate_left
                 ·intro w'
                  go_simp
                  with_reducible rfl
                 rotate_left
                 ·simp only [Act.put, List.setIfInBounds_toArray, List.set_cons_zero, List.set_cons_succ, i64_w, i32_w]
                  rfl
                 refine pure_ (i := 3) (N := some 68) (v := ?_) (a' := ?_) #[false, true, false, true, false, false, false, false] rfl rfl (any_of HT_.out (by kernel_rfl)) (fun _ _ _ h => h) (Or.inl ⟨by rfl, ?_⟩) ?_ ?_
                 rotate_left
                 ·intro w'
                  go_simp
                  with_reducible rfl
                 rotate_left
                 ·simp only [Act.put, List.setIfInBounds_toArray, List.set_cons_zero, List.set_cons_succ, i64_w, i32_w]
                  rfl
                 refine take_ (i := 4) (N := some 69) (v := ?_) (a' := ?_) #[false, true, false, true, true, false, false, false] rfl rfl (take_ofW HT_.out HW_.out (by kernel_rfl)) (fun _ _ _ h => h) (Or.inl ⟨by rfl, ?_⟩) hHeld ?_ ?_
                 rotate_left
                 ·rintro w' ⟨s0, s1⟩
                  go_simp
                  with_reducible rfl
                 rotate_left
                 ·simp only [Act.put, List.setIfInBounds_toArray, List.set_cons_zero, List.set_cons_succ, i64_w, i32_w]
                  rfl
                 refine join_ (σ := Value × Value × Value) 2 #[true, true, true, true, true, true, false, false] (fun s_ => [(65, s_.1), (67, s_.2.1), (70, s_.2.2)]) (fun s_ w' => (w'.cell? ⟨gb273, 0, none⟩ = some (.int .i64 ((rd_T32 l1 x8_2).f0)) ∧ w'.cell? ⟨gb273, 1, none⟩ = some (.int .u64 ((rd_T32 l1 x8_2).f1))) ∧ (Kd.R (Kd.int .u64) 30 w' w.heap.size (fun k_ => some k_ ≠ (.slice Ao66 t281.length co66 : Value).ownBlock ∧ some k_ ≠ (s_.2.1 : Value).ownBlock ∧ some k_ ≠ (s_.2.2 : Value).ownBlock ∧ some k_ ≠ (.slice Ao30 x262000_2.length co30 : Value).ownBlock ∧ some k_ ≠ (.slice Ao68 x7_2.length co68 : Value).ownBlock) v278 y277) ∧ (Kd.R (Kd.int .u64) 30 w' w.heap.size (fun k_ => some k_ ≠ (v278 : Value).ownBlock ∧ some k_ ≠ (s_.2.1 : Value).ownBlock ∧ some k_ ≠ (s_.2.2 : Value).ownBlock ∧ some k_ ≠ (.slice Ao30 x262000_2.length co30 : Value).ownBlock ∧ some k_ ≠ (.slice Ao68 x7_2.length co68 : Value).ownBlock) (.slice Ao66 t281.length co66) t281) ∧ (Kd.R (Kd.int .u64) 30 w' w.heap.size (fun k_ => some k_ ≠ (v278 : Value).ownBlock ∧ some k_ ≠ (.slice Ao66 t281.length co66 : Value).ownBlock ∧ some k_ ≠ (s_.2.2 : Value).ownBlock ∧ some k_ ≠ (.slice Ao30 x262000_2.length co30 : Value).ownBlock ∧ some k_ ≠ (.slice Ao68 x7_2.length co68 : Value).ownBlock) s_.2.1 y288) ∧ (Kd.R (Kd.int .u64) 30 w' w.heap.size (fun k_ => some k_ ≠ (v278 : Value).ownBlock ∧ some k_ ≠ (.slice Ao66 t281.length co66 : Value).ownBlock ∧ some k_ ≠ (s_.2.1 : Value).ownBlock ∧ some k_ ≠ (.slice Ao30 x262000_2.length co30 : Value).ownBlock ∧ some k_ ≠ (.slice Ao68 x7_2.length co68 : Value).ownBlock) s_.2.2 y291) ∧ (Kd.R (Kd.int .u64) 30 w' w.heap.size (fun k_ => some k_ ≠ (v278 : Value).ownBlock ∧ some k_ ≠ (.slice Ao66 t281.length co66 : Value).ownBlock ∧ some k_ ≠ (s_.2.1 : Value).ownBlock ∧ some k_ ≠ (s_.2.2 : Value).ownBlock ∧ some k_ ≠ (.slice Ao68 x7_2.length co68 : Value).ownBlock) (.slice Ao30 x262000_2.length co30) x262000_2) ∧ (Kd.R (Kd.int .u64) 30 w' w.heap.size (fun k_ => some k_ ≠ (v278 : Value).ownBlock ∧ some k_ ≠ (.slice Ao66 t281.length co66 : Value).ownBlock ∧ some k_ ≠ (s_.2.1 : Value).ownBlock ∧ some k_ ≠ (s_.2.2 : Value).ownBlock ∧ some k_ ≠ (.slice Ao30 x262000_2.length co30 : Value).ownBlock) (.slice Ao68 x7_2.length co68) x7_2) ∧ (w'.heap[gb261]? = some (.cells #[.slice Ao30 x262000_2.length co30] 26 (0, 0))) ∧ (w'.heap[gb273]? = some (.cells #[.int .i64 ((rd_T32 l1 x8_2).f0), .int .u64 ((rd_T32 l1 x8_2).f1)] 32 (0, 0))) ∧ (w'.heap[gb280]? = some (.cells #[.slice Ao66 t281.length co66] 26 (0, 0))) ∧ (Below w.heap.size w w')) ?_ ?_
                 rotate_left
                 ·intro hCont
                  refine two_ (i := 0) (j := 5) (Ni := some 65) (Nj := some 70) #[true, true, false, true, true, false, false, false] #[false, true, false, true, true, true, false, false] rfl rfl rfl rfl (two_of HT_.out (by kernel_rfl)) (by decide) (by decide) (fun K hK => ?_) (fun K hK => ?_)
                  ·skip
                   refine Kd.R_lit_step (Kd.int .u64) _ 30 ?hg (N := 65) ?hd (xs := ([] : List Int)) (inner := []) (ok := fun _ => True) (okp := fun _ => True) ?hr ?hp (fun _ hk => hk) trivial (Below.refl _ _) (Nat.le_refl _) (by simp) ?_; (case hd => rfl); (case hg => rfl); (case hr => first | (go_simp; done) | (go_simp; rfl)); (case hp => exact (Reps.none _ _))
                   intro v286 w71 ho72 hb hg_ hnew_
                   clear hg_ hnew_
                   (first | rw [← Ny285.out] at ho72 | (simp only [Int.reduceToNat] at ho72; rw [← Ny285.out] at ho72))
                   have n0_ := Aside0.mk (Kd.R_elder' (by (with_reducible repeat (first | apply Kd.R_alloc | apply Kd.R_drewN | apply Kd.R_drew)); exact HO_7.out) (Kd.R_base ho72) hb)
                   have n1_ := Aside0.mk (Kd.R_elder' (by (with_reducible repeat (first | apply Kd.R_alloc | apply Kd.R_drewN | apply Kd.R_drew)); exact HO_262000.out) (Kd.R_base ho72) hb)
                   have n2_ := Aside0.mk (Kd.R_elder' (by (with_reducible repeat (first | apply Kd.R_alloc | apply Kd.R_drewN | apply Kd.R_drew)); exact HO279.out) (Kd.R_base ho72) hb)
                   have n3_ := Aside0.mk (Kd.R_elder' (by (with_reducible repeat (first | apply Kd.R_alloc | apply Kd.R_drewN | apply Kd.R_drew)); exact HO283.out) (Kd.R_base ho72) hb)
                   have n4_ := Aside0.mk (Kd.R_lower (Kd.R_new' (Kd.R_new' (Kd.R_new' (Kd.R_new' ho72 (Kd.R_lt (by (with_reducible repeat (first | apply Kd.R_alloc | apply Kd.R_drewN | apply Kd.R_drew)); exact HO_7.out))) (Kd.R_lt (by (with_reducible repeat (first | apply Kd.R_alloc | apply Kd.R_drewN | apply Kd.R_drew)); exact HO_262000.out))) (Kd.R_lt (by (with_reducible repeat (first | apply Kd.R_alloc | apply Kd.R_drewN | apply Kd.R_drew)); exact HO279.out))) (Kd.R_lt (by (with_reducible repeat (first | apply Kd.R_alloc | apply Kd.R_drewN | apply Kd.R_drew)); exact HO283.out))) (below_size (by repeat (first | (with_reducible first | exact HB.out | apply below_alloc | apply pw_below_drewN | apply below_drew1 | refine below_set ?_ GE261.out | refine below_set ?_ GE273.out | refine below_set ?_ GE280.out) | exact HB.out))))
                   have n5_ := Aside0.mk (blk_below (g := gb261) (o := .cells #[.slice Ao30 x262000_2.length co30] 26 (0, 0)) (by (with_reducible repeat (first | refine blk_drewN ?_ _ | refine blk_drew ?_ | refine blk_alloc ?_ _)); exact BK261.out) hb)
                   have n6_ := Aside0.mk (blk_below (g := gb273) (o := .cells #[.int .i64 ((rd_T32 l1 x8_2).f0), .int .u64 ((rd_T32 l1 x8_2).f1)] 32 (0, 0)) (by (with_reducible repeat (first | refine blk_drewN ?_ _ | refine blk_drew ?_ | refine blk_alloc ?_ _)); exact BK273.out) hb)
                   have n7_ := Aside0.mk (blk_below (g := gb280) (o := .cells #[.slice Ao66 t281.length co66] 26 (0, 0)) (by (with_reducible repeat (first | refine blk_drewN ?_ _ | refine blk_drew ?_ | refine blk_alloc ?_ _)); exact BK280.out) hb)
                   have n8_ := Aside0.mk (below_step (by repeat (first | (with_reducible first | exact HB.out | apply below_alloc | apply pw_below_drewN | apply below_drew1 | refine below_set ?_ GE261.out | refine below_set ?_ GE273.out | refine below_set ?_ GE280.out) | exact HB.out)) hb)
                   clear HO_7
                   clear HO_262000
                   clear HO279
                   clear HO283
                   clear BK261
                   clear BK273
                   clear BK280
                   clear HB
                   have HO_7 := n0_
                   have HO_262000 := n1_
                   have HO279 := n2_
                   have HO283 := n3_
                   have HO287 := n4_
                   have BK261 := n5_
                   have BK273 := n6_
                   have BK280 := n7_
                   have HB := n8_
                   clear n0_ n1_ n2_ n3_ n4_ n5_ n6_ n7_ n8_
                   clear hb ho72
                   refine hK.out _ _ ⟨(blk_cell BK273.out 0).trans rfl, (blk_cell BK273.out 1).trans rfl⟩ (fun hHeld => ?_)
                   clear hK K
                   refine norm_ (a' := ?_) ?_ ?_
                   rotate_left
                   ·show Act.put _ (some 65) _ = _
                    simp only [Act.put, List.setIfInBounds_toArray, List.set_cons_zero, List.set_cons_succ, i64_w, i32_w]
                    rfl
                   refine two_ (i := 2) (j := 5) (Ni := some 67) (Nj := some 70) #[true, true, true, true, true, false, false, false] #[true, true, false, true, true, true, false, false] rfl rfl rfl rfl (two_of HT_.out (by kernel_rfl)) (by decide) (by decide) (fun K hK => ?_) (fun K hK => ?_)
                   ·skip
                    refine Kd.R_append_rows_step (Kd.int .u64) (w0 := w) w.heap.size (by rfl) (.tmp 65) (.tmp 66) 22 30 (.int .u64 0) 8 rfl Try.underlying22 info30 rfl (by decide) (by omega) v286 y285 x7_2 _ _ _ (fun k_ => some k_ ≠ (.slice Ao68 x7_2.length co68 : Value).ownBlock ∧ some k_ ≠ (.slice Ao30 x262000_2.length co30 : Value).ownBlock ∧ some k_ ≠ (v278 : Value).ownBlock ∧ some k_ ≠ (.slice Ao66 t281.length co66 : Value).ownBlock) (fun _ => False) rfl rfl ?aO ?aR (fun _ _ h => h) (fun _ h => h.elim) ?aF ?aB ?aS ?aL ?_
                    (case aR => repeat (first | exact (Kd.R_reads' HO_7.out).2.2 | (with_reducible refine Kd.C_alloc ?_ _) | (with_reducible refine Kd.C_drewN ?_ _) | (with_reducible refine Kd.C_drew ?_)))
                    (case aB => exact (by repeat (first | (with_reducible first | exact HB.out | apply below_alloc | apply pw_below_drewN | apply below_drew1 | refine below_set ?_ GE261.out | refine below_set ?_ GE273.out | refine below_set ?_ GE280.out) | exact HB.out)))
                    (case aF => exact (fun k_ hk => ⟨Kd.fresh' (Kd.R_lt (by (with_reducible repeat (first | apply Kd.R_alloc | apply Kd.R_drewN | apply Kd.R_drew)); exact HO_7.out)) k_ hk, Kd.fresh' (Kd.R_lt (by (with_reducible repeat (first | apply Kd.R_alloc | apply Kd.R_drewN | apply Kd.R_drew)); exact HO_262000.out)) k_ hk, Kd.fresh' (Kd.R_lt (by (with_reducible repeat (first | apply Kd.R_alloc | apply Kd.R_drewN | apply Kd.R_drew)); exact HO279.out)) k_ hk, Kd.fresh' (Kd.R_lt (by (with_reducible repeat (first | apply Kd.R_alloc | apply Kd.R_drewN | apply Kd.R_drew)); exact HO283.out)) k_ hk⟩))
                    (case aO => exact (by (with_reducible repeat (first | apply Kd.R_alloc | apply Kd.R_drewN | apply Kd.R_drew)); exact Kd.R_mono HO287.out (fun _ hk => ⟨hk.1.1.1.2, ⟨hk.1.1.2, ⟨hk.1.2, hk.2⟩⟩⟩)))
                    (case aS => exact (below_size (by repeat (first | (with_reducible first | exact HB.out | apply below_alloc | apply pw_below_drewN | apply below_drew1 | refine below_set ?_ GE261.out | refine below_set ?_ GE273.out | refine below_set ?_ GE280.out) | exact HB.out))))
                    (case aL => have := LMc36.out; omega)
                    intro v289 w73 ho hb hg hat
                    rw [← Ny288.out] at ho
                    have n0_ := Aside0.mk (Kd.R_after (ok := (fun k_ => some k_ ≠ (.slice Ao30 x262000_2.length co30 : Value).ownBlock ∧ some k_ ≠ (v278 : Value).ownBlock ∧ some k_ ≠ (.slice Ao66 t281.length co66 : Value).ownBlock)) (by (with_reducible repeat (first | apply Kd.R_alloc | apply Kd.R_drewN | apply Kd.R_drew)); exact HO_7.out) hg hat)
                    have n1_ := Aside0.mk (Kd.R_after (ok := (fun k_ => some k_ ≠ (.slice Ao68 x7_2.length co68 : Value).ownBlock ∧ some k_ ≠ (v278 : Value).ownBlock ∧ some k_ ≠ (.slice Ao66 t281.length co66 : Value).ownBlock)) (by (with_reducible repeat (first | apply Kd.R_alloc | apply Kd.R_drewN | apply Kd.R_drew)); exact HO_262000.out) hg hat)
                    have n2_ := Aside0.mk (blk_grown (g := gb261) (o := .cells #[.slice Ao30 x262000_2.length co30] 26 (0, 0)) (by (with_reducible repeat (first | refine blk_drewN ?_ _ | refine blk_drew ?_ | refine blk_alloc ?_ _)); exact BK261.out) hg (Kd.R_ne HO287.out BK261.out (by decide)))
                    have n3_ := Aside0.mk (blk_grown (g := gb273) (o := .cells #[.int .i64 ((rd_T32 l1 x8_2).f0), .int .u64 ((rd_T32 l1 x8_2).f1)] 32 (0, 0)) (by (with_reducible repeat (first | refine blk_drewN ?_ _ | refine blk_drew ?_ | refine blk_alloc ?_ _)); exact BK273.out) hg (Kd.R_ne HO287.out BK273.out (by decide)))
                    have n4_ := Aside0.mk (Kd.R_after (ok := (fun k_ => some k_ ≠ (.slice Ao68 x7_2.length co68 : Value).ownBlock ∧ some k_ ≠ (.slice Ao30 x262000_2.length co30 : Value).ownBlock ∧ some k_ ≠ (.slice Ao66 t281.length co66 : Value).ownBlock)) (by (with_reducible repeat (first | apply Kd.R_alloc | apply Kd.R_drewN | apply Kd.R_drew)); exact HO279.out) hg hat)
                    have n5_ := Aside0.mk (blk_grown (g := gb280) (o := .cells #[.slice Ao66 t281.length co66] 26 (0, 0)) (by (with_reducible repeat (first | refine blk_drewN ?_ _ | refine blk_drew ?_ | refine blk_alloc ?_ _)); exact BK280.out) hg (Kd.R_ne HO287.out BK280.out (by decide)))
                    have n6_ := Aside0.mk (Kd.R_after (ok := (fun k_ => some k_ ≠ (.slice Ao68 x7_2.length co68 : Value).ownBlock ∧ some k_ ≠ (.slice Ao30 x262000_2.length co30 : Value).ownBlock ∧ some k_ ≠ (v278 : Value).ownBlock)) (by (with_reducible repeat (first | apply Kd.R_alloc | apply Kd.R_drewN | apply Kd.R_drew)); exact HO283.out) hg hat)
                    have n7_ := Aside0.mk (hb)
                    have n8_ := Aside0.mk (ho)
                    clear HO_7
                    clear HO_262000
                    clear BK261
                    clear BK273
                    clear HO279
                    clear BK280
                    clear HO283
                    clear HB
                    clear HO287
                    have HO_7 := n0_
                    have HO_262000 := n1_
                    have BK261 := n2_
                    have BK273 := n3_
                    have HO279 := n4_
                    have BK280 := n5_
                    have HO283 := n6_
                    have HB := n7_
                    have HO290 := n8_
                    clear n0_ n1_ n2_ n3_ n4_ n5_ n6_ n7_ n8_
                    clear ho hb hg hat
                    refine hK.out _ _ ⟨(blk_cell BK273.out 0).trans rfl, (blk_cell BK273.out 1).trans rfl⟩ (fun hHeld => ?_)
                    clear hK K
                    refine norm_ (a' := ?_) ?_ ?_
                    rotate_left
                    ·show Act.put _ (some 67) _ = _
                     simp only [Act.put, List.setIfInBounds_toArray, List.set_cons_zero, List.set_cons_succ, i64_w, i32_w]
                     rfl
                    refine one_ (i := 5) (N := some 70) #[true, true, true, true, true, true, false, false] rfl rfl (one_of HT_.out (by kernel_rfl)) (by decide) (fun K hK => ?_)
                    refine Kd.R_lit_step (Kd.int .u64) _ 30 ?hg (N := 70) ?hd (xs := ([(rd_T32 l1 x8_2).f1] : List Int)) (inner := [.int .u64 ((rd_T32 l1 x8_2).f1)]) (ok := fun _ => True) (okp := fun _ => True) ?hr ?hp (fun _ hk => hk) trivial (Below.refl _ _) (Nat.le_refl _) (by simp) ?_; (case hd => rfl); (case hg => rfl); (case hr => first | (go_simp; done) | (go_simp; rfl)); (case hp => exact (Reps.one (show Kd.M (Kd.int .u64) _ _ _ ((rd_T32 l1 x8_2).f1) [.int .u64 ((rd_T32 l1 x8_2).f1)] from rfl) (Reps.none _ _)))
                    intro v292 w74 ho75 hb hg_ hnew_
                    clear hg_ hnew_
                    (first | rw [← Ny291.out] at ho75 | (simp only [Int.reduceToNat] at ho75; rw [← Ny291.out] at ho75))
                    have n0_ := Aside0.mk (Kd.R_elder' (by (with_reducible repeat (first | apply Kd.R_alloc | apply Kd.R_drewN | apply Kd.R_drew)); exact HO_7.out) (Kd.R_base ho75) hb)
                    have n1_ := Aside0.mk (Kd.R_elder' (by (with_reducible repeat (first | apply Kd.R_alloc | apply Kd.R_drewN | apply Kd.R_drew)); exact HO_262000.out) (Kd.R_base ho75) hb)
                    have n2_ := Aside0.mk (Kd.R_elder' (by (with_reducible repeat (first | apply Kd.R_alloc | apply Kd.R_drewN | apply Kd.R_drew)); exact HO279.out) (Kd.R_base ho75) hb)
                    have n3_ := Aside0.mk (Kd.R_elder' (by (with_reducible repeat (first | apply Kd.R_alloc | apply Kd.R_drewN | apply Kd.R_drew)); exact HO283.out) (Kd.R_base ho75) hb)
                    have n4_ := Aside0.mk (Kd.R_elder' (by (with_reducible repeat (first | apply Kd.R_alloc | apply Kd.R_drewN | apply Kd.R_drew)); exact HO290.out) (Kd.R_base ho75) hb)
                    have n5_ := Aside0.mk (Kd.R_lower (Kd.R_new' (Kd.R_new' (Kd.R_new' (Kd.R_new' (Kd.R_new' ho75 (Kd.R_lt (by (with_reducible repeat (first | apply Kd.R_alloc | apply Kd.R_drewN | apply Kd.R_drew)); exact HO_7.out))) (Kd.R_lt (by (with_reducible repeat (first | apply Kd.R_alloc | apply Kd.R_drewN | apply Kd.R_drew)); exact HO_262000.out))) (Kd.R_lt (by (with_reducible repeat (first | apply Kd.R_alloc | apply Kd.R_drewN | apply Kd.R_drew)); exact HO279.out))) (Kd.R_lt (by (with_reducible repeat (first | apply Kd.R_alloc | apply Kd.R_drewN | apply Kd.R_drew)); exact HO283.out))) (Kd.R_lt (by (with_reducible repeat (first | apply Kd.R_alloc | apply Kd.R_drewN | apply Kd.R_drew)); exact HO290.out))) (below_size (by repeat (first | (with_reducible first | exact HB.out | apply below_alloc | apply pw_below_drewN | apply below_drew1 | refine below_set ?_ GE261.out | refine below_set ?_ GE273.out | refine below_set ?_ GE280.out) | exact HB.out))))
                    have n6_ := Aside0.mk (blk_below (g := gb261) (o := .cells #[.slice Ao30 x262000_2.length co30] 26 (0, 0)) (by (with_reducible repeat (first | refine blk_drewN ?_ _ | refine blk_drew ?_ | refine blk_alloc ?_ _)); exact BK261.out) hb)
                    have n7_ := Aside0.mk (blk_below (g := gb273) (o := .cells #[.int .i64 ((rd_T32 l1 x8_2).f0), .int .u64 ((rd_T32 l1 x8_2).f1)] 32 (0, 0)) (by (with_reducible repeat (first | refine blk_drewN ?_ _ | refine blk_drew ?_ | refine blk_alloc ?_ _)); exact BK273.out) hb)
                    have n8_ := Aside0.mk (blk_below (g := gb280) (o := .cells #[.slice Ao66 t281.length co66] 26 (0, 0)) (by (with_reducible repeat (first | refine blk_drewN ?_ _ | refine blk_drew ?_ | refine blk_alloc ?_ _)); exact BK280.out) hb)
                    have n9_ := Aside0.mk (below_step (by repeat (first | (with_reducible first | exact HB.out | apply below_alloc | apply pw_below_drewN | apply below_drew1 | refine below_set ?_ GE261.out | refine below_set ?_ GE273.out | refine below_set ?_ GE280.out) | exact HB.out)) hb)
                    clear HO_7
                    clear HO_262000
                    clear HO279
                    clear HO283
                    clear HO290
                    clear BK261
                    clear BK273
                    clear BK280
                    clear HB
                    have HO_7 := n0_
                    have HO_262000 := n1_
                    have HO279 := n2_
                    have HO283 := n3_
                    have HO290 := n4_
                    have HO293 := n5_
                    have BK261 := n6_
                    have BK273 := n7_
                    have BK280 := n8_
                    have HB := n9_
                    clear n0_ n1_ n2_ n3_ n4_ n5_ n6_ n7_ n8_ n9_
                    clear hb ho75
                    refine hK.out _ _ ⟨(blk_cell BK273.out 0).trans rfl, (blk_cell BK273.out 1).trans rfl⟩ (fun hHeld => ?_)
                    clear hK K
                    refine norm_ (a' := ?_) ?_ ?_
                    rotate_left
                    ·show Act.put _ (some 70) _ = _
                     simp only [Act.put, List.setIfInBounds_toArray, List.set_cons_zero, List.set_cons_succ, i64_w, i32_w]
                     rfl
                    exact norm_ (by simp only [putAll, Act.put, List.setIfInBounds_toArray, List.set_cons_zero, List.set_cons_succ]) (hCont (v286, v289, v292) _ ⟨hHeld, (by (with_reducible repeat (first | apply Kd.R_alloc | apply Kd.R_drewN | apply Kd.R_drew)); exact Kd.R_mono HO279.out (fun _ hk => ⟨hk.1.1.2.2, ⟨hk.1.2, ⟨hk.2, ⟨hk.1.1.2.1, hk.1.1.1⟩⟩⟩⟩)), (by (with_reducible repeat (first | apply Kd.R_alloc | apply Kd.R_drewN | apply Kd.R_drew)); exact Kd.R_mono HO283.out (fun _ hk => ⟨hk.1.1.2.2, ⟨hk.1.2, ⟨hk.2, ⟨hk.1.1.2.1, hk.1.1.1⟩⟩⟩⟩)), (by (with_reducible repeat (first | apply Kd.R_alloc | apply Kd.R_drewN | apply Kd.R_drew)); exact Kd.R_mono HO290.out (fun _ hk => ⟨hk.1.2.2.1, ⟨hk.1.2.2.2, ⟨hk.2, ⟨hk.1.2.1, hk.1.1⟩⟩⟩⟩)), (by (with_reducible repeat (first | apply Kd.R_alloc | apply Kd.R_drewN | apply Kd.R_drew)); exact Kd.R_mono HO293.out (fun _ hk => ⟨hk.1.1.2, ⟨hk.1.2, ⟨hk.2, ⟨hk.1.1.1.2, hk.1.1.1.1.2⟩⟩⟩⟩)), (by (with_reducible repeat (first | apply Kd.R_alloc | apply Kd.R_drewN | apply Kd.R_drew)); exact Kd.R_mono HO_262000.out (fun _ hk => ⟨hk.1.1.2.1, ⟨hk.1.1.2.2, ⟨hk.1.2, ⟨hk.2, hk.1.1.1⟩⟩⟩⟩)), (by (with_reducible repeat (first | apply Kd.R_alloc | apply Kd.R_drewN | apply Kd.R_drew)); exact Kd.R_mono HO_7.out (fun _ hk => ⟨hk.1.1.2.1, ⟨hk.1.1.2.2, ⟨hk.1.2, ⟨hk.2, hk.1.1.1⟩⟩⟩⟩)), (by (with_reducible repeat (first | refine blk_drewN ?_ _ | refine blk_drew ?_ | refine blk_alloc ?_ _)); exact BK261.out), (by (with_reducible repeat (first | refine blk_drewN ?_ _ | refine blk_drew ?_ | refine blk_alloc ?_ _)); exact BK273.out), (by (with_reducible repeat (first | refine blk_drewN ?_ _ | refine blk_drew ?_ | refine blk_alloc ?_ _)); exact BK280.out), (by repeat (first | (with_reducible first | exact HB.out | apply below_alloc | apply pw_below_drewN | apply below_drew1 | refine below_set ?_ GE261.out | refine below_set ?_ GE273.out | refine below_set ?_ GE280.out) | exact HB.out))⟩)
                   ·skip
                    refine Kd.R_lit_step (Kd.int .u64) _ 30 ?hg (N := 70) ?hd (xs := ([(rd_T32 l1 x8_2).f1] : List Int)) (inner := [.int .u64 ((rd_T32 l1 x8_2).f1)]) (ok := fun _ => True) (okp := fun _ => True) ?hr ?hp (fun _ hk => hk) trivial (Below.refl _ _) (Nat.le_refl _) (by simp) ?_; (case hd => rfl); (case hg => rfl); (case hr => first | (go_simp; done) | (go_simp; rfl)); (case hp => exact (Reps.one (show Kd.M (Kd.int .u64) _ _ _ ((rd_T32 l1 x8_2).f1) [.int .u64 ((rd_T32 l1 x8_2).f1)] from rfl) (Reps.none _ _)))
                    intro v292 w73 ho74 hb hg_ hnew_
                    clear hg_ hnew_
                    (first | rw [← Ny291.out] at ho74 | (simp only [Int.reduceToNat] at ho74; rw [← Ny291.out] at ho74))
                    have n0_ := Aside0.mk (Kd.R_elder' (by (with_reducible repeat (first | apply Kd.R_alloc | apply Kd.R_drewN | apply Kd.R_drew)); exact HO_7.out) (Kd.R_base ho74) hb)
                    have n1_ := Aside0.mk (Kd.R_elder' (by (with_reducible repeat (first | apply Kd.R_alloc | apply Kd.R_drewN | apply Kd.R_drew)); exact HO_262000.out) (Kd.R_base ho74) hb)
                    have n2_ := Aside0.mk (Kd.R_elder' (by (with_reducible repeat (first | apply Kd.R_alloc | apply Kd.R_drewN | apply Kd.R_drew)); exact HO279.out) (Kd.R_base ho74) hb)
                    have n3_ := Aside0.mk (Kd.R_elder' (by (with_reducible repeat (first | apply Kd.R_alloc | apply Kd.R_drewN | apply Kd.R_drew)); exact HO283.out) (Kd.R_base ho74) hb)
                    have n4_ := Aside0.mk (Kd.R_elder' (by (with_reducible repeat (first | apply Kd.R_alloc | apply Kd.R_drewN | apply Kd.R_drew)); exact HO287.out) (Kd.R_base ho74) hb)
                    have n5_ := Aside0.mk (Kd.R_lower (Kd.R_new' (Kd.R_new' (Kd.R_new' (Kd.R_new' (Kd.R_new' ho74 (Kd.R_lt (by (with_reducible repeat (first | apply Kd.R_alloc | apply Kd.R_drewN | apply Kd.R_drew)); exact HO_7.out))) (Kd.R_lt (by (with_reducible repeat (first | apply Kd.R_alloc | apply Kd.R_drewN | apply Kd.R_drew)); exact HO_262000.out))) (Kd.R_lt (by (with_reducible repeat (first | apply Kd.R_alloc | apply Kd.R_drewN | apply Kd.R_drew)); exact HO279.out))) (Kd.R_lt (by (with_reducible repeat (first | apply Kd.R_alloc | apply Kd.R_drewN | apply Kd.R_drew)); exact HO283.out))) (Kd.R_lt (by (with_reducible repeat (first | apply Kd.R_alloc | apply Kd.R_drewN | apply Kd.R_drew)); exact HO287.out))) (below_size (by repeat (first | (with_reducible first | exact HB.out | apply below_alloc | apply pw_below_drewN | apply below_drew1 | refine below_set ?_ GE261.out | refine below_set ?_ GE273.out | refine below_set ?_ GE280.out) | exact HB.out))))
                    have n6_ := Aside0.mk (blk_below (g := gb261) (o := .cells #[.slice Ao30 x262000_2.length co30] 26 (0, 0)) (by (with_reducible repeat (first | refine blk_drewN ?_ _ | refine blk_drew ?_ | refine blk_alloc ?_ _)); exact BK261.out) hb)
                    have n7_ := Aside0.mk (blk_below (g := gb273) (o := .cells #[.int .i64 ((rd_T32 l1 x8_2).f0), .int .u64 ((rd_T32 l1 x8_2).f1)] 32 (0, 0)) (by (with_reducible repeat (first | refine blk_drewN ?_ _ | refine blk_drew ?_ | refine blk_alloc ?_ _)); exact BK273.out) hb)
                    have n8_ := Aside0.mk (blk_below (g := gb280) (o := .cells #[.slice Ao66 t281.length co66] 26 (0, 0)) (by (with_reducible repeat (first | refine blk_drewN ?_ _ | refine blk_drew ?_ | refine blk_alloc ?_ _)); exact BK280.out) hb)
                    have n9_ := Aside0.mk (below_step (by repeat (first | (with_reducible first | exact HB.out | apply below_alloc | apply pw_below_drewN | apply below_drew1 | refine below_set ?_ GE261.out | refine below_set ?_ GE273.out | refine below_set ?_ GE280.out) | exact HB.out)) hb)
                    clear HO_7
                    clear HO_262000
                    clear HO279
                    clear HO283
                    clear HO287
                    clear BK261
                    clear BK273
                    clear BK280
                    clear HB
                    have HO_7 := n0_
                    have HO_262000 := n1_
                    have HO279 := n2_
                    have HO283 := n3_
                    have HO287 := n4_
                    have HO293 := n5_
                    have BK261 := n6_
                    have BK273 := n7_
                    have BK280 := n8_
                    have HB := n9_
                    clear n0_ n1_ n2_ n3_ n4_ n5_ n6_ n7_ n8_ n9_
                    clear hb ho74
                    refine hK.out _ _ ⟨(blk_cell BK273.out 0).trans rfl, (blk_cell BK273.out 1).trans rfl⟩ (fun hHeld => ?_)
                    clear hK K
                    refine norm_ (a' := ?_) ?_ ?_
                    rotate_left
                    ·show Act.put _ (some 70) _ = _
                     simp only [Act.put, List.setIfInBounds_toArray, List.set_cons_zero, List.set_cons_succ, i64_w, i32_w]
                     rfl
                    refine one_ (i := 2) (N := some 67) #[true, true, true, true, true, true, false, false] rfl rfl (one_of HT_.out (by kernel_rfl)) (by decide) (fun K hK => ?_)
                    refine Kd.R_append_rows_step (Kd.int .u64) (w0 := w) w.heap.size (by rfl) (.tmp 65) (.tmp 66) 22 30 (.int .u64 0) 8 rfl Try.underlying22 info30 rfl (by decide) (by omega) v286 y285 x7_2 _ _ _ (fun k_ => some k_ ≠ (.slice Ao68 x7_2.length co68 : Value).ownBlock ∧ some k_ ≠ (.slice Ao30 x262000_2.length co30 : Value).ownBlock ∧ some k_ ≠ (v278 : Value).ownBlock ∧ some k_ ≠ (.slice Ao66 t281.length co66 : Value).ownBlock ∧ some k_ ≠ (v292 : Value).ownBlock) (fun _ => False) rfl rfl ?aO ?aR (fun _ _ h => h) (fun _ h => h.elim) ?aF ?aB ?aS ?aL ?_
                    (case aR => repeat (first | exact (Kd.R_reads' HO_7.out).2.2 | (with_reducible refine Kd.C_alloc ?_ _) | (with_reducible refine Kd.C_drewN ?_ _) | (with_reducible refine Kd.C_drew ?_)))
                    (case aB => exact (by repeat (first | (with_reducible first | exact HB.out | apply below_alloc | apply pw_below_drewN | apply below_drew1 | refine below_set ?_ GE261.out | refine below_set ?_ GE273.out | refine below_set ?_ GE280.out) | exact HB.out)))
                    (case aF => exact (fun k_ hk => ⟨Kd.fresh' (Kd.R_lt (by (with_reducible repeat (first | apply Kd.R_alloc | apply Kd.R_drewN | apply Kd.R_drew)); exact HO_7.out)) k_ hk, Kd.fresh' (Kd.R_lt (by (with_reducible repeat (first | apply Kd.R_alloc | apply Kd.R_drewN | apply Kd.R_drew)); exact HO_262000.out)) k_ hk, Kd.fresh' (Kd.R_lt (by (with_reducible repeat (first | apply Kd.R_alloc | apply Kd.R_drewN | apply Kd.R_drew)); exact HO279.out)) k_ hk, Kd.fresh' (Kd.R_lt (by (with_reducible repeat (first | apply Kd.R_alloc | apply Kd.R_drewN | apply Kd.R_drew)); exact HO283.out)) k_ hk, Kd.fresh' (Kd.R_lt (by (with_reducible repeat (first | apply Kd.R_alloc | apply Kd.R_drewN | apply Kd.R_drew)); exact HO293.out)) k_ hk⟩))
                    (case aO => exact (by (with_reducible repeat (first | apply Kd.R_alloc | apply Kd.R_drewN | apply Kd.R_drew)); exact Kd.R_mono HO287.out (fun _ hk => ⟨hk.1.1.1.1.2, ⟨hk.1.1.1.2, ⟨hk.1.1.2, ⟨hk.1.2, hk.2⟩⟩⟩⟩)))
                    (case aS => exact (below_size (by repeat (first | (with_reducible first | exact HB.out | apply below_alloc | apply pw_below_drewN | apply below_drew1 | refine below_set ?_ GE261.out | refine below_set ?_ GE273.out | refine below_set ?_ GE280.out) | exact HB.out))))
                    (case aL => have := LMc36.out; omega)
                    intro v289 w75 ho hb hg hat
                    rw [← Ny288.out] at ho
                    have n0_ := Aside0.mk (Kd.R_after (ok := (fun k_ => some k_ ≠ (.slice Ao30 x262000_2.length co30 : Value).ownBlock ∧ some k_ ≠ (v278 : Value).ownBlock ∧ some k_ ≠ (.slice Ao66 t281.length co66 : Value).ownBlock ∧ some k_ ≠ (v292 : Value).ownBlock)) (by (with_reducible repeat (first | apply Kd.R_alloc | apply Kd.R_drewN | apply Kd.R_drew)); exact Kd.R_mono HO_7.out (fun _ hk => ⟨⟨hk.1.1.1, ⟨hk.1.1.2.1, ⟨hk.1.1.2.2, hk.2⟩⟩⟩, hk.1.2⟩)) hg hat)
                    have n1_ := Aside0.mk (Kd.R_after (ok := (fun k_ => some k_ ≠ (.slice Ao68 x7_2.length co68 : Value).ownBlock ∧ some k_ ≠ (v278 : Value).ownBlock ∧ some k_ ≠ (.slice Ao66 t281.length co66 : Value).ownBlock ∧ some k_ ≠ (v292 : Value).ownBlock)) (by (with_reducible repeat (first | apply Kd.R_alloc | apply Kd.R_drewN | apply Kd.R_drew)); exact Kd.R_mono HO_262000.out (fun _ hk => ⟨⟨hk.1.1.1, ⟨hk.1.1.2.1, ⟨hk.1.1.2.2, hk.2⟩⟩⟩, hk.1.2⟩)) hg hat)
                    have n2_ := Aside0.mk (blk_grown (g := gb261) (o := .cells #[.slice Ao30 x262000_2.length co30] 26 (0, 0)) (by (with_reducible repeat (first | refine blk_drewN ?_ _ | refine blk_drew ?_ | refine blk_alloc ?_ _)); exact BK261.out) hg (Kd.R_ne HO287.out BK261.out (by decide)))
                    have n3_ := Aside0.mk (blk_grown (g := gb273) (o := .cells #[.int .i64 ((rd_T32 l1 x8_2).f0), .int .u64 ((rd_T32 l1 x8_2).f1)] 32 (0, 0)) (by (with_reducible repeat (first | refine blk_drewN ?_ _ | refine blk_drew ?_ | refine blk_alloc ?_ _)); exact BK273.out) hg (Kd.R_ne HO287.out BK273.out (by decide)))
                    have n4_ := Aside0.mk (Kd.R_after (ok := (fun k_ => some k_ ≠ (.slice Ao68 x7_2.length co68 : Value).ownBlock ∧ some k_ ≠ (.slice Ao30 x262000_2.length co30 : Value).ownBlock ∧ some k_ ≠ (.slice Ao66 t281.length co66 : Value).ownBlock ∧ some k_ ≠ (v292 : Value).ownBlock)) (by (with_reducible repeat (first | apply Kd.R_alloc | apply Kd.R_drewN | apply Kd.R_drew)); exact Kd.R_mono HO279.out (fun _ hk => ⟨⟨hk.1.1.1, ⟨hk.1.1.2.1, ⟨hk.1.1.2.2, hk.2⟩⟩⟩, hk.1.2⟩)) hg hat)
                    have n5_ := Aside0.mk (blk_grown (g := gb280) (o := .cells #[.slice Ao66 t281.length co66] 26 (0, 0)) (by (with_reducible repeat (first | refine blk_drewN ?_ _ | refine blk_drew ?_ | refine blk_alloc ?_ _)); exact BK280.out) hg (Kd.R_ne HO287.out BK280.out (by decide)))
                    have n6_ := Aside0.mk (Kd.R_after (ok := (fun k_ => some k_ ≠ (.slice Ao68 x7_2.length co68 : Value).ownBlock ∧ some k_ ≠ (.slice Ao30 x262000_2.length co30 : Value).ownBlock ∧ some k_ ≠ (v278 : Value).ownBlock ∧ some k_ ≠ (v292 : Value).ownBlock)) (by (with_reducible repeat (first | apply Kd.R_alloc | apply Kd.R_drewN | apply Kd.R_drew)); exact Kd.R_mono HO283.out (fun _ hk => ⟨⟨hk.1.1.1, ⟨hk.1.1.2.1, ⟨hk.1.1.2.2, hk.2⟩⟩⟩, hk.1.2⟩)) hg hat)
                    have n7_ := Aside0.mk (Kd.R_after (ok := (fun k_ => some k_ ≠ (.slice Ao68 x7_2.length co68 : Value).ownBlock ∧ some k_ ≠ (.slice Ao30 x262000_2.length co30 : Value).ownBlock ∧ some k_ ≠ (v278 : Value).ownBlock ∧ some k_ ≠ (.slice Ao66 t281.length co66 : Value).ownBlock)) (by (with_reducible repeat (first | apply Kd.R_alloc | apply Kd.R_drewN | apply Kd.R_drew)); exact Kd.R_mono HO293.out (fun _ hk => ⟨⟨hk.1.1.1.1.2, ⟨hk.1.1.1.2, ⟨hk.1.1.2, hk.1.2⟩⟩⟩, hk.2⟩)) hg hat)
                    have n8_ := Aside0.mk (hb)
                    have n9_ := Aside0.mk (ho)
                    clear HO_7
                    clear HO_262000
                    clear BK261
                    clear BK273
                    clear HO279
                    clear BK280
                    clear HO283
                    clear HO293
                    clear HB
                    clear HO287
                    have HO_7 := n0_
                    have HO_262000 := n1_
                    have BK261 := n2_
                    have BK273 := n3_
                    have HO279 := n4_
                    have BK280 := n5_
                    have HO283 := n6_
                    have HO293 := n7_
                    have HB := n8_
                    have HO290 := n9_
                    clear n0_ n1_ n2_ n3_ n4_ n5_ n6_ n7_ n8_ n9_
                    clear ho hb hg hat
                    refine hK.out _ _ ⟨(blk_cell BK273.out 0).trans rfl, (blk_cell BK273.out 1).trans rfl⟩ (fun hHeld => ?_)
                    clear hK K
                    refine norm_ (a' := ?_) ?_ ?_
                    rotate_left
                    ·show Act.put _ (some 67) _ = _
                     simp only [Act.put, List.setIfInBounds_toArray, List.set_cons_zero, List.set_cons_succ, i64_w, i32_w]
                     rfl
                    exact norm_ (by simp only [putAll, Act.put, List.setIfInBounds_toArray, List.set_cons_zero, List.set_cons_succ]) (hCont (v286, v289, v292) _ ⟨hHeld, (by (with_reducible repeat (first | apply Kd.R_alloc | apply Kd.R_drewN | apply Kd.R_drew)); exact Kd.R_mono HO279.out (fun _ hk => ⟨hk.1.2.2.1, ⟨hk.2, ⟨hk.1.2.2.2, ⟨hk.1.2.1, hk.1.1⟩⟩⟩⟩)), (by (with_reducible repeat (first | apply Kd.R_alloc | apply Kd.R_drewN | apply Kd.R_drew)); exact Kd.R_mono HO283.out (fun _ hk => ⟨hk.1.2.2.1, ⟨hk.2, ⟨hk.1.2.2.2, ⟨hk.1.2.1, hk.1.1⟩⟩⟩⟩)), (by (with_reducible repeat (first | apply Kd.R_alloc | apply Kd.R_drewN | apply Kd.R_drew)); exact Kd.R_mono HO290.out (fun _ hk => ⟨hk.2.2.1, ⟨hk.2.2.2.1, ⟨hk.2.2.2.2, ⟨hk.2.1, hk.1⟩⟩⟩⟩)), (by (with_reducible repeat (first | apply Kd.R_alloc | apply Kd.R_drewN | apply Kd.R_drew)); exact Kd.R_mono HO293.out (fun _ hk => ⟨hk.1.2.2.1, ⟨hk.1.2.2.2, ⟨hk.2, ⟨hk.1.2.1, hk.1.1⟩⟩⟩⟩)), (by (with_reducible repeat (first | apply Kd.R_alloc | apply Kd.R_drewN | apply Kd.R_drew)); exact Kd.R_mono HO_262000.out (fun _ hk => ⟨hk.1.2.1, ⟨hk.1.2.2.1, ⟨hk.2, ⟨hk.1.2.2.2, hk.1.1⟩⟩⟩⟩)), (by (with_reducible repeat (first | apply Kd.R_alloc | apply Kd.R_drewN | apply Kd.R_drew)); exact Kd.R_mono HO_7.out (fun _ hk => ⟨hk.1.2.1, ⟨hk.1.2.2.1, ⟨hk.2, ⟨hk.1.2.2.2, hk.1.1⟩⟩⟩⟩)), (by (with_reducible repeat (first | refine blk_drewN ?_ _ | refine blk_drew ?_ | refine blk_alloc ?_ _)); exact BK261.out), (by (with_reducible repeat (first | refine blk_drewN ?_ _ | refine blk_drew ?_ | refine blk_alloc ?_ _)); exact BK273.out), (by (with_reducible repeat (first | refine blk_drewN ?_ _ | refine blk_drew ?_ | refine blk_alloc ?_ _)); exact BK280.out), (by repeat (first | (with_reducible first | exact HB.out | apply below_alloc | apply pw_below_drewN | apply below_drew1 | refine below_set ?_ GE261.out | refine below_set ?_ GE273.out | refine below_set ?_ GE280.out) | exact HB.out))⟩)
                  ·skip
                   refine Kd.R_lit_step (Kd.int .u64) _ 30 ?hg (N := 70) ?hd (xs := ([(rd_T32 l1 x8_2).f1] : List Int)) (inner := [.int .u64 ((rd_T32 l1 x8_2).f1)]) (ok := fun _ => True) (okp := fun _ => True) ?hr ?hp (fun _ hk => hk) trivial (Below.refl _ _) (Nat.le_refl _) (by simp) ?_; (case hd => rfl); (case hg => rfl); (case hr => first | (go_simp; done) | (go_simp; rfl)); (case hp => exact (Reps.one (show Kd.M (Kd.int .u64) _ _ _ ((rd_T32 l1 x8_2).f1) [.int .u64 ((rd_T32 l1 x8_2).f1)] from rfl) (Reps.none _ _)))
                   intro v292 w71 ho72 hb hg_ hnew_
                   clear hg_ hnew_
                   (first | rw [← Ny291.out] at ho72 | (simp only [Int.reduceToNat] at ho72; rw [← Ny291.out] at ho72))
                   have n0_ := Aside0.mk (Kd.R_elder' (by (with_reducible repeat (first | apply Kd.R_alloc | apply Kd.R_drewN | apply Kd.R_drew)); exact HO_7.out) (Kd.R_base ho72) hb)
                   have n1_ := Aside0.mk (Kd.R_elder' (by (with_reducible repeat (first | apply Kd.R_alloc | apply Kd.R_drewN | apply Kd.R_drew)); exact HO_262000.out) (Kd.R_base ho72) hb)
                   have n2_ := Aside0.mk (Kd.R_elder' (by (with_reducible repeat (first | apply Kd.R_alloc | apply Kd.R_drewN | apply Kd.R_drew)); exact HO279.out) (Kd.R_base ho72) hb)
                   have n3_ := Aside0.mk (Kd.R_elder' (by (with_reducible repeat (first | apply Kd.R_alloc | apply Kd.R_drewN | apply Kd.R_drew)); exact HO283.out) (Kd.R_base ho72) hb)
                   have n4_ := Aside0.mk (Kd.R_lower (Kd.R_new' (Kd.R_new' (Kd.R_new' (Kd.R_new' ho72 (Kd.R_lt (by (with_reducible repeat (first | apply Kd.R_alloc | apply Kd.R_drewN | apply Kd.R_drew)); exact HO_7.out))) (Kd.R_lt (by (with_reducible repeat (first | apply Kd.R_alloc | apply Kd.R_drewN | apply Kd.R_drew)); exact HO_262000.out))) (Kd.R_lt (by (with_reducible repeat (first | apply Kd.R_alloc | apply Kd.R_drewN | apply Kd.R_drew)); exact HO279.out))) (Kd.R_lt (by (with_reducible repeat (first | apply Kd.R_alloc | apply Kd.R_drewN | apply Kd.R_drew)); exact HO283.out))) (below_size (by repeat (first | (with_reducible first | exact HB.out | apply below_alloc | apply pw_below_drewN | apply below_drew1 | refine below_set ?_ GE261.out | refine below_set ?_ GE273.out | refine below_set ?_ GE280.out) | exact HB.out))))
                   have n5_ := Aside0.mk (blk_below (g := gb261) (o := .cells #[.slice Ao30 x262000_2.length co30] 26 (0, 0)) (by (with_reducible repeat (first | refine blk_drewN ?_ _ | refine blk_drew ?_ | refine blk_alloc ?_ _)); exact BK261.out) hb)
                   have n6_ := Aside0.mk (blk_below (g := gb273) (o := .cells #[.int .i64 ((rd_T32 l1 x8_2).f0), .int .u64 ((rd_T32 l1 x8_2).f1)] 32 (0, 0)) (by (with_reducible repeat (first | refine blk_drewN ?_ _ | refine blk_drew ?_ | refine blk_alloc ?_ _)); exact BK273.out) hb)
                   have n7_ := Aside0.mk (blk_below (g := gb280) (o := .cells #[.slice Ao66 t281.length co66] 26 (0, 0)) (by (with_reducible repeat (first | refine blk_drewN ?_ _ | refine blk_drew ?_ | refine blk_alloc ?_ _)); exact BK280.out) hb)
                   have n8_ := Aside0.mk (below_step (by repeat (first | (with_reducible first | exact HB.out | apply below_alloc | apply pw_below_drewN | apply below_drew1 | refine below_set ?_ GE261.out | refine below_set ?_ GE273.out | refine below_set ?_ GE280.out) | exact HB.out)) hb)
                   clear HO_7
                   clear HO_262000
                   clear HO279
                   clear HO283
                   clear BK261
                   clear BK273
                   clear BK280
                   clear HB
                   have HO_7 := n0_
                   have HO_262000 := n1_
                   have HO279 := n2_
                   have HO283 := n3_
                   have HO293 := n4_
                   have BK261 := n5_
                   have BK273 := n6_
                   have BK280 := n7_
                   have HB := n8_
                   clear n0_ n1_ n2_ n3_ n4_ n5_ n6_ n7_ n8_
                   clear hb ho72
                   refine hK.out _ _ ⟨(blk_cell BK273.out 0).trans rfl, (blk_cell BK273.out 1).trans rfl⟩ (fun hHeld => ?_)
                   clear hK K
                   refine norm_ (a' := ?_) ?_ ?_
                   rotate_left
                   ·show Act.put _ (some 70) _ = _
                    simp only [Act.put, List.setIfInBounds_toArray, List.set_cons_zero, List.set_cons_succ, i64_w, i32_w]
                    rfl
                   refine one_ (i := 0) (N := some 65) #[true, true, false, true, true, true, false, false] rfl rfl (one_of HT_.out (by kernel_rfl)) (by decide) (fun K hK => ?_)
                   refine Kd.R_lit_step (Kd.int .u64) _ 30 ?hg (N := 65) ?hd (xs := ([] : List Int)) (inner := []) (ok := fun _ => True) (okp := fun _ => True) ?hr ?hp (fun _ hk => hk) trivial (Below.refl _ _) (Nat.le_refl _) (by simp) ?_; (case hd => rfl); (case hg => rfl); (case hr => first | (go_simp; done) | (go_simp; rfl)); (case hp => exact (Reps.none _ _))
                   intro v286 w73 ho74 hb hg_ hnew_
                   clear hg_ hnew_
                   (first | rw [← Ny285.out] at ho74 | (simp only [Int.reduceToNat] at ho74; rw [← Ny285.out] at ho74))
                   have n0_ := Aside0.mk (Kd.R_elder' (by (with_reducible repeat (first | apply Kd.R_alloc | apply Kd.R_drewN | apply Kd.R_drew)); exact HO_7.out) (Kd.R_base ho74) hb)
                   have n1_ := Aside0.mk (Kd.R_elder' (by (with_reducible repeat (first | apply Kd.R_alloc | apply Kd.R_drewN | apply Kd.R_drew)); exact HO_262000.out) (Kd.R_base ho74) hb)
                   have n2_ := Aside0.mk (Kd.R_elder' (by (with_reducible repeat (first | apply Kd.R_alloc | apply Kd.R_drewN | apply Kd.R_drew)); exact HO279.out) (Kd.R_base ho74) hb)
                   have n3_ := Aside0.mk (Kd.R_elder' (by (with_reducible repeat (first | apply Kd.R_alloc | apply Kd.R_drewN | apply Kd.R_drew)); exact HO283.out) (Kd.R_base ho74) hb)
                   have n4_ := Aside0.mk (Kd.R_elder' (by (with_reducible repeat (first | apply Kd.R_alloc | apply Kd.R_drewN | apply Kd.R_drew)); exact HO293.out) (Kd.R_base ho74) hb)
                   have n5_ := Aside0.mk (Kd.R_lower (Kd.R_new' (Kd.R_new' (Kd.R_new' (Kd.R_new' (Kd.R_new' ho74 (Kd.R_lt (by (with_reducible repeat (first | apply Kd.R_alloc | apply Kd.R_drewN | apply Kd.R_drew)); exact HO_7.out))) (Kd.R_lt (by (with_reducible repeat (first | apply Kd.R_alloc | apply Kd.R_drewN | apply Kd.R_drew)); exact HO_262000.out))) (Kd.R_lt (by (with_reducible repeat (first | apply Kd.R_alloc | apply Kd.R_drewN | apply Kd.R_drew)); exact HO279.out))) (Kd.R_lt (by (with_reducible repeat (first | apply Kd.R_alloc | apply Kd.R_drewN | apply Kd.R_drew)); exact HO283.out))) (Kd.R_lt (by (with_reducible repeat (first | apply Kd.R_alloc | apply Kd.R_drewN | apply Kd.R_drew)); exact HO293.out))) (below_size (by repeat (first | (with_reducible first | exact HB.out | apply below_alloc | apply pw_below_drewN | apply below_drew1 | refine below_set ?_ GE261.out | refine below_set ?_ GE273.out | refine below_set ?_ GE280.out) | exact HB.out))))
                   have n6_ := Aside0.mk (blk_below (g := gb261) (o := .cells #[.slice Ao30 x262000_2.length co30] 26 (0, 0)) (by (with_reducible repeat (first | refine blk_drewN ?_ _ | refine blk_drew ?_ | refine blk_alloc ?_ _)); exact BK261.out) hb)
                   have n7_ := Aside0.mk (blk_below (g := gb273) (o := .cells #[.int .i64 ((rd_T32 l1 x8_2).f0), .int .u64 ((rd_T32 l1 x8_2).f1)] 32 (0, 0)) (by (with_reducible repeat (first | refine blk_drewN ?_ _ | refine blk_drew ?_ | refine blk_alloc ?_ _)); exact BK273.out) hb)
                   have n8_ := Aside0.mk (blk_below (g := gb280) (o := .cells #[.slice Ao66 t281.length co66] 26 (0, 0)) (by (with_reducible repeat (first | refine blk_drewN ?_ _ | refine blk_drew ?_ | refine blk_alloc ?_ _)); exact BK280.out) hb)
                   have n9_ := Aside0.mk (below_step (by repeat (first | (with_reducible first | exact HB.out | apply below_alloc | apply pw_below_drewN | apply below_drew1 | refine below_set ?_ GE261.out | refine below_set ?_ GE273.out | refine below_set ?_ GE280.out) | exact HB.out)) hb)
                   clear HO_7
                   clear HO_262000
                   clear HO279
                   clear HO283
                   clear HO293
                   clear BK261
                   clear BK273
                   clear BK280
                   clear HB
                   have HO_7 := n0_
                   have HO_262000 := n1_
                   have HO279 := n2_
                   have HO283 := n3_
                   have HO293 := n4_
                   have HO287 := n5_
                   have BK261 := n6_
                   have BK273 := n7_
                   have BK280 := n8_
                   have HB := n9_
                   clear n0_ n1_ n2_ n3_ n4_ n5_ n6_ n7_ n8_ n9_
                   clear hb ho74
                   refine hK.out _ _ ⟨(blk_cell BK273.out 0).trans rfl, (blk_cell BK273.out 1).trans rfl⟩ (fun hHeld => ?_)
                   clear hK K
                   refine norm_ (a' := ?_) ?_ ?_
                   rotate_left
                   ·show Act.put _ (some 65) _ = _
                    simp only [Act.put, List.setIfInBounds_toArray, List.set_cons_zero, List.set_cons_succ, i64_w, i32_w]
                    rfl
                   refine one_ (i := 2) (N := some 67) #[true, true, true, true, true, true, false, false] rfl rfl (one_of HT_.out (by kernel_rfl)) (by decide) (fun K hK => ?_)
                   refine Kd.R_append_rows_step (Kd.int .u64) (w0 := w) w.heap.size (by rfl) (.tmp 65) (.tmp 66) 22 30 (.int .u64 0) 8 rfl Try.underlying22 info30 rfl (by decide) (by omega) v286 y285 x7_2 _ _ _ (fun k_ => some k_ ≠ (.slice Ao68 x7_2.length co68 : Value).ownBlock ∧ some k_ ≠ (.slice Ao30 x262000_2.length co30 : Value).ownBlock ∧ some k_ ≠ (v278 : Value).ownBlock ∧ some k_ ≠ (.slice Ao66 t281.length co66 : Value).ownBlock ∧ some k_ ≠ (v292 : Value).ownBlock) (fun _ => False) rfl rfl ?aO ?aR (fun _ _ h => h) (fun _ h => h.elim) ?aF ?aB ?aS ?aL ?_
                   (case aR => repeat (first | exact (Kd.R_reads' HO_7.out).2.2 | (with_reducible refine Kd.C_alloc ?_ _) | (with_reducible refine Kd.C_drewN ?_ _) | (with_reducible refine Kd.C_drew ?_)))
                   (case aB => exact (by repeat (first | (with_reducible first | exact HB.out | apply below_alloc | apply pw_below_drewN | apply below_drew1 | refine below_set ?_ GE261.out | refine below_set ?_ GE273.out | refine below_set ?_ GE280.out) | exact HB.out)))
                   (case aF => exact (fun k_ hk => ⟨Kd.fresh' (Kd.R_lt (by (with_reducible repeat (first | apply Kd.R_alloc | apply Kd.R_drewN | apply Kd.R_drew)); exact HO_7.out)) k_ hk, Kd.fresh' (Kd.R_lt (by (with_reducible repeat (first | apply Kd.R_alloc | apply Kd.R_drewN | apply Kd.R_drew)); exact HO_262000.out)) k_ hk, Kd.fresh' (Kd.R_lt (by (with_reducible repeat (first | apply Kd.R_alloc | apply Kd.R_drewN | apply Kd.R_drew)); exact HO279.out)) k_ hk, Kd.fresh' (Kd.R_lt (by (with_reducible repeat (first | apply Kd.R_alloc | apply Kd.R_drewN | apply Kd.R_drew)); exact HO283.out)) k_ hk, Kd.fresh' (Kd.R_lt (by (with_reducible repeat (first | apply Kd.R_alloc | apply Kd.R_drewN | apply Kd.R_drew)); exact HO293.out)) k_ hk⟩))
                   (case aO => exact (by (with_reducible repeat (first | apply Kd.R_alloc | apply Kd.R_drewN | apply Kd.R_drew)); exact Kd.R_mono HO287.out (fun _ hk => ⟨hk.1.1.1.1.2, ⟨hk.1.1.1.2, ⟨hk.1.1.2, ⟨hk.1.2, hk.2⟩⟩⟩⟩)))
                   (case aS => exact (below_size (by repeat (first | (with_reducible first | exact HB.out | apply below_alloc | apply pw_below_drewN | apply below_drew1 | refine below_set ?_ GE261.out | refine below_set ?_ GE273.out | refine below_set ?_ GE280.out) | exact HB.out))))
                   (case aL => have := LMc36.out; omega)
                   intro v289 w75 ho hb hg hat
                   rw [← Ny288.out] at ho
                   have n0_ := Aside0.mk (Kd.R_after (ok := (fun k_ => some k_ ≠ (.slice Ao30 x262000_2.length co30 : Value).ownBlock ∧ some k_ ≠ (v278 : Value).ownBlock ∧ some k_ ≠ (.slice Ao66 t281.length co66 : Value).ownBlock ∧ some k_ ≠ (v292 : Value).ownBlock)) (by (with_reducible repeat (first | apply Kd.R_alloc | apply Kd.R_drewN | apply Kd.R_drew)); exact Kd.R_mono HO_7.out (fun _ hk => ⟨⟨hk.1.1.1, ⟨hk.1.1.2.1, ⟨hk.1.1.2.2, hk.1.2⟩⟩⟩, hk.2⟩)) hg hat)
                   have n1_ := Aside0.mk (Kd.R_after (ok := (fun k_ => some k_ ≠ (.slice Ao68 x7_2.length co68 : Value).ownBlock ∧ some k_ ≠ (v278 : Value).ownBlock ∧ some k_ ≠ (.slice Ao66 t281.length co66 : Value).ownBlock ∧ some k_ ≠ (v292 : Value).ownBlock)) (by (with_reducible repeat (first | apply Kd.R_alloc | apply Kd.R_drewN | apply Kd.R_drew)); exact Kd.R_mono HO_262000.out (fun _ hk => ⟨⟨hk.1.1.1, ⟨hk.1.1.2.1, ⟨hk.1.1.2.2, hk.1.2⟩⟩⟩, hk.2⟩)) hg hat)
                   have n2_ := Aside0.mk (blk_grown (g := gb261) (o := .cells #[.slice Ao30 x262000_2.length co30] 26 (0, 0)) (by (with_reducible repeat (first | refine blk_drewN ?_ _ | refine blk_drew ?_ | refine blk_alloc ?_ _)); exact BK261.out) hg (Kd.R_ne HO287.out BK261.out (by decide)))
                   have n3_ := Aside0.mk (blk_grown (g := gb273) (o := .cells #[.int .i64 ((rd_T32 l1 x8_2).f0), .int .u64 ((rd_T32 l1 x8_2).f1)] 32 (0, 0)) (by (with_reducible repeat (first | refine blk_drewN ?_ _ | refine blk_drew ?_ | refine blk_alloc ?_ _)); exact BK273.out) hg (Kd.R_ne HO287.out BK273.out (by decide)))
                   have n4_ := Aside0.mk (Kd.R_after (ok := (fun k_ => some k_ ≠ (.slice Ao68 x7_2.length co68 : Value).ownBlock ∧ some k_ ≠ (.slice Ao30 x262000_2.length co30 : Value).ownBlock ∧ some k_ ≠ (.slice Ao66 t281.length co66 : Value).ownBlock ∧ some k_ ≠ (v292 : Value).ownBlock)) (by (with_reducible repeat (first | apply Kd.R_alloc | apply Kd.R_drewN | apply Kd.R_drew)); exact Kd.R_mono HO279.out (fun _ hk => ⟨⟨hk.1.1.1, ⟨hk.1.1.2.1, ⟨hk.1.1.2.2, hk.1.2⟩⟩⟩, hk.2⟩)) hg hat)
                   have n5_ := Aside0.mk (blk_grown (g := gb280) (o := .cells #[.slice Ao66 t281.length co66] 26 (0, 0)) (by (with_reducible repeat (first | refine blk_drewN ?_ _ | refine blk_drew ?_ | refine blk_alloc ?_ _)); exact BK280.out) hg (Kd.R_ne HO287.out BK280.out (by decide)))
                   have n6_ := Aside0.mk (Kd.R_after (ok := (fun k_ => some k_ ≠ (.slice Ao68 x7_2.length co68 : Value).ownBlock ∧ some k_ ≠ (.slice Ao30 x262000_2.length co30 : Value).ownBlock ∧ some k_ ≠ (v278 : Value).ownBlock ∧ some k_ ≠ (v292 : Value).ownBlock)) (by (with_reducible repeat (first | apply Kd.R_alloc | apply Kd.R_drewN | apply Kd.R_drew)); exact Kd.R_mono HO283.out (fun _ hk => ⟨⟨hk.1.1.1, ⟨hk.1.1.2.1, ⟨hk.1.1.2.2, hk.1.2⟩⟩⟩, hk.2⟩)) hg hat)
                   have n7_ := Aside0.mk (Kd.R_after (ok := (fun k_ => some k_ ≠ (.slice Ao68 x7_2.length co68 : Value).ownBlock ∧ some k_ ≠ (.slice Ao30 x262000_2.length co30 : Value).ownBlock ∧ some k_ ≠ (v278 : Value).ownBlock ∧ some k_ ≠ (.slice Ao66 t281.length co66 : Value).ownBlock)) (by (with_reducible repeat (first | apply Kd.R_alloc | apply Kd.R_drewN | apply Kd.R_drew)); exact Kd.R_mono HO293.out (fun _ hk => ⟨⟨hk.1.1.1.1.2, ⟨hk.1.1.1.2, ⟨hk.1.1.2, hk.1.2⟩⟩⟩, hk.2⟩)) hg hat)
                   have n8_ := Aside0.mk (hb)
                   have n9_ := Aside0.mk (ho)
                   clear HO_7
                   clear HO_262000
                   clear BK261
                   clear BK273
                   clear HO279
                   clear BK280
                   clear HO283
                   clear HO293
                   clear HB
                   clear HO287
                   have HO_7 := n0_
                   have HO_262000 := n1_
                   have BK261 := n2_
                   have BK273 := n3_
                   have HO279 := n4_
                   have BK280 := n5_
                   have HO283 := n6_
                   have HO293 := n7_
                   have HB := n8_
                   have HO290 := n9_
                   clear n0_ n1_ n2_ n3_ n4_ n5_ n6_ n7_ n8_ n9_
                   clear ho hb hg hat
                   refine hK.out _ _ ⟨(blk_cell BK273.out 0).trans rfl, (blk_cell BK273.out 1).trans rfl⟩ (fun hHeld => ?_)
                   clear hK K
                   refine norm_ (a' := ?_) ?_ ?_
                   rotate_left
                   ·show Act.put _ (some 67) _ = _
                    simp only [Act.put, List.setIfInBounds_toArray, List.set_cons_zero, List.set_cons_succ, i64_w, i32_w]
                    rfl
                   exact norm_ (by simp only [putAll, Act.put, List.setIfInBounds_toArray, List.set_cons_zero, List.set_cons_succ]) (hCont (v286, v289, v292) _ ⟨hHeld, (by (with_reducible repeat (first | apply Kd.R_alloc | apply Kd.R_drewN | apply Kd.R_drew)); exact Kd.R_mono HO279.out (fun _ hk => ⟨hk.1.2.2.1, ⟨hk.2, ⟨hk.1.2.2.2, ⟨hk.1.2.1, hk.1.1⟩⟩⟩⟩)), (by (with_reducible repeat (first | apply Kd.R_alloc | apply Kd.R_drewN | apply Kd.R_drew)); exact Kd.R_mono HO283.out (fun _ hk => ⟨hk.1.2.2.1, ⟨hk.2, ⟨hk.1.2.2.2, ⟨hk.1.2.1, hk.1.1⟩⟩⟩⟩)), (by (with_reducible repeat (first | apply Kd.R_alloc | apply Kd.R_drewN | apply Kd.R_drew)); exact Kd.R_mono HO290.out (fun _ hk => ⟨hk.2.2.1, ⟨hk.2.2.2.1, ⟨hk.2.2.2.2, ⟨hk.2.1, hk.1⟩⟩⟩⟩)), (by (with_reducible repeat (first | apply Kd.R_alloc | apply Kd.R_drewN | apply Kd.R_drew)); exact Kd.R_mono HO293.out (fun _ hk => ⟨hk.1.2.2.1, ⟨hk.1.2.2.2, ⟨hk.2, ⟨hk.1.2.1, hk.1.1⟩⟩⟩⟩)), (by (with_reducible repeat (first | apply Kd.R_alloc | apply Kd.R_drewN | apply Kd.R_drew)); exact Kd.R_mono HO_262000.out (fun _ hk => ⟨hk.1.2.1, ⟨hk.1.2.2.1, ⟨hk.2, ⟨hk.1.2.2.2, hk.1.1⟩⟩⟩⟩)), (by (with_reducible repeat (first | apply Kd.R_alloc | apply Kd.R_drewN | apply Kd.R_drew)); exact Kd.R_mono HO_7.out (fun _ hk => ⟨hk.1.2.1, ⟨hk.1.2.2.1, ⟨hk.2, ⟨hk.1.2.2.2, hk.1.1⟩⟩⟩⟩)), (by (with_reducible repeat (first | refine blk_drewN ?_ _ | refine blk_drew ?_ | refine blk_alloc ?_ _)); exact BK261.out), (by (with_reducible repeat (first | refine blk_drewN ?_ _ | refine blk_drew ?_ | refine blk_alloc ?_ _)); exact BK273.out), (by (with_reducible repeat (first | refine blk_drewN ?_ _ | refine blk_drew ?_ | refine blk_alloc ?_ _)); exact BK280.out), (by repeat (first | (with_reducible first | exact HB.out | apply below_alloc | apply pw_below_drewN | apply below_drew1 | refine below_set ?_ GE261.out | refine below_set ?_ GE273.out | refine below_set ?_ GE280.out) | exact HB.out))⟩)
                 rintro ⟨v286, v289, v292⟩ w76 ⟨hS_, h0_, h1_, h2_, h3_, h4_, h5_, h6_, h7_, h8_, h9_⟩
                 have n0_ : Aside0 (Kd.R (Kd.int .u64) 30 w76 w.heap.size (fun k_ => some k_ ≠ (.slice Ao66 t281.length co66 : Value).ownBlock ∧ some k_ ≠ (v289 : Value).ownBlock ∧ some k_ ≠ (v292 : Value).ownBlock ∧ some k_ ≠ (.slice Ao30 x262000_2.length co30 : Value).ownBlock ∧ some k_ ≠ (.slice Ao68 x7_2.length co68 : Value).ownBlock) v278 y277) := ⟨h0_⟩
                 have n1_ : Aside0 (Kd.R (Kd.int .u64) 30 w76 w.heap.size (fun k_ => some k_ ≠ (v278 : Value).ownBlock ∧ some k_ ≠ (v289 : Value).ownBlock ∧ some k_ ≠ (v292 : Value).ownBlock ∧ some k_ ≠ (.slice Ao30 x262000_2.length co30 : Value).ownBlock ∧ some k_ ≠ (.slice Ao68 x7_2.length co68 : Value).ownBlock) (.slice Ao66 t281.length co66) t281) := ⟨h1_⟩
                 have n2_ : Aside0 (Kd.R (Kd.int .u64) 30 w76 w.heap.size (fun k_ => some k_ ≠ (v278 : Value).ownBlock ∧ some k_ ≠ (.slice Ao66 t281.length co66 : Value).ownBlock ∧ some k_ ≠ (v292 : Value).ownBlock ∧ some k_ ≠ (.slice Ao30 x262000_2.length co30 : Value).ownBlock ∧ some k_ ≠ (.slice Ao68 x7_2.length co68 : Value).ownBlock) v289 y288) := ⟨h2_⟩
                 have n3_ : Aside0 (Kd.R (Kd.int .u64) 30 w76 w.heap.size (fun k_ => some k_ ≠ (v278 : Value).ownBlock ∧ some k_ ≠ (.slice Ao66 t281.length co66 : Value).ownBlock ∧ some k_ ≠ (v289 : Value).ownBlock ∧ some k_ ≠ (.slice Ao30 x262000_2.length co30 : Value).ownBlock ∧ some k_ ≠ (.slice Ao68 x7_2.length co68 : Value).ownBlock) v292 y291) := ⟨h3_⟩
                 have n4_ : Aside0 (Kd.R (Kd.int .u64) 30 w76 w.heap.size (fun k_ => some k_ ≠ (v278 : Value).ownBlock ∧ some k_ ≠ (.slice Ao66 t281.length co66 : Value).ownBlock ∧ some k_ ≠ (v289 : Value).ownBlock ∧ some k_ ≠ (v292 : Value).ownBlock ∧ some k_ ≠ (.slice Ao68 x7_2.length co68 : Value).ownBlock) (.slice Ao30 x262000_2.length co30) x262000_2) := ⟨h4_⟩
                 have n5_ : Aside0 (Kd.R (Kd.int .u64) 30 w76 w.heap.size (fun k_ => some k_ ≠ (v278 : Value).ownBlock ∧ some k_ ≠ (.slice Ao66 t281.length co66 : Value).ownBlock ∧ some k_ ≠ (v289 : Value).ownBlock ∧ some k_ ≠ (v292 : Value).ownBlock ∧ some k_ ≠ (.slice Ao30 x262000_2.length co30 : Value).ownBlock) (.slice Ao68 x7_2.length co68) x7_2) := ⟨h5_⟩
                 have n6_ : Aside0 (w76.heap[gb261]? = some (.cells #[.slice Ao30 x262000_2.length co30] 26 (0, 0))) := ⟨h6_⟩
                 have n7_ : Aside0 (w76.heap[gb273]? = some (.cells #[.int .i64 ((rd_T32 l1 x8_2).f0), .int .u64 ((rd_T32 l1 x8_2).f1)] 32 (0, 0))) := ⟨h7_⟩
                 have n8_ : Aside0 (w76.heap[gb280]? = some (.cells #[.slice Ao66 t281.length co66] 26 (0, 0))) := ⟨h8_⟩
                 have n9_ : Aside0 (Below w.heap.size w w76) := ⟨h9_⟩
                 clear HO_7
                 clear HO_262000
                 clear HO279
                 clear HO283
                 clear BK261
                 clear BK273
                 clear BK280
                 clear HB
                 clear h0_ h1_ h2_ h3_ h4_ h5_ h6_ h7_ h8_ h9_
                 have HO279 := n0_
                 have HO283 := n1_
                 have HO290 := n2_
                 have HO293 := n3_
                 have HO_262000 := n4_
                 have HO_7 := n5_
                 have BK261 := n6_
                 have BK273 := n7_
                 have BK280 := n8_
                 have HB := n9_
                 clear n0_ n1_ n2_ n3_ n4_ n5_ n6_ n7_ n8_ n9_
                 have hHeld : w76.cell? ⟨gb273, 0, none⟩ = some (.int .i64 ((rd_T32 l1 x8_2).f0)) ∧ w76.cell? ⟨gb273, 1, none⟩ = some (.int .u64 ((rd_T32 l1 x8_2).f1)) := hS_
                 obtain ⟨Ao78, co78, eo78⟩ := Kd.R_slice HO293.out
                 (first | subst eo78 | (injection eo78 with f1_ f2_ f3_; have f4_ := f1_.symm; have f5_ := f3_.symm; clear f1_ f2_ f3_; subst f4_; subst f5_))
                 refine norm_ (a' := ?_) ?_ ?_
                 rotate_left
                 ·simp only [putAll, Act.put, List.setIfInBounds_toArray, List.set_cons_zero, List.set_cons_succ]
                  rfl
                 refine one_ (i := 6) (N := some 71) #[true, true, true, true, true, true, true, false] rfl rfl (one_of HT_.out (by kernel_rfl)) (by decide) (fun K hK => ?_)
                 refine Kd.R_append_rows_step (Kd.int .u64) (w0 := w) w.heap.size (by rfl) (.tmp 67) (.tmp 70) 22 30 (.int .u64 0) 8 rfl Try.underlying22 info30 rfl (by decide) (by omega) v289 y288 y291 _ _ _ (fun k_ => some k_ ≠ (.slice Ao68 x7_2.length co68 : Value).ownBlock ∧ some k_ ≠ (.slice Ao30 x262000_2.length co30 : Value).ownBlock ∧ some k_ ≠ (v278 : Value).ownBlock ∧ some k_ ≠ (.slice Ao66 t281.length co66 : Value).ownBlock ∧ some k_ ≠ (.slice Ao78 y291.length co78 : Value).ownBlock) (fun _ => False) rfl rfl ?aO ?aR (fun _ _ h => h) (fun _ h => h.elim) ?aF ?aB ?aS ?aL ?_
                 (case aR => repeat (first | exact (Kd.R_reads' HO293.out).2.2 | (with_reducible refine Kd.C_alloc ?_ _) | (with_reducible refine Kd.C_drewN ?_ _) | (with_reducible refine Kd.C_drew ?_)))
                 (case aB => exact (by repeat (first | (with_reducible first | exact HB.out | apply below_alloc | apply pw_below_drewN | apply below_drew1 | refine below_set ?_ GE261.out | refine below_set ?_ GE273.out | refine below_set ?_ GE280.out) | exact HB.out)))
                 (case aF => exact (fun k_ hk => ⟨Kd.fresh' (Kd.R_lt (by (with_reducible repeat (first | apply Kd.R_alloc | apply Kd.R_drewN | apply Kd.R_drew)); exact HO_7.out)) k_ hk, Kd.fresh' (Kd.R_lt (by (with_reducible repeat (first | apply Kd.R_alloc | apply Kd.R_drewN | apply Kd.R_drew)); exact HO_262000.out)) k_ hk, Kd.fresh' (Kd.R_lt (by (with_reducible repeat (first | apply Kd.R_alloc | apply Kd.R_drewN | apply Kd.R_drew)); exact HO279.out)) k_ hk, Kd.fresh' (Kd.R_lt (by (with_reducible repeat (first | apply Kd.R_alloc | apply Kd.R_drewN | apply Kd.R_drew)); exact HO283.out)) k_ hk, Kd.fresh' (Kd.R_lt (by (with_reducible repeat (first | apply Kd.R_alloc | apply Kd.R_drewN | apply Kd.R_drew)); exact HO293.out)) k_ hk⟩))
                 (case aO => exact (by (with_reducible repeat (first | apply Kd.R_alloc | apply Kd.R_drewN | apply Kd.R_drew)); exact Kd.R_mono HO290.out (fun _ hk => ⟨hk.2.2.2.2, ⟨hk.2.2.2.1, ⟨hk.1, ⟨hk.2.1, hk.2.2.1⟩⟩⟩⟩)))
                 (case aS => exact (below_size (by repeat (first | (with_reducible first | exact HB.out | apply below_alloc | apply pw_below_drewN | apply below_drew1 | refine below_set ?_ GE261.out | refine below_set ?_ GE273.out | refine below_set ?_ GE280.out) | exact HB.out))))
                 (case aL => have := LMc37.out; omega)
                 intro v295 w77 ho hb hg hat
                 rw [← Ny294.out] at ho
                 have n0_ := Aside0.mk (Kd.R_after (ok := (fun k_ => some k_ ≠ (.slice Ao30 x262000_2.length co30 : Value).ownBlock ∧ some k_ ≠ (v278 : Value).ownBlock ∧ some k_ ≠ (.slice Ao66 t281.length co66 : Value).ownBlock ∧ some k_ ≠ (.slice Ao78 y291.length co78 : Value).ownBlock)) (by (with_reducible repeat (first | apply Kd.R_alloc | apply Kd.R_drewN | apply Kd.R_drew)); exact Kd.R_mono HO_7.out (fun _ hk => ⟨⟨hk.2.2.2.2, ⟨hk.1, ⟨hk.2.1, hk.2.2.2.1⟩⟩⟩, hk.2.2.1⟩)) hg hat)
                 have n1_ := Aside0.mk (Kd.R_after (ok := (fun k_ => some k_ ≠ (.slice Ao68 x7_2.length co68 : Value).ownBlock ∧ some k_ ≠ (v278 : Value).ownBlock ∧ some k_ ≠ (.slice Ao66 t281.length co66 : Value).ownBlock ∧ some k_ ≠ (.slice Ao78 y291.length co78 : Value).ownBlock)) (by (with_reducible repeat (first | apply Kd.R_alloc | apply Kd.R_drewN | apply Kd.R_drew)); exact Kd.R_mono HO_262000.out (fun _ hk => ⟨⟨hk.2.2.2.2, ⟨hk.1, ⟨hk.2.1, hk.2.2.2.1⟩⟩⟩, hk.2.2.1⟩)) hg hat)
                 have n2_ := Aside0.mk (blk_grown (g := gb261) (o := .cells #[.slice Ao30 x262000_2.length co30] 26 (0, 0)) (by (with_reducible repeat (first | refine blk_drewN ?_ _ | refine blk_drew ?_ | refine blk_alloc ?_ _)); exact BK261.out) hg (Kd.R_ne HO290.out BK261.out (by decide)))
                 have n3_ := Aside0.mk (blk_grown (g := gb273) (o := .cells #[.int .i64 ((rd_T32 l1 x8_2).f0), .int .u64 ((rd_T32 l1 x8_2).f1)] 32 (0, 0)) (by (with_reducible repeat (first | refine blk_drewN ?_ _ | refine blk_drew ?_ | refine blk_alloc ?_ _)); exact BK273.out) hg (Kd.R_ne HO290.out BK273.out (by decide)))
                 have n4_ := Aside0.mk (Kd.R_after (ok := (fun k_ => some k_ ≠ (.slice Ao68 x7_2.length co68 : Value).ownBlock ∧ some k_ ≠ (.slice Ao30 x262000_2.length co30 : Value).ownBlock ∧ some k_ ≠ (.slice Ao66 t281.length co66 : Value).ownBlock ∧ some k_ ≠ (.slice Ao78 y291.length co78 : Value).ownBlock)) (by (with_reducible repeat (first | apply Kd.R_alloc | apply Kd.R_drewN | apply Kd.R_drew)); exact Kd.R_mono HO279.out (fun _ hk => ⟨⟨hk.2.2.2.2, ⟨hk.2.2.2.1, ⟨hk.1, hk.2.2.1⟩⟩⟩, hk.2.1⟩)) hg hat)
                 have n5_ := Aside0.mk (blk_grown (g := gb280) (o := .cells #[.slice Ao66 t281.length co66] 26 (0, 0)) (by (with_reducible repeat (first | refine blk_drewN ?_ _ | refine blk_drew ?_ | refine blk_alloc ?_ _)); exact BK280.out) hg (Kd.R_ne HO290.out BK280.out (by decide)))
                 have n6_ := Aside0.mk (Kd.R_after (ok := (fun k_ => some k_ ≠ (.slice Ao68 x7_2.length co68 : Value).ownBlock ∧ some k_ ≠ (.slice Ao30 x262000_2.length co30 : Value).ownBlock ∧ some k_ ≠ (v278 : Value).ownBlock ∧ some k_ ≠ (.slice Ao78 y291.length co78 : Value).ownBlock)) (by (with_reducible repeat (first | apply Kd.R_alloc | apply Kd.R_drewN | apply Kd.R_drew)); exact Kd.R_mono HO283.out (fun _ hk => ⟨⟨hk.2.2.2.2, ⟨hk.2.2.2.1, ⟨hk.1, hk.2.2.1⟩⟩⟩, hk.2.1⟩)) hg hat)
                 have n7_ := Aside0.mk (Kd.R_after (ok := (fun k_ => some k_ ≠ (.slice Ao68 x7_2.length co68 : Value).ownBlock ∧ some k_ ≠ (.slice Ao30 x262000_2.length co30 : Value).ownBlock ∧ some k_ ≠ (v278 : Value).ownBlock ∧ some k_ ≠ (.slice Ao66 t281.length co66 : Value).ownBlock)) (by (with_reducible repeat (first | apply Kd.R_alloc | apply Kd.R_drewN | apply Kd.R_drew)); exact Kd.R_mono HO293.out (fun _ hk => ⟨⟨hk.2.2.2.2, ⟨hk.2.2.2.1, ⟨hk.1, hk.2.1⟩⟩⟩, hk.2.2.1⟩)) hg hat)
                 have n8_ := Aside0.mk (hb)
                 have n9_ := Aside0.mk (ho)
                 clear HO_7
                 clear HO_262000
                 clear BK261
                 clear BK273
                 clear HO279
                 clear BK280
                 clear HO283
                 clear HO293
                 clear HB
                 clear HO290
                 have HO_7 := n0_
                 have HO_262000 := n1_
                 have BK261 := n2_
                 have BK273 := n3_
                 have HO279 := n4_
                 have BK280 := n5_
                 have HO283 := n6_
                 have HO293 := n7_
                 have HB := n8_
                 have HO296 := n9_
                 clear n0_ n1_ n2_ n3_ n4_ n5_ n6_ n7_ n8_ n9_
                 clear ho hb hg hat
                 refine hK.out _ _ ⟨(blk_cell BK273.out 0).trans rfl, (blk_cell BK273.out 1).trans rfl⟩ (fun hHeld => ?_)
                 clear hK K
                 refine norm_ (a' := ?_) ?_ ?_
                 rotate_left
                 ·show Act.put _ (some 71) _ = _
                  simp only [Act.put, List.setIfInBounds_toArray, List.set_cons_zero, List.set_cons_succ, i64_w, i32_w]
                  rfl
                 refine pure_ (i := 7) (N := some 14) (v := ?_) (a' := ?_) #[true, true, true, true, true, true, true, true] rfl rfl (any_of HT_.out (by kernel_rfl)) (fun _ _ _ h => h) (Or.inl ⟨by rfl, ?_⟩) ?_ ?_
                 rotate_left
                 ·intro w'
                  go_simp
                  with_reducible rfl
                 rotate_left
                 ·simp only [Act.put, List.setIfInBounds_toArray, List.set_cons_zero, List.set_cons_succ, i64_w, i32_w]
                  rfl
                 refine done_ (done_of HT_.out (by kernel_rfl)) ?_
                 obtain ⟨Ao79, co79, eo79⟩ := Kd.R_slice HO296.out
                 subst eo79
                 try go_wp2_with (first | ((with_reducible refine gate_callee (f := 7) rfl ?_); refine goesL_ (some 74) rfl rfl Try.func7 (by kernel_rfl) rfl #[.slice Ao79 y294.length co79] rfl (by (try simp only [List.map_toArray, List.map_cons, List.map_nil]); first | done | rfl | (simp only [List.length_drop, List.length_take]; rfl)) ?_; (with_reducible refine (drawlotref09_Total.calls k2 _ _ y294 t297 false _ ?side1 ?side2 A38.out).mono ?_); (case side1 => repeat (first | exact (Kd.R_reads' HO296.out).2.2 | (with_reducible refine Kd.C_alloc ?_ _) | (with_reducible refine Kd.C_drewN ?_ _) | (with_reducible refine Kd.C_drew ?_))); (case side2 => exact (Kd.R_reads' HO296.out).2.1); rintro e w' ⟨rfl, ⟨nd, rfl⟩⟩; refine ⟨_, rfl, ?_⟩))
                 go_meet
                 case rel => exact ⟨_, (t284), (11), (y294), (t281), (.slice Ao66 t281.length co66), (by first | rfl | (simp; done) | (simp [*]; done)), (by first | rfl | (simp; done) | (simp [*]; done)), H', ⟨by have := HJ4.out; have := HK2.out; first | omega | exact Nat.le_refl _⟩, ⟨by (with_reducible repeat (first | apply Kd.R_alloc | apply Kd.R_drewN | apply Kd.R_drew)); exact Kd.R_mono HO_7.out (fun _ hk => ⟨hk.1.2.1, ⟨hk.2, ⟨hk.1.1, hk.1.2.2.1⟩⟩⟩)⟩, ⟨by (with_reducible repeat (first | apply Kd.R_alloc | apply Kd.R_drewN | apply Kd.R_drew)); exact Kd.R_mono HO279.out (fun _ hk => ⟨hk.1.1, ⟨hk.2, ⟨hk.1.2.1, hk.1.2.2.1⟩⟩⟩)⟩, ⟨by (with_reducible repeat (first | apply Kd.R_alloc | apply Kd.R_drewN | apply Kd.R_drew)); exact Kd.R_mono HO296.out (fun _ hk => ⟨hk.1, ⟨hk.2.2.1, ⟨hk.2.1, hk.2.2.2.1⟩⟩⟩)⟩, ⟨by (with_reducible repeat (first | apply Kd.R_alloc | apply Kd.R_drewN | apply Kd.R_drew)); exact Kd.R_mono HO_262000.out (fun _ hk => ⟨hk.1.1, ⟨hk.1.2.1, ⟨hk.2, hk.1.2.2.1⟩⟩⟩)⟩, ⟨by (with_reducible repeat (first | apply Kd.R_alloc | apply Kd.R_drewN | apply Kd.R_drew)); exact Kd.R_mono HO283.out (fun _ hk => ⟨hk.1.1, ⟨hk.1.2.2.1, ⟨hk.2, hk.1.2.1⟩⟩⟩)⟩, ⟨by (with_reducible repeat (first | refine blk_drewN ?_ _ | refine blk_drew ?_ | refine blk_alloc ?_ _)); exact BK261.out⟩, ⟨by (with_reducible repeat (first | refine blk_drewN ?_ _ | refine blk_drew ?_ | refine blk_alloc ?_ _)); exact BK273.out⟩, ⟨by (with_reducible repeat (first | refine blk_drewN ?_ _ | refine blk_drew ?_ | refine blk_alloc ?_ _)); exact BK280.out⟩, ⟨by repeat (first | (with_reducible first | exact HB.out | apply below_alloc | apply pw_below_drewN | apply below_drew1 | refine below_set ?_ GE261.out | refine below_set ?_ GE273.out | refine below_set ?_ GE280.out) | exact HB.out)⟩⟩
               ·rw [if_neg c37] at H
                exact absurd H (by simp)
              ·rw [if_neg c36] at H
               exact absurd H (by simp)
             ·rw [if_neg c34] at H
              have c34b0 : decide (((rd_T32 l1 x8_2).f0) < 0) = false := decide_eq_false c34
              clear c34
              (first | rw [c34b0] | (simp only [i64_w, i32_w]; rw [c34b0]) | skip)
              replace H := Option.bind_eq_some_iff.mp H
              obtain ⟨⟨t299, t302⟩, A800, H⟩ := H
              replace H : ((drawlotref11_Set.f k2 x7_2 ((rd_T32 l1 x8_2).f0) ((rd_T32 l1 x8_2).f1)).bind fun bt303 => (drawlotlaw11_FenTurns.j2 k2 l1 x7_2 x8_2 y277 t302 bt303.2 bt303.1 x262000_2 t299)) = some r := H
              have A80 := Aside0.mk A800
              clear A800
              replace H := Option.bind_eq_some_iff.mp H
              obtain ⟨⟨t303, t304⟩, A810, H⟩ := H
              replace H : (drawlotlaw11_FenTurns.j2 k2 l1 x7_2 x8_2 y277 t302 t304 t303 x262000_2 t299) = some r := H
              have A81 := Aside0.mk A810
              clear A810
              have H' := Aside0.mk H
              clear H
              have hnb82 := NB261_273.out
              have hnc82 := NB273_261.out
              have hnb83 := NB261_280.out
              have hnc83 := NB280_261.out
              have hcz84_0 : w31.cell? ⟨gb261, 0, none⟩ = some (.slice Ao30 x262000_2.length co30) := (blk_cell BK261.out 0).trans rfl
              have hfz84_0 := blk_frozen BK261.out 0
              have hnb85 := NB273_280.out
              have hnc85 := NB280_273.out
              have hcz86_0 : w31.cell? ⟨gb273, 0, none⟩ = some (.int .i64 ((rd_T32 l1 x8_2).f0)) := (blk_cell BK273.out 0).trans rfl
              have hcz86_1 : w31.cell? ⟨gb273, 1, none⟩ = some (.int .u64 ((rd_T32 l1 x8_2).f1)) := (blk_cell BK273.out 1).trans rfl
              have hfz86_0 := blk_frozen BK273.out 0
              have hfz86_1 := blk_frozen BK273.out 1
              go_wp2_with (first | ((with_reducible refine gate_callee (f := 8) rfl ?_); refine goesL_ (some 85) rfl rfl Try.func8 (by kernel_rfl) rfl #[.agg #[.slice Ao30 x262000_2.length co30], .int .i64 ((rd_T32 l1 x8_2).f0), .int .u64 ((rd_T32 l1 x8_2).f1)] rfl (by (try simp only [List.map_toArray, List.map_cons, List.map_nil]); first | done | rfl | (simp only [List.length_drop, List.length_take]; rfl)) ?_; (with_reducible refine (fen_Set.calls k2 _ _ x262000_2 ((rd_T32 l1 x8_2).f0) ((rd_T32 l1 x8_2).f1) t299 t302 _ ?side1 ?side2 A80.out).mono ?_); (case side1 => repeat (first | exact (Kd.R_reads' HO_262000.out).2.2 | (with_reducible refine Kd.C_alloc ?_ _) | (with_reducible refine Kd.C_drewN ?_ _) | (with_reducible refine Kd.C_drew ?_))); (case side2 => exact (Kd.R_reads' HO_262000.out).2.1); rintro e w87 ⟨v300, rfl, ho0, hb⟩; refine ⟨_, rfl, ?_⟩; have n0_ := Aside0.mk (Kd.R_elder' (by (with_reducible repeat (first | apply Kd.R_alloc | apply Kd.R_drewN | apply Kd.R_drew)); exact HO_7.out) (Kd.R_base ho0) hb); have n1_ := Aside0.mk (Kd.R_elder' (by (with_reducible repeat (first | apply Kd.R_alloc | apply Kd.R_drewN | apply Kd.R_drew)); exact HO_262000.out) (Kd.R_base ho0) hb); have n2_ := Aside0.mk (Kd.R_elder' (by (with_reducible repeat (first | apply Kd.R_alloc | apply Kd.R_drewN | apply Kd.R_drew)); exact HO279.out) (Kd.R_base ho0) hb); have n3_ := Aside0.mk (Kd.R_lower (Kd.R_new' (Kd.R_new' (Kd.R_new' ho0 (Kd.R_lt (by (with_reducible repeat (first | apply Kd.R_alloc | apply Kd.R_drewN | apply Kd.R_drew)); exact HO_7.out))) (Kd.R_lt (by (with_reducible repeat (first | apply Kd.R_alloc | apply Kd.R_drewN | apply Kd.R_drew)); exact HO_262000.out))) (Kd.R_lt (by (with_reducible repeat (first | apply Kd.R_alloc | apply Kd.R_drewN | apply Kd.R_drew)); exact HO279.out))) (below_size (by repeat (first | (with_reducible first | exact HB.out | apply below_alloc | apply pw_below_drewN | apply below_drew1 | refine below_set ?_ GE261.out | refine below_set ?_ GE273.out | refine below_set ?_ GE280.out) | exact HB.out)))); have n4_ := Aside0.mk (blk_below (g := gb261) (o := .cells #[.slice Ao30 x262000_2.length co30] 26 (0, 0)) (by (with_reducible repeat (first | refine blk_drewN ?_ _ | refine blk_drew ?_ | refine blk_alloc ?_ _)); exact BK261.out) hb); have n5_ := Aside0.mk (blk_below (g := gb273) (o := .cells #[.int .i64 ((rd_T32 l1 x8_2).f0), .int .u64 ((rd_T32 l1 x8_2).f1)] 32 (0, 0)) (by (with_reducible repeat (first | refine blk_drewN ?_ _ | refine blk_drew ?_ | refine blk_alloc ?_ _)); exact BK273.out) hb); have n6_ := Aside0.mk (blk_below (g := gb280) (o := .cells #[.slice none 0 0] 26 (0, 0)) (by (with_reducible repeat (first | refine blk_drewN ?_ _ | refine blk_drew ?_ | refine blk_alloc ?_ _)); exact BK280.out) hb); have n7_ := Aside0.mk (below_step (by repeat (first | (with_reducible first | exact HB.out | apply below_alloc | apply pw_below_drewN | apply below_drew1 | refine below_set ?_ GE261.out | refine below_set ?_ GE273.out | refine below_set ?_ GE280.out) | exact HB.out)) hb); clear HO_7; clear HO_262000; clear HO279; clear BK261; clear BK273; clear BK280; clear HB; have HO_7 := n0_; have HO_262000 := n1_; have HO279 := n2_; have HO301 := n3_; have BK261 := n4_; have BK273 := n5_; have BK280 := n6_; have HB := n7_; clear n0_ n1_ n2_ n3_ n4_ n5_ n6_ n7_; (try clear hb); (try clear hb2); (try clear hk); (try clear hi); (try clear ho0); obtain ⟨Ao88, co88, eo88⟩ := Kd.R_slice HO301.out; subst eo88; have hcz89_0 : w87.cell? ⟨gb280, 0, none⟩ = some (.slice none 0 0) := (blk_cell BK280.out 0).trans rfl; have hfz89_0 := blk_frozen BK280.out 0; have hcz90_0 : w87.cell? ⟨gb273, 0, none⟩ = some (.int .i64 ((rd_T32 l1 x8_2).f0)) := (blk_cell BK273.out 0).trans rfl; have hcz90_1 : w87.cell? ⟨gb273, 1, none⟩ = some (.int .u64 ((rd_T32 l1 x8_2).f1)) := (blk_cell BK273.out 1).trans rfl; have hfz90_0 := blk_frozen BK273.out 0; have hfz90_1 := blk_frozen BK273.out 1; obtain ⟨Ao91, co91, eo91⟩ := Kd.R_slice HO_7.out; subst eo91) | ((with_reducible refine gate_callee (f := 9) rfl ?_); refine goesL_ (some 94) rfl rfl Try.func9 (by kernel_rfl) rfl #[.slice Ao91 x7_2.length co91, .int .i64 ((rd_T32 l1 x8_2).f0), .int .u64 ((rd_T32 l1 x8_2).f1)] rfl (by (try simp only [List.map_toArray, List.map_cons, List.map_nil]); first | done | rfl | (simp only [List.length_drop, List.length_take]; rfl)) ?_; (with_reducible refine (drawlotref11_Set.calls k2 _ _ x7_2 ((rd_T32 l1 x8_2).f0) ((rd_T32 l1 x8_2).f1) t303 t304 _ ?side1 ?side2 A81.out).mono ?_); (case side1 => refine (Kd.R_reads' (e := 30) (base := w.heap.size) (ok := fun k_ => ((some k_ ≠ (.slice Ao30 x262000_2.length co30 : Value).ownBlock ∧ some k_ ≠ (v278 : Value).ownBlock) ∧ some k_ ≠ (.slice Ao88 t299.length co88 : Value).ownBlock)) (n := x7_2.length) (c := co91) ?_).2.2; exact (by (with_reducible repeat (first | apply Kd.R_alloc | apply Kd.R_drewN | apply Kd.R_drew)); exact (Kd.R_mono (Kd.R_far (p := ⟨gb280, 0, none⟩) (Kd.R_types HO_7.out BK280.out (by decide)) (fun _ hk => hk.2) (.slice Ao88 t299.length co88)) (fun _ h_ => h_.1)))); (case side2 => exact (Kd.R_reads' HO_7.out).2.1); rintro e w92 ⟨v305, rfl, ho0, hb⟩; refine ⟨_, rfl, ?_⟩; have n0_ := Aside0.mk (Kd.R_elder' (by (with_reducible repeat (first | apply Kd.R_alloc | apply Kd.R_drewN | apply Kd.R_drew)); exact (Kd.R_mono (Kd.R_far (p := ⟨gb280, 0, none⟩) (Kd.R_types HO_7.out BK280.out (by decide)) (fun _ hk => hk.2) (.slice Ao88 t299.length co88)) (fun _ h_ => h_.1))) (Kd.R_base ho0) hb); have n1_ := Aside0.mk (Kd.R_elder' (by (with_reducible repeat (first | apply Kd.R_alloc | apply Kd.R_drewN | apply Kd.R_drew)); exact (Kd.R_mono (Kd.R_far (p := ⟨gb280, 0, none⟩) (Kd.R_types HO_262000.out BK280.out (by decide)) (fun _ hk => hk.2) (.slice Ao88 t299.length co88)) (fun _ h_ => h_.1))) (Kd.R_base ho0) hb); have n2_ := Aside0.mk (Kd.R_elder' (by (with_reducible repeat (first | apply Kd.R_alloc | apply Kd.R_drewN | apply Kd.R_drew)); exact (Kd.R_mono (Kd.R_far (p := ⟨gb280, 0, none⟩) (Kd.R_types HO279.out BK280.out (by decide)) (fun _ hk => hk.2) (.slice Ao88 t299.length co88)) (fun _ h_ => h_.1))) (Kd.R_base ho0) hb); have n3_ := Aside0.mk (Kd.R_elder' (by (with_reducible repeat (first | apply Kd.R_alloc | apply Kd.R_drewN | apply Kd.R_drew)); exact (Kd.R_mono (Kd.R_far (p := ⟨gb280, 0, none⟩) (Kd.R_types HO301.out BK280.out (by decide)) (fun _ hk => hk.2) (.slice Ao88 t299.length co88)) (fun _ h_ => h_.1))) (Kd.R_base ho0) hb); have n4_ := Aside0.mk (Kd.R_lower (Kd.R_new' (Kd.R_new' (Kd.R_new' (Kd.R_new' ho0 (Kd.R_lt (by (with_reducible repeat (first | apply Kd.R_alloc | apply Kd.R_drewN | apply Kd.R_drew)); exact (Kd.R_mono (Kd.R_far (p := ⟨gb280, 0, none⟩) (Kd.R_types HO_7.out BK280.out (by decide)) (fun _ hk => hk.2) (.slice Ao88 t299.length co88)) (fun _ h_ => h_.1))))) (Kd.R_lt (by (with_reducible repeat (first | apply Kd.R_alloc | apply Kd.R_drewN | apply Kd.R_drew)); exact (Kd.R_mono (Kd.R_far (p := ⟨gb280, 0, none⟩) (Kd.R_types HO_262000.out BK280.out (by decide)) (fun _ hk => hk.2) (.slice Ao88 t299.length co88)) (fun _ h_ => h_.1))))) (Kd.R_lt (by (with_reducible repeat (first | apply Kd.R_alloc | apply Kd.R_drewN | apply Kd.R_drew)); exact (Kd.R_mono (Kd.R_far (p := ⟨gb280, 0, none⟩) (Kd.R_types HO279.out BK280.out (by decide)) (fun _ hk => hk.2) (.slice Ao88 t299.length co88)) (fun _ h_ => h_.1))))) (Kd.R_lt (by (with_reducible repeat (first | apply Kd.R_alloc | apply Kd.R_drewN | apply Kd.R_drew)); exact (Kd.R_mono (Kd.R_far (p := ⟨gb280, 0, none⟩) (Kd.R_types HO301.out BK280.out (by decide)) (fun _ hk => hk.2) (.slice Ao88 t299.length co88)) (fun _ h_ => h_.1))))) (below_size (by repeat (first | (with_reducible first | exact HB.out | apply below_alloc | apply pw_below_drewN | apply below_drew1 | refine below_set ?_ GE261.out | refine below_set ?_ GE273.out | refine below_set ?_ GE280.out) | exact HB.out)))); have n5_ := Aside0.mk (blk_below (g := gb261) (o := .cells #[.slice Ao30 x262000_2.length co30] 26 (0, 0)) (by (with_reducible repeat (first | refine blk_drewN ?_ _ | refine blk_drew ?_ | refine blk_alloc ?_ _)); refine blk_far ?_ NB261_280.out _; (with_reducible repeat (first | refine blk_drewN ?_ _ | refine blk_drew ?_ | refine blk_alloc ?_ _)); exact BK261.out) hb); have n6_ := Aside0.mk (blk_below (g := gb273) (o := .cells #[.int .i64 ((rd_T32 l1 x8_2).f0), .int .u64 ((rd_T32 l1 x8_2).f1)] 32 (0, 0)) (by (with_reducible repeat (first | refine blk_drewN ?_ _ | refine blk_drew ?_ | refine blk_alloc ?_ _)); refine blk_far ?_ NB273_280.out _; (with_reducible repeat (first | refine blk_drewN ?_ _ | refine blk_drew ?_ | refine blk_alloc ?_ _)); exact BK273.out) hb); have n7_ := Aside0.mk (blk_below (g := gb280) (o := .cells #[.slice Ao88 t299.length co88] 26 (0, 0)) (by (with_reducible repeat (first | refine blk_drewN ?_ _ | refine blk_drew ?_ | refine blk_alloc ?_ _)); refine blk_put (cs := #[.slice none 0 0]) ?_ 0 _ rfl; (with_reducible repeat (first | refine blk_drewN ?_ _ | refine blk_drew ?_ | refine blk_alloc ?_ _)); exact BK280.out) hb); have n8_ := Aside0.mk (below_step (by repeat (first | (with_reducible first | exact HB.out | apply below_alloc | apply pw_below_drewN | apply below_drew1 | refine below_set ?_ GE261.out | refine below_set ?_ GE273.out | refine below_set ?_ GE280.out) | exact HB.out)) hb); clear HO_7; clear HO_262000; clear HO279; clear HO301; clear BK261; clear BK273; clear BK280; clear HB; have HO_7 := n0_; have HO_262000 := n1_; have HO279 := n2_; have HO301 := n3_; have HO306 := n4_; have BK261 := n5_; have BK273 := n6_; have BK280 := n7_; have HB := n8_; clear n0_ n1_ n2_ n3_ n4_ n5_ n6_ n7_ n8_; (try clear hb); (try clear hb2); (try clear hk); (try clear hi); (try clear ho0)))
              go_meet
              case rel => exact ⟨_, (t302), (t304), (t303), (t299), (.slice Ao88 t299.length co88), (by first | rfl | (simp; done) | (simp [*]; done)), (by first | rfl | (simp; done) | (simp [*]; done)), H', ⟨by have := HJ4.out; have := HK2.out; first | omega | exact Nat.le_refl _⟩, ⟨by (with_reducible repeat (first | apply Kd.R_alloc | apply Kd.R_drewN | apply Kd.R_drew)); exact Kd.R_mono HO_7.out (fun _ hk => ⟨hk.1.1.2, ⟨hk.2, ⟨hk.1.1.1, hk.1.2⟩⟩⟩)⟩, ⟨by (with_reducible repeat (first | apply Kd.R_alloc | apply Kd.R_drewN | apply Kd.R_drew)); exact Kd.R_mono HO279.out (fun _ hk => ⟨hk.1.1.1, ⟨hk.2, ⟨hk.1.1.2, hk.1.2⟩⟩⟩)⟩, ⟨by (with_reducible repeat (first | apply Kd.R_alloc | apply Kd.R_drewN | apply Kd.R_drew)); exact Kd.R_mono HO306.out (fun _ hk => ⟨hk.1.1.1.2, ⟨hk.1.2, ⟨hk.1.1.2, hk.2⟩⟩⟩)⟩, ⟨by (with_reducible repeat (first | apply Kd.R_alloc | apply Kd.R_drewN | apply Kd.R_drew)); exact Kd.R_mono HO_262000.out (fun _ hk => ⟨hk.1.1.1, ⟨hk.1.1.2, ⟨hk.2, hk.1.2⟩⟩⟩)⟩, ⟨by (with_reducible repeat (first | apply Kd.R_alloc | apply Kd.R_drewN | apply Kd.R_drew)); exact Kd.R_mono HO301.out (fun _ hk => ⟨hk.1.1.1.2, ⟨hk.1.2, ⟨hk.2, hk.1.1.2⟩⟩⟩)⟩, ⟨by (with_reducible repeat (first | refine blk_drewN ?_ _ | refine blk_drew ?_ | refine blk_alloc ?_ _)); exact BK261.out⟩, ⟨by (with_reducible repeat (first | refine blk_drewN ?_ _ | refine blk_drew ?_ | refine blk_alloc ?_ _)); exact BK273.out⟩, ⟨by (with_reducible repeat (first | refine blk_drewN ?_ _ | refine blk_drew ?_ | refine blk_alloc ?_ _)); exact BK280.out⟩, ⟨by repeat (first | (with_reducible first | exact HB.out | apply below_alloc | apply pw_below_drewN | apply below_drew1 | refine below_set ?_ GE261.out | refine below_set ?_ GE273.out | refine below_set ?_ GE280.out) | exact HB.out)⟩⟩
            case rest =>
             clear HC22
             try clear p2
             try clear c3
             try clear c6
             try clear c7
             try clear c8
             try clear c9
             try clear c34
             try clear c34b0
             try clear c36
             try clear c37
             try clear c39
             try clear c60
             try clear c61
             try clear c63
             try clear c82
             try clear c83
             try clear c85
             try clear hcz62_0
             try clear hcz64_0
             try clear hcz64_1
             try clear hcz67_0
             try clear hcz84_0
             try clear hcz86_0
             try clear hcz86_1
             try clear hcz89_0
             try clear hcz90_0
             try clear hcz90_1
             try clear hfz62_0
             try clear hfz64_0
             try clear hfz64_1
             try clear hfz67_0
             try clear hfz84_0
             try clear hfz86_0
             try clear hfz86_1
             try clear hfz89_0
             try clear hfz90_0
             try clear hfz90_1
             obtain ⟨kq, x12_21, x13_21, x14_21, x281000_21, u281000, rfl, rfl, HA, HJ21, HO_7, HO_10, HO_14, HO_262000, HO_281000, BK261, BK273, BK280, HB⟩ := hcut
             cases kq with
             | zero => exact absurd HA.out (by simp [drawlotlaw11_FenTurns.j2])
             | succ kj21 =>
              have H := HA.out
              clear HA
              simp only [drawlotlaw11_FenTurns.j2] at H
              have HC93 := Aside0.mk H
              clear H
              go_upto_region 25 with (fail)
              go_cut [106] (fun v106 wc => ∃ (kq : Nat) (x106_92 : Bool), v106 = .bool x106_92 ∧ Aside0 (drawlotlaw11_FenTurns.j3 kq l1 x7_2 x8_2 x12_21 x14_21 x106_92 x262000_2 x281000_21 = some r) ∧ Aside0 (kq ≤ kj21) ∧ Aside0 (Kd.R (Kd.int .u64) 30 wc w.heap.size (fun k_ => some k_ ≠ (u14 : Value).ownBlock ∧ some k_ ≠ ((.slice Ao30 x262000_2.length co30) : Value).ownBlock ∧ some k_ ≠ (u281000 : Value).ownBlock) u7 x7_2) ∧ Aside0 (Kd.R (Kd.int .u64) 30 wc w.heap.size (fun k_ => some k_ ≠ (u7 : Value).ownBlock ∧ some k_ ≠ ((.slice Ao30 x262000_2.length co30) : Value).ownBlock ∧ some k_ ≠ (u281000 : Value).ownBlock) u14 x14_21) ∧ Aside0 (Kd.R (Kd.int .u64) 30 wc w.heap.size (fun k_ => some k_ ≠ (u7 : Value).ownBlock ∧ some k_ ≠ (u14 : Value).ownBlock ∧ some k_ ≠ (u281000 : Value).ownBlock) (.slice Ao30 x262000_2.length co30) x262000_2) ∧ Aside0 (Kd.R (Kd.int .u64) 30 wc w.heap.size (fun k_ => some k_ ≠ (u7 : Value).ownBlock ∧ some k_ ≠ (u14 : Value).ownBlock ∧ some k_ ≠ ((.slice Ao30 x262000_2.length co30) : Value).ownBlock) u281000 x281000_21) ∧ Aside0 (wc.heap[gb261]? = some (.cells #[(.slice Ao30 x262000_2.length co30)] 26 (0, 0))) ∧ Aside0 (wc.heap[gb273]? = some (.cells #[.int .i64 ((rd_T32 l1 x8_2).f0), .int .u64 ((rd_T32 l1 x8_2).f1)] 32 (0, 0))) ∧ Aside0 (wc.heap[gb280]? = some (.cells #[u281000] 26 (0, 0))) ∧ Aside0 (Below w.heap.size w wc))
              case first =>
               have H := HC93.out
               clear HC93
               by_cases c94 : x12_21 = x13_21
               ·rw [if_pos c94] at H
                have c94b0 : (x12_21 == x13_21) = true := beq_iff_eq.mpr c94
                have c94b1 : (x12_21 != x13_21) = false := bne_eq_false_iff_eq.mpr c94
                clear c94
                (first | rw [c94b0] | (simp only [i64_w, i32_w]; rw [c94b0]) | skip)
                replace H := Option.bind_eq_some_iff.mp H
                obtain ⟨t307, A950, H⟩ := H
                replace H : (drawlotlaw11_FenTurns.j3 kj21 l1 x7_2 x8_2 x12_21 x14_21 (!t307) x262000_2 x281000_21) = some r := H
                have A95 := Aside0.mk A950
                clear A950
                have H' := Aside0.mk H
                clear H
                have hnb96 := NB261_273.out
                have hnc96 := NB273_261.out
                have hnb97 := NB261_280.out
                have hnc97 := NB280_261.out
                have hcz98_0 : wc.cell? ⟨gb261, 0, none⟩ = some (.slice Ao30 x262000_2.length co30) := (blk_cell BK261.out 0).trans rfl
                have hfz98_0 := blk_frozen BK261.out 0
                obtain ⟨Ao99, co99, eo99⟩ := Kd.R_slice HO_10.out
                subst eo99
                go_wp2_with (first | (go_at_call 10; (with_reducible refine (drawlotref09_Same.calls kj21 _ _ y277 _ _ x262000_2 t307 _ ?side1 ?side2 ?side3 ?side4 A95.out).mono ?_); (case side1 => repeat (first | exact (Kd.R_reads' HO_10.out).2.2 | (with_reducible refine Kd.C_alloc ?_ _) | (with_reducible refine Kd.C_drewN ?_ _) | (with_reducible refine Kd.C_drew ?_))); (case side2 => exact (Kd.R_reads' HO_10.out).2.1); (case side3 => repeat (first | exact (Kd.R_reads' HO_262000.out).2.2 | (with_reducible refine Kd.C_alloc ?_ _) | (with_reducible refine Kd.C_drewN ?_ _) | (with_reducible refine Kd.C_drew ?_))); (case side4 => exact (Kd.R_reads' HO_262000.out).2.1); rintro e w' ⟨rfl, ⟨nd, rfl⟩⟩))
                go_meet
                case rel => exact ⟨_, (!t307), (by first | rfl | (simp; done) | (simp [*]; done)), H', ⟨by have := HJ4.out; have := HK2.out; have := HJ21.out; first | omega | exact Nat.le_refl _⟩, ⟨by (with_reducible repeat (first | apply Kd.R_alloc | apply Kd.R_drewN | apply Kd.R_drew)); exact Kd.R_mono HO_7.out (fun _ hk => ⟨hk.2.1, ⟨hk.2.2.1, hk.2.2.2⟩⟩)⟩, ⟨by (with_reducible repeat (first | apply Kd.R_alloc | apply Kd.R_drewN | apply Kd.R_drew)); exact Kd.R_mono HO_14.out (fun _ hk => ⟨hk.1, ⟨hk.2.2.1, hk.2.2.2⟩⟩)⟩, ⟨by (with_reducible repeat (first | apply Kd.R_alloc | apply Kd.R_drewN | apply Kd.R_drew)); exact Kd.R_mono HO_262000.out (fun _ hk => ⟨hk.1, ⟨hk.2.2.1, hk.2.2.2⟩⟩)⟩, ⟨by (with_reducible repeat (first | apply Kd.R_alloc | apply Kd.R_drewN | apply Kd.R_drew)); exact Kd.R_mono HO_281000.out (fun _ hk => ⟨hk.1, ⟨hk.2.2.1, hk.2.2.2⟩⟩)⟩, ⟨by (with_reducible repeat (first | refine blk_drewN ?_ _ | refine blk_drew ?_ | refine blk_alloc ?_ _)); exact BK261.out⟩, ⟨by (with_reducible repeat (first | refine blk_drewN ?_ _ | refine blk_drew ?_ | refine blk_alloc ?_ _)); exact BK273.out⟩, ⟨by (with_reducible repeat (first | refine blk_drewN ?_ _ | refine blk_drew ?_ | refine blk_alloc ?_ _)); exact BK280.out⟩, ⟨by repeat (first | (with_reducible first | exact HB.out | apply below_alloc | apply pw_below_drewN | apply below_drew1 | refine below_set ?_ GE261.out | refine below_set ?_ GE273.out | refine below_set ?_ GE280.out) | exact HB.out)⟩⟩
               ·rw [if_neg c94] at H
                have c94b0 : (x12_21 == x13_21) = false := beq_eq_false_iff_ne.mpr c94
                have c94b1 : (x12_21 != x13_21) = true := bne_iff_ne.mpr c94
                (first | rw [c94b0] | (simp only [i64_w, i32_w]; rw [c94b0]) | skip)
                have H' := Aside0.mk H
                clear H
                go_wp2
                go_meet
                case rel => exact ⟨_, (true), (by first | rfl | (simp; done) | (simp [*]; done)), H', ⟨by have := HJ4.out; have := HK2.out; have := HJ21.out; first | omega | exact Nat.le_refl _⟩, ⟨by (with_reducible repeat (first | apply Kd.R_alloc | apply Kd.R_drewN | apply Kd.R_drew)); exact Kd.R_mono HO_7.out (fun _ hk => ⟨hk.2.1, ⟨hk.2.2.1, hk.2.2.2⟩⟩)⟩, ⟨by (with_reducible repeat (first | apply Kd.R_alloc | apply Kd.R_drewN | apply Kd.R_drew)); exact Kd.R_mono HO_14.out (fun _ hk => ⟨hk.1, ⟨hk.2.2.1, hk.2.2.2⟩⟩)⟩, ⟨by (with_reducible repeat (first | apply Kd.R_alloc | apply Kd.R_drewN | apply Kd.R_drew)); exact Kd.R_mono HO_262000.out (fun _ hk => ⟨hk.1, ⟨hk.2.2.1, hk.2.2.2⟩⟩)⟩, ⟨by (with_reducible repeat (first | apply Kd.R_alloc | apply Kd.R_drewN | apply Kd.R_drew)); exact Kd.R_mono HO_281000.out (fun _ hk => ⟨hk.1, ⟨hk.2.2.1, hk.2.2.2⟩⟩)⟩, ⟨by (with_reducible repeat (first | refine blk_drewN ?_ _ | refine blk_drew ?_ | refine blk_alloc ?_ _)); exact BK261.out⟩, ⟨by (with_reducible repeat (first | refine blk_drewN ?_ _ | refine blk_drew ?_ | refine blk_alloc ?_ _)); exact BK273.out⟩, ⟨by (with_reducible repeat (first | refine blk_drewN ?_ _ | refine blk_drew ?_ | refine blk_alloc ?_ _)); exact BK280.out⟩, ⟨by repeat (first | (with_reducible first | exact HB.out | apply below_alloc | apply pw_below_drewN | apply below_drew1 | refine below_set ?_ GE261.out | refine below_set ?_ GE273.out | refine below_set ?_ GE280.out) | exact HB.out)⟩⟩
              case rest =>
               clear HC93
               try clear p2
               try clear c3
               try clear c6
               try clear c7
               try clear c8
               try clear c9
               try clear c34
               try clear c34b0
               try clear c36
               try clear c37
               try clear c39
               try clear c60
               try clear c61
               try clear c63
               try clear c82
               try clear c83
               try clear c85
               try clear c94
               try clear c94b0
               try clear c94b1
               try clear c96
               try clear c97
               try clear hcz62_0
               try clear hcz64_0
               try clear hcz64_1
               try clear hcz67_0
               try clear hcz84_0
               try clear hcz86_0
               try clear hcz86_1
               try clear hcz89_0
               try clear hcz90_0
               try clear hcz90_1
               try clear hcz98_0
               try clear hfz62_0
               try clear hfz64_0
               try clear hfz64_1
               try clear hfz67_0
               try clear hfz84_0
               try clear hfz86_0
               try clear hfz86_1
               try clear hfz89_0
               try clear hfz90_0
               try clear hfz90_1
               try clear hfz98_0
               try clear p2
               obtain ⟨kq, x106_92, rfl, HA, HJ92, HO_7, HO_14, HO_262000, HO_281000, BK261, BK273, BK280, HB⟩ := hcut
               cases kq with
               | zero => exact absurd HA.out (by simp [drawlotlaw11_FenTurns.j3])
               | succ kj92 =>
                have H := HA.out
                clear HA
                simp only [drawlotlaw11_FenTurns.j3] at H
                by_cases c100 : x106_92 = true
                ·subst c100
                 have H1 : (none) = some r := by rw [if_pos rfl] at H; exact H
                 clear H
                 have H := H1
                 clear H1
                 exact absurd H (by simp)
                ·replace c100 := Bool.eq_false_iff.mpr c100
                 subst c100
                 have H1 : (if x12_21 = 0 then ((drawlotref11_Tree.f kj92 x14_21).bind fun t308 => ((drawlotref11_Same.f kj92 x281000_21 t308).bind fun t311 => (if t311 = true then (drawlotlaw11_FenTurns.l0 kj92 l1 x14_21 (wrap64 (x8_2 + 1)) x281000_21) else (none)))) else (if (x281000_21.length : Int) > 0 then (none) else (drawlotlaw11_FenTurns.l0 kj92 l1 x7_2 (wrap64 (x8_2 + 1)) x262000_2))) = some r := by rw [if_neg (show ¬ (false = true) by decide)] at H; exact H
                 clear H
                 have H := H1
                 clear H1
                 by_cases c101 : x12_21 = 0
                 ·rw [if_pos c101] at H
                  have c101b0 : (x12_21 == 0) = true := beq_iff_eq.mpr c101
                  have c101b1 : (x12_21 != 0) = false := bne_eq_false_iff_eq.mpr c101
                  clear c101
                  replace H := Option.bind_eq_some_iff.mp H
                  obtain ⟨t308, A1020, H⟩ := H
                  replace H : ((drawlotref11_Same.f kj92 x281000_21 t308).bind fun t311 => (if t311 = true then (drawlotlaw11_FenTurns.l0 kj92 l1 x14_21 (wrap64 (x8_2 + 1)) x281000_21) else (none))) = some r := H
                  have A102 := Aside0.mk A1020
                  clear A1020
                  replace H := Option.bind_eq_some_iff.mp H
                  obtain ⟨t311, A1030, H⟩ := H
                  replace H : (if t311 = true then (drawlotlaw11_FenTurns.l0 kj92 l1 x14_21 (wrap64 (x8_2 + 1)) x281000_21) else (none)) = some r := H
                  have A103 := Aside0.mk A1030
                  clear A1030
                  by_cases c104 : t311 = true
                  ·subst c104
                   have H1 : (drawlotlaw11_FenTurns.l0 kj92 l1 x14_21 (wrap64 (x8_2 + 1)) x281000_21) = some r := by rw [if_pos rfl] at H; exact H
                   clear H
                   have H := H1
                   clear H1
                   have H' := Aside0.mk H
                   clear H
                   have hnb105 := NB280_261.out
                   have hnc105 := NB261_280.out
                   have hnb106 := NB280_273.out
                   have hnc106 := NB273_280.out
                   have hcz107_0 : wc.cell? ⟨gb280, 0, none⟩ = some (u281000) := (blk_cell BK280.out 0).trans rfl
                   have hfz107_0 := blk_frozen BK280.out 0
                   obtain ⟨Ao108, co108, eo108⟩ := Kd.R_slice HO_281000.out
                   subst eo108
                   have hnb109 := NB261_273.out
                   have hnc109 := NB273_261.out
                   have hcz110_0 : wc.cell? ⟨gb261, 0, none⟩ = some (.slice Ao30 x262000_2.length co30) := (blk_cell BK261.out 0).trans rfl
                   have hfz110_0 := blk_frozen BK261.out 0
                   try go_wp2
                   have n0_ : Aside0 (Kd.R (Kd.int .u64) 30 (wc.setCell ⟨gb261, 0, none⟩ (.slice Ao108 x281000_21.length co108)) w.heap.size (fun k_ => some k_ ≠ (u14 : Value).ownBlock ∧ some k_ ≠ (.slice Ao30 x262000_2.length co30 : Value).ownBlock ∧ some k_ ≠ (.slice Ao108 x281000_21.length co108 : Value).ownBlock) u7 x7_2) := ⟨by (with_reducible repeat (first | apply Kd.R_alloc | apply Kd.R_drewN | apply Kd.R_drew)); exact Kd.R_mono (Kd.R_far (p := ⟨gb261, 0, none⟩) (Kd.R_types HO_7.out BK261.out (by decide)) (fun _ hk => hk.2) (.slice Ao108 x281000_21.length co108)) (fun _ hk => ⟨hk.1.1, ⟨hk.1.2.1, hk.1.2.2⟩⟩)⟩
                   have n1_ : Aside0 (Kd.R (Kd.int .u64) 30 (wc.setCell ⟨gb261, 0, none⟩ (.slice Ao108 x281000_21.length co108)) w.heap.size (fun k_ => some k_ ≠ (u7 : Value).ownBlock ∧ some k_ ≠ (.slice Ao30 x262000_2.length co30 : Value).ownBlock ∧ some k_ ≠ (.slice Ao108 x281000_21.length co108 : Value).ownBlock) u14 x14_21) := ⟨by (with_reducible repeat (first | apply Kd.R_alloc | apply Kd.R_drewN | apply Kd.R_drew)); exact Kd.R_mono (Kd.R_far (p := ⟨gb261, 0, none⟩) (Kd.R_types HO_14.out BK261.out (by decide)) (fun _ hk => hk.2) (.slice Ao108 x281000_21.length co108)) (fun _ hk => ⟨hk.1.1, ⟨hk.1.2.1, hk.1.2.2⟩⟩)⟩
                   have n2_ : Aside0 (Kd.R (Kd.int .u64) 30 (wc.setCell ⟨gb261, 0, none⟩ (.slice Ao108 x281000_21.length co108)) w.heap.size (fun k_ => some k_ ≠ (u7 : Value).ownBlock ∧ some k_ ≠ (u14 : Value).ownBlock ∧ some k_ ≠ (.slice Ao108 x281000_21.length co108 : Value).ownBlock) (.slice Ao30 x262000_2.length co30) x262000_2) := ⟨by (with_reducible repeat (first | apply Kd.R_alloc | apply Kd.R_drewN | apply Kd.R_drew)); exact Kd.R_mono (Kd.R_far (p := ⟨gb261, 0, none⟩) (Kd.R_types HO_262000.out BK261.out (by decide)) (fun _ hk => hk.2) (.slice Ao108 x281000_21.length co108)) (fun _ hk => ⟨hk.1.1, ⟨hk.1.2.1, hk.1.2.2⟩⟩)⟩
                   have n3_ : Aside0 (Kd.R (Kd.int .u64) 30 (wc.setCell ⟨gb261, 0, none⟩ (.slice Ao108 x281000_21.length co108)) w.heap.size (fun k_ => some k_ ≠ (u7 : Value).ownBlock ∧ some k_ ≠ (u14 : Value).ownBlock ∧ some k_ ≠ (.slice Ao30 x262000_2.length co30 : Value).ownBlock) (.slice Ao108 x281000_21.length co108) x281000_21) := ⟨by (with_reducible repeat (first | apply Kd.R_alloc | apply Kd.R_drewN | apply Kd.R_drew)); exact Kd.R_mono (Kd.R_far (p := ⟨gb261, 0, none⟩) (Kd.R_types HO_281000.out BK261.out (by decide)) (fun _ hk => hk.2) (.slice Ao108 x281000_21.length co108)) (fun _ hk => ⟨hk.1.1, ⟨hk.1.2.1, hk.1.2.2⟩⟩)⟩
                   have n4_ : Aside0 ((wc.setCell ⟨gb261, 0, none⟩ (.slice Ao108 x281000_21.length co108)).heap[gb261]? = some (.cells #[.slice Ao108 x281000_21.length co108] 26 (0, 0))) := ⟨by (with_reducible repeat (first | refine blk_drewN ?_ _ | refine blk_drew ?_ | refine blk_alloc ?_ _)); refine blk_put (cs := #[.slice Ao30 x262000_2.length co30]) ?_ 0 _ rfl; (with_reducible repeat (first | refine blk_drewN ?_ _ | refine blk_drew ?_ | refine blk_alloc ?_ _)); exact BK261.out⟩
                   have n5_ : Aside0 ((wc.setCell ⟨gb261, 0, none⟩ (.slice Ao108 x281000_21.length co108)).heap[gb273]? = some (.cells #[.int .i64 ((rd_T32 l1 x8_2).f0), .int .u64 ((rd_T32 l1 x8_2).f1)] 32 (0, 0))) := ⟨by (with_reducible repeat (first | refine blk_drewN ?_ _ | refine blk_drew ?_ | refine blk_alloc ?_ _)); refine blk_far ?_ NB273_261.out _; (with_reducible repeat (first | refine blk_drewN ?_ _ | refine blk_drew ?_ | refine blk_alloc ?_ _)); exact BK273.out⟩
                   have n6_ : Aside0 ((wc.setCell ⟨gb261, 0, none⟩ (.slice Ao108 x281000_21.length co108)).heap[gb280]? = some (.cells #[.slice Ao108 x281000_21.length co108] 26 (0, 0))) := ⟨by (with_reducible repeat (first | refine blk_drewN ?_ _ | refine blk_drew ?_ | refine blk_alloc ?_ _)); refine blk_far ?_ NB280_261.out _; (with_reducible repeat (first | refine blk_drewN ?_ _ | refine blk_drew ?_ | refine blk_alloc ?_ _)); exact BK280.out⟩
                   have n7_ : Aside0 (Below w.heap.size w (wc.setCell ⟨gb261, 0, none⟩ (.slice Ao108 x281000_21.length co108))) := ⟨by repeat (first | (with_reducible first | exact HB.out | apply below_alloc | apply pw_below_drewN | apply below_drew1 | refine below_set ?_ GE261.out | refine below_set ?_ GE273.out | refine below_set ?_ GE280.out) | exact HB.out)⟩
                   (try clear HO_7)
                   (try clear HO_14)
                   (try clear HO_262000)
                   (try clear HO_281000)
                   (try clear BK261)
                   (try clear BK273)
                   (try clear BK280)
                   (try clear HB)
                   generalize (wc.setCell ⟨gb261, 0, none⟩ (.slice Ao108 x281000_21.length co108)) = w111 at n0_ n1_ n2_ n3_ n4_ n5_ n6_ n7_ ⊢
                   have HO_7 := n0_
                   have HO_14 := n1_
                   have HO_262000 := n2_
                   have HO_281000 := n3_
                   have BK261 := n4_
                   have BK273 := n5_
                   have BK280 := n6_
                   have HB := n7_
                   clear n0_ n1_ n2_ n3_ n4_ n5_ n6_ n7_
                   have n0_ := Aside0.mk (Kd.R_drew HO_7.out)
                   have n1_ := Aside0.mk (Kd.R_drew HO_14.out)
                   have n2_ := Aside0.mk (Kd.R_drew HO_262000.out)
                   have n3_ := Aside0.mk (Kd.R_drew HO_281000.out)
                   have n4_ := Aside0.mk (blk_drew BK261.out)
                   have n5_ := Aside0.mk (blk_drew BK273.out)
                   have n6_ := Aside0.mk (blk_drew BK280.out)
                   have n7_ := Aside0.mk (below_drew1 HB.out)
                   clear HO_7
                   clear HO_14
                   clear HO_262000
                   clear HO_281000
                   clear BK261
                   clear BK273
                   clear BK280
                   clear HB
                   have HO_7 := n0_
                   have HO_14 := n1_
                   have HO_262000 := n2_
                   have HO_281000 := n3_
                   have BK261 := n4_
                   have BK273 := n5_
                   have BK280 := n6_
                   have HB := n7_
                   clear n0_ n1_ n2_ n3_ n4_ n5_ n6_ n7_
                   obtain ⟨Ao113, co113, eo113⟩ := Kd.R_slice HO_14.out
                   (first | subst eo113 | (injection eo113 with f1_ f2_ f3_; have f4_ := f1_.symm; have f5_ := f3_.symm; clear f1_ f2_ f3_; subst f4_; subst f5_))
                   refine start_ (n := 5) (S := fun w' => w'.cell? ⟨gb261, 0, none⟩ = some (.slice Ao108 x281000_21.length co108)) (ds := []) #[false, false, false, false, false] (by kernel_rfl) rfl rfl ((blk_cell BK261.out 0).trans rfl) (fun hHeld => ?_)
                   generalize w111.drew = w112 at HO_7 HO_14 HO_262000 HO_281000 BK261 BK273 BK280 HB hHeld ⊢
                   refine pure_ (i := 1) (N := some 116) (v := ?_) (a' := ?_) #[false, true, false, false, false] rfl rfl (by kernel_rfl) (fun _ _ _ h => h) (Or.inl ⟨by rfl, ?_⟩) ?_ ?_
                   rotate_left
                   ·intro w'
                    go_simp
                    with_reducible rfl
                   rotate_left
                   ·simp only [Act.put, List.setIfInBounds_toArray, List.set_cons_zero, List.set_cons_succ, i64_w, i32_w]
                    rfl
                   refine take_ (i := 0) (N := some 115) (v := ?_) (a' := ?_) #[true, true, false, false, false] rfl rfl (by kernel_rfl) (fun _ _ _ h => h) (Or.inl ⟨by rfl, ?_⟩) hHeld ?_ ?_
                   rotate_left
                   ·intro w' s0
                    go_simp
                    with_reducible rfl
                   rotate_left
                   ·simp only [Act.put, List.setIfInBounds_toArray, List.set_cons_zero, List.set_cons_succ, i64_w, i32_w]
                    rfl
                   refine one_ (i := 2) (N := some 117) #[true, true, true, false, false] rfl rfl (by kernel_rfl) (by decide) (fun K hK => ?_)
                   refine goes_ Try.func12 (by kernel_rfl) rfl #[.slice Ao113 x14_21.length co113] (by rfl) rfl rfl (by (try simp only [List.map_toArray, List.map_cons, List.map_nil]); first | done | rfl | (simp only [List.length_drop, List.length_take]; rfl)) ?_
                   with_reducible refine (drawlotref11_Tree.calls kj92 _ _ x14_21 t308 _ ?side1 ?side2 A102.out).mono ?_
                   (case side1 => repeat (first | exact (Kd.R_reads' HO_14.out).2.2 | (with_reducible refine Kd.C_alloc ?_ _) | (with_reducible refine Kd.C_drewN ?_ _) | (with_reducible refine Kd.C_drew ?_)))
                   (case side2 => exact (Kd.R_reads' HO_14.out).2.1)
                   rintro e w114 ⟨v309, rfl, ho0, hb⟩
                   refine ⟨_, rfl, ?_⟩
                   have n0_ := Aside0.mk (Kd.R_elder' (by (with_reducible repeat (first | apply Kd.R_alloc | apply Kd.R_drewN | apply Kd.R_drew)); exact HO_7.out) (Kd.R_base ho0) hb)
                   have n1_ := Aside0.mk (Kd.R_elder' (by (with_reducible repeat (first | apply Kd.R_alloc | apply Kd.R_drewN | apply Kd.R_drew)); exact HO_14.out) (Kd.R_base ho0) hb)
                   have n2_ := Aside0.mk (Kd.R_elder' (by (with_reducible repeat (first | apply Kd.R_alloc | apply Kd.R_drewN | apply Kd.R_drew)); exact HO_262000.out) (Kd.R_base ho0) hb)
                   have n3_ := Aside0.mk (Kd.R_elder' (by (with_reducible repeat (first | apply Kd.R_alloc | apply Kd.R_drewN | apply Kd.R_drew)); exact HO_281000.out) (Kd.R_base ho0) hb)
                   have n4_ := Aside0.mk (Kd.R_lower (Kd.R_new' (Kd.R_new' (Kd.R_new' (Kd.R_new' ho0 (Kd.R_lt (by (with_reducible repeat (first | apply Kd.R_alloc | apply Kd.R_drewN | apply Kd.R_drew)); exact HO_7.out))) (Kd.R_lt (by (with_reducible repeat (first | apply Kd.R_alloc | apply Kd.R_drewN | apply Kd.R_drew)); exact HO_14.out))) (Kd.R_lt (by (with_reducible repeat (first | apply Kd.R_alloc | apply Kd.R_drewN | apply Kd.R_drew)); exact HO_262000.out))) (Kd.R_lt (by (with_reducible repeat (first | apply Kd.R_alloc | apply Kd.R_drewN | apply Kd.R_drew)); exact HO_281000.out))) (below_size (by repeat (first | (with_reducible first | exact HB.out | apply below_alloc | apply pw_below_drewN | apply below_drew1 | refine below_set ?_ GE261.out | refine below_set ?_ GE273.out | refine below_set ?_ GE280.out) | exact HB.out))))
                   have n5_ := Aside0.mk (blk_below (g := gb261) (o := .cells #[.slice Ao108 x281000_21.length co108] 26 (0, 0)) (by (with_reducible repeat (first | refine blk_drewN ?_ _ | refine blk_drew ?_ | refine blk_alloc ?_ _)); exact BK261.out) hb)
                   have n6_ := Aside0.mk (blk_below (g := gb273) (o := .cells #[.int .i64 ((rd_T32 l1 x8_2).f0), .int .u64 ((rd_T32 l1 x8_2).f1)] 32 (0, 0)) (by (with_reducible repeat (first | refine blk_drewN ?_ _ | refine blk_drew ?_ | refine blk_alloc ?_ _)); exact BK273.out) hb)
                   have n7_ := Aside0.mk (blk_below (g := gb280) (o := .cells #[.slice Ao108 x281000_21.length co108] 26 (0, 0)) (by (with_reducible repeat (first | refine blk_drewN ?_ _ | refine blk_drew ?_ | refine blk_alloc ?_ _)); exact BK280.out) hb)
                   have n8_ := Aside0.mk (below_step (by repeat (first | (with_reducible first | exact HB.out | apply below_alloc | apply pw_below_drewN | apply below_drew1 | refine below_set ?_ GE261.out | refine below_set ?_ GE273.out | refine below_set ?_ GE280.out) | exact HB.out)) hb)
                   clear HO_7
                   clear HO_14
                   clear HO_262000
                   clear HO_281000
                   clear BK261
                   clear BK273
                   clear BK280
                   clear HB
                   have HO_7 := n0_
                   have HO_14 := n1_
                   have HO_262000 := n2_
                   have HO_281000 := n3_
                   have HO310 := n4_
                   have BK261 := n5_
                   have BK273 := n6_
                   have BK280 := n7_
                   have HB := n8_
                   clear n0_ n1_ n2_ n3_ n4_ n5_ n6_ n7_ n8_
                   (try clear hb)
                   (try clear hb2)
                   (try clear hk)
                   (try clear hi)
                   (try clear ho0)
                   obtain ⟨Ao115, co115, eo115⟩ := Kd.R_slice HO310.out
                   (first | subst eo115 | (injection eo115 with f1_ f2_ f3_; have f4_ := f1_.symm; have f5_ := f3_.symm; clear f1_ f2_ f3_; subst f4_; subst f5_))
                   refine hK.out _ _ ((blk_cell BK261.out 0).trans rfl) (fun hHeld => ?_)
                   clear hK K
                   refine norm_ (a' := ?_) ?_ ?_
                   rotate_left
                   ·show Act.put _ (some 117) _ = _
                    simp only [Act.put, List.setIfInBounds_toArray, List.set_cons_zero, List.set_cons_succ, i64_w, i32_w]
                    rfl
                   refine one_ (i := 3) (N := some 118) #[true, true, true, true, false] rfl rfl (by kernel_rfl) (by decide) (fun K hK => ?_)
                   refine goes_ Try.func11 (by kernel_rfl) rfl #[.agg #[.slice Ao108 x281000_21.length co108], .agg #[.slice Ao115 t308.length co115]] (by rfl) rfl rfl (by (try simp only [List.map_toArray, List.map_cons, List.map_nil]); first | done | rfl | (simp only [List.length_drop, List.length_take]; rfl)) ?_
                   with_reducible refine (drawlotref11_Same.calls kj92 _ _ x281000_21 _ _ t308 true _ ?side1 ?side2 ?side3 ?side4 A103.out).mono ?_
                   (case side1 => repeat (first | exact (Kd.R_reads' HO_281000.out).2.2 | (with_reducible refine Kd.C_alloc ?_ _) | (with_reducible refine Kd.C_drewN ?_ _) | (with_reducible refine Kd.C_drew ?_)))
                   (case side2 => exact (Kd.R_reads' HO_281000.out).2.1)
                   (case side3 => repeat (first | exact (Kd.R_reads' HO310.out).2.2 | (with_reducible refine Kd.C_alloc ?_ _) | (with_reducible refine Kd.C_drewN ?_ _) | (with_reducible refine Kd.C_drew ?_)))
                   (case side4 => exact (Kd.R_reads' HO310.out).2.1)
                   rintro e w116 ⟨rfl, hb⟩
                   refine ⟨_, rfl, ?_⟩
                   have n0_ := Aside0.mk (Kd.R_below (by (with_reducible repeat (first | apply Kd.R_alloc | apply Kd.R_drewN | apply Kd.R_drew)); exact HO_7.out) hb)
                   have n1_ := Aside0.mk (Kd.R_below (by (with_reducible repeat (first | apply Kd.R_alloc | apply Kd.R_drewN | apply Kd.R_drew)); exact HO_14.out) hb)
                   have n2_ := Aside0.mk (Kd.R_below (by (with_reducible repeat (first | apply Kd.R_alloc | apply Kd.R_drewN | apply Kd.R_drew)); exact HO_262000.out) hb)
                   have n3_ := Aside0.mk (Kd.R_below (by (with_reducible repeat (first | apply Kd.R_alloc | apply Kd.R_drewN | apply Kd.R_drew)); exact HO_281000.out) hb)
                   have n4_ := Aside0.mk (Kd.R_below (by (with_reducible repeat (first | apply Kd.R_alloc | apply Kd.R_drewN | apply Kd.R_drew)); exact HO310.out) hb)
                   have n5_ := Aside0.mk (blk_below (g := gb261) (o := .cells #[.slice Ao108 x281000_21.length co108] 26 (0, 0)) (by (with_reducible repeat (first | refine blk_drewN ?_ _ | refine blk_drew ?_ | refine blk_alloc ?_ _)); exact BK261.out) hb)
                   have n6_ := Aside0.mk (blk_below (g := gb273) (o := .cells #[.int .i64 ((rd_T32 l1 x8_2).f0), .int .u64 ((rd_T32 l1 x8_2).f1)] 32 (0, 0)) (by (with_reducible repeat (first | refine blk_drewN ?_ _ | refine blk_drew ?_ | refine blk_alloc ?_ _)); exact BK273.out) hb)
                   have n7_ := Aside0.mk (blk_below (g := gb280) (o := .cells #[.slice Ao108 x281000_21.length co108] 26 (0, 0)) (by (with_reducible repeat (first | refine blk_drewN ?_ _ | refine blk_drew ?_ | refine blk_alloc ?_ _)); exact BK280.out) hb)
                   have n8_ := Aside0.mk (below_step (by repeat (first | (with_reducible first | exact HB.out | apply below_alloc | apply pw_below_drewN | apply below_drew1 | refine below_set ?_ GE261.out | refine below_set ?_ GE273.out | refine below_set ?_ GE280.out) | exact HB.out)) hb)
                   clear HO_7
                   clear HO_14
                   clear HO_262000
                   clear HO_281000
                   clear HO310
                   clear BK261
                   clear BK273
                   clear BK280
                   clear HB
                   have HO_7 := n0_
                   have HO_14 := n1_
                   have HO_262000 := n2_
                   have HO_281000 := n3_
                   have HO310 := n4_
                   have BK261 := n5_
                   have BK273 := n6_
                   have BK280 := n7_
                   have HB := n8_
                   clear n0_ n1_ n2_ n3_ n4_ n5_ n6_ n7_ n8_
                   (try clear hb)
                   (try clear hb2)
                   (try clear hk)
                   (try clear hi)
                   refine hK.out _ _ ((blk_cell BK261.out 0).trans rfl) (fun hHeld => ?_)
                   clear hK K
                   refine norm_ (a' := ?_) ?_ ?_
                   rotate_left
                   ·show Act.put _ (some 118) _ = _
                    simp only [Act.put, List.setIfInBounds_toArray, List.set_cons_zero, List.set_cons_succ, i64_w, i32_w]
                    rfl
                   refine pure_ (i := 4) (N := some 119) (v := ?_) (a' := ?_) #[true, true, true, true, true] rfl rfl (by kernel_rfl) (fun _ _ _ h => h) (Or.inl ⟨by rfl, ?_⟩) ?_ ?_
                   rotate_left
                   ·intro w'
                    go_simp
                    with_reducible rfl
                   rotate_left
                   ·simp only [Act.put, List.setIfInBounds_toArray, List.set_cons_zero, List.set_cons_succ, i64_w, i32_w]
                    rfl
                   refine done_ (by kernel_rfl) ?_
                   try go_wp2
                   go_roundg kj92
                   case measure => have := HJ4.out; have := HK2.out; have := HJ21.out; have := HJ92.out; omega
                   case rel => exact ⟨(x14_21), (wrap64 (x8_2 + 1)), (x281000_21), (.slice Ao108 x281000_21.length co108), (by first | rfl | (simp; done) | (simp [*]; done)), H', ⟨by have := HJ4.out; have := HK2.out; have := HJ21.out; have := HJ92.out; omega⟩, ⟨by (with_reducible repeat (first | apply Kd.R_alloc | apply Kd.R_drewN | apply Kd.R_drew)); exact Kd.R_mono HO_14.out (fun _ hk => hk.1.2.2)⟩, ⟨by (with_reducible repeat (first | apply Kd.R_alloc | apply Kd.R_drewN | apply Kd.R_drew)); exact Kd.R_mono HO_281000.out (fun _ hk => hk.1.2.1)⟩, ⟨by (with_reducible repeat (first | refine blk_drewN ?_ _ | refine blk_drew ?_ | refine blk_alloc ?_ _)); exact BK261.out⟩, ⟨by repeat (first | (with_reducible first | exact HB.out | apply below_alloc | apply pw_below_drewN | apply below_drew1 | refine below_set ?_ GE261.out | refine below_set ?_ GE273.out | refine below_set ?_ GE280.out) | exact HB.out)⟩⟩
                  ·replace c104 := Bool.eq_false_iff.mpr c104
                   subst c104
                   have H1 : (none) = some r := by rw [if_neg (show ¬ (false = true) by decide)] at H; exact H
                   clear H
                   have H := H1
                   clear H1
                   exact absurd H (by simp)
                 ·rw [if_neg c101] at H
                  have c101b0 : (x12_21 == 0) = false := beq_eq_false_iff_ne.mpr c101
                  have c101b1 : (x12_21 != 0) = true := bne_iff_ne.mpr c101
                  by_cases c117 : (x281000_21.length : Int) > 0
                  ·rw [if_pos c117] at H
                   exact absurd H (by simp)
                  ·rw [if_neg c117] at H
                   have c117b0 : decide (0 < (x281000_21.length : Int)) = false := decide_eq_false c117
                   have c117b1 : decide (0 < x281000_21.length) = false := decide_eq_false (by omega)
                   clear c117
                   have H' := Aside0.mk H
                   clear H
                   have hnb118 := NB280_261.out
                   have hnc118 := NB261_280.out
                   have hnb119 := NB280_273.out
                   have hnc119 := NB273_280.out
                   have hcz120_0 : wc.cell? ⟨gb280, 0, none⟩ = some (u281000) := (blk_cell BK280.out 0).trans rfl
                   have hfz120_0 := blk_frozen BK280.out 0
                   obtain ⟨Ao121, co121, eo121⟩ := Kd.R_slice HO_281000.out
                   subst eo121
                   go_wp2
                   go_roundg kj92
                   case measure => have := HJ4.out; have := HK2.out; have := HJ21.out; have := HJ92.out; omega
                   case rel => exact ⟨(x7_2), (wrap64 (x8_2 + 1)), (x262000_2), (.slice Ao30 x262000_2.length co30), (by first | rfl | (simp; done) | (simp [*]; done)), H', ⟨by have := HJ4.out; have := HK2.out; have := HJ21.out; have := HJ92.out; omega⟩, ⟨by (with_reducible repeat (first | apply Kd.R_alloc | apply Kd.R_drewN | apply Kd.R_drew)); exact Kd.R_mono HO_7.out (fun _ hk => hk.2.1)⟩, ⟨by (with_reducible repeat (first | apply Kd.R_alloc | apply Kd.R_drewN | apply Kd.R_drew)); exact Kd.R_mono HO_262000.out (fun _ hk => hk.1)⟩, ⟨by (with_reducible repeat (first | refine blk_drewN ?_ _ | refine blk_drew ?_ | refine blk_alloc ?_ _)); exact BK261.out⟩, ⟨by repeat (first | (with_reducible first | exact HB.out | apply below_alloc | apply pw_below_drewN | apply below_drew1 | refine below_set ?_ GE261.out | refine below_set ?_ GE273.out | refine below_set ?_ GE280.out) | exact HB.out)⟩⟩
           ·rw [if_neg c21] at H
            exact absurd H (by simp)
          ·rw [if_neg c20] at H
           exact absurd H (by simp)
         ·rw [if_neg c19] at H
          have c19b0 : decide (x8_2 < (l1.length : Int)) = false := decide_eq_false c19
          clear c19
          replace H := Option.bind_eq_some_iff.mp H
          obtain ⟨t268, A1220, H⟩ := H
          replace H : ((drawlotref09_Same.f k2 t268 x7_2).bind fun t271 => (some t271)) = some r := H
          have A122 := Aside0.mk A1220
          clear A1220
          replace H := Option.bind_eq_some_iff.mp H
          obtain ⟨t271, A1230, H⟩ := H
          replace H : (some t271) = some r := H
          have A123 := Aside0.mk A1230
          clear A1230
          obtain rfl := Option.some.inj H
          have hcz124_0 : wr.cell? ⟨gb261, 0, none⟩ = some (u262000) := (blk_cell BK261.out 0).trans rfl
          have hfz124_0 := blk_frozen BK261.out 0
          obtain ⟨Ao125, co125, eo125⟩ := Kd.R_slice HO_262000.out
          subst eo125
          go_wp2_with (first | ((with_reducible refine gate_callee (f := 13) rfl ?_); refine goesL_ (some 121) rfl rfl Try.func13 (by kernel_rfl) rfl #[.agg #[.slice Ao125 x262000_2.length co125]] rfl (by (try simp only [List.map_toArray, List.map_cons, List.map_nil]); first | done | rfl | (simp only [List.length_drop, List.length_take]; rfl)) ?_; (with_reducible refine (fen_Stakes.calls k2 _ _ x262000_2 t268 _ ?side1 ?side2 A122.out).mono ?_); (case side1 => repeat (first | exact (Kd.R_reads' HO_262000.out).2.2 | (with_reducible refine Kd.C_alloc ?_ _) | (with_reducible refine Kd.C_drewN ?_ _) | (with_reducible refine Kd.C_drew ?_))); (case side2 => exact (Kd.R_reads' HO_262000.out).2.1); rintro e w126 ⟨v269, rfl, ho0, hb⟩; refine ⟨_, rfl, ?_⟩; have n0_ := Aside0.mk (Kd.R_elder' (by (with_reducible repeat (first | apply Kd.R_alloc | apply Kd.R_drewN | apply Kd.R_drew)); exact HO_7.out) (Kd.R_base ho0) hb); have n1_ := Aside0.mk (Kd.R_elder' (by (with_reducible repeat (first | apply Kd.R_alloc | apply Kd.R_drewN | apply Kd.R_drew)); exact HO_262000.out) (Kd.R_base ho0) hb); have n2_ := Aside0.mk (Kd.R_lower (Kd.R_new' (Kd.R_new' ho0 (Kd.R_lt (by (with_reducible repeat (first | apply Kd.R_alloc | apply Kd.R_drewN | apply Kd.R_drew)); exact HO_7.out))) (Kd.R_lt (by (with_reducible repeat (first | apply Kd.R_alloc | apply Kd.R_drewN | apply Kd.R_drew)); exact HO_262000.out))) (below_size (by repeat (first | (with_reducible first | exact HB.out | apply below_alloc | apply pw_below_drewN | apply below_drew1 | refine below_set ?_ GE261.out) | exact HB.out)))); have n3_ := Aside0.mk (blk_below (g := gb261) (o := .cells #[.slice Ao125 x262000_2.length co125] 26 (0, 0)) (by (with_reducible repeat (first | refine blk_drewN ?_ _ | refine blk_drew ?_ | refine blk_alloc ?_ _)); exact BK261.out) hb); have n4_ := Aside0.mk (below_step (by repeat (first | (with_reducible first | exact HB.out | apply below_alloc | apply pw_below_drewN | apply below_drew1 | refine below_set ?_ GE261.out) | exact HB.out)) hb); clear HO_7; clear HO_262000; clear BK261; clear HB; have HO_7 := n0_; have HO_262000 := n1_; have HO270 := n2_; have BK261 := n3_; have HB := n4_; clear n0_ n1_ n2_ n3_ n4_; (try clear hb); (try clear hb2); (try clear hk); (try clear hi); (try clear ho0); obtain ⟨Ao127, co127, eo127⟩ := Kd.R_slice HO270.out; subst eo127; obtain ⟨Ao128, co128, eo128⟩ := Kd.R_slice HO_7.out; subst eo128) | ((with_reducible refine gate_callee (f := 10) rfl ?_); refine goesL_ (some 123) rfl rfl Try.func10 (by kernel_rfl) rfl #[.slice Ao127 t268.length co127, .slice Ao128 x7_2.length co128] rfl (by (try simp only [List.map_toArray, List.map_cons, List.map_nil]); first | done | rfl | (simp only [List.length_drop, List.length_take]; rfl)) ?_; (with_reducible refine (drawlotref09_Same.calls k2 _ _ t268 _ _ x7_2 t271 _ ?side1 ?side2 ?side3 ?side4 A123.out).mono ?_); (case side1 => repeat (first | exact (Kd.R_reads' HO270.out).2.2 | (with_reducible refine Kd.C_alloc ?_ _) | (with_reducible refine Kd.C_drewN ?_ _) | (with_reducible refine Kd.C_drew ?_))); (case side2 => exact (Kd.R_reads' HO270.out).2.1); (case side3 => repeat (first | exact (Kd.R_reads' HO_7.out).2.2 | (with_reducible refine Kd.C_alloc ?_ _) | (with_reducible refine Kd.C_drewN ?_ _) | (with_reducible refine Kd.C_drew ?_))); (case side4 => exact (Kd.R_reads' HO_7.out).2.1); rintro e w' ⟨rfl, ⟨nd, rfl⟩⟩; refine ⟨_, rfl, ?_⟩))
          go_ret
          exact ⟨by first | rfl | (simp [errW_none, errW_some] <;> rfl) | (simp [*, errW_none, errW_some] <;> rfl), by repeat (first | (with_reducible first | exact HB.out | apply below_alloc | apply pw_below_drewN | apply below_drew1 | refine below_set ?_ GE261.out) | exact HB.out)⟩
      ·rw [if_neg c11] at H
       exact absurd H (by simp)
     ·rw [if_neg c10] at H
      have c10b0 : (t260 == 0) = false := beq_eq_false_iff_ne.mpr c10
      have c10b1 : (t260 != 0) = true := bne_iff_ne.mpr c10
      obtain rfl := Option.some.inj H
      go_wp2_with (first | ((with_reducible refine gate_callee (f := 5) rfl ?_); refine goesL_ (some 29) rfl rfl Try.func5 (by kernel_rfl) rfl #[.slice A0 l0.length c0] rfl (by (try simp only [List.map_toArray, List.map_cons, List.map_nil]); first | done | rfl | (simp only [List.length_drop, List.length_take]; rfl)) ?_; (with_reducible refine (fen_Build.calls kj4 _ _ l0 t257 t260 _ ?side1 ?side2 A9.out).mono ?_); (case side1 => repeat (first | exact (Kd.C_below HR0.out HB.out) | (with_reducible refine Kd.C_alloc ?_ _) | (with_reducible refine Kd.C_drewN ?_ _) | (with_reducible refine Kd.C_drew ?_))); (case side2 => exact HC0.out); rintro e w129 ⟨v258, rfl, ho0, hb⟩; refine ⟨_, rfl, ?_⟩; have n0_ := Aside0.mk (Kd.R_lower ho0 (below_size (by repeat (first | (with_reducible first | exact HB.out | apply below_alloc | apply pw_below_drewN | apply below_drew1) | exact HB.out)))); have n1_ := Aside0.mk (below_step (by repeat (first | (with_reducible first | exact HB.out | apply below_alloc | apply pw_below_drewN | apply below_drew1) | exact HB.out)) hb); clear HB; have HO259 := n0_; have HB := n1_; clear n0_ n1_; (try clear hb); (try clear hb2); (try clear hk); (try clear hi); (try clear ho0)) | ((with_reducible refine gate_dst (N := 5) rfl ?_); (try (refine gate_guard (by rfl) ?_; dsimp only)); refine box_event ?hg (N := 5) ?hd (cs := #[.slice none 0 0]) (t := 26) ?hr ?_; (case hd => rfl); (case hg => rfl); (case hr => first | (go_simp; done) | (go_simp; rfl)); intro gb261 hg w130 hbox hb; have n0_ := Aside0.mk (Kd.R_below (by (with_reducible repeat (first | apply Kd.R_alloc | apply Kd.R_drewN | apply Kd.R_drew)); exact HO259.out) hb); have n1_ := Aside0.mk (below_step (by repeat (first | (with_reducible first | exact HB.out | apply below_alloc | apply pw_below_drewN | apply below_drew1) | exact HB.out)) hb); have n2_ := Aside0.mk (hbox); have n3_ := Aside0.mk ((by rw [hg]; exact (below_size (by repeat (first | (with_reducible first | exact HB.out | apply below_alloc | apply pw_below_drewN | apply below_drew1) | exact HB.out))) : w.heap.size ≤ gb261)); have n4_ := Aside0.mk ((by rw [hg]; exact (below_size (by repeat (first | (with_reducible first | exact HB.out | apply below_alloc | apply pw_below_drewN | apply below_drew1) | exact HB.out))) : w.heap.size ≤ gb261)); clear HO259; clear HB; have HO259 := n0_; have HB := n1_; have BK261 := n2_; have GW261 := n3_; have GE261 := n4_; clear n0_ n1_ n2_ n3_ n4_; clear hb hbox hg; obtain ⟨Ao131, co131, eo131⟩ := Kd.R_slice HO259.out; subst eo131; have hcz132_0 : w130.cell? ⟨gb261, 0, none⟩ = some (.slice none 0 0) := (blk_cell BK261.out 0).trans rfl; have hfz132_0 := blk_frozen BK261.out 0))
      go_ret
      exact ⟨by first | rfl | (simp [errW_none, errW_some] <;> rfl) | (simp [*, errW_none, errW_some] <;> rfl), by repeat (first | (with_reducible first | exact HB.out | apply below_alloc | apply pw_below_drewN | apply below_drew1 | refine below_set ?_ GE261.out) | exact HB.out)⟩
 ·replace c4 := Bool.eq_false_iff.mpr c4
  subst c4
  have H1 : (none) = some r := by rw [if_neg (show ¬ (false = true) by decide)] at H; exact H
  clear H
  have H := H1
  clear H1
  exact absurd H (by simp)

/-- THE ONE PURE STATEMENT of drawlotlaw11_FenTurns: yours. -/
def drawlotlaw11_FenTurns.Pure : Prop := ∀ (l0 : List Int) (l1 : List (S32)), l0.length ≤ maxLen → l0.length * 8 ≤ 140737488351232 → (∀ x ∈ l0, (Lit.int .u64 x).wf = true) → (l1.length ≤ maxLen ∧ ∀ x ∈ l1, ((Lit.int .i64 x.f0).wf = true ∧ (Lit.int .u64 x.f1).wf = true)) → ∃ k, drawlotlaw11_FenTurns.f k l0 l1 = some true
theorem drawlotlaw11_FenTurns.walk (P : drawlotlaw11_FenTurns.Pure) (a0 : Option Addr) (len0 cap0 : Nat) (z0 : List Int) (A1 : Option Addr) (c1 : Nat) (l1 : List (S32)) (w : World) (w0 : (a0 = none ∧ len0 = 0 ∧ cap0 = 0 ∧ z0 = []) ∨ ∃ x, a0 = some x ∧ len0 ≤ cap0 ∧ cap0 ≤ maxLen ∧ z0.length = cap0 ∧ (∀ i, i < z0.length → w.cell? (x.add i) = some (.int .u64 (z0.getD i 0))) ∧ ∀ n ∈ z0, (Lit.int .u64 n).wf = true) (y0 : len0 * 8 ≤ 140737488351232) (w1 : Kd.C k32 w A1 l1.length l1 ∧ l1.length ≤ c1 ∧ (l1.length ≤ maxLen ∧ ∀ x ∈ l1, ((Lit.int .i64 x.f0).wf = true ∧ (Lit.int .u64 x.f1).wf = true))) :
  Calls Try.prog 3 #[.slice a0 len0 cap0, .slice A1 l1.length c1] w fun e w' => e = .returned (.bool true) ∧ Below w.heap.size w w' := by
 obtain ⟨l0, rfl, hr0, hm0, hw0, hc0⟩ := ReadsInt.ofRowC w0
 obtain ⟨k, h⟩ := P l0 l1 hm0 y0 hw0 w1.2.2
 refine (drawlotlaw11_FenTurns.calls k _ _ l0 _ _ l1 true w (Kd.C_of_reads (d := (0 : Int)) (h1 := fun _ => rfl) hr0) hc0 w1.1 w1.2.1 h).mono ?_
 rintro e w' ⟨rfl, hd⟩
 exact ⟨rfl, hd⟩

end Go.Proofs.Ytgboamdacnigmaa.PF
