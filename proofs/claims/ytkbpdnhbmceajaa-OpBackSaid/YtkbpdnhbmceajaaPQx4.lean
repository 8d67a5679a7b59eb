/- Written by xprint.py, this session's own driver, for the seat Ytkbpdnhbmceajaa: contracts of Go functions, each saying that a call answers what a plain Lean function of the same name says, and, in a text named Law, the row of a law: its Go function answers true for every input. No conditions. -/
import Derived.Test.YtkbpdnhbmceajaaPQx0
import Derived.Test.YtkbpdnhbmceajaaPQx2
import Derived.Test.YtkbpdnhbmceajaaPQx3
namespace Go.Proofs.Ytkbpdnhbmceajaa.PQ
open Go.RowKit Go.Proofs.YtkbpdnhbmceajaaW.PrintWords Go.Proofs.YtkbpdnhbmceajaaW.PrintLast Go.Proofs.YtkbpdnhbmceajaaW.PrintMore
attribute [local go_sem] max2_int min2_int max_two min_two max_three min_three max_four min_four   -- for this text's walks alone
set_option linter.unusedVariables false
set_option linter.unusedSimpArgs false

/-! ### op_Encode: function 12 -/
def op_Encode.l0 : Nat → List Int → List (S39) → Int → Int → Option (List Int × Int)
 | 0, _, _, _, _ => none
 | k + 1, x4, x7, x8, x9 => if x9 < x8 then (if 0 ≤ x9 then (if x9 < (x7.length : Int) then ((op_Right.f k ((rd_T39 x7 x9).f0) ((rd_T39 x7 x9).f1) ((rd_T39 x7 x9).f2) ((rd_T39 x7 x9).f3) ((rd_T39 x7 x9).f4)).bind fun t148 => (if t148 = true then ((op_bytes.f k ((rd_T39 x7 x9).f0) ((rd_T39 x7 x9).f1) ((rd_T39 x7 x9).f2) ((rd_T39 x7 x9).f3) ((rd_T39 x7 x9).f4)).bind fun t149 => (if x4.length + t149.length < 140737488355328 then (op_Encode.l0 k (x4 ++ t149) x7 x8 (wrap64 (x9 + 1))) else (none))) else (some (([] : List Int), 1)))) else (none)) else (none)) else (some (x4, 0))
def op_Encode.f (k : Nat) (l0 : List (S39)) : Option (List Int × Int) := op_Encode.l0 k ([] : List Int) l0 (l0.length : Int) 0
theorem op_Encode.mono_l : ∀ k, (∀ y0 y1 y2 y3, LeO (op_Encode.l0 k y0 y1 y2 y3) (op_Encode.l0 (k + 1) y0 y1 y2 y3))
 | 0 => fun _ _ _ _ r h => by simp [op_Encode.l0] at h
 | k + 1 => by
  have ih0 := op_Encode.mono_l k
  ·intro y0 y1 y2 y3
   unfold op_Encode.l0
   repeat' first
   | (with_reducible exact ih0 _ _ _ _)
   | (with_reducible exact op_Right.mono _ _ _ _ _ _)
   | (with_reducible exact op_bytes.mono _ _ _ _ _ _)
   | (with_reducible exact LeO.refl _)
   | (with_reducible exact LeO.none _)
   | (with_reducible refine LeO.ite ?_ ?_)
   | (with_reducible refine LeO.bind ?_ (fun _ => ?_))
   | exact ih0 _ _ _ _
   | exact op_Right.mono _ _ _ _ _ _
   | exact op_bytes.mono _ _ _ _ _ _
   | exact LeO.none _
   | refine LeO.ite ?_ ?_
   | refine LeO.bind ?_ (fun _ => ?_)
theorem op_Encode.mono : ∀ a0 k, LeO (op_Encode.f k a0) (op_Encode.f (k + 1) a0) := by
 intro a0 k
 have ih0 := op_Encode.mono_l k
 unfold op_Encode.f
 repeat' first
   | (with_reducible exact ih0 _ _ _ _)
   | (with_reducible exact op_Right.mono _ _ _ _ _ _)
   | (with_reducible exact op_bytes.mono _ _ _ _ _ _)
   | (with_reducible exact LeO.refl _)
   | (with_reducible exact LeO.none _)
   | (with_reducible refine LeO.ite ?_ ?_)
   | (with_reducible refine LeO.bind ?_ (fun _ => ?_))
   | exact ih0 _ _ _ _
   | exact op_Right.mono _ _ _ _ _ _
   | exact op_bytes.mono _ _ _ _ _ _
   | exact LeO.none _
   | refine LeO.ite ?_ ?_
   | refine LeO.bind ?_ (fun _ => ?_)
set_option maxHeartbeats 8000000 in
set_option maxRecDepth 100000 in
theorem op_Encode.calls (k : Nat) (A0 : Option Addr) (c0 : Nat) (l0 : List (S39)) (r1 : List Int) (r2 : Int) (w : World) (hr0 : Kd.C k39 w A0 l0.length l0) (hc0 : l0.length ≤ c0) (h : op_Encode.f k l0 = some (r1, r2)) :
  Calls Try.prog 12 #[.slice A0 l0.length c0] w fun e w' => ∃ v0_ : Value, e = .returned (.tuple #[v0_, .int .i64 r2]) ∧ Kd.R (Kd.int .u8) 5 w' w.heap.size (fun _ => True) v0_ r1 ∧ Below w.heap.size w w' := by
 have hu39 := Try.underlying39
 have HR0 := Aside0.mk hr0
 have HC0 := Aside0.mk hc0
 clear hr0 hc0
 have HB := Aside0.mk (Below.refl w.heap.size w)
 have H : (op_Encode.l0 k ([] : List Int) l0 (l0.length : Int) 0) = some (r1, r2) := h
 clear h
 have H' := Aside0.mk H
 clear H
 go_enter Try.func12, Try.ntmps12
 go_wp2
 go_loopg [4, 9] k (fun kq v4 v9 w' => ∃ (x4_1 : List Int) (x9_1 : Int), v9 = .int .i64 x9_1 ∧ Aside0 (op_Encode.l0 kq x4_1 l0 (l0.length : Int) x9_1 = some (r1, r2)) ∧ Aside0 (kq ≤ k) ∧ Aside0 (Kd.R (Kd.int .u8) 5 w' w.heap.size (fun _ => True) v4 x4_1) ∧ Aside0 (Below w.heap.size w w'))
 case atStart => exact ⟨(([] : List Int)), (0), (by first | rfl | (simp; done) | (simp [*]; done)), H', ⟨Nat.le_refl _⟩, ⟨by first | exact Kd.R_nil _ _ _ _ _ | exact Kd.N_nil _ _ _ _ _ | exact Kd.V_nil _ _ _ _ _ | exact Kd.Q_nil _ _ _ _ _ | exact Kd.S_nil _ _ _ _ _⟩, ⟨by repeat (first | (with_reducible first | exact HB.out | apply below_alloc | apply pw_below_drewN | apply below_drew1) | exact HB.out)⟩⟩
 case round =>
  clear H'
  try clear c1
  obtain ⟨x4_1, x9_1, rfl, HA, HK1, HO_4, HB⟩ := hrel
  cases gk with
  | zero => exact absurd HA.out (by simp [op_Encode.l0])
  | succ k1 =>
   have H := HA.out
   clear HA
   simp only [op_Encode.l0] at H
   by_cases c2 : x9_1 < (l0.length : Int)
   ·rw [if_pos c2] at H
    have c2b0 : decide (x9_1 < (l0.length : Int)) = true := decide_eq_true c2
    clear c2
    by_cases c3 : 0 ≤ x9_1
    ·rw [if_pos c3] at H
     have c3b0 : decide (0 ≤ x9_1) = true := decide_eq_true c3
     clear c3
     by_cases c4 : x9_1 < (l0.length : Int)
     ·rw [if_pos c4] at H
      have c4b0 : decide (x9_1 < (l0.length : Int)) = true := decide_eq_true c4
      clear c4
      replace H := Option.bind_eq_some_iff.mp H
      obtain ⟨t148, A50, H⟩ := H
      replace H : (if t148 = true then ((op_bytes.f k1 ((rd_T39 l0 x9_1).f0) ((rd_T39 l0 x9_1).f1) ((rd_T39 l0 x9_1).f2) ((rd_T39 l0 x9_1).f3) ((rd_T39 l0 x9_1).f4)).bind fun t149 => (if x4_1.length + t149.length < 140737488355328 then (op_Encode.l0 k1 (x4_1 ++ t149) l0 (l0.length : Int) (wrap64 (x9_1 + 1))) else (none))) else (some (([] : List Int), 1))) = some (r1, r2) := H
      have A5 := Aside0.mk A50
      clear A50
      by_cases c6 : t148 = true
      ·subst c6
       have H1 : ((op_bytes.f k1 ((rd_T39 l0 x9_1).f0) ((rd_T39 l0 x9_1).f1) ((rd_T39 l0 x9_1).f2) ((rd_T39 l0 x9_1).f3) ((rd_T39 l0 x9_1).f4)).bind fun t149 => (if x4_1.length + t149.length < 140737488355328 then (op_Encode.l0 k1 (x4_1 ++ t149) l0 (l0.length : Int) (wrap64 (x9_1 + 1))) else (none))) = some (r1, r2) := by rw [if_pos rfl] at H; exact H
       clear H
       have H := H1
       clear H1
       replace H := Option.bind_eq_some_iff.mp H
       obtain ⟨t149, A70, H⟩ := H
       replace H : (if x4_1.length + t149.length < 140737488355328 then (op_Encode.l0 k1 (x4_1 ++ t149) l0 (l0.length : Int) (wrap64 (x9_1 + 1))) else (none)) = some (r1, r2) := H
       have A7 := Aside0.mk A70
       clear A70
       by_cases c8 : x4_1.length + t149.length < 140737488355328
       ·rw [if_pos c8] at H
        have LMc8 := Aside0.mk c8
        clear c8
        obtain ⟨y152, hy152⟩ : ∃ y_ : List Int, y_ = (x4_1 ++ t149) := ⟨_, rfl⟩
        replace H : (op_Encode.l0 k1 y152 l0 (l0.length : Int) (wrap64 (x9_1 + 1))) = some (r1, r2) := by first | (rw [hy152]; with_reducible exact H) | (have H2_ := (Option.bind_some _ _).symm.trans H; rw [hy152]; with_reducible exact H2_) | (have H2_ := (Option.bind_some _ _).symm.trans H; with_reducible exact H2_) | with_reducible exact H | (rw [hy152]; exact H) | exact H
        have Ny152 := Aside0.mk hy152
        clear hy152
        have H' := Aside0.mk H
        clear H
        have p146 : 0 ≤ (x9_1 : Int) := of_decide_eq_true (by first | (with_reducible assumption) | assumption)
        have q146 : x9_1 < (l0.length : Int) := of_decide_eq_true (by first | (with_reducible assumption) | assumption)
        obtain ⟨ad146, e146, hx146_0, hx146_1, hx146_2, hx146_3, hx146_4⟩ := at_T39 HR0.out x9_1 p146 q146
        cases e146
        replace hx146_0 := (HB.out.cell (World.block_lt_of_cell? w _ hx146_0)).trans hx146_0
        replace hx146_1 := (HB.out.cell (World.block_lt_of_cell? w _ hx146_1)).trans hx146_1
        replace hx146_2 := (HB.out.cell (World.block_lt_of_cell? w _ hx146_2)).trans hx146_2
        replace hx146_3 := (fun (j_ : Nat) (u_ : Value) hj_ => (HB.out.cell (World.block_lt_of_cell? w _ (hx146_3 j_ u_ hj_))).trans (hx146_3 j_ u_ hj_))
        replace hx146_4 := (HB.out.cell (World.block_lt_of_cell? w _ hx146_4)).trans hx146_4
        replace p146 := eq_true p146
        replace q146 := eq_true q146
        go_wp2_with (first | ((with_reducible refine gate_dst (N := 12) rfl ?_); (try (refine gate_guard (by rfl) ?_; dsimp only)); refine Ar.gload_event rfl (T := 39) rfl Try.underlying39 rfl (D := (#[.int .i64 ((rd_T39 l0 x9_1).f0), .int .i64 ((rd_T39 l0 x9_1).f1), .int .u64 ((rd_T39 l0 x9_1).f2)] ++ ((Ar.cells .u8 32 ((rd_T39 l0 x9_1).f3)) ++ #[.int .i64 ((rd_T39 l0 x9_1).f4)]))) (by first | (rw [Ar.cells_size]; kernel_rfl) | (simp only [Array.size_append, Ar.cells_size, List.size_toArray, List.length_cons, List.length_nil]; kernel_rfl)) rfl (Ar.elem_part0 hx146_3 Ar.in_whole) ?_) | ((with_reducible refine gate_dst (N := 6) rfl ?_); (try (refine gate_guard (by rfl) ?_; dsimp only)); refine box_event ?hg (N := 6) ?hd (cs := (#[.int .i64 0, .int .i64 0, .int .u64 0] ++ ((Ar.cells .u8 32 (List.replicate 32 0)) ++ #[.int .i64 0]))) (t := 39) ?hr ?_; (case hd => rfl); (case hg => rfl); (case hr => first | exact Ar.gbox_run rfl rfl | exact Ar.galloc_run rfl (by kernel_rfl) | (go_simp; done) | (go_simp; rfl)); intro gb147 hg w9 hbox hb; have n0_ := Aside0.mk (Kd.R_below (by (with_reducible repeat (first | apply Kd.R_alloc | apply Kd.R_drewN | apply Kd.R_drew)); exact HO_4.out) hb); have n1_ := Aside0.mk (below_step (by repeat (first | (with_reducible first | exact HB.out | apply below_alloc | apply pw_below_drewN | apply below_drew1) | exact HB.out)) hb); have n2_ := Aside0.mk (hbox); have n3_ := Aside0.mk ((by rw [hg]; exact (below_size (by repeat (first | (with_reducible first | exact HB.out | apply below_alloc | apply pw_below_drewN | apply below_drew1) | exact HB.out))) : w.heap.size ≤ gb147)); have n4_ := Aside0.mk ((by rw [hg]; exact (below_size (by repeat (first | (with_reducible first | exact HB.out | apply below_alloc | apply pw_below_drewN | apply below_drew1) | exact HB.out))) : w.heap.size ≤ gb147)); clear HO_4; clear HB; have HO_4 := n0_; have HB := n1_; have BK147 := n2_; have GW147 := n3_; have GE147 := n4_; clear n0_ n1_ n2_ n3_ n4_; clear hb hbox hg) | ((with_reducible refine gate_store (t := 39) (p := 6) rfl ?_); refine Ar.gstore_event rfl rfl rfl (D := (#[.int .i64 ((rd_T39 l0 x9_1).f0), .int .i64 ((rd_T39 l0 x9_1).f1), .int .u64 ((rd_T39 l0 x9_1).f2)] ++ ((Ar.cells .u8 32 ((rd_T39 l0 x9_1).f3)) ++ #[.int .i64 ((rd_T39 l0 x9_1).f4)]))) (by first | (rw [Ar.cells_size]; kernel_rfl) | (simp only [Array.size_append, Ar.cells_size, List.size_toArray, List.length_cons, List.length_nil]; kernel_rfl)) (g := gb147) rfl (by first | rfl | (go_simp; done) | (go_simp; rfl)) (by (with_reducible repeat (first | refine blk_drewN ?_ _ | refine blk_drew ?_ | refine blk_alloc ?_ _)); exact BK147.out) (by simp [Ar.cells_size]) (by repeat (first | (with_reducible refine Ar.all_app ?_ ?_) | (with_reducible exact Ar.cells_one _ _ _) | (focus (simp [Value.oneCell']; done)) | rfl)) ?_; intro w10 hbk_ hg; have n0_ := Aside0.mk (Kd.R_mono (Kd.R_grown (Kd.R_types (by (with_reducible repeat (first | apply Kd.R_alloc | apply Kd.R_drewN | apply Kd.R_drew)); exact HO_4.out) BK147.out (by decide)) hg (fun k_ hk_ e_ => hk_.2 (Option.some.inj e_))) (fun _ h_ => h_.1)); have n1_ := Aside0.mk (hbk_); have n2_ := Aside0.mk (Below.grown (by repeat (first | (with_reducible first | exact HB.out | apply below_alloc | apply pw_below_drewN | apply below_drew1 | refine below_set ?_ GE147.out) | exact HB.out)) hg ((below_size (by repeat (first | (with_reducible first | exact HB.out | apply below_alloc | apply pw_below_drewN | apply below_drew1 | refine below_set ?_ GE147.out) | exact HB.out)))) (fun _ e_ => by cases e_; exact GE147.out)); clear HO_4; clear BK147; clear HB; have HO_4 := n0_; have BK147 := n1_; have HB := n2_; clear n0_ n1_ n2_; clear hbk_ hg) | ((with_reducible refine gate_dst (N := 13) rfl ?_); (try (refine gate_guard (by rfl) ?_; dsimp only)); refine Ar.gload_event rfl (T := 39) rfl Try.underlying39 rfl (D := (#[.int .i64 ((rd_T39 l0 x9_1).f0), .int .i64 ((rd_T39 l0 x9_1).f1), .int .u64 ((rd_T39 l0 x9_1).f2)] ++ ((Ar.cells .u8 32 ((rd_T39 l0 x9_1).f3)) ++ #[.int .i64 ((rd_T39 l0 x9_1).f4)]))) (by first | (rw [Ar.cells_size]; kernel_rfl) | (simp only [Array.size_append, Ar.cells_size, List.size_toArray, List.length_cons, List.length_nil]; kernel_rfl)) (A := ⟨gb147, 0, none⟩) rfl (Ar.blk_part (by (with_reducible repeat (first | refine blk_drewN ?_ _ | refine blk_drew ?_ | refine blk_alloc ?_ _)); exact BK147.out) Ar.in_whole) ?_) | ((with_reducible refine gate_callee (f := 16) rfl ?_); refine goesL_ (some 14) rfl rfl Try.func16 (by kernel_rfl) rfl #[.agg (#[.int .i64 ((rd_T39 l0 x9_1).f0), .int .i64 ((rd_T39 l0 x9_1).f1), .int .u64 ((rd_T39 l0 x9_1).f2)] ++ ((Ar.cells .u8 32 ((rd_T39 l0 x9_1).f3)) ++ #[.int .i64 ((rd_T39 l0 x9_1).f4)]))] rfl (by (try simp only [List.map_toArray, List.map_cons, List.map_nil]); first | done | rfl | (simp only [List.length_drop, List.length_take]; rfl)) ?_; (with_reducible refine (op_Right.calls k1 ((rd_T39 l0 x9_1).f0) ((rd_T39 l0 x9_1).f1) ((rd_T39 l0 x9_1).f2) ((rd_T39 l0 x9_1).f3) ((rd_T39 l0 x9_1).f4) true _ A5.out).mono ?_); rintro e w11 ⟨rfl, hb⟩; refine ⟨_, rfl, ?_⟩; have n0_ := Aside0.mk (Kd.R_below (by (with_reducible repeat (first | apply Kd.R_alloc | apply Kd.R_drewN | apply Kd.R_drew)); exact HO_4.out) hb); have n1_ := Aside0.mk (blk_below (g := gb147) (o := .cells (#[.int .i64 ((rd_T39 l0 x9_1).f0), .int .i64 ((rd_T39 l0 x9_1).f1), .int .u64 ((rd_T39 l0 x9_1).f2)] ++ ((Ar.cells .u8 32 ((rd_T39 l0 x9_1).f3)) ++ #[.int .i64 ((rd_T39 l0 x9_1).f4)])) 39 (0, 0)) (by (with_reducible repeat (first | refine blk_drewN ?_ _ | refine blk_drew ?_ | refine blk_alloc ?_ _)); exact BK147.out) hb); have n2_ := Aside0.mk (below_step (by repeat (first | (with_reducible first | exact HB.out | apply below_alloc | apply pw_below_drewN | apply below_drew1 | refine below_set ?_ GE147.out) | exact HB.out)) hb); clear HO_4; clear BK147; clear HB; have HO_4 := n0_; have BK147 := n1_; have HB := n2_; clear n0_ n1_ n2_; (try clear hb); (try clear hb2); (try clear hk); (try clear hi)) | ((with_reducible refine gate_dst (N := 17) rfl ?_); (try (refine gate_guard (by rfl) ?_; dsimp only)); refine Ar.gload_event rfl (T := 39) rfl Try.underlying39 rfl (D := (#[.int .i64 ((rd_T39 l0 x9_1).f0), .int .i64 ((rd_T39 l0 x9_1).f1), .int .u64 ((rd_T39 l0 x9_1).f2)] ++ ((Ar.cells .u8 32 ((rd_T39 l0 x9_1).f3)) ++ #[.int .i64 ((rd_T39 l0 x9_1).f4)]))) (by first | (rw [Ar.cells_size]; kernel_rfl) | (simp only [Array.size_append, Ar.cells_size, List.size_toArray, List.length_cons, List.length_nil]; kernel_rfl)) (A := ⟨gb147, 0, none⟩) rfl (Ar.blk_part (by (with_reducible repeat (first | refine blk_drewN ?_ _ | refine blk_drew ?_ | refine blk_alloc ?_ _)); exact BK147.out) Ar.in_whole) ?_) | ((with_reducible refine gate_callee (f := 23) rfl ?_); refine goesL_ (some 18) rfl rfl Try.func23 (by kernel_rfl) rfl #[.agg (#[.int .i64 ((rd_T39 l0 x9_1).f0), .int .i64 ((rd_T39 l0 x9_1).f1), .int .u64 ((rd_T39 l0 x9_1).f2)] ++ ((Ar.cells .u8 32 ((rd_T39 l0 x9_1).f3)) ++ #[.int .i64 ((rd_T39 l0 x9_1).f4)]))] rfl (by (try simp only [List.map_toArray, List.map_cons, List.map_nil]); first | done | rfl | (simp only [List.length_drop, List.length_take]; rfl)) ?_; (with_reducible refine (op_bytes.calls k1 ((rd_T39 l0 x9_1).f0) ((rd_T39 l0 x9_1).f1) ((rd_T39 l0 x9_1).f2) ((rd_T39 l0 x9_1).f3) ((rd_T39 l0 x9_1).f4) t149 _ A7.out).mono ?_); rintro e w12 ⟨v150, rfl, ho0, hb⟩; refine ⟨_, rfl, ?_⟩; have n0_ := Aside0.mk (Kd.R_elder' (by (with_reducible repeat (first | apply Kd.R_alloc | apply Kd.R_drewN | apply Kd.R_drew)); exact HO_4.out) (Kd.R_base ho0) hb); have n1_ := Aside0.mk (Kd.R_lower (Kd.R_new' ho0 (Kd.R_lt (by (with_reducible repeat (first | apply Kd.R_alloc | apply Kd.R_drewN | apply Kd.R_drew)); exact HO_4.out))) (below_size (by repeat (first | (with_reducible first | exact HB.out | apply below_alloc | apply pw_below_drewN | apply below_drew1 | refine below_set ?_ GE147.out) | exact HB.out)))); have n2_ := Aside0.mk (blk_below (g := gb147) (o := .cells (#[.int .i64 ((rd_T39 l0 x9_1).f0), .int .i64 ((rd_T39 l0 x9_1).f1), .int .u64 ((rd_T39 l0 x9_1).f2)] ++ ((Ar.cells .u8 32 ((rd_T39 l0 x9_1).f3)) ++ #[.int .i64 ((rd_T39 l0 x9_1).f4)])) 39 (0, 0)) (by (with_reducible repeat (first | refine blk_drewN ?_ _ | refine blk_drew ?_ | refine blk_alloc ?_ _)); exact BK147.out) hb); have n3_ := Aside0.mk (below_step (by repeat (first | (with_reducible first | exact HB.out | apply below_alloc | apply pw_below_drewN | apply below_drew1 | refine below_set ?_ GE147.out) | exact HB.out)) hb); clear HO_4; clear BK147; clear HB; have HO_4 := n0_; have HO151 := n1_; have BK147 := n2_; have HB := n3_; clear n0_ n1_ n2_ n3_; (try clear hb); (try clear hb2); (try clear hk); (try clear hi); (try clear ho0); obtain ⟨Ao14, co14, eo14⟩ := Kd.R_slice HO151.out; subst eo14) | ((with_reducible refine gate_builtin (b := .append) (xs := #[.tmp 16, .tmp 18]) rfl ?_); (try (refine gate_guard (by rfl) ?_; dsimp only)); at_builtin; refine Kd.R_append_rows (Kd.int .u8) (w0 := w) w.heap.size rfl (.tmp 16) (.tmp 18) 22 5 (.int .u8 0) 1 rfl Try.underlying22 info5 rfl (by decide) (by omega) u4 x4_1 t149 _ _ _ (fun k_ => some k_ ≠ (.slice Ao14 t149.length co14 : Value).ownBlock) (fun _ => False) rfl rfl ?aO ?aR (fun _ _ h => h) (fun _ h => h.elim) ?aF ?aB ?aS ?aL ?_; (case aR => repeat (first | exact (Kd.R_reads' HO151.out).2.2 | (with_reducible refine Kd.C_alloc ?_ _) | (with_reducible refine Kd.C_drewN ?_ _) | (with_reducible refine Kd.C_drew ?_))); (case aB => exact (by repeat (first | (with_reducible first | exact HB.out | apply below_alloc | apply pw_below_drewN | apply below_drew1 | refine below_set ?_ GE147.out) | exact HB.out))); (case aF => exact (fun k_ hk => Kd.fresh' (Kd.R_lt (by (with_reducible repeat (first | apply Kd.R_alloc | apply Kd.R_drewN | apply Kd.R_drew)); exact HO151.out)) k_ hk)); (case aO => exact (by (with_reducible repeat (first | apply Kd.R_alloc | apply Kd.R_drewN | apply Kd.R_drew)); exact Kd.R_mono HO_4.out (fun _ hk => hk.2))); (case aS => exact (below_size (by repeat (first | (with_reducible first | exact HB.out | apply below_alloc | apply pw_below_drewN | apply below_drew1 | refine below_set ?_ GE147.out) | exact HB.out)))); (case aL => have := LMc8.out; omega); intro v153 w13 ho hb hg hat; rw [← Ny152.out] at ho; have n0_ := Aside0.mk (blk_grown (g := gb147) (o := .cells (#[.int .i64 ((rd_T39 l0 x9_1).f0), .int .i64 ((rd_T39 l0 x9_1).f1), .int .u64 ((rd_T39 l0 x9_1).f2)] ++ ((Ar.cells .u8 32 ((rd_T39 l0 x9_1).f3)) ++ #[.int .i64 ((rd_T39 l0 x9_1).f4)])) 39 (0, 0)) (by (with_reducible repeat (first | refine blk_drewN ?_ _ | refine blk_drew ?_ | refine blk_alloc ?_ _)); exact BK147.out) hg (Kd.R_ne HO_4.out BK147.out (by decide))); have n1_ := Aside0.mk (Kd.R_after (ok := (fun _ => True)) (by (with_reducible repeat (first | apply Kd.R_alloc | apply Kd.R_drewN | apply Kd.R_drew)); exact HO151.out) hg hat); have n2_ := Aside0.mk (hb); have n3_ := Aside0.mk (ho); clear BK147; clear HO151; clear HB; clear HO_4; have BK147 := n0_; have HO151 := n1_; have HB := n2_; have HO154 := n3_; clear n0_ n1_ n2_ n3_; clear ho hb hg hat))
        go_roundg k1
        case measure => have := HK1.out; omega
        case rel => exact ⟨(y152), (wrap64 (x9_1 + 1)), (by first | rfl | (simp; done) | (simp [*]; done)), H', ⟨by have := HK1.out; omega⟩, ⟨by (with_reducible repeat (first | apply Kd.R_alloc | apply Kd.R_drewN | apply Kd.R_drew)); exact Kd.R_mono HO154.out (fun _ hk => trivial)⟩, ⟨by repeat (first | (with_reducible first | exact HB.out | apply below_alloc | apply pw_below_drewN | apply below_drew1 | refine below_set ?_ GE147.out) | exact HB.out)⟩⟩
       ·rw [if_neg c8] at H
        exact absurd H (by simp)
      ·replace c6 := Bool.eq_false_iff.mpr c6
       subst c6
       have H1 : (some (([] : List Int), 1)) = some (r1, r2) := by rw [if_neg (show ¬ (false = true) by decide)] at H; exact H
       clear H
       have H := H1
       clear H1
       simp only [Option.some.injEq, Prod.mk.injEq] at H
       obtain ⟨rfl, rfl⟩ := H
       have p146 : 0 ≤ (x9_1 : Int) := of_decide_eq_true (by first | (with_reducible assumption) | assumption)
       have q146 : x9_1 < (l0.length : Int) := of_decide_eq_true (by first | (with_reducible assumption) | assumption)
       obtain ⟨ad146, e146, hx146_0, hx146_1, hx146_2, hx146_3, hx146_4⟩ := at_T39 HR0.out x9_1 p146 q146
       cases e146
       replace hx146_0 := (HB.out.cell (World.block_lt_of_cell? w _ hx146_0)).trans hx146_0
       replace hx146_1 := (HB.out.cell (World.block_lt_of_cell? w _ hx146_1)).trans hx146_1
       replace hx146_2 := (HB.out.cell (World.block_lt_of_cell? w _ hx146_2)).trans hx146_2
       replace hx146_3 := (fun (j_ : Nat) (u_ : Value) hj_ => (HB.out.cell (World.block_lt_of_cell? w _ (hx146_3 j_ u_ hj_))).trans (hx146_3 j_ u_ hj_))
       replace hx146_4 := (HB.out.cell (World.block_lt_of_cell? w _ hx146_4)).trans hx146_4
       replace p146 := eq_true p146
       replace q146 := eq_true q146
       go_wp2_with (first | ((with_reducible refine gate_dst (N := 12) rfl ?_); (try (refine gate_guard (by rfl) ?_; dsimp only)); refine Ar.gload_event rfl (T := 39) rfl Try.underlying39 rfl (D := (#[.int .i64 ((rd_T39 l0 x9_1).f0), .int .i64 ((rd_T39 l0 x9_1).f1), .int .u64 ((rd_T39 l0 x9_1).f2)] ++ ((Ar.cells .u8 32 ((rd_T39 l0 x9_1).f3)) ++ #[.int .i64 ((rd_T39 l0 x9_1).f4)]))) (by first | (rw [Ar.cells_size]; kernel_rfl) | (simp only [Array.size_append, Ar.cells_size, List.size_toArray, List.length_cons, List.length_nil]; kernel_rfl)) rfl (Ar.elem_part0 hx146_3 Ar.in_whole) ?_) | ((with_reducible refine gate_dst (N := 6) rfl ?_); (try (refine gate_guard (by rfl) ?_; dsimp only)); refine box_event ?hg (N := 6) ?hd (cs := (#[.int .i64 0, .int .i64 0, .int .u64 0] ++ ((Ar.cells .u8 32 (List.replicate 32 0)) ++ #[.int .i64 0]))) (t := 39) ?hr ?_; (case hd => rfl); (case hg => rfl); (case hr => first | exact Ar.gbox_run rfl rfl | exact Ar.galloc_run rfl (by kernel_rfl) | (go_simp; done) | (go_simp; rfl)); intro gb147 hg w15 hbox hb; have n0_ := Aside0.mk (Kd.R_below (by (with_reducible repeat (first | apply Kd.R_alloc | apply Kd.R_drewN | apply Kd.R_drew)); exact HO_4.out) hb); have n1_ := Aside0.mk (below_step (by repeat (first | (with_reducible first | exact HB.out | apply below_alloc | apply pw_below_drewN | apply below_drew1) | exact HB.out)) hb); have n2_ := Aside0.mk (hbox); have n3_ := Aside0.mk ((by rw [hg]; exact (below_size (by repeat (first | (with_reducible first | exact HB.out | apply below_alloc | apply pw_below_drewN | apply below_drew1) | exact HB.out))) : w.heap.size ≤ gb147)); have n4_ := Aside0.mk ((by rw [hg]; exact (below_size (by repeat (first | (with_reducible first | exact HB.out | apply below_alloc | apply pw_below_drewN | apply below_drew1) | exact HB.out))) : w.heap.size ≤ gb147)); clear HO_4; clear HB; have HO_4 := n0_; have HB := n1_; have BK147 := n2_; have GW147 := n3_; have GE147 := n4_; clear n0_ n1_ n2_ n3_ n4_; clear hb hbox hg) | ((with_reducible refine gate_store (t := 39) (p := 6) rfl ?_); refine Ar.gstore_event rfl rfl rfl (D := (#[.int .i64 ((rd_T39 l0 x9_1).f0), .int .i64 ((rd_T39 l0 x9_1).f1), .int .u64 ((rd_T39 l0 x9_1).f2)] ++ ((Ar.cells .u8 32 ((rd_T39 l0 x9_1).f3)) ++ #[.int .i64 ((rd_T39 l0 x9_1).f4)]))) (by first | (rw [Ar.cells_size]; kernel_rfl) | (simp only [Array.size_append, Ar.cells_size, List.size_toArray, List.length_cons, List.length_nil]; kernel_rfl)) (g := gb147) rfl (by first | rfl | (go_simp; done) | (go_simp; rfl)) (by (with_reducible repeat (first | refine blk_drewN ?_ _ | refine blk_drew ?_ | refine blk_alloc ?_ _)); exact BK147.out) (by simp [Ar.cells_size]) (by repeat (first | (with_reducible refine Ar.all_app ?_ ?_) | (with_reducible exact Ar.cells_one _ _ _) | (focus (simp [Value.oneCell']; done)) | rfl)) ?_; intro w16 hbk_ hg; have n0_ := Aside0.mk (Kd.R_mono (Kd.R_grown (Kd.R_types (by (with_reducible repeat (first | apply Kd.R_alloc | apply Kd.R_drewN | apply Kd.R_drew)); exact HO_4.out) BK147.out (by decide)) hg (fun k_ hk_ e_ => hk_.2 (Option.some.inj e_))) (fun _ h_ => h_.1)); have n1_ := Aside0.mk (hbk_); have n2_ := Aside0.mk (Below.grown (by repeat (first | (with_reducible first | exact HB.out | apply below_alloc | apply pw_below_drewN | apply below_drew1 | refine below_set ?_ GE147.out) | exact HB.out)) hg ((below_size (by repeat (first | (with_reducible first | exact HB.out | apply below_alloc | apply pw_below_drewN | apply below_drew1 | refine below_set ?_ GE147.out) | exact HB.out)))) (fun _ e_ => by cases e_; exact GE147.out)); clear HO_4; clear BK147; clear HB; have HO_4 := n0_; have BK147 := n1_; have HB := n2_; clear n0_ n1_ n2_; clear hbk_ hg) | ((with_reducible refine gate_dst (N := 13) rfl ?_); (try (refine gate_guard (by rfl) ?_; dsimp only)); refine Ar.gload_event rfl (T := 39) rfl Try.underlying39 rfl (D := (#[.int .i64 ((rd_T39 l0 x9_1).f0), .int .i64 ((rd_T39 l0 x9_1).f1), .int .u64 ((rd_T39 l0 x9_1).f2)] ++ ((Ar.cells .u8 32 ((rd_T39 l0 x9_1).f3)) ++ #[.int .i64 ((rd_T39 l0 x9_1).f4)]))) (by first | (rw [Ar.cells_size]; kernel_rfl) | (simp only [Array.size_append, Ar.cells_size, List.size_toArray, List.length_cons, List.length_nil]; kernel_rfl)) (A := ⟨gb147, 0, none⟩) rfl (Ar.blk_part (by (with_reducible repeat (first | refine blk_drewN ?_ _ | refine blk_drew ?_ | refine blk_alloc ?_ _)); exact BK147.out) Ar.in_whole) ?_) | ((with_reducible refine gate_callee (f := 16) rfl ?_); refine goesL_ (some 14) rfl rfl Try.func16 (by kernel_rfl) rfl #[.agg (#[.int .i64 ((rd_T39 l0 x9_1).f0), .int .i64 ((rd_T39 l0 x9_1).f1), .int .u64 ((rd_T39 l0 x9_1).f2)] ++ ((Ar.cells .u8 32 ((rd_T39 l0 x9_1).f3)) ++ #[.int .i64 ((rd_T39 l0 x9_1).f4)]))] rfl (by (try simp only [List.map_toArray, List.map_cons, List.map_nil]); first | done | rfl | (simp only [List.length_drop, List.length_take]; rfl)) ?_; (with_reducible refine (op_Right.calls k1 ((rd_T39 l0 x9_1).f0) ((rd_T39 l0 x9_1).f1) ((rd_T39 l0 x9_1).f2) ((rd_T39 l0 x9_1).f3) ((rd_T39 l0 x9_1).f4) false _ A5.out).mono ?_); rintro e w17 ⟨rfl, hb⟩; refine ⟨_, rfl, ?_⟩; have n0_ := Aside0.mk (Kd.R_below (by (with_reducible repeat (first | apply Kd.R_alloc | apply Kd.R_drewN | apply Kd.R_drew)); exact HO_4.out) hb); have n1_ := Aside0.mk (blk_below (g := gb147) (o := .cells (#[.int .i64 ((rd_T39 l0 x9_1).f0), .int .i64 ((rd_T39 l0 x9_1).f1), .int .u64 ((rd_T39 l0 x9_1).f2)] ++ ((Ar.cells .u8 32 ((rd_T39 l0 x9_1).f3)) ++ #[.int .i64 ((rd_T39 l0 x9_1).f4)])) 39 (0, 0)) (by (with_reducible repeat (first | refine blk_drewN ?_ _ | refine blk_drew ?_ | refine blk_alloc ?_ _)); exact BK147.out) hb); have n2_ := Aside0.mk (below_step (by repeat (first | (with_reducible first | exact HB.out | apply below_alloc | apply pw_below_drewN | apply below_drew1 | refine below_set ?_ GE147.out) | exact HB.out)) hb); clear HO_4; clear BK147; clear HB; have HO_4 := n0_; have BK147 := n1_; have HB := n2_; clear n0_ n1_ n2_; (try clear hb); (try clear hb2); (try clear hk); (try clear hi)))
       go_ret2
       exact ⟨_, by first | rfl | (simp [errW_none, errW_some] <;> rfl) | (simp [*, errW_none, errW_some] <;> rfl), by first | exact Kd.R_nil _ _ _ _ _ | exact Kd.N_nil _ _ _ _ _ | exact Kd.V_nil _ _ _ _ _ | exact Kd.Q_nil _ _ _ _ _ | exact Kd.S_nil _ _ _ _ _, by repeat (first | (with_reducible first | exact HB.out | apply below_alloc | apply pw_below_drewN | apply below_drew1 | refine below_set ?_ GE147.out) | exact HB.out)⟩
     ·rw [if_neg c4] at H
      exact absurd H (by simp)
    ·rw [if_neg c3] at H
     exact absurd H (by simp)
   ·rw [if_neg c2] at H
    have c2b0 : decide (x9_1 < (l0.length : Int)) = false := decide_eq_false c2
    clear c2
    simp only [Option.some.injEq, Prod.mk.injEq] at H
    obtain ⟨rfl, rfl⟩ := H
    go_wp2
    go_ret2
    exact ⟨_, by first | rfl | (simp [errW_none, errW_some] <;> rfl) | (simp [*, errW_none, errW_some] <;> rfl), by (with_reducible repeat (first | apply Kd.R_alloc | apply Kd.R_drewN | apply Kd.R_drew)); exact HO_4.out, by repeat (first | (with_reducible first | exact HB.out | apply below_alloc | apply pw_below_drewN | apply below_drew1) | exact HB.out)⟩

/-! ### api_Op: function 28 -/
def api_Op.l0 : Nat → List (S39) → List (S39) → Int → Int → Option (Bool)
 | 0, _, _, _, _ => none
 | k + 1, x0, x1, x12, x13 => if x13 < x12 then (if 0 ≤ x13 then (if x13 < (x0.length : Int) then (if x13 < (x1.length : Int) then (if ((eqS39 (rd_T39 x0 x13) (rd_T39 x1 x13)) = true) then (api_Op.l0 k x0 x1 x12 (wrap64 (x13 + 1))) else (some false)) else (none)) else (none)) else (none)) else (some true)
def api_Op.f (k : Nat) (l0 : List (S39)) (l1 : List (S39)) : Option (Bool) := if (l0.length : Int) = (l1.length : Int) then (api_Op.l0 k l0 l1 (l0.length : Int) 0) else (some false)
theorem api_Op.mono_l : ∀ k, (∀ y0 y1 y2 y3, LeO (api_Op.l0 k y0 y1 y2 y3) (api_Op.l0 (k + 1) y0 y1 y2 y3))
 | 0 => fun _ _ _ _ r h => by simp [api_Op.l0] at h
 | k + 1 => by
  have ih0 := api_Op.mono_l k
  ·intro y0 y1 y2 y3
   unfold api_Op.l0
   repeat' first
   | (with_reducible exact ih0 _ _ _ _)
   | (with_reducible exact LeO.refl _)
   | (with_reducible exact LeO.none _)
   | (with_reducible refine LeO.ite ?_ ?_)
   | (with_reducible refine LeO.bind ?_ (fun _ => ?_))
   | exact ih0 _ _ _ _
   | exact LeO.none _
   | refine LeO.ite ?_ ?_
   | refine LeO.bind ?_ (fun _ => ?_)
theorem api_Op.mono : ∀ a0 a1 k, LeO (api_Op.f k a0 a1) (api_Op.f (k + 1) a0 a1) := by
 intro a0 a1 k
 have ih0 := api_Op.mono_l k
 unfold api_Op.f
 repeat' first
   | (with_reducible exact ih0 _ _ _ _)
   | (with_reducible exact LeO.refl _)
   | (with_reducible exact LeO.none _)
   | (with_reducible refine LeO.ite ?_ ?_)
   | (with_reducible refine LeO.bind ?_ (fun _ => ?_))
   | exact ih0 _ _ _ _
   | exact LeO.none _
   | refine LeO.ite ?_ ?_
   | refine LeO.bind ?_ (fun _ => ?_)
def api_Op.T6 : Bool × List (List Nat × List Nat) := (true, [([], []), ([], []), ([0, 1], [0, 1]), ([2], [2]), ([], []), ([], []), ([4, 5], [4, 5]), ([6], [6]), ([3, 7], [3, 7])])
def api_Op.B6 : List Nat := [0, 0, 3, 7, 0, 0, 48, 112, 255]
theorem api_Op.tab6 : rtab .any (opsOf Try.f28 6) = api_Op.T6 := by kernel_rfl
theorem api_Op.bits6 : waitsOk api_Op.T6.2 api_Op.B6 = true := by kernel_rfl
set_option maxHeartbeats 8000000 in
set_option maxRecDepth 100000 in
theorem api_Op.calls (k : Nat) (A0 : Option Addr) (c0 : Nat) (l0 : List (S39)) (A1 : Option Addr) (c1 : Nat) (l1 : List (S39)) (r : Bool) (w : World) (hr0 : Kd.C k39 w A0 l0.length l0) (hc0 : l0.length ≤ c0) (hr1 : Kd.C k39 w A1 l1.length l1) (hc1 : l1.length ≤ c1) (h : api_Op.f k l0 l1 = some r) :
  Calls Try.prog 28 #[.slice A0 l0.length c0, .slice A1 l1.length c1] w fun e w' => e = .returned (.bool r) ∧ Below w.heap.size w w' := by
 have hu39 := Try.underlying39
 have HR0 := Aside0.mk hr0
 have HC0 := Aside0.mk hc0
 clear hr0 hc0
 have HR1 := Aside0.mk hr1
 have HC1 := Aside0.mk hc1
 clear hr1 hc1
 have HB := Aside0.mk (Below.refl w.heap.size w)
 have H : (if (l0.length : Int) = (l1.length : Int) then (api_Op.l0 k l0 l1 (l0.length : Int) 0) else (some false)) = some r := h
 clear h
 by_cases c3 : (l0.length : Int) = (l1.length : Int)
 ·rw [if_pos c3] at H
  have c3b0 : ((l0.length : Int) == (l1.length : Int)) = true := beq_iff_eq.mpr c3
  have c3b1 : ((l0.length : Int) != (l1.length : Int)) = false := bne_eq_false_iff_eq.mpr c3
  have c3b2 : (l0.length == l1.length) = true := by first | simpa using c3 | (simp at c3 ⊢; omega)
  clear c3
  have H' := Aside0.mk H
  clear H
  go_enter Try.func28, Try.ntmps28
  go_wp2
  go_loopg [13] k (fun kq v13 w' => ∃ (x13_1 : Int), v13 = .int .i64 x13_1 ∧ Aside0 (api_Op.l0 kq l0 l1 (l0.length : Int) x13_1 = some r) ∧ Aside0 (kq ≤ k) ∧ Aside0 (Below w.heap.size w w'))
  case atStart => exact ⟨(0), (by first | rfl | (simp; done) | (simp [*]; done)), H', ⟨Nat.le_refl _⟩, ⟨by repeat (first | (with_reducible first | exact HB.out | apply below_alloc | apply pw_below_drewN | apply below_drew1) | exact HB.out)⟩⟩
  case round =>
   clear H'
   try clear c1
   try clear c2
   try clear p2
   try clear c3
   try clear c3b0
   try clear c3b1
   try clear c3b2
   obtain ⟨x13_1, rfl, HA, HK1, HB⟩ := hrel
   cases gk with
   | zero => exact absurd HA.out (by simp [api_Op.l0])
   | succ k1 =>
    have H := HA.out
    clear HA
    simp only [api_Op.l0] at H
    by_cases c4 : x13_1 < (l0.length : Int)
    ·rw [if_pos c4] at H
     have c4b0 : decide (x13_1 < (l0.length : Int)) = true := decide_eq_true c4
     clear c4
     by_cases c5 : 0 ≤ x13_1
     ·rw [if_pos c5] at H
      have c5b0 : decide (0 ≤ x13_1) = true := decide_eq_true c5
      clear c5
      by_cases c6 : x13_1 < (l0.length : Int)
      ·rw [if_pos c6] at H
       have c6b0 : decide (x13_1 < (l0.length : Int)) = true := decide_eq_true c6
       clear c6
       by_cases c7 : x13_1 < (l1.length : Int)
       ·rw [if_pos c7] at H
        have c7b0 : decide (x13_1 < (l1.length : Int)) = true := decide_eq_true c7
        clear c7
        by_cases c8 : ((eqS39 (rd_T39 l0 x13_1) (rd_T39 l1 x13_1)) = true)
        ·rw [if_pos c8] at H
         have c8b0 : (eqS39 (rd_T39 l0 x13_1) (rd_T39 l1 x13_1)) = true := c8
         clear c8
         have H' := Aside0.mk H
         clear H
         try go_wp2
         have n0_ := Aside0.mk (below_drew1 HB.out)
         clear HB
         have HB := n0_
         clear n0_
         have p155 : 0 ≤ (x13_1 : Int) := of_decide_eq_true (by first | (with_reducible assumption) | assumption)
         have q155 : x13_1 < (l0.length : Int) := of_decide_eq_true (by first | (with_reducible assumption) | assumption)
         obtain ⟨ad155, e155, hx155_0, hx155_1, hx155_2, hx155_3, hx155_4⟩ := at_T39 HR0.out x13_1 p155 q155
         have hw155_4 := hx155_4
         have hw155_3 := hx155_3
         have hw155_2 := hx155_2
         have hw155_1 := hx155_1
         have hw155_0 := hx155_0
         cases e155
         replace hx155_0 := (HB.out.cell (World.block_lt_of_cell? w _ hx155_0)).trans hx155_0
         replace hx155_1 := (HB.out.cell (World.block_lt_of_cell? w _ hx155_1)).trans hx155_1
         replace hx155_2 := (HB.out.cell (World.block_lt_of_cell? w _ hx155_2)).trans hx155_2
         replace hx155_3 := (fun (j_ : Nat) (u_ : Value) hj_ => (HB.out.cell (World.block_lt_of_cell? w _ (hx155_3 j_ u_ hj_))).trans (hx155_3 j_ u_ hj_))
         replace hx155_4 := (HB.out.cell (World.block_lt_of_cell? w _ hx155_4)).trans hx155_4
         replace p155 := eq_true p155
         replace q155 := eq_true q155
         have p156 : 0 ≤ (x13_1 : Int) := of_decide_eq_true (by first | (with_reducible assumption) | assumption)
         have q156 : x13_1 < (l1.length : Int) := of_decide_eq_true (by first | (with_reducible assumption) | assumption)
         obtain ⟨ad156, e156, hx156_0, hx156_1, hx156_2, hx156_3, hx156_4⟩ := at_T39 HR1.out x13_1 p156 q156
         have hw156_4 := hx156_4
         have hw156_3 := hx156_3
         have hw156_2 := hx156_2
         have hw156_1 := hx156_1
         have hw156_0 := hx156_0
         cases e156
         replace hx156_0 := (HB.out.cell (World.block_lt_of_cell? w _ hx156_0)).trans hx156_0
         replace hx156_1 := (HB.out.cell (World.block_lt_of_cell? w _ hx156_1)).trans hx156_1
         replace hx156_2 := (HB.out.cell (World.block_lt_of_cell? w _ hx156_2)).trans hx156_2
         replace hx156_3 := (fun (j_ : Nat) (u_ : Value) hj_ => (HB.out.cell (World.block_lt_of_cell? w _ (hx156_3 j_ u_ hj_))).trans (hx156_3 j_ u_ hj_))
         replace hx156_4 := (HB.out.cell (World.block_lt_of_cell? w _ hx156_4)).trans hx156_4
         replace p156 := eq_true p156
         replace q156 := eq_true q156
         refine start_ (n := 9) (S := fun w' => w'.cell? (ad155.add ((x13_1).toNat * 36)) = some (.int .i64 ((rd_T39 l0 x13_1).f0)) ∧ w'.cell? ⟨(ad155.add ((x13_1).toNat * 36)).block, (ad155.add ((x13_1).toNat * 36)).off + 1, none⟩ = some (.int .i64 ((rd_T39 l0 x13_1).f1)) ∧ w'.cell? ⟨(ad155.add ((x13_1).toNat * 36)).block, (ad155.add ((x13_1).toNat * 36)).off + 2, none⟩ = some (.int .u64 ((rd_T39 l0 x13_1).f2)) ∧ (∀ (j_ : Nat) (u_ : Value), ((#[.int .i64 ((rd_T39 l0 x13_1).f0), .int .i64 ((rd_T39 l0 x13_1).f1), .int .u64 ((rd_T39 l0 x13_1).f2)] ++ (Ar.cells .u8 32 ((rd_T39 l0 x13_1).f3) ++ #[.int .i64 ((rd_T39 l0 x13_1).f4)])) : Array Value).toList[j_]? = some u_ → w'.cell? (ad155.add ((x13_1).toNat * 36 + j_)) = some u_) ∧ w'.cell? ⟨(ad155.add ((x13_1).toNat * 36)).block, (ad155.add ((x13_1).toNat * 36)).off + 35, none⟩ = some (.int .i64 ((rd_T39 l0 x13_1).f4)) ∧ w'.cell? (ad156.add ((x13_1).toNat * 36)) = some (.int .i64 ((rd_T39 l1 x13_1).f0)) ∧ w'.cell? ⟨(ad156.add ((x13_1).toNat * 36)).block, (ad156.add ((x13_1).toNat * 36)).off + 1, none⟩ = some (.int .i64 ((rd_T39 l1 x13_1).f1)) ∧ w'.cell? ⟨(ad156.add ((x13_1).toNat * 36)).block, (ad156.add ((x13_1).toNat * 36)).off + 2, none⟩ = some (.int .u64 ((rd_T39 l1 x13_1).f2)) ∧ (∀ (j_ : Nat) (u_ : Value), ((#[.int .i64 ((rd_T39 l1 x13_1).f0), .int .i64 ((rd_T39 l1 x13_1).f1), .int .u64 ((rd_T39 l1 x13_1).f2)] ++ (Ar.cells .u8 32 ((rd_T39 l1 x13_1).f3) ++ #[.int .i64 ((rd_T39 l1 x13_1).f4)])) : Array Value).toList[j_]? = some u_ → w'.cell? (ad156.add ((x13_1).toNat * 36 + j_)) = some u_) ∧ w'.cell? ⟨(ad156.add ((x13_1).toNat * 36)).block, (ad156.add ((x13_1).toNat * 36)).off + 35, none⟩ = some (.int .i64 ((rd_T39 l1 x13_1).f4))) (ds := []) #[false, false, false, false, false, false, false, false, false] (by kernel_rfl) rfl rfl ⟨((HB.out.cell (World.block_lt_of_cell? w _ hw155_0)).trans hw155_0), ((HB.out.cell (World.block_lt_of_cell? w _ hw155_1)).trans hw155_1), ((HB.out.cell (World.block_lt_of_cell? w _ hw155_2)).trans hw155_2), (fun (j_ : Nat) (u_ : Value) hj_ => (HB.out.cell (World.block_lt_of_cell? w _ (hw155_3 j_ u_ hj_))).trans (hw155_3 j_ u_ hj_)), ((HB.out.cell (World.block_lt_of_cell? w _ hw155_4)).trans hw155_4), ((HB.out.cell (World.block_lt_of_cell? w _ hw156_0)).trans hw156_0), ((HB.out.cell (World.block_lt_of_cell? w _ hw156_1)).trans hw156_1), ((HB.out.cell (World.block_lt_of_cell? w _ hw156_2)).trans hw156_2), (fun (j_ : Nat) (u_ : Value) hj_ => (HB.out.cell (World.block_lt_of_cell? w _ (hw156_3 j_ u_ hj_))).trans (hw156_3 j_ u_ hj_)), ((HB.out.cell (World.block_lt_of_cell? w _ hw156_4)).trans hw156_4)⟩ (fun hHeld => ?_); refine with_tabW api_Op.tab6 api_Op.bits6 (fun HT_ HW_ => ?_)
         generalize wr.drew = w9 at HB hx155_0 hx155_1 hx155_2 hx155_3 hx155_4 hx156_0 hx156_1 hx156_2 hx156_3 hx156_4 hHeld ⊢
         refine pure_ (i := 0) (N := some 16) (v := ?_) (a' := ?_) #[true, false, false, false, false, false, false, false, false] rfl rfl (any_of HT_.out (by kernel_rfl)) (fun _ _ _ h => h) (Or.inl ⟨by rfl, ?_⟩) ?_ ?_
         rotate_left
         ·intro w'
          go_simp
          with_reducible rfl
         rotate_left
         ·simp only [Act.put, List.setIfInBounds_toArray, List.set_cons_zero, List.set_cons_succ, i64_w, i32_w]
          rfl
         refine pure_ (i := 1) (N := some 17) (v := ?_) (a' := ?_) #[true, true, false, false, false, false, false, false, false] rfl rfl (any_of HT_.out (by kernel_rfl)) (fun _ _ _ h => h) (Or.inl ⟨by rfl, ?_⟩) ?_ ?_
         rotate_left
         ·intro w'
          go_simp
          with_reducible rfl
         rotate_left
         ·simp only [Act.put, List.setIfInBounds_toArray, List.set_cons_zero, List.set_cons_succ, i64_w, i32_w]
          rfl
         refine pure_ (i := 2) (N := some 18) (v := ?_) (a' := ?_) #[true, true, true, false, false, false, false, false, false] rfl rfl (any_of HT_.out (by kernel_rfl)) (fun _ _ _ h => h) (Or.inl ⟨by rfl, ?_⟩) ?_ ?_
         rotate_left
         ·intro w'
          go_simp
          with_reducible rfl
         rotate_left
         ·simp only [Act.put, List.setIfInBounds_toArray, List.set_cons_zero, List.set_cons_succ, i64_w, i32_w]
          rfl
         refine pure_ (i := 4) (N := some 20) (v := ?_) (a' := ?_) #[true, true, true, false, true, false, false, false, false] rfl rfl (any_of HT_.out (by kernel_rfl)) (fun _ _ _ h => h) (Or.inl ⟨by rfl, ?_⟩) ?_ ?_
         rotate_left
         ·intro w'
          go_simp
          with_reducible rfl
         rotate_left
         ·simp only [Act.put, List.setIfInBounds_toArray, List.set_cons_zero, List.set_cons_succ, i64_w, i32_w]
          rfl
         refine pure_ (i := 5) (N := some 21) (v := ?_) (a' := ?_) #[true, true, true, false, true, true, false, false, false] rfl rfl (any_of HT_.out (by kernel_rfl)) (fun _ _ _ h => h) (Or.inl ⟨by rfl, ?_⟩) ?_ ?_
         rotate_left
         ·intro w'
          go_simp
          with_reducible rfl
         rotate_left
         ·simp only [Act.put, List.setIfInBounds_toArray, List.set_cons_zero, List.set_cons_succ, i64_w, i32_w]
          rfl
         refine pure_ (i := 6) (N := some 22) (v := ?_) (a' := ?_) #[true, true, true, false, true, true, true, false, false] rfl rfl (any_of HT_.out (by kernel_rfl)) (fun _ _ _ h => h) (Or.inl ⟨by rfl, ?_⟩) ?_ ?_
         rotate_left
         ·intro w'
          go_simp
          with_reducible rfl
         rotate_left
         ·simp only [Act.put, List.setIfInBounds_toArray, List.set_cons_zero, List.set_cons_succ, i64_w, i32_w]
          rfl
         refine take_ (i := 3) (N := some 19) (v := ?_) (a' := ?_) #[true, true, true, true, true, true, true, false, false] rfl rfl (take_ofW HT_.out HW_.out (by kernel_rfl)) (fun _ _ _ h => h) (Or.inl ⟨by rfl, ?_⟩) hHeld ?_ ?_
         rotate_left
         ·rintro w' ⟨s0, s1, s2, s3, s4, s5, s6, s7, s8, s9⟩
          first | (refine (Ar.gload_run rfl Try.underlying39 rfl (D := (#[.int .i64 ((rd_T39 l0 x13_1).f0), .int .i64 ((rd_T39 l0 x13_1).f1), .int .u64 ((rd_T39 l0 x13_1).f2)] ++ ((Ar.cells .u8 32 ((rd_T39 l0 x13_1).f3)) ++ #[.int .i64 ((rd_T39 l0 x13_1).f4)]))) (by first | (rw [Ar.cells_size]; kernel_rfl) | (simp only [Array.size_append, Ar.cells_size, List.size_toArray, List.length_cons, List.length_nil]; kernel_rfl)) rfl (Ar.elem_part0 (by assumption) Ar.in_whole)).trans ?_; with_reducible rfl) | (go_simp; with_reducible rfl)
         rotate_left
         ·simp only [Act.put, List.setIfInBounds_toArray, List.set_cons_zero, List.set_cons_succ, i64_w, i32_w]
          rfl
         refine take_ (i := 7) (N := some 23) (v := ?_) (a' := ?_) #[true, true, true, true, true, true, true, true, false] rfl rfl (take_ofW HT_.out HW_.out (by kernel_rfl)) (fun _ _ _ h => h) (Or.inl ⟨by rfl, ?_⟩) hHeld ?_ ?_
         rotate_left
         ·rintro w' ⟨s0, s1, s2, s3, s4, s5, s6, s7, s8, s9⟩
          first | (refine (Ar.gload_run rfl Try.underlying39 rfl (D := (#[.int .i64 ((rd_T39 l1 x13_1).f0), .int .i64 ((rd_T39 l1 x13_1).f1), .int .u64 ((rd_T39 l1 x13_1).f2)] ++ ((Ar.cells .u8 32 ((rd_T39 l1 x13_1).f3)) ++ #[.int .i64 ((rd_T39 l1 x13_1).f4)]))) (by first | (rw [Ar.cells_size]; kernel_rfl) | (simp only [Array.size_append, Ar.cells_size, List.size_toArray, List.length_cons, List.length_nil]; kernel_rfl)) rfl (Ar.elem_part0 (by assumption) Ar.in_whole)).trans ?_; with_reducible rfl) | (go_simp; with_reducible rfl)
         rotate_left
         ·simp only [Act.put, List.setIfInBounds_toArray, List.set_cons_zero, List.set_cons_succ, i64_w, i32_w]
          rfl
         refine pure_ (i := 8) (N := some 24) (v := ?_) (a' := ?_) #[true, true, true, true, true, true, true, true, true] rfl rfl (any_of HT_.out (by kernel_rfl)) (fun _ _ _ h => h) (Or.inl ⟨by rfl, ?_⟩) ?_ ?_
         rotate_left
         ·intro w'
          first | (refine (Ar.gneq_run rfl (by kernel_rfl) (b := (eqS39 (rd_T39 l0 x13_1) (rd_T39 l1 x13_1))) (fun w_ => fatEq39 w_ ((rd_T39 l0 x13_1).f0) ((rd_T39 l1 x13_1).f0) ((rd_T39 l0 x13_1).f1) ((rd_T39 l1 x13_1).f1) ((rd_T39 l0 x13_1).f2) ((rd_T39 l1 x13_1).f2) ((rd_T39 l0 x13_1).f3) ((rd_T39 l1 x13_1).f3) ((rd_T39 l0 x13_1).f4) ((rd_T39 l1 x13_1).f4)) rfl rfl).trans ?_; go_simp; with_reducible rfl) | (refine (Ar.gneq_run rfl (by kernel_rfl) (b := (eqS39 (rd_T39 l0 x13_1) (rd_T39 l1 x13_1))) (fun w_ => fatEq39 w_ ((rd_T39 l0 x13_1).f0) ((rd_T39 l1 x13_1).f0) ((rd_T39 l0 x13_1).f1) ((rd_T39 l1 x13_1).f1) ((rd_T39 l0 x13_1).f2) ((rd_T39 l1 x13_1).f2) ((rd_T39 l0 x13_1).f3) ((rd_T39 l1 x13_1).f3) ((rd_T39 l0 x13_1).f4) ((rd_T39 l1 x13_1).f4)) rfl rfl).trans ?_; with_reducible rfl) | (go_simp; with_reducible rfl)
         rotate_left
         ·simp only [Act.put, List.setIfInBounds_toArray, List.set_cons_zero, List.set_cons_succ, i64_w, i32_w]
          rfl
         refine done_ (done_of HT_.out (by kernel_rfl)) ?_
         try go_wp2
         go_roundg k1
         case measure => have := HK1.out; omega
         case rel => exact ⟨(wrap64 (x13_1 + 1)), (by first | rfl | (simp; done) | (simp [*]; done)), H', ⟨by have := HK1.out; omega⟩, ⟨by repeat (first | (with_reducible first | exact HB.out | apply below_alloc | apply pw_below_drewN | apply below_drew1) | exact HB.out)⟩⟩
        ·rw [if_neg c8] at H
         have c8b0 : (eqS39 (rd_T39 l0 x13_1) (rd_T39 l1 x13_1)) = false := by simpa using c8
         clear c8
         obtain rfl := Option.some.inj H
         try go_wp2
         have n0_ := Aside0.mk (below_drew1 HB.out)
         clear HB
         have HB := n0_
         clear n0_
         have p155 : 0 ≤ (x13_1 : Int) := of_decide_eq_true (by first | (with_reducible assumption) | assumption)
         have q155 : x13_1 < (l0.length : Int) := of_decide_eq_true (by first | (with_reducible assumption) | assumption)
         obtain ⟨ad155, e155, hx155_0, hx155_1, hx155_2, hx155_3, hx155_4⟩ := at_T39 HR0.out x13_1 p155 q155
         have hw155_4 := hx155_4
         have hw155_3 := hx155_3
         have hw155_2 := hx155_2
         have hw155_1 := hx155_1
         have hw155_0 := hx155_0
         cases e155
         replace hx155_0 := (HB.out.cell (World.block_lt_of_cell? w _ hx155_0)).trans hx155_0
         replace hx155_1 := (HB.out.cell (World.block_lt_of_cell? w _ hx155_1)).trans hx155_1
         replace hx155_2 := (HB.out.cell (World.block_lt_of_cell? w _ hx155_2)).trans hx155_2
         replace hx155_3 := (fun (j_ : Nat) (u_ : Value) hj_ => (HB.out.cell (World.block_lt_of_cell? w _ (hx155_3 j_ u_ hj_))).trans (hx155_3 j_ u_ hj_))
         replace hx155_4 := (HB.out.cell (World.block_lt_of_cell? w _ hx155_4)).trans hx155_4
         replace p155 := eq_true p155
         replace q155 := eq_true q155
         have p156 : 0 ≤ (x13_1 : Int) := of_decide_eq_true (by first | (with_reducible assumption) | assumption)
         have q156 : x13_1 < (l1.length : Int) := of_decide_eq_true (by first | (with_reducible assumption) | assumption)
         obtain ⟨ad156, e156, hx156_0, hx156_1, hx156_2, hx156_3, hx156_4⟩ := at_T39 HR1.out x13_1 p156 q156
         have hw156_4 := hx156_4
         have hw156_3 := hx156_3
         have hw156_2 := hx156_2
         have hw156_1 := hx156_1
         have hw156_0 := hx156_0
         cases e156
         replace hx156_0 := (HB.out.cell (World.block_lt_of_cell? w _ hx156_0)).trans hx156_0
         replace hx156_1 := (HB.out.cell (World.block_lt_of_cell? w _ hx156_1)).trans hx156_1
         replace hx156_2 := (HB.out.cell (World.block_lt_of_cell? w _ hx156_2)).trans hx156_2
         replace hx156_3 := (fun (j_ : Nat) (u_ : Value) hj_ => (HB.out.cell (World.block_lt_of_cell? w _ (hx156_3 j_ u_ hj_))).trans (hx156_3 j_ u_ hj_))
         replace hx156_4 := (HB.out.cell (World.block_lt_of_cell? w _ hx156_4)).trans hx156_4
         replace p156 := eq_true p156
         replace q156 := eq_true q156
         refine start_ (n := 9) (S := fun w' => w'.cell? (ad155.add ((x13_1).toNat * 36)) = some (.int .i64 ((rd_T39 l0 x13_1).f0)) ∧ w'.cell? ⟨(ad155.add ((x13_1).toNat * 36)).block, (ad155.add ((x13_1).toNat * 36)).off + 1, none⟩ = some (.int .i64 ((rd_T39 l0 x13_1).f1)) ∧ w'.cell? ⟨(ad155.add ((x13_1).toNat * 36)).block, (ad155.add ((x13_1).toNat * 36)).off + 2, none⟩ = some (.int .u64 ((rd_T39 l0 x13_1).f2)) ∧ (∀ (j_ : Nat) (u_ : Value), ((#[.int .i64 ((rd_T39 l0 x13_1).f0), .int .i64 ((rd_T39 l0 x13_1).f1), .int .u64 ((rd_T39 l0 x13_1).f2)] ++ (Ar.cells .u8 32 ((rd_T39 l0 x13_1).f3) ++ #[.int .i64 ((rd_T39 l0 x13_1).f4)])) : Array Value).toList[j_]? = some u_ → w'.cell? (ad155.add ((x13_1).toNat * 36 + j_)) = some u_) ∧ w'.cell? ⟨(ad155.add ((x13_1).toNat * 36)).block, (ad155.add ((x13_1).toNat * 36)).off + 35, none⟩ = some (.int .i64 ((rd_T39 l0 x13_1).f4)) ∧ w'.cell? (ad156.add ((x13_1).toNat * 36)) = some (.int .i64 ((rd_T39 l1 x13_1).f0)) ∧ w'.cell? ⟨(ad156.add ((x13_1).toNat * 36)).block, (ad156.add ((x13_1).toNat * 36)).off + 1, none⟩ = some (.int .i64 ((rd_T39 l1 x13_1).f1)) ∧ w'.cell? ⟨(ad156.add ((x13_1).toNat * 36)).block, (ad156.add ((x13_1).toNat * 36)).off + 2, none⟩ = some (.int .u64 ((rd_T39 l1 x13_1).f2)) ∧ (∀ (j_ : Nat) (u_ : Value), ((#[.int .i64 ((rd_T39 l1 x13_1).f0), .int .i64 ((rd_T39 l1 x13_1).f1), .int .u64 ((rd_T39 l1 x13_1).f2)] ++ (Ar.cells .u8 32 ((rd_T39 l1 x13_1).f3) ++ #[.int .i64 ((rd_T39 l1 x13_1).f4)])) : Array Value).toList[j_]? = some u_ → w'.cell? (ad156.add ((x13_1).toNat * 36 + j_)) = some u_) ∧ w'.cell? ⟨(ad156.add ((x13_1).toNat * 36)).block, (ad156.add ((x13_1).toNat * 36)).off + 35, none⟩ = some (.int .i64 ((rd_T39 l1 x13_1).f4))) (ds := []) #[false, false, false, false, false, false, false, false, false] (by kernel_rfl) rfl rfl ⟨((HB.out.cell (World.block_lt_of_cell? w _ hw155_0)).trans hw155_0), ((HB.out.cell (World.block_lt_of_cell? w _ hw155_1)).trans hw155_1), ((HB.out.cell (World.block_lt_of_cell? w _ hw155_2)).trans hw155_2), (fun (j_ : Nat) (u_ : Value) hj_ => (HB.out.cell (World.block_lt_of_cell? w _ (hw155_3 j_ u_ hj_))).trans (hw155_3 j_ u_ hj_)), ((HB.out.cell (World.block_lt_of_cell? w _ hw155_4)).trans hw155_4), ((HB.out.cell (World.block_lt_of_cell? w _ hw156_0)).trans hw156_0), ((HB.out.cell (World.block_lt_of_cell? w _ hw156_1)).trans hw156_1), ((HB.out.cell (World.block_lt_of_cell? w _ hw156_2)).trans hw156_2), (fun (j_ : Nat) (u_ : Value) hj_ => (HB.out.cell (World.block_lt_of_cell? w _ (hw156_3 j_ u_ hj_))).trans (hw156_3 j_ u_ hj_)), ((HB.out.cell (World.block_lt_of_cell? w _ hw156_4)).trans hw156_4)⟩ (fun hHeld => ?_); refine with_tabW api_Op.tab6 api_Op.bits6 (fun HT_ HW_ => ?_)
         generalize wr.drew = w10 at HB hx155_0 hx155_1 hx155_2 hx155_3 hx155_4 hx156_0 hx156_1 hx156_2 hx156_3 hx156_4 hHeld ⊢
         refine pure_ (i := 0) (N := some 16) (v := ?_) (a' := ?_) #[true, false, false, false, false, false, false, false, false] rfl rfl (any_of HT_.out (by kernel_rfl)) (fun _ _ _ h => h) (Or.inl ⟨by rfl, ?_⟩) ?_ ?_
         rotate_left
         ·intro w'
          go_simp
          with_reducible rfl
         rotate_left
         ·simp only [Act.put, List.setIfInBounds_toArray, List.set_cons_zero, List.set_cons_succ, i64_w, i32_w]
          rfl
         refine pure_ (i := 1) (N := some 17) (v := ?_) (a' := ?_) #[true, true, false, false, false, false, false, false, false] rfl rfl (any_of HT_.out (by kernel_rfl)) (fun _ _ _ h => h) (Or.inl ⟨by rfl, ?_⟩) ?_ ?_
         rotate_left
         ·intro w'
          go_simp
          with_reducible rfl
         rotate_left
         ·simp only [Act.put, List.setIfInBounds_toArray, List.set_cons_zero, List.set_cons_succ, i64_w, i32_w]
          rfl
         refine pure_ (i := 2) (N := some 18) (v := ?_) (a' := ?_) #[true, true, true, false, false, false, false, false, false] rfl rfl (any_of HT_.out (by kernel_rfl)) (fun _ _ _ h => h) (Or.inl ⟨by rfl, ?_⟩) ?_ ?_
         rotate_left
         ·intro w'
          go_simp
          with_reducible rfl
         rotate_left
         ·simp only [Act.put, List.setIfInBounds_toArray, List.set_cons_zero, List.set_cons_succ, i64_w, i32_w]
          rfl
         refine pure_ (i := 4) (N := some 20) (v := ?_) (a' := ?_) #[true, true, true, false, true, false, false, false, false] rfl rfl (any_of HT_.out (by kernel_rfl)) (fun _ _ _ h => h) (Or.inl ⟨by rfl, ?_⟩) ?_ ?_
         rotate_left
         ·intro w'
          go_simp
          with_reducible rfl
         rotate_left
         ·simp only [Act.put, List.setIfInBounds_toArray, List.set_cons_zero, List.set_cons_succ, i64_w, i32_w]
          rfl
         refine pure_ (i := 5) (N := some 21) (v := ?_) (a' := ?_) #[true, true, true, false, true, true, false, false, false] rfl rfl (any_of HT_.out (by kernel_rfl)) (fun _ _ _ h => h) (Or.inl ⟨by rfl, ?_⟩) ?_ ?_
         rotate_left
         ·intro w'
          go_simp
          with_reducible rfl
         rotate_left
         ·simp only [Act.put, List.setIfInBounds_toArray, List.set_cons_zero, List.set_cons_succ, i64_w, i32_w]
          rfl
         refine pure_ (i := 6) (N := some 22) (v := ?_) (a' := ?_) #[true, true, true, false, true, true, true, false, false] rfl rfl (any_of HT_.out (by kernel_rfl)) (fun _ _ _ h => h) (Or.inl ⟨by rfl, ?_⟩) ?_ ?_
         rotate_left
         ·intro w'
          go_simp
          with_reducible rfl
         rotate_left
         ·simp only [Act.put, List.setIfInBounds_toArray, List.set_cons_zero, List.set_cons_succ, i64_w, i32_w]
          rfl
         refine take_ (i := 3) (N := some 19) (v := ?_) (a' := ?_) #[true, true, true, true, true, true, true, false, false] rfl rfl (take_ofW HT_.out HW_.out (by kernel_rfl)) (fun _ _ _ h => h) (Or.inl ⟨by rfl, ?_⟩) hHeld ?_ ?_
         rotate_left
         ·rintro w' ⟨s0, s1, s2, s3, s4, s5, s6, s7, s8, s9⟩
          first | (refine (Ar.gload_run rfl Try.underlying39 rfl (D := (#[.int .i64 ((rd_T39 l0 x13_1).f0), .int .i64 ((rd_T39 l0 x13_1).f1), .int .u64 ((rd_T39 l0 x13_1).f2)] ++ ((Ar.cells .u8 32 ((rd_T39 l0 x13_1).f3)) ++ #[.int .i64 ((rd_T39 l0 x13_1).f4)]))) (by first | (rw [Ar.cells_size]; kernel_rfl) | (simp only [Array.size_append, Ar.cells_size, List.size_toArray, List.length_cons, List.length_nil]; kernel_rfl)) rfl (Ar.elem_part0 (by assumption) Ar.in_whole)).trans ?_; with_reducible rfl) | (go_simp; with_reducible rfl)
         rotate_left
         ·simp only [Act.put, List.setIfInBounds_toArray, List.set_cons_zero, List.set_cons_succ, i64_w, i32_w]
          rfl
         refine take_ (i := 7) (N := some 23) (v := ?_) (a' := ?_) #[true, true, true, true, true, true, true, true, false] rfl rfl (take_ofW HT_.out HW_.out (by kernel_rfl)) (fun _ _ _ h => h) (Or.inl ⟨by rfl, ?_⟩) hHeld ?_ ?_
         rotate_left
         ·rintro w' ⟨s0, s1, s2, s3, s4, s5, s6, s7, s8, s9⟩
          first | (refine (Ar.gload_run rfl Try.underlying39 rfl (D := (#[.int .i64 ((rd_T39 l1 x13_1).f0), .int .i64 ((rd_T39 l1 x13_1).f1), .int .u64 ((rd_T39 l1 x13_1).f2)] ++ ((Ar.cells .u8 32 ((rd_T39 l1 x13_1).f3)) ++ #[.int .i64 ((rd_T39 l1 x13_1).f4)]))) (by first | (rw [Ar.cells_size]; kernel_rfl) | (simp only [Array.size_append, Ar.cells_size, List.size_toArray, List.length_cons, List.length_nil]; kernel_rfl)) rfl (Ar.elem_part0 (by assumption) Ar.in_whole)).trans ?_; with_reducible rfl) | (go_simp; with_reducible rfl)
         rotate_left
         ·simp only [Act.put, List.setIfInBounds_toArray, List.set_cons_zero, List.set_cons_succ, i64_w, i32_w]
          rfl
         refine pure_ (i := 8) (N := some 24) (v := ?_) (a' := ?_) #[true, true, true, true, true, true, true, true, true] rfl rfl (any_of HT_.out (by kernel_rfl)) (fun _ _ _ h => h) (Or.inl ⟨by rfl, ?_⟩) ?_ ?_
         rotate_left
         ·intro w'
          first | (refine (Ar.gneq_run rfl (by kernel_rfl) (b := (eqS39 (rd_T39 l0 x13_1) (rd_T39 l1 x13_1))) (fun w_ => fatEq39 w_ ((rd_T39 l0 x13_1).f0) ((rd_T39 l1 x13_1).f0) ((rd_T39 l0 x13_1).f1) ((rd_T39 l1 x13_1).f1) ((rd_T39 l0 x13_1).f2) ((rd_T39 l1 x13_1).f2) ((rd_T39 l0 x13_1).f3) ((rd_T39 l1 x13_1).f3) ((rd_T39 l0 x13_1).f4) ((rd_T39 l1 x13_1).f4)) rfl rfl).trans ?_; go_simp; with_reducible rfl) | (refine (Ar.gneq_run rfl (by kernel_rfl) (b := (eqS39 (rd_T39 l0 x13_1) (rd_T39 l1 x13_1))) (fun w_ => fatEq39 w_ ((rd_T39 l0 x13_1).f0) ((rd_T39 l1 x13_1).f0) ((rd_T39 l0 x13_1).f1) ((rd_T39 l1 x13_1).f1) ((rd_T39 l0 x13_1).f2) ((rd_T39 l1 x13_1).f2) ((rd_T39 l0 x13_1).f3) ((rd_T39 l1 x13_1).f3) ((rd_T39 l0 x13_1).f4) ((rd_T39 l1 x13_1).f4)) rfl rfl).trans ?_; with_reducible rfl) | (go_simp; with_reducible rfl)
         rotate_left
         ·simp only [Act.put, List.setIfInBounds_toArray, List.set_cons_zero, List.set_cons_succ, i64_w, i32_w]
          rfl
         refine done_ (done_of HT_.out (by kernel_rfl)) ?_
         try go_wp2
         go_ret
         exact ⟨by first | rfl | (simp [errW_none, errW_some] <;> rfl) | (simp [*, errW_none, errW_some] <;> rfl), by repeat (first | (with_reducible first | exact HB.out | apply below_alloc | apply pw_below_drewN | apply below_drew1) | exact HB.out)⟩
       ·rw [if_neg c7] at H
        exact absurd H (by simp)
      ·rw [if_neg c6] at H
       exact absurd H (by simp)
     ·rw [if_neg c5] at H
      exact absurd H (by simp)
    ·rw [if_neg c4] at H
     have c4b0 : decide (x13_1 < (l0.length : Int)) = false := decide_eq_false c4
     clear c4
     obtain rfl := Option.some.inj H
     go_wp2
     go_ret
     exact ⟨by first | rfl | (simp [errW_none, errW_some] <;> rfl) | (simp [*, errW_none, errW_some] <;> rfl), by repeat (first | (with_reducible first | exact HB.out | apply below_alloc | apply pw_below_drewN | apply below_drew1) | exact HB.out)⟩
 ·rw [if_neg c3] at H
  have c3b0 : ((l0.length : Int) == (l1.length : Int)) = false := beq_eq_false_iff_ne.mpr c3
  have c3b1 : ((l0.length : Int) != (l1.length : Int)) = true := bne_iff_ne.mpr c3
  have c3b2 : (l0.length == l1.length) = false := by first | simpa using c3 | (simp at c3 ⊢; omega)
  obtain rfl := Option.some.inj H
  go_enter Try.func28, Try.ntmps28
  go_wp2
  go_ret
  exact ⟨by first | rfl | (simp [errW_none, errW_some] <;> rfl) | (simp [*, errW_none, errW_some] <;> rfl), by repeat (first | (with_reducible first | exact HB.out | apply below_alloc | apply pw_below_drewN | apply below_drew1) | exact HB.out)⟩

/-! ### op_Same: function 18 -/
def op_Same.f (k : Nat) (l0 : List (S39)) (l1 : List (S39)) : Option (Bool) := (api_Op.f k l0 l1).bind fun t157 => (some t157)
theorem op_Same.mono : ∀ a0 a1 k, LeO (op_Same.f k a0 a1) (op_Same.f (k + 1) a0 a1) := by
  intro a0 a1 k
  unfold op_Same.f
  repeat' first
      | (with_reducible exact api_Op.mono _ _ _)
      | (with_reducible exact LeO.refl _)
      | (with_reducible exact LeO.none _)
      | (with_reducible refine LeO.ite ?_ ?_)
      | (with_reducible refine LeO.bind ?_ (fun _ => ?_))
      | exact api_Op.mono _ _ _
      | exact LeO.none _
      | refine LeO.ite ?_ ?_
      | refine LeO.bind ?_ (fun _ => ?_)
set_option maxHeartbeats 8000000 in
set_option maxRecDepth 100000 in
theorem op_Same.calls (k : Nat) (A0 : Option Addr) (c0 : Nat) (l0 : List (S39)) (A1 : Option Addr) (c1 : Nat) (l1 : List (S39)) (r : Bool) (w : World) (hr0 : Kd.C k39 w A0 l0.length l0) (hc0 : l0.length ≤ c0) (hr1 : Kd.C k39 w A1 l1.length l1) (hc1 : l1.length ≤ c1) (h : op_Same.f k l0 l1 = some r) :
    Calls Try.prog 18 #[.slice A0 l0.length c0, .slice A1 l1.length c1] w fun e w' => e = .returned (.bool r) ∧ Below w.heap.size w w' := by
  have HR0 := Aside0.mk hr0
  have HC0 := Aside0.mk hc0
  clear hr0 hc0
  have HR1 := Aside0.mk hr1
  have HC1 := Aside0.mk hc1
  clear hr1 hc1
  have HB := Aside0.mk (Below.refl w.heap.size w)
  have H : ((api_Op.f k l0 l1).bind fun t157 => (some t157)) = some r := h
  clear h
  replace H := Option.bind_eq_some_iff.mp H
  obtain ⟨t157, A30, H⟩ := H
  replace H : (some t157) = some r := H
  have A3 := Aside0.mk A30
  clear A30
  obtain rfl := Option.some.inj H
  go_enter Try.func18, Try.ntmps18
  go_wp2_with (first | ((with_reducible refine gate_callee (f := 28) rfl ?_); refine goesL_ (some 7) rfl rfl Try.func28 (by kernel_rfl) rfl #[.slice A0 l0.length c0, .slice A1 l1.length c1] rfl (by (try simp only [List.map_toArray, List.map_cons, List.map_nil]); first | done | rfl | (simp only [List.length_drop, List.length_take]; rfl)) ?_; (with_reducible refine (api_Op.calls k _ _ l0 _ _ l1 t157 _ ?side1 ?side2 ?side3 ?side4 A3.out).mono ?_); (case side1 => repeat (first | exact HR0.out | (with_reducible refine Kd.C_alloc ?_ _) | (with_reducible refine Kd.C_drewN ?_ _) | (with_reducible refine Kd.C_drew ?_))); (case side2 => exact HC0.out); (case side3 => repeat (first | exact HR1.out | (with_reducible refine Kd.C_alloc ?_ _) | (with_reducible refine Kd.C_drewN ?_ _) | (with_reducible refine Kd.C_drew ?_))); (case side4 => exact HC1.out); rintro e w4 ⟨rfl, hb⟩; refine ⟨_, rfl, ?_⟩; have n0_ := Aside0.mk (below_step (by repeat (first | (with_reducible first | exact HB.out | apply below_alloc | apply pw_below_drewN | apply below_drew1) | exact HB.out)) hb); clear HB; have HB := n0_; clear n0_; (try clear hb); (try clear hb2); (try clear hk); (try clear hi)))
  go_ret
  exact ⟨by first | rfl | (simp [errW_none, errW_some] <;> rfl) | (simp [*, errW_none, errW_some] <;> rfl), by repeat (first | (with_reducible first | exact HB.out | apply below_alloc | apply pw_below_drewN | apply below_drew1) | exact HB.out)⟩

/-! ### drawlotlaw24_alive: function 8 -/
def drawlotlaw24_alive.f (k : Nat)  : Option (Bool) := (op_Decode.f k (([6, 255] : List Int))).bind fun t161 => ((op_Decode.f k (([7, 0, 0] : List Int))).bind fun t167 => ((op_Encode.f k (([(⟨7, 0, 0, (List.replicate 32 0), 258⟩ : S39), (⟨0, 0, 0, (List.replicate 32 0), 12⟩ : S39)] : List (S39)))).bind fun bt173 => ((op_Encode.f k (([(⟨0, 0, 0, (List.replicate 32 0), 6⟩ : S39)] : List (S39)))).bind fun bt180 => ((op_Size.f 1).bind fun bt184 => ((op_Size.f 12).bind fun bt186 => (if (t161.length : Int) = 2 then (if 0 < (t161.length : Int) then (if (eqS39 (rd_T39 t161 0) (⟨6, 0, 0, (List.replicate 32 0), 0⟩ : S39)) = true then (if 1 < (t161.length : Int) then (if (eqS39 (rd_T39 t161 1) (⟨0, 0, 0, (List.replicate 32 0), 255⟩ : S39)) = true then (if (t167.length : Int) = 1 then (if 0 < (t167.length : Int) then (if (eqS39 (rd_T39 t167 0) (⟨0, 0, 0, (List.replicate 32 0), 7⟩ : S39)) = true then (if bt173.2 = 0 then (if bt180.2 = 1 then (if (strOfNums bt173.1).toList = ([7, 0, 0, 1, 2, 12] : List UInt8) then (if bt184.1 = 41 then (if bt184.2 = true then (if bt186.2 = true then (none) else ((op_Right.f k ((rd_T39 t161 0).f0) ((rd_T39 t161 0).f1) ((rd_T39 t161 0).f2) ((rd_T39 t161 0).f3) ((rd_T39 t161 0).f4)).bind fun t192 => (if t192 = true then ((op_Right.f k ((rd_T39 t167 0).f0) ((rd_T39 t167 0).f1) ((rd_T39 t167 0).f2) ((rd_T39 t167 0).f3) ((rd_T39 t167 0).f4)).bind fun t194 => (if t194 = true then (none) else ((op_Same.f k t161 t161).bind fun t195 => (if t195 = true then ((op_Same.f k t161 t167).bind fun t196 => (some (!t196))) else (none))))) else (none)))) else (none)) else (none)) else (none)) else (none)) else (none)) else (none)) else (none)) else (none)) else (none)) else (none)) else (none)) else (none)) else (none)))))))
theorem drawlotlaw24_alive.mono : ∀ k, LeO (drawlotlaw24_alive.f k ) (drawlotlaw24_alive.f (k + 1) ) := by
 intro  k
 unfold drawlotlaw24_alive.f
 repeat' first
   | (with_reducible exact op_Decode.mono _ _)
   | (with_reducible exact op_Encode.mono _ _)
   | (with_reducible exact op_Right.mono _ _ _ _ _ _)
   | (with_reducible exact op_Same.mono _ _ _)
   | (with_reducible exact LeO.refl _)
   | (with_reducible exact LeO.none _)
   | (with_reducible refine LeO.ite ?_ ?_)
   | (with_reducible refine LeO.bind ?_ (fun _ => ?_))
   | exact op_Decode.mono _ _
   | exact op_Encode.mono _ _
   | exact op_Right.mono _ _ _ _ _ _
   | exact op_Same.mono _ _ _
   | exact LeO.none _
   | refine LeO.ite ?_ ?_
   | refine LeO.bind ?_ (fun _ => ?_)
set_option maxHeartbeats 8000000 in
set_option maxRecDepth 100000 in
theorem drawlotlaw24_alive.calls (k : Nat)  (r : Bool) (w : World) (h : drawlotlaw24_alive.f k  = some r) :
  Calls Try.prog 8 #[] w fun e w' => e = .returned (.bool r) ∧ Below w.heap.size w w' := by
 have hu39 := Try.underlying39
 have HB := Aside0.mk (Below.refl w.heap.size w)
 have H : ((op_Decode.f k (([6, 255] : List Int))).bind fun t161 => ((op_Decode.f k (([7, 0, 0] : List Int))).bind fun t167 => ((op_Encode.f k (([(⟨7, 0, 0, (List.replicate 32 0), 258⟩ : S39), (⟨0, 0, 0, (List.replicate 32 0), 12⟩ : S39)] : List (S39)))).bind fun bt173 => ((op_Encode.f k (([(⟨0, 0, 0, (List.replicate 32 0), 6⟩ : S39)] : List (S39)))).bind fun bt180 => ((op_Size.f 1).bind fun bt184 => ((op_Size.f 12).bind fun bt186 => (if (t161.length : Int) = 2 then (if 0 < (t161.length : Int) then (if (eqS39 (rd_T39 t161 0) (⟨6, 0, 0, (List.replicate 32 0), 0⟩ : S39)) = true then (if 1 < (t161.length : Int) then (if (eqS39 (rd_T39 t161 1) (⟨0, 0, 0, (List.replicate 32 0), 255⟩ : S39)) = true then (if (t167.length : Int) = 1 then (if 0 < (t167.length : Int) then (if (eqS39 (rd_T39 t167 0) (⟨0, 0, 0, (List.replicate 32 0), 7⟩ : S39)) = true then (if bt173.2 = 0 then (if bt180.2 = 1 then (if (strOfNums bt173.1).toList = ([7, 0, 0, 1, 2, 12] : List UInt8) then (if bt184.1 = 41 then (if bt184.2 = true then (if bt186.2 = true then (none) else ((op_Right.f k ((rd_T39 t161 0).f0) ((rd_T39 t161 0).f1) ((rd_T39 t161 0).f2) ((rd_T39 t161 0).f3) ((rd_T39 t161 0).f4)).bind fun t192 => (if t192 = true then ((op_Right.f k ((rd_T39 t167 0).f0) ((rd_T39 t167 0).f1) ((rd_T39 t167 0).f2) ((rd_T39 t167 0).f3) ((rd_T39 t167 0).f4)).bind fun t194 => (if t194 = true then (none) else ((op_Same.f k t161 t161).bind fun t195 => (if t195 = true then ((op_Same.f k t161 t167).bind fun t196 => (some (!t196))) else (none))))) else (none)))) else (none)) else (none)) else (none)) else (none)) else (none)) else (none)) else (none)) else (none)) else (none)) else (none)) else (none)) else (none)) else (none)))))))) = some r := h
 clear h
 obtain ⟨y158, hy158⟩ : ∃ y_ : List Int, y_ = (([6, 255] : List Int)) := ⟨_, rfl⟩
 replace H : ((op_Decode.f k y158).bind fun t161 => ((op_Decode.f k (([7, 0, 0] : List Int))).bind fun t167 => ((op_Encode.f k (([(⟨7, 0, 0, (List.replicate 32 0), 258⟩ : S39), (⟨0, 0, 0, (List.replicate 32 0), 12⟩ : S39)] : List (S39)))).bind fun bt173 => ((op_Encode.f k (([(⟨0, 0, 0, (List.replicate 32 0), 6⟩ : S39)] : List (S39)))).bind fun bt180 => ((op_Size.f 1).bind fun bt184 => ((op_Size.f 12).bind fun bt186 => (if (t161.length : Int) = 2 then (if 0 < (t161.length : Int) then (if (eqS39 (rd_T39 t161 0) (⟨6, 0, 0, (List.replicate 32 0), 0⟩ : S39)) = true then (if 1 < (t161.length : Int) then (if (eqS39 (rd_T39 t161 1) (⟨0, 0, 0, (List.replicate 32 0), 255⟩ : S39)) = true then (if (t167.length : Int) = 1 then (if 0 < (t167.length : Int) then (if (eqS39 (rd_T39 t167 0) (⟨0, 0, 0, (List.replicate 32 0), 7⟩ : S39)) = true then (if bt173.2 = 0 then (if bt180.2 = 1 then (if (strOfNums bt173.1).toList = ([7, 0, 0, 1, 2, 12] : List UInt8) then (if bt184.1 = 41 then (if bt184.2 = true then (if bt186.2 = true then (none) else ((op_Right.f k ((rd_T39 t161 0).f0) ((rd_T39 t161 0).f1) ((rd_T39 t161 0).f2) ((rd_T39 t161 0).f3) ((rd_T39 t161 0).f4)).bind fun t192 => (if t192 = true then ((op_Right.f k ((rd_T39 t167 0).f0) ((rd_T39 t167 0).f1) ((rd_T39 t167 0).f2) ((rd_T39 t167 0).f3) ((rd_T39 t167 0).f4)).bind fun t194 => (if t194 = true then (none) else ((op_Same.f k t161 t161).bind fun t195 => (if t195 = true then ((op_Same.f k t161 t167).bind fun t196 => (some (!t196))) else (none))))) else (none)))) else (none)) else (none)) else (none)) else (none)) else (none)) else (none)) else (none)) else (none)) else (none)) else (none)) else (none)) else (none)) else (none)))))))) = some r := by first | (rw [hy158]; with_reducible exact H) | (have H2_ := (Option.bind_some _ _).symm.trans H; rw [hy158]; with_reducible exact H2_) | (have H2_ := (Option.bind_some _ _).symm.trans H; with_reducible exact H2_) | with_reducible exact H | (rw [hy158]; exact H) | exact H
 have Ny158 := Aside0.mk hy158
 clear hy158
 replace H := Option.bind_eq_some_iff.mp H
 obtain ⟨t161, A10, H⟩ := H
 replace H : ((op_Decode.f k (([7, 0, 0] : List Int))).bind fun t167 => ((op_Encode.f k (([(⟨7, 0, 0, (List.replicate 32 0), 258⟩ : S39), (⟨0, 0, 0, (List.replicate 32 0), 12⟩ : S39)] : List (S39)))).bind fun bt173 => ((op_Encode.f k (([(⟨0, 0, 0, (List.replicate 32 0), 6⟩ : S39)] : List (S39)))).bind fun bt180 => ((op_Size.f 1).bind fun bt184 => ((op_Size.f 12).bind fun bt186 => (if (t161.length : Int) = 2 then (if 0 < (t161.length : Int) then (if (eqS39 (rd_T39 t161 0) (⟨6, 0, 0, (List.replicate 32 0), 0⟩ : S39)) = true then (if 1 < (t161.length : Int) then (if (eqS39 (rd_T39 t161 1) (⟨0, 0, 0, (List.replicate 32 0), 255⟩ : S39)) = true then (if (t167.length : Int) = 1 then (if 0 < (t167.length : Int) then (if (eqS39 (rd_T39 t167 0) (⟨0, 0, 0, (List.replicate 32 0), 7⟩ : S39)) = true then (if bt173.2 = 0 then (if bt180.2 = 1 then (if (strOfNums bt173.1).toList = ([7, 0, 0, 1, 2, 12] : List UInt8) then (if bt184.1 = 41 then (if bt184.2 = true then (if bt186.2 = true then (none) else ((op_Right.f k ((rd_T39 t161 0).f0) ((rd_T39 t161 0).f1) ((rd_T39 t161 0).f2) ((rd_T39 t161 0).f3) ((rd_T39 t161 0).f4)).bind fun t192 => (if t192 = true then ((op_Right.f k ((rd_T39 t167 0).f0) ((rd_T39 t167 0).f1) ((rd_T39 t167 0).f2) ((rd_T39 t167 0).f3) ((rd_T39 t167 0).f4)).bind fun t194 => (if t194 = true then (none) else ((op_Same.f k t161 t161).bind fun t195 => (if t195 = true then ((op_Same.f k t161 t167).bind fun t196 => (some (!t196))) else (none))))) else (none)))) else (none)) else (none)) else (none)) else (none)) else (none)) else (none)) else (none)) else (none)) else (none)) else (none)) else (none)) else (none)) else (none))))))) = some r := H
 have A1 := Aside0.mk A10
 clear A10
 obtain ⟨y164, hy164⟩ : ∃ y_ : List Int, y_ = (([7, 0, 0] : List Int)) := ⟨_, rfl⟩
 replace H : ((op_Decode.f k y164).bind fun t167 => ((op_Encode.f k (([(⟨7, 0, 0, (List.replicate 32 0), 258⟩ : S39), (⟨0, 0, 0, (List.replicate 32 0), 12⟩ : S39)] : List (S39)))).bind fun bt173 => ((op_Encode.f k (([(⟨0, 0, 0, (List.replicate 32 0), 6⟩ : S39)] : List (S39)))).bind fun bt180 => ((op_Size.f 1).bind fun bt184 => ((op_Size.f 12).bind fun bt186 => (if (t161.length : Int) = 2 then (if 0 < (t161.length : Int) then (if (eqS39 (rd_T39 t161 0) (⟨6, 0, 0, (List.replicate 32 0), 0⟩ : S39)) = true then (if 1 < (t161.length : Int) then (if (eqS39 (rd_T39 t161 1) (⟨0, 0, 0, (List.replicate 32 0), 255⟩ : S39)) = true then (if (t167.length : Int) = 1 then (if 0 < (t167.length : Int) then (if (eqS39 (rd_T39 t167 0) (⟨0, 0, 0, (List.replicate 32 0), 7⟩ : S39)) = true then (if bt173.2 = 0 then (if bt180.2 = 1 then (if (strOfNums bt173.1).toList = ([7, 0, 0, 1, 2, 12] : List UInt8) then (if bt184.1 = 41 then (if bt184.2 = true then (if bt186.2 = true then (none) else ((op_Right.f k ((rd_T39 t161 0).f0) ((rd_T39 t161 0).f1) ((rd_T39 t161 0).f2) ((rd_T39 t161 0).f3) ((rd_T39 t161 0).f4)).bind fun t192 => (if t192 = true then ((op_Right.f k ((rd_T39 t167 0).f0) ((rd_T39 t167 0).f1) ((rd_T39 t167 0).f2) ((rd_T39 t167 0).f3) ((rd_T39 t167 0).f4)).bind fun t194 => (if t194 = true then (none) else ((op_Same.f k t161 t161).bind fun t195 => (if t195 = true then ((op_Same.f k t161 t167).bind fun t196 => (some (!t196))) else (none))))) else (none)))) else (none)) else (none)) else (none)) else (none)) else (none)) else (none)) else (none)) else (none)) else (none)) else (none)) else (none)) else (none)) else (none))))))) = some r := by first | (rw [hy164]; with_reducible exact H) | (have H2_ := (Option.bind_some _ _).symm.trans H; rw [hy164]; with_reducible exact H2_) | (have H2_ := (Option.bind_some _ _).symm.trans H; with_reducible exact H2_) | with_reducible exact H | (rw [hy164]; exact H) | exact H
 have Ny164 := Aside0.mk hy164
 clear hy164
 replace H := Option.bind_eq_some_iff.mp H
 obtain ⟨t167, A20, H⟩ := H
 replace H : ((op_Encode.f k (([(⟨7, 0, 0, (List.replicate 32 0), 258⟩ : S39), (⟨0, 0, 0, (List.replicate 32 0), 12⟩ : S39)] : List (S39)))).bind fun bt173 => ((op_Encode.f k (([(⟨0, 0, 0, (List.replicate 32 0), 6⟩ : S39)] : List (S39)))).bind fun bt180 => ((op_Size.f 1).bind fun bt184 => ((op_Size.f 12).bind fun bt186 => (if (t161.length : Int) = 2 then (if 0 < (t161.length : Int) then (if (eqS39 (rd_T39 t161 0) (⟨6, 0, 0, (List.replicate 32 0), 0⟩ : S39)) = true then (if 1 < (t161.length : Int) then (if (eqS39 (rd_T39 t161 1) (⟨0, 0, 0, (List.replicate 32 0), 255⟩ : S39)) = true then (if (t167.length : Int) = 1 then (if 0 < (t167.length : Int) then (if (eqS39 (rd_T39 t167 0) (⟨0, 0, 0, (List.replicate 32 0), 7⟩ : S39)) = true then (if bt173.2 = 0 then (if bt180.2 = 1 then (if (strOfNums bt173.1).toList = ([7, 0, 0, 1, 2, 12] : List UInt8) then (if bt184.1 = 41 then (if bt184.2 = true then (if bt186.2 = true then (none) else ((op_Right.f k ((rd_T39 t161 0).f0) ((rd_T39 t161 0).f1) ((rd_T39 t161 0).f2) ((rd_T39 t161 0).f3) ((rd_T39 t161 0).f4)).bind fun t192 => (if t192 = true then ((op_Right.f k ((rd_T39 t167 0).f0) ((rd_T39 t167 0).f1) ((rd_T39 t167 0).f2) ((rd_T39 t167 0).f3) ((rd_T39 t167 0).f4)).bind fun t194 => (if t194 = true then (none) else ((op_Same.f k t161 t161).bind fun t195 => (if t195 = true then ((op_Same.f k t161 t167).bind fun t196 => (some (!t196))) else (none))))) else (none)))) else (none)) else (none)) else (none)) else (none)) else (none)) else (none)) else (none)) else (none)) else (none)) else (none)) else (none)) else (none)) else (none)))))) = some r := H
 have A2 := Aside0.mk A20
 clear A20
 obtain ⟨y170, hy170⟩ : ∃ y_ : List (S39), y_ = (([(⟨7, 0, 0, (List.replicate 32 0), 258⟩ : S39), (⟨0, 0, 0, (List.replicate 32 0), 12⟩ : S39)] : List (S39))) := ⟨_, rfl⟩
 replace H : ((op_Encode.f k y170).bind fun bt173 => ((op_Encode.f k (([(⟨0, 0, 0, (List.replicate 32 0), 6⟩ : S39)] : List (S39)))).bind fun bt180 => ((op_Size.f 1).bind fun bt184 => ((op_Size.f 12).bind fun bt186 => (if (t161.length : Int) = 2 then (if 0 < (t161.length : Int) then (if (eqS39 (rd_T39 t161 0) (⟨6, 0, 0, (List.replicate 32 0), 0⟩ : S39)) = true then (if 1 < (t161.length : Int) then (if (eqS39 (rd_T39 t161 1) (⟨0, 0, 0, (List.replicate 32 0), 255⟩ : S39)) = true then (if (t167.length : Int) = 1 then (if 0 < (t167.length : Int) then (if (eqS39 (rd_T39 t167 0) (⟨0, 0, 0, (List.replicate 32 0), 7⟩ : S39)) = true then (if bt173.2 = 0 then (if bt180.2 = 1 then (if (strOfNums bt173.1).toList = ([7, 0, 0, 1, 2, 12] : List UInt8) then (if bt184.1 = 41 then (if bt184.2 = true then (if bt186.2 = true then (none) else ((op_Right.f k ((rd_T39 t161 0).f0) ((rd_T39 t161 0).f1) ((rd_T39 t161 0).f2) ((rd_T39 t161 0).f3) ((rd_T39 t161 0).f4)).bind fun t192 => (if t192 = true then ((op_Right.f k ((rd_T39 t167 0).f0) ((rd_T39 t167 0).f1) ((rd_T39 t167 0).f2) ((rd_T39 t167 0).f3) ((rd_T39 t167 0).f4)).bind fun t194 => (if t194 = true then (none) else ((op_Same.f k t161 t161).bind fun t195 => (if t195 = true then ((op_Same.f k t161 t167).bind fun t196 => (some (!t196))) else (none))))) else (none)))) else (none)) else (none)) else (none)) else (none)) else (none)) else (none)) else (none)) else (none)) else (none)) else (none)) else (none)) else (none)) else (none)))))) = some r := by first | (rw [hy170]; with_reducible exact H) | (have H2_ := (Option.bind_some _ _).symm.trans H; rw [hy170]; with_reducible exact H2_) | (have H2_ := (Option.bind_some _ _).symm.trans H; with_reducible exact H2_) | with_reducible exact H | (rw [hy170]; exact H) | exact H
 have Ny170 := Aside0.mk hy170
 clear hy170
 replace H := Option.bind_eq_some_iff.mp H
 obtain ⟨⟨t173, t174⟩, A30, H⟩ := H
 replace H : ((op_Encode.f k (([(⟨0, 0, 0, (List.replicate 32 0), 6⟩ : S39)] : List (S39)))).bind fun bt180 => ((op_Size.f 1).bind fun bt184 => ((op_Size.f 12).bind fun bt186 => (if (t161.length : Int) = 2 then (if 0 < (t161.length : Int) then (if (eqS39 (rd_T39 t161 0) (⟨6, 0, 0, (List.replicate 32 0), 0⟩ : S39)) = true then (if 1 < (t161.length : Int) then (if (eqS39 (rd_T39 t161 1) (⟨0, 0, 0, (List.replicate 32 0), 255⟩ : S39)) = true then (if (t167.length : Int) = 1 then (if 0 < (t167.length : Int) then (if (eqS39 (rd_T39 t167 0) (⟨0, 0, 0, (List.replicate 32 0), 7⟩ : S39)) = true then (if t174 = 0 then (if bt180.2 = 1 then (if (strOfNums t173).toList = ([7, 0, 0, 1, 2, 12] : List UInt8) then (if bt184.1 = 41 then (if bt184.2 = true then (if bt186.2 = true then (none) else ((op_Right.f k ((rd_T39 t161 0).f0) ((rd_T39 t161 0).f1) ((rd_T39 t161 0).f2) ((rd_T39 t161 0).f3) ((rd_T39 t161 0).f4)).bind fun t192 => (if t192 = true then ((op_Right.f k ((rd_T39 t167 0).f0) ((rd_T39 t167 0).f1) ((rd_T39 t167 0).f2) ((rd_T39 t167 0).f3) ((rd_T39 t167 0).f4)).bind fun t194 => (if t194 = true then (none) else ((op_Same.f k t161 t161).bind fun t195 => (if t195 = true then ((op_Same.f k t161 t167).bind fun t196 => (some (!t196))) else (none))))) else (none)))) else (none)) else (none)) else (none)) else (none)) else (none)) else (none)) else (none)) else (none)) else (none)) else (none)) else (none)) else (none)) else (none))))) = some r := H
 have A3 := Aside0.mk A30
 clear A30
 obtain ⟨y177, hy177⟩ : ∃ y_ : List (S39), y_ = (([(⟨0, 0, 0, (List.replicate 32 0), 6⟩ : S39)] : List (S39))) := ⟨_, rfl⟩
 replace H : ((op_Encode.f k y177).bind fun bt180 => ((op_Size.f 1).bind fun bt184 => ((op_Size.f 12).bind fun bt186 => (if (t161.length : Int) = 2 then (if 0 < (t161.length : Int) then (if (eqS39 (rd_T39 t161 0) (⟨6, 0, 0, (List.replicate 32 0), 0⟩ : S39)) = true then (if 1 < (t161.length : Int) then (if (eqS39 (rd_T39 t161 1) (⟨0, 0, 0, (List.replicate 32 0), 255⟩ : S39)) = true then (if (t167.length : Int) = 1 then (if 0 < (t167.length : Int) then (if (eqS39 (rd_T39 t167 0) (⟨0, 0, 0, (List.replicate 32 0), 7⟩ : S39)) = true then (if t174 = 0 then (if bt180.2 = 1 then (if (strOfNums t173).toList = ([7, 0, 0, 1, 2, 12] : List UInt8) then (if bt184.1 = 41 then (if bt184.2 = true then (if bt186.2 = true then (none) else ((op_Right.f k ((rd_T39 t161 0).f0) ((rd_T39 t161 0).f1) ((rd_T39 t161 0).f2) ((rd_T39 t161 0).f3) ((rd_T39 t161 0).f4)).bind fun t192 => (if t192 = true then ((op_Right.f k ((rd_T39 t167 0).f0) ((rd_T39 t167 0).f1) ((rd_T39 t167 0).f2) ((rd_T39 t167 0).f3) ((rd_T39 t167 0).f4)).bind fun t194 => (if t194 = true then (none) else ((op_Same.f k t161 t161).bind fun t195 => (if t195 = true then ((op_Same.f k t161 t167).bind fun t196 => (some (!t196))) else (none))))) else (none)))) else (none)) else (none)) else (none)) else (none)) else (none)) else (none)) else (none)) else (none)) else (none)) else (none)) else (none)) else (none)) else (none))))) = some r := by first | (rw [hy177]; with_reducible exact H) | (have H2_ := (Option.bind_some _ _).symm.trans H; rw [hy177]; with_reducible exact H2_) | (have H2_ := (Option.bind_some _ _).symm.trans H; with_reducible exact H2_) | with_reducible exact H | (rw [hy177]; exact H) | exact H
 have Ny177 := Aside0.mk hy177
 clear hy177
 replace H := Option.bind_eq_some_iff.mp H
 obtain ⟨⟨t180, t181⟩, A40, H⟩ := H
 replace H : ((op_Size.f 1).bind fun bt184 => ((op_Size.f 12).bind fun bt186 => (if (t161.length : Int) = 2 then (if 0 < (t161.length : Int) then (if (eqS39 (rd_T39 t161 0) (⟨6, 0, 0, (List.replicate 32 0), 0⟩ : S39)) = true then (if 1 < (t161.length : Int) then (if (eqS39 (rd_T39 t161 1) (⟨0, 0, 0, (List.replicate 32 0), 255⟩ : S39)) = true then (if (t167.length : Int) = 1 then (if 0 < (t167.length : Int) then (if (eqS39 (rd_T39 t167 0) (⟨0, 0, 0, (List.replicate 32 0), 7⟩ : S39)) = true then (if t174 = 0 then (if t181 = 1 then (if (strOfNums t173).toList = ([7, 0, 0, 1, 2, 12] : List UInt8) then (if bt184.1 = 41 then (if bt184.2 = true then (if bt186.2 = true then (none) else ((op_Right.f k ((rd_T39 t161 0).f0) ((rd_T39 t161 0).f1) ((rd_T39 t161 0).f2) ((rd_T39 t161 0).f3) ((rd_T39 t161 0).f4)).bind fun t192 => (if t192 = true then ((op_Right.f k ((rd_T39 t167 0).f0) ((rd_T39 t167 0).f1) ((rd_T39 t167 0).f2) ((rd_T39 t167 0).f3) ((rd_T39 t167 0).f4)).bind fun t194 => (if t194 = true then (none) else ((op_Same.f k t161 t161).bind fun t195 => (if t195 = true then ((op_Same.f k t161 t167).bind fun t196 => (some (!t196))) else (none))))) else (none)))) else (none)) else (none)) else (none)) else (none)) else (none)) else (none)) else (none)) else (none)) else (none)) else (none)) else (none)) else (none)) else (none)))) = some r := H
 have A4 := Aside0.mk A40
 clear A40
 replace H := Option.bind_eq_some_iff.mp H
 obtain ⟨⟨t184, t185⟩, A50, H⟩ := H
 replace H : ((op_Size.f 12).bind fun bt186 => (if (t161.length : Int) = 2 then (if 0 < (t161.length : Int) then (if (eqS39 (rd_T39 t161 0) (⟨6, 0, 0, (List.replicate 32 0), 0⟩ : S39)) = true then (if 1 < (t161.length : Int) then (if (eqS39 (rd_T39 t161 1) (⟨0, 0, 0, (List.replicate 32 0), 255⟩ : S39)) = true then (if (t167.length : Int) = 1 then (if 0 < (t167.length : Int) then (if (eqS39 (rd_T39 t167 0) (⟨0, 0, 0, (List.replicate 32 0), 7⟩ : S39)) = true then (if t174 = 0 then (if t181 = 1 then (if (strOfNums t173).toList = ([7, 0, 0, 1, 2, 12] : List UInt8) then (if t184 = 41 then (if t185 = true then (if bt186.2 = true then (none) else ((op_Right.f k ((rd_T39 t161 0).f0) ((rd_T39 t161 0).f1) ((rd_T39 t161 0).f2) ((rd_T39 t161 0).f3) ((rd_T39 t161 0).f4)).bind fun t192 => (if t192 = true then ((op_Right.f k ((rd_T39 t167 0).f0) ((rd_T39 t167 0).f1) ((rd_T39 t167 0).f2) ((rd_T39 t167 0).f3) ((rd_T39 t167 0).f4)).bind fun t194 => (if t194 = true then (none) else ((op_Same.f k t161 t161).bind fun t195 => (if t195 = true then ((op_Same.f k t161 t167).bind fun t196 => (some (!t196))) else (none))))) else (none)))) else (none)) else (none)) else (none)) else (none)) else (none)) else (none)) else (none)) else (none)) else (none)) else (none)) else (none)) else (none)) else (none))) = some r := H
 have A5 := Aside0.mk A50
 clear A50
 replace H := Option.bind_eq_some_iff.mp H
 obtain ⟨⟨t186, t187⟩, A60, H⟩ := H
 replace H : (if (t161.length : Int) = 2 then (if 0 < (t161.length : Int) then (if (eqS39 (rd_T39 t161 0) (⟨6, 0, 0, (List.replicate 32 0), 0⟩ : S39)) = true then (if 1 < (t161.length : Int) then (if (eqS39 (rd_T39 t161 1) (⟨0, 0, 0, (List.replicate 32 0), 255⟩ : S39)) = true then (if (t167.length : Int) = 1 then (if 0 < (t167.length : Int) then (if (eqS39 (rd_T39 t167 0) (⟨0, 0, 0, (List.replicate 32 0), 7⟩ : S39)) = true then (if t174 = 0 then (if t181 = 1 then (if (strOfNums t173).toList = ([7, 0, 0, 1, 2, 12] : List UInt8) then (if t184 = 41 then (if t185 = true then (if t187 = true then (none) else ((op_Right.f k ((rd_T39 t161 0).f0) ((rd_T39 t161 0).f1) ((rd_T39 t161 0).f2) ((rd_T39 t161 0).f3) ((rd_T39 t161 0).f4)).bind fun t192 => (if t192 = true then ((op_Right.f k ((rd_T39 t167 0).f0) ((rd_T39 t167 0).f1) ((rd_T39 t167 0).f2) ((rd_T39 t167 0).f3) ((rd_T39 t167 0).f4)).bind fun t194 => (if t194 = true then (none) else ((op_Same.f k t161 t161).bind fun t195 => (if t195 = true then ((op_Same.f k t161 t167).bind fun t196 => (some (!t196))) else (none))))) else (none)))) else (none)) else (none)) else (none)) else (none)) else (none)) else (none)) else (none)) else (none)) else (none)) else (none)) else (none)) else (none)) else (none)) = some r := H
 have A6 := Aside0.mk A60
 clear A60
 by_cases c7 : (t161.length : Int) = 2
 ·rw [if_pos c7] at H
  have c7b0 : ((t161.length : Int) == 2) = true := beq_iff_eq.mpr c7
  have c7b1 : ((t161.length : Int) != 2) = false := bne_eq_false_iff_eq.mpr c7
  clear c7
  by_cases c8 : 0 < (t161.length : Int)
  ·rw [if_pos c8] at H
   have c8b0 : decide (0 < (t161.length : Int)) = true := decide_eq_true c8
   have c8b1 : decide (0 < t161.length) = true := decide_eq_true (by omega)
   clear c8
   by_cases c9 : (eqS39 (rd_T39 t161 0) (⟨6, 0, 0, (List.replicate 32 0), 0⟩ : S39)) = true
   ·rw [if_pos c9] at H
    have c9b0 : (eqS39 (rd_T39 t161 0) (⟨6, 0, 0, (List.replicate 32 0), 0⟩ : S39)) = true := c9
    clear c9
    by_cases c10 : 1 < (t161.length : Int)
    ·rw [if_pos c10] at H
     have c10b0 : decide (1 < (t161.length : Int)) = true := decide_eq_true c10
     have c10b1 : decide (1 < t161.length) = true := decide_eq_true (by omega)
     clear c10
     by_cases c11 : (eqS39 (rd_T39 t161 1) (⟨0, 0, 0, (List.replicate 32 0), 255⟩ : S39)) = true
     ·rw [if_pos c11] at H
      have c11b0 : (eqS39 (rd_T39 t161 1) (⟨0, 0, 0, (List.replicate 32 0), 255⟩ : S39)) = true := c11
      clear c11
      by_cases c12 : (t167.length : Int) = 1
      ·rw [if_pos c12] at H
       have c12b0 : ((t167.length : Int) == 1) = true := beq_iff_eq.mpr c12
       have c12b1 : ((t167.length : Int) != 1) = false := bne_eq_false_iff_eq.mpr c12
       clear c12
       by_cases c13 : 0 < (t167.length : Int)
       ·rw [if_pos c13] at H
        have c13b0 : decide (0 < (t167.length : Int)) = true := decide_eq_true c13
        have c13b1 : decide (0 < t167.length) = true := decide_eq_true (by omega)
        clear c13
        by_cases c14 : (eqS39 (rd_T39 t167 0) (⟨0, 0, 0, (List.replicate 32 0), 7⟩ : S39)) = true
        ·rw [if_pos c14] at H
         have c14b0 : (eqS39 (rd_T39 t167 0) (⟨0, 0, 0, (List.replicate 32 0), 7⟩ : S39)) = true := c14
         clear c14
         by_cases c15 : t174 = 0
         ·rw [if_pos c15] at H
          have c15b0 : (t174 == 0) = true := beq_iff_eq.mpr c15
          have c15b1 : (t174 != 0) = false := bne_eq_false_iff_eq.mpr c15
          clear c15
          by_cases c16 : t181 = 1
          ·rw [if_pos c16] at H
           have c16b0 : (t181 == 1) = true := beq_iff_eq.mpr c16
           have c16b1 : (t181 != 1) = false := bne_eq_false_iff_eq.mpr c16
           clear c16
           by_cases c17 : (strOfNums t173).toList = ([7, 0, 0, 1, 2, 12] : List UInt8)
           ·rw [if_pos c17] at H
            have c17b0 : ((strOfNums t173).toList == ([7, 0, 0, 1, 2, 12] : List UInt8)) = true := beq_iff_eq.mpr c17
            have c17b1 : ((strOfNums t173).toList != ([7, 0, 0, 1, 2, 12] : List UInt8)) = false := bne_eq_false_iff_eq.mpr c17
            clear c17
            by_cases c18 : t184 = 41
            ·rw [if_pos c18] at H
             have c18b0 : (t184 == 41) = true := beq_iff_eq.mpr c18
             have c18b1 : (t184 != 41) = false := bne_eq_false_iff_eq.mpr c18
             clear c18
             by_cases c19 : t185 = true
             ·subst c19
              have H1 : (if t187 = true then (none) else ((op_Right.f k ((rd_T39 t161 0).f0) ((rd_T39 t161 0).f1) ((rd_T39 t161 0).f2) ((rd_T39 t161 0).f3) ((rd_T39 t161 0).f4)).bind fun t192 => (if t192 = true then ((op_Right.f k ((rd_T39 t167 0).f0) ((rd_T39 t167 0).f1) ((rd_T39 t167 0).f2) ((rd_T39 t167 0).f3) ((rd_T39 t167 0).f4)).bind fun t194 => (if t194 = true then (none) else ((op_Same.f k t161 t161).bind fun t195 => (if t195 = true then ((op_Same.f k t161 t167).bind fun t196 => (some (!t196))) else (none))))) else (none)))) = some r := by rw [if_pos rfl] at H; exact H
              clear H
              have H := H1
              clear H1
              by_cases c20 : t187 = true
              ·subst c20
               have H1 : (none) = some r := by rw [if_pos rfl] at H; exact H
               clear H
               have H := H1
               clear H1
               exact absurd H (by simp)
              ·replace c20 := Bool.eq_false_iff.mpr c20
               subst c20
               have H1 : ((op_Right.f k ((rd_T39 t161 0).f0) ((rd_T39 t161 0).f1) ((rd_T39 t161 0).f2) ((rd_T39 t161 0).f3) ((rd_T39 t161 0).f4)).bind fun t192 => (if t192 = true then ((op_Right.f k ((rd_T39 t167 0).f0) ((rd_T39 t167 0).f1) ((rd_T39 t167 0).f2) ((rd_T39 t167 0).f3) ((rd_T39 t167 0).f4)).bind fun t194 => (if t194 = true then (none) else ((op_Same.f k t161 t161).bind fun t195 => (if t195 = true then ((op_Same.f k t161 t167).bind fun t196 => (some (!t196))) else (none))))) else (none))) = some r := by rw [if_neg (show ¬ (false = true) by decide)] at H; exact H
               clear H
               have H := H1
               clear H1
               replace H := Option.bind_eq_some_iff.mp H
               obtain ⟨t192, A210, H⟩ := H
               replace H : (if t192 = true then ((op_Right.f k ((rd_T39 t167 0).f0) ((rd_T39 t167 0).f1) ((rd_T39 t167 0).f2) ((rd_T39 t167 0).f3) ((rd_T39 t167 0).f4)).bind fun t194 => (if t194 = true then (none) else ((op_Same.f k t161 t161).bind fun t195 => (if t195 = true then ((op_Same.f k t161 t167).bind fun t196 => (some (!t196))) else (none))))) else (none)) = some r := H
               have A21 := Aside0.mk A210
               clear A210
               by_cases c22 : t192 = true
               ·subst c22
                have H1 : ((op_Right.f k ((rd_T39 t167 0).f0) ((rd_T39 t167 0).f1) ((rd_T39 t167 0).f2) ((rd_T39 t167 0).f3) ((rd_T39 t167 0).f4)).bind fun t194 => (if t194 = true then (none) else ((op_Same.f k t161 t161).bind fun t195 => (if t195 = true then ((op_Same.f k t161 t167).bind fun t196 => (some (!t196))) else (none))))) = some r := by rw [if_pos rfl] at H; exact H
                clear H
                have H := H1
                clear H1
                replace H := Option.bind_eq_some_iff.mp H
                obtain ⟨t194, A230, H⟩ := H
                replace H : (if t194 = true then (none) else ((op_Same.f k t161 t161).bind fun t195 => (if t195 = true then ((op_Same.f k t161 t167).bind fun t196 => (some (!t196))) else (none)))) = some r := H
                have A23 := Aside0.mk A230
                clear A230
                by_cases c24 : t194 = true
                ·subst c24
                 have H1 : (none) = some r := by rw [if_pos rfl] at H; exact H
                 clear H
                 have H := H1
                 clear H1
                 exact absurd H (by simp)
                ·replace c24 := Bool.eq_false_iff.mpr c24
                 subst c24
                 have H1 : ((op_Same.f k t161 t161).bind fun t195 => (if t195 = true then ((op_Same.f k t161 t167).bind fun t196 => (some (!t196))) else (none))) = some r := by rw [if_neg (show ¬ (false = true) by decide)] at H; exact H
                 clear H
                 have H := H1
                 clear H1
                 replace H := Option.bind_eq_some_iff.mp H
                 obtain ⟨t195, A250, H⟩ := H
                 replace H : (if t195 = true then ((op_Same.f k t161 t167).bind fun t196 => (some (!t196))) else (none)) = some r := H
                 have A25 := Aside0.mk A250
                 clear A250
                 by_cases c26 : t195 = true
                 ·subst c26
                  have H1 : ((op_Same.f k t161 t167).bind fun t196 => (some (!t196))) = some r := by rw [if_pos rfl] at H; exact H
                  clear H
                  have H := H1
                  clear H1
                  replace H := Option.bind_eq_some_iff.mp H
                  obtain ⟨t196, A270, H⟩ := H
                  replace H : (some (!t196)) = some r := H
                  have A27 := Aside0.mk A270
                  clear A270
                  obtain rfl := Option.some.inj H
                  go_enter Try.func8, Try.ntmps8
                  try simp only [List.append]
                  go_wp2_with (first | ((with_reducible refine gate_dst (N := 11) rfl ?_); (try (refine gate_guard (by rfl) ?_; dsimp only)); refine Kd.R_lit (Kd.int .u8) _ 5 ?hg (N := 11) ?hd (xs := ([6, 255] : List Int)) (inner := [.int .u8 6, .int .u8 255]) (ok := fun _ => True) (okp := fun _ => True) ?hr ?hp (fun _ hk => hk) trivial (Below.refl _ _) (Nat.le_refl _) (by simp) ?_; (case hd => rfl); (case hg => rfl); (case hr => first | (go_simp; done) | (go_simp; rfl)); (case hp => exact (Reps.one (show Kd.M (Kd.int .u8) _ _ _ 6 [.int .u8 6] from rfl) (Reps.one (show Kd.M (Kd.int .u8) _ _ _ 255 [.int .u8 255] from rfl) (Reps.none _ _)))); intro v159 w28 ho29 hb hg_ hnew_; clear hg_ hnew_; (first | rw [← Ny158.out] at ho29 | (simp only [Int.reduceToNat] at ho29; rw [← Ny158.out] at ho29)); have n0_ := Aside0.mk (Kd.R_lower ho29 (below_size (by repeat (first | (with_reducible first | exact HB.out | apply below_alloc | apply pw_below_drewN | apply below_drew1) | exact HB.out)))); have n1_ := Aside0.mk (below_step (by repeat (first | (with_reducible first | exact HB.out | apply below_alloc | apply pw_below_drewN | apply below_drew1) | exact HB.out)) hb); clear HB; have HO160 := n0_; have HB := n1_; clear n0_ n1_; clear hb ho29; obtain ⟨Ao30, co30, eo30⟩ := Kd.R_slice HO160.out; subst eo30) | ((with_reducible refine gate_callee (f := 10) rfl ?_); refine goesL_ (some 12) rfl rfl Try.func10 (by kernel_rfl) rfl #[.slice Ao30 y158.length co30] rfl (by (try simp only [List.map_toArray, List.map_cons, List.map_nil]); first | done | rfl | (simp only [List.length_drop, List.length_take]; rfl)) ?_; (with_reducible refine (op_Decode.calls k (fun k_ => some k_ = (.slice Ao30 y158.length co30 : Value).ownBlock) _ _ y158 t161 _ ?side1 A1.out).mono ?_); (case side1 => exact Kd.R_V (Kd.R_tight rfl (HO160.out))); rintro e w31 ⟨v162, rfl, ho0, hb⟩; refine ⟨_, rfl, ?_⟩; have n0_ := Aside0.mk (Kd.R_below (by (with_reducible repeat (first | apply Kd.R_alloc | apply Kd.R_drewN | apply Kd.R_drew)); exact HO160.out) hb); have n1_ := Aside0.mk (Kd.R_lower (Kd.R_mono (ok' := fun k_ => True) ho0 (fun _ hk_ => trivial)) (below_size (by repeat (first | (with_reducible first | exact HB.out | apply below_alloc | apply pw_below_drewN | apply below_drew1) | exact HB.out)))); have n2_ := Aside0.mk (below_step (by repeat (first | (with_reducible first | exact HB.out | apply below_alloc | apply pw_below_drewN | apply below_drew1) | exact HB.out)) hb); clear HO160; clear HB; have HO160 := n0_; have HO163 := n1_; have HB := n2_; clear n0_ n1_ n2_; (try clear hb); (try clear hb2); (try clear hk); (try clear hi); (try clear ho0)) | ((with_reducible refine gate_dst (N := 13) rfl ?_); (try (refine gate_guard (by rfl) ?_; dsimp only)); refine Kd.R_lit (Kd.int .u8) _ 5 ?hg (N := 13) ?hd (xs := ([7, 0, 0] : List Int)) (inner := [.int .u8 7, .int .u8 0, .int .u8 0]) (ok := fun _ => True) (okp := fun _ => True) ?hr ?hp (fun _ hk => hk) trivial (Below.refl _ _) (Nat.le_refl _) (by simp) ?_; (case hd => rfl); (case hg => rfl); (case hr => first | (go_simp; done) | (go_simp; rfl)); (case hp => exact (Reps.one (show Kd.M (Kd.int .u8) _ _ _ 7 [.int .u8 7] from rfl) (Reps.one (show Kd.M (Kd.int .u8) _ _ _ 0 [.int .u8 0] from rfl) (Reps.one (show Kd.M (Kd.int .u8) _ _ _ 0 [.int .u8 0] from rfl) (Reps.none _ _))))); intro v165 w32 ho33 hb hg_ hnew_; clear hg_ hnew_; (first | rw [← Ny164.out] at ho33 | (simp only [Int.reduceToNat] at ho33; rw [← Ny164.out] at ho33)); have n0_ := Aside0.mk (Kd.R_elder' (by (with_reducible repeat (first | apply Kd.R_alloc | apply Kd.R_drewN | apply Kd.R_drew)); exact HO160.out) (Kd.R_base ho33) hb); have n1_ := Aside0.mk (Kd.R_below (by (with_reducible repeat (first | apply Kd.R_alloc | apply Kd.R_drewN | apply Kd.R_drew)); exact HO163.out) hb); have n2_ := Aside0.mk (Kd.R_lower (Kd.R_new' ho33 (Kd.R_lt (by (with_reducible repeat (first | apply Kd.R_alloc | apply Kd.R_drewN | apply Kd.R_drew)); exact HO160.out))) (below_size (by repeat (first | (with_reducible first | exact HB.out | apply below_alloc | apply pw_below_drewN | apply below_drew1) | exact HB.out)))); have n3_ := Aside0.mk (below_step (by repeat (first | (with_reducible first | exact HB.out | apply below_alloc | apply pw_below_drewN | apply below_drew1) | exact HB.out)) hb); clear HO160; clear HO163; clear HB; have HO160 := n0_; have HO163 := n1_; have HO166 := n2_; have HB := n3_; clear n0_ n1_ n2_ n3_; clear hb ho33; obtain ⟨Ao34, co34, eo34⟩ := Kd.R_slice HO166.out; subst eo34) | ((with_reducible refine gate_callee (f := 10) rfl ?_); refine goesL_ (some 14) rfl rfl Try.func10 (by kernel_rfl) rfl #[.slice Ao34 y164.length co34] rfl (by (try simp only [List.map_toArray, List.map_cons, List.map_nil]); first | done | rfl | (simp only [List.length_drop, List.length_take]; rfl)) ?_; (with_reducible refine (op_Decode.calls k (fun k_ => some k_ = (.slice Ao34 y164.length co34 : Value).ownBlock) _ _ y164 t167 _ ?side1 A2.out).mono ?_); (case side1 => exact Kd.R_V (Kd.R_tight rfl (Kd.R_apart' (HO166.out) (Kd.R_typed HO163.out) (by decide)))); rintro e w35 ⟨v168, rfl, ho0, hb⟩; refine ⟨_, rfl, ?_⟩; have n0_ := Aside0.mk (Kd.R_below (by (with_reducible repeat (first | apply Kd.R_alloc | apply Kd.R_drewN | apply Kd.R_drew)); exact HO160.out) hb); have n1_ := Aside0.mk (Kd.R_elder' (by (with_reducible repeat (first | apply Kd.R_alloc | apply Kd.R_drewN | apply Kd.R_drew)); exact HO163.out) (Kd.R_base ho0) hb); have n2_ := Aside0.mk (Kd.R_below (by (with_reducible repeat (first | apply Kd.R_alloc | apply Kd.R_drewN | apply Kd.R_drew)); exact HO166.out) hb); have n3_ := Aside0.mk (Kd.R_lower (Kd.R_new' (Kd.R_mono (ok' := fun k_ => True) ho0 (fun _ hk_ => trivial)) (Kd.R_lt (by (with_reducible repeat (first | apply Kd.R_alloc | apply Kd.R_drewN | apply Kd.R_drew)); exact HO163.out))) (below_size (by repeat (first | (with_reducible first | exact HB.out | apply below_alloc | apply pw_below_drewN | apply below_drew1) | exact HB.out)))); have n4_ := Aside0.mk (below_step (by repeat (first | (with_reducible first | exact HB.out | apply below_alloc | apply pw_below_drewN | apply below_drew1) | exact HB.out)) hb); clear HO160; clear HO163; clear HO166; clear HB; have HO160 := n0_; have HO163 := n1_; have HO166 := n2_; have HO169 := n3_; have HB := n4_; clear n0_ n1_ n2_ n3_ n4_; (try clear hb); (try clear hb2); (try clear hk); (try clear hi); (try clear ho0)) | ((with_reducible refine gate_dst (N := 16) rfl ?_); (try (refine gate_guard (by rfl) ?_; dsimp only)); refine Ar.gbuild_event rfl (T := 39) rfl (D := (#[.int .i64 7, .int .i64 0, .int .u64 0] ++ ((Ar.cells .u8 32 (List.replicate 32 0)) ++ #[.int .i64 258]))) (by simp only [List.map_toArray, List.map_cons, List.map_nil]; exact fatBuild39_0_4 _ 7 258) ?_) | ((with_reducible refine gate_dst (N := 17) rfl ?_); (try (refine gate_guard (by rfl) ?_; dsimp only)); refine Ar.gbuild_event rfl (T := 39) rfl (D := (#[.int .i64 0, .int .i64 0, .int .u64 0] ++ ((Ar.cells .u8 32 (List.replicate 32 0)) ++ #[.int .i64 12]))) (by simp only [List.map_toArray, List.map_cons, List.map_nil]; exact fatBuild39_4 _ 12) ?_) | ((with_reducible refine gate_dst (N := 18) rfl ?_); (try (refine gate_guard (by rfl) ?_; dsimp only)); refine Kd.R_lit k39 _ 39 ?hg (N := 18) ?hd (xs := ([(⟨7, 0, 0, (List.replicate 32 0), 258⟩ : S39), (⟨0, 0, 0, (List.replicate 32 0), 12⟩ : S39)] : List (S39))) (inner := ((#[.int .i64 7, .int .i64 0, .int .u64 0] ++ ((Ar.cells .u8 32 (List.replicate 32 0)) ++ #[.int .i64 258])) ++ (#[.int .i64 0, .int .i64 0, .int .u64 0] ++ ((Ar.cells .u8 32 (List.replicate 32 0)) ++ #[.int .i64 12])) : Array Value).toList) (ok := fun _ => True) (okp := fun _ => True) ?hr ?hp (fun _ hk => hk) trivial (Below.refl _ _) (Nat.le_refl _) (by simp) ?_; (case hd => rfl); (case hg => rfl); (case hr => refine (Ar.glit2_run rfl (T := 25) (E := 39) (D := (#[.int .i64 7, .int .i64 0, .int .u64 0] ++ ((Ar.cells .u8 32 (List.replicate 32 0)) ++ #[.int .i64 258]))) (D' := (#[.int .i64 0, .int .i64 0, .int .u64 0] ++ ((Ar.cells .u8 32 (List.replicate 32 0)) ++ #[.int .i64 12]))) Try.underlying25 info39 rfl (by decide) (by decide) rfl (by simp [Ar.cells_size]) rfl (by simp [Ar.cells_size])).trans ?_; rfl); (case hp => exact (Reps.front (k39_mkM _ _ _ (⟨7, 0, 0, (List.replicate 32 0), 258⟩ : S39)) (by first | (simp [Ar.cells_size]; done) | (simp [Ar.cells_size]; rfl)) (Reps.front (k39_mkM _ _ _ (⟨0, 0, 0, (List.replicate 32 0), 12⟩ : S39)) (by first | (simp [Ar.cells_size]; done) | (simp [Ar.cells_size]; rfl)) (Reps.none _ _) (List.append_nil _)) (Array.toList_append).symm)); intro v171 w36 ho37 hb hg_ hnew_; clear hg_ hnew_; (first | rw [← Ny170.out] at ho37 | (simp only [Int.reduceToNat] at ho37; rw [← Ny170.out] at ho37)); have n0_ := Aside0.mk (Kd.R_below (by (with_reducible repeat (first | apply Kd.R_alloc | apply Kd.R_drewN | apply Kd.R_drew)); exact HO160.out) hb); have n1_ := Aside0.mk (Kd.R_elder' (by (with_reducible repeat (first | apply Kd.R_alloc | apply Kd.R_drewN | apply Kd.R_drew)); exact HO163.out) (Kd.R_base ho37) hb); have n2_ := Aside0.mk (Kd.R_below (by (with_reducible repeat (first | apply Kd.R_alloc | apply Kd.R_drewN | apply Kd.R_drew)); exact HO166.out) hb); have n3_ := Aside0.mk (Kd.R_elder' (by (with_reducible repeat (first | apply Kd.R_alloc | apply Kd.R_drewN | apply Kd.R_drew)); exact HO169.out) (Kd.R_base ho37) hb); have n4_ := Aside0.mk (Kd.R_lower (Kd.R_new' (Kd.R_new' ho37 (Kd.R_lt (by (with_reducible repeat (first | apply Kd.R_alloc | apply Kd.R_drewN | apply Kd.R_drew)); exact HO163.out))) (Kd.R_lt (by (with_reducible repeat (first | apply Kd.R_alloc | apply Kd.R_drewN | apply Kd.R_drew)); exact HO169.out))) (below_size (by repeat (first | (with_reducible first | exact HB.out | apply below_alloc | apply pw_below_drewN | apply below_drew1) | exact HB.out)))); have n5_ := Aside0.mk (below_step (by repeat (first | (with_reducible first | exact HB.out | apply below_alloc | apply pw_below_drewN | apply below_drew1) | exact HB.out)) hb); clear HO160; clear HO163; clear HO166; clear HO169; clear HB; have HO160 := n0_; have HO163 := n1_; have HO166 := n2_; have HO169 := n3_; have HO172 := n4_; have HB := n5_; clear n0_ n1_ n2_ n3_ n4_ n5_; clear hb ho37; obtain ⟨Ao38, co38, eo38⟩ := Kd.R_slice HO172.out; subst eo38) | ((with_reducible refine gate_callee (f := 12) rfl ?_); refine goesL_ (some 19) rfl rfl Try.func12 (by kernel_rfl) rfl #[.slice Ao38 y170.length co38] rfl (by (try simp only [List.map_toArray, List.map_cons, List.map_nil]); first | done | rfl | (simp only [List.length_drop, List.length_take]; rfl)) ?_; (with_reducible refine (op_Encode.calls k _ _ y170 t173 t174 _ ?side1 ?side2 A3.out).mono ?_); (case side1 => repeat (first | exact (Kd.R_reads' HO172.out).2.2 | (with_reducible refine Kd.C_alloc ?_ _) | (with_reducible refine Kd.C_drewN ?_ _) | (with_reducible refine Kd.C_drew ?_))); (case side2 => exact (Kd.R_reads' HO172.out).2.1); rintro e w39 ⟨v175, rfl, ho0, hb⟩; refine ⟨_, rfl, ?_⟩; have n0_ := Aside0.mk (Kd.R_elder' (by (with_reducible repeat (first | apply Kd.R_alloc | apply Kd.R_drewN | apply Kd.R_drew)); exact HO160.out) (Kd.R_base ho0) hb); have n1_ := Aside0.mk (Kd.R_below (by (with_reducible repeat (first | apply Kd.R_alloc | apply Kd.R_drewN | apply Kd.R_drew)); exact HO163.out) hb); have n2_ := Aside0.mk (Kd.R_elder' (by (with_reducible repeat (first | apply Kd.R_alloc | apply Kd.R_drewN | apply Kd.R_drew)); exact HO166.out) (Kd.R_base ho0) hb); have n3_ := Aside0.mk (Kd.R_below (by (with_reducible repeat (first | apply Kd.R_alloc | apply Kd.R_drewN | apply Kd.R_drew)); exact HO169.out) hb); have n4_ := Aside0.mk (Kd.R_below (by (with_reducible repeat (first | apply Kd.R_alloc | apply Kd.R_drewN | apply Kd.R_drew)); exact HO172.out) hb); have n5_ := Aside0.mk (Kd.R_lower (Kd.R_new' (Kd.R_new' ho0 (Kd.R_lt (by (with_reducible repeat (first | apply Kd.R_alloc | apply Kd.R_drewN | apply Kd.R_drew)); exact HO160.out))) (Kd.R_lt (by (with_reducible repeat (first | apply Kd.R_alloc | apply Kd.R_drewN | apply Kd.R_drew)); exact HO166.out))) (below_size (by repeat (first | (with_reducible first | exact HB.out | apply below_alloc | apply pw_below_drewN | apply below_drew1) | exact HB.out)))); have n6_ := Aside0.mk (below_step (by repeat (first | (with_reducible first | exact HB.out | apply below_alloc | apply pw_below_drewN | apply below_drew1) | exact HB.out)) hb); clear HO160; clear HO163; clear HO166; clear HO169; clear HO172; clear HB; have HO160 := n0_; have HO163 := n1_; have HO166 := n2_; have HO169 := n3_; have HO172 := n4_; have HO176 := n5_; have HB := n6_; clear n0_ n1_ n2_ n3_ n4_ n5_ n6_; (try clear hb); (try clear hb2); (try clear hk); (try clear hi); (try clear ho0)) | ((with_reducible refine gate_dst (N := 23) rfl ?_); (try (refine gate_guard (by rfl) ?_; dsimp only)); refine Ar.gbuild_event rfl (T := 39) rfl (D := (#[.int .i64 0, .int .i64 0, .int .u64 0] ++ ((Ar.cells .u8 32 (List.replicate 32 0)) ++ #[.int .i64 6]))) (by simp only [List.map_toArray, List.map_cons, List.map_nil]; exact fatBuild39_4 _ 6) ?_) | ((with_reducible refine gate_dst (N := 24) rfl ?_); (try (refine gate_guard (by rfl) ?_; dsimp only)); refine Kd.R_lit k39 _ 39 ?hg (N := 24) ?hd (xs := ([(⟨0, 0, 0, (List.replicate 32 0), 6⟩ : S39)] : List (S39))) (inner := ((#[.int .i64 0, .int .i64 0, .int .u64 0] ++ ((Ar.cells .u8 32 (List.replicate 32 0)) ++ #[.int .i64 6])) : Array Value).toList) (ok := fun _ => True) (okp := fun _ => True) ?hr ?hp (fun _ hk => hk) trivial (Below.refl _ _) (Nat.le_refl _) (by simp) ?_; (case hd => rfl); (case hg => rfl); (case hr => refine (Ar.glit_run rfl (T := 25) (E := 39) (D := (#[.int .i64 0, .int .i64 0, .int .u64 0] ++ ((Ar.cells .u8 32 (List.replicate 32 0)) ++ #[.int .i64 6]))) Try.underlying25 info39 rfl (by decide) (by decide) rfl (by simp [Ar.cells_size])).trans ?_; rfl); (case hp => exact (Reps.front (k39_mkM _ _ _ (⟨0, 0, 0, (List.replicate 32 0), 6⟩ : S39)) (by first | (simp [Ar.cells_size]; done) | (simp [Ar.cells_size]; rfl)) (Reps.none _ _) (List.append_nil _))); intro v178 w40 ho41 hb hg_ hnew_; clear hg_ hnew_; (first | rw [← Ny177.out] at ho41 | (simp only [Int.reduceToNat] at ho41; rw [← Ny177.out] at ho41)); have n0_ := Aside0.mk (Kd.R_below (by (with_reducible repeat (first | apply Kd.R_alloc | apply Kd.R_drewN | apply Kd.R_drew)); exact HO160.out) hb); have n1_ := Aside0.mk (Kd.R_elder' (by (with_reducible repeat (first | apply Kd.R_alloc | apply Kd.R_drewN | apply Kd.R_drew)); exact HO163.out) (Kd.R_base ho41) hb); have n2_ := Aside0.mk (Kd.R_below (by (with_reducible repeat (first | apply Kd.R_alloc | apply Kd.R_drewN | apply Kd.R_drew)); exact HO166.out) hb); have n3_ := Aside0.mk (Kd.R_elder' (by (with_reducible repeat (first | apply Kd.R_alloc | apply Kd.R_drewN | apply Kd.R_drew)); exact HO169.out) (Kd.R_base ho41) hb); have n4_ := Aside0.mk (Kd.R_elder' (by (with_reducible repeat (first | apply Kd.R_alloc | apply Kd.R_drewN | apply Kd.R_drew)); exact HO172.out) (Kd.R_base ho41) hb); have n5_ := Aside0.mk (Kd.R_below (by (with_reducible repeat (first | apply Kd.R_alloc | apply Kd.R_drewN | apply Kd.R_drew)); exact HO176.out) hb); have n6_ := Aside0.mk (Kd.R_lower (Kd.R_new' (Kd.R_new' (Kd.R_new' ho41 (Kd.R_lt (by (with_reducible repeat (first | apply Kd.R_alloc | apply Kd.R_drewN | apply Kd.R_drew)); exact HO163.out))) (Kd.R_lt (by (with_reducible repeat (first | apply Kd.R_alloc | apply Kd.R_drewN | apply Kd.R_drew)); exact HO169.out))) (Kd.R_lt (by (with_reducible repeat (first | apply Kd.R_alloc | apply Kd.R_drewN | apply Kd.R_drew)); exact HO172.out))) (below_size (by repeat (first | (with_reducible first | exact HB.out | apply below_alloc | apply pw_below_drewN | apply below_drew1) | exact HB.out)))); have n7_ := Aside0.mk (below_step (by repeat (first | (with_reducible first | exact HB.out | apply below_alloc | apply pw_below_drewN | apply below_drew1) | exact HB.out)) hb); clear HO160; clear HO163; clear HO166; clear HO169; clear HO172; clear HO176; clear HB; have HO160 := n0_; have HO163 := n1_; have HO166 := n2_; have HO169 := n3_; have HO172 := n4_; have HO176 := n5_; have HO179 := n6_; have HB := n7_; clear n0_ n1_ n2_ n3_ n4_ n5_ n6_ n7_; clear hb ho41; obtain ⟨Ao42, co42, eo42⟩ := Kd.R_slice HO179.out; subst eo42) | ((with_reducible refine gate_callee (f := 12) rfl ?_); refine goesL_ (some 25) rfl rfl Try.func12 (by kernel_rfl) rfl #[.slice Ao42 y177.length co42] rfl (by (try simp only [List.map_toArray, List.map_cons, List.map_nil]); first | done | rfl | (simp only [List.length_drop, List.length_take]; rfl)) ?_; (with_reducible refine (op_Encode.calls k _ _ y177 t180 t181 _ ?side1 ?side2 A4.out).mono ?_); (case side1 => repeat (first | exact (Kd.R_reads' HO179.out).2.2 | (with_reducible refine Kd.C_alloc ?_ _) | (with_reducible refine Kd.C_drewN ?_ _) | (with_reducible refine Kd.C_drew ?_))); (case side2 => exact (Kd.R_reads' HO179.out).2.1); rintro e w43 ⟨v182, rfl, ho0, hb⟩; refine ⟨_, rfl, ?_⟩; have n0_ := Aside0.mk (Kd.R_elder' (by (with_reducible repeat (first | apply Kd.R_alloc | apply Kd.R_drewN | apply Kd.R_drew)); exact HO160.out) (Kd.R_base ho0) hb); have n1_ := Aside0.mk (Kd.R_below (by (with_reducible repeat (first | apply Kd.R_alloc | apply Kd.R_drewN | apply Kd.R_drew)); exact HO163.out) hb); have n2_ := Aside0.mk (Kd.R_elder' (by (with_reducible repeat (first | apply Kd.R_alloc | apply Kd.R_drewN | apply Kd.R_drew)); exact HO166.out) (Kd.R_base ho0) hb); have n3_ := Aside0.mk (Kd.R_below (by (with_reducible repeat (first | apply Kd.R_alloc | apply Kd.R_drewN | apply Kd.R_drew)); exact HO169.out) hb); have n4_ := Aside0.mk (Kd.R_below (by (with_reducible repeat (first | apply Kd.R_alloc | apply Kd.R_drewN | apply Kd.R_drew)); exact HO172.out) hb); have n5_ := Aside0.mk (Kd.R_elder' (by (with_reducible repeat (first | apply Kd.R_alloc | apply Kd.R_drewN | apply Kd.R_drew)); exact HO176.out) (Kd.R_base ho0) hb); have n6_ := Aside0.mk (Kd.R_below (by (with_reducible repeat (first | apply Kd.R_alloc | apply Kd.R_drewN | apply Kd.R_drew)); exact HO179.out) hb); have n7_ := Aside0.mk (Kd.R_lower (Kd.R_new' (Kd.R_new' (Kd.R_new' ho0 (Kd.R_lt (by (with_reducible repeat (first | apply Kd.R_alloc | apply Kd.R_drewN | apply Kd.R_drew)); exact HO160.out))) (Kd.R_lt (by (with_reducible repeat (first | apply Kd.R_alloc | apply Kd.R_drewN | apply Kd.R_drew)); exact HO166.out))) (Kd.R_lt (by (with_reducible repeat (first | apply Kd.R_alloc | apply Kd.R_drewN | apply Kd.R_drew)); exact HO176.out))) (below_size (by repeat (first | (with_reducible first | exact HB.out | apply below_alloc | apply pw_below_drewN | apply below_drew1) | exact HB.out)))); have n8_ := Aside0.mk (below_step (by repeat (first | (with_reducible first | exact HB.out | apply below_alloc | apply pw_below_drewN | apply below_drew1) | exact HB.out)) hb); clear HO160; clear HO163; clear HO166; clear HO169; clear HO172; clear HO176; clear HO179; clear HB; have HO160 := n0_; have HO163 := n1_; have HO166 := n2_; have HO169 := n3_; have HO172 := n4_; have HO176 := n5_; have HO179 := n6_; have HO183 := n7_; have HB := n8_; clear n0_ n1_ n2_ n3_ n4_ n5_ n6_ n7_ n8_; (try clear hb); (try clear hb2); (try clear hk); (try clear hi); (try clear ho0)) | ((with_reducible refine gate_callee (f := 14) rfl ?_); refine goesL_ (some 29) rfl rfl Try.func14 (by kernel_rfl) rfl #[.int .i64 1] rfl (by (try simp only [List.map_toArray, List.map_cons, List.map_nil]); first | done | rfl | (simp only [List.length_drop, List.length_take]; rfl)) ?_; (with_reducible refine (op_Size.calls 1 t184 true _ A5.out).mono ?_); rintro e w44 ⟨rfl, hb⟩; refine ⟨_, rfl, ?_⟩; have n0_ := Aside0.mk (Kd.R_below (by (with_reducible repeat (first | apply Kd.R_alloc | apply Kd.R_drewN | apply Kd.R_drew)); exact HO160.out) hb); have n1_ := Aside0.mk (Kd.R_below (by (with_reducible repeat (first | apply Kd.R_alloc | apply Kd.R_drewN | apply Kd.R_drew)); exact HO163.out) hb); have n2_ := Aside0.mk (Kd.R_below (by (with_reducible repeat (first | apply Kd.R_alloc | apply Kd.R_drewN | apply Kd.R_drew)); exact HO166.out) hb); have n3_ := Aside0.mk (Kd.R_below (by (with_reducible repeat (first | apply Kd.R_alloc | apply Kd.R_drewN | apply Kd.R_drew)); exact HO169.out) hb); have n4_ := Aside0.mk (Kd.R_below (by (with_reducible repeat (first | apply Kd.R_alloc | apply Kd.R_drewN | apply Kd.R_drew)); exact HO172.out) hb); have n5_ := Aside0.mk (Kd.R_below (by (with_reducible repeat (first | apply Kd.R_alloc | apply Kd.R_drewN | apply Kd.R_drew)); exact HO176.out) hb); have n6_ := Aside0.mk (Kd.R_below (by (with_reducible repeat (first | apply Kd.R_alloc | apply Kd.R_drewN | apply Kd.R_drew)); exact HO179.out) hb); have n7_ := Aside0.mk (Kd.R_below (by (with_reducible repeat (first | apply Kd.R_alloc | apply Kd.R_drewN | apply Kd.R_drew)); exact HO183.out) hb); have n8_ := Aside0.mk (below_step (by repeat (first | (with_reducible first | exact HB.out | apply below_alloc | apply pw_below_drewN | apply below_drew1) | exact HB.out)) hb); clear HO160; clear HO163; clear HO166; clear HO169; clear HO172; clear HO176; clear HO179; clear HO183; clear HB; have HO160 := n0_; have HO163 := n1_; have HO166 := n2_; have HO169 := n3_; have HO172 := n4_; have HO176 := n5_; have HO179 := n6_; have HO183 := n7_; have HB := n8_; clear n0_ n1_ n2_ n3_ n4_ n5_ n6_ n7_ n8_; (try clear hb); (try clear hb2); (try clear hk); (try clear hi)) | ((with_reducible refine gate_callee (f := 14) rfl ?_); refine goesL_ (some 33) rfl rfl Try.func14 (by kernel_rfl) rfl #[.int .i64 12] rfl (by (try simp only [List.map_toArray, List.map_cons, List.map_nil]); first | done | rfl | (simp only [List.length_drop, List.length_take]; rfl)) ?_; (with_reducible refine (op_Size.calls 12 t186 false _ A6.out).mono ?_); rintro e w45 ⟨rfl, hb⟩; refine ⟨_, rfl, ?_⟩; have n0_ := Aside0.mk (Kd.R_below (by (with_reducible repeat (first | apply Kd.R_alloc | apply Kd.R_drewN | apply Kd.R_drew)); exact HO160.out) hb); have n1_ := Aside0.mk (Kd.R_below (by (with_reducible repeat (first | apply Kd.R_alloc | apply Kd.R_drewN | apply Kd.R_drew)); exact HO163.out) hb); have n2_ := Aside0.mk (Kd.R_below (by (with_reducible repeat (first | apply Kd.R_alloc | apply Kd.R_drewN | apply Kd.R_drew)); exact HO166.out) hb); have n3_ := Aside0.mk (Kd.R_below (by (with_reducible repeat (first | apply Kd.R_alloc | apply Kd.R_drewN | apply Kd.R_drew)); exact HO169.out) hb); have n4_ := Aside0.mk (Kd.R_below (by (with_reducible repeat (first | apply Kd.R_alloc | apply Kd.R_drewN | apply Kd.R_drew)); exact HO172.out) hb); have n5_ := Aside0.mk (Kd.R_below (by (with_reducible repeat (first | apply Kd.R_alloc | apply Kd.R_drewN | apply Kd.R_drew)); exact HO176.out) hb); have n6_ := Aside0.mk (Kd.R_below (by (with_reducible repeat (first | apply Kd.R_alloc | apply Kd.R_drewN | apply Kd.R_drew)); exact HO179.out) hb); have n7_ := Aside0.mk (Kd.R_below (by (with_reducible repeat (first | apply Kd.R_alloc | apply Kd.R_drewN | apply Kd.R_drew)); exact HO183.out) hb); have n8_ := Aside0.mk (below_step (by repeat (first | (with_reducible first | exact HB.out | apply below_alloc | apply pw_below_drewN | apply below_drew1) | exact HB.out)) hb); clear HO160; clear HO163; clear HO166; clear HO169; clear HO172; clear HO176; clear HO179; clear HO183; clear HB; have HO160 := n0_; have HO163 := n1_; have HO166 := n2_; have HO169 := n3_; have HO172 := n4_; have HO176 := n5_; have HO179 := n6_; have HO183 := n7_; have HB := n8_; clear n0_ n1_ n2_ n3_ n4_ n5_ n6_ n7_ n8_; (try clear hb); (try clear hb2); (try clear hk); (try clear hi); obtain ⟨Ao46, co46, eo46⟩ := Kd.R_slice HO163.out; subst eo46; have p188 : 0 ≤ (0 : Int) := (by omega); have q188 : 0 < (t161.length : Int) := of_decide_eq_true (by first | (with_reducible assumption) | assumption); obtain ⟨ad188, e188, hx188_0, hx188_1, hx188_2, hx188_3, hx188_4⟩ := at_T39 (Kd.R_reads' HO163.out).2.2 0 p188 q188; cases e188; have qi188 : (0 < t161.length) = True := eq_true (by omega); (try rw [show ((0 : Int)).toNat = 0 from rfl] at hx188_0); (try rw [show 0 * 5 = 0 from rfl] at hx188_0); (try rw [Addr.add_zero'] at hx188_0); (try rw [show ((0 : Int)).toNat = 0 from rfl] at hx188_1); (try rw [show 0 * 5 = 0 from rfl] at hx188_1); (try rw [Addr.add_zero'] at hx188_1); (try rw [show ((0 : Int)).toNat = 0 from rfl] at hx188_2); (try rw [show 0 * 5 = 0 from rfl] at hx188_2); (try rw [Addr.add_zero'] at hx188_2); (try rw [show ((0 : Int)).toNat = 0 from rfl] at hx188_3); (try rw [show 0 * 5 = 0 from rfl] at hx188_3); (try rw [Addr.add_zero'] at hx188_3); (try rw [show ((0 : Int)).toNat = 0 from rfl] at hx188_4); (try rw [show 0 * 5 = 0 from rfl] at hx188_4); (try rw [Addr.add_zero'] at hx188_4); (try simp only [Int.toNat_zero, Int.toNat_ofNat, Int.reduceToNat, Nat.zero_mul, Nat.reduceMul, Nat.zero_add] at hx188_3); replace p188 := eq_true p188; replace q188 := eq_true q188; have p189 : 0 ≤ (1 : Int) := (by omega); have q189 : 1 < (t161.length : Int) := of_decide_eq_true (by first | (with_reducible assumption) | assumption); obtain ⟨ad189, e189, hx189_0, hx189_1, hx189_2, hx189_3, hx189_4⟩ := at_T39 (Kd.R_reads' HO163.out).2.2 1 p189 q189; obtain rfl : ad188 = ad189 := (by injection e189); (try simp only [show (1 : Int).toNat = 1 from rfl, Nat.reduceMul, Nat.reduceEqDiff, Go.Addr.add, ↓reduceIte] at hx189_0); (try simp only [show (1 : Int).toNat = 1 from rfl, Nat.reduceMul, Nat.reduceEqDiff, Go.Addr.add, ↓reduceIte] at hx189_1); (try simp only [show (1 : Int).toNat = 1 from rfl, Nat.reduceMul, Nat.reduceEqDiff, Go.Addr.add, ↓reduceIte] at hx189_2); (try simp only [show (1 : Int).toNat = 1 from rfl, Nat.reduceMul, Nat.reduceEqDiff, Go.Addr.add, ↓reduceIte] at hx189_3); (try simp only [show (1 : Int).toNat = 1 from rfl, Nat.reduceMul, Nat.reduceEqDiff, Go.Addr.add, ↓reduceIte] at hx189_4); have qi189 : (1 < t161.length) = True := eq_true (by omega); (try rw [show ((1 : Int)).toNat = 1 from rfl] at hx189_0); (try rw [show 1 * 5 = 5 from rfl] at hx189_0); (try rw [show ((1 : Int)).toNat = 1 from rfl] at hx189_1); (try rw [show 1 * 5 = 5 from rfl] at hx189_1); (try rw [show ((1 : Int)).toNat = 1 from rfl] at hx189_2); (try rw [show 1 * 5 = 5 from rfl] at hx189_2); (try rw [show ((1 : Int)).toNat = 1 from rfl] at hx189_3); (try rw [show 1 * 5 = 5 from rfl] at hx189_3); (try rw [show ((1 : Int)).toNat = 1 from rfl] at hx189_4); (try rw [show 1 * 5 = 5 from rfl] at hx189_4); (try simp only [Int.toNat_zero, Int.toNat_ofNat, Int.reduceToNat, Nat.zero_mul, Nat.reduceMul, Nat.zero_add] at hx189_3); replace p189 := eq_true p189; replace q189 := eq_true q189; obtain ⟨Ao47, co47, eo47⟩ := Kd.R_slice HO169.out; subst eo47; have p190 : 0 ≤ (0 : Int) := (by omega); have q190 : 0 < (t167.length : Int) := of_decide_eq_true (by first | (with_reducible assumption) | assumption); obtain ⟨ad190, e190, hx190_0, hx190_1, hx190_2, hx190_3, hx190_4⟩ := at_T39 (Kd.R_reads' HO169.out).2.2 0 p190 q190; cases e190; have qi190 : (0 < t167.length) = True := eq_true (by omega); (try rw [show ((0 : Int)).toNat = 0 from rfl] at hx190_0); (try rw [show 0 * 5 = 0 from rfl] at hx190_0); (try rw [Addr.add_zero'] at hx190_0); (try rw [show ((0 : Int)).toNat = 0 from rfl] at hx190_1); (try rw [show 0 * 5 = 0 from rfl] at hx190_1); (try rw [Addr.add_zero'] at hx190_1); (try rw [show ((0 : Int)).toNat = 0 from rfl] at hx190_2); (try rw [show 0 * 5 = 0 from rfl] at hx190_2); (try rw [Addr.add_zero'] at hx190_2); (try rw [show ((0 : Int)).toNat = 0 from rfl] at hx190_3); (try rw [show 0 * 5 = 0 from rfl] at hx190_3); (try rw [Addr.add_zero'] at hx190_3); (try rw [show ((0 : Int)).toNat = 0 from rfl] at hx190_4); (try rw [show 0 * 5 = 0 from rfl] at hx190_4); (try rw [Addr.add_zero'] at hx190_4); (try simp only [Int.toNat_zero, Int.toNat_ofNat, Int.reduceToNat, Nat.zero_mul, Nat.reduceMul, Nat.zero_add] at hx190_3); replace p190 := eq_true p190; replace q190 := eq_true q190; have hcv48 := own_string (P := Try.prog) Try.underlying22 Try.underlying5 Try.underlying9 (Kd.own_of_R HO176.out); have hcv49 := fun (n_ : Nat) => own_string (P := Try.prog) Try.underlying22 Try.underlying5 Try.underlying9 (Kd.own_of_R (Kd.R_drewN HO176.out n_)); have p191 : 0 ≤ (0 : Int) := (by omega); have q191 : 0 < (t161.length : Int) := of_decide_eq_true (by first | (with_reducible assumption) | assumption); obtain ⟨ad191, e191, hx191_0, hx191_1, hx191_2, hx191_3, hx191_4⟩ := at_T39 (Kd.R_reads' HO163.out).2.2 0 p191 q191; obtain rfl : ad188 = ad191 := (by injection e191); have qi191 : (0 < t161.length) = True := eq_true (by omega); (try rw [show ((0 : Int)).toNat = 0 from rfl] at hx191_0); (try rw [show 0 * 5 = 0 from rfl] at hx191_0); (try rw [Addr.add_zero'] at hx191_0); (try rw [show ((0 : Int)).toNat = 0 from rfl] at hx191_1); (try rw [show 0 * 5 = 0 from rfl] at hx191_1); (try rw [Addr.add_zero'] at hx191_1); (try rw [show ((0 : Int)).toNat = 0 from rfl] at hx191_2); (try rw [show 0 * 5 = 0 from rfl] at hx191_2); (try rw [Addr.add_zero'] at hx191_2); (try rw [show ((0 : Int)).toNat = 0 from rfl] at hx191_3); (try rw [show 0 * 5 = 0 from rfl] at hx191_3); (try rw [Addr.add_zero'] at hx191_3); (try rw [show ((0 : Int)).toNat = 0 from rfl] at hx191_4); (try rw [show 0 * 5 = 0 from rfl] at hx191_4); (try rw [Addr.add_zero'] at hx191_4); (try simp only [Int.toNat_zero, Int.toNat_ofNat, Int.reduceToNat, Nat.zero_mul, Nat.reduceMul, Nat.zero_add] at hx191_3); replace p191 := eq_true p191; replace q191 := eq_true q191) | ((with_reducible refine gate_dst (N := 42) rfl ?_); (try (refine gate_guard (by rfl) ?_; dsimp only)); refine Ar.gload_event rfl (T := 39) rfl Try.underlying39 rfl (D := (#[.int .i64 ((rd_T39 t161 0).f0), .int .i64 ((rd_T39 t161 0).f1), .int .u64 ((rd_T39 t161 0).f2)] ++ ((Ar.cells .u8 32 ((rd_T39 t161 0).f3)) ++ #[.int .i64 ((rd_T39 t161 0).f4)]))) (by first | (rw [Ar.cells_size]; kernel_rfl) | (simp only [Array.size_append, Ar.cells_size, List.size_toArray, List.length_cons, List.length_nil]; kernel_rfl)) rfl (Ar.elem_part0 hx188_3 Ar.in_whole) ?_) | ((with_reducible refine gate_dst (N := 43) rfl ?_); (try (refine gate_guard (by rfl) ?_; dsimp only)); refine Ar.gbuild_event rfl (T := 39) rfl (D := (#[.int .i64 6, .int .i64 0, .int .u64 0] ++ ((Ar.cells .u8 32 (List.replicate 32 0)) ++ #[.int .i64 0]))) (by simp only [List.map_toArray, List.map_cons, List.map_nil]; exact fatBuild39_0 _ 6) ?_) | ((with_reducible refine gate_dst (N := 44) rfl ?_); (try (refine gate_guard (by rfl) ?_; dsimp only)); refine Ar.geq_event rfl rfl (by kernel_rfl) (b := (eqS39 (rd_T39 t161 0) (⟨6, 0, 0, (List.replicate 32 0), 0⟩ : S39))) (fun w_ => fatEq39 w_ ((rd_T39 t161 0).f0) 6 ((rd_T39 t161 0).f1) 0 ((rd_T39 t161 0).f2) 0 ((rd_T39 t161 0).f3) (List.replicate 32 0) ((rd_T39 t161 0).f4) 0) rfl rfl ?_) | ((with_reducible refine gate_dst (N := 49) rfl ?_); (try (refine gate_guard (by rfl) ?_; dsimp only)); refine Ar.gload_event rfl (T := 39) rfl Try.underlying39 rfl (D := (#[.int .i64 ((rd_T39 t161 1).f0), .int .i64 ((rd_T39 t161 1).f1), .int .u64 ((rd_T39 t161 1).f2)] ++ ((Ar.cells .u8 32 ((rd_T39 t161 1).f3)) ++ #[.int .i64 ((rd_T39 t161 1).f4)]))) (by first | (rw [Ar.cells_size]; kernel_rfl) | (simp only [Array.size_append, Ar.cells_size, List.size_toArray, List.length_cons, List.length_nil]; kernel_rfl)) rfl (Ar.elem_part0 hx189_3 Ar.in_whole) ?_) | ((with_reducible refine gate_dst (N := 50) rfl ?_); (try (refine gate_guard (by rfl) ?_; dsimp only)); refine Ar.gbuild_event rfl (T := 39) rfl (D := (#[.int .i64 0, .int .i64 0, .int .u64 0] ++ ((Ar.cells .u8 32 (List.replicate 32 0)) ++ #[.int .i64 255]))) (by simp only [List.map_toArray, List.map_cons, List.map_nil]; exact fatBuild39_4 _ 255) ?_) | ((with_reducible refine gate_dst (N := 51) rfl ?_); (try (refine gate_guard (by rfl) ?_; dsimp only)); refine Ar.geq_event rfl rfl (by kernel_rfl) (b := (eqS39 (rd_T39 t161 1) (⟨0, 0, 0, (List.replicate 32 0), 255⟩ : S39))) (fun w_ => fatEq39 w_ ((rd_T39 t161 1).f0) 0 ((rd_T39 t161 1).f1) 0 ((rd_T39 t161 1).f2) 0 ((rd_T39 t161 1).f3) (List.replicate 32 0) ((rd_T39 t161 1).f4) 255) rfl rfl ?_) | ((with_reducible refine gate_dst (N := 61) rfl ?_); (try (refine gate_guard (by rfl) ?_; dsimp only)); refine Ar.gload_event rfl (T := 39) rfl Try.underlying39 rfl (D := (#[.int .i64 ((rd_T39 t167 0).f0), .int .i64 ((rd_T39 t167 0).f1), .int .u64 ((rd_T39 t167 0).f2)] ++ ((Ar.cells .u8 32 ((rd_T39 t167 0).f3)) ++ #[.int .i64 ((rd_T39 t167 0).f4)]))) (by first | (rw [Ar.cells_size]; kernel_rfl) | (simp only [Array.size_append, Ar.cells_size, List.size_toArray, List.length_cons, List.length_nil]; kernel_rfl)) rfl (Ar.elem_part0 hx190_3 Ar.in_whole) ?_) | ((with_reducible refine gate_dst (N := 62) rfl ?_); (try (refine gate_guard (by rfl) ?_; dsimp only)); refine Ar.gbuild_event rfl (T := 39) rfl (D := (#[.int .i64 0, .int .i64 0, .int .u64 0] ++ ((Ar.cells .u8 32 (List.replicate 32 0)) ++ #[.int .i64 7]))) (by simp only [List.map_toArray, List.map_cons, List.map_nil]; exact fatBuild39_4 _ 7) ?_) | ((with_reducible refine gate_dst (N := 63) rfl ?_); (try (refine gate_guard (by rfl) ?_; dsimp only)); refine Ar.geq_event rfl rfl (by kernel_rfl) (b := (eqS39 (rd_T39 t167 0) (⟨0, 0, 0, (List.replicate 32 0), 7⟩ : S39))) (fun w_ => fatEq39 w_ ((rd_T39 t167 0).f0) 0 ((rd_T39 t167 0).f1) 0 ((rd_T39 t167 0).f2) 0 ((rd_T39 t167 0).f3) (List.replicate 32 0) ((rd_T39 t167 0).f4) 7) rfl rfl ?_) | ((with_reducible refine gate_dst (N := 92) rfl ?_); (try (refine gate_guard (by rfl) ?_; dsimp only)); refine Ar.gload_event rfl (T := 39) rfl Try.underlying39 rfl (D := (#[.int .i64 ((rd_T39 t161 0).f0), .int .i64 ((rd_T39 t161 0).f1), .int .u64 ((rd_T39 t161 0).f2)] ++ ((Ar.cells .u8 32 ((rd_T39 t161 0).f3)) ++ #[.int .i64 ((rd_T39 t161 0).f4)]))) (by first | (rw [Ar.cells_size]; kernel_rfl) | (simp only [Array.size_append, Ar.cells_size, List.size_toArray, List.length_cons, List.length_nil]; kernel_rfl)) rfl (Ar.elem_part0 hx191_3 Ar.in_whole) ?_) | (go_at_call 16; (try simp only [Array.push_eq_append]); (with_reducible refine (op_Right.calls k ((rd_T39 t161 0).f0) ((rd_T39 t161 0).f1) ((rd_T39 t161 0).f2) ((rd_T39 t161 0).f3) ((rd_T39 t161 0).f4) true _ A21.out).mono ?_); rintro e w50 ⟨rfl, hb⟩; have n0_ := Aside0.mk (Kd.R_below (by (with_reducible repeat (first | apply Kd.R_alloc | apply Kd.R_drewN | apply Kd.R_drew)); exact HO160.out) hb); have n1_ := Aside0.mk (Kd.R_below (by (with_reducible repeat (first | apply Kd.R_alloc | apply Kd.R_drewN | apply Kd.R_drew)); exact HO163.out) hb); have n2_ := Aside0.mk (Kd.R_below (by (with_reducible repeat (first | apply Kd.R_alloc | apply Kd.R_drewN | apply Kd.R_drew)); exact HO166.out) hb); have n3_ := Aside0.mk (Kd.R_below (by (with_reducible repeat (first | apply Kd.R_alloc | apply Kd.R_drewN | apply Kd.R_drew)); exact HO169.out) hb); have n4_ := Aside0.mk (Kd.R_below (by (with_reducible repeat (first | apply Kd.R_alloc | apply Kd.R_drewN | apply Kd.R_drew)); exact HO172.out) hb); have n5_ := Aside0.mk (Kd.R_below (by (with_reducible repeat (first | apply Kd.R_alloc | apply Kd.R_drewN | apply Kd.R_drew)); exact HO176.out) hb); have n6_ := Aside0.mk (Kd.R_below (by (with_reducible repeat (first | apply Kd.R_alloc | apply Kd.R_drewN | apply Kd.R_drew)); exact HO179.out) hb); have n7_ := Aside0.mk (Kd.R_below (by (with_reducible repeat (first | apply Kd.R_alloc | apply Kd.R_drewN | apply Kd.R_drew)); exact HO183.out) hb); have n8_ := Aside0.mk (below_step (by repeat (first | (with_reducible first | exact HB.out | apply below_alloc | apply pw_below_drewN | apply below_drew1) | exact HB.out)) hb); clear HO160; clear HO163; clear HO166; clear HO169; clear HO172; clear HO176; clear HO179; clear HO183; clear HB; have HO160 := n0_; have HO163 := n1_; have HO166 := n2_; have HO169 := n3_; have HO172 := n4_; have HO176 := n5_; have HO179 := n6_; have HO183 := n7_; have HB := n8_; clear n0_ n1_ n2_ n3_ n4_ n5_ n6_ n7_ n8_; (try clear hb); (try clear hb2); (try clear hk); (try clear hi); have p193 : 0 ≤ (0 : Int) := (by omega); have q193 : 0 < (t167.length : Int) := of_decide_eq_true (by first | (with_reducible assumption) | assumption); obtain ⟨ad193, e193, hx193_0, hx193_1, hx193_2, hx193_3, hx193_4⟩ := at_T39 (Kd.R_reads' HO169.out).2.2 0 p193 q193; obtain rfl : ad190 = ad193 := (by injection e193); have qi193 : (0 < t167.length) = True := eq_true (by omega); (try rw [show ((0 : Int)).toNat = 0 from rfl] at hx193_0); (try rw [show 0 * 5 = 0 from rfl] at hx193_0); (try rw [Addr.add_zero'] at hx193_0); (try rw [show ((0 : Int)).toNat = 0 from rfl] at hx193_1); (try rw [show 0 * 5 = 0 from rfl] at hx193_1); (try rw [Addr.add_zero'] at hx193_1); (try rw [show ((0 : Int)).toNat = 0 from rfl] at hx193_2); (try rw [show 0 * 5 = 0 from rfl] at hx193_2); (try rw [Addr.add_zero'] at hx193_2); (try rw [show ((0 : Int)).toNat = 0 from rfl] at hx193_3); (try rw [show 0 * 5 = 0 from rfl] at hx193_3); (try rw [Addr.add_zero'] at hx193_3); (try rw [show ((0 : Int)).toNat = 0 from rfl] at hx193_4); (try rw [show 0 * 5 = 0 from rfl] at hx193_4); (try rw [Addr.add_zero'] at hx193_4); (try simp only [Int.toNat_zero, Int.toNat_ofNat, Int.reduceToNat, Nat.zero_mul, Nat.reduceMul, Nat.zero_add] at hx193_3); replace p193 := eq_true p193; replace q193 := eq_true q193) | ((with_reducible refine gate_dst (N := 98) rfl ?_); (try (refine gate_guard (by rfl) ?_; dsimp only)); refine Ar.gload_event rfl (T := 39) rfl Try.underlying39 rfl (D := (#[.int .i64 ((rd_T39 t167 0).f0), .int .i64 ((rd_T39 t167 0).f1), .int .u64 ((rd_T39 t167 0).f2)] ++ ((Ar.cells .u8 32 ((rd_T39 t167 0).f3)) ++ #[.int .i64 ((rd_T39 t167 0).f4)]))) (by first | (rw [Ar.cells_size]; kernel_rfl) | (simp only [Array.size_append, Ar.cells_size, List.size_toArray, List.length_cons, List.length_nil]; kernel_rfl)) rfl (Ar.elem_part0 hx193_3 Ar.in_whole) ?_) | (go_at_call 16; (try simp only [Array.push_eq_append]); (with_reducible refine (op_Right.calls k ((rd_T39 t167 0).f0) ((rd_T39 t167 0).f1) ((rd_T39 t167 0).f2) ((rd_T39 t167 0).f3) ((rd_T39 t167 0).f4) false _ A23.out).mono ?_); rintro e w51 ⟨rfl, hb⟩; have n0_ := Aside0.mk (Kd.R_below (by (with_reducible repeat (first | apply Kd.R_alloc | apply Kd.R_drewN | apply Kd.R_drew)); exact HO160.out) hb); have n1_ := Aside0.mk (Kd.R_below (by (with_reducible repeat (first | apply Kd.R_alloc | apply Kd.R_drewN | apply Kd.R_drew)); exact HO163.out) hb); have n2_ := Aside0.mk (Kd.R_below (by (with_reducible repeat (first | apply Kd.R_alloc | apply Kd.R_drewN | apply Kd.R_drew)); exact HO166.out) hb); have n3_ := Aside0.mk (Kd.R_below (by (with_reducible repeat (first | apply Kd.R_alloc | apply Kd.R_drewN | apply Kd.R_drew)); exact HO169.out) hb); have n4_ := Aside0.mk (Kd.R_below (by (with_reducible repeat (first | apply Kd.R_alloc | apply Kd.R_drewN | apply Kd.R_drew)); exact HO172.out) hb); have n5_ := Aside0.mk (Kd.R_below (by (with_reducible repeat (first | apply Kd.R_alloc | apply Kd.R_drewN | apply Kd.R_drew)); exact HO176.out) hb); have n6_ := Aside0.mk (Kd.R_below (by (with_reducible repeat (first | apply Kd.R_alloc | apply Kd.R_drewN | apply Kd.R_drew)); exact HO179.out) hb); have n7_ := Aside0.mk (Kd.R_below (by (with_reducible repeat (first | apply Kd.R_alloc | apply Kd.R_drewN | apply Kd.R_drew)); exact HO183.out) hb); have n8_ := Aside0.mk (below_step (by repeat (first | (with_reducible first | exact HB.out | apply below_alloc | apply pw_below_drewN | apply below_drew1) | exact HB.out)) hb); clear HO160; clear HO163; clear HO166; clear HO169; clear HO172; clear HO176; clear HO179; clear HO183; clear HB; have HO160 := n0_; have HO163 := n1_; have HO166 := n2_; have HO169 := n3_; have HO172 := n4_; have HO176 := n5_; have HO179 := n6_; have HO183 := n7_; have HB := n8_; clear n0_ n1_ n2_ n3_ n4_ n5_ n6_ n7_ n8_; (try clear hb); (try clear hb2); (try clear hk); (try clear hi)) | (go_at_call 18; (with_reducible refine (op_Same.calls k _ _ t161 _ _ t161 true _ ?side1 ?side2 ?side3 ?side4 A25.out).mono ?_); (case side1 => repeat (first | exact (Kd.R_reads' HO163.out).2.2 | (with_reducible refine Kd.C_alloc ?_ _) | (with_reducible refine Kd.C_drewN ?_ _) | (with_reducible refine Kd.C_drew ?_))); (case side2 => exact (Kd.R_reads' HO163.out).2.1); (case side3 => repeat (first | exact (Kd.R_reads' HO163.out).2.2 | (with_reducible refine Kd.C_alloc ?_ _) | (with_reducible refine Kd.C_drewN ?_ _) | (with_reducible refine Kd.C_drew ?_))); (case side4 => exact (Kd.R_reads' HO163.out).2.1); rintro e w52 ⟨rfl, hb⟩; have n0_ := Aside0.mk (Kd.R_below (by (with_reducible repeat (first | apply Kd.R_alloc | apply Kd.R_drewN | apply Kd.R_drew)); exact HO160.out) hb); have n1_ := Aside0.mk (Kd.R_below (by (with_reducible repeat (first | apply Kd.R_alloc | apply Kd.R_drewN | apply Kd.R_drew)); exact HO163.out) hb); have n2_ := Aside0.mk (Kd.R_below (by (with_reducible repeat (first | apply Kd.R_alloc | apply Kd.R_drewN | apply Kd.R_drew)); exact HO166.out) hb); have n3_ := Aside0.mk (Kd.R_below (by (with_reducible repeat (first | apply Kd.R_alloc | apply Kd.R_drewN | apply Kd.R_drew)); exact HO169.out) hb); have n4_ := Aside0.mk (Kd.R_below (by (with_reducible repeat (first | apply Kd.R_alloc | apply Kd.R_drewN | apply Kd.R_drew)); exact HO172.out) hb); have n5_ := Aside0.mk (Kd.R_below (by (with_reducible repeat (first | apply Kd.R_alloc | apply Kd.R_drewN | apply Kd.R_drew)); exact HO176.out) hb); have n6_ := Aside0.mk (Kd.R_below (by (with_reducible repeat (first | apply Kd.R_alloc | apply Kd.R_drewN | apply Kd.R_drew)); exact HO179.out) hb); have n7_ := Aside0.mk (Kd.R_below (by (with_reducible repeat (first | apply Kd.R_alloc | apply Kd.R_drewN | apply Kd.R_drew)); exact HO183.out) hb); have n8_ := Aside0.mk (below_step (by repeat (first | (with_reducible first | exact HB.out | apply below_alloc | apply pw_below_drewN | apply below_drew1) | exact HB.out)) hb); clear HO160; clear HO163; clear HO166; clear HO169; clear HO172; clear HO176; clear HO179; clear HO183; clear HB; have HO160 := n0_; have HO163 := n1_; have HO166 := n2_; have HO169 := n3_; have HO172 := n4_; have HO176 := n5_; have HO179 := n6_; have HO183 := n7_; have HB := n8_; clear n0_ n1_ n2_ n3_ n4_ n5_ n6_ n7_ n8_; (try clear hb); (try clear hb2); (try clear hk); (try clear hi)) | (go_at_call 18; (with_reducible refine (op_Same.calls k _ _ t161 _ _ t167 t196 _ ?side1 ?side2 ?side3 ?side4 A27.out).mono ?_); (case side1 => repeat (first | exact (Kd.R_reads' HO163.out).2.2 | (with_reducible refine Kd.C_alloc ?_ _) | (with_reducible refine Kd.C_drewN ?_ _) | (with_reducible refine Kd.C_drew ?_))); (case side2 => exact (Kd.R_reads' HO163.out).2.1); (case side3 => repeat (first | exact (Kd.R_reads' HO169.out).2.2 | (with_reducible refine Kd.C_alloc ?_ _) | (with_reducible refine Kd.C_drewN ?_ _) | (with_reducible refine Kd.C_drew ?_))); (case side4 => exact (Kd.R_reads' HO169.out).2.1); rintro e w53 ⟨rfl, hb⟩; have n0_ := Aside0.mk (Kd.R_below (by (with_reducible repeat (first | apply Kd.R_alloc | apply Kd.R_drewN | apply Kd.R_drew)); exact HO160.out) hb); have n1_ := Aside0.mk (Kd.R_below (by (with_reducible repeat (first | apply Kd.R_alloc | apply Kd.R_drewN | apply Kd.R_drew)); exact HO163.out) hb); have n2_ := Aside0.mk (Kd.R_below (by (with_reducible repeat (first | apply Kd.R_alloc | apply Kd.R_drewN | apply Kd.R_drew)); exact HO166.out) hb); have n3_ := Aside0.mk (Kd.R_below (by (with_reducible repeat (first | apply Kd.R_alloc | apply Kd.R_drewN | apply Kd.R_drew)); exact HO169.out) hb); have n4_ := Aside0.mk (Kd.R_below (by (with_reducible repeat (first | apply Kd.R_alloc | apply Kd.R_drewN | apply Kd.R_drew)); exact HO172.out) hb); have n5_ := Aside0.mk (Kd.R_below (by (with_reducible repeat (first | apply Kd.R_alloc | apply Kd.R_drewN | apply Kd.R_drew)); exact HO176.out) hb); have n6_ := Aside0.mk (Kd.R_below (by (with_reducible repeat (first | apply Kd.R_alloc | apply Kd.R_drewN | apply Kd.R_drew)); exact HO179.out) hb); have n7_ := Aside0.mk (Kd.R_below (by (with_reducible repeat (first | apply Kd.R_alloc | apply Kd.R_drewN | apply Kd.R_drew)); exact HO183.out) hb); have n8_ := Aside0.mk (below_step (by repeat (first | (with_reducible first | exact HB.out | apply below_alloc | apply pw_below_drewN | apply below_drew1) | exact HB.out)) hb); clear HO160; clear HO163; clear HO166; clear HO169; clear HO172; clear HO176; clear HO179; clear HO183; clear HB; have HO160 := n0_; have HO163 := n1_; have HO166 := n2_; have HO169 := n3_; have HO172 := n4_; have HO176 := n5_; have HO179 := n6_; have HO183 := n7_; have HB := n8_; clear n0_ n1_ n2_ n3_ n4_ n5_ n6_ n7_ n8_; (try clear hb); (try clear hb2); (try clear hk); (try clear hi)))
                  go_ret
                  exact ⟨by first | rfl | (simp [errW_none, errW_some] <;> rfl) | (simp [*, errW_none, errW_some] <;> rfl), by repeat (first | (with_reducible first | exact HB.out | apply below_alloc | apply pw_below_drewN | apply below_drew1) | exact HB.out)⟩
                 ·replace c26 := Bool.eq_false_iff.mpr c26
                  subst c26
                  have H1 : (none) = some r := by rw [if_neg (show ¬ (false = true) by decide)] at H; exact H
                  clear H
                  have H := H1
                  clear H1
                  exact absurd H (by simp)
               ·replace c22 := Bool.eq_false_iff.mpr c22
                subst c22
                have H1 : (none) = some r := by rw [if_neg (show ¬ (false = true) by decide)] at H; exact H
                clear H
                have H := H1
                clear H1
                exact absurd H (by simp)
             ·replace c19 := Bool.eq_false_iff.mpr c19
              subst c19
              have H1 : (none) = some r := by rw [if_neg (show ¬ (false = true) by decide)] at H; exact H
              clear H
              have H := H1
              clear H1
              exact absurd H (by simp)
            ·rw [if_neg c18] at H
             exact absurd H (by simp)
           ·rw [if_neg c17] at H
            exact absurd H (by simp)
          ·rw [if_neg c16] at H
           exact absurd H (by simp)
         ·rw [if_neg c15] at H
          exact absurd H (by simp)
        ·rw [if_neg c14] at H
         exact absurd H (by simp)
       ·rw [if_neg c13] at H
        exact absurd H (by simp)
      ·rw [if_neg c12] at H
       exact absurd H (by simp)
     ·rw [if_neg c11] at H
      exact absurd H (by simp)
    ·rw [if_neg c10] at H
     exact absurd H (by simp)
   ·rw [if_neg c9] at H
    exact absurd H (by simp)
  ·rw [if_neg c8] at H
   exact absurd H (by simp)
 ·rw [if_neg c7] at H
  exact absurd H (by simp)

end Go.Proofs.Ytkbpdnhbmceajaa.PQ
