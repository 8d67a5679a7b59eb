/- Proved here: LawShaWrites, the statement of the row that this text's last part names, and all that it rests on: words on walks, contracts of the program's functions, plain lemmas. Conditions: none but those of the given row. (part 6 of 7) -/
import Derived.Test.YtkcdcbiobkcpmaaDoorZW4
section
namespace Go.Proofs.YtkcdcbiobkcpmaaDoor.PA
open Go.RowKit Go.Proofs.YtkcdcbiobkcpmaaDoorW.PrintWords Go.Proofs.YtkcdcbiobkcpmaaDoorW.PrintLast Go.Proofs.YtkcdcbiobkcpmaaDoorW.PrintMore
attribute [local go_sem] max2_int min2_int max_two min_two max_three min_three max_four min_four
set_option linter.unusedVariables false
set_option linter.unusedSimpArgs false
def drawlotref05_Join.l0 : Nat → List (List Int) → List Int → Int → Option (List Int)
 | 0, _, _, _ => none
 | k + 1, x0, x3, x4 => if x4 < (x0.length : Int) then (if 0 ≤ x4 then (if x3.length + (rd_L1 x0 x4).length < 140737488355328 then (drawlotref05_Join.l0 k x0 (x3 ++ (rd_L1 x0 x4)) (wrap64 (x4 + 1))) else (none)) else (none)) else (some x3)
def drawlotref05_Join.f (k : Nat) (l0 : List (List Int)) : Option (List Int) := drawlotref05_Join.l0 k l0 ([] : List Int) 0
theorem drawlotref05_Join.mono_l : ∀ k, (∀ y0 y1 y2, LeO (drawlotref05_Join.l0 k y0 y1 y2) (drawlotref05_Join.l0 (k + 1) y0 y1 y2))
 | 0 => fun _ _ _ r h => by simp [drawlotref05_Join.l0] at h
 | k + 1 => by
  have ih0 := drawlotref05_Join.mono_l k
  ·intro y0 y1 y2
   unfold drawlotref05_Join.l0
   repeat' first
   | (with_reducible exact ih0 _ _ _)
   | (with_reducible exact LeO.refl _)
   | (with_reducible exact LeO.none _)
   | (with_reducible refine LeO.ite ?_ ?_)
   | (with_reducible refine LeO.bind ?_ (fun _ => ?_))
   | exact ih0 _ _ _
   | exact LeO.none _
   | refine LeO.ite ?_ ?_
   | refine LeO.bind ?_ (fun _ => ?_)
theorem drawlotref05_Join.mono : ∀ a0 k, LeO (drawlotref05_Join.f k a0) (drawlotref05_Join.f (k + 1) a0) := by
 intro a0 k
 have ih0 := drawlotref05_Join.mono_l k
 unfold drawlotref05_Join.f
 repeat' first
   | (with_reducible exact ih0 _ _ _)
   | (with_reducible exact LeO.refl _)
   | (with_reducible exact LeO.none _)
   | (with_reducible refine LeO.ite ?_ ?_)
   | (with_reducible refine LeO.bind ?_ (fun _ => ?_))
   | exact ih0 _ _ _
   | exact LeO.none _
   | refine LeO.ite ?_ ?_
   | refine LeO.bind ?_ (fun _ => ?_)
set_option maxHeartbeats 8000000 in
set_option maxRecDepth 100000 in
theorem drawlotref05_Join.calls (k : Nat) (A0 : Option Addr) (c0 : Nat) (l0 : List (List Int)) (r : List Int) (w : World) (hr0 : Kd.C (Kd.slice 5 (Kd.int .u8)) w A0 l0.length l0) (hc0 : l0.length ≤ c0) (h : drawlotref05_Join.f k l0 = some r) :
  Calls Tryd.prog 11 #[.slice A0 l0.length c0] w fun e w' => ∃ v0_ : Value, e = .returned (v0_) ∧ Kd.R (Kd.int .u8) 5 w' w.heap.size (fun _ => True) v0_ r ∧ Below w.heap.size w w' := by
 have HR0 := Aside0.mk hr0
 have HC0 := Aside0.mk hc0
 clear hr0 hc0
 have HB := Aside0.mk (Below.refl w.heap.size w)
 have H : (drawlotref05_Join.l0 k l0 ([] : List Int) 0) = some r := h
 clear h
 have H' := Aside0.mk H
 clear H
 go_enter Tryd.func11, Tryd.ntmps11
 go_wp2
 go_loopg [3, 4] k (fun kq v3 v4 w' => ∃ (x3_1 : List Int) (x4_1 : Int), v4 = .int .i64 x4_1 ∧ Aside0 (drawlotref05_Join.l0 kq l0 x3_1 x4_1 = some r) ∧ Aside0 (kq ≤ k) ∧ Aside0 (Kd.R (Kd.int .u8) 5 w' w.heap.size (fun _ => True) v3 x3_1) ∧ Aside0 (Below w.heap.size w w'))
 case atStart => exact ⟨(([] : List Int)), (0), (by first | rfl | (simp; done) | (simp [*]; done)), H', ⟨Nat.le_refl _⟩, ⟨by first | exact Kd.R_nil _ _ _ _ _ | exact Kd.N_nil _ _ _ _ _ | exact Kd.V_nil _ _ _ _ _ | exact Kd.Q_nil _ _ _ _ _ | exact Kd.S_nil _ _ _ _ _⟩, ⟨by repeat (first | (with_reducible first | exact HB.out | apply below_alloc | apply pw_below_drewN | apply below_drew1) | exact HB.out)⟩⟩
 case round =>
  clear H'
  try clear c1
  obtain ⟨x3_1, x4_1, rfl, HA, HK1, HO_3, HB⟩ := hrel
  cases gk with
  | zero => exact absurd HA.out (by simp [drawlotref05_Join.l0])
  | succ k1 =>
   have H := HA.out
   clear HA
   simp only [drawlotref05_Join.l0] at H
   by_cases c2 : x4_1 < (l0.length : Int)
   ·rw [if_pos c2] at H
    have c2b0 : decide (x4_1 < (l0.length : Int)) = true := decide_eq_true c2
    clear c2
    by_cases c3 : 0 ≤ x4_1
    ·rw [if_pos c3] at H
     have c3b0 : decide (0 ≤ x4_1) = true := decide_eq_true c3
     clear c3
     by_cases c4 : x3_1.length + (rd_L1 l0 x4_1).length < 140737488355328
     ·rw [if_pos c4] at H
      have LMc4 := Aside0.mk c4
      clear c4
      obtain ⟨y381, hy381⟩ : ∃ y_ : List Int, y_ = (x3_1 ++ (rd_L1 l0 x4_1)) := ⟨_, rfl⟩
      replace H : (drawlotref05_Join.l0 k1 l0 y381 (wrap64 (x4_1 + 1))) = some r := by first | (rw [hy381]; with_reducible exact H) | (have H2_ := (Option.bind_some _ _).symm.trans H; rw [hy381]; with_reducible exact H2_) | (have H2_ := (Option.bind_some _ _).symm.trans H; with_reducible exact H2_) | with_reducible exact H | (rw [hy381]; exact H) | exact H
      have Ny381 := Aside0.mk hy381
      clear hy381
      have H' := Aside0.mk H
      clear H
      have p380 : 0 ≤ (x4_1 : Int) := of_decide_eq_true qa
      have q380 : x4_1 < (l0.length : Int) := of_decide_eq_true qa
      obtain ⟨ad380, A380_0, c380_0, e380, hx380_0, hl380_0, hi380_0⟩ := at_L1 HR0.out x4_1 p380 q380
      cases e380
      replace hx380_0 := (HB.out.cell (World.block_lt_of_cell? w _ hx380_0)).trans hx380_0
      have HR380_0 := Aside0.mk hi380_0
      have HC380_0 := Aside0.mk hl380_0
      clear hi380_0 hl380_0
      replace p380 := eq_true p380
      replace q380 := eq_true q380
      go_wp2_with (first | ((with_reducible refine gate_builtin (b := .append) (xs := #[.tmp 11, .tmp 15]) rfl ?_); at_builtin; refine Kd.R_append_rows (Kd.int .u8) (w0 := w) w.heap.size rfl (.tmp 11) (.tmp 15) 29 5 (.int .u8 0) 1 rfl Tryd.underlying29 info5 rfl (by decide) (by omega) u3 x3_1 (rd_L1 l0 x4_1) _ _ _ (fun _ => True) (fun _ => False) rfl rfl ?aO ?aR (fun _ _ h => h) (fun _ h => h.elim) ?aF ?aB ?aS ?aL ?_; (case aR => repeat (first | exact (Kd.C_below HR380_0.out HB.out) | (with_reducible refine Kd.C_alloc ?_ _) | (with_reducible refine Kd.C_drewN ?_ _) | (with_reducible refine Kd.C_drew ?_))); (case aB => exact (qs HB)); (case aF => exact (fun _ _ => trivial)); (case aO => exact (qr HO_3)); (case aS => exact (below_size (qs HB))); (case aL => have := LMc4.out; omega); intro v382 w5 ho hb hg hat; rw [← Ny381.out] at ho; replace HB := Aside0.mk (hb); have HO383 := Aside0.mk (ho); clear HO_3 ho hb hg hat))
      go_roundg k1
      case measure => have := HK1.out; omega
      case rel => exact ⟨(y381), (wrap64 (x4_1 + 1)), (by first | rfl | (simp; done) | (simp [*]; done)), H', ⟨by have := HK1.out; omega⟩, ⟨by (with_reducible repeat (first | apply Kd.R_alloc | apply Kd.R_drewN | apply Kd.R_drew)); exact HO383.out⟩, ⟨by repeat (first | (with_reducible first | exact HB.out | apply below_alloc | apply pw_below_drewN | apply below_drew1) | exact HB.out)⟩⟩
     ·rw [if_neg c4] at H
      exact absurd H (by simp)
    ·rw [if_neg c3] at H
     exact absurd H (by simp)
   ·rw [if_neg c2] at H
    have c2b0 : decide (x4_1 < (l0.length : Int)) = false := decide_eq_false c2
    clear c2
    obtain rfl := Option.some.inj H
    go_wp2
    go_ret
    exact ⟨_, by first | rfl | (simp [errW_none, errW_some] <;> rfl) | (simp [*, errW_none, errW_some] <;> rfl), by (with_reducible repeat (first | apply Kd.R_alloc | apply Kd.R_drewN | apply Kd.R_drew)); exact HO_3.out, by repeat (first | (with_reducible first | exact HB.out | apply below_alloc | apply pw_below_drewN | apply below_drew1) | exact HB.out)⟩
def drawlotref05_Right.f (a0_0 : List Int) (l0_1 : List Int) (a0_2 : Int) : Option (Bool) := if a0_2 < 2305843009213693952 then (some ((IntKind.u64.wrap ((l0_1.length : Int))) == (Int.tmod a0_2 64))) else (some false)
set_option maxHeartbeats 8000000 in
set_option maxRecDepth 100000 in
theorem drawlotref05_Right.calls (a0_0 : List Int) (A0_1 : Option Addr) (c0_1 : Nat) (l0_1 : List Int) (a0_2 : Int) (r : Bool) (w : World) (hr0_1 : Kd.C (Kd.int .u8) w A0_1 l0_1.length l0_1) (hc0_1 : l0_1.length ≤ c0_1) (h : drawlotref05_Right.f a0_0 l0_1 a0_2 = some r) :
    Calls Tryd.prog 18 #[.agg (Ar.cells .u32 8 a0_0 ++ #[.slice A0_1 l0_1.length c0_1, .int .u64 a0_2])] w fun e w' => e = .returned (.bool r) ∧ Below w.heap.size w w' := by
  have hu36 := Tryd.underlying36
  have HR0_1 := Aside0.mk hr0_1
  have HC0_1 := Aside0.mk hc0_1
  clear hr0_1 hc0_1
  have HB := Aside0.mk (Below.refl w.heap.size w)
  have H : (if a0_2 < 2305843009213693952 then (some ((IntKind.u64.wrap ((l0_1.length : Int))) == (Int.tmod a0_2 64))) else (some false)) = some r := h
  clear h
  by_cases c2 : a0_2 < 2305843009213693952
  · rw [if_pos c2] at H
    have c2b0 : decide (a0_2 < 2305843009213693952) = true := decide_eq_true c2
    clear c2
    obtain rfl := Option.some.inj H
    go_enter Tryd.func18, Tryd.ntmps18
    go_wp2_with (first | ((with_reducible refine gate_dst (N := 1) rfl ?_); (try (refine gate_guard (by rfl) ?_; dsimp only)); refine qF (N := 1) (cs := ((Ar.cells .u32 8 a0_0) ++ #[.slice A0_1 l0_1.length c0_1, .int .u64 a0_2])) (t := 36) ?_; intro gb391 hg w3 hbox hb; have BK391 := Aside0.mk (hbox); have GW391 := Aside0.mk ((qe HB hg : w.heap.size ≤ gb391)); have GE391 := Aside0.mk ((qe HB hg : w.heap.size ≤ gb391)); replace HB := Aside0.mk (below_step (qs HB) hb); clear hb hbox hg; have hcz4_1 : w3.cell? ⟨gb391, 8, none⟩ = some (.slice A0_1 l0_1.length c0_1) := (blk_cell BK391.out 8).trans qc; have hcz4_2 : w3.cell? ⟨gb391, 9, none⟩ = some (.int .u64 a0_2) := (blk_cell BK391.out 9).trans qc))
    go_ret
    exact ⟨by first | rfl | (simp [errW_none, errW_some] <;> rfl) | (simp [*, errW_none, errW_some] <;> rfl), by repeat (first | (with_reducible first | exact HB.out | apply below_alloc | apply pw_below_drewN | apply below_drew1 | refine below_set ?_ GE391.out) | exact HB.out)⟩
  · rw [if_neg c2] at H
    have c2b0 : decide (a0_2 < 2305843009213693952) = false := decide_eq_false c2
    clear c2
    obtain rfl := Option.some.inj H
    go_enter Tryd.func18, Tryd.ntmps18
    go_wp2_with (first | ((with_reducible refine gate_dst (N := 1) rfl ?_); (try (refine gate_guard (by rfl) ?_; dsimp only)); refine qF (N := 1) (cs := ((Ar.cells .u32 8 a0_0) ++ #[.slice A0_1 l0_1.length c0_1, .int .u64 a0_2])) (t := 36) ?_; intro gb391 hg w5 hbox hb; have BK391 := Aside0.mk (hbox); have GW391 := Aside0.mk ((qe HB hg : w.heap.size ≤ gb391)); have GE391 := Aside0.mk ((qe HB hg : w.heap.size ≤ gb391)); replace HB := Aside0.mk (below_step (qs HB) hb); clear hb hbox hg; have hcz6_1 : w5.cell? ⟨gb391, 8, none⟩ = some (.slice A0_1 l0_1.length c0_1) := (blk_cell BK391.out 8).trans qc; have hcz6_2 : w5.cell? ⟨gb391, 9, none⟩ = some (.int .u64 a0_2) := (blk_cell BK391.out 9).trans qc))
    go_ret
    exact ⟨by first | rfl | (simp [errW_none, errW_some] <;> rfl) | (simp [*, errW_none, errW_some] <;> rfl), by repeat (first | (with_reducible first | exact HB.out | apply below_alloc | apply pw_below_drewN | apply below_drew1 | refine below_set ?_ GE391.out) | exact HB.out)⟩
def drawlotref05_Write.f (k : Nat) (a0_0 : List Int) (l0_1 : List Int) (a0_2 : Int) (l1 : List Int) : Option (List Int × List Int × Int × Int) := (drawlotref05_Right.f a0_0 l0_1 a0_2).bind fun t394 => (if t394 = true then (if (IntKind.u64.wrap (a0_2 + (IntKind.u64.wrap ((l1.length : Int))))) ≥ 2305843009213693952 then (some ((List.replicate 8 0), ([] : List Int), 0, 11)) else ((some (([] : List Int) : List Int)).bind fun y395 => (if y395.length + l0_1.length < 140737488355328 then ((some (y395 ++ l0_1 : List Int)).bind fun y398 => (if y398.length + l1.length < 140737488355328 then ((drawlotref02_Cut.f k (y398 ++ l1)).bind fun bt404 => ((drawlotref05_take.f k a0_0 bt404.1).bind fun t410 => (some (t410, bt404.2, IntKind.u64.wrap (a0_2 + (IntKind.u64.wrap ((l1.length : Int)))), 0)))) else (none))) else (none)))) else (some ((List.replicate 8 0), ([] : List Int), 0, 1)))
theorem drawlotref05_Write.mono : ∀ a0 a1 a2 a3 k, LeO (drawlotref05_Write.f k a0 a1 a2 a3) (drawlotref05_Write.f (k + 1) a0 a1 a2 a3) := by
 intro a0 a1 a2 a3 k
 unfold drawlotref05_Write.f
 repeat' first
   | (with_reducible exact drawlotref02_Cut.mono _ _)
   | (with_reducible exact drawlotref05_take.mono _ _ _)
   | (with_reducible exact LeO.refl _)
   | (with_reducible exact LeO.none _)
   | (with_reducible refine LeO.ite ?_ ?_)
   | (with_reducible refine LeO.bind ?_ (fun _ => ?_))
   | exact drawlotref02_Cut.mono _ _
   | exact drawlotref05_take.mono _ _ _
   | exact LeO.none _
   | refine LeO.ite ?_ ?_
   | refine LeO.bind ?_ (fun _ => ?_)
def drawlotref05_Write.T6 : Bool × List (List Nat × List Nat) := (true, [([], []), ([0], [0]), ([], []), ([1, 2], [1, 2]), ([], []), ([], []), ([5], [5]), ([], []), ([7], [7]), ([8], [8]), ([6, 9], [6, 9]), ([3, 4, 10], [3, 4, 10]), ([11, 3, 0, 1, 2, 3, 4, 5, 6, 7, 8, 9, 10, 11], [11]), ([12, 0, 1, 2, 3, 4, 5, 6, 7, 8, 9, 10, 11, 12], [])])
def drawlotref05_Write.B6 : List Nat := [0, 1, 0, 7, 0, 0, 32, 0, 128, 384, 992, 2047, 4095, 8191]
theorem drawlotref05_Write.tab6 : rtab .any (opsOf Tryd.f13 6) = drawlotref05_Write.T6 := by kernel_rfl
theorem drawlotref05_Write.bits6 : waitsOk drawlotref05_Write.T6.2 drawlotref05_Write.B6 = true := by kernel_rfl
set_option maxHeartbeats 8000000 in
set_option maxRecDepth 100000 in
theorem drawlotref05_Write.calls (k : Nat) (a0_0 : List Int) (A0_1 : Option Addr) (c0_1 : Nat) (l0_1 : List Int) (a0_2 : Int) (A1 : Option Addr) (c1 : Nat) (l1 : List Int) (r1 : List Int) (r2 : List Int) (r3 : Int) (r4 : Int) (w : World) (hr0_1 : Kd.C (Kd.int .u8) w A0_1 l0_1.length l0_1) (hc0_1 : l0_1.length ≤ c0_1) (hr1 : Kd.C (Kd.int .u8) w A1 l1.length l1) (hc1 : l1.length ≤ c1) (h : drawlotref05_Write.f k a0_0 l0_1 a0_2 l1 = some (r1, r2, r3, r4)) :
  Calls Tryd.prog 13 #[.agg (Ar.cells .u32 8 a0_0 ++ #[.slice A0_1 l0_1.length c0_1, .int .u64 a0_2]), .slice A1 l1.length c1] w fun e w' => ∃ v1_ : Value, e = .returned (.tuple #[.agg (Ar.cells .u32 8 r1 ++ #[v1_, .int .u64 r3]), .int .i64 r4]) ∧ Kd.V (Kd.int .u8) 5 w' w.heap.size (fun k_ => (w.heap.size ≤ k_)) v1_ r2 ∧ Below w.heap.size w w' := by
 have hu36 := Tryd.underlying36
 have HR0_1 := Aside0.mk hr0_1
 have HC0_1 := Aside0.mk hc0_1
 clear hr0_1 hc0_1
 have HR1 := Aside0.mk hr1
 have HC1 := Aside0.mk hc1
 clear hr1 hc1
 have HB := Aside0.mk (Below.refl w.heap.size w)
 have H : ((drawlotref05_Right.f a0_0 l0_1 a0_2).bind fun t394 => (if t394 = true then (if (IntKind.u64.wrap (a0_2 + (IntKind.u64.wrap ((l1.length : Int))))) ≥ 2305843009213693952 then (some ((List.replicate 8 0), ([] : List Int), 0, 11)) else ((some (([] : List Int) : List Int)).bind fun y395 => (if y395.length + l0_1.length < 140737488355328 then ((some (y395 ++ l0_1 : List Int)).bind fun y398 => (if y398.length + l1.length < 140737488355328 then ((drawlotref02_Cut.f k (y398 ++ l1)).bind fun bt404 => ((drawlotref05_take.f k a0_0 bt404.1).bind fun t410 => (some (t410, bt404.2, IntKind.u64.wrap (a0_2 + (IntKind.u64.wrap ((l1.length : Int)))), 0)))) else (none))) else (none)))) else (some ((List.replicate 8 0), ([] : List Int), 0, 1)))) = some (r1, r2, r3, r4) := h
 clear h
 replace H := Option.bind_eq_some_iff.mp H
 obtain ⟨t394, A30, H⟩ := H
 replace H : (if t394 = true then (if (IntKind.u64.wrap (a0_2 + (IntKind.u64.wrap ((l1.length : Int))))) ≥ 2305843009213693952 then (some ((List.replicate 8 0), ([] : List Int), 0, 11)) else ((some (([] : List Int) : List Int)).bind fun y395 => (if y395.length + l0_1.length < 140737488355328 then ((some (y395 ++ l0_1 : List Int)).bind fun y398 => (if y398.length + l1.length < 140737488355328 then ((drawlotref02_Cut.f k (y398 ++ l1)).bind fun bt404 => ((drawlotref05_take.f k a0_0 bt404.1).bind fun t410 => (some (t410, bt404.2, IntKind.u64.wrap (a0_2 + (IntKind.u64.wrap ((l1.length : Int)))), 0)))) else (none))) else (none)))) else (some ((List.replicate 8 0), ([] : List Int), 0, 1))) = some (r1, r2, r3, r4) := H
 have A3 := Aside0.mk A30
 clear A30
 by_cases c4 : t394 = true
 ·subst c4
  have H1 : (if (IntKind.u64.wrap (a0_2 + (IntKind.u64.wrap ((l1.length : Int))))) ≥ 2305843009213693952 then (some ((List.replicate 8 0), ([] : List Int), 0, 11)) else ((some (([] : List Int) : List Int)).bind fun y395 => (if y395.length + l0_1.length < 140737488355328 then ((some (y395 ++ l0_1 : List Int)).bind fun y398 => (if y398.length + l1.length < 140737488355328 then ((drawlotref02_Cut.f k (y398 ++ l1)).bind fun bt404 => ((drawlotref05_take.f k a0_0 bt404.1).bind fun t410 => (some (t410, bt404.2, IntKind.u64.wrap (a0_2 + (IntKind.u64.wrap ((l1.length : Int)))), 0)))) else (none))) else (none)))) = some (r1, r2, r3, r4) := by rw [if_pos rfl] at H; exact H
  clear H
  have H := H1
  clear H1
  by_cases c5 : (IntKind.u64.wrap (a0_2 + (IntKind.u64.wrap ((l1.length : Int))))) ≥ 2305843009213693952
  ·rw [if_pos c5] at H
   have c5b0 : decide (2305843009213693952 ≤ (IntKind.u64.wrap (a0_2 + (IntKind.u64.wrap ((l1.length : Int)))))) = true := decide_eq_true c5
   clear c5
   simp only [Option.some.injEq, Prod.mk.injEq] at H
   obtain ⟨rfl, rfl, rfl, rfl⟩ := H
   go_enter Tryd.func13, Tryd.ntmps13
   go_wp2_with (first | ((with_reducible refine gate_dst (N := 2) rfl ?_); (try (refine gate_guard (by rfl) ?_; dsimp only)); refine qF (N := 2) (cs := ((Ar.cells .u32 8 a0_0) ++ #[.slice A0_1 l0_1.length c0_1, .int .u64 a0_2])) (t := 36) ?_; intro gb392 hg w6 hbox hb; have BK392 := Aside0.mk (hbox); have GW392 := Aside0.mk ((qe HB hg : w.heap.size ≤ gb392)); have GE392 := Aside0.mk ((qe HB hg : w.heap.size ≤ gb392)); replace HB := Aside0.mk (below_step (qs HB) hb); clear hb hbox hg) | ((with_reducible refine gate_dst (N := 4) rfl ?_); (try (refine gate_guard (by rfl) ?_; dsimp only)); refine qF (N := 4) (cs := ((Ar.cells .u32 8 (List.replicate 8 0)) ++ #[.slice none 0 0, .int .u64 0])) (t := 36) ?_; intro gb393 hg w7 hbox hb; have BK393 := Aside0.mk (hbox); have GW393 := Aside0.mk ((qe HB hg : w.heap.size ≤ gb393)); have GE393 := Aside0.mk ((qe HB hg : w.heap.size ≤ gb393)); replace HB := Aside0.mk (below_step (qs HB) hb); have NB392_393 := Aside0.mk ((qu BK392 hg : gb392 ≠ gb393)); have NB393_392 := Aside0.mk ((qw BK392 hg : gb393 ≠ gb392)); replace BK392 := Aside0.mk (qB BK392 hb); clear hb hbox hg) | ((with_reducible refine gate_dst (N := 8) rfl ?_); (try (refine gate_guard (by rfl) ?_; dsimp only)); refine Ar.gload_event rfl (T := 36) rfl Tryd.underlying36 rfl (D := ((Ar.cells .u32 8 a0_0) ++ #[.slice A0_1 l0_1.length c0_1, .int .u64 a0_2])) qz (A := ⟨gb392, 0, none⟩) rfl (Ar.blk_part (qb BK392) Ar.in_whole) ?_) | ((with_reducible refine gate_callee (f := 18) rfl ?_); refine goesL_ (some 9) rfl rfl Tryd.func18 (by kernel_rfl) rfl #[.agg ((Ar.cells .u32 8 a0_0) ++ #[.slice A0_1 l0_1.length c0_1, .int .u64 a0_2])] rfl ql ?_; (with_reducible refine (drawlotref05_Right.calls a0_0 _ _ l0_1 a0_2 true _ ?side1 ?side2 A3.out).mono ?_); (case side1 => repeat (first | exact (Kd.C_below HR0_1.out HB.out) | (with_reducible refine Kd.C_alloc ?_ _) | (with_reducible refine Kd.C_drewN ?_ _) | (with_reducible refine Kd.C_drew ?_))); (case side2 => exact HC0_1.out); rintro e w8 ⟨rfl, hb⟩; refine ⟨_, rfl, ?_⟩; replace BK392 := Aside0.mk (qB BK392 hb); replace BK393 := Aside0.mk (qB BK393 hb); replace HB := Aside0.mk (below_step (qs HB) hb); (try clear hb); (try clear hb2); (try clear hk); (try clear hi); have hnb9 := NB392_393.out; have hnc9 := NB393_392.out; have hcz10_1 : w8.cell? ⟨gb392, 8, none⟩ = some (.slice A0_1 l0_1.length c0_1) := (blk_cell BK392.out 8).trans qc; have hcz10_2 : w8.cell? ⟨gb392, 9, none⟩ = some (.int .u64 a0_2) := (blk_cell BK392.out 9).trans qc) | ((with_reducible refine gate_dst (N := 19) rfl ?_); (try (refine gate_guard (by rfl) ?_; dsimp only)); refine Ar.gbuild_event rfl (T := 36) rfl (D := ((Ar.cells .u32 8 (List.replicate 8 0)) ++ #[.slice none 0 0, .int .u64 0])) (by simp only [List.map_toArray, List.map_cons, List.map_nil]; exact fatBuild36_ _ ) ?_) | ((with_reducible refine gate_store (t := 36) (p := 4) rfl ?_); refine Ar.gstore_event rfl rfl rfl (D := ((Ar.cells .u32 8 (List.replicate 8 0)) ++ #[.slice none 0 0, .int .u64 0])) qz (g := gb393) rfl qg (qb BK393) (by simp [Ar.cells_size]) (by repeat (first | (with_reducible refine Ar.all_app ?_ ?_) | (with_reducible exact Ar.cells_one _ _ _) | (focus (simp [Value.oneCell']; done)) | rfl)) ?_; intro w11 hbk_ hg; replace BK392 := Aside0.mk (qG BK392 hg (fun e_ => NB392_393.out (Option.some.inj e_))); replace BK393 := Aside0.mk (hbk_); replace HB := Aside0.mk (Below.grown (qs HB) hg ((below_size (qs HB))) (fun _ e_ => by cases e_; exact GE393.out)); clear hbk_ hg))
   refine bodyPost_ret (results_ct rfl _ _ gb393 36 ((Ar.cells .u32 8 (List.replicate 8 0)) ++ #[.slice none 0 0, .int .u64 0]) (0, 0) _ rfl (qb BK393) Tryd.underlying36 rfl qZ) rfl ?_
   exact ⟨_, by first | rfl | (simp [errW_none, errW_some] <;> rfl) | (simp [*, errW_none, errW_some] <;> rfl), Kd.V_nil _ _ _ _ _, by repeat (first | (with_reducible first | exact HB.out | apply below_alloc | apply pw_below_drewN | apply below_drew1 | refine below_set ?_ GE392.out | refine below_set ?_ GE393.out) | exact HB.out)⟩
  ·rw [if_neg c5] at H
   have c5b0 : decide (2305843009213693952 ≤ (IntKind.u64.wrap (a0_2 + (IntKind.u64.wrap ((l1.length : Int)))))) = false := decide_eq_false c5
   clear c5
   obtain ⟨y395, hy395⟩ : ∃ y_ : List Int, y_ = (([] : List Int)) := ⟨_, rfl⟩
   replace H : (if y395.length + l0_1.length < 140737488355328 then ((some (y395 ++ l0_1 : List Int)).bind fun y398 => (if y398.length + l1.length < 140737488355328 then ((drawlotref02_Cut.f k (y398 ++ l1)).bind fun bt404 => ((drawlotref05_take.f k a0_0 bt404.1).bind fun t410 => (some (t410, bt404.2, IntKind.u64.wrap (a0_2 + (IntKind.u64.wrap ((l1.length : Int)))), 0)))) else (none))) else (none)) = some (r1, r2, r3, r4) := by first | (rw [hy395]; with_reducible exact H) | (have H2_ := (Option.bind_some _ _).symm.trans H; rw [hy395]; with_reducible exact H2_) | (have H2_ := (Option.bind_some _ _).symm.trans H; with_reducible exact H2_) | with_reducible exact H | (rw [hy395]; exact H) | exact H
   have Ny395 := Aside0.mk hy395
   clear hy395
   by_cases c12 : y395.length + l0_1.length < 140737488355328
   ·rw [if_pos c12] at H
    have LMc12 := Aside0.mk c12
    clear c12
    obtain ⟨y398, hy398⟩ : ∃ y_ : List Int, y_ = (y395 ++ l0_1) := ⟨_, rfl⟩
    replace H : (if y398.length + l1.length < 140737488355328 then ((drawlotref02_Cut.f k (y398 ++ l1)).bind fun bt404 => ((drawlotref05_take.f k a0_0 bt404.1).bind fun t410 => (some (t410, bt404.2, IntKind.u64.wrap (a0_2 + (IntKind.u64.wrap ((l1.length : Int)))), 0)))) else (none)) = some (r1, r2, r3, r4) := by first | (rw [hy398]; with_reducible exact H) | (have H2_ := (Option.bind_some _ _).symm.trans H; rw [hy398]; with_reducible exact H2_) | (have H2_ := (Option.bind_some _ _).symm.trans H; with_reducible exact H2_) | with_reducible exact H | (rw [hy398]; exact H) | exact H
    have Ny398 := Aside0.mk hy398
    clear hy398
    by_cases c13 : y398.length + l1.length < 140737488355328
    ·rw [if_pos c13] at H
     have LMc13 := Aside0.mk c13
     clear c13
     obtain ⟨y401, hy401⟩ : ∃ y_ : List Int, y_ = (y398 ++ l1) := ⟨_, rfl⟩
     replace H : ((drawlotref02_Cut.f k y401).bind fun bt404 => ((drawlotref05_take.f k a0_0 bt404.1).bind fun t410 => (some (t410, bt404.2, IntKind.u64.wrap (a0_2 + (IntKind.u64.wrap ((l1.length : Int)))), 0)))) = some (r1, r2, r3, r4) := by first | (rw [hy401]; with_reducible exact H) | (have H2_ := (Option.bind_some _ _).symm.trans H; rw [hy401]; with_reducible exact H2_) | (have H2_ := (Option.bind_some _ _).symm.trans H; with_reducible exact H2_) | with_reducible exact H | (rw [hy401]; exact H) | exact H
     have Ny401 := Aside0.mk hy401
     clear hy401
     replace H := Option.bind_eq_some_iff.mp H
     obtain ⟨⟨t404, t407⟩, A140, H⟩ := H
     replace H : ((drawlotref05_take.f k a0_0 t404).bind fun t410 => (some (t410, t407, IntKind.u64.wrap (a0_2 + (IntKind.u64.wrap ((l1.length : Int)))), 0))) = some (r1, r2, r3, r4) := H
     have A14 := Aside0.mk A140
     clear A140
     replace H := Option.bind_eq_some_iff.mp H
     obtain ⟨t410, A150, H⟩ := H
     replace H : (some (t410, t407, IntKind.u64.wrap (a0_2 + (IntKind.u64.wrap ((l1.length : Int)))), 0)) = some (r1, r2, r3, r4) := H
     have A15 := Aside0.mk A150
     clear A150
     simp only [Option.some.injEq, Prod.mk.injEq] at H
     obtain ⟨rfl, rfl, rfl, rfl⟩ := H
     go_enter Tryd.func13, Tryd.ntmps13
     try go_wp2_with (first | ((with_reducible refine gate_dst (N := 2) rfl ?_); (try (refine gate_guard (by rfl) ?_; dsimp only)); refine qF (N := 2) (cs := ((Ar.cells .u32 8 a0_0) ++ #[.slice A0_1 l0_1.length c0_1, .int .u64 a0_2])) (t := 36) ?_; intro gb392 hg w16 hbox hb; have BK392 := Aside0.mk (hbox); have GW392 := Aside0.mk ((qe HB hg : w.heap.size ≤ gb392)); have GE392 := Aside0.mk ((qe HB hg : w.heap.size ≤ gb392)); replace HB := Aside0.mk (below_step (qs HB) hb); clear hb hbox hg) | ((with_reducible refine gate_dst (N := 4) rfl ?_); (try (refine gate_guard (by rfl) ?_; dsimp only)); refine qF (N := 4) (cs := ((Ar.cells .u32 8 (List.replicate 8 0)) ++ #[.slice none 0 0, .int .u64 0])) (t := 36) ?_; intro gb393 hg w17 hbox hb; have BK393 := Aside0.mk (hbox); have GW393 := Aside0.mk ((qe HB hg : w.heap.size ≤ gb393)); have GE393 := Aside0.mk ((qe HB hg : w.heap.size ≤ gb393)); replace HB := Aside0.mk (below_step (qs HB) hb); have NB392_393 := Aside0.mk ((qu BK392 hg : gb392 ≠ gb393)); have NB393_392 := Aside0.mk ((qw BK392 hg : gb393 ≠ gb392)); replace BK392 := Aside0.mk (qB BK392 hb); clear hb hbox hg) | ((with_reducible refine gate_dst (N := 8) rfl ?_); (try (refine gate_guard (by rfl) ?_; dsimp only)); refine Ar.gload_event rfl (T := 36) rfl Tryd.underlying36 rfl (D := ((Ar.cells .u32 8 a0_0) ++ #[.slice A0_1 l0_1.length c0_1, .int .u64 a0_2])) qz (A := ⟨gb392, 0, none⟩) rfl (Ar.blk_part (qb BK392) Ar.in_whole) ?_) | ((with_reducible refine gate_callee (f := 18) rfl ?_); refine goesL_ (some 9) rfl rfl Tryd.func18 (by kernel_rfl) rfl #[.agg ((Ar.cells .u32 8 a0_0) ++ #[.slice A0_1 l0_1.length c0_1, .int .u64 a0_2])] rfl ql ?_; (with_reducible refine (drawlotref05_Right.calls a0_0 _ _ l0_1 a0_2 true _ ?side1 ?side2 A3.out).mono ?_); (case side1 => repeat (first | exact (Kd.C_below HR0_1.out HB.out) | (with_reducible refine Kd.C_alloc ?_ _) | (with_reducible refine Kd.C_drewN ?_ _) | (with_reducible refine Kd.C_drew ?_))); (case side2 => exact HC0_1.out); rintro e w18 ⟨rfl, hb⟩; refine ⟨_, rfl, ?_⟩; replace BK392 := Aside0.mk (qB BK392 hb); replace BK393 := Aside0.mk (qB BK393 hb); replace HB := Aside0.mk (below_step (qs HB) hb); (try clear hb); (try clear hb2); (try clear hk); (try clear hi); have hnb19 := NB392_393.out; have hnc19 := NB393_392.out; have hcz20_1 : w18.cell? ⟨gb392, 8, none⟩ = some (.slice A0_1 l0_1.length c0_1) := (blk_cell BK392.out 8).trans qc; have hcz20_2 : w18.cell? ⟨gb392, 9, none⟩ = some (.int .u64 a0_2) := (blk_cell BK392.out 9).trans qc) | ((with_reducible refine gate_dst (N := 21) rfl ?_); (try (refine gate_guard (by rfl) ?_; dsimp only)); refine Kd.R_lit (Kd.int .u8) _ 5 ?hg (N := 21) ?hd (xs := ([] : List Int)) (inner := []) (ok := fun _ => True) (okp := fun _ => True) ?hr ?hp (fun _ hk => hk) trivial (Below.refl _ _) (Nat.le_refl _) (by simp) ?_; (case hd => rfl); (case hg => rfl); (case hr => first | (go_simp; done) | (go_simp; rfl)); (case hp => exact (Reps.none _ _)); intro v396 w21 ho22 hb hg_ hnew_; clear hg_ hnew_; (first | rw [← Ny395.out] at ho22 | (simp only [Int.reduceToNat] at ho22; rw [← Ny395.out] at ho22)); have HO397 := Aside0.mk (Kd.R_lower (Kd.R_newM (M := fun k_ => (w.heap.size ≤ k_)) ho22 (below_size (qs HB)) (fun k_ h_ => h_)) (below_size (qs HB))); replace BK392 := Aside0.mk (qB BK392 hb); replace BK393 := Aside0.mk (qB BK393 hb); replace HB := Aside0.mk (below_step (qs HB) hb); clear hb ho22; have hcz23_1 : w21.cell? ⟨gb392, 8, none⟩ = some (.slice A0_1 l0_1.length c0_1) := (blk_cell BK392.out 8).trans qc; have hcz23_2 : w21.cell? ⟨gb392, 9, none⟩ = some (.int .u64 a0_2) := (blk_cell BK392.out 9).trans qc) | ((with_reducible refine gate_builtin (b := .append) (xs := #[.tmp 21, .tmp 23]) rfl ?_); (try (refine gate_guard (by rfl) ?_; dsimp only)); at_builtin; refine Kd.R_append_rows (Kd.int .u8) (w0 := w) w.heap.size rfl (.tmp 21) (.tmp 23) 29 5 (.int .u8 0) 1 rfl Tryd.underlying29 info5 rfl (by decide) (by omega) v396 y395 l0_1 _ _ _ (fun k_ => (w.heap.size ≤ k_)) (fun _ => False) rfl rfl ?aO ?aR (fun _ _ h => h) (fun _ h => h.elim) ?aF ?aB ?aS ?aL ?_; (case aR => repeat (first | exact (Kd.C_below HR0_1.out HB.out) | (with_reducible refine Kd.C_alloc ?_ _) | (with_reducible refine Kd.C_drewN ?_ _) | (with_reducible refine Kd.C_drew ?_))); (case aB => exact (qs HB)); (case aF => exact (fun k_ hk => (Nat.le_trans (below_size (qs HB)) hk))); (case aO => exact (by (with_reducible repeat (first | apply Kd.R_alloc | apply Kd.R_drewN | apply Kd.R_drew)); exact Kd.R_mono HO397.out (fun _ hk => hk.1))); (case aS => exact (below_size (qs HB))); (case aL => have := LMc12.out; omega); intro v399 w24 ho hb hg hat; rw [← Ny398.out] at ho; replace BK392 := Aside0.mk (qG BK392 hg (Kd.R_ne HO397.out BK392.out (by decide))); replace BK393 := Aside0.mk (qG BK393 hg (Kd.R_ne HO397.out BK393.out (by decide))); replace HB := Aside0.mk (hb); have HO400 := Aside0.mk (ho); clear HO397 ho hb hg hat) | ((with_reducible refine gate_builtin (b := .append) (xs := #[.tmp 24, .tmp 25]) rfl ?_); (try (refine gate_guard (by rfl) ?_; dsimp only)); at_builtin; refine Kd.R_append_rows (Kd.int .u8) (w0 := w) w.heap.size rfl (.tmp 24) (.tmp 25) 29 5 (.int .u8 0) 1 rfl Tryd.underlying29 info5 rfl (by decide) (by omega) v399 y398 l1 _ _ _ (fun k_ => (w.heap.size ≤ k_)) (fun _ => False) rfl rfl ?aO ?aR (fun _ _ h => h) (fun _ h => h.elim) ?aF ?aB ?aS ?aL ?_; (case aR => repeat (first | exact (Kd.C_below HR1.out HB.out) | (with_reducible refine Kd.C_alloc ?_ _) | (with_reducible refine Kd.C_drewN ?_ _) | (with_reducible refine Kd.C_drew ?_))); (case aB => exact (qs HB)); (case aF => exact (fun k_ hk => (Nat.le_trans (below_size (qs HB)) hk))); (case aO => exact (qr HO400)); (case aS => exact (below_size (qs HB))); (case aL => have := LMc13.out; omega); intro v402 w25 ho hb hg hat; rw [← Ny401.out] at ho; replace BK392 := Aside0.mk (qG BK392 hg (Kd.R_ne HO400.out BK392.out (by decide))); replace BK393 := Aside0.mk (qG BK393 hg (Kd.R_ne HO400.out BK393.out (by decide))); replace HB := Aside0.mk (hb); have HO403 := Aside0.mk (ho); clear HO400 ho hb hg hat; obtain ⟨Ao26, co26, eo26⟩ := Kd.R_slice HO403.out; subst eo26) | ((with_reducible refine gate_callee (f := 26) rfl ?_); refine goesL_ (some 27) rfl rfl Tryd.func26 (by kernel_rfl) rfl #[.slice Ao26 y401.length co26] rfl ql ?_; (with_reducible refine (drawlotref02_Cut.calls k (fun k_ => some k_ = (.slice Ao26 y401.length co26 : Value).ownBlock) _ _ y401 t404 t407 _ ?side1 A14.out).mono ?_); (case side1 => exact Kd.R_V (Kd.R_tight rfl (Kd.R_types (Kd.R_types (HO403.out) BK392.out (by decide)) BK393.out (by decide)))); rintro e w27 ⟨v405, v408, rfl, ho0, ho1, hb⟩; refine ⟨_, rfl, ?_⟩; have HO406 := Aside0.mk (Kd.R_lower (Kd.R_newM (M := fun k_ => (w.heap.size ≤ k_)) (Kd.R_mono (ok' := fun k_ => True) ho0 (fun _ hk_ => trivial)) (below_size (qs HB)) (fun k_ h_ => h_)) (below_size (qs HB))); have HO409 := Aside0.mk (Kd.V_lower (Kd.V_mono (ok' := fun k_ => (w.heap.size ≤ k_) ∧ some k_ ≠ (v405 : Value).ownBlock ∧ k_ ≠ gb392 ∧ k_ ≠ gb393) ho1 (fun k_ hk_ => ⟨Or.elim hk_.1 (fun hs_ => ((Kd.R_types (Kd.R_types (HO403.out) BK392.out (by decide)) BK393.out (by decide)).1 k_ hs_.symm).1.1) (fun hn_ => (Nat.le_trans (below_size (qs HB)) hn_)), hk_.2, Or.elim hk_.1 (fun hs_ => ((Kd.R_types (Kd.R_types (HO403.out) BK392.out (by decide)) BK393.out (by decide)).1 k_ hs_.symm).1.2) (fun hn_ => (Kd.freshB (g := gb392) (o := .cells ((Ar.cells .u32 8 a0_0) ++ #[.slice A0_1 l0_1.length c0_1, .int .u64 a0_2]) 36 (0, 0)) (qb BK392) k_ hn_)), Or.elim hk_.1 (fun hs_ => ((Kd.R_types (Kd.R_types (HO403.out) BK392.out (by decide)) BK393.out (by decide)).1 k_ hs_.symm).2) (fun hn_ => (Kd.freshB (g := gb393) (o := .cells ((Ar.cells .u32 8 (List.replicate 8 0)) ++ #[.slice none 0 0, .int .u64 0]) 36 (0, 0)) (qb BK393) k_ hn_))⟩)) (below_size (qs HB))); replace HO403 := Aside0.mk (Kd.R_below (qr HO403) hb); replace BK392 := Aside0.mk (qB BK392 hb); replace BK393 := Aside0.mk (qB BK393 hb); replace HB := Aside0.mk (below_step (qs HB) hb); (try clear hb); (try clear hb2); (try clear hk); (try clear hi); (try clear ho0); (try clear ho1)))
     replace HO403 := Aside0.mk (Kd.R_drew HO403.out)
     replace HO406 := Aside0.mk (Kd.R_drew HO406.out)
     replace HO409 := Aside0.mk (Kd.V_drew HO409.out)
     replace BK392 := Aside0.mk (blk_drew BK392.out)
     replace BK393 := Aside0.mk (blk_drew BK393.out)
     replace HB := Aside0.mk (below_drew1 HB.out)
     obtain ⟨Ao29, co29, eo29⟩ := Kd.R_slice HO406.out
     (first | subst eo29 | (injection eo29 with f1_ f2_ f3_; have f4_ := f1_.symm; have f5_ := f3_.symm; clear f1_ f2_ f3_; subst f4_; subst f5_))
     refine start_ (n := 14) (S := fun w' => w'.heap[gb392]? = some (.cells ((Ar.cells .u32 8 a0_0) ++ #[.slice A0_1 l0_1.length c0_1, .int .u64 a0_2]) 36 (0, 0)) ∧ w'.cell? ⟨gb392, 8, none⟩ = some (.slice A0_1 l0_1.length c0_1) ∧ w'.cell? ⟨gb392, 9, none⟩ = some (.int .u64 a0_2)) (ds := []) #[false, false, false, false, false, false, false, false, false, false, false, false, false, false] (by kernel_rfl) rfl rfl ⟨BK392.out, (blk_cell BK392.out 8).trans qc, (blk_cell BK392.out 9).trans qc⟩ (fun hHeld => ?_); refine with_tabW drawlotref05_Write.tab6 drawlotref05_Write.bits6 (fun HT_ HW_ => ?_)
     generalize w27.drew = w28 at HO403 HO406 HO409 BK392 BK393 HB hHeld ⊢
     refine pure_ (i := 0) (N := some 30) (v := ?_) (a' := ?_) #[true, false, false, false, false, false, false, false, false, false, false, false, false, false] rfl rfl (any_of HT_.out (by kernel_rfl)) (fun _ _ _ h => h) (Or.inl ⟨by rfl, ?_⟩) ?_ ?_
     rotate_left
     ·intro w'
      go_simp
      with_reducible rfl
     rotate_left
     ·simp only [Act.put, zA_, zB_, zC_, i64_w, i32_w]
      rfl
     refine pure_ (i := 2) (N := some 32) (v := ?_) (a' := ?_) #[true, false, true, false, false, false, false, false, false, false, false, false, false, false] rfl rfl (any_of HT_.out (by kernel_rfl)) (fun _ _ _ h => h) (Or.inl ⟨by rfl, ?_⟩) ?_ ?_
     rotate_left
     ·intro w'
      go_simp
      with_reducible rfl
     rotate_left
     ·simp only [Act.put, zA_, zB_, zC_, i64_w, i32_w]
      rfl
     refine pure_ (i := 4) (N := some 34) (v := ?_) (a' := ?_) #[true, false, true, false, true, false, false, false, false, false, false, false, false, false] rfl rfl (any_of HT_.out (by kernel_rfl)) (fun _ _ _ h => h) (Or.inl ⟨by rfl, ?_⟩) ?_ ?_
     rotate_left
     ·intro w'
      go_simp
      with_reducible rfl
     rotate_left
     ·simp only [Act.put, zA_, zB_, zC_, i64_w, i32_w]
      rfl
     refine pure_ (i := 5) (N := some 35) (v := ?_) (a' := ?_) #[true, false, true, false, true, true, false, false, false, false, false, false, false, false] rfl rfl (any_of HT_.out (by kernel_rfl)) (fun _ _ _ h => h) (Or.inl ⟨by rfl, ?_⟩) ?_ ?_
     rotate_left
     ·intro w'
      go_simp
      with_reducible rfl
     rotate_left
     ·simp only [Act.put, zA_, zB_, zC_, i64_w, i32_w]
      rfl
     refine pure_ (i := 7) (N := some 37) (v := ?_) (a' := ?_) #[true, false, true, false, true, true, false, true, false, false, false, false, false, false] rfl rfl (any_of HT_.out (by kernel_rfl)) (fun _ _ _ h => h) (Or.inl ⟨by rfl, ?_⟩) ?_ ?_
     rotate_left
     ·intro w'
      go_simp
      with_reducible rfl
     rotate_left
     ·simp only [Act.put, zA_, zB_, zC_, i64_w, i32_w]
      rfl
     refine pure_ (i := 8) (N := some 38) (v := ?_) (a' := ?_) #[true, false, true, false, true, true, false, true, true, false, false, false, false, false] rfl rfl (any_of HT_.out (by kernel_rfl)) (fun _ _ _ h => h) (Or.inl ⟨by rfl, ?_⟩) ?_ ?_
     rotate_left
     ·intro w'
      go_simp
      with_reducible rfl
     rotate_left
     ·simp only [Act.put, zA_, zB_, zC_, i64_w, i32_w]
      rfl
     refine pure_ (i := 9) (N := some 39) (v := ?_) (a' := ?_) #[true, false, true, false, true, true, false, true, true, true, false, false, false, false] rfl rfl (any_of HT_.out (by kernel_rfl)) (fun _ _ _ h => h) (Or.inl ⟨by rfl, ?_⟩) ?_ ?_
     rotate_left
     ·intro w'
      go_simp
      with_reducible rfl
     rotate_left
     ·simp only [Act.put, zA_, zB_, zC_, i64_w, i32_w]
      rfl
     refine take_ (i := 1) (N := some 31) (v := ?_) (a' := ?_) #[true, true, true, false, true, true, false, true, true, true, false, false, false, false] rfl rfl (take_ofW HT_.out HW_.out (by kernel_rfl)) (fun _ _ _ h => h) (Or.inl ⟨by rfl, ?_⟩) hHeld ?_ ?_
     rotate_left
     ·rintro w' ⟨s0, s1, s2⟩
      first | (refine (Ar.gload_run rfl Tryd.underlying33 rfl (D := (Ar.cells .u32 8 a0_0)) qz rfl (Ar.blk_part (by assumption) Ar.in_first)).trans ?_; with_reducible rfl) | (go_simp; with_reducible rfl)
     rotate_left
     ·simp only [Act.put, zA_, zB_, zC_, i64_w, i32_w]
      rfl
     refine take_ (i := 6) (N := some 36) (v := ?_) (a' := ?_) #[true, true, true, false, true, true, true, true, true, true, false, false, false, false] rfl rfl (take_ofW HT_.out HW_.out (by kernel_rfl)) (fun _ _ _ h => h) (Or.inl ⟨by rfl, ?_⟩) hHeld ?_ ?_
     rotate_left
     ·rintro w' ⟨s0, s1, s2⟩
      go_simp
      with_reducible rfl
     rotate_left
     ·simp only [Act.put, zA_, zB_, zC_, i64_w, i32_w]
      rfl
     refine pure_ (i := 10) (N := some 40) (v := ?_) (a' := ?_) #[true, true, true, false, true, true, true, true, true, true, true, false, false, false] rfl rfl (any_of HT_.out (by kernel_rfl)) (fun _ _ _ h => h) (Or.inl ⟨by rfl, ?_⟩) ?_ ?_
     rotate_left
     ·intro w'
      go_simp
      with_reducible rfl
     rotate_left
     ·simp only [Act.put, zA_, zB_, zC_, i64_w, i32_w]
      rfl
     refine one_ (i := 3) (N := some 33) #[true, true, true, true, true, true, true, true, true, true, true, false, false, false] rfl rfl (one_of HT_.out (by kernel_rfl)) (by decide) (fun K hK => ?_)
     refine goes_ Tryd.func29 (by kernel_rfl) rfl #[.agg (Ar.cells .u32 8 a0_0), .slice Ao29 t404.length co29] (by rfl) rfl rfl ql ?_
     with_reducible refine (drawlotref05_take.calls k a0_0 _ _ t404 t410 _ ?side1 ?side2 A15.out).mono ?_
     (case side1 => repeat (first | exact (Kd.R_reads' HO406.out).2.2 | (with_reducible refine Kd.C_alloc ?_ _) | (with_reducible refine Kd.C_drewN ?_ _) | (with_reducible refine Kd.C_drew ?_)))
     (case side2 => exact (Kd.R_reads' HO406.out).2.1)
     rintro e w30 ⟨rfl, hb⟩
     refine ⟨_, rfl, ?_⟩
     replace HO403 := Aside0.mk (Kd.R_below (qr HO403) hb)
     replace HO406 := Aside0.mk (Kd.R_below (qr HO406) hb)
     replace HO409 := Aside0.mk (Kd.V_below (qv HO409) hb)
     replace BK392 := Aside0.mk (qB BK392 hb)
     replace BK393 := Aside0.mk (qB BK393 hb)
     replace HB := Aside0.mk (below_step (qs HB) hb)
     (try clear hb)
     (try clear hb2)
     (try clear hk)
     (try clear hi)
     obtain ⟨Ao31, co31, eo31⟩ := Kd.V_slice HO409.out
     (first | subst eo31 | (injection eo31 with f1_ f2_ f3_; have f4_ := f1_.symm; have f5_ := f3_.symm; clear f1_ f2_ f3_; subst f4_; subst f5_))
     refine hK.out _ _ ⟨BK392.out, (blk_cell BK392.out 8).trans qc, (blk_cell BK392.out 9).trans qc⟩ (fun hHeld => ?_)
     clear hK K
     refine norm_ (a' := ?_) ?_ ?_
     rotate_left
     ·show Act.put _ (some 33) _ = _
      simp only [Act.put, zA_, zB_, zC_, i64_w, i32_w]
      rfl
     refine pure_ (i := 11) (N := some 41) (v := ?_) (a' := ?_) #[true, true, true, true, true, true, true, true, true, true, true, true, false, false] rfl rfl (any_of HT_.out (by kernel_rfl)) (fun _ _ _ h => h) (Or.inl ⟨by rfl, ?_⟩) ?_ ?_
     rotate_left
     ·intro w'
      refine (Ar.gbuild_run rfl (D := ((Ar.cells .u32 8 t410) ++ #[.slice Ao31 t407.length co31, .int .u64 (IntKind.u64.wrap (a0_2 + (IntKind.u64.wrap ((l1.length : Int)))))])) (by simp only [List.map_toArray, List.map_cons, List.map_nil]; exact fatBuild36_0_1_2 _ t410 _ _ _ (IntKind.u64.wrap (a0_2 + (IntKind.u64.wrap ((l1.length : Int))))))).trans ?_; with_reducible rfl
     rotate_left
     ·simp only [Act.put, zA_, zB_, zC_, i64_w, i32_w]
      rfl
     refine one_ (i := 12) (N := none) #[true, true, true, true, true, true, true, true, true, true, true, true, true, false] rfl rfl (one_of HT_.out (by kernel_rfl)) (by decide) (fun K hK => ?_)
     refine Ar.gstore_step (by rfl) rfl rfl (D := ((Ar.cells .u32 8 t410) ++ #[.slice Ao31 t407.length co31, .int .u64 (IntKind.u64.wrap (a0_2 + (IntKind.u64.wrap ((l1.length : Int)))))])) qz (g := gb393) rfl qg (qb BK393) (by simp [Ar.cells_size]) (by repeat (first | (with_reducible refine Ar.all_app ?_ ?_) | (with_reducible exact Ar.cells_one _ _ _) | (focus (simp [Value.oneCell']; done)) | rfl)) ?_; intro w32 hbk_ hg
     replace BK392 := Aside0.mk (qG BK392 hg (fun e_ => NB392_393.out (Option.some.inj e_)))
     replace HO403 := Aside0.mk (Kd.R_mono (Kd.R_grown (Kd.R_types (qr HO403) BK393.out (by decide)) hg (fun k_ hk_ e_ => hk_.2 (Option.some.inj e_))) (fun _ h_ => h_.1))
     replace HO406 := Aside0.mk (Kd.R_mono (Kd.R_grown (Kd.R_types (qr HO406) BK393.out (by decide)) hg (fun k_ hk_ e_ => hk_.2 (Option.some.inj e_))) (fun _ h_ => h_.1))
     replace HO409 := Aside0.mk (Kd.V_grown (qv HO409) hg (by intro k_ hk e_; exact (hk.2.2.2) (Option.some.inj e_)))
     replace BK393 := Aside0.mk (hbk_)
     replace HB := Aside0.mk (Below.grown (qs HB) hg ((below_size (qs HB))) (fun _ e_ => by cases e_; exact GE393.out))
     clear hbk_ hg
     refine hK.out _ _ ⟨BK392.out, (blk_cell BK392.out 8).trans qc, (blk_cell BK392.out 9).trans qc⟩ (fun hHeld => ?_)
     clear hK K
     refine pure_ (i := 13) (N := some 5) (v := ?_) (a' := ?_) #[true, true, true, true, true, true, true, true, true, true, true, true, true, true] rfl rfl (any_of HT_.out (by kernel_rfl)) (fun _ _ _ h => h) (Or.inl ⟨by rfl, ?_⟩) ?_ ?_
     rotate_left
     ·intro w'
      go_simp
      with_reducible rfl
     rotate_left
     ·simp only [Act.put, zA_, zB_, zC_, i64_w, i32_w]
      rfl
     refine done_ (done_of HT_.out (by kernel_rfl)) ?_
     try go_wp2
     refine bodyPost_ret (results_ct rfl _ _ gb393 36 ((Ar.cells .u32 8 t410) ++ #[.slice Ao31 t407.length co31, .int .u64 (IntKind.u64.wrap (a0_2 + (IntKind.u64.wrap ((l1.length : Int)))))]) (0, 0) _ rfl (qb BK393) Tryd.underlying36 rfl qZ) rfl ?_
     exact ⟨_, by first | rfl | (simp [errW_none, errW_some] <;> rfl) | (simp [*, errW_none, errW_some] <;> rfl), by (with_reducible repeat (first | apply Kd.V_alloc | apply Kd.V_drewN | apply Kd.V_drew)); exact Kd.V_mono HO409.out (fun _ hk => hk.1), by repeat (first | (with_reducible first | exact HB.out | apply below_alloc | apply pw_below_drewN | apply below_drew1 | refine below_set ?_ GE392.out | refine below_set ?_ GE393.out) | exact HB.out)⟩
    ·rw [if_neg c13] at H
     exact absurd H (by simp)
   ·rw [if_neg c12] at H
    exact absurd H (by simp)
 ·replace c4 := Bool.eq_false_iff.mpr c4
  subst c4
  have H1 : (some ((List.replicate 8 0), ([] : List Int), 0, 1)) = some (r1, r2, r3, r4) := by rw [if_neg (show ¬ (false = true) by decide)] at H; exact H
  clear H
  have H := H1
  clear H1
  simp only [Option.some.injEq, Prod.mk.injEq] at H
  obtain ⟨rfl, rfl, rfl, rfl⟩ := H
  go_enter Tryd.func13, Tryd.ntmps13
  go_wp2_with (first | ((with_reducible refine gate_dst (N := 2) rfl ?_); (try (refine gate_guard (by rfl) ?_; dsimp only)); refine qF (N := 2) (cs := ((Ar.cells .u32 8 a0_0) ++ #[.slice A0_1 l0_1.length c0_1, .int .u64 a0_2])) (t := 36) ?_; intro gb392 hg w33 hbox hb; have BK392 := Aside0.mk (hbox); have GW392 := Aside0.mk ((qe HB hg : w.heap.size ≤ gb392)); have GE392 := Aside0.mk ((qe HB hg : w.heap.size ≤ gb392)); replace HB := Aside0.mk (below_step (qs HB) hb); clear hb hbox hg) | ((with_reducible refine gate_dst (N := 4) rfl ?_); (try (refine gate_guard (by rfl) ?_; dsimp only)); refine qF (N := 4) (cs := ((Ar.cells .u32 8 (List.replicate 8 0)) ++ #[.slice none 0 0, .int .u64 0])) (t := 36) ?_; intro gb393 hg w34 hbox hb; have BK393 := Aside0.mk (hbox); have GW393 := Aside0.mk ((qe HB hg : w.heap.size ≤ gb393)); have GE393 := Aside0.mk ((qe HB hg : w.heap.size ≤ gb393)); replace HB := Aside0.mk (below_step (qs HB) hb); have NB392_393 := Aside0.mk ((qu BK392 hg : gb392 ≠ gb393)); have NB393_392 := Aside0.mk ((qw BK392 hg : gb393 ≠ gb392)); replace BK392 := Aside0.mk (qB BK392 hb); clear hb hbox hg) | ((with_reducible refine gate_dst (N := 8) rfl ?_); (try (refine gate_guard (by rfl) ?_; dsimp only)); refine Ar.gload_event rfl (T := 36) rfl Tryd.underlying36 rfl (D := ((Ar.cells .u32 8 a0_0) ++ #[.slice A0_1 l0_1.length c0_1, .int .u64 a0_2])) qz (A := ⟨gb392, 0, none⟩) rfl (Ar.blk_part (qb BK392) Ar.in_whole) ?_) | ((with_reducible refine gate_callee (f := 18) rfl ?_); refine goesL_ (some 9) rfl rfl Tryd.func18 (by kernel_rfl) rfl #[.agg ((Ar.cells .u32 8 a0_0) ++ #[.slice A0_1 l0_1.length c0_1, .int .u64 a0_2])] rfl ql ?_; (with_reducible refine (drawlotref05_Right.calls a0_0 _ _ l0_1 a0_2 false _ ?side1 ?side2 A3.out).mono ?_); (case side1 => repeat (first | exact (Kd.C_below HR0_1.out HB.out) | (with_reducible refine Kd.C_alloc ?_ _) | (with_reducible refine Kd.C_drewN ?_ _) | (with_reducible refine Kd.C_drew ?_))); (case side2 => exact HC0_1.out); rintro e w35 ⟨rfl, hb⟩; refine ⟨_, rfl, ?_⟩; replace BK392 := Aside0.mk (qB BK392 hb); replace BK393 := Aside0.mk (qB BK393 hb); replace HB := Aside0.mk (below_step (qs HB) hb); (try clear hb); (try clear hb2); (try clear hk); (try clear hi)) | ((with_reducible refine gate_dst (N := 11) rfl ?_); (try (refine gate_guard (by rfl) ?_; dsimp only)); refine Ar.gbuild_event rfl (T := 36) rfl (D := ((Ar.cells .u32 8 (List.replicate 8 0)) ++ #[.slice none 0 0, .int .u64 0])) (by simp only [List.map_toArray, List.map_cons, List.map_nil]; exact fatBuild36_ _ ) ?_) | ((with_reducible refine gate_store (t := 36) (p := 4) rfl ?_); refine Ar.gstore_event rfl rfl rfl (D := ((Ar.cells .u32 8 (List.replicate 8 0)) ++ #[.slice none 0 0, .int .u64 0])) qz (g := gb393) rfl qg (qb BK393) (by simp [Ar.cells_size]) (by repeat (first | (with_reducible refine Ar.all_app ?_ ?_) | (with_reducible exact Ar.cells_one _ _ _) | (focus (simp [Value.oneCell']; done)) | rfl)) ?_; intro w36 hbk_ hg; replace BK392 := Aside0.mk (qG BK392 hg (fun e_ => NB392_393.out (Option.some.inj e_))); replace BK393 := Aside0.mk (hbk_); replace HB := Aside0.mk (Below.grown (qs HB) hg ((below_size (qs HB))) (fun _ e_ => by cases e_; exact GE393.out)); clear hbk_ hg))
  refine bodyPost_ret (results_ct rfl _ _ gb393 36 ((Ar.cells .u32 8 (List.replicate 8 0)) ++ #[.slice none 0 0, .int .u64 0]) (0, 0) _ rfl (qb BK393) Tryd.underlying36 rfl qZ) rfl ?_
  exact ⟨_, by first | rfl | (simp [errW_none, errW_some] <;> rfl) | (simp [*, errW_none, errW_some] <;> rfl), Kd.V_nil _ _ _ _ _, by repeat (first | (with_reducible first | exact HB.out | apply below_alloc | apply pw_below_drewN | apply below_drew1 | refine below_set ?_ GE392.out | refine below_set ?_ GE393.out) | exact HB.out)⟩
def drawlotref05_Finish.f (k : Nat) (a0_0 : List Int) (l0_1 : List Int) (a0_2 : Int) : Option (List Int × Int) := (drawlotref02_Tail.f k l0_1 a0_2).bind fun bt413 => (if bt413.2 = true then ((drawlotref02_Cut.f k bt413.1).bind fun bt417 => ((drawlotref05_take.f k a0_0 bt417.1).bind fun t423 => ((drawlotref05_hash.f k t423).bind fun t424 => (some (t424, 0))))) else (some ([0, 0, 0, 0, 0, 0, 0, 0, 0, 0, 0, 0, 0, 0, 0, 0, 0, 0, 0, 0, 0, 0, 0, 0, 0, 0, 0, 0, 0, 0, 0, 0], 1)))
theorem drawlotref05_Finish.mono : ∀ a0 a1 a2 k, LeO (drawlotref05_Finish.f k a0 a1 a2) (drawlotref05_Finish.f (k + 1) a0 a1 a2) := by
 intro a0 a1 a2 k
 unfold drawlotref05_Finish.f
 repeat' first
   | (with_reducible exact drawlotref02_Cut.mono _ _)
   | (with_reducible exact drawlotref02_Tail.mono _ _ _)
   | (with_reducible exact drawlotref05_hash.mono _ _)
   | (with_reducible exact drawlotref05_take.mono _ _ _)
   | (with_reducible exact LeO.refl _)
   | (with_reducible exact LeO.none _)
   | (with_reducible refine LeO.ite ?_ ?_)
   | (with_reducible refine LeO.bind ?_ (fun _ => ?_))
   | exact drawlotref02_Cut.mono _ _
   | exact drawlotref02_Tail.mono _ _ _
   | exact drawlotref05_hash.mono _ _
   | exact drawlotref05_take.mono _ _ _
   | exact LeO.none _
   | refine LeO.ite ?_ ?_
   | refine LeO.bind ?_ (fun _ => ?_)
set_option maxHeartbeats 8000000 in
set_option maxRecDepth 100000 in
theorem drawlotref05_Finish.calls (k : Nat) (a0_0 : List Int) (A0_1 : Option Addr) (c0_1 : Nat) (l0_1 : List Int) (a0_2 : Int) (r1 : List Int) (r2 : Int) (w : World) (hr0_1 : Kd.C (Kd.int .u8) w A0_1 l0_1.length l0_1) (hc0_1 : l0_1.length ≤ c0_1) (h : drawlotref05_Finish.f k a0_0 l0_1 a0_2 = some (r1, r2)) :
  Calls Tryd.prog 15 #[.agg (Ar.cells .u32 8 a0_0 ++ #[.slice A0_1 l0_1.length c0_1, .int .u64 a0_2])] w fun e w' => e = .returned (.tuple #[.agg (Ar.cells .u8 32 r1), .int .i64 r2]) ∧ Below w.heap.size w w' := by
 have hu36 := Tryd.underlying36
 have HR0_1 := Aside0.mk hr0_1
 have HC0_1 := Aside0.mk hc0_1
 clear hr0_1 hc0_1
 have HB := Aside0.mk (Below.refl w.heap.size w)
 have H : ((drawlotref02_Tail.f k l0_1 a0_2).bind fun bt413 => (if bt413.2 = true then ((drawlotref02_Cut.f k bt413.1).bind fun bt417 => ((drawlotref05_take.f k a0_0 bt417.1).bind fun t423 => ((drawlotref05_hash.f k t423).bind fun t424 => (some (t424, 0))))) else (some ([0, 0, 0, 0, 0, 0, 0, 0, 0, 0, 0, 0, 0, 0, 0, 0, 0, 0, 0, 0, 0, 0, 0, 0, 0, 0, 0, 0, 0, 0, 0, 0], 1)))) = some (r1, r2) := h
 clear h
 replace H := Option.bind_eq_some_iff.mp H
 obtain ⟨⟨t413, t414⟩, A20, H⟩ := H
 replace H : (if t414 = true then ((drawlotref02_Cut.f k t413).bind fun bt417 => ((drawlotref05_take.f k a0_0 bt417.1).bind fun t423 => ((drawlotref05_hash.f k t423).bind fun t424 => (some (t424, 0))))) else (some ([0, 0, 0, 0, 0, 0, 0, 0, 0, 0, 0, 0, 0, 0, 0, 0, 0, 0, 0, 0, 0, 0, 0, 0, 0, 0, 0, 0, 0, 0, 0, 0], 1))) = some (r1, r2) := H
 have A2 := Aside0.mk A20
 clear A20
 by_cases c3 : t414 = true
 ·subst c3
  have H1 : ((drawlotref02_Cut.f k t413).bind fun bt417 => ((drawlotref05_take.f k a0_0 bt417.1).bind fun t423 => ((drawlotref05_hash.f k t423).bind fun t424 => (some (t424, 0))))) = some (r1, r2) := by rw [if_pos rfl] at H; exact H
  clear H
  have H := H1
  clear H1
  replace H := Option.bind_eq_some_iff.mp H
  obtain ⟨⟨t417, t420⟩, A40, H⟩ := H
  replace H : ((drawlotref05_take.f k a0_0 t417).bind fun t423 => ((drawlotref05_hash.f k t423).bind fun t424 => (some (t424, 0)))) = some (r1, r2) := H
  have A4 := Aside0.mk A40
  clear A40
  replace H := Option.bind_eq_some_iff.mp H
  obtain ⟨t423, A50, H⟩ := H
  replace H : ((drawlotref05_hash.f k t423).bind fun t424 => (some (t424, 0))) = some (r1, r2) := H
  have A5 := Aside0.mk A50
  clear A50
  replace H := Option.bind_eq_some_iff.mp H
  obtain ⟨t424, A60, H⟩ := H
  replace H : (some (t424, 0)) = some (r1, r2) := H
  have A6 := Aside0.mk A60
  clear A60
  simp only [Option.some.injEq, Prod.mk.injEq] at H
  obtain ⟨rfl, rfl⟩ := H
  go_enter Tryd.func15, Tryd.ntmps15
  go_wp2_with (first | ((with_reducible refine gate_dst (N := 1) rfl ?_); (try (refine gate_guard (by rfl) ?_; dsimp only)); refine qF (N := 1) (cs := ((Ar.cells .u32 8 a0_0) ++ #[.slice A0_1 l0_1.length c0_1, .int .u64 a0_2])) (t := 36) ?_; intro gb411 hg w7 hbox hb; have BK411 := Aside0.mk (hbox); have GW411 := Aside0.mk ((qe HB hg : w.heap.size ≤ gb411)); have GE411 := Aside0.mk ((qe HB hg : w.heap.size ≤ gb411)); replace HB := Aside0.mk (below_step (qs HB) hb); clear hb hbox hg) | ((with_reducible refine gate_dst (N := 2) rfl ?_); (try (refine gate_guard (by rfl) ?_; dsimp only)); refine qE (N := 2) (cs := (Ar.cells .u8 32 (List.replicate 32 0))) (t := 26) ?_; intro gb412 hg w8 hbox hb; have BK412 := Aside0.mk (hbox); have GW412 := Aside0.mk ((qe HB hg : w.heap.size ≤ gb412)); have GE412 := Aside0.mk ((qe HB hg : w.heap.size ≤ gb412)); replace HB := Aside0.mk (below_step (qs HB) hb); have NB411_412 := Aside0.mk ((qu BK411 hg : gb411 ≠ gb412)); have NB412_411 := Aside0.mk ((qw BK411 hg : gb412 ≠ gb411)); replace BK411 := Aside0.mk (qB BK411 hb); clear hb hbox hg; have hnb9 := NB411_412.out; have hnc9 := NB412_411.out; have hcz10_1 : w8.cell? ⟨gb411, 8, none⟩ = some (.slice A0_1 l0_1.length c0_1) := (blk_cell BK411.out 8).trans qc; have hcz10_2 : w8.cell? ⟨gb411, 9, none⟩ = some (.int .u64 a0_2) := (blk_cell BK411.out 9).trans qc) | ((with_reducible refine gate_callee (f := 35) rfl ?_); refine goesL_ (some 13) rfl rfl Tryd.func35 (by kernel_rfl) rfl #[.slice A0_1 l0_1.length c0_1, .int .u64 a0_2] rfl ql ?_; (with_reducible refine (drawlotref02_Tail.calls k _ _ l0_1 a0_2 t413 true _ ?side1 ?side2 A2.out).mono ?_); (case side1 => repeat (first | exact (Kd.C_below HR0_1.out HB.out) | (with_reducible refine Kd.C_alloc ?_ _) | (with_reducible refine Kd.C_drewN ?_ _) | (with_reducible refine Kd.C_drew ?_))); (case side2 => exact HC0_1.out); rintro e w11 ⟨v415, rfl, ho0, hb⟩; refine ⟨_, rfl, ?_⟩; have HO416 := Aside0.mk (Kd.R_lower ho0 (below_size (qs HB))); replace BK411 := Aside0.mk (qB BK411 hb); replace BK412 := Aside0.mk (qB BK412 hb); replace HB := Aside0.mk (below_step (qs HB) hb); (try clear hb); (try clear hb2); (try clear hk); (try clear hi); (try clear ho0); obtain ⟨Ao12, co12, eo12⟩ := Kd.R_slice HO416.out; subst eo12) | ((with_reducible refine gate_callee (f := 26) rfl ?_); refine goesL_ (some 21) rfl rfl Tryd.func26 (by kernel_rfl) rfl #[.slice Ao12 t413.length co12] rfl ql ?_; (with_reducible refine (drawlotref02_Cut.calls k (fun k_ => some k_ = (.slice Ao12 t413.length co12 : Value).ownBlock) _ _ t413 t417 t420 _ ?side1 A4.out).mono ?_); (case side1 => exact Kd.R_V (Kd.R_tight rfl (Kd.R_types (Kd.R_types (HO416.out) BK411.out (by decide)) BK412.out (by decide)))); rintro e w13 ⟨v418, v421, rfl, ho0, ho1, hb⟩; refine ⟨_, rfl, ?_⟩; have HO419 := Aside0.mk (Kd.R_lower (Kd.R_mono (ok' := fun k_ => True) ho0 (fun _ hk_ => trivial)) (below_size (qs HB))); have HO422 := Aside0.mk (Kd.V_lower (Kd.V_mono (ok' := fun k_ => some k_ ≠ (v418 : Value).ownBlock ∧ k_ ≠ gb411 ∧ k_ ≠ gb412) ho1 (fun k_ hk_ => ⟨hk_.2, Or.elim hk_.1 (fun hs_ => ((Kd.R_types (Kd.R_types (HO416.out) BK411.out (by decide)) BK412.out (by decide)).1 k_ hs_.symm).1.2) (fun hn_ => (Kd.freshB (g := gb411) (o := .cells ((Ar.cells .u32 8 a0_0) ++ #[.slice A0_1 l0_1.length c0_1, .int .u64 a0_2]) 36 (0, 0)) (qb BK411) k_ hn_)), Or.elim hk_.1 (fun hs_ => ((Kd.R_types (Kd.R_types (HO416.out) BK411.out (by decide)) BK412.out (by decide)).1 k_ hs_.symm).2) (fun hn_ => (Kd.freshB (g := gb412) (o := .cells (Ar.cells .u8 32 (List.replicate 32 0)) 26 (0, 0)) (qb BK412) k_ hn_))⟩)) (below_size (qs HB))); replace HO416 := Aside0.mk (Kd.R_below (qr HO416) hb); replace BK411 := Aside0.mk (qB BK411 hb); replace BK412 := Aside0.mk (qB BK412 hb); replace HB := Aside0.mk (below_step (qs HB) hb); (try clear hb); (try clear hb2); (try clear hk); (try clear hi); (try clear ho0); (try clear ho1); obtain ⟨Ao14, co14, eo14⟩ := Kd.R_slice HO419.out; subst eo14) | ((with_reducible refine gate_dst (N := 25) rfl ?_); (try (refine gate_guard (by rfl) ?_; dsimp only)); refine Ar.gload_event rfl (T := 33) rfl Tryd.underlying33 rfl (D := (Ar.cells .u32 8 a0_0)) qz (A := ⟨gb411, 0, none⟩) rfl (Ar.blk_part (qb BK411) Ar.in_first) ?_) | ((with_reducible refine gate_callee (f := 29) rfl ?_); refine goesL_ (some 27) rfl rfl Tryd.func29 (by kernel_rfl) rfl #[.agg (Ar.cells .u32 8 a0_0), .slice Ao14 t417.length co14] rfl ql ?_; (with_reducible refine (drawlotref05_take.calls k a0_0 _ _ t417 t423 _ ?side1 ?side2 A5.out).mono ?_); (case side1 => repeat (first | exact (Kd.R_reads' HO419.out).2.2 | (with_reducible refine Kd.C_alloc ?_ _) | (with_reducible refine Kd.C_drewN ?_ _) | (with_reducible refine Kd.C_drew ?_))); (case side2 => exact (Kd.R_reads' HO419.out).2.1); rintro e w15 ⟨rfl, hb⟩; refine ⟨_, rfl, ?_⟩; replace HO416 := Aside0.mk (Kd.R_below (qr HO416) hb); replace HO419 := Aside0.mk (Kd.R_below (qr HO419) hb); replace HO422 := Aside0.mk (Kd.V_below (qv HO422) hb); replace BK411 := Aside0.mk (qB BK411 hb); replace BK412 := Aside0.mk (qB BK412 hb); replace HB := Aside0.mk (below_step (qs HB) hb); (try clear hb); (try clear hb2); (try clear hk); (try clear hi)) | ((with_reducible refine gate_callee (f := 28) rfl ?_); refine goesL_ (some 28) rfl rfl Tryd.func28 (by kernel_rfl) rfl #[.agg (Ar.cells .u32 8 t423)] rfl ql ?_; (with_reducible refine (drawlotref05_hash.calls k t423 t424 _ A6.out).mono ?_); rintro e w16 ⟨rfl, hb⟩; refine ⟨_, rfl, ?_⟩; replace HO416 := Aside0.mk (Kd.R_below (qr HO416) hb); replace HO419 := Aside0.mk (Kd.R_below (qr HO419) hb); replace HO422 := Aside0.mk (Kd.V_below (qv HO422) hb); replace BK411 := Aside0.mk (qB BK411 hb); replace BK412 := Aside0.mk (qB BK412 hb); replace HB := Aside0.mk (below_step (qs HB) hb); (try clear hb); (try clear hb2); (try clear hk); (try clear hi)) | ((with_reducible refine gate_store (t := 26) (p := 2) rfl ?_); refine Ar.store_all_event rfl rfl rfl Tryd.underlying26 (by kernel_rfl) (g := gb412) rfl (z := t424) qg (qb BK412) ?_; intro w17 hbk_ hg; replace BK411 := Aside0.mk (qG BK411 hg (fun e_ => NB411_412.out (Option.some.inj e_))); replace HO416 := Aside0.mk (Kd.R_mono (Kd.R_grown (Kd.R_types (qr HO416) BK412.out (by decide)) hg (fun k_ hk_ e_ => hk_.2 (Option.some.inj e_))) (fun _ h_ => h_.1)); replace HO419 := Aside0.mk (Kd.R_mono (Kd.R_grown (Kd.R_types (qr HO419) BK412.out (by decide)) hg (fun k_ hk_ e_ => hk_.2 (Option.some.inj e_))) (fun _ h_ => h_.1)); replace HO422 := Aside0.mk (Kd.V_grown (qv HO422) hg (by intro k_ hk e_; exact (hk.2.2) (Option.some.inj e_))); replace BK412 := Aside0.mk (hbk_); replace HB := Aside0.mk (Below.grown (qs HB) hg ((below_size (qs HB))) (fun _ e_ => by cases e_; exact GE412.out)); clear hbk_ hg))
  refine bodyPost_ret (results_ct rfl _ _ gb412 26 (Ar.cells .u8 32 t424) (0, 0) _ rfl (qb BK412) Tryd.underlying26 rfl qZ) rfl ?_
  exact ⟨by first | rfl | (simp [errW_none, errW_some] <;> rfl) | (simp [*, errW_none, errW_some] <;> rfl), by repeat (first | (with_reducible first | exact HB.out | apply below_alloc | apply pw_below_drewN | apply below_drew1 | refine below_set ?_ GE411.out | refine below_set ?_ GE412.out) | exact HB.out)⟩
 ·replace c3 := Bool.eq_false_iff.mpr c3
  subst c3
  have H1 : (some ([0, 0, 0, 0, 0, 0, 0, 0, 0, 0, 0, 0, 0, 0, 0, 0, 0, 0, 0, 0, 0, 0, 0, 0, 0, 0, 0, 0, 0, 0, 0, 0], 1)) = some (r1, r2) := by rw [if_neg (show ¬ (false = true) by decide)] at H; exact H
  clear H
  have H := H1
  clear H1
  simp only [Option.some.injEq, Prod.mk.injEq] at H
  obtain ⟨rfl, rfl⟩ := H
  go_enter Tryd.func15, Tryd.ntmps15
  go_wp2_with (first | ((with_reducible refine gate_dst (N := 1) rfl ?_); (try (refine gate_guard (by rfl) ?_; dsimp only)); refine qF (N := 1) (cs := ((Ar.cells .u32 8 a0_0) ++ #[.slice A0_1 l0_1.length c0_1, .int .u64 a0_2])) (t := 36) ?_; intro gb411 hg w18 hbox hb; have BK411 := Aside0.mk (hbox); have GW411 := Aside0.mk ((qe HB hg : w.heap.size ≤ gb411)); have GE411 := Aside0.mk ((qe HB hg : w.heap.size ≤ gb411)); replace HB := Aside0.mk (below_step (qs HB) hb); clear hb hbox hg) | ((with_reducible refine gate_dst (N := 2) rfl ?_); (try (refine gate_guard (by rfl) ?_; dsimp only)); refine qE (N := 2) (cs := (Ar.cells .u8 32 (List.replicate 32 0))) (t := 26) ?_; intro gb412 hg w19 hbox hb; have BK412 := Aside0.mk (hbox); have GW412 := Aside0.mk ((qe HB hg : w.heap.size ≤ gb412)); have GE412 := Aside0.mk ((qe HB hg : w.heap.size ≤ gb412)); replace HB := Aside0.mk (below_step (qs HB) hb); have NB411_412 := Aside0.mk ((qu BK411 hg : gb411 ≠ gb412)); have NB412_411 := Aside0.mk ((qw BK411 hg : gb412 ≠ gb411)); replace BK411 := Aside0.mk (qB BK411 hb); clear hb hbox hg; have hnb20 := NB411_412.out; have hnc20 := NB412_411.out; have hcz21_1 : w19.cell? ⟨gb411, 8, none⟩ = some (.slice A0_1 l0_1.length c0_1) := (blk_cell BK411.out 8).trans qc; have hcz21_2 : w19.cell? ⟨gb411, 9, none⟩ = some (.int .u64 a0_2) := (blk_cell BK411.out 9).trans qc) | ((with_reducible refine gate_callee (f := 35) rfl ?_); refine goesL_ (some 13) rfl rfl Tryd.func35 (by kernel_rfl) rfl #[.slice A0_1 l0_1.length c0_1, .int .u64 a0_2] rfl ql ?_; (with_reducible refine (drawlotref02_Tail.calls k _ _ l0_1 a0_2 t413 false _ ?side1 ?side2 A2.out).mono ?_); (case side1 => repeat (first | exact (Kd.C_below HR0_1.out HB.out) | (with_reducible refine Kd.C_alloc ?_ _) | (with_reducible refine Kd.C_drewN ?_ _) | (with_reducible refine Kd.C_drew ?_))); (case side2 => exact HC0_1.out); rintro e w22 ⟨v415, rfl, ho0, hb⟩; refine ⟨_, rfl, ?_⟩; have HO416 := Aside0.mk (Kd.R_lower ho0 (below_size (qs HB))); replace BK411 := Aside0.mk (qB BK411 hb); replace BK412 := Aside0.mk (qB BK412 hb); replace HB := Aside0.mk (below_step (qs HB) hb); (try clear hb); (try clear hb2); (try clear hk); (try clear hi); (try clear ho0)) | ((with_reducible refine gate_dst (N := 18) rfl ?_); (try (refine gate_guard (by rfl) ?_; dsimp only)); refine Ar.build_event rfl (D := 18) rfl (T := 26) rfl (k := .u8) (n := 32) (l := [0, 0, 0, 0, 0, 0, 0, 0, 0, 0, 0, 0, 0, 0, 0, 0, 0, 0, 0, 0, 0, 0, 0, 0, 0, 0, 0, 0, 0, 0, 0, 0]) Tryd.underlying26 (by kernel_rfl) (by kernel_rfl) [] (by rfl) (by rfl) (by rfl) ?_) | ((with_reducible refine gate_store (t := 26) (p := 2) rfl ?_); refine Ar.store_all_event rfl rfl rfl Tryd.underlying26 (by kernel_rfl) (g := gb412) rfl (z := [0, 0, 0, 0, 0, 0, 0, 0, 0, 0, 0, 0, 0, 0, 0, 0, 0, 0, 0, 0, 0, 0, 0, 0, 0, 0, 0, 0, 0, 0, 0, 0]) qg (qb BK412) ?_; intro w23 hbk_ hg; replace BK411 := Aside0.mk (qG BK411 hg (fun e_ => NB411_412.out (Option.some.inj e_))); replace HO416 := Aside0.mk (Kd.R_mono (Kd.R_grown (Kd.R_types (qr HO416) BK412.out (by decide)) hg (fun k_ hk_ e_ => hk_.2 (Option.some.inj e_))) (fun _ h_ => h_.1)); replace BK412 := Aside0.mk (hbk_); replace HB := Aside0.mk (Below.grown (qs HB) hg ((below_size (qs HB))) (fun _ e_ => by cases e_; exact GE412.out)); clear hbk_ hg))
  refine bodyPost_ret (results_ct rfl _ _ gb412 26 (Ar.cells .u8 32 [0, 0, 0, 0, 0, 0, 0, 0, 0, 0, 0, 0, 0, 0, 0, 0, 0, 0, 0, 0, 0, 0, 0, 0, 0, 0, 0, 0, 0, 0, 0, 0]) (0, 0) _ rfl (qb BK412) Tryd.underlying26 rfl qZ) rfl ?_
  exact ⟨by first | rfl | (simp [errW_none, errW_some] <;> rfl) | (simp [*, errW_none, errW_some] <;> rfl), by repeat (first | (with_reducible first | exact HB.out | apply below_alloc | apply pw_below_drewN | apply below_drew1 | refine below_set ?_ GE411.out | refine below_set ?_ GE412.out) | exact HB.out)⟩
def drawlotref05_Same.f (a0_0 : List Int) (l0_1 : List Int) (a0_2 : Int) (a1_0 : List Int) (l1_1 : List Int) (a1_2 : Int) : Option (Bool) := if (Ar.eqb 8 a0_0 a1_0) = true then (if (strOfNums l0_1).toList = (strOfNums l1_1).toList then (some (a0_2 == a1_2)) else (some false)) else (some false)
set_option maxHeartbeats 8000000 in
set_option maxRecDepth 100000 in
theorem drawlotref05_Same.calls (a0_0 : List Int) (A0_1 : Option Addr) (c0_1 : Nat) (l0_1 : List Int) (a0_2 : Int) (a1_0 : List Int) (A1_1 : Option Addr) (c1_1 : Nat) (l1_1 : List Int) (a1_2 : Int) (r : Bool) (w : World) (hr0_1 : Kd.C (Kd.int .u8) w A0_1 l0_1.length l0_1) (hc0_1 : l0_1.length ≤ c0_1) (hr1_1 : Kd.C (Kd.int .u8) w A1_1 l1_1.length l1_1) (hc1_1 : l1_1.length ≤ c1_1) (h : drawlotref05_Same.f a0_0 l0_1 a0_2 a1_0 l1_1 a1_2 = some r) :
  Calls Tryd.prog 16 #[.agg (Ar.cells .u32 8 a0_0 ++ #[.slice A0_1 l0_1.length c0_1, .int .u64 a0_2]), .agg (Ar.cells .u32 8 a1_0 ++ #[.slice A1_1 l1_1.length c1_1, .int .u64 a1_2])] w fun e w' => e = .returned (.bool r) ∧ Below w.heap.size w w' := by
 have hu36 := Tryd.underlying36
 have HR0_1 := Aside0.mk hr0_1
 have HC0_1 := Aside0.mk hc0_1
 clear hr0_1 hc0_1
 have HR1_1 := Aside0.mk hr1_1
 have HC1_1 := Aside0.mk hc1_1
 clear hr1_1 hc1_1
 have HB := Aside0.mk (Below.refl w.heap.size w)
 have H : (if (Ar.eqb 8 a0_0 a1_0) = true then (if (strOfNums l0_1).toList = (strOfNums l1_1).toList then (some (a0_2 == a1_2)) else (some false)) else (some false)) = some r := h
 clear h
 by_cases c3 : (Ar.eqb 8 a0_0 a1_0) = true
 ·rw [if_pos c3] at H
  have c3b0 : (Ar.eqb 8 a0_0 a1_0) = true := c3
  clear c3
  by_cases c4 : (strOfNums l0_1).toList = (strOfNums l1_1).toList
  ·rw [if_pos c4] at H
   have c4b0 : ((strOfNums l0_1).toList == (strOfNums l1_1).toList) = true := beq_iff_eq.mpr c4
   have c4b1 : ((strOfNums l0_1).toList != (strOfNums l1_1).toList) = false := bne_eq_false_iff_eq.mpr c4
   clear c4
   obtain rfl := Option.some.inj H
   go_enter Tryd.func16, Tryd.ntmps16
   go_wp2_with (first | ((with_reducible refine gate_dst (N := 2) rfl ?_); (try (refine gate_guard (by rfl) ?_; dsimp only)); refine qF (N := 2) (cs := ((Ar.cells .u32 8 a0_0) ++ #[.slice A0_1 l0_1.length c0_1, .int .u64 a0_2])) (t := 36) ?_; intro gb425 hg w5 hbox hb; have BK425 := Aside0.mk (hbox); have GW425 := Aside0.mk ((qe HB hg : w.heap.size ≤ gb425)); have GE425 := Aside0.mk ((qe HB hg : w.heap.size ≤ gb425)); replace HB := Aside0.mk (below_step (qs HB) hb); clear hb hbox hg) | ((with_reducible refine gate_dst (N := 3) rfl ?_); (try (refine gate_guard (by rfl) ?_; dsimp only)); refine qF (N := 3) (cs := ((Ar.cells .u32 8 a1_0) ++ #[.slice A1_1 l1_1.length c1_1, .int .u64 a1_2])) (t := 36) ?_; intro gb426 hg w6 hbox hb; have BK426 := Aside0.mk (hbox); have GW426 := Aside0.mk ((qe HB hg : w.heap.size ≤ gb426)); have GE426 := Aside0.mk ((qe HB hg : w.heap.size ≤ gb426)); replace HB := Aside0.mk (below_step (qs HB) hb); have NB425_426 := Aside0.mk ((qu BK425 hg : gb425 ≠ gb426)); have NB426_425 := Aside0.mk ((qw BK425 hg : gb426 ≠ gb425)); replace BK425 := Aside0.mk (qB BK425 hb); clear hb hbox hg) | ((with_reducible refine gate_dst (N := 6) rfl ?_); (try (refine gate_guard (by rfl) ?_; dsimp only)); refine Ar.gload_event rfl (T := 33) rfl Tryd.underlying33 rfl (D := (Ar.cells .u32 8 a0_0)) qz (A := ⟨gb425, 0, none⟩) rfl (Ar.blk_part (qb BK425) Ar.in_first) ?_) | ((with_reducible refine gate_dst (N := 8) rfl ?_); (try (refine gate_guard (by rfl) ?_; dsimp only)); refine Ar.gload_event rfl (T := 33) rfl Tryd.underlying33 rfl (D := (Ar.cells .u32 8 a1_0)) qz (A := ⟨gb426, 0, none⟩) rfl (Ar.blk_part (qb BK426) Ar.in_first) ?_) | ((with_reducible refine gate_dst (N := 9) rfl ?_); (try (refine gate_guard (by rfl) ?_; dsimp only)); refine Ar.eq_event rfl (D := 9) rfl (T := 33) (neq := false) rfl Tryd.underlying33 (by kernel_rfl) Tryd.underlying31 (by kernel_rfl) (k := .u32) (n := 8) (l := a0_0) (m := a1_0) qg qg ?_; dsimp only [if_true, if_false, Bool.false_eq_true]; have hnb7 := NB425_426.out; have hnc7 := NB426_425.out; have hcz8_1 : w6.cell? ⟨gb425, 8, none⟩ = some (.slice A0_1 l0_1.length c0_1) := (blk_cell BK425.out 8).trans qc; have hcz8_2 : w6.cell? ⟨gb425, 9, none⟩ = some (.int .u64 a0_2) := (blk_cell BK425.out 9).trans qc; have hcv9 := Kd.C_string (P := Tryd.prog) (A := A0_1) (c := c0_1) Tryd.underlying29 Tryd.underlying5 Tryd.underlying9 (Kd.C_below HR0_1.out HB.out); have hcz10_1 : w6.cell? ⟨gb426, 8, none⟩ = some (.slice A1_1 l1_1.length c1_1) := (blk_cell BK426.out 8).trans qc; have hcz10_2 : w6.cell? ⟨gb426, 9, none⟩ = some (.int .u64 a1_2) := (blk_cell BK426.out 9).trans qc; have hcv11 := Kd.C_string (P := Tryd.prog) (A := A1_1) (c := c1_1) Tryd.underlying29 Tryd.underlying5 Tryd.underlying9 (Kd.C_below HR1_1.out HB.out)))
   go_ret
   exact ⟨by first | rfl | (simp [errW_none, errW_some] <;> rfl) | (simp [*, errW_none, errW_some] <;> rfl), by repeat (first | (with_reducible first | exact HB.out | apply below_alloc | apply pw_below_drewN | apply below_drew1 | refine below_set ?_ GE425.out | refine below_set ?_ GE426.out) | exact HB.out)⟩
  ·rw [if_neg c4] at H
   have c4b0 : ((strOfNums l0_1).toList == (strOfNums l1_1).toList) = false := beq_eq_false_iff_ne.mpr c4
   have c4b1 : ((strOfNums l0_1).toList != (strOfNums l1_1).toList) = true := bne_iff_ne.mpr c4
   obtain rfl := Option.some.inj H
   go_enter Tryd.func16, Tryd.ntmps16
   go_wp2_with (first | ((with_reducible refine gate_dst (N := 2) rfl ?_); (try (refine gate_guard (by rfl) ?_; dsimp only)); refine qF (N := 2) (cs := ((Ar.cells .u32 8 a0_0) ++ #[.slice A0_1 l0_1.length c0_1, .int .u64 a0_2])) (t := 36) ?_; intro gb425 hg w12 hbox hb; have BK425 := Aside0.mk (hbox); have GW425 := Aside0.mk ((qe HB hg : w.heap.size ≤ gb425)); have GE425 := Aside0.mk ((qe HB hg : w.heap.size ≤ gb425)); replace HB := Aside0.mk (below_step (qs HB) hb); clear hb hbox hg) | ((with_reducible refine gate_dst (N := 3) rfl ?_); (try (refine gate_guard (by rfl) ?_; dsimp only)); refine qF (N := 3) (cs := ((Ar.cells .u32 8 a1_0) ++ #[.slice A1_1 l1_1.length c1_1, .int .u64 a1_2])) (t := 36) ?_; intro gb426 hg w13 hbox hb; have BK426 := Aside0.mk (hbox); have GW426 := Aside0.mk ((qe HB hg : w.heap.size ≤ gb426)); have GE426 := Aside0.mk ((qe HB hg : w.heap.size ≤ gb426)); replace HB := Aside0.mk (below_step (qs HB) hb); have NB425_426 := Aside0.mk ((qu BK425 hg : gb425 ≠ gb426)); have NB426_425 := Aside0.mk ((qw BK425 hg : gb426 ≠ gb425)); replace BK425 := Aside0.mk (qB BK425 hb); clear hb hbox hg) | ((with_reducible refine gate_dst (N := 6) rfl ?_); (try (refine gate_guard (by rfl) ?_; dsimp only)); refine Ar.gload_event rfl (T := 33) rfl Tryd.underlying33 rfl (D := (Ar.cells .u32 8 a0_0)) qz (A := ⟨gb425, 0, none⟩) rfl (Ar.blk_part (qb BK425) Ar.in_first) ?_) | ((with_reducible refine gate_dst (N := 8) rfl ?_); (try (refine gate_guard (by rfl) ?_; dsimp only)); refine Ar.gload_event rfl (T := 33) rfl Tryd.underlying33 rfl (D := (Ar.cells .u32 8 a1_0)) qz (A := ⟨gb426, 0, none⟩) rfl (Ar.blk_part (qb BK426) Ar.in_first) ?_) | ((with_reducible refine gate_dst (N := 9) rfl ?_); (try (refine gate_guard (by rfl) ?_; dsimp only)); refine Ar.eq_event rfl (D := 9) rfl (T := 33) (neq := false) rfl Tryd.underlying33 (by kernel_rfl) Tryd.underlying31 (by kernel_rfl) (k := .u32) (n := 8) (l := a0_0) (m := a1_0) qg qg ?_; dsimp only [if_true, if_false, Bool.false_eq_true]; have hnb14 := NB425_426.out; have hnc14 := NB426_425.out; have hcz15_1 : w13.cell? ⟨gb425, 8, none⟩ = some (.slice A0_1 l0_1.length c0_1) := (blk_cell BK425.out 8).trans qc; have hcz15_2 : w13.cell? ⟨gb425, 9, none⟩ = some (.int .u64 a0_2) := (blk_cell BK425.out 9).trans qc; have hcv16 := Kd.C_string (P := Tryd.prog) (A := A0_1) (c := c0_1) Tryd.underlying29 Tryd.underlying5 Tryd.underlying9 (Kd.C_below HR0_1.out HB.out); have hcz17_1 : w13.cell? ⟨gb426, 8, none⟩ = some (.slice A1_1 l1_1.length c1_1) := (blk_cell BK426.out 8).trans qc; have hcz17_2 : w13.cell? ⟨gb426, 9, none⟩ = some (.int .u64 a1_2) := (blk_cell BK426.out 9).trans qc; have hcv18 := Kd.C_string (P := Tryd.prog) (A := A1_1) (c := c1_1) Tryd.underlying29 Tryd.underlying5 Tryd.underlying9 (Kd.C_below HR1_1.out HB.out)))
   go_ret
   exact ⟨by first | rfl | (simp [errW_none, errW_some] <;> rfl) | (simp [*, errW_none, errW_some] <;> rfl), by repeat (first | (with_reducible first | exact HB.out | apply below_alloc | apply pw_below_drewN | apply below_drew1 | refine below_set ?_ GE425.out | refine below_set ?_ GE426.out) | exact HB.out)⟩
 ·rw [if_neg c3] at H
  have c3b0 : (Ar.eqb 8 a0_0 a1_0) = false := by simpa using c3
  clear c3
  obtain rfl := Option.some.inj H
  go_enter Tryd.func16, Tryd.ntmps16
  go_wp2_with (first | ((with_reducible refine gate_dst (N := 2) rfl ?_); (try (refine gate_guard (by rfl) ?_; dsimp only)); refine qF (N := 2) (cs := ((Ar.cells .u32 8 a0_0) ++ #[.slice A0_1 l0_1.length c0_1, .int .u64 a0_2])) (t := 36) ?_; intro gb425 hg w19 hbox hb; have BK425 := Aside0.mk (hbox); have GW425 := Aside0.mk ((qe HB hg : w.heap.size ≤ gb425)); have GE425 := Aside0.mk ((qe HB hg : w.heap.size ≤ gb425)); replace HB := Aside0.mk (below_step (qs HB) hb); clear hb hbox hg) | ((with_reducible refine gate_dst (N := 3) rfl ?_); (try (refine gate_guard (by rfl) ?_; dsimp only)); refine qF (N := 3) (cs := ((Ar.cells .u32 8 a1_0) ++ #[.slice A1_1 l1_1.length c1_1, .int .u64 a1_2])) (t := 36) ?_; intro gb426 hg w20 hbox hb; have BK426 := Aside0.mk (hbox); have GW426 := Aside0.mk ((qe HB hg : w.heap.size ≤ gb426)); have GE426 := Aside0.mk ((qe HB hg : w.heap.size ≤ gb426)); replace HB := Aside0.mk (below_step (qs HB) hb); have NB425_426 := Aside0.mk ((qu BK425 hg : gb425 ≠ gb426)); have NB426_425 := Aside0.mk ((qw BK425 hg : gb426 ≠ gb425)); replace BK425 := Aside0.mk (qB BK425 hb); clear hb hbox hg) | ((with_reducible refine gate_dst (N := 6) rfl ?_); (try (refine gate_guard (by rfl) ?_; dsimp only)); refine Ar.gload_event rfl (T := 33) rfl Tryd.underlying33 rfl (D := (Ar.cells .u32 8 a0_0)) qz (A := ⟨gb425, 0, none⟩) rfl (Ar.blk_part (qb BK425) Ar.in_first) ?_) | ((with_reducible refine gate_dst (N := 8) rfl ?_); (try (refine gate_guard (by rfl) ?_; dsimp only)); refine Ar.gload_event rfl (T := 33) rfl Tryd.underlying33 rfl (D := (Ar.cells .u32 8 a1_0)) qz (A := ⟨gb426, 0, none⟩) rfl (Ar.blk_part (qb BK426) Ar.in_first) ?_) | ((with_reducible refine gate_dst (N := 9) rfl ?_); (try (refine gate_guard (by rfl) ?_; dsimp only)); refine Ar.eq_event rfl (D := 9) rfl (T := 33) (neq := false) rfl Tryd.underlying33 (by kernel_rfl) Tryd.underlying31 (by kernel_rfl) (k := .u32) (n := 8) (l := a0_0) (m := a1_0) qg qg ?_; dsimp only [if_true, if_false, Bool.false_eq_true]))
  go_ret
  exact ⟨by first | rfl | (simp [errW_none, errW_some] <;> rfl) | (simp [*, errW_none, errW_some] <;> rfl), by repeat (first | (with_reducible first | exact HB.out | apply below_alloc | apply pw_below_drewN | apply below_drew1 | refine below_set ?_ GE425.out | refine below_set ?_ GE426.out) | exact HB.out)⟩
def drawlotref05_New.f  : Option (List Int × List Int × Int) := (drawlotref04_Start.f).bind fun t428 => (some (t428, ([] : List Int), 0))
set_option maxHeartbeats 8000000 in
set_option maxRecDepth 100000 in
theorem drawlotref05_New.calls  (r1 : List Int) (r2 : List Int) (r3 : Int) (w : World) (h : drawlotref05_New.f  = some (r1, r2, r3)) :
    Calls Tryd.prog 21 #[] w fun e w' => ∃ v1_ : Value, e = .returned (.agg (Ar.cells .u32 8 r1 ++ #[v1_, .int .u64 r3])) ∧ Kd.R (Kd.int .u8) 5 w' w.heap.size (fun _ => True) v1_ r2 ∧ Below w.heap.size w w' := by
  have hu36 := Tryd.underlying36
  have HB := Aside0.mk (Below.refl w.heap.size w)
  have H : ((drawlotref04_Start.f).bind fun t428 => (some (t428, ([] : List Int), 0))) = some (r1, r2, r3) := h
  clear h
  replace H := Option.bind_eq_some_iff.mp H
  obtain ⟨t428, A10, H⟩ := H
  replace H : (some (t428, ([] : List Int), 0)) = some (r1, r2, r3) := H
  have A1 := Aside0.mk A10
  clear A10
  simp only [Option.some.injEq, Prod.mk.injEq] at H
  obtain ⟨rfl, rfl, rfl⟩ := H
  go_enter Tryd.func21, Tryd.ntmps21
  go_wp2_with (first | ((with_reducible refine gate_dst (N := 0) rfl ?_); (try (refine gate_guard (by rfl) ?_; dsimp only)); refine qF (N := 0) (cs := ((Ar.cells .u32 8 (List.replicate 8 0)) ++ #[.slice none 0 0, .int .u64 0])) (t := 36) ?_; intro gb427 hg w2 hbox hb; have BK427 := Aside0.mk (hbox); have GW427 := Aside0.mk ((qe HB hg : w.heap.size ≤ gb427)); have GE427 := Aside0.mk ((qe HB hg : w.heap.size ≤ gb427)); replace HB := Aside0.mk (below_step (qs HB) hb); clear hb hbox hg) | ((with_reducible refine gate_callee (f := 30) rfl ?_); refine goesL_ (some 1) rfl rfl Tryd.func30 (by kernel_rfl) rfl #[] rfl ql ?_; (with_reducible refine (drawlotref04_Start.calls  t428 _ A1.out).mono ?_); rintro e w3 ⟨rfl, hb⟩; refine ⟨_, rfl, ?_⟩; replace BK427 := Aside0.mk (qB BK427 hb); replace HB := Aside0.mk (below_step (qs HB) hb); (try clear hb); (try clear hb2); (try clear hk); (try clear hi)) | ((with_reducible refine gate_dst (N := 2) rfl ?_); (try (refine gate_guard (by rfl) ?_; dsimp only)); refine Ar.gbuild_event rfl (T := 36) rfl (D := ((Ar.cells .u32 8 t428) ++ #[.slice none 0 0, .int .u64 0])) (by simp only [List.map_toArray, List.map_cons, List.map_nil]; exact fatBuild36_0 _ t428) ?_) | ((with_reducible refine gate_store (t := 36) (p := 0) rfl ?_); refine Ar.gstore_event rfl rfl rfl (D := ((Ar.cells .u32 8 t428) ++ #[.slice none 0 0, .int .u64 0])) qz (g := gb427) rfl qg (qb BK427) (by simp [Ar.cells_size]) (by repeat (first | (with_reducible refine Ar.all_app ?_ ?_) | (with_reducible exact Ar.cells_one _ _ _) | (focus (simp [Value.oneCell']; done)) | rfl)) ?_; intro w4 hbk_ hg; replace BK427 := Aside0.mk (hbk_); replace HB := Aside0.mk (Below.grown (qs HB) hg ((below_size (qs HB))) (fun _ e_ => by cases e_; exact GE427.out)); clear hbk_ hg))
  refine bodyPost_ret (results_cell_row rfl _ _ gb427 36 ((Ar.cells .u32 8 t428) ++ #[.slice none 0 0, .int .u64 0]) (0, 0) _ rfl (qb BK427) Tryd.underlying36 rfl qZ) rfl ?_
  exact ⟨_, by first | rfl | (simp [errW_none, errW_some] <;> rfl) | (simp [*, errW_none, errW_some] <;> rfl), by first | exact Kd.R_nil _ _ _ _ _ | exact Kd.N_nil _ _ _ _ _ | exact Kd.V_nil _ _ _ _ _ | exact Kd.Q_nil _ _ _ _ _ | exact Kd.S_nil _ _ _ _ _, by repeat (first | (with_reducible first | exact HB.out | apply below_alloc | apply pw_below_drewN | apply below_drew1 | refine below_set ?_ GE427.out) | exact HB.out)⟩
end Go.Proofs.YtkcdcbiobkcpmaaDoor.PA
end
section
namespace Go.Proofs.YtkcdcbiobkcpmaaDoor.PA
open Go.RowKit Go.Proofs.YtkcdcbiobkcpmaaDoorW.PrintWords Go.Proofs.YtkcdcbiobkcpmaaDoorW.PrintLast Go.Proofs.YtkcdcbiobkcpmaaDoorW.PrintMore
attribute [local go_sem] max2_int min2_int max_two min_two max_three min_three max_four min_four
set_option linter.unusedVariables false
set_option linter.unusedSimpArgs false
theorem au4b {A B : Prop} (H : Aside0 A) (h : A → B := by intro z_; (with_reducible repeat (first | refine blk_drewN ?_ _ | refine blk_drew ?_ | refine blk_alloc ?_ _)); exact z_) : B := h H.out
theorem au4v {A B : Prop} (H : Aside0 A) (h : A → B := by intro z_; (with_reducible repeat (first | apply Kd.V_alloc | apply Kd.V_drewN | apply Kd.V_drew)); exact z_) : B := h H.out
theorem au4r {A B : Prop} (H : Aside0 A) (h : A → B := by intro z_; (with_reducible repeat (first | apply Kd.R_alloc | apply Kd.R_drewN | apply Kd.R_drew)); exact z_) : B := h H.out
theorem au4c {B : Prop} (h : B := by first | (simp [Array.getElem?_append, Ar.cells_size]; done) | (simp [Array.getElem?_append, Array.getElem_push, Ar.cells_size]; done)) : B := h
theorem au4s {A B : Prop} (H : Aside0 A) (h : A → B := by intro z_; repeat (first | (with_reducible first | exact z_ | apply below_alloc | apply pw_below_drewN | apply below_drew1 | refine below_set ?_ (Aside0.out (by assumption))) | exact z_)) : B := h H.out
theorem au4B {g : Nat} {o : Obj} {w0 w w1 : World} (H : Aside0 (w0.heap[g]? = some o)) (hb : Below w.heap.size w w1) (h : w0.heap[g]? = some o → w.heap[g]? = some o := by intro z_; (with_reducible repeat (first | refine blk_drewN ?_ _ | refine blk_drew ?_ | refine blk_alloc ?_ _)); exact z_) : w1.heap[g]? = some o := blk_below (h H.out) hb
theorem au4G {g : Nat} {o : Obj} {w0 w w1 : World} {row : Option Nat} (H : Aside0 (w0.heap[g]? = some o)) (hg : w.grownBy w1 row) (hne : some g ≠ row) (h : w0.heap[g]? = some o → w.heap[g]? = some o := by intro z_; (with_reducible repeat (first | refine blk_drewN ?_ _ | refine blk_drew ?_ | refine blk_alloc ?_ _)); exact z_) : w1.heap[g]? = some o := blk_grown (h H.out) hg hne
def drawlotlaw05_ShaWrites.f (k : Nat) (a0_0 : List Int) (l0_1 : List Int) (a0_2 : Int) (a1_0 : List Int) (l1_1 : List Int) (a1_2 : Int) (l2 : List (List Int)) : Option (Bool) := (drawlotlaw05_alive.f k).bind fun t431 => (if t431 = true then ((drawlotref05_Great.f k l2).bind fun t432 => (if t432 = true then (some true) else (if (l0_1.length : Int) > 200 then (some true) else (if (l1_1.length : Int) > 200 then (some true) else ((some (([] : List Int) : List Int)).bind fun y433 => (if y433.length + l0_1.length < 140737488355328 then ((sha_Write.f k a0_0 l0_1 a0_2 l2).bind fun bt439 => ((drawlotref05_Join.f k l2).bind fun t446 => ((drawlotref05_Write.f k a0_0 l0_1 a0_2 t446).bind fun bt449 => ((sha_Finish.f k a0_0 l0_1 a0_2).bind fun bt456 => ((drawlotref05_Finish.f k a0_0 l0_1 a0_2).bind fun bt459 => ((drawlotref05_Same.f bt439.1 bt439.2.1 bt439.2.2.1 bt449.1 bt449.2.1 bt449.2.2.1).bind fun t462 => (if t462 = true then (if bt439.2.2.2 = bt449.2.2.2 then (if (Ar.eqb 32 bt456.1 bt459.1) = true then (if bt456.2 = bt459.2 then ((sha_Right.f a0_0 l0_1 a0_2).bind fun t463 => ((drawlotref05_Right.f a0_0 l0_1 a0_2).bind fun t464 => (if (t463 == t464) = true then ((sha_Same.f a0_0 l0_1 a0_2 a1_0 l1_1 a1_2).bind fun t465 => ((drawlotref05_Same.f a0_0 l0_1 a0_2 a1_0 l1_1 a1_2).bind fun t466 => (if (t465 == t466) = true then ((sha_New.f).bind fun bt467 => ((drawlotref05_New.f).bind fun bt472 => ((drawlotref05_Same.f bt467.1 bt467.2.1 bt467.2.2 bt472.1 bt472.2.1 bt472.2.2).bind fun t477 => (if t477 = true then (some ((strOfNums (y433 ++ l0_1)).toList == (strOfNums l0_1).toList)) else (none))))) else (none)))) else (none)))) else (none)) else (none)) else (none)) else (none)))))))) else (none))))))) else (none))
theorem drawlotlaw05_ShaWrites.mono : ∀ a0 a1 a2 a3 a4 a5 a6 k, LeO (drawlotlaw05_ShaWrites.f k a0 a1 a2 a3 a4 a5 a6) (drawlotlaw05_ShaWrites.f (k + 1) a0 a1 a2 a3 a4 a5 a6) := by
 intro a0 a1 a2 a3 a4 a5 a6 k
 unfold drawlotlaw05_ShaWrites.f
 repeat' first
   | (with_reducible exact drawlotlaw05_alive.mono _)
   | (with_reducible exact drawlotref05_Finish.mono _ _ _ _)
   | (with_reducible exact drawlotref05_Great.mono _ _)
   | (with_reducible exact drawlotref05_Join.mono _ _)
   | (with_reducible exact drawlotref05_Write.mono _ _ _ _ _)
   | (with_reducible exact sha_Finish.mono _ _ _ _)
   | (with_reducible exact sha_Write.mono _ _ _ _ _)
   | (with_reducible exact LeO.refl _)
   | (with_reducible exact LeO.none _)
   | (with_reducible refine LeO.ite ?_ ?_)
   | (with_reducible refine LeO.bind ?_ (fun _ => ?_))
   | exact drawlotlaw05_alive.mono _
   | exact drawlotref05_Finish.mono _ _ _ _
   | exact drawlotref05_Great.mono _ _
   | exact drawlotref05_Join.mono _ _
   | exact drawlotref05_Write.mono _ _ _ _ _
   | exact sha_Finish.mono _ _ _ _
   | exact sha_Write.mono _ _ _ _ _
   | exact LeO.none _
   | refine LeO.ite ?_ ?_
   | refine LeO.bind ?_ (fun _ => ?_)
def drawlotlaw05_ShaWrites.T7 : Bool × List (List Nat × List Nat) := (true, [([], []), ([], []), ([1], [1]), ([0, 2, 2], [0, 2]), ([3], [3]), ([4], [4]), ([4], [4]), ([], []), ([7, 5, 3, 0, 1, 2, 3, 4, 5, 7], [5, 7]), ([6, 8, 0, 1, 2, 3, 4, 5, 6, 7, 8], [6])])
def drawlotlaw05_ShaWrites.B7 : List Nat := [0, 0, 2, 7, 15, 31, 31, 0, 191, 511]
theorem drawlotlaw05_ShaWrites.tab7 : rtab .any (opsOf Tryd.f4 7) = drawlotlaw05_ShaWrites.T7 := by kernel_rfl
theorem drawlotlaw05_ShaWrites.bits7 : waitsOk drawlotlaw05_ShaWrites.T7.2 drawlotlaw05_ShaWrites.B7 = true := by kernel_rfl
def drawlotlaw05_ShaWrites.T10 : Bool × List (List Nat × List Nat) := (true, [([], []), ([], []), ([0, 1], [0, 1]), ([2, 2], [2]), ([3], [3]), ([3], [3]), ([4, 5, 3], [3, 4, 5]), ([3, 6], [3, 6]), ([7, 3], [7]), ([8], [8]), ([8], [8]), ([9, 10, 8], [8, 9, 10]), ([8, 11], [8, 11]), ([12, 8], [12]), ([13], [13]), ([13], [13]), ([14, 15, 13], [13, 14, 15]), ([13, 16], [13, 16]), ([17, 13], [17]), ([18], [18]), ([19, 18, 18], [18, 19]), ([18], [18]), ([21, 20, 18], [18, 21]), ([20, 22, 18], [18, 20, 22]), ([18, 23], [18, 23]), ([24, 22], [24]), ([25], [25]), ([25], [25]), ([26, 27, 25, 25], [25, 26, 27]), ([25], [25]), ([25], [25]), ([29, 30, 28, 25], [25, 29, 30]), ([28, 31, 25], [25, 28, 31]), ([25, 32], [25, 32]), ([33, 31], [33]), ([34, 34], [34]), ([35, 34], [34]), ([35, 36, 36, 34], [34, 35, 36]), ([34, 37], [34, 37]), ([38, 37], [38]), ([39], [39]), ([40, 39], [39, 40]), ([39], [39]), ([42, 39], [39, 42]), ([43, 39], [39, 43]), ([41, 44, 39], [39, 41, 44]), ([39, 45], [39, 45]), ([46, 39, 0, 1, 2, 3, 4, 5, 6, 7, 8, 9, 10, 11, 12, 13, 14, 15, 16, 17, 18, 19, 20, 21, 22, 23, 24, 25, 26, 27, 28, 29, 30, 31, 32, 33, 34, 35, 36, 37, 38, 39, 40, 41, 42, 43, 44, 45, 46], [46])])
def drawlotlaw05_ShaWrites.B10 : List Nat := [0, 0, 3, 7, 15, 15, 63, 127, 255, 511, 511, 2047, 4095, 8191, 16383, 16383, 65535, 131071, 262143, 524287, 1048575, 524287, 4194303, 8388607, 16777215, 33554431, 67108863, 67108863, 268435455, 67108863, 67108863, 2147483647, 4294967295, 8589934591, 17179869183, 34359738367, 68719476735, 137438953471, 274877906943, 549755813887, 1099511627775, 2199023255551, 1099511627775, 5497558138879, 14293651161087, 35184372088831, 70368744177663, 140737488355327]
theorem drawlotlaw05_ShaWrites.tab10 : rtab .any (opsOf Tryd.f4 10) = drawlotlaw05_ShaWrites.T10 := by kernel_rfl
theorem drawlotlaw05_ShaWrites.bits10 : waitsOk drawlotlaw05_ShaWrites.T10.2 drawlotlaw05_ShaWrites.B10 = true := by kernel_rfl
set_option maxHeartbeats 8000000 in
set_option maxRecDepth 100000 in
theorem drawlotlaw05_ShaWrites.calls (k : Nat) (a0_0 : List Int) (A0_1 : Option Addr) (c0_1 : Nat) (l0_1 : List Int) (a0_2 : Int) (a1_0 : List Int) (A1_1 : Option Addr) (c1_1 : Nat) (l1_1 : List Int) (a1_2 : Int) (A2 : Option Addr) (c2 : Nat) (l2 : List (List Int)) (r : Bool) (w : World) (hr0_1 : Kd.C (Kd.int .u8) w A0_1 l0_1.length l0_1) (hc0_1 : l0_1.length ≤ c0_1) (hr1_1 : Kd.C (Kd.int .u8) w A1_1 l1_1.length l1_1) (hc1_1 : l1_1.length ≤ c1_1) (hr2 : Kd.C (Kd.slice 5 (Kd.int .u8)) w A2 l2.length l2) (hc2 : l2.length ≤ c2) (h : drawlotlaw05_ShaWrites.f k a0_0 l0_1 a0_2 a1_0 l1_1 a1_2 l2 = some r) :
  Calls Tryd.prog 4 #[.agg (Ar.cells .u32 8 a0_0 ++ #[.slice A0_1 l0_1.length c0_1, .int .u64 a0_2]), .agg (Ar.cells .u32 8 a1_0 ++ #[.slice A1_1 l1_1.length c1_1, .int .u64 a1_2]), .slice A2 l2.length c2] w fun e w' => e = .returned (.bool r) ∧ Below w.heap.size w w' := by
 have hu36 := Tryd.underlying36
 have HR0_1 := Aside0.mk hr0_1
 have HC0_1 := Aside0.mk hc0_1
 clear hr0_1 hc0_1
 have HR1_1 := Aside0.mk hr1_1
 have HC1_1 := Aside0.mk hc1_1
 clear hr1_1 hc1_1
 have HR2 := Aside0.mk hr2
 have HC2 := Aside0.mk hc2
 clear hr2 hc2
 have HB := Aside0.mk (Below.refl w.heap.size w)
 have H : ((drawlotlaw05_alive.f k).bind fun t431 => (if t431 = true then ((drawlotref05_Great.f k l2).bind fun t432 => (if t432 = true then (some true) else (if (l0_1.length : Int) > 200 then (some true) else (if (l1_1.length : Int) > 200 then (some true) else ((some (([] : List Int) : List Int)).bind fun y433 => (if y433.length + l0_1.length < 140737488355328 then ((sha_Write.f k a0_0 l0_1 a0_2 l2).bind fun bt439 => ((drawlotref05_Join.f k l2).bind fun t446 => ((drawlotref05_Write.f k a0_0 l0_1 a0_2 t446).bind fun bt449 => ((sha_Finish.f k a0_0 l0_1 a0_2).bind fun bt456 => ((drawlotref05_Finish.f k a0_0 l0_1 a0_2).bind fun bt459 => ((drawlotref05_Same.f bt439.1 bt439.2.1 bt439.2.2.1 bt449.1 bt449.2.1 bt449.2.2.1).bind fun t462 => (if t462 = true then (if bt439.2.2.2 = bt449.2.2.2 then (if (Ar.eqb 32 bt456.1 bt459.1) = true then (if bt456.2 = bt459.2 then ((sha_Right.f a0_0 l0_1 a0_2).bind fun t463 => ((drawlotref05_Right.f a0_0 l0_1 a0_2).bind fun t464 => (if (t463 == t464) = true then ((sha_Same.f a0_0 l0_1 a0_2 a1_0 l1_1 a1_2).bind fun t465 => ((drawlotref05_Same.f a0_0 l0_1 a0_2 a1_0 l1_1 a1_2).bind fun t466 => (if (t465 == t466) = true then ((sha_New.f).bind fun bt467 => ((drawlotref05_New.f).bind fun bt472 => ((drawlotref05_Same.f bt467.1 bt467.2.1 bt467.2.2 bt472.1 bt472.2.1 bt472.2.2).bind fun t477 => (if t477 = true then (some ((strOfNums (y433 ++ l0_1)).toList == (strOfNums l0_1).toList)) else (none))))) else (none)))) else (none)))) else (none)) else (none)) else (none)) else (none)))))))) else (none))))))) else (none))) = some r := h
 clear h
 replace H := Option.bind_eq_some_iff.mp H
 obtain ⟨t431, A40, H⟩ := H
 replace H : (if t431 = true then ((drawlotref05_Great.f k l2).bind fun t432 => (if t432 = true then (some true) else (if (l0_1.length : Int) > 200 then (some true) else (if (l1_1.length : Int) > 200 then (some true) else ((some (([] : List Int) : List Int)).bind fun y433 => (if y433.length + l0_1.length < 140737488355328 then ((sha_Write.f k a0_0 l0_1 a0_2 l2).bind fun bt439 => ((drawlotref05_Join.f k l2).bind fun t446 => ((drawlotref05_Write.f k a0_0 l0_1 a0_2 t446).bind fun bt449 => ((sha_Finish.f k a0_0 l0_1 a0_2).bind fun bt456 => ((drawlotref05_Finish.f k a0_0 l0_1 a0_2).bind fun bt459 => ((drawlotref05_Same.f bt439.1 bt439.2.1 bt439.2.2.1 bt449.1 bt449.2.1 bt449.2.2.1).bind fun t462 => (if t462 = true then (if bt439.2.2.2 = bt449.2.2.2 then (if (Ar.eqb 32 bt456.1 bt459.1) = true then (if bt456.2 = bt459.2 then ((sha_Right.f a0_0 l0_1 a0_2).bind fun t463 => ((drawlotref05_Right.f a0_0 l0_1 a0_2).bind fun t464 => (if (t463 == t464) = true then ((sha_Same.f a0_0 l0_1 a0_2 a1_0 l1_1 a1_2).bind fun t465 => ((drawlotref05_Same.f a0_0 l0_1 a0_2 a1_0 l1_1 a1_2).bind fun t466 => (if (t465 == t466) = true then ((sha_New.f).bind fun bt467 => ((drawlotref05_New.f).bind fun bt472 => ((drawlotref05_Same.f bt467.1 bt467.2.1 bt467.2.2 bt472.1 bt472.2.1 bt472.2.2).bind fun t477 => (if t477 = true then (some ((strOfNums (y433 ++ l0_1)).toList == (strOfNums l0_1).toList)) else (none))))) else (none)))) else (none)))) else (none)) else (none)) else (none)) else (none)))))))) else (none))))))) else (none)) = some r := H
 have A4 := Aside0.mk A40
 clear A40
 by_cases c5 : t431 = true
 ·subst c5
  have H1 : ((drawlotref05_Great.f k l2).bind fun t432 => (if t432 = true then (some true) else (if (l0_1.length : Int) > 200 then (some true) else (if (l1_1.length : Int) > 200 then (some true) else ((some (([] : List Int) : List Int)).bind fun y433 => (if y433.length + l0_1.length < 140737488355328 then ((sha_Write.f k a0_0 l0_1 a0_2 l2).bind fun bt439 => ((drawlotref05_Join.f k l2).bind fun t446 => ((drawlotref05_Write.f k a0_0 l0_1 a0_2 t446).bind fun bt449 => ((sha_Finish.f k a0_0 l0_1 a0_2).bind fun bt456 => ((drawlotref05_Finish.f k a0_0 l0_1 a0_2).bind fun bt459 => ((drawlotref05_Same.f bt439.1 bt439.2.1 bt439.2.2.1 bt449.1 bt449.2.1 bt449.2.2.1).bind fun t462 => (if t462 = true then (if bt439.2.2.2 = bt449.2.2.2 then (if (Ar.eqb 32 bt456.1 bt459.1) = true then (if bt456.2 = bt459.2 then ((sha_Right.f a0_0 l0_1 a0_2).bind fun t463 => ((drawlotref05_Right.f a0_0 l0_1 a0_2).bind fun t464 => (if (t463 == t464) = true then ((sha_Same.f a0_0 l0_1 a0_2 a1_0 l1_1 a1_2).bind fun t465 => ((drawlotref05_Same.f a0_0 l0_1 a0_2 a1_0 l1_1 a1_2).bind fun t466 => (if (t465 == t466) = true then ((sha_New.f).bind fun bt467 => ((drawlotref05_New.f).bind fun bt472 => ((drawlotref05_Same.f bt467.1 bt467.2.1 bt467.2.2 bt472.1 bt472.2.1 bt472.2.2).bind fun t477 => (if t477 = true then (some ((strOfNums (y433 ++ l0_1)).toList == (strOfNums l0_1).toList)) else (none))))) else (none)))) else (none)))) else (none)) else (none)) else (none)) else (none)))))))) else (none))))))) = some r := by rw [if_pos rfl] at H; exact H
  clear H
  have H := H1
  clear H1
  replace H := Option.bind_eq_some_iff.mp H
  obtain ⟨t432, A60, H⟩ := H
  replace H : (if t432 = true then (some true) else (if (l0_1.length : Int) > 200 then (some true) else (if (l1_1.length : Int) > 200 then (some true) else ((some (([] : List Int) : List Int)).bind fun y433 => (if y433.length + l0_1.length < 140737488355328 then ((sha_Write.f k a0_0 l0_1 a0_2 l2).bind fun bt439 => ((drawlotref05_Join.f k l2).bind fun t446 => ((drawlotref05_Write.f k a0_0 l0_1 a0_2 t446).bind fun bt449 => ((sha_Finish.f k a0_0 l0_1 a0_2).bind fun bt456 => ((drawlotref05_Finish.f k a0_0 l0_1 a0_2).bind fun bt459 => ((drawlotref05_Same.f bt439.1 bt439.2.1 bt439.2.2.1 bt449.1 bt449.2.1 bt449.2.2.1).bind fun t462 => (if t462 = true then (if bt439.2.2.2 = bt449.2.2.2 then (if (Ar.eqb 32 bt456.1 bt459.1) = true then (if bt456.2 = bt459.2 then ((sha_Right.f a0_0 l0_1 a0_2).bind fun t463 => ((drawlotref05_Right.f a0_0 l0_1 a0_2).bind fun t464 => (if (t463 == t464) = true then ((sha_Same.f a0_0 l0_1 a0_2 a1_0 l1_1 a1_2).bind fun t465 => ((drawlotref05_Same.f a0_0 l0_1 a0_2 a1_0 l1_1 a1_2).bind fun t466 => (if (t465 == t466) = true then ((sha_New.f).bind fun bt467 => ((drawlotref05_New.f).bind fun bt472 => ((drawlotref05_Same.f bt467.1 bt467.2.1 bt467.2.2 bt472.1 bt472.2.1 bt472.2.2).bind fun t477 => (if t477 = true then (some ((strOfNums (y433 ++ l0_1)).toList == (strOfNums l0_1).toList)) else (none))))) else (none)))) else (none)))) else (none)) else (none)) else (none)) else (none)))))))) else (none)))))) = some r := H
  have A6 := Aside0.mk A60
  clear A60
  by_cases c7 : t432 = true
  ·subst c7
   have H1 : (some true) = some r := by rw [if_pos rfl] at H; exact H
   clear H
   have H := H1
   clear H1
   obtain rfl := Option.some.inj H
   go_enter Tryd.func4, Tryd.ntmps4
   try simp only [List.append]
   go_wp2_with (first | ((with_reducible refine gate_dst (N := 3) rfl ?_); (try (refine gate_guard (by rfl) ?_; dsimp only)); refine qF (N := 3) (cs := ((Ar.cells .u32 8 a0_0) ++ #[.slice A0_1 l0_1.length c0_1, .int .u64 a0_2])) (t := 36) ?_; intro gb429 hg w8 hbox hb; have BK429 := Aside0.mk (hbox); have GW429 := Aside0.mk ((by rw [hg]; exact (below_size (au4s HB)) : w.heap.size ≤ gb429)); have GE429 := Aside0.mk ((by rw [hg]; exact (below_size (au4s HB)) : w.heap.size ≤ gb429)); replace HB := Aside0.mk (below_step (au4s HB) hb); clear hb hbox hg) | ((with_reducible refine gate_dst (N := 4) rfl ?_); (try (refine gate_guard (by rfl) ?_; dsimp only)); refine qF (N := 4) (cs := ((Ar.cells .u32 8 a1_0) ++ #[.slice A1_1 l1_1.length c1_1, .int .u64 a1_2])) (t := 36) ?_; intro gb430 hg w9 hbox hb; have BK430 := Aside0.mk (hbox); have GW430 := Aside0.mk ((by rw [hg]; exact (below_size (au4s HB)) : w.heap.size ≤ gb430)); have GE430 := Aside0.mk ((by rw [hg]; exact (below_size (au4s HB)) : w.heap.size ≤ gb430)); replace HB := Aside0.mk (below_step (au4s HB) hb); have NB429_430 := Aside0.mk ((by rw [hg]; exact Nat.ne_of_lt (blk_lt (g := gb429) (o := .cells ((Ar.cells .u32 8 a0_0) ++ #[.slice A0_1 l0_1.length c0_1, .int .u64 a0_2]) 36 (0, 0)) (au4b BK429)) : gb429 ≠ gb430)); have NB430_429 := Aside0.mk ((by rw [hg]; exact Nat.ne_of_gt (blk_lt (g := gb429) (o := .cells ((Ar.cells .u32 8 a0_0) ++ #[.slice A0_1 l0_1.length c0_1, .int .u64 a0_2]) 36 (0, 0)) (au4b BK429)) : gb430 ≠ gb429)); replace BK429 := Aside0.mk (au4B BK429 hb); clear hb hbox hg) | ((with_reducible refine gate_callee (f := 7) rfl ?_); refine goesL_ (some 16) rfl rfl Tryd.func7 (by kernel_rfl) rfl #[] rfl ql ?_; (with_reducible refine (drawlotlaw05_alive.calls k  true _ A4.out).mono ?_); rintro e w10 ⟨rfl, hb⟩; refine ⟨_, rfl, ?_⟩; replace BK429 := Aside0.mk (au4B BK429 hb); replace BK430 := Aside0.mk (au4B BK430 hb); replace HB := Aside0.mk (below_step (au4s HB) hb); (try clear hb); (try clear hb2); (try clear hk); (try clear hi)) | ((with_reducible refine gate_callee (f := 8) rfl ?_); refine goesL_ (some 19) rfl rfl Tryd.func8 (by kernel_rfl) rfl #[.slice A2 l2.length c2] rfl ql ?_; (with_reducible refine (drawlotref05_Great.calls k _ _ l2 true _ ?side1 ?side2 A6.out).mono ?_); (case side1 => repeat (first | exact (Kd.C_below HR2.out HB.out) | (with_reducible refine Kd.C_alloc ?_ _) | (with_reducible refine Kd.C_drewN ?_ _) | (with_reducible refine Kd.C_drew ?_))); (case side2 => exact HC2.out); rintro e w' ⟨rfl, ⟨nd, rfl⟩⟩; refine ⟨_, rfl, ?_⟩))
   go_ret
   exact ⟨by first | rfl | (simp [errW_none, errW_some] <;> rfl) | (simp [*, errW_none, errW_some] <;> rfl), by repeat (first | (with_reducible first | exact HB.out | apply below_alloc | apply pw_below_drewN | apply below_drew1 | refine below_set ?_ GE429.out | refine below_set ?_ GE430.out) | exact HB.out)⟩
  ·replace c7 := Bool.eq_false_iff.mpr c7
   subst c7
   have H1 : (if (l0_1.length : Int) > 200 then (some true) else (if (l1_1.length : Int) > 200 then (some true) else ((some (([] : List Int) : List Int)).bind fun y433 => (if y433.length + l0_1.length < 140737488355328 then ((sha_Write.f k a0_0 l0_1 a0_2 l2).bind fun bt439 => ((drawlotref05_Join.f k l2).bind fun t446 => ((drawlotref05_Write.f k a0_0 l0_1 a0_2 t446).bind fun bt449 => ((sha_Finish.f k a0_0 l0_1 a0_2).bind fun bt456 => ((drawlotref05_Finish.f k a0_0 l0_1 a0_2).bind fun bt459 => ((drawlotref05_Same.f bt439.1 bt439.2.1 bt439.2.2.1 bt449.1 bt449.2.1 bt449.2.2.1).bind fun t462 => (if t462 = true then (if bt439.2.2.2 = bt449.2.2.2 then (if (Ar.eqb 32 bt456.1 bt459.1) = true then (if bt456.2 = bt459.2 then ((sha_Right.f a0_0 l0_1 a0_2).bind fun t463 => ((drawlotref05_Right.f a0_0 l0_1 a0_2).bind fun t464 => (if (t463 == t464) = true then ((sha_Same.f a0_0 l0_1 a0_2 a1_0 l1_1 a1_2).bind fun t465 => ((drawlotref05_Same.f a0_0 l0_1 a0_2 a1_0 l1_1 a1_2).bind fun t466 => (if (t465 == t466) = true then ((sha_New.f).bind fun bt467 => ((drawlotref05_New.f).bind fun bt472 => ((drawlotref05_Same.f bt467.1 bt467.2.1 bt467.2.2 bt472.1 bt472.2.1 bt472.2.2).bind fun t477 => (if t477 = true then (some ((strOfNums (y433 ++ l0_1)).toList == (strOfNums l0_1).toList)) else (none))))) else (none)))) else (none)))) else (none)) else (none)) else (none)) else (none)))))))) else (none))))) = some r := by rw [if_neg (show ¬ (false = true) by decide)] at H; exact H
   clear H
   have H := H1
   clear H1
   by_cases c11 : (l0_1.length : Int) > 200
   ·rw [if_pos c11] at H
    have c11b0 : decide (200 < (l0_1.length : Int)) = true := decide_eq_true c11
    have c11b1 : decide (200 < l0_1.length) = true := decide_eq_true (by omega)
    clear c11
    obtain rfl := Option.some.inj H
    go_enter Tryd.func4, Tryd.ntmps4
    try simp only [List.append]
    go_wp2_with (first | ((with_reducible refine gate_dst (N := 3) rfl ?_); (try (refine gate_guard (by rfl) ?_; dsimp only)); refine qF (N := 3) (cs := ((Ar.cells .u32 8 a0_0) ++ #[.slice A0_1 l0_1.length c0_1, .int .u64 a0_2])) (t := 36) ?_; intro gb429 hg w12 hbox hb; have BK429 := Aside0.mk (hbox); have GW429 := Aside0.mk ((by rw [hg]; exact (below_size (au4s HB)) : w.heap.size ≤ gb429)); have GE429 := Aside0.mk ((by rw [hg]; exact (below_size (au4s HB)) : w.heap.size ≤ gb429)); replace HB := Aside0.mk (below_step (au4s HB) hb); clear hb hbox hg) | ((with_reducible refine gate_dst (N := 4) rfl ?_); (try (refine gate_guard (by rfl) ?_; dsimp only)); refine qF (N := 4) (cs := ((Ar.cells .u32 8 a1_0) ++ #[.slice A1_1 l1_1.length c1_1, .int .u64 a1_2])) (t := 36) ?_; intro gb430 hg w13 hbox hb; have BK430 := Aside0.mk (hbox); have GW430 := Aside0.mk ((by rw [hg]; exact (below_size (au4s HB)) : w.heap.size ≤ gb430)); have GE430 := Aside0.mk ((by rw [hg]; exact (below_size (au4s HB)) : w.heap.size ≤ gb430)); replace HB := Aside0.mk (below_step (au4s HB) hb); have NB429_430 := Aside0.mk ((by rw [hg]; exact Nat.ne_of_lt (blk_lt (g := gb429) (o := .cells ((Ar.cells .u32 8 a0_0) ++ #[.slice A0_1 l0_1.length c0_1, .int .u64 a0_2]) 36 (0, 0)) (au4b BK429)) : gb429 ≠ gb430)); have NB430_429 := Aside0.mk ((by rw [hg]; exact Nat.ne_of_gt (blk_lt (g := gb429) (o := .cells ((Ar.cells .u32 8 a0_0) ++ #[.slice A0_1 l0_1.length c0_1, .int .u64 a0_2]) 36 (0, 0)) (au4b BK429)) : gb430 ≠ gb429)); replace BK429 := Aside0.mk (au4B BK429 hb); clear hb hbox hg) | ((with_reducible refine gate_callee (f := 7) rfl ?_); refine goesL_ (some 16) rfl rfl Tryd.func7 (by kernel_rfl) rfl #[] rfl ql ?_; (with_reducible refine (drawlotlaw05_alive.calls k  true _ A4.out).mono ?_); rintro e w14 ⟨rfl, hb⟩; refine ⟨_, rfl, ?_⟩; replace BK429 := Aside0.mk (au4B BK429 hb); replace BK430 := Aside0.mk (au4B BK430 hb); replace HB := Aside0.mk (below_step (au4s HB) hb); (try clear hb); (try clear hb2); (try clear hk); (try clear hi)) | ((with_reducible refine gate_callee (f := 8) rfl ?_); refine goesL_ (some 19) rfl rfl Tryd.func8 (by kernel_rfl) rfl #[.slice A2 l2.length c2] rfl ql ?_; (with_reducible refine (drawlotref05_Great.calls k _ _ l2 false _ ?side1 ?side2 A6.out).mono ?_); (case side1 => repeat (first | exact (Kd.C_below HR2.out HB.out) | (with_reducible refine Kd.C_alloc ?_ _) | (with_reducible refine Kd.C_drewN ?_ _) | (with_reducible refine Kd.C_drew ?_))); (case side2 => exact HC2.out); rintro e w' ⟨rfl, ⟨nd, rfl⟩⟩; refine ⟨_, rfl, ?_⟩; have hnb15 := NB429_430.out; have hnc15 := NB430_429.out; have hcz16_1 : w14.cell? ⟨gb429, 8, none⟩ = some (.slice A0_1 l0_1.length c0_1) := (blk_cell BK429.out 8).trans au4c; have hcz16_2 : w14.cell? ⟨gb429, 9, none⟩ = some (.int .u64 a0_2) := (blk_cell BK429.out 9).trans au4c))
    go_ret
    exact ⟨by first | rfl | (simp [errW_none, errW_some] <;> rfl) | (simp [*, errW_none, errW_some] <;> rfl), by repeat (first | (with_reducible first | exact HB.out | apply below_alloc | apply pw_below_drewN | apply below_drew1 | refine below_set ?_ GE429.out | refine below_set ?_ GE430.out) | exact HB.out)⟩
   ·rw [if_neg c11] at H
    have c11b0 : decide (200 < (l0_1.length : Int)) = false := decide_eq_false c11
    have c11b1 : decide (200 < l0_1.length) = false := decide_eq_false (by omega)
    clear c11
    by_cases c17 : (l1_1.length : Int) > 200
    ·rw [if_pos c17] at H
     have c17b0 : decide (200 < (l1_1.length : Int)) = true := decide_eq_true c17
     have c17b1 : decide (200 < l1_1.length) = true := decide_eq_true (by omega)
     clear c17
     obtain rfl := Option.some.inj H
     go_enter Tryd.func4, Tryd.ntmps4
     try simp only [List.append]
     go_wp2_with (first | ((with_reducible refine gate_dst (N := 3) rfl ?_); (try (refine gate_guard (by rfl) ?_; dsimp only)); refine qF (N := 3) (cs := ((Ar.cells .u32 8 a0_0) ++ #[.slice A0_1 l0_1.length c0_1, .int .u64 a0_2])) (t := 36) ?_; intro gb429 hg w18 hbox hb; have BK429 := Aside0.mk (hbox); have GW429 := Aside0.mk ((by rw [hg]; exact (below_size (au4s HB)) : w.heap.size ≤ gb429)); have GE429 := Aside0.mk ((by rw [hg]; exact (below_size (au4s HB)) : w.heap.size ≤ gb429)); replace HB := Aside0.mk (below_step (au4s HB) hb); clear hb hbox hg) | ((with_reducible refine gate_dst (N := 4) rfl ?_); (try (refine gate_guard (by rfl) ?_; dsimp only)); refine qF (N := 4) (cs := ((Ar.cells .u32 8 a1_0) ++ #[.slice A1_1 l1_1.length c1_1, .int .u64 a1_2])) (t := 36) ?_; intro gb430 hg w19 hbox hb; have BK430 := Aside0.mk (hbox); have GW430 := Aside0.mk ((by rw [hg]; exact (below_size (au4s HB)) : w.heap.size ≤ gb430)); have GE430 := Aside0.mk ((by rw [hg]; exact (below_size (au4s HB)) : w.heap.size ≤ gb430)); replace HB := Aside0.mk (below_step (au4s HB) hb); have NB429_430 := Aside0.mk ((by rw [hg]; exact Nat.ne_of_lt (blk_lt (g := gb429) (o := .cells ((Ar.cells .u32 8 a0_0) ++ #[.slice A0_1 l0_1.length c0_1, .int .u64 a0_2]) 36 (0, 0)) (au4b BK429)) : gb429 ≠ gb430)); have NB430_429 := Aside0.mk ((by rw [hg]; exact Nat.ne_of_gt (blk_lt (g := gb429) (o := .cells ((Ar.cells .u32 8 a0_0) ++ #[.slice A0_1 l0_1.length c0_1, .int .u64 a0_2]) 36 (0, 0)) (au4b BK429)) : gb430 ≠ gb429)); replace BK429 := Aside0.mk (au4B BK429 hb); clear hb hbox hg) | ((with_reducible refine gate_callee (f := 7) rfl ?_); refine goesL_ (some 16) rfl rfl Tryd.func7 (by kernel_rfl) rfl #[] rfl ql ?_; (with_reducible refine (drawlotlaw05_alive.calls k  true _ A4.out).mono ?_); rintro e w20 ⟨rfl, hb⟩; refine ⟨_, rfl, ?_⟩; replace BK429 := Aside0.mk (au4B BK429 hb); replace BK430 := Aside0.mk (au4B BK430 hb); replace HB := Aside0.mk (below_step (au4s HB) hb); (try clear hb); (try clear hb2); (try clear hk); (try clear hi)) | ((with_reducible refine gate_callee (f := 8) rfl ?_); refine goesL_ (some 19) rfl rfl Tryd.func8 (by kernel_rfl) rfl #[.slice A2 l2.length c2] rfl ql ?_; (with_reducible refine (drawlotref05_Great.calls k _ _ l2 false _ ?side1 ?side2 A6.out).mono ?_); (case side1 => repeat (first | exact (Kd.C_below HR2.out HB.out) | (with_reducible refine Kd.C_alloc ?_ _) | (with_reducible refine Kd.C_drewN ?_ _) | (with_reducible refine Kd.C_drew ?_))); (case side2 => exact HC2.out); rintro e w' ⟨rfl, ⟨nd, rfl⟩⟩; refine ⟨_, rfl, ?_⟩; have hnb21 := NB429_430.out; have hnc21 := NB430_429.out; have hcz22_1 : w20.cell? ⟨gb429, 8, none⟩ = some (.slice A0_1 l0_1.length c0_1) := (blk_cell BK429.out 8).trans au4c; have hcz22_2 : w20.cell? ⟨gb429, 9, none⟩ = some (.int .u64 a0_2) := (blk_cell BK429.out 9).trans au4c; have hcz23_1 : w20.cell? ⟨gb430, 8, none⟩ = some (.slice A1_1 l1_1.length c1_1) := (blk_cell BK430.out 8).trans au4c; have hcz23_2 : w20.cell? ⟨gb430, 9, none⟩ = some (.int .u64 a1_2) := (blk_cell BK430.out 9).trans au4c))
     go_ret
     exact ⟨by first | rfl | (simp [errW_none, errW_some] <;> rfl) | (simp [*, errW_none, errW_some] <;> rfl), by repeat (first | (with_reducible first | exact HB.out | apply below_alloc | apply pw_below_drewN | apply below_drew1 | refine below_set ?_ GE429.out | refine below_set ?_ GE430.out) | exact HB.out)⟩
    ·rw [if_neg c17] at H
     have c17b0 : decide (200 < (l1_1.length : Int)) = false := decide_eq_false c17
     have c17b1 : decide (200 < l1_1.length) = false := decide_eq_false (by omega)
     clear c17
     obtain ⟨y433, hy433⟩ : ∃ y_ : List Int, y_ = (([] : List Int)) := ⟨_, rfl⟩
     replace H : (if y433.length + l0_1.length < 140737488355328 then ((sha_Write.f k a0_0 l0_1 a0_2 l2).bind fun bt439 => ((drawlotref05_Join.f k l2).bind fun t446 => ((drawlotref05_Write.f k a0_0 l0_1 a0_2 t446).bind fun bt449 => ((sha_Finish.f k a0_0 l0_1 a0_2).bind fun bt456 => ((drawlotref05_Finish.f k a0_0 l0_1 a0_2).bind fun bt459 => ((drawlotref05_Same.f bt439.1 bt439.2.1 bt439.2.2.1 bt449.1 bt449.2.1 bt449.2.2.1).bind fun t462 => (if t462 = true then (if bt439.2.2.2 = bt449.2.2.2 then (if (Ar.eqb 32 bt456.1 bt459.1) = true then (if bt456.2 = bt459.2 then ((sha_Right.f a0_0 l0_1 a0_2).bind fun t463 => ((drawlotref05_Right.f a0_0 l0_1 a0_2).bind fun t464 => (if (t463 == t464) = true then ((sha_Same.f a0_0 l0_1 a0_2 a1_0 l1_1 a1_2).bind fun t465 => ((drawlotref05_Same.f a0_0 l0_1 a0_2 a1_0 l1_1 a1_2).bind fun t466 => (if (t465 == t466) = true then ((sha_New.f).bind fun bt467 => ((drawlotref05_New.f).bind fun bt472 => ((drawlotref05_Same.f bt467.1 bt467.2.1 bt467.2.2 bt472.1 bt472.2.1 bt472.2.2).bind fun t477 => (if t477 = true then (some ((strOfNums (y433 ++ l0_1)).toList == (strOfNums l0_1).toList)) else (none))))) else (none)))) else (none)))) else (none)) else (none)) else (none)) else (none)))))))) else (none)) = some r := by first | (rw [hy433]; with_reducible exact H) | (have H2_ := (Option.bind_some _ _).symm.trans H; rw [hy433]; with_reducible exact H2_) | (have H2_ := (Option.bind_some _ _).symm.trans H; with_reducible exact H2_) | with_reducible exact H | (rw [hy433]; exact H) | exact H
     have Ny433 := Aside0.mk hy433
     clear hy433
     by_cases c24 : y433.length + l0_1.length < 140737488355328
     rotate_left
     ·rw [if_neg c24] at H; exact absurd H (by simp)
     rw [if_pos c24] at H
     have LMc24 := Aside0.mk c24
     clear c24
     obtain ⟨y436, hy436⟩ : ∃ y_ : List Int, y_ = (y433 ++ l0_1) := ⟨_, rfl⟩
     replace H : ((sha_Write.f k a0_0 l0_1 a0_2 l2).bind fun bt439 => ((drawlotref05_Join.f k l2).bind fun t446 => ((drawlotref05_Write.f k a0_0 l0_1 a0_2 t446).bind fun bt449 => ((sha_Finish.f k a0_0 l0_1 a0_2).bind fun bt456 => ((drawlotref05_Finish.f k a0_0 l0_1 a0_2).bind fun bt459 => ((drawlotref05_Same.f bt439.1 bt439.2.1 bt439.2.2.1 bt449.1 bt449.2.1 bt449.2.2.1).bind fun t462 => (if t462 = true then (if bt439.2.2.2 = bt449.2.2.2 then (if (Ar.eqb 32 bt456.1 bt459.1) = true then (if bt456.2 = bt459.2 then ((sha_Right.f a0_0 l0_1 a0_2).bind fun t463 => ((drawlotref05_Right.f a0_0 l0_1 a0_2).bind fun t464 => (if (t463 == t464) = true then ((sha_Same.f a0_0 l0_1 a0_2 a1_0 l1_1 a1_2).bind fun t465 => ((drawlotref05_Same.f a0_0 l0_1 a0_2 a1_0 l1_1 a1_2).bind fun t466 => (if (t465 == t466) = true then ((sha_New.f).bind fun bt467 => ((drawlotref05_New.f).bind fun bt472 => ((drawlotref05_Same.f bt467.1 bt467.2.1 bt467.2.2 bt472.1 bt472.2.1 bt472.2.2).bind fun t477 => (if t477 = true then (some ((strOfNums y436).toList == (strOfNums l0_1).toList)) else (none))))) else (none)))) else (none)))) else (none)) else (none)) else (none)) else (none)))))))) = some r := by first | (rw [hy436]; with_reducible exact H) | (have H2_ := (Option.bind_some _ _).symm.trans H; rw [hy436]; with_reducible exact H2_) | (have H2_ := (Option.bind_some _ _).symm.trans H; with_reducible exact H2_) | with_reducible exact H | (rw [hy436]; exact H) | exact H
     have Ny436 := Aside0.mk hy436
     clear hy436
     replace H := Option.bind_eq_some_iff.mp H
     obtain ⟨⟨t439, t440, t443, t444⟩, A250, H⟩ := H
     replace H : ((drawlotref05_Join.f k l2).bind fun t446 => ((drawlotref05_Write.f k a0_0 l0_1 a0_2 t446).bind fun bt449 => ((sha_Finish.f k a0_0 l0_1 a0_2).bind fun bt456 => ((drawlotref05_Finish.f k a0_0 l0_1 a0_2).bind fun bt459 => ((drawlotref05_Same.f t439 t440 t443 bt449.1 bt449.2.1 bt449.2.2.1).bind fun t462 => (if t462 = true then (if t444 = bt449.2.2.2 then (if (Ar.eqb 32 bt456.1 bt459.1) = true then (if bt456.2 = bt459.2 then ((sha_Right.f a0_0 l0_1 a0_2).bind fun t463 => ((drawlotref05_Right.f a0_0 l0_1 a0_2).bind fun t464 => (if (t463 == t464) = true then ((sha_Same.f a0_0 l0_1 a0_2 a1_0 l1_1 a1_2).bind fun t465 => ((drawlotref05_Same.f a0_0 l0_1 a0_2 a1_0 l1_1 a1_2).bind fun t466 => (if (t465 == t466) = true then ((sha_New.f).bind fun bt467 => ((drawlotref05_New.f).bind fun bt472 => ((drawlotref05_Same.f bt467.1 bt467.2.1 bt467.2.2 bt472.1 bt472.2.1 bt472.2.2).bind fun t477 => (if t477 = true then (some ((strOfNums y436).toList == (strOfNums l0_1).toList)) else (none))))) else (none)))) else (none)))) else (none)) else (none)) else (none)) else (none))))))) = some r := H
     have A25 := Aside0.mk A250
     clear A250
     replace H := Option.bind_eq_some_iff.mp H
     obtain ⟨t446, A260, H⟩ := H
     replace H : ((drawlotref05_Write.f k a0_0 l0_1 a0_2 t446).bind fun bt449 => ((sha_Finish.f k a0_0 l0_1 a0_2).bind fun bt456 => ((drawlotref05_Finish.f k a0_0 l0_1 a0_2).bind fun bt459 => ((drawlotref05_Same.f t439 t440 t443 bt449.1 bt449.2.1 bt449.2.2.1).bind fun t462 => (if t462 = true then (if t444 = bt449.2.2.2 then (if (Ar.eqb 32 bt456.1 bt459.1) = true then (if bt456.2 = bt459.2 then ((sha_Right.f a0_0 l0_1 a0_2).bind fun t463 => ((drawlotref05_Right.f a0_0 l0_1 a0_2).bind fun t464 => (if (t463 == t464) = true then ((sha_Same.f a0_0 l0_1 a0_2 a1_0 l1_1 a1_2).bind fun t465 => ((drawlotref05_Same.f a0_0 l0_1 a0_2 a1_0 l1_1 a1_2).bind fun t466 => (if (t465 == t466) = true then ((sha_New.f).bind fun bt467 => ((drawlotref05_New.f).bind fun bt472 => ((drawlotref05_Same.f bt467.1 bt467.2.1 bt467.2.2 bt472.1 bt472.2.1 bt472.2.2).bind fun t477 => (if t477 = true then (some ((strOfNums y436).toList == (strOfNums l0_1).toList)) else (none))))) else (none)))) else (none)))) else (none)) else (none)) else (none)) else (none)))))) = some r := H
     have A26 := Aside0.mk A260
     clear A260
     replace H := Option.bind_eq_some_iff.mp H
     obtain ⟨⟨t449, t450, t453, t454⟩, A270, H⟩ := H
     replace H : ((sha_Finish.f k a0_0 l0_1 a0_2).bind fun bt456 => ((drawlotref05_Finish.f k a0_0 l0_1 a0_2).bind fun bt459 => ((drawlotref05_Same.f t439 t440 t443 t449 t450 t453).bind fun t462 => (if t462 = true then (if t444 = t454 then (if (Ar.eqb 32 bt456.1 bt459.1) = true then (if bt456.2 = bt459.2 then ((sha_Right.f a0_0 l0_1 a0_2).bind fun t463 => ((drawlotref05_Right.f a0_0 l0_1 a0_2).bind fun t464 => (if (t463 == t464) = true then ((sha_Same.f a0_0 l0_1 a0_2 a1_0 l1_1 a1_2).bind fun t465 => ((drawlotref05_Same.f a0_0 l0_1 a0_2 a1_0 l1_1 a1_2).bind fun t466 => (if (t465 == t466) = true then ((sha_New.f).bind fun bt467 => ((drawlotref05_New.f).bind fun bt472 => ((drawlotref05_Same.f bt467.1 bt467.2.1 bt467.2.2 bt472.1 bt472.2.1 bt472.2.2).bind fun t477 => (if t477 = true then (some ((strOfNums y436).toList == (strOfNums l0_1).toList)) else (none))))) else (none)))) else (none)))) else (none)) else (none)) else (none)) else (none))))) = some r := H
     have A27 := Aside0.mk A270
     clear A270
     replace H := Option.bind_eq_some_iff.mp H
     obtain ⟨⟨t456, t457⟩, A280, H⟩ := H
     replace H : ((drawlotref05_Finish.f k a0_0 l0_1 a0_2).bind fun bt459 => ((drawlotref05_Same.f t439 t440 t443 t449 t450 t453).bind fun t462 => (if t462 = true then (if t444 = t454 then (if (Ar.eqb 32 t456 bt459.1) = true then (if t457 = bt459.2 then ((sha_Right.f a0_0 l0_1 a0_2).bind fun t463 => ((drawlotref05_Right.f a0_0 l0_1 a0_2).bind fun t464 => (if (t463 == t464) = true then ((sha_Same.f a0_0 l0_1 a0_2 a1_0 l1_1 a1_2).bind fun t465 => ((drawlotref05_Same.f a0_0 l0_1 a0_2 a1_0 l1_1 a1_2).bind fun t466 => (if (t465 == t466) = true then ((sha_New.f).bind fun bt467 => ((drawlotref05_New.f).bind fun bt472 => ((drawlotref05_Same.f bt467.1 bt467.2.1 bt467.2.2 bt472.1 bt472.2.1 bt472.2.2).bind fun t477 => (if t477 = true then (some ((strOfNums y436).toList == (strOfNums l0_1).toList)) else (none))))) else (none)))) else (none)))) else (none)) else (none)) else (none)) else (none)))) = some r := H
     have A28 := Aside0.mk A280
     clear A280
     replace H := Option.bind_eq_some_iff.mp H
     obtain ⟨⟨t459, t460⟩, A290, H⟩ := H
     replace H : ((drawlotref05_Same.f t439 t440 t443 t449 t450 t453).bind fun t462 => (if t462 = true then (if t444 = t454 then (if (Ar.eqb 32 t456 t459) = true then (if t457 = t460 then ((sha_Right.f a0_0 l0_1 a0_2).bind fun t463 => ((drawlotref05_Right.f a0_0 l0_1 a0_2).bind fun t464 => (if (t463 == t464) = true then ((sha_Same.f a0_0 l0_1 a0_2 a1_0 l1_1 a1_2).bind fun t465 => ((drawlotref05_Same.f a0_0 l0_1 a0_2 a1_0 l1_1 a1_2).bind fun t466 => (if (t465 == t466) = true then ((sha_New.f).bind fun bt467 => ((drawlotref05_New.f).bind fun bt472 => ((drawlotref05_Same.f bt467.1 bt467.2.1 bt467.2.2 bt472.1 bt472.2.1 bt472.2.2).bind fun t477 => (if t477 = true then (some ((strOfNums y436).toList == (strOfNums l0_1).toList)) else (none))))) else (none)))) else (none)))) else (none)) else (none)) else (none)) else (none))) = some r := H
     have A29 := Aside0.mk A290
     clear A290
     replace H := Option.bind_eq_some_iff.mp H
     obtain ⟨t462, A300, H⟩ := H
     replace H : (if t462 = true then (if t444 = t454 then (if (Ar.eqb 32 t456 t459) = true then (if t457 = t460 then ((sha_Right.f a0_0 l0_1 a0_2).bind fun t463 => ((drawlotref05_Right.f a0_0 l0_1 a0_2).bind fun t464 => (if (t463 == t464) = true then ((sha_Same.f a0_0 l0_1 a0_2 a1_0 l1_1 a1_2).bind fun t465 => ((drawlotref05_Same.f a0_0 l0_1 a0_2 a1_0 l1_1 a1_2).bind fun t466 => (if (t465 == t466) = true then ((sha_New.f).bind fun bt467 => ((drawlotref05_New.f).bind fun bt472 => ((drawlotref05_Same.f bt467.1 bt467.2.1 bt467.2.2 bt472.1 bt472.2.1 bt472.2.2).bind fun t477 => (if t477 = true then (some ((strOfNums y436).toList == (strOfNums l0_1).toList)) else (none))))) else (none)))) else (none)))) else (none)) else (none)) else (none)) else (none)) = some r := H
     have A30 := Aside0.mk A300
     clear A300
     by_cases c31 : t462 = true
     ·subst c31
      have H1 : (if t444 = t454 then (if (Ar.eqb 32 t456 t459) = true then (if t457 = t460 then ((sha_Right.f a0_0 l0_1 a0_2).bind fun t463 => ((drawlotref05_Right.f a0_0 l0_1 a0_2).bind fun t464 => (if (t463 == t464) = true then ((sha_Same.f a0_0 l0_1 a0_2 a1_0 l1_1 a1_2).bind fun t465 => ((drawlotref05_Same.f a0_0 l0_1 a0_2 a1_0 l1_1 a1_2).bind fun t466 => (if (t465 == t466) = true then ((sha_New.f).bind fun bt467 => ((drawlotref05_New.f).bind fun bt472 => ((drawlotref05_Same.f bt467.1 bt467.2.1 bt467.2.2 bt472.1 bt472.2.1 bt472.2.2).bind fun t477 => (if t477 = true then (some ((strOfNums y436).toList == (strOfNums l0_1).toList)) else (none))))) else (none)))) else (none)))) else (none)) else (none)) else (none)) = some r := by rw [if_pos rfl] at H; exact H
      clear H
      have H := H1
      clear H1
      by_cases c32 : t444 = t454
      rotate_left
      ·rw [if_neg c32] at H; exact absurd H (by simp)
      rw [if_pos c32] at H
      have c32b0 : (t444 == t454) = true := beq_iff_eq.mpr c32
      have c32b1 : (t444 != t454) = false := bne_eq_false_iff_eq.mpr c32
      clear c32
      by_cases c33 : (Ar.eqb 32 t456 t459) = true
      rotate_left
      ·rw [if_neg c33] at H; exact absurd H (by simp)
      rw [if_pos c33] at H
      have c33b0 : (Ar.eqb 32 t456 t459) = true := c33
      clear c33
      by_cases c34 : t457 = t460
      rotate_left
      ·rw [if_neg c34] at H; exact absurd H (by simp)
      rw [if_pos c34] at H
      have c34b0 : (t457 == t460) = true := beq_iff_eq.mpr c34
      have c34b1 : (t457 != t460) = false := bne_eq_false_iff_eq.mpr c34
      clear c34
      replace H := Option.bind_eq_some_iff.mp H
      obtain ⟨t463, A350, H⟩ := H
      replace H : ((drawlotref05_Right.f a0_0 l0_1 a0_2).bind fun t464 => (if (t463 == t464) = true then ((sha_Same.f a0_0 l0_1 a0_2 a1_0 l1_1 a1_2).bind fun t465 => ((drawlotref05_Same.f a0_0 l0_1 a0_2 a1_0 l1_1 a1_2).bind fun t466 => (if (t465 == t466) = true then ((sha_New.f).bind fun bt467 => ((drawlotref05_New.f).bind fun bt472 => ((drawlotref05_Same.f bt467.1 bt467.2.1 bt467.2.2 bt472.1 bt472.2.1 bt472.2.2).bind fun t477 => (if t477 = true then (some ((strOfNums y436).toList == (strOfNums l0_1).toList)) else (none))))) else (none)))) else (none))) = some r := H
      have A35 := Aside0.mk A350
      clear A350
      replace H := Option.bind_eq_some_iff.mp H
      obtain ⟨t464, A360, H⟩ := H
      replace H : (if (t463 == t464) = true then ((sha_Same.f a0_0 l0_1 a0_2 a1_0 l1_1 a1_2).bind fun t465 => ((drawlotref05_Same.f a0_0 l0_1 a0_2 a1_0 l1_1 a1_2).bind fun t466 => (if (t465 == t466) = true then ((sha_New.f).bind fun bt467 => ((drawlotref05_New.f).bind fun bt472 => ((drawlotref05_Same.f bt467.1 bt467.2.1 bt467.2.2 bt472.1 bt472.2.1 bt472.2.2).bind fun t477 => (if t477 = true then (some ((strOfNums y436).toList == (strOfNums l0_1).toList)) else (none))))) else (none)))) else (none)) = some r := H
      have A36 := Aside0.mk A360
      clear A360
      by_cases c37 : (t463 == t464) = true
      rotate_left
      ·rw [if_neg c37] at H; exact absurd H (by simp)
      rw [if_pos c37] at H
      have c37b0 : (t463 == t464) = true := c37
      (try (have c37b1 : decide (t463 = t464) = true := by simpa using c37))
      (try (have c37b2 : (t463 == t464) = true := by simpa using c37))
      clear c37
      replace H := Option.bind_eq_some_iff.mp H
      obtain ⟨t465, A380, H⟩ := H
      replace H : ((drawlotref05_Same.f a0_0 l0_1 a0_2 a1_0 l1_1 a1_2).bind fun t466 => (if (t465 == t466) = true then ((sha_New.f).bind fun bt467 => ((drawlotref05_New.f).bind fun bt472 => ((drawlotref05_Same.f bt467.1 bt467.2.1 bt467.2.2 bt472.1 bt472.2.1 bt472.2.2).bind fun t477 => (if t477 = true then (some ((strOfNums y436).toList == (strOfNums l0_1).toList)) else (none))))) else (none))) = some r := H
      have A38 := Aside0.mk A380
      clear A380
      replace H := Option.bind_eq_some_iff.mp H
      obtain ⟨t466, A390, H⟩ := H
      replace H : (if (t465 == t466) = true then ((sha_New.f).bind fun bt467 => ((drawlotref05_New.f).bind fun bt472 => ((drawlotref05_Same.f bt467.1 bt467.2.1 bt467.2.2 bt472.1 bt472.2.1 bt472.2.2).bind fun t477 => (if t477 = true then (some ((strOfNums y436).toList == (strOfNums l0_1).toList)) else (none))))) else (none)) = some r := H
      have A39 := Aside0.mk A390
      clear A390
      by_cases c40 : (t465 == t466) = true
      rotate_left
      ·rw [if_neg c40] at H; exact absurd H (by simp)
      rw [if_pos c40] at H
      have c40b0 : (t465 == t466) = true := c40
      (try (have c40b1 : decide (t465 = t466) = true := by simpa using c40))
      (try (have c40b2 : (t465 == t466) = true := by simpa using c40))
      clear c40
      replace H := Option.bind_eq_some_iff.mp H
      obtain ⟨⟨t467, t468, t471⟩, A410, H⟩ := H
      replace H : ((drawlotref05_New.f).bind fun bt472 => ((drawlotref05_Same.f t467 t468 t471 bt472.1 bt472.2.1 bt472.2.2).bind fun t477 => (if t477 = true then (some ((strOfNums y436).toList == (strOfNums l0_1).toList)) else (none)))) = some r := H
      have A41 := Aside0.mk A410
      clear A410
      replace H := Option.bind_eq_some_iff.mp H
      obtain ⟨⟨t472, t473, t476⟩, A420, H⟩ := H
      replace H : ((drawlotref05_Same.f t467 t468 t471 t472 t473 t476).bind fun t477 => (if t477 = true then (some ((strOfNums y436).toList == (strOfNums l0_1).toList)) else (none))) = some r := H
      have A42 := Aside0.mk A420
      clear A420
      replace H := Option.bind_eq_some_iff.mp H
      obtain ⟨t477, A430, H⟩ := H
      replace H : (if t477 = true then (some ((strOfNums y436).toList == (strOfNums l0_1).toList)) else (none)) = some r := H
      have A43 := Aside0.mk A430
      clear A430
      by_cases c44 : t477 = true
      ·subst c44
       have H1 : (some ((strOfNums y436).toList == (strOfNums l0_1).toList)) = some r := by rw [if_pos rfl] at H; exact H
       clear H
       have H := H1
       clear H1
       obtain rfl := Option.some.inj H
       go_enter Tryd.func4, Tryd.ntmps4
       try simp only [List.append]
       try go_wp2_with (first | ((with_reducible refine gate_dst (N := 3) rfl ?_); (try (refine gate_guard (by rfl) ?_; dsimp only)); refine qF (N := 3) (cs := ((Ar.cells .u32 8 a0_0) ++ #[.slice A0_1 l0_1.length c0_1, .int .u64 a0_2])) (t := 36) ?_; intro gb429 hg w45 hbox hb; have BK429 := Aside0.mk (hbox); have GW429 := Aside0.mk ((by rw [hg]; exact (below_size (au4s HB)) : w.heap.size ≤ gb429)); have GE429 := Aside0.mk ((by rw [hg]; exact (below_size (au4s HB)) : w.heap.size ≤ gb429)); replace HB := Aside0.mk (below_step (au4s HB) hb); clear hb hbox hg) | ((with_reducible refine gate_dst (N := 4) rfl ?_); (try (refine gate_guard (by rfl) ?_; dsimp only)); refine qF (N := 4) (cs := ((Ar.cells .u32 8 a1_0) ++ #[.slice A1_1 l1_1.length c1_1, .int .u64 a1_2])) (t := 36) ?_; intro gb430 hg w46 hbox hb; have BK430 := Aside0.mk (hbox); have GW430 := Aside0.mk ((by rw [hg]; exact (below_size (au4s HB)) : w.heap.size ≤ gb430)); have GE430 := Aside0.mk ((by rw [hg]; exact (below_size (au4s HB)) : w.heap.size ≤ gb430)); replace HB := Aside0.mk (below_step (au4s HB) hb); have NB429_430 := Aside0.mk ((by rw [hg]; exact Nat.ne_of_lt (blk_lt (g := gb429) (o := .cells ((Ar.cells .u32 8 a0_0) ++ #[.slice A0_1 l0_1.length c0_1, .int .u64 a0_2]) 36 (0, 0)) (au4b BK429)) : gb429 ≠ gb430)); have NB430_429 := Aside0.mk ((by rw [hg]; exact Nat.ne_of_gt (blk_lt (g := gb429) (o := .cells ((Ar.cells .u32 8 a0_0) ++ #[.slice A0_1 l0_1.length c0_1, .int .u64 a0_2]) 36 (0, 0)) (au4b BK429)) : gb430 ≠ gb429)); replace BK429 := Aside0.mk (au4B BK429 hb); clear hb hbox hg) | ((with_reducible refine gate_callee (f := 7) rfl ?_); refine goesL_ (some 16) rfl rfl Tryd.func7 (by kernel_rfl) rfl #[] rfl ql ?_; (with_reducible refine (drawlotlaw05_alive.calls k  true _ A4.out).mono ?_); rintro e w47 ⟨rfl, hb⟩; refine ⟨_, rfl, ?_⟩; replace BK429 := Aside0.mk (au4B BK429 hb); replace BK430 := Aside0.mk (au4B BK430 hb); replace HB := Aside0.mk (below_step (au4s HB) hb); (try clear hb); (try clear hb2); (try clear hk); (try clear hi)) | ((with_reducible refine gate_callee (f := 8) rfl ?_); refine goesL_ (some 19) rfl rfl Tryd.func8 (by kernel_rfl) rfl #[.slice A2 l2.length c2] rfl ql ?_; (with_reducible refine (drawlotref05_Great.calls k _ _ l2 false _ ?side1 ?side2 A6.out).mono ?_); (case side1 => repeat (first | exact (Kd.C_below HR2.out HB.out) | (with_reducible refine Kd.C_alloc ?_ _) | (with_reducible refine Kd.C_drewN ?_ _) | (with_reducible refine Kd.C_drew ?_))); (case side2 => exact HC2.out); rintro e w' ⟨rfl, ⟨nd, rfl⟩⟩; refine ⟨_, rfl, ?_⟩; have hnb48 := NB429_430.out; have hnc48 := NB430_429.out; have hcz49_1 : w47.cell? ⟨gb429, 8, none⟩ = some (.slice A0_1 l0_1.length c0_1) := (blk_cell BK429.out 8).trans au4c; have hcz49_2 : w47.cell? ⟨gb429, 9, none⟩ = some (.int .u64 a0_2) := (blk_cell BK429.out 9).trans au4c; have hcz50_1 : w47.cell? ⟨gb430, 8, none⟩ = some (.slice A1_1 l1_1.length c1_1) := (blk_cell BK430.out 8).trans au4c; have hcz50_2 : w47.cell? ⟨gb430, 9, none⟩ = some (.int .u64 a1_2) := (blk_cell BK430.out 9).trans au4c) | ((with_reducible refine gate_dst (N := 32) rfl ?_); (try (refine gate_guard (by rfl) ?_; dsimp only)); refine Kd.R_lit (Kd.int .u8) _ 5 ?hg (N := 32) ?hd (xs := ([] : List Int)) (inner := []) (ok := fun _ => True) (okp := fun _ => True) ?hr ?hp (fun _ hk => hk) trivial (Below.refl _ _) (Nat.le_refl _) (by simp) ?_; (case hd => rfl); (case hg => rfl); (case hr => first | (go_simp; done) | (go_simp; rfl)); (case hp => exact (Reps.none _ _)); intro v434 w51 ho52 hb hg_ hnew_; clear hg_ hnew_; (first | rw [← Ny433.out] at ho52 | (simp only [Int.reduceToNat] at ho52; rw [← Ny433.out] at ho52)); have HO435 := Aside0.mk (Kd.R_lower ho52 (below_size (au4s HB))); replace BK429 := Aside0.mk (au4B BK429 hb); replace BK430 := Aside0.mk (au4B BK430 hb); replace HB := Aside0.mk (below_step (au4s HB) hb); clear hb ho52; have hcz53_1 : w51.cell? ⟨gb429, 8, none⟩ = some (.slice A0_1 l0_1.length c0_1) := (blk_cell BK429.out 8).trans au4c; have hcz53_2 : w51.cell? ⟨gb429, 9, none⟩ = some (.int .u64 a0_2) := (blk_cell BK429.out 9).trans au4c) | ((with_reducible refine gate_builtin (b := .append) (xs := #[.tmp 32, .tmp 34]) rfl ?_); (try (refine gate_guard (by rfl) ?_; dsimp only)); at_builtin; refine Kd.R_append_rows (Kd.int .u8) (w0 := w) w.heap.size rfl (.tmp 32) (.tmp 34) 29 5 (.int .u8 0) 1 rfl Tryd.underlying29 info5 rfl (by decide) (by omega) v434 y433 l0_1 _ _ _ (fun _ => True) (fun _ => False) rfl rfl ?aO ?aR (fun _ _ h => h) (fun _ h => h.elim) ?aF ?aB ?aS ?aL ?_; (case aR => repeat (first | exact (Kd.C_below HR0_1.out HB.out) | (with_reducible refine Kd.C_alloc ?_ _) | (with_reducible refine Kd.C_drewN ?_ _) | (with_reducible refine Kd.C_drew ?_))); (case aB => exact (au4s HB)); (case aF => exact (fun _ _ => trivial)); (case aO => exact (au4r HO435)); (case aS => exact (below_size (au4s HB))); (case aL => have := LMc24.out; omega); intro v437 w54 ho hb hg hat; rw [← Ny436.out] at ho; replace BK429 := Aside0.mk (au4G BK429 hg (Kd.R_ne HO435.out BK429.out (by decide))); replace BK430 := Aside0.mk (au4G BK430 hg (Kd.R_ne HO435.out BK430.out (by decide))); replace HB := Aside0.mk (hb); have HO438 := Aside0.mk (ho); clear HO435 ho hb hg hat) | ((with_reducible refine gate_dst (N := 37) rfl ?_); (try (refine gate_guard (by rfl) ?_; dsimp only)); refine Ar.gload_event rfl (T := 36) rfl Tryd.underlying36 rfl (D := ((Ar.cells .u32 8 a0_0) ++ #[.slice A0_1 l0_1.length c0_1, .int .u64 a0_2])) qz (A := ⟨gb429, 0, none⟩) rfl (Ar.blk_part (au4b BK429) Ar.in_whole) ?_) | ((with_reducible refine gate_callee (f := 12) rfl ?_); refine goesL_ (some 39) rfl rfl Tryd.func12 (by kernel_rfl) rfl #[.agg ((Ar.cells .u32 8 a0_0) ++ #[.slice A0_1 l0_1.length c0_1, .int .u64 a0_2]), .slice A2 l2.length c2] rfl ql ?_; (with_reducible refine (sha_Write.calls k a0_0 (fun k_ => k_ < w.heap.size) _ _ l0_1 a0_2 _ _ l2 t439 t440 t443 t444 _ ?side1 ?side2 ?side3 A25.out).mono ?_); (case side1 => exact Kd.V_mk HC0_1.out (Kd.F_below (Kd.C_F (Kd.heap_int .u8) HR0_1.out) (au4s HB))); (case side2 => repeat (first | exact (Kd.C_below HR2.out HB.out) | (with_reducible refine Kd.C_alloc ?_ _) | (with_reducible refine Kd.C_drewN ?_ _) | (with_reducible refine Kd.C_drew ?_))); (case side3 => exact HC2.out); rintro e w55 ⟨v441, rfl, ho0, hb⟩; refine ⟨_, rfl, ?_⟩; have HO442 := Aside0.mk (Kd.V_lower (Kd.V_mono (ok' := fun k_ => some k_ ≠ (v437 : Value).ownBlock ∧ k_ ≠ gb429 ∧ k_ ≠ gb430) ho0 (fun k_ hk_ => ⟨Or.elim hk_ (fun hs_ => fun e_ => Nat.not_le.2 hs_ (Kd.R_base HO438.out k_ e_.symm)) (fun hn_ => (Kd.fresh' (Kd.R_lt (au4r HO438)) k_ hn_)), Or.elim hk_ (fun hs_ => fun e_ => Nat.not_le.2 hs_ (by rw [e_]; exact GW429.out)) (fun hn_ => (Kd.freshB (g := gb429) (o := .cells ((Ar.cells .u32 8 a0_0) ++ #[.slice A0_1 l0_1.length c0_1, .int .u64 a0_2]) 36 (0, 0)) (au4b BK429) k_ hn_)), Or.elim hk_ (fun hs_ => fun e_ => Nat.not_le.2 hs_ (by rw [e_]; exact GW430.out)) (fun hn_ => (Kd.freshB (g := gb430) (o := .cells ((Ar.cells .u32 8 a1_0) ++ #[.slice A1_1 l1_1.length c1_1, .int .u64 a1_2]) 36 (0, 0)) (au4b BK430) k_ hn_))⟩)) (below_size (au4s HB))); replace HO438 := Aside0.mk (Kd.R_below (au4r HO438) hb); replace BK429 := Aside0.mk (au4B BK429 hb); replace BK430 := Aside0.mk (au4B BK430 hb); replace HB := Aside0.mk (below_step (au4s HB) hb); (try clear hb); (try clear hb2); (try clear hk); (try clear hi); (try clear ho0)) | ((with_reducible refine gate_dst (N := 8) rfl ?_); (try (refine gate_guard (by rfl) ?_; dsimp only)); refine qF (N := 8) (cs := ((Ar.cells .u32 8 (List.replicate 8 0)) ++ #[.slice none 0 0, .int .u64 0])) (t := 36) ?_; intro gb445 hg w56 hbox hb; replace HO438 := Aside0.mk (Kd.R_below (au4r HO438) hb); replace HO442 := Aside0.mk (Kd.V_below (Kd.V_elderB (au4v HO442) gb445 (Nat.le_of_eq hg.symm)) hb); have BK445 := Aside0.mk (hbox); have GW445 := Aside0.mk ((by rw [hg]; exact (below_size (au4s HB)) : w.heap.size ≤ gb445)); have GE445 := Aside0.mk ((by rw [hg]; exact (below_size (au4s HB)) : w.heap.size ≤ gb445)); replace HB := Aside0.mk (below_step (au4s HB) hb); have NB429_445 := Aside0.mk ((by rw [hg]; exact Nat.ne_of_lt (blk_lt (g := gb429) (o := .cells ((Ar.cells .u32 8 a0_0) ++ #[.slice A0_1 l0_1.length c0_1, .int .u64 a0_2]) 36 (0, 0)) (au4b BK429)) : gb429 ≠ gb445)); have NB445_429 := Aside0.mk ((by rw [hg]; exact Nat.ne_of_gt (blk_lt (g := gb429) (o := .cells ((Ar.cells .u32 8 a0_0) ++ #[.slice A0_1 l0_1.length c0_1, .int .u64 a0_2]) 36 (0, 0)) (au4b BK429)) : gb445 ≠ gb429)); replace BK429 := Aside0.mk (au4B BK429 hb); have NB430_445 := Aside0.mk ((by rw [hg]; exact Nat.ne_of_lt (blk_lt (g := gb430) (o := .cells ((Ar.cells .u32 8 a1_0) ++ #[.slice A1_1 l1_1.length c1_1, .int .u64 a1_2]) 36 (0, 0)) (au4b BK430)) : gb430 ≠ gb445)); have NB445_430 := Aside0.mk ((by rw [hg]; exact Nat.ne_of_gt (blk_lt (g := gb430) (o := .cells ((Ar.cells .u32 8 a1_0) ++ #[.slice A1_1 l1_1.length c1_1, .int .u64 a1_2]) 36 (0, 0)) (au4b BK430)) : gb445 ≠ gb430)); replace BK430 := Aside0.mk (au4B BK430 hb); clear hb hbox hg) | ((with_reducible refine gate_store (t := 36) (p := 8) rfl ?_); refine Ar.gstore_event rfl rfl rfl (D := ((Ar.cells .u32 8 t439) ++ #[v441, .int .u64 t443])) qz (g := gb445) rfl qg (au4b BK445) (by simp [Ar.cells_size]) (by repeat (first | (with_reducible refine Ar.all_app ?_ ?_) | (with_reducible exact Ar.cells_one _ _ _) | (focus (simp [Value.oneCell']; done)) | (focus (simp [(show (v441 : Value).oneCell' = true from by (have e_ := Kd.V_slice HO442.out; obtain ⟨_, _, e_⟩ := e_; rw [e_]; rfl))]; first | done | rfl | (repeat' constructor))) | rfl)) ?_; intro w57 hbk_ hg; replace BK429 := Aside0.mk (au4G BK429 hg (fun e_ => NB429_445.out (Option.some.inj e_))); replace BK430 := Aside0.mk (au4G BK430 hg (fun e_ => NB430_445.out (Option.some.inj e_))); replace HO438 := Aside0.mk (Kd.R_mono (Kd.R_grown (Kd.R_types (au4r HO438) BK445.out (by decide)) hg (fun k_ hk_ e_ => hk_.2 (Option.some.inj e_))) (fun _ h_ => h_.1)); replace HO442 := Aside0.mk (Kd.V_grown (au4v HO442) hg (by intro k_ hk e_; exact (hk.2) (Option.some.inj e_))); replace BK445 := Aside0.mk (hbk_); replace HB := Aside0.mk (Below.grown (au4s HB) hg ((below_size (au4s HB))) (fun _ e_ => by cases e_; exact GE445.out)); clear hbk_ hg))
       replace HO438 := Aside0.mk (Kd.R_drew HO438.out)
       replace HO442 := Aside0.mk (Kd.V_drew HO442.out)
       replace BK429 := Aside0.mk (blk_drew BK429.out)
       replace BK430 := Aside0.mk (blk_drew BK430.out)
       replace BK445 := Aside0.mk (blk_drew BK445.out)
       replace HB := Aside0.mk (below_drew1 HB.out)
       refine start_ (n := 10) (S := fun w' => w'.heap[gb429]? = some (.cells ((Ar.cells .u32 8 a0_0) ++ #[.slice A0_1 l0_1.length c0_1, .int .u64 a0_2]) 36 (0, 0)) ∧ w'.cell? ⟨gb429, 8, none⟩ = some (.slice A0_1 l0_1.length c0_1) ∧ w'.cell? ⟨gb429, 9, none⟩ = some (.int .u64 a0_2)) (ds := []) #[false, false, false, false, false, false, false, false, false, false] (by kernel_rfl) rfl rfl ⟨BK429.out, (blk_cell BK429.out 8).trans au4c, (blk_cell BK429.out 9).trans au4c⟩ (fun hHeld => ?_); refine with_tabW drawlotlaw05_ShaWrites.tab7 drawlotlaw05_ShaWrites.bits7 (fun HT_ HW_ => ?_)
       generalize w57.drew = w58 at HO438 HO442 BK429 BK430 BK445 HB hHeld ⊢
       refine pure_ (i := 1) (N := some 44) (v := ?_) (a' := ?_) #[false, true, false, false, false, false, false, false, false, false] rfl rfl (any_of HT_.out (by kernel_rfl)) (fun _ _ _ h => h) (Or.inl ⟨by rfl, ?_⟩) ?_ ?_
       rotate_left
       ·intro w'
        go_simp
        with_reducible rfl
       rotate_left
       ·simp only [Act.put, zA_, zB_, zC_, i64_w, i32_w]
        rfl
       refine take_ (i := 0) (N := some 43) (v := ?_) (a' := ?_) #[true, true, false, false, false, false, false, false, false, false] rfl rfl (take_ofW HT_.out HW_.out (by kernel_rfl)) (fun _ _ _ h => h) (Or.inl ⟨by rfl, ?_⟩) hHeld ?_ ?_
       rotate_left
       ·rintro w' ⟨s0, s1, s2⟩
        first | (refine (Ar.gload_run rfl Tryd.underlying36 rfl (D := ((Ar.cells .u32 8 a0_0) ++ #[.slice A0_1 l0_1.length c0_1, .int .u64 a0_2])) qz rfl (Ar.blk_part (by assumption) Ar.in_whole)).trans ?_; with_reducible rfl) | (go_simp; with_reducible rfl)
       rotate_left
       ·simp only [Act.put, zA_, zB_, zC_, i64_w, i32_w]
        rfl
       refine join_ (σ := Value × Value × Nat) 2 #[true, true, true, true, true, true, true, true, false, false] (fun s_ => [(45, s_.1), (46, .tuple #[.agg ((Ar.cells .u32 8 t449) ++ #[s_.2.1, .int .u64 t453]), .int .i64 t454]), (10, .pointer (some ⟨s_.2.2, 0, none⟩)), (42, .tuple #[.agg ((Ar.cells .u32 8 t449) ++ #[s_.2.1, .int .u64 t453]), .int .i64 t454]), (47, .agg ((Ar.cells .u32 8 t449) ++ #[s_.2.1, .int .u64 t453])), (48, .int .i64 t454)]) (fun s_ w' => (w'.heap[gb429]? = some (.cells ((Ar.cells .u32 8 a0_0) ++ #[.slice A0_1 l0_1.length c0_1, .int .u64 a0_2]) 36 (0, 0)) ∧ w'.cell? ⟨gb429, 8, none⟩ = some (.slice A0_1 l0_1.length c0_1) ∧ w'.cell? ⟨gb429, 9, none⟩ = some (.int .u64 a0_2)) ∧ (Kd.R (Kd.int .u8) 5 w' w.heap.size (fun k_ => some k_ ≠ (s_.1 : Value).ownBlock) v437 y436) ∧ (Kd.V (Kd.int .u8) 5 w' w.heap.size (fun k_ => some k_ ≠ (v437 : Value).ownBlock ∧ some k_ ≠ (s_.1 : Value).ownBlock ∧ k_ ≠ gb429 ∧ k_ ≠ gb430 ∧ k_ ≠ gb445 ∧ k_ ≠ s_.2.2) v441 t440) ∧ (Kd.R (Kd.int .u8) 5 w' w.heap.size (fun k_ => some k_ ≠ (v437 : Value).ownBlock) s_.1 t446) ∧ (Kd.V (Kd.int .u8) 5 w' w.heap.size (fun k_ => some k_ ≠ (v437 : Value).ownBlock ∧ some k_ ≠ (s_.1 : Value).ownBlock ∧ k_ ≠ gb429 ∧ k_ ≠ gb430 ∧ k_ ≠ gb445 ∧ k_ ≠ s_.2.2) s_.2.1 t450) ∧ (w'.heap[gb429]? = some (.cells ((Ar.cells .u32 8 a0_0) ++ #[.slice A0_1 l0_1.length c0_1, .int .u64 a0_2]) 36 (0, 0))) ∧ (w'.heap[gb430]? = some (.cells ((Ar.cells .u32 8 a1_0) ++ #[.slice A1_1 l1_1.length c1_1, .int .u64 a1_2]) 36 (0, 0))) ∧ (w'.heap[gb445]? = some (.cells ((Ar.cells .u32 8 t439) ++ #[v441, .int .u64 t443]) 36 (0, 0))) ∧ (w'.heap[s_.2.2]? = some (.cells ((Ar.cells .u32 8 (List.replicate 8 0)) ++ #[.slice none 0 0, .int .u64 0]) 36 (0, 0))) ∧ (w.heap.size ≤ s_.2.2) ∧ (w.heap.size ≤ s_.2.2) ∧ (gb429 ≠ s_.2.2) ∧ (s_.2.2 ≠ gb429) ∧ (gb430 ≠ s_.2.2) ∧ (s_.2.2 ≠ gb430) ∧ (gb445 ≠ s_.2.2) ∧ (s_.2.2 ≠ gb445) ∧ (Below w.heap.size w w')) ?_ ?_
       rotate_left
       ·intro hCont
        refine two_ (i := 2) (j := 7) (Ni := some 45) (Nj := some 10) #[true, true, true, false, false, false, false, false, false, false] #[true, true, false, false, false, false, false, true, false, false] rfl rfl rfl rfl (two_of HT_.out (by kernel_rfl)) (by decide) (by decide) (fun K hK => ?_) (fun K hK => ?_)
        ·skip
         refine goes_ Tryd.func11 (by kernel_rfl) rfl #[.slice A2 l2.length c2] (by rfl) rfl rfl ql ?_
         with_reducible refine (drawlotref05_Join.calls k _ _ l2 t446 _ ?side1 ?side2 A26.out).mono ?_
         (case side1 => repeat (first | exact (Kd.C_below HR2.out HB.out) | (with_reducible refine Kd.C_alloc ?_ _) | (with_reducible refine Kd.C_drewN ?_ _) | (with_reducible refine Kd.C_drew ?_)))
         (case side2 => exact HC2.out)
         rintro e w59 ⟨v447, rfl, ho0, hb⟩
         refine ⟨_, rfl, ?_⟩
         replace HO442 := Aside0.mk (Kd.V_elder' (au4v HO442) (Kd.R_base ho0) hb)
         have HO448 := Aside0.mk (Kd.R_lower (Kd.R_new' ho0 (Kd.R_lt (au4r HO438))) (below_size (au4s HB)))
         replace HO438 := Aside0.mk (Kd.R_elder' (au4r HO438) (Kd.R_base ho0) hb)
         replace BK429 := Aside0.mk (au4B BK429 hb)
         replace BK430 := Aside0.mk (au4B BK430 hb)
         replace BK445 := Aside0.mk (au4B BK445 hb)
         replace HB := Aside0.mk (below_step (au4s HB) hb)
         (try clear hb)
         (try clear hb2)
         (try clear hk)
         (try clear hi)
         (try clear ho0)
         obtain ⟨Ao60, co60, eo60⟩ := Kd.R_slice HO448.out
         (first | subst eo60 | (injection eo60 with f1_ f2_ f3_; have f4_ := f1_.symm; have f5_ := f3_.symm; clear f1_ f2_ f3_; subst f4_; subst f5_))
         refine hK.out _ _ ⟨BK429.out, (blk_cell BK429.out 8).trans au4c, (blk_cell BK429.out 9).trans au4c⟩ (fun hHeld => ?_)
         clear hK K
         refine norm_ (a' := ?_) ?_ ?_
         rotate_left
         ·show Act.put _ (some 45) _ = _
          simp only [Act.put, zA_, zB_, zC_, i64_w, i32_w]
          rfl
         refine two_ (i := 3) (j := 7) (Ni := some 46) (Nj := some 10) #[true, true, true, true, false, false, false, false, false, false] #[true, true, true, false, false, false, false, true, false, false] rfl rfl rfl rfl (two_of HT_.out (by kernel_rfl)) (by decide) (by decide) (fun K hK => ?_) (fun K hK => ?_)
         ·skip
          refine goes_ Tryd.func13 (by kernel_rfl) rfl #[.agg ((Ar.cells .u32 8 a0_0) ++ #[.slice A0_1 l0_1.length c0_1, .int .u64 a0_2]), .slice Ao60 t446.length co60] (by rfl) rfl rfl ql ?_
          with_reducible refine (drawlotref05_Write.calls k a0_0 _ _ l0_1 a0_2 _ _ t446 t449 t450 t453 t454 _ ?side1 ?side2 ?side3 ?side4 A27.out).mono ?_
          (case side1 => repeat (first | exact (Kd.C_below HR0_1.out HB.out) | (with_reducible refine Kd.C_alloc ?_ _) | (with_reducible refine Kd.C_drewN ?_ _) | (with_reducible refine Kd.C_drew ?_)))
          (case side2 => exact HC0_1.out)
          (case side3 => repeat (first | exact (Kd.R_reads' HO448.out).2.2 | (with_reducible refine Kd.C_alloc ?_ _) | (with_reducible refine Kd.C_drewN ?_ _) | (with_reducible refine Kd.C_drew ?_)))
          (case side4 => exact (Kd.R_reads' HO448.out).2.1)
          rintro e w61 ⟨v451, rfl, ho0, hb⟩
          refine ⟨_, rfl, ?_⟩
          replace HO442 := Aside0.mk (Kd.V_below (au4v HO442) hb)
          have HO452 := Aside0.mk (Kd.V_lower (Kd.V_mono (ok' := fun k_ => some k_ ≠ (v437 : Value).ownBlock ∧ some k_ ≠ (.slice Ao60 t446.length co60 : Value).ownBlock ∧ k_ ≠ gb429 ∧ k_ ≠ gb430 ∧ k_ ≠ gb445) ho0 (fun k_ hk_ => ⟨(Kd.fresh' (Kd.R_lt (au4r HO438)) k_ hk_), (Kd.fresh' (Kd.R_lt (au4r HO448)) k_ hk_), (Kd.freshB (g := gb429) (o := .cells ((Ar.cells .u32 8 a0_0) ++ #[.slice A0_1 l0_1.length c0_1, .int .u64 a0_2]) 36 (0, 0)) (au4b BK429) k_ hk_), (Kd.freshB (g := gb430) (o := .cells ((Ar.cells .u32 8 a1_0) ++ #[.slice A1_1 l1_1.length c1_1, .int .u64 a1_2]) 36 (0, 0)) (au4b BK430) k_ hk_), (Kd.freshB (g := gb445) (o := .cells ((Ar.cells .u32 8 t439) ++ #[v441, .int .u64 t443]) 36 (0, 0)) (au4b BK445) k_ hk_)⟩)) (below_size (au4s HB)))
          replace HO438 := Aside0.mk (Kd.R_below (au4r HO438) hb)
          replace HO448 := Aside0.mk (Kd.R_below (au4r HO448) hb)
          replace BK429 := Aside0.mk (au4B BK429 hb)
          replace BK430 := Aside0.mk (au4B BK430 hb)
          replace BK445 := Aside0.mk (au4B BK445 hb)
          replace HB := Aside0.mk (below_step (au4s HB) hb)
          (try clear hb)
          (try clear hb2)
          (try clear hk)
          (try clear hi)
          (try clear ho0)
          refine hK.out _ _ ⟨BK429.out, (blk_cell BK429.out 8).trans au4c, (blk_cell BK429.out 9).trans au4c⟩ (fun hHeld => ?_)
          clear hK K
          refine norm_ (a' := ?_) ?_ ?_
          rotate_left
          ·show Act.put _ (some 46) _ = _
           simp only [Act.put, zA_, zB_, zC_, i64_w, i32_w]
           rfl
          refine pure_ (i := 4) (N := some 42) (v := ?_) (a' := ?_) #[true, true, true, true, true, false, false, false, false, false] rfl rfl (any_of HT_.out (by kernel_rfl)) (fun _ _ _ h => h) (Or.inl ⟨by rfl, ?_⟩) ?_ ?_
          rotate_left
          ·intro w'
           go_simp
           with_reducible rfl
          rotate_left
          ·simp only [Act.put, zA_, zB_, zC_, i64_w, i32_w]
           rfl
          refine pure_ (i := 5) (N := some 47) (v := ?_) (a' := ?_) #[true, true, true, true, true, true, false, false, false, false] rfl rfl (any_of HT_.out (by kernel_rfl)) (fun _ _ _ h => h) (Or.inl ⟨by rfl, ?_⟩) ?_ ?_
          rotate_left
          ·intro w'
           go_simp
           with_reducible rfl
          rotate_left
          ·simp only [Act.put, zA_, zB_, zC_, i64_w, i32_w]
           rfl
          refine pure_ (i := 6) (N := some 48) (v := ?_) (a' := ?_) #[true, true, true, true, true, true, true, false, false, false] rfl rfl (any_of HT_.out (by kernel_rfl)) (fun _ _ _ h => h) (Or.inl ⟨by rfl, ?_⟩) ?_ ?_
          rotate_left
          ·intro w'
           go_simp
           with_reducible rfl
          rotate_left
          ·simp only [Act.put, zA_, zB_, zC_, i64_w, i32_w]
           rfl
          refine one_ (i := 7) (N := some 10) #[true, true, true, true, true, true, true, true, false, false] rfl rfl (one_of HT_.out (by kernel_rfl)) (by decide) (fun K hK => ?_)
          refine box_step ?hg (N := 10) ?hd (cs := ((Ar.cells .u32 8 (List.replicate 8 0)) ++ #[.slice none 0 0, .int .u64 0])) (t := 36) ?hr ?_; (case hd => rfl); (case hg => rfl); (case hr => first | exact Ar.gbox_run rfl rfl | exact Ar.galloc_run rfl (by kernel_rfl) | (go_simp; done) | (go_simp; rfl))
          intro gb455 hg w62 hbox hb
          replace HO438 := Aside0.mk (Kd.R_below (au4r HO438) hb)
          replace HO442 := Aside0.mk (Kd.V_below (Kd.V_elderB (au4v HO442) gb455 (Nat.le_of_eq hg.symm)) hb)
          replace HO448 := Aside0.mk (Kd.R_below (au4r HO448) hb)
          replace HO452 := Aside0.mk (Kd.V_below (Kd.V_elderB (au4v HO452) gb455 (Nat.le_of_eq hg.symm)) hb)
          have BK455 := Aside0.mk (hbox)
          have GW455 := Aside0.mk ((by rw [hg]; exact (below_size (au4s HB)) : w.heap.size ≤ gb455))
          have GE455 := Aside0.mk ((by rw [hg]; exact (below_size (au4s HB)) : w.heap.size ≤ gb455))
          replace HB := Aside0.mk (below_step (au4s HB) hb)
          have NB429_455 := Aside0.mk ((by rw [hg]; exact Nat.ne_of_lt (blk_lt (g := gb429) (o := .cells ((Ar.cells .u32 8 a0_0) ++ #[.slice A0_1 l0_1.length c0_1, .int .u64 a0_2]) 36 (0, 0)) (au4b BK429)) : gb429 ≠ gb455))
          have NB455_429 := Aside0.mk ((by rw [hg]; exact Nat.ne_of_gt (blk_lt (g := gb429) (o := .cells ((Ar.cells .u32 8 a0_0) ++ #[.slice A0_1 l0_1.length c0_1, .int .u64 a0_2]) 36 (0, 0)) (au4b BK429)) : gb455 ≠ gb429))
          replace BK429 := Aside0.mk (au4B BK429 hb)
          have NB430_455 := Aside0.mk ((by rw [hg]; exact Nat.ne_of_lt (blk_lt (g := gb430) (o := .cells ((Ar.cells .u32 8 a1_0) ++ #[.slice A1_1 l1_1.length c1_1, .int .u64 a1_2]) 36 (0, 0)) (au4b BK430)) : gb430 ≠ gb455))
          have NB455_430 := Aside0.mk ((by rw [hg]; exact Nat.ne_of_gt (blk_lt (g := gb430) (o := .cells ((Ar.cells .u32 8 a1_0) ++ #[.slice A1_1 l1_1.length c1_1, .int .u64 a1_2]) 36 (0, 0)) (au4b BK430)) : gb455 ≠ gb430))
          replace BK430 := Aside0.mk (au4B BK430 hb)
          have NB445_455 := Aside0.mk ((by rw [hg]; exact Nat.ne_of_lt (blk_lt (g := gb445) (o := .cells ((Ar.cells .u32 8 t439) ++ #[v441, .int .u64 t443]) 36 (0, 0)) (au4b BK445)) : gb445 ≠ gb455))
          have NB455_445 := Aside0.mk ((by rw [hg]; exact Nat.ne_of_gt (blk_lt (g := gb445) (o := .cells ((Ar.cells .u32 8 t439) ++ #[v441, .int .u64 t443]) 36 (0, 0)) (au4b BK445)) : gb455 ≠ gb445))
          replace BK445 := Aside0.mk (au4B BK445 hb)
          clear hb hbox hg
          refine hK.out _ _ ⟨BK429.out, (blk_cell BK429.out 8).trans au4c, (blk_cell BK429.out 9).trans au4c⟩ (fun hHeld => ?_)
          clear hK K
          refine norm_ (a' := ?_) ?_ ?_
          rotate_left
          ·show Act.put _ (some 10) _ = _
           simp only [Act.put, zA_, zB_, zC_, i64_w, i32_w]
           rfl
          exact norm_ (by simp only [putAll, Act.put, zA_, zB_, zC_] <;> rfl) (hCont (.slice Ao60 t446.length co60, v451, gb455) _ ⟨hHeld, (by (with_reducible repeat (first | apply Kd.R_alloc | apply Kd.R_drewN | apply Kd.R_drew)); exact Kd.R_mono HO438.out (fun _ hk => hk.2)), (by (with_reducible repeat (first | apply Kd.V_alloc | apply Kd.V_drewN | apply Kd.V_drew)); exact Kd.V_mono HO442.out (fun _ hk => ⟨hk.1.1.1.1, ⟨hk.1.2, ⟨hk.1.1.1.2.1, ⟨hk.1.1.1.2.2, ⟨hk.1.1.2, hk.2⟩⟩⟩⟩⟩)), (by (with_reducible repeat (first | apply Kd.R_alloc | apply Kd.R_drewN | apply Kd.R_drew)); exact Kd.R_mono HO448.out (fun _ hk => hk.2)), (by (with_reducible repeat (first | apply Kd.V_alloc | apply Kd.V_drewN | apply Kd.V_drew)); exact Kd.V_mono HO452.out (fun _ hk => ⟨hk.1.1, ⟨hk.1.2.1, ⟨hk.1.2.2.1, ⟨hk.1.2.2.2.1, ⟨hk.1.2.2.2.2, hk.2⟩⟩⟩⟩⟩)), (au4b BK429), (au4b BK430), (au4b BK445), (au4b BK455), GW455.out, GE455.out, NB429_455.out, NB455_429.out, NB430_455.out, NB455_430.out, NB445_455.out, NB455_445.out, (au4s HB)⟩)
         ·skip
          refine box_step ?hg (N := 10) ?hd (cs := ((Ar.cells .u32 8 (List.replicate 8 0)) ++ #[.slice none 0 0, .int .u64 0])) (t := 36) ?hr ?_; (case hd => rfl); (case hg => rfl); (case hr => first | exact Ar.gbox_run rfl rfl | exact Ar.galloc_run rfl (by kernel_rfl) | (go_simp; done) | (go_simp; rfl))
          intro gb455 hg w60 hbox hb
          replace HO438 := Aside0.mk (Kd.R_below (au4r HO438) hb)
          replace HO442 := Aside0.mk (Kd.V_below (Kd.V_elderB (au4v HO442) gb455 (Nat.le_of_eq hg.symm)) hb)
          replace HO448 := Aside0.mk (Kd.R_below (au4r HO448) hb)
          have BK455 := Aside0.mk (hbox)
          have GW455 := Aside0.mk ((by rw [hg]; exact (below_size (au4s HB)) : w.heap.size ≤ gb455))
          have GE455 := Aside0.mk ((by rw [hg]; exact (below_size (au4s HB)) : w.heap.size ≤ gb455))
          replace HB := Aside0.mk (below_step (au4s HB) hb)
          have NB429_455 := Aside0.mk ((by rw [hg]; exact Nat.ne_of_lt (blk_lt (g := gb429) (o := .cells ((Ar.cells .u32 8 a0_0) ++ #[.slice A0_1 l0_1.length c0_1, .int .u64 a0_2]) 36 (0, 0)) (au4b BK429)) : gb429 ≠ gb455))
          have NB455_429 := Aside0.mk ((by rw [hg]; exact Nat.ne_of_gt (blk_lt (g := gb429) (o := .cells ((Ar.cells .u32 8 a0_0) ++ #[.slice A0_1 l0_1.length c0_1, .int .u64 a0_2]) 36 (0, 0)) (au4b BK429)) : gb455 ≠ gb429))
          replace BK429 := Aside0.mk (au4B BK429 hb)
          have NB430_455 := Aside0.mk ((by rw [hg]; exact Nat.ne_of_lt (blk_lt (g := gb430) (o := .cells ((Ar.cells .u32 8 a1_0) ++ #[.slice A1_1 l1_1.length c1_1, .int .u64 a1_2]) 36 (0, 0)) (au4b BK430)) : gb430 ≠ gb455))
          have NB455_430 := Aside0.mk ((by rw [hg]; exact Nat.ne_of_gt (blk_lt (g := gb430) (o := .cells ((Ar.cells .u32 8 a1_0) ++ #[.slice A1_1 l1_1.length c1_1, .int .u64 a1_2]) 36 (0, 0)) (au4b BK430)) : gb455 ≠ gb430))
          replace BK430 := Aside0.mk (au4B BK430 hb)
          have NB445_455 := Aside0.mk ((by rw [hg]; exact Nat.ne_of_lt (blk_lt (g := gb445) (o := .cells ((Ar.cells .u32 8 t439) ++ #[v441, .int .u64 t443]) 36 (0, 0)) (au4b BK445)) : gb445 ≠ gb455))
          have NB455_445 := Aside0.mk ((by rw [hg]; exact Nat.ne_of_gt (blk_lt (g := gb445) (o := .cells ((Ar.cells .u32 8 t439) ++ #[v441, .int .u64 t443]) 36 (0, 0)) (au4b BK445)) : gb455 ≠ gb445))
          replace BK445 := Aside0.mk (au4B BK445 hb)
          clear hb hbox hg
          obtain ⟨Ao61, co61, eo61⟩ := Kd.R_slice HO448.out
          (first | subst eo61 | (injection eo61 with f1_ f2_ f3_; have f4_ := f1_.symm; have f5_ := f3_.symm; clear f1_ f2_ f3_; subst f4_; subst f5_))
          refine hK.out _ _ ⟨BK429.out, (blk_cell BK429.out 8).trans au4c, (blk_cell BK429.out 9).trans au4c⟩ (fun hHeld => ?_)
          clear hK K
          refine norm_ (a' := ?_) ?_ ?_
          rotate_left
          ·show Act.put _ (some 10) _ = _
           simp only [Act.put, zA_, zB_, zC_, i64_w, i32_w]
           rfl
          refine one_ (i := 3) (N := some 46) #[true, true, true, true, false, false, false, true, false, false] rfl rfl (one_of HT_.out (by kernel_rfl)) (by decide) (fun K hK => ?_)
          refine goes_ Tryd.func13 (by kernel_rfl) rfl #[.agg ((Ar.cells .u32 8 a0_0) ++ #[.slice A0_1 l0_1.length c0_1, .int .u64 a0_2]), .slice Ao61 t446.length co61] (by rfl) rfl rfl ql ?_
          with_reducible refine (drawlotref05_Write.calls k a0_0 _ _ l0_1 a0_2 _ _ t446 t449 t450 t453 t454 _ ?side1 ?side2 ?side3 ?side4 A27.out).mono ?_
          (case side1 => repeat (first | exact (Kd.C_below HR0_1.out HB.out) | (with_reducible refine Kd.C_alloc ?_ _) | (with_reducible refine Kd.C_drewN ?_ _) | (with_reducible refine Kd.C_drew ?_)))
          (case side2 => exact HC0_1.out)
          (case side3 => repeat (first | exact (Kd.R_reads' HO448.out).2.2 | (with_reducible refine Kd.C_alloc ?_ _) | (with_reducible refine Kd.C_drewN ?_ _) | (with_reducible refine Kd.C_drew ?_)))
          (case side4 => exact (Kd.R_reads' HO448.out).2.1)
          rintro e w62 ⟨v451, rfl, ho0, hb⟩
          refine ⟨_, rfl, ?_⟩
          replace HO442 := Aside0.mk (Kd.V_below (au4v HO442) hb)
          have HO452 := Aside0.mk (Kd.V_lower (Kd.V_mono (ok' := fun k_ => some k_ ≠ (v437 : Value).ownBlock ∧ some k_ ≠ (.slice Ao61 t446.length co61 : Value).ownBlock ∧ k_ ≠ gb429 ∧ k_ ≠ gb430 ∧ k_ ≠ gb445 ∧ k_ ≠ gb455) ho0 (fun k_ hk_ => ⟨(Kd.fresh' (Kd.R_lt (au4r HO438)) k_ hk_), (Kd.fresh' (Kd.R_lt (au4r HO448)) k_ hk_), (Kd.freshB (g := gb429) (o := .cells ((Ar.cells .u32 8 a0_0) ++ #[.slice A0_1 l0_1.length c0_1, .int .u64 a0_2]) 36 (0, 0)) (au4b BK429) k_ hk_), (Kd.freshB (g := gb430) (o := .cells ((Ar.cells .u32 8 a1_0) ++ #[.slice A1_1 l1_1.length c1_1, .int .u64 a1_2]) 36 (0, 0)) (au4b BK430) k_ hk_), (Kd.freshB (g := gb445) (o := .cells ((Ar.cells .u32 8 t439) ++ #[v441, .int .u64 t443]) 36 (0, 0)) (au4b BK445) k_ hk_), (Kd.freshB (g := gb455) (o := .cells ((Ar.cells .u32 8 (List.replicate 8 0)) ++ #[.slice none 0 0, .int .u64 0]) 36 (0, 0)) (au4b BK455) k_ hk_)⟩)) (below_size (au4s HB)))
          replace HO438 := Aside0.mk (Kd.R_below (au4r HO438) hb)
          replace HO448 := Aside0.mk (Kd.R_below (au4r HO448) hb)
          replace BK429 := Aside0.mk (au4B BK429 hb)
          replace BK430 := Aside0.mk (au4B BK430 hb)
          replace BK445 := Aside0.mk (au4B BK445 hb)
          replace BK455 := Aside0.mk (blk_below (g := gb455) (o := .cells ((Ar.cells .u32 8 (List.replicate 8 0)) ++ #[.slice none 0 0, .int .u64 0]) 36 (0, 0)) (au4b BK455) hb)
          replace HB := Aside0.mk (below_step (au4s HB) hb)
          (try clear hb)
          (try clear hb2)
          (try clear hk)
          (try clear hi)
          (try clear ho0)
          refine hK.out _ _ ⟨BK429.out, (blk_cell BK429.out 8).trans au4c, (blk_cell BK429.out 9).trans au4c⟩ (fun hHeld => ?_)
          clear hK K
          refine norm_ (a' := ?_) ?_ ?_
          rotate_left
          ·show Act.put _ (some 46) _ = _
           simp only [Act.put, zA_, zB_, zC_, i64_w, i32_w]
           rfl
          refine pure_ (i := 4) (N := some 42) (v := ?_) (a' := ?_) #[true, true, true, true, true, false, false, true, false, false] rfl rfl (any_of HT_.out (by kernel_rfl)) (fun _ _ _ h => h) (Or.inl ⟨by rfl, ?_⟩) ?_ ?_
          rotate_left
          ·intro w'
           go_simp
           with_reducible rfl
          rotate_left
          ·simp only [Act.put, zA_, zB_, zC_, i64_w, i32_w]
           rfl
          refine pure_ (i := 5) (N := some 47) (v := ?_) (a' := ?_) #[true, true, true, true, true, true, false, true, false, false] rfl rfl (any_of HT_.out (by kernel_rfl)) (fun _ _ _ h => h) (Or.inl ⟨by rfl, ?_⟩) ?_ ?_
          rotate_left
          ·intro w'
           go_simp
           with_reducible rfl
          rotate_left
          ·simp only [Act.put, zA_, zB_, zC_, i64_w, i32_w]
           rfl
          refine pure_ (i := 6) (N := some 48) (v := ?_) (a' := ?_) #[true, true, true, true, true, true, true, true, false, false] rfl rfl (any_of HT_.out (by kernel_rfl)) (fun _ _ _ h => h) (Or.inl ⟨by rfl, ?_⟩) ?_ ?_
          rotate_left
          ·intro w'
           go_simp
           with_reducible rfl
          rotate_left
          ·simp only [Act.put, zA_, zB_, zC_, i64_w, i32_w]
           rfl
          exact norm_ (by simp only [putAll, Act.put, zA_, zB_, zC_] <;> rfl) (hCont (.slice Ao61 t446.length co61, v451, gb455) _ ⟨hHeld, (by (with_reducible repeat (first | apply Kd.R_alloc | apply Kd.R_drewN | apply Kd.R_drew)); exact Kd.R_mono HO438.out (fun _ hk => hk.2)), (by (with_reducible repeat (first | apply Kd.V_alloc | apply Kd.V_drewN | apply Kd.V_drew)); exact Kd.V_mono HO442.out (fun _ hk => ⟨hk.1.1.1.1, ⟨hk.1.2, ⟨hk.1.1.1.2.1, ⟨hk.1.1.1.2.2, ⟨hk.1.1.2, hk.2⟩⟩⟩⟩⟩)), (by (with_reducible repeat (first | apply Kd.R_alloc | apply Kd.R_drewN | apply Kd.R_drew)); exact Kd.R_mono HO448.out (fun _ hk => hk.2)), (au4v HO452), (au4b BK429), (au4b BK430), (au4b BK445), (au4b BK455), GW455.out, GE455.out, NB429_455.out, NB455_429.out, NB430_455.out, NB455_430.out, NB445_455.out, NB455_445.out, (au4s HB)⟩)
        ·skip
         refine box_step ?hg (N := 10) ?hd (cs := ((Ar.cells .u32 8 (List.replicate 8 0)) ++ #[.slice none 0 0, .int .u64 0])) (t := 36) ?hr ?_; (case hd => rfl); (case hg => rfl); (case hr => first | exact Ar.gbox_run rfl rfl | exact Ar.galloc_run rfl (by kernel_rfl) | (go_simp; done) | (go_simp; rfl))
         intro gb455 hg w59 hbox hb
         replace HO438 := Aside0.mk (Kd.R_below (au4r HO438) hb)
         replace HO442 := Aside0.mk (Kd.V_below (Kd.V_elderB (au4v HO442) gb455 (Nat.le_of_eq hg.symm)) hb)
         have BK455 := Aside0.mk (hbox)
         have GW455 := Aside0.mk ((by rw [hg]; exact (below_size (au4s HB)) : w.heap.size ≤ gb455))
         have GE455 := Aside0.mk ((by rw [hg]; exact (below_size (au4s HB)) : w.heap.size ≤ gb455))
         replace HB := Aside0.mk (below_step (au4s HB) hb)
         have NB429_455 := Aside0.mk ((by rw [hg]; exact Nat.ne_of_lt (blk_lt (g := gb429) (o := .cells ((Ar.cells .u32 8 a0_0) ++ #[.slice A0_1 l0_1.length c0_1, .int .u64 a0_2]) 36 (0, 0)) (au4b BK429)) : gb429 ≠ gb455))
         have NB455_429 := Aside0.mk ((by rw [hg]; exact Nat.ne_of_gt (blk_lt (g := gb429) (o := .cells ((Ar.cells .u32 8 a0_0) ++ #[.slice A0_1 l0_1.length c0_1, .int .u64 a0_2]) 36 (0, 0)) (au4b BK429)) : gb455 ≠ gb429))
         replace BK429 := Aside0.mk (au4B BK429 hb)
         have NB430_455 := Aside0.mk ((by rw [hg]; exact Nat.ne_of_lt (blk_lt (g := gb430) (o := .cells ((Ar.cells .u32 8 a1_0) ++ #[.slice A1_1 l1_1.length c1_1, .int .u64 a1_2]) 36 (0, 0)) (au4b BK430)) : gb430 ≠ gb455))
         have NB455_430 := Aside0.mk ((by rw [hg]; exact Nat.ne_of_gt (blk_lt (g := gb430) (o := .cells ((Ar.cells .u32 8 a1_0) ++ #[.slice A1_1 l1_1.length c1_1, .int .u64 a1_2]) 36 (0, 0)) (au4b BK430)) : gb455 ≠ gb430))
         replace BK430 := Aside0.mk (au4B BK430 hb)
         have NB445_455 := Aside0.mk ((by rw [hg]; exact Nat.ne_of_lt (blk_lt (g := gb445) (o := .cells ((Ar.cells .u32 8 t439) ++ #[v441, .int .u64 t443]) 36 (0, 0)) (au4b BK445)) : gb445 ≠ gb455))
         have NB455_445 := Aside0.mk ((by rw [hg]; exact Nat.ne_of_gt (blk_lt (g := gb445) (o := .cells ((Ar.cells .u32 8 t439) ++ #[v441, .int .u64 t443]) 36 (0, 0)) (au4b BK445)) : gb455 ≠ gb445))
         replace BK445 := Aside0.mk (au4B BK445 hb)
         clear hb hbox hg
         refine hK.out _ _ ⟨BK429.out, (blk_cell BK429.out 8).trans au4c, (blk_cell BK429.out 9).trans au4c⟩ (fun hHeld => ?_)
         clear hK K
         refine norm_ (a' := ?_) ?_ ?_
         rotate_left
         ·show Act.put _ (some 10) _ = _
          simp only [Act.put, zA_, zB_, zC_, i64_w, i32_w]
          rfl
         refine one_ (i := 2) (N := some 45) #[true, true, true, false, false, false, false, true, false, false] rfl rfl (one_of HT_.out (by kernel_rfl)) (by decide) (fun K hK => ?_)
         refine goes_ Tryd.func11 (by kernel_rfl) rfl #[.slice A2 l2.length c2] (by rfl) rfl rfl ql ?_
         with_reducible refine (drawlotref05_Join.calls k _ _ l2 t446 _ ?side1 ?side2 A26.out).mono ?_
         (case side1 => repeat (first | exact (Kd.C_below HR2.out HB.out) | (with_reducible refine Kd.C_alloc ?_ _) | (with_reducible refine Kd.C_drewN ?_ _) | (with_reducible refine Kd.C_drew ?_)))
         (case side2 => exact HC2.out)
         rintro e w60 ⟨v447, rfl, ho0, hb⟩
         refine ⟨_, rfl, ?_⟩
         replace HO442 := Aside0.mk (Kd.V_elder' (au4v HO442) (Kd.R_base ho0) hb)
         have HO448 := Aside0.mk (Kd.R_lower (Kd.R_new' ho0 (Kd.R_lt (au4r HO438))) (below_size (au4s HB)))
         replace HO438 := Aside0.mk (Kd.R_elder' (au4r HO438) (Kd.R_base ho0) hb)
         replace BK429 := Aside0.mk (au4B BK429 hb)
         replace BK430 := Aside0.mk (au4B BK430 hb)
         replace BK445 := Aside0.mk (au4B BK445 hb)
         replace BK455 := Aside0.mk (blk_below (g := gb455) (o := .cells ((Ar.cells .u32 8 (List.replicate 8 0)) ++ #[.slice none 0 0, .int .u64 0]) 36 (0, 0)) (au4b BK455) hb)
         replace HB := Aside0.mk (below_step (au4s HB) hb)
         (try clear hb)
         (try clear hb2)
         (try clear hk)
         (try clear hi)
         (try clear ho0)
         obtain ⟨Ao61, co61, eo61⟩ := Kd.R_slice HO448.out
         (first | subst eo61 | (injection eo61 with f1_ f2_ f3_; have f4_ := f1_.symm; have f5_ := f3_.symm; clear f1_ f2_ f3_; subst f4_; subst f5_))
         refine hK.out _ _ ⟨BK429.out, (blk_cell BK429.out 8).trans au4c, (blk_cell BK429.out 9).trans au4c⟩ (fun hHeld => ?_)
         clear hK K
         refine norm_ (a' := ?_) ?_ ?_
         rotate_left
         ·show Act.put _ (some 45) _ = _
          simp only [Act.put, zA_, zB_, zC_, i64_w, i32_w]
          rfl
         refine one_ (i := 3) (N := some 46) #[true, true, true, true, false, false, false, true, false, false] rfl rfl (one_of HT_.out (by kernel_rfl)) (by decide) (fun K hK => ?_)
         refine goes_ Tryd.func13 (by kernel_rfl) rfl #[.agg ((Ar.cells .u32 8 a0_0) ++ #[.slice A0_1 l0_1.length c0_1, .int .u64 a0_2]), .slice Ao61 t446.length co61] (by rfl) rfl rfl ql ?_
         with_reducible refine (drawlotref05_Write.calls k a0_0 _ _ l0_1 a0_2 _ _ t446 t449 t450 t453 t454 _ ?side1 ?side2 ?side3 ?side4 A27.out).mono ?_
         (case side1 => repeat (first | exact (Kd.C_below HR0_1.out HB.out) | (with_reducible refine Kd.C_alloc ?_ _) | (with_reducible refine Kd.C_drewN ?_ _) | (with_reducible refine Kd.C_drew ?_)))
         (case side2 => exact HC0_1.out)
         (case side3 => repeat (first | exact (Kd.R_reads' HO448.out).2.2 | (with_reducible refine Kd.C_alloc ?_ _) | (with_reducible refine Kd.C_drewN ?_ _) | (with_reducible refine Kd.C_drew ?_)))
         (case side4 => exact (Kd.R_reads' HO448.out).2.1)
         rintro e w62 ⟨v451, rfl, ho0, hb⟩
         refine ⟨_, rfl, ?_⟩
         replace HO442 := Aside0.mk (Kd.V_below (au4v HO442) hb)
         have HO452 := Aside0.mk (Kd.V_lower (Kd.V_mono (ok' := fun k_ => some k_ ≠ (v437 : Value).ownBlock ∧ some k_ ≠ (.slice Ao61 t446.length co61 : Value).ownBlock ∧ k_ ≠ gb429 ∧ k_ ≠ gb430 ∧ k_ ≠ gb445 ∧ k_ ≠ gb455) ho0 (fun k_ hk_ => ⟨(Kd.fresh' (Kd.R_lt (au4r HO438)) k_ hk_), (Kd.fresh' (Kd.R_lt (au4r HO448)) k_ hk_), (Kd.freshB (g := gb429) (o := .cells ((Ar.cells .u32 8 a0_0) ++ #[.slice A0_1 l0_1.length c0_1, .int .u64 a0_2]) 36 (0, 0)) (au4b BK429) k_ hk_), (Kd.freshB (g := gb430) (o := .cells ((Ar.cells .u32 8 a1_0) ++ #[.slice A1_1 l1_1.length c1_1, .int .u64 a1_2]) 36 (0, 0)) (au4b BK430) k_ hk_), (Kd.freshB (g := gb445) (o := .cells ((Ar.cells .u32 8 t439) ++ #[v441, .int .u64 t443]) 36 (0, 0)) (au4b BK445) k_ hk_), (Kd.freshB (g := gb455) (o := .cells ((Ar.cells .u32 8 (List.replicate 8 0)) ++ #[.slice none 0 0, .int .u64 0]) 36 (0, 0)) (au4b BK455) k_ hk_)⟩)) (below_size (au4s HB)))
         replace HO438 := Aside0.mk (Kd.R_below (au4r HO438) hb)
         replace HO448 := Aside0.mk (Kd.R_below (au4r HO448) hb)
         replace BK429 := Aside0.mk (au4B BK429 hb)
         replace BK430 := Aside0.mk (au4B BK430 hb)
         replace BK445 := Aside0.mk (au4B BK445 hb)
         replace BK455 := Aside0.mk (blk_below (g := gb455) (o := .cells ((Ar.cells .u32 8 (List.replicate 8 0)) ++ #[.slice none 0 0, .int .u64 0]) 36 (0, 0)) (au4b BK455) hb)
         replace HB := Aside0.mk (below_step (au4s HB) hb)
         (try clear hb)
         (try clear hb2)
         (try clear hk)
         (try clear hi)
         (try clear ho0)
         refine hK.out _ _ ⟨BK429.out, (blk_cell BK429.out 8).trans au4c, (blk_cell BK429.out 9).trans au4c⟩ (fun hHeld => ?_)
         clear hK K
         refine norm_ (a' := ?_) ?_ ?_
         rotate_left
         ·show Act.put _ (some 46) _ = _
          simp only [Act.put, zA_, zB_, zC_, i64_w, i32_w]
          rfl
         refine pure_ (i := 4) (N := some 42) (v := ?_) (a' := ?_) #[true, true, true, true, true, false, false, true, false, false] rfl rfl (any_of HT_.out (by kernel_rfl)) (fun _ _ _ h => h) (Or.inl ⟨by rfl, ?_⟩) ?_ ?_
         rotate_left
         ·intro w'
          go_simp
          with_reducible rfl
         rotate_left
         ·simp only [Act.put, zA_, zB_, zC_, i64_w, i32_w]
          rfl
         refine pure_ (i := 5) (N := some 47) (v := ?_) (a' := ?_) #[true, true, true, true, true, true, false, true, false, false] rfl rfl (any_of HT_.out (by kernel_rfl)) (fun _ _ _ h => h) (Or.inl ⟨by rfl, ?_⟩) ?_ ?_
         rotate_left
         ·intro w'
          go_simp
          with_reducible rfl
         rotate_left
         ·simp only [Act.put, zA_, zB_, zC_, i64_w, i32_w]
          rfl
         refine pure_ (i := 6) (N := some 48) (v := ?_) (a' := ?_) #[true, true, true, true, true, true, true, true, false, false] rfl rfl (any_of HT_.out (by kernel_rfl)) (fun _ _ _ h => h) (Or.inl ⟨by rfl, ?_⟩) ?_ ?_
         rotate_left
         ·intro w'
          go_simp
          with_reducible rfl
         rotate_left
         ·simp only [Act.put, zA_, zB_, zC_, i64_w, i32_w]
          rfl
         exact norm_ (by simp only [putAll, Act.put, zA_, zB_, zC_] <;> rfl) (hCont (.slice Ao61 t446.length co61, v451, gb455) _ ⟨hHeld, (by (with_reducible repeat (first | apply Kd.R_alloc | apply Kd.R_drewN | apply Kd.R_drew)); exact Kd.R_mono HO438.out (fun _ hk => hk.2)), (by (with_reducible repeat (first | apply Kd.V_alloc | apply Kd.V_drewN | apply Kd.V_drew)); exact Kd.V_mono HO442.out (fun _ hk => ⟨hk.1.1.1.1, ⟨hk.2, ⟨hk.1.1.1.2.1, ⟨hk.1.1.1.2.2, ⟨hk.1.1.2, hk.1.2⟩⟩⟩⟩⟩)), (by (with_reducible repeat (first | apply Kd.R_alloc | apply Kd.R_drewN | apply Kd.R_drew)); exact Kd.R_mono HO448.out (fun _ hk => hk.2)), (au4v HO452), (au4b BK429), (au4b BK430), (au4b BK445), (au4b BK455), GW455.out, GE455.out, NB429_455.out, NB455_429.out, NB430_455.out, NB455_430.out, NB445_455.out, NB455_445.out, (au4s HB)⟩)
       rintro ⟨v447, v451, gb455⟩ w63 ⟨hS_, h0_, h1_, h2_, h3_, h4_, h5_, h6_, h7_, h8_, h9_, h10_, h11_, h12_, h13_, h14_, h15_, h16_⟩
       have n0_ : Aside0 (Kd.R (Kd.int .u8) 5 w63 w.heap.size (fun k_ => some k_ ≠ (v447 : Value).ownBlock) v437 y436) := ⟨h0_⟩
       have n1_ : Aside0 (Kd.V (Kd.int .u8) 5 w63 w.heap.size (fun k_ => some k_ ≠ (v437 : Value).ownBlock ∧ some k_ ≠ (v447 : Value).ownBlock ∧ k_ ≠ gb429 ∧ k_ ≠ gb430 ∧ k_ ≠ gb445 ∧ k_ ≠ gb455) v441 t440) := ⟨h1_⟩
       have n2_ : Aside0 (Kd.R (Kd.int .u8) 5 w63 w.heap.size (fun k_ => some k_ ≠ (v437 : Value).ownBlock) v447 t446) := ⟨h2_⟩
       have n3_ : Aside0 (Kd.V (Kd.int .u8) 5 w63 w.heap.size (fun k_ => some k_ ≠ (v437 : Value).ownBlock ∧ some k_ ≠ (v447 : Value).ownBlock ∧ k_ ≠ gb429 ∧ k_ ≠ gb430 ∧ k_ ≠ gb445 ∧ k_ ≠ gb455) v451 t450) := ⟨h3_⟩
       have n4_ : Aside0 (w63.heap[gb429]? = some (.cells ((Ar.cells .u32 8 a0_0) ++ #[.slice A0_1 l0_1.length c0_1, .int .u64 a0_2]) 36 (0, 0))) := ⟨h4_⟩
       have n5_ : Aside0 (w63.heap[gb430]? = some (.cells ((Ar.cells .u32 8 a1_0) ++ #[.slice A1_1 l1_1.length c1_1, .int .u64 a1_2]) 36 (0, 0))) := ⟨h5_⟩
       have n6_ : Aside0 (w63.heap[gb445]? = some (.cells ((Ar.cells .u32 8 t439) ++ #[v441, .int .u64 t443]) 36 (0, 0))) := ⟨h6_⟩
       have n7_ : Aside0 (w63.heap[gb455]? = some (.cells ((Ar.cells .u32 8 (List.replicate 8 0)) ++ #[.slice none 0 0, .int .u64 0]) 36 (0, 0))) := ⟨h7_⟩
       have n8_ : Aside0 (w.heap.size ≤ gb455) := ⟨h8_⟩
       have n9_ : Aside0 (w.heap.size ≤ gb455) := ⟨h9_⟩
       have n10_ : Aside0 (gb429 ≠ gb455) := ⟨h10_⟩
       have n11_ : Aside0 (gb455 ≠ gb429) := ⟨h11_⟩
       have n12_ : Aside0 (gb430 ≠ gb455) := ⟨h12_⟩
       have n13_ : Aside0 (gb455 ≠ gb430) := ⟨h13_⟩
       have n14_ : Aside0 (gb445 ≠ gb455) := ⟨h14_⟩
       have n15_ : Aside0 (gb455 ≠ gb445) := ⟨h15_⟩
       have n16_ : Aside0 (Below w.heap.size w w63) := ⟨h16_⟩
       clear HO438 HO442 BK429 BK430 BK445 HB h0_ h1_ h2_ h3_ h4_ h5_ h6_ h7_ h8_ h9_ h10_ h11_ h12_ h13_ h14_ h15_ h16_
       have HO438 := n0_
       have HO442 := n1_
       have HO448 := n2_
       have HO452 := n3_
       have BK429 := n4_
       have BK430 := n5_
       have BK445 := n6_
       have BK455 := n7_
       have GW455 := n8_
       have GE455 := n9_
       have NB429_455 := n10_
       have NB455_429 := n11_
       have NB430_455 := n12_
       have NB455_430 := n13_
       have NB445_455 := n14_
       have NB455_445 := n15_
       have HB := n16_
       clear n0_ n1_ n2_ n3_ n4_ n5_ n6_ n7_ n8_ n9_ n10_ n11_ n12_ n13_ n14_ n15_ n16_
       have hHeld : w63.heap[gb429]? = some (.cells ((Ar.cells .u32 8 a0_0) ++ #[.slice A0_1 l0_1.length c0_1, .int .u64 a0_2]) 36 (0, 0)) ∧ w63.cell? ⟨gb429, 8, none⟩ = some (.slice A0_1 l0_1.length c0_1) ∧ w63.cell? ⟨gb429, 9, none⟩ = some (.int .u64 a0_2) := hS_
       refine norm_ (a' := ?_) ?_ ?_
       rotate_left
       ·simp only [putAll, Act.put, zA_, zB_, zC_]
        rfl
       refine one_ (i := 8) (N := none) #[true, true, true, true, true, true, true, true, true, false] rfl rfl (one_of HT_.out (by kernel_rfl)) (by decide) (fun K hK => ?_)
       refine Ar.gstore_step (by rfl) rfl rfl (D := ((Ar.cells .u32 8 t449) ++ #[v451, .int .u64 t453])) qz (g := gb455) rfl qg (au4b BK455) (by simp [Ar.cells_size]) (by repeat (first | (with_reducible refine Ar.all_app ?_ ?_) | (with_reducible exact Ar.cells_one _ _ _) | (focus (simp [Value.oneCell']; done)) | (focus (simp [(show (v451 : Value).oneCell' = true from by (have e_ := Kd.V_slice HO452.out; obtain ⟨_, _, e_⟩ := e_; rw [e_]; rfl))]; first | done | rfl | (repeat' constructor))) | rfl)) ?_; intro w64 hbk_ hg
       replace BK429 := Aside0.mk (au4G BK429 hg (fun e_ => NB429_455.out (Option.some.inj e_)))
       replace BK430 := Aside0.mk (au4G BK430 hg (fun e_ => NB430_455.out (Option.some.inj e_)))
       replace HO438 := Aside0.mk (Kd.R_mono (Kd.R_grown (Kd.R_types (au4r HO438) BK455.out (by decide)) hg (fun k_ hk_ e_ => hk_.2 (Option.some.inj e_))) (fun _ h_ => h_.1))
       replace HO442 := Aside0.mk (Kd.V_grown (au4v HO442) hg (by intro k_ hk e_; exact (hk.2.2.2.2.2) (Option.some.inj e_)))
       replace BK445 := Aside0.mk (au4G BK445 hg (fun e_ => NB445_455.out (Option.some.inj e_)))
       replace HO448 := Aside0.mk (Kd.R_mono (Kd.R_grown (Kd.R_types (au4r HO448) BK455.out (by decide)) hg (fun k_ hk_ e_ => hk_.2 (Option.some.inj e_))) (fun _ h_ => h_.1))
       replace HO452 := Aside0.mk (Kd.V_grown (au4v HO452) hg (by intro k_ hk e_; exact (hk.2.2.2.2.2) (Option.some.inj e_)))
       replace BK455 := Aside0.mk (hbk_)
       replace HB := Aside0.mk (Below.grown (au4s HB) hg ((below_size (au4s HB))) (fun _ e_ => by cases e_; exact GE455.out))
       clear hbk_ hg
       refine hK.out _ _ ⟨BK429.out, (blk_cell BK429.out 8).trans au4c, (blk_cell BK429.out 9).trans au4c⟩ (fun hHeld => ?_)
       clear hK K
       refine pure_ (i := 9) (N := some 11) (v := ?_) (a' := ?_) #[true, true, true, true, true, true, true, true, true, true] rfl rfl (any_of HT_.out (by kernel_rfl)) (fun _ _ _ h => h) (Or.inl ⟨by rfl, ?_⟩) ?_ ?_
       rotate_left
       ·intro w'
        go_simp
        with_reducible rfl
       rotate_left
       ·simp only [Act.put, zA_, zB_, zC_, i64_w, i32_w]
        rfl
       refine done_ (done_of HT_.out (by kernel_rfl)) ?_
       try go_wp2_with (first | ((with_reducible refine gate_dst (N := 50) rfl ?_); (try (refine gate_guard (by rfl) ?_; dsimp only)); refine Ar.gload_event rfl (T := 36) rfl Tryd.underlying36 rfl (D := ((Ar.cells .u32 8 a0_0) ++ #[.slice A0_1 l0_1.length c0_1, .int .u64 a0_2])) qz (A := ⟨gb429, 0, none⟩) rfl (Ar.blk_part (au4b BK429) Ar.in_whole) ?_) | ((with_reducible refine gate_callee (f := 14) rfl ?_); refine goesL_ (some 51) rfl rfl Tryd.func14 (by kernel_rfl) rfl #[.agg ((Ar.cells .u32 8 a0_0) ++ #[.slice A0_1 l0_1.length c0_1, .int .u64 a0_2])] rfl ql ?_; (with_reducible refine (sha_Finish.calls k a0_0 _ _ l0_1 a0_2 t456 t457 _ ?side1 ?side2 A28.out).mono ?_); (case side1 => repeat (first | exact (Kd.C_below HR0_1.out HB.out) | (with_reducible refine Kd.C_alloc ?_ _) | (with_reducible refine Kd.C_drewN ?_ _) | (with_reducible refine Kd.C_drew ?_))); (case side2 => exact HC0_1.out); rintro e w65 ⟨rfl, hb⟩; refine ⟨_, rfl, ?_⟩; replace HO438 := Aside0.mk (Kd.R_below (au4r HO438) hb); replace HO442 := Aside0.mk (Kd.V_below (au4v HO442) hb); replace HO448 := Aside0.mk (Kd.R_below (au4r HO448) hb); replace HO452 := Aside0.mk (Kd.V_below (au4v HO452) hb); replace BK429 := Aside0.mk (au4B BK429 hb); replace BK430 := Aside0.mk (au4B BK430 hb); replace BK445 := Aside0.mk (au4B BK445 hb); replace BK455 := Aside0.mk (au4B BK455 hb); replace HB := Aside0.mk (below_step (au4s HB) hb); (try clear hb); (try clear hb2); (try clear hk); (try clear hi)) | ((with_reducible refine gate_dst (N := 12) rfl ?_); (try (refine gate_guard (by rfl) ?_; dsimp only)); refine qE (N := 12) (cs := (Ar.cells .u8 32 (List.replicate 32 0))) (t := 26) ?_; intro gb458 hg w66 hbox hb; replace HO438 := Aside0.mk (Kd.R_below (au4r HO438) hb); replace HO442 := Aside0.mk (Kd.V_below (Kd.V_elderB (au4v HO442) gb458 (Nat.le_of_eq hg.symm)) hb); replace HO448 := Aside0.mk (Kd.R_below (au4r HO448) hb); replace HO452 := Aside0.mk (Kd.V_below (Kd.V_elderB (au4v HO452) gb458 (Nat.le_of_eq hg.symm)) hb); have BK458 := Aside0.mk (hbox); have GW458 := Aside0.mk ((by rw [hg]; exact (below_size (au4s HB)) : w.heap.size ≤ gb458)); have GE458 := Aside0.mk ((by rw [hg]; exact (below_size (au4s HB)) : w.heap.size ≤ gb458)); replace HB := Aside0.mk (below_step (au4s HB) hb); have NB429_458 := Aside0.mk ((by rw [hg]; exact Nat.ne_of_lt (blk_lt (g := gb429) (o := .cells ((Ar.cells .u32 8 a0_0) ++ #[.slice A0_1 l0_1.length c0_1, .int .u64 a0_2]) 36 (0, 0)) (au4b BK429)) : gb429 ≠ gb458)); have NB458_429 := Aside0.mk ((by rw [hg]; exact Nat.ne_of_gt (blk_lt (g := gb429) (o := .cells ((Ar.cells .u32 8 a0_0) ++ #[.slice A0_1 l0_1.length c0_1, .int .u64 a0_2]) 36 (0, 0)) (au4b BK429)) : gb458 ≠ gb429)); replace BK429 := Aside0.mk (au4B BK429 hb); have NB430_458 := Aside0.mk ((by rw [hg]; exact Nat.ne_of_lt (blk_lt (g := gb430) (o := .cells ((Ar.cells .u32 8 a1_0) ++ #[.slice A1_1 l1_1.length c1_1, .int .u64 a1_2]) 36 (0, 0)) (au4b BK430)) : gb430 ≠ gb458)); have NB458_430 := Aside0.mk ((by rw [hg]; exact Nat.ne_of_gt (blk_lt (g := gb430) (o := .cells ((Ar.cells .u32 8 a1_0) ++ #[.slice A1_1 l1_1.length c1_1, .int .u64 a1_2]) 36 (0, 0)) (au4b BK430)) : gb458 ≠ gb430)); replace BK430 := Aside0.mk (au4B BK430 hb); have NB445_458 := Aside0.mk ((by rw [hg]; exact Nat.ne_of_lt (blk_lt (g := gb445) (o := .cells ((Ar.cells .u32 8 t439) ++ #[v441, .int .u64 t443]) 36 (0, 0)) (au4b BK445)) : gb445 ≠ gb458)); have NB458_445 := Aside0.mk ((by rw [hg]; exact Nat.ne_of_gt (blk_lt (g := gb445) (o := .cells ((Ar.cells .u32 8 t439) ++ #[v441, .int .u64 t443]) 36 (0, 0)) (au4b BK445)) : gb458 ≠ gb445)); replace BK445 := Aside0.mk (au4B BK445 hb); have NB455_458 := Aside0.mk ((by rw [hg]; exact Nat.ne_of_lt (blk_lt (g := gb455) (o := .cells ((Ar.cells .u32 8 t449) ++ #[v451, .int .u64 t453]) 36 (0, 0)) (au4b BK455)) : gb455 ≠ gb458)); have NB458_455 := Aside0.mk ((by rw [hg]; exact Nat.ne_of_gt (blk_lt (g := gb455) (o := .cells ((Ar.cells .u32 8 t449) ++ #[v451, .int .u64 t453]) 36 (0, 0)) (au4b BK455)) : gb458 ≠ gb455)); replace BK455 := Aside0.mk (au4B BK455 hb); clear hb hbox hg) | ((with_reducible refine gate_store (t := 26) (p := 12) rfl ?_); refine Ar.store_all_event rfl rfl rfl Tryd.underlying26 (by kernel_rfl) (g := gb458) rfl (z := t456) qg (au4b BK458) ?_; intro w67 hbk_ hg; replace BK429 := Aside0.mk (au4G BK429 hg (fun e_ => NB429_458.out (Option.some.inj e_))); replace BK430 := Aside0.mk (au4G BK430 hg (fun e_ => NB430_458.out (Option.some.inj e_))); replace HO438 := Aside0.mk (Kd.R_mono (Kd.R_grown (Kd.R_types (au4r HO438) BK458.out (by decide)) hg (fun k_ hk_ e_ => hk_.2 (Option.some.inj e_))) (fun _ h_ => h_.1)); replace HO442 := Aside0.mk (Kd.V_grown (au4v HO442) hg (by intro k_ hk e_; exact (hk.2) (Option.some.inj e_))); replace BK445 := Aside0.mk (au4G BK445 hg (fun e_ => NB445_458.out (Option.some.inj e_))); replace HO448 := Aside0.mk (Kd.R_mono (Kd.R_grown (Kd.R_types (au4r HO448) BK458.out (by decide)) hg (fun k_ hk_ e_ => hk_.2 (Option.some.inj e_))) (fun _ h_ => h_.1)); replace HO452 := Aside0.mk (Kd.V_grown (au4v HO452) hg (by intro k_ hk e_; exact (hk.2) (Option.some.inj e_))); replace BK455 := Aside0.mk (au4G BK455 hg (fun e_ => NB455_458.out (Option.some.inj e_))); replace BK458 := Aside0.mk (hbk_); replace HB := Aside0.mk (Below.grown (au4s HB) hg ((below_size (au4s HB))) (fun _ e_ => by cases e_; exact GE458.out)); clear hbk_ hg) | ((with_reducible refine gate_dst (N := 55) rfl ?_); (try (refine gate_guard (by rfl) ?_; dsimp only)); refine Ar.gload_event rfl (T := 36) rfl Tryd.underlying36 rfl (D := ((Ar.cells .u32 8 a0_0) ++ #[.slice A0_1 l0_1.length c0_1, .int .u64 a0_2])) qz (A := ⟨gb429, 0, none⟩) rfl (Ar.blk_part (au4b BK429) Ar.in_whole) ?_) | ((with_reducible refine gate_callee (f := 15) rfl ?_); refine goesL_ (some 56) rfl rfl Tryd.func15 (by kernel_rfl) rfl #[.agg ((Ar.cells .u32 8 a0_0) ++ #[.slice A0_1 l0_1.length c0_1, .int .u64 a0_2])] rfl ql ?_; (with_reducible refine (drawlotref05_Finish.calls k a0_0 _ _ l0_1 a0_2 t459 t460 _ ?side1 ?side2 A29.out).mono ?_); (case side1 => repeat (first | exact (Kd.C_below HR0_1.out HB.out) | (with_reducible refine Kd.C_alloc ?_ _) | (with_reducible refine Kd.C_drewN ?_ _) | (with_reducible refine Kd.C_drew ?_))); (case side2 => exact HC0_1.out); rintro e w68 ⟨rfl, hb⟩; refine ⟨_, rfl, ?_⟩; replace HO438 := Aside0.mk (Kd.R_below (au4r HO438) hb); replace HO442 := Aside0.mk (Kd.V_below (au4v HO442) hb); replace HO448 := Aside0.mk (Kd.R_below (au4r HO448) hb); replace HO452 := Aside0.mk (Kd.V_below (au4v HO452) hb); replace BK429 := Aside0.mk (au4B BK429 hb); replace BK430 := Aside0.mk (au4B BK430 hb); replace BK445 := Aside0.mk (au4B BK445 hb); replace BK455 := Aside0.mk (au4B BK455 hb); replace BK458 := Aside0.mk (au4B BK458 hb); replace HB := Aside0.mk (below_step (au4s HB) hb); (try clear hb); (try clear hb2); (try clear hk); (try clear hi)) | ((with_reducible refine gate_dst (N := 14) rfl ?_); (try (refine gate_guard (by rfl) ?_; dsimp only)); refine qE (N := 14) (cs := (Ar.cells .u8 32 (List.replicate 32 0))) (t := 26) ?_; intro gb461 hg w69 hbox hb; replace HO438 := Aside0.mk (Kd.R_below (au4r HO438) hb); replace HO442 := Aside0.mk (Kd.V_below (Kd.V_elderB (au4v HO442) gb461 (Nat.le_of_eq hg.symm)) hb); replace HO448 := Aside0.mk (Kd.R_below (au4r HO448) hb); replace HO452 := Aside0.mk (Kd.V_below (Kd.V_elderB (au4v HO452) gb461 (Nat.le_of_eq hg.symm)) hb); have BK461 := Aside0.mk (hbox); have GW461 := Aside0.mk ((by rw [hg]; exact (below_size (au4s HB)) : w.heap.size ≤ gb461)); have GE461 := Aside0.mk ((by rw [hg]; exact (below_size (au4s HB)) : w.heap.size ≤ gb461)); replace HB := Aside0.mk (below_step (au4s HB) hb); have NB429_461 := Aside0.mk ((by rw [hg]; exact Nat.ne_of_lt (blk_lt (g := gb429) (o := .cells ((Ar.cells .u32 8 a0_0) ++ #[.slice A0_1 l0_1.length c0_1, .int .u64 a0_2]) 36 (0, 0)) (au4b BK429)) : gb429 ≠ gb461)); have NB461_429 := Aside0.mk ((by rw [hg]; exact Nat.ne_of_gt (blk_lt (g := gb429) (o := .cells ((Ar.cells .u32 8 a0_0) ++ #[.slice A0_1 l0_1.length c0_1, .int .u64 a0_2]) 36 (0, 0)) (au4b BK429)) : gb461 ≠ gb429)); replace BK429 := Aside0.mk (au4B BK429 hb); have NB430_461 := Aside0.mk ((by rw [hg]; exact Nat.ne_of_lt (blk_lt (g := gb430) (o := .cells ((Ar.cells .u32 8 a1_0) ++ #[.slice A1_1 l1_1.length c1_1, .int .u64 a1_2]) 36 (0, 0)) (au4b BK430)) : gb430 ≠ gb461)); have NB461_430 := Aside0.mk ((by rw [hg]; exact Nat.ne_of_gt (blk_lt (g := gb430) (o := .cells ((Ar.cells .u32 8 a1_0) ++ #[.slice A1_1 l1_1.length c1_1, .int .u64 a1_2]) 36 (0, 0)) (au4b BK430)) : gb461 ≠ gb430)); replace BK430 := Aside0.mk (au4B BK430 hb); have NB445_461 := Aside0.mk ((by rw [hg]; exact Nat.ne_of_lt (blk_lt (g := gb445) (o := .cells ((Ar.cells .u32 8 t439) ++ #[v441, .int .u64 t443]) 36 (0, 0)) (au4b BK445)) : gb445 ≠ gb461)); have NB461_445 := Aside0.mk ((by rw [hg]; exact Nat.ne_of_gt (blk_lt (g := gb445) (o := .cells ((Ar.cells .u32 8 t439) ++ #[v441, .int .u64 t443]) 36 (0, 0)) (au4b BK445)) : gb461 ≠ gb445)); replace BK445 := Aside0.mk (au4B BK445 hb); have NB455_461 := Aside0.mk ((by rw [hg]; exact Nat.ne_of_lt (blk_lt (g := gb455) (o := .cells ((Ar.cells .u32 8 t449) ++ #[v451, .int .u64 t453]) 36 (0, 0)) (au4b BK455)) : gb455 ≠ gb461)); have NB461_455 := Aside0.mk ((by rw [hg]; exact Nat.ne_of_gt (blk_lt (g := gb455) (o := .cells ((Ar.cells .u32 8 t449) ++ #[v451, .int .u64 t453]) 36 (0, 0)) (au4b BK455)) : gb461 ≠ gb455)); replace BK455 := Aside0.mk (au4B BK455 hb); have NB458_461 := Aside0.mk ((by rw [hg]; exact Nat.ne_of_lt (blk_lt (g := gb458) (o := .cells (Ar.cells .u8 32 t456) 26 (0, 0)) (au4b BK458)) : gb458 ≠ gb461)); have NB461_458 := Aside0.mk ((by rw [hg]; exact Nat.ne_of_gt (blk_lt (g := gb458) (o := .cells (Ar.cells .u8 32 t456) 26 (0, 0)) (au4b BK458)) : gb461 ≠ gb458)); replace BK458 := Aside0.mk (au4B BK458 hb); clear hb hbox hg) | ((with_reducible refine gate_store (t := 26) (p := 14) rfl ?_); refine Ar.store_all_event rfl rfl rfl Tryd.underlying26 (by kernel_rfl) (g := gb461) rfl (z := t459) qg (au4b BK461) ?_; intro w70 hbk_ hg; replace BK429 := Aside0.mk (au4G BK429 hg (fun e_ => NB429_461.out (Option.some.inj e_))); replace BK430 := Aside0.mk (au4G BK430 hg (fun e_ => NB430_461.out (Option.some.inj e_))); replace HO438 := Aside0.mk (Kd.R_mono (Kd.R_grown (Kd.R_types (au4r HO438) BK461.out (by decide)) hg (fun k_ hk_ e_ => hk_.2 (Option.some.inj e_))) (fun _ h_ => h_.1)); replace HO442 := Aside0.mk (Kd.V_grown (au4v HO442) hg (by intro k_ hk e_; exact (hk.2) (Option.some.inj e_))); replace BK445 := Aside0.mk (au4G BK445 hg (fun e_ => NB445_461.out (Option.some.inj e_))); replace HO448 := Aside0.mk (Kd.R_mono (Kd.R_grown (Kd.R_types (au4r HO448) BK461.out (by decide)) hg (fun k_ hk_ e_ => hk_.2 (Option.some.inj e_))) (fun _ h_ => h_.1)); replace HO452 := Aside0.mk (Kd.V_grown (au4v HO452) hg (by intro k_ hk e_; exact (hk.2) (Option.some.inj e_))); replace BK455 := Aside0.mk (au4G BK455 hg (fun e_ => NB455_461.out (Option.some.inj e_))); replace BK458 := Aside0.mk (au4G BK458 hg (fun e_ => NB458_461.out (Option.some.inj e_))); replace BK461 := Aside0.mk (hbk_); replace HB := Aside0.mk (Below.grown (au4s HB) hg ((below_size (au4s HB))) (fun _ e_ => by cases e_; exact GE461.out)); clear hbk_ hg; obtain ⟨Ao71, co71, eo71⟩ := Kd.V_slice HO442.out; subst eo71; obtain ⟨Ao72, co72, eo72⟩ := Kd.V_slice HO452.out; subst eo72))
       replace HO438 := Aside0.mk (Kd.R_drew HO438.out)
       replace HO442 := Aside0.mk (Kd.V_drew HO442.out)
       replace HO448 := Aside0.mk (Kd.R_drew HO448.out)
       replace HO452 := Aside0.mk (Kd.V_drew HO452.out)
       replace BK429 := Aside0.mk (blk_drew BK429.out)
       replace BK430 := Aside0.mk (blk_drew BK430.out)
       replace BK445 := Aside0.mk (blk_drew BK445.out)
       replace BK455 := Aside0.mk (blk_drew BK455.out)
       replace BK458 := Aside0.mk (blk_drew BK458.out)
       replace BK461 := Aside0.mk (blk_drew BK461.out)
       replace HB := Aside0.mk (below_drew1 HB.out)
       refine start_ (n := 48) (S := fun w' => w'.heap[gb445]? = some (.cells ((Ar.cells .u32 8 t439) ++ #[.slice Ao71 t440.length co71, .int .u64 t443]) 36 (0, 0)) ∧ w'.cell? ⟨gb445, 8, none⟩ = some (.slice Ao71 t440.length co71) ∧ w'.cell? ⟨gb445, 9, none⟩ = some (.int .u64 t443) ∧ w'.heap[gb455]? = some (.cells ((Ar.cells .u32 8 t449) ++ #[.slice Ao72 t450.length co72, .int .u64 t453]) 36 (0, 0)) ∧ w'.cell? ⟨gb455, 8, none⟩ = some (.slice Ao72 t450.length co72) ∧ w'.cell? ⟨gb455, 9, none⟩ = some (.int .u64 t453) ∧ w'.heap[gb458]? = some (.cells (Ar.cells .u8 32 t456) 26 (0, 0)) ∧ w'.heap[gb461]? = some (.cells (Ar.cells .u8 32 t459) 26 (0, 0)) ∧ w'.heap[gb429]? = some (.cells ((Ar.cells .u32 8 a0_0) ++ #[.slice A0_1 l0_1.length c0_1, .int .u64 a0_2]) 36 (0, 0)) ∧ w'.cell? ⟨gb429, 8, none⟩ = some (.slice A0_1 l0_1.length c0_1) ∧ w'.cell? ⟨gb429, 9, none⟩ = some (.int .u64 a0_2) ∧ w'.heap[gb430]? = some (.cells ((Ar.cells .u32 8 a1_0) ++ #[.slice A1_1 l1_1.length c1_1, .int .u64 a1_2]) 36 (0, 0)) ∧ w'.cell? ⟨gb430, 8, none⟩ = some (.slice A1_1 l1_1.length c1_1) ∧ w'.cell? ⟨gb430, 9, none⟩ = some (.int .u64 a1_2)) (ds := []) #[false, false, false, false, false, false, false, false, false, false, false, false, false, false, false, false, false, false, false, false, false, false, false, false, false, false, false, false, false, false, false, false, false, false, false, false, false, false, false, false, false, false, false, false, false, false, false, false] (by kernel_rfl) rfl rfl ⟨BK445.out, (blk_cell BK445.out 8).trans au4c, (blk_cell BK445.out 9).trans au4c, BK455.out, (blk_cell BK455.out 8).trans au4c, (blk_cell BK455.out 9).trans au4c, BK458.out, BK461.out, BK429.out, (blk_cell BK429.out 8).trans au4c, (blk_cell BK429.out 9).trans au4c, BK430.out, (blk_cell BK430.out 8).trans au4c, (blk_cell BK430.out 9).trans au4c⟩ (fun hHeld => ?_); refine with_tabW drawlotlaw05_ShaWrites.tab10 drawlotlaw05_ShaWrites.bits10 (fun HT_ HW_ => ?_)
       generalize w70.drew = w73 at HO438 HO442 HO448 HO452 BK429 BK430 BK445 BK455 BK458 BK461 HB hHeld ⊢
       refine take_ (i := 0) (N := some 59) (v := ?_) (a' := ?_) #[true, false, false, false, false, false, false, false, false, false, false, false, false, false, false, false, false, false, false, false, false, false, false, false, false, false, false, false, false, false, false, false, false, false, false, false, false, false, false, false, false, false, false, false, false, false, false, false] rfl rfl (take_ofW HT_.out HW_.out (by kernel_rfl)) (fun _ _ _ h => h) (Or.inl ⟨by rfl, ?_⟩) hHeld ?_ ?_
       rotate_left
       ·rintro w' ⟨s0, s1, s2, s3, s4, s5, s6, s7, s8, s9, s10, s11, s12, s13⟩
        first | (refine (Ar.gload_run rfl Tryd.underlying36 rfl (D := ((Ar.cells .u32 8 t439) ++ #[.slice Ao71 t440.length co71, .int .u64 t443])) qz rfl (Ar.blk_part (by assumption) Ar.in_whole)).trans ?_; with_reducible rfl) | (go_simp; with_reducible rfl)
       rotate_left
       ·simp only [Act.put, zA_, zB_, zC_, i64_w, i32_w]
        rfl
       refine take_ (i := 1) (N := some 60) (v := ?_) (a' := ?_) #[true, true, false, false, false, false, false, false, false, false, false, false, false, false, false, false, false, false, false, false, false, false, false, false, false, false, false, false, false, false, false, false, false, false, false, false, false, false, false, false, false, false, false, false, false, false, false, false] rfl rfl (take_ofW HT_.out HW_.out (by kernel_rfl)) (fun _ _ _ h => h) (Or.inl ⟨by rfl, ?_⟩) hHeld ?_ ?_
       rotate_left
       ·rintro w' ⟨s0, s1, s2, s3, s4, s5, s6, s7, s8, s9, s10, s11, s12, s13⟩
        first | (refine (Ar.gload_run rfl Tryd.underlying36 rfl (D := ((Ar.cells .u32 8 t449) ++ #[.slice Ao72 t450.length co72, .int .u64 t453])) qz rfl (Ar.blk_part (by assumption) Ar.in_whole)).trans ?_; with_reducible rfl) | (go_simp; with_reducible rfl)
       rotate_left
       ·simp only [Act.put, zA_, zB_, zC_, i64_w, i32_w]
        rfl
       refine one_ (i := 2) (N := some 61) #[true, true, true, false, false, false, false, false, false, false, false, false, false, false, false, false, false, false, false, false, false, false, false, false, false, false, false, false, false, false, false, false, false, false, false, false, false, false, false, false, false, false, false, false, false, false, false, false] rfl rfl (one_of HT_.out (by kernel_rfl)) (by decide) (fun K hK => ?_)
       refine goes_ Tryd.func16 (by kernel_rfl) rfl #[.agg ((Ar.cells .u32 8 t439) ++ #[.slice Ao71 t440.length co71, .int .u64 t443]), .agg ((Ar.cells .u32 8 t449) ++ #[.slice Ao72 t450.length co72, .int .u64 t453])] (by rfl) rfl rfl ql ?_
       with_reducible refine (drawlotref05_Same.calls t439 _ _ t440 t443 t449 _ _ t450 t453 true _ ?side1 ?side2 ?side3 ?side4 A30.out).mono ?_
       (case side1 => repeat (first | exact (Kd.V_reads' HO442.out).2.2 | (with_reducible refine Kd.C_alloc ?_ _) | (with_reducible refine Kd.C_drewN ?_ _) | (with_reducible refine Kd.C_drew ?_)))
       (case side2 => exact (Kd.V_reads' HO442.out).2.1)
       (case side3 => repeat (first | exact (Kd.V_reads' HO452.out).2.2 | (with_reducible refine Kd.C_alloc ?_ _) | (with_reducible refine Kd.C_drewN ?_ _) | (with_reducible refine Kd.C_drew ?_)))
       (case side4 => exact (Kd.V_reads' HO452.out).2.1)
       rintro e w74 ⟨rfl, hb⟩
       refine ⟨_, rfl, ?_⟩
       replace HO438 := Aside0.mk (Kd.R_below (au4r HO438) hb)
       replace HO442 := Aside0.mk (Kd.V_below (au4v HO442) hb)
       replace HO448 := Aside0.mk (Kd.R_below (au4r HO448) hb)
       replace HO452 := Aside0.mk (Kd.V_below (au4v HO452) hb)
       replace BK429 := Aside0.mk (au4B BK429 hb)
       replace BK430 := Aside0.mk (au4B BK430 hb)
       replace BK445 := Aside0.mk (au4B BK445 hb)
       replace BK455 := Aside0.mk (au4B BK455 hb)
       replace BK458 := Aside0.mk (au4B BK458 hb)
       replace BK461 := Aside0.mk (au4B BK461 hb)
       replace HB := Aside0.mk (below_step (au4s HB) hb)
       (try clear hb)
       (try clear hb2)
       (try clear hk)
       (try clear hi)
       refine hK.out _ _ ⟨BK445.out, (blk_cell BK445.out 8).trans au4c, (blk_cell BK445.out 9).trans au4c, BK455.out, (blk_cell BK455.out 8).trans au4c, (blk_cell BK455.out 9).trans au4c, BK458.out, BK461.out, BK429.out, (blk_cell BK429.out 8).trans au4c, (blk_cell BK429.out 9).trans au4c, BK430.out, (blk_cell BK430.out 8).trans au4c, (blk_cell BK430.out 9).trans au4c⟩ (fun hHeld => ?_)
       clear hK K
       refine norm_ (a' := ?_) ?_ ?_
       rotate_left
       ·show Act.put _ (some 61) _ = _
        simp only [Act.put, zA_, zB_, zC_, i64_w, i32_w]
        rfl
       refine pure_ (i := 3) (N := some 62) (v := ?_) (a' := ?_) #[true, true, true, true, false, false, false, false, false, false, false, false, false, false, false, false, false, false, false, false, false, false, false, false, false, false, false, false, false, false, false, false, false, false, false, false, false, false, false, false, false, false, false, false, false, false, false, false] rfl rfl (any_of HT_.out (by kernel_rfl)) (fun _ _ _ h => h) (Or.inl ⟨by rfl, ?_⟩) ?_ ?_
       rotate_left
       ·intro w'
        go_simp
        with_reducible rfl
       rotate_left
       ·simp only [Act.put, zA_, zB_, zC_, i64_w, i32_w]
        rfl
       refine pure_ (i := 4) (N := some 63) (v := ?_) (a' := ?_) #[true, true, true, true, true, false, false, false, false, false, false, false, false, false, false, false, false, false, false, false, false, false, false, false, false, false, false, false, false, false, false, false, false, false, false, false, false, false, false, false, false, false, false, false, false, false, false, false] rfl rfl (any_of HT_.out (by kernel_rfl)) (fun _ _ _ h => h) (Or.inl ⟨by rfl, ?_⟩) ?_ ?_
       rotate_left
       ·intro w'
        go_simp
        with_reducible rfl
       rotate_left
       ·simp only [Act.put, zA_, zB_, zC_, i64_w, i32_w]
        rfl
       refine pure_ (i := 5) (N := some 64) (v := ?_) (a' := ?_) #[true, true, true, true, true, true, false, false, false, false, false, false, false, false, false, false, false, false, false, false, false, false, false, false, false, false, false, false, false, false, false, false, false, false, false, false, false, false, false, false, false, false, false, false, false, false, false, false] rfl rfl (any_of HT_.out (by kernel_rfl)) (fun _ _ _ h => h) (Or.inl ⟨by rfl, ?_⟩) ?_ ?_
       rotate_left
       ·intro w'
        go_simp
        with_reducible rfl
       rotate_left
       ·simp only [Act.put, zA_, zB_, zC_, i64_w, i32_w]
        rfl
       refine pure_ (i := 6) (N := some 65) (v := ?_) (a' := ?_) #[true, true, true, true, true, true, true, false, false, false, false, false, false, false, false, false, false, false, false, false, false, false, false, false, false, false, false, false, false, false, false, false, false, false, false, false, false, false, false, false, false, false, false, false, false, false, false, false] rfl rfl (any_of HT_.out (by kernel_rfl)) (fun _ _ _ h => h) (Or.inl ⟨by rfl, ?_⟩) ?_ ?_
       rotate_left
       ·intro w'
        go_simp
        with_reducible rfl
       rotate_left
       ·simp only [Act.put, zA_, zB_, zC_, i64_w, i32_w]
        rfl
       refine pure_ (i := 7) (N := some 66) (v := ?_) (a' := ?_) #[true, true, true, true, true, true, true, true, false, false, false, false, false, false, false, false, false, false, false, false, false, false, false, false, false, false, false, false, false, false, false, false, false, false, false, false, false, false, false, false, false, false, false, false, false, false, false, false] rfl rfl (any_of HT_.out (by kernel_rfl)) (fun _ _ _ h => h) (Or.inl ⟨by rfl, ?_⟩) ?_ ?_
       rotate_left
       ·intro w'
        go_simp
        with_reducible rfl
       rotate_left
       ·simp only [Act.put, zA_, zB_, zC_, i64_w, i32_w]
        rfl
       refine pure_ (i := 8) (N := some 67) (v := ?_) (a' := ?_) #[true, true, true, true, true, true, true, true, true, false, false, false, false, false, false, false, false, false, false, false, false, false, false, false, false, false, false, false, false, false, false, false, false, false, false, false, false, false, false, false, false, false, false, false, false, false, false, false] rfl rfl (any_of HT_.out (by kernel_rfl)) (fun _ _ _ h => h) (Or.inl ⟨by rfl, ?_⟩) ?_ ?_
       rotate_left
       ·intro w'
        go_simp
        with_reducible rfl
       rotate_left
       ·simp only [Act.put, zA_, zB_, zC_, i64_w, i32_w]
        rfl
       refine take_ (i := 9) (N := some 68) (v := ?_) (a' := ?_) #[true, true, true, true, true, true, true, true, true, true, false, false, false, false, false, false, false, false, false, false, false, false, false, false, false, false, false, false, false, false, false, false, false, false, false, false, false, false, false, false, false, false, false, false, false, false, false, false] rfl rfl (take_ofW HT_.out HW_.out (by kernel_rfl)) (fun _ _ _ h => h) (Or.inl ⟨by rfl, ?_⟩) hHeld ?_ ?_
       rotate_left
       ·rintro w' ⟨s0, s1, s2, s3, s4, s5, s6, s7, s8, s9, s10, s11, s12, s13⟩
        first | (refine (Ar.load_run rfl Tryd.underlying26 (by kernel_rfl) rfl (by assumption)).trans ?_; with_reducible rfl) | (go_simp; with_reducible rfl)
       rotate_left
       ·simp only [Act.put, zA_, zB_, zC_, i64_w, i32_w]
        rfl
       refine take_ (i := 10) (N := some 69) (v := ?_) (a' := ?_) #[true, true, true, true, true, true, true, true, true, true, true, false, false, false, false, false, false, false, false, false, false, false, false, false, false, false, false, false, false, false, false, false, false, false, false, false, false, false, false, false, false, false, false, false, false, false, false, false] rfl rfl (take_ofW HT_.out HW_.out (by kernel_rfl)) (fun _ _ _ h => h) (Or.inl ⟨by rfl, ?_⟩) hHeld ?_ ?_
       rotate_left
       ·rintro w' ⟨s0, s1, s2, s3, s4, s5, s6, s7, s8, s9, s10, s11, s12, s13⟩
        first | (refine (Ar.load_run rfl Tryd.underlying26 (by kernel_rfl) rfl (by assumption)).trans ?_; with_reducible rfl) | (go_simp; with_reducible rfl)
       rotate_left
       ·simp only [Act.put, zA_, zB_, zC_, i64_w, i32_w]
        rfl
       refine pure_ (i := 11) (N := some 70) (v := ?_) (a' := ?_) #[true, true, true, true, true, true, true, true, true, true, true, true, false, false, false, false, false, false, false, false, false, false, false, false, false, false, false, false, false, false, false, false, false, false, false, false, false, false, false, false, false, false, false, false, false, false, false, false] rfl rfl (any_of HT_.out (by kernel_rfl)) (fun _ _ _ h => h) (Or.inl ⟨by rfl, ?_⟩) ?_ ?_
       rotate_left
       ·intro w'
        go_simp
        with_reducible rfl
       rotate_left
       ·simp only [Act.put, zA_, zB_, zC_, i64_w, i32_w]
        rfl
       refine pure_ (i := 12) (N := some 71) (v := ?_) (a' := ?_) #[true, true, true, true, true, true, true, true, true, true, true, true, true, false, false, false, false, false, false, false, false, false, false, false, false, false, false, false, false, false, false, false, false, false, false, false, false, false, false, false, false, false, false, false, false, false, false, false] rfl rfl (any_of HT_.out (by kernel_rfl)) (fun _ _ _ h => h) (Or.inl ⟨by rfl, ?_⟩) ?_ ?_
       rotate_left
       ·intro w'
        go_simp
        with_reducible rfl
       rotate_left
       ·simp only [Act.put, zA_, zB_, zC_, i64_w, i32_w]
        rfl
       refine pure_ (i := 13) (N := some 72) (v := ?_) (a' := ?_) #[true, true, true, true, true, true, true, true, true, true, true, true, true, true, false, false, false, false, false, false, false, false, false, false, false, false, false, false, false, false, false, false, false, false, false, false, false, false, false, false, false, false, false, false, false, false, false, false] rfl rfl (any_of HT_.out (by kernel_rfl)) (fun _ _ _ h => h) (Or.inl ⟨by rfl, ?_⟩) ?_ ?_
       rotate_left
       ·intro w'
        go_simp
        with_reducible rfl
       rotate_left
       ·simp only [Act.put, zA_, zB_, zC_, i64_w, i32_w]
        rfl
       refine pure_ (i := 14) (N := some 73) (v := ?_) (a' := ?_) #[true, true, true, true, true, true, true, true, true, true, true, true, true, true, true, false, false, false, false, false, false, false, false, false, false, false, false, false, false, false, false, false, false, false, false, false, false, false, false, false, false, false, false, false, false, false, false, false] rfl rfl (any_of HT_.out (by kernel_rfl)) (fun _ _ _ h => h) (Or.inl ⟨by rfl, ?_⟩) ?_ ?_
       rotate_left
       ·intro w'
        go_simp
        with_reducible rfl
       rotate_left
       ·simp only [Act.put, zA_, zB_, zC_, i64_w, i32_w]
        rfl
       refine pure_ (i := 15) (N := some 74) (v := ?_) (a' := ?_) #[true, true, true, true, true, true, true, true, true, true, true, true, true, true, true, true, false, false, false, false, false, false, false, false, false, false, false, false, false, false, false, false, false, false, false, false, false, false, false, false, false, false, false, false, false, false, false, false] rfl rfl (any_of HT_.out (by kernel_rfl)) (fun _ _ _ h => h) (Or.inl ⟨by rfl, ?_⟩) ?_ ?_
       rotate_left
       ·intro w'
        go_simp
        with_reducible rfl
       rotate_left
       ·simp only [Act.put, zA_, zB_, zC_, i64_w, i32_w]
        rfl
       refine pure_ (i := 16) (N := some 75) (v := ?_) (a' := ?_) #[true, true, true, true, true, true, true, true, true, true, true, true, true, true, true, true, true, false, false, false, false, false, false, false, false, false, false, false, false, false, false, false, false, false, false, false, false, false, false, false, false, false, false, false, false, false, false, false] rfl rfl (any_of HT_.out (by kernel_rfl)) (fun _ _ _ h => h) (Or.inl ⟨by rfl, ?_⟩) ?_ ?_
       rotate_left
       ·intro w'
        go_simp
        with_reducible rfl
       rotate_left
       ·simp only [Act.put, zA_, zB_, zC_, i64_w, i32_w]
        rfl
       refine pure_ (i := 17) (N := some 76) (v := ?_) (a' := ?_) #[true, true, true, true, true, true, true, true, true, true, true, true, true, true, true, true, true, true, false, false, false, false, false, false, false, false, false, false, false, false, false, false, false, false, false, false, false, false, false, false, false, false, false, false, false, false, false, false] rfl rfl (any_of HT_.out (by kernel_rfl)) (fun _ _ _ h => h) (Or.inl ⟨by rfl, ?_⟩) ?_ ?_
       rotate_left
       ·intro w'
        go_simp
        with_reducible rfl
       rotate_left
       ·simp only [Act.put, zA_, zB_, zC_, i64_w, i32_w]
        rfl
       refine pure_ (i := 18) (N := some 77) (v := ?_) (a' := ?_) #[true, true, true, true, true, true, true, true, true, true, true, true, true, true, true, true, true, true, true, false, false, false, false, false, false, false, false, false, false, false, false, false, false, false, false, false, false, false, false, false, false, false, false, false, false, false, false, false] rfl rfl (any_of HT_.out (by kernel_rfl)) (fun _ _ _ h => h) (Or.inl ⟨by rfl, ?_⟩) ?_ ?_
       rotate_left
       ·intro w'
        go_simp
        with_reducible rfl
       rotate_left
       ·simp only [Act.put, zA_, zB_, zC_, i64_w, i32_w]
        rfl
       refine take_ (i := 19) (N := some 78) (v := ?_) (a' := ?_) #[true, true, true, true, true, true, true, true, true, true, true, true, true, true, true, true, true, true, true, true, false, false, false, false, false, false, false, false, false, false, false, false, false, false, false, false, false, false, false, false, false, false, false, false, false, false, false, false] rfl rfl (take_ofW HT_.out HW_.out (by kernel_rfl)) (fun _ _ _ h => h) (Or.inl ⟨by rfl, ?_⟩) hHeld ?_ ?_
       rotate_left
       ·rintro w' ⟨s0, s1, s2, s3, s4, s5, s6, s7, s8, s9, s10, s11, s12, s13⟩
        first | (refine (Ar.gload_run rfl Tryd.underlying36 rfl (D := ((Ar.cells .u32 8 a0_0) ++ #[.slice A0_1 l0_1.length c0_1, .int .u64 a0_2])) qz rfl (Ar.blk_part (by assumption) Ar.in_whole)).trans ?_; with_reducible rfl) | (go_simp; with_reducible rfl)
       rotate_left
       ·simp only [Act.put, zA_, zB_, zC_, i64_w, i32_w]
        rfl
       refine take_ (i := 21) (N := some 80) (v := ?_) (a' := ?_) #[true, true, true, true, true, true, true, true, true, true, true, true, true, true, true, true, true, true, true, true, false, true, false, false, false, false, false, false, false, false, false, false, false, false, false, false, false, false, false, false, false, false, false, false, false, false, false, false] rfl rfl (take_ofW HT_.out HW_.out (by kernel_rfl)) (fun _ _ _ h => h) (Or.inl ⟨by rfl, ?_⟩) hHeld ?_ ?_
       rotate_left
       ·rintro w' ⟨s0, s1, s2, s3, s4, s5, s6, s7, s8, s9, s10, s11, s12, s13⟩
        first | (refine (Ar.gload_run rfl Tryd.underlying36 rfl (D := ((Ar.cells .u32 8 a0_0) ++ #[.slice A0_1 l0_1.length c0_1, .int .u64 a0_2])) qz rfl (Ar.blk_part (by assumption) Ar.in_whole)).trans ?_; with_reducible rfl) | (go_simp; with_reducible rfl)
       rotate_left
       ·simp only [Act.put, zA_, zB_, zC_, i64_w, i32_w]
        rfl
       refine one_ (i := 20) (N := some 79) #[true, true, true, true, true, true, true, true, true, true, true, true, true, true, true, true, true, true, true, true, true, true, false, false, false, false, false, false, false, false, false, false, false, false, false, false, false, false, false, false, false, false, false, false, false, false, false, false] rfl rfl (one_of HT_.out (by kernel_rfl)) (by decide) (fun K hK => ?_)
       refine goes_ Tryd.func17 (by kernel_rfl) rfl #[.agg ((Ar.cells .u32 8 a0_0) ++ #[.slice A0_1 l0_1.length c0_1, .int .u64 a0_2])] (by rfl) rfl rfl ql ?_
       with_reducible refine (sha_Right.calls a0_0 _ _ l0_1 a0_2 t463 _ ?side1 ?side2 A35.out).mono ?_
       (case side1 => repeat (first | exact (Kd.C_below HR0_1.out HB.out) | (with_reducible refine Kd.C_alloc ?_ _) | (with_reducible refine Kd.C_drewN ?_ _) | (with_reducible refine Kd.C_drew ?_)))
       (case side2 => exact HC0_1.out)
       rintro e w75 ⟨rfl, hb⟩
       refine ⟨_, rfl, ?_⟩
       replace HO438 := Aside0.mk (Kd.R_below (au4r HO438) hb)
       replace HO442 := Aside0.mk (Kd.V_below (au4v HO442) hb)
       replace HO448 := Aside0.mk (Kd.R_below (au4r HO448) hb)
       replace HO452 := Aside0.mk (Kd.V_below (au4v HO452) hb)
       replace BK429 := Aside0.mk (au4B BK429 hb)
       replace BK430 := Aside0.mk (au4B BK430 hb)
       replace BK445 := Aside0.mk (au4B BK445 hb)
       replace BK455 := Aside0.mk (au4B BK455 hb)
       replace BK458 := Aside0.mk (au4B BK458 hb)
       replace BK461 := Aside0.mk (au4B BK461 hb)
       replace HB := Aside0.mk (below_step (au4s HB) hb)
       (try clear hb)
       (try clear hb2)
       (try clear hk)
       (try clear hi)
       refine hK.out _ _ ⟨BK445.out, (blk_cell BK445.out 8).trans au4c, (blk_cell BK445.out 9).trans au4c, BK455.out, (blk_cell BK455.out 8).trans au4c, (blk_cell BK455.out 9).trans au4c, BK458.out, BK461.out, BK429.out, (blk_cell BK429.out 8).trans au4c, (blk_cell BK429.out 9).trans au4c, BK430.out, (blk_cell BK430.out 8).trans au4c, (blk_cell BK430.out 9).trans au4c⟩ (fun hHeld => ?_)
       clear hK K
       refine norm_ (a' := ?_) ?_ ?_
       rotate_left
       ·show Act.put _ (some 79) _ = _
        simp only [Act.put, zA_, zB_, zC_, i64_w, i32_w]
        rfl
       refine one_ (i := 22) (N := some 81) #[true, true, true, true, true, true, true, true, true, true, true, true, true, true, true, true, true, true, true, true, true, true, true, false, false, false, false, false, false, false, false, false, false, false, false, false, false, false, false, false, false, false, false, false, false, false, false, false] rfl rfl (one_of HT_.out (by kernel_rfl)) (by decide) (fun K hK => ?_)
       refine goes_ Tryd.func18 (by kernel_rfl) rfl #[.agg ((Ar.cells .u32 8 a0_0) ++ #[.slice A0_1 l0_1.length c0_1, .int .u64 a0_2])] (by rfl) rfl rfl ql ?_
       with_reducible refine (drawlotref05_Right.calls a0_0 _ _ l0_1 a0_2 t464 _ ?side1 ?side2 A36.out).mono ?_
       (case side1 => repeat (first | exact (Kd.C_below HR0_1.out HB.out) | (with_reducible refine Kd.C_alloc ?_ _) | (with_reducible refine Kd.C_drewN ?_ _) | (with_reducible refine Kd.C_drew ?_)))
       (case side2 => exact HC0_1.out)
       rintro e w76 ⟨rfl, hb⟩
       refine ⟨_, rfl, ?_⟩
       replace HO438 := Aside0.mk (Kd.R_below (au4r HO438) hb)
       replace HO442 := Aside0.mk (Kd.V_below (au4v HO442) hb)
       replace HO448 := Aside0.mk (Kd.R_below (au4r HO448) hb)
       replace HO452 := Aside0.mk (Kd.V_below (au4v HO452) hb)
       replace BK429 := Aside0.mk (au4B BK429 hb)
       replace BK430 := Aside0.mk (au4B BK430 hb)
       replace BK445 := Aside0.mk (au4B BK445 hb)
       replace BK455 := Aside0.mk (au4B BK455 hb)
       replace BK458 := Aside0.mk (au4B BK458 hb)
       replace BK461 := Aside0.mk (au4B BK461 hb)
       replace HB := Aside0.mk (below_step (au4s HB) hb)
       (try clear hb)
       (try clear hb2)
       (try clear hk)
       (try clear hi)
       refine hK.out _ _ ⟨BK445.out, (blk_cell BK445.out 8).trans au4c, (blk_cell BK445.out 9).trans au4c, BK455.out, (blk_cell BK455.out 8).trans au4c, (blk_cell BK455.out 9).trans au4c, BK458.out, BK461.out, BK429.out, (blk_cell BK429.out 8).trans au4c, (blk_cell BK429.out 9).trans au4c, BK430.out, (blk_cell BK430.out 8).trans au4c, (blk_cell BK430.out 9).trans au4c⟩ (fun hHeld => ?_)
       clear hK K
       refine norm_ (a' := ?_) ?_ ?_
       rotate_left
       ·show Act.put _ (some 81) _ = _
        simp only [Act.put, zA_, zB_, zC_, i64_w, i32_w]
        rfl
       refine pure_ (i := 23) (N := some 82) (v := ?_) (a' := ?_) #[true, true, true, true, true, true, true, true, true, true, true, true, true, true, true, true, true, true, true, true, true, true, true, true, false, false, false, false, false, false, false, false, false, false, false, false, false, false, false, false, false, false, false, false, false, false, false, false] rfl rfl (any_of HT_.out (by kernel_rfl)) (fun _ _ _ h => h) (Or.inl ⟨by rfl, ?_⟩) ?_ ?_
       rotate_left
       ·intro w'
        go_simp
        with_reducible rfl
       rotate_left
       ·simp only [Act.put, zA_, zB_, zC_, i64_w, i32_w]
        rfl
       refine pure_ (i := 24) (N := some 83) (v := ?_) (a' := ?_) #[true, true, true, true, true, true, true, true, true, true, true, true, true, true, true, true, true, true, true, true, true, true, true, true, true, false, false, false, false, false, false, false, false, false, false, false, false, false, false, false, false, false, false, false, false, false, false, false] rfl rfl (any_of HT_.out (by kernel_rfl)) (fun _ _ _ h => h) (Or.inl ⟨by rfl, ?_⟩) ?_ ?_
       rotate_left
       ·intro w'
        go_simp
        with_reducible rfl
       rotate_left
       ·simp only [Act.put, zA_, zB_, zC_, i64_w, i32_w]
        rfl
       refine pure_ (i := 25) (N := some 84) (v := ?_) (a' := ?_) #[true, true, true, true, true, true, true, true, true, true, true, true, true, true, true, true, true, true, true, true, true, true, true, true, true, true, false, false, false, false, false, false, false, false, false, false, false, false, false, false, false, false, false, false, false, false, false, false] rfl rfl (any_of HT_.out (by kernel_rfl)) (fun _ _ _ h => h) (Or.inl ⟨by rfl, ?_⟩) ?_ ?_
       rotate_left
       ·intro w'
        go_simp
        with_reducible rfl
       rotate_left
       ·simp only [Act.put, zA_, zB_, zC_, i64_w, i32_w]
        rfl
       refine take_ (i := 26) (N := some 85) (v := ?_) (a' := ?_) #[true, true, true, true, true, true, true, true, true, true, true, true, true, true, true, true, true, true, true, true, true, true, true, true, true, true, true, false, false, false, false, false, false, false, false, false, false, false, false, false, false, false, false, false, false, false, false, false] rfl rfl (take_ofW HT_.out HW_.out (by kernel_rfl)) (fun _ _ _ h => h) (Or.inl ⟨by rfl, ?_⟩) hHeld ?_ ?_
       rotate_left
       ·rintro w' ⟨s0, s1, s2, s3, s4, s5, s6, s7, s8, s9, s10, s11, s12, s13⟩
        first | (refine (Ar.gload_run rfl Tryd.underlying36 rfl (D := ((Ar.cells .u32 8 a0_0) ++ #[.slice A0_1 l0_1.length c0_1, .int .u64 a0_2])) qz rfl (Ar.blk_part (by assumption) Ar.in_whole)).trans ?_; with_reducible rfl) | (go_simp; with_reducible rfl)
       rotate_left
       ·simp only [Act.put, zA_, zB_, zC_, i64_w, i32_w]
        rfl
       refine take_ (i := 27) (N := some 86) (v := ?_) (a' := ?_) #[true, true, true, true, true, true, true, true, true, true, true, true, true, true, true, true, true, true, true, true, true, true, true, true, true, true, true, true, false, false, false, false, false, false, false, false, false, false, false, false, false, false, false, false, false, false, false, false] rfl rfl (take_ofW HT_.out HW_.out (by kernel_rfl)) (fun _ _ _ h => h) (Or.inl ⟨by rfl, ?_⟩) hHeld ?_ ?_
       rotate_left
       ·rintro w' ⟨s0, s1, s2, s3, s4, s5, s6, s7, s8, s9, s10, s11, s12, s13⟩
        first | (refine (Ar.gload_run rfl Tryd.underlying36 rfl (D := ((Ar.cells .u32 8 a1_0) ++ #[.slice A1_1 l1_1.length c1_1, .int .u64 a1_2])) qz rfl (Ar.blk_part (by assumption) Ar.in_whole)).trans ?_; with_reducible rfl) | (go_simp; with_reducible rfl)
       rotate_left
       ·simp only [Act.put, zA_, zB_, zC_, i64_w, i32_w]
        rfl
       refine take_ (i := 29) (N := some 88) (v := ?_) (a' := ?_) #[true, true, true, true, true, true, true, true, true, true, true, true, true, true, true, true, true, true, true, true, true, true, true, true, true, true, true, true, false, true, false, false, false, false, false, false, false, false, false, false, false, false, false, false, false, false, false, false] rfl rfl (take_ofW HT_.out HW_.out (by kernel_rfl)) (fun _ _ _ h => h) (Or.inl ⟨by rfl, ?_⟩) hHeld ?_ ?_
       rotate_left
       ·rintro w' ⟨s0, s1, s2, s3, s4, s5, s6, s7, s8, s9, s10, s11, s12, s13⟩
        first | (refine (Ar.gload_run rfl Tryd.underlying36 rfl (D := ((Ar.cells .u32 8 a0_0) ++ #[.slice A0_1 l0_1.length c0_1, .int .u64 a0_2])) qz rfl (Ar.blk_part (by assumption) Ar.in_whole)).trans ?_; with_reducible rfl) | (go_simp; with_reducible rfl)
       rotate_left
       ·simp only [Act.put, zA_, zB_, zC_, i64_w, i32_w]
        rfl
       refine take_ (i := 30) (N := some 89) (v := ?_) (a' := ?_) #[true, true, true, true, true, true, true, true, true, true, true, true, true, true, true, true, true, true, true, true, true, true, true, true, true, true, true, true, false, true, true, false, false, false, false, false, false, false, false, false, false, false, false, false, false, false, false, false] rfl rfl (take_ofW HT_.out HW_.out (by kernel_rfl)) (fun _ _ _ h => h) (Or.inl ⟨by rfl, ?_⟩) hHeld ?_ ?_
       rotate_left
       ·rintro w' ⟨s0, s1, s2, s3, s4, s5, s6, s7, s8, s9, s10, s11, s12, s13⟩
        first | (refine (Ar.gload_run rfl Tryd.underlying36 rfl (D := ((Ar.cells .u32 8 a1_0) ++ #[.slice A1_1 l1_1.length c1_1, .int .u64 a1_2])) qz rfl (Ar.blk_part (by assumption) Ar.in_whole)).trans ?_; with_reducible rfl) | (go_simp; with_reducible rfl)
       rotate_left
       ·simp only [Act.put, zA_, zB_, zC_, i64_w, i32_w]
        rfl
       refine one_ (i := 28) (N := some 87) #[true, true, true, true, true, true, true, true, true, true, true, true, true, true, true, true, true, true, true, true, true, true, true, true, true, true, true, true, true, true, true, false, false, false, false, false, false, false, false, false, false, false, false, false, false, false, false, false] rfl rfl (one_of HT_.out (by kernel_rfl)) (by decide) (fun K hK => ?_)
       refine goes_ Tryd.func19 (by kernel_rfl) rfl #[.agg ((Ar.cells .u32 8 a0_0) ++ #[.slice A0_1 l0_1.length c0_1, .int .u64 a0_2]), .agg ((Ar.cells .u32 8 a1_0) ++ #[.slice A1_1 l1_1.length c1_1, .int .u64 a1_2])] (by rfl) rfl rfl ql ?_
       with_reducible refine (sha_Same.calls a0_0 _ _ l0_1 a0_2 a1_0 _ _ l1_1 a1_2 t465 _ ?side1 ?side2 ?side3 ?side4 A38.out).mono ?_
       (case side1 => repeat (first | exact (Kd.C_below HR0_1.out HB.out) | (with_reducible refine Kd.C_alloc ?_ _) | (with_reducible refine Kd.C_drewN ?_ _) | (with_reducible refine Kd.C_drew ?_)))
       (case side2 => exact HC0_1.out)
       (case side3 => repeat (first | exact (Kd.C_below HR1_1.out HB.out) | (with_reducible refine Kd.C_alloc ?_ _) | (with_reducible refine Kd.C_drewN ?_ _) | (with_reducible refine Kd.C_drew ?_)))
       (case side4 => exact HC1_1.out)
       rintro e w77 ⟨rfl, hb⟩
       refine ⟨_, rfl, ?_⟩
       replace HO438 := Aside0.mk (Kd.R_below (au4r HO438) hb)
       replace HO442 := Aside0.mk (Kd.V_below (au4v HO442) hb)
       replace HO448 := Aside0.mk (Kd.R_below (au4r HO448) hb)
       replace HO452 := Aside0.mk (Kd.V_below (au4v HO452) hb)
       replace BK429 := Aside0.mk (au4B BK429 hb)
       replace BK430 := Aside0.mk (au4B BK430 hb)
       replace BK445 := Aside0.mk (au4B BK445 hb)
       replace BK455 := Aside0.mk (au4B BK455 hb)
       replace BK458 := Aside0.mk (au4B BK458 hb)
       replace BK461 := Aside0.mk (au4B BK461 hb)
       replace HB := Aside0.mk (below_step (au4s HB) hb)
       (try clear hb)
       (try clear hb2)
       (try clear hk)
       (try clear hi)
       refine hK.out _ _ ⟨BK445.out, (blk_cell BK445.out 8).trans au4c, (blk_cell BK445.out 9).trans au4c, BK455.out, (blk_cell BK455.out 8).trans au4c, (blk_cell BK455.out 9).trans au4c, BK458.out, BK461.out, BK429.out, (blk_cell BK429.out 8).trans au4c, (blk_cell BK429.out 9).trans au4c, BK430.out, (blk_cell BK430.out 8).trans au4c, (blk_cell BK430.out 9).trans au4c⟩ (fun hHeld => ?_)
       clear hK K
       refine norm_ (a' := ?_) ?_ ?_
       rotate_left
       ·show Act.put _ (some 87) _ = _
        simp only [Act.put, zA_, zB_, zC_, i64_w, i32_w]
        rfl
       refine one_ (i := 31) (N := some 90) #[true, true, true, true, true, true, true, true, true, true, true, true, true, true, true, true, true, true, true, true, true, true, true, true, true, true, true, true, true, true, true, true, false, false, false, false, false, false, false, false, false, false, false, false, false, false, false, false] rfl rfl (one_of HT_.out (by kernel_rfl)) (by decide) (fun K hK => ?_)
       refine goes_ Tryd.func16 (by kernel_rfl) rfl #[.agg ((Ar.cells .u32 8 a0_0) ++ #[.slice A0_1 l0_1.length c0_1, .int .u64 a0_2]), .agg ((Ar.cells .u32 8 a1_0) ++ #[.slice A1_1 l1_1.length c1_1, .int .u64 a1_2])] (by rfl) rfl rfl ql ?_
       with_reducible refine (drawlotref05_Same.calls a0_0 _ _ l0_1 a0_2 a1_0 _ _ l1_1 a1_2 t466 _ ?side1 ?side2 ?side3 ?side4 A39.out).mono ?_
       (case side1 => repeat (first | exact (Kd.C_below HR0_1.out HB.out) | (with_reducible refine Kd.C_alloc ?_ _) | (with_reducible refine Kd.C_drewN ?_ _) | (with_reducible refine Kd.C_drew ?_)))
       (case side2 => exact HC0_1.out)
       (case side3 => repeat (first | exact (Kd.C_below HR1_1.out HB.out) | (with_reducible refine Kd.C_alloc ?_ _) | (with_reducible refine Kd.C_drewN ?_ _) | (with_reducible refine Kd.C_drew ?_)))
       (case side4 => exact HC1_1.out)
       rintro e w78 ⟨rfl, hb⟩
       refine ⟨_, rfl, ?_⟩
       replace HO438 := Aside0.mk (Kd.R_below (au4r HO438) hb)
       replace HO442 := Aside0.mk (Kd.V_below (au4v HO442) hb)
       replace HO448 := Aside0.mk (Kd.R_below (au4r HO448) hb)
       replace HO452 := Aside0.mk (Kd.V_below (au4v HO452) hb)
       replace BK429 := Aside0.mk (au4B BK429 hb)
       replace BK430 := Aside0.mk (au4B BK430 hb)
       replace BK445 := Aside0.mk (au4B BK445 hb)
       replace BK455 := Aside0.mk (au4B BK455 hb)
       replace BK458 := Aside0.mk (au4B BK458 hb)
       replace BK461 := Aside0.mk (au4B BK461 hb)
       replace HB := Aside0.mk (below_step (au4s HB) hb)
       (try clear hb)
       (try clear hb2)
       (try clear hk)
       (try clear hi)
       refine hK.out _ _ ⟨BK445.out, (blk_cell BK445.out 8).trans au4c, (blk_cell BK445.out 9).trans au4c, BK455.out, (blk_cell BK455.out 8).trans au4c, (blk_cell BK455.out 9).trans au4c, BK458.out, BK461.out, BK429.out, (blk_cell BK429.out 8).trans au4c, (blk_cell BK429.out 9).trans au4c, BK430.out, (blk_cell BK430.out 8).trans au4c, (blk_cell BK430.out 9).trans au4c⟩ (fun hHeld => ?_)
       clear hK K
       refine norm_ (a' := ?_) ?_ ?_
       rotate_left
       ·show Act.put _ (some 90) _ = _
        simp only [Act.put, zA_, zB_, zC_, i64_w, i32_w]
        rfl
       refine pure_ (i := 32) (N := some 91) (v := ?_) (a' := ?_) #[true, true, true, true, true, true, true, true, true, true, true, true, true, true, true, true, true, true, true, true, true, true, true, true, true, true, true, true, true, true, true, true, true, false, false, false, false, false, false, false, false, false, false, false, false, false, false, false] rfl rfl (any_of HT_.out (by kernel_rfl)) (fun _ _ _ h => h) (Or.inl ⟨by rfl, ?_⟩) ?_ ?_
       rotate_left
       ·intro w'
        go_simp
        with_reducible rfl
       rotate_left
       ·simp only [Act.put, zA_, zB_, zC_, i64_w, i32_w]
        rfl
       refine pure_ (i := 33) (N := some 92) (v := ?_) (a' := ?_) #[true, true, true, true, true, true, true, true, true, true, true, true, true, true, true, true, true, true, true, true, true, true, true, true, true, true, true, true, true, true, true, true, true, true, false, false, false, false, false, false, false, false, false, false, false, false, false, false] rfl rfl (any_of HT_.out (by kernel_rfl)) (fun _ _ _ h => h) (Or.inl ⟨by rfl, ?_⟩) ?_ ?_
       rotate_left
       ·intro w'
        go_simp
        with_reducible rfl
       rotate_left
       ·simp only [Act.put, zA_, zB_, zC_, i64_w, i32_w]
        rfl
       refine pure_ (i := 34) (N := some 93) (v := ?_) (a' := ?_) #[true, true, true, true, true, true, true, true, true, true, true, true, true, true, true, true, true, true, true, true, true, true, true, true, true, true, true, true, true, true, true, true, true, true, true, false, false, false, false, false, false, false, false, false, false, false, false, false] rfl rfl (any_of HT_.out (by kernel_rfl)) (fun _ _ _ h => h) (Or.inl ⟨by rfl, ?_⟩) ?_ ?_
       rotate_left
       ·intro w'
        go_simp
        with_reducible rfl
       rotate_left
       ·simp only [Act.put, zA_, zB_, zC_, i64_w, i32_w]
        rfl
       refine one_ (i := 35) (N := some 94) #[true, true, true, true, true, true, true, true, true, true, true, true, true, true, true, true, true, true, true, true, true, true, true, true, true, true, true, true, true, true, true, true, true, true, true, true, false, false, false, false, false, false, false, false, false, false, false, false] rfl rfl (one_of HT_.out (by kernel_rfl)) (by decide) (fun K hK => ?_)
       refine goes_ Tryd.func20 (by kernel_rfl) rfl #[] (by rfl) rfl rfl ql ?_
       with_reducible refine (sha_New.calls  t467 t468 t471 _ A41.out).mono ?_
       rintro e w79 ⟨v469, rfl, ho0, hb⟩
       refine ⟨_, rfl, ?_⟩
       replace HO442 := Aside0.mk (Kd.V_elder' (au4v HO442) (Kd.R_base ho0) hb)
       replace HO452 := Aside0.mk (Kd.V_elder' (au4v HO452) (Kd.R_base ho0) hb)
       have HO470 := Aside0.mk (Kd.R_lower (Kd.R_new' (Kd.R_new' ho0 (Kd.R_lt (au4r HO438))) (Kd.R_lt (au4r HO448))) (below_size (au4s HB)))
       replace HO438 := Aside0.mk (Kd.R_elder' (au4r HO438) (Kd.R_base ho0) hb)
       replace HO448 := Aside0.mk (Kd.R_elder' (au4r HO448) (Kd.R_base ho0) hb)
       replace BK429 := Aside0.mk (au4B BK429 hb)
       replace BK430 := Aside0.mk (au4B BK430 hb)
       replace BK445 := Aside0.mk (au4B BK445 hb)
       replace BK455 := Aside0.mk (au4B BK455 hb)
       replace BK458 := Aside0.mk (au4B BK458 hb)
       replace BK461 := Aside0.mk (au4B BK461 hb)
       replace HB := Aside0.mk (below_step (au4s HB) hb)
       (try clear hb)
       (try clear hb2)
       (try clear hk)
       (try clear hi)
       (try clear ho0)
       refine hK.out _ _ ⟨BK445.out, (blk_cell BK445.out 8).trans au4c, (blk_cell BK445.out 9).trans au4c, BK455.out, (blk_cell BK455.out 8).trans au4c, (blk_cell BK455.out 9).trans au4c, BK458.out, BK461.out, BK429.out, (blk_cell BK429.out 8).trans au4c, (blk_cell BK429.out 9).trans au4c, BK430.out, (blk_cell BK430.out 8).trans au4c, (blk_cell BK430.out 9).trans au4c⟩ (fun hHeld => ?_)
       clear hK K
       refine norm_ (a' := ?_) ?_ ?_
       rotate_left
       ·show Act.put _ (some 94) _ = _
        simp only [Act.put, zA_, zB_, zC_, i64_w, i32_w]
        rfl
       refine one_ (i := 36) (N := some 95) #[true, true, true, true, true, true, true, true, true, true, true, true, true, true, true, true, true, true, true, true, true, true, true, true, true, true, true, true, true, true, true, true, true, true, true, true, true, false, false, false, false, false, false, false, false, false, false, false] rfl rfl (one_of HT_.out (by kernel_rfl)) (by decide) (fun K hK => ?_)
       refine goes_ Tryd.func21 (by kernel_rfl) rfl #[] (by rfl) rfl rfl ql ?_
       with_reducible refine (drawlotref05_New.calls  t472 t473 t476 _ A42.out).mono ?_
       rintro e w80 ⟨v474, rfl, ho0, hb⟩
       refine ⟨_, rfl, ?_⟩
       replace HO442 := Aside0.mk (Kd.V_elder' (au4v HO442) (Kd.R_base ho0) hb)
       replace HO452 := Aside0.mk (Kd.V_elder' (au4v HO452) (Kd.R_base ho0) hb)
       have HO475 := Aside0.mk (Kd.R_lower (Kd.R_new' (Kd.R_new' (Kd.R_new' ho0 (Kd.R_lt (au4r HO438))) (Kd.R_lt (au4r HO448))) (Kd.R_lt (au4r HO470))) (below_size (au4s HB)))
       replace HO438 := Aside0.mk (Kd.R_elder' (au4r HO438) (Kd.R_base ho0) hb)
       replace HO448 := Aside0.mk (Kd.R_elder' (au4r HO448) (Kd.R_base ho0) hb)
       replace HO470 := Aside0.mk (Kd.R_elder' (au4r HO470) (Kd.R_base ho0) hb)
       replace BK429 := Aside0.mk (au4B BK429 hb)
       replace BK430 := Aside0.mk (au4B BK430 hb)
       replace BK445 := Aside0.mk (au4B BK445 hb)
       replace BK455 := Aside0.mk (au4B BK455 hb)
       replace BK458 := Aside0.mk (au4B BK458 hb)
       replace BK461 := Aside0.mk (au4B BK461 hb)
       replace HB := Aside0.mk (below_step (au4s HB) hb)
       (try clear hb)
       (try clear hb2)
       (try clear hk)
       (try clear hi)
       (try clear ho0)
       obtain ⟨Ao81, co81, eo81⟩ := Kd.R_slice HO470.out
       (first | subst eo81 | (injection eo81 with f1_ f2_ f3_; have f4_ := f1_.symm; have f5_ := f3_.symm; clear f1_ f2_ f3_; subst f4_; subst f5_))
       obtain ⟨Ao82, co82, eo82⟩ := Kd.R_slice HO475.out
       (first | subst eo82 | (injection eo82 with f1_ f2_ f3_; have f4_ := f1_.symm; have f5_ := f3_.symm; clear f1_ f2_ f3_; subst f4_; subst f5_))
       refine hK.out _ _ ⟨BK445.out, (blk_cell BK445.out 8).trans au4c, (blk_cell BK445.out 9).trans au4c, BK455.out, (blk_cell BK455.out 8).trans au4c, (blk_cell BK455.out 9).trans au4c, BK458.out, BK461.out, BK429.out, (blk_cell BK429.out 8).trans au4c, (blk_cell BK429.out 9).trans au4c, BK430.out, (blk_cell BK430.out 8).trans au4c, (blk_cell BK430.out 9).trans au4c⟩ (fun hHeld => ?_)
       clear hK K
       refine norm_ (a' := ?_) ?_ ?_
       rotate_left
       ·show Act.put _ (some 95) _ = _
        simp only [Act.put, zA_, zB_, zC_, i64_w, i32_w]
        rfl
       refine one_ (i := 37) (N := some 96) #[true, true, true, true, true, true, true, true, true, true, true, true, true, true, true, true, true, true, true, true, true, true, true, true, true, true, true, true, true, true, true, true, true, true, true, true, true, true, false, false, false, false, false, false, false, false, false, false] rfl rfl (one_of HT_.out (by kernel_rfl)) (by decide) (fun K hK => ?_)
       refine goes_ Tryd.func16 (by kernel_rfl) rfl #[.agg ((Ar.cells .u32 8 t467) ++ #[.slice Ao81 t468.length co81, .int .u64 t471]), .agg ((Ar.cells .u32 8 t472) ++ #[.slice Ao82 t473.length co82, .int .u64 t476])] (by rfl) rfl rfl ql ?_
       with_reducible refine (drawlotref05_Same.calls t467 _ _ t468 t471 t472 _ _ t473 t476 true _ ?side1 ?side2 ?side3 ?side4 A43.out).mono ?_
       (case side1 => repeat (first | exact (Kd.R_reads' HO470.out).2.2 | (with_reducible refine Kd.C_alloc ?_ _) | (with_reducible refine Kd.C_drewN ?_ _) | (with_reducible refine Kd.C_drew ?_)))
       (case side2 => exact (Kd.R_reads' HO470.out).2.1)
       (case side3 => repeat (first | exact (Kd.R_reads' HO475.out).2.2 | (with_reducible refine Kd.C_alloc ?_ _) | (with_reducible refine Kd.C_drewN ?_ _) | (with_reducible refine Kd.C_drew ?_)))
       (case side4 => exact (Kd.R_reads' HO475.out).2.1)
       rintro e w83 ⟨rfl, hb⟩
       refine ⟨_, rfl, ?_⟩
       replace HO438 := Aside0.mk (Kd.R_below (au4r HO438) hb)
       replace HO442 := Aside0.mk (Kd.V_below (au4v HO442) hb)
       replace HO448 := Aside0.mk (Kd.R_below (au4r HO448) hb)
       replace HO452 := Aside0.mk (Kd.V_below (au4v HO452) hb)
       replace HO470 := Aside0.mk (Kd.R_below (au4r HO470) hb)
       replace HO475 := Aside0.mk (Kd.R_below (au4r HO475) hb)
       replace BK429 := Aside0.mk (au4B BK429 hb)
       replace BK430 := Aside0.mk (au4B BK430 hb)
       replace BK445 := Aside0.mk (au4B BK445 hb)
       replace BK455 := Aside0.mk (au4B BK455 hb)
       replace BK458 := Aside0.mk (au4B BK458 hb)
       replace BK461 := Aside0.mk (au4B BK461 hb)
       replace HB := Aside0.mk (below_step (au4s HB) hb)
       (try clear hb)
       (try clear hb2)
       (try clear hk)
       (try clear hi)
       refine hK.out _ _ ⟨BK445.out, (blk_cell BK445.out 8).trans au4c, (blk_cell BK445.out 9).trans au4c, BK455.out, (blk_cell BK455.out 8).trans au4c, (blk_cell BK455.out 9).trans au4c, BK458.out, BK461.out, BK429.out, (blk_cell BK429.out 8).trans au4c, (blk_cell BK429.out 9).trans au4c, BK430.out, (blk_cell BK430.out 8).trans au4c, (blk_cell BK430.out 9).trans au4c⟩ (fun hHeld => ?_)
       clear hK K
       refine norm_ (a' := ?_) ?_ ?_
       rotate_left
       ·show Act.put _ (some 96) _ = _
        simp only [Act.put, zA_, zB_, zC_, i64_w, i32_w]
        rfl
       refine pure_ (i := 38) (N := some 97) (v := ?_) (a' := ?_) #[true, true, true, true, true, true, true, true, true, true, true, true, true, true, true, true, true, true, true, true, true, true, true, true, true, true, true, true, true, true, true, true, true, true, true, true, true, true, true, false, false, false, false, false, false, false, false, false] rfl rfl (any_of HT_.out (by kernel_rfl)) (fun _ _ _ h => h) (Or.inl ⟨by rfl, ?_⟩) ?_ ?_
       rotate_left
       ·intro w'
        go_simp
        with_reducible rfl
       rotate_left
       ·simp only [Act.put, zA_, zB_, zC_, i64_w, i32_w]
        rfl
       refine pure_ (i := 39) (N := some 98) (v := ?_) (a' := ?_) #[true, true, true, true, true, true, true, true, true, true, true, true, true, true, true, true, true, true, true, true, true, true, true, true, true, true, true, true, true, true, true, true, true, true, true, true, true, true, true, true, false, false, false, false, false, false, false, false] rfl rfl (any_of HT_.out (by kernel_rfl)) (fun _ _ _ h => h) (Or.inl ⟨by rfl, ?_⟩) ?_ ?_
       rotate_left
       ·intro w'
        go_simp
        with_reducible rfl
       rotate_left
       ·simp only [Act.put, zA_, zB_, zC_, i64_w, i32_w]
        rfl
       refine pure_ (i := 40) (N := some 99) (v := ?_) (a' := ?_) #[true, true, true, true, true, true, true, true, true, true, true, true, true, true, true, true, true, true, true, true, true, true, true, true, true, true, true, true, true, true, true, true, true, true, true, true, true, true, true, true, true, false, false, false, false, false, false, false] rfl rfl (any_of HT_.out (by kernel_rfl)) (fun _ _ _ h => h) (Or.inl ⟨by rfl, ?_⟩) ?_ ?_
       rotate_left
       ·intro w'
        go_simp
        with_reducible rfl
       rotate_left
       ·simp only [Act.put, zA_, zB_, zC_, i64_w, i32_w]
        rfl
       refine pure_ (i := 42) (N := some 101) (v := ?_) (a' := ?_) #[true, true, true, true, true, true, true, true, true, true, true, true, true, true, true, true, true, true, true, true, true, true, true, true, true, true, true, true, true, true, true, true, true, true, true, true, true, true, true, true, true, false, true, false, false, false, false, false] rfl rfl (any_of HT_.out (by kernel_rfl)) (fun _ _ _ h => h) (Or.inl ⟨by rfl, ?_⟩) ?_ ?_
       rotate_left
       ·intro w'
        go_simp
        with_reducible rfl
       rotate_left
       ·simp only [Act.put, zA_, zB_, zC_, i64_w, i32_w]
        rfl
       refine take_ (i := 43) (N := some 102) (v := ?_) (a' := ?_) #[true, true, true, true, true, true, true, true, true, true, true, true, true, true, true, true, true, true, true, true, true, true, true, true, true, true, true, true, true, true, true, true, true, true, true, true, true, true, true, true, true, false, true, true, false, false, false, false] rfl rfl (take_ofW HT_.out HW_.out (by kernel_rfl)) (fun _ _ _ h => h) (Or.inl ⟨by rfl, ?_⟩) hHeld ?_ ?_
       rotate_left
       ·rintro w' ⟨s0, s1, s2, s3, s4, s5, s6, s7, s8, s9, s10, s11, s12, s13⟩
        go_simp
        with_reducible rfl
       rotate_left
       ·simp only [Act.put, zA_, zB_, zC_, i64_w, i32_w]
        rfl
       refine join_ (σ := Unit) 3 #[true, true, true, true, true, true, true, true, true, true, true, true, true, true, true, true, true, true, true, true, true, true, true, true, true, true, true, true, true, true, true, true, true, true, true, true, true, true, true, true, true, true, true, true, true, false, false, false] (fun s_ => [(100, .string (strOfNums y436)), (103, .string (strOfNums l0_1))]) (fun s_ w' => (w'.heap[gb445]? = some (.cells ((Ar.cells .u32 8 t439) ++ #[.slice Ao71 t440.length co71, .int .u64 t443]) 36 (0, 0)) ∧ w'.cell? ⟨gb445, 8, none⟩ = some (.slice Ao71 t440.length co71) ∧ w'.cell? ⟨gb445, 9, none⟩ = some (.int .u64 t443) ∧ w'.heap[gb455]? = some (.cells ((Ar.cells .u32 8 t449) ++ #[.slice Ao72 t450.length co72, .int .u64 t453]) 36 (0, 0)) ∧ w'.cell? ⟨gb455, 8, none⟩ = some (.slice Ao72 t450.length co72) ∧ w'.cell? ⟨gb455, 9, none⟩ = some (.int .u64 t453) ∧ w'.heap[gb458]? = some (.cells (Ar.cells .u8 32 t456) 26 (0, 0)) ∧ w'.heap[gb461]? = some (.cells (Ar.cells .u8 32 t459) 26 (0, 0)) ∧ w'.heap[gb429]? = some (.cells ((Ar.cells .u32 8 a0_0) ++ #[.slice A0_1 l0_1.length c0_1, .int .u64 a0_2]) 36 (0, 0)) ∧ w'.cell? ⟨gb429, 8, none⟩ = some (.slice A0_1 l0_1.length c0_1) ∧ w'.cell? ⟨gb429, 9, none⟩ = some (.int .u64 a0_2) ∧ w'.heap[gb430]? = some (.cells ((Ar.cells .u32 8 a1_0) ++ #[.slice A1_1 l1_1.length c1_1, .int .u64 a1_2]) 36 (0, 0)) ∧ w'.cell? ⟨gb430, 8, none⟩ = some (.slice A1_1 l1_1.length c1_1) ∧ w'.cell? ⟨gb430, 9, none⟩ = some (.int .u64 a1_2)) ∧ (Kd.R (Kd.int .u8) 5 w' w.heap.size (fun k_ => some k_ ≠ (v447 : Value).ownBlock ∧ some k_ ≠ (.slice Ao81 t468.length co81 : Value).ownBlock ∧ some k_ ≠ (.slice Ao82 t473.length co82 : Value).ownBlock) v437 y436) ∧ (Kd.V (Kd.int .u8) 5 w' w.heap.size (fun k_ => some k_ ≠ (v437 : Value).ownBlock ∧ some k_ ≠ (v447 : Value).ownBlock ∧ some k_ ≠ (.slice Ao81 t468.length co81 : Value).ownBlock ∧ some k_ ≠ (.slice Ao82 t473.length co82 : Value).ownBlock ∧ k_ ≠ gb429 ∧ k_ ≠ gb430 ∧ k_ ≠ gb445 ∧ k_ ≠ gb455 ∧ k_ ≠ gb458 ∧ k_ ≠ gb461) (.slice Ao71 t440.length co71) t440) ∧ (Kd.R (Kd.int .u8) 5 w' w.heap.size (fun k_ => some k_ ≠ (v437 : Value).ownBlock ∧ some k_ ≠ (.slice Ao81 t468.length co81 : Value).ownBlock ∧ some k_ ≠ (.slice Ao82 t473.length co82 : Value).ownBlock) v447 t446) ∧ (Kd.V (Kd.int .u8) 5 w' w.heap.size (fun k_ => some k_ ≠ (v437 : Value).ownBlock ∧ some k_ ≠ (v447 : Value).ownBlock ∧ some k_ ≠ (.slice Ao81 t468.length co81 : Value).ownBlock ∧ some k_ ≠ (.slice Ao82 t473.length co82 : Value).ownBlock ∧ k_ ≠ gb429 ∧ k_ ≠ gb430 ∧ k_ ≠ gb445 ∧ k_ ≠ gb455 ∧ k_ ≠ gb458 ∧ k_ ≠ gb461) (.slice Ao72 t450.length co72) t450) ∧ (Kd.R (Kd.int .u8) 5 w' w.heap.size (fun k_ => some k_ ≠ (v437 : Value).ownBlock ∧ some k_ ≠ (v447 : Value).ownBlock ∧ some k_ ≠ (.slice Ao82 t473.length co82 : Value).ownBlock) (.slice Ao81 t468.length co81) t468) ∧ (Kd.R (Kd.int .u8) 5 w' w.heap.size (fun k_ => some k_ ≠ (v437 : Value).ownBlock ∧ some k_ ≠ (v447 : Value).ownBlock ∧ some k_ ≠ (.slice Ao81 t468.length co81 : Value).ownBlock) (.slice Ao82 t473.length co82) t473) ∧ (w'.heap[gb429]? = some (.cells ((Ar.cells .u32 8 a0_0) ++ #[.slice A0_1 l0_1.length c0_1, .int .u64 a0_2]) 36 (0, 0))) ∧ (w'.heap[gb430]? = some (.cells ((Ar.cells .u32 8 a1_0) ++ #[.slice A1_1 l1_1.length c1_1, .int .u64 a1_2]) 36 (0, 0))) ∧ (w'.heap[gb445]? = some (.cells ((Ar.cells .u32 8 t439) ++ #[.slice Ao71 t440.length co71, .int .u64 t443]) 36 (0, 0))) ∧ (w'.heap[gb455]? = some (.cells ((Ar.cells .u32 8 t449) ++ #[.slice Ao72 t450.length co72, .int .u64 t453]) 36 (0, 0))) ∧ (w'.heap[gb458]? = some (.cells (Ar.cells .u8 32 t456) 26 (0, 0))) ∧ (w'.heap[gb461]? = some (.cells (Ar.cells .u8 32 t459) 26 (0, 0))) ∧ (Below w.heap.size w w')) ?_ ?_
       rotate_left
       ·intro hCont
        refine two_ (i := 41) (j := 44) (Ni := some 100) (Nj := some 103) #[true, true, true, true, true, true, true, true, true, true, true, true, true, true, true, true, true, true, true, true, true, true, true, true, true, true, true, true, true, true, true, true, true, true, true, true, true, true, true, true, true, true, true, true, false, false, false, false] #[true, true, true, true, true, true, true, true, true, true, true, true, true, true, true, true, true, true, true, true, true, true, true, true, true, true, true, true, true, true, true, true, true, true, true, true, true, true, true, true, true, false, true, true, true, false, false, false] rfl rfl rfl rfl (two_of HT_.out (by kernel_rfl)) (by decide) (by decide) (fun K hK => ?_) (fun K hK => ?_)
        ·skip
         have hcv84 := own_string (P := Tryd.prog) Tryd.underlying29 Tryd.underlying5 Tryd.underlying9 (Kd.own_of_R HO438.out)
         refine value_ (w1 := ?_) (v := ?_) (by rfl) rfl ?_ ?_
         rotate_left 2
         ·go_simp
          constructor
          ·rfl
          ·rfl
         clear hcv84
         refine hK.out _ _ ⟨BK445.out, (blk_cell BK445.out 8).trans au4c, (blk_cell BK445.out 9).trans au4c, BK455.out, (blk_cell BK455.out 8).trans au4c, (blk_cell BK455.out 9).trans au4c, BK458.out, BK461.out, BK429.out, (blk_cell BK429.out 8).trans au4c, (blk_cell BK429.out 9).trans au4c, BK430.out, (blk_cell BK430.out 8).trans au4c, (blk_cell BK430.out 9).trans au4c⟩ (fun hHeld => ?_)
         clear hK K
         refine norm_ (a' := ?_) ?_ ?_
         rotate_left
         ·show Act.put _ (some 100) _ = _
          simp only [Act.put, zA_, zB_, zC_, i64_w, i32_w]
          rfl
         refine one_ (i := 44) (N := some 103) #[true, true, true, true, true, true, true, true, true, true, true, true, true, true, true, true, true, true, true, true, true, true, true, true, true, true, true, true, true, true, true, true, true, true, true, true, true, true, true, true, true, true, true, true, true, false, false, false] rfl rfl (one_of HT_.out (by kernel_rfl)) (by decide) (fun K hK => ?_)
         have hcv85 := Kd.C_string (P := Tryd.prog) (A := A0_1) (c := c0_1) Tryd.underlying29 Tryd.underlying5 Tryd.underlying9 (Kd.C_below HR0_1.out HB.out)
         refine value_ (w1 := ?_) (v := ?_) (by rfl) rfl ?_ ?_
         rotate_left 2
         ·go_simp
          constructor
          ·rfl
          ·rfl
         clear hcv85
         refine hK.out _ _ ⟨BK445.out, (blk_cell BK445.out 8).trans au4c, (blk_cell BK445.out 9).trans au4c, BK455.out, (blk_cell BK455.out 8).trans au4c, (blk_cell BK455.out 9).trans au4c, BK458.out, BK461.out, BK429.out, (blk_cell BK429.out 8).trans au4c, (blk_cell BK429.out 9).trans au4c, BK430.out, (blk_cell BK430.out 8).trans au4c, (blk_cell BK430.out 9).trans au4c⟩ (fun hHeld => ?_)
         clear hK K
         refine norm_ (a' := ?_) ?_ ?_
         rotate_left
         ·show Act.put _ (some 103) _ = _
          simp only [Act.put, zA_, zB_, zC_, i64_w, i32_w]
          rfl
         exact norm_ (by simp only [putAll, Act.put, zA_, zB_, zC_] <;> rfl) (hCont () _ ⟨hHeld, (by (with_reducible repeat (first | apply Kd.R_alloc | apply Kd.R_drewN | apply Kd.R_drew)); exact Kd.R_mono HO438.out (fun _ hk => ⟨hk.1.1, ⟨hk.1.2, hk.2⟩⟩)), (by (with_reducible repeat (first | apply Kd.V_alloc | apply Kd.V_drewN | apply Kd.V_drew)); exact Kd.V_mono HO442.out (fun _ hk => ⟨hk.1.1.1.1.1, ⟨hk.1.1.1.1.2.1, ⟨hk.1.2, ⟨hk.2, ⟨hk.1.1.1.1.2.2.1, ⟨hk.1.1.1.1.2.2.2.1, ⟨hk.1.1.1.1.2.2.2.2.1, ⟨hk.1.1.1.1.2.2.2.2.2, ⟨hk.1.1.1.2, hk.1.1.2⟩⟩⟩⟩⟩⟩⟩⟩⟩)), (by (with_reducible repeat (first | apply Kd.R_alloc | apply Kd.R_drewN | apply Kd.R_drew)); exact Kd.R_mono HO448.out (fun _ hk => ⟨hk.1.1, ⟨hk.1.2, hk.2⟩⟩)), (by (with_reducible repeat (first | apply Kd.V_alloc | apply Kd.V_drewN | apply Kd.V_drew)); exact Kd.V_mono HO452.out (fun _ hk => ⟨hk.1.1.1.1.1, ⟨hk.1.1.1.1.2.1, ⟨hk.1.2, ⟨hk.2, ⟨hk.1.1.1.1.2.2.1, ⟨hk.1.1.1.1.2.2.2.1, ⟨hk.1.1.1.1.2.2.2.2.1, ⟨hk.1.1.1.1.2.2.2.2.2, ⟨hk.1.1.1.2, hk.1.1.2⟩⟩⟩⟩⟩⟩⟩⟩⟩)), (by (with_reducible repeat (first | apply Kd.R_alloc | apply Kd.R_drewN | apply Kd.R_drew)); exact Kd.R_mono HO470.out (fun _ hk => ⟨hk.1.1.2, ⟨hk.1.2, hk.2⟩⟩)), (by (with_reducible repeat (first | apply Kd.R_alloc | apply Kd.R_drewN | apply Kd.R_drew)); exact Kd.R_mono HO475.out (fun _ hk => ⟨hk.1.1.2, ⟨hk.1.2, hk.2⟩⟩)), (au4b BK429), (au4b BK430), (au4b BK445), (au4b BK455), (au4b BK458), (au4b BK461), (au4s HB)⟩)
        ·skip
         have hcv84 := Kd.C_string (P := Tryd.prog) (A := A0_1) (c := c0_1) Tryd.underlying29 Tryd.underlying5 Tryd.underlying9 (Kd.C_below HR0_1.out HB.out)
         refine value_ (w1 := ?_) (v := ?_) (by rfl) rfl ?_ ?_
         rotate_left 2
         ·go_simp
          constructor
          ·rfl
          ·rfl
         clear hcv84
         refine hK.out _ _ ⟨BK445.out, (blk_cell BK445.out 8).trans au4c, (blk_cell BK445.out 9).trans au4c, BK455.out, (blk_cell BK455.out 8).trans au4c, (blk_cell BK455.out 9).trans au4c, BK458.out, BK461.out, BK429.out, (blk_cell BK429.out 8).trans au4c, (blk_cell BK429.out 9).trans au4c, BK430.out, (blk_cell BK430.out 8).trans au4c, (blk_cell BK430.out 9).trans au4c⟩ (fun hHeld => ?_)
         clear hK K
         refine norm_ (a' := ?_) ?_ ?_
         rotate_left
         ·show Act.put _ (some 103) _ = _
          simp only [Act.put, zA_, zB_, zC_, i64_w, i32_w]
          rfl
         refine one_ (i := 41) (N := some 100) #[true, true, true, true, true, true, true, true, true, true, true, true, true, true, true, true, true, true, true, true, true, true, true, true, true, true, true, true, true, true, true, true, true, true, true, true, true, true, true, true, true, true, true, true, true, false, false, false] rfl rfl (one_of HT_.out (by kernel_rfl)) (by decide) (fun K hK => ?_)
         have hcv85 := own_string (P := Tryd.prog) Tryd.underlying29 Tryd.underlying5 Tryd.underlying9 (Kd.own_of_R HO438.out)
         refine value_ (w1 := ?_) (v := ?_) (by rfl) rfl ?_ ?_
         rotate_left 2
         ·go_simp
          constructor
          ·rfl
          ·rfl
         clear hcv85
         refine hK.out _ _ ⟨BK445.out, (blk_cell BK445.out 8).trans au4c, (blk_cell BK445.out 9).trans au4c, BK455.out, (blk_cell BK455.out 8).trans au4c, (blk_cell BK455.out 9).trans au4c, BK458.out, BK461.out, BK429.out, (blk_cell BK429.out 8).trans au4c, (blk_cell BK429.out 9).trans au4c, BK430.out, (blk_cell BK430.out 8).trans au4c, (blk_cell BK430.out 9).trans au4c⟩ (fun hHeld => ?_)
         clear hK K
         refine norm_ (a' := ?_) ?_ ?_
         rotate_left
         ·show Act.put _ (some 100) _ = _
          simp only [Act.put, zA_, zB_, zC_, i64_w, i32_w]
          rfl
         exact norm_ (by simp only [putAll, Act.put, zA_, zB_, zC_] <;> rfl) (hCont () _ ⟨hHeld, (by (with_reducible repeat (first | apply Kd.R_alloc | apply Kd.R_drewN | apply Kd.R_drew)); exact Kd.R_mono HO438.out (fun _ hk => ⟨hk.1.1, ⟨hk.1.2, hk.2⟩⟩)), (by (with_reducible repeat (first | apply Kd.V_alloc | apply Kd.V_drewN | apply Kd.V_drew)); exact Kd.V_mono HO442.out (fun _ hk => ⟨hk.1.1.1.1.1, ⟨hk.1.1.1.1.2.1, ⟨hk.1.2, ⟨hk.2, ⟨hk.1.1.1.1.2.2.1, ⟨hk.1.1.1.1.2.2.2.1, ⟨hk.1.1.1.1.2.2.2.2.1, ⟨hk.1.1.1.1.2.2.2.2.2, ⟨hk.1.1.1.2, hk.1.1.2⟩⟩⟩⟩⟩⟩⟩⟩⟩)), (by (with_reducible repeat (first | apply Kd.R_alloc | apply Kd.R_drewN | apply Kd.R_drew)); exact Kd.R_mono HO448.out (fun _ hk => ⟨hk.1.1, ⟨hk.1.2, hk.2⟩⟩)), (by (with_reducible repeat (first | apply Kd.V_alloc | apply Kd.V_drewN | apply Kd.V_drew)); exact Kd.V_mono HO452.out (fun _ hk => ⟨hk.1.1.1.1.1, ⟨hk.1.1.1.1.2.1, ⟨hk.1.2, ⟨hk.2, ⟨hk.1.1.1.1.2.2.1, ⟨hk.1.1.1.1.2.2.2.1, ⟨hk.1.1.1.1.2.2.2.2.1, ⟨hk.1.1.1.1.2.2.2.2.2, ⟨hk.1.1.1.2, hk.1.1.2⟩⟩⟩⟩⟩⟩⟩⟩⟩)), (by (with_reducible repeat (first | apply Kd.R_alloc | apply Kd.R_drewN | apply Kd.R_drew)); exact Kd.R_mono HO470.out (fun _ hk => ⟨hk.1.1.2, ⟨hk.1.2, hk.2⟩⟩)), (by (with_reducible repeat (first | apply Kd.R_alloc | apply Kd.R_drewN | apply Kd.R_drew)); exact Kd.R_mono HO475.out (fun _ hk => ⟨hk.1.1.2, ⟨hk.1.2, hk.2⟩⟩)), (au4b BK429), (au4b BK430), (au4b BK445), (au4b BK455), (au4b BK458), (au4b BK461), (au4s HB)⟩)
       rintro _ w86 ⟨hS_, h0_, h1_, h2_, h3_, h4_, h5_, h6_, h7_, h8_, h9_, h10_, h11_, h12_⟩
       have n0_ : Aside0 (Kd.R (Kd.int .u8) 5 w86 w.heap.size (fun k_ => some k_ ≠ (v447 : Value).ownBlock ∧ some k_ ≠ (.slice Ao81 t468.length co81 : Value).ownBlock ∧ some k_ ≠ (.slice Ao82 t473.length co82 : Value).ownBlock) v437 y436) := ⟨h0_⟩
       have n1_ : Aside0 (Kd.V (Kd.int .u8) 5 w86 w.heap.size (fun k_ => some k_ ≠ (v437 : Value).ownBlock ∧ some k_ ≠ (v447 : Value).ownBlock ∧ some k_ ≠ (.slice Ao81 t468.length co81 : Value).ownBlock ∧ some k_ ≠ (.slice Ao82 t473.length co82 : Value).ownBlock ∧ k_ ≠ gb429 ∧ k_ ≠ gb430 ∧ k_ ≠ gb445 ∧ k_ ≠ gb455 ∧ k_ ≠ gb458 ∧ k_ ≠ gb461) (.slice Ao71 t440.length co71) t440) := ⟨h1_⟩
       have n2_ : Aside0 (Kd.R (Kd.int .u8) 5 w86 w.heap.size (fun k_ => some k_ ≠ (v437 : Value).ownBlock ∧ some k_ ≠ (.slice Ao81 t468.length co81 : Value).ownBlock ∧ some k_ ≠ (.slice Ao82 t473.length co82 : Value).ownBlock) v447 t446) := ⟨h2_⟩
       have n3_ : Aside0 (Kd.V (Kd.int .u8) 5 w86 w.heap.size (fun k_ => some k_ ≠ (v437 : Value).ownBlock ∧ some k_ ≠ (v447 : Value).ownBlock ∧ some k_ ≠ (.slice Ao81 t468.length co81 : Value).ownBlock ∧ some k_ ≠ (.slice Ao82 t473.length co82 : Value).ownBlock ∧ k_ ≠ gb429 ∧ k_ ≠ gb430 ∧ k_ ≠ gb445 ∧ k_ ≠ gb455 ∧ k_ ≠ gb458 ∧ k_ ≠ gb461) (.slice Ao72 t450.length co72) t450) := ⟨h3_⟩
       have n4_ : Aside0 (Kd.R (Kd.int .u8) 5 w86 w.heap.size (fun k_ => some k_ ≠ (v437 : Value).ownBlock ∧ some k_ ≠ (v447 : Value).ownBlock ∧ some k_ ≠ (.slice Ao82 t473.length co82 : Value).ownBlock) (.slice Ao81 t468.length co81) t468) := ⟨h4_⟩
       have n5_ : Aside0 (Kd.R (Kd.int .u8) 5 w86 w.heap.size (fun k_ => some k_ ≠ (v437 : Value).ownBlock ∧ some k_ ≠ (v447 : Value).ownBlock ∧ some k_ ≠ (.slice Ao81 t468.length co81 : Value).ownBlock) (.slice Ao82 t473.length co82) t473) := ⟨h5_⟩
       have n6_ : Aside0 (w86.heap[gb429]? = some (.cells ((Ar.cells .u32 8 a0_0) ++ #[.slice A0_1 l0_1.length c0_1, .int .u64 a0_2]) 36 (0, 0))) := ⟨h6_⟩
       have n7_ : Aside0 (w86.heap[gb430]? = some (.cells ((Ar.cells .u32 8 a1_0) ++ #[.slice A1_1 l1_1.length c1_1, .int .u64 a1_2]) 36 (0, 0))) := ⟨h7_⟩
       have n8_ : Aside0 (w86.heap[gb445]? = some (.cells ((Ar.cells .u32 8 t439) ++ #[.slice Ao71 t440.length co71, .int .u64 t443]) 36 (0, 0))) := ⟨h8_⟩
       have n9_ : Aside0 (w86.heap[gb455]? = some (.cells ((Ar.cells .u32 8 t449) ++ #[.slice Ao72 t450.length co72, .int .u64 t453]) 36 (0, 0))) := ⟨h9_⟩
       have n10_ : Aside0 (w86.heap[gb458]? = some (.cells (Ar.cells .u8 32 t456) 26 (0, 0))) := ⟨h10_⟩
       have n11_ : Aside0 (w86.heap[gb461]? = some (.cells (Ar.cells .u8 32 t459) 26 (0, 0))) := ⟨h11_⟩
       have n12_ : Aside0 (Below w.heap.size w w86) := ⟨h12_⟩
       clear HO438 HO442 HO448 HO452 BK429 BK430 BK445 BK455 BK458 BK461 HB h0_ h1_ h2_ h3_ h4_ h5_ h6_ h7_ h8_ h9_ h10_ h11_ h12_
       have HO438 := n0_
       have HO442 := n1_
       have HO448 := n2_
       have HO452 := n3_
       have HO470 := n4_
       have HO475 := n5_
       have BK429 := n6_
       have BK430 := n7_
       have BK445 := n8_
       have BK455 := n9_
       have BK458 := n10_
       have BK461 := n11_
       have HB := n12_
       clear n0_ n1_ n2_ n3_ n4_ n5_ n6_ n7_ n8_ n9_ n10_ n11_ n12_
       have hHeld : w86.heap[gb445]? = some (.cells ((Ar.cells .u32 8 t439) ++ #[.slice Ao71 t440.length co71, .int .u64 t443]) 36 (0, 0)) ∧ w86.cell? ⟨gb445, 8, none⟩ = some (.slice Ao71 t440.length co71) ∧ w86.cell? ⟨gb445, 9, none⟩ = some (.int .u64 t443) ∧ w86.heap[gb455]? = some (.cells ((Ar.cells .u32 8 t449) ++ #[.slice Ao72 t450.length co72, .int .u64 t453]) 36 (0, 0)) ∧ w86.cell? ⟨gb455, 8, none⟩ = some (.slice Ao72 t450.length co72) ∧ w86.cell? ⟨gb455, 9, none⟩ = some (.int .u64 t453) ∧ w86.heap[gb458]? = some (.cells (Ar.cells .u8 32 t456) 26 (0, 0)) ∧ w86.heap[gb461]? = some (.cells (Ar.cells .u8 32 t459) 26 (0, 0)) ∧ w86.heap[gb429]? = some (.cells ((Ar.cells .u32 8 a0_0) ++ #[.slice A0_1 l0_1.length c0_1, .int .u64 a0_2]) 36 (0, 0)) ∧ w86.cell? ⟨gb429, 8, none⟩ = some (.slice A0_1 l0_1.length c0_1) ∧ w86.cell? ⟨gb429, 9, none⟩ = some (.int .u64 a0_2) ∧ w86.heap[gb430]? = some (.cells ((Ar.cells .u32 8 a1_0) ++ #[.slice A1_1 l1_1.length c1_1, .int .u64 a1_2]) 36 (0, 0)) ∧ w86.cell? ⟨gb430, 8, none⟩ = some (.slice A1_1 l1_1.length c1_1) ∧ w86.cell? ⟨gb430, 9, none⟩ = some (.int .u64 a1_2) := hS_
       refine norm_ (a' := ?_) ?_ ?_
       rotate_left
       ·simp only [putAll, Act.put, zA_, zB_, zC_]
        rfl
       refine pure_ (i := 45) (N := some 104) (v := ?_) (a' := ?_) #[true, true, true, true, true, true, true, true, true, true, true, true, true, true, true, true, true, true, true, true, true, true, true, true, true, true, true, true, true, true, true, true, true, true, true, true, true, true, true, true, true, true, true, true, true, true, false, false] rfl rfl (any_of HT_.out (by kernel_rfl)) (fun _ _ _ h => h) (Or.inl ⟨by rfl, ?_⟩) ?_ ?_
       rotate_left
       ·intro w'
        go_simp
        with_reducible rfl
       rotate_left
       ·simp only [Act.put, zA_, zB_, zC_, i64_w, i32_w]
        rfl
       refine pure_ (i := 46) (N := some 105) (v := ?_) (a' := ?_) #[true, true, true, true, true, true, true, true, true, true, true, true, true, true, true, true, true, true, true, true, true, true, true, true, true, true, true, true, true, true, true, true, true, true, true, true, true, true, true, true, true, true, true, true, true, true, true, false] rfl rfl (any_of HT_.out (by kernel_rfl)) (fun _ _ _ h => h) (Or.inl ⟨by rfl, ?_⟩) ?_ ?_
       rotate_left
       ·intro w'
        go_simp
        with_reducible rfl
       rotate_left
       ·simp only [Act.put, zA_, zB_, zC_, i64_w, i32_w]
        rfl
       refine pure_ (i := 47) (N := some 6) (v := ?_) (a' := ?_) #[true, true, true, true, true, true, true, true, true, true, true, true, true, true, true, true, true, true, true, true, true, true, true, true, true, true, true, true, true, true, true, true, true, true, true, true, true, true, true, true, true, true, true, true, true, true, true, true] rfl rfl (any_of HT_.out (by kernel_rfl)) (fun _ _ _ h => h) (Or.inl ⟨by rfl, ?_⟩) ?_ ?_
       rotate_left
       ·intro w'
        go_simp
        with_reducible rfl
       rotate_left
       ·simp only [Act.put, zA_, zB_, zC_, i64_w, i32_w]
        rfl
       refine done_ (done_of HT_.out (by kernel_rfl)) ?_
       try go_wp2
       go_ret
       exact ⟨by first | rfl | (simp [errW_none, errW_some] <;> rfl) | (simp [*, errW_none, errW_some] <;> rfl), by repeat (first | (with_reducible first | exact HB.out | apply below_alloc | apply pw_below_drewN | apply below_drew1 | refine below_set ?_ GE429.out | refine below_set ?_ GE430.out | refine below_set ?_ GE445.out | refine below_set ?_ GE455.out | refine below_set ?_ GE458.out | refine below_set ?_ GE461.out) | exact HB.out)⟩
      ·replace c44 := Bool.eq_false_iff.mpr c44
       subst c44
       have H1 : (none) = some r := by rw [if_neg (show ¬ (false = true) by decide)] at H; exact H
       clear H
       have H := H1
       clear H1
       exact absurd H (by simp)
     ·replace c31 := Bool.eq_false_iff.mpr c31
      subst c31
      have H1 : (none) = some r := by rw [if_neg (show ¬ (false = true) by decide)] at H; exact H
      clear H
      have H := H1
      clear H1
      exact absurd H (by simp)
 ·replace c5 := Bool.eq_false_iff.mpr c5
  subst c5
  have H1 : (none) = some r := by rw [if_neg (show ¬ (false = true) by decide)] at H; exact H
  clear H
  have H := H1
  clear H1
  exact absurd H (by simp)
def drawlotlaw05_ShaWrites.Pure : Prop := ∀ (a0_0 : List Int) (l0_1 : List Int) (a0_2 : Int) (a1_0 : List Int) (l1_1 : List Int) (a1_2 : Int) (l2 : List (List Int)), (a0_0.length = 8 ∧ ∀ x ∈ a0_0, (Lit.int .u32 x).wf = true) → (l0_1.length ≤ maxLen ∧ ∀ x ∈ l0_1, (Lit.int .u8 x).wf = true) → (Lit.int .u64 a0_2).wf = true → (a1_0.length = 8 ∧ ∀ x ∈ a1_0, (Lit.int .u32 x).wf = true) → (l1_1.length ≤ maxLen ∧ ∀ x ∈ l1_1, (Lit.int .u8 x).wf = true) → (Lit.int .u64 a1_2).wf = true → (l2.length ≤ maxLen ∧ ∀ x ∈ l2, (x.length ≤ maxLen ∧ ∀ x_ ∈ x, (Lit.int .u8 x_).wf = true)) → ∃ k, drawlotlaw05_ShaWrites.f k a0_0 l0_1 a0_2 a1_0 l1_1 a1_2 l2 = some true
theorem drawlotlaw05_ShaWrites.walk (P : drawlotlaw05_ShaWrites.Pure) (a0_0 : List Int) (A0_1 : Option Addr) (c0_1 : Nat) (l0_1 : List Int) (a0_2 : Int) (a1_0 : List Int) (A1_1 : Option Addr) (c1_1 : Nat) (l1_1 : List Int) (a1_2 : Int) (A2 : Option Addr) (c2 : Nat) (l2 : List (List Int)) (w : World) (w0_0 : (a0_0.length = 8 ∧ ∀ x ∈ a0_0, (Lit.int .u32 x).wf = true)) (w0_1 : Kd.C (Kd.int .u8) w A0_1 l0_1.length l0_1 ∧ l0_1.length ≤ c0_1 ∧ (l0_1.length ≤ maxLen ∧ ∀ x ∈ l0_1, (Lit.int .u8 x).wf = true)) (w0_2 : (Lit.int .u64 a0_2).wf = true) (w1_0 : (a1_0.length = 8 ∧ ∀ x ∈ a1_0, (Lit.int .u32 x).wf = true)) (w1_1 : Kd.C (Kd.int .u8) w A1_1 l1_1.length l1_1 ∧ l1_1.length ≤ c1_1 ∧ (l1_1.length ≤ maxLen ∧ ∀ x ∈ l1_1, (Lit.int .u8 x).wf = true)) (w1_2 : (Lit.int .u64 a1_2).wf = true) (w2 : Kd.C (Kd.slice 5 (Kd.int .u8)) w A2 l2.length l2 ∧ l2.length ≤ c2 ∧ (l2.length ≤ maxLen ∧ ∀ x ∈ l2, (x.length ≤ maxLen ∧ ∀ x_ ∈ x, (Lit.int .u8 x_).wf = true))) :
  Calls Tryd.prog 4 #[.agg (Ar.cells .u32 8 a0_0 ++ #[.slice A0_1 l0_1.length c0_1, .int .u64 a0_2]), .agg (Ar.cells .u32 8 a1_0 ++ #[.slice A1_1 l1_1.length c1_1, .int .u64 a1_2]), .slice A2 l2.length c2] w fun e w' => e = .returned (.bool true) ∧ Below w.heap.size w w' := by
 obtain ⟨k, h⟩ := P a0_0 l0_1 a0_2 a1_0 l1_1 a1_2 l2 w0_0 w0_1.2.2 w0_2 w1_0 w1_1.2.2 w1_2 w2.2.2
 refine (drawlotlaw05_ShaWrites.calls k a0_0 _ _ l0_1 a0_2 a1_0 _ _ l1_1 a1_2 _ _ l2 true w w0_1.1 w0_1.2.1 w1_1.1 w1_1.2.1 w2.1 w2.2.1 h).mono ?_
 rintro e w' ⟨rfl, hd⟩
 exact ⟨rfl, hd⟩
end Go.Proofs.YtkcdcbiobkcpmaaDoor.PA
end
section
namespace Go.Proofs.YtkcdcbiobkcpmaaDoor.Lm
open Go.RowKit Go.Proofs.YtkcdcbiobkcpmaaDoorW.PrintWords
theorem u64w (x : Int) : IntKind.u64.wrap x = x % 18446744073709551616 := by simp [IntKind.wrap, IntKind.bits, IntKind.signed]
theorem u64w_id {x : Int} (h0 : 0 ≤ x) (h1 : x < 18446744073709551616) : IntKind.u64.wrap x = x := by rw [u64w]; omega
theorem w64_id {x : Int} (h0 : -9223372036854775808 ≤ x) (h1 : x < 9223372036854775808) : wrap64 x = x := by unfold wrap64; omega
theorem wf64 {x : Int} (h : (Lit.int .u64 x).wf = true) : 0 ≤ x ∧ x < 18446744073709551616 := by have := bounds_u64 h; omega
theorem wf8 {x : Int} (h : (Lit.int .u8 x).wf = true) : 0 ≤ x ∧ x < 256 := by have := bounds_u8 h; omega
def U64 (l : List Int) : Prop := ∀ x ∈ l, 0 ≤ x ∧ x < 18446744073709551616
theorem rd_nat (l : List Int) (i : Nat) : rd l (i : Int) = l.getD i 0 := by simp [rd]
theorem rd_lt {l : List Int} {i : Int} (h0 : 0 ≤ i) (h1 : i < (l.length : Int)) : ∃ h : i.toNat < l.length, rd l i = l[i.toNat]'h := by
  have h : i.toNat < l.length := by omega
  exact ⟨h, by unfold rd; rw [List.getD_eq_getElem?_getD, List.getElem?_eq_getElem h]; rfl⟩
theorem U64.rd {l : List Int} (h : U64 l) (i : Int) : 0 ≤ rd l i ∧ rd l i < 18446744073709551616 := by
  unfold YtkcdcbiobkcpmaaDoorW.PrintWords.rd
  rw [List.getD_eq_getElem?_getD]
  by_cases hi : i.toNat < l.length
  · rw [List.getElem?_eq_getElem hi]; exact h _ (List.getElem_mem hi)
  · rw [List.getElem?_eq_none (by omega)]; simp
theorem U64.take {l : List Int} (h : U64 l) (n : Nat) : U64 (l.take n) := fun x hx => h x (List.mem_of_mem_take hx)
theorem U64.drop {l : List Int} (h : U64 l) (n : Nat) : U64 (l.drop n) := fun x hx => h x (List.mem_of_mem_drop hx)
theorem drop_step {l : List Int} {n : Nat} (h : n < l.length) : l.drop n = rd l (n : Int) :: l.drop (n + 1) := by
  rw [rd_nat, List.getD_eq_getElem?_getD, List.getElem?_eq_getElem h]
  exact List.drop_eq_getElem_cons h
theorem bs {α β : Type} (a : α) (f : α → Option β) : (some a).bind f = f a := Eq.trans (Option.bind_some a f) rfl
end Go.Proofs.YtkcdcbiobkcpmaaDoor.Lm
end
section
namespace Go.Proofs.YtkcdcbiobkcpmaaDoor.Lm
open Go.RowKit Go.Proofs.YtkcdcbiobkcpmaaDoor.PA Go.Proofs.YtkcdcbiobkcpmaaDoorW.PrintWords Go.Proofs.YtkcdcbiobkcpmaaDoorW.PrintLast
theorem alive05 (k : Nat) (hk : 300 ≤ k) : drawlotlaw05_alive.f k = some true := at_rounds (g := fun k => drawlotlaw05_alive.f k) (fun k => drawlotlaw05_alive.mono k) (k := 300) (k' := k) hk (r := true) (by decide +kernel)
end Go.Proofs.YtkcdcbiobkcpmaaDoor.Lm
end
section
namespace Go.Proofs.YtkcdcbiobkcpmaaDoor.Lm
open Go.RowKit Go.Proofs.YtkcdcbiobkcpmaaDoor.PA Go.Proofs.YtkcdcbiobkcpmaaDoorW.PrintWords Go.Proofs.YtkcdcbiobkcpmaaDoorW.PrintLast Go.Proofs.YtkcdcbiobkcpmaaDoorW.PrintMore
theorem u32w (x : Int) : IntKind.u32.wrap x = x % 4294967296 := by simp [IntKind.wrap, IntKind.bits, IntKind.signed]
theorem bits_or_comm (k : IntKind) (x y : Int) : bits .or k x y = bits .or k y x := by unfold bits; simp only [BitVec.or_comm]
theorem wraps_u32 (n : Int) (h0 : 0 ≤ n) (h1 : n < 2 ^ 32) : IntKind.u32.wrap n = n := by rw [u32w]; omega
theorem pow_pos (n : Nat) : (0 : Int) < 2 ^ n := Int.pow_pos (by decide)
theorem pow_split {m : Nat} (h : m ≤ 32) : (2 : Int) ^ m * 2 ^ (32 - m) = 4294967296 := by
  rw [← Int.pow_add, show m + (32 - m) = 32 by omega]; rfl
theorem tmod32 (n : Int) : (0 ≤ Int.tmod n 32 ∧ Int.tmod n 32 = n % 32) ∨ (Int.tmod n 32 < 0 ∧ Int.tmod n 32 = n % 32 - 32) := by
  have h := Int.tmod_eq_emod (a := n) (b := 32)
  have hr := Int.emod_nonneg n (show (32 : Int) ≠ 0 by decide)
  have hr2 := Int.emod_lt_of_pos n (show (0 : Int) < 32 by decide)
  by_cases hc : 0 ≤ n ∨ (32 : Int) ∣ n
  · rw [if_pos hc] at h
    left; omega
  · rw [if_neg hc] at h
    right
    have : Int.natAbs 32 = 32 := rfl
    rw [this] at h
    omega
def rotF (x : Int) (m : Nat) : Int := x / 2 ^ m + x % 2 ^ m * 2 ^ (32 - m)
def leftF (x : Int) (m : Nat) : Int := x * 2 ^ m % 4294967296
theorem left_mod (x : Int) {m : Nat} (h : m ≤ 32) : leftF x (32 - m) = x % 2 ^ m * 2 ^ (32 - m) := by
  unfold leftF
  rw [← pow_split h]
  have hQ := pow_pos (32 - m)
  have := Int.mul_emod_mul_of_pos (a := 2 ^ (32 - m)) x (2 ^ m) hQ
  rw [Int.mul_comm x, Int.mul_comm (2 ^ m : Int), this, Int.mul_comm]
theorem div_lt {x : Int} (h1 : x < 4294967296) {m : Nat} (h : m ≤ 32) : x / 2 ^ m < 2 ^ (32 - m) := by
  refine Int.ediv_lt_of_lt_mul (pow_pos m) ?_
  rw [Int.mul_comm, pow_split h]; exact h1
theorem rotF_range {x : Int} (h0 : 0 ≤ x) (h1 : x < 4294967296) {m : Nat} (h : m ≤ 32) : 0 ≤ rotF x m ∧ rotF x m < 4294967296 := by
  unfold rotF
  have hP := pow_pos m
  have hQ := pow_pos (32 - m)
  have hd := div_lt h1 h
  have hd0 : 0 ≤ x / 2 ^ m := Int.ediv_nonneg h0 (Int.le_of_lt hP)
  have hm0 := Int.emod_nonneg x (Int.ne_of_gt hP)
  have hm1 := Int.emod_lt_of_pos x hP
  have hs := pow_split h
  have h3 : x % 2 ^ m * 2 ^ (32 - m) ≤ (2 ^ m - 1) * 2 ^ (32 - m) := Int.mul_le_mul_of_nonneg_right (by omega) (Int.le_of_lt hQ)
  rw [Int.sub_mul, hs, Int.one_mul] at h3
  have h4 : 0 ≤ x % 2 ^ m * 2 ^ (32 - m) := Int.mul_nonneg hm0 (Int.le_of_lt hQ)
  omega
theorem or_rot {x : Int} (h0 : 0 ≤ x) (h1 : x < 4294967296) {m : Nat} (h : m ≤ 32) : bits .or .u32 (x / 2 ^ m) (leftF x (32 - m)) = rotF x m := by
  have hP := pow_pos m
  have hQ := pow_pos (32 - m)
  have hd := div_lt h1 h
  have hd0 : 0 ≤ x / 2 ^ m := Int.ediv_nonneg h0 (Int.le_of_lt hP)
  have hl0 : 0 ≤ leftF x (32 - m) := Int.emod_nonneg _ (by decide)
  have hl1 : leftF x (32 - m) < 4294967296 := Int.emod_lt_of_pos _ (by decide)
  have hx1 : x / 2 ^ m < 2 ^ 32 := by
    have : x / 2 ^ m ≤ x := Int.ediv_le_self _ h0
    have : (2 : Int) ^ 32 = 4294967296 := rfl
    omega
  rw [bits_or_comm, bits_join .u32 32 (by decide) wraps_u32 (32 - m) _ _ hl0 (by rw [left_mod x h]; exact Int.mul_emod_left _ _) hl1 hd0 hd hx1, left_mod x h]
  unfold rotF
  omega
theorem rot_one {x : Int} {m : Nat} (h : m < 32) : rotF x m / 2 + rotF x m % 2 * 2147483648 = rotF x (m + 1) := by
  unfold rotF
  have hP := pow_pos m
  have e1 : (2 : Int) ^ (32 - m) = 2 * 2 ^ (31 - m) := by rw [show 32 - m = (31 - m) + 1 by omega, Int.pow_succ, Int.mul_comm]
  have e2 : (2 : Int) ^ (m + 1) = 2 ^ m * 2 := Int.pow_succ 2 m
  have e3 : (2 : Int) ^ m * 2 ^ (31 - m) = 2147483648 := by rw [← Int.pow_add, show m + (31 - m) = 31 by omega]; rfl
  rw [e1, e2, show 32 - (m + 1) = 31 - m by omega]
  generalize (2 : Int) ^ m = P at *
  generalize (2 : Int) ^ (31 - m) = Q at *
  have hd : x / (P * 2) = x / P / 2 := (Int.ediv_ediv_of_nonneg (Int.le_of_lt hP)).symm
  have hmd : x % (P * 2) = x % P + P * (x / P % 2) := by
    have a1 := Int.emod_add_mul_ediv x P
    have a2 := Int.emod_add_mul_ediv x (P * 2)
    have a3 := Int.emod_add_mul_ediv (x / P) 2
    rw [hd, Int.mul_assoc] at a2
    have a4 : P * (x / P) = P * (x / P % 2) + P * (2 * (x / P / 2)) := by rw [← Int.mul_add, a3]
    omega
  rw [hd, hmd]
  have b1 : x % P * (2 * Q) = 2 * (x % P * Q) := by rw [← Int.mul_assoc, Int.mul_comm (x % P) 2, Int.mul_assoc]
  have b2 : (x % P + P * (x / P % 2)) * Q = x % P * Q + 2147483648 * (x / P % 2) := by
    rw [Int.add_mul, Int.mul_assoc P, Int.mul_comm (x / P % 2) Q, ← Int.mul_assoc P, e3]
  rw [b1, b2]
  omega
theorem rotF_zero (x : Int) : rotF x 0 = x := by
  unfold rotF
  simp
theorem right_ok {x n : Int} (hn0 : -9223372036854775808 ≤ n) (hn1 : n < 9223372036854775808) : word_Right.f x n = some (x / 2 ^ (min n.toNat 32)) := by
  unfold word_Right.f
  have e : IntKind.u64.wrap (mx n 0) = (n.toNat : Int) := by rw [u64w]; unfold mx; split <;> omega
  rw [e, if_pos (by omega)]
  rfl
theorem rotate_ok {x n : Int} (h0 : 0 ≤ x) (h1 : x < 4294967296) : word_Rotate.f x n = some (rotF x (n % 32).toNat) := by
  unfold word_Rotate.f
  have e : Int.tmod (IntKind.u64.wrap n) 32 = n % 32 := by
    rw [u64w, Int.tmod_eq_emod_of_nonneg (by omega)]; omega
  have e2 : IntKind.u64.wrap (32 - n % 32) = 32 - n % 32 := by rw [u64w]; omega
  rw [e, e2, if_pos (by omega), if_pos (by omega)]
  have hm : (n % 32).toNat ≤ 32 := by omega
  have e3 : shr .u32 x (n % 32) = x / 2 ^ (n % 32).toNat := by
    unfold shr; rw [Nat.min_eq_left (by exact hm)]
  have e4 : shl .u32 x (32 - n % 32) = leftF x (32 - (n % 32).toNat) := by
    unfold shl leftF; rw [u32w, show (32 - n % 32).toNat = 32 - (n % 32).toNat by omega, Nat.min_eq_left (show 32 - (n % 32).toNat ≤ IntKind.u32.bits by show _ ≤ 32; omega)]
  rw [e3, e4]
  exact congrArg some (or_rot h0 h1 hm)
theorem r01right_loop (n : Int) (hn1 : n < 9223372036854775808) : ∀ (d k : Nat) (x i : Int), d < k → 0 ≤ i → n = i + d → 0 ≤ x → x < 4294967296 → drawlotref01_Right.l0 k x n i = some (x / 2 ^ d)
  | 0, k, x, i, hk, hi, hd, h0, h1 => by
    obtain ⟨k, rfl⟩ : ∃ m, k = m + 1 := ⟨k - 1, by omega⟩
    simp only [drawlotref01_Right.l0]
    rw [if_neg (by omega)]
    simp
  | d + 1, k, x, i, hk, hi, hd, h0, h1 => by
    obtain ⟨k, rfl⟩ : ∃ m, k = m + 1 := ⟨k - 1, by omega⟩
    simp only [drawlotref01_Right.l0]
    have e : Int.tdiv x 2 % 4294967296 = x / 2 := by rw [Int.tdiv_eq_ediv_of_nonneg h0]; omega
    rw [if_pos (by omega), w64_id (x := i + 1) (by omega) (by omega), e, r01right_loop n hn1 d k _ (i + 1) (by omega) (by omega) (by omega) (by omega) (by omega)]
    rw [Int.ediv_ediv_of_nonneg (by decide), Int.pow_succ, Int.mul_comm]
theorem r01right_ok {k : Nat} (hk : 33 < k) {x n : Int} (h0 : 0 ≤ x) (h1 : x < 4294967296) (hn0 : -9223372036854775808 ≤ n) (hn1 : n < 9223372036854775808) : drawlotref01_Right.f k x n = some (x / 2 ^ (min n.toNat 32)) := by
  unfold drawlotref01_Right.f
  by_cases h : n > 31
  · rw [if_pos h, Nat.min_eq_right (by omega), show (2 : Int) ^ 32 = 4294967296 from rfl, Int.ediv_eq_zero_of_lt h0 h1]
  · rw [if_neg h, Nat.min_eq_left (by omega)]
    by_cases hn : 0 ≤ n
    · exact r01right_loop n hn1 n.toNat k x 0 (by omega) (by omega) (by omega) h0 h1
    · obtain ⟨k, rfl⟩ : ∃ m, k = m + 1 := ⟨k - 1, by omega⟩
      simp only [drawlotref01_Right.l0]
      rw [if_neg (by omega), show n.toNat = 0 by omega]
      simp
theorem r01rotate_loop (x : Int) (h0 : 0 ≤ x) (h1 : x < 4294967296) (n : Nat) (hn : n < 32) : ∀ (d k i : Nat), d < k → n = i + d → drawlotref01_Rotate.l0 k (rotF x i) n i = some (rotF x n)
  | 0, k, i, hk, hd => by
    obtain ⟨k, rfl⟩ : ∃ m, k = m + 1 := ⟨k - 1, by omega⟩
    simp only [drawlotref01_Rotate.l0]
    rw [if_neg (by omega), show i = n by omega]
  | d + 1, k, i, hk, hd => by
    obtain ⟨k, rfl⟩ : ∃ m, k = m + 1 := ⟨k - 1, by omega⟩
    simp only [drawlotref01_Rotate.l0]
    obtain ⟨a0, a1⟩ := rotF_range h0 h1 (m := i) (by omega)
    obtain ⟨c0, c1⟩ := rotF_range h0 h1 (m := i + 1) (by omega)
    have e := rot_one (x := x) (m := i) (by omega)
    have e2 : (Int.tdiv (rotF x i) 2 % 4294967296 + Int.tmod (rotF x i) 2 * 2147483648 % 4294967296) % 4294967296 = rotF x (i + 1) := by
      rw [Int.tdiv_eq_ediv_of_nonneg a0, Int.tmod_eq_emod_of_nonneg a0]; omega
    rw [if_pos (by omega), e2, w64_id (by omega) (by omega)]
    exact r01rotate_loop x h0 h1 n hn d k (i + 1) (by omega) (by omega)
theorem r01rotate_ok {k : Nat} (hk : 40 < k) {x n : Int} (h0 : 0 ≤ x) (h1 : x < 4294967296) (_hn0 : -9223372036854775808 ≤ n) (_hn1 : n < 9223372036854775808) : drawlotref01_Rotate.f k x n = some (rotF x (n % 32).toNat) := by
  unfold drawlotref01_Rotate.f
  have hl : ∀ (m : Int), m = n % 32 → drawlotref01_Rotate.j0 k x m = some (rotF x (n % 32).toNat) := by
    rintro m rfl
    obtain ⟨k, rfl⟩ : ∃ m, k = m + 1 := ⟨k - 1, by omega⟩
    simp only [drawlotref01_Rotate.j0]
    have := r01rotate_loop x h0 h1 (n % 32).toNat (by omega) (n % 32).toNat k 0 (by omega) (by omega)
    rw [rotF_zero, show (((n % 32).toNat : Nat) : Int) = n % 32 by omega] at this
    exact this
  have ht := tmod32 n
  by_cases h : Int.tmod n 32 < 0
  · rw [if_pos h]
    refine hl _ ?_
    rw [w64_id (by omega) (by omega)]
    omega
  · rw [if_neg h]
    refine hl _ ?_
    omega
end Go.Proofs.YtkcdcbiobkcpmaaDoor.Lm
end
section
namespace Go.Proofs.YtkcdcbiobkcpmaaDoor.Lm
open Go.RowKit Go.Proofs.YtkcdcbiobkcpmaaDoor.PA Go.Proofs.YtkcdcbiobkcpmaaDoorW.PrintWords Go.Proofs.YtkcdcbiobkcpmaaDoorW.PrintLast Go.Proofs.YtkcdcbiobkcpmaaDoorW.PrintMore
theorem get32_step (k : Nat) (acc : Int) (l : List Int) (i : Nat) (hi : i < 4) (ha0 : 0 ≤ acc) (ha1 : acc < 256 ^ i) (hb : 0 ≤ Ar.get 4 l i ∧ Ar.get 4 l i < 256) : word_Get32.l0 (k + 1) acc l i = word_Get32.l0 k (acc * 256 + Ar.get 4 l i) l ((i + 1 : Nat) : Int) := by
  have e4 : wrap64 ((i : Int) + 1) = ((i + 1 : Nat) : Int) := by rw [w64_id (by omega) (by omega)]; omega
  have hlt : acc < 16777216 := by
    rcases (show i = 0 ∨ i = 1 ∨ i = 2 ∨ i = 3 by omega) with rfl | rfl | rfl | rfl <;> simp at ha1 <;> omega
  have e1 : acc * 256 % 4294967296 = acc * 256 := by omega
  have e2 : Ar.get 4 l i % 4294967296 = Ar.get 4 l i := by omega
  have e3 : bits .or .u32 (acc * 256) (Ar.get 4 l i) = acc * 256 + Ar.get 4 l i :=
    bits_join .u32 32 (by decide) wraps_u32 8 _ _ (by omega) (by show acc * 256 % 256 = 0; omega) (by have : (2 : Int) ^ 32 = 4294967296 := rfl; omega) hb.1 hb.2 (by have : (2 : Int) ^ 32 = 4294967296 := rfl; omega)
  rw [word_Get32.l0, if_pos (by omega), if_pos (by omega), e1, e2, e3, e4]
theorem get32_ok (k : Nat) (hk : 5 ≤ k) (b0 b1 b2 b3 : Int) (h : ∀ b ∈ [b0, b1, b2, b3], 0 ≤ b ∧ b < 256) : word_Get32.f k [b0, b1, b2, b3] = some (((b0 * 256 + b1) * 256 + b2) * 256 + b3) := by
  obtain ⟨k, rfl⟩ : ∃ m, k = m + 5 := ⟨k - 5, by omega⟩
  simp only [List.mem_cons, List.not_mem_nil, or_false, forall_eq_or_imp, forall_eq] at h
  obtain ⟨h0, h1, h2, h3⟩ := h
  unfold word_Get32.f
  have s := fun k acc i hi => get32_step k acc [b0, b1, b2, b3] i hi
  rw [show ((0 : Int)) = ((0 : Nat) : Int) from rfl]
  rw [s _ _ 0 (by decide) (by decide) (by decide) h0]
  have z : ((0 : Nat) : Int) * 256 + Ar.get 4 [b0, b1, b2, b3] (0 : Nat) = b0 := by show (0 : Int) * 256 + b0 = b0; omega
  rw [z]
  rw [s _ _ 1 (by decide) (by omega) (by show b0 < 256; omega) h1]
  show word_Get32.l0 _ (b0 * 256 + b1) _ _ = _
  rw [s _ _ 2 (by decide) (by omega) (by show _ < (65536 : Int); omega) h2]
  show word_Get32.l0 _ ((b0 * 256 + b1) * 256 + b2) _ _ = _
  rw [s _ _ 3 (by decide) (by omega) (by show _ < (16777216 : Int); omega) h3]
  show word_Get32.l0 _ (((b0 * 256 + b1) * 256 + b2) * 256 + b3) _ _ = _
  rw [word_Get32.l0, if_neg (by decide)]
end Go.Proofs.YtkcdcbiobkcpmaaDoor.Lm
end
section
namespace Go.Proofs.YtkcdcbiobkcpmaaDoor.Lm
open Go.RowKit Go.Proofs.YtkcdcbiobkcpmaaDoorW.PrintWords
theorem rd_getD (l : List Int) (j : Int) : rd l j = l.getD j.toNat 0 := rfl
theorem get_set {n : Nat} {l : List Int} {i j v : Int} (h0 : 0 ≤ i) (h1 : i < n) (hj : 0 ≤ j) : Ar.get n (Ar.set n l i v) j = if j = i then v else Ar.get n l j := by
  have hl : (Ar.fit n l).length = n := Ar.fit_len n l
  have e : Ar.fit n (Ar.set n l i v) = Ar.set n l i v := Ar.fit_id (by simp [Ar.set, Ar.fit_len])
  unfold Ar.get
  rw [e]
  unfold Ar.set
  rw [rd_getD, rd_getD, List.getD_eq_getElem?_getD, List.getD_eq_getElem?_getD]
  by_cases h : j = i
  · subst h
    rw [if_pos rfl, List.getElem?_set_self (by omega)]
    rfl
  · rw [if_neg h, List.getElem?_set_ne (by omega)]
theorem get_zero (n : Nat) (j : Int) : Ar.get n (List.replicate n 0) j = 0 := by
  unfold Ar.get
  rw [Ar.fit_id (by simp), rd_getD, List.getD_eq_getElem?_getD]
  by_cases h : j.toNat < n
  · rw [List.getElem?_replicate_of_lt h]; rfl
  · rw [List.getElem?_eq_none (by simp; omega)]; rfl
theorem eqb_self (n : Nat) (a : List Int) : Ar.eqb n a a = true := by unfold Ar.eqb; exact beq_self_eq_true _
theorem part4 {m o : Nat} (l : List Int) (h : o + 4 ≤ m) : Ar.part m l o 4 = [Ar.get m l o, Ar.get m l (o + 1), Ar.get m l (o + 2), Ar.get m l (o + 3)] := by
  have hl : (Ar.fit m l).length = m := Ar.fit_len m l
  unfold Ar.part Ar.get
  rw [drop_step (n := o) (by omega), drop_step (n := o + 1) (by omega), drop_step (n := o + 2) (by omega), drop_step (n := o + 3) (by omega)]
  simp only [List.take_succ_cons, List.take_zero]
  rfl
def InR (n : Nat) (b : Int) (l : List Int) : Prop := ∀ j, 0 ≤ Ar.get n l j ∧ Ar.get n l j < b
theorem get_neg {n : Nat} (l : List Int) {j : Int} (h : j ≤ 0) : Ar.get n l j = Ar.get n l 0 := by
  unfold Ar.get
  rw [rd_getD, rd_getD, show j.toNat = (0 : Int).toNat by omega]
theorem InR.zero (n : Nat) {b : Int} (hb : 0 < b) : InR n b (List.replicate n 0) := fun j => by rw [get_zero]; omega
theorem InR.of_mem {n : Nat} {b : Int} {l : List Int} (hb : 0 < b) (hl : l.length = n) (h : ∀ x ∈ l, 0 ≤ x ∧ x < b) : InR n b l := fun j => by
  unfold Ar.get
  rw [Ar.fit_id hl, rd_getD, List.getD_eq_getElem?_getD]
  by_cases hj : j.toNat < l.length
  · rw [List.getElem?_eq_getElem hj]; exact h _ (List.getElem_mem hj)
  · rw [List.getElem?_eq_none (by omega)]; exact ⟨Int.le_refl _, hb⟩
theorem InR.set {n : Nat} {b : Int} {l : List Int} {i v : Int} (h : InR n b l) (h0 : 0 ≤ i) (h1 : i < n) (hv : 0 ≤ v ∧ v < b) : InR n b (Ar.set n l i v) := fun j => by
  by_cases hj : 0 ≤ j
  · rw [get_set h0 h1 hj]
    split
    · exact hv
    · exact h j
  · rw [get_neg _ (by omega), get_set h0 h1 (by omega)]
    split
    · exact hv
    · exact h 0
theorem get_putAll {n : Nat} : ∀ (vs l : List Int) (o : Nat) (j : Int), 0 ≤ j → o + vs.length ≤ n → Ar.get n (Ar.putAll n l o vs) j = if (o : Int) ≤ j ∧ j < o + vs.length then rd vs (j - o) else Ar.get n l j
  | [], l, o, j, _, _ => by
    rw [if_neg (by simp only [List.length_nil]; omega)]
    rfl
  | v :: r, l, o, j, hj, hn => by
    simp only [List.length_cons] at hn ⊢
    rw [Ar.putAll, get_putAll r _ (o + 1) j hj (by omega), get_set (by omega) (by omega) hj]
    by_cases h1 : ((o + 1 : Nat) : Int) ≤ j ∧ j < ((o + 1 : Nat) : Int) + (r.length : Int)
    · rw [if_pos h1, if_pos (by omega)]
      rw [rd_getD, rd_getD, show (j - (o : Int)).toNat = (j - ((o + 1 : Nat) : Int)).toNat + 1 by omega]
      rfl
    · rw [if_neg h1]
      by_cases h2 : j = o
      · subst h2
        rw [if_pos rfl, if_pos (by omega), rd_getD, show ((o : Int) - (o : Int)).toNat = 0 by omega]
        rfl
      · rw [if_neg h2, if_neg (by omega)]
theorem InR.putAll {n : Nat} {b : Int} {l vs : List Int} {o : Nat} (h : InR n b l) (hn : o + vs.length ≤ n) (hv : ∀ x ∈ vs, 0 ≤ x ∧ x < b) : InR n b (Ar.putAll n l o vs) := by
  have key : ∀ j : Int, 0 ≤ j → 0 ≤ Ar.get n (Ar.putAll n l o vs) j ∧ Ar.get n (Ar.putAll n l o vs) j < b := fun j hj => by
    rw [get_putAll vs l o j hj hn]
    split
    · rename_i hc
      obtain ⟨hlt, e⟩ := rd_lt (l := vs) (i := j - o) (by omega) (by omega)
      rw [e]
      exact hv _ (List.getElem_mem _)
    · exact h j
  intro j
  by_cases hj : 0 ≤ j
  · exact key j hj
  · rw [get_neg _ (by omega)]; exact key 0 (by omega)
end Go.Proofs.YtkcdcbiobkcpmaaDoor.Lm
end
section
namespace Go.Proofs.YtkcdcbiobkcpmaaDoor.Lm
open Go.RowKit Go.Proofs.YtkcdcbiobkcpmaaDoor.PA Go.Proofs.YtkcdcbiobkcpmaaDoorW.PrintWords Go.Proofs.YtkcdcbiobkcpmaaDoorW.PrintLast Go.Proofs.YtkcdcbiobkcpmaaDoorW.PrintMore
def sig (x : Int) (a b c : Nat) : Int := Go.bits .xor .u32 (Go.bits .xor .u32 (rotF x a) (rotF x b)) (x / 2 ^ c)
theorem bits_range (op : BinOp) (x y : Int) : 0 ≤ Go.bits op .u32 x y ∧ Go.bits op .u32 x y < 4294967296 := by
  unfold Go.bits
  simp only [u32w]
  omega
theorem First_ok {x : Int} (h0 : 0 ≤ x) (h1 : x < 4294967296) : plan_First.f x = some (sig x 7 18 3) := by
  unfold plan_First.f plan_mix.f
  rw [rotate_ok h0 h1, bs, rotate_ok h0 h1, bs, right_ok (by omega) (by omega), bs, bs]
  rfl
theorem Second_ok {x : Int} (h0 : 0 ≤ x) (h1 : x < 4294967296) : plan_Second.f x = some (sig x 17 19 10) := by
  unfold plan_Second.f plan_mix.f
  rw [rotate_ok h0 h1, bs, rotate_ok h0 h1, bs, right_ok (by omega) (by omega), bs, bs]
  rfl
def word4 (b : List Int) (i : Int) : Int := ((Ar.get 64 b (4 * i) * 256 + Ar.get 64 b (4 * i + 1)) * 256 + Ar.get 64 b (4 * i + 2)) * 256 + Ar.get 64 b (4 * i + 3)
theorem word4_range {b : List Int} (hb : InR 64 256 b) (i : Int) : 0 ≤ word4 b i ∧ word4 b i < 4294967296 := by
  have h0 := hb (4 * i); have h1 := hb (4 * i + 1); have h2 := hb (4 * i + 2); have h3 := hb (4 * i + 3)
  unfold word4
  omega
def next (w : List Int) (i : Int) : Int := (((sig (Ar.get 64 w (i - 2)) 17 19 10 + Ar.get 64 w (i - 7)) % 4294967296 + sig (Ar.get 64 w (i - 15)) 7 18 3) % 4294967296 + Ar.get 64 w (i - 16)) % 4294967296
def Good (b w : List Int) (j : Int) : Prop := (j < 16 → Ar.get 64 w j = word4 b j) ∧ (16 ≤ j → Ar.get 64 w j = next w j)
theorem next_keep {w : List Int} {i j v : Int} (h0 : 0 ≤ i) (h1 : i < 64) (hj : 16 ≤ j) (hji : j ≤ i) : next (Ar.set 64 w i v) j = next w j := by
  unfold next
  rw [get_set h0 h1 (by omega), get_set h0 h1 (by omega), get_set h0 h1 (by omega), get_set h0 h1 (by omega), if_neg (by omega), if_neg (by omega), if_neg (by omega), if_neg (by omega)]
theorem Good.keep {b w : List Int} {i j v : Int} (h0 : 0 ≤ i) (h1 : i < 64) (hj : 0 ≤ j) (hji : j < i) (h : Good b w j) : Good b (Ar.set 64 w i v) j := by
  refine ⟨fun hc => ?_, fun hc => ?_⟩
  · rw [get_set h0 h1 hj, if_neg (by omega)]; exact h.1 hc
  · rw [get_set h0 h1 hj, if_neg (by omega), next_keep h0 h1 hc (by omega)]; exact h.2 hc
theorem of_loop (b : List Int) (hb : InR 64 256 b) : ∀ (d k i : Nat) (w : List Int), i + d = 64 → d + 10 ≤ k → InR 64 4294967296 w → (∀ j : Int, 0 ≤ j → j < i → Good b w j) →
    ∃ w', plan_Of.l0 k i b w = some w' ∧ InR 64 4294967296 w' ∧ ∀ j : Int, 0 ≤ j → j < 64 → Good b w' j
  | 0, k, i, w, hi, hk, hw, hg => by
    obtain ⟨k, rfl⟩ : ∃ m, k = m + 1 := ⟨k - 1, by omega⟩
    refine ⟨w, ?_, hw, fun j h0 h1 => hg j h0 (by omega)⟩
    simp only [plan_Of.l0]
    rw [if_neg (by omega)]
  | d + 1, k, i, w, hi, hk, hw, hg => by
    obtain ⟨k, rfl⟩ : ∃ m, k = m + 1 := ⟨k - 1, by omega⟩
    have e4 : wrap64 (4 * (i : Int)) = 4 * i := w64_id (by omega) (by omega)
    have e1 : wrap64 ((i : Int) + 1) = ((i + 1 : Nat) : Int) := by rw [w64_id (by omega) (by omega)]; omega
    by_cases hc : i < 16
    · have e44 : wrap64 (4 * (i : Int) + 4) = 4 * i + 4 := w64_id (by omega) (by omega)
      have hp : Ar.part 64 b (4 * (i : Int)).toNat 4 = [Ar.get 64 b (4 * (i : Int)), Ar.get 64 b (4 * (i : Int) + 1), Ar.get 64 b (4 * (i : Int) + 2), Ar.get 64 b (4 * (i : Int) + 3)] := by
        rw [part4 b (o := (4 * (i : Int)).toNat) (by omega), show ((4 * (i : Int)).toNat : Int) = 4 * i by omega]
      have h32 : word_Get32.f k (Ar.part 64 b (4 * (i : Int)).toNat 4) = some (word4 b i) := by
        rw [hp, get32_ok k (by omega) _ _ _ _ (by simp only [List.mem_cons, List.not_mem_nil, or_false, forall_eq_or_imp, forall_eq]; exact ⟨hb _, hb _, hb _, hb _⟩)]
        rfl
      obtain ⟨w', h', hr, hg'⟩ := of_loop b hb d k (i + 1) (Ar.set 64 w i (word4 b i)) (by omega) (by omega) (hw.set (by omega) (by omega) (word4_range hb i)) (fun j h0 h1 => by
        by_cases hji : j = i
        · subst hji
          refine ⟨fun _ => ?_, fun h => by omega⟩
          rw [get_set (by omega) (by omega) (by omega), if_pos rfl]
        · exact (hg j h0 (by omega)).keep (by omega) (by omega) h0 (by omega))
      refine ⟨w', ?_, hr, hg'⟩
      simp only [plan_Of.l0]
      rw [if_pos (by omega), e4, if_pos (by omega), if_pos (by omega), e44, if_pos (by omega), if_pos (by omega), if_pos (by omega), h32, bs, if_pos (by omega), e1]
      exact h'
    · have e2 : wrap64 ((i : Int) - 2) = i - 2 := w64_id (by omega) (by omega)
      have e7 : wrap64 ((i : Int) - 7) = i - 7 := w64_id (by omega) (by omega)
      have e15 : wrap64 ((i : Int) - 15) = i - 15 := w64_id (by omega) (by omega)
      have e16 : wrap64 ((i : Int) - 16) = i - 16 := w64_id (by omega) (by omega)
      have hn : 0 ≤ next w i ∧ next w i < 4294967296 := by unfold next; omega
      obtain ⟨w', h', hr, hg'⟩ := of_loop b hb d k (i + 1) (Ar.set 64 w i (next w i)) (by omega) (by omega) (hw.set (by omega) (by omega) hn) (fun j h0 h1 => by
        by_cases hji : j = i
        · subst hji
          refine ⟨fun h => by omega, fun _ => ?_⟩
          rw [get_set (by omega) (by omega) (by omega), if_pos rfl, next_keep (by omega) (by omega) (by omega) (by omega)]
        · exact (hg j h0 (by omega)).keep (by omega) (by omega) h0 (by omega))
      refine ⟨w', ?_, hr, hg'⟩
      simp only [plan_Of.l0]
      rw [if_pos (by omega), e4, if_neg (by omega), e2, if_pos (by omega), if_pos (by omega), Second_ok (hw _).1 (hw _).2, bs, e7, if_pos (by omega), if_pos (by omega), e15, if_pos (by omega), if_pos (by omega), First_ok (hw _).1 (hw _).2, bs, e16, if_pos (by omega), if_pos (by omega), if_pos (by omega), e1]
      exact h'
theorem Of_ok {b : List Int} (hb : InR 64 256 b) {k : Nat} (hk : 80 ≤ k) : ∃ w, plan_Of.f k b = some w ∧ InR 64 4294967296 w ∧ ∀ j : Int, 0 ≤ j → j < 64 → Good b w j := by
  unfold plan_Of.f
  exact of_loop b hb 64 k 0 _ (by omega) (by omega) (InR.zero 64 (by decide)) (fun j h0 h1 => by omega)
end Go.Proofs.YtkcdcbiobkcpmaaDoor.Lm
end
section
namespace Go.Proofs.YtkcdcbiobkcpmaaDoor.Lm
open Go.RowKit Go.Proofs.YtkcdcbiobkcpmaaDoor.PA Go.Proofs.YtkcdcbiobkcpmaaDoorW.PrintWords Go.Proofs.YtkcdcbiobkcpmaaDoorW.PrintLast Go.Proofs.YtkcdcbiobkcpmaaDoorW.PrintMore
theorem bv_wrap (z : BitVec IntKind.u32.bits) : BitVec.ofInt IntKind.u32.bits (IntKind.u32.wrap (z.toNat : Int)) = z := by
  have h : (z.toNat : Int) < 4294967296 := by have := z.isLt; have e : 2 ^ IntKind.u32.bits = 4294967296 := rfl; omega
  rw [u32w, Int.emod_eq_of_lt (by omega) h, BitVec.ofInt_natCast, BitVec.ofNat_toNat, BitVec.setWidth_eq]
theorem bv_and (x y : Int) : BitVec.ofInt IntKind.u32.bits (Go.bits .and .u32 x y) = BitVec.ofInt IntKind.u32.bits x &&& BitVec.ofInt IntKind.u32.bits y := bv_wrap _
theorem bv_or (x y : Int) : BitVec.ofInt IntKind.u32.bits (Go.bits .or .u32 x y) = BitVec.ofInt IntKind.u32.bits x ||| BitVec.ofInt IntKind.u32.bits y := bv_wrap _
theorem bv_xor (x y : Int) : BitVec.ofInt IntKind.u32.bits (Go.bits .xor .u32 x y) = BitVec.ofInt IntKind.u32.bits x ^^^ BitVec.ofInt IntKind.u32.bits y := bv_wrap _
theorem xor_or {x y : Int} (h : BitVec.ofInt IntKind.u32.bits x ^^^ BitVec.ofInt IntKind.u32.bits y = BitVec.ofInt IntKind.u32.bits x ||| BitVec.ofInt IntKind.u32.bits y) : Go.bits .xor .u32 x y = Go.bits .or .u32 x y := by
  unfold Go.bits
  simp only [h]
theorem not_sub {e : Int} (h0 : 0 ≤ e) (h1 : e < 4294967296) : Go.bits .xor .u32 4294967295 e = (4294967295 - e) % 4294967296 := by
  have ha : BitVec.ofInt IntKind.u32.bits 4294967295 = BitVec.allOnes IntKind.u32.bits := by decide
  unfold Go.bits
  simp only [ha, BitVec.allOnes_xor, BitVec.toNat_not, u32w]
  have e2 : (BitVec.ofInt IntKind.u32.bits e).toNat = e.toNat := by
    rw [BitVec.toNat_ofInt]
    have : ((2 ^ IntKind.u32.bits : Nat) : Int) = 4294967296 := rfl
    rw [this, Int.emod_eq_of_lt h0 h1]
  rw [e2]
  have e3 : 2 ^ IntKind.u32.bits = 4294967296 := rfl
  omega
def rot3 (x : Int) (a b c : Nat) : Int := Go.bits .xor .u32 (Go.bits .xor .u32 (rotF x a) (rotF x b)) (rotF x c)
def chF (e f g : Int) : Int := Go.bits .or .u32 (Go.bits .and .u32 e f) (Go.bits .and .u32 ((4294967295 - e) % 4294967296) g)
def majF (a b c : Int) : Int := Go.bits .or .u32 (Go.bits .or .u32 (Go.bits .and .u32 a b) (Go.bits .and .u32 a c)) (Go.bits .and .u32 b c)
theorem ch_eq {e f g : Int} (h0 : 0 ≤ e) (h1 : e < 4294967296) : Go.bits .xor .u32 (Go.bits .and .u32 e f) (Go.bits .and .u32 (Go.bits .xor .u32 4294967295 e) g) = chF e f g := by
  unfold chF
  rw [← not_sub h0 h1]
  refine xor_or ?_
  simp only [bv_and, bv_xor]
  have ha : BitVec.ofInt IntKind.u32.bits 4294967295 = BitVec.allOnes IntKind.u32.bits := by decide
  rw [ha, BitVec.allOnes_xor]
  refine BitVec.eq_of_getLsbD_eq fun i hi => ?_
  simp only [BitVec.getLsbD_xor, BitVec.getLsbD_or, BitVec.getLsbD_and, BitVec.getLsbD_not, hi, decide_true, Bool.true_and]
  cases (BitVec.ofInt IntKind.u32.bits e).getLsbD i <;> cases (BitVec.ofInt IntKind.u32.bits f).getLsbD i <;> cases (BitVec.ofInt IntKind.u32.bits g).getLsbD i <;> rfl
theorem maj_eq (a b c : Int) : Go.bits .xor .u32 (Go.bits .xor .u32 (Go.bits .and .u32 a b) (Go.bits .and .u32 a c)) (Go.bits .and .u32 b c) = majF a b c := by
  have h : BitVec.ofInt IntKind.u32.bits (Go.bits .xor .u32 (Go.bits .xor .u32 (Go.bits .and .u32 a b) (Go.bits .and .u32 a c)) (Go.bits .and .u32 b c)) = BitVec.ofInt IntKind.u32.bits (majF a b c) := by
    unfold majF
    simp only [bv_and, bv_xor, bv_or]
    refine BitVec.eq_of_getLsbD_eq fun i hi => ?_
    simp only [BitVec.getLsbD_xor, BitVec.getLsbD_or, BitVec.getLsbD_and]
    cases (BitVec.ofInt IntKind.u32.bits a).getLsbD i <;> cases (BitVec.ofInt IntKind.u32.bits b).getLsbD i <;> cases (BitVec.ofInt IntKind.u32.bits c).getLsbD i <;> rfl
  have h2 := congrArg BitVec.toNat h
  rw [BitVec.toNat_ofInt, BitVec.toNat_ofInt] at h2
  have e3 : ((2 ^ IntKind.u32.bits : Nat) : Int) = 4294967296 := rfl
  rw [e3] at h2
  have r1 := bits_range .xor (Go.bits .xor .u32 (Go.bits .and .u32 a b) (Go.bits .and .u32 a c)) (Go.bits .and .u32 b c)
  have r2 : 0 ≤ majF a b c ∧ majF a b c < 4294967296 := bits_range _ _ _
  rw [Int.emod_eq_of_lt r1.1 r1.2, Int.emod_eq_of_lt r2.1 r2.2] at h2
  omega
def lowF (e f g : Int) : Int := (rot3 e 6 11 25 + chF e f g) % 4294967296
def highF (a b c : Int) : Int := (rot3 a 2 13 22 + majF a b c) % 4294967296
theorem mix_ok {x : Int} (h0 : 0 ≤ x) (h1 : x < 4294967296) (a b c : Nat) (ha : a < 32) (hb : b < 32) (hc : c < 32) : comp_mix.f x a b c = some (rot3 x a b c) := by
  unfold comp_mix.f
  rw [rotate_ok h0 h1, bs, rotate_ok h0 h1, bs, rotate_ok h0 h1, bs, show ((a : Int) % 32).toNat = a by omega, show ((b : Int) % 32).toNat = b by omega, show ((c : Int) % 32).toNat = c by omega]
  rfl
theorem low_ok {e f g : Int} (h0 : 0 ≤ e) (h1 : e < 4294967296) : comp_low.f e f g = some (lowF e f g) := by
  unfold comp_low.f
  have := mix_ok h0 h1 6 11 25 (by decide) (by decide) (by decide)
  rw [show comp_mix.f e 6 11 25 = some (rot3 e 6 11 25) from this, bs, ch_eq h0 h1]
  rfl
theorem high_ok {a b c : Int} (h0 : 0 ≤ a) (h1 : a < 4294967296) : comp_high.f a b c = some (highF a b c) := by
  unfold comp_high.f
  have := mix_ok h0 h1 2 13 22 (by decide) (by decide) (by decide)
  rw [show comp_mix.f a 2 13 22 = some (rot3 a 2 13 22) from this, bs, maj_eq]
  rfl
theorem part7 (l : List Int) (o : Nat) (h : o + 7 ≤ 8) : Ar.part 8 l o 7 = [Ar.get 8 l o, Ar.get 8 l (o + 1 : Nat), Ar.get 8 l (o + 2 : Nat), Ar.get 8 l (o + 3 : Nat), Ar.get 8 l (o + 4 : Nat), Ar.get 8 l (o + 5 : Nat), Ar.get 8 l (o + 6 : Nat)] := by
  have hl : (Ar.fit 8 l).length = 8 := Ar.fit_len 8 l
  unfold Ar.part Ar.get
  rw [drop_step (n := o) (by omega), drop_step (n := o + 1) (by omega), drop_step (n := o + 1 + 1) (by omega), drop_step (n := o + 1 + 1 + 1) (by omega), drop_step (n := o + 1 + 1 + 1 + 1) (by omega), drop_step (n := o + 1 + 1 + 1 + 1 + 1) (by omega), drop_step (n := o + 1 + 1 + 1 + 1 + 1 + 1) (by omega)]
  simp only [List.take_succ_cons, List.take_zero]
theorem part7_0 (l : List Int) : Ar.part 8 l 0 7 = [Ar.get 8 l 0, Ar.get 8 l 1, Ar.get 8 l 2, Ar.get 8 l 3, Ar.get 8 l 4, Ar.get 8 l 5, Ar.get 8 l 6] := by
  have h := part7 l 0 (by omega)
  simpa only [Nat.zero_add, Int.cast_ofNat_Int] using h
theorem lay1 (a b c d e f g : Int) : Ar.putAll 8 (List.replicate 8 0) 1 [a, b, c, d, e, f, g] = [0, a, b, c, d, e, f, g] := by simp [Ar.putAll, Ar.set, Ar.fit, List.replicate]
theorem set0 (x a b c d e f g h : Int) : Ar.set 8 [a, b, c, d, e, f, g, h] 0 x = [x, b, c, d, e, f, g, h] := rfl
theorem set4 (x a b c d e f g h : Int) : Ar.set 8 [a, b, c, d, e, f, g, h] 4 x = [a, b, c, d, x, f, g, h] := rfl
theorem get8_4 (a b c d e f g h : Int) : Ar.get 8 [a, b, c, d, e, f, g, h] 4 = e := rfl
def tee (s : List Int) (w k : Int) : Int := (((Ar.get 8 s 7 + lowF (Ar.get 8 s 4) (Ar.get 8 s 5) (Ar.get 8 s 6)) % 4294967296 + k) % 4294967296 + w) % 4294967296
def rnd (s : List Int) (w k : Int) : List Int := [(tee s w k + highF (Ar.get 8 s 0) (Ar.get 8 s 1) (Ar.get 8 s 2)) % 4294967296, Ar.get 8 s 0, Ar.get 8 s 1, Ar.get 8 s 2, (Ar.get 8 s 3 + tee s w k) % 4294967296, Ar.get 8 s 4, Ar.get 8 s 5, Ar.get 8 s 6]
def off (s : List Int) : Int := (Ar.get 8 s 0 - highF (Ar.get 8 s 1) (Ar.get 8 s 2) (Ar.get 8 s 3)) % 4294967296
theorem Round_ok {s : List Int} (hs : InR 8 4294967296 s) (w k : Int) : comp_Round.f s w k = some (rnd s w k) := by
  unfold comp_Round.f
  rw [low_ok (hs 4).1 (hs 4).2, bs, high_ok (hs 0).1 (hs 0).2, bs, bs, part7_0, lay1, set0, get8_4, set4]
  rfl
theorem InR.lit {a b c d e f g h : Int} (H : ∀ x ∈ [a, b, c, d, e, f, g, h], 0 ≤ x ∧ x < 4294967296) : InR 8 4294967296 [a, b, c, d, e, f, g, h] := InR.of_mem (by decide) rfl H
theorem rnd_in {s : List Int} (hs : InR 8 4294967296 s) (w k : Int) : InR 8 4294967296 (rnd s w k) := by
  refine InR.lit ?_
  simp only [List.mem_cons, List.not_mem_nil, or_false, forall_eq_or_imp, forall_eq]
  exact ⟨by omega, hs 0, hs 1, hs 2, by omega, hs 4, hs 5, hs 6⟩
end Go.Proofs.YtkcdcbiobkcpmaaDoor.Lm
end
section
namespace Go.Proofs.YtkcdcbiobkcpmaaDoor.Lm
open Go.RowKit Go.Proofs.YtkcdcbiobkcpmaaDoor.PA Go.Proofs.YtkcdcbiobkcpmaaDoorW.PrintWords Go.Proofs.YtkcdcbiobkcpmaaDoorW.PrintLast Go.Proofs.YtkcdcbiobkcpmaaDoorW.PrintMore
theorem r01get32_step (k : Nat) (acc : Int) (l : List Int) (i : Nat) (hi : i < 4) (ha0 : 0 ≤ acc) (ha1 : acc < 256 ^ i) (hb : 0 ≤ Ar.get 4 l i ∧ Ar.get 4 l i < 256) : drawlotref01_Get32.l0 (k + 1) acc i l = drawlotref01_Get32.l0 k (acc * 256 + Ar.get 4 l i) ((i + 1 : Nat) : Int) l := by
  have e4 : wrap64 ((i : Int) + 1) = ((i + 1 : Nat) : Int) := by rw [w64_id (by omega) (by omega)]; omega
  have hlt : acc < 16777216 := by
    rcases (show i = 0 ∨ i = 1 ∨ i = 2 ∨ i = 3 by omega) with rfl | rfl | rfl | rfl <;> simp at ha1 <;> omega
  have e1 : (acc * 256 % 4294967296 + Ar.get 4 l i % 4294967296) % 4294967296 = acc * 256 + Ar.get 4 l i := by omega
  rw [drawlotref01_Get32.l0, if_pos (by omega), if_pos (by omega), e1, e4]
theorem r01get32_ok (k : Nat) (hk : 5 ≤ k) (b0 b1 b2 b3 : Int) (h : ∀ b ∈ [b0, b1, b2, b3], 0 ≤ b ∧ b < 256) : drawlotref01_Get32.f k [b0, b1, b2, b3] = some (((b0 * 256 + b1) * 256 + b2) * 256 + b3) := by
  obtain ⟨k, rfl⟩ : ∃ m, k = m + 5 := ⟨k - 5, by omega⟩
  simp only [List.mem_cons, List.not_mem_nil, or_false, forall_eq_or_imp, forall_eq] at h
  obtain ⟨h0, h1, h2, h3⟩ := h
  unfold drawlotref01_Get32.f
  have s := fun k acc i hi => r01get32_step k acc [b0, b1, b2, b3] i hi
  have hz := s (k + 4) 0 0 (by decide) (by decide) (by decide) h0
  have z : (0 : Int) * 256 + Ar.get 4 [b0, b1, b2, b3] (0 : Nat) = b0 := by show (0 : Int) * 256 + b0 = b0; omega
  rw [z] at hz
  refine Eq.trans hz ?_
  rw [s _ _ 1 (by decide) (by omega) (by show b0 < 256; omega) h1]
  show drawlotref01_Get32.l0 _ (b0 * 256 + b1) _ _ = _
  rw [s _ _ 2 (by decide) (by omega) (by show _ < (65536 : Int); omega) h2]
  show drawlotref01_Get32.l0 _ ((b0 * 256 + b1) * 256 + b2) _ _ = _
  rw [s _ _ 3 (by decide) (by omega) (by show _ < (16777216 : Int); omega) h3]
  show drawlotref01_Get32.l0 _ (((b0 * 256 + b1) * 256 + b2) * 256 + b3) _ _ = _
  rw [drawlotref01_Get32.l0, if_neg (by decide)]
end Go.Proofs.YtkcdcbiobkcpmaaDoor.Lm
end
