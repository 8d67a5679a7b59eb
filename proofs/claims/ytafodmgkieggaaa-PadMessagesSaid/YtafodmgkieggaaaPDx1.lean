/- Written by xprint.py, this session's own driver, for the seat Ytafodmgkieggaaa: contracts of Go functions, each saying that a call answers what a plain Lean function of the same name says, and, in a text named Law, the row of a law: its Go function answers true for every input. No conditions. -/
import Derived.Test.YtafodmgkieggaaaPDx0
namespace Go.Proofs.Ytafodmgkieggaaa.PD
open Go.RowKit Go.Proofs.YtafodmgkieggaaaW.PrintWords Go.Proofs.YtafodmgkieggaaaW.PrintLast Go.Proofs.YtafodmgkieggaaaW.PrintMore
attribute [local go_sem] max2_int min2_int max_two min_two max_three min_three max_four min_four   -- for this text's walks alone
set_option linter.unusedVariables false
set_option linter.unusedSimpArgs false

/-! ### pad_Blocks: function 10 -/
def pad_Blocks.f (a0 : Int) : Option (Int) := if a0 ≥ 2305843009213693952 then (some 0) else (some (IntKind.u64.wrap (Int.tdiv (IntKind.u64.wrap ((IntKind.u64.wrap (a0 + 8)) + 64)) 64)))
set_option maxHeartbeats 8000000 in
set_option maxRecDepth 100000 in
theorem pad_Blocks.calls (a0 : Int) (r : Int) (w : World) (h : pad_Blocks.f a0 = some r) :
    Calls Try.prog 10 #[.int .u64 a0] w fun e w' => e = .returned (.int .u64 r) ∧ Drawn0 w w' := by
  have H : (if a0 ≥ 2305843009213693952 then (some 0) else (some (IntKind.u64.wrap (Int.tdiv (IntKind.u64.wrap ((IntKind.u64.wrap (a0 + 8)) + 64)) 64)))) = some r := h
  clear h
  by_cases c2 : a0 ≥ 2305843009213693952
  · rw [if_pos c2] at H
    have c2b0 : decide (2305843009213693952 ≤ a0) = true := decide_eq_true c2
    clear c2
    obtain rfl := Option.some.inj H
    go_enter Try.func10, Try.ntmps10
    go_wp2
    go_ret
    exact ⟨by first | rfl | (simp; done) | (simp [*]; done), by repeat (first | exact Drawn0.refl _ | apply Drawn0.step)⟩
  · rw [if_neg c2] at H
    have c2b0 : decide (2305843009213693952 ≤ a0) = false := decide_eq_false c2
    clear c2
    obtain rfl := Option.some.inj H
    go_enter Try.func10, Try.ntmps10
    go_wp2
    go_ret
    exact ⟨by first | rfl | (simp; done) | (simp [*]; done), by repeat (first | exact Drawn0.refl _ | apply Drawn0.step)⟩

/-! ### word_Put64: function 17 -/
def word_Put64.l0 : Nat → Int → Int → List Int → Option (List Int)
 | 0, _, _, _ => none
 | k + 1, x0, x4, x102000 => if x4 < 8 then (if 0 ≤ (IntKind.u64.wrap (wrap64 (8 * (wrap64 (7 - x4))))) then (if 0 ≤ x4 then (word_Put64.l0 k x0 (wrap64 (x4 + 1)) (Ar.set 8 x102000 x4 ((shr .u64 x0 (IntKind.u64.wrap (wrap64 (8 * (wrap64 (7 - x4)))))) % 256))) else (none)) else (none)) else (some x102000)
def word_Put64.f (k : Nat) (a0 : Int) : Option (List Int) := word_Put64.l0 k a0 0 (List.replicate 8 0)
theorem word_Put64.mono_l : ∀ k, (∀ y0 y1 y2, LeO (word_Put64.l0 k y0 y1 y2) (word_Put64.l0 (k + 1) y0 y1 y2))
 | 0 => fun _ _ _ r h => by simp [word_Put64.l0] at h
 | k + 1 => by
  have ih0 := word_Put64.mono_l k
  ·intro y0 y1 y2
   unfold word_Put64.l0
   repeat' first
   | (with_reducible exact ih0 _ _ _)
   | (with_reducible exact LeO.refl _)
   | (with_reducible exact LeO.none _)
   | (with_reducible refine LeO.ite ?_ ?_)
   | (with_reducible refine LeO.bind ?_ (fun _ => ?_))
   | exact ih0 _ _ _
   | exact LeO.none _
   | refine LeO.ite ?_ ?_
   | refine LeO.bind ?_ (fun _ => ?_)
theorem word_Put64.mono : ∀ a0 k, LeO (word_Put64.f k a0) (word_Put64.f (k + 1) a0) := by
 intro a0 k
 have ih0 := word_Put64.mono_l k
 unfold word_Put64.f
 repeat' first
   | (with_reducible exact ih0 _ _ _)
   | (with_reducible exact LeO.refl _)
   | (with_reducible exact LeO.none _)
   | (with_reducible refine LeO.ite ?_ ?_)
   | (with_reducible refine LeO.bind ?_ (fun _ => ?_))
   | exact ih0 _ _ _
   | exact LeO.none _
   | refine LeO.ite ?_ ?_
   | refine LeO.bind ?_ (fun _ => ?_)
set_option maxHeartbeats 8000000 in
set_option maxRecDepth 100000 in
theorem word_Put64.calls (k : Nat) (a0 : Int) (r : List Int) (w : World) (h : word_Put64.f k a0 = some r) :
  Calls Try.prog 17 #[.int .u64 a0] w fun e w' => e = .returned (.agg (Ar.cells .u8 8 r)) ∧ Below w.heap.size w w' := by
 have HB := Aside0.mk (Below.refl w.heap.size w)
 have H : (word_Put64.l0 k a0 0 (List.replicate 8 0)) = some r := h
 clear h
 have H' := Aside0.mk H
 clear H
 go_enter Try.func17, Try.ntmps17
 go_wp2_with (first | ((with_reducible refine gate_dst (N := 2) rfl ?_); (try (refine gate_guard (by rfl) ?_; dsimp only)); refine box_event ?hg (N := 2) ?hd (cs := (Ar.cells .u8 8 (List.replicate 8 0))) (t := 37) ?hr ?_; (case hd => rfl); (case hg => rfl); (case hr => first | exact Ar.box_run rfl rfl | exact Ar.alloc_run rfl (by kernel_rfl) | (go_simp; done) | (go_simp; rfl)); intro gb101 hg w2 hbox hb; have n0_ := Aside0.mk (below_step (by repeat (first | (with_reducible first | exact HB.out | apply below_alloc | apply pw_below_drewN | apply below_drew1) | exact HB.out)) hb); have n1_ := Aside0.mk (hbox); have n2_ := Aside0.mk ((by rw [hg]; exact (below_size (by repeat (first | (with_reducible first | exact HB.out | apply below_alloc | apply pw_below_drewN | apply below_drew1) | exact HB.out))) : w.heap.size ≤ gb101)); have n3_ := Aside0.mk ((by rw [hg]; exact (below_size (by repeat (first | (with_reducible first | exact HB.out | apply below_alloc | apply pw_below_drewN | apply below_drew1) | exact HB.out))) : w.heap.size ≤ gb101)); clear HB; have HB := n0_; have BK101 := n1_; have GW101 := n2_; have GE101 := n3_; clear n0_ n1_ n2_ n3_; clear hb hbox hg))
 go_loopg [4] k (fun kq v4 w' => ∃ (x4_1 : Int) (x102000_1 : List Int), v4 = .int .i64 x4_1 ∧ Aside0 (word_Put64.l0 kq a0 x4_1 x102000_1 = some r) ∧ Aside0 (kq ≤ k) ∧ Aside0 (w'.heap[gb101]? = some (.cells (Ar.cells .u8 8 x102000_1) 37 (0, 0))) ∧ Aside0 (Below w.heap.size w w'))
 case atStart => exact ⟨(0), ((List.replicate 8 0)), (by first | rfl | (simp; done) | (simp [*]; done)), H', ⟨Nat.le_refl _⟩, ⟨by (with_reducible repeat (first | refine blk_drewN ?_ _ | refine blk_drew ?_ | refine blk_alloc ?_ _)); exact BK101.out⟩, ⟨by repeat (first | (with_reducible first | exact HB.out | apply below_alloc | apply pw_below_drewN | apply below_drew1 | refine below_set ?_ GE101.out) | exact HB.out)⟩⟩
 case round =>
  clear H'
  try clear c1
  try clear p2
  obtain ⟨x4_1, x102000_1, rfl, HA, HK1, BK101, HB⟩ := hrel
  cases gk with
  | zero => exact absurd HA.out (by simp [word_Put64.l0])
  | succ k1 =>
   have H := HA.out
   clear HA
   simp only [word_Put64.l0] at H
   by_cases c3 : x4_1 < 8
   ·rw [if_pos c3] at H
    have c3b0 : decide (x4_1 < 8) = true := decide_eq_true c3
    clear c3
    obtain ⟨ji4, hji4⟩ : ∃ j_ : Int, (IntKind.u64.wrap (wrap64 (8 * (wrap64 (7 - x4_1))))) = j_ := ⟨_, rfl⟩
    replace H : (if 0 ≤ (ji4) then (if 0 ≤ x4_1 then (word_Put64.l0 k1 a0 (wrap64 (x4_1 + 1)) (Ar.set 8 x102000_1 x4_1 ((shr .u64 a0 (ji4)) % 256))) else (none)) else (none)) = some r := by first | (rw [hji4] at H; exact H) | (simp only [hji4] at H ⊢; exact H)
    by_cases c5 : 0 ≤ (ji4)
    ·rw [if_pos c5] at H
     have c5b0 := eq_true c5
     have c5b1 : decide (0 ≤ (ji4)) = true := decide_eq_true c5
     clear c5
     obtain ⟨ji6, hji6⟩ : ∃ j_ : Int, (shr .u64 a0 (ji4)) = j_ := ⟨_, rfl⟩
     replace H : (if 0 ≤ x4_1 then (word_Put64.l0 k1 a0 (wrap64 (x4_1 + 1)) (Ar.set 8 x102000_1 x4_1 ((ji6) % 256))) else (none)) = some r := by first | (rw [hji6] at H; exact H) | (simp only [hji6] at H ⊢; exact H)
     have hji6_ : (a0 / 2 ^ min (ji4).toNat 64) = ji6 := hji6
     have hji6z : (ji4) ≤ 64 → (a0 / 2 ^ (ji4).toNat) = ji6 := shr_small hji6
     by_cases c7 : 0 ≤ x4_1
     ·rw [if_pos c7] at H
      have c7b0 : decide (0 ≤ x4_1) = true := decide_eq_true c7
      clear c7
      obtain ⟨y102, hy102⟩ : ∃ y_ : List Int, y_ = (Ar.set 8 x102000_1 x4_1 ((ji6) % 256)) := ⟨_, rfl⟩
      replace H : (word_Put64.l0 k1 a0 (wrap64 (x4_1 + 1)) y102) = some r := by first | (rw [hy102]; with_reducible exact H) | (have H2_ := (Option.bind_some _ _).symm.trans H; rw [hy102]; with_reducible exact H2_) | (have H2_ := (Option.bind_some _ _).symm.trans H; with_reducible exact H2_) | with_reducible exact H | (rw [hy102]; exact H) | exact H
      have Ny102 := Aside0.mk hy102
      clear hy102
      have H' := Aside0.mk H
      clear H
      go_wp2_with (first | ((with_reducible refine gate_dst (N := 15) rfl ?_); (try (refine gate_guard (by rfl) ?_; dsimp only)); refine Ar.idx_event rfl (D := 15) rfl (T := 37) (n := 8) rfl Try.underlying37 (by kernel_rfl) (g := gb101) rfl (j := x4_1) (by first | rfl | (go_simp; done) | (go_simp; rfl)) (of_decide_eq_true (by first | (with_reducible assumption) | assumption)) (of_decide_eq_true (by first | (with_reducible assumption) | assumption)) ?_) | ((with_reducible refine gate_store (t := 5) (p := 15) rfl ?_); refine Ar.put_event rfl rfl rfl (by kernel_rfl) (g := gb101) (j := x4_1) rfl (z := ((ji6) % 256)) (by first | rfl | (go_simp; done) | (go_simp; rfl)) (by (with_reducible repeat (first | refine blk_drewN ?_ _ | refine blk_drew ?_ | refine blk_alloc ?_ _)); exact BK101.out) (of_decide_eq_true (by first | (with_reducible assumption) | assumption)) (of_decide_eq_true (by first | (with_reducible assumption) | assumption)) ?_; intro w8 hbk_ hg; rw [← Ny102.out] at hbk_; have n0_ := Aside0.mk (hbk_); have n1_ := Aside0.mk (Below.grown (by repeat (first | (with_reducible first | exact HB.out | apply below_alloc | apply pw_below_drewN | apply below_drew1 | refine below_set ?_ GE101.out) | exact HB.out)) hg ((below_size (by repeat (first | (with_reducible first | exact HB.out | apply below_alloc | apply pw_below_drewN | apply below_drew1 | refine below_set ?_ GE101.out) | exact HB.out)))) (fun _ e_ => by cases e_; exact GE101.out)); clear BK101; clear HB; have BK101 := n0_; have HB := n1_; clear n0_ n1_; clear hbk_ hg))
      go_roundg k1
      case measure => have := HK1.out; omega
      case rel => exact ⟨(wrap64 (x4_1 + 1)), (y102), (by first | rfl | (simp; done) | (simp [*]; done)), H', ⟨by have := HK1.out; omega⟩, ⟨by (with_reducible repeat (first | refine blk_drewN ?_ _ | refine blk_drew ?_ | refine blk_alloc ?_ _)); exact BK101.out⟩, ⟨by repeat (first | (with_reducible first | exact HB.out | apply below_alloc | apply pw_below_drewN | apply below_drew1 | refine below_set ?_ GE101.out) | exact HB.out)⟩⟩
     ·rw [if_neg c7] at H
      exact absurd H (by simp)
    ·rw [if_neg c5] at H
     exact absurd H (by simp)
   ·rw [if_neg c3] at H
    have c3b0 : decide (x4_1 < 8) = false := decide_eq_false c3
    clear c3
    obtain rfl := Option.some.inj H
    go_wp2_with (first | ((with_reducible refine gate_dst (N := 17) rfl ?_); (try (refine gate_guard (by rfl) ?_; dsimp only)); refine Ar.load_event rfl (D := 17) rfl (T := 37) rfl Try.underlying37 (by kernel_rfl) (g := gb101) rfl (by (with_reducible repeat (first | refine blk_drewN ?_ _ | refine blk_drew ?_ | refine blk_alloc ?_ _)); exact BK101.out) ?_) | ((with_reducible refine gate_store (t := 37) (p := 2) rfl ?_); refine Ar.store_all_event rfl rfl rfl Try.underlying37 (by kernel_rfl) (g := gb101) rfl (z := x102000_1) (by first | rfl | (go_simp; done) | (go_simp; rfl)) (by (with_reducible repeat (first | refine blk_drewN ?_ _ | refine blk_drew ?_ | refine blk_alloc ?_ _)); exact BK101.out) ?_; intro w9 hbk_ hg; have n0_ := Aside0.mk (hbk_); have n1_ := Aside0.mk (Below.grown (by repeat (first | (with_reducible first | exact HB.out | apply below_alloc | apply pw_below_drewN | apply below_drew1 | refine below_set ?_ GE101.out) | exact HB.out)) hg ((below_size (by repeat (first | (with_reducible first | exact HB.out | apply below_alloc | apply pw_below_drewN | apply below_drew1 | refine below_set ?_ GE101.out) | exact HB.out)))) (fun _ e_ => by cases e_; exact GE101.out)); clear BK101; clear HB; have BK101 := n0_; have HB := n1_; clear n0_ n1_; clear hbk_ hg))
    refine bodyPost_ret (results_cell_row rfl _ _ gb101 37 (Ar.cells .u8 8 x102000_1) (0, 0) _ rfl (by (with_reducible repeat (first | refine blk_drewN ?_ _ | refine blk_drew ?_ | refine blk_alloc ?_ _)); exact BK101.out) Try.underlying37 rfl (by first | (rw [Ar.cells_size]; kernel_rfl) | kernel_rfl)) rfl ?_
    exact ⟨by first | rfl | (simp [errW_none, errW_some] <;> rfl) | (simp [*, errW_none, errW_some] <;> rfl), by repeat (first | (with_reducible first | exact HB.out | apply below_alloc | apply pw_below_drewN | apply below_drew1 | refine below_set ?_ GE101.out) | exact HB.out)⟩

/-! ### pad_Tail: function 8 -/

def pad_Tail.f (k : Nat) (l0 : List Int) (a1 : Int) : Option (List Int × Bool) := if a1 ≥ 2305843009213693952 then some ([], false) else (if IntKind.u64.wrap (l0.length : Int) = Int.tmod a1 64 then
  ((pad_Blocks.f a1).bind fun q => (word_Put64.f k (IntKind.u64.wrap (a1 * 8))).bind fun b => if (l0.length : Int) + 9 ≤ wrap64 (wrap64 (IntKind.u64.wrap (q - IntKind.u64.wrap (Int.tdiv a1 64))) * 64) ∧ wrap64 (wrap64 (IntKind.u64.wrap (q - IntKind.u64.wrap (Int.tdiv a1 64))) * 64) ≤ 4096 then
    some (((l0 ++ List.replicate ((wrap64 (wrap64 (IntKind.u64.wrap (q - IntKind.u64.wrap (Int.tdiv a1 64))) * 64)).toNat - l0.length) 0).set l0.length 128).take ((wrap64 (wrap64 (IntKind.u64.wrap (q - IntKind.u64.wrap (Int.tdiv a1 64))) * 64)).toNat - 8) ++ Ar.fit 8 b, true) else none) else some ([], false))
theorem pad_Tail.mono : ∀ a0 a1 k, LeO (pad_Tail.f k a0 a1) (pad_Tail.f (k + 1) a0 a1) := fun a0 a1 k => by
  unfold pad_Tail.f
  exact LeO.ite (LeO.refl _) (LeO.ite (LeO.bind (LeO.refl _) (fun _ => LeO.bind (word_Put64.mono _ _) (fun _ => LeO.refl _))) (LeO.refl _))
set_option maxHeartbeats 8000000 in
set_option maxRecDepth 100000 in
theorem pad_Tail.calls (k : Nat) (A0 : Option Addr) (c0 : Nat) (l0 : List Int) (a1 : Int) (r1 : List Int) (r2 : Bool) (w : World) (hr0 : Kd.C (Kd.int .u8) w A0 l0.length l0) (hc0 : l0.length ≤ c0) (h : pad_Tail.f k l0 a1 = some (r1, r2)) :
    Calls Try.prog 8 #[.slice A0 l0.length c0, .int .u64 a1] w fun e w' => ∃ v0_ : Value, e = .returned (.tuple #[v0_, .bool r2]) ∧ Kd.R (Kd.int .u8) 5 w' w.heap.size (fun _ => True) v0_ r1 ∧ Below w.heap.size w w' := by
  obtain ⟨i5, hi5, _, hsz5, _⟩ := info_parts info5
  have HR0 := Aside0.mk hr0
  have HB := Aside0.mk (Below.refl w.heap.size w)
  clear hr0 hc0
  unfold pad_Tail.f at h
  by_cases c : a1 ≥ 2305843009213693952
  · rw [if_pos c] at h
    simp only [Option.some.injEq, Prod.mk.injEq] at h
    obtain ⟨rfl, rfl⟩ := h
    have cb : decide (2305843009213693952 ≤ a1) = true := decide_eq_true c
    clear c
    go_enter Try.func8, Try.ntmps8
    go_wp2
    go_ret2
    exact ⟨_, rfl, Kd.R_nil _ _ _ _ _, HB.out⟩
  · rw [if_neg c] at h
    have cb : decide (2305843009213693952 ≤ a1) = false := decide_eq_false c
    clear c
    by_cases d : IntKind.u64.wrap (l0.length : Int) = Int.tmod a1 64
    · rw [if_pos d] at h
      have db0 : (IntKind.u64.wrap (l0.length : Int) != Int.tmod a1 64) = false := bne_eq_false_iff_eq.mpr d
      have db1 : (IntKind.u64.wrap (l0.length : Int) == Int.tmod a1 64) = true := beq_iff_eq.mpr d
      clear d
      replace h := Option.bind_eq_some_iff.mp h
      obtain ⟨q, A1, h⟩ := h
      replace h := Option.bind_eq_some_iff.mp h
      obtain ⟨b, A2, h⟩ := h
      have A1 := Aside0.mk A1
      have A2 := Aside0.mk A2
      obtain ⟨s, hs⟩ : ∃ s, wrap64 (wrap64 (IntKind.u64.wrap (q - IntKind.u64.wrap (Int.tdiv a1 64))) * 64) = s := ⟨_, rfl⟩
      rw [hs] at h
      by_cases c : (l0.length : Int) + 9 ≤ s ∧ s ≤ 4096
      · rw [if_pos c] at h
        simp only [Option.some.injEq, Prod.mk.injEq] at h
        obtain ⟨hr1, rfl⟩ := h
        obtain ⟨m, rfl⟩ := Int.eq_ofNat_of_zero_le (show 0 ≤ s by omega)
        rw [Int.toNat_natCast] at hr1
        have HR1 := Aside0.mk hr1
        have CM := Aside0.mk (show l0.length + 9 ≤ m ∧ m ≤ 4096 by omega)
        have hsb : decide (0 ≤ (m : Int)) = true := decide_eq_true (Int.natCast_nonneg _)
        clear c hr1
        have p1 := eq_true (show 0 ≤ (l0.length : Int) from Int.natCast_nonneg _)
        have q1 := eq_true (show (l0.length : Int) < (m : Int) by have := CM.out; omega)
        have q2 := eq_true (show l0.length < m by have := CM.out; omega)
        go_enter Try.func8, Try.ntmps8
        go_wp2_with (first | ((with_reducible refine gate_callee (f := 10) rfl ?_); refine goesL_ (some 20) rfl rfl Try.func10 (by kernel_rfl) rfl #[.int .u64 a1] rfl (by (try simp only [List.map_toArray, List.map_cons, List.map_nil]); first | done | rfl) ?_; (with_reducible refine (pad_Blocks.calls a1 q _ A1.out).mono ?_); rintro e w' ⟨rfl, ⟨nd, rfl⟩⟩; refine ⟨_, rfl, ?_⟩) | ((with_reducible refine gate_dst (N := 27) rfl ?_); refine Kd.R_make (Kd.int .u8) _ 5 rfl (N := 27) rfl 22 _ _ rfl (m : Int) (congrArg (Value.int .i64) hs) (congrArg (Value.int .i64) hs) Try.underlying22 (.int .u8 0) 1 info5 rfl (by decide) (by omega) 0 (ok := fun _ => True) (okp := fun _ => True) rfl (fun _ hk => hk) trivial (Int.natCast_nonneg _) (by have := CM.out; omega) (Below.refl _ _) (Nat.le_refl _) ?_; intro v w5 ho hb hg_ hnew_; clear hg_ hnew_; rw [Int.toNat_natCast] at ho; obtain ⟨g, cap, hv, _, _, _⟩ := Kd.R_form ho (by rw [List.length_replicate]; have := CM.out; omega); rw [List.length_replicate] at hv; subst hv; have HO := Aside0.mk (Kd.R_lower ho (below_size (by repeat (first | (with_reducible first | exact HB.out | apply below_alloc | apply pw_below_drewN | apply below_drew1) | exact HB.out)))); have n1_ := Aside0.mk (below_step (by repeat (first | (with_reducible first | exact HB.out | apply below_alloc | apply pw_below_drewN | apply below_drew1) | exact HB.out)) hb); clear HB; have HB := n1_; clear n1_ ho hb) | ((with_reducible refine gate_builtin (b := .copy) (xs := #[.tmp 28, .tmp 29]) rfl ?_); refine Ar.copy_in_event rfl rfl Try.underlying22 (by kernel_rfl) (k := .u8) (g := g) (n := m) (cap := cap) (l := l0) rfl rfl (by (with_reducible repeat (first | apply Kd.R_alloc | apply Kd.R_drewN | apply Kd.R_drew)); exact HO.out) (Kd.C_below HR0.out (by repeat (first | (with_reducible first | exact HB.out | apply below_alloc | apply pw_below_drewN | apply below_drew1) | exact HB.out))) (by rw [List.length_replicate]; have := CM.out; omega) ?_; intro w6 ho hg; have n0_ := Aside0.mk ho; have n1_ := Aside0.mk (Below.grown (by repeat (first | (with_reducible first | exact HB.out | apply below_alloc | apply pw_below_drewN | apply below_drew1) | exact HB.out)) hg (below_size (by repeat (first | (with_reducible first | exact HB.out | apply below_alloc | apply pw_below_drewN | apply below_drew1) | exact HB.out))) (fun _ e_ => by cases e_; exact Kd.R_base HO.out g rfl)); clear HO HB; have HO := n0_; have HB := n1_; clear n0_ n1_ ho hg; have HL := Aside0.mk (show (l0 ++ (List.replicate m 0).drop l0.length).length = m by rw [List.length_append, List.length_drop, List.length_replicate]; have := CM.out; omega); have hx34 := (Ar.R_cell HO.out l0.length (by rw [HL.out]; have := CM.out; omega)).1; have hf34 := (Ar.R_cell HO.out l0.length (by rw [HL.out]; have := CM.out; omega)).2) | ((with_reducible refine gate_store (t := 5) (p := 34) rfl ?_); refine store_event (t := 5) (p := 34) (v := ?vv34) (w1 := (w6.setCell ⟨g, l0.length, none⟩ (.int .u8 128))) ?hg ?ho ?hn ?hr ?_; (case ho => rfl); (case hg => rfl); (case hn => rfl); (case hr => first | (go_simp; done) | (go_simp; rfl)); intro w7 hw; have HP := Kd.R_putg HO.out (l0.length : Int) 128; rw [Int.toNat_natCast] at HP; rw [← hw] at HP; have n0_ := Aside0.mk HP.1; have n1_ := Aside0.mk (show Below w.heap.size w w7 by rw [hw]; exact HB.out.setCell (p := ⟨g, l0.length, none⟩) (Kd.R_base HO.out g rfl) _); clear HO HB HP hw hx34 hf34; have HO := n0_; have HB := n1_; clear n0_ n1_) | ((with_reducible refine gate_callee (f := 17) rfl ?_); refine goesL_ (some 37) rfl rfl Try.func17 (by kernel_rfl) rfl #[.int .u64 (IntKind.u64.wrap (a1 * 8))] rfl (by (try simp only [List.map_toArray, List.map_cons, List.map_nil]); first | done | rfl) ?_; (with_reducible refine (word_Put64.calls k (IntKind.u64.wrap (a1 * 8)) b _ A2.out).mono ?_); rintro e w8 ⟨rfl, hb⟩; refine ⟨_, rfl, ?_⟩; have n0_ := Aside0.mk (Kd.R_below (by (with_reducible repeat (first | apply Kd.R_alloc | apply Kd.R_drewN | apply Kd.R_drew)); exact HO.out) hb); have n1_ := Aside0.mk (below_step (by repeat (first | (with_reducible first | exact HB.out | apply below_alloc | apply pw_below_drewN | apply below_drew1) | exact HB.out)) hb); clear HO HB; have HO := n0_; have HB := n1_; clear n0_ n1_ hb) | ((with_reducible refine gate_dst (N := 8) rfl ?_); refine box_event ?hg (N := 8) ?hd (cs := (Ar.cells .u8 8 (List.replicate 8 0))) (t := 37) ?hr ?_; (case hd => rfl); (case hg => rfl); (case hr => exact Ar.alloc_run rfl (by kernel_rfl)); intro gb hg w9 hbox hb; have BK := Aside0.mk hbox; have GE := Aside0.mk ((by rw [hg]; exact below_size (by repeat (first | (with_reducible first | exact HB.out | apply below_alloc | apply pw_below_drewN | apply below_drew1) | exact HB.out))) : w.heap.size ≤ gb); have n0_ := Aside0.mk (Kd.R_below (by (with_reducible repeat (first | apply Kd.R_alloc | apply Kd.R_drewN | apply Kd.R_drew)); exact HO.out) hb); have n1_ := Aside0.mk (below_step (by repeat (first | (with_reducible first | exact HB.out | apply below_alloc | apply pw_below_drewN | apply below_drew1) | exact HB.out)) hb); clear HO HB; have HO := n0_; have HB := n1_; clear n0_ n1_ hbox hb hg) | ((with_reducible refine gate_store (t := 37) (p := 8) rfl ?_); refine Ar.store_all_event rfl rfl rfl Try.underlying37 (by kernel_rfl) (g := gb) rfl (z := b) (by first | rfl | (go_simp; done) | (go_simp; rfl)) (by (with_reducible repeat (first | refine blk_drewN ?_ _ | refine blk_drew ?_ | refine blk_alloc ?_ _)); exact BK.out) ?_; intro w10 hbk_ hg; have n0_ := Aside0.mk hbk_; have n1_ := Aside0.mk (Below.grown (by repeat (first | (with_reducible first | exact HB.out | apply below_alloc | apply pw_below_drewN | apply below_drew1) | exact HB.out)) hg (below_size (by repeat (first | (with_reducible first | exact HB.out | apply below_alloc | apply pw_below_drewN | apply below_drew1) | exact HB.out))) (fun _ e_ => by cases e_; exact GE.out)); have n2_ := Aside0.mk (Kd.R_mono (Kd.R_grown (Kd.R_types (by (with_reducible repeat (first | apply Kd.R_alloc | apply Kd.R_drewN | apply Kd.R_drew)); exact HO.out) BK.out (by decide)) hg (fun k_ hk_ e_ => hk_.2 (Option.some.inj e_))) (fun _ h_ => h_.1)); clear BK HB HO; have BK := n0_; have HB := n1_; have HO := n2_; clear n0_ n1_ n2_ hbk_ hg; have hcut := fun W : World => Ar.cut_own_run (P := Try.prog) (W := W) Try.underlying22 hi5 hsz5 (g := g) (n := m) (cap := cap) ((m : Int) - 8) (by have := CM.out; omega) (by have := CM.out; omega) (by have := (Kd.R_reads' HO.out).2.1; omega); rw [show ((m : Int) - 8).toNat = m - 8 by omega, show m - (m - 8) = 8 by have := CM.out; omega] at hcut; have hw40 : wrap64 ((m : Int) - 8) = (m : Int) - 8 := (by have := CM.out; unfold wrap64; omega); have hw41 : IntKind.i64.wrap ((m : Int) - 8) = (m : Int) - 8 := (i64_w _).trans hw40))
        refine start_ (n := 6) (S := fun w' => True) (ds := []) #[false, false, false, false, false, false] (by kernel_rfl) rfl rfl trivial (fun hHeld => ?_)
        refine pure_ (i := 0) (N := some 38) (v := ?_) (a' := ?_) #[true, false, false, false, false, false] rfl rfl (by kernel_rfl) (fun _ _ _ h => h) (Or.inl ⟨by rfl, ?_⟩) ?_ ?_
        rotate_left
        · intro w'
          go_simp
          with_reducible rfl
        rotate_left
        · simp only [Act.put, List.setIfInBounds_toArray, List.set_cons_zero, List.set_cons_succ, i64_w, i32_w]
          rfl
        refine pure_ (i := 1) (N := some 39) (v := ?_) (a' := ?_) #[true, true, false, false, false, false] rfl rfl (by kernel_rfl) (fun _ _ _ h => h) (Or.inl ⟨by rfl, ?_⟩) ?_ ?_
        rotate_left
        · intro w'
          go_simp
          with_reducible rfl
        rotate_left
        · simp only [Act.put, List.setIfInBounds_toArray, List.set_cons_zero, List.set_cons_succ, i64_w, i32_w]
          rfl
        refine pure_ (i := 2) (N := some 40) (v := ?_) (a' := ?_) #[true, true, true, false, false, false] rfl rfl (by kernel_rfl) (fun _ _ _ h => h) (Or.inl ⟨by rfl, ?_⟩) ?_ ?_
        rotate_left
        · intro w'
          go_simp
          with_reducible rfl
        rotate_left
        · simp only [Act.put, List.setIfInBounds_toArray, List.set_cons_zero, List.set_cons_succ, i64_w, i32_w]
          rfl
        refine pure_ (i := 3) (N := some 41) (v := ?_) (a' := ?_) #[true, true, true, true, false, false] rfl rfl (by kernel_rfl) (fun _ _ _ h => h) (Or.inl ⟨by rfl, ?_⟩) ?_ ?_
        rotate_left
        · intro w'
          go_simp
          with_reducible rfl
        rotate_left
        · simp only [Act.put, List.setIfInBounds_toArray, List.set_cons_zero, List.set_cons_succ, i64_w, i32_w]
          rfl
        refine pure_ (i := 4) (N := some 42) (v := ?_) (a' := ?_) #[true, true, true, true, true, false] rfl rfl (by kernel_rfl) (fun _ _ _ h => h) (Or.inl ⟨by rfl, ?_⟩) ?_ ?_
        rotate_left
        · intro w'
          go_simp
          with_reducible rfl
        rotate_left
        · simp only [Act.put, List.setIfInBounds_toArray, List.set_cons_zero, List.set_cons_succ, i64_w, i32_w]
          rfl
        refine one_ (i := 5) (N := some 43) #[true, true, true, true, true, true] rfl rfl (by kernel_rfl) (by decide) (fun K hK => ?_)
        refine Ar.copy_at_step (by rfl) rfl Try.underlying22 (by kernel_rfl) (k := .u8) (g := g) (n := m) (cap := cap) (gs := gb) (m := 8) (s := b) (q := m - 8) rfl rfl (by (with_reducible repeat (first | apply Kd.R_alloc | apply Kd.R_drewN | apply Kd.R_drew)); exact HO.out) (by (with_reducible repeat (first | refine blk_drewN ?_ _ | refine blk_drew ?_ | refine blk_alloc ?_ _)); exact BK.out) (by rw [List.length_set, HL.out]; have := CM.out; omega) ?_
        intro w11 ho hg
        have n0_ := Aside0.mk (show Kd.R (Kd.int .u8) 5 w11 w.heap.size (fun _ => True) (.slice (some ⟨g, 0, none⟩) m cap) (((l0 ++ List.replicate (m - l0.length) 0).set l0.length 128).take (m - 8) ++ Ar.fit 8 b) by rw [List.drop_replicate] at ho; exact ho)
        have n1_ := Aside0.mk (Below.grown (by repeat (first | (with_reducible first | exact HB.out | apply below_alloc | apply pw_below_drewN | apply below_drew1) | exact HB.out)) hg (below_size (by repeat (first | (with_reducible first | exact HB.out | apply below_alloc | apply pw_below_drewN | apply below_drew1) | exact HB.out))) (fun _ e_ => by cases e_; exact Kd.R_base HO.out g rfl))
        clear HO HB BK
        have HO := n0_
        have HB := n1_
        clear n0_ n1_ ho hg
        refine hK.out _ _ trivial (fun hHeld => ?_)
        clear hK K
        refine norm_ (a' := ?_) ?_ ?_
        rotate_left
        · show Act.put _ (some 43) _ = _
          simp only [Act.put, List.setIfInBounds_toArray, List.set_cons_zero, List.set_cons_succ, i64_w, i32_w]
          rfl
        refine done_ (by kernel_rfl) ?_
        try go_wp2
        go_ret2
        refine ⟨_, rfl, ?_, HB.out⟩
        have e := HR1.out
        rw [← e]
        exact HO.out
      · rw [if_neg c] at h
        exact absurd h (by simp)
    · rw [if_neg d] at h
      have db0 : (IntKind.u64.wrap (l0.length : Int) != Int.tmod a1 64) = true := bne_iff_ne.mpr d
      have db1 : (IntKind.u64.wrap (l0.length : Int) == Int.tmod a1 64) = false := beq_eq_false_iff_ne.mpr d
      clear d
      simp only [Option.some.injEq, Prod.mk.injEq] at h
      obtain ⟨rfl, rfl⟩ := h
      go_enter Try.func8, Try.ntmps8
      go_wp2
      go_ret2
      exact ⟨_, rfl, Kd.R_nil _ _ _ _ _, HB.out⟩

/-! ### pad_Cut: function 12 -/
theorem pad_Cut_info : (Try.prog.info? 36).map (fun i => (i.zero, i.size, i.bytes)) = some (some (.agg (Ar.cells .u8 64 (List.replicate 64 0))), 64, 64) := by kernel_rfl

def pad_Cut.l0 : Nat → List Int → List (List Int) → Option ((List (List Int)) × List Int)
  | 0, _, _ => none
  | k + 1, b, out => if (b.length : Int) ≥ 64 then (if out.length < 1048576 then pad_Cut.l0 k (b.drop 64) (out ++ [b.take 64]) else none) else some (out, b)
def pad_Cut.f (k : Nat) (l0 : List Int) : Option ((List (List Int)) × List Int) := pad_Cut.l0 k l0 []
theorem pad_Cut.mono_l : ∀ k b out, LeO (pad_Cut.l0 k b out) (pad_Cut.l0 (k + 1) b out)
  | 0, _, _ => fun r h => by simp [pad_Cut.l0] at h
  | k + 1, _, _ => by
    unfold pad_Cut.l0
    exact LeO.ite (LeO.ite (pad_Cut.mono_l k _ _) (LeO.none _)) (LeO.refl _)
theorem pad_Cut.mono : ∀ a0 k, LeO (pad_Cut.f k a0) (pad_Cut.f (k + 1) a0) := fun a0 k => pad_Cut.mono_l k a0 []
set_option maxHeartbeats 8000000 in
set_option maxRecDepth 100000 in
theorem pad_Cut.calls (k : Nat) (P0_ : Nat → Prop) (A0 : Option Addr) (c0 : Nat) (l0 : List Int) (r1 : List (List Int)) (r2 : List Int) (w : World) (hs0 : Kd.V (Kd.int .u8) 5 w w.heap.size (fun k_ => P0_ k_) (.slice A0 l0.length c0) l0) (h : pad_Cut.f k l0 = some (r1, r2)) :
    Calls Try.prog 12 #[.slice A0 l0.length c0] w fun e w' => ∃ v0_ v1_ : Value, e = .returned (.tuple #[v0_, v1_]) ∧ Kd.R (Ar.K .u8 64) 36 w' w.heap.size (fun _ => True) v0_ r1 ∧ Kd.V (Kd.int .u8) 5 w' w.heap.size (fun k_ => (P0_ k_ ∨ w.heap.size ≤ k_) ∧ some k_ ≠ (v0_ : Value).ownBlock) v1_ r2 ∧ Below w.heap.size w w' := by
  have hu36 := Try.underlying36
  obtain ⟨i5, hi5, _, hsz5, _⟩ := info_parts info5
  have HV := Aside0.mk (Kd.V_bound hs0)
  have HB := Aside0.mk (Below.refl w.heap.size w)
  have H' := Aside0.mk (show pad_Cut.l0 k l0 [] = some (r1, r2) from h)
  clear hs0 h
  go_enter Try.func12, Try.ntmps12
  go_wp2
  go_loopg [0, 2] k (fun kq v0 v2 w' => ∃ (b : List Int) (out : List (List Int)), Aside0 (pad_Cut.l0 kq b out = some (r1, r2)) ∧ Aside0 (kq ≤ k) ∧ Aside0 (Kd.V (Kd.int .u8) 5 w w.heap.size (fun k_ => P0_ k_ ∧ k_ < w.heap.size) v0 b) ∧ Aside0 (Kd.R (Ar.K .u8 64) 36 w' w.heap.size (fun _ => True) v2 out) ∧ Aside0 (Below w.heap.size w w'))
  case atStart => exact ⟨l0, [], H', ⟨Nat.le_refl _⟩, HV, ⟨Kd.R_nil _ _ _ _ _⟩, HB⟩
  case round =>
    clear H' HV HB
    obtain ⟨b, out, HA, HK1, HV, HO, HB⟩ := hrel
    cases gk with
    | zero => exact absurd HA.out (by simp [pad_Cut.l0])
    | succ k1 =>
      have H := HA.out
      clear HA
      simp only [pad_Cut.l0] at H
      obtain ⟨A1, c1, rfl⟩ := Kd.V_slice HV.out
      obtain ⟨A2, c2, rfl⟩ := Kd.R_slice HO.out
      by_cases c : (b.length : Int) ≥ 64
      · rw [if_pos c] at H
        by_cases d : out.length < 1048576
        · rw [if_pos d] at H
          have H' := Aside0.mk H
          have D := Aside0.mk d
          have cb0 : decide (64 ≤ (b.length : Int)) = true := decide_eq_true c
          have cb1 : decide (64 ≤ b.length) = true := decide_eq_true (by omega)
          have cb2 := eq_true (show 64 ≤ b.length by omega)
          have CC := Aside0.mk (show 64 ≤ b.length by omega)
          clear H d c
          obtain ⟨A3, hcut, hV3⟩ := Ar.cut_V (P := Try.prog) Try.underlying22 hi5 hsz5 HV.out 64 (by omega) (by have := CC.out; omega)
          have HV3 := Aside0.mk (show Kd.V (Kd.int .u8) 5 w w.heap.size (fun k_ => P0_ k_ ∧ k_ < w.heap.size) (.slice A3 (b.length - 64) (c1 - 64)) (b.drop 64) by rw [← List.length_drop]; exact hV3)
          clear hV3
          have hRd := (Kd.V_at HV.out).2.2
          obtain ⟨ad, e, hcell0⟩ : ∃ ad, A1 = some ad ∧ ∀ W : World, Below w.heap.size w W → ∀ j : Nat, j < 64 → W.cell? (ad.add j) = some (.int .u8 (Ar.get 64 (b.take 64) j)) := by
            have hC := Kd.F_now hRd
            obtain ⟨ad, e, _⟩ := Kd.at_int hC 0 (by omega) (by have := CC.out; omega)
            refine ⟨ad, e, fun W hW j hj => ?_⟩
            obtain ⟨ad2, e2, hx⟩ := Kd.at_int (Kd.C_below hC hW) (j : Int) (by omega) (by have := CC.out; omega)
            rw [e] at e2
            injection e2 with e2
            subst e2
            rw [Int.toNat_natCast] at hx
            rw [hx, Ar.get_take CC.out hj]
          subst e
          have HC := Aside0.mk hcell0
          clear hcell0 hRd
          try go_wp2
          refine start_ (n := 10) (S := fun w' => ∀ j_ : Nat, j_ < 64 → w'.cell? (ad.add j_) = some (.int .u8 (Ar.get 64 (b.take 64) j_))) (ds := []) #[false, false, false, false, false, false, false, false, false, false] (by kernel_rfl) rfl rfl (HC.out _ (by repeat (first | (with_reducible first | exact HB.out | apply below_alloc | apply pw_below_drewN | apply below_drew1) | exact HB.out))) (fun hHeld => ?_)
          refine pure_ (i := 0) (N := some 7) (v := ?_) (a' := ?_) #[true, false, false, false, false, false, false, false, false, false] rfl rfl (by kernel_rfl) (fun _ _ _ h => h) (Or.inl ⟨by rfl, ?_⟩) ?_ ?_
          rotate_left
          · intro w'
            go_simp
            with_reducible rfl
          rotate_left
          · simp only [Act.put, List.setIfInBounds_toArray, List.set_cons_zero, List.set_cons_succ, i64_w, i32_w]
            rfl
          refine pure_ (i := 1) (N := some 8) (v := ?_) (a' := ?_) #[true, true, false, false, false, false, false, false, false, false] rfl rfl (by kernel_rfl) (fun _ _ _ h => h) (Or.inl ⟨by rfl, ?_⟩) ?_ ?_
          rotate_left
          · intro w'
            go_simp
            with_reducible rfl
          rotate_left
          · simp only [Act.put, List.setIfInBounds_toArray, List.set_cons_zero, List.set_cons_succ, i64_w, i32_w]
            rfl
          refine pure_ (i := 2) (N := some 9) (v := ?_) (a' := ?_) #[true, true, true, false, false, false, false, false, false, false] rfl rfl (by kernel_rfl) (fun _ _ _ h => h) (Or.inl ⟨by rfl, ?_⟩) ?_ ?_
          rotate_left
          · intro w'
            (refine (Ar.ptr_run rfl Try.underlying36 rfl CC.out).trans ?_; with_reducible rfl)
          rotate_left
          · simp only [Act.put, List.setIfInBounds_toArray, List.set_cons_zero, List.set_cons_succ, i64_w, i32_w]
            rfl
          refine pure_ (i := 6) (N := some 13) (v := ?_) (a' := ?_) #[true, true, true, false, false, false, true, false, false, false] rfl rfl (by kernel_rfl) (fun _ _ _ h => h) (Or.inl ⟨by rfl, ?_⟩) ?_ ?_
          rotate_left
          · intro w'
            go_simp
            with_reducible rfl
          rotate_left
          · simp only [Act.put, List.setIfInBounds_toArray, List.set_cons_zero, List.set_cons_succ, i64_w, i32_w]
            rfl
          refine pure_ (i := 7) (N := some 14) (v := ?_) (a' := ?_) #[true, true, true, false, false, false, true, true, false, false] rfl rfl (by kernel_rfl) (fun _ _ _ h => h) (Or.inl ⟨by rfl, ?_⟩) ?_ ?_
          rotate_left
          · intro w'
            go_simp
            with_reducible rfl
          rotate_left
          · simp only [Act.put, List.setIfInBounds_toArray, List.set_cons_zero, List.set_cons_succ, i64_w, i32_w]
            rfl
          refine take_ (i := 3) (N := some 10) (v := ?_) (a' := ?_) #[true, true, true, true, false, false, true, true, false, false] rfl rfl (by kernel_rfl) (fun _ _ _ h => h) (Or.inl ⟨by rfl, ?_⟩) hHeld ?_ ?_
          rotate_left
          · intro w' s0
            (refine (Ar.load_at_run rfl Try.underlying36 (by kernel_rfl) rfl s0).trans ?_; with_reducible rfl)
          rotate_left
          · simp only [Act.put, List.setIfInBounds_toArray, List.set_cons_zero, List.set_cons_succ, i64_w, i32_w]
            rfl
          refine one_ (i := 4) (N := some 11) #[true, true, true, true, true, false, true, true, false, false] rfl rfl (by kernel_rfl) (by decide) (fun K hK => ?_)
          refine value_ (by rfl) rfl (Ar.one_lit_run (k := .u8) (n := 64) (l := b.take 64) rfl Try.underlying29 pad_Cut_info (by omega) (by omega) rfl) ?_
          refine hK.out _ _ (HC.out _ (by repeat (first | (with_reducible first | exact HB.out | apply below_alloc | apply pw_below_drewN | apply below_drew1) | exact HB.out))) (fun hHeld => ?_)
          clear hK K
          refine norm_ (a' := ?_) ?_ ?_
          rotate_left
          · show Act.put _ (some 11) _ = _
            simp only [Act.put, List.setIfInBounds_toArray, List.set_cons_zero, List.set_cons_succ, i64_w, i32_w]
            rfl
          refine one_ (i := 5) (N := some 12) #[true, true, true, true, true, true, true, true, false, false] rfl rfl (by kernel_rfl) (by decide) (fun K hK => ?_)
          refine Kd.R_append_step (Ar.K .u8 64) (w0 := w) w.heap.size (by rfl) (.tmp 7) (.tmp 11) 29 36 (.agg (Ar.cells .u8 64 (List.replicate 64 0))) 64 rfl Try.underlying29 pad_Cut_info (by rw [show (Value.agg (Ar.cells .u8 64 (List.replicate 64 0))).cells = Ar.cells .u8 64 (List.replicate 64 0) from rfl, Ar.cells_size]; rfl) (by decide) (by omega) (.slice A2 out.length c2) out (b.take 64) (Ar.cells .u8 64 (b.take 64)).toList (fun _ => True) (fun _ => False) rfl rfl ?aP (fun _ hk => hk.elim) ?aF ?aO ?aB ?aS ?aL ?_
          (case aP => exact rfl)
          (case aB => exact (by repeat (first | (with_reducible first | exact HB.out | apply below_alloc | apply pw_below_drewN | apply below_drew1) | exact HB.out)))
          (case aF => exact (fun _ _ => trivial))
          (case aO => exact (by (with_reducible repeat (first | apply Kd.R_alloc | apply Kd.R_drewN | apply Kd.R_drew)); exact HO.out))
          (case aS => exact (below_size (by repeat (first | (with_reducible first | exact HB.out | apply below_alloc | apply pw_below_drewN | apply below_drew1) | exact HB.out))))
          (case aL => have := D.out; omega)
          intro v1 w9 ho hb hg hat
          have n0_ := Aside0.mk hb
          have n1_ := Aside0.mk ho
          clear HB HO
          have HB := n0_
          have HO := n1_
          clear n0_ n1_ ho hb hg hat
          refine hK.out _ _ (HC.out _ HB.out) (fun hHeld => ?_)
          clear hK K
          refine norm_ (a' := ?_) ?_ ?_
          rotate_left
          · show Act.put _ (some 12) _ = _
            simp only [Act.put, List.setIfInBounds_toArray, List.set_cons_zero, List.set_cons_succ, i64_w, i32_w]
            rfl
          refine pure_ (i := 8) (N := some 2) (v := ?_) (a' := ?_) #[true, true, true, true, true, true, true, true, true, false] rfl rfl (by kernel_rfl) (fun _ _ _ h => h) (Or.inl ⟨by rfl, ?_⟩) ?_ ?_
          rotate_left
          · intro w'
            go_simp
            with_reducible rfl
          rotate_left
          · simp only [Act.put, List.setIfInBounds_toArray, List.set_cons_zero, List.set_cons_succ, i64_w, i32_w]
            rfl
          refine pure_ (i := 9) (N := some 0) (v := ?_) (a' := ?_) #[true, true, true, true, true, true, true, true, true, true] rfl rfl (by kernel_rfl) (fun _ _ _ h => h) (Or.inl ⟨by rfl, ?_⟩) ?_ ?_
          rotate_left
          · intro w'
            go_simp
            with_reducible rfl
          rotate_left
          · simp only [Act.put, List.setIfInBounds_toArray, List.set_cons_zero, List.set_cons_succ, i64_w, i32_w]
            rfl
          refine done_ (by kernel_rfl) ?_
          try go_wp2
          go_roundg k1
          case measure => have := HK1.out; omega
          case rel => exact ⟨_, _, H', ⟨by have := HK1.out; omega⟩, HV3, HO, HB⟩
        · rw [if_neg d] at H
          exact absurd H (by simp)
      · rw [if_neg c] at H
        have cb0 : decide (64 ≤ (b.length : Int)) = false := decide_eq_false c
        have cb1 : decide (64 ≤ b.length) = false := decide_eq_false (by omega)
        simp only [Option.some.injEq, Prod.mk.injEq] at H
        obtain ⟨rfl, rfl⟩ := H
        clear c
        go_wp2
        go_ret2
        refine ⟨_, _, rfl, HO.out, ?_, HB.out⟩
        refine Kd.V_mono (Kd.V_below HV.out HB.out) (fun k_ hk => ⟨.inl hk.1, fun e_ => ?_⟩)
        have h2 := Kd.R_base HO.out k_ e_.symm
        have := hk.2
        omega

-- NOT PRINTED: function 20 (slices_Grow_byte_byte)

-- NOT PRINTED: function 19 (slices_Concat_byte_byte)

/-! ### pad_Pad: function 14 -/

set_option maxHeartbeats 8000000 in
set_option maxRecDepth 100000 in
/-- slices.Grow of nil. -/
theorem grow_nil (n : Int) (h0 : 0 ≤ n) (h1 : n ≤ 1099511627776) (w : World) : Calls Try.prog 20 #[.slice none 0 0, .int .i64 n] w fun e w' => ∃ v : Value, e = .returned v ∧ Kd.R (Kd.int .u8) 5 w' w.heap.size (fun _ => True) v [] ∧ Below w.heap.size w w' := by
  obtain ⟨i5, hi5, _, hsz5, _⟩ := info_parts info5
  have hw0 : wrap64 n = n := by unfold wrap64; omega
  have hw1 : IntKind.i64.wrap n = n := (i64_w _).trans hw0
  have hw2 : wrap64 (n - 0) = n := by unfold wrap64; omega
  have c0 : decide (n < 0) = false := decide_eq_false (by omega)
  have H0 := Aside0.mk h0
  have H1 := Aside0.mk h1
  have HB := Aside0.mk (Below.refl w.heap.size w)
  by_cases z : 0 < n
  · have c1 : decide (0 < n) = true := decide_eq_true z
    have Z := Aside0.mk z
    clear h0 h1 z
    go_enter Try.func20, Try.ntmps20
    go_wp2_with (first | ((with_reducible refine gate_builtin (b := .append) (xs := #[.tmp 20, .tmp 21]) rfl ?_); at_builtin; refine Kd.R_append_zeros (Kd.int .u8) (w0 := w) w.heap.size rfl (.tmp 20) (.tmp 21) 22 3 5 (.int .u8 0) 1 rfl Try.underlying22 Try.underlying3 info5 rfl (by decide) (by omega) (.slice none 0 0) [] 0 n (fun _ => True) rfl rfl rfl (fun _ _ => trivial) (Kd.R_nil _ _ _ _ _) H0.out (by repeat (first | (with_reducible first | exact HB.out | apply below_alloc | apply pw_below_drewN | apply below_drew1) | exact HB.out)) (below_size (by repeat (first | (with_reducible first | exact HB.out | apply below_alloc | apply pw_below_drewN | apply below_drew1) | exact HB.out))) (by have := H1.out; simp only [List.length_nil]; omega) ?_; intro v w5 ho hb hg hat; rw [List.nil_append] at ho; obtain ⟨g, cap, hv, _, _, _⟩ := Kd.R_form ho (by rw [List.length_replicate]; have := Z.out; omega); rw [List.length_replicate] at hv; subst hv; have HO := Aside0.mk (show Kd.R (Kd.int .u8) 5 w5 w.heap.size (fun _ => True) (.slice (some ⟨g, 0, none⟩) 0 cap) [] from (Kd.R_take ho (Nat.zero_le _))); have hcut := (print_take_of (P := Try.prog) (Value.int .u8) 0 22 5 .i64 Try.underlying22 hi5 hsz5 (some ⟨g, 0, none⟩) cap (List.replicate n.toNat 0) 0 (by omega) (by omega) (by have := (Kd.R_reads' ho).2.1; rw [List.length_replicate]; exact this)).1; rw [List.length_replicate, show (List.take (0 : Int).toNat (List.replicate n.toNat (0 : Int))).length = 0 from rfl] at hcut; clear HB; have HB := Aside0.mk hb; clear ho hb hg hat))
    go_ret
    exact ⟨_, rfl, HO.out, HB.out⟩
  · have c1 : decide (0 < n) = false := decide_eq_false z
    clear h0 h1 z
    go_enter Try.func20, Try.ntmps20
    go_wp2
    go_ret
    exact ⟨_, rfl, Kd.R_nil _ _ _ _ _, HB.out⟩
set_option maxHeartbeats 8000000 in
set_option maxRecDepth 100000 in
/-- slices.Concat of two. -/
theorem concat2 {w : World} {g : Nat} {A0 A1 : Option Addr} {c0 c1 : Nat} {l0 l1 : List Int} (h0 : w.cell? ⟨g, 0, none⟩ = some (.slice A0 l0.length c0)) (h1 : w.cell? ⟨g, 1, none⟩ = some (.slice A1 l1.length c1)) (hr0 : Kd.C (Kd.int .u8) w A0 l0.length l0) (hr1 : Kd.C (Kd.int .u8) w A1 l1.length l1) (hl : l0.length + l1.length ≤ 1000000) :
    Calls Try.prog 19 #[.slice (some ⟨g, 0, none⟩) 2 2] w fun e w' => ∃ v : Value, e = .returned v ∧ Kd.R (Kd.int .u8) 5 w' w.heap.size (fun _ => True) v (l0 ++ l1) ∧ Below w.heap.size w w' := by
  have HB := Aside0.mk (Below.refl w.heap.size w)
  have HR0 := Aside0.mk hr0
  have HR1 := Aside0.mk hr1
  have C0 := Aside0.mk h0
  have C1 := Aside0.mk h1
  have HL := Aside0.mk hl
  have LT := Aside0.mk (World.block_lt_of_cell? w _ h0)
  clear hr0 hr1 h0 h1 hl
  have hw0 : wrap64 (l0.length : Int) = l0.length := by have := HL.out; unfold wrap64; omega
  have hw1 : wrap64 ((l0.length : Int) + (l1.length : Int)) = (l0.length : Int) + (l1.length : Int) := by have := HL.out; unfold wrap64; omega
  have n0 : decide ((l0.length : Int) < 0) = false := decide_eq_false (by omega)
  have n1 : decide ((l0.length : Int) + (l1.length : Int) < 0) = false := decide_eq_false (by omega)
  go_enter Try.func19, Try.ntmps19
  go_wp2
  go_loopg [3, 11] 2 (fun kq v3 v11 w' => Aside0 ((kq = 2 ∧ v3 = .int .i64 0 ∧ v11 = .int .i64 0) ∨ (kq = 1 ∧ v3 = .int .i64 (l0.length : Int) ∧ v11 = .int .i64 1) ∨ (kq = 0 ∧ v3 = .int .i64 ((l0.length : Int) + (l1.length : Int)) ∧ v11 = .int .i64 2)) ∧ Aside0 (Below w.heap.size w w'))
  case atStart => exact ⟨⟨.inl ⟨rfl, rfl, rfl⟩⟩, HB⟩
  case round =>
    clear HB
    obtain ⟨HQ, HB⟩ := hrel
    have x0 := (HB.out.cell (p := ⟨g, 0, none⟩) LT.out).trans C0.out
    have x1 := (HB.out.cell (p := ⟨g, 1, none⟩) LT.out).trans C1.out
    rcases HQ.out with ⟨rfl, rfl, rfl⟩ | ⟨rfl, rfl, rfl⟩ | ⟨rfl, rfl, rfl⟩
    · clear HQ
      go_wp2
      go_roundg 1
      case measure => omega
      case rel => exact ⟨⟨.inr (.inl ⟨rfl, by rw [hw0], rfl⟩)⟩, HB⟩
    · clear HQ
      go_wp2
      go_roundg 0
      case measure => omega
      case rel => exact ⟨⟨.inr (.inr ⟨rfl, by rw [hw1], rfl⟩)⟩, HB⟩
    · clear HQ x0 x1
      go_wp2_with (first | ((with_reducible refine gate_callee (f := 20) rfl ?_); refine goesL_ (some 24) rfl rfl Try.func20 (by kernel_rfl) rfl #[.slice none 0 0, .int .i64 ((l0.length : Int) + (l1.length : Int))] rfl (by (try simp only [List.map_toArray, List.map_cons, List.map_nil]); first | done | rfl) ?_; (with_reducible refine (grow_nil ((l0.length : Int) + (l1.length : Int)) (by omega) (by have := HL.out; omega) _).mono ?_); rintro e w5 ⟨v5, rfl, ho, hb⟩; refine ⟨_, rfl, ?_⟩; have HO := Aside0.mk (Kd.R_lower ho (below_size (by repeat (first | (with_reducible first | exact HB.out | apply below_alloc | apply pw_below_drewN | apply below_drew1) | exact HB.out)))); have n1_ := Aside0.mk (below_step (by repeat (first | (with_reducible first | exact HB.out | apply below_alloc | apply pw_below_drewN | apply below_drew1) | exact HB.out)) hb); clear HB; have HB := n1_; clear n1_ ho hb; obtain ⟨A2, c2, eo⟩ := Kd.R_slice HO.out; subst eo))
      go_loopg [6, 27] 2 (fun kq v6 v27 w' => ∃ xs : List Int, Aside0 ((kq = 2 ∧ xs = [] ∧ v27 = .int .i64 0) ∨ (kq = 1 ∧ xs = l0 ∧ v27 = .int .i64 1) ∨ (kq = 0 ∧ xs = l0 ++ l1 ∧ v27 = .int .i64 2)) ∧ Aside0 (Kd.R (Kd.int .u8) 5 w' w.heap.size (fun _ => True) v6 xs) ∧ Aside0 (Below w.heap.size w w'))
      case atStart => exact ⟨[], ⟨.inl ⟨rfl, rfl, rfl⟩⟩, HO, HB⟩
      case round =>
        clear HO HB
        obtain ⟨xs, HQ, HO, HB⟩ := hrel
        have x0 := (HB.out.cell (p := ⟨g, 0, none⟩) LT.out).trans C0.out
        have x1 := (HB.out.cell (p := ⟨g, 1, none⟩) LT.out).trans C1.out
        rcases HQ.out with ⟨rfl, hxs, rfl⟩ | ⟨rfl, hxs, rfl⟩ | ⟨rfl, hxs, rfl⟩
        · rw [hxs] at HO
          clear HQ hxs
          obtain ⟨A2, c2, rfl⟩ := Kd.R_slice HO.out
          go_wp2_with (first | ((with_reducible refine gate_builtin (b := .append) (xs := #[.tmp 31, .tmp 32]) rfl ?_); at_builtin; refine Kd.R_append_rows (Kd.int .u8) (w0 := w) w.heap.size rfl (.tmp 31) (.tmp 32) 22 5 (.int .u8 0) 1 rfl Try.underlying22 info5 rfl (by decide) (by omega) (.slice A2 ([] : List Int).length c2) ([] : List Int) l0 _ _ _ (fun _ => True) (fun _ => False) rfl rfl (by (with_reducible repeat (first | apply Kd.R_alloc | apply Kd.R_drewN | apply Kd.R_drew)); exact HO.out) (Kd.C_below HR0.out (by repeat (first | (with_reducible first | exact HB.out | apply below_alloc | apply pw_below_drewN | apply below_drew1) | exact HB.out))) (fun _ _ h => h) (fun _ h => h.elim) (fun _ _ => trivial) (by repeat (first | (with_reducible first | exact HB.out | apply below_alloc | apply pw_below_drewN | apply below_drew1) | exact HB.out)) (below_size (by repeat (first | (with_reducible first | exact HB.out | apply below_alloc | apply pw_below_drewN | apply below_drew1) | exact HB.out))) (by have := HL.out; first | (simp only [List.length_nil]; omega) | omega) ?_; intro v9 w9 ho hb hg hat; have n0_ := Aside0.mk ho; have n1_ := Aside0.mk hb; clear HO HB; have HO := n0_; have HB := n1_; clear n0_ n1_ ho hb hg hat))
          go_roundg 1
          case measure => omega
          case rel => exact ⟨_, ⟨.inr (.inl ⟨rfl, List.nil_append _, rfl⟩)⟩, HO, HB⟩
        · rw [hxs] at HO
          clear HQ hxs
          obtain ⟨A2, c2, rfl⟩ := Kd.R_slice HO.out
          go_wp2_with (first | ((with_reducible refine gate_builtin (b := .append) (xs := #[.tmp 31, .tmp 32]) rfl ?_); at_builtin; refine Kd.R_append_rows (Kd.int .u8) (w0 := w) w.heap.size rfl (.tmp 31) (.tmp 32) 22 5 (.int .u8 0) 1 rfl Try.underlying22 info5 rfl (by decide) (by omega) (.slice A2 l0.length c2) l0 l1 _ _ _ (fun _ => True) (fun _ => False) rfl rfl (by (with_reducible repeat (first | apply Kd.R_alloc | apply Kd.R_drewN | apply Kd.R_drew)); exact HO.out) (Kd.C_below HR1.out (by repeat (first | (with_reducible first | exact HB.out | apply below_alloc | apply pw_below_drewN | apply below_drew1) | exact HB.out))) (fun _ _ h => h) (fun _ h => h.elim) (fun _ _ => trivial) (by repeat (first | (with_reducible first | exact HB.out | apply below_alloc | apply pw_below_drewN | apply below_drew1) | exact HB.out)) (below_size (by repeat (first | (with_reducible first | exact HB.out | apply below_alloc | apply pw_below_drewN | apply below_drew1) | exact HB.out))) (by have := HL.out; first | (simp only [List.length_nil]; omega) | omega) ?_; intro v9 w9 ho hb hg hat; have n0_ := Aside0.mk ho; have n1_ := Aside0.mk hb; clear HO HB; have HO := n0_; have HB := n1_; clear n0_ n1_ ho hb hg hat))
          go_roundg 0
          case measure => omega
          case rel => exact ⟨_, ⟨.inr (.inr ⟨rfl, rfl, rfl⟩)⟩, HO, HB⟩
        · rw [hxs] at HO
          clear HQ hxs
          go_wp2
          go_ret
          exact ⟨_, rfl, HO.out, HB.out⟩
def pad_Pad.f (k : Nat) (l0 : List Int) : Option (List Int) := if 0 ≤ Go.bits .andNot .i64 (l0.length : Int) 63 ∧ Go.bits .andNot .i64 (l0.length : Int) 63 ≤ (l0.length : Int) ∧ l0.length ≤ 900000 then
  ((pad_Tail.f k (l0.drop (Go.bits .andNot .i64 (l0.length : Int) 63).toNat) (IntKind.u64.wrap (l0.length : Int))).bind fun t => if t.1.length ≤ 5000 then some (l0.take (Go.bits .andNot .i64 (l0.length : Int) 63).toNat ++ t.1) else none) else none
theorem pad_Pad.mono : ∀ a0 k, LeO (pad_Pad.f k a0) (pad_Pad.f (k + 1) a0) := fun a0 k => by
  unfold pad_Pad.f
  exact LeO.ite (LeO.bind (pad_Tail.mono _ _ _) (fun _ => LeO.refl _)) (LeO.none _)
set_option maxHeartbeats 8000000 in
set_option maxRecDepth 100000 in
theorem pad_Pad.calls (k : Nat) (A0 : Option Addr) (c0 : Nat) (l0 : List Int) (r : List Int) (w : World) (hr0 : Kd.C (Kd.int .u8) w A0 l0.length l0) (hc0 : l0.length ≤ c0) (h : pad_Pad.f k l0 = some r) :
    Calls Try.prog 14 #[.slice A0 l0.length c0] w fun e w' => ∃ v0_ : Value, e = .returned (v0_) ∧ Kd.R (Kd.int .u8) 5 w' w.heap.size (fun _ => True) v0_ r ∧ Below w.heap.size w w' := by
  obtain ⟨i5, hi5, _, hsz5, _⟩ := info_parts info5
  have HR0 := Aside0.mk hr0
  have HC0 := Aside0.mk hc0
  have HB := Aside0.mk (Below.refl w.heap.size w)
  clear hr0 hc0
  unfold pad_Pad.f at h
  obtain ⟨s, hs⟩ : ∃ s, Go.bits .andNot .i64 (l0.length : Int) 63 = s := ⟨_, rfl⟩
  rw [hs] at h
  by_cases c : 0 ≤ s ∧ s ≤ (l0.length : Int) ∧ l0.length ≤ 900000
  · rw [if_pos c] at h
    replace h := Option.bind_eq_some_iff.mp h
    obtain ⟨⟨t1, t2⟩, A1, h⟩ := h
    have A1 := Aside0.mk A1
    replace h : (if t1.length ≤ 5000 then some (l0.take s.toNat ++ t1) else none) = some r := h
    by_cases d : t1.length ≤ 5000
    · rw [if_pos d] at h
      obtain rfl := Option.some.inj h
      have CC := Aside0.mk c
      have D := Aside0.mk d
      obtain ⟨A3, hcut, hA3, hC3⟩ := print_drop_of (P := Try.prog) (Value.int .u8) 0 22 5 .i64 Try.underlying22 hi5 hsz5 A0 c0 l0 s c.1 c.2.1 HC0.out
      obtain ⟨hcut2, hA4, hC4⟩ := print_take_of (P := Try.prog) (Value.int .u8) 0 22 5 .i64 Try.underlying22 hi5 hsz5 A0 c0 l0 s c.1 c.2.1 HC0.out
      have HR3 := Aside0.mk (show Kd.C (Kd.int .u8) w A3 (l0.drop s.toNat).length (l0.drop s.toNat) from Kd.C_of_reads (h1 := fun _ => rfl) (hA3 _ (Kd.reads_of_C HR0.out)))
      have HR4 := Aside0.mk (show Kd.C (Kd.int .u8) w A0 (l0.take s.toNat).length (l0.take s.toNat) from Kd.C_of_reads (h1 := fun _ => rfl) (hA4 _ (Kd.reads_of_C HR0.out)))
      have HC3 := Aside0.mk hC3
      have e1 : (l0.drop s.toNat).length = l0.length - s.toNat := List.length_drop
      have e2 : (l0.take s.toNat).length = s.toNat := by rw [List.length_take]; omega
      rw [e1] at hcut
      rw [e2] at hcut2
      have E1 := Aside0.mk e1
      have E2 := Aside0.mk e2
      have p1 := eq_true c.1
      have p2 := eq_true c.2.1
      clear c d h hA3 hA4 hC3 hC4 e1 e2
      go_enter Try.func14, Try.ntmps14
      go_wp2_with (first | ((with_reducible refine gate_callee (f := 8) rfl ?_); refine goesL_ (some 16) rfl rfl Try.func8 (by kernel_rfl) rfl #[.slice A3 (l0.drop s.toNat).length (c0 - s.toNat), .int .u64 (IntKind.u64.wrap (l0.length : Int))] rfl (by rw [E1.out]; (try simp only [List.map_toArray, List.map_cons, List.map_nil]); first | done | rfl) ?_; (with_reducible refine (pad_Tail.calls k A3 (c0 - s.toNat) (l0.drop s.toNat) (IntKind.u64.wrap (l0.length : Int)) t1 t2 _ (Kd.C_below HR3.out HB.out) HC3.out A1.out).mono ?_); rintro e w5 ⟨v5, rfl, ho, hb⟩; refine ⟨_, rfl, ?_⟩; have HT := Aside0.mk (Kd.R_lower ho (below_size HB.out)); have n1_ := Aside0.mk (below_step HB.out hb); clear HB; have HB := n1_; clear n1_ ho hb; obtain ⟨A5, c5, eo⟩ := Kd.R_slice HT.out; subst eo) | ((with_reducible refine gate_dst (N := 23) rfl ?_); refine Kd.event_run (w1 := (w5.alloc (.cells #[.slice A0 s.toNat c0, .slice A5 t1.length c5] 22 (0, 0)))) (v := .slice (some ⟨w5.heap.size, 0, none⟩) 2 2) rfl ?hr ?_; (case hr => first | (go_simp; done) | (go_simp; rfl)); have K0 := Aside0.mk (blk_new w5 (.cells #[.slice A0 s.toNat c0, .slice A5 t1.length c5] 22 (0, 0))); have n0_ := Aside0.mk (Kd.R_alloc HT.out (.cells #[.slice A0 s.toNat c0, .slice A5 t1.length c5] 22 (0, 0))); have n1_ := Aside0.mk (below_alloc HB.out (.cells #[.slice A0 s.toNat c0, .slice A5 t1.length c5] 22 (0, 0))); clear HT HB; have HT := n0_; have HB := n1_; clear n0_ n1_; generalize w5.alloc (.cells #[.slice A0 s.toNat c0, .slice A5 t1.length c5] 22 (0, 0)) = w6 at K0 HT HB ⊢; generalize w5.heap.size = g6 at K0 ⊢) | ((with_reducible refine gate_callee (f := 19) rfl ?_); refine goesL_ (some 24) rfl rfl Try.func19 (by kernel_rfl) rfl #[.slice (some ⟨g6, 0, none⟩) 2 2] rfl (by (try simp only [List.map_toArray, List.map_cons, List.map_nil]); first | done | rfl) ?_; (with_reducible refine (concat2 (A0 := A0) (c0 := c0) (l0 := l0.take s.toNat) (A1 := A5) (c1 := c5) (l1 := t1) (by rw [E2.out]; exact (blk_cell K0.out 0).trans rfl) ((blk_cell K0.out 1).trans rfl) (Kd.C_below HR4.out HB.out) (Kd.R_reads' HT.out).2.2 (by rw [E2.out]; have := CC.out; have := D.out; omega)).mono ?_); rintro e w7 ⟨v7, rfl, ho, hb⟩; refine ⟨_, rfl, ?_⟩; have HO := Aside0.mk (Kd.R_lower ho (below_size HB.out)); have n1_ := Aside0.mk (below_step HB.out hb); clear HB; have HB := n1_; clear n1_ ho hb))
      go_ret
      exact ⟨_, rfl, HO.out, HB.out⟩
    · rw [if_neg d] at h
      exact absurd h (by simp)
  · rw [if_neg c] at h
    exact absurd h (by simp)

/-! ### drawlotlaw02_alive: function 7 -/
def drawlotlaw02_alive.f (k : Nat)  : Option (Bool) := (pad_Pad.f k ((([97, 98, 99] : List Int)))).bind fun t110 => ((pad_Tail.f k ((([120] : List Int))) 65).bind fun bt119 => ((pad_Tail.f k ((([120] : List Int))) 64).bind fun bt129 => ((some (([] : List Int) : List Int)).bind fun y133 => (if y133.length + t110.length < 140737488355328 then ((some (y133 ++ t110 : List Int)).bind fun y136 => (if y136.length < 140737488355328 then ((pad_Cut.f k (y136 ++ [7])).bind fun bt142 => (if (t110.length : Int) = 64 then (if 3 < (t110.length : Int) then (if (rd t110 3) = 128 then (if 63 < (t110.length : Int) then (if (rd t110 63) = 24 then (if 62 < (t110.length : Int) then (if (rd t110 62) = 0 then (if bt119.2 = true then (if bt129.2 = true then (none) else (if (bt119.1.length : Int) = 64 then (if 62 < (bt119.1.length : Int) then (if (rd bt119.1 62) = 2 then (if 63 < (bt119.1.length : Int) then (if (rd bt119.1 63) = 8 then (if (bt142.1.length : Int) = 1 then (if 0 < (bt142.1.length : Int) then (if (Ar.get 64 (rd_L2 bt142.1 0) 0) = 97 then (if (bt142.2.length : Int) = 1 then (if 0 < (bt142.2.length : Int) then (if (rd bt142.2 0) = 7 then ((pad_Blocks.f 55).bind fun t155 => (if t155 = 1 then ((pad_Blocks.f 56).bind fun t156 => (some (t156 == 2))) else (none))) else (none)) else (none)) else (none)) else (none)) else (none)) else (none)) else (none)) else (none)) else (none)) else (none)) else (none))) else (none)) else (none)) else (none)) else (none)) else (none)) else (none)) else (none)) else (none))) else (none))) else (none)))))
theorem drawlotlaw02_alive.mono : ∀ k, LeO (drawlotlaw02_alive.f k ) (drawlotlaw02_alive.f (k + 1) ) := by
 intro  k
 unfold drawlotlaw02_alive.f
 repeat' first
   | (with_reducible exact pad_Cut.mono _ _)
   | (with_reducible exact pad_Pad.mono _ _)
   | (with_reducible exact pad_Tail.mono _ _ _)
   | (with_reducible exact LeO.refl _)
   | (with_reducible exact LeO.none _)
   | (with_reducible refine LeO.ite ?_ ?_)
   | (with_reducible refine LeO.bind ?_ (fun _ => ?_))
   | exact pad_Cut.mono _ _
   | exact pad_Pad.mono _ _
   | exact pad_Tail.mono _ _ _
   | exact LeO.none _
   | refine LeO.ite ?_ ?_
   | refine LeO.bind ?_ (fun _ => ?_)
set_option maxHeartbeats 8000000 in
set_option maxRecDepth 100000 in
theorem drawlotlaw02_alive.calls (k : Nat)  (r : Bool) (w : World) (h : drawlotlaw02_alive.f k  = some r) :
  Calls Try.prog 7 #[] w fun e w' => e = .returned (.bool r) ∧ Below w.heap.size w w' := by
 have HB := Aside0.mk (Below.refl w.heap.size w)
 have H : ((pad_Pad.f k ((([97, 98, 99] : List Int)))).bind fun t110 => ((pad_Tail.f k ((([120] : List Int))) 65).bind fun bt119 => ((pad_Tail.f k ((([120] : List Int))) 64).bind fun bt129 => ((some (([] : List Int) : List Int)).bind fun y133 => (if y133.length + t110.length < 140737488355328 then ((some (y133 ++ t110 : List Int)).bind fun y136 => (if y136.length < 140737488355328 then ((pad_Cut.f k (y136 ++ [7])).bind fun bt142 => (if (t110.length : Int) = 64 then (if 3 < (t110.length : Int) then (if (rd t110 3) = 128 then (if 63 < (t110.length : Int) then (if (rd t110 63) = 24 then (if 62 < (t110.length : Int) then (if (rd t110 62) = 0 then (if bt119.2 = true then (if bt129.2 = true then (none) else (if (bt119.1.length : Int) = 64 then (if 62 < (bt119.1.length : Int) then (if (rd bt119.1 62) = 2 then (if 63 < (bt119.1.length : Int) then (if (rd bt119.1 63) = 8 then (if (bt142.1.length : Int) = 1 then (if 0 < (bt142.1.length : Int) then (if (Ar.get 64 (rd_L2 bt142.1 0) 0) = 97 then (if (bt142.2.length : Int) = 1 then (if 0 < (bt142.2.length : Int) then (if (rd bt142.2 0) = 7 then ((pad_Blocks.f 55).bind fun t155 => (if t155 = 1 then ((pad_Blocks.f 56).bind fun t156 => (some (t156 == 2))) else (none))) else (none)) else (none)) else (none)) else (none)) else (none)) else (none)) else (none)) else (none)) else (none)) else (none)) else (none))) else (none)) else (none)) else (none)) else (none)) else (none)) else (none)) else (none)) else (none))) else (none))) else (none)))))) = some r := h
 clear h
 obtain ⟨y104, hy104⟩ : ∃ y_ : List Int, y_ = (([97, 98, 99] : List Int)) := ⟨_, rfl⟩
 replace H : ((pad_Pad.f k (y104)).bind fun t110 => ((pad_Tail.f k ((([120] : List Int))) 65).bind fun bt119 => ((pad_Tail.f k ((([120] : List Int))) 64).bind fun bt129 => ((some (([] : List Int) : List Int)).bind fun y133 => (if y133.length + t110.length < 140737488355328 then ((some (y133 ++ t110 : List Int)).bind fun y136 => (if y136.length < 140737488355328 then ((pad_Cut.f k (y136 ++ [7])).bind fun bt142 => (if (t110.length : Int) = 64 then (if 3 < (t110.length : Int) then (if (rd t110 3) = 128 then (if 63 < (t110.length : Int) then (if (rd t110 63) = 24 then (if 62 < (t110.length : Int) then (if (rd t110 62) = 0 then (if bt119.2 = true then (if bt129.2 = true then (none) else (if (bt119.1.length : Int) = 64 then (if 62 < (bt119.1.length : Int) then (if (rd bt119.1 62) = 2 then (if 63 < (bt119.1.length : Int) then (if (rd bt119.1 63) = 8 then (if (bt142.1.length : Int) = 1 then (if 0 < (bt142.1.length : Int) then (if (Ar.get 64 (rd_L2 bt142.1 0) 0) = 97 then (if (bt142.2.length : Int) = 1 then (if 0 < (bt142.2.length : Int) then (if (rd bt142.2 0) = 7 then ((pad_Blocks.f 55).bind fun t155 => (if t155 = 1 then ((pad_Blocks.f 56).bind fun t156 => (some (t156 == 2))) else (none))) else (none)) else (none)) else (none)) else (none)) else (none)) else (none)) else (none)) else (none)) else (none)) else (none)) else (none))) else (none)) else (none)) else (none)) else (none)) else (none)) else (none)) else (none)) else (none))) else (none))) else (none)))))) = some r := by first | (rw [hy104]; with_reducible exact H) | (have H2_ := (Option.bind_some _ _).symm.trans H; rw [hy104]; with_reducible exact H2_) | (have H2_ := (Option.bind_some _ _).symm.trans H; with_reducible exact H2_) | with_reducible exact H | (rw [hy104]; exact H) | exact H
 have Ny104 := Aside0.mk hy104
 clear hy104
 obtain ⟨y107, hy107⟩ : ∃ y_ : List Int, y_ = (y104) := ⟨_, rfl⟩
 replace H : ((pad_Pad.f k y107).bind fun t110 => ((pad_Tail.f k ((([120] : List Int))) 65).bind fun bt119 => ((pad_Tail.f k ((([120] : List Int))) 64).bind fun bt129 => ((some (([] : List Int) : List Int)).bind fun y133 => (if y133.length + t110.length < 140737488355328 then ((some (y133 ++ t110 : List Int)).bind fun y136 => (if y136.length < 140737488355328 then ((pad_Cut.f k (y136 ++ [7])).bind fun bt142 => (if (t110.length : Int) = 64 then (if 3 < (t110.length : Int) then (if (rd t110 3) = 128 then (if 63 < (t110.length : Int) then (if (rd t110 63) = 24 then (if 62 < (t110.length : Int) then (if (rd t110 62) = 0 then (if bt119.2 = true then (if bt129.2 = true then (none) else (if (bt119.1.length : Int) = 64 then (if 62 < (bt119.1.length : Int) then (if (rd bt119.1 62) = 2 then (if 63 < (bt119.1.length : Int) then (if (rd bt119.1 63) = 8 then (if (bt142.1.length : Int) = 1 then (if 0 < (bt142.1.length : Int) then (if (Ar.get 64 (rd_L2 bt142.1 0) 0) = 97 then (if (bt142.2.length : Int) = 1 then (if 0 < (bt142.2.length : Int) then (if (rd bt142.2 0) = 7 then ((pad_Blocks.f 55).bind fun t155 => (if t155 = 1 then ((pad_Blocks.f 56).bind fun t156 => (some (t156 == 2))) else (none))) else (none)) else (none)) else (none)) else (none)) else (none)) else (none)) else (none)) else (none)) else (none)) else (none)) else (none))) else (none)) else (none)) else (none)) else (none)) else (none)) else (none)) else (none)) else (none))) else (none))) else (none)))))) = some r := by first | (rw [hy107]; with_reducible exact H) | (have H2_ := (Option.bind_some _ _).symm.trans H; rw [hy107]; with_reducible exact H2_) | (have H2_ := (Option.bind_some _ _).symm.trans H; with_reducible exact H2_) | with_reducible exact H | (rw [hy107]; exact H) | exact H
 have Ny107 := Aside0.mk hy107
 clear hy107
 replace H := Option.bind_eq_some_iff.mp H
 obtain ⟨t110, A10, H⟩ := H
 replace H : ((pad_Tail.f k ((([120] : List Int))) 65).bind fun bt119 => ((pad_Tail.f k ((([120] : List Int))) 64).bind fun bt129 => ((some (([] : List Int) : List Int)).bind fun y133 => (if y133.length + t110.length < 140737488355328 then ((some (y133 ++ t110 : List Int)).bind fun y136 => (if y136.length < 140737488355328 then ((pad_Cut.f k (y136 ++ [7])).bind fun bt142 => (if (t110.length : Int) = 64 then (if 3 < (t110.length : Int) then (if (rd t110 3) = 128 then (if 63 < (t110.length : Int) then (if (rd t110 63) = 24 then (if 62 < (t110.length : Int) then (if (rd t110 62) = 0 then (if bt119.2 = true then (if bt129.2 = true then (none) else (if (bt119.1.length : Int) = 64 then (if 62 < (bt119.1.length : Int) then (if (rd bt119.1 62) = 2 then (if 63 < (bt119.1.length : Int) then (if (rd bt119.1 63) = 8 then (if (bt142.1.length : Int) = 1 then (if 0 < (bt142.1.length : Int) then (if (Ar.get 64 (rd_L2 bt142.1 0) 0) = 97 then (if (bt142.2.length : Int) = 1 then (if 0 < (bt142.2.length : Int) then (if (rd bt142.2 0) = 7 then ((pad_Blocks.f 55).bind fun t155 => (if t155 = 1 then ((pad_Blocks.f 56).bind fun t156 => (some (t156 == 2))) else (none))) else (none)) else (none)) else (none)) else (none)) else (none)) else (none)) else (none)) else (none)) else (none)) else (none)) else (none))) else (none)) else (none)) else (none)) else (none)) else (none)) else (none)) else (none)) else (none))) else (none))) else (none))))) = some r := H
 have A1 := Aside0.mk A10
 clear A10
 obtain ⟨y113, hy113⟩ : ∃ y_ : List Int, y_ = (([120] : List Int)) := ⟨_, rfl⟩
 replace H : ((pad_Tail.f k (y113) 65).bind fun bt119 => ((pad_Tail.f k ((([120] : List Int))) 64).bind fun bt129 => ((some (([] : List Int) : List Int)).bind fun y133 => (if y133.length + t110.length < 140737488355328 then ((some (y133 ++ t110 : List Int)).bind fun y136 => (if y136.length < 140737488355328 then ((pad_Cut.f k (y136 ++ [7])).bind fun bt142 => (if (t110.length : Int) = 64 then (if 3 < (t110.length : Int) then (if (rd t110 3) = 128 then (if 63 < (t110.length : Int) then (if (rd t110 63) = 24 then (if 62 < (t110.length : Int) then (if (rd t110 62) = 0 then (if bt119.2 = true then (if bt129.2 = true then (none) else (if (bt119.1.length : Int) = 64 then (if 62 < (bt119.1.length : Int) then (if (rd bt119.1 62) = 2 then (if 63 < (bt119.1.length : Int) then (if (rd bt119.1 63) = 8 then (if (bt142.1.length : Int) = 1 then (if 0 < (bt142.1.length : Int) then (if (Ar.get 64 (rd_L2 bt142.1 0) 0) = 97 then (if (bt142.2.length : Int) = 1 then (if 0 < (bt142.2.length : Int) then (if (rd bt142.2 0) = 7 then ((pad_Blocks.f 55).bind fun t155 => (if t155 = 1 then ((pad_Blocks.f 56).bind fun t156 => (some (t156 == 2))) else (none))) else (none)) else (none)) else (none)) else (none)) else (none)) else (none)) else (none)) else (none)) else (none)) else (none)) else (none))) else (none)) else (none)) else (none)) else (none)) else (none)) else (none)) else (none)) else (none))) else (none))) else (none))))) = some r := by first | (rw [hy113]; with_reducible exact H) | (have H2_ := (Option.bind_some _ _).symm.trans H; rw [hy113]; with_reducible exact H2_) | (have H2_ := (Option.bind_some _ _).symm.trans H; with_reducible exact H2_) | with_reducible exact H | (rw [hy113]; exact H) | exact H
 have Ny113 := Aside0.mk hy113
 clear hy113
 obtain ⟨y116, hy116⟩ : ∃ y_ : List Int, y_ = (y113) := ⟨_, rfl⟩
 replace H : ((pad_Tail.f k y116 65).bind fun bt119 => ((pad_Tail.f k ((([120] : List Int))) 64).bind fun bt129 => ((some (([] : List Int) : List Int)).bind fun y133 => (if y133.length + t110.length < 140737488355328 then ((some (y133 ++ t110 : List Int)).bind fun y136 => (if y136.length < 140737488355328 then ((pad_Cut.f k (y136 ++ [7])).bind fun bt142 => (if (t110.length : Int) = 64 then (if 3 < (t110.length : Int) then (if (rd t110 3) = 128 then (if 63 < (t110.length : Int) then (if (rd t110 63) = 24 then (if 62 < (t110.length : Int) then (if (rd t110 62) = 0 then (if bt119.2 = true then (if bt129.2 = true then (none) else (if (bt119.1.length : Int) = 64 then (if 62 < (bt119.1.length : Int) then (if (rd bt119.1 62) = 2 then (if 63 < (bt119.1.length : Int) then (if (rd bt119.1 63) = 8 then (if (bt142.1.length : Int) = 1 then (if 0 < (bt142.1.length : Int) then (if (Ar.get 64 (rd_L2 bt142.1 0) 0) = 97 then (if (bt142.2.length : Int) = 1 then (if 0 < (bt142.2.length : Int) then (if (rd bt142.2 0) = 7 then ((pad_Blocks.f 55).bind fun t155 => (if t155 = 1 then ((pad_Blocks.f 56).bind fun t156 => (some (t156 == 2))) else (none))) else (none)) else (none)) else (none)) else (none)) else (none)) else (none)) else (none)) else (none)) else (none)) else (none)) else (none))) else (none)) else (none)) else (none)) else (none)) else (none)) else (none)) else (none)) else (none))) else (none))) else (none))))) = some r := by first | (rw [hy116]; with_reducible exact H) | (have H2_ := (Option.bind_some _ _).symm.trans H; rw [hy116]; with_reducible exact H2_) | (have H2_ := (Option.bind_some _ _).symm.trans H; with_reducible exact H2_) | with_reducible exact H | (rw [hy116]; exact H) | exact H
 have Ny116 := Aside0.mk hy116
 clear hy116
 replace H := Option.bind_eq_some_iff.mp H
 obtain ⟨⟨t119, t120⟩, A20, H⟩ := H
 replace H : ((pad_Tail.f k ((([120] : List Int))) 64).bind fun bt129 => ((some (([] : List Int) : List Int)).bind fun y133 => (if y133.length + t110.length < 140737488355328 then ((some (y133 ++ t110 : List Int)).bind fun y136 => (if y136.length < 140737488355328 then ((pad_Cut.f k (y136 ++ [7])).bind fun bt142 => (if (t110.length : Int) = 64 then (if 3 < (t110.length : Int) then (if (rd t110 3) = 128 then (if 63 < (t110.length : Int) then (if (rd t110 63) = 24 then (if 62 < (t110.length : Int) then (if (rd t110 62) = 0 then (if t120 = true then (if bt129.2 = true then (none) else (if (t119.length : Int) = 64 then (if 62 < (t119.length : Int) then (if (rd t119 62) = 2 then (if 63 < (t119.length : Int) then (if (rd t119 63) = 8 then (if (bt142.1.length : Int) = 1 then (if 0 < (bt142.1.length : Int) then (if (Ar.get 64 (rd_L2 bt142.1 0) 0) = 97 then (if (bt142.2.length : Int) = 1 then (if 0 < (bt142.2.length : Int) then (if (rd bt142.2 0) = 7 then ((pad_Blocks.f 55).bind fun t155 => (if t155 = 1 then ((pad_Blocks.f 56).bind fun t156 => (some (t156 == 2))) else (none))) else (none)) else (none)) else (none)) else (none)) else (none)) else (none)) else (none)) else (none)) else (none)) else (none)) else (none))) else (none)) else (none)) else (none)) else (none)) else (none)) else (none)) else (none)) else (none))) else (none))) else (none)))) = some r := H
 have A2 := Aside0.mk A20
 clear A20
 obtain ⟨y123, hy123⟩ : ∃ y_ : List Int, y_ = (([120] : List Int)) := ⟨_, rfl⟩
 replace H : ((pad_Tail.f k (y123) 64).bind fun bt129 => ((some (([] : List Int) : List Int)).bind fun y133 => (if y133.length + t110.length < 140737488355328 then ((some (y133 ++ t110 : List Int)).bind fun y136 => (if y136.length < 140737488355328 then ((pad_Cut.f k (y136 ++ [7])).bind fun bt142 => (if (t110.length : Int) = 64 then (if 3 < (t110.length : Int) then (if (rd t110 3) = 128 then (if 63 < (t110.length : Int) then (if (rd t110 63) = 24 then (if 62 < (t110.length : Int) then (if (rd t110 62) = 0 then (if t120 = true then (if bt129.2 = true then (none) else (if (t119.length : Int) = 64 then (if 62 < (t119.length : Int) then (if (rd t119 62) = 2 then (if 63 < (t119.length : Int) then (if (rd t119 63) = 8 then (if (bt142.1.length : Int) = 1 then (if 0 < (bt142.1.length : Int) then (if (Ar.get 64 (rd_L2 bt142.1 0) 0) = 97 then (if (bt142.2.length : Int) = 1 then (if 0 < (bt142.2.length : Int) then (if (rd bt142.2 0) = 7 then ((pad_Blocks.f 55).bind fun t155 => (if t155 = 1 then ((pad_Blocks.f 56).bind fun t156 => (some (t156 == 2))) else (none))) else (none)) else (none)) else (none)) else (none)) else (none)) else (none)) else (none)) else (none)) else (none)) else (none)) else (none))) else (none)) else (none)) else (none)) else (none)) else (none)) else (none)) else (none)) else (none))) else (none))) else (none)))) = some r := by first | (rw [hy123]; with_reducible exact H) | (have H2_ := (Option.bind_some _ _).symm.trans H; rw [hy123]; with_reducible exact H2_) | (have H2_ := (Option.bind_some _ _).symm.trans H; with_reducible exact H2_) | with_reducible exact H | (rw [hy123]; exact H) | exact H
 have Ny123 := Aside0.mk hy123
 clear hy123
 obtain ⟨y126, hy126⟩ : ∃ y_ : List Int, y_ = (y123) := ⟨_, rfl⟩
 replace H : ((pad_Tail.f k y126 64).bind fun bt129 => ((some (([] : List Int) : List Int)).bind fun y133 => (if y133.length + t110.length < 140737488355328 then ((some (y133 ++ t110 : List Int)).bind fun y136 => (if y136.length < 140737488355328 then ((pad_Cut.f k (y136 ++ [7])).bind fun bt142 => (if (t110.length : Int) = 64 then (if 3 < (t110.length : Int) then (if (rd t110 3) = 128 then (if 63 < (t110.length : Int) then (if (rd t110 63) = 24 then (if 62 < (t110.length : Int) then (if (rd t110 62) = 0 then (if t120 = true then (if bt129.2 = true then (none) else (if (t119.length : Int) = 64 then (if 62 < (t119.length : Int) then (if (rd t119 62) = 2 then (if 63 < (t119.length : Int) then (if (rd t119 63) = 8 then (if (bt142.1.length : Int) = 1 then (if 0 < (bt142.1.length : Int) then (if (Ar.get 64 (rd_L2 bt142.1 0) 0) = 97 then (if (bt142.2.length : Int) = 1 then (if 0 < (bt142.2.length : Int) then (if (rd bt142.2 0) = 7 then ((pad_Blocks.f 55).bind fun t155 => (if t155 = 1 then ((pad_Blocks.f 56).bind fun t156 => (some (t156 == 2))) else (none))) else (none)) else (none)) else (none)) else (none)) else (none)) else (none)) else (none)) else (none)) else (none)) else (none)) else (none))) else (none)) else (none)) else (none)) else (none)) else (none)) else (none)) else (none)) else (none))) else (none))) else (none)))) = some r := by first | (rw [hy126]; with_reducible exact H) | (have H2_ := (Option.bind_some _ _).symm.trans H; rw [hy126]; with_reducible exact H2_) | (have H2_ := (Option.bind_some _ _).symm.trans H; with_reducible exact H2_) | with_reducible exact H | (rw [hy126]; exact H) | exact H
 have Ny126 := Aside0.mk hy126
 clear hy126
 replace H := Option.bind_eq_some_iff.mp H
 obtain ⟨⟨t129, t130⟩, A30, H⟩ := H
 replace H : ((some (([] : List Int) : List Int)).bind fun y133 => (if y133.length + t110.length < 140737488355328 then ((some (y133 ++ t110 : List Int)).bind fun y136 => (if y136.length < 140737488355328 then ((pad_Cut.f k (y136 ++ [7])).bind fun bt142 => (if (t110.length : Int) = 64 then (if 3 < (t110.length : Int) then (if (rd t110 3) = 128 then (if 63 < (t110.length : Int) then (if (rd t110 63) = 24 then (if 62 < (t110.length : Int) then (if (rd t110 62) = 0 then (if t120 = true then (if t130 = true then (none) else (if (t119.length : Int) = 64 then (if 62 < (t119.length : Int) then (if (rd t119 62) = 2 then (if 63 < (t119.length : Int) then (if (rd t119 63) = 8 then (if (bt142.1.length : Int) = 1 then (if 0 < (bt142.1.length : Int) then (if (Ar.get 64 (rd_L2 bt142.1 0) 0) = 97 then (if (bt142.2.length : Int) = 1 then (if 0 < (bt142.2.length : Int) then (if (rd bt142.2 0) = 7 then ((pad_Blocks.f 55).bind fun t155 => (if t155 = 1 then ((pad_Blocks.f 56).bind fun t156 => (some (t156 == 2))) else (none))) else (none)) else (none)) else (none)) else (none)) else (none)) else (none)) else (none)) else (none)) else (none)) else (none)) else (none))) else (none)) else (none)) else (none)) else (none)) else (none)) else (none)) else (none)) else (none))) else (none))) else (none))) = some r := H
 have A3 := Aside0.mk A30
 clear A30
 obtain ⟨y133, hy133⟩ : ∃ y_ : List Int, y_ = (([] : List Int)) := ⟨_, rfl⟩
 replace H : (if y133.length + t110.length < 140737488355328 then ((some (y133 ++ t110 : List Int)).bind fun y136 => (if y136.length < 140737488355328 then ((pad_Cut.f k (y136 ++ [7])).bind fun bt142 => (if (t110.length : Int) = 64 then (if 3 < (t110.length : Int) then (if (rd t110 3) = 128 then (if 63 < (t110.length : Int) then (if (rd t110 63) = 24 then (if 62 < (t110.length : Int) then (if (rd t110 62) = 0 then (if t120 = true then (if t130 = true then (none) else (if (t119.length : Int) = 64 then (if 62 < (t119.length : Int) then (if (rd t119 62) = 2 then (if 63 < (t119.length : Int) then (if (rd t119 63) = 8 then (if (bt142.1.length : Int) = 1 then (if 0 < (bt142.1.length : Int) then (if (Ar.get 64 (rd_L2 bt142.1 0) 0) = 97 then (if (bt142.2.length : Int) = 1 then (if 0 < (bt142.2.length : Int) then (if (rd bt142.2 0) = 7 then ((pad_Blocks.f 55).bind fun t155 => (if t155 = 1 then ((pad_Blocks.f 56).bind fun t156 => (some (t156 == 2))) else (none))) else (none)) else (none)) else (none)) else (none)) else (none)) else (none)) else (none)) else (none)) else (none)) else (none)) else (none))) else (none)) else (none)) else (none)) else (none)) else (none)) else (none)) else (none)) else (none))) else (none))) else (none)) = some r := by first | (rw [hy133]; with_reducible exact H) | (have H2_ := (Option.bind_some _ _).symm.trans H; rw [hy133]; with_reducible exact H2_) | (have H2_ := (Option.bind_some _ _).symm.trans H; with_reducible exact H2_) | with_reducible exact H | (rw [hy133]; exact H) | exact H
 have Ny133 := Aside0.mk hy133
 clear hy133
 by_cases c4 : y133.length + t110.length < 140737488355328
 ·rw [if_pos c4] at H
  have LMc4 := Aside0.mk c4
  clear c4
  obtain ⟨y136, hy136⟩ : ∃ y_ : List Int, y_ = (y133 ++ t110) := ⟨_, rfl⟩
  replace H : (if y136.length < 140737488355328 then ((pad_Cut.f k (y136 ++ [7])).bind fun bt142 => (if (t110.length : Int) = 64 then (if 3 < (t110.length : Int) then (if (rd t110 3) = 128 then (if 63 < (t110.length : Int) then (if (rd t110 63) = 24 then (if 62 < (t110.length : Int) then (if (rd t110 62) = 0 then (if t120 = true then (if t130 = true then (none) else (if (t119.length : Int) = 64 then (if 62 < (t119.length : Int) then (if (rd t119 62) = 2 then (if 63 < (t119.length : Int) then (if (rd t119 63) = 8 then (if (bt142.1.length : Int) = 1 then (if 0 < (bt142.1.length : Int) then (if (Ar.get 64 (rd_L2 bt142.1 0) 0) = 97 then (if (bt142.2.length : Int) = 1 then (if 0 < (bt142.2.length : Int) then (if (rd bt142.2 0) = 7 then ((pad_Blocks.f 55).bind fun t155 => (if t155 = 1 then ((pad_Blocks.f 56).bind fun t156 => (some (t156 == 2))) else (none))) else (none)) else (none)) else (none)) else (none)) else (none)) else (none)) else (none)) else (none)) else (none)) else (none)) else (none))) else (none)) else (none)) else (none)) else (none)) else (none)) else (none)) else (none)) else (none))) else (none)) = some r := by first | (rw [hy136]; with_reducible exact H) | (have H2_ := (Option.bind_some _ _).symm.trans H; rw [hy136]; with_reducible exact H2_) | (have H2_ := (Option.bind_some _ _).symm.trans H; with_reducible exact H2_) | with_reducible exact H | (rw [hy136]; exact H) | exact H
  have Ny136 := Aside0.mk hy136
  clear hy136
  by_cases c5 : y136.length < 140737488355328
  ·rw [if_pos c5] at H
   have LMc5 := Aside0.mk c5
   clear c5
   obtain ⟨y139, hy139⟩ : ∃ y_ : List Int, y_ = (y136 ++ [7]) := ⟨_, rfl⟩
   replace H : ((pad_Cut.f k y139).bind fun bt142 => (if (t110.length : Int) = 64 then (if 3 < (t110.length : Int) then (if (rd t110 3) = 128 then (if 63 < (t110.length : Int) then (if (rd t110 63) = 24 then (if 62 < (t110.length : Int) then (if (rd t110 62) = 0 then (if t120 = true then (if t130 = true then (none) else (if (t119.length : Int) = 64 then (if 62 < (t119.length : Int) then (if (rd t119 62) = 2 then (if 63 < (t119.length : Int) then (if (rd t119 63) = 8 then (if (bt142.1.length : Int) = 1 then (if 0 < (bt142.1.length : Int) then (if (Ar.get 64 (rd_L2 bt142.1 0) 0) = 97 then (if (bt142.2.length : Int) = 1 then (if 0 < (bt142.2.length : Int) then (if (rd bt142.2 0) = 7 then ((pad_Blocks.f 55).bind fun t155 => (if t155 = 1 then ((pad_Blocks.f 56).bind fun t156 => (some (t156 == 2))) else (none))) else (none)) else (none)) else (none)) else (none)) else (none)) else (none)) else (none)) else (none)) else (none)) else (none)) else (none))) else (none)) else (none)) else (none)) else (none)) else (none)) else (none)) else (none)) else (none))) = some r := by first | (rw [hy139]; with_reducible exact H) | (have H2_ := (Option.bind_some _ _).symm.trans H; rw [hy139]; with_reducible exact H2_) | (have H2_ := (Option.bind_some _ _).symm.trans H; with_reducible exact H2_) | with_reducible exact H | (rw [hy139]; exact H) | exact H
   have Ny139 := Aside0.mk hy139
   clear hy139
   replace H := Option.bind_eq_some_iff.mp H
   obtain ⟨⟨t142, t145⟩, A60, H⟩ := H
   replace H : (if (t110.length : Int) = 64 then (if 3 < (t110.length : Int) then (if (rd t110 3) = 128 then (if 63 < (t110.length : Int) then (if (rd t110 63) = 24 then (if 62 < (t110.length : Int) then (if (rd t110 62) = 0 then (if t120 = true then (if t130 = true then (none) else (if (t119.length : Int) = 64 then (if 62 < (t119.length : Int) then (if (rd t119 62) = 2 then (if 63 < (t119.length : Int) then (if (rd t119 63) = 8 then (if (t142.length : Int) = 1 then (if 0 < (t142.length : Int) then (if (Ar.get 64 (rd_L2 t142 0) 0) = 97 then (if (t145.length : Int) = 1 then (if 0 < (t145.length : Int) then (if (rd t145 0) = 7 then ((pad_Blocks.f 55).bind fun t155 => (if t155 = 1 then ((pad_Blocks.f 56).bind fun t156 => (some (t156 == 2))) else (none))) else (none)) else (none)) else (none)) else (none)) else (none)) else (none)) else (none)) else (none)) else (none)) else (none)) else (none))) else (none)) else (none)) else (none)) else (none)) else (none)) else (none)) else (none)) else (none)) = some r := H
   have A6 := Aside0.mk A60
   clear A60
   by_cases c7 : (t110.length : Int) = 64
   ·rw [if_pos c7] at H
    have c7b0 : ((t110.length : Int) == 64) = true := beq_iff_eq.mpr c7
    have c7b1 : ((t110.length : Int) != 64) = false := bne_eq_false_iff_eq.mpr c7
    clear c7
    by_cases c8 : 3 < (t110.length : Int)
    ·rw [if_pos c8] at H
     have c8b0 : decide (3 < (t110.length : Int)) = true := decide_eq_true c8
     have c8b1 : decide (3 < t110.length) = true := decide_eq_true (by omega)
     clear c8
     by_cases c9 : (rd t110 3) = 128
     ·rw [if_pos c9] at H
      have c9b0 : ((rd t110 3) == 128) = true := beq_iff_eq.mpr c9
      have c9b1 : ((rd t110 3) != 128) = false := bne_eq_false_iff_eq.mpr c9
      clear c9
      by_cases c10 : 63 < (t110.length : Int)
      ·rw [if_pos c10] at H
       have c10b0 : decide (63 < (t110.length : Int)) = true := decide_eq_true c10
       have c10b1 : decide (63 < t110.length) = true := decide_eq_true (by omega)
       clear c10
       by_cases c11 : (rd t110 63) = 24
       ·rw [if_pos c11] at H
        have c11b0 : ((rd t110 63) == 24) = true := beq_iff_eq.mpr c11
        have c11b1 : ((rd t110 63) != 24) = false := bne_eq_false_iff_eq.mpr c11
        clear c11
        by_cases c12 : 62 < (t110.length : Int)
        ·rw [if_pos c12] at H
         have c12b0 : decide (62 < (t110.length : Int)) = true := decide_eq_true c12
         have c12b1 : decide (62 < t110.length) = true := decide_eq_true (by omega)
         clear c12
         by_cases c13 : (rd t110 62) = 0
         ·rw [if_pos c13] at H
          have c13b0 : ((rd t110 62) == 0) = true := beq_iff_eq.mpr c13
          have c13b1 : ((rd t110 62) != 0) = false := bne_eq_false_iff_eq.mpr c13
          clear c13
          by_cases c14 : t120 = true
          ·subst c14
           have H1 : (if t130 = true then (none) else (if (t119.length : Int) = 64 then (if 62 < (t119.length : Int) then (if (rd t119 62) = 2 then (if 63 < (t119.length : Int) then (if (rd t119 63) = 8 then (if (t142.length : Int) = 1 then (if 0 < (t142.length : Int) then (if (Ar.get 64 (rd_L2 t142 0) 0) = 97 then (if (t145.length : Int) = 1 then (if 0 < (t145.length : Int) then (if (rd t145 0) = 7 then ((pad_Blocks.f 55).bind fun t155 => (if t155 = 1 then ((pad_Blocks.f 56).bind fun t156 => (some (t156 == 2))) else (none))) else (none)) else (none)) else (none)) else (none)) else (none)) else (none)) else (none)) else (none)) else (none)) else (none)) else (none))) = some r := by rw [if_pos rfl] at H; exact H
           clear H
           have H := H1
           clear H1
           by_cases c15 : t130 = true
           ·subst c15
            have H1 : (none) = some r := by rw [if_pos rfl] at H; exact H
            clear H
            have H := H1
            clear H1
            exact absurd H (by simp)
           ·replace c15 := Bool.eq_false_iff.mpr c15
            subst c15
            have H1 : (if (t119.length : Int) = 64 then (if 62 < (t119.length : Int) then (if (rd t119 62) = 2 then (if 63 < (t119.length : Int) then (if (rd t119 63) = 8 then (if (t142.length : Int) = 1 then (if 0 < (t142.length : Int) then (if (Ar.get 64 (rd_L2 t142 0) 0) = 97 then (if (t145.length : Int) = 1 then (if 0 < (t145.length : Int) then (if (rd t145 0) = 7 then ((pad_Blocks.f 55).bind fun t155 => (if t155 = 1 then ((pad_Blocks.f 56).bind fun t156 => (some (t156 == 2))) else (none))) else (none)) else (none)) else (none)) else (none)) else (none)) else (none)) else (none)) else (none)) else (none)) else (none)) else (none)) = some r := by rw [if_neg (show ¬ (false = true) by decide)] at H; exact H
            clear H
            have H := H1
            clear H1
            by_cases c16 : (t119.length : Int) = 64
            ·rw [if_pos c16] at H
             have c16b0 : ((t119.length : Int) == 64) = true := beq_iff_eq.mpr c16
             have c16b1 : ((t119.length : Int) != 64) = false := bne_eq_false_iff_eq.mpr c16
             clear c16
             by_cases c17 : 62 < (t119.length : Int)
             ·rw [if_pos c17] at H
              have c17b0 : decide (62 < (t119.length : Int)) = true := decide_eq_true c17
              have c17b1 : decide (62 < t119.length) = true := decide_eq_true (by omega)
              clear c17
              by_cases c18 : (rd t119 62) = 2
              ·rw [if_pos c18] at H
               have c18b0 : ((rd t119 62) == 2) = true := beq_iff_eq.mpr c18
               have c18b1 : ((rd t119 62) != 2) = false := bne_eq_false_iff_eq.mpr c18
               clear c18
               by_cases c19 : 63 < (t119.length : Int)
               ·rw [if_pos c19] at H
                have c19b0 : decide (63 < (t119.length : Int)) = true := decide_eq_true c19
                have c19b1 : decide (63 < t119.length) = true := decide_eq_true (by omega)
                clear c19
                by_cases c20 : (rd t119 63) = 8
                ·rw [if_pos c20] at H
                 have c20b0 : ((rd t119 63) == 8) = true := beq_iff_eq.mpr c20
                 have c20b1 : ((rd t119 63) != 8) = false := bne_eq_false_iff_eq.mpr c20
                 clear c20
                 by_cases c21 : (t142.length : Int) = 1
                 ·rw [if_pos c21] at H
                  have c21b0 : ((t142.length : Int) == 1) = true := beq_iff_eq.mpr c21
                  have c21b1 : ((t142.length : Int) != 1) = false := bne_eq_false_iff_eq.mpr c21
                  clear c21
                  by_cases c22 : 0 < (t142.length : Int)
                  ·rw [if_pos c22] at H
                   have c22b0 : decide (0 < (t142.length : Int)) = true := decide_eq_true c22
                   have c22b1 : decide (0 < t142.length) = true := decide_eq_true (by omega)
                   clear c22
                   by_cases c23 : (Ar.get 64 (rd_L2 t142 0) 0) = 97
                   ·rw [if_pos c23] at H
                    have c23b0 : ((Ar.get 64 (rd_L2 t142 0) 0) == 97) = true := beq_iff_eq.mpr c23
                    have c23b1 : ((Ar.get 64 (rd_L2 t142 0) 0) != 97) = false := bne_eq_false_iff_eq.mpr c23
                    clear c23
                    by_cases c24 : (t145.length : Int) = 1
                    ·rw [if_pos c24] at H
                     have c24b0 : ((t145.length : Int) == 1) = true := beq_iff_eq.mpr c24
                     have c24b1 : ((t145.length : Int) != 1) = false := bne_eq_false_iff_eq.mpr c24
                     clear c24
                     by_cases c25 : 0 < (t145.length : Int)
                     ·rw [if_pos c25] at H
                      have c25b0 : decide (0 < (t145.length : Int)) = true := decide_eq_true c25
                      have c25b1 : decide (0 < t145.length) = true := decide_eq_true (by omega)
                      clear c25
                      by_cases c26 : (rd t145 0) = 7
                      ·rw [if_pos c26] at H
                       have c26b0 : ((rd t145 0) == 7) = true := beq_iff_eq.mpr c26
                       have c26b1 : ((rd t145 0) != 7) = false := bne_eq_false_iff_eq.mpr c26
                       clear c26
                       replace H := Option.bind_eq_some_iff.mp H
                       obtain ⟨t155, A270, H⟩ := H
                       replace H : (if t155 = 1 then ((pad_Blocks.f 56).bind fun t156 => (some (t156 == 2))) else (none)) = some r := H
                       have A27 := Aside0.mk A270
                       clear A270
                       by_cases c28 : t155 = 1
                       ·rw [if_pos c28] at H
                        have c28b0 : (t155 == 1) = true := beq_iff_eq.mpr c28
                        have c28b1 : (t155 != 1) = false := bne_eq_false_iff_eq.mpr c28
                        clear c28
                        replace H := Option.bind_eq_some_iff.mp H
                        obtain ⟨t156, A290, H⟩ := H
                        replace H : (some (t156 == 2)) = some r := H
                        have A29 := Aside0.mk A290
                        clear A290
                        obtain rfl := Option.some.inj H
                        go_enter Try.func7, Try.ntmps7
                        try simp only [List.append]
                        go_wp2_with (first | ((with_reducible refine gate_dst (N := 8) rfl ?_); (try (refine gate_guard (by rfl) ?_; dsimp only)); refine Kd.R_lit (Kd.int .u8) _ 5 ?hg (N := 8) ?hd (xs := ([97, 98, 99] : List Int)) (inner := [.int .u8 97, .int .u8 98, .int .u8 99]) (ok := fun _ => True) (okp := fun _ => True) ?hr ?hp (fun _ hk => hk) trivial (Below.refl _ _) (Nat.le_refl _) (by simp) ?_; (case hd => rfl); (case hg => rfl); (case hr => first | (go_simp; done) | (go_simp; rfl)); (case hp => exact (Reps.one (show Kd.M (Kd.int .u8) _ _ _ 97 [.int .u8 97] from rfl) (Reps.one (show Kd.M (Kd.int .u8) _ _ _ 98 [.int .u8 98] from rfl) (Reps.one (show Kd.M (Kd.int .u8) _ _ _ 99 [.int .u8 99] from rfl) (Reps.none _ _))))); intro v105 w30 ho31 hb hg_ hnew_; clear hg_ hnew_; (first | rw [← Ny104.out] at ho31 | (simp only [Int.reduceToNat] at ho31; rw [← Ny104.out] at ho31)); have n0_ := Aside0.mk (Kd.R_lower ho31 (below_size (by repeat (first | (with_reducible first | exact HB.out | apply below_alloc | apply pw_below_drewN | apply below_drew1) | exact HB.out)))); have n1_ := Aside0.mk (below_step (by repeat (first | (with_reducible first | exact HB.out | apply below_alloc | apply pw_below_drewN | apply below_drew1) | exact HB.out)) hb); clear HB; have HO106 := n0_; have HB := n1_; clear n0_ n1_; clear hb ho31) | ((with_reducible refine gate_dst (N := 9) rfl ?_); (try (refine gate_guard (by rfl) ?_; dsimp only)); refine Ar.mark_event (w0 := w) rfl (D := 9) rfl (T := 22) rfl Try.underlying22 Try.underlying5 (v := v105) rfl (k := .u8) (e := 5) (xs := y104) (base := w.heap.size) (ok := (fun _ => True)) ?aO ?aP ?aB ?_; (case aB => exact (by repeat (first | (with_reducible first | exact HB.out | apply below_alloc | apply pw_below_drewN | apply below_drew1) | exact HB.out))); (case aO => exact (by (with_reducible repeat (first | apply Kd.R_alloc | apply Kd.R_drewN | apply Kd.R_drew)); exact HO106.out)); (case aP => first | (rw [Ny104.out]; simp; done) | (simp; done) | omega); intro v108 w32 ho hb hg hat; rw [← Ny107.out] at ho; have n0_ := Aside0.mk (hb); have n1_ := Aside0.mk (ho); clear HB; clear HO106; have HB := n0_; have HO109 := n1_; clear n0_ n1_; clear ho hb hg hat; obtain ⟨Ao33, co33, eo33⟩ := Kd.V_slice HO109.out; subst eo33) | ((with_reducible refine gate_callee (f := 14) rfl ?_); refine goesL_ (some 10) rfl rfl Try.func14 (by kernel_rfl) rfl #[.slice Ao33 y107.length co33] rfl (by (try simp only [List.map_toArray, List.map_cons, List.map_nil]); first | done | rfl | (simp only [List.length_drop, List.length_take]; rfl)) ?_; (with_reducible refine (pad_Pad.calls k _ _ y107 t110 _ ?side1 ?side2 A1.out).mono ?_); (case side1 => repeat (first | exact (Kd.V_reads' HO109.out).2.2 | (with_reducible refine Kd.C_alloc ?_ _) | (with_reducible refine Kd.C_drewN ?_ _) | (with_reducible refine Kd.C_drew ?_))); (case side2 => exact (Kd.V_reads' HO109.out).2.1); rintro e w34 ⟨v111, rfl, ho0, hb⟩; refine ⟨_, rfl, ?_⟩; have n0_ := Aside0.mk (Kd.V_elder' (by (with_reducible repeat (first | apply Kd.V_alloc | apply Kd.V_drewN | apply Kd.V_drew)); exact HO109.out) (Kd.R_base ho0) hb); have n1_ := Aside0.mk (Kd.R_lower ho0 (below_size (by repeat (first | (with_reducible first | exact HB.out | apply below_alloc | apply pw_below_drewN | apply below_drew1) | exact HB.out)))); have n2_ := Aside0.mk (below_step (by repeat (first | (with_reducible first | exact HB.out | apply below_alloc | apply pw_below_drewN | apply below_drew1) | exact HB.out)) hb); clear HO109; clear HB; have HO109 := n0_; have HO112 := n1_; have HB := n2_; clear n0_ n1_ n2_; (try clear hb); (try clear hb2); (try clear hk); (try clear hi); (try clear ho0)) | ((with_reducible refine gate_dst (N := 12) rfl ?_); (try (refine gate_guard (by rfl) ?_; dsimp only)); refine Kd.R_lit (Kd.int .u8) _ 5 ?hg (N := 12) ?hd (xs := ([120] : List Int)) (inner := [.int .u8 120]) (ok := fun _ => True) (okp := fun _ => True) ?hr ?hp (fun _ hk => hk) trivial (Below.refl _ _) (Nat.le_refl _) (by simp) ?_; (case hd => rfl); (case hg => rfl); (case hr => first | (go_simp; done) | (go_simp; rfl)); (case hp => exact (Reps.one (show Kd.M (Kd.int .u8) _ _ _ 120 [.int .u8 120] from rfl) (Reps.none _ _))); intro v114 w35 ho36 hb hg_ hnew_; clear hg_ hnew_; (first | rw [← Ny113.out] at ho36 | (simp only [Int.reduceToNat] at ho36; rw [← Ny113.out] at ho36)); have n0_ := Aside0.mk (Kd.V_elder' (by (with_reducible repeat (first | apply Kd.V_alloc | apply Kd.V_drewN | apply Kd.V_drew)); exact HO109.out) (Kd.R_base ho36) hb); have n1_ := Aside0.mk (Kd.R_elder' (by (with_reducible repeat (first | apply Kd.R_alloc | apply Kd.R_drewN | apply Kd.R_drew)); exact HO112.out) (Kd.R_base ho36) hb); have n2_ := Aside0.mk (Kd.R_lower (Kd.R_new' ho36 (Kd.R_lt (by (with_reducible repeat (first | apply Kd.R_alloc | apply Kd.R_drewN | apply Kd.R_drew)); exact HO112.out))) (below_size (by repeat (first | (with_reducible first | exact HB.out | apply below_alloc | apply pw_below_drewN | apply below_drew1) | exact HB.out)))); have n3_ := Aside0.mk (below_step (by repeat (first | (with_reducible first | exact HB.out | apply below_alloc | apply pw_below_drewN | apply below_drew1) | exact HB.out)) hb); clear HO109; clear HO112; clear HB; have HO109 := n0_; have HO112 := n1_; have HO115 := n2_; have HB := n3_; clear n0_ n1_ n2_ n3_; clear hb ho36) | ((with_reducible refine gate_dst (N := 13) rfl ?_); (try (refine gate_guard (by rfl) ?_; dsimp only)); refine Ar.mark_event (w0 := w) rfl (D := 13) rfl (T := 22) rfl Try.underlying22 Try.underlying5 (v := v114) rfl (k := .u8) (e := 5) (xs := y113) (base := w.heap.size) (ok := (fun k_ => some k_ ≠ (v111 : Value).ownBlock)) ?aO ?aP ?aB ?_; (case aB => exact (by repeat (first | (with_reducible first | exact HB.out | apply below_alloc | apply pw_below_drewN | apply below_drew1) | exact HB.out))); (case aO => exact (by (with_reducible repeat (first | apply Kd.R_alloc | apply Kd.R_drewN | apply Kd.R_drew)); exact Kd.R_mono HO115.out (fun _ hk => hk.2))); (case aP => first | (rw [Ny113.out]; simp; done) | (simp; done) | omega); intro v117 w37 ho hb hg hat; rw [← Ny116.out] at ho; have n0_ := Aside0.mk (Kd.V_afterv (ok := (fun k_ => some k_ ≠ (v111 : Value).ownBlock)) (by (with_reducible repeat (first | apply Kd.V_alloc | apply Kd.V_drewN | apply Kd.V_drew)); exact Kd.V_mono HO109.out (fun _ hk => ⟨hk.1.2, hk.2⟩)) hg hat); have n1_ := Aside0.mk (Kd.R_after (ok := (fun _ => True)) (by (with_reducible repeat (first | apply Kd.R_alloc | apply Kd.R_drewN | apply Kd.R_drew)); exact HO112.out) hg hat); have n2_ := Aside0.mk (hb); have n3_ := Aside0.mk (ho); clear HO109; clear HO112; clear HB; clear HO115; have HO109 := n0_; have HO112 := n1_; have HB := n2_; have HO118 := n3_; clear n0_ n1_ n2_ n3_; clear ho hb hg hat; obtain ⟨Ao38, co38, eo38⟩ := Kd.V_slice HO118.out; subst eo38) | ((with_reducible refine gate_callee (f := 8) rfl ?_); refine goesL_ (some 14) rfl rfl Try.func8 (by kernel_rfl) rfl #[.slice Ao38 y116.length co38, .int .u64 65] rfl (by (try simp only [List.map_toArray, List.map_cons, List.map_nil]); first | done | rfl | (simp only [List.length_drop, List.length_take]; rfl)) ?_; (with_reducible refine (pad_Tail.calls k _ _ y116 65 t119 true _ ?side1 ?side2 A2.out).mono ?_); (case side1 => repeat (first | exact (Kd.V_reads' HO118.out).2.2 | (with_reducible refine Kd.C_alloc ?_ _) | (with_reducible refine Kd.C_drewN ?_ _) | (with_reducible refine Kd.C_drew ?_))); (case side2 => exact (Kd.V_reads' HO118.out).2.1); rintro e w39 ⟨v121, rfl, ho0, hb⟩; refine ⟨_, rfl, ?_⟩; have n0_ := Aside0.mk (Kd.V_elder' (by (with_reducible repeat (first | apply Kd.V_alloc | apply Kd.V_drewN | apply Kd.V_drew)); exact HO109.out) (Kd.R_base ho0) hb); have n1_ := Aside0.mk (Kd.R_elder' (by (with_reducible repeat (first | apply Kd.R_alloc | apply Kd.R_drewN | apply Kd.R_drew)); exact HO112.out) (Kd.R_base ho0) hb); have n2_ := Aside0.mk (Kd.V_elder' (by (with_reducible repeat (first | apply Kd.V_alloc | apply Kd.V_drewN | apply Kd.V_drew)); exact HO118.out) (Kd.R_base ho0) hb); have n3_ := Aside0.mk (Kd.R_lower (Kd.R_new' ho0 (Kd.R_lt (by (with_reducible repeat (first | apply Kd.R_alloc | apply Kd.R_drewN | apply Kd.R_drew)); exact HO112.out))) (below_size (by repeat (first | (with_reducible first | exact HB.out | apply below_alloc | apply pw_below_drewN | apply below_drew1) | exact HB.out)))); have n4_ := Aside0.mk (below_step (by repeat (first | (with_reducible first | exact HB.out | apply below_alloc | apply pw_below_drewN | apply below_drew1) | exact HB.out)) hb); clear HO109; clear HO112; clear HO118; clear HB; have HO109 := n0_; have HO112 := n1_; have HO118 := n2_; have HO122 := n3_; have HB := n4_; clear n0_ n1_ n2_ n3_ n4_; (try clear hb); (try clear hb2); (try clear hk); (try clear hi); (try clear ho0)) | ((with_reducible refine gate_dst (N := 18) rfl ?_); (try (refine gate_guard (by rfl) ?_; dsimp only)); refine Kd.R_lit (Kd.int .u8) _ 5 ?hg (N := 18) ?hd (xs := ([120] : List Int)) (inner := [.int .u8 120]) (ok := fun _ => True) (okp := fun _ => True) ?hr ?hp (fun _ hk => hk) trivial (Below.refl _ _) (Nat.le_refl _) (by simp) ?_; (case hd => rfl); (case hg => rfl); (case hr => first | (go_simp; done) | (go_simp; rfl)); (case hp => exact (Reps.one (show Kd.M (Kd.int .u8) _ _ _ 120 [.int .u8 120] from rfl) (Reps.none _ _))); intro v124 w40 ho41 hb hg_ hnew_; clear hg_ hnew_; (first | rw [← Ny123.out] at ho41 | (simp only [Int.reduceToNat] at ho41; rw [← Ny123.out] at ho41)); have n0_ := Aside0.mk (Kd.V_elder' (by (with_reducible repeat (first | apply Kd.V_alloc | apply Kd.V_drewN | apply Kd.V_drew)); exact HO109.out) (Kd.R_base ho41) hb); have n1_ := Aside0.mk (Kd.R_elder' (by (with_reducible repeat (first | apply Kd.R_alloc | apply Kd.R_drewN | apply Kd.R_drew)); exact HO112.out) (Kd.R_base ho41) hb); have n2_ := Aside0.mk (Kd.V_elder' (by (with_reducible repeat (first | apply Kd.V_alloc | apply Kd.V_drewN | apply Kd.V_drew)); exact HO118.out) (Kd.R_base ho41) hb); have n3_ := Aside0.mk (Kd.R_elder' (by (with_reducible repeat (first | apply Kd.R_alloc | apply Kd.R_drewN | apply Kd.R_drew)); exact HO122.out) (Kd.R_base ho41) hb); have n4_ := Aside0.mk (Kd.R_lower (Kd.R_new' (Kd.R_new' ho41 (Kd.R_lt (by (with_reducible repeat (first | apply Kd.R_alloc | apply Kd.R_drewN | apply Kd.R_drew)); exact HO112.out))) (Kd.R_lt (by (with_reducible repeat (first | apply Kd.R_alloc | apply Kd.R_drewN | apply Kd.R_drew)); exact HO122.out))) (below_size (by repeat (first | (with_reducible first | exact HB.out | apply below_alloc | apply pw_below_drewN | apply below_drew1) | exact HB.out)))); have n5_ := Aside0.mk (below_step (by repeat (first | (with_reducible first | exact HB.out | apply below_alloc | apply pw_below_drewN | apply below_drew1) | exact HB.out)) hb); clear HO109; clear HO112; clear HO118; clear HO122; clear HB; have HO109 := n0_; have HO112 := n1_; have HO118 := n2_; have HO122 := n3_; have HO125 := n4_; have HB := n5_; clear n0_ n1_ n2_ n3_ n4_ n5_; clear hb ho41) | ((with_reducible refine gate_dst (N := 19) rfl ?_); (try (refine gate_guard (by rfl) ?_; dsimp only)); refine Ar.mark_event (w0 := w) rfl (D := 19) rfl (T := 22) rfl Try.underlying22 Try.underlying5 (v := v124) rfl (k := .u8) (e := 5) (xs := y123) (base := w.heap.size) (ok := (fun k_ => some k_ ≠ (v111 : Value).ownBlock ∧ some k_ ≠ (v121 : Value).ownBlock)) ?aO ?aP ?aB ?_; (case aB => exact (by repeat (first | (with_reducible first | exact HB.out | apply below_alloc | apply pw_below_drewN | apply below_drew1) | exact HB.out))); (case aO => exact (by (with_reducible repeat (first | apply Kd.R_alloc | apply Kd.R_drewN | apply Kd.R_drew)); exact Kd.R_mono HO125.out (fun _ hk => ⟨hk.1.2, hk.2⟩))); (case aP => first | (rw [Ny123.out]; simp; done) | (simp; done) | omega); intro v127 w42 ho hb hg hat; rw [← Ny126.out] at ho; have n0_ := Aside0.mk (Kd.V_afterv (ok := (fun k_ => some k_ ≠ (v111 : Value).ownBlock ∧ some k_ ≠ (.slice Ao38 y116.length co38 : Value).ownBlock ∧ some k_ ≠ (v121 : Value).ownBlock)) (by (with_reducible repeat (first | apply Kd.V_alloc | apply Kd.V_drewN | apply Kd.V_drew)); exact Kd.V_mono HO109.out (fun _ hk => ⟨⟨hk.1.1.1, ⟨hk.1.1.2, hk.1.2⟩⟩, hk.2⟩)) hg hat); have n1_ := Aside0.mk (Kd.R_after (ok := (fun k_ => some k_ ≠ (.slice Ao38 y116.length co38 : Value).ownBlock ∧ some k_ ≠ (v121 : Value).ownBlock)) (by (with_reducible repeat (first | apply Kd.R_alloc | apply Kd.R_drewN | apply Kd.R_drew)); exact Kd.R_mono HO112.out (fun _ hk => ⟨⟨hk.1.1.2, hk.1.2⟩, hk.2⟩)) hg hat); have n2_ := Aside0.mk (Kd.V_afterv (ok := (fun k_ => some k_ ≠ (v111 : Value).ownBlock ∧ some k_ ≠ (v121 : Value).ownBlock)) (by (with_reducible repeat (first | apply Kd.V_alloc | apply Kd.V_drewN | apply Kd.V_drew)); exact HO118.out) hg hat); have n3_ := Aside0.mk (Kd.R_after (ok := (fun k_ => some k_ ≠ (v111 : Value).ownBlock)) (by (with_reducible repeat (first | apply Kd.R_alloc | apply Kd.R_drewN | apply Kd.R_drew)); exact Kd.R_mono HO122.out (fun _ hk => ⟨hk.1.2, hk.2⟩)) hg hat); have n4_ := Aside0.mk (hb); have n5_ := Aside0.mk (ho); clear HO109; clear HO112; clear HO118; clear HO122; clear HB; clear HO125; have HO109 := n0_; have HO112 := n1_; have HO118 := n2_; have HO122 := n3_; have HB := n4_; have HO128 := n5_; clear n0_ n1_ n2_ n3_ n4_ n5_; clear ho hb hg hat; obtain ⟨Ao43, co43, eo43⟩ := Kd.V_slice HO128.out; subst eo43) | ((with_reducible refine gate_callee (f := 8) rfl ?_); refine goesL_ (some 20) rfl rfl Try.func8 (by kernel_rfl) rfl #[.slice Ao43 y126.length co43, .int .u64 64] rfl (by (try simp only [List.map_toArray, List.map_cons, List.map_nil]); first | done | rfl | (simp only [List.length_drop, List.length_take]; rfl)) ?_; (with_reducible refine (pad_Tail.calls k _ _ y126 64 t129 false _ ?side1 ?side2 A3.out).mono ?_); (case side1 => repeat (first | exact (Kd.V_reads' HO128.out).2.2 | (with_reducible refine Kd.C_alloc ?_ _) | (with_reducible refine Kd.C_drewN ?_ _) | (with_reducible refine Kd.C_drew ?_))); (case side2 => exact (Kd.V_reads' HO128.out).2.1); rintro e w44 ⟨v131, rfl, ho0, hb⟩; refine ⟨_, rfl, ?_⟩; have n0_ := Aside0.mk (Kd.V_elder' (by (with_reducible repeat (first | apply Kd.V_alloc | apply Kd.V_drewN | apply Kd.V_drew)); exact HO109.out) (Kd.R_base ho0) hb); have n1_ := Aside0.mk (Kd.R_elder' (by (with_reducible repeat (first | apply Kd.R_alloc | apply Kd.R_drewN | apply Kd.R_drew)); exact HO112.out) (Kd.R_base ho0) hb); have n2_ := Aside0.mk (Kd.V_elder' (by (with_reducible repeat (first | apply Kd.V_alloc | apply Kd.V_drewN | apply Kd.V_drew)); exact HO118.out) (Kd.R_base ho0) hb); have n3_ := Aside0.mk (Kd.R_elder' (by (with_reducible repeat (first | apply Kd.R_alloc | apply Kd.R_drewN | apply Kd.R_drew)); exact HO122.out) (Kd.R_base ho0) hb); have n4_ := Aside0.mk (Kd.V_elder' (by (with_reducible repeat (first | apply Kd.V_alloc | apply Kd.V_drewN | apply Kd.V_drew)); exact HO128.out) (Kd.R_base ho0) hb); have n5_ := Aside0.mk (Kd.R_lower (Kd.R_new' (Kd.R_new' ho0 (Kd.R_lt (by (with_reducible repeat (first | apply Kd.R_alloc | apply Kd.R_drewN | apply Kd.R_drew)); exact HO112.out))) (Kd.R_lt (by (with_reducible repeat (first | apply Kd.R_alloc | apply Kd.R_drewN | apply Kd.R_drew)); exact HO122.out))) (below_size (by repeat (first | (with_reducible first | exact HB.out | apply below_alloc | apply pw_below_drewN | apply below_drew1) | exact HB.out)))); have n6_ := Aside0.mk (below_step (by repeat (first | (with_reducible first | exact HB.out | apply below_alloc | apply pw_below_drewN | apply below_drew1) | exact HB.out)) hb); clear HO109; clear HO112; clear HO118; clear HO122; clear HO128; clear HB; have HO109 := n0_; have HO112 := n1_; have HO118 := n2_; have HO122 := n3_; have HO128 := n4_; have HO132 := n5_; have HB := n6_; clear n0_ n1_ n2_ n3_ n4_ n5_ n6_; (try clear hb); (try clear hb2); (try clear hk); (try clear hi); (try clear ho0)) | ((with_reducible refine gate_dst (N := 24) rfl ?_); (try (refine gate_guard (by rfl) ?_; dsimp only)); refine Kd.R_lit (Kd.int .u8) _ 5 ?hg (N := 24) ?hd (xs := ([] : List Int)) (inner := []) (ok := fun _ => True) (okp := fun _ => True) ?hr ?hp (fun _ hk => hk) trivial (Below.refl _ _) (Nat.le_refl _) (by simp) ?_; (case hd => rfl); (case hg => rfl); (case hr => first | (go_simp; done) | (go_simp; rfl)); (case hp => exact (Reps.none _ _)); intro v134 w45 ho46 hb hg_ hnew_; clear hg_ hnew_; (first | rw [← Ny133.out] at ho46 | (simp only [Int.reduceToNat] at ho46; rw [← Ny133.out] at ho46)); have n0_ := Aside0.mk (Kd.V_elder' (by (with_reducible repeat (first | apply Kd.V_alloc | apply Kd.V_drewN | apply Kd.V_drew)); exact HO109.out) (Kd.R_base ho46) hb); have n1_ := Aside0.mk (Kd.R_elder' (by (with_reducible repeat (first | apply Kd.R_alloc | apply Kd.R_drewN | apply Kd.R_drew)); exact HO112.out) (Kd.R_base ho46) hb); have n2_ := Aside0.mk (Kd.V_elder' (by (with_reducible repeat (first | apply Kd.V_alloc | apply Kd.V_drewN | apply Kd.V_drew)); exact HO118.out) (Kd.R_base ho46) hb); have n3_ := Aside0.mk (Kd.R_elder' (by (with_reducible repeat (first | apply Kd.R_alloc | apply Kd.R_drewN | apply Kd.R_drew)); exact HO122.out) (Kd.R_base ho46) hb); have n4_ := Aside0.mk (Kd.V_elder' (by (with_reducible repeat (first | apply Kd.V_alloc | apply Kd.V_drewN | apply Kd.V_drew)); exact HO128.out) (Kd.R_base ho46) hb); have n5_ := Aside0.mk (Kd.R_elder' (by (with_reducible repeat (first | apply Kd.R_alloc | apply Kd.R_drewN | apply Kd.R_drew)); exact HO132.out) (Kd.R_base ho46) hb); have n6_ := Aside0.mk (Kd.R_lower (Kd.R_new' (Kd.R_new' (Kd.R_new' ho46 (Kd.R_lt (by (with_reducible repeat (first | apply Kd.R_alloc | apply Kd.R_drewN | apply Kd.R_drew)); exact HO112.out))) (Kd.R_lt (by (with_reducible repeat (first | apply Kd.R_alloc | apply Kd.R_drewN | apply Kd.R_drew)); exact HO122.out))) (Kd.R_lt (by (with_reducible repeat (first | apply Kd.R_alloc | apply Kd.R_drewN | apply Kd.R_drew)); exact HO132.out))) (below_size (by repeat (first | (with_reducible first | exact HB.out | apply below_alloc | apply pw_below_drewN | apply below_drew1) | exact HB.out)))); have n7_ := Aside0.mk (below_step (by repeat (first | (with_reducible first | exact HB.out | apply below_alloc | apply pw_below_drewN | apply below_drew1) | exact HB.out)) hb); clear HO109; clear HO112; clear HO118; clear HO122; clear HO128; clear HO132; clear HB; have HO109 := n0_; have HO112 := n1_; have HO118 := n2_; have HO122 := n3_; have HO128 := n4_; have HO132 := n5_; have HO135 := n6_; have HB := n7_; clear n0_ n1_ n2_ n3_ n4_ n5_ n6_ n7_; clear hb ho46; obtain ⟨Ao48, co48, eo48⟩ := Kd.R_slice HO112.out; subst eo48) | ((with_reducible refine gate_builtin (b := .append) (xs := #[.tmp 24, .tmp 25]) rfl ?_); (try (refine gate_guard (by rfl) ?_; dsimp only)); at_builtin; refine Kd.R_append_rows (Kd.int .u8) (w0 := w) w.heap.size rfl (.tmp 24) (.tmp 25) 22 5 (.int .u8 0) 1 rfl Try.underlying22 info5 rfl (by decide) (by omega) v134 y133 t110 _ _ _ (fun k_ => some k_ ≠ (.slice Ao48 t110.length co48 : Value).ownBlock ∧ some k_ ≠ (v121 : Value).ownBlock ∧ some k_ ≠ (v131 : Value).ownBlock) (fun _ => False) rfl rfl ?aO ?aR (fun _ _ h => h) (fun _ h => h.elim) ?aF ?aB ?aS ?aL ?_; (case aR => repeat (first | exact (Kd.R_reads' HO112.out).2.2 | (with_reducible refine Kd.C_alloc ?_ _) | (with_reducible refine Kd.C_drewN ?_ _) | (with_reducible refine Kd.C_drew ?_))); (case aB => exact (by repeat (first | (with_reducible first | exact HB.out | apply below_alloc | apply pw_below_drewN | apply below_drew1) | exact HB.out))); (case aF => exact (fun k_ hk => ⟨Kd.fresh' (Kd.R_lt (by (with_reducible repeat (first | apply Kd.R_alloc | apply Kd.R_drewN | apply Kd.R_drew)); exact HO112.out)) k_ hk, Kd.fresh' (Kd.R_lt (by (with_reducible repeat (first | apply Kd.R_alloc | apply Kd.R_drewN | apply Kd.R_drew)); exact HO122.out)) k_ hk, Kd.fresh' (Kd.R_lt (by (with_reducible repeat (first | apply Kd.R_alloc | apply Kd.R_drewN | apply Kd.R_drew)); exact HO132.out)) k_ hk⟩)); (case aO => exact (by (with_reducible repeat (first | apply Kd.R_alloc | apply Kd.R_drewN | apply Kd.R_drew)); exact Kd.R_mono HO135.out (fun _ hk => ⟨hk.1.1.2, ⟨hk.1.2, hk.2⟩⟩))); (case aS => exact (below_size (by repeat (first | (with_reducible first | exact HB.out | apply below_alloc | apply pw_below_drewN | apply below_drew1) | exact HB.out)))); (case aL => have := LMc4.out; omega); intro v137 w47 ho hb hg hat; rw [← Ny136.out] at ho; have n0_ := Aside0.mk (Kd.V_afterv (ok := (fun k_ => some k_ ≠ (.slice Ao48 t110.length co48 : Value).ownBlock ∧ some k_ ≠ (.slice Ao38 y116.length co38 : Value).ownBlock ∧ some k_ ≠ (v121 : Value).ownBlock ∧ some k_ ≠ (.slice Ao43 y126.length co43 : Value).ownBlock ∧ some k_ ≠ (v131 : Value).ownBlock)) (by (with_reducible repeat (first | apply Kd.V_alloc | apply Kd.V_drewN | apply Kd.V_drew)); exact Kd.V_mono HO109.out (fun _ hk => ⟨⟨hk.1.1.1.1, ⟨hk.1.1.1.2.1, ⟨hk.1.1.1.2.2, ⟨hk.1.1.2, hk.1.2⟩⟩⟩⟩, hk.2⟩)) hg hat); have n1_ := Aside0.mk (Kd.R_after (ok := (fun k_ => some k_ ≠ (.slice Ao38 y116.length co38 : Value).ownBlock ∧ some k_ ≠ (v121 : Value).ownBlock ∧ some k_ ≠ (.slice Ao43 y126.length co43 : Value).ownBlock ∧ some k_ ≠ (v131 : Value).ownBlock)) (by (with_reducible repeat (first | apply Kd.R_alloc | apply Kd.R_drewN | apply Kd.R_drew)); exact Kd.R_mono HO112.out (fun _ hk => ⟨⟨hk.1.1.1.1, ⟨hk.1.1.1.2, ⟨hk.1.1.2, hk.1.2⟩⟩⟩, hk.2⟩)) hg hat); have n2_ := Aside0.mk (Kd.V_afterv (ok := (fun k_ => some k_ ≠ (.slice Ao48 t110.length co48 : Value).ownBlock ∧ some k_ ≠ (v121 : Value).ownBlock ∧ some k_ ≠ (.slice Ao43 y126.length co43 : Value).ownBlock ∧ some k_ ≠ (v131 : Value).ownBlock)) (by (with_reducible repeat (first | apply Kd.V_alloc | apply Kd.V_drewN | apply Kd.V_drew)); exact Kd.V_mono HO118.out (fun _ hk => ⟨⟨hk.1.1.1.1, ⟨hk.1.1.1.2, ⟨hk.1.1.2, hk.1.2⟩⟩⟩, hk.2⟩)) hg hat); have n3_ := Aside0.mk (Kd.R_after (ok := (fun k_ => some k_ ≠ (.slice Ao48 t110.length co48 : Value).ownBlock ∧ some k_ ≠ (.slice Ao43 y126.length co43 : Value).ownBlock ∧ some k_ ≠ (v131 : Value).ownBlock)) (by (with_reducible repeat (first | apply Kd.R_alloc | apply Kd.R_drewN | apply Kd.R_drew)); exact Kd.R_mono HO122.out (fun _ hk => ⟨⟨hk.1.1.1, ⟨hk.1.1.2, hk.1.2⟩⟩, hk.2⟩)) hg hat); have n4_ := Aside0.mk (Kd.V_afterv (ok := (fun k_ => some k_ ≠ (.slice Ao48 t110.length co48 : Value).ownBlock ∧ some k_ ≠ (v121 : Value).ownBlock ∧ some k_ ≠ (v131 : Value).ownBlock)) (by (with_reducible repeat (first | apply Kd.V_alloc | apply Kd.V_drewN | apply Kd.V_drew)); exact Kd.V_mono HO128.out (fun _ hk => ⟨⟨hk.1.1.1, ⟨hk.1.1.2, hk.1.2⟩⟩, hk.2⟩)) hg hat); have n5_ := Aside0.mk (Kd.R_after (ok := (fun k_ => some k_ ≠ (.slice Ao48 t110.length co48 : Value).ownBlock ∧ some k_ ≠ (v121 : Value).ownBlock)) (by (with_reducible repeat (first | apply Kd.R_alloc | apply Kd.R_drewN | apply Kd.R_drew)); exact Kd.R_mono HO132.out (fun _ hk => ⟨⟨hk.1.1.2, hk.1.2⟩, hk.2⟩)) hg hat); have n6_ := Aside0.mk (hb); have n7_ := Aside0.mk (ho); clear HO109; clear HO112; clear HO118; clear HO122; clear HO128; clear HO132; clear HB; clear HO135; have HO109 := n0_; have HO112 := n1_; have HO118 := n2_; have HO122 := n3_; have HO128 := n4_; have HO132 := n5_; have HB := n6_; have HO138 := n7_; clear n0_ n1_ n2_ n3_ n4_ n5_ n6_ n7_; clear ho hb hg hat) | ((with_reducible refine gate_builtin (b := .append) (xs := #[.tmp 26, .tmp 27]) rfl ?_); (try (refine gate_guard (by rfl) ?_; dsimp only)); at_builtin; refine Kd.R_append (Kd.int .u8) (w0 := w) w.heap.size rfl (.tmp 26) (.tmp 27) 22 5 (.int .u8 0) 1 rfl Try.underlying22 info5 rfl (by decide) (by omega) v137 y136 7 [.int .u8 7] (fun k_ => some k_ ≠ (.slice Ao48 t110.length co48 : Value).ownBlock ∧ some k_ ≠ (v121 : Value).ownBlock ∧ some k_ ≠ (v131 : Value).ownBlock) (fun _ => False) rfl rfl ?aP (fun _ hk => hk.elim) ?aF ?aO ?aB ?aS ?aL ?_; (case aP => exact rfl); (case aB => exact (by repeat (first | (with_reducible first | exact HB.out | apply below_alloc | apply pw_below_drewN | apply below_drew1) | exact HB.out))); (case aF => exact (fun k_ hk => ⟨Kd.fresh' (Kd.R_lt (by (with_reducible repeat (first | apply Kd.R_alloc | apply Kd.R_drewN | apply Kd.R_drew)); exact HO112.out)) k_ hk, Kd.fresh' (Kd.R_lt (by (with_reducible repeat (first | apply Kd.R_alloc | apply Kd.R_drewN | apply Kd.R_drew)); exact HO122.out)) k_ hk, Kd.fresh' (Kd.R_lt (by (with_reducible repeat (first | apply Kd.R_alloc | apply Kd.R_drewN | apply Kd.R_drew)); exact HO132.out)) k_ hk⟩)); (case aO => exact (by (with_reducible repeat (first | apply Kd.R_alloc | apply Kd.R_drewN | apply Kd.R_drew)); exact HO138.out)); (case aS => exact (below_size (by repeat (first | (with_reducible first | exact HB.out | apply below_alloc | apply pw_below_drewN | apply below_drew1) | exact HB.out)))); (case aL => have := LMc5.out; omega); intro v140 w49 ho hb hg hat; rw [← Ny139.out] at ho; have n0_ := Aside0.mk (Kd.V_afterv (ok := (fun k_ => some k_ ≠ (.slice Ao48 t110.length co48 : Value).ownBlock ∧ some k_ ≠ (.slice Ao38 y116.length co38 : Value).ownBlock ∧ some k_ ≠ (v121 : Value).ownBlock ∧ some k_ ≠ (.slice Ao43 y126.length co43 : Value).ownBlock ∧ some k_ ≠ (v131 : Value).ownBlock)) (by (with_reducible repeat (first | apply Kd.V_alloc | apply Kd.V_drewN | apply Kd.V_drew)); exact HO109.out) hg hat); have n1_ := Aside0.mk (Kd.R_after (ok := (fun k_ => some k_ ≠ (.slice Ao38 y116.length co38 : Value).ownBlock ∧ some k_ ≠ (v121 : Value).ownBlock ∧ some k_ ≠ (.slice Ao43 y126.length co43 : Value).ownBlock ∧ some k_ ≠ (v131 : Value).ownBlock)) (by (with_reducible repeat (first | apply Kd.R_alloc | apply Kd.R_drewN | apply Kd.R_drew)); exact HO112.out) hg hat); have n2_ := Aside0.mk (Kd.V_afterv (ok := (fun k_ => some k_ ≠ (.slice Ao48 t110.length co48 : Value).ownBlock ∧ some k_ ≠ (v121 : Value).ownBlock ∧ some k_ ≠ (.slice Ao43 y126.length co43 : Value).ownBlock ∧ some k_ ≠ (v131 : Value).ownBlock)) (by (with_reducible repeat (first | apply Kd.V_alloc | apply Kd.V_drewN | apply Kd.V_drew)); exact HO118.out) hg hat); have n3_ := Aside0.mk (Kd.R_after (ok := (fun k_ => some k_ ≠ (.slice Ao48 t110.length co48 : Value).ownBlock ∧ some k_ ≠ (.slice Ao43 y126.length co43 : Value).ownBlock ∧ some k_ ≠ (v131 : Value).ownBlock)) (by (with_reducible repeat (first | apply Kd.R_alloc | apply Kd.R_drewN | apply Kd.R_drew)); exact HO122.out) hg hat); have n4_ := Aside0.mk (Kd.V_afterv (ok := (fun k_ => some k_ ≠ (.slice Ao48 t110.length co48 : Value).ownBlock ∧ some k_ ≠ (v121 : Value).ownBlock ∧ some k_ ≠ (v131 : Value).ownBlock)) (by (with_reducible repeat (first | apply Kd.V_alloc | apply Kd.V_drewN | apply Kd.V_drew)); exact HO128.out) hg hat); have n5_ := Aside0.mk (Kd.R_after (ok := (fun k_ => some k_ ≠ (.slice Ao48 t110.length co48 : Value).ownBlock ∧ some k_ ≠ (v121 : Value).ownBlock)) (by (with_reducible repeat (first | apply Kd.R_alloc | apply Kd.R_drewN | apply Kd.R_drew)); exact HO132.out) hg hat); have n6_ := Aside0.mk (hb); have n7_ := Aside0.mk (ho); clear HO109; clear HO112; clear HO118; clear HO122; clear HO128; clear HO132; clear HB; clear HO138; have HO109 := n0_; have HO112 := n1_; have HO118 := n2_; have HO122 := n3_; have HO128 := n4_; have HO132 := n5_; have HB := n6_; have HO141 := n7_; clear n0_ n1_ n2_ n3_ n4_ n5_ n6_ n7_; clear ho hb hg hat; obtain ⟨Ao50, co50, eo50⟩ := Kd.R_slice HO141.out; subst eo50) | ((with_reducible refine gate_callee (f := 12) rfl ?_); refine goesL_ (some 29) rfl rfl Try.func12 (by kernel_rfl) rfl #[.slice Ao50 y139.length co50] rfl (by (try simp only [List.map_toArray, List.map_cons, List.map_nil]); first | done | rfl | (simp only [List.length_drop, List.length_take]; rfl)) ?_; (with_reducible refine (pad_Cut.calls k (fun k_ => some k_ = (.slice Ao50 y139.length co50 : Value).ownBlock) _ _ y139 t142 t145 _ ?side1 A6.out).mono ?_); (case side1 => exact Kd.R_V (Kd.R_tight rfl (HO141.out))); rintro e w51 ⟨v143, v146, rfl, ho0, ho1, hb⟩; refine ⟨_, rfl, ?_⟩; have n0_ := Aside0.mk (Kd.V_elder' (by (with_reducible repeat (first | apply Kd.V_alloc | apply Kd.V_drewN | apply Kd.V_drew)); exact HO109.out) (Kd.R_base ho0) hb); have n1_ := Aside0.mk (Kd.R_below (by (with_reducible repeat (first | apply Kd.R_alloc | apply Kd.R_drewN | apply Kd.R_drew)); exact HO112.out) hb); have n2_ := Aside0.mk (Kd.V_elder' (by (with_reducible repeat (first | apply Kd.V_alloc | apply Kd.V_drewN | apply Kd.V_drew)); exact HO118.out) (Kd.R_base ho0) hb); have n3_ := Aside0.mk (Kd.R_below (by (with_reducible repeat (first | apply Kd.R_alloc | apply Kd.R_drewN | apply Kd.R_drew)); exact HO122.out) hb); have n4_ := Aside0.mk (Kd.V_elder' (by (with_reducible repeat (first | apply Kd.V_alloc | apply Kd.V_drewN | apply Kd.V_drew)); exact HO128.out) (Kd.R_base ho0) hb); have n5_ := Aside0.mk (Kd.R_below (by (with_reducible repeat (first | apply Kd.R_alloc | apply Kd.R_drewN | apply Kd.R_drew)); exact HO132.out) hb); have n6_ := Aside0.mk (Kd.R_below (by (with_reducible repeat (first | apply Kd.R_alloc | apply Kd.R_drewN | apply Kd.R_drew)); exact HO141.out) hb); have n7_ := Aside0.mk (Kd.R_lower (Kd.R_mono (ok' := fun k_ => True) ho0 (fun _ hk_ => trivial)) (below_size (by repeat (first | (with_reducible first | exact HB.out | apply below_alloc | apply pw_below_drewN | apply below_drew1) | exact HB.out)))); have n8_ := Aside0.mk (Kd.V_lower (Kd.V_mono (ok' := fun k_ => some k_ ≠ (v143 : Value).ownBlock ∧ some k_ ≠ (.slice Ao48 t110.length co48 : Value).ownBlock ∧ some k_ ≠ (v121 : Value).ownBlock ∧ some k_ ≠ (v131 : Value).ownBlock) ho1 (fun k_ hk_ => ⟨hk_.2, Or.elim hk_.1 (fun hs_ => ((HO141.out).1 k_ hs_.symm).1) (fun hn_ => (Kd.fresh' (Kd.R_lt (by (with_reducible repeat (first | apply Kd.R_alloc | apply Kd.R_drewN | apply Kd.R_drew)); exact HO112.out)) k_ hn_)), Or.elim hk_.1 (fun hs_ => ((HO141.out).1 k_ hs_.symm).2.1) (fun hn_ => (Kd.fresh' (Kd.R_lt (by (with_reducible repeat (first | apply Kd.R_alloc | apply Kd.R_drewN | apply Kd.R_drew)); exact HO122.out)) k_ hn_)), Or.elim hk_.1 (fun hs_ => ((HO141.out).1 k_ hs_.symm).2.2) (fun hn_ => (Kd.fresh' (Kd.R_lt (by (with_reducible repeat (first | apply Kd.R_alloc | apply Kd.R_drewN | apply Kd.R_drew)); exact HO132.out)) k_ hn_))⟩)) (below_size (by repeat (first | (with_reducible first | exact HB.out | apply below_alloc | apply pw_below_drewN | apply below_drew1) | exact HB.out)))); have n9_ := Aside0.mk (below_step (by repeat (first | (with_reducible first | exact HB.out | apply below_alloc | apply pw_below_drewN | apply below_drew1) | exact HB.out)) hb); clear HO109; clear HO112; clear HO118; clear HO122; clear HO128; clear HO132; clear HO141; clear HB; have HO109 := n0_; have HO112 := n1_; have HO118 := n2_; have HO122 := n3_; have HO128 := n4_; have HO132 := n5_; have HO141 := n6_; have HO144 := n7_; have HO147 := n8_; have HB := n9_; clear n0_ n1_ n2_ n3_ n4_ n5_ n6_ n7_ n8_ n9_; (try clear hb); (try clear hb2); (try clear hk); (try clear hi); (try clear ho0); (try clear ho1); have p148 : 0 ≤ (3 : Int) := (by omega); have q148 : 3 < (t110.length : Int) := of_decide_eq_true (by first | (with_reducible assumption) | assumption); obtain ⟨ad148, e148, hx148_0⟩ := Kd.at_int (Kd.R_reads' HO112.out).2.2 3 p148 q148; cases e148; (try simp only [show (3 : Int).toNat = 3 from rfl, Nat.reduceMul, Nat.reduceEqDiff, Go.Addr.add, ↓reduceIte] at hx148_0); have qi148 : (3 < t110.length) = True := eq_true (by omega); (try rw [show ((3 : Int)).toNat = 3 from rfl] at hx148_0); replace p148 := eq_true p148; replace q148 := eq_true q148; have p149 : 0 ≤ (63 : Int) := (by omega); have q149 : 63 < (t110.length : Int) := of_decide_eq_true (by first | (with_reducible assumption) | assumption); obtain ⟨ad149, e149, hx149_0⟩ := Kd.at_int (Kd.R_reads' HO112.out).2.2 63 p149 q149; obtain rfl : ad148 = ad149 := (by injection e149); (try simp only [show (63 : Int).toNat = 63 from rfl, Nat.reduceMul, Nat.reduceEqDiff, Go.Addr.add, ↓reduceIte] at hx149_0); have qi149 : (63 < t110.length) = True := eq_true (by omega); (try rw [show ((63 : Int)).toNat = 63 from rfl] at hx149_0); replace p149 := eq_true p149; replace q149 := eq_true q149; have p150 : 0 ≤ (62 : Int) := (by omega); have q150 : 62 < (t110.length : Int) := of_decide_eq_true (by first | (with_reducible assumption) | assumption); obtain ⟨ad150, e150, hx150_0⟩ := Kd.at_int (Kd.R_reads' HO112.out).2.2 62 p150 q150; obtain rfl : ad148 = ad150 := (by injection e150); (try simp only [show (62 : Int).toNat = 62 from rfl, Nat.reduceMul, Nat.reduceEqDiff, Go.Addr.add, ↓reduceIte] at hx150_0); have qi150 : (62 < t110.length) = True := eq_true (by omega); (try rw [show ((62 : Int)).toNat = 62 from rfl] at hx150_0); replace p150 := eq_true p150; replace q150 := eq_true q150; obtain ⟨Ao52, co52, eo52⟩ := Kd.R_slice HO122.out; subst eo52; have p151 : 0 ≤ (62 : Int) := (by omega); have q151 : 62 < (t119.length : Int) := of_decide_eq_true (by first | (with_reducible assumption) | assumption); obtain ⟨ad151, e151, hx151_0⟩ := Kd.at_int (Kd.R_reads' HO122.out).2.2 62 p151 q151; cases e151; (try simp only [show (62 : Int).toNat = 62 from rfl, Nat.reduceMul, Nat.reduceEqDiff, Go.Addr.add, ↓reduceIte] at hx151_0); have qi151 : (62 < t119.length) = True := eq_true (by omega); (try rw [show ((62 : Int)).toNat = 62 from rfl] at hx151_0); replace p151 := eq_true p151; replace q151 := eq_true q151; have p152 : 0 ≤ (63 : Int) := (by omega); have q152 : 63 < (t119.length : Int) := of_decide_eq_true (by first | (with_reducible assumption) | assumption); obtain ⟨ad152, e152, hx152_0⟩ := Kd.at_int (Kd.R_reads' HO122.out).2.2 63 p152 q152; obtain rfl : ad151 = ad152 := (by injection e152); (try simp only [show (63 : Int).toNat = 63 from rfl, Nat.reduceMul, Nat.reduceEqDiff, Go.Addr.add, ↓reduceIte] at hx152_0); have qi152 : (63 < t119.length) = True := eq_true (by omega); (try rw [show ((63 : Int)).toNat = 63 from rfl] at hx152_0); replace p152 := eq_true p152; replace q152 := eq_true q152; obtain ⟨Ao53, co53, eo53⟩ := Kd.R_slice HO144.out; subst eo53; have p153 : 0 ≤ (0 : Int) := (by omega); have q153 : 0 < (t142.length : Int) := of_decide_eq_true (by first | (with_reducible assumption) | assumption); obtain ⟨ad153, e153, hx153_0⟩ := at_L2 0 0 (Kd.R_reads' HO144.out).2.2 0 p153 q153; cases e153; (try simp only [Int.toNat_zero, Nat.zero_mul, Addr.add_zero'] at hx153_0); have qi153 : (0 < t142.length) = True := eq_true (by omega); (try rw [show ((0 : Int)).toNat = 0 from rfl] at hx153_0); (try rw [Addr.add_zero'] at hx153_0); replace p153 := eq_true p153; replace q153 := eq_true q153; obtain ⟨Ao54, co54, eo54⟩ := Kd.V_slice HO147.out; subst eo54; have p154 : 0 ≤ (0 : Int) := (by omega); have q154 : 0 < (t145.length : Int) := of_decide_eq_true (by first | (with_reducible assumption) | assumption); obtain ⟨ad154, e154, hx154_0⟩ := Kd.at_int (Kd.V_reads' HO147.out).2.2 0 p154 q154; cases e154; have qi154 : (0 < t145.length) = True := eq_true (by omega); (try rw [show ((0 : Int)).toNat = 0 from rfl] at hx154_0); (try rw [Addr.add_zero'] at hx154_0); replace p154 := eq_true p154; replace q154 := eq_true q154) | (go_at_call 10; (with_reducible refine (pad_Blocks.calls 55 t155 _ A27.out).mono ?_); rintro e w' ⟨rfl, ⟨nd, rfl⟩⟩) | (go_at_call 10; (with_reducible refine (pad_Blocks.calls 56 t156 _ A29.out).mono ?_); rintro e w' ⟨rfl, ⟨nd, rfl⟩⟩))
                        go_ret
                        exact ⟨by first | rfl | (simp [errW_none, errW_some] <;> rfl) | (simp [*, errW_none, errW_some] <;> rfl), by repeat (first | (with_reducible first | exact HB.out | apply below_alloc | apply pw_below_drewN | apply below_drew1) | exact HB.out)⟩
                       ·rw [if_neg c28] at H
                        exact absurd H (by simp)
                      ·rw [if_neg c26] at H
                       exact absurd H (by simp)
                     ·rw [if_neg c25] at H
                      exact absurd H (by simp)
                    ·rw [if_neg c24] at H
                     exact absurd H (by simp)
                   ·rw [if_neg c23] at H
                    exact absurd H (by simp)
                  ·rw [if_neg c22] at H
                   exact absurd H (by simp)
                 ·rw [if_neg c21] at H
                  exact absurd H (by simp)
                ·rw [if_neg c20] at H
                 exact absurd H (by simp)
               ·rw [if_neg c19] at H
                exact absurd H (by simp)
              ·rw [if_neg c18] at H
               exact absurd H (by simp)
             ·rw [if_neg c17] at H
              exact absurd H (by simp)
            ·rw [if_neg c16] at H
             exact absurd H (by simp)
          ·replace c14 := Bool.eq_false_iff.mpr c14
           subst c14
           have H1 : (none) = some r := by rw [if_neg (show ¬ (false = true) by decide)] at H; exact H
           clear H
           have H := H1
           clear H1
           exact absurd H (by simp)
         ·rw [if_neg c13] at H
          exact absurd H (by simp)
        ·rw [if_neg c12] at H
         exact absurd H (by simp)
       ·rw [if_neg c11] at H
        exact absurd H (by simp)
      ·rw [if_neg c10] at H
       exact absurd H (by simp)
     ·rw [if_neg c9] at H
      exact absurd H (by simp)
    ·rw [if_neg c8] at H
     exact absurd H (by simp)
   ·rw [if_neg c7] at H
    exact absurd H (by simp)
  ·rw [if_neg c5] at H
   exact absurd H (by simp)
 ·rw [if_neg c4] at H
  exact absurd H (by simp)

end Go.Proofs.Ytafodmgkieggaaa.PD
