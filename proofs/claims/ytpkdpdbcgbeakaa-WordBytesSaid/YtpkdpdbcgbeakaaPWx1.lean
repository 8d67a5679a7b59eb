/- Written by xprint.py, this session's own driver, for the seat Ytpkdpdbcgbeakaa: contracts of Go functions, each saying that a call answers what a plain Lean function of the same name says, and, in a text named Law, the row of a law: its Go function answers true for every input. No conditions. -/
import Derived.Test.YtpkdpdbcgbeakaaPWx0
namespace Go.Proofs.Ytpkdpdbcgbeakaa.PW
open Go.RowKit Go.Proofs.YtpkdpdbcgbeakaaW.PrintWords Go.Proofs.YtpkdpdbcgbeakaaW.PrintLast Go.Proofs.YtpkdpdbcgbeakaaW.PrintMore
attribute [local go_sem] max2_int min2_int max_two min_two max_three min_three max_four min_four   -- for this text's walks alone
set_option linter.unusedVariables false
set_option linter.unusedSimpArgs false

/-! ### word_Left: function 18 -/
def word_Left.f (a0 : Int) (a1 : Int) : Option (Int) := if 0 ≤ (IntKind.u64.wrap (mx a1 0)) then (some (shl .u32 a0 (IntKind.u64.wrap (mx a1 0)))) else (none)
set_option maxHeartbeats 8000000 in
set_option maxRecDepth 100000 in
theorem word_Left.calls (a0 : Int) (a1 : Int) (r : Int) (w : World) (h : word_Left.f a0 a1 = some r) :
    Calls Try.prog 18 #[.int .u32 a0, .int .i64 a1] w fun e w' => e = .returned (.int .u32 r) ∧ Below w.heap.size w w' := by
  have HB := Aside0.mk (Below.refl w.heap.size w)
  have H : (if 0 ≤ (IntKind.u64.wrap (mx a1 0)) then (some (shl .u32 a0 (IntKind.u64.wrap (mx a1 0)))) else (none)) = some r := h
  clear h
  obtain ⟨ji3, hji3⟩ : ∃ j_ : Int, (mx a1 0) = j_ := ⟨_, rfl⟩
  replace H : (if 0 ≤ (IntKind.u64.wrap (ji3)) then (some (shl .u32 a0 (IntKind.u64.wrap (ji3)))) else (none)) = some r := by first | (rw [hji3] at H; exact H) | (simp only [hji3] at H ⊢; exact H)
  (try (have hji3l : 0 ≤ ji3 := by (rw [← hji3]; unfold mx; (repeat' split) <;> omega)))
  (try (have hji3m : 0 ≤ ji3 := by omega))
  have hji3_ : (if a1 < 0 then 0 else a1) = ji3 := hji3
  obtain ⟨ji4, hji4⟩ : ∃ j_ : Int, (IntKind.u64.wrap (ji3)) = j_ := ⟨_, rfl⟩
  replace H : (if 0 ≤ (ji4) then (some (shl .u32 a0 (ji4))) else (none)) = some r := by first | (rw [hji4] at H; exact H) | (simp only [hji4] at H ⊢; exact H)
  by_cases c5 : 0 ≤ (ji4)
  · rw [if_pos c5] at H
    have c5b0 := eq_true c5
    have c5b1 : decide (0 ≤ (ji4)) = true := decide_eq_true c5
    clear c5
    obtain ⟨ji6, hji6⟩ : ∃ j_ : Int, (shl .u32 a0 (ji4)) = j_ := ⟨_, rfl⟩
    replace H : (some ji6) = some r := by first | (rw [hji6] at H; exact H) | (simp only [hji6] at H ⊢; exact H)
    have hji6_ : (IntKind.u32.wrap (a0 * 2 ^ min (ji4).toNat 32)) = ji6 := hji6
    have hji6z : (ji4) ≤ 32 → (IntKind.u32.wrap (a0 * 2 ^ (ji4).toNat)) = ji6 := shl_small hji6
    obtain rfl := Option.some.inj H
    go_enter Try.func18, Try.ntmps18
    go_wp2
    go_ret
    exact ⟨by first | rfl | (simp [errW_none, errW_some] <;> rfl) | (simp only [← hji3, ← hji4, ← hji6]; first | rfl | (simp [errW_none, errW_some] <;> rfl)) | (simp [*, errW_none, errW_some] <;> rfl), by repeat (first | (with_reducible first | exact HB.out | apply below_alloc | apply pw_below_drewN | apply below_drew1) | exact HB.out)⟩
  · rw [if_neg c5] at H
    exact absurd H (by simp)

/-! ### word_Right: function 20 -/
def word_Right.f (a0 : Int) (a1 : Int) : Option (Int) := if 0 ≤ (IntKind.u64.wrap (mx a1 0)) then (some (shr .u32 a0 (IntKind.u64.wrap (mx a1 0)))) else (none)
set_option maxHeartbeats 8000000 in
set_option maxRecDepth 100000 in
theorem word_Right.calls (a0 : Int) (a1 : Int) (r : Int) (w : World) (h : word_Right.f a0 a1 = some r) :
    Calls Try.prog 20 #[.int .u32 a0, .int .i64 a1] w fun e w' => e = .returned (.int .u32 r) ∧ Below w.heap.size w w' := by
  have HB := Aside0.mk (Below.refl w.heap.size w)
  have H : (if 0 ≤ (IntKind.u64.wrap (mx a1 0)) then (some (shr .u32 a0 (IntKind.u64.wrap (mx a1 0)))) else (none)) = some r := h
  clear h
  obtain ⟨ji3, hji3⟩ : ∃ j_ : Int, (mx a1 0) = j_ := ⟨_, rfl⟩
  replace H : (if 0 ≤ (IntKind.u64.wrap (ji3)) then (some (shr .u32 a0 (IntKind.u64.wrap (ji3)))) else (none)) = some r := by first | (rw [hji3] at H; exact H) | (simp only [hji3] at H ⊢; exact H)
  (try (have hji3l : 0 ≤ ji3 := by (rw [← hji3]; unfold mx; (repeat' split) <;> omega)))
  (try (have hji3m : 0 ≤ ji3 := by omega))
  have hji3_ : (if a1 < 0 then 0 else a1) = ji3 := hji3
  obtain ⟨ji4, hji4⟩ : ∃ j_ : Int, (IntKind.u64.wrap (ji3)) = j_ := ⟨_, rfl⟩
  replace H : (if 0 ≤ (ji4) then (some (shr .u32 a0 (ji4))) else (none)) = some r := by first | (rw [hji4] at H; exact H) | (simp only [hji4] at H ⊢; exact H)
  by_cases c5 : 0 ≤ (ji4)
  · rw [if_pos c5] at H
    have c5b0 := eq_true c5
    have c5b1 : decide (0 ≤ (ji4)) = true := decide_eq_true c5
    clear c5
    obtain ⟨ji6, hji6⟩ : ∃ j_ : Int, (shr .u32 a0 (ji4)) = j_ := ⟨_, rfl⟩
    replace H : (some ji6) = some r := by first | (rw [hji6] at H; exact H) | (simp only [hji6] at H ⊢; exact H)
    have hji6_ : (a0 / 2 ^ min (ji4).toNat 32) = ji6 := hji6
    have hji6z : (ji4) ≤ 32 → (a0 / 2 ^ (ji4).toNat) = ji6 := shr_small hji6
    obtain rfl := Option.some.inj H
    go_enter Try.func20, Try.ntmps20
    go_wp2
    go_ret
    exact ⟨by first | rfl | (simp [errW_none, errW_some] <;> rfl) | (simp only [← hji3, ← hji4, ← hji6]; first | rfl | (simp [errW_none, errW_some] <;> rfl)) | (simp [*, errW_none, errW_some] <;> rfl), by repeat (first | (with_reducible first | exact HB.out | apply below_alloc | apply pw_below_drewN | apply below_drew1) | exact HB.out)⟩
  · rw [if_neg c5] at H
    exact absurd H (by simp)

/-! ### word_Rotate: function 22 -/
def word_Rotate.f (a0 : Int) (a1 : Int) : Option (Int) := if 0 ≤ (Int.tmod (IntKind.u64.wrap (a1)) 32) then (if 0 ≤ (IntKind.u64.wrap (32 - (Int.tmod (IntKind.u64.wrap (a1)) 32))) then (some (Go.bits .or .u32 (shr .u32 a0 (Int.tmod (IntKind.u64.wrap (a1)) 32)) (shl .u32 a0 (IntKind.u64.wrap (32 - (Int.tmod (IntKind.u64.wrap (a1)) 32)))))) else (none)) else (none)
set_option maxHeartbeats 8000000 in
set_option maxRecDepth 100000 in
theorem word_Rotate.calls (a0 : Int) (a1 : Int) (r : Int) (w : World) (h : word_Rotate.f a0 a1 = some r) :
    Calls Try.prog 22 #[.int .u32 a0, .int .i64 a1] w fun e w' => e = .returned (.int .u32 r) ∧ Drawn0 w w' := by
  have H : (if 0 ≤ (Int.tmod (IntKind.u64.wrap (a1)) 32) then (if 0 ≤ (IntKind.u64.wrap (32 - (Int.tmod (IntKind.u64.wrap (a1)) 32))) then (some (Go.bits .or .u32 (shr .u32 a0 (Int.tmod (IntKind.u64.wrap (a1)) 32)) (shl .u32 a0 (IntKind.u64.wrap (32 - (Int.tmod (IntKind.u64.wrap (a1)) 32)))))) else (none)) else (none)) = some r := h
  clear h
  obtain ⟨ji3, hji3⟩ : ∃ j_ : Int, (Int.tmod (IntKind.u64.wrap (a1)) 32) = j_ := ⟨_, rfl⟩
  replace H : (if 0 ≤ (ji3) then (if 0 ≤ (IntKind.u64.wrap (32 - (ji3))) then (some (Go.bits .or .u32 (shr .u32 a0 (ji3)) (shl .u32 a0 (IntKind.u64.wrap (32 - (ji3)))))) else (none)) else (none)) = some r := by first | (rw [hji3] at H; exact H) | (simp only [hji3] at H ⊢; exact H)
  by_cases c4 : 0 ≤ (ji3)
  · rw [if_pos c4] at H
    have c4b0 := eq_true c4
    have c4b1 : decide (0 ≤ (ji3)) = true := decide_eq_true c4
    clear c4
    obtain ⟨ji5, hji5⟩ : ∃ j_ : Int, (shr .u32 a0 (ji3)) = j_ := ⟨_, rfl⟩
    replace H : (if 0 ≤ (IntKind.u64.wrap (32 - (ji3))) then (some (Go.bits .or .u32 (ji5) (shl .u32 a0 (IntKind.u64.wrap (32 - (ji3)))))) else (none)) = some r := by first | (rw [hji5] at H; exact H) | (simp only [hji5] at H ⊢; exact H)
    have hji5_ : (a0 / 2 ^ min (ji3).toNat 32) = ji5 := hji5
    have hji5z : (ji3) ≤ 32 → (a0 / 2 ^ (ji3).toNat) = ji5 := shr_small hji5
    obtain ⟨ji6, hji6⟩ : ∃ j_ : Int, (IntKind.u64.wrap (32 - (ji3))) = j_ := ⟨_, rfl⟩
    replace H : (if 0 ≤ (ji6) then (some (Go.bits .or .u32 (ji5) (shl .u32 a0 (ji6)))) else (none)) = some r := by first | (rw [hji6] at H; exact H) | (simp only [hji6] at H ⊢; exact H)
    by_cases c7 : 0 ≤ (ji6)
    · rw [if_pos c7] at H
      have c7b0 := eq_true c7
      have c7b1 : decide (0 ≤ (ji6)) = true := decide_eq_true c7
      clear c7
      obtain ⟨ji8, hji8⟩ : ∃ j_ : Int, (shl .u32 a0 (ji6)) = j_ := ⟨_, rfl⟩
      replace H : (some (Go.bits .or .u32 (ji5) (ji8))) = some r := by first | (rw [hji8] at H; exact H) | (simp only [hji8] at H ⊢; exact H)
      have hji8_ : (IntKind.u32.wrap (a0 * 2 ^ min (ji6).toNat 32)) = ji8 := hji8
      have hji8z : (ji6) ≤ 32 → (IntKind.u32.wrap (a0 * 2 ^ (ji6).toNat)) = ji8 := shl_small hji8
      obtain rfl := Option.some.inj H
      go_enter Try.func22, Try.ntmps22
      go_wp2
      go_ret
      exact ⟨by first | rfl | (simp; done) | (simp only [← hji3, ← hji5, ← hji6, ← hji8] <;> (first | rfl | simp)) | (simp [*]; done), by repeat (first | exact Drawn0.refl _ | apply Drawn0.step)⟩
    · rw [if_neg c7] at H
      exact absurd H (by simp)
  · rw [if_neg c4] at H
    exact absurd H (by simp)

/-! ### word_Put64: function 24 -/
def word_Put64.l0 : Nat → Int → Int → List Int → Option (List Int)
  | 0, _, _, _ => none
  | k + 1, x0, x4, x102000 => if x4 < 8 then (if 0 ≤ (IntKind.u64.wrap (wrap64 (8 * (wrap64 (7 - x4))))) then (if 0 ≤ x4 then (word_Put64.l0 k x0 (wrap64 (x4 + 1)) (Ar.set 8 x102000 x4 ((shr .u64 x0 (IntKind.u64.wrap (wrap64 (8 * (wrap64 (7 - x4)))))) % 256))) else (none)) else (none)) else (some x102000)
def word_Put64.f (k : Nat) (a0 : Int) : Option (List Int) := word_Put64.l0 k a0 0 (List.replicate 8 0)
theorem word_Put64.mono_l : ∀ k, (∀ y0 y1 y2, LeO (word_Put64.l0 k y0 y1 y2) (word_Put64.l0 (k + 1) y0 y1 y2))
  | 0 => fun _ _ _ r h => by simp [word_Put64.l0] at h
  | k + 1 => by
    have ih0 := word_Put64.mono_l k
    · intro y0 y1 y2
      unfold word_Put64.l0
      repeat' first
      | (with_reducible exact ih0 _ _ _)
      | (with_reducible exact LeO.refl _)
      | (with_reducible exact LeO.none _)
      | (with_reducible refine LeO.ite ?_ ?_)
      | (with_reducible refine LeO.bind ?_ (fun _ => ?_))
      | exact ih0 _ _ _
      | exact LeO.none _
      | refine LeO.ite ?_ ?_
      | refine LeO.bind ?_ (fun _ => ?_)
theorem word_Put64.mono : ∀ a0 k, LeO (word_Put64.f k a0) (word_Put64.f (k + 1) a0) := by
  intro a0 k
  have ih0 := word_Put64.mono_l k
  unfold word_Put64.f
  repeat' first
      | (with_reducible exact ih0 _ _ _)
      | (with_reducible exact LeO.refl _)
      | (with_reducible exact LeO.none _)
      | (with_reducible refine LeO.ite ?_ ?_)
      | (with_reducible refine LeO.bind ?_ (fun _ => ?_))
      | exact ih0 _ _ _
      | exact LeO.none _
      | refine LeO.ite ?_ ?_
      | refine LeO.bind ?_ (fun _ => ?_)
set_option maxHeartbeats 8000000 in
set_option maxRecDepth 100000 in
theorem word_Put64.calls (k : Nat) (a0 : Int) (r : List Int) (w : World) (h : word_Put64.f k a0 = some r) :
    Calls Try.prog 24 #[.int .u64 a0] w fun e w' => e = .returned (.agg (Ar.cells .u8 8 r)) ∧ Below w.heap.size w w' := by
  have HB := Aside0.mk (Below.refl w.heap.size w)
  have H : (word_Put64.l0 k a0 0 (List.replicate 8 0)) = some r := h
  clear h
  have H' := Aside0.mk H
  clear H
  go_enter Try.func24, Try.ntmps24
  go_wp2_with (first | ((with_reducible refine gate_dst (N := 2) rfl ?_); (try (refine gate_guard (by rfl) ?_; dsimp only)); refine box_event ?hg (N := 2) ?hd (cs := (Ar.cells .u8 8 (List.replicate 8 0))) (t := 27) ?hr ?_; (case hd => rfl); (case hg => rfl); (case hr => first | exact Ar.box_run rfl rfl | exact Ar.alloc_run rfl (by kernel_rfl) | (go_simp; done) | (go_simp; rfl)); intro gb101 hg w2 hbox hb; have n0_ := Aside0.mk (below_step (by repeat (first | (with_reducible first | exact HB.out | apply below_alloc | apply pw_below_drewN | apply below_drew1) | exact HB.out)) hb); have n1_ := Aside0.mk (hbox); have n2_ := Aside0.mk ((by rw [hg]; exact (below_size (by repeat (first | (with_reducible first | exact HB.out | apply below_alloc | apply pw_below_drewN | apply below_drew1) | exact HB.out))) : w.heap.size ≤ gb101)); have n3_ := Aside0.mk ((by rw [hg]; exact (below_size (by repeat (first | (with_reducible first | exact HB.out | apply below_alloc | apply pw_below_drewN | apply below_drew1) | exact HB.out))) : w.heap.size ≤ gb101)); clear HB; have HB := n0_; have BK101 := n1_; have GW101 := n2_; have GE101 := n3_; clear n0_ n1_ n2_ n3_; clear hb hbox hg))
  go_loopg [4] k (fun kq v4 w' => ∃ (x4_1 : Int) (x102000_1 : List Int), v4 = .int .i64 x4_1 ∧ Aside0 (word_Put64.l0 kq a0 x4_1 x102000_1 = some r) ∧ Aside0 (kq ≤ k) ∧ Aside0 (w'.heap[gb101]? = some (.cells (Ar.cells .u8 8 x102000_1) 27 (0, 0))) ∧ Aside0 (Below w.heap.size w w'))
  case atStart => exact ⟨(0), ((List.replicate 8 0)), (by first | rfl | (simp; done) | (simp [*]; done)), H', ⟨Nat.le_refl _⟩, ⟨by (with_reducible repeat (first | refine blk_drewN ?_ _ | refine blk_drew ?_ | refine blk_alloc ?_ _)); exact BK101.out⟩, ⟨by repeat (first | (with_reducible first | exact HB.out | apply below_alloc | apply pw_below_drewN | apply below_drew1 | refine below_set ?_ GE101.out) | exact HB.out)⟩⟩
  case round =>
    clear H'
    try clear c2
    try clear p2
    obtain ⟨x4_1, x102000_1, rfl, HA, HK1, BK101, HB⟩ := hrel
    cases gk with
    | zero => exact absurd HA.out (by simp [word_Put64.l0])
    | succ k1 =>
      have H := HA.out
      clear HA
      simp only [word_Put64.l0] at H
      by_cases c3 : x4_1 < 8
      · rw [if_pos c3] at H
        have c3b0 : decide (x4_1 < 8) = true := decide_eq_true c3
        clear c3
        obtain ⟨ji4, hji4⟩ : ∃ j_ : Int, (IntKind.u64.wrap (wrap64 (8 * (wrap64 (7 - x4_1))))) = j_ := ⟨_, rfl⟩
        replace H : (if 0 ≤ (ji4) then (if 0 ≤ x4_1 then (word_Put64.l0 k1 a0 (wrap64 (x4_1 + 1)) (Ar.set 8 x102000_1 x4_1 ((shr .u64 a0 (ji4)) % 256))) else (none)) else (none)) = some r := by first | (rw [hji4] at H; exact H) | (simp only [hji4] at H ⊢; exact H)
        by_cases c5 : 0 ≤ (ji4)
        · rw [if_pos c5] at H
          have c5b0 := eq_true c5
          have c5b1 : decide (0 ≤ (ji4)) = true := decide_eq_true c5
          clear c5
          obtain ⟨ji6, hji6⟩ : ∃ j_ : Int, (shr .u64 a0 (ji4)) = j_ := ⟨_, rfl⟩
          replace H : (if 0 ≤ x4_1 then (word_Put64.l0 k1 a0 (wrap64 (x4_1 + 1)) (Ar.set 8 x102000_1 x4_1 ((ji6) % 256))) else (none)) = some r := by first | (rw [hji6] at H; exact H) | (simp only [hji6] at H ⊢; exact H)
          have hji6_ : (a0 / 2 ^ min (ji4).toNat 64) = ji6 := hji6
          have hji6z : (ji4) ≤ 64 → (a0 / 2 ^ (ji4).toNat) = ji6 := shr_small hji6
          by_cases c7 : 0 ≤ x4_1
          · rw [if_pos c7] at H
            have c7b0 : decide (0 ≤ x4_1) = true := decide_eq_true c7
            clear c7
            obtain ⟨y102, hy102⟩ : ∃ y_ : List Int, y_ = (Ar.set 8 x102000_1 x4_1 ((ji6) % 256)) := ⟨_, rfl⟩
            replace H : (word_Put64.l0 k1 a0 (wrap64 (x4_1 + 1)) y102) = some r := by first | (rw [hy102]; with_reducible exact H) | (have H2_ := (Option.bind_some _ _).symm.trans H; rw [hy102]; with_reducible exact H2_) | (have H2_ := (Option.bind_some _ _).symm.trans H; with_reducible exact H2_) | with_reducible exact H | (rw [hy102]; exact H) | exact H
            have Ny102 := Aside0.mk hy102
            clear hy102
            have H' := Aside0.mk H
            clear H
            go_wp2_with (first | ((with_reducible refine gate_dst (N := 15) rfl ?_); (try (refine gate_guard (by rfl) ?_; dsimp only)); refine Ar.idx_event rfl (D := 15) rfl (T := 27) (n := 8) rfl Try.underlying27 (by kernel_rfl) (g := gb101) rfl (j := x4_1) (by first | rfl | (go_simp; done) | (go_simp; rfl)) (of_decide_eq_true (by first | (with_reducible assumption) | assumption)) (of_decide_eq_true (by first | (with_reducible assumption) | assumption)) ?_) | ((with_reducible refine gate_store (t := 5) (p := 15) rfl ?_); refine Ar.put_event rfl rfl rfl (by kernel_rfl) (g := gb101) (j := x4_1) rfl (z := ((ji6) % 256)) (by first | rfl | (go_simp; done) | (go_simp; rfl)) (by (with_reducible repeat (first | refine blk_drewN ?_ _ | refine blk_drew ?_ | refine blk_alloc ?_ _)); exact BK101.out) (of_decide_eq_true (by first | (with_reducible assumption) | assumption)) (of_decide_eq_true (by first | (with_reducible assumption) | assumption)) ?_; intro w8 hbk_ hg; rw [← Ny102.out] at hbk_; have n0_ := Aside0.mk (hbk_); have n1_ := Aside0.mk (Below.grown (by repeat (first | (with_reducible first | exact HB.out | apply below_alloc | apply pw_below_drewN | apply below_drew1 | refine below_set ?_ GE101.out) | exact HB.out)) hg ((below_size (by repeat (first | (with_reducible first | exact HB.out | apply below_alloc | apply pw_below_drewN | apply below_drew1 | refine below_set ?_ GE101.out) | exact HB.out)))) (fun _ e_ => by cases e_; exact GE101.out)); clear BK101; clear HB; have BK101 := n0_; have HB := n1_; clear n0_ n1_; clear hbk_ hg))
            go_roundg k1
            case measure => have := HK1.out; omega
            case rel => exact ⟨(wrap64 (x4_1 + 1)), (y102), (by first | rfl | (simp; done) | (simp [*]; done)), H', ⟨by have := HK1.out; omega⟩, ⟨by (with_reducible repeat (first | refine blk_drewN ?_ _ | refine blk_drew ?_ | refine blk_alloc ?_ _)); exact BK101.out⟩, ⟨by repeat (first | (with_reducible first | exact HB.out | apply below_alloc | apply pw_below_drewN | apply below_drew1 | refine below_set ?_ GE101.out) | exact HB.out)⟩⟩
          · rw [if_neg c7] at H
            exact absurd H (by simp)
        · rw [if_neg c5] at H
          exact absurd H (by simp)
      · rw [if_neg c3] at H
        have c3b0 : decide (x4_1 < 8) = false := decide_eq_false c3
        clear c3
        obtain rfl := Option.some.inj H
        go_wp2_with (first | ((with_reducible refine gate_dst (N := 17) rfl ?_); (try (refine gate_guard (by rfl) ?_; dsimp only)); refine Ar.load_event rfl (D := 17) rfl (T := 27) rfl Try.underlying27 (by kernel_rfl) (g := gb101) rfl (by (with_reducible repeat (first | refine blk_drewN ?_ _ | refine blk_drew ?_ | refine blk_alloc ?_ _)); exact BK101.out) ?_) | ((with_reducible refine gate_store (t := 27) (p := 2) rfl ?_); refine Ar.store_all_event rfl rfl rfl Try.underlying27 (by kernel_rfl) (g := gb101) rfl (z := x102000_1) (by first | rfl | (go_simp; done) | (go_simp; rfl)) (by (with_reducible repeat (first | refine blk_drewN ?_ _ | refine blk_drew ?_ | refine blk_alloc ?_ _)); exact BK101.out) ?_; intro w9 hbk_ hg; have n0_ := Aside0.mk (hbk_); have n1_ := Aside0.mk (Below.grown (by repeat (first | (with_reducible first | exact HB.out | apply below_alloc | apply pw_below_drewN | apply below_drew1 | refine below_set ?_ GE101.out) | exact HB.out)) hg ((below_size (by repeat (first | (with_reducible first | exact HB.out | apply below_alloc | apply pw_below_drewN | apply below_drew1 | refine below_set ?_ GE101.out) | exact HB.out)))) (fun _ e_ => by cases e_; exact GE101.out)); clear BK101; clear HB; have BK101 := n0_; have HB := n1_; clear n0_ n1_; clear hbk_ hg))
        refine bodyPost_ret (results_cell_row rfl _ _ gb101 27 (Ar.cells .u8 8 x102000_1) (0, 0) _ rfl (by (with_reducible repeat (first | refine blk_drewN ?_ _ | refine blk_drew ?_ | refine blk_alloc ?_ _)); exact BK101.out) Try.underlying27 rfl (by first | (rw [Ar.cells_size]; kernel_rfl) | kernel_rfl)) rfl ?_
        exact ⟨by first | rfl | (simp [errW_none, errW_some] <;> rfl) | (simp [*, errW_none, errW_some] <;> rfl), by repeat (first | (with_reducible first | exact HB.out | apply below_alloc | apply pw_below_drewN | apply below_drew1 | refine below_set ?_ GE101.out) | exact HB.out)⟩

/-! ### word_Get64: function 26 -/
def word_Get64.l0 : Nat → Int → List Int → Int → Option (Int)
  | 0, _, _, _ => none
  | k + 1, x2, x5, x6 => if x6 < 8 then (if 0 ≤ x6 then (word_Get64.l0 k (Go.bits .or .u64 (IntKind.u64.wrap (x2 * 256)) (IntKind.u64.wrap (Ar.get 8 x5 x6))) x5 (wrap64 (x6 + 1))) else (none)) else (some x2)
def word_Get64.f (k : Nat) (a0 : List Int) : Option (Int) := word_Get64.l0 k 0 a0 0
theorem word_Get64.mono_l : ∀ k, (∀ y0 y1 y2, LeO (word_Get64.l0 k y0 y1 y2) (word_Get64.l0 (k + 1) y0 y1 y2))
  | 0 => fun _ _ _ r h => by simp [word_Get64.l0] at h
  | k + 1 => by
    have ih0 := word_Get64.mono_l k
    · intro y0 y1 y2
      unfold word_Get64.l0
      repeat' first
      | (with_reducible exact ih0 _ _ _)
      | (with_reducible exact LeO.refl _)
      | (with_reducible exact LeO.none _)
      | (with_reducible refine LeO.ite ?_ ?_)
      | (with_reducible refine LeO.bind ?_ (fun _ => ?_))
      | exact ih0 _ _ _
      | exact LeO.none _
      | refine LeO.ite ?_ ?_
      | refine LeO.bind ?_ (fun _ => ?_)
theorem word_Get64.mono : ∀ a0 k, LeO (word_Get64.f k a0) (word_Get64.f (k + 1) a0) := by
  intro a0 k
  have ih0 := word_Get64.mono_l k
  unfold word_Get64.f
  repeat' first
      | (with_reducible exact ih0 _ _ _)
      | (with_reducible exact LeO.refl _)
      | (with_reducible exact LeO.none _)
      | (with_reducible refine LeO.ite ?_ ?_)
      | (with_reducible refine LeO.bind ?_ (fun _ => ?_))
      | exact ih0 _ _ _
      | exact LeO.none _
      | refine LeO.ite ?_ ?_
      | refine LeO.bind ?_ (fun _ => ?_)
set_option maxHeartbeats 8000000 in
set_option maxRecDepth 100000 in
theorem word_Get64.calls (k : Nat) (a0 : List Int) (r : Int) (w : World) (h : word_Get64.f k a0 = some r) :
    Calls Try.prog 26 #[.agg (Ar.cells .u8 8 a0)] w fun e w' => e = .returned (.int .u64 r) ∧ Below w.heap.size w w' := by
  have HB := Aside0.mk (Below.refl w.heap.size w)
  have H : (word_Get64.l0 k 0 a0 0) = some r := h
  clear h
  have H' := Aside0.mk H
  clear H
  go_enter Try.func26, Try.ntmps26
  go_wp2_with (first | ((with_reducible refine gate_dst (N := 1) rfl ?_); (try (refine gate_guard (by rfl) ?_; dsimp only)); refine box_event ?hg (N := 1) ?hd (cs := (Ar.cells .u8 8 a0)) (t := 27) ?hr ?_; (case hd => rfl); (case hg => rfl); (case hr => first | exact Ar.box_run rfl rfl | exact Ar.alloc_run rfl (by kernel_rfl) | (go_simp; done) | (go_simp; rfl)); intro gb103 hg w2 hbox hb; have n0_ := Aside0.mk (below_step (by repeat (first | (with_reducible first | exact HB.out | apply below_alloc | apply pw_below_drewN | apply below_drew1) | exact HB.out)) hb); have n1_ := Aside0.mk (hbox); have n2_ := Aside0.mk ((by rw [hg]; exact (below_size (by repeat (first | (with_reducible first | exact HB.out | apply below_alloc | apply pw_below_drewN | apply below_drew1) | exact HB.out))) : w.heap.size ≤ gb103)); have n3_ := Aside0.mk ((by rw [hg]; exact (below_size (by repeat (first | (with_reducible first | exact HB.out | apply below_alloc | apply pw_below_drewN | apply below_drew1) | exact HB.out))) : w.heap.size ≤ gb103)); clear HB; have HB := n0_; have BK103 := n1_; have GW103 := n2_; have GE103 := n3_; clear n0_ n1_ n2_ n3_; clear hb hbox hg) | ((with_reducible refine gate_dst (N := 5) rfl ?_); (try (refine gate_guard (by rfl) ?_; dsimp only)); refine Ar.load_event rfl (D := 5) rfl (T := 27) rfl Try.underlying27 (by kernel_rfl) (g := gb103) rfl (by (with_reducible repeat (first | refine blk_drewN ?_ _ | refine blk_drew ?_ | refine blk_alloc ?_ _)); exact BK103.out) ?_))
  go_loopg [2, 6] k (fun kq v2 v6 w' => ∃ (x2_1 : Int) (x6_1 : Int), v2 = .int .u64 x2_1 ∧ v6 = .int .i64 x6_1 ∧ Aside0 (word_Get64.l0 kq x2_1 a0 x6_1 = some r) ∧ Aside0 (kq ≤ k) ∧ Aside0 (w'.heap[gb103]? = some (.cells (Ar.cells .u8 8 a0) 27 (0, 0))) ∧ Aside0 (Below w.heap.size w w'))
  case atStart => exact ⟨(0), (0), (by first | rfl | (simp; done) | (simp [*]; done)), (by first | rfl | (simp; done) | (simp [*]; done)), H', ⟨Nat.le_refl _⟩, ⟨by (with_reducible repeat (first | refine blk_drewN ?_ _ | refine blk_drew ?_ | refine blk_alloc ?_ _)); exact BK103.out⟩, ⟨by repeat (first | (with_reducible first | exact HB.out | apply below_alloc | apply pw_below_drewN | apply below_drew1 | refine below_set ?_ GE103.out) | exact HB.out)⟩⟩
  case round =>
    clear H'
    try clear c2
    try clear p2
    obtain ⟨x2_1, x6_1, rfl, rfl, HA, HK1, BK103, HB⟩ := hrel
    cases gk with
    | zero => exact absurd HA.out (by simp [word_Get64.l0])
    | succ k1 =>
      have H := HA.out
      clear HA
      simp only [word_Get64.l0] at H
      by_cases c3 : x6_1 < 8
      · rw [if_pos c3] at H
        have c3b0 : decide (x6_1 < 8) = true := decide_eq_true c3
        clear c3
        by_cases c4 : 0 ≤ x6_1
        · rw [if_pos c4] at H
          have c4b0 : decide (0 ≤ x6_1) = true := decide_eq_true c4
          clear c4
          have H' := Aside0.mk H
          clear H
          go_wp2_with (first | ((with_reducible refine gate_dst (N := 8) rfl ?_); (try (refine gate_guard (by rfl) ?_; dsimp only)); refine Ar.vidx_event rfl (D := 8) rfl (T := 27) rfl Try.underlying27 (by kernel_rfl) Try.underlying5 (k := .u8) (n := 8) (l := a0) (by first | rfl | (go_simp; done) | (go_simp; rfl)) (j := x6_1) (by first | rfl | (go_simp; done) | (go_simp; rfl)) (of_decide_eq_true (by first | (with_reducible assumption) | assumption)) (of_decide_eq_true (by first | (with_reducible assumption) | assumption)) ?_))
          go_roundg k1
          case measure => have := HK1.out; omega
          case rel => exact ⟨(Go.bits .or .u64 (IntKind.u64.wrap (x2_1 * 256)) (IntKind.u64.wrap (Ar.get 8 a0 x6_1))), (wrap64 (x6_1 + 1)), (by first | rfl | (simp; done) | (simp [*]; done)), (by first | rfl | (simp; done) | (simp [*]; done)), H', ⟨by have := HK1.out; omega⟩, ⟨by (with_reducible repeat (first | refine blk_drewN ?_ _ | refine blk_drew ?_ | refine blk_alloc ?_ _)); exact BK103.out⟩, ⟨by repeat (first | (with_reducible first | exact HB.out | apply below_alloc | apply pw_below_drewN | apply below_drew1 | refine below_set ?_ GE103.out) | exact HB.out)⟩⟩
        · rw [if_neg c4] at H
          exact absurd H (by simp)
      · rw [if_neg c3] at H
        have c3b0 : decide (x6_1 < 8) = false := decide_eq_false c3
        clear c3
        obtain rfl := Option.some.inj H
        go_wp2
        go_ret
        exact ⟨by first | rfl | (simp [errW_none, errW_some] <;> rfl) | (simp [*, errW_none, errW_some] <;> rfl), by repeat (first | (with_reducible first | exact HB.out | apply below_alloc | apply pw_below_drewN | apply below_drew1 | refine below_set ?_ GE103.out) | exact HB.out)⟩

/-! ### word_Put32: function 28 -/
def word_Put32.f (a0 : Int) : Option (List Int) := some [(a0 / 16777216) % 256, (a0 / 65536) % 256, (a0 / 256) % 256, (a0) % 256]
set_option maxHeartbeats 8000000 in
set_option maxRecDepth 100000 in
theorem word_Put32.calls (a0 : Int) (r : List Int) (w : World) (h : word_Put32.f a0 = some r) :
    Calls Try.prog 28 #[.int .u32 a0] w fun e w' => e = .returned (.agg (Ar.cells .u8 4 r)) ∧ Below w.heap.size w w' := by
  have HB := Aside0.mk (Below.refl w.heap.size w)
  have H : (some [(a0 / 16777216) % 256, (a0 / 65536) % 256, (a0 / 256) % 256, (a0) % 256]) = some r := h
  clear h
  obtain rfl := Option.some.inj H
  go_enter Try.func28, Try.ntmps28
  go_wp2_with (first | ((with_reducible refine gate_dst (N := 2) rfl ?_); (try (refine gate_guard (by rfl) ?_; dsimp only)); refine box_event ?hg (N := 2) ?hd (cs := (Ar.cells .u8 4 (List.replicate 4 0))) (t := 28) ?hr ?_; (case hd => rfl); (case hg => rfl); (case hr => first | exact Ar.box_run rfl rfl | exact Ar.alloc_run rfl (by kernel_rfl) | (go_simp; done) | (go_simp; rfl)); intro gb104 hg w2 hbox hb; have n0_ := Aside0.mk (below_step (by repeat (first | (with_reducible first | exact HB.out | apply below_alloc | apply pw_below_drewN | apply below_drew1) | exact HB.out)) hb); have n1_ := Aside0.mk (hbox); have n2_ := Aside0.mk ((by rw [hg]; exact (below_size (by repeat (first | (with_reducible first | exact HB.out | apply below_alloc | apply pw_below_drewN | apply below_drew1) | exact HB.out))) : w.heap.size ≤ gb104)); have n3_ := Aside0.mk ((by rw [hg]; exact (below_size (by repeat (first | (with_reducible first | exact HB.out | apply below_alloc | apply pw_below_drewN | apply below_drew1) | exact HB.out))) : w.heap.size ≤ gb104)); clear HB; have HB := n0_; have BK104 := n1_; have GW104 := n2_; have GE104 := n3_; clear n0_ n1_ n2_ n3_; clear hb hbox hg) | ((with_reducible refine gate_dst (N := 14) rfl ?_); (try (refine gate_guard (by rfl) ?_; dsimp only)); refine Ar.build_event rfl (D := 14) rfl (T := 28) rfl (k := .u8) (n := 4) (l := [(a0 / 16777216) % 256, (a0 / 65536) % 256, (a0 / 256) % 256, (a0) % 256]) Try.underlying28 (by kernel_rfl) (by kernel_rfl) [(0, (a0 / 16777216) % 256), (1, (a0 / 65536) % 256), (2, (a0 / 256) % 256), (3, (a0) % 256)] (by rfl) (by rfl) (by rfl) ?_) | ((with_reducible refine gate_store (t := 28) (p := 2) rfl ?_); refine Ar.store_all_event rfl rfl rfl Try.underlying28 (by kernel_rfl) (g := gb104) rfl (z := [(a0 / 16777216) % 256, (a0 / 65536) % 256, (a0 / 256) % 256, (a0) % 256]) (by first | rfl | (go_simp; done) | (go_simp; rfl)) (by (with_reducible repeat (first | refine blk_drewN ?_ _ | refine blk_drew ?_ | refine blk_alloc ?_ _)); exact BK104.out) ?_; intro w3 hbk_ hg; have n0_ := Aside0.mk (hbk_); have n1_ := Aside0.mk (Below.grown (by repeat (first | (with_reducible first | exact HB.out | apply below_alloc | apply pw_below_drewN | apply below_drew1 | refine below_set ?_ GE104.out) | exact HB.out)) hg ((below_size (by repeat (first | (with_reducible first | exact HB.out | apply below_alloc | apply pw_below_drewN | apply below_drew1 | refine below_set ?_ GE104.out) | exact HB.out)))) (fun _ e_ => by cases e_; exact GE104.out)); clear BK104; clear HB; have BK104 := n0_; have HB := n1_; clear n0_ n1_; clear hbk_ hg))
  refine bodyPost_ret (results_cell_row rfl _ _ gb104 28 (Ar.cells .u8 4 [(a0 / 16777216) % 256, (a0 / 65536) % 256, (a0 / 256) % 256, (a0) % 256]) (0, 0) _ rfl (by (with_reducible repeat (first | refine blk_drewN ?_ _ | refine blk_drew ?_ | refine blk_alloc ?_ _)); exact BK104.out) Try.underlying28 rfl (by first | (rw [Ar.cells_size]; kernel_rfl) | kernel_rfl)) rfl ?_
  exact ⟨by first | rfl | (simp [errW_none, errW_some] <;> rfl) | (simp [*, errW_none, errW_some] <;> rfl), by repeat (first | (with_reducible first | exact HB.out | apply below_alloc | apply pw_below_drewN | apply below_drew1 | refine below_set ?_ GE104.out) | exact HB.out)⟩

/-! ### word_Get32: function 30 -/
def word_Get32.l0 : Nat → Int → List Int → Int → Option (Int)
  | 0, _, _, _ => none
  | k + 1, x2, x5, x6 => if x6 < 4 then (if 0 ≤ x6 then (word_Get32.l0 k (Go.bits .or .u32 ((x2 * 256) % 4294967296) ((Ar.get 4 x5 x6) % 4294967296)) x5 (wrap64 (x6 + 1))) else (none)) else (some x2)
def word_Get32.f (k : Nat) (a0 : List Int) : Option (Int) := word_Get32.l0 k 0 a0 0
theorem word_Get32.mono_l : ∀ k, (∀ y0 y1 y2, LeO (word_Get32.l0 k y0 y1 y2) (word_Get32.l0 (k + 1) y0 y1 y2))
  | 0 => fun _ _ _ r h => by simp [word_Get32.l0] at h
  | k + 1 => by
    have ih0 := word_Get32.mono_l k
    · intro y0 y1 y2
      unfold word_Get32.l0
      repeat' first
      | (with_reducible exact ih0 _ _ _)
      | (with_reducible exact LeO.refl _)
      | (with_reducible exact LeO.none _)
      | (with_reducible refine LeO.ite ?_ ?_)
      | (with_reducible refine LeO.bind ?_ (fun _ => ?_))
      | exact ih0 _ _ _
      | exact LeO.none _
      | refine LeO.ite ?_ ?_
      | refine LeO.bind ?_ (fun _ => ?_)
theorem word_Get32.mono : ∀ a0 k, LeO (word_Get32.f k a0) (word_Get32.f (k + 1) a0) := by
  intro a0 k
  have ih0 := word_Get32.mono_l k
  unfold word_Get32.f
  repeat' first
      | (with_reducible exact ih0 _ _ _)
      | (with_reducible exact LeO.refl _)
      | (with_reducible exact LeO.none _)
      | (with_reducible refine LeO.ite ?_ ?_)
      | (with_reducible refine LeO.bind ?_ (fun _ => ?_))
      | exact ih0 _ _ _
      | exact LeO.none _
      | refine LeO.ite ?_ ?_
      | refine LeO.bind ?_ (fun _ => ?_)
set_option maxHeartbeats 8000000 in
set_option maxRecDepth 100000 in
theorem word_Get32.calls (k : Nat) (a0 : List Int) (r : Int) (w : World) (h : word_Get32.f k a0 = some r) :
    Calls Try.prog 30 #[.agg (Ar.cells .u8 4 a0)] w fun e w' => e = .returned (.int .u32 r) ∧ Below w.heap.size w w' := by
  have HB := Aside0.mk (Below.refl w.heap.size w)
  have H : (word_Get32.l0 k 0 a0 0) = some r := h
  clear h
  have H' := Aside0.mk H
  clear H
  go_enter Try.func30, Try.ntmps30
  go_wp2_with (first | ((with_reducible refine gate_dst (N := 1) rfl ?_); (try (refine gate_guard (by rfl) ?_; dsimp only)); refine box_event ?hg (N := 1) ?hd (cs := (Ar.cells .u8 4 a0)) (t := 28) ?hr ?_; (case hd => rfl); (case hg => rfl); (case hr => first | exact Ar.box_run rfl rfl | exact Ar.alloc_run rfl (by kernel_rfl) | (go_simp; done) | (go_simp; rfl)); intro gb105 hg w2 hbox hb; have n0_ := Aside0.mk (below_step (by repeat (first | (with_reducible first | exact HB.out | apply below_alloc | apply pw_below_drewN | apply below_drew1) | exact HB.out)) hb); have n1_ := Aside0.mk (hbox); have n2_ := Aside0.mk ((by rw [hg]; exact (below_size (by repeat (first | (with_reducible first | exact HB.out | apply below_alloc | apply pw_below_drewN | apply below_drew1) | exact HB.out))) : w.heap.size ≤ gb105)); have n3_ := Aside0.mk ((by rw [hg]; exact (below_size (by repeat (first | (with_reducible first | exact HB.out | apply below_alloc | apply pw_below_drewN | apply below_drew1) | exact HB.out))) : w.heap.size ≤ gb105)); clear HB; have HB := n0_; have BK105 := n1_; have GW105 := n2_; have GE105 := n3_; clear n0_ n1_ n2_ n3_; clear hb hbox hg) | ((with_reducible refine gate_dst (N := 5) rfl ?_); (try (refine gate_guard (by rfl) ?_; dsimp only)); refine Ar.load_event rfl (D := 5) rfl (T := 28) rfl Try.underlying28 (by kernel_rfl) (g := gb105) rfl (by (with_reducible repeat (first | refine blk_drewN ?_ _ | refine blk_drew ?_ | refine blk_alloc ?_ _)); exact BK105.out) ?_))
  go_loopg [2, 6] k (fun kq v2 v6 w' => ∃ (x2_1 : Int) (x6_1 : Int), v2 = .int .u32 x2_1 ∧ v6 = .int .i64 x6_1 ∧ Aside0 (word_Get32.l0 kq x2_1 a0 x6_1 = some r) ∧ Aside0 (kq ≤ k) ∧ Aside0 (w'.heap[gb105]? = some (.cells (Ar.cells .u8 4 a0) 28 (0, 0))) ∧ Aside0 (Below w.heap.size w w'))
  case atStart => exact ⟨(0), (0), (by first | rfl | (simp; done) | (simp [*]; done)), (by first | rfl | (simp; done) | (simp [*]; done)), H', ⟨Nat.le_refl _⟩, ⟨by (with_reducible repeat (first | refine blk_drewN ?_ _ | refine blk_drew ?_ | refine blk_alloc ?_ _)); exact BK105.out⟩, ⟨by repeat (first | (with_reducible first | exact HB.out | apply below_alloc | apply pw_below_drewN | apply below_drew1 | refine below_set ?_ GE105.out) | exact HB.out)⟩⟩
  case round =>
    clear H'
    try clear p2
    obtain ⟨x2_1, x6_1, rfl, rfl, HA, HK1, BK105, HB⟩ := hrel
    cases gk with
    | zero => exact absurd HA.out (by simp [word_Get32.l0])
    | succ k1 =>
      have H := HA.out
      clear HA
      simp only [word_Get32.l0] at H
      by_cases c3 : x6_1 < 4
      · rw [if_pos c3] at H
        have c3b0 : decide (x6_1 < 4) = true := decide_eq_true c3
        clear c3
        by_cases c4 : 0 ≤ x6_1
        · rw [if_pos c4] at H
          have c4b0 : decide (0 ≤ x6_1) = true := decide_eq_true c4
          clear c4
          have H' := Aside0.mk H
          clear H
          go_wp2_with (first | ((with_reducible refine gate_dst (N := 8) rfl ?_); (try (refine gate_guard (by rfl) ?_; dsimp only)); refine Ar.vidx_event rfl (D := 8) rfl (T := 28) rfl Try.underlying28 (by kernel_rfl) Try.underlying5 (k := .u8) (n := 4) (l := a0) (by first | rfl | (go_simp; done) | (go_simp; rfl)) (j := x6_1) (by first | rfl | (go_simp; done) | (go_simp; rfl)) (of_decide_eq_true (by first | (with_reducible assumption) | assumption)) (of_decide_eq_true (by first | (with_reducible assumption) | assumption)) ?_))
          go_roundg k1
          case measure => have := HK1.out; omega
          case rel => exact ⟨(Go.bits .or .u32 ((x2_1 * 256) % 4294967296) ((Ar.get 4 a0 x6_1) % 4294967296)), (wrap64 (x6_1 + 1)), (by first | rfl | (simp; done) | (simp [*]; done)), (by first | rfl | (simp; done) | (simp [*]; done)), H', ⟨by have := HK1.out; omega⟩, ⟨by (with_reducible repeat (first | refine blk_drewN ?_ _ | refine blk_drew ?_ | refine blk_alloc ?_ _)); exact BK105.out⟩, ⟨by repeat (first | (with_reducible first | exact HB.out | apply below_alloc | apply pw_below_drewN | apply below_drew1 | refine below_set ?_ GE105.out) | exact HB.out)⟩⟩
        · rw [if_neg c4] at H
          exact absurd H (by simp)
      · rw [if_neg c3] at H
        have c3b0 : decide (x6_1 < 4) = false := decide_eq_false c3
        clear c3
        obtain rfl := Option.some.inj H
        go_wp2
        go_ret
        exact ⟨by first | rfl | (simp [errW_none, errW_some] <;> rfl) | (simp [*, errW_none, errW_some] <;> rfl), by repeat (first | (with_reducible first | exact HB.out | apply below_alloc | apply pw_below_drewN | apply below_drew1 | refine below_set ?_ GE105.out) | exact HB.out)⟩

/-! ### word_Bits: function 32 -/
def word_Bits.l0 : Nat → Int → Int → Option (Int)
  | 0, _, _ => none
  | k + 1, x0, x2 => if x0 = 0 then (some x2) else (word_Bits.l0 k (x0 / 2) (wrap64 (x2 + 1)))
def word_Bits.f (k : Nat) (a0 : Int) : Option (Int) := word_Bits.l0 k a0 0
theorem word_Bits.mono_l : ∀ k, (∀ y0 y1, LeO (word_Bits.l0 k y0 y1) (word_Bits.l0 (k + 1) y0 y1))
  | 0 => fun _ _ r h => by simp [word_Bits.l0] at h
  | k + 1 => by
    have ih0 := word_Bits.mono_l k
    · intro y0 y1
      unfold word_Bits.l0
      repeat' first
      | (with_reducible exact ih0 _ _)
      | (with_reducible exact LeO.refl _)
      | (with_reducible exact LeO.none _)
      | (with_reducible refine LeO.ite ?_ ?_)
      | (with_reducible refine LeO.bind ?_ (fun _ => ?_))
      | exact ih0 _ _
      | exact LeO.none _
      | refine LeO.ite ?_ ?_
      | refine LeO.bind ?_ (fun _ => ?_)
theorem word_Bits.mono : ∀ a0 k, LeO (word_Bits.f k a0) (word_Bits.f (k + 1) a0) := by
  intro a0 k
  have ih0 := word_Bits.mono_l k
  unfold word_Bits.f
  repeat' first
      | (with_reducible exact ih0 _ _)
      | (with_reducible exact LeO.refl _)
      | (with_reducible exact LeO.none _)
      | (with_reducible refine LeO.ite ?_ ?_)
      | (with_reducible refine LeO.bind ?_ (fun _ => ?_))
      | exact ih0 _ _
      | exact LeO.none _
      | refine LeO.ite ?_ ?_
      | refine LeO.bind ?_ (fun _ => ?_)
set_option maxHeartbeats 8000000 in
set_option maxRecDepth 100000 in
theorem word_Bits.calls (k : Nat) (a0 : Int) (r : Int) (w : World) (h : word_Bits.f k a0 = some r) :
    Calls Try.prog 32 #[.int .u64 a0] w fun e w' => e = .returned (.int .i64 r) ∧ Drawn0 w w' := by
  have H : (word_Bits.l0 k a0 0) = some r := h
  clear h
  have H' := Aside0.mk H
  clear H
  go_enter Try.func32, Try.ntmps32
  go_wp2
  go_loopg [0, 2] k (fun kq v0 v2 w' => ∃ (x0_1 : Int) (x2_1 : Int), v0 = .int .u64 x0_1 ∧ v2 = .int .i64 x2_1 ∧ Aside0 (word_Bits.l0 kq x0_1 x2_1 = some r) ∧ Aside0 (kq ≤ k) ∧ Drawn0 w w')
  case atStart => exact ⟨(a0), (0), (by first | rfl | (simp; done) | (simp [*]; done)), (by first | rfl | (simp; done) | (simp [*]; done)), H', ⟨Nat.le_refl _⟩, by repeat (first | exact Drawn0.refl _ | apply Drawn0.step)⟩
  case round =>
    clear H'
    obtain ⟨x0_1, x2_1, rfl, rfl, HA, HK1, ⟨m1, rfl⟩⟩ := hrel
    cases gk with
    | zero => exact absurd HA.out (by simp [word_Bits.l0])
    | succ k1 =>
      have H := HA.out
      clear HA
      simp only [word_Bits.l0] at H
      by_cases c2 : x0_1 = 0
      · rw [if_pos c2] at H
        have c2b0 : (x0_1 == 0) = true := beq_iff_eq.mpr c2
        have c2b1 : (x0_1 != 0) = false := bne_eq_false_iff_eq.mpr c2
        clear c2
        obtain rfl := Option.some.inj H
        go_wp2
        go_ret
        exact ⟨by first | rfl | (simp; done) | (simp [*]; done), by repeat (first | exact Drawn0.refl _ | apply Drawn0.step)⟩
      · rw [if_neg c2] at H
        have c2b0 : (x0_1 == 0) = false := beq_eq_false_iff_ne.mpr c2
        have c2b1 : (x0_1 != 0) = true := bne_iff_ne.mpr c2
        have H' := Aside0.mk H
        clear H
        go_wp2
        go_roundg k1
        case measure => have := HK1.out; omega
        case rel => exact ⟨(x0_1 / 2), (wrap64 (x2_1 + 1)), (by first | rfl | (simp; done) | (simp [*]; done)), (by first | rfl | (simp; done) | (simp [*]; done)), H', ⟨by have := HK1.out; omega⟩, by repeat (first | exact Drawn0.refl _ | apply Drawn0.step)⟩

/-! ### drawlotlaw01_alive: function 17 -/
def drawlotlaw01_alive.f (k : Nat)  : Option (Bool) := (word_Rotate.f 1 1).bind fun t106 => (if t106 = 2147483648 then ((word_Rotate.f 2147483648 (-1)).bind fun t107 => (if t107 = 1 then ((word_Left.f 3 30).bind fun t108 => (if t108 = 3221225472 then ((word_Left.f 3 32).bind fun t109 => (if t109 = 0 then ((word_Right.f 5 1).bind fun t110 => (if t110 = 2 then ((word_Right.f 5 (-3)).bind fun t111 => (if t111 = 5 then ((word_Put32.f 258).bind fun t112 => (if (Ar.eqb 4 t112 [0, 0, 1, 2]) = true then ((word_Get64.f k [0, 0, 0, 0, 0, 0, 1, 0]).bind fun t113 => (if t113 = 256 then ((word_Bits.f k 0).bind fun t114 => (if t114 = 0 then ((word_Bits.f k 255).bind fun t115 => (if t115 = 8 then ((word_Get32.f k [1, 0, 0, 0]).bind fun t116 => (if t116 = 16777216 then ((word_Put64.f k 1).bind fun t117 => (some ((Ar.get 8 t117 7) == 1))) else (none))) else (none))) else (none))) else (none))) else (none))) else (none))) else (none))) else (none))) else (none))) else (none))) else (none))
theorem drawlotlaw01_alive.mono : ∀ k, LeO (drawlotlaw01_alive.f k ) (drawlotlaw01_alive.f (k + 1) ) := by
  intro  k
  unfold drawlotlaw01_alive.f
  repeat' first
      | (with_reducible exact word_Bits.mono _ _)
      | (with_reducible exact word_Get32.mono _ _)
      | (with_reducible exact word_Get64.mono _ _)
      | (with_reducible exact word_Put64.mono _ _)
      | (with_reducible exact LeO.refl _)
      | (with_reducible exact LeO.none _)
      | (with_reducible refine LeO.ite ?_ ?_)
      | (with_reducible refine LeO.bind ?_ (fun _ => ?_))
      | exact word_Bits.mono _ _
      | exact word_Get32.mono _ _
      | exact word_Get64.mono _ _
      | exact word_Put64.mono _ _
      | exact LeO.none _
      | refine LeO.ite ?_ ?_
      | refine LeO.bind ?_ (fun _ => ?_)
set_option maxHeartbeats 8000000 in
set_option maxRecDepth 100000 in
theorem drawlotlaw01_alive.calls (k : Nat)  (r : Bool) (w : World) (h : drawlotlaw01_alive.f k  = some r) :
    Calls Try.prog 17 #[] w fun e w' => e = .returned (.bool r) ∧ Below w.heap.size w w' := by
  have HB := Aside0.mk (Below.refl w.heap.size w)
  have H : ((word_Rotate.f 1 1).bind fun t106 => (if t106 = 2147483648 then ((word_Rotate.f 2147483648 (-1)).bind fun t107 => (if t107 = 1 then ((word_Left.f 3 30).bind fun t108 => (if t108 = 3221225472 then ((word_Left.f 3 32).bind fun t109 => (if t109 = 0 then ((word_Right.f 5 1).bind fun t110 => (if t110 = 2 then ((word_Right.f 5 (-3)).bind fun t111 => (if t111 = 5 then ((word_Put32.f 258).bind fun t112 => (if (Ar.eqb 4 t112 [0, 0, 1, 2]) = true then ((word_Get64.f k [0, 0, 0, 0, 0, 0, 1, 0]).bind fun t113 => (if t113 = 256 then ((word_Bits.f k 0).bind fun t114 => (if t114 = 0 then ((word_Bits.f k 255).bind fun t115 => (if t115 = 8 then ((word_Get32.f k [1, 0, 0, 0]).bind fun t116 => (if t116 = 16777216 then ((word_Put64.f k 1).bind fun t117 => (some ((Ar.get 8 t117 7) == 1))) else (none))) else (none))) else (none))) else (none))) else (none))) else (none))) else (none))) else (none))) else (none))) else (none))) else (none))) = some r := h
  clear h
  replace H := Option.bind_eq_some_iff.mp H
  obtain ⟨t106, A10, H⟩ := H
  replace H : (if t106 = 2147483648 then ((word_Rotate.f 2147483648 (-1)).bind fun t107 => (if t107 = 1 then ((word_Left.f 3 30).bind fun t108 => (if t108 = 3221225472 then ((word_Left.f 3 32).bind fun t109 => (if t109 = 0 then ((word_Right.f 5 1).bind fun t110 => (if t110 = 2 then ((word_Right.f 5 (-3)).bind fun t111 => (if t111 = 5 then ((word_Put32.f 258).bind fun t112 => (if (Ar.eqb 4 t112 [0, 0, 1, 2]) = true then ((word_Get64.f k [0, 0, 0, 0, 0, 0, 1, 0]).bind fun t113 => (if t113 = 256 then ((word_Bits.f k 0).bind fun t114 => (if t114 = 0 then ((word_Bits.f k 255).bind fun t115 => (if t115 = 8 then ((word_Get32.f k [1, 0, 0, 0]).bind fun t116 => (if t116 = 16777216 then ((word_Put64.f k 1).bind fun t117 => (some ((Ar.get 8 t117 7) == 1))) else (none))) else (none))) else (none))) else (none))) else (none))) else (none))) else (none))) else (none))) else (none))) else (none))) else (none)) = some r := H
  have A1 := Aside0.mk A10
  clear A10
  by_cases c2 : t106 = 2147483648
  · rw [if_pos c2] at H
    have c2b0 : (t106 == 2147483648) = true := beq_iff_eq.mpr c2
    have c2b1 : (t106 != 2147483648) = false := bne_eq_false_iff_eq.mpr c2
    clear c2
    replace H := Option.bind_eq_some_iff.mp H
    obtain ⟨t107, A30, H⟩ := H
    replace H : (if t107 = 1 then ((word_Left.f 3 30).bind fun t108 => (if t108 = 3221225472 then ((word_Left.f 3 32).bind fun t109 => (if t109 = 0 then ((word_Right.f 5 1).bind fun t110 => (if t110 = 2 then ((word_Right.f 5 (-3)).bind fun t111 => (if t111 = 5 then ((word_Put32.f 258).bind fun t112 => (if (Ar.eqb 4 t112 [0, 0, 1, 2]) = true then ((word_Get64.f k [0, 0, 0, 0, 0, 0, 1, 0]).bind fun t113 => (if t113 = 256 then ((word_Bits.f k 0).bind fun t114 => (if t114 = 0 then ((word_Bits.f k 255).bind fun t115 => (if t115 = 8 then ((word_Get32.f k [1, 0, 0, 0]).bind fun t116 => (if t116 = 16777216 then ((word_Put64.f k 1).bind fun t117 => (some ((Ar.get 8 t117 7) == 1))) else (none))) else (none))) else (none))) else (none))) else (none))) else (none))) else (none))) else (none))) else (none))) else (none)) = some r := H
    have A3 := Aside0.mk A30
    clear A30
    by_cases c4 : t107 = 1
    · rw [if_pos c4] at H
      have c4b0 : (t107 == 1) = true := beq_iff_eq.mpr c4
      have c4b1 : (t107 != 1) = false := bne_eq_false_iff_eq.mpr c4
      clear c4
      replace H := Option.bind_eq_some_iff.mp H
      obtain ⟨t108, A50, H⟩ := H
      replace H : (if t108 = 3221225472 then ((word_Left.f 3 32).bind fun t109 => (if t109 = 0 then ((word_Right.f 5 1).bind fun t110 => (if t110 = 2 then ((word_Right.f 5 (-3)).bind fun t111 => (if t111 = 5 then ((word_Put32.f 258).bind fun t112 => (if (Ar.eqb 4 t112 [0, 0, 1, 2]) = true then ((word_Get64.f k [0, 0, 0, 0, 0, 0, 1, 0]).bind fun t113 => (if t113 = 256 then ((word_Bits.f k 0).bind fun t114 => (if t114 = 0 then ((word_Bits.f k 255).bind fun t115 => (if t115 = 8 then ((word_Get32.f k [1, 0, 0, 0]).bind fun t116 => (if t116 = 16777216 then ((word_Put64.f k 1).bind fun t117 => (some ((Ar.get 8 t117 7) == 1))) else (none))) else (none))) else (none))) else (none))) else (none))) else (none))) else (none))) else (none))) else (none)) = some r := H
      have A5 := Aside0.mk A50
      clear A50
      by_cases c6 : t108 = 3221225472
      · rw [if_pos c6] at H
        have c6b0 : (t108 == 3221225472) = true := beq_iff_eq.mpr c6
        have c6b1 : (t108 != 3221225472) = false := bne_eq_false_iff_eq.mpr c6
        clear c6
        replace H := Option.bind_eq_some_iff.mp H
        obtain ⟨t109, A70, H⟩ := H
        replace H : (if t109 = 0 then ((word_Right.f 5 1).bind fun t110 => (if t110 = 2 then ((word_Right.f 5 (-3)).bind fun t111 => (if t111 = 5 then ((word_Put32.f 258).bind fun t112 => (if (Ar.eqb 4 t112 [0, 0, 1, 2]) = true then ((word_Get64.f k [0, 0, 0, 0, 0, 0, 1, 0]).bind fun t113 => (if t113 = 256 then ((word_Bits.f k 0).bind fun t114 => (if t114 = 0 then ((word_Bits.f k 255).bind fun t115 => (if t115 = 8 then ((word_Get32.f k [1, 0, 0, 0]).bind fun t116 => (if t116 = 16777216 then ((word_Put64.f k 1).bind fun t117 => (some ((Ar.get 8 t117 7) == 1))) else (none))) else (none))) else (none))) else (none))) else (none))) else (none))) else (none))) else (none)) = some r := H
        have A7 := Aside0.mk A70
        clear A70
        by_cases c8 : t109 = 0
        · rw [if_pos c8] at H
          have c8b0 : (t109 == 0) = true := beq_iff_eq.mpr c8
          have c8b1 : (t109 != 0) = false := bne_eq_false_iff_eq.mpr c8
          clear c8
          replace H := Option.bind_eq_some_iff.mp H
          obtain ⟨t110, A90, H⟩ := H
          replace H : (if t110 = 2 then ((word_Right.f 5 (-3)).bind fun t111 => (if t111 = 5 then ((word_Put32.f 258).bind fun t112 => (if (Ar.eqb 4 t112 [0, 0, 1, 2]) = true then ((word_Get64.f k [0, 0, 0, 0, 0, 0, 1, 0]).bind fun t113 => (if t113 = 256 then ((word_Bits.f k 0).bind fun t114 => (if t114 = 0 then ((word_Bits.f k 255).bind fun t115 => (if t115 = 8 then ((word_Get32.f k [1, 0, 0, 0]).bind fun t116 => (if t116 = 16777216 then ((word_Put64.f k 1).bind fun t117 => (some ((Ar.get 8 t117 7) == 1))) else (none))) else (none))) else (none))) else (none))) else (none))) else (none))) else (none)) = some r := H
          have A9 := Aside0.mk A90
          clear A90
          by_cases c10 : t110 = 2
          · rw [if_pos c10] at H
            have c10b0 : (t110 == 2) = true := beq_iff_eq.mpr c10
            have c10b1 : (t110 != 2) = false := bne_eq_false_iff_eq.mpr c10
            clear c10
            replace H := Option.bind_eq_some_iff.mp H
            obtain ⟨t111, A110, H⟩ := H
            replace H : (if t111 = 5 then ((word_Put32.f 258).bind fun t112 => (if (Ar.eqb 4 t112 [0, 0, 1, 2]) = true then ((word_Get64.f k [0, 0, 0, 0, 0, 0, 1, 0]).bind fun t113 => (if t113 = 256 then ((word_Bits.f k 0).bind fun t114 => (if t114 = 0 then ((word_Bits.f k 255).bind fun t115 => (if t115 = 8 then ((word_Get32.f k [1, 0, 0, 0]).bind fun t116 => (if t116 = 16777216 then ((word_Put64.f k 1).bind fun t117 => (some ((Ar.get 8 t117 7) == 1))) else (none))) else (none))) else (none))) else (none))) else (none))) else (none)) = some r := H
            have A11 := Aside0.mk A110
            clear A110
            by_cases c12 : t111 = 5
            · rw [if_pos c12] at H
              have c12b0 : (t111 == 5) = true := beq_iff_eq.mpr c12
              have c12b1 : (t111 != 5) = false := bne_eq_false_iff_eq.mpr c12
              clear c12
              replace H := Option.bind_eq_some_iff.mp H
              obtain ⟨t112, A130, H⟩ := H
              replace H : (if (Ar.eqb 4 t112 [0, 0, 1, 2]) = true then ((word_Get64.f k [0, 0, 0, 0, 0, 0, 1, 0]).bind fun t113 => (if t113 = 256 then ((word_Bits.f k 0).bind fun t114 => (if t114 = 0 then ((word_Bits.f k 255).bind fun t115 => (if t115 = 8 then ((word_Get32.f k [1, 0, 0, 0]).bind fun t116 => (if t116 = 16777216 then ((word_Put64.f k 1).bind fun t117 => (some ((Ar.get 8 t117 7) == 1))) else (none))) else (none))) else (none))) else (none))) else (none)) = some r := H
              have A13 := Aside0.mk A130
              clear A130
              by_cases c14 : (Ar.eqb 4 t112 [0, 0, 1, 2]) = true
              · rw [if_pos c14] at H
                have c14b0 : (Ar.eqb 4 t112 [0, 0, 1, 2]) = true := c14
                clear c14
                replace H := Option.bind_eq_some_iff.mp H
                obtain ⟨t113, A150, H⟩ := H
                replace H : (if t113 = 256 then ((word_Bits.f k 0).bind fun t114 => (if t114 = 0 then ((word_Bits.f k 255).bind fun t115 => (if t115 = 8 then ((word_Get32.f k [1, 0, 0, 0]).bind fun t116 => (if t116 = 16777216 then ((word_Put64.f k 1).bind fun t117 => (some ((Ar.get 8 t117 7) == 1))) else (none))) else (none))) else (none))) else (none)) = some r := H
                have A15 := Aside0.mk A150
                clear A150
                by_cases c16 : t113 = 256
                · rw [if_pos c16] at H
                  have c16b0 : (t113 == 256) = true := beq_iff_eq.mpr c16
                  have c16b1 : (t113 != 256) = false := bne_eq_false_iff_eq.mpr c16
                  clear c16
                  replace H := Option.bind_eq_some_iff.mp H
                  obtain ⟨t114, A170, H⟩ := H
                  replace H : (if t114 = 0 then ((word_Bits.f k 255).bind fun t115 => (if t115 = 8 then ((word_Get32.f k [1, 0, 0, 0]).bind fun t116 => (if t116 = 16777216 then ((word_Put64.f k 1).bind fun t117 => (some ((Ar.get 8 t117 7) == 1))) else (none))) else (none))) else (none)) = some r := H
                  have A17 := Aside0.mk A170
                  clear A170
                  by_cases c18 : t114 = 0
                  · rw [if_pos c18] at H
                    have c18b0 : (t114 == 0) = true := beq_iff_eq.mpr c18
                    have c18b1 : (t114 != 0) = false := bne_eq_false_iff_eq.mpr c18
                    clear c18
                    replace H := Option.bind_eq_some_iff.mp H
                    obtain ⟨t115, A190, H⟩ := H
                    replace H : (if t115 = 8 then ((word_Get32.f k [1, 0, 0, 0]).bind fun t116 => (if t116 = 16777216 then ((word_Put64.f k 1).bind fun t117 => (some ((Ar.get 8 t117 7) == 1))) else (none))) else (none)) = some r := H
                    have A19 := Aside0.mk A190
                    clear A190
                    by_cases c20 : t115 = 8
                    · rw [if_pos c20] at H
                      have c20b0 : (t115 == 8) = true := beq_iff_eq.mpr c20
                      have c20b1 : (t115 != 8) = false := bne_eq_false_iff_eq.mpr c20
                      clear c20
                      replace H := Option.bind_eq_some_iff.mp H
                      obtain ⟨t116, A210, H⟩ := H
                      replace H : (if t116 = 16777216 then ((word_Put64.f k 1).bind fun t117 => (some ((Ar.get 8 t117 7) == 1))) else (none)) = some r := H
                      have A21 := Aside0.mk A210
                      clear A210
                      by_cases c22 : t116 = 16777216
                      · rw [if_pos c22] at H
                        have c22b0 : (t116 == 16777216) = true := beq_iff_eq.mpr c22
                        have c22b1 : (t116 != 16777216) = false := bne_eq_false_iff_eq.mpr c22
                        clear c22
                        replace H := Option.bind_eq_some_iff.mp H
                        obtain ⟨t117, A230, H⟩ := H
                        replace H : (some ((Ar.get 8 t117 7) == 1)) = some r := H
                        have A23 := Aside0.mk A230
                        clear A230
                        obtain rfl := Option.some.inj H
                        go_enter Try.func17, Try.ntmps17
                        go_wp2_with (first | ((with_reducible refine gate_callee (f := 22) rfl ?_); refine goesL_ (some 1) rfl rfl Try.func22 (by kernel_rfl) rfl #[.int .u32 1, .int .i64 1] rfl (by (try simp only [List.map_toArray, List.map_cons, List.map_nil]); first | done | rfl | (simp only [List.length_drop, List.length_take]; rfl)) ?_; (with_reducible refine (word_Rotate.calls 1 1 t106 _ A1.out).mono ?_); rintro e w' ⟨rfl, ⟨nd, rfl⟩⟩; refine ⟨_, rfl, ?_⟩) | (go_at_call 22; (with_reducible refine (word_Rotate.calls 2147483648 (-1) t107 _ A3.out).mono ?_); rintro e w' ⟨rfl, ⟨nd, rfl⟩⟩) | (go_at_call 18; (with_reducible refine (word_Left.calls 3 30 t108 _ A5.out).mono ?_); rintro e w24 ⟨rfl, hb⟩; have n0_ := Aside0.mk (below_step (by repeat (first | (with_reducible first | exact HB.out | apply below_alloc | apply pw_below_drewN | apply below_drew1) | exact HB.out)) hb); clear HB; have HB := n0_; clear n0_; (try clear hb); (try clear hb2); (try clear hk); (try clear hi)) | (go_at_call 18; (with_reducible refine (word_Left.calls 3 32 t109 _ A7.out).mono ?_); rintro e w25 ⟨rfl, hb⟩; have n0_ := Aside0.mk (below_step (by repeat (first | (with_reducible first | exact HB.out | apply below_alloc | apply pw_below_drewN | apply below_drew1) | exact HB.out)) hb); clear HB; have HB := n0_; clear n0_; (try clear hb); (try clear hb2); (try clear hk); (try clear hi)) | (go_at_call 20; (with_reducible refine (word_Right.calls 5 1 t110 _ A9.out).mono ?_); rintro e w26 ⟨rfl, hb⟩; have n0_ := Aside0.mk (below_step (by repeat (first | (with_reducible first | exact HB.out | apply below_alloc | apply pw_below_drewN | apply below_drew1) | exact HB.out)) hb); clear HB; have HB := n0_; clear n0_; (try clear hb); (try clear hb2); (try clear hk); (try clear hi)) | (go_at_call 20; (with_reducible refine (word_Right.calls 5 (-3) t111 _ A11.out).mono ?_); rintro e w27 ⟨rfl, hb⟩; have n0_ := Aside0.mk (below_step (by repeat (first | (with_reducible first | exact HB.out | apply below_alloc | apply pw_below_drewN | apply below_drew1) | exact HB.out)) hb); clear HB; have HB := n0_; clear n0_; (try clear hb); (try clear hb2); (try clear hk); (try clear hi)) | (go_at_call 28; (with_reducible refine (word_Put32.calls 258 t112 _ A13.out).mono ?_); rintro e w28 ⟨rfl, hb⟩; have n0_ := Aside0.mk (below_step (by repeat (first | (with_reducible first | exact HB.out | apply below_alloc | apply pw_below_drewN | apply below_drew1) | exact HB.out)) hb); clear HB; have HB := n0_; clear n0_; (try clear hb); (try clear hb2); (try clear hk); (try clear hi)) | ((with_reducible refine gate_dst (N := 25) rfl ?_); (try (refine gate_guard (by rfl) ?_; dsimp only)); refine Ar.build_event rfl (D := 25) rfl (T := 28) rfl (k := .u8) (n := 4) (l := [0, 0, 1, 2]) Try.underlying28 (by kernel_rfl) (by kernel_rfl) [(0, 0), (1, 0), (2, 1), (3, 2)] (by rfl) (by rfl) (by rfl) ?_) | ((with_reducible refine gate_dst (N := 26) rfl ?_); (try (refine gate_guard (by rfl) ?_; dsimp only)); refine Ar.eq_event rfl (D := 26) rfl (T := 28) (neq := false) rfl Try.underlying28 (by kernel_rfl) Try.underlying5 (by kernel_rfl) (k := .u8) (n := 4) (l := t112) (m := [0, 0, 1, 2]) (by first | rfl | (go_simp; done) | (go_simp; rfl)) (by first | rfl | (go_simp; done) | (go_simp; rfl)) ?_; dsimp only [if_true, if_false, Bool.false_eq_true]) | ((with_reducible refine gate_dst (N := 29) rfl ?_); (try (refine gate_guard (by rfl) ?_; dsimp only)); refine Ar.build_event rfl (D := 29) rfl (T := 27) rfl (k := .u8) (n := 8) (l := [0, 0, 0, 0, 0, 0, 1, 0]) Try.underlying27 (by kernel_rfl) (by kernel_rfl) [(0, 0), (1, 0), (2, 0), (3, 0), (4, 0), (5, 0), (6, 1), (7, 0)] (by rfl) (by rfl) (by rfl) ?_) | (go_at_call 26; (with_reducible refine (word_Get64.calls k [0, 0, 0, 0, 0, 0, 1, 0] t113 _ A15.out).mono ?_); rintro e w29 ⟨rfl, hb⟩; have n0_ := Aside0.mk (below_step (by repeat (first | (with_reducible first | exact HB.out | apply below_alloc | apply pw_below_drewN | apply below_drew1) | exact HB.out)) hb); clear HB; have HB := n0_; clear n0_; (try clear hb); (try clear hb2); (try clear hk); (try clear hi)) | (go_at_call 32; (with_reducible refine (word_Bits.calls k 0 t114 _ A17.out).mono ?_); rintro e w' ⟨rfl, ⟨nd, rfl⟩⟩) | (go_at_call 32; (with_reducible refine (word_Bits.calls k 255 t115 _ A19.out).mono ?_); rintro e w' ⟨rfl, ⟨nd, rfl⟩⟩) | ((with_reducible refine gate_dst (N := 42) rfl ?_); (try (refine gate_guard (by rfl) ?_; dsimp only)); refine Ar.build_event rfl (D := 42) rfl (T := 28) rfl (k := .u8) (n := 4) (l := [1, 0, 0, 0]) Try.underlying28 (by kernel_rfl) (by kernel_rfl) [(0, 1), (1, 0), (2, 0), (3, 0)] (by rfl) (by rfl) (by rfl) ?_) | (go_at_call 30; (with_reducible refine (word_Get32.calls k [1, 0, 0, 0] t116 _ A21.out).mono ?_); rintro e w30 ⟨rfl, hb⟩; have n0_ := Aside0.mk (below_step (by repeat (first | (with_reducible first | exact HB.out | apply below_alloc | apply pw_below_drewN | apply below_drew1) | exact HB.out)) hb); clear HB; have HB := n0_; clear n0_; (try clear hb); (try clear hb2); (try clear hk); (try clear hi)) | (go_at_call 24; (with_reducible refine (word_Put64.calls k 1 t117 _ A23.out).mono ?_); rintro e w31 ⟨rfl, hb⟩; have n0_ := Aside0.mk (below_step (by repeat (first | (with_reducible first | exact HB.out | apply below_alloc | apply pw_below_drewN | apply below_drew1) | exact HB.out)) hb); clear HB; have HB := n0_; clear n0_; (try clear hb); (try clear hb2); (try clear hk); (try clear hi)) | ((with_reducible refine gate_dst (N := 48) rfl ?_); (try (refine gate_guard (by rfl) ?_; dsimp only)); refine Ar.vidx_event rfl (D := 48) rfl (T := 27) rfl Try.underlying27 (by kernel_rfl) Try.underlying5 (k := .u8) (n := 8) (l := t117) (by first | rfl | (go_simp; done) | (go_simp; rfl)) (j := 7) (by first | rfl | (go_simp; done) | (go_simp; rfl)) (by decide) (by decide) ?_))
                        go_ret
                        exact ⟨by first | rfl | (simp [errW_none, errW_some] <;> rfl) | (simp [*, errW_none, errW_some] <;> rfl), by repeat (first | (with_reducible first | exact HB.out | apply below_alloc | apply pw_below_drewN | apply below_drew1) | exact HB.out)⟩
                      · rw [if_neg c22] at H
                        exact absurd H (by simp)
                    · rw [if_neg c20] at H
                      exact absurd H (by simp)
                  · rw [if_neg c18] at H
                    exact absurd H (by simp)
                · rw [if_neg c16] at H
                  exact absurd H (by simp)
              · rw [if_neg c14] at H
                exact absurd H (by simp)
            · rw [if_neg c12] at H
              exact absurd H (by simp)
          · rw [if_neg c10] at H
            exact absurd H (by simp)
        · rw [if_neg c8] at H
          exact absurd H (by simp)
      · rw [if_neg c6] at H
        exact absurd H (by simp)
    · rw [if_neg c4] at H
      exact absurd H (by simp)
  · rw [if_neg c2] at H
    exact absurd H (by simp)

/-! ### drawlotref01_Left: function 19 -/
def drawlotref01_Left.l0 : Nat → Int → Int → Int → Option (Int)
  | 0, _, _, _ => none
  | k + 1, x0, x1, x5 => if x5 < x1 then (drawlotref01_Left.l0 k ((2 * x0) % 4294967296) x1 (wrap64 (x5 + 1))) else (some x0)
def drawlotref01_Left.f (k : Nat) (a0 : Int) (a1 : Int) : Option (Int) := if a1 > 31 then (some 0) else (drawlotref01_Left.l0 k a0 a1 0)
theorem drawlotref01_Left.mono_l : ∀ k, (∀ y0 y1 y2, LeO (drawlotref01_Left.l0 k y0 y1 y2) (drawlotref01_Left.l0 (k + 1) y0 y1 y2))
  | 0 => fun _ _ _ r h => by simp [drawlotref01_Left.l0] at h
  | k + 1 => by
    have ih0 := drawlotref01_Left.mono_l k
    · intro y0 y1 y2
      unfold drawlotref01_Left.l0
      repeat' first
      | (with_reducible exact ih0 _ _ _)
      | (with_reducible exact LeO.refl _)
      | (with_reducible exact LeO.none _)
      | (with_reducible refine LeO.ite ?_ ?_)
      | (with_reducible refine LeO.bind ?_ (fun _ => ?_))
      | exact ih0 _ _ _
      | exact LeO.none _
      | refine LeO.ite ?_ ?_
      | refine LeO.bind ?_ (fun _ => ?_)
theorem drawlotref01_Left.mono : ∀ a0 a1 k, LeO (drawlotref01_Left.f k a0 a1) (drawlotref01_Left.f (k + 1) a0 a1) := by
  intro a0 a1 k
  have ih0 := drawlotref01_Left.mono_l k
  unfold drawlotref01_Left.f
  repeat' first
      | (with_reducible exact ih0 _ _ _)
      | (with_reducible exact LeO.refl _)
      | (with_reducible exact LeO.none _)
      | (with_reducible refine LeO.ite ?_ ?_)
      | (with_reducible refine LeO.bind ?_ (fun _ => ?_))
      | exact ih0 _ _ _
      | exact LeO.none _
      | refine LeO.ite ?_ ?_
      | refine LeO.bind ?_ (fun _ => ?_)
set_option maxHeartbeats 8000000 in
set_option maxRecDepth 100000 in
theorem drawlotref01_Left.calls (k : Nat) (a0 : Int) (a1 : Int) (r : Int) (w : World) (h : drawlotref01_Left.f k a0 a1 = some r) :
    Calls Try.prog 19 #[.int .u32 a0, .int .i64 a1] w fun e w' => e = .returned (.int .u32 r) ∧ Drawn0 w w' := by
  have H : (if a1 > 31 then (some 0) else (drawlotref01_Left.l0 k a0 a1 0)) = some r := h
  clear h
  by_cases c3 : a1 > 31
  · rw [if_pos c3] at H
    have c3b0 : decide (31 < a1) = true := decide_eq_true c3
    clear c3
    obtain rfl := Option.some.inj H
    go_enter Try.func19, Try.ntmps19
    go_wp2
    go_ret
    exact ⟨by first | rfl | (simp; done) | (simp [*]; done), by repeat (first | exact Drawn0.refl _ | apply Drawn0.step)⟩
  · rw [if_neg c3] at H
    have c3b0 : decide (31 < a1) = false := decide_eq_false c3
    clear c3
    have H' := Aside0.mk H
    clear H
    go_enter Try.func19, Try.ntmps19
    go_wp2
    go_loopg [0, 5] k (fun kq v0 v5 w' => ∃ (x0_1 : Int) (x5_1 : Int), v0 = .int .u32 x0_1 ∧ v5 = .int .i64 x5_1 ∧ Aside0 (drawlotref01_Left.l0 kq x0_1 a1 x5_1 = some r) ∧ Aside0 (kq ≤ k) ∧ Drawn0 w w')
    case atStart => exact ⟨(a0), (0), (by first | rfl | (simp; done) | (simp [*]; done)), (by first | rfl | (simp; done) | (simp [*]; done)), H', ⟨Nat.le_refl _⟩, by repeat (first | exact Drawn0.refl _ | apply Drawn0.step)⟩
    case round =>
      clear H'
      try clear c1
      try clear p2
      try clear c3
      try clear c3b0
      obtain ⟨x0_1, x5_1, rfl, rfl, HA, HK1, ⟨m1, rfl⟩⟩ := hrel
      cases gk with
      | zero => exact absurd HA.out (by simp [drawlotref01_Left.l0])
      | succ k1 =>
        have H := HA.out
        clear HA
        simp only [drawlotref01_Left.l0] at H
        by_cases c4 : x5_1 < a1
        · rw [if_pos c4] at H
          have c4b0 : decide (x5_1 < a1) = true := decide_eq_true c4
          clear c4
          have H' := Aside0.mk H
          clear H
          go_wp2
          go_roundg k1
          case measure => have := HK1.out; omega
          case rel => exact ⟨((2 * x0_1) % 4294967296), (wrap64 (x5_1 + 1)), (by first | rfl | (simp; done) | (simp [*]; done)), (by first | rfl | (simp; done) | (simp [*]; done)), H', ⟨by have := HK1.out; omega⟩, by repeat (first | exact Drawn0.refl _ | apply Drawn0.step)⟩
        · rw [if_neg c4] at H
          have c4b0 : decide (x5_1 < a1) = false := decide_eq_false c4
          clear c4
          obtain rfl := Option.some.inj H
          go_wp2
          go_ret
          exact ⟨by first | rfl | (simp; done) | (simp [*]; done), by repeat (first | exact Drawn0.refl _ | apply Drawn0.step)⟩

/-! ### drawlotref01_Right: function 21 -/
def drawlotref01_Right.l0 : Nat → Int → Int → Int → Option (Int)
  | 0, _, _, _ => none
  | k + 1, x0, x1, x5 => if x5 < x1 then (drawlotref01_Right.l0 k ((Int.tdiv x0 2) % 4294967296) x1 (wrap64 (x5 + 1))) else (some x0)
def drawlotref01_Right.f (k : Nat) (a0 : Int) (a1 : Int) : Option (Int) := if a1 > 31 then (some 0) else (drawlotref01_Right.l0 k a0 a1 0)
theorem drawlotref01_Right.mono_l : ∀ k, (∀ y0 y1 y2, LeO (drawlotref01_Right.l0 k y0 y1 y2) (drawlotref01_Right.l0 (k + 1) y0 y1 y2))
  | 0 => fun _ _ _ r h => by simp [drawlotref01_Right.l0] at h
  | k + 1 => by
    have ih0 := drawlotref01_Right.mono_l k
    · intro y0 y1 y2
      unfold drawlotref01_Right.l0
      repeat' first
      | (with_reducible exact ih0 _ _ _)
      | (with_reducible exact LeO.refl _)
      | (with_reducible exact LeO.none _)
      | (with_reducible refine LeO.ite ?_ ?_)
      | (with_reducible refine LeO.bind ?_ (fun _ => ?_))
      | exact ih0 _ _ _
      | exact LeO.none _
      | refine LeO.ite ?_ ?_
      | refine LeO.bind ?_ (fun _ => ?_)
theorem drawlotref01_Right.mono : ∀ a0 a1 k, LeO (drawlotref01_Right.f k a0 a1) (drawlotref01_Right.f (k + 1) a0 a1) := by
  intro a0 a1 k
  have ih0 := drawlotref01_Right.mono_l k
  unfold drawlotref01_Right.f
  repeat' first
      | (with_reducible exact ih0 _ _ _)
      | (with_reducible exact LeO.refl _)
      | (with_reducible exact LeO.none _)
      | (with_reducible refine LeO.ite ?_ ?_)
      | (with_reducible refine LeO.bind ?_ (fun _ => ?_))
      | exact ih0 _ _ _
      | exact LeO.none _
      | refine LeO.ite ?_ ?_
      | refine LeO.bind ?_ (fun _ => ?_)
set_option maxHeartbeats 8000000 in
set_option maxRecDepth 100000 in
theorem drawlotref01_Right.calls (k : Nat) (a0 : Int) (a1 : Int) (r : Int) (w : World) (h : drawlotref01_Right.f k a0 a1 = some r) :
    Calls Try.prog 21 #[.int .u32 a0, .int .i64 a1] w fun e w' => e = .returned (.int .u32 r) ∧ Drawn0 w w' := by
  have H : (if a1 > 31 then (some 0) else (drawlotref01_Right.l0 k a0 a1 0)) = some r := h
  clear h
  by_cases c3 : a1 > 31
  · rw [if_pos c3] at H
    have c3b0 : decide (31 < a1) = true := decide_eq_true c3
    clear c3
    obtain rfl := Option.some.inj H
    go_enter Try.func21, Try.ntmps21
    go_wp2
    go_ret
    exact ⟨by first | rfl | (simp; done) | (simp [*]; done), by repeat (first | exact Drawn0.refl _ | apply Drawn0.step)⟩
  · rw [if_neg c3] at H
    have c3b0 : decide (31 < a1) = false := decide_eq_false c3
    clear c3
    have H' := Aside0.mk H
    clear H
    go_enter Try.func21, Try.ntmps21
    go_wp2
    go_loopg [0, 5] k (fun kq v0 v5 w' => ∃ (x0_1 : Int) (x5_1 : Int), v0 = .int .u32 x0_1 ∧ v5 = .int .i64 x5_1 ∧ Aside0 (drawlotref01_Right.l0 kq x0_1 a1 x5_1 = some r) ∧ Aside0 (kq ≤ k) ∧ Drawn0 w w')
    case atStart => exact ⟨(a0), (0), (by first | rfl | (simp; done) | (simp [*]; done)), (by first | rfl | (simp; done) | (simp [*]; done)), H', ⟨Nat.le_refl _⟩, by repeat (first | exact Drawn0.refl _ | apply Drawn0.step)⟩
    case round =>
      clear H'
      try clear c2
      try clear p2
      try clear c3
      try clear c3b0
      obtain ⟨x0_1, x5_1, rfl, rfl, HA, HK1, ⟨m1, rfl⟩⟩ := hrel
      cases gk with
      | zero => exact absurd HA.out (by simp [drawlotref01_Right.l0])
      | succ k1 =>
        have H := HA.out
        clear HA
        simp only [drawlotref01_Right.l0] at H
        by_cases c4 : x5_1 < a1
        · rw [if_pos c4] at H
          have c4b0 : decide (x5_1 < a1) = true := decide_eq_true c4
          clear c4
          have H' := Aside0.mk H
          clear H
          go_wp2
          go_roundg k1
          case measure => have := HK1.out; omega
          case rel => exact ⟨((Int.tdiv x0_1 2) % 4294967296), (wrap64 (x5_1 + 1)), (by first | rfl | (simp; done) | (simp [*]; done)), (by first | rfl | (simp; done) | (simp [*]; done)), H', ⟨by have := HK1.out; omega⟩, by repeat (first | exact Drawn0.refl _ | apply Drawn0.step)⟩
        · rw [if_neg c4] at H
          have c4b0 : decide (x5_1 < a1) = false := decide_eq_false c4
          clear c4
          obtain rfl := Option.some.inj H
          go_wp2
          go_ret
          exact ⟨by first | rfl | (simp; done) | (simp [*]; done), by repeat (first | exact Drawn0.refl _ | apply Drawn0.step)⟩

end Go.Proofs.Ytpkdpdbcgbeakaa.PW
