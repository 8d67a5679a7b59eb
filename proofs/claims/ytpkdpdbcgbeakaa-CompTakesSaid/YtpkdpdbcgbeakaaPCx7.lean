/- Written by xprint.py, this session's own driver, for the seat Ytpkdpdbcgbeakaa: contracts of Go functions, each saying that a call answers what a plain Lean function of the same name says, and, in a text named Law, the row of a law: its Go function answers true for every input. No conditions. -/
import Derived.Test.YtpkdpdbcgbeakaaPCx0
import Derived.Test.YtpkdpdbcgbeakaaPCx5
import Derived.Test.YtpkdpdbcgbeakaaPCx6
namespace Go.Proofs.Ytpkdpdbcgbeakaa.PC
open Go.RowKit Go.Proofs.YtpkdpdbcgbeakaaW.PrintWords Go.Proofs.YtpkdpdbcgbeakaaW.PrintLast Go.Proofs.YtpkdpdbcgbeakaaW.PrintMore
attribute [local go_sem] max2_int min2_int max_two min_two max_three min_three max_four min_four   -- for this text's walks alone
set_option linter.unusedVariables false
set_option linter.unusedSimpArgs false

/-! ### drawlotref04_choice: function 71 -/
def drawlotref04_choice.f (a0 : Int) (a1 : Int) (a2 : Int) : Option (Int) := some (Go.bits .or .u32 (Go.bits .and .u32 a0 a1) (Go.bits .and .u32 ((4294967295 - a0) % 4294967296) a2))
set_option maxHeartbeats 8000000 in
set_option maxRecDepth 100000 in
theorem drawlotref04_choice.calls (a0 : Int) (a1 : Int) (a2 : Int) (r : Int) (w : World) (h : drawlotref04_choice.f a0 a1 a2 = some r) :
    Calls Try.prog 71 #[.int .u32 a0, .int .u32 a1, .int .u32 a2] w fun e w' => e = .returned (.int .u32 r) ∧ Drawn0 w w' := by
  have H : (some (Go.bits .or .u32 (Go.bits .and .u32 a0 a1) (Go.bits .and .u32 ((4294967295 - a0) % 4294967296) a2))) = some r := h
  clear h
  obtain rfl := Option.some.inj H
  go_enter Try.func71, Try.ntmps71
  go_wp2
  go_ret
  exact ⟨by first | rfl | (simp; done) | (simp [*]; done), by repeat (first | exact Drawn0.refl _ | apply Drawn0.step)⟩

/-! ### drawlotref04_majority: function 72 -/
def drawlotref04_majority.f (a0 : Int) (a1 : Int) (a2 : Int) : Option (Int) := some (Go.bits .or .u32 (Go.bits .or .u32 (Go.bits .and .u32 a0 a1) (Go.bits .and .u32 a0 a2)) (Go.bits .and .u32 a1 a2))
set_option maxHeartbeats 8000000 in
set_option maxRecDepth 100000 in
theorem drawlotref04_majority.calls (a0 : Int) (a1 : Int) (a2 : Int) (r : Int) (w : World) (h : drawlotref04_majority.f a0 a1 a2 = some r) :
    Calls Try.prog 72 #[.int .u32 a0, .int .u32 a1, .int .u32 a2] w fun e w' => e = .returned (.int .u32 r) ∧ Drawn0 w w' := by
  have H : (some (Go.bits .or .u32 (Go.bits .or .u32 (Go.bits .and .u32 a0 a1) (Go.bits .and .u32 a0 a2)) (Go.bits .and .u32 a1 a2))) = some r := h
  clear h
  obtain rfl := Option.some.inj H
  go_enter Try.func72, Try.ntmps72
  go_wp2
  go_ret
  exact ⟨by first | rfl | (simp; done) | (simp [*]; done), by repeat (first | exact Drawn0.refl _ | apply Drawn0.step)⟩

/-! ### drawlotref04_Round: function 66 -/
def drawlotref04_Round.f (k : Nat) (a0 : List Int) (a1 : Int) (a2 : Int) : Option (List Int) := (drawlotref04_turned.f k (Ar.get 8 a0 4) 6 11 25).bind fun t220 => ((drawlotref04_choice.f (Ar.get 8 a0 4) (Ar.get 8 a0 5) (Ar.get 8 a0 6)).bind fun t221 => ((drawlotref04_turned.f k (Ar.get 8 a0 0) 2 13 22).bind fun t222 => ((drawlotref04_majority.f (Ar.get 8 a0 0) (Ar.get 8 a0 1) (Ar.get 8 a0 2)).bind fun t223 => (some [((((((((((Ar.get 8 a0 7) + t220) % 4294967296) + t221) % 4294967296) + a2) % 4294967296) + a1) % 4294967296) + ((t222 + t223) % 4294967296)) % 4294967296, Ar.get 8 a0 0, Ar.get 8 a0 1, Ar.get 8 a0 2, ((Ar.get 8 a0 3) + (((((((((Ar.get 8 a0 7) + t220) % 4294967296) + t221) % 4294967296) + a2) % 4294967296) + a1) % 4294967296)) % 4294967296, Ar.get 8 a0 4, Ar.get 8 a0 5, Ar.get 8 a0 6]))))
theorem drawlotref04_Round.mono : ∀ a0 a1 a2 k, LeO (drawlotref04_Round.f k a0 a1 a2) (drawlotref04_Round.f (k + 1) a0 a1 a2) := by
  intro a0 a1 a2 k
  unfold drawlotref04_Round.f
  repeat' first
      | (with_reducible exact drawlotref04_turned.mono _ _ _ _ _)
      | (with_reducible exact LeO.refl _)
      | (with_reducible exact LeO.none _)
      | (with_reducible refine LeO.ite ?_ ?_)
      | (with_reducible refine LeO.bind ?_ (fun _ => ?_))
      | exact drawlotref04_turned.mono _ _ _ _ _
      | exact LeO.none _
      | refine LeO.ite ?_ ?_
      | refine LeO.bind ?_ (fun _ => ?_)
set_option maxHeartbeats 8000000 in
set_option maxRecDepth 100000 in
theorem drawlotref04_Round.calls (k : Nat) (a0 : List Int) (a1 : Int) (a2 : Int) (r : List Int) (w : World) (h : drawlotref04_Round.f k a0 a1 a2 = some r) :
    Calls Try.prog 66 #[.agg (Ar.cells .u32 8 a0), .int .u32 a1, .int .u32 a2] w fun e w' => e = .returned (.agg (Ar.cells .u32 8 r)) ∧ Below w.heap.size w w' := by
  have HB := Aside0.mk (Below.refl w.heap.size w)
  have H : ((drawlotref04_turned.f k (Ar.get 8 a0 4) 6 11 25).bind fun t220 => ((drawlotref04_choice.f (Ar.get 8 a0 4) (Ar.get 8 a0 5) (Ar.get 8 a0 6)).bind fun t221 => ((drawlotref04_turned.f k (Ar.get 8 a0 0) 2 13 22).bind fun t222 => ((drawlotref04_majority.f (Ar.get 8 a0 0) (Ar.get 8 a0 1) (Ar.get 8 a0 2)).bind fun t223 => (some [((((((((((Ar.get 8 a0 7) + t220) % 4294967296) + t221) % 4294967296) + a2) % 4294967296) + a1) % 4294967296) + ((t222 + t223) % 4294967296)) % 4294967296, Ar.get 8 a0 0, Ar.get 8 a0 1, Ar.get 8 a0 2, ((Ar.get 8 a0 3) + (((((((((Ar.get 8 a0 7) + t220) % 4294967296) + t221) % 4294967296) + a2) % 4294967296) + a1) % 4294967296)) % 4294967296, Ar.get 8 a0 4, Ar.get 8 a0 5, Ar.get 8 a0 6]))))) = some r := h
  clear h
  replace H := Option.bind_eq_some_iff.mp H
  obtain ⟨t220, A40, H⟩ := H
  replace H : ((drawlotref04_choice.f (Ar.get 8 a0 4) (Ar.get 8 a0 5) (Ar.get 8 a0 6)).bind fun t221 => ((drawlotref04_turned.f k (Ar.get 8 a0 0) 2 13 22).bind fun t222 => ((drawlotref04_majority.f (Ar.get 8 a0 0) (Ar.get 8 a0 1) (Ar.get 8 a0 2)).bind fun t223 => (some [((((((((((Ar.get 8 a0 7) + t220) % 4294967296) + t221) % 4294967296) + a2) % 4294967296) + a1) % 4294967296) + ((t222 + t223) % 4294967296)) % 4294967296, Ar.get 8 a0 0, Ar.get 8 a0 1, Ar.get 8 a0 2, ((Ar.get 8 a0 3) + (((((((((Ar.get 8 a0 7) + t220) % 4294967296) + t221) % 4294967296) + a2) % 4294967296) + a1) % 4294967296)) % 4294967296, Ar.get 8 a0 4, Ar.get 8 a0 5, Ar.get 8 a0 6])))) = some r := H
  have A4 := Aside0.mk A40
  clear A40
  replace H := Option.bind_eq_some_iff.mp H
  obtain ⟨t221, A50, H⟩ := H
  replace H : ((drawlotref04_turned.f k (Ar.get 8 a0 0) 2 13 22).bind fun t222 => ((drawlotref04_majority.f (Ar.get 8 a0 0) (Ar.get 8 a0 1) (Ar.get 8 a0 2)).bind fun t223 => (some [((((((((((Ar.get 8 a0 7) + t220) % 4294967296) + t221) % 4294967296) + a2) % 4294967296) + a1) % 4294967296) + ((t222 + t223) % 4294967296)) % 4294967296, Ar.get 8 a0 0, Ar.get 8 a0 1, Ar.get 8 a0 2, ((Ar.get 8 a0 3) + (((((((((Ar.get 8 a0 7) + t220) % 4294967296) + t221) % 4294967296) + a2) % 4294967296) + a1) % 4294967296)) % 4294967296, Ar.get 8 a0 4, Ar.get 8 a0 5, Ar.get 8 a0 6]))) = some r := H
  have A5 := Aside0.mk A50
  clear A50
  replace H := Option.bind_eq_some_iff.mp H
  obtain ⟨t222, A60, H⟩ := H
  replace H : ((drawlotref04_majority.f (Ar.get 8 a0 0) (Ar.get 8 a0 1) (Ar.get 8 a0 2)).bind fun t223 => (some [((((((((((Ar.get 8 a0 7) + t220) % 4294967296) + t221) % 4294967296) + a2) % 4294967296) + a1) % 4294967296) + ((t222 + t223) % 4294967296)) % 4294967296, Ar.get 8 a0 0, Ar.get 8 a0 1, Ar.get 8 a0 2, ((Ar.get 8 a0 3) + (((((((((Ar.get 8 a0 7) + t220) % 4294967296) + t221) % 4294967296) + a2) % 4294967296) + a1) % 4294967296)) % 4294967296, Ar.get 8 a0 4, Ar.get 8 a0 5, Ar.get 8 a0 6])) = some r := H
  have A6 := Aside0.mk A60
  clear A60
  replace H := Option.bind_eq_some_iff.mp H
  obtain ⟨t223, A70, H⟩ := H
  replace H : (some [((((((((((Ar.get 8 a0 7) + t220) % 4294967296) + t221) % 4294967296) + a2) % 4294967296) + a1) % 4294967296) + ((t222 + t223) % 4294967296)) % 4294967296, Ar.get 8 a0 0, Ar.get 8 a0 1, Ar.get 8 a0 2, ((Ar.get 8 a0 3) + (((((((((Ar.get 8 a0 7) + t220) % 4294967296) + t221) % 4294967296) + a2) % 4294967296) + a1) % 4294967296)) % 4294967296, Ar.get 8 a0 4, Ar.get 8 a0 5, Ar.get 8 a0 6]) = some r := H
  have A7 := Aside0.mk A70
  clear A70
  obtain rfl := Option.some.inj H
  go_enter Try.func66, Try.ntmps66
  go_wp2_with (first | ((with_reducible refine gate_dst (N := 3) rfl ?_); (try (refine gate_guard (by rfl) ?_; dsimp only)); refine box_event ?hg (N := 3) ?hd (cs := (Ar.cells .u32 8 a0)) (t := 60) ?hr ?_; (case hd => rfl); (case hg => rfl); (case hr => first | exact Ar.box_run rfl rfl | exact Ar.alloc_run rfl (by kernel_rfl) | (go_simp; done) | (go_simp; rfl)); intro gb218 hg w8 hbox hb; have n0_ := Aside0.mk (below_step (by repeat (first | (with_reducible first | exact HB.out | apply below_alloc | apply pw_below_drewN | apply below_drew1) | exact HB.out)) hb); have n1_ := Aside0.mk (hbox); have n2_ := Aside0.mk ((by rw [hg]; exact (below_size (by repeat (first | (with_reducible first | exact HB.out | apply below_alloc | apply pw_below_drewN | apply below_drew1) | exact HB.out))) : w.heap.size ≤ gb218)); have n3_ := Aside0.mk ((by rw [hg]; exact (below_size (by repeat (first | (with_reducible first | exact HB.out | apply below_alloc | apply pw_below_drewN | apply below_drew1) | exact HB.out))) : w.heap.size ≤ gb218)); clear HB; have HB := n0_; have BK218 := n1_; have GW218 := n2_; have GE218 := n3_; clear n0_ n1_ n2_ n3_; clear hb hbox hg) | ((with_reducible refine gate_dst (N := 6) rfl ?_); (try (refine gate_guard (by rfl) ?_; dsimp only)); refine box_event ?hg (N := 6) ?hd (cs := (Ar.cells .u32 8 (List.replicate 8 0))) (t := 60) ?hr ?_; (case hd => rfl); (case hg => rfl); (case hr => first | exact Ar.box_run rfl rfl | exact Ar.alloc_run rfl (by kernel_rfl) | (go_simp; done) | (go_simp; rfl)); intro gb219 hg w9 hbox hb; have n0_ := Aside0.mk (blk_below (g := gb218) (o := .cells (Ar.cells .u32 8 a0) 60 (0, 0)) (by (with_reducible repeat (first | refine blk_drewN ?_ _ | refine blk_drew ?_ | refine blk_alloc ?_ _)); exact BK218.out) hb); have n1_ := Aside0.mk (below_step (by repeat (first | (with_reducible first | exact HB.out | apply below_alloc | apply pw_below_drewN | apply below_drew1 | refine below_set ?_ GE218.out) | exact HB.out)) hb); have n2_ := Aside0.mk (hbox); have n3_ := Aside0.mk ((by rw [hg]; exact (below_size (by repeat (first | (with_reducible first | exact HB.out | apply below_alloc | apply pw_below_drewN | apply below_drew1 | refine below_set ?_ GE218.out) | exact HB.out))) : w.heap.size ≤ gb219)); have n4_ := Aside0.mk ((by rw [hg]; exact (below_size (by repeat (first | (with_reducible first | exact HB.out | apply below_alloc | apply pw_below_drewN | apply below_drew1 | refine below_set ?_ GE218.out) | exact HB.out))) : w.heap.size ≤ gb219)); have n5_ := Aside0.mk ((by rw [hg]; exact Nat.ne_of_lt (blk_lt (g := gb218) (o := .cells (Ar.cells .u32 8 a0) 60 (0, 0)) (by (with_reducible repeat (first | refine blk_drewN ?_ _ | refine blk_drew ?_ | refine blk_alloc ?_ _)); exact BK218.out)) : gb218 ≠ gb219)); have n6_ := Aside0.mk ((by rw [hg]; exact Nat.ne_of_gt (blk_lt (g := gb218) (o := .cells (Ar.cells .u32 8 a0) 60 (0, 0)) (by (with_reducible repeat (first | refine blk_drewN ?_ _ | refine blk_drew ?_ | refine blk_alloc ?_ _)); exact BK218.out)) : gb219 ≠ gb218)); clear BK218; clear HB; have BK218 := n0_; have HB := n1_; have BK219 := n2_; have GW219 := n3_; have GE219 := n4_; have NB218_219 := n5_; have NB219_218 := n6_; clear n0_ n1_ n2_ n3_ n4_ n5_ n6_; clear hb hbox hg; have hx11_0 : w9.cell? ⟨gb218, 7, none⟩ = some (.int .u32 (Ar.get 8 a0 7)) := Ar.cell_run (j := 7) (by (with_reducible repeat (first | refine blk_drewN ?_ _ | refine blk_drew ?_ | refine blk_alloc ?_ _)); exact BK218.out) (by decide) (by decide); have hx13_0 : w9.cell? ⟨gb218, 4, none⟩ = some (.int .u32 (Ar.get 8 a0 4)) := Ar.cell_run (j := 4) (by (with_reducible repeat (first | refine blk_drewN ?_ _ | refine blk_drew ?_ | refine blk_alloc ?_ _)); exact BK218.out) (by decide) (by decide)) | (go_at_call 70; (with_reducible refine (drawlotref04_turned.calls k (Ar.get 8 a0 4) 6 11 25 t220 _ A4.out).mono ?_); rintro e w' ⟨rfl, ⟨nd, rfl⟩⟩; (try first | exact ⟨rfl, _, World.drewN_drewN _ _ _⟩ | exact ⟨rfl, _, Eq.trans (World.drewN_drewN _ _ _) (congrArg (World.drewN _) (Nat.add_assoc _ _ _))⟩); have hx15_0 : w9.cell? ⟨gb218, 4, none⟩ = some (.int .u32 (Ar.get 8 a0 4)) := Ar.cell_run (j := 4) (by (with_reducible repeat (first | refine blk_drewN ?_ _ | refine blk_drew ?_ | refine blk_alloc ?_ _)); exact BK218.out) (by decide) (by decide); have hx17_0 : w9.cell? ⟨gb218, 5, none⟩ = some (.int .u32 (Ar.get 8 a0 5)) := Ar.cell_run (j := 5) (by (with_reducible repeat (first | refine blk_drewN ?_ _ | refine blk_drew ?_ | refine blk_alloc ?_ _)); exact BK218.out) (by decide) (by decide); have hx19_0 : w9.cell? ⟨gb218, 6, none⟩ = some (.int .u32 (Ar.get 8 a0 6)) := Ar.cell_run (j := 6) (by (with_reducible repeat (first | refine blk_drewN ?_ _ | refine blk_drew ?_ | refine blk_alloc ?_ _)); exact BK218.out) (by decide) (by decide)) | (go_at_call 71; (with_reducible refine (drawlotref04_choice.calls (Ar.get 8 a0 4) (Ar.get 8 a0 5) (Ar.get 8 a0 6) t221 _ A5.out).mono ?_); rintro e w' ⟨rfl, ⟨nd, rfl⟩⟩; (try first | exact ⟨rfl, _, World.drewN_drewN _ _ _⟩ | exact ⟨rfl, _, Eq.trans (World.drewN_drewN _ _ _) (congrArg (World.drewN _) (Nat.add_assoc _ _ _))⟩); have hx21_0 : w9.cell? ⟨gb218, 0, none⟩ = some (.int .u32 (Ar.get 8 a0 0)) := Ar.cell_run (j := 0) (by (with_reducible repeat (first | refine blk_drewN ?_ _ | refine blk_drew ?_ | refine blk_alloc ?_ _)); exact BK218.out) (by decide) (by decide)) | (go_at_call 70; (with_reducible refine (drawlotref04_turned.calls k (Ar.get 8 a0 0) 2 13 22 t222 _ A6.out).mono ?_); rintro e w' ⟨rfl, ⟨nd, rfl⟩⟩; (try first | exact ⟨rfl, _, World.drewN_drewN _ _ _⟩ | exact ⟨rfl, _, Eq.trans (World.drewN_drewN _ _ _) (congrArg (World.drewN _) (Nat.add_assoc _ _ _))⟩); have hx23_0 : w9.cell? ⟨gb218, 0, none⟩ = some (.int .u32 (Ar.get 8 a0 0)) := Ar.cell_run (j := 0) (by (with_reducible repeat (first | refine blk_drewN ?_ _ | refine blk_drew ?_ | refine blk_alloc ?_ _)); exact BK218.out) (by decide) (by decide); have hx25_0 : w9.cell? ⟨gb218, 1, none⟩ = some (.int .u32 (Ar.get 8 a0 1)) := Ar.cell_run (j := 1) (by (with_reducible repeat (first | refine blk_drewN ?_ _ | refine blk_drew ?_ | refine blk_alloc ?_ _)); exact BK218.out) (by decide) (by decide); have hx27_0 : w9.cell? ⟨gb218, 2, none⟩ = some (.int .u32 (Ar.get 8 a0 2)) := Ar.cell_run (j := 2) (by (with_reducible repeat (first | refine blk_drewN ?_ _ | refine blk_drew ?_ | refine blk_alloc ?_ _)); exact BK218.out) (by decide) (by decide)) | (go_at_call 72; (with_reducible refine (drawlotref04_majority.calls (Ar.get 8 a0 0) (Ar.get 8 a0 1) (Ar.get 8 a0 2) t223 _ A7.out).mono ?_); rintro e w' ⟨rfl, ⟨nd, rfl⟩⟩; (try first | exact ⟨rfl, _, World.drewN_drewN _ _ _⟩ | exact ⟨rfl, _, Eq.trans (World.drewN_drewN _ _ _) (congrArg (World.drewN _) (Nat.add_assoc _ _ _))⟩); have hx29_0 : w9.cell? ⟨gb218, 0, none⟩ = some (.int .u32 (Ar.get 8 a0 0)) := Ar.cell_run (j := 0) (by (with_reducible repeat (first | refine blk_drewN ?_ _ | refine blk_drew ?_ | refine blk_alloc ?_ _)); exact BK218.out) (by decide) (by decide); have hx31_0 : w9.cell? ⟨gb218, 1, none⟩ = some (.int .u32 (Ar.get 8 a0 1)) := Ar.cell_run (j := 1) (by (with_reducible repeat (first | refine blk_drewN ?_ _ | refine blk_drew ?_ | refine blk_alloc ?_ _)); exact BK218.out) (by decide) (by decide); have hx33_0 : w9.cell? ⟨gb218, 2, none⟩ = some (.int .u32 (Ar.get 8 a0 2)) := Ar.cell_run (j := 2) (by (with_reducible repeat (first | refine blk_drewN ?_ _ | refine blk_drew ?_ | refine blk_alloc ?_ _)); exact BK218.out) (by decide) (by decide); have hx35_0 : w9.cell? ⟨gb218, 3, none⟩ = some (.int .u32 (Ar.get 8 a0 3)) := Ar.cell_run (j := 3) (by (with_reducible repeat (first | refine blk_drewN ?_ _ | refine blk_drew ?_ | refine blk_alloc ?_ _)); exact BK218.out) (by decide) (by decide); have hx37_0 : w9.cell? ⟨gb218, 4, none⟩ = some (.int .u32 (Ar.get 8 a0 4)) := Ar.cell_run (j := 4) (by (with_reducible repeat (first | refine blk_drewN ?_ _ | refine blk_drew ?_ | refine blk_alloc ?_ _)); exact BK218.out) (by decide) (by decide); have hx39_0 : w9.cell? ⟨gb218, 5, none⟩ = some (.int .u32 (Ar.get 8 a0 5)) := Ar.cell_run (j := 5) (by (with_reducible repeat (first | refine blk_drewN ?_ _ | refine blk_drew ?_ | refine blk_alloc ?_ _)); exact BK218.out) (by decide) (by decide); have hx41_0 : w9.cell? ⟨gb218, 6, none⟩ = some (.int .u32 (Ar.get 8 a0 6)) := Ar.cell_run (j := 6) (by (with_reducible repeat (first | refine blk_drewN ?_ _ | refine blk_drew ?_ | refine blk_alloc ?_ _)); exact BK218.out) (by decide) (by decide)) | ((with_reducible refine gate_dst (N := 57) rfl ?_); (try (refine gate_guard (by rfl) ?_; dsimp only)); refine Ar.build_event rfl (D := 57) rfl (T := 60) rfl (k := .u32) (n := 8) (l := [((((((((((Ar.get 8 a0 7) + t220) % 4294967296) + t221) % 4294967296) + a2) % 4294967296) + a1) % 4294967296) + ((t222 + t223) % 4294967296)) % 4294967296, Ar.get 8 a0 0, Ar.get 8 a0 1, Ar.get 8 a0 2, ((Ar.get 8 a0 3) + (((((((((Ar.get 8 a0 7) + t220) % 4294967296) + t221) % 4294967296) + a2) % 4294967296) + a1) % 4294967296)) % 4294967296, Ar.get 8 a0 4, Ar.get 8 a0 5, Ar.get 8 a0 6]) Try.underlying60 (by kernel_rfl) (by kernel_rfl) [(0, ((((((((((Ar.get 8 a0 7) + t220) % 4294967296) + t221) % 4294967296) + a2) % 4294967296) + a1) % 4294967296) + ((t222 + t223) % 4294967296)) % 4294967296), (1, Ar.get 8 a0 0), (2, Ar.get 8 a0 1), (3, Ar.get 8 a0 2), (4, ((Ar.get 8 a0 3) + (((((((((Ar.get 8 a0 7) + t220) % 4294967296) + t221) % 4294967296) + a2) % 4294967296) + a1) % 4294967296)) % 4294967296), (5, Ar.get 8 a0 4), (6, Ar.get 8 a0 5), (7, Ar.get 8 a0 6)] (by rfl) (by rfl) (by rfl) ?_) | ((with_reducible refine gate_store (t := 60) (p := 6) rfl ?_); (try (rw [drewN_self w9]; generalize hq_ : World.drewN w9 _ = w9; have n0_ := Aside0.mk (blk_at hq_ BK218.out); have n1_ := Aside0.mk (blk_at hq_ BK219.out); have n2_ := Aside0.mk (below_at hq_ HB.out); clear hq_ BK218 BK219 HB; have BK218 := n0_; have BK219 := n1_; have HB := n2_; clear n0_ n1_ n2_)); refine Ar.store_all_event rfl rfl rfl Try.underlying60 (by kernel_rfl) (g := gb219) rfl (z := [((((((((((Ar.get 8 a0 7) + t220) % 4294967296) + t221) % 4294967296) + a2) % 4294967296) + a1) % 4294967296) + ((t222 + t223) % 4294967296)) % 4294967296, Ar.get 8 a0 0, Ar.get 8 a0 1, Ar.get 8 a0 2, ((Ar.get 8 a0 3) + (((((((((Ar.get 8 a0 7) + t220) % 4294967296) + t221) % 4294967296) + a2) % 4294967296) + a1) % 4294967296)) % 4294967296, Ar.get 8 a0 4, Ar.get 8 a0 5, Ar.get 8 a0 6]) (by first | rfl | (go_simp; done) | (go_simp; rfl)) (by (with_reducible repeat (first | refine blk_drewN ?_ _ | refine blk_drew ?_ | refine blk_alloc ?_ _)); exact BK219.out) ?_; intro w42 hbk_ hg; have n0_ := Aside0.mk (blk_grown (g := gb218) (o := .cells (Ar.cells .u32 8 a0) 60 (0, 0)) (by (with_reducible repeat (first | refine blk_drewN ?_ _ | refine blk_drew ?_ | refine blk_alloc ?_ _)); exact BK218.out) hg (fun e_ => NB218_219.out (Option.some.inj e_))); have n1_ := Aside0.mk (hbk_); have n2_ := Aside0.mk (Below.grown (by repeat (first | (with_reducible first | exact HB.out | apply below_alloc | apply pw_below_drewN | apply below_drew1 | refine below_set ?_ GE218.out | refine below_set ?_ GE219.out) | exact HB.out)) hg ((below_size (by repeat (first | (with_reducible first | exact HB.out | apply below_alloc | apply pw_below_drewN | apply below_drew1 | refine below_set ?_ GE218.out | refine below_set ?_ GE219.out) | exact HB.out)))) (fun _ e_ => by cases e_; exact GE219.out)); clear BK218; clear BK219; clear HB; have BK218 := n0_; have BK219 := n1_; have HB := n2_; clear n0_ n1_ n2_; clear hbk_ hg))
  repeat (go_quiet (first | ((with_reducible refine gate_dst (N := 3) rfl ?_); (try (refine gate_guard (by rfl) ?_; dsimp only)); refine box_event ?hg (N := 3) ?hd (cs := (Ar.cells .u32 8 a0)) (t := 60) ?hr ?_; (case hd => rfl); (case hg => rfl); (case hr => first | exact Ar.box_run rfl rfl | exact Ar.alloc_run rfl (by kernel_rfl) | (go_simp; done) | (go_simp; rfl)); intro gb218 hg w8 hbox hb; have n0_ := Aside0.mk (below_step (by repeat (first | (with_reducible first | exact HB.out | apply below_alloc | apply pw_below_drewN | apply below_drew1) | exact HB.out)) hb); have n1_ := Aside0.mk (hbox); have n2_ := Aside0.mk ((by rw [hg]; exact (below_size (by repeat (first | (with_reducible first | exact HB.out | apply below_alloc | apply pw_below_drewN | apply below_drew1) | exact HB.out))) : w.heap.size ≤ gb218)); have n3_ := Aside0.mk ((by rw [hg]; exact (below_size (by repeat (first | (with_reducible first | exact HB.out | apply below_alloc | apply pw_below_drewN | apply below_drew1) | exact HB.out))) : w.heap.size ≤ gb218)); clear HB; have HB := n0_; have BK218 := n1_; have GW218 := n2_; have GE218 := n3_; clear n0_ n1_ n2_ n3_; clear hb hbox hg) | ((with_reducible refine gate_dst (N := 6) rfl ?_); (try (refine gate_guard (by rfl) ?_; dsimp only)); refine box_event ?hg (N := 6) ?hd (cs := (Ar.cells .u32 8 (List.replicate 8 0))) (t := 60) ?hr ?_; (case hd => rfl); (case hg => rfl); (case hr => first | exact Ar.box_run rfl rfl | exact Ar.alloc_run rfl (by kernel_rfl) | (go_simp; done) | (go_simp; rfl)); intro gb219 hg w9 hbox hb; have n0_ := Aside0.mk (blk_below (g := gb218) (o := .cells (Ar.cells .u32 8 a0) 60 (0, 0)) (by (with_reducible repeat (first | refine blk_drewN ?_ _ | refine blk_drew ?_ | refine blk_alloc ?_ _)); exact BK218.out) hb); have n1_ := Aside0.mk (below_step (by repeat (first | (with_reducible first | exact HB.out | apply below_alloc | apply pw_below_drewN | apply below_drew1 | refine below_set ?_ GE218.out) | exact HB.out)) hb); have n2_ := Aside0.mk (hbox); have n3_ := Aside0.mk ((by rw [hg]; exact (below_size (by repeat (first | (with_reducible first | exact HB.out | apply below_alloc | apply pw_below_drewN | apply below_drew1 | refine below_set ?_ GE218.out) | exact HB.out))) : w.heap.size ≤ gb219)); have n4_ := Aside0.mk ((by rw [hg]; exact (below_size (by repeat (first | (with_reducible first | exact HB.out | apply below_alloc | apply pw_below_drewN | apply below_drew1 | refine below_set ?_ GE218.out) | exact HB.out))) : w.heap.size ≤ gb219)); have n5_ := Aside0.mk ((by rw [hg]; exact Nat.ne_of_lt (blk_lt (g := gb218) (o := .cells (Ar.cells .u32 8 a0) 60 (0, 0)) (by (with_reducible repeat (first | refine blk_drewN ?_ _ | refine blk_drew ?_ | refine blk_alloc ?_ _)); exact BK218.out)) : gb218 ≠ gb219)); have n6_ := Aside0.mk ((by rw [hg]; exact Nat.ne_of_gt (blk_lt (g := gb218) (o := .cells (Ar.cells .u32 8 a0) 60 (0, 0)) (by (with_reducible repeat (first | refine blk_drewN ?_ _ | refine blk_drew ?_ | refine blk_alloc ?_ _)); exact BK218.out)) : gb219 ≠ gb218)); clear BK218; clear HB; have BK218 := n0_; have HB := n1_; have BK219 := n2_; have GW219 := n3_; have GE219 := n4_; have NB218_219 := n5_; have NB219_218 := n6_; clear n0_ n1_ n2_ n3_ n4_ n5_ n6_; clear hb hbox hg; have hx11_0 : w9.cell? ⟨gb218, 7, none⟩ = some (.int .u32 (Ar.get 8 a0 7)) := Ar.cell_run (j := 7) (by (with_reducible repeat (first | refine blk_drewN ?_ _ | refine blk_drew ?_ | refine blk_alloc ?_ _)); exact BK218.out) (by decide) (by decide); have hx13_0 : w9.cell? ⟨gb218, 4, none⟩ = some (.int .u32 (Ar.get 8 a0 4)) := Ar.cell_run (j := 4) (by (with_reducible repeat (first | refine blk_drewN ?_ _ | refine blk_drew ?_ | refine blk_alloc ?_ _)); exact BK218.out) (by decide) (by decide)) | (go_at_call 70; (with_reducible refine (drawlotref04_turned.calls k (Ar.get 8 a0 4) 6 11 25 t220 _ A4.out).mono ?_); rintro e w' ⟨rfl, ⟨nd, rfl⟩⟩; (try first | exact ⟨rfl, _, World.drewN_drewN _ _ _⟩ | exact ⟨rfl, _, Eq.trans (World.drewN_drewN _ _ _) (congrArg (World.drewN _) (Nat.add_assoc _ _ _))⟩); have hx15_0 : w9.cell? ⟨gb218, 4, none⟩ = some (.int .u32 (Ar.get 8 a0 4)) := Ar.cell_run (j := 4) (by (with_reducible repeat (first | refine blk_drewN ?_ _ | refine blk_drew ?_ | refine blk_alloc ?_ _)); exact BK218.out) (by decide) (by decide); have hx17_0 : w9.cell? ⟨gb218, 5, none⟩ = some (.int .u32 (Ar.get 8 a0 5)) := Ar.cell_run (j := 5) (by (with_reducible repeat (first | refine blk_drewN ?_ _ | refine blk_drew ?_ | refine blk_alloc ?_ _)); exact BK218.out) (by decide) (by decide); have hx19_0 : w9.cell? ⟨gb218, 6, none⟩ = some (.int .u32 (Ar.get 8 a0 6)) := Ar.cell_run (j := 6) (by (with_reducible repeat (first | refine blk_drewN ?_ _ | refine blk_drew ?_ | refine blk_alloc ?_ _)); exact BK218.out) (by decide) (by decide)) | (go_at_call 71; (with_reducible refine (drawlotref04_choice.calls (Ar.get 8 a0 4) (Ar.get 8 a0 5) (Ar.get 8 a0 6) t221 _ A5.out).mono ?_); rintro e w' ⟨rfl, ⟨nd, rfl⟩⟩; (try first | exact ⟨rfl, _, World.drewN_drewN _ _ _⟩ | exact ⟨rfl, _, Eq.trans (World.drewN_drewN _ _ _) (congrArg (World.drewN _) (Nat.add_assoc _ _ _))⟩); have hx21_0 : w9.cell? ⟨gb218, 0, none⟩ = some (.int .u32 (Ar.get 8 a0 0)) := Ar.cell_run (j := 0) (by (with_reducible repeat (first | refine blk_drewN ?_ _ | refine blk_drew ?_ | refine blk_alloc ?_ _)); exact BK218.out) (by decide) (by decide)) | (go_at_call 70; (with_reducible refine (drawlotref04_turned.calls k (Ar.get 8 a0 0) 2 13 22 t222 _ A6.out).mono ?_); rintro e w' ⟨rfl, ⟨nd, rfl⟩⟩; (try first | exact ⟨rfl, _, World.drewN_drewN _ _ _⟩ | exact ⟨rfl, _, Eq.trans (World.drewN_drewN _ _ _) (congrArg (World.drewN _) (Nat.add_assoc _ _ _))⟩); have hx23_0 : w9.cell? ⟨gb218, 0, none⟩ = some (.int .u32 (Ar.get 8 a0 0)) := Ar.cell_run (j := 0) (by (with_reducible repeat (first | refine blk_drewN ?_ _ | refine blk_drew ?_ | refine blk_alloc ?_ _)); exact BK218.out) (by decide) (by decide); have hx25_0 : w9.cell? ⟨gb218, 1, none⟩ = some (.int .u32 (Ar.get 8 a0 1)) := Ar.cell_run (j := 1) (by (with_reducible repeat (first | refine blk_drewN ?_ _ | refine blk_drew ?_ | refine blk_alloc ?_ _)); exact BK218.out) (by decide) (by decide); have hx27_0 : w9.cell? ⟨gb218, 2, none⟩ = some (.int .u32 (Ar.get 8 a0 2)) := Ar.cell_run (j := 2) (by (with_reducible repeat (first | refine blk_drewN ?_ _ | refine blk_drew ?_ | refine blk_alloc ?_ _)); exact BK218.out) (by decide) (by decide)) | (go_at_call 72; (with_reducible refine (drawlotref04_majority.calls (Ar.get 8 a0 0) (Ar.get 8 a0 1) (Ar.get 8 a0 2) t223 _ A7.out).mono ?_); rintro e w' ⟨rfl, ⟨nd, rfl⟩⟩; (try first | exact ⟨rfl, _, World.drewN_drewN _ _ _⟩ | exact ⟨rfl, _, Eq.trans (World.drewN_drewN _ _ _) (congrArg (World.drewN _) (Nat.add_assoc _ _ _))⟩); have hx29_0 : w9.cell? ⟨gb218, 0, none⟩ = some (.int .u32 (Ar.get 8 a0 0)) := Ar.cell_run (j := 0) (by (with_reducible repeat (first | refine blk_drewN ?_ _ | refine blk_drew ?_ | refine blk_alloc ?_ _)); exact BK218.out) (by decide) (by decide); have hx31_0 : w9.cell? ⟨gb218, 1, none⟩ = some (.int .u32 (Ar.get 8 a0 1)) := Ar.cell_run (j := 1) (by (with_reducible repeat (first | refine blk_drewN ?_ _ | refine blk_drew ?_ | refine blk_alloc ?_ _)); exact BK218.out) (by decide) (by decide); have hx33_0 : w9.cell? ⟨gb218, 2, none⟩ = some (.int .u32 (Ar.get 8 a0 2)) := Ar.cell_run (j := 2) (by (with_reducible repeat (first | refine blk_drewN ?_ _ | refine blk_drew ?_ | refine blk_alloc ?_ _)); exact BK218.out) (by decide) (by decide); have hx35_0 : w9.cell? ⟨gb218, 3, none⟩ = some (.int .u32 (Ar.get 8 a0 3)) := Ar.cell_run (j := 3) (by (with_reducible repeat (first | refine blk_drewN ?_ _ | refine blk_drew ?_ | refine blk_alloc ?_ _)); exact BK218.out) (by decide) (by decide); have hx37_0 : w9.cell? ⟨gb218, 4, none⟩ = some (.int .u32 (Ar.get 8 a0 4)) := Ar.cell_run (j := 4) (by (with_reducible repeat (first | refine blk_drewN ?_ _ | refine blk_drew ?_ | refine blk_alloc ?_ _)); exact BK218.out) (by decide) (by decide); have hx39_0 : w9.cell? ⟨gb218, 5, none⟩ = some (.int .u32 (Ar.get 8 a0 5)) := Ar.cell_run (j := 5) (by (with_reducible repeat (first | refine blk_drewN ?_ _ | refine blk_drew ?_ | refine blk_alloc ?_ _)); exact BK218.out) (by decide) (by decide); have hx41_0 : w9.cell? ⟨gb218, 6, none⟩ = some (.int .u32 (Ar.get 8 a0 6)) := Ar.cell_run (j := 6) (by (with_reducible repeat (first | refine blk_drewN ?_ _ | refine blk_drew ?_ | refine blk_alloc ?_ _)); exact BK218.out) (by decide) (by decide)) | ((with_reducible refine gate_dst (N := 57) rfl ?_); (try (refine gate_guard (by rfl) ?_; dsimp only)); refine Ar.build_event rfl (D := 57) rfl (T := 60) rfl (k := .u32) (n := 8) (l := [((((((((((Ar.get 8 a0 7) + t220) % 4294967296) + t221) % 4294967296) + a2) % 4294967296) + a1) % 4294967296) + ((t222 + t223) % 4294967296)) % 4294967296, Ar.get 8 a0 0, Ar.get 8 a0 1, Ar.get 8 a0 2, ((Ar.get 8 a0 3) + (((((((((Ar.get 8 a0 7) + t220) % 4294967296) + t221) % 4294967296) + a2) % 4294967296) + a1) % 4294967296)) % 4294967296, Ar.get 8 a0 4, Ar.get 8 a0 5, Ar.get 8 a0 6]) Try.underlying60 (by kernel_rfl) (by kernel_rfl) [(0, ((((((((((Ar.get 8 a0 7) + t220) % 4294967296) + t221) % 4294967296) + a2) % 4294967296) + a1) % 4294967296) + ((t222 + t223) % 4294967296)) % 4294967296), (1, Ar.get 8 a0 0), (2, Ar.get 8 a0 1), (3, Ar.get 8 a0 2), (4, ((Ar.get 8 a0 3) + (((((((((Ar.get 8 a0 7) + t220) % 4294967296) + t221) % 4294967296) + a2) % 4294967296) + a1) % 4294967296)) % 4294967296), (5, Ar.get 8 a0 4), (6, Ar.get 8 a0 5), (7, Ar.get 8 a0 6)] (by rfl) (by rfl) (by rfl) ?_) | ((with_reducible refine gate_store (t := 60) (p := 6) rfl ?_); (try (rw [drewN_self w9]; generalize hq_ : World.drewN w9 _ = w9; have n0_ := Aside0.mk (blk_at hq_ BK218.out); have n1_ := Aside0.mk (blk_at hq_ BK219.out); have n2_ := Aside0.mk (below_at hq_ HB.out); clear hq_ BK218 BK219 HB; have BK218 := n0_; have BK219 := n1_; have HB := n2_; clear n0_ n1_ n2_)); refine Ar.store_all_event rfl rfl rfl Try.underlying60 (by kernel_rfl) (g := gb219) rfl (z := [((((((((((Ar.get 8 a0 7) + t220) % 4294967296) + t221) % 4294967296) + a2) % 4294967296) + a1) % 4294967296) + ((t222 + t223) % 4294967296)) % 4294967296, Ar.get 8 a0 0, Ar.get 8 a0 1, Ar.get 8 a0 2, ((Ar.get 8 a0 3) + (((((((((Ar.get 8 a0 7) + t220) % 4294967296) + t221) % 4294967296) + a2) % 4294967296) + a1) % 4294967296)) % 4294967296, Ar.get 8 a0 4, Ar.get 8 a0 5, Ar.get 8 a0 6]) (by first | rfl | (go_simp; done) | (go_simp; rfl)) (by (with_reducible repeat (first | refine blk_drewN ?_ _ | refine blk_drew ?_ | refine blk_alloc ?_ _)); exact BK219.out) ?_; intro w42 hbk_ hg; have n0_ := Aside0.mk (blk_grown (g := gb218) (o := .cells (Ar.cells .u32 8 a0) 60 (0, 0)) (by (with_reducible repeat (first | refine blk_drewN ?_ _ | refine blk_drew ?_ | refine blk_alloc ?_ _)); exact BK218.out) hg (fun e_ => NB218_219.out (Option.some.inj e_))); have n1_ := Aside0.mk (hbk_); have n2_ := Aside0.mk (Below.grown (by repeat (first | (with_reducible first | exact HB.out | apply below_alloc | apply pw_below_drewN | apply below_drew1 | refine below_set ?_ GE218.out | refine below_set ?_ GE219.out) | exact HB.out)) hg ((below_size (by repeat (first | (with_reducible first | exact HB.out | apply below_alloc | apply pw_below_drewN | apply below_drew1 | refine below_set ?_ GE218.out | refine below_set ?_ GE219.out) | exact HB.out)))) (fun _ e_ => by cases e_; exact GE219.out)); clear BK218; clear BK219; clear HB; have BK218 := n0_; have BK219 := n1_; have HB := n2_; clear n0_ n1_ n2_; clear hbk_ hg)); try go_wp2_with (first | ((with_reducible refine gate_dst (N := 3) rfl ?_); (try (refine gate_guard (by rfl) ?_; dsimp only)); refine box_event ?hg (N := 3) ?hd (cs := (Ar.cells .u32 8 a0)) (t := 60) ?hr ?_; (case hd => rfl); (case hg => rfl); (case hr => first | exact Ar.box_run rfl rfl | exact Ar.alloc_run rfl (by kernel_rfl) | (go_simp; done) | (go_simp; rfl)); intro gb218 hg w8 hbox hb; have n0_ := Aside0.mk (below_step (by repeat (first | (with_reducible first | exact HB.out | apply below_alloc | apply pw_below_drewN | apply below_drew1) | exact HB.out)) hb); have n1_ := Aside0.mk (hbox); have n2_ := Aside0.mk ((by rw [hg]; exact (below_size (by repeat (first | (with_reducible first | exact HB.out | apply below_alloc | apply pw_below_drewN | apply below_drew1) | exact HB.out))) : w.heap.size ≤ gb218)); have n3_ := Aside0.mk ((by rw [hg]; exact (below_size (by repeat (first | (with_reducible first | exact HB.out | apply below_alloc | apply pw_below_drewN | apply below_drew1) | exact HB.out))) : w.heap.size ≤ gb218)); clear HB; have HB := n0_; have BK218 := n1_; have GW218 := n2_; have GE218 := n3_; clear n0_ n1_ n2_ n3_; clear hb hbox hg) | ((with_reducible refine gate_dst (N := 6) rfl ?_); (try (refine gate_guard (by rfl) ?_; dsimp only)); refine box_event ?hg (N := 6) ?hd (cs := (Ar.cells .u32 8 (List.replicate 8 0))) (t := 60) ?hr ?_; (case hd => rfl); (case hg => rfl); (case hr => first | exact Ar.box_run rfl rfl | exact Ar.alloc_run rfl (by kernel_rfl) | (go_simp; done) | (go_simp; rfl)); intro gb219 hg w9 hbox hb; have n0_ := Aside0.mk (blk_below (g := gb218) (o := .cells (Ar.cells .u32 8 a0) 60 (0, 0)) (by (with_reducible repeat (first | refine blk_drewN ?_ _ | refine blk_drew ?_ | refine blk_alloc ?_ _)); exact BK218.out) hb); have n1_ := Aside0.mk (below_step (by repeat (first | (with_reducible first | exact HB.out | apply below_alloc | apply pw_below_drewN | apply below_drew1 | refine below_set ?_ GE218.out) | exact HB.out)) hb); have n2_ := Aside0.mk (hbox); have n3_ := Aside0.mk ((by rw [hg]; exact (below_size (by repeat (first | (with_reducible first | exact HB.out | apply below_alloc | apply pw_below_drewN | apply below_drew1 | refine below_set ?_ GE218.out) | exact HB.out))) : w.heap.size ≤ gb219)); have n4_ := Aside0.mk ((by rw [hg]; exact (below_size (by repeat (first | (with_reducible first | exact HB.out | apply below_alloc | apply pw_below_drewN | apply below_drew1 | refine below_set ?_ GE218.out) | exact HB.out))) : w.heap.size ≤ gb219)); have n5_ := Aside0.mk ((by rw [hg]; exact Nat.ne_of_lt (blk_lt (g := gb218) (o := .cells (Ar.cells .u32 8 a0) 60 (0, 0)) (by (with_reducible repeat (first | refine blk_drewN ?_ _ | refine blk_drew ?_ | refine blk_alloc ?_ _)); exact BK218.out)) : gb218 ≠ gb219)); have n6_ := Aside0.mk ((by rw [hg]; exact Nat.ne_of_gt (blk_lt (g := gb218) (o := .cells (Ar.cells .u32 8 a0) 60 (0, 0)) (by (with_reducible repeat (first | refine blk_drewN ?_ _ | refine blk_drew ?_ | refine blk_alloc ?_ _)); exact BK218.out)) : gb219 ≠ gb218)); clear BK218; clear HB; have BK218 := n0_; have HB := n1_; have BK219 := n2_; have GW219 := n3_; have GE219 := n4_; have NB218_219 := n5_; have NB219_218 := n6_; clear n0_ n1_ n2_ n3_ n4_ n5_ n6_; clear hb hbox hg; have hx11_0 : w9.cell? ⟨gb218, 7, none⟩ = some (.int .u32 (Ar.get 8 a0 7)) := Ar.cell_run (j := 7) (by (with_reducible repeat (first | refine blk_drewN ?_ _ | refine blk_drew ?_ | refine blk_alloc ?_ _)); exact BK218.out) (by decide) (by decide); have hx13_0 : w9.cell? ⟨gb218, 4, none⟩ = some (.int .u32 (Ar.get 8 a0 4)) := Ar.cell_run (j := 4) (by (with_reducible repeat (first | refine blk_drewN ?_ _ | refine blk_drew ?_ | refine blk_alloc ?_ _)); exact BK218.out) (by decide) (by decide)) | (go_at_call 70; (with_reducible refine (drawlotref04_turned.calls k (Ar.get 8 a0 4) 6 11 25 t220 _ A4.out).mono ?_); rintro e w' ⟨rfl, ⟨nd, rfl⟩⟩; (try first | exact ⟨rfl, _, World.drewN_drewN _ _ _⟩ | exact ⟨rfl, _, Eq.trans (World.drewN_drewN _ _ _) (congrArg (World.drewN _) (Nat.add_assoc _ _ _))⟩); have hx15_0 : w9.cell? ⟨gb218, 4, none⟩ = some (.int .u32 (Ar.get 8 a0 4)) := Ar.cell_run (j := 4) (by (with_reducible repeat (first | refine blk_drewN ?_ _ | refine blk_drew ?_ | refine blk_alloc ?_ _)); exact BK218.out) (by decide) (by decide); have hx17_0 : w9.cell? ⟨gb218, 5, none⟩ = some (.int .u32 (Ar.get 8 a0 5)) := Ar.cell_run (j := 5) (by (with_reducible repeat (first | refine blk_drewN ?_ _ | refine blk_drew ?_ | refine blk_alloc ?_ _)); exact BK218.out) (by decide) (by decide); have hx19_0 : w9.cell? ⟨gb218, 6, none⟩ = some (.int .u32 (Ar.get 8 a0 6)) := Ar.cell_run (j := 6) (by (with_reducible repeat (first | refine blk_drewN ?_ _ | refine blk_drew ?_ | refine blk_alloc ?_ _)); exact BK218.out) (by decide) (by decide)) | (go_at_call 71; (with_reducible refine (drawlotref04_choice.calls (Ar.get 8 a0 4) (Ar.get 8 a0 5) (Ar.get 8 a0 6) t221 _ A5.out).mono ?_); rintro e w' ⟨rfl, ⟨nd, rfl⟩⟩; (try first | exact ⟨rfl, _, World.drewN_drewN _ _ _⟩ | exact ⟨rfl, _, Eq.trans (World.drewN_drewN _ _ _) (congrArg (World.drewN _) (Nat.add_assoc _ _ _))⟩); have hx21_0 : w9.cell? ⟨gb218, 0, none⟩ = some (.int .u32 (Ar.get 8 a0 0)) := Ar.cell_run (j := 0) (by (with_reducible repeat (first | refine blk_drewN ?_ _ | refine blk_drew ?_ | refine blk_alloc ?_ _)); exact BK218.out) (by decide) (by decide)) | (go_at_call 70; (with_reducible refine (drawlotref04_turned.calls k (Ar.get 8 a0 0) 2 13 22 t222 _ A6.out).mono ?_); rintro e w' ⟨rfl, ⟨nd, rfl⟩⟩; (try first | exact ⟨rfl, _, World.drewN_drewN _ _ _⟩ | exact ⟨rfl, _, Eq.trans (World.drewN_drewN _ _ _) (congrArg (World.drewN _) (Nat.add_assoc _ _ _))⟩); have hx23_0 : w9.cell? ⟨gb218, 0, none⟩ = some (.int .u32 (Ar.get 8 a0 0)) := Ar.cell_run (j := 0) (by (with_reducible repeat (first | refine blk_drewN ?_ _ | refine blk_drew ?_ | refine blk_alloc ?_ _)); exact BK218.out) (by decide) (by decide); have hx25_0 : w9.cell? ⟨gb218, 1, none⟩ = some (.int .u32 (Ar.get 8 a0 1)) := Ar.cell_run (j := 1) (by (with_reducible repeat (first | refine blk_drewN ?_ _ | refine blk_drew ?_ | refine blk_alloc ?_ _)); exact BK218.out) (by decide) (by decide); have hx27_0 : w9.cell? ⟨gb218, 2, none⟩ = some (.int .u32 (Ar.get 8 a0 2)) := Ar.cell_run (j := 2) (by (with_reducible repeat (first | refine blk_drewN ?_ _ | refine blk_drew ?_ | refine blk_alloc ?_ _)); exact BK218.out) (by decide) (by decide)) | (go_at_call 72; (with_reducible refine (drawlotref04_majority.calls (Ar.get 8 a0 0) (Ar.get 8 a0 1) (Ar.get 8 a0 2) t223 _ A7.out).mono ?_); rintro e w' ⟨rfl, ⟨nd, rfl⟩⟩; (try first | exact ⟨rfl, _, World.drewN_drewN _ _ _⟩ | exact ⟨rfl, _, Eq.trans (World.drewN_drewN _ _ _) (congrArg (World.drewN _) (Nat.add_assoc _ _ _))⟩); have hx29_0 : w9.cell? ⟨gb218, 0, none⟩ = some (.int .u32 (Ar.get 8 a0 0)) := Ar.cell_run (j := 0) (by (with_reducible repeat (first | refine blk_drewN ?_ _ | refine blk_drew ?_ | refine blk_alloc ?_ _)); exact BK218.out) (by decide) (by decide); have hx31_0 : w9.cell? ⟨gb218, 1, none⟩ = some (.int .u32 (Ar.get 8 a0 1)) := Ar.cell_run (j := 1) (by (with_reducible repeat (first | refine blk_drewN ?_ _ | refine blk_drew ?_ | refine blk_alloc ?_ _)); exact BK218.out) (by decide) (by decide); have hx33_0 : w9.cell? ⟨gb218, 2, none⟩ = some (.int .u32 (Ar.get 8 a0 2)) := Ar.cell_run (j := 2) (by (with_reducible repeat (first | refine blk_drewN ?_ _ | refine blk_drew ?_ | refine blk_alloc ?_ _)); exact BK218.out) (by decide) (by decide); have hx35_0 : w9.cell? ⟨gb218, 3, none⟩ = some (.int .u32 (Ar.get 8 a0 3)) := Ar.cell_run (j := 3) (by (with_reducible repeat (first | refine blk_drewN ?_ _ | refine blk_drew ?_ | refine blk_alloc ?_ _)); exact BK218.out) (by decide) (by decide); have hx37_0 : w9.cell? ⟨gb218, 4, none⟩ = some (.int .u32 (Ar.get 8 a0 4)) := Ar.cell_run (j := 4) (by (with_reducible repeat (first | refine blk_drewN ?_ _ | refine blk_drew ?_ | refine blk_alloc ?_ _)); exact BK218.out) (by decide) (by decide); have hx39_0 : w9.cell? ⟨gb218, 5, none⟩ = some (.int .u32 (Ar.get 8 a0 5)) := Ar.cell_run (j := 5) (by (with_reducible repeat (first | refine blk_drewN ?_ _ | refine blk_drew ?_ | refine blk_alloc ?_ _)); exact BK218.out) (by decide) (by decide); have hx41_0 : w9.cell? ⟨gb218, 6, none⟩ = some (.int .u32 (Ar.get 8 a0 6)) := Ar.cell_run (j := 6) (by (with_reducible repeat (first | refine blk_drewN ?_ _ | refine blk_drew ?_ | refine blk_alloc ?_ _)); exact BK218.out) (by decide) (by decide)) | ((with_reducible refine gate_dst (N := 57) rfl ?_); (try (refine gate_guard (by rfl) ?_; dsimp only)); refine Ar.build_event rfl (D := 57) rfl (T := 60) rfl (k := .u32) (n := 8) (l := [((((((((((Ar.get 8 a0 7) + t220) % 4294967296) + t221) % 4294967296) + a2) % 4294967296) + a1) % 4294967296) + ((t222 + t223) % 4294967296)) % 4294967296, Ar.get 8 a0 0, Ar.get 8 a0 1, Ar.get 8 a0 2, ((Ar.get 8 a0 3) + (((((((((Ar.get 8 a0 7) + t220) % 4294967296) + t221) % 4294967296) + a2) % 4294967296) + a1) % 4294967296)) % 4294967296, Ar.get 8 a0 4, Ar.get 8 a0 5, Ar.get 8 a0 6]) Try.underlying60 (by kernel_rfl) (by kernel_rfl) [(0, ((((((((((Ar.get 8 a0 7) + t220) % 4294967296) + t221) % 4294967296) + a2) % 4294967296) + a1) % 4294967296) + ((t222 + t223) % 4294967296)) % 4294967296), (1, Ar.get 8 a0 0), (2, Ar.get 8 a0 1), (3, Ar.get 8 a0 2), (4, ((Ar.get 8 a0 3) + (((((((((Ar.get 8 a0 7) + t220) % 4294967296) + t221) % 4294967296) + a2) % 4294967296) + a1) % 4294967296)) % 4294967296), (5, Ar.get 8 a0 4), (6, Ar.get 8 a0 5), (7, Ar.get 8 a0 6)] (by rfl) (by rfl) (by rfl) ?_) | ((with_reducible refine gate_store (t := 60) (p := 6) rfl ?_); (try (rw [drewN_self w9]; generalize hq_ : World.drewN w9 _ = w9; have n0_ := Aside0.mk (blk_at hq_ BK218.out); have n1_ := Aside0.mk (blk_at hq_ BK219.out); have n2_ := Aside0.mk (below_at hq_ HB.out); clear hq_ BK218 BK219 HB; have BK218 := n0_; have BK219 := n1_; have HB := n2_; clear n0_ n1_ n2_)); refine Ar.store_all_event rfl rfl rfl Try.underlying60 (by kernel_rfl) (g := gb219) rfl (z := [((((((((((Ar.get 8 a0 7) + t220) % 4294967296) + t221) % 4294967296) + a2) % 4294967296) + a1) % 4294967296) + ((t222 + t223) % 4294967296)) % 4294967296, Ar.get 8 a0 0, Ar.get 8 a0 1, Ar.get 8 a0 2, ((Ar.get 8 a0 3) + (((((((((Ar.get 8 a0 7) + t220) % 4294967296) + t221) % 4294967296) + a2) % 4294967296) + a1) % 4294967296)) % 4294967296, Ar.get 8 a0 4, Ar.get 8 a0 5, Ar.get 8 a0 6]) (by first | rfl | (go_simp; done) | (go_simp; rfl)) (by (with_reducible repeat (first | refine blk_drewN ?_ _ | refine blk_drew ?_ | refine blk_alloc ?_ _)); exact BK219.out) ?_; intro w42 hbk_ hg; have n0_ := Aside0.mk (blk_grown (g := gb218) (o := .cells (Ar.cells .u32 8 a0) 60 (0, 0)) (by (with_reducible repeat (first | refine blk_drewN ?_ _ | refine blk_drew ?_ | refine blk_alloc ?_ _)); exact BK218.out) hg (fun e_ => NB218_219.out (Option.some.inj e_))); have n1_ := Aside0.mk (hbk_); have n2_ := Aside0.mk (Below.grown (by repeat (first | (with_reducible first | exact HB.out | apply below_alloc | apply pw_below_drewN | apply below_drew1 | refine below_set ?_ GE218.out | refine below_set ?_ GE219.out) | exact HB.out)) hg ((below_size (by repeat (first | (with_reducible first | exact HB.out | apply below_alloc | apply pw_below_drewN | apply below_drew1 | refine below_set ?_ GE218.out | refine below_set ?_ GE219.out) | exact HB.out)))) (fun _ e_ => by cases e_; exact GE219.out)); clear BK218; clear BK219; clear HB; have BK218 := n0_; have BK219 := n1_; have HB := n2_; clear n0_ n1_ n2_; clear hbk_ hg)))
  refine bodyPost_ret (results_cell_row rfl _ _ gb219 60 (Ar.cells .u32 8 [((((((((((Ar.get 8 a0 7) + t220) % 4294967296) + t221) % 4294967296) + a2) % 4294967296) + a1) % 4294967296) + ((t222 + t223) % 4294967296)) % 4294967296, Ar.get 8 a0 0, Ar.get 8 a0 1, Ar.get 8 a0 2, ((Ar.get 8 a0 3) + (((((((((Ar.get 8 a0 7) + t220) % 4294967296) + t221) % 4294967296) + a2) % 4294967296) + a1) % 4294967296)) % 4294967296, Ar.get 8 a0 4, Ar.get 8 a0 5, Ar.get 8 a0 6]) (0, 0) _ rfl (by (with_reducible repeat (first | refine blk_drewN ?_ _ | refine blk_drew ?_ | refine blk_alloc ?_ _)); exact BK219.out) Try.underlying60 rfl (by first | (rw [Ar.cells_size]; kernel_rfl) | kernel_rfl)) rfl ?_
  exact ⟨by first | rfl | (simp [errW_none, errW_some] <;> rfl) | (simp [*, errW_none, errW_some] <;> rfl), by repeat (first | (with_reducible first | exact HB.out | apply below_alloc | apply pw_below_drewN | apply below_drew1 | refine below_set ?_ GE218.out | refine below_set ?_ GE219.out) | exact HB.out)⟩

/-! ### drawlotref04_Take: function 53 -/
mutual
def drawlotref04_Take.l0 : Nat → Int → List Int → List Int → List Int → Option (List Int)
  | 0, _, _, _, _ => none
  | k + 1, x7, x225000, x229000, x230000 => if x7 < 64 then (if 0 ≤ x7 then ((drawlotref04_Constant.f x7).bind fun t230 => ((drawlotref04_Round.f k x230000 (Ar.get 64 x229000 x7) t230).bind fun t231 => (drawlotref04_Take.l0 k (wrap64 (x7 + 1)) x225000 x229000 t231))) else (none)) else (drawlotref04_Take.l1 k 0 x225000 x230000)
def drawlotref04_Take.l1 : Nat → Int → List Int → List Int → Option (List Int)
  | 0, _, _, _ => none
  | k + 1, x8, x225000, x230000 => if x8 < 8 then (if 0 ≤ x8 then (drawlotref04_Take.l1 k (wrap64 (x8 + 1)) x225000 (Ar.set 8 x230000 x8 (((Ar.get 8 x230000 x8) + (Ar.get 8 x225000 x8)) % 4294967296))) else (none)) else (some x230000)
end
def drawlotref04_Take.f (k : Nat) (a0 : List Int) (a1 : List Int) : Option (List Int) := (drawlotref03_Of.f k a1).bind fun t227 => (drawlotref04_Take.l0 k 0 a0 t227 a0)
theorem drawlotref04_Take.mono_l : ∀ k, (∀ y0 y1 y2 y3, LeO (drawlotref04_Take.l0 k y0 y1 y2 y3) (drawlotref04_Take.l0 (k + 1) y0 y1 y2 y3)) ∧ (∀ y0 y1 y2, LeO (drawlotref04_Take.l1 k y0 y1 y2) (drawlotref04_Take.l1 (k + 1) y0 y1 y2))
  | 0 => ⟨fun _ _ _ _ r h => by simp [drawlotref04_Take.l0] at h, fun _ _ _ r h => by simp [drawlotref04_Take.l1] at h⟩
  | k + 1 => by
    obtain ⟨ih0, ih1⟩ := drawlotref04_Take.mono_l k
    refine ⟨?_, ?_⟩
    · intro y0 y1 y2 y3
      unfold drawlotref04_Take.l0
      repeat' first
      | (with_reducible exact ih0 _ _ _ _)
      | (with_reducible exact ih1 _ _ _)
      | (with_reducible exact drawlotref03_Of.mono _ _)
      | (with_reducible exact drawlotref04_Round.mono _ _ _ _)
      | (with_reducible exact LeO.refl _)
      | (with_reducible exact LeO.none _)
      | (with_reducible refine LeO.ite ?_ ?_)
      | (with_reducible refine LeO.bind ?_ (fun _ => ?_))
      | exact ih0 _ _ _ _
      | exact ih1 _ _ _
      | exact drawlotref03_Of.mono _ _
      | exact drawlotref04_Round.mono _ _ _ _
      | exact LeO.none _
      | refine LeO.ite ?_ ?_
      | refine LeO.bind ?_ (fun _ => ?_)
    · intro y0 y1 y2
      unfold drawlotref04_Take.l1
      repeat' first
      | (with_reducible exact ih0 _ _ _ _)
      | (with_reducible exact ih1 _ _ _)
      | (with_reducible exact drawlotref03_Of.mono _ _)
      | (with_reducible exact drawlotref04_Round.mono _ _ _ _)
      | (with_reducible exact LeO.refl _)
      | (with_reducible exact LeO.none _)
      | (with_reducible refine LeO.ite ?_ ?_)
      | (with_reducible refine LeO.bind ?_ (fun _ => ?_))
      | exact ih0 _ _ _ _
      | exact ih1 _ _ _
      | exact drawlotref03_Of.mono _ _
      | exact drawlotref04_Round.mono _ _ _ _
      | exact LeO.none _
      | refine LeO.ite ?_ ?_
      | refine LeO.bind ?_ (fun _ => ?_)
theorem drawlotref04_Take.mono : ∀ a0 a1 k, LeO (drawlotref04_Take.f k a0 a1) (drawlotref04_Take.f (k + 1) a0 a1) := by
  intro a0 a1 k
  obtain ⟨ih0, ih1⟩ := drawlotref04_Take.mono_l k
  unfold drawlotref04_Take.f
  repeat' first
      | (with_reducible exact ih0 _ _ _ _)
      | (with_reducible exact ih1 _ _ _)
      | (with_reducible exact drawlotref03_Of.mono _ _)
      | (with_reducible exact drawlotref04_Round.mono _ _ _ _)
      | (with_reducible exact LeO.refl _)
      | (with_reducible exact LeO.none _)
      | (with_reducible refine LeO.ite ?_ ?_)
      | (with_reducible refine LeO.bind ?_ (fun _ => ?_))
      | exact ih0 _ _ _ _
      | exact ih1 _ _ _
      | exact drawlotref03_Of.mono _ _
      | exact drawlotref04_Round.mono _ _ _ _
      | exact LeO.none _
      | refine LeO.ite ?_ ?_
      | refine LeO.bind ?_ (fun _ => ?_)
def drawlotref04_Take.T6 : Bool × List (List Nat × List Nat) := (true, [([], []), ([], []), ([1], [1]), ([2], [2]), ([], []), ([4], [4]), ([0, 3, 5, 5], [0, 3, 5]), ([6, 6, 0, 1, 2, 3, 4, 5, 6], [6])])
def drawlotref04_Take.B6 : List Nat := [0, 0, 2, 6, 0, 16, 63, 127]
theorem drawlotref04_Take.tab6 : rtab .any (opsOf Try.f53 6) = drawlotref04_Take.T6 := by kernel_rfl
theorem drawlotref04_Take.bits6 : waitsOk drawlotref04_Take.T6.2 drawlotref04_Take.B6 = true := by kernel_rfl
def drawlotref04_Take.T10 : Bool × List (List Nat × List Nat) := (true, [([], []), ([], []), ([1], [1]), ([2], [2]), ([], []), ([4], [4]), ([5], [5]), ([3, 6], [3, 6]), ([0, 0, 1, 2, 3, 4, 5, 6, 7], [0]), ([8, 7, 0, 1, 2, 3, 4, 5, 6, 7], [7, 8])])
def drawlotref04_Take.B10 : List Nat := [0, 0, 2, 6, 0, 16, 48, 126, 255, 511]
theorem drawlotref04_Take.tab10 : rtab .any (opsOf Try.f53 10) = drawlotref04_Take.T10 := by kernel_rfl
theorem drawlotref04_Take.bits10 : waitsOk drawlotref04_Take.T10.2 drawlotref04_Take.B10 = true := by kernel_rfl
set_option maxHeartbeats 8000000 in
set_option maxRecDepth 100000 in
theorem drawlotref04_Take.calls (k : Nat) (a0 : List Int) (a1 : List Int) (r : List Int) (w : World) (h : drawlotref04_Take.f k a0 a1 = some r) :
    Calls Try.prog 53 #[.agg (Ar.cells .u32 8 a0), .agg (Ar.cells .u8 64 a1)] w fun e w' => e = .returned (.agg (Ar.cells .u32 8 r)) ∧ Below w.heap.size w w' := by
  have HB := Aside0.mk (Below.refl w.heap.size w)
  have H : ((drawlotref03_Of.f k a1).bind fun t227 => (drawlotref04_Take.l0 k 0 a0 t227 a0)) = some r := h
  clear h
  replace H := Option.bind_eq_some_iff.mp H
  obtain ⟨t227, A30, H⟩ := H
  replace H : (drawlotref04_Take.l0 k 0 a0 t227 a0) = some r := H
  have A3 := Aside0.mk A30
  clear A30
  have H' := Aside0.mk H
  clear H
  go_enter Try.func53, Try.ntmps53
  go_wp2_with (first | ((with_reducible refine gate_dst (N := 2) rfl ?_); (try (refine gate_guard (by rfl) ?_; dsimp only)); refine box_event ?hg (N := 2) ?hd (cs := (Ar.cells .u32 8 a0)) (t := 60) ?hr ?_; (case hd => rfl); (case hg => rfl); (case hr => first | exact Ar.box_run rfl rfl | exact Ar.alloc_run rfl (by kernel_rfl) | (go_simp; done) | (go_simp; rfl)); intro gb224 hg w4 hbox hb; have n0_ := Aside0.mk (below_step (by repeat (first | (with_reducible first | exact HB.out | apply below_alloc | apply pw_below_drewN | apply below_drew1) | exact HB.out)) hb); have n1_ := Aside0.mk (hbox); have n2_ := Aside0.mk ((by rw [hg]; exact (below_size (by repeat (first | (with_reducible first | exact HB.out | apply below_alloc | apply pw_below_drewN | apply below_drew1) | exact HB.out))) : w.heap.size ≤ gb224)); have n3_ := Aside0.mk ((by rw [hg]; exact (below_size (by repeat (first | (with_reducible first | exact HB.out | apply below_alloc | apply pw_below_drewN | apply below_drew1) | exact HB.out))) : w.heap.size ≤ gb224)); clear HB; have HB := n0_; have BK224 := n1_; have GW224 := n2_; have GE224 := n3_; clear n0_ n1_ n2_ n3_; clear hb hbox hg) | ((with_reducible refine gate_dst (N := 3) rfl ?_); (try (refine gate_guard (by rfl) ?_; dsimp only)); refine box_event ?hg (N := 3) ?hd (cs := (Ar.cells .u8 64 a1)) (t := 39) ?hr ?_; (case hd => rfl); (case hg => rfl); (case hr => first | exact Ar.box_run rfl rfl | exact Ar.alloc_run rfl (by kernel_rfl) | (go_simp; done) | (go_simp; rfl)); intro gb225 hg w5 hbox hb; have n0_ := Aside0.mk (blk_below (g := gb224) (o := .cells (Ar.cells .u32 8 a0) 60 (0, 0)) (by (with_reducible repeat (first | refine blk_drewN ?_ _ | refine blk_drew ?_ | refine blk_alloc ?_ _)); exact BK224.out) hb); have n1_ := Aside0.mk (below_step (by repeat (first | (with_reducible first | exact HB.out | apply below_alloc | apply pw_below_drewN | apply below_drew1 | refine below_set ?_ GE224.out) | exact HB.out)) hb); have n2_ := Aside0.mk (hbox); have n3_ := Aside0.mk ((by rw [hg]; exact (below_size (by repeat (first | (with_reducible first | exact HB.out | apply below_alloc | apply pw_below_drewN | apply below_drew1 | refine below_set ?_ GE224.out) | exact HB.out))) : w.heap.size ≤ gb225)); have n4_ := Aside0.mk ((by rw [hg]; exact (below_size (by repeat (first | (with_reducible first | exact HB.out | apply below_alloc | apply pw_below_drewN | apply below_drew1 | refine below_set ?_ GE224.out) | exact HB.out))) : w.heap.size ≤ gb225)); have n5_ := Aside0.mk ((by rw [hg]; exact Nat.ne_of_lt (blk_lt (g := gb224) (o := .cells (Ar.cells .u32 8 a0) 60 (0, 0)) (by (with_reducible repeat (first | refine blk_drewN ?_ _ | refine blk_drew ?_ | refine blk_alloc ?_ _)); exact BK224.out)) : gb224 ≠ gb225)); have n6_ := Aside0.mk ((by rw [hg]; exact Nat.ne_of_gt (blk_lt (g := gb224) (o := .cells (Ar.cells .u32 8 a0) 60 (0, 0)) (by (with_reducible repeat (first | refine blk_drewN ?_ _ | refine blk_drew ?_ | refine blk_alloc ?_ _)); exact BK224.out)) : gb225 ≠ gb224)); clear BK224; clear HB; have BK224 := n0_; have HB := n1_; have BK225 := n2_; have GW225 := n3_; have GE225 := n4_; have NB224_225 := n5_; have NB225_224 := n6_; clear n0_ n1_ n2_ n3_ n4_ n5_ n6_; clear hb hbox hg) | ((with_reducible refine gate_dst (N := 4) rfl ?_); (try (refine gate_guard (by rfl) ?_; dsimp only)); refine box_event ?hg (N := 4) ?hd (cs := (Ar.cells .u32 8 (List.replicate 8 0))) (t := 60) ?hr ?_; (case hd => rfl); (case hg => rfl); (case hr => first | exact Ar.box_run rfl rfl | exact Ar.alloc_run rfl (by kernel_rfl) | (go_simp; done) | (go_simp; rfl)); intro gb226 hg w6 hbox hb; have n0_ := Aside0.mk (blk_below (g := gb224) (o := .cells (Ar.cells .u32 8 a0) 60 (0, 0)) (by (with_reducible repeat (first | refine blk_drewN ?_ _ | refine blk_drew ?_ | refine blk_alloc ?_ _)); exact BK224.out) hb); have n1_ := Aside0.mk (blk_below (g := gb225) (o := .cells (Ar.cells .u8 64 a1) 39 (0, 0)) (by (with_reducible repeat (first | refine blk_drewN ?_ _ | refine blk_drew ?_ | refine blk_alloc ?_ _)); exact BK225.out) hb); have n2_ := Aside0.mk (below_step (by repeat (first | (with_reducible first | exact HB.out | apply below_alloc | apply pw_below_drewN | apply below_drew1 | refine below_set ?_ GE224.out | refine below_set ?_ GE225.out) | exact HB.out)) hb); have n3_ := Aside0.mk (hbox); have n4_ := Aside0.mk ((by rw [hg]; exact (below_size (by repeat (first | (with_reducible first | exact HB.out | apply below_alloc | apply pw_below_drewN | apply below_drew1 | refine below_set ?_ GE224.out | refine below_set ?_ GE225.out) | exact HB.out))) : w.heap.size ≤ gb226)); have n5_ := Aside0.mk ((by rw [hg]; exact (below_size (by repeat (first | (with_reducible first | exact HB.out | apply below_alloc | apply pw_below_drewN | apply below_drew1 | refine below_set ?_ GE224.out | refine below_set ?_ GE225.out) | exact HB.out))) : w.heap.size ≤ gb226)); have n6_ := Aside0.mk ((by rw [hg]; exact Nat.ne_of_lt (blk_lt (g := gb224) (o := .cells (Ar.cells .u32 8 a0) 60 (0, 0)) (by (with_reducible repeat (first | refine blk_drewN ?_ _ | refine blk_drew ?_ | refine blk_alloc ?_ _)); exact BK224.out)) : gb224 ≠ gb226)); have n7_ := Aside0.mk ((by rw [hg]; exact Nat.ne_of_gt (blk_lt (g := gb224) (o := .cells (Ar.cells .u32 8 a0) 60 (0, 0)) (by (with_reducible repeat (first | refine blk_drewN ?_ _ | refine blk_drew ?_ | refine blk_alloc ?_ _)); exact BK224.out)) : gb226 ≠ gb224)); have n8_ := Aside0.mk ((by rw [hg]; exact Nat.ne_of_lt (blk_lt (g := gb225) (o := .cells (Ar.cells .u8 64 a1) 39 (0, 0)) (by (with_reducible repeat (first | refine blk_drewN ?_ _ | refine blk_drew ?_ | refine blk_alloc ?_ _)); exact BK225.out)) : gb225 ≠ gb226)); have n9_ := Aside0.mk ((by rw [hg]; exact Nat.ne_of_gt (blk_lt (g := gb225) (o := .cells (Ar.cells .u8 64 a1) 39 (0, 0)) (by (with_reducible repeat (first | refine blk_drewN ?_ _ | refine blk_drew ?_ | refine blk_alloc ?_ _)); exact BK225.out)) : gb226 ≠ gb225)); clear BK224; clear BK225; clear HB; have BK224 := n0_; have BK225 := n1_; have HB := n2_; have BK226 := n3_; have GW226 := n4_; have GE226 := n5_; have NB224_226 := n6_; have NB226_224 := n7_; have NB225_226 := n8_; have NB226_225 := n9_; clear n0_ n1_ n2_ n3_ n4_ n5_ n6_ n7_ n8_ n9_; clear hb hbox hg) | ((with_reducible refine gate_dst (N := 9) rfl ?_); (try (refine gate_guard (by rfl) ?_; dsimp only)); refine Ar.load_event rfl (D := 9) rfl (T := 39) rfl Try.underlying39 (by kernel_rfl) (g := gb225) rfl (by (with_reducible repeat (first | refine blk_drewN ?_ _ | refine blk_drew ?_ | refine blk_alloc ?_ _)); exact BK225.out) ?_) | ((with_reducible refine gate_callee (f := 65) rfl ?_); refine goesL_ (some 10) rfl rfl Try.func65 (by kernel_rfl) rfl #[.agg (Ar.cells .u8 64 a1)] rfl (by (try simp only [List.map_toArray, List.map_cons, List.map_nil]); first | done | rfl | (simp only [List.length_drop, List.length_take]; rfl)) ?_; (with_reducible refine (drawlotref03_Of.calls k a1 t227 _ A3.out).mono ?_); rintro e w7 ⟨rfl, hb⟩; refine ⟨_, rfl, ?_⟩; have n0_ := Aside0.mk (blk_below (g := gb224) (o := .cells (Ar.cells .u32 8 a0) 60 (0, 0)) (by (with_reducible repeat (first | refine blk_drewN ?_ _ | refine blk_drew ?_ | refine blk_alloc ?_ _)); exact BK224.out) hb); have n1_ := Aside0.mk (blk_below (g := gb225) (o := .cells (Ar.cells .u8 64 a1) 39 (0, 0)) (by (with_reducible repeat (first | refine blk_drewN ?_ _ | refine blk_drew ?_ | refine blk_alloc ?_ _)); exact BK225.out) hb); have n2_ := Aside0.mk (blk_below (g := gb226) (o := .cells (Ar.cells .u32 8 (List.replicate 8 0)) 60 (0, 0)) (by (with_reducible repeat (first | refine blk_drewN ?_ _ | refine blk_drew ?_ | refine blk_alloc ?_ _)); exact BK226.out) hb); have n3_ := Aside0.mk (below_step (by repeat (first | (with_reducible first | exact HB.out | apply below_alloc | apply pw_below_drewN | apply below_drew1 | refine below_set ?_ GE224.out | refine below_set ?_ GE225.out | refine below_set ?_ GE226.out) | exact HB.out)) hb); clear BK224; clear BK225; clear BK226; clear HB; have BK224 := n0_; have BK225 := n1_; have BK226 := n2_; have HB := n3_; clear n0_ n1_ n2_ n3_; (try clear hb); (try clear hb2); (try clear hk); (try clear hi)) | ((with_reducible refine gate_dst (N := 5) rfl ?_); (try (refine gate_guard (by rfl) ?_; dsimp only)); refine box_event ?hg (N := 5) ?hd (cs := (Ar.cells .u32 64 (List.replicate 64 0))) (t := 42) ?hr ?_; (case hd => rfl); (case hg => rfl); (case hr => first | exact Ar.box_run rfl rfl | exact Ar.alloc_run rfl (by kernel_rfl) | (go_simp; done) | (go_simp; rfl)); intro gb228 hg w8 hbox hb; have n0_ := Aside0.mk (blk_below (g := gb224) (o := .cells (Ar.cells .u32 8 a0) 60 (0, 0)) (by (with_reducible repeat (first | refine blk_drewN ?_ _ | refine blk_drew ?_ | refine blk_alloc ?_ _)); exact BK224.out) hb); have n1_ := Aside0.mk (blk_below (g := gb225) (o := .cells (Ar.cells .u8 64 a1) 39 (0, 0)) (by (with_reducible repeat (first | refine blk_drewN ?_ _ | refine blk_drew ?_ | refine blk_alloc ?_ _)); exact BK225.out) hb); have n2_ := Aside0.mk (blk_below (g := gb226) (o := .cells (Ar.cells .u32 8 (List.replicate 8 0)) 60 (0, 0)) (by (with_reducible repeat (first | refine blk_drewN ?_ _ | refine blk_drew ?_ | refine blk_alloc ?_ _)); exact BK226.out) hb); have n3_ := Aside0.mk (below_step (by repeat (first | (with_reducible first | exact HB.out | apply below_alloc | apply pw_below_drewN | apply below_drew1 | refine below_set ?_ GE224.out | refine below_set ?_ GE225.out | refine below_set ?_ GE226.out) | exact HB.out)) hb); have n4_ := Aside0.mk (hbox); have n5_ := Aside0.mk ((by rw [hg]; exact (below_size (by repeat (first | (with_reducible first | exact HB.out | apply below_alloc | apply pw_below_drewN | apply below_drew1 | refine below_set ?_ GE224.out | refine below_set ?_ GE225.out | refine below_set ?_ GE226.out) | exact HB.out))) : w.heap.size ≤ gb228)); have n6_ := Aside0.mk ((by rw [hg]; exact (below_size (by repeat (first | (with_reducible first | exact HB.out | apply below_alloc | apply pw_below_drewN | apply below_drew1 | refine below_set ?_ GE224.out | refine below_set ?_ GE225.out | refine below_set ?_ GE226.out) | exact HB.out))) : w.heap.size ≤ gb228)); have n7_ := Aside0.mk ((by rw [hg]; exact Nat.ne_of_lt (blk_lt (g := gb224) (o := .cells (Ar.cells .u32 8 a0) 60 (0, 0)) (by (with_reducible repeat (first | refine blk_drewN ?_ _ | refine blk_drew ?_ | refine blk_alloc ?_ _)); exact BK224.out)) : gb224 ≠ gb228)); have n8_ := Aside0.mk ((by rw [hg]; exact Nat.ne_of_gt (blk_lt (g := gb224) (o := .cells (Ar.cells .u32 8 a0) 60 (0, 0)) (by (with_reducible repeat (first | refine blk_drewN ?_ _ | refine blk_drew ?_ | refine blk_alloc ?_ _)); exact BK224.out)) : gb228 ≠ gb224)); have n9_ := Aside0.mk ((by rw [hg]; exact Nat.ne_of_lt (blk_lt (g := gb225) (o := .cells (Ar.cells .u8 64 a1) 39 (0, 0)) (by (with_reducible repeat (first | refine blk_drewN ?_ _ | refine blk_drew ?_ | refine blk_alloc ?_ _)); exact BK225.out)) : gb225 ≠ gb228)); have n10_ := Aside0.mk ((by rw [hg]; exact Nat.ne_of_gt (blk_lt (g := gb225) (o := .cells (Ar.cells .u8 64 a1) 39 (0, 0)) (by (with_reducible repeat (first | refine blk_drewN ?_ _ | refine blk_drew ?_ | refine blk_alloc ?_ _)); exact BK225.out)) : gb228 ≠ gb225)); have n11_ := Aside0.mk ((by rw [hg]; exact Nat.ne_of_lt (blk_lt (g := gb226) (o := .cells (Ar.cells .u32 8 (List.replicate 8 0)) 60 (0, 0)) (by (with_reducible repeat (first | refine blk_drewN ?_ _ | refine blk_drew ?_ | refine blk_alloc ?_ _)); exact BK226.out)) : gb226 ≠ gb228)); have n12_ := Aside0.mk ((by rw [hg]; exact Nat.ne_of_gt (blk_lt (g := gb226) (o := .cells (Ar.cells .u32 8 (List.replicate 8 0)) 60 (0, 0)) (by (with_reducible repeat (first | refine blk_drewN ?_ _ | refine blk_drew ?_ | refine blk_alloc ?_ _)); exact BK226.out)) : gb228 ≠ gb226)); clear BK224; clear BK225; clear BK226; clear HB; have BK224 := n0_; have BK225 := n1_; have BK226 := n2_; have HB := n3_; have BK228 := n4_; have GW228 := n5_; have GE228 := n6_; have NB224_228 := n7_; have NB228_224 := n8_; have NB225_228 := n9_; have NB228_225 := n10_; have NB226_228 := n11_; have NB228_226 := n12_; clear n0_ n1_ n2_ n3_ n4_ n5_ n6_ n7_ n8_ n9_ n10_ n11_ n12_; clear hb hbox hg) | ((with_reducible refine gate_store (t := 42) (p := 5) rfl ?_); refine Ar.store_all_event rfl rfl rfl Try.underlying42 (by kernel_rfl) (g := gb228) rfl (z := t227) (by first | rfl | (go_simp; done) | (go_simp; rfl)) (by (with_reducible repeat (first | refine blk_drewN ?_ _ | refine blk_drew ?_ | refine blk_alloc ?_ _)); exact BK228.out) ?_; intro w9 hbk_ hg; have n0_ := Aside0.mk (blk_grown (g := gb224) (o := .cells (Ar.cells .u32 8 a0) 60 (0, 0)) (by (with_reducible repeat (first | refine blk_drewN ?_ _ | refine blk_drew ?_ | refine blk_alloc ?_ _)); exact BK224.out) hg (fun e_ => NB224_228.out (Option.some.inj e_))); have n1_ := Aside0.mk (blk_grown (g := gb225) (o := .cells (Ar.cells .u8 64 a1) 39 (0, 0)) (by (with_reducible repeat (first | refine blk_drewN ?_ _ | refine blk_drew ?_ | refine blk_alloc ?_ _)); exact BK225.out) hg (fun e_ => NB225_228.out (Option.some.inj e_))); have n2_ := Aside0.mk (blk_grown (g := gb226) (o := .cells (Ar.cells .u32 8 (List.replicate 8 0)) 60 (0, 0)) (by (with_reducible repeat (first | refine blk_drewN ?_ _ | refine blk_drew ?_ | refine blk_alloc ?_ _)); exact BK226.out) hg (fun e_ => NB226_228.out (Option.some.inj e_))); have n3_ := Aside0.mk (hbk_); have n4_ := Aside0.mk (Below.grown (by repeat (first | (with_reducible first | exact HB.out | apply below_alloc | apply pw_below_drewN | apply below_drew1 | refine below_set ?_ GE224.out | refine below_set ?_ GE225.out | refine below_set ?_ GE226.out | refine below_set ?_ GE228.out) | exact HB.out)) hg ((below_size (by repeat (first | (with_reducible first | exact HB.out | apply below_alloc | apply pw_below_drewN | apply below_drew1 | refine below_set ?_ GE224.out | refine below_set ?_ GE225.out | refine below_set ?_ GE226.out | refine below_set ?_ GE228.out) | exact HB.out)))) (fun _ e_ => by cases e_; exact GE228.out)); clear BK224; clear BK225; clear BK226; clear BK228; clear HB; have BK224 := n0_; have BK225 := n1_; have BK226 := n2_; have BK228 := n3_; have HB := n4_; clear n0_ n1_ n2_ n3_ n4_; clear hbk_ hg) | ((with_reducible refine gate_dst (N := 11) rfl ?_); (try (refine gate_guard (by rfl) ?_; dsimp only)); refine Ar.load_event rfl (D := 11) rfl (T := 60) rfl Try.underlying60 (by kernel_rfl) (g := gb224) rfl (by (with_reducible repeat (first | refine blk_drewN ?_ _ | refine blk_drew ?_ | refine blk_alloc ?_ _)); exact BK224.out) ?_) | ((with_reducible refine gate_dst (N := 6) rfl ?_); (try (refine gate_guard (by rfl) ?_; dsimp only)); refine box_event ?hg (N := 6) ?hd (cs := (Ar.cells .u32 8 (List.replicate 8 0))) (t := 60) ?hr ?_; (case hd => rfl); (case hg => rfl); (case hr => first | exact Ar.box_run rfl rfl | exact Ar.alloc_run rfl (by kernel_rfl) | (go_simp; done) | (go_simp; rfl)); intro gb229 hg w10 hbox hb; have n0_ := Aside0.mk (blk_below (g := gb224) (o := .cells (Ar.cells .u32 8 a0) 60 (0, 0)) (by (with_reducible repeat (first | refine blk_drewN ?_ _ | refine blk_drew ?_ | refine blk_alloc ?_ _)); exact BK224.out) hb); have n1_ := Aside0.mk (blk_below (g := gb225) (o := .cells (Ar.cells .u8 64 a1) 39 (0, 0)) (by (with_reducible repeat (first | refine blk_drewN ?_ _ | refine blk_drew ?_ | refine blk_alloc ?_ _)); exact BK225.out) hb); have n2_ := Aside0.mk (blk_below (g := gb226) (o := .cells (Ar.cells .u32 8 (List.replicate 8 0)) 60 (0, 0)) (by (with_reducible repeat (first | refine blk_drewN ?_ _ | refine blk_drew ?_ | refine blk_alloc ?_ _)); exact BK226.out) hb); have n3_ := Aside0.mk (blk_below (g := gb228) (o := .cells (Ar.cells .u32 64 t227) 42 (0, 0)) (by (with_reducible repeat (first | refine blk_drewN ?_ _ | refine blk_drew ?_ | refine blk_alloc ?_ _)); exact BK228.out) hb); have n4_ := Aside0.mk (below_step (by repeat (first | (with_reducible first | exact HB.out | apply below_alloc | apply pw_below_drewN | apply below_drew1 | refine below_set ?_ GE224.out | refine below_set ?_ GE225.out | refine below_set ?_ GE226.out | refine below_set ?_ GE228.out) | exact HB.out)) hb); have n5_ := Aside0.mk (hbox); have n6_ := Aside0.mk ((by rw [hg]; exact (below_size (by repeat (first | (with_reducible first | exact HB.out | apply below_alloc | apply pw_below_drewN | apply below_drew1 | refine below_set ?_ GE224.out | refine below_set ?_ GE225.out | refine below_set ?_ GE226.out | refine below_set ?_ GE228.out) | exact HB.out))) : w.heap.size ≤ gb229)); have n7_ := Aside0.mk ((by rw [hg]; exact (below_size (by repeat (first | (with_reducible first | exact HB.out | apply below_alloc | apply pw_below_drewN | apply below_drew1 | refine below_set ?_ GE224.out | refine below_set ?_ GE225.out | refine below_set ?_ GE226.out | refine below_set ?_ GE228.out) | exact HB.out))) : w.heap.size ≤ gb229)); have n8_ := Aside0.mk ((by rw [hg]; exact Nat.ne_of_lt (blk_lt (g := gb224) (o := .cells (Ar.cells .u32 8 a0) 60 (0, 0)) (by (with_reducible repeat (first | refine blk_drewN ?_ _ | refine blk_drew ?_ | refine blk_alloc ?_ _)); exact BK224.out)) : gb224 ≠ gb229)); have n9_ := Aside0.mk ((by rw [hg]; exact Nat.ne_of_gt (blk_lt (g := gb224) (o := .cells (Ar.cells .u32 8 a0) 60 (0, 0)) (by (with_reducible repeat (first | refine blk_drewN ?_ _ | refine blk_drew ?_ | refine blk_alloc ?_ _)); exact BK224.out)) : gb229 ≠ gb224)); have n10_ := Aside0.mk ((by rw [hg]; exact Nat.ne_of_lt (blk_lt (g := gb225) (o := .cells (Ar.cells .u8 64 a1) 39 (0, 0)) (by (with_reducible repeat (first | refine blk_drewN ?_ _ | refine blk_drew ?_ | refine blk_alloc ?_ _)); exact BK225.out)) : gb225 ≠ gb229)); have n11_ := Aside0.mk ((by rw [hg]; exact Nat.ne_of_gt (blk_lt (g := gb225) (o := .cells (Ar.cells .u8 64 a1) 39 (0, 0)) (by (with_reducible repeat (first | refine blk_drewN ?_ _ | refine blk_drew ?_ | refine blk_alloc ?_ _)); exact BK225.out)) : gb229 ≠ gb225)); have n12_ := Aside0.mk ((by rw [hg]; exact Nat.ne_of_lt (blk_lt (g := gb226) (o := .cells (Ar.cells .u32 8 (List.replicate 8 0)) 60 (0, 0)) (by (with_reducible repeat (first | refine blk_drewN ?_ _ | refine blk_drew ?_ | refine blk_alloc ?_ _)); exact BK226.out)) : gb226 ≠ gb229)); have n13_ := Aside0.mk ((by rw [hg]; exact Nat.ne_of_gt (blk_lt (g := gb226) (o := .cells (Ar.cells .u32 8 (List.replicate 8 0)) 60 (0, 0)) (by (with_reducible repeat (first | refine blk_drewN ?_ _ | refine blk_drew ?_ | refine blk_alloc ?_ _)); exact BK226.out)) : gb229 ≠ gb226)); have n14_ := Aside0.mk ((by rw [hg]; exact Nat.ne_of_lt (blk_lt (g := gb228) (o := .cells (Ar.cells .u32 64 t227) 42 (0, 0)) (by (with_reducible repeat (first | refine blk_drewN ?_ _ | refine blk_drew ?_ | refine blk_alloc ?_ _)); exact BK228.out)) : gb228 ≠ gb229)); have n15_ := Aside0.mk ((by rw [hg]; exact Nat.ne_of_gt (blk_lt (g := gb228) (o := .cells (Ar.cells .u32 64 t227) 42 (0, 0)) (by (with_reducible repeat (first | refine blk_drewN ?_ _ | refine blk_drew ?_ | refine blk_alloc ?_ _)); exact BK228.out)) : gb229 ≠ gb228)); clear BK224; clear BK225; clear BK226; clear BK228; clear HB; have BK224 := n0_; have BK225 := n1_; have BK226 := n2_; have BK228 := n3_; have HB := n4_; have BK229 := n5_; have GW229 := n6_; have GE229 := n7_; have NB224_229 := n8_; have NB229_224 := n9_; have NB225_229 := n10_; have NB229_225 := n11_; have NB226_229 := n12_; have NB229_226 := n13_; have NB228_229 := n14_; have NB229_228 := n15_; clear n0_ n1_ n2_ n3_ n4_ n5_ n6_ n7_ n8_ n9_ n10_ n11_ n12_ n13_ n14_ n15_; clear hb hbox hg) | ((with_reducible refine gate_store (t := 60) (p := 6) rfl ?_); refine Ar.store_all_event rfl rfl rfl Try.underlying60 (by kernel_rfl) (g := gb229) rfl (z := a0) (by first | rfl | (go_simp; done) | (go_simp; rfl)) (by (with_reducible repeat (first | refine blk_drewN ?_ _ | refine blk_drew ?_ | refine blk_alloc ?_ _)); exact BK229.out) ?_; intro w11 hbk_ hg; have n0_ := Aside0.mk (blk_grown (g := gb224) (o := .cells (Ar.cells .u32 8 a0) 60 (0, 0)) (by (with_reducible repeat (first | refine blk_drewN ?_ _ | refine blk_drew ?_ | refine blk_alloc ?_ _)); exact BK224.out) hg (fun e_ => NB224_229.out (Option.some.inj e_))); have n1_ := Aside0.mk (blk_grown (g := gb225) (o := .cells (Ar.cells .u8 64 a1) 39 (0, 0)) (by (with_reducible repeat (first | refine blk_drewN ?_ _ | refine blk_drew ?_ | refine blk_alloc ?_ _)); exact BK225.out) hg (fun e_ => NB225_229.out (Option.some.inj e_))); have n2_ := Aside0.mk (blk_grown (g := gb226) (o := .cells (Ar.cells .u32 8 (List.replicate 8 0)) 60 (0, 0)) (by (with_reducible repeat (first | refine blk_drewN ?_ _ | refine blk_drew ?_ | refine blk_alloc ?_ _)); exact BK226.out) hg (fun e_ => NB226_229.out (Option.some.inj e_))); have n3_ := Aside0.mk (blk_grown (g := gb228) (o := .cells (Ar.cells .u32 64 t227) 42 (0, 0)) (by (with_reducible repeat (first | refine blk_drewN ?_ _ | refine blk_drew ?_ | refine blk_alloc ?_ _)); exact BK228.out) hg (fun e_ => NB228_229.out (Option.some.inj e_))); have n4_ := Aside0.mk (hbk_); have n5_ := Aside0.mk (Below.grown (by repeat (first | (with_reducible first | exact HB.out | apply below_alloc | apply pw_below_drewN | apply below_drew1 | refine below_set ?_ GE224.out | refine below_set ?_ GE225.out | refine below_set ?_ GE226.out | refine below_set ?_ GE228.out | refine below_set ?_ GE229.out) | exact HB.out)) hg ((below_size (by repeat (first | (with_reducible first | exact HB.out | apply below_alloc | apply pw_below_drewN | apply below_drew1 | refine below_set ?_ GE224.out | refine below_set ?_ GE225.out | refine below_set ?_ GE226.out | refine below_set ?_ GE228.out | refine below_set ?_ GE229.out) | exact HB.out)))) (fun _ e_ => by cases e_; exact GE229.out)); clear BK224; clear BK225; clear BK226; clear BK228; clear BK229; clear HB; have BK224 := n0_; have BK225 := n1_; have BK226 := n2_; have BK228 := n3_; have BK229 := n4_; have HB := n5_; clear n0_ n1_ n2_ n3_ n4_ n5_; clear hbk_ hg))
  go_loopg [7] k (fun kq v7 w' => ∃ (x7_1 : Int) (x230000_1 : List Int), v7 = .int .i64 x7_1 ∧ Aside0 (drawlotref04_Take.l0 kq x7_1 a0 t227 x230000_1 = some r) ∧ Aside0 (kq ≤ k) ∧ Aside0 (w'.heap[gb224]? = some (.cells (Ar.cells .u32 8 a0) 60 (0, 0))) ∧ Aside0 (w'.heap[gb225]? = some (.cells (Ar.cells .u8 64 a1) 39 (0, 0))) ∧ Aside0 (w'.heap[gb226]? = some (.cells (Ar.cells .u32 8 (List.replicate 8 0)) 60 (0, 0))) ∧ Aside0 (w'.heap[gb228]? = some (.cells (Ar.cells .u32 64 t227) 42 (0, 0))) ∧ Aside0 (w'.heap[gb229]? = some (.cells (Ar.cells .u32 8 x230000_1) 60 (0, 0))) ∧ Aside0 (Below w.heap.size w w'))
  case atStart => exact ⟨(0), (a0), (by first | rfl | (simp; done) | (simp [*]; done)), H', ⟨Nat.le_refl _⟩, ⟨by (with_reducible repeat (first | refine blk_drewN ?_ _ | refine blk_drew ?_ | refine blk_alloc ?_ _)); exact BK224.out⟩, ⟨by (with_reducible repeat (first | refine blk_drewN ?_ _ | refine blk_drew ?_ | refine blk_alloc ?_ _)); exact BK225.out⟩, ⟨by (with_reducible repeat (first | refine blk_drewN ?_ _ | refine blk_drew ?_ | refine blk_alloc ?_ _)); exact BK226.out⟩, ⟨by (with_reducible repeat (first | refine blk_drewN ?_ _ | refine blk_drew ?_ | refine blk_alloc ?_ _)); exact BK228.out⟩, ⟨by (with_reducible repeat (first | refine blk_drewN ?_ _ | refine blk_drew ?_ | refine blk_alloc ?_ _)); exact BK229.out⟩, ⟨by repeat (first | (with_reducible first | exact HB.out | apply below_alloc | apply pw_below_drewN | apply below_drew1 | refine below_set ?_ GE224.out | refine below_set ?_ GE225.out | refine below_set ?_ GE226.out | refine below_set ?_ GE228.out | refine below_set ?_ GE229.out) | exact HB.out)⟩⟩
  case round =>
    clear H'
    try clear p2
    try clear c5
    try clear c6
    obtain ⟨x7_1, x230000_1, rfl, HA, HK1, BK224, BK225, BK226, BK228, BK229, HB⟩ := hrel
    cases gk with
    | zero => exact absurd HA.out (by simp [drawlotref04_Take.l0])
    | succ k1 =>
      have H := HA.out
      clear HA
      simp only [drawlotref04_Take.l0] at H
      by_cases c12 : x7_1 < 64
      · rw [if_pos c12] at H
        have c12b0 : decide (x7_1 < 64) = true := decide_eq_true c12
        clear c12
        by_cases c13 : 0 ≤ x7_1
        · rw [if_pos c13] at H
          have c13b0 : decide (0 ≤ x7_1) = true := decide_eq_true c13
          clear c13
          replace H := Option.bind_eq_some_iff.mp H
          obtain ⟨t230, A140, H⟩ := H
          replace H : ((drawlotref04_Round.f k1 x230000_1 (Ar.get 64 t227 x7_1) t230).bind fun t231 => (drawlotref04_Take.l0 k1 (wrap64 (x7_1 + 1)) a0 t227 t231)) = some r := H
          have A14 := Aside0.mk A140
          clear A140
          replace H := Option.bind_eq_some_iff.mp H
          obtain ⟨t231, A150, H⟩ := H
          replace H : (drawlotref04_Take.l0 k1 (wrap64 (x7_1 + 1)) a0 t227 t231) = some r := H
          have A15 := Aside0.mk A150
          clear A150
          have H' := Aside0.mk H
          clear H
          try go_wp2
          have n0_ := Aside0.mk (blk_drew BK224.out)
          have n1_ := Aside0.mk (blk_drew BK225.out)
          have n2_ := Aside0.mk (blk_drew BK226.out)
          have n3_ := Aside0.mk (blk_drew BK228.out)
          have n4_ := Aside0.mk (blk_drew BK229.out)
          have n5_ := Aside0.mk (below_drew1 HB.out)
          clear BK224
          clear BK225
          clear BK226
          clear BK228
          clear BK229
          clear HB
          have BK224 := n0_
          have BK225 := n1_
          have BK226 := n2_
          have BK228 := n3_
          have BK229 := n4_
          have HB := n5_
          clear n0_ n1_ n2_ n3_ n4_ n5_
          have p17 : (0 ≤ (x7_1 : Int)) = True := eq_true (of_decide_eq_true (by first | (with_reducible assumption) | assumption))
          have q17 : ((x7_1 : Int) < 64) = True := eq_true (of_decide_eq_true (by first | (with_reducible assumption) | assumption))
          refine start_ (n := 8) (S := fun w' => w'.heap[gb229]? = some (.cells (Ar.cells .u32 8 x230000_1) 60 (0, 0)) ∧ w'.cell? ⟨gb228, (x7_1 : Int).toNat, none⟩ = some (.int .u32 (Ar.get 64 t227 x7_1))) (ds := [7]) #[false, false, false, false, false, false, false, false] (by kernel_rfl) rfl rfl ⟨BK229.out, (Ar.cell_run (j := x7_1) BK228.out (of_decide_eq_true (by first | (with_reducible assumption) | assumption)) (of_decide_eq_true (by first | (with_reducible assumption) | assumption)))⟩ (fun hHeld => ?_); refine with_tabW drawlotref04_Take.tab6 drawlotref04_Take.bits6 (fun HT_ HW_ => ?_)
          generalize wr.drew = w16 at BK224 BK225 BK226 BK228 BK229 HB hHeld ⊢
          refine pure_ (i := 1) (N := some 17) (v := ?_) (a' := ?_) #[false, true, false, false, false, false, false, false] rfl rfl (any_of HT_.out (by kernel_rfl)) (fun _ _ _ h => h) (Or.inl ⟨by rfl, ?_⟩) ?_ ?_
          rotate_left
          · intro w'
            go_simp
            with_reducible rfl
          rotate_left
          · simp only [Act.put, List.setIfInBounds_toArray, List.set_cons_zero, List.set_cons_succ, i64_w, i32_w]
            rfl
          refine pure_ (i := 2) (N := some 18) (v := ?_) (a' := ?_) #[false, true, true, false, false, false, false, false] rfl rfl (any_of HT_.out (by kernel_rfl)) (fun _ _ _ h => h) (Or.inl ⟨by rfl, ?_⟩) ?_ ?_
          rotate_left
          · intro w'
            go_simp
            with_reducible rfl
          rotate_left
          · simp only [Act.put, List.setIfInBounds_toArray, List.set_cons_zero, List.set_cons_succ, i64_w, i32_w]
            rfl
          refine pure_ (i := 4) (N := some 20) (v := ?_) (a' := ?_) #[false, true, true, false, true, false, false, false] rfl rfl (any_of HT_.out (by kernel_rfl)) (fun _ _ _ h => h) (Or.inl ⟨by rfl, ?_⟩) ?_ ?_
          rotate_left
          · intro w'
            go_simp
            with_reducible rfl
          rotate_left
          · simp only [Act.put, List.setIfInBounds_toArray, List.set_cons_zero, List.set_cons_succ, i64_w, i32_w]
            rfl
          refine take_ (i := 0) (N := some 16) (v := ?_) (a' := ?_) #[true, true, true, false, true, false, false, false] rfl rfl (take_ofW HT_.out HW_.out (by kernel_rfl)) (fun _ _ _ h => h) (Or.inl ⟨by rfl, ?_⟩) hHeld ?_ ?_
          rotate_left
          · rintro w' ⟨s0, s1⟩
            first | (refine (Ar.load_run rfl Try.underlying60 (by kernel_rfl) rfl (by assumption)).trans ?_; with_reducible rfl) | (go_simp; with_reducible rfl)
          rotate_left
          · simp only [Act.put, List.setIfInBounds_toArray, List.set_cons_zero, List.set_cons_succ, i64_w, i32_w]
            rfl
          refine take_ (i := 3) (N := some 19) (v := ?_) (a' := ?_) #[true, true, true, true, true, false, false, false] rfl rfl (take_ofW HT_.out HW_.out (by kernel_rfl)) (fun _ _ _ h => h) (Or.inl ⟨by rfl, ?_⟩) hHeld ?_ ?_
          rotate_left
          · rintro w' ⟨s0, s1⟩
            go_simp
            with_reducible rfl
          rotate_left
          · simp only [Act.put, List.setIfInBounds_toArray, List.set_cons_zero, List.set_cons_succ, i64_w, i32_w]
            rfl
          refine one_ (i := 5) (N := some 21) #[true, true, true, true, true, true, false, false] rfl rfl (one_of HT_.out (by kernel_rfl)) (by decide) (fun K hK => ?_)
          refine goes_ Try.func55 (by kernel_rfl) rfl #[.int .i64 x7_1] (by rfl) rfl rfl (by (try simp only [List.map_toArray, List.map_cons, List.map_nil]); first | done | rfl | (simp only [List.length_drop, List.length_take]; rfl)) ?_
          with_reducible refine (drawlotref04_Constant.calls x7_1 t230 _ A14.out).mono ?_
          rintro e w' ⟨rfl, ⟨nd, rfl⟩⟩
          refine ⟨_, rfl, ?_⟩
          refine hK.out _ _ ⟨BK229.out, (Ar.cell_run (j := x7_1) BK228.out (of_decide_eq_true (by first | (with_reducible assumption) | assumption)) (of_decide_eq_true (by first | (with_reducible assumption) | assumption)))⟩ (fun hHeld => ?_)
          clear hK K
          refine norm_ (a' := ?_) ?_ ?_
          rotate_left
          · show Act.put _ (some 21) _ = _
            simp only [Act.put, List.setIfInBounds_toArray, List.set_cons_zero, List.set_cons_succ, i64_w, i32_w]
            rfl
          refine one_ (i := 6) (N := some 22) #[true, true, true, true, true, true, true, false] rfl rfl (one_of HT_.out (by kernel_rfl)) (by decide) (fun K hK => ?_)
          refine goes_ Try.func66 (by kernel_rfl) rfl #[.agg (Ar.cells .u32 8 x230000_1), .int .u32 (Ar.get 64 t227 x7_1), .int .u32 t230] (by rfl) rfl rfl (by (try simp only [List.map_toArray, List.map_cons, List.map_nil]); first | done | rfl | (simp only [List.length_drop, List.length_take]; rfl)) ?_
          with_reducible refine (drawlotref04_Round.calls k1 x230000_1 (Ar.get 64 t227 x7_1) t230 t231 _ A15.out).mono ?_
          rintro e w18 ⟨rfl, hb⟩
          refine ⟨_, rfl, ?_⟩
          have n0_ := Aside0.mk (blk_below (g := gb224) (o := .cells (Ar.cells .u32 8 a0) 60 (0, 0)) (by (with_reducible repeat (first | refine blk_drewN ?_ _ | refine blk_drew ?_ | refine blk_alloc ?_ _)); exact BK224.out) hb)
          have n1_ := Aside0.mk (blk_below (g := gb225) (o := .cells (Ar.cells .u8 64 a1) 39 (0, 0)) (by (with_reducible repeat (first | refine blk_drewN ?_ _ | refine blk_drew ?_ | refine blk_alloc ?_ _)); exact BK225.out) hb)
          have n2_ := Aside0.mk (blk_below (g := gb226) (o := .cells (Ar.cells .u32 8 (List.replicate 8 0)) 60 (0, 0)) (by (with_reducible repeat (first | refine blk_drewN ?_ _ | refine blk_drew ?_ | refine blk_alloc ?_ _)); exact BK226.out) hb)
          have n3_ := Aside0.mk (blk_below (g := gb228) (o := .cells (Ar.cells .u32 64 t227) 42 (0, 0)) (by (with_reducible repeat (first | refine blk_drewN ?_ _ | refine blk_drew ?_ | refine blk_alloc ?_ _)); exact BK228.out) hb)
          have n4_ := Aside0.mk (blk_below (g := gb229) (o := .cells (Ar.cells .u32 8 x230000_1) 60 (0, 0)) (by (with_reducible repeat (first | refine blk_drewN ?_ _ | refine blk_drew ?_ | refine blk_alloc ?_ _)); exact BK229.out) hb)
          have n5_ := Aside0.mk (below_step (by repeat (first | (with_reducible first | exact HB.out | apply below_alloc | apply pw_below_drewN | apply below_drew1 | refine below_set ?_ GE224.out | refine below_set ?_ GE225.out | refine below_set ?_ GE226.out | refine below_set ?_ GE228.out | refine below_set ?_ GE229.out) | exact HB.out)) hb)
          clear BK224
          clear BK225
          clear BK226
          clear BK228
          clear BK229
          clear HB
          have BK224 := n0_
          have BK225 := n1_
          have BK226 := n2_
          have BK228 := n3_
          have BK229 := n4_
          have HB := n5_
          clear n0_ n1_ n2_ n3_ n4_ n5_
          (try clear hb)
          (try clear hb2)
          (try clear hk)
          (try clear hi)
          refine hK.out _ _ ⟨BK229.out, (Ar.cell_run (j := x7_1) BK228.out (of_decide_eq_true (by first | (with_reducible assumption) | assumption)) (of_decide_eq_true (by first | (with_reducible assumption) | assumption)))⟩ (fun hHeld => ?_)
          clear hK K
          refine norm_ (a' := ?_) ?_ ?_
          rotate_left
          · show Act.put _ (some 22) _ = _
            simp only [Act.put, List.setIfInBounds_toArray, List.set_cons_zero, List.set_cons_succ, i64_w, i32_w]
            rfl
          refine last_ (i := 7) (N := none) #[true, true, true, true, true, true, true, true] rfl rfl (one_of HT_.out (by kernel_rfl)) (by decide) (fun K hK => ?_)
          refine Ar.store_all_step (by rfl) rfl rfl Try.underlying60 (by kernel_rfl) (g := gb229) rfl (z := t231) (by first | rfl | (go_simp; done) | (go_simp; rfl)) (by (with_reducible repeat (first | refine blk_drewN ?_ _ | refine blk_drew ?_ | refine blk_alloc ?_ _)); exact BK229.out) ?_; intro w19 hbk_ hg
          have n0_ := Aside0.mk (blk_grown (g := gb224) (o := .cells (Ar.cells .u32 8 a0) 60 (0, 0)) (by (with_reducible repeat (first | refine blk_drewN ?_ _ | refine blk_drew ?_ | refine blk_alloc ?_ _)); exact BK224.out) hg (fun e_ => NB224_229.out (Option.some.inj e_)))
          have n1_ := Aside0.mk (blk_grown (g := gb225) (o := .cells (Ar.cells .u8 64 a1) 39 (0, 0)) (by (with_reducible repeat (first | refine blk_drewN ?_ _ | refine blk_drew ?_ | refine blk_alloc ?_ _)); exact BK225.out) hg (fun e_ => NB225_229.out (Option.some.inj e_)))
          have n2_ := Aside0.mk (blk_grown (g := gb226) (o := .cells (Ar.cells .u32 8 (List.replicate 8 0)) 60 (0, 0)) (by (with_reducible repeat (first | refine blk_drewN ?_ _ | refine blk_drew ?_ | refine blk_alloc ?_ _)); exact BK226.out) hg (fun e_ => NB226_229.out (Option.some.inj e_)))
          have n3_ := Aside0.mk (blk_grown (g := gb228) (o := .cells (Ar.cells .u32 64 t227) 42 (0, 0)) (by (with_reducible repeat (first | refine blk_drewN ?_ _ | refine blk_drew ?_ | refine blk_alloc ?_ _)); exact BK228.out) hg (fun e_ => NB228_229.out (Option.some.inj e_)))
          have n4_ := Aside0.mk (hbk_)
          have n5_ := Aside0.mk (Below.grown (by repeat (first | (with_reducible first | exact HB.out | apply below_alloc | apply pw_below_drewN | apply below_drew1 | refine below_set ?_ GE224.out | refine below_set ?_ GE225.out | refine below_set ?_ GE226.out | refine below_set ?_ GE228.out | refine below_set ?_ GE229.out) | exact HB.out)) hg ((below_size (by repeat (first | (with_reducible first | exact HB.out | apply below_alloc | apply pw_below_drewN | apply below_drew1 | refine below_set ?_ GE224.out | refine below_set ?_ GE225.out | refine below_set ?_ GE226.out | refine below_set ?_ GE228.out | refine below_set ?_ GE229.out) | exact HB.out)))) (fun _ e_ => by cases e_; exact GE229.out))
          clear BK224
          clear BK225
          clear BK226
          clear BK228
          clear BK229
          clear HB
          have BK224 := n0_
          have BK225 := n1_
          have BK226 := n2_
          have BK228 := n3_
          have BK229 := n4_
          have HB := n5_
          clear n0_ n1_ n2_ n3_ n4_ n5_
          clear hbk_ hg
          refine hK.out _ _ ?_
          clear hK K
          refine done_ (done_of HT_.out (by kernel_rfl)) ?_
          try go_wp2
          go_roundg k1
          case measure => have := HK1.out; omega
          case rel => exact ⟨(wrap64 (x7_1 + 1)), (t231), (by first | rfl | (simp; done) | (simp [*]; done)), H', ⟨by have := HK1.out; omega⟩, ⟨by (with_reducible repeat (first | refine blk_drewN ?_ _ | refine blk_drew ?_ | refine blk_alloc ?_ _)); exact BK224.out⟩, ⟨by (with_reducible repeat (first | refine blk_drewN ?_ _ | refine blk_drew ?_ | refine blk_alloc ?_ _)); exact BK225.out⟩, ⟨by (with_reducible repeat (first | refine blk_drewN ?_ _ | refine blk_drew ?_ | refine blk_alloc ?_ _)); exact BK226.out⟩, ⟨by (with_reducible repeat (first | refine blk_drewN ?_ _ | refine blk_drew ?_ | refine blk_alloc ?_ _)); exact BK228.out⟩, ⟨by (with_reducible repeat (first | refine blk_drewN ?_ _ | refine blk_drew ?_ | refine blk_alloc ?_ _)); exact BK229.out⟩, ⟨by repeat (first | (with_reducible first | exact HB.out | apply below_alloc | apply pw_below_drewN | apply below_drew1 | refine below_set ?_ GE224.out | refine below_set ?_ GE225.out | refine below_set ?_ GE226.out | refine below_set ?_ GE228.out | refine below_set ?_ GE229.out) | exact HB.out)⟩⟩
        · rw [if_neg c13] at H
          exact absurd H (by simp)
      · rw [if_neg c12] at H
        have c12b0 : decide (x7_1 < 64) = false := decide_eq_false c12
        clear c12
        have H' := Aside0.mk H
        clear H
        go_wp2
        go_loopg [8] k1 (fun kq v8 w' => ∃ (x8_2 : Int) (x230000_2 : List Int), v8 = .int .i64 x8_2 ∧ Aside0 (drawlotref04_Take.l1 kq x8_2 a0 x230000_2 = some r) ∧ Aside0 (kq ≤ k1) ∧ Aside0 (w'.heap[gb224]? = some (.cells (Ar.cells .u32 8 a0) 60 (0, 0))) ∧ Aside0 (w'.heap[gb225]? = some (.cells (Ar.cells .u8 64 a1) 39 (0, 0))) ∧ Aside0 (w'.heap[gb226]? = some (.cells (Ar.cells .u32 8 (List.replicate 8 0)) 60 (0, 0))) ∧ Aside0 (w'.heap[gb228]? = some (.cells (Ar.cells .u32 64 t227) 42 (0, 0))) ∧ Aside0 (w'.heap[gb229]? = some (.cells (Ar.cells .u32 8 x230000_2) 60 (0, 0))) ∧ Aside0 (Below w.heap.size w w'))
        case atStart => exact ⟨(0), (x230000_1), (by first | rfl | (simp; done) | (simp [*]; done)), H', ⟨Nat.le_refl _⟩, ⟨by (with_reducible repeat (first | refine blk_drewN ?_ _ | refine blk_drew ?_ | refine blk_alloc ?_ _)); exact BK224.out⟩, ⟨by (with_reducible repeat (first | refine blk_drewN ?_ _ | refine blk_drew ?_ | refine blk_alloc ?_ _)); exact BK225.out⟩, ⟨by (with_reducible repeat (first | refine blk_drewN ?_ _ | refine blk_drew ?_ | refine blk_alloc ?_ _)); exact BK226.out⟩, ⟨by (with_reducible repeat (first | refine blk_drewN ?_ _ | refine blk_drew ?_ | refine blk_alloc ?_ _)); exact BK228.out⟩, ⟨by (with_reducible repeat (first | refine blk_drewN ?_ _ | refine blk_drew ?_ | refine blk_alloc ?_ _)); exact BK229.out⟩, ⟨by repeat (first | (with_reducible first | exact HB.out | apply below_alloc | apply pw_below_drewN | apply below_drew1 | refine below_set ?_ GE224.out | refine below_set ?_ GE225.out | refine below_set ?_ GE226.out | refine below_set ?_ GE228.out | refine below_set ?_ GE229.out) | exact HB.out)⟩⟩
        case round =>
          clear H'
          try clear c1
          try clear p1
          try clear q1
          try clear p2
          try clear c5
          try clear c6
          try clear p6
          try clear c12
          try clear c12b0
          try clear c13
          try clear c13b0
          try clear p17
          try clear q17
          try clear p17
          try clear p2
          try clear q17
          obtain ⟨x8_2, x230000_2, rfl, HA, HK2, BK224, BK225, BK226, BK228, BK229, HB⟩ := hrel
          cases gk with
          | zero => exact absurd HA.out (by simp [drawlotref04_Take.l1])
          | succ k2 =>
            have H := HA.out
            clear HA
            simp only [drawlotref04_Take.l1] at H
            by_cases c20 : x8_2 < 8
            · rw [if_pos c20] at H
              have c20b0 : decide (x8_2 < 8) = true := decide_eq_true c20
              clear c20
              by_cases c21 : 0 ≤ x8_2
              · rw [if_pos c21] at H
                have c21b0 : decide (0 ≤ x8_2) = true := decide_eq_true c21
                clear c21
                obtain ⟨y232, hy232⟩ : ∃ y_ : List Int, y_ = (Ar.set 8 x230000_2 x8_2 (((Ar.get 8 x230000_2 x8_2) + (Ar.get 8 a0 x8_2)) % 4294967296)) := ⟨_, rfl⟩
                replace H : (drawlotref04_Take.l1 k2 (wrap64 (x8_2 + 1)) a0 y232) = some r := by first | (rw [hy232]; with_reducible exact H) | (have H2_ := (Option.bind_some _ _).symm.trans H; rw [hy232]; with_reducible exact H2_) | (have H2_ := (Option.bind_some _ _).symm.trans H; with_reducible exact H2_) | with_reducible exact H | (rw [hy232]; exact H) | exact H
                have Ny232 := Aside0.mk hy232
                clear hy232
                have H' := Aside0.mk H
                clear H
                try go_wp2
                have n0_ := Aside0.mk (blk_drew BK224.out)
                have n1_ := Aside0.mk (blk_drew BK225.out)
                have n2_ := Aside0.mk (blk_drew BK226.out)
                have n3_ := Aside0.mk (blk_drew BK228.out)
                have n4_ := Aside0.mk (blk_drew BK229.out)
                have n5_ := Aside0.mk (below_drew1 HB.out)
                clear BK224
                clear BK225
                clear BK226
                clear BK228
                clear BK229
                clear HB
                have BK224 := n0_
                have BK225 := n1_
                have BK226 := n2_
                have BK228 := n3_
                have BK229 := n4_
                have HB := n5_
                clear n0_ n1_ n2_ n3_ n4_ n5_
                have p23 : (0 ≤ (x8_2 : Int)) = True := eq_true (of_decide_eq_true (by first | (with_reducible assumption) | assumption))
                have q23 : ((x8_2 : Int) < 8) = True := eq_true (of_decide_eq_true (by first | (with_reducible assumption) | assumption))
                have p24 : (0 ≤ (x8_2 : Int)) = True := eq_true (of_decide_eq_true (by first | (with_reducible assumption) | assumption))
                have q24 : ((x8_2 : Int) < 8) = True := eq_true (of_decide_eq_true (by first | (with_reducible assumption) | assumption))
                have p25 : (0 ≤ (x8_2 : Int)) = True := eq_true (of_decide_eq_true (by first | (with_reducible assumption) | assumption))
                have q25 : ((x8_2 : Int) < 8) = True := eq_true (of_decide_eq_true (by first | (with_reducible assumption) | assumption))
                refine start_ (n := 10) (S := fun w' => w'.cell? ⟨gb229, (x8_2 : Int).toNat, none⟩ = some (.int .u32 (Ar.get 8 x230000_2 x8_2)) ∧ w'.cell? ⟨gb224, (x8_2 : Int).toNat, none⟩ = some (.int .u32 (Ar.get 8 a0 x8_2))) (ds := [9]) #[false, false, false, false, false, false, false, false, false, false] (by kernel_rfl) rfl rfl ⟨(Ar.cell_run (j := x8_2) BK229.out (of_decide_eq_true (by first | (with_reducible assumption) | assumption)) (of_decide_eq_true (by first | (with_reducible assumption) | assumption))), (Ar.cell_run (j := x8_2) BK224.out (of_decide_eq_true (by first | (with_reducible assumption) | assumption)) (of_decide_eq_true (by first | (with_reducible assumption) | assumption)))⟩ (fun hHeld => ?_); refine with_tabW drawlotref04_Take.tab10 drawlotref04_Take.bits10 (fun HT_ HW_ => ?_)
                generalize wr.drew = w22 at BK224 BK225 BK226 BK228 BK229 HB hHeld ⊢
                refine pure_ (i := 0) (N := some 27) (v := ?_) (a' := ?_) #[true, false, false, false, false, false, false, false, false, false] rfl rfl (any_of HT_.out (by kernel_rfl)) (fun _ _ _ h => h) (Or.inl ⟨by rfl, ?_⟩) ?_ ?_
                rotate_left
                · intro w'
                  go_simp
                  with_reducible rfl
                rotate_left
                · simp only [Act.put, List.setIfInBounds_toArray, List.set_cons_zero, List.set_cons_succ, i64_w, i32_w]
                  rfl
                refine pure_ (i := 1) (N := some 28) (v := ?_) (a' := ?_) #[true, true, false, false, false, false, false, false, false, false] rfl rfl (any_of HT_.out (by kernel_rfl)) (fun _ _ _ h => h) (Or.inl ⟨by rfl, ?_⟩) ?_ ?_
                rotate_left
                · intro w'
                  go_simp
                  with_reducible rfl
                rotate_left
                · simp only [Act.put, List.setIfInBounds_toArray, List.set_cons_zero, List.set_cons_succ, i64_w, i32_w]
                  rfl
                refine pure_ (i := 2) (N := some 29) (v := ?_) (a' := ?_) #[true, true, true, false, false, false, false, false, false, false] rfl rfl (any_of HT_.out (by kernel_rfl)) (fun _ _ _ h => h) (Or.inl ⟨by rfl, ?_⟩) ?_ ?_
                rotate_left
                · intro w'
                  go_simp
                  with_reducible rfl
                rotate_left
                · simp only [Act.put, List.setIfInBounds_toArray, List.set_cons_zero, List.set_cons_succ, i64_w, i32_w]
                  rfl
                refine pure_ (i := 4) (N := some 31) (v := ?_) (a' := ?_) #[true, true, true, false, true, false, false, false, false, false] rfl rfl (any_of HT_.out (by kernel_rfl)) (fun _ _ _ h => h) (Or.inl ⟨by rfl, ?_⟩) ?_ ?_
                rotate_left
                · intro w'
                  go_simp
                  with_reducible rfl
                rotate_left
                · simp only [Act.put, List.setIfInBounds_toArray, List.set_cons_zero, List.set_cons_succ, i64_w, i32_w]
                  rfl
                refine pure_ (i := 5) (N := some 32) (v := ?_) (a' := ?_) #[true, true, true, false, true, true, false, false, false, false] rfl rfl (any_of HT_.out (by kernel_rfl)) (fun _ _ _ h => h) (Or.inl ⟨by rfl, ?_⟩) ?_ ?_
                rotate_left
                · intro w'
                  go_simp
                  with_reducible rfl
                rotate_left
                · simp only [Act.put, List.setIfInBounds_toArray, List.set_cons_zero, List.set_cons_succ, i64_w, i32_w]
                  rfl
                refine take_ (i := 3) (N := some 30) (v := ?_) (a' := ?_) #[true, true, true, true, true, true, false, false, false, false] rfl rfl (take_ofW HT_.out HW_.out (by kernel_rfl)) (fun _ _ _ h => h) (Or.inl ⟨by rfl, ?_⟩) hHeld ?_ ?_
                rotate_left
                · rintro w' ⟨s0, s1⟩
                  go_simp
                  with_reducible rfl
                rotate_left
                · simp only [Act.put, List.setIfInBounds_toArray, List.set_cons_zero, List.set_cons_succ, i64_w, i32_w]
                  rfl
                refine take_ (i := 6) (N := some 33) (v := ?_) (a' := ?_) #[true, true, true, true, true, true, true, false, false, false] rfl rfl (take_ofW HT_.out HW_.out (by kernel_rfl)) (fun _ _ _ h => h) (Or.inl ⟨by rfl, ?_⟩) hHeld ?_ ?_
                rotate_left
                · rintro w' ⟨s0, s1⟩
                  go_simp
                  with_reducible rfl
                rotate_left
                · simp only [Act.put, List.setIfInBounds_toArray, List.set_cons_zero, List.set_cons_succ, i64_w, i32_w]
                  rfl
                refine pure_ (i := 7) (N := some 34) (v := ?_) (a' := ?_) #[true, true, true, true, true, true, true, true, false, false] rfl rfl (any_of HT_.out (by kernel_rfl)) (fun _ _ _ h => h) (Or.inl ⟨by rfl, ?_⟩) ?_ ?_
                rotate_left
                · intro w'
                  go_simp
                  with_reducible rfl
                rotate_left
                · simp only [Act.put, List.setIfInBounds_toArray, List.set_cons_zero, List.set_cons_succ, i64_w, i32_w]
                  rfl
                refine pure_ (i := 8) (N := some 35) (v := ?_) (a' := ?_) #[true, true, true, true, true, true, true, true, true, false] rfl rfl (any_of HT_.out (by kernel_rfl)) (fun _ _ _ h => h) (Or.inl ⟨by rfl, ?_⟩) ?_ ?_
                rotate_left
                · intro w'
                  go_simp
                  with_reducible rfl
                rotate_left
                · simp only [Act.put, List.setIfInBounds_toArray, List.set_cons_zero, List.set_cons_succ, i64_w, i32_w]
                  rfl
                refine last_ (i := 9) (N := none) #[true, true, true, true, true, true, true, true, true, true] rfl rfl (one_of HT_.out (by kernel_rfl)) (by decide) (fun K hK => ?_)
                refine Ar.put_step (by rfl) rfl rfl (by kernel_rfl) (g := gb229) (j := x8_2) rfl (z := (((Ar.get 8 x230000_2 x8_2) + (Ar.get 8 a0 x8_2)) % 4294967296)) (by first | rfl | (go_simp; done) | (go_simp; rfl)) (by (with_reducible repeat (first | refine blk_drewN ?_ _ | refine blk_drew ?_ | refine blk_alloc ?_ _)); exact BK229.out) (of_decide_eq_true (by first | (with_reducible assumption) | assumption)) (of_decide_eq_true (by first | (with_reducible assumption) | assumption)) ?_; intro w26 hbk_ hg
                rw [← Ny232.out] at hbk_
                have n0_ := Aside0.mk (blk_grown (g := gb224) (o := .cells (Ar.cells .u32 8 a0) 60 (0, 0)) (by (with_reducible repeat (first | refine blk_drewN ?_ _ | refine blk_drew ?_ | refine blk_alloc ?_ _)); exact BK224.out) hg (fun e_ => NB224_229.out (Option.some.inj e_)))
                have n1_ := Aside0.mk (blk_grown (g := gb225) (o := .cells (Ar.cells .u8 64 a1) 39 (0, 0)) (by (with_reducible repeat (first | refine blk_drewN ?_ _ | refine blk_drew ?_ | refine blk_alloc ?_ _)); exact BK225.out) hg (fun e_ => NB225_229.out (Option.some.inj e_)))
                have n2_ := Aside0.mk (blk_grown (g := gb226) (o := .cells (Ar.cells .u32 8 (List.replicate 8 0)) 60 (0, 0)) (by (with_reducible repeat (first | refine blk_drewN ?_ _ | refine blk_drew ?_ | refine blk_alloc ?_ _)); exact BK226.out) hg (fun e_ => NB226_229.out (Option.some.inj e_)))
                have n3_ := Aside0.mk (blk_grown (g := gb228) (o := .cells (Ar.cells .u32 64 t227) 42 (0, 0)) (by (with_reducible repeat (first | refine blk_drewN ?_ _ | refine blk_drew ?_ | refine blk_alloc ?_ _)); exact BK228.out) hg (fun e_ => NB228_229.out (Option.some.inj e_)))
                have n4_ := Aside0.mk (hbk_)
                have n5_ := Aside0.mk (Below.grown (by repeat (first | (with_reducible first | exact HB.out | apply below_alloc | apply pw_below_drewN | apply below_drew1 | refine below_set ?_ GE224.out | refine below_set ?_ GE225.out | refine below_set ?_ GE226.out | refine below_set ?_ GE228.out | refine below_set ?_ GE229.out) | exact HB.out)) hg ((below_size (by repeat (first | (with_reducible first | exact HB.out | apply below_alloc | apply pw_below_drewN | apply below_drew1 | refine below_set ?_ GE224.out | refine below_set ?_ GE225.out | refine below_set ?_ GE226.out | refine below_set ?_ GE228.out | refine below_set ?_ GE229.out) | exact HB.out)))) (fun _ e_ => by cases e_; exact GE229.out))
                clear BK224
                clear BK225
                clear BK226
                clear BK228
                clear BK229
                clear HB
                have BK224 := n0_
                have BK225 := n1_
                have BK226 := n2_
                have BK228 := n3_
                have BK229 := n4_
                have HB := n5_
                clear n0_ n1_ n2_ n3_ n4_ n5_
                clear hbk_ hg
                refine hK.out _ _ ?_
                clear hK K
                refine done_ (done_of HT_.out (by kernel_rfl)) ?_
                try go_wp2
                go_roundg k2
                case measure => have := HK1.out; have := HK2.out; omega
                case rel => exact ⟨(wrap64 (x8_2 + 1)), (y232), (by first | rfl | (simp; done) | (simp [*]; done)), H', ⟨by have := HK1.out; have := HK2.out; omega⟩, ⟨by (with_reducible repeat (first | refine blk_drewN ?_ _ | refine blk_drew ?_ | refine blk_alloc ?_ _)); exact BK224.out⟩, ⟨by (with_reducible repeat (first | refine blk_drewN ?_ _ | refine blk_drew ?_ | refine blk_alloc ?_ _)); exact BK225.out⟩, ⟨by (with_reducible repeat (first | refine blk_drewN ?_ _ | refine blk_drew ?_ | refine blk_alloc ?_ _)); exact BK226.out⟩, ⟨by (with_reducible repeat (first | refine blk_drewN ?_ _ | refine blk_drew ?_ | refine blk_alloc ?_ _)); exact BK228.out⟩, ⟨by (with_reducible repeat (first | refine blk_drewN ?_ _ | refine blk_drew ?_ | refine blk_alloc ?_ _)); exact BK229.out⟩, ⟨by repeat (first | (with_reducible first | exact HB.out | apply below_alloc | apply pw_below_drewN | apply below_drew1 | refine below_set ?_ GE224.out | refine below_set ?_ GE225.out | refine below_set ?_ GE226.out | refine below_set ?_ GE228.out | refine below_set ?_ GE229.out) | exact HB.out)⟩⟩
              · rw [if_neg c21] at H
                exact absurd H (by simp)
            · rw [if_neg c20] at H
              have c20b0 : decide (x8_2 < 8) = false := decide_eq_false c20
              clear c20
              obtain rfl := Option.some.inj H
              go_wp2_with (first | ((with_reducible refine gate_dst (N := 36) rfl ?_); (try (refine gate_guard (by rfl) ?_; dsimp only)); refine Ar.load_event rfl (D := 36) rfl (T := 60) rfl Try.underlying60 (by kernel_rfl) (g := gb229) rfl (by (with_reducible repeat (first | refine blk_drewN ?_ _ | refine blk_drew ?_ | refine blk_alloc ?_ _)); exact BK229.out) ?_) | ((with_reducible refine gate_store (t := 60) (p := 4) rfl ?_); refine Ar.store_all_event rfl rfl rfl Try.underlying60 (by kernel_rfl) (g := gb226) rfl (z := x230000_2) (by first | rfl | (go_simp; done) | (go_simp; rfl)) (by (with_reducible repeat (first | refine blk_drewN ?_ _ | refine blk_drew ?_ | refine blk_alloc ?_ _)); exact BK226.out) ?_; intro w27 hbk_ hg; have n0_ := Aside0.mk (blk_grown (g := gb224) (o := .cells (Ar.cells .u32 8 a0) 60 (0, 0)) (by (with_reducible repeat (first | refine blk_drewN ?_ _ | refine blk_drew ?_ | refine blk_alloc ?_ _)); exact BK224.out) hg (fun e_ => NB224_226.out (Option.some.inj e_))); have n1_ := Aside0.mk (blk_grown (g := gb225) (o := .cells (Ar.cells .u8 64 a1) 39 (0, 0)) (by (with_reducible repeat (first | refine blk_drewN ?_ _ | refine blk_drew ?_ | refine blk_alloc ?_ _)); exact BK225.out) hg (fun e_ => NB225_226.out (Option.some.inj e_))); have n2_ := Aside0.mk (blk_grown (g := gb228) (o := .cells (Ar.cells .u32 64 t227) 42 (0, 0)) (by (with_reducible repeat (first | refine blk_drewN ?_ _ | refine blk_drew ?_ | refine blk_alloc ?_ _)); exact BK228.out) hg (fun e_ => NB228_226.out (Option.some.inj e_))); have n3_ := Aside0.mk (blk_grown (g := gb229) (o := .cells (Ar.cells .u32 8 x230000_2) 60 (0, 0)) (by (with_reducible repeat (first | refine blk_drewN ?_ _ | refine blk_drew ?_ | refine blk_alloc ?_ _)); exact BK229.out) hg (fun e_ => NB229_226.out (Option.some.inj e_))); have n4_ := Aside0.mk (hbk_); have n5_ := Aside0.mk (Below.grown (by repeat (first | (with_reducible first | exact HB.out | apply below_alloc | apply pw_below_drewN | apply below_drew1 | refine below_set ?_ GE224.out | refine below_set ?_ GE225.out | refine below_set ?_ GE226.out | refine below_set ?_ GE228.out | refine below_set ?_ GE229.out) | exact HB.out)) hg ((below_size (by repeat (first | (with_reducible first | exact HB.out | apply below_alloc | apply pw_below_drewN | apply below_drew1 | refine below_set ?_ GE224.out | refine below_set ?_ GE225.out | refine below_set ?_ GE226.out | refine below_set ?_ GE228.out | refine below_set ?_ GE229.out) | exact HB.out)))) (fun _ e_ => by cases e_; exact GE226.out)); clear BK224; clear BK225; clear BK228; clear BK229; clear BK226; clear HB; have BK224 := n0_; have BK225 := n1_; have BK228 := n2_; have BK229 := n3_; have BK226 := n4_; have HB := n5_; clear n0_ n1_ n2_ n3_ n4_ n5_; clear hbk_ hg))
              refine bodyPost_ret (results_cell_row rfl _ _ gb226 60 (Ar.cells .u32 8 x230000_2) (0, 0) _ rfl (by (with_reducible repeat (first | refine blk_drewN ?_ _ | refine blk_drew ?_ | refine blk_alloc ?_ _)); exact BK226.out) Try.underlying60 rfl (by first | (rw [Ar.cells_size]; kernel_rfl) | kernel_rfl)) rfl ?_
              exact ⟨by first | rfl | (simp [errW_none, errW_some] <;> rfl) | (simp [*, errW_none, errW_some] <;> rfl), by repeat (first | (with_reducible first | exact HB.out | apply below_alloc | apply pw_below_drewN | apply below_drew1 | refine below_set ?_ GE224.out | refine below_set ?_ GE225.out | refine below_set ?_ GE226.out | refine below_set ?_ GE228.out | refine below_set ?_ GE229.out) | exact HB.out)⟩

/-! ### drawlotlaw04_prime: function 58 -/
mutual
def drawlotlaw04_prime.l0 : Nat → Int → Int → Option (Int)
  | 0, _, _ => none
  | k + 1, x0, x3 => drawlotlaw04_prime.l1 k x0 x3 true 2
def drawlotlaw04_prime.l1 : Nat → Int → Int → Bool → Int → Option (Int)
  | 0, _, _, _, _ => none
  | k + 1, x0, x3, x4, x5 => if (wrap64 (x5 * x5)) ≤ x3 then (if x4 = true then (if x5 = 0 then (none) else (drawlotlaw04_prime.l1 k x0 x3 ((Int.tmod x3 x5) != 0) (wrap64 (x5 + 1)))) else (drawlotlaw04_prime.l1 k x0 x3 false (wrap64 (x5 + 1)))) else (if x4 = true then (drawlotlaw04_prime.j2 k x0 x3 x4 (x0 == 0)) else (drawlotlaw04_prime.j2 k x0 x3 x4 false))
def drawlotlaw04_prime.j2 : Nat → Int → Int → Bool → Bool → Option (Int)
  | 0, _, _, _, _ => none
  | k + 1, x0, x3, x4, x26 => if x26 = true then (some (IntKind.u64.wrap (x3))) else (if x4 = true then (drawlotlaw04_prime.l0 k (wrap64 (x0 - 1)) (wrap64 (x3 + 1))) else (drawlotlaw04_prime.l0 k x0 (wrap64 (x3 + 1))))
end
def drawlotlaw04_prime.f (k : Nat) (a0 : Int) : Option (Int) := drawlotlaw04_prime.l0 k a0 2
theorem drawlotlaw04_prime.mono_l : ∀ k, (∀ y0 y1, LeO (drawlotlaw04_prime.l0 k y0 y1) (drawlotlaw04_prime.l0 (k + 1) y0 y1)) ∧ (∀ y0 y1 y2 y3, LeO (drawlotlaw04_prime.l1 k y0 y1 y2 y3) (drawlotlaw04_prime.l1 (k + 1) y0 y1 y2 y3)) ∧ (∀ y0 y1 y2 y3, LeO (drawlotlaw04_prime.j2 k y0 y1 y2 y3) (drawlotlaw04_prime.j2 (k + 1) y0 y1 y2 y3))
  | 0 => ⟨fun _ _ r h => by simp [drawlotlaw04_prime.l0] at h, fun _ _ _ _ r h => by simp [drawlotlaw04_prime.l1] at h, fun _ _ _ _ r h => by simp [drawlotlaw04_prime.j2] at h⟩
  | k + 1 => by
    obtain ⟨ih0, ih1, ih2⟩ := drawlotlaw04_prime.mono_l k
    refine ⟨?_, ?_, ?_⟩
    · intro y0 y1
      unfold drawlotlaw04_prime.l0
      repeat' first
      | (with_reducible exact ih0 _ _)
      | (with_reducible exact ih1 _ _ _ _)
      | (with_reducible exact ih2 _ _ _ _)
      | (with_reducible exact LeO.refl _)
      | (with_reducible exact LeO.none _)
      | (with_reducible refine LeO.ite ?_ ?_)
      | (with_reducible refine LeO.bind ?_ (fun _ => ?_))
      | exact ih0 _ _
      | exact ih1 _ _ _ _
      | exact ih2 _ _ _ _
      | exact LeO.none _
      | refine LeO.ite ?_ ?_
      | refine LeO.bind ?_ (fun _ => ?_)
    · intro y0 y1 y2 y3
      unfold drawlotlaw04_prime.l1
      repeat' first
      | (with_reducible exact ih0 _ _)
      | (with_reducible exact ih1 _ _ _ _)
      | (with_reducible exact ih2 _ _ _ _)
      | (with_reducible exact LeO.refl _)
      | (with_reducible exact LeO.none _)
      | (with_reducible refine LeO.ite ?_ ?_)
      | (with_reducible refine LeO.bind ?_ (fun _ => ?_))
      | exact ih0 _ _
      | exact ih1 _ _ _ _
      | exact ih2 _ _ _ _
      | exact LeO.none _
      | refine LeO.ite ?_ ?_
      | refine LeO.bind ?_ (fun _ => ?_)
    · intro y0 y1 y2 y3
      unfold drawlotlaw04_prime.j2
      repeat' first
      | (with_reducible exact ih0 _ _)
      | (with_reducible exact ih1 _ _ _ _)
      | (with_reducible exact ih2 _ _ _ _)
      | (with_reducible exact LeO.refl _)
      | (with_reducible exact LeO.none _)
      | (with_reducible refine LeO.ite ?_ ?_)
      | (with_reducible refine LeO.bind ?_ (fun _ => ?_))
      | exact ih0 _ _
      | exact ih1 _ _ _ _
      | exact ih2 _ _ _ _
      | exact LeO.none _
      | refine LeO.ite ?_ ?_
      | refine LeO.bind ?_ (fun _ => ?_)
theorem drawlotlaw04_prime.mono : ∀ a0 k, LeO (drawlotlaw04_prime.f k a0) (drawlotlaw04_prime.f (k + 1) a0) := by
  intro a0 k
  obtain ⟨ih0, ih1, ih2⟩ := drawlotlaw04_prime.mono_l k
  unfold drawlotlaw04_prime.f
  repeat' first
      | (with_reducible exact ih0 _ _)
      | (with_reducible exact ih1 _ _ _ _)
      | (with_reducible exact ih2 _ _ _ _)
      | (with_reducible exact LeO.refl _)
      | (with_reducible exact LeO.none _)
      | (with_reducible refine LeO.ite ?_ ?_)
      | (with_reducible refine LeO.bind ?_ (fun _ => ?_))
      | exact ih0 _ _
      | exact ih1 _ _ _ _
      | exact ih2 _ _ _ _
      | exact LeO.none _
      | refine LeO.ite ?_ ?_
      | refine LeO.bind ?_ (fun _ => ?_)
set_option maxHeartbeats 8000000 in
set_option maxRecDepth 100000 in
theorem drawlotlaw04_prime.calls (k : Nat) (a0 : Int) (r : Int) (w : World) (h : drawlotlaw04_prime.f k a0 = some r) :
    Calls Try.prog 58 #[.int .i64 a0] w fun e w' => e = .returned (.int .u64 r) ∧ Drawn0 w w' := by
  have H : (drawlotlaw04_prime.l0 k a0 2) = some r := h
  clear h
  have H' := Aside0.mk H
  clear H
  go_enter Try.func58, Try.ntmps58
  go_wp2
  go_loopg [0, 3] k (fun kq v0 v3 w' => ∃ (x0_1 : Int) (x3_1 : Int), v0 = .int .i64 x0_1 ∧ v3 = .int .i64 x3_1 ∧ Aside0 (drawlotlaw04_prime.l0 kq x0_1 x3_1 = some r) ∧ Aside0 (kq ≤ k) ∧ Drawn0 w w')
  case atStart => exact ⟨(a0), (2), (by first | rfl | (simp; done) | (simp [*]; done)), (by first | rfl | (simp; done) | (simp [*]; done)), H', ⟨Nat.le_refl _⟩, by repeat (first | exact Drawn0.refl _ | apply Drawn0.step)⟩
  case round =>
    clear H'
    obtain ⟨x0_1, x3_1, rfl, rfl, HA, HK1, ⟨m1, rfl⟩⟩ := hrel
    cases gk with
    | zero => exact absurd HA.out (by simp [drawlotlaw04_prime.l0])
    | succ k1 =>
      have H := HA.out
      clear HA
      simp only [drawlotlaw04_prime.l0] at H
      have H' := Aside0.mk H
      clear H
      go_wp2
      go_loopg [4, 5] k1 (fun kq v4 v5 w' => ∃ (x4_2 : Bool) (x5_2 : Int), v4 = .bool x4_2 ∧ v5 = .int .i64 x5_2 ∧ Aside0 (drawlotlaw04_prime.l1 kq x0_1 x3_1 x4_2 x5_2 = some r) ∧ Aside0 (kq ≤ k1) ∧ Drawn0 w w')
      case atStart => exact ⟨(true), (2), (by first | rfl | (simp; done) | (simp [*]; done)), (by first | rfl | (simp; done) | (simp [*]; done)), H', ⟨Nat.le_refl _⟩, by repeat (first | exact Drawn0.refl _ | apply Drawn0.step)⟩
      case round =>
        clear H'
        obtain ⟨x4_2, x5_2, rfl, rfl, HA, HK2, ⟨m2, rfl⟩⟩ := hrel
        cases gk with
        | zero => exact absurd HA.out (by simp [drawlotlaw04_prime.l1])
        | succ k2 =>
          have H := HA.out
          clear HA
          simp only [drawlotlaw04_prime.l1] at H
          by_cases c2 : (wrap64 (x5_2 * x5_2)) ≤ x3_1
          · rw [if_pos c2] at H
            have c2b0 : decide ((wrap64 (x5_2 * x5_2)) ≤ x3_1) = true := decide_eq_true c2
            clear c2
            by_cases c3 : x4_2 = true
            · subst c3
              have H1 : (if x5_2 = 0 then (none) else (drawlotlaw04_prime.l1 k2 x0_1 x3_1 ((Int.tmod x3_1 x5_2) != 0) (wrap64 (x5_2 + 1)))) = some r := by rw [if_pos rfl] at H; exact H
              clear H
              have H := H1
              clear H1
              by_cases c4 : x5_2 = 0
              · rw [if_pos c4] at H
                exact absurd H (by simp)
              · rw [if_neg c4] at H
                have c4b0 : (x5_2 == 0) = false := beq_eq_false_iff_ne.mpr c4
                have c4b1 : (x5_2 != 0) = true := bne_iff_ne.mpr c4
                have H' := Aside0.mk H
                clear H
                go_wp2
                go_roundg k2
                case measure => have := HK1.out; have := HK2.out; omega
                case rel => exact ⟨(((Int.tmod x3_1 x5_2) != 0)), (wrap64 (x5_2 + 1)), (by first | rfl | (simp; done) | (simp [*]; done)), (by first | rfl | (simp; done) | (simp [*]; done)), H', ⟨by have := HK1.out; have := HK2.out; omega⟩, by repeat (first | exact Drawn0.refl _ | apply Drawn0.step)⟩
            · replace c3 := Bool.eq_false_iff.mpr c3
              subst c3
              have H1 : (drawlotlaw04_prime.l1 k2 x0_1 x3_1 false (wrap64 (x5_2 + 1))) = some r := by rw [if_neg (show ¬ (false = true) by decide)] at H; exact H
              clear H
              have H := H1
              clear H1
              have H' := Aside0.mk H
              clear H
              go_wp2
              go_roundg k2
              case measure => have := HK1.out; have := HK2.out; omega
              case rel => exact ⟨(false), (wrap64 (x5_2 + 1)), (by first | rfl | (simp; done) | (simp [*]; done)), (by first | rfl | (simp; done) | (simp [*]; done)), H', ⟨by have := HK1.out; have := HK2.out; omega⟩, by repeat (first | exact Drawn0.refl _ | apply Drawn0.step)⟩
          · rw [if_neg c2] at H
            have c2b0 : decide ((wrap64 (x5_2 * x5_2)) ≤ x3_1) = false := decide_eq_false c2
            clear c2
            have HC5 := Aside0.mk H
            clear H
            go_upto_region 8 with (fail)
            go_cut [26] (fun v26 wc => ∃ (kq : Nat) (x26_4 : Bool), v26 = .bool x26_4 ∧ Aside0 (drawlotlaw04_prime.j2 kq x0_1 x3_1 x4_2 x26_4 = some r) ∧ Aside0 (kq ≤ k2) ∧ Drawn0 w wc)
            case first =>
              have H := HC5.out
              clear HC5
              by_cases c6 : x4_2 = true
              · subst c6
                have H1 : (drawlotlaw04_prime.j2 k2 x0_1 x3_1 true (x0_1 == 0)) = some r := by rw [if_pos rfl] at H; exact H
                clear H
                have H := H1
                clear H1
                have H' := Aside0.mk H
                clear H
                go_wp2
                go_meet
                case rel => exact ⟨_, ((x0_1 == 0)), (by first | rfl | (simp; done) | (simp [*]; done)), H', ⟨by have := HK1.out; have := HK2.out; first | omega | exact Nat.le_refl _⟩, by repeat (first | exact Drawn0.refl _ | apply Drawn0.step)⟩
              · replace c6 := Bool.eq_false_iff.mpr c6
                subst c6
                have H1 : (drawlotlaw04_prime.j2 k2 x0_1 x3_1 false false) = some r := by rw [if_neg (show ¬ (false = true) by decide)] at H; exact H
                clear H
                have H := H1
                clear H1
                have H' := Aside0.mk H
                clear H
                go_wp2
                go_meet
                case rel => exact ⟨_, (false), (by first | rfl | (simp; done) | (simp [*]; done)), H', ⟨by have := HK1.out; have := HK2.out; first | omega | exact Nat.le_refl _⟩, by repeat (first | exact Drawn0.refl _ | apply Drawn0.step)⟩
            case rest =>
              clear HC5
              try clear c2
              try clear c2b0
              try clear p2
              try clear c3
              try clear c4
              try clear c4b0
              try clear c4b1
              try clear c5
              try clear c6
              try clear p6
              obtain ⟨kq, x26_4, rfl, HA, HJ4, ⟨mc4, rfl⟩⟩ := hcut
              cases kq with
              | zero => exact absurd HA.out (by simp [drawlotlaw04_prime.j2])
              | succ kj4 =>
                have H := HA.out
                clear HA
                simp only [drawlotlaw04_prime.j2] at H
                by_cases c7 : x26_4 = true
                · subst c7
                  have H1 : (some (IntKind.u64.wrap (x3_1))) = some r := by rw [if_pos rfl] at H; exact H
                  clear H
                  have H := H1
                  clear H1
                  obtain rfl := Option.some.inj H
                  go_wp2
                  go_ret
                  exact ⟨by first | rfl | (simp; done) | (simp [*]; done), by repeat (first | exact Drawn0.refl _ | apply Drawn0.step)⟩
                · replace c7 := Bool.eq_false_iff.mpr c7
                  subst c7
                  have H1 : (if x4_2 = true then (drawlotlaw04_prime.l0 kj4 (wrap64 (x0_1 - 1)) (wrap64 (x3_1 + 1))) else (drawlotlaw04_prime.l0 kj4 x0_1 (wrap64 (x3_1 + 1)))) = some r := by rw [if_neg (show ¬ (false = true) by decide)] at H; exact H
                  clear H
                  have H := H1
                  clear H1
                  by_cases c8 : x4_2 = true
                  · subst c8
                    have H1 : (drawlotlaw04_prime.l0 kj4 (wrap64 (x0_1 - 1)) (wrap64 (x3_1 + 1))) = some r := by rw [if_pos rfl] at H; exact H
                    clear H
                    have H := H1
                    clear H1
                    have H' := Aside0.mk H
                    clear H
                    go_wp2
                    go_roundg kj4
                    case measure => have := HK1.out; have := HK2.out; have := HJ4.out; omega
                    case rel => exact ⟨(wrap64 (x0_1 - 1)), (wrap64 (x3_1 + 1)), (by first | rfl | (simp; done) | (simp [*]; done)), (by first | rfl | (simp; done) | (simp [*]; done)), H', ⟨by have := HK1.out; have := HK2.out; have := HJ4.out; omega⟩, by repeat (first | exact Drawn0.refl _ | apply Drawn0.step)⟩
                  · replace c8 := Bool.eq_false_iff.mpr c8
                    subst c8
                    have H1 : (drawlotlaw04_prime.l0 kj4 x0_1 (wrap64 (x3_1 + 1))) = some r := by rw [if_neg (show ¬ (false = true) by decide)] at H; exact H
                    clear H
                    have H := H1
                    clear H1
                    have H' := Aside0.mk H
                    clear H
                    go_wp2
                    go_roundg kj4
                    case measure => have := HK1.out; have := HK2.out; have := HJ4.out; omega
                    case rel => exact ⟨(x0_1), (wrap64 (x3_1 + 1)), (by first | rfl | (simp; done) | (simp [*]; done)), (by first | rfl | (simp; done) | (simp [*]; done)), H', ⟨by have := HK1.out; have := HK2.out; have := HJ4.out; omega⟩, by repeat (first | exact Drawn0.refl _ | apply Drawn0.step)⟩

end Go.Proofs.Ytpkdpdbcgbeakaa.PC
