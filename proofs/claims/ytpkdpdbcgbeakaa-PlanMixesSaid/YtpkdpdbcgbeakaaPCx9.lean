/- Written by xprint.py, this session's own driver, for the seat Ytpkdpdbcgbeakaa: contracts of Go functions, each saying that a call answers what a plain Lean function of the same name says, and, in a text named Law, the row of a law: its Go function answers true for every input. No conditions. -/
import Derived.Test.YtpkdpdbcgbeakaaPCx0
import Derived.Test.YtpkdpdbcgbeakaaPCx1
import Derived.Test.YtpkdpdbcgbeakaaPCx2
import Derived.Test.YtpkdpdbcgbeakaaPCx3
namespace Go.Proofs.Ytpkdpdbcgbeakaa.PC
open Go.RowKit Go.Proofs.YtpkdpdbcgbeakaaW.PrintWords Go.Proofs.YtpkdpdbcgbeakaaW.PrintLast Go.Proofs.YtpkdpdbcgbeakaaW.PrintMore
attribute [local go_sem] max2_int min2_int max_two min_two max_three min_three max_four min_four   -- for this text's walks alone
set_option linter.unusedVariables false
set_option linter.unusedSimpArgs false

/-! ### drawlotlaw03_PlanMixes: function 7 -/
def drawlotlaw03_PlanMixes.f (k : Nat) (a0 : Int) : Option (Bool) := (drawlotlaw03_alive.f k).bind fun t136 => (if t136 = true then ((plan_First.f a0).bind fun t137 => ((drawlotref03_First.f k a0).bind fun t138 => (if t137 = t138 then ((plan_Second.f a0).bind fun t139 => ((drawlotref03_Second.f k a0).bind fun t140 => (some (t139 == t140)))) else (none)))) else (none))
theorem drawlotlaw03_PlanMixes.mono : ∀ a0 k, LeO (drawlotlaw03_PlanMixes.f k a0) (drawlotlaw03_PlanMixes.f (k + 1) a0) := by
  intro a0 k
  unfold drawlotlaw03_PlanMixes.f
  repeat' first
      | (with_reducible exact drawlotlaw03_alive.mono _)
      | (with_reducible exact drawlotref03_First.mono _ _)
      | (with_reducible exact drawlotref03_Second.mono _ _)
      | (with_reducible exact LeO.refl _)
      | (with_reducible exact LeO.none _)
      | (with_reducible refine LeO.ite ?_ ?_)
      | (with_reducible refine LeO.bind ?_ (fun _ => ?_))
      | exact drawlotlaw03_alive.mono _
      | exact drawlotref03_First.mono _ _
      | exact drawlotref03_Second.mono _ _
      | exact LeO.none _
      | refine LeO.ite ?_ ?_
      | refine LeO.bind ?_ (fun _ => ?_)
set_option maxHeartbeats 8000000 in
set_option maxRecDepth 100000 in
theorem drawlotlaw03_PlanMixes.calls (k : Nat) (a0 : Int) (r : Bool) (w : World) (h : drawlotlaw03_PlanMixes.f k a0 = some r) :
    Calls Try.prog 7 #[.int .u32 a0] w fun e w' => e = .returned (.bool r) ∧ Below w.heap.size w w' := by
  have HB := Aside0.mk (Below.refl w.heap.size w)
  have H : ((drawlotlaw03_alive.f k).bind fun t136 => (if t136 = true then ((plan_First.f a0).bind fun t137 => ((drawlotref03_First.f k a0).bind fun t138 => (if t137 = t138 then ((plan_Second.f a0).bind fun t139 => ((drawlotref03_Second.f k a0).bind fun t140 => (some (t139 == t140)))) else (none)))) else (none))) = some r := h
  clear h
  replace H := Option.bind_eq_some_iff.mp H
  obtain ⟨t136, A20, H⟩ := H
  replace H : (if t136 = true then ((plan_First.f a0).bind fun t137 => ((drawlotref03_First.f k a0).bind fun t138 => (if t137 = t138 then ((plan_Second.f a0).bind fun t139 => ((drawlotref03_Second.f k a0).bind fun t140 => (some (t139 == t140)))) else (none)))) else (none)) = some r := H
  have A2 := Aside0.mk A20
  clear A20
  by_cases c3 : t136 = true
  · subst c3
    have H1 : ((plan_First.f a0).bind fun t137 => ((drawlotref03_First.f k a0).bind fun t138 => (if t137 = t138 then ((plan_Second.f a0).bind fun t139 => ((drawlotref03_Second.f k a0).bind fun t140 => (some (t139 == t140)))) else (none)))) = some r := by rw [if_pos rfl] at H; exact H
    clear H
    have H := H1
    clear H1
    replace H := Option.bind_eq_some_iff.mp H
    obtain ⟨t137, A40, H⟩ := H
    replace H : ((drawlotref03_First.f k a0).bind fun t138 => (if t137 = t138 then ((plan_Second.f a0).bind fun t139 => ((drawlotref03_Second.f k a0).bind fun t140 => (some (t139 == t140)))) else (none))) = some r := H
    have A4 := Aside0.mk A40
    clear A40
    replace H := Option.bind_eq_some_iff.mp H
    obtain ⟨t138, A50, H⟩ := H
    replace H : (if t137 = t138 then ((plan_Second.f a0).bind fun t139 => ((drawlotref03_Second.f k a0).bind fun t140 => (some (t139 == t140)))) else (none)) = some r := H
    have A5 := Aside0.mk A50
    clear A50
    by_cases c6 : t137 = t138
    · rw [if_pos c6] at H
      have c6b0 : (t137 == t138) = true := beq_iff_eq.mpr c6
      have c6b1 : (t137 != t138) = false := bne_eq_false_iff_eq.mpr c6
      clear c6
      replace H := Option.bind_eq_some_iff.mp H
      obtain ⟨t139, A70, H⟩ := H
      replace H : ((drawlotref03_Second.f k a0).bind fun t140 => (some (t139 == t140))) = some r := H
      have A7 := Aside0.mk A70
      clear A70
      replace H := Option.bind_eq_some_iff.mp H
      obtain ⟨t140, A80, H⟩ := H
      replace H : (some (t139 == t140)) = some r := H
      have A8 := Aside0.mk A80
      clear A80
      obtain rfl := Option.some.inj H
      go_enter Try.func7, Try.ntmps7
      go_wp2_with (first | ((with_reducible refine gate_callee (f := 34) rfl ?_); refine goesL_ (some 3) rfl rfl Try.func34 (by kernel_rfl) rfl #[] rfl (by (try simp only [List.map_toArray, List.map_cons, List.map_nil]); first | done | rfl | (simp only [List.length_drop, List.length_take]; rfl)) ?_; (with_reducible refine (drawlotlaw03_alive.calls k  true _ A2.out).mono ?_); rintro e w9 ⟨rfl, hb⟩; refine ⟨_, rfl, ?_⟩; have n0_ := Aside0.mk (below_step (by repeat (first | (with_reducible first | exact HB.out | apply below_alloc | apply pw_below_drewN | apply below_drew1) | exact HB.out)) hb); clear HB; have HB := n0_; clear n0_; (try clear hb); (try clear hb2); (try clear hk); (try clear hi)) | ((with_reducible refine gate_callee (f := 35) rfl ?_); refine goesL_ (some 6) rfl rfl Try.func35 (by kernel_rfl) rfl #[.int .u32 a0] rfl (by (try simp only [List.map_toArray, List.map_cons, List.map_nil]); first | done | rfl | (simp only [List.length_drop, List.length_take]; rfl)) ?_; (with_reducible refine (plan_First.calls a0 t137 _ A4.out).mono ?_); rintro e w10 ⟨rfl, hb⟩; refine ⟨_, rfl, ?_⟩; have n0_ := Aside0.mk (below_step (by repeat (first | (with_reducible first | exact HB.out | apply below_alloc | apply pw_below_drewN | apply below_drew1) | exact HB.out)) hb); clear HB; have HB := n0_; clear n0_; (try clear hb); (try clear hb2); (try clear hk); (try clear hi)) | ((with_reducible refine gate_callee (f := 36) rfl ?_); refine goesL_ (some 8) rfl rfl Try.func36 (by kernel_rfl) rfl #[.int .u32 a0] rfl (by (try simp only [List.map_toArray, List.map_cons, List.map_nil]); first | done | rfl | (simp only [List.length_drop, List.length_take]; rfl)) ?_; (with_reducible refine (drawlotref03_First.calls k a0 t138 _ A5.out).mono ?_); rintro e w' ⟨rfl, ⟨nd, rfl⟩⟩; refine ⟨_, rfl, ?_⟩) | (go_at_call 37; (with_reducible refine (plan_Second.calls a0 t139 _ A7.out).mono ?_); rintro e w11 ⟨rfl, hb⟩; have n0_ := Aside0.mk (below_step (by repeat (first | (with_reducible first | exact HB.out | apply below_alloc | apply pw_below_drewN | apply below_drew1) | exact HB.out)) hb); clear HB; have HB := n0_; clear n0_; (try clear hb); (try clear hb2); (try clear hk); (try clear hi)) | (go_at_call 38; (with_reducible refine (drawlotref03_Second.calls k a0 t140 _ A8.out).mono ?_); rintro e w' ⟨rfl, ⟨nd, rfl⟩⟩))
      go_ret
      exact ⟨by first | rfl | (simp [errW_none, errW_some] <;> rfl) | (simp [*, errW_none, errW_some] <;> rfl), by repeat (first | (with_reducible first | exact HB.out | apply below_alloc | apply pw_below_drewN | apply below_drew1) | exact HB.out)⟩
    · rw [if_neg c6] at H
      exact absurd H (by simp)
  · replace c3 := Bool.eq_false_iff.mpr c3
    subst c3
    have H1 : (none) = some r := by rw [if_neg (show ¬ (false = true) by decide)] at H; exact H
    clear H
    have H := H1
    clear H1
    exact absurd H (by simp)

/-- THE ONE PURE STATEMENT of drawlotlaw03_PlanMixes: yours. -/
def drawlotlaw03_PlanMixes.Pure : Prop := ∀ (a0 : Int), (Lit.int .u32 a0).wf = true → ∃ k, drawlotlaw03_PlanMixes.f k a0 = some true
theorem drawlotlaw03_PlanMixes.walk (P : drawlotlaw03_PlanMixes.Pure) (a0 : Int) (w : World) (w0 : (Lit.int .u32 a0).wf = true) :
    Calls Try.prog 7 #[.int .u32 a0] w fun e w' => e = .returned (.bool true) ∧ Below w.heap.size w w' := by
  obtain ⟨k, h⟩ := P a0 w0
  refine (drawlotlaw03_PlanMixes.calls k a0 true w h).mono ?_
  rintro e w' ⟨rfl, hd⟩
  exact ⟨rfl, hd⟩

end Go.Proofs.Ytpkdpdbcgbeakaa.PC
