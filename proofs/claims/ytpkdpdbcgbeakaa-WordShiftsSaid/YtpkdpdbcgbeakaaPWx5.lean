/- Written by xprint.py, this session's own driver, for the seat Ytpkdpdbcgbeakaa: contracts of Go functions, each saying that a call answers what a plain Lean function of the same name says, and, in a text named Law, the row of a law: its Go function answers true for every input. No conditions. -/
import Derived.Test.YtpkdpdbcgbeakaaPWx0
import Derived.Test.YtpkdpdbcgbeakaaPWx1
import Derived.Test.YtpkdpdbcgbeakaaPWx2
namespace Go.Proofs.Ytpkdpdbcgbeakaa.PW
open Go.RowKit Go.Proofs.YtpkdpdbcgbeakaaW.PrintWords Go.Proofs.YtpkdpdbcgbeakaaW.PrintLast Go.Proofs.YtpkdpdbcgbeakaaW.PrintMore
attribute [local go_sem] max2_int min2_int max_two min_two max_three min_three max_four min_four   -- for this text's walks alone
set_option linter.unusedVariables false
set_option linter.unusedSimpArgs false

/-! ### drawlotlaw01_WordShifts: function 3 -/
def drawlotlaw01_WordShifts.f (k : Nat) (a0 : Int) (a1 : Int) : Option (Bool) := (drawlotlaw01_alive.f k).bind fun t118 => (if t118 = true then ((word_Left.f a0 a1).bind fun t119 => ((drawlotref01_Left.f k a0 a1).bind fun t120 => (if t119 = t120 then ((word_Right.f a0 a1).bind fun t121 => ((drawlotref01_Right.f k a0 a1).bind fun t122 => (if t121 = t122 then ((word_Rotate.f a0 a1).bind fun t123 => ((drawlotref01_Rotate.f k a0 a1).bind fun t124 => (some (t123 == t124)))) else (none)))) else (none)))) else (none))
theorem drawlotlaw01_WordShifts.mono : ∀ a0 a1 k, LeO (drawlotlaw01_WordShifts.f k a0 a1) (drawlotlaw01_WordShifts.f (k + 1) a0 a1) := by
  intro a0 a1 k
  unfold drawlotlaw01_WordShifts.f
  repeat' first
      | (with_reducible exact drawlotlaw01_alive.mono _)
      | (with_reducible exact drawlotref01_Left.mono _ _ _)
      | (with_reducible exact drawlotref01_Right.mono _ _ _)
      | (with_reducible exact drawlotref01_Rotate.mono _ _ _)
      | (with_reducible exact LeO.refl _)
      | (with_reducible exact LeO.none _)
      | (with_reducible refine LeO.ite ?_ ?_)
      | (with_reducible refine LeO.bind ?_ (fun _ => ?_))
      | exact drawlotlaw01_alive.mono _
      | exact drawlotref01_Left.mono _ _ _
      | exact drawlotref01_Right.mono _ _ _
      | exact drawlotref01_Rotate.mono _ _ _
      | exact LeO.none _
      | refine LeO.ite ?_ ?_
      | refine LeO.bind ?_ (fun _ => ?_)
set_option maxHeartbeats 8000000 in
set_option maxRecDepth 100000 in
theorem drawlotlaw01_WordShifts.calls (k : Nat) (a0 : Int) (a1 : Int) (r : Bool) (w : World) (h : drawlotlaw01_WordShifts.f k a0 a1 = some r) :
    Calls Try.prog 3 #[.int .u32 a0, .int .i64 a1] w fun e w' => e = .returned (.bool r) ∧ Below w.heap.size w w' := by
  have HB := Aside0.mk (Below.refl w.heap.size w)
  have H : ((drawlotlaw01_alive.f k).bind fun t118 => (if t118 = true then ((word_Left.f a0 a1).bind fun t119 => ((drawlotref01_Left.f k a0 a1).bind fun t120 => (if t119 = t120 then ((word_Right.f a0 a1).bind fun t121 => ((drawlotref01_Right.f k a0 a1).bind fun t122 => (if t121 = t122 then ((word_Rotate.f a0 a1).bind fun t123 => ((drawlotref01_Rotate.f k a0 a1).bind fun t124 => (some (t123 == t124)))) else (none)))) else (none)))) else (none))) = some r := h
  clear h
  replace H := Option.bind_eq_some_iff.mp H
  obtain ⟨t118, A30, H⟩ := H
  replace H : (if t118 = true then ((word_Left.f a0 a1).bind fun t119 => ((drawlotref01_Left.f k a0 a1).bind fun t120 => (if t119 = t120 then ((word_Right.f a0 a1).bind fun t121 => ((drawlotref01_Right.f k a0 a1).bind fun t122 => (if t121 = t122 then ((word_Rotate.f a0 a1).bind fun t123 => ((drawlotref01_Rotate.f k a0 a1).bind fun t124 => (some (t123 == t124)))) else (none)))) else (none)))) else (none)) = some r := H
  have A3 := Aside0.mk A30
  clear A30
  by_cases c4 : t118 = true
  · subst c4
    have H1 : ((word_Left.f a0 a1).bind fun t119 => ((drawlotref01_Left.f k a0 a1).bind fun t120 => (if t119 = t120 then ((word_Right.f a0 a1).bind fun t121 => ((drawlotref01_Right.f k a0 a1).bind fun t122 => (if t121 = t122 then ((word_Rotate.f a0 a1).bind fun t123 => ((drawlotref01_Rotate.f k a0 a1).bind fun t124 => (some (t123 == t124)))) else (none)))) else (none)))) = some r := by rw [if_pos rfl] at H; exact H
    clear H
    have H := H1
    clear H1
    replace H := Option.bind_eq_some_iff.mp H
    obtain ⟨t119, A50, H⟩ := H
    replace H : ((drawlotref01_Left.f k a0 a1).bind fun t120 => (if t119 = t120 then ((word_Right.f a0 a1).bind fun t121 => ((drawlotref01_Right.f k a0 a1).bind fun t122 => (if t121 = t122 then ((word_Rotate.f a0 a1).bind fun t123 => ((drawlotref01_Rotate.f k a0 a1).bind fun t124 => (some (t123 == t124)))) else (none)))) else (none))) = some r := H
    have A5 := Aside0.mk A50
    clear A50
    replace H := Option.bind_eq_some_iff.mp H
    obtain ⟨t120, A60, H⟩ := H
    replace H : (if t119 = t120 then ((word_Right.f a0 a1).bind fun t121 => ((drawlotref01_Right.f k a0 a1).bind fun t122 => (if t121 = t122 then ((word_Rotate.f a0 a1).bind fun t123 => ((drawlotref01_Rotate.f k a0 a1).bind fun t124 => (some (t123 == t124)))) else (none)))) else (none)) = some r := H
    have A6 := Aside0.mk A60
    clear A60
    by_cases c7 : t119 = t120
    · rw [if_pos c7] at H
      have c7b0 : (t119 == t120) = true := beq_iff_eq.mpr c7
      have c7b1 : (t119 != t120) = false := bne_eq_false_iff_eq.mpr c7
      clear c7
      replace H := Option.bind_eq_some_iff.mp H
      obtain ⟨t121, A80, H⟩ := H
      replace H : ((drawlotref01_Right.f k a0 a1).bind fun t122 => (if t121 = t122 then ((word_Rotate.f a0 a1).bind fun t123 => ((drawlotref01_Rotate.f k a0 a1).bind fun t124 => (some (t123 == t124)))) else (none))) = some r := H
      have A8 := Aside0.mk A80
      clear A80
      replace H := Option.bind_eq_some_iff.mp H
      obtain ⟨t122, A90, H⟩ := H
      replace H : (if t121 = t122 then ((word_Rotate.f a0 a1).bind fun t123 => ((drawlotref01_Rotate.f k a0 a1).bind fun t124 => (some (t123 == t124)))) else (none)) = some r := H
      have A9 := Aside0.mk A90
      clear A90
      by_cases c10 : t121 = t122
      · rw [if_pos c10] at H
        have c10b0 : (t121 == t122) = true := beq_iff_eq.mpr c10
        have c10b1 : (t121 != t122) = false := bne_eq_false_iff_eq.mpr c10
        clear c10
        replace H := Option.bind_eq_some_iff.mp H
        obtain ⟨t123, A110, H⟩ := H
        replace H : ((drawlotref01_Rotate.f k a0 a1).bind fun t124 => (some (t123 == t124))) = some r := H
        have A11 := Aside0.mk A110
        clear A110
        replace H := Option.bind_eq_some_iff.mp H
        obtain ⟨t124, A120, H⟩ := H
        replace H : (some (t123 == t124)) = some r := H
        have A12 := Aside0.mk A120
        clear A120
        obtain rfl := Option.some.inj H
        go_enter Try.func3, Try.ntmps3
        go_wp2_with (first | ((with_reducible refine gate_callee (f := 17) rfl ?_); refine goesL_ (some 5) rfl rfl Try.func17 (by kernel_rfl) rfl #[] rfl (by (try simp only [List.map_toArray, List.map_cons, List.map_nil]); first | done | rfl | (simp only [List.length_drop, List.length_take]; rfl)) ?_; (with_reducible refine (drawlotlaw01_alive.calls k  true _ A3.out).mono ?_); rintro e w13 ⟨rfl, hb⟩; refine ⟨_, rfl, ?_⟩; have n0_ := Aside0.mk (below_step (by repeat (first | (with_reducible first | exact HB.out | apply below_alloc | apply pw_below_drewN | apply below_drew1) | exact HB.out)) hb); clear HB; have HB := n0_; clear n0_; (try clear hb); (try clear hb2); (try clear hk); (try clear hi)) | ((with_reducible refine gate_callee (f := 18) rfl ?_); refine goesL_ (some 9) rfl rfl Try.func18 (by kernel_rfl) rfl #[.int .u32 a0, .int .i64 a1] rfl (by (try simp only [List.map_toArray, List.map_cons, List.map_nil]); first | done | rfl | (simp only [List.length_drop, List.length_take]; rfl)) ?_; (with_reducible refine (word_Left.calls a0 a1 t119 _ A5.out).mono ?_); rintro e w14 ⟨rfl, hb⟩; refine ⟨_, rfl, ?_⟩; have n0_ := Aside0.mk (below_step (by repeat (first | (with_reducible first | exact HB.out | apply below_alloc | apply pw_below_drewN | apply below_drew1) | exact HB.out)) hb); clear HB; have HB := n0_; clear n0_; (try clear hb); (try clear hb2); (try clear hk); (try clear hi)) | ((with_reducible refine gate_callee (f := 19) rfl ?_); refine goesL_ (some 12) rfl rfl Try.func19 (by kernel_rfl) rfl #[.int .u32 a0, .int .i64 a1] rfl (by (try simp only [List.map_toArray, List.map_cons, List.map_nil]); first | done | rfl | (simp only [List.length_drop, List.length_take]; rfl)) ?_; (with_reducible refine (drawlotref01_Left.calls k a0 a1 t120 _ A6.out).mono ?_); rintro e w' ⟨rfl, ⟨nd, rfl⟩⟩; refine ⟨_, rfl, ?_⟩) | (go_at_call 20; (with_reducible refine (word_Right.calls a0 a1 t121 _ A8.out).mono ?_); rintro e w15 ⟨rfl, hb⟩; have n0_ := Aside0.mk (below_step (by repeat (first | (with_reducible first | exact HB.out | apply below_alloc | apply pw_below_drewN | apply below_drew1) | exact HB.out)) hb); clear HB; have HB := n0_; clear n0_; (try clear hb); (try clear hb2); (try clear hk); (try clear hi)) | (go_at_call 21; (with_reducible refine (drawlotref01_Right.calls k a0 a1 t122 _ A9.out).mono ?_); rintro e w' ⟨rfl, ⟨nd, rfl⟩⟩) | (go_at_call 22; (with_reducible refine (word_Rotate.calls a0 a1 t123 _ A11.out).mono ?_); rintro e w' ⟨rfl, ⟨nd, rfl⟩⟩) | (go_at_call 23; (with_reducible refine (drawlotref01_Rotate.calls k a0 a1 t124 _ A12.out).mono ?_); rintro e w' ⟨rfl, ⟨nd, rfl⟩⟩))
        go_ret
        exact ⟨by first | rfl | (simp [errW_none, errW_some] <;> rfl) | (simp [*, errW_none, errW_some] <;> rfl), by repeat (first | (with_reducible first | exact HB.out | apply below_alloc | apply pw_below_drewN | apply below_drew1) | exact HB.out)⟩
      · rw [if_neg c10] at H
        exact absurd H (by simp)
    · rw [if_neg c7] at H
      exact absurd H (by simp)
  · replace c4 := Bool.eq_false_iff.mpr c4
    subst c4
    have H1 : (none) = some r := by rw [if_neg (show ¬ (false = true) by decide)] at H; exact H
    clear H
    have H := H1
    clear H1
    exact absurd H (by simp)

/-- THE ONE PURE STATEMENT of drawlotlaw01_WordShifts: yours. -/
def drawlotlaw01_WordShifts.Pure : Prop := ∀ (a0 : Int) (a1 : Int), (Lit.int .u32 a0).wf = true → (Lit.int .i64 a1).wf = true → ∃ k, drawlotlaw01_WordShifts.f k a0 a1 = some true
theorem drawlotlaw01_WordShifts.walk (P : drawlotlaw01_WordShifts.Pure) (a0 : Int) (a1 : Int) (w : World) (w0 : (Lit.int .u32 a0).wf = true) (w1 : (Lit.int .i64 a1).wf = true) :
    Calls Try.prog 3 #[.int .u32 a0, .int .i64 a1] w fun e w' => e = .returned (.bool true) ∧ Below w.heap.size w w' := by
  obtain ⟨k, h⟩ := P a0 a1 w0 w1
  refine (drawlotlaw01_WordShifts.calls k a0 a1 true w h).mono ?_
  rintro e w' ⟨rfl, hd⟩
  exact ⟨rfl, hd⟩

end Go.Proofs.Ytpkdpdbcgbeakaa.PW
