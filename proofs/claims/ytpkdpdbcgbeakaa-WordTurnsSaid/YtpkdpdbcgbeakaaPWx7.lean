/- Written by xprint.py, this session's own driver, for the seat Ytpkdpdbcgbeakaa: contracts of Go functions, each saying that a call answers what a plain Lean function of the same name says, and, in a text named Law, the row of a law: its Go function answers true for every input. No conditions. -/
import Derived.Test.YtpkdpdbcgbeakaaPWx0
import Derived.Test.YtpkdpdbcgbeakaaPWx1
namespace Go.Proofs.Ytpkdpdbcgbeakaa.PW
open Go.RowKit Go.Proofs.YtpkdpdbcgbeakaaW.PrintWords Go.Proofs.YtpkdpdbcgbeakaaW.PrintLast Go.Proofs.YtpkdpdbcgbeakaaW.PrintMore
attribute [local go_sem] max2_int min2_int max_two min_two max_three min_three max_four min_four   -- for this text's walks alone
set_option linter.unusedVariables false
set_option linter.unusedSimpArgs false

/-! ### drawlotlaw01_WordTurns: function 6 -/
def drawlotlaw01_WordTurns.f (k : Nat) (a0 : Int) (a1 : Int) : Option (Bool) := (drawlotlaw01_alive.f k).bind fun t154 => (if t154 = true then (if (wrap64 (Int.tmod a1 32)) = 0 then ((word_Rotate.f a0 (wrap64 (Int.tmod a1 32))).bind fun t155 => (some (t155 == a0))) else ((word_Rotate.f a0 (wrap64 (Int.tmod a1 32))).bind fun t156 => ((word_Right.f a0 (wrap64 (Int.tmod a1 32))).bind fun t157 => ((word_Left.f a0 (wrap64 (32 - (wrap64 (Int.tmod a1 32))))).bind fun t158 => (some (t156 == ((t157 + t158) % 4294967296))))))) else (none))
theorem drawlotlaw01_WordTurns.mono : ∀ a0 a1 k, LeO (drawlotlaw01_WordTurns.f k a0 a1) (drawlotlaw01_WordTurns.f (k + 1) a0 a1) := by
  intro a0 a1 k
  unfold drawlotlaw01_WordTurns.f
  repeat' first
      | (with_reducible exact drawlotlaw01_alive.mono _)
      | (with_reducible exact LeO.refl _)
      | (with_reducible exact LeO.none _)
      | (with_reducible refine LeO.ite ?_ ?_)
      | (with_reducible refine LeO.bind ?_ (fun _ => ?_))
      | exact drawlotlaw01_alive.mono _
      | exact LeO.none _
      | refine LeO.ite ?_ ?_
      | refine LeO.bind ?_ (fun _ => ?_)
set_option maxHeartbeats 8000000 in
set_option maxRecDepth 100000 in
theorem drawlotlaw01_WordTurns.calls (k : Nat) (a0 : Int) (a1 : Int) (r : Bool) (w : World) (h : drawlotlaw01_WordTurns.f k a0 a1 = some r) :
    Calls Try.prog 6 #[.int .u32 a0, .int .u8 a1] w fun e w' => e = .returned (.bool r) ∧ Below w.heap.size w w' := by
  have HB := Aside0.mk (Below.refl w.heap.size w)
  have H : ((drawlotlaw01_alive.f k).bind fun t154 => (if t154 = true then (if (wrap64 (Int.tmod a1 32)) = 0 then ((word_Rotate.f a0 (wrap64 (Int.tmod a1 32))).bind fun t155 => (some (t155 == a0))) else ((word_Rotate.f a0 (wrap64 (Int.tmod a1 32))).bind fun t156 => ((word_Right.f a0 (wrap64 (Int.tmod a1 32))).bind fun t157 => ((word_Left.f a0 (wrap64 (32 - (wrap64 (Int.tmod a1 32))))).bind fun t158 => (some (t156 == ((t157 + t158) % 4294967296))))))) else (none))) = some r := h
  clear h
  replace H := Option.bind_eq_some_iff.mp H
  obtain ⟨t154, A30, H⟩ := H
  replace H : (if t154 = true then (if (wrap64 (Int.tmod a1 32)) = 0 then ((word_Rotate.f a0 (wrap64 (Int.tmod a1 32))).bind fun t155 => (some (t155 == a0))) else ((word_Rotate.f a0 (wrap64 (Int.tmod a1 32))).bind fun t156 => ((word_Right.f a0 (wrap64 (Int.tmod a1 32))).bind fun t157 => ((word_Left.f a0 (wrap64 (32 - (wrap64 (Int.tmod a1 32))))).bind fun t158 => (some (t156 == ((t157 + t158) % 4294967296))))))) else (none)) = some r := H
  have A3 := Aside0.mk A30
  clear A30
  by_cases c4 : t154 = true
  · subst c4
    have H1 : (if (wrap64 (Int.tmod a1 32)) = 0 then ((word_Rotate.f a0 (wrap64 (Int.tmod a1 32))).bind fun t155 => (some (t155 == a0))) else ((word_Rotate.f a0 (wrap64 (Int.tmod a1 32))).bind fun t156 => ((word_Right.f a0 (wrap64 (Int.tmod a1 32))).bind fun t157 => ((word_Left.f a0 (wrap64 (32 - (wrap64 (Int.tmod a1 32))))).bind fun t158 => (some (t156 == ((t157 + t158) % 4294967296))))))) = some r := by rw [if_pos rfl] at H; exact H
    clear H
    have H := H1
    clear H1
    by_cases c5 : (wrap64 (Int.tmod a1 32)) = 0
    · rw [if_pos c5] at H
      have c5b0 : ((wrap64 (Int.tmod a1 32)) == 0) = true := beq_iff_eq.mpr c5
      have c5b1 : ((wrap64 (Int.tmod a1 32)) != 0) = false := bne_eq_false_iff_eq.mpr c5
      clear c5
      replace H := Option.bind_eq_some_iff.mp H
      obtain ⟨t155, A60, H⟩ := H
      replace H : (some (t155 == a0)) = some r := H
      have A6 := Aside0.mk A60
      clear A60
      obtain rfl := Option.some.inj H
      go_enter Try.func6, Try.ntmps6
      go_wp2_with (first | ((with_reducible refine gate_callee (f := 17) rfl ?_); refine goesL_ (some 6) rfl rfl Try.func17 (by kernel_rfl) rfl #[] rfl (by (try simp only [List.map_toArray, List.map_cons, List.map_nil]); first | done | rfl | (simp only [List.length_drop, List.length_take]; rfl)) ?_; (with_reducible refine (drawlotlaw01_alive.calls k  true _ A3.out).mono ?_); rintro e w7 ⟨rfl, hb⟩; refine ⟨_, rfl, ?_⟩; have n0_ := Aside0.mk (below_step (by repeat (first | (with_reducible first | exact HB.out | apply below_alloc | apply pw_below_drewN | apply below_drew1) | exact HB.out)) hb); clear HB; have HB := n0_; clear n0_; (try clear hb); (try clear hb2); (try clear hk); (try clear hi)) | ((with_reducible refine gate_callee (f := 22) rfl ?_); refine goesL_ (some 15) rfl rfl Try.func22 (by kernel_rfl) rfl #[.int .u32 a0, .int .i64 (wrap64 (Int.tmod a1 32))] rfl (by (try simp only [List.map_toArray, List.map_cons, List.map_nil]); first | done | rfl | (simp only [List.length_drop, List.length_take]; rfl)) ?_; (with_reducible refine (word_Rotate.calls a0 (wrap64 (Int.tmod a1 32)) t155 _ A6.out).mono ?_); rintro e w' ⟨rfl, ⟨nd, rfl⟩⟩; refine ⟨_, rfl, ?_⟩))
      go_ret
      exact ⟨by first | rfl | (simp [errW_none, errW_some] <;> rfl) | (simp [*, errW_none, errW_some] <;> rfl), by repeat (first | (with_reducible first | exact HB.out | apply below_alloc | apply pw_below_drewN | apply below_drew1) | exact HB.out)⟩
    · rw [if_neg c5] at H
      have c5b0 : ((wrap64 (Int.tmod a1 32)) == 0) = false := beq_eq_false_iff_ne.mpr c5
      have c5b1 : ((wrap64 (Int.tmod a1 32)) != 0) = true := bne_iff_ne.mpr c5
      replace H := Option.bind_eq_some_iff.mp H
      obtain ⟨t156, A80, H⟩ := H
      replace H : ((word_Right.f a0 (wrap64 (Int.tmod a1 32))).bind fun t157 => ((word_Left.f a0 (wrap64 (32 - (wrap64 (Int.tmod a1 32))))).bind fun t158 => (some (t156 == ((t157 + t158) % 4294967296))))) = some r := H
      have A8 := Aside0.mk A80
      clear A80
      replace H := Option.bind_eq_some_iff.mp H
      obtain ⟨t157, A90, H⟩ := H
      replace H : ((word_Left.f a0 (wrap64 (32 - (wrap64 (Int.tmod a1 32))))).bind fun t158 => (some (t156 == ((t157 + t158) % 4294967296)))) = some r := H
      have A9 := Aside0.mk A90
      clear A90
      replace H := Option.bind_eq_some_iff.mp H
      obtain ⟨t158, A100, H⟩ := H
      replace H : (some (t156 == ((t157 + t158) % 4294967296))) = some r := H
      have A10 := Aside0.mk A100
      clear A100
      obtain rfl := Option.some.inj H
      go_enter Try.func6, Try.ntmps6
      go_wp2_with (first | ((with_reducible refine gate_callee (f := 17) rfl ?_); refine goesL_ (some 6) rfl rfl Try.func17 (by kernel_rfl) rfl #[] rfl (by (try simp only [List.map_toArray, List.map_cons, List.map_nil]); first | done | rfl | (simp only [List.length_drop, List.length_take]; rfl)) ?_; (with_reducible refine (drawlotlaw01_alive.calls k  true _ A3.out).mono ?_); rintro e w11 ⟨rfl, hb⟩; refine ⟨_, rfl, ?_⟩; have n0_ := Aside0.mk (below_step (by repeat (first | (with_reducible first | exact HB.out | apply below_alloc | apply pw_below_drewN | apply below_drew1) | exact HB.out)) hb); clear HB; have HB := n0_; clear n0_; (try clear hb); (try clear hb2); (try clear hk); (try clear hi)) | ((with_reducible refine gate_callee (f := 22) rfl ?_); refine goesL_ (some 20) rfl rfl Try.func22 (by kernel_rfl) rfl #[.int .u32 a0, .int .i64 (wrap64 (Int.tmod a1 32))] rfl (by (try simp only [List.map_toArray, List.map_cons, List.map_nil]); first | done | rfl | (simp only [List.length_drop, List.length_take]; rfl)) ?_; (with_reducible refine (word_Rotate.calls a0 (wrap64 (Int.tmod a1 32)) t156 _ A8.out).mono ?_); rintro e w' ⟨rfl, ⟨nd, rfl⟩⟩; refine ⟨_, rfl, ?_⟩) | ((with_reducible refine gate_callee (f := 20) rfl ?_); refine goesL_ (some 23) rfl rfl Try.func20 (by kernel_rfl) rfl #[.int .u32 a0, .int .i64 (wrap64 (Int.tmod a1 32))] rfl (by (try simp only [List.map_toArray, List.map_cons, List.map_nil]); first | done | rfl | (simp only [List.length_drop, List.length_take]; rfl)) ?_; (with_reducible refine (word_Right.calls a0 (wrap64 (Int.tmod a1 32)) t157 _ A9.out).mono ?_); rintro e w12 ⟨rfl, hb⟩; refine ⟨_, rfl, ?_⟩; have n0_ := Aside0.mk (below_step (by repeat (first | (with_reducible first | exact HB.out | apply below_alloc | apply pw_below_drewN | apply below_drew1) | exact HB.out)) hb); clear HB; have HB := n0_; clear n0_; (try clear hb); (try clear hb2); (try clear hk); (try clear hi)) | ((with_reducible refine gate_callee (f := 18) rfl ?_); refine goesL_ (some 27) rfl rfl Try.func18 (by kernel_rfl) rfl #[.int .u32 a0, .int .i64 (wrap64 (32 - (wrap64 (Int.tmod a1 32))))] rfl (by (try simp only [List.map_toArray, List.map_cons, List.map_nil]); first | done | rfl | (simp only [List.length_drop, List.length_take]; rfl)) ?_; (with_reducible refine (word_Left.calls a0 (wrap64 (32 - (wrap64 (Int.tmod a1 32)))) t158 _ A10.out).mono ?_); rintro e w13 ⟨rfl, hb⟩; refine ⟨_, rfl, ?_⟩; have n0_ := Aside0.mk (below_step (by repeat (first | (with_reducible first | exact HB.out | apply below_alloc | apply pw_below_drewN | apply below_drew1) | exact HB.out)) hb); clear HB; have HB := n0_; clear n0_; (try clear hb); (try clear hb2); (try clear hk); (try clear hi)))
      go_ret
      exact ⟨by first | rfl | (simp [errW_none, errW_some] <;> rfl) | (simp [*, errW_none, errW_some] <;> rfl), by repeat (first | (with_reducible first | exact HB.out | apply below_alloc | apply pw_below_drewN | apply below_drew1) | exact HB.out)⟩
  · replace c4 := Bool.eq_false_iff.mpr c4
    subst c4
    have H1 : (none) = some r := by rw [if_neg (show ¬ (false = true) by decide)] at H; exact H
    clear H
    have H := H1
    clear H1
    exact absurd H (by simp)

/-- THE ONE PURE STATEMENT of drawlotlaw01_WordTurns: yours. -/
def drawlotlaw01_WordTurns.Pure : Prop := ∀ (a0 : Int) (a1 : Int), (Lit.int .u32 a0).wf = true → (Lit.int .u8 a1).wf = true → ∃ k, drawlotlaw01_WordTurns.f k a0 a1 = some true
theorem drawlotlaw01_WordTurns.walk (P : drawlotlaw01_WordTurns.Pure) (a0 : Int) (a1 : Int) (w : World) (w0 : (Lit.int .u32 a0).wf = true) (w1 : (Lit.int .u8 a1).wf = true) :
    Calls Try.prog 6 #[.int .u32 a0, .int .u8 a1] w fun e w' => e = .returned (.bool true) ∧ Below w.heap.size w w' := by
  obtain ⟨k, h⟩ := P a0 a1 w0 w1
  refine (drawlotlaw01_WordTurns.calls k a0 a1 true w h).mono ?_
  rintro e w' ⟨rfl, hd⟩
  exact ⟨rfl, hd⟩

end Go.Proofs.Ytpkdpdbcgbeakaa.PW
