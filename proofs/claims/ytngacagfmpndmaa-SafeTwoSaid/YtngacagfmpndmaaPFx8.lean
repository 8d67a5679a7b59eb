/- Written by xprint.py, this session's own driver, for the seat Ytngacagfmpndmaa: contracts of Go functions, each saying that a call answers what a plain Lean function of the same name says, and, in a text named Law, the row of a law: its Go function answers true for every input. No conditions. -/
import Derived.Test.YtngacagfmpndmaaPFx0
import Derived.Test.YtngacagfmpndmaaPFx1
namespace Go.Proofs.Ytngacagfmpndmaa.PF
open Go.RowKit Go.Proofs.YtngacagfmpndmaaW.PrintWords Go.Proofs.YtngacagfmpndmaaW.PrintLast Go.Proofs.YtngacagfmpndmaaW.PrintMore
attribute [local go_sem] max2_int min2_int max_two min_two max_three min_three max_four min_four   -- for this text's walks alone
set_option linter.unusedVariables false
set_option linter.unusedSimpArgs false

/-! ### drawlotlaw09_SafeTwo: function 3 -/
def drawlotlaw09_SafeTwo.f (k : Nat) (a0 : Int) (a1 : Int) : Option (Bool) := (drawlotlaw09_alive.f k).bind fun t130 => (if t130 = true then ((safe_Add.f a0 a1).bind fun bt131 => ((drawlotref09_Add.f a0 a1).bind fun bt133 => ((safe_Sub.f a0 a1).bind fun bt135 => ((drawlotref09_Sub.f a0 a1).bind fun bt137 => ((safe_Mul.f a0 a1).bind fun bt139 => ((drawlotref09_Mul.f k a0 a1).bind fun bt141 => (if bt131.1 = bt133.1 then (if (bt131.2 == bt133.2) = true then (if bt135.1 = bt137.1 then (if (bt135.2 == bt137.2) = true then (if bt139.1 = bt141.1 then (if (bt139.2 == bt141.2) = true then ((safe_Fits.f a0).bind fun t143 => (if t143 = true then (if a0 < 9223372036854775808 then (some true) else (none)) else (if a0 < 9223372036854775808 then (none) else (some true)))) else (none)) else (none)) else (none)) else (none)) else (none)) else (none)))))))) else (none))
theorem drawlotlaw09_SafeTwo.mono : ∀ a0 a1 k, LeO (drawlotlaw09_SafeTwo.f k a0 a1) (drawlotlaw09_SafeTwo.f (k + 1) a0 a1) := by
  intro a0 a1 k
  unfold drawlotlaw09_SafeTwo.f
  repeat' first
      | (with_reducible exact drawlotlaw09_alive.mono _)
      | (with_reducible exact drawlotref09_Mul.mono _ _ _)
      | (with_reducible exact LeO.refl _)
      | (with_reducible exact LeO.none _)
      | (with_reducible refine LeO.ite ?_ ?_)
      | (with_reducible refine LeO.bind ?_ (fun _ => ?_))
      | exact drawlotlaw09_alive.mono _
      | exact drawlotref09_Mul.mono _ _ _
      | exact LeO.none _
      | refine LeO.ite ?_ ?_
      | refine LeO.bind ?_ (fun _ => ?_)
set_option maxHeartbeats 8000000 in
set_option maxRecDepth 100000 in
theorem drawlotlaw09_SafeTwo.calls (k : Nat) (a0 : Int) (a1 : Int) (r : Bool) (w : World) (h : drawlotlaw09_SafeTwo.f k a0 a1 = some r) :
    Calls Try.prog 3 #[.int .u64 a0, .int .u64 a1] w fun e w' => e = .returned (.bool r) ∧ Below w.heap.size w w' := by
  have HB := Aside0.mk (Below.refl w.heap.size w)
  have H : ((drawlotlaw09_alive.f k).bind fun t130 => (if t130 = true then ((safe_Add.f a0 a1).bind fun bt131 => ((drawlotref09_Add.f a0 a1).bind fun bt133 => ((safe_Sub.f a0 a1).bind fun bt135 => ((drawlotref09_Sub.f a0 a1).bind fun bt137 => ((safe_Mul.f a0 a1).bind fun bt139 => ((drawlotref09_Mul.f k a0 a1).bind fun bt141 => (if bt131.1 = bt133.1 then (if (bt131.2 == bt133.2) = true then (if bt135.1 = bt137.1 then (if (bt135.2 == bt137.2) = true then (if bt139.1 = bt141.1 then (if (bt139.2 == bt141.2) = true then ((safe_Fits.f a0).bind fun t143 => (if t143 = true then (if a0 < 9223372036854775808 then (some true) else (none)) else (if a0 < 9223372036854775808 then (none) else (some true)))) else (none)) else (none)) else (none)) else (none)) else (none)) else (none)))))))) else (none))) = some r := h
  clear h
  replace H := Option.bind_eq_some_iff.mp H
  obtain ⟨t130, A30, H⟩ := H
  replace H : (if t130 = true then ((safe_Add.f a0 a1).bind fun bt131 => ((drawlotref09_Add.f a0 a1).bind fun bt133 => ((safe_Sub.f a0 a1).bind fun bt135 => ((drawlotref09_Sub.f a0 a1).bind fun bt137 => ((safe_Mul.f a0 a1).bind fun bt139 => ((drawlotref09_Mul.f k a0 a1).bind fun bt141 => (if bt131.1 = bt133.1 then (if (bt131.2 == bt133.2) = true then (if bt135.1 = bt137.1 then (if (bt135.2 == bt137.2) = true then (if bt139.1 = bt141.1 then (if (bt139.2 == bt141.2) = true then ((safe_Fits.f a0).bind fun t143 => (if t143 = true then (if a0 < 9223372036854775808 then (some true) else (none)) else (if a0 < 9223372036854775808 then (none) else (some true)))) else (none)) else (none)) else (none)) else (none)) else (none)) else (none)))))))) else (none)) = some r := H
  have A3 := Aside0.mk A30
  clear A30
  by_cases c4 : t130 = true
  · subst c4
    have H1 : ((safe_Add.f a0 a1).bind fun bt131 => ((drawlotref09_Add.f a0 a1).bind fun bt133 => ((safe_Sub.f a0 a1).bind fun bt135 => ((drawlotref09_Sub.f a0 a1).bind fun bt137 => ((safe_Mul.f a0 a1).bind fun bt139 => ((drawlotref09_Mul.f k a0 a1).bind fun bt141 => (if bt131.1 = bt133.1 then (if (bt131.2 == bt133.2) = true then (if bt135.1 = bt137.1 then (if (bt135.2 == bt137.2) = true then (if bt139.1 = bt141.1 then (if (bt139.2 == bt141.2) = true then ((safe_Fits.f a0).bind fun t143 => (if t143 = true then (if a0 < 9223372036854775808 then (some true) else (none)) else (if a0 < 9223372036854775808 then (none) else (some true)))) else (none)) else (none)) else (none)) else (none)) else (none)) else (none)))))))) = some r := by rw [if_pos rfl] at H; exact H
    clear H
    have H := H1
    clear H1
    replace H := Option.bind_eq_some_iff.mp H
    obtain ⟨⟨t131, t132⟩, A50, H⟩ := H
    replace H : ((drawlotref09_Add.f a0 a1).bind fun bt133 => ((safe_Sub.f a0 a1).bind fun bt135 => ((drawlotref09_Sub.f a0 a1).bind fun bt137 => ((safe_Mul.f a0 a1).bind fun bt139 => ((drawlotref09_Mul.f k a0 a1).bind fun bt141 => (if t131 = bt133.1 then (if (t132 == bt133.2) = true then (if bt135.1 = bt137.1 then (if (bt135.2 == bt137.2) = true then (if bt139.1 = bt141.1 then (if (bt139.2 == bt141.2) = true then ((safe_Fits.f a0).bind fun t143 => (if t143 = true then (if a0 < 9223372036854775808 then (some true) else (none)) else (if a0 < 9223372036854775808 then (none) else (some true)))) else (none)) else (none)) else (none)) else (none)) else (none)) else (none))))))) = some r := H
    have A5 := Aside0.mk A50
    clear A50
    replace H := Option.bind_eq_some_iff.mp H
    obtain ⟨⟨t133, t134⟩, A60, H⟩ := H
    replace H : ((safe_Sub.f a0 a1).bind fun bt135 => ((drawlotref09_Sub.f a0 a1).bind fun bt137 => ((safe_Mul.f a0 a1).bind fun bt139 => ((drawlotref09_Mul.f k a0 a1).bind fun bt141 => (if t131 = t133 then (if (t132 == t134) = true then (if bt135.1 = bt137.1 then (if (bt135.2 == bt137.2) = true then (if bt139.1 = bt141.1 then (if (bt139.2 == bt141.2) = true then ((safe_Fits.f a0).bind fun t143 => (if t143 = true then (if a0 < 9223372036854775808 then (some true) else (none)) else (if a0 < 9223372036854775808 then (none) else (some true)))) else (none)) else (none)) else (none)) else (none)) else (none)) else (none)))))) = some r := H
    have A6 := Aside0.mk A60
    clear A60
    replace H := Option.bind_eq_some_iff.mp H
    obtain ⟨⟨t135, t136⟩, A70, H⟩ := H
    replace H : ((drawlotref09_Sub.f a0 a1).bind fun bt137 => ((safe_Mul.f a0 a1).bind fun bt139 => ((drawlotref09_Mul.f k a0 a1).bind fun bt141 => (if t131 = t133 then (if (t132 == t134) = true then (if t135 = bt137.1 then (if (t136 == bt137.2) = true then (if bt139.1 = bt141.1 then (if (bt139.2 == bt141.2) = true then ((safe_Fits.f a0).bind fun t143 => (if t143 = true then (if a0 < 9223372036854775808 then (some true) else (none)) else (if a0 < 9223372036854775808 then (none) else (some true)))) else (none)) else (none)) else (none)) else (none)) else (none)) else (none))))) = some r := H
    have A7 := Aside0.mk A70
    clear A70
    replace H := Option.bind_eq_some_iff.mp H
    obtain ⟨⟨t137, t138⟩, A80, H⟩ := H
    replace H : ((safe_Mul.f a0 a1).bind fun bt139 => ((drawlotref09_Mul.f k a0 a1).bind fun bt141 => (if t131 = t133 then (if (t132 == t134) = true then (if t135 = t137 then (if (t136 == t138) = true then (if bt139.1 = bt141.1 then (if (bt139.2 == bt141.2) = true then ((safe_Fits.f a0).bind fun t143 => (if t143 = true then (if a0 < 9223372036854775808 then (some true) else (none)) else (if a0 < 9223372036854775808 then (none) else (some true)))) else (none)) else (none)) else (none)) else (none)) else (none)) else (none)))) = some r := H
    have A8 := Aside0.mk A80
    clear A80
    replace H := Option.bind_eq_some_iff.mp H
    obtain ⟨⟨t139, t140⟩, A90, H⟩ := H
    replace H : ((drawlotref09_Mul.f k a0 a1).bind fun bt141 => (if t131 = t133 then (if (t132 == t134) = true then (if t135 = t137 then (if (t136 == t138) = true then (if t139 = bt141.1 then (if (t140 == bt141.2) = true then ((safe_Fits.f a0).bind fun t143 => (if t143 = true then (if a0 < 9223372036854775808 then (some true) else (none)) else (if a0 < 9223372036854775808 then (none) else (some true)))) else (none)) else (none)) else (none)) else (none)) else (none)) else (none))) = some r := H
    have A9 := Aside0.mk A90
    clear A90
    replace H := Option.bind_eq_some_iff.mp H
    obtain ⟨⟨t141, t142⟩, A100, H⟩ := H
    replace H : (if t131 = t133 then (if (t132 == t134) = true then (if t135 = t137 then (if (t136 == t138) = true then (if t139 = t141 then (if (t140 == t142) = true then ((safe_Fits.f a0).bind fun t143 => (if t143 = true then (if a0 < 9223372036854775808 then (some true) else (none)) else (if a0 < 9223372036854775808 then (none) else (some true)))) else (none)) else (none)) else (none)) else (none)) else (none)) else (none)) = some r := H
    have A10 := Aside0.mk A100
    clear A100
    by_cases c11 : t131 = t133
    · rw [if_pos c11] at H
      have c11b0 : (t131 == t133) = true := beq_iff_eq.mpr c11
      have c11b1 : (t131 != t133) = false := bne_eq_false_iff_eq.mpr c11
      clear c11
      by_cases c12 : (t132 == t134) = true
      · rw [if_pos c12] at H
        have c12b0 : (t132 == t134) = true := c12
        (try (have c12b1 : decide (t132 = t134) = true := by simpa using c12))
        (try (have c12b2 : (t132 == t134) = true := by simpa using c12))
        clear c12
        by_cases c13 : t135 = t137
        · rw [if_pos c13] at H
          have c13b0 : (t135 == t137) = true := beq_iff_eq.mpr c13
          have c13b1 : (t135 != t137) = false := bne_eq_false_iff_eq.mpr c13
          clear c13
          by_cases c14 : (t136 == t138) = true
          · rw [if_pos c14] at H
            have c14b0 : (t136 == t138) = true := c14
            (try (have c14b1 : decide (t136 = t138) = true := by simpa using c14))
            (try (have c14b2 : (t136 == t138) = true := by simpa using c14))
            clear c14
            by_cases c15 : t139 = t141
            · rw [if_pos c15] at H
              have c15b0 : (t139 == t141) = true := beq_iff_eq.mpr c15
              have c15b1 : (t139 != t141) = false := bne_eq_false_iff_eq.mpr c15
              clear c15
              by_cases c16 : (t140 == t142) = true
              · rw [if_pos c16] at H
                have c16b0 : (t140 == t142) = true := c16
                (try (have c16b1 : decide (t140 = t142) = true := by simpa using c16))
                (try (have c16b2 : (t140 == t142) = true := by simpa using c16))
                clear c16
                replace H := Option.bind_eq_some_iff.mp H
                obtain ⟨t143, A170, H⟩ := H
                replace H : (if t143 = true then (if a0 < 9223372036854775808 then (some true) else (none)) else (if a0 < 9223372036854775808 then (none) else (some true))) = some r := H
                have A17 := Aside0.mk A170
                clear A170
                by_cases c18 : t143 = true
                · subst c18
                  have H1 : (if a0 < 9223372036854775808 then (some true) else (none)) = some r := by rw [if_pos rfl] at H; exact H
                  clear H
                  have H := H1
                  clear H1
                  by_cases c19 : a0 < 9223372036854775808
                  · rw [if_pos c19] at H
                    have c19b0 : decide (a0 < 9223372036854775808) = true := decide_eq_true c19
                    clear c19
                    obtain rfl := Option.some.inj H
                    go_enter Try.func3, Try.ntmps3
                    try simp only [List.append]
                    go_wp2_with (first | ((with_reducible refine gate_callee (f := 15) rfl ?_); refine goesL_ (some 17) rfl rfl Try.func15 (by kernel_rfl) rfl #[] rfl (by (try simp only [List.map_toArray, List.map_cons, List.map_nil]); first | done | rfl | (simp only [List.length_drop, List.length_take]; rfl)) ?_; (with_reducible refine (drawlotlaw09_alive.calls k  true _ A3.out).mono ?_); rintro e w20 ⟨rfl, hb⟩; refine ⟨_, rfl, ?_⟩; have n0_ := Aside0.mk (below_step (by repeat (first | (with_reducible first | exact HB.out | apply below_alloc | apply pw_below_drewN | apply below_drew1) | exact HB.out)) hb); clear HB; have HB := n0_; clear n0_; (try clear hb); (try clear hb2); (try clear hk); (try clear hi)) | ((with_reducible refine gate_callee (f := 16) rfl ?_); refine goesL_ (some 22) rfl rfl Try.func16 (by kernel_rfl) rfl #[.int .u64 a0, .int .u64 a1] rfl (by (try simp only [List.map_toArray, List.map_cons, List.map_nil]); first | done | rfl | (simp only [List.length_drop, List.length_take]; rfl)) ?_; (with_reducible refine (safe_Add.calls a0 a1 t131 t132 _ A5.out).mono ?_); rintro e w' ⟨rfl, ⟨nd, rfl⟩⟩; refine ⟨_, rfl, ?_⟩) | ((with_reducible refine gate_callee (f := 17) rfl ?_); refine goesL_ (some 28) rfl rfl Try.func17 (by kernel_rfl) rfl #[.int .u64 a0, .int .u64 a1] rfl (by (try simp only [List.map_toArray, List.map_cons, List.map_nil]); first | done | rfl | (simp only [List.length_drop, List.length_take]; rfl)) ?_; (with_reducible refine (drawlotref09_Add.calls a0 a1 t133 t134 _ A6.out).mono ?_); rintro e w' ⟨rfl, ⟨nd, rfl⟩⟩; refine ⟨_, rfl, ?_⟩) | ((with_reducible refine gate_callee (f := 18) rfl ?_); refine goesL_ (some 34) rfl rfl Try.func18 (by kernel_rfl) rfl #[.int .u64 a0, .int .u64 a1] rfl (by (try simp only [List.map_toArray, List.map_cons, List.map_nil]); first | done | rfl | (simp only [List.length_drop, List.length_take]; rfl)) ?_; (with_reducible refine (safe_Sub.calls a0 a1 t135 t136 _ A7.out).mono ?_); rintro e w' ⟨rfl, ⟨nd, rfl⟩⟩; refine ⟨_, rfl, ?_⟩) | ((with_reducible refine gate_callee (f := 19) rfl ?_); refine goesL_ (some 40) rfl rfl Try.func19 (by kernel_rfl) rfl #[.int .u64 a0, .int .u64 a1] rfl (by (try simp only [List.map_toArray, List.map_cons, List.map_nil]); first | done | rfl | (simp only [List.length_drop, List.length_take]; rfl)) ?_; (with_reducible refine (drawlotref09_Sub.calls a0 a1 t137 t138 _ A8.out).mono ?_); rintro e w' ⟨rfl, ⟨nd, rfl⟩⟩; refine ⟨_, rfl, ?_⟩) | ((with_reducible refine gate_callee (f := 20) rfl ?_); refine goesL_ (some 46) rfl rfl Try.func20 (by kernel_rfl) rfl #[.int .u64 a0, .int .u64 a1] rfl (by (try simp only [List.map_toArray, List.map_cons, List.map_nil]); first | done | rfl | (simp only [List.length_drop, List.length_take]; rfl)) ?_; (with_reducible refine (safe_Mul.calls a0 a1 t139 t140 _ A9.out).mono ?_); rintro e w' ⟨rfl, ⟨nd, rfl⟩⟩; refine ⟨_, rfl, ?_⟩) | ((with_reducible refine gate_callee (f := 21) rfl ?_); refine goesL_ (some 52) rfl rfl Try.func21 (by kernel_rfl) rfl #[.int .u64 a0, .int .u64 a1] rfl (by (try simp only [List.map_toArray, List.map_cons, List.map_nil]); first | done | rfl | (simp only [List.length_drop, List.length_take]; rfl)) ?_; (with_reducible refine (drawlotref09_Mul.calls k a0 a1 t141 t142 _ A10.out).mono ?_); rintro e w' ⟨rfl, ⟨nd, rfl⟩⟩; refine ⟨_, rfl, ?_⟩) | (go_at_call 22; (with_reducible refine (safe_Fits.calls a0 true _ A17.out).mono ?_); rintro e w' ⟨rfl, ⟨nd, rfl⟩⟩))
                    go_ret
                    exact ⟨by first | rfl | (simp [errW_none, errW_some] <;> rfl) | (simp [*, errW_none, errW_some] <;> rfl), by repeat (first | (with_reducible first | exact HB.out | apply below_alloc | apply pw_below_drewN | apply below_drew1) | exact HB.out)⟩
                  · rw [if_neg c19] at H
                    exact absurd H (by simp)
                · replace c18 := Bool.eq_false_iff.mpr c18
                  subst c18
                  have H1 : (if a0 < 9223372036854775808 then (none) else (some true)) = some r := by rw [if_neg (show ¬ (false = true) by decide)] at H; exact H
                  clear H
                  have H := H1
                  clear H1
                  by_cases c21 : a0 < 9223372036854775808
                  · rw [if_pos c21] at H
                    exact absurd H (by simp)
                  · rw [if_neg c21] at H
                    have c21b0 : decide (a0 < 9223372036854775808) = false := decide_eq_false c21
                    clear c21
                    obtain rfl := Option.some.inj H
                    go_enter Try.func3, Try.ntmps3
                    try simp only [List.append]
                    go_wp2_with (first | ((with_reducible refine gate_callee (f := 15) rfl ?_); refine goesL_ (some 17) rfl rfl Try.func15 (by kernel_rfl) rfl #[] rfl (by (try simp only [List.map_toArray, List.map_cons, List.map_nil]); first | done | rfl | (simp only [List.length_drop, List.length_take]; rfl)) ?_; (with_reducible refine (drawlotlaw09_alive.calls k  true _ A3.out).mono ?_); rintro e w22 ⟨rfl, hb⟩; refine ⟨_, rfl, ?_⟩; have n0_ := Aside0.mk (below_step (by repeat (first | (with_reducible first | exact HB.out | apply below_alloc | apply pw_below_drewN | apply below_drew1) | exact HB.out)) hb); clear HB; have HB := n0_; clear n0_; (try clear hb); (try clear hb2); (try clear hk); (try clear hi)) | ((with_reducible refine gate_callee (f := 16) rfl ?_); refine goesL_ (some 22) rfl rfl Try.func16 (by kernel_rfl) rfl #[.int .u64 a0, .int .u64 a1] rfl (by (try simp only [List.map_toArray, List.map_cons, List.map_nil]); first | done | rfl | (simp only [List.length_drop, List.length_take]; rfl)) ?_; (with_reducible refine (safe_Add.calls a0 a1 t131 t132 _ A5.out).mono ?_); rintro e w' ⟨rfl, ⟨nd, rfl⟩⟩; refine ⟨_, rfl, ?_⟩) | ((with_reducible refine gate_callee (f := 17) rfl ?_); refine goesL_ (some 28) rfl rfl Try.func17 (by kernel_rfl) rfl #[.int .u64 a0, .int .u64 a1] rfl (by (try simp only [List.map_toArray, List.map_cons, List.map_nil]); first | done | rfl | (simp only [List.length_drop, List.length_take]; rfl)) ?_; (with_reducible refine (drawlotref09_Add.calls a0 a1 t133 t134 _ A6.out).mono ?_); rintro e w' ⟨rfl, ⟨nd, rfl⟩⟩; refine ⟨_, rfl, ?_⟩) | ((with_reducible refine gate_callee (f := 18) rfl ?_); refine goesL_ (some 34) rfl rfl Try.func18 (by kernel_rfl) rfl #[.int .u64 a0, .int .u64 a1] rfl (by (try simp only [List.map_toArray, List.map_cons, List.map_nil]); first | done | rfl | (simp only [List.length_drop, List.length_take]; rfl)) ?_; (with_reducible refine (safe_Sub.calls a0 a1 t135 t136 _ A7.out).mono ?_); rintro e w' ⟨rfl, ⟨nd, rfl⟩⟩; refine ⟨_, rfl, ?_⟩) | ((with_reducible refine gate_callee (f := 19) rfl ?_); refine goesL_ (some 40) rfl rfl Try.func19 (by kernel_rfl) rfl #[.int .u64 a0, .int .u64 a1] rfl (by (try simp only [List.map_toArray, List.map_cons, List.map_nil]); first | done | rfl | (simp only [List.length_drop, List.length_take]; rfl)) ?_; (with_reducible refine (drawlotref09_Sub.calls a0 a1 t137 t138 _ A8.out).mono ?_); rintro e w' ⟨rfl, ⟨nd, rfl⟩⟩; refine ⟨_, rfl, ?_⟩) | ((with_reducible refine gate_callee (f := 20) rfl ?_); refine goesL_ (some 46) rfl rfl Try.func20 (by kernel_rfl) rfl #[.int .u64 a0, .int .u64 a1] rfl (by (try simp only [List.map_toArray, List.map_cons, List.map_nil]); first | done | rfl | (simp only [List.length_drop, List.length_take]; rfl)) ?_; (with_reducible refine (safe_Mul.calls a0 a1 t139 t140 _ A9.out).mono ?_); rintro e w' ⟨rfl, ⟨nd, rfl⟩⟩; refine ⟨_, rfl, ?_⟩) | ((with_reducible refine gate_callee (f := 21) rfl ?_); refine goesL_ (some 52) rfl rfl Try.func21 (by kernel_rfl) rfl #[.int .u64 a0, .int .u64 a1] rfl (by (try simp only [List.map_toArray, List.map_cons, List.map_nil]); first | done | rfl | (simp only [List.length_drop, List.length_take]; rfl)) ?_; (with_reducible refine (drawlotref09_Mul.calls k a0 a1 t141 t142 _ A10.out).mono ?_); rintro e w' ⟨rfl, ⟨nd, rfl⟩⟩; refine ⟨_, rfl, ?_⟩) | (go_at_call 22; (with_reducible refine (safe_Fits.calls a0 false _ A17.out).mono ?_); rintro e w' ⟨rfl, ⟨nd, rfl⟩⟩))
                    go_ret
                    exact ⟨by first | rfl | (simp [errW_none, errW_some] <;> rfl) | (simp [*, errW_none, errW_some] <;> rfl), by repeat (first | (with_reducible first | exact HB.out | apply below_alloc | apply pw_below_drewN | apply below_drew1) | exact HB.out)⟩
              · rw [if_neg c16] at H
                exact absurd H (by simp)
            · rw [if_neg c15] at H
              exact absurd H (by simp)
          · rw [if_neg c14] at H
            exact absurd H (by simp)
        · rw [if_neg c13] at H
          exact absurd H (by simp)
      · rw [if_neg c12] at H
        exact absurd H (by simp)
    · rw [if_neg c11] at H
      exact absurd H (by simp)
  · replace c4 := Bool.eq_false_iff.mpr c4
    subst c4
    have H1 : (none) = some r := by rw [if_neg (show ¬ (false = true) by decide)] at H; exact H
    clear H
    have H := H1
    clear H1
    exact absurd H (by simp)

/-- THE ONE PURE STATEMENT of drawlotlaw09_SafeTwo: yours. -/
def drawlotlaw09_SafeTwo.Pure : Prop := ∀ (a0 : Int) (a1 : Int), (Lit.int .u64 a0).wf = true → (Lit.int .u64 a1).wf = true → ∃ k, drawlotlaw09_SafeTwo.f k a0 a1 = some true
theorem drawlotlaw09_SafeTwo.walk (P : drawlotlaw09_SafeTwo.Pure) (a0 : Int) (a1 : Int) (w : World) (w0 : (Lit.int .u64 a0).wf = true) (w1 : (Lit.int .u64 a1).wf = true) :
    Calls Try.prog 3 #[.int .u64 a0, .int .u64 a1] w fun e w' => e = .returned (.bool true) ∧ Below w.heap.size w w' := by
  obtain ⟨k, h⟩ := P a0 a1 w0 w1
  refine (drawlotlaw09_SafeTwo.calls k a0 a1 true w h).mono ?_
  rintro e w' ⟨rfl, hd⟩
  exact ⟨rfl, hd⟩

end Go.Proofs.Ytngacagfmpndmaa.PF
