/- Written by xprint.py, this session's own driver, for the seat Ytngacagfmpndmaa: contracts of Go functions, each saying that a call answers what a plain Lean function of the same name says, and, in a text named Law, the row of a law: its Go function answers true for every input. No conditions. -/
import Derived.Test.YtngacagfmpndmaaPFx0
import Derived.Test.YtngacagfmpndmaaPFx1
namespace Go.Proofs.Ytngacagfmpndmaa.PF
open Go.RowKit Go.Proofs.YtngacagfmpndmaaW.PrintWords Go.Proofs.YtngacagfmpndmaaW.PrintLast Go.Proofs.YtngacagfmpndmaaW.PrintMore
attribute [local go_sem] max2_int min2_int max_two min_two max_three min_three max_four min_four   -- for this text's walks alone
set_option linter.unusedVariables false
set_option linter.unusedSimpArgs false

/-! ### drawlotlaw09_SafeBack: function 5 -/
def drawlotlaw09_SafeBack.f (k : Nat) (a0 : Int) (a1 : Int) : Option (Bool) := (drawlotlaw09_alive.f k).bind fun t161 => (if t161 = true then ((safe_Add.f a0 a1).bind fun bt162 => ((safe_Add.f a1 a0).bind fun bt164 => (if bt162.1 = bt164.1 then (if (bt162.2 != bt164.2) = true then (none) else (if bt162.2 = true then ((safe_Sub.f bt162.1 a0).bind fun bt166 => ((safe_Sub.f bt162.1 a1).bind fun bt168 => (if bt166.2 = true then (if bt168.2 = true then (if bt166.1 = a1 then (some (bt168.1 == a0)) else (none)) else (none)) else (none)))) else (some (bt162.1 == 0)))) else (none)))) else (none))
theorem drawlotlaw09_SafeBack.mono : ∀ a0 a1 k, LeO (drawlotlaw09_SafeBack.f k a0 a1) (drawlotlaw09_SafeBack.f (k + 1) a0 a1) := by
  intro a0 a1 k
  unfold drawlotlaw09_SafeBack.f
  repeat' first
      | (with_reducible exact drawlotlaw09_alive.mono _)
      | (with_reducible exact LeO.refl _)
      | (with_reducible exact LeO.none _)
      | (with_reducible refine LeO.ite ?_ ?_)
      | (with_reducible refine LeO.bind ?_ (fun _ => ?_))
      | exact drawlotlaw09_alive.mono _
      | exact LeO.none _
      | refine LeO.ite ?_ ?_
      | refine LeO.bind ?_ (fun _ => ?_)
set_option maxHeartbeats 8000000 in
set_option maxRecDepth 100000 in
theorem drawlotlaw09_SafeBack.calls (k : Nat) (a0 : Int) (a1 : Int) (r : Bool) (w : World) (h : drawlotlaw09_SafeBack.f k a0 a1 = some r) :
    Calls Try.prog 5 #[.int .u64 a0, .int .u64 a1] w fun e w' => e = .returned (.bool r) ∧ Below w.heap.size w w' := by
  have HB := Aside0.mk (Below.refl w.heap.size w)
  have H : ((drawlotlaw09_alive.f k).bind fun t161 => (if t161 = true then ((safe_Add.f a0 a1).bind fun bt162 => ((safe_Add.f a1 a0).bind fun bt164 => (if bt162.1 = bt164.1 then (if (bt162.2 != bt164.2) = true then (none) else (if bt162.2 = true then ((safe_Sub.f bt162.1 a0).bind fun bt166 => ((safe_Sub.f bt162.1 a1).bind fun bt168 => (if bt166.2 = true then (if bt168.2 = true then (if bt166.1 = a1 then (some (bt168.1 == a0)) else (none)) else (none)) else (none)))) else (some (bt162.1 == 0)))) else (none)))) else (none))) = some r := h
  clear h
  replace H := Option.bind_eq_some_iff.mp H
  obtain ⟨t161, A30, H⟩ := H
  replace H : (if t161 = true then ((safe_Add.f a0 a1).bind fun bt162 => ((safe_Add.f a1 a0).bind fun bt164 => (if bt162.1 = bt164.1 then (if (bt162.2 != bt164.2) = true then (none) else (if bt162.2 = true then ((safe_Sub.f bt162.1 a0).bind fun bt166 => ((safe_Sub.f bt162.1 a1).bind fun bt168 => (if bt166.2 = true then (if bt168.2 = true then (if bt166.1 = a1 then (some (bt168.1 == a0)) else (none)) else (none)) else (none)))) else (some (bt162.1 == 0)))) else (none)))) else (none)) = some r := H
  have A3 := Aside0.mk A30
  clear A30
  by_cases c4 : t161 = true
  · subst c4
    have H1 : ((safe_Add.f a0 a1).bind fun bt162 => ((safe_Add.f a1 a0).bind fun bt164 => (if bt162.1 = bt164.1 then (if (bt162.2 != bt164.2) = true then (none) else (if bt162.2 = true then ((safe_Sub.f bt162.1 a0).bind fun bt166 => ((safe_Sub.f bt162.1 a1).bind fun bt168 => (if bt166.2 = true then (if bt168.2 = true then (if bt166.1 = a1 then (some (bt168.1 == a0)) else (none)) else (none)) else (none)))) else (some (bt162.1 == 0)))) else (none)))) = some r := by rw [if_pos rfl] at H; exact H
    clear H
    have H := H1
    clear H1
    replace H := Option.bind_eq_some_iff.mp H
    obtain ⟨⟨t162, t163⟩, A50, H⟩ := H
    replace H : ((safe_Add.f a1 a0).bind fun bt164 => (if t162 = bt164.1 then (if (t163 != bt164.2) = true then (none) else (if t163 = true then ((safe_Sub.f t162 a0).bind fun bt166 => ((safe_Sub.f t162 a1).bind fun bt168 => (if bt166.2 = true then (if bt168.2 = true then (if bt166.1 = a1 then (some (bt168.1 == a0)) else (none)) else (none)) else (none)))) else (some (t162 == 0)))) else (none))) = some r := H
    have A5 := Aside0.mk A50
    clear A50
    replace H := Option.bind_eq_some_iff.mp H
    obtain ⟨⟨t164, t165⟩, A60, H⟩ := H
    replace H : (if t162 = t164 then (if (t163 != t165) = true then (none) else (if t163 = true then ((safe_Sub.f t162 a0).bind fun bt166 => ((safe_Sub.f t162 a1).bind fun bt168 => (if bt166.2 = true then (if bt168.2 = true then (if bt166.1 = a1 then (some (bt168.1 == a0)) else (none)) else (none)) else (none)))) else (some (t162 == 0)))) else (none)) = some r := H
    have A6 := Aside0.mk A60
    clear A60
    by_cases c7 : t162 = t164
    · rw [if_pos c7] at H
      have c7b0 : (t162 == t164) = true := beq_iff_eq.mpr c7
      have c7b1 : (t162 != t164) = false := bne_eq_false_iff_eq.mpr c7
      clear c7
      by_cases c8 : (t163 != t165) = true
      · rw [if_pos c8] at H
        exact absurd H (by simp)
      · rw [if_neg c8] at H
        have c8b0 : (t163 != t165) = false := by simpa using c8
        (try (have c8b1 : decide (t163 = t165) = true := by simpa using c8))
        (try (have c8b2 : (t163 == t165) = true := by simpa using c8))
        clear c8
        by_cases c9 : t163 = true
        · subst c9
          have H1 : ((safe_Sub.f t162 a0).bind fun bt166 => ((safe_Sub.f t162 a1).bind fun bt168 => (if bt166.2 = true then (if bt168.2 = true then (if bt166.1 = a1 then (some (bt168.1 == a0)) else (none)) else (none)) else (none)))) = some r := by rw [if_pos rfl] at H; exact H
          clear H
          have H := H1
          clear H1
          replace H := Option.bind_eq_some_iff.mp H
          obtain ⟨⟨t166, t167⟩, A100, H⟩ := H
          replace H : ((safe_Sub.f t162 a1).bind fun bt168 => (if t167 = true then (if bt168.2 = true then (if t166 = a1 then (some (bt168.1 == a0)) else (none)) else (none)) else (none))) = some r := H
          have A10 := Aside0.mk A100
          clear A100
          replace H := Option.bind_eq_some_iff.mp H
          obtain ⟨⟨t168, t169⟩, A110, H⟩ := H
          replace H : (if t167 = true then (if t169 = true then (if t166 = a1 then (some (t168 == a0)) else (none)) else (none)) else (none)) = some r := H
          have A11 := Aside0.mk A110
          clear A110
          by_cases c12 : t167 = true
          · subst c12
            have H1 : (if t169 = true then (if t166 = a1 then (some (t168 == a0)) else (none)) else (none)) = some r := by rw [if_pos rfl] at H; exact H
            clear H
            have H := H1
            clear H1
            by_cases c13 : t169 = true
            · subst c13
              have H1 : (if t166 = a1 then (some (t168 == a0)) else (none)) = some r := by rw [if_pos rfl] at H; exact H
              clear H
              have H := H1
              clear H1
              by_cases c14 : t166 = a1
              · rw [if_pos c14] at H
                have c14b0 : (t166 == a1) = true := beq_iff_eq.mpr c14
                have c14b1 : (t166 != a1) = false := bne_eq_false_iff_eq.mpr c14
                clear c14
                obtain rfl := Option.some.inj H
                go_enter Try.func5, Try.ntmps5
                try simp only [List.append]
                go_wp2_with (first | ((with_reducible refine gate_callee (f := 15) rfl ?_); refine goesL_ (some 13) rfl rfl Try.func15 (by kernel_rfl) rfl #[] rfl (by (try simp only [List.map_toArray, List.map_cons, List.map_nil]); first | done | rfl | (simp only [List.length_drop, List.length_take]; rfl)) ?_; (with_reducible refine (drawlotlaw09_alive.calls k  true _ A3.out).mono ?_); rintro e w15 ⟨rfl, hb⟩; refine ⟨_, rfl, ?_⟩; have n0_ := Aside0.mk (below_step (by repeat (first | (with_reducible first | exact HB.out | apply below_alloc | apply pw_below_drewN | apply below_drew1) | exact HB.out)) hb); clear HB; have HB := n0_; clear n0_; (try clear hb); (try clear hb2); (try clear hk); (try clear hi)) | ((with_reducible refine gate_callee (f := 16) rfl ?_); refine goesL_ (some 18) rfl rfl Try.func16 (by kernel_rfl) rfl #[.int .u64 a0, .int .u64 a1] rfl (by (try simp only [List.map_toArray, List.map_cons, List.map_nil]); first | done | rfl | (simp only [List.length_drop, List.length_take]; rfl)) ?_; (with_reducible refine (safe_Add.calls a0 a1 t162 true _ A5.out).mono ?_); rintro e w' ⟨rfl, ⟨nd, rfl⟩⟩; refine ⟨_, rfl, ?_⟩) | ((with_reducible refine gate_callee (f := 16) rfl ?_); refine goesL_ (some 24) rfl rfl Try.func16 (by kernel_rfl) rfl #[.int .u64 a1, .int .u64 a0] rfl (by (try simp only [List.map_toArray, List.map_cons, List.map_nil]); first | done | rfl | (simp only [List.length_drop, List.length_take]; rfl)) ?_; (with_reducible refine (safe_Add.calls a1 a0 t164 t165 _ A6.out).mono ?_); rintro e w' ⟨rfl, ⟨nd, rfl⟩⟩; refine ⟨_, rfl, ?_⟩) | ((with_reducible refine gate_callee (f := 18) rfl ?_); refine goesL_ (some 42) rfl rfl Try.func18 (by kernel_rfl) rfl #[.int .u64 t162, .int .u64 a0] rfl (by (try simp only [List.map_toArray, List.map_cons, List.map_nil]); first | done | rfl | (simp only [List.length_drop, List.length_take]; rfl)) ?_; (with_reducible refine (safe_Sub.calls t162 a0 t166 true _ A10.out).mono ?_); rintro e w' ⟨rfl, ⟨nd, rfl⟩⟩; refine ⟨_, rfl, ?_⟩) | ((with_reducible refine gate_callee (f := 18) rfl ?_); refine goesL_ (some 48) rfl rfl Try.func18 (by kernel_rfl) rfl #[.int .u64 t162, .int .u64 a1] rfl (by (try simp only [List.map_toArray, List.map_cons, List.map_nil]); first | done | rfl | (simp only [List.length_drop, List.length_take]; rfl)) ?_; (with_reducible refine (safe_Sub.calls t162 a1 t168 true _ A11.out).mono ?_); rintro e w' ⟨rfl, ⟨nd, rfl⟩⟩; refine ⟨_, rfl, ?_⟩))
                go_ret
                exact ⟨by first | rfl | (simp [errW_none, errW_some] <;> rfl) | (simp [*, errW_none, errW_some] <;> rfl), by repeat (first | (with_reducible first | exact HB.out | apply below_alloc | apply pw_below_drewN | apply below_drew1) | exact HB.out)⟩
              · rw [if_neg c14] at H
                exact absurd H (by simp)
            · replace c13 := Bool.eq_false_iff.mpr c13
              subst c13
              have H1 : (none) = some r := by rw [if_neg (show ¬ (false = true) by decide)] at H; exact H
              clear H
              have H := H1
              clear H1
              exact absurd H (by simp)
          · replace c12 := Bool.eq_false_iff.mpr c12
            subst c12
            have H1 : (none) = some r := by rw [if_neg (show ¬ (false = true) by decide)] at H; exact H
            clear H
            have H := H1
            clear H1
            exact absurd H (by simp)
        · replace c9 := Bool.eq_false_iff.mpr c9
          subst c9
          have H1 : (some (t162 == 0)) = some r := by rw [if_neg (show ¬ (false = true) by decide)] at H; exact H
          clear H
          have H := H1
          clear H1
          obtain rfl := Option.some.inj H
          go_enter Try.func5, Try.ntmps5
          try simp only [List.append]
          go_wp2_with (first | ((with_reducible refine gate_callee (f := 15) rfl ?_); refine goesL_ (some 13) rfl rfl Try.func15 (by kernel_rfl) rfl #[] rfl (by (try simp only [List.map_toArray, List.map_cons, List.map_nil]); first | done | rfl | (simp only [List.length_drop, List.length_take]; rfl)) ?_; (with_reducible refine (drawlotlaw09_alive.calls k  true _ A3.out).mono ?_); rintro e w16 ⟨rfl, hb⟩; refine ⟨_, rfl, ?_⟩; have n0_ := Aside0.mk (below_step (by repeat (first | (with_reducible first | exact HB.out | apply below_alloc | apply pw_below_drewN | apply below_drew1) | exact HB.out)) hb); clear HB; have HB := n0_; clear n0_; (try clear hb); (try clear hb2); (try clear hk); (try clear hi)) | ((with_reducible refine gate_callee (f := 16) rfl ?_); refine goesL_ (some 18) rfl rfl Try.func16 (by kernel_rfl) rfl #[.int .u64 a0, .int .u64 a1] rfl (by (try simp only [List.map_toArray, List.map_cons, List.map_nil]); first | done | rfl | (simp only [List.length_drop, List.length_take]; rfl)) ?_; (with_reducible refine (safe_Add.calls a0 a1 t162 false _ A5.out).mono ?_); rintro e w' ⟨rfl, ⟨nd, rfl⟩⟩; refine ⟨_, rfl, ?_⟩) | ((with_reducible refine gate_callee (f := 16) rfl ?_); refine goesL_ (some 24) rfl rfl Try.func16 (by kernel_rfl) rfl #[.int .u64 a1, .int .u64 a0] rfl (by (try simp only [List.map_toArray, List.map_cons, List.map_nil]); first | done | rfl | (simp only [List.length_drop, List.length_take]; rfl)) ?_; (with_reducible refine (safe_Add.calls a1 a0 t164 t165 _ A6.out).mono ?_); rintro e w' ⟨rfl, ⟨nd, rfl⟩⟩; refine ⟨_, rfl, ?_⟩))
          go_ret
          exact ⟨by first | rfl | (simp [errW_none, errW_some] <;> rfl) | (simp [*, errW_none, errW_some] <;> rfl), by repeat (first | (with_reducible first | exact HB.out | apply below_alloc | apply pw_below_drewN | apply below_drew1) | exact HB.out)⟩
    · rw [if_neg c7] at H
      exact absurd H (by simp)
  · replace c4 := Bool.eq_false_iff.mpr c4
    subst c4
    have H1 : (none) = some r := by rw [if_neg (show ¬ (false = true) by decide)] at H; exact H
    clear H
    have H := H1
    clear H1
    exact absurd H (by simp)

/-- THE ONE PURE STATEMENT of drawlotlaw09_SafeBack: yours. -/
def drawlotlaw09_SafeBack.Pure : Prop := ∀ (a0 : Int) (a1 : Int), (Lit.int .u64 a0).wf = true → (Lit.int .u64 a1).wf = true → ∃ k, drawlotlaw09_SafeBack.f k a0 a1 = some true
theorem drawlotlaw09_SafeBack.walk (P : drawlotlaw09_SafeBack.Pure) (a0 : Int) (a1 : Int) (w : World) (w0 : (Lit.int .u64 a0).wf = true) (w1 : (Lit.int .u64 a1).wf = true) :
    Calls Try.prog 5 #[.int .u64 a0, .int .u64 a1] w fun e w' => e = .returned (.bool true) ∧ Below w.heap.size w w' := by
  obtain ⟨k, h⟩ := P a0 a1 w0 w1
  refine (drawlotlaw09_SafeBack.calls k a0 a1 true w h).mono ?_
  rintro e w' ⟨rfl, hd⟩
  exact ⟨rfl, hd⟩

end Go.Proofs.Ytngacagfmpndmaa.PF
