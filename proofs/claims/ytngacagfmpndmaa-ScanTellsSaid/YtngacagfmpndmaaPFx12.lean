/- Written by xprint.py, this session's own driver, for the seat Ytngacagfmpndmaa: contracts of Go functions, each saying that a call answers what a plain Lean function of the same name says, and, in a text named Law, the row of a law: its Go function answers true for every input. No conditions. -/
import Derived.Test.YtngacagfmpndmaaPFx0
import Derived.Test.YtngacagfmpndmaaPFx2
import Derived.Test.YtngacagfmpndmaaPFx3
namespace Go.Proofs.Ytngacagfmpndmaa.PF
open Go.RowKit Go.Proofs.YtngacagfmpndmaaW.PrintWords Go.Proofs.YtngacagfmpndmaaW.PrintLast Go.Proofs.YtngacagfmpndmaaW.PrintMore
attribute [local go_sem] max2_int min2_int max_two min_two max_three min_three max_four min_four   -- for this text's walks alone
set_option linter.unusedVariables false
set_option linter.unusedSimpArgs false

/-! ### drawlotlaw12_ScanTells: function 7 -/
def drawlotlaw12_ScanTells.f (k : Nat) (a0 : Int) (a1 : Int) (l2 : List Int) : Option (Bool) := (drawlotlaw12_alive.f k).bind fun t252 => (if t252 = true then (if (l2.length : Int) > 300 then (some true) else ((some (([] : List Int) : List Int)).bind fun y253 => (if y253.length + l2.length < 17592186044416 then ((some (y253 ++ l2 : List Int)).bind fun y256 => ((scan_Owner.f k a0 y256).bind fun bt259 => ((drawlotref12_Owner.f k a0 l2).bind fun bt261 => ((scan_Total.f k y256).bind fun bt263 => ((drawlotref12_Total.f k l2).bind fun bt265 => ((scan_Without.f a1 y256).bind fun bt267 => ((drawlotref12_Without.f a1 l2).bind fun bt271 => (if bt259.1 = bt261.1 then (if bt259.2 = bt261.2 then (if bt263.1 = bt265.1 then (if bt263.2 = bt265.2 then ((drawlotref09_Same.f k bt267.1 bt271.1).bind fun t275 => (if t275 = true then (if bt267.2 = bt271.2 then ((scan_Positive.f k y256).bind fun t276 => ((drawlotref12_Positive.f k l2).bind fun t277 => (if t276 = t277 then ((drawlotref09_Same.f k y256 l2).bind fun t278 => (some t278)) else (none)))) else (none)) else (none))) else (none)) else (none)) else (none)) else (none))))))))) else (none)))) else (none))
theorem drawlotlaw12_ScanTells.mono : ∀ a0 a1 a2 k, LeO (drawlotlaw12_ScanTells.f k a0 a1 a2) (drawlotlaw12_ScanTells.f (k + 1) a0 a1 a2) := by
  intro a0 a1 a2 k
  unfold drawlotlaw12_ScanTells.f
  repeat' first
      | (with_reducible exact drawlotlaw12_alive.mono _)
      | (with_reducible exact drawlotref09_Same.mono _ _ _)
      | (with_reducible exact drawlotref12_Owner.mono _ _ _)
      | (with_reducible exact drawlotref12_Positive.mono _ _)
      | (with_reducible exact drawlotref12_Total.mono _ _)
      | (with_reducible exact scan_Owner.mono _ _ _)
      | (with_reducible exact scan_Positive.mono _ _)
      | (with_reducible exact scan_Total.mono _ _)
      | (with_reducible exact LeO.refl _)
      | (with_reducible exact LeO.none _)
      | (with_reducible refine LeO.ite ?_ ?_)
      | (with_reducible refine LeO.bind ?_ (fun _ => ?_))
      | exact drawlotlaw12_alive.mono _
      | exact drawlotref09_Same.mono _ _ _
      | exact drawlotref12_Owner.mono _ _ _
      | exact drawlotref12_Positive.mono _ _
      | exact drawlotref12_Total.mono _ _
      | exact scan_Owner.mono _ _ _
      | exact scan_Positive.mono _ _
      | exact scan_Total.mono _ _
      | exact LeO.none _
      | refine LeO.ite ?_ ?_
      | refine LeO.bind ?_ (fun _ => ?_)
set_option maxHeartbeats 8000000 in
set_option maxRecDepth 100000 in
theorem drawlotlaw12_ScanTells.calls (k : Nat) (a0 : Int) (a1 : Int) (A2 : Option Addr) (c2 : Nat) (l2 : List Int) (r : Bool) (w : World) (hr2 : Kd.C (Kd.int .u64) w A2 l2.length l2) (hc2 : l2.length ≤ c2) (h : drawlotlaw12_ScanTells.f k a0 a1 l2 = some r) :
    Calls Try.prog 7 #[.int .u64 a0, .int .i64 a1, .slice A2 l2.length c2] w fun e w' => e = .returned (.bool r) ∧ Below w.heap.size w w' := by
  have HR2 := Aside0.mk hr2
  have HC2 := Aside0.mk hc2
  clear hr2 hc2
  have HB := Aside0.mk (Below.refl w.heap.size w)
  have H : ((drawlotlaw12_alive.f k).bind fun t252 => (if t252 = true then (if (l2.length : Int) > 300 then (some true) else ((some (([] : List Int) : List Int)).bind fun y253 => (if y253.length + l2.length < 17592186044416 then ((some (y253 ++ l2 : List Int)).bind fun y256 => ((scan_Owner.f k a0 y256).bind fun bt259 => ((drawlotref12_Owner.f k a0 l2).bind fun bt261 => ((scan_Total.f k y256).bind fun bt263 => ((drawlotref12_Total.f k l2).bind fun bt265 => ((scan_Without.f a1 y256).bind fun bt267 => ((drawlotref12_Without.f a1 l2).bind fun bt271 => (if bt259.1 = bt261.1 then (if bt259.2 = bt261.2 then (if bt263.1 = bt265.1 then (if bt263.2 = bt265.2 then ((drawlotref09_Same.f k bt267.1 bt271.1).bind fun t275 => (if t275 = true then (if bt267.2 = bt271.2 then ((scan_Positive.f k y256).bind fun t276 => ((drawlotref12_Positive.f k l2).bind fun t277 => (if t276 = t277 then ((drawlotref09_Same.f k y256 l2).bind fun t278 => (some t278)) else (none)))) else (none)) else (none))) else (none)) else (none)) else (none)) else (none))))))))) else (none)))) else (none))) = some r := h
  clear h
  replace H := Option.bind_eq_some_iff.mp H
  obtain ⟨t252, A40, H⟩ := H
  replace H : (if t252 = true then (if (l2.length : Int) > 300 then (some true) else ((some (([] : List Int) : List Int)).bind fun y253 => (if y253.length + l2.length < 17592186044416 then ((some (y253 ++ l2 : List Int)).bind fun y256 => ((scan_Owner.f k a0 y256).bind fun bt259 => ((drawlotref12_Owner.f k a0 l2).bind fun bt261 => ((scan_Total.f k y256).bind fun bt263 => ((drawlotref12_Total.f k l2).bind fun bt265 => ((scan_Without.f a1 y256).bind fun bt267 => ((drawlotref12_Without.f a1 l2).bind fun bt271 => (if bt259.1 = bt261.1 then (if bt259.2 = bt261.2 then (if bt263.1 = bt265.1 then (if bt263.2 = bt265.2 then ((drawlotref09_Same.f k bt267.1 bt271.1).bind fun t275 => (if t275 = true then (if bt267.2 = bt271.2 then ((scan_Positive.f k y256).bind fun t276 => ((drawlotref12_Positive.f k l2).bind fun t277 => (if t276 = t277 then ((drawlotref09_Same.f k y256 l2).bind fun t278 => (some t278)) else (none)))) else (none)) else (none))) else (none)) else (none)) else (none)) else (none))))))))) else (none)))) else (none)) = some r := H
  have A4 := Aside0.mk A40
  clear A40
  by_cases c5 : t252 = true
  · subst c5
    have H1 : (if (l2.length : Int) > 300 then (some true) else ((some (([] : List Int) : List Int)).bind fun y253 => (if y253.length + l2.length < 17592186044416 then ((some (y253 ++ l2 : List Int)).bind fun y256 => ((scan_Owner.f k a0 y256).bind fun bt259 => ((drawlotref12_Owner.f k a0 l2).bind fun bt261 => ((scan_Total.f k y256).bind fun bt263 => ((drawlotref12_Total.f k l2).bind fun bt265 => ((scan_Without.f a1 y256).bind fun bt267 => ((drawlotref12_Without.f a1 l2).bind fun bt271 => (if bt259.1 = bt261.1 then (if bt259.2 = bt261.2 then (if bt263.1 = bt265.1 then (if bt263.2 = bt265.2 then ((drawlotref09_Same.f k bt267.1 bt271.1).bind fun t275 => (if t275 = true then (if bt267.2 = bt271.2 then ((scan_Positive.f k y256).bind fun t276 => ((drawlotref12_Positive.f k l2).bind fun t277 => (if t276 = t277 then ((drawlotref09_Same.f k y256 l2).bind fun t278 => (some t278)) else (none)))) else (none)) else (none))) else (none)) else (none)) else (none)) else (none))))))))) else (none)))) = some r := by rw [if_pos rfl] at H; exact H
    clear H
    have H := H1
    clear H1
    by_cases c6 : (l2.length : Int) > 300
    · rw [if_pos c6] at H
      have c6b0 : decide (300 < (l2.length : Int)) = true := decide_eq_true c6
      have c6b1 : decide (300 < l2.length) = true := decide_eq_true (by omega)
      clear c6
      obtain rfl := Option.some.inj H
      go_enter Try.func7, Try.ntmps7
      try simp only [List.append]
      go_wp2_with (first | ((with_reducible refine gate_callee (f := 26) rfl ?_); refine goesL_ (some 20) rfl rfl Try.func26 (by kernel_rfl) rfl #[] rfl (by (try simp only [List.map_toArray, List.map_cons, List.map_nil]); first | done | rfl | (simp only [List.length_drop, List.length_take]; rfl)) ?_; (with_reducible refine (drawlotlaw12_alive.calls k  true _ A4.out).mono ?_); rintro e w7 ⟨rfl, hb⟩; refine ⟨_, rfl, ?_⟩; have n0_ := Aside0.mk (below_step (by repeat (first | (with_reducible first | exact HB.out | apply below_alloc | apply pw_below_drewN | apply below_drew1) | exact HB.out)) hb); clear HB; have HB := n0_; clear n0_; (try clear hb); (try clear hb2); (try clear hk); (try clear hi)))
      go_ret
      exact ⟨by first | rfl | (simp [errW_none, errW_some] <;> rfl) | (simp [*, errW_none, errW_some] <;> rfl), by repeat (first | (with_reducible first | exact HB.out | apply below_alloc | apply pw_below_drewN | apply below_drew1) | exact HB.out)⟩
    · rw [if_neg c6] at H
      have c6b0 : decide (300 < (l2.length : Int)) = false := decide_eq_false c6
      have c6b1 : decide (300 < l2.length) = false := decide_eq_false (by omega)
      clear c6
      obtain ⟨y253, hy253⟩ : ∃ y_ : List Int, y_ = (([] : List Int)) := ⟨_, rfl⟩
      replace H : (if y253.length + l2.length < 17592186044416 then ((some (y253 ++ l2 : List Int)).bind fun y256 => ((scan_Owner.f k a0 y256).bind fun bt259 => ((drawlotref12_Owner.f k a0 l2).bind fun bt261 => ((scan_Total.f k y256).bind fun bt263 => ((drawlotref12_Total.f k l2).bind fun bt265 => ((scan_Without.f a1 y256).bind fun bt267 => ((drawlotref12_Without.f a1 l2).bind fun bt271 => (if bt259.1 = bt261.1 then (if bt259.2 = bt261.2 then (if bt263.1 = bt265.1 then (if bt263.2 = bt265.2 then ((drawlotref09_Same.f k bt267.1 bt271.1).bind fun t275 => (if t275 = true then (if bt267.2 = bt271.2 then ((scan_Positive.f k y256).bind fun t276 => ((drawlotref12_Positive.f k l2).bind fun t277 => (if t276 = t277 then ((drawlotref09_Same.f k y256 l2).bind fun t278 => (some t278)) else (none)))) else (none)) else (none))) else (none)) else (none)) else (none)) else (none))))))))) else (none)) = some r := by first | (rw [hy253]; with_reducible exact H) | (have H2_ := (Option.bind_some _ _).symm.trans H; rw [hy253]; with_reducible exact H2_) | (have H2_ := (Option.bind_some _ _).symm.trans H; with_reducible exact H2_) | with_reducible exact H | (rw [hy253]; exact H) | exact H
      have Ny253 := Aside0.mk hy253
      clear hy253
      by_cases c8 : y253.length + l2.length < 17592186044416
      · rw [if_pos c8] at H
        have LMc8 := Aside0.mk c8
        clear c8
        obtain ⟨y256, hy256⟩ : ∃ y_ : List Int, y_ = (y253 ++ l2) := ⟨_, rfl⟩
        replace H : ((scan_Owner.f k a0 y256).bind fun bt259 => ((drawlotref12_Owner.f k a0 l2).bind fun bt261 => ((scan_Total.f k y256).bind fun bt263 => ((drawlotref12_Total.f k l2).bind fun bt265 => ((scan_Without.f a1 y256).bind fun bt267 => ((drawlotref12_Without.f a1 l2).bind fun bt271 => (if bt259.1 = bt261.1 then (if bt259.2 = bt261.2 then (if bt263.1 = bt265.1 then (if bt263.2 = bt265.2 then ((drawlotref09_Same.f k bt267.1 bt271.1).bind fun t275 => (if t275 = true then (if bt267.2 = bt271.2 then ((scan_Positive.f k y256).bind fun t276 => ((drawlotref12_Positive.f k l2).bind fun t277 => (if t276 = t277 then ((drawlotref09_Same.f k y256 l2).bind fun t278 => (some t278)) else (none)))) else (none)) else (none))) else (none)) else (none)) else (none)) else (none)))))))) = some r := by first | (rw [hy256]; with_reducible exact H) | (have H2_ := (Option.bind_some _ _).symm.trans H; rw [hy256]; with_reducible exact H2_) | (have H2_ := (Option.bind_some _ _).symm.trans H; with_reducible exact H2_) | with_reducible exact H | (rw [hy256]; exact H) | exact H
        have Ny256 := Aside0.mk hy256
        clear hy256
        replace H := Option.bind_eq_some_iff.mp H
        obtain ⟨⟨t259, t260⟩, A90, H⟩ := H
        replace H : ((drawlotref12_Owner.f k a0 l2).bind fun bt261 => ((scan_Total.f k y256).bind fun bt263 => ((drawlotref12_Total.f k l2).bind fun bt265 => ((scan_Without.f a1 y256).bind fun bt267 => ((drawlotref12_Without.f a1 l2).bind fun bt271 => (if t259 = bt261.1 then (if t260 = bt261.2 then (if bt263.1 = bt265.1 then (if bt263.2 = bt265.2 then ((drawlotref09_Same.f k bt267.1 bt271.1).bind fun t275 => (if t275 = true then (if bt267.2 = bt271.2 then ((scan_Positive.f k y256).bind fun t276 => ((drawlotref12_Positive.f k l2).bind fun t277 => (if t276 = t277 then ((drawlotref09_Same.f k y256 l2).bind fun t278 => (some t278)) else (none)))) else (none)) else (none))) else (none)) else (none)) else (none)) else (none))))))) = some r := H
        have A9 := Aside0.mk A90
        clear A90
        replace H := Option.bind_eq_some_iff.mp H
        obtain ⟨⟨t261, t262⟩, A100, H⟩ := H
        replace H : ((scan_Total.f k y256).bind fun bt263 => ((drawlotref12_Total.f k l2).bind fun bt265 => ((scan_Without.f a1 y256).bind fun bt267 => ((drawlotref12_Without.f a1 l2).bind fun bt271 => (if t259 = t261 then (if t260 = t262 then (if bt263.1 = bt265.1 then (if bt263.2 = bt265.2 then ((drawlotref09_Same.f k bt267.1 bt271.1).bind fun t275 => (if t275 = true then (if bt267.2 = bt271.2 then ((scan_Positive.f k y256).bind fun t276 => ((drawlotref12_Positive.f k l2).bind fun t277 => (if t276 = t277 then ((drawlotref09_Same.f k y256 l2).bind fun t278 => (some t278)) else (none)))) else (none)) else (none))) else (none)) else (none)) else (none)) else (none)))))) = some r := H
        have A10 := Aside0.mk A100
        clear A100
        replace H := Option.bind_eq_some_iff.mp H
        obtain ⟨⟨t263, t264⟩, A110, H⟩ := H
        replace H : ((drawlotref12_Total.f k l2).bind fun bt265 => ((scan_Without.f a1 y256).bind fun bt267 => ((drawlotref12_Without.f a1 l2).bind fun bt271 => (if t259 = t261 then (if t260 = t262 then (if t263 = bt265.1 then (if t264 = bt265.2 then ((drawlotref09_Same.f k bt267.1 bt271.1).bind fun t275 => (if t275 = true then (if bt267.2 = bt271.2 then ((scan_Positive.f k y256).bind fun t276 => ((drawlotref12_Positive.f k l2).bind fun t277 => (if t276 = t277 then ((drawlotref09_Same.f k y256 l2).bind fun t278 => (some t278)) else (none)))) else (none)) else (none))) else (none)) else (none)) else (none)) else (none))))) = some r := H
        have A11 := Aside0.mk A110
        clear A110
        replace H := Option.bind_eq_some_iff.mp H
        obtain ⟨⟨t265, t266⟩, A120, H⟩ := H
        replace H : ((scan_Without.f a1 y256).bind fun bt267 => ((drawlotref12_Without.f a1 l2).bind fun bt271 => (if t259 = t261 then (if t260 = t262 then (if t263 = t265 then (if t264 = t266 then ((drawlotref09_Same.f k bt267.1 bt271.1).bind fun t275 => (if t275 = true then (if bt267.2 = bt271.2 then ((scan_Positive.f k y256).bind fun t276 => ((drawlotref12_Positive.f k l2).bind fun t277 => (if t276 = t277 then ((drawlotref09_Same.f k y256 l2).bind fun t278 => (some t278)) else (none)))) else (none)) else (none))) else (none)) else (none)) else (none)) else (none)))) = some r := H
        have A12 := Aside0.mk A120
        clear A120
        replace H := Option.bind_eq_some_iff.mp H
        obtain ⟨⟨t267, t268⟩, A130, H⟩ := H
        replace H : ((drawlotref12_Without.f a1 l2).bind fun bt271 => (if t259 = t261 then (if t260 = t262 then (if t263 = t265 then (if t264 = t266 then ((drawlotref09_Same.f k t267 bt271.1).bind fun t275 => (if t275 = true then (if t268 = bt271.2 then ((scan_Positive.f k y256).bind fun t276 => ((drawlotref12_Positive.f k l2).bind fun t277 => (if t276 = t277 then ((drawlotref09_Same.f k y256 l2).bind fun t278 => (some t278)) else (none)))) else (none)) else (none))) else (none)) else (none)) else (none)) else (none))) = some r := H
        have A13 := Aside0.mk A130
        clear A130
        replace H := Option.bind_eq_some_iff.mp H
        obtain ⟨⟨t271, t272⟩, A140, H⟩ := H
        replace H : (if t259 = t261 then (if t260 = t262 then (if t263 = t265 then (if t264 = t266 then ((drawlotref09_Same.f k t267 t271).bind fun t275 => (if t275 = true then (if t268 = t272 then ((scan_Positive.f k y256).bind fun t276 => ((drawlotref12_Positive.f k l2).bind fun t277 => (if t276 = t277 then ((drawlotref09_Same.f k y256 l2).bind fun t278 => (some t278)) else (none)))) else (none)) else (none))) else (none)) else (none)) else (none)) else (none)) = some r := H
        have A14 := Aside0.mk A140
        clear A140
        by_cases c15 : t259 = t261
        · rw [if_pos c15] at H
          have c15b0 : (t259 == t261) = true := beq_iff_eq.mpr c15
          have c15b1 : (t259 != t261) = false := bne_eq_false_iff_eq.mpr c15
          clear c15
          by_cases c16 : t260 = t262
          · rw [if_pos c16] at H
            have c16b0 : (t260 == t262) = true := beq_iff_eq.mpr c16
            have c16b1 : (t260 != t262) = false := bne_eq_false_iff_eq.mpr c16
            clear c16
            by_cases c17 : t263 = t265
            · rw [if_pos c17] at H
              have c17b0 : (t263 == t265) = true := beq_iff_eq.mpr c17
              have c17b1 : (t263 != t265) = false := bne_eq_false_iff_eq.mpr c17
              clear c17
              by_cases c18 : t264 = t266
              · rw [if_pos c18] at H
                have c18b0 : (t264 == t266) = true := beq_iff_eq.mpr c18
                have c18b1 : (t264 != t266) = false := bne_eq_false_iff_eq.mpr c18
                clear c18
                replace H := Option.bind_eq_some_iff.mp H
                obtain ⟨t275, A190, H⟩ := H
                replace H : (if t275 = true then (if t268 = t272 then ((scan_Positive.f k y256).bind fun t276 => ((drawlotref12_Positive.f k l2).bind fun t277 => (if t276 = t277 then ((drawlotref09_Same.f k y256 l2).bind fun t278 => (some t278)) else (none)))) else (none)) else (none)) = some r := H
                have A19 := Aside0.mk A190
                clear A190
                by_cases c20 : t275 = true
                · subst c20
                  have H1 : (if t268 = t272 then ((scan_Positive.f k y256).bind fun t276 => ((drawlotref12_Positive.f k l2).bind fun t277 => (if t276 = t277 then ((drawlotref09_Same.f k y256 l2).bind fun t278 => (some t278)) else (none)))) else (none)) = some r := by rw [if_pos rfl] at H; exact H
                  clear H
                  have H := H1
                  clear H1
                  by_cases c21 : t268 = t272
                  · rw [if_pos c21] at H
                    have c21b0 : (t268 == t272) = true := beq_iff_eq.mpr c21
                    have c21b1 : (t268 != t272) = false := bne_eq_false_iff_eq.mpr c21
                    clear c21
                    replace H := Option.bind_eq_some_iff.mp H
                    obtain ⟨t276, A220, H⟩ := H
                    replace H : ((drawlotref12_Positive.f k l2).bind fun t277 => (if t276 = t277 then ((drawlotref09_Same.f k y256 l2).bind fun t278 => (some t278)) else (none))) = some r := H
                    have A22 := Aside0.mk A220
                    clear A220
                    replace H := Option.bind_eq_some_iff.mp H
                    obtain ⟨t277, A230, H⟩ := H
                    replace H : (if t276 = t277 then ((drawlotref09_Same.f k y256 l2).bind fun t278 => (some t278)) else (none)) = some r := H
                    have A23 := Aside0.mk A230
                    clear A230
                    by_cases c24 : t276 = t277
                    · rw [if_pos c24] at H
                      have c24b0 : (t276 == t277) = true := beq_iff_eq.mpr c24
                      have c24b1 : (t276 != t277) = false := bne_eq_false_iff_eq.mpr c24
                      clear c24
                      replace H := Option.bind_eq_some_iff.mp H
                      obtain ⟨t278, A250, H⟩ := H
                      replace H : (some t278) = some r := H
                      have A25 := Aside0.mk A250
                      clear A250
                      obtain rfl := Option.some.inj H
                      go_enter Try.func7, Try.ntmps7
                      try simp only [List.append]
                      go_wp2_with (first | ((with_reducible refine gate_callee (f := 26) rfl ?_); refine goesL_ (some 20) rfl rfl Try.func26 (by kernel_rfl) rfl #[] rfl (by (try simp only [List.map_toArray, List.map_cons, List.map_nil]); first | done | rfl | (simp only [List.length_drop, List.length_take]; rfl)) ?_; (with_reducible refine (drawlotlaw12_alive.calls k  true _ A4.out).mono ?_); rintro e w26 ⟨rfl, hb⟩; refine ⟨_, rfl, ?_⟩; have n0_ := Aside0.mk (below_step (by repeat (first | (with_reducible first | exact HB.out | apply below_alloc | apply pw_below_drewN | apply below_drew1) | exact HB.out)) hb); clear HB; have HB := n0_; clear n0_; (try clear hb); (try clear hb2); (try clear hk); (try clear hi)) | ((with_reducible refine gate_dst (N := 25) rfl ?_); refine Kd.R_lit (Kd.int .u64) _ 22 ?hg (N := 25) ?hd (xs := ([] : List Int)) (inner := []) (ok := fun _ => True) (okp := fun _ => True) ?hr ?hp (fun _ hk => hk) trivial (Below.refl _ _) (Nat.le_refl _) (by simp) ?_; (case hd => rfl); (case hg => rfl); (case hr => first | (go_simp; done) | (go_simp; rfl)); (case hp => exact (Reps.none _ _)); intro v254 w27 ho28 hb hg_ hnew_; clear hg_ hnew_; (first | rw [← Ny253.out] at ho28 | (simp only [Int.reduceToNat] at ho28; rw [← Ny253.out] at ho28)); have n0_ := Aside0.mk (Kd.R_lower ho28 (below_size (by repeat (first | (with_reducible first | exact HB.out | apply below_alloc | apply pw_below_drewN | apply below_drew1) | exact HB.out)))); have n1_ := Aside0.mk (below_step (by repeat (first | (with_reducible first | exact HB.out | apply below_alloc | apply pw_below_drewN | apply below_drew1) | exact HB.out)) hb); clear HB; have HO255 := n0_; have HB := n1_; clear n0_ n1_; clear hb ho28) | ((with_reducible refine gate_builtin (b := .append) (xs := #[.tmp 25, .tmp 26]) rfl ?_); at_builtin; refine Kd.R_append_rows (Kd.int .u64) (w0 := w) w.heap.size rfl (.tmp 25) (.tmp 26) 28 22 (.int .u64 0) 8 rfl Try.underlying28 info22 rfl (by decide) (by omega) v254 y253 l2 _ _ _ (fun _ => True) (fun _ => False) rfl rfl ?aO ?aR (fun _ _ h => h) (fun _ h => h.elim) ?aF ?aB ?aS ?aL ?_; (case aR => repeat (first | exact (Kd.C_below HR2.out HB.out) | (with_reducible refine Kd.C_alloc ?_ _) | (with_reducible refine Kd.C_drewN ?_ _) | (with_reducible refine Kd.C_drew ?_))); (case aB => exact (by repeat (first | (with_reducible first | exact HB.out | apply below_alloc | apply pw_below_drewN | apply below_drew1) | exact HB.out))); (case aF => exact (fun _ _ => trivial)); (case aO => exact (by (with_reducible repeat (first | apply Kd.R_alloc | apply Kd.R_drewN | apply Kd.R_drew)); exact HO255.out)); (case aS => exact (below_size (by repeat (first | (with_reducible first | exact HB.out | apply below_alloc | apply pw_below_drewN | apply below_drew1) | exact HB.out)))); (case aL => have := LMc8.out; omega); intro v257 w29 ho hb hg hat; rw [← Ny256.out] at ho; have n0_ := Aside0.mk (hb); have n1_ := Aside0.mk (ho); clear HB; clear HO255; have HB := n0_; have HO258 := n1_; clear n0_ n1_; clear ho hb hg hat; obtain ⟨Ao30, co30, eo30⟩ := Kd.R_slice HO258.out; subst eo30) | ((with_reducible refine gate_callee (f := 27) rfl ?_); refine goesL_ (some 31) rfl rfl Try.func27 (by kernel_rfl) rfl #[.int .u64 a0, .slice Ao30 y256.length co30] rfl (by (try simp only [List.map_toArray, List.map_cons, List.map_nil]); first | done | rfl | (simp only [List.length_drop, List.length_take]; rfl)) ?_; (with_reducible refine (scan_Owner.calls k a0 _ _ y256 t259 t260 _ ?side1 ?side2 A9.out).mono ?_); (case side1 => repeat (first | exact (Kd.R_reads' HO258.out).2.2 | (with_reducible refine Kd.C_alloc ?_ _) | (with_reducible refine Kd.C_drewN ?_ _) | (with_reducible refine Kd.C_drew ?_))); (case side2 => exact (Kd.R_reads' HO258.out).2.1); rintro e w' ⟨rfl, ⟨nd, rfl⟩⟩; refine ⟨_, rfl, ?_⟩) | ((with_reducible refine gate_callee (f := 28) rfl ?_); refine goesL_ (some 37) rfl rfl Try.func28 (by kernel_rfl) rfl #[.int .u64 a0, .slice A2 l2.length c2] rfl (by (try simp only [List.map_toArray, List.map_cons, List.map_nil]); first | done | rfl | (simp only [List.length_drop, List.length_take]; rfl)) ?_; (with_reducible refine (drawlotref12_Owner.calls k a0 _ _ l2 t261 t262 _ ?side1 ?side2 A10.out).mono ?_); (case side1 => repeat (first | exact (Kd.C_below HR2.out (by repeat (first | (with_reducible first | exact HB.out | apply below_alloc | apply pw_below_drewN | apply below_drew1) | exact HB.out))) | (with_reducible refine Kd.C_alloc ?_ _) | (with_reducible refine Kd.C_drewN ?_ _) | (with_reducible refine Kd.C_drew ?_))); (case side2 => exact HC2.out); rintro e w' ⟨rfl, ⟨nd, rfl⟩⟩; refine ⟨_, rfl, ?_⟩) | ((with_reducible refine gate_callee (f := 29) rfl ?_); refine goesL_ (some 42) rfl rfl Try.func29 (by kernel_rfl) rfl #[.slice Ao30 y256.length co30] rfl (by (try simp only [List.map_toArray, List.map_cons, List.map_nil]); first | done | rfl | (simp only [List.length_drop, List.length_take]; rfl)) ?_; (with_reducible refine (scan_Total.calls k _ _ y256 t263 t264 _ ?side1 ?side2 A11.out).mono ?_); (case side1 => repeat (first | exact (Kd.R_reads' HO258.out).2.2 | (with_reducible refine Kd.C_alloc ?_ _) | (with_reducible refine Kd.C_drewN ?_ _) | (with_reducible refine Kd.C_drew ?_))); (case side2 => exact (Kd.R_reads' HO258.out).2.1); rintro e w' ⟨rfl, ⟨nd, rfl⟩⟩; refine ⟨_, rfl, ?_⟩) | ((with_reducible refine gate_callee (f := 30) rfl ?_); refine goesL_ (some 47) rfl rfl Try.func30 (by kernel_rfl) rfl #[.slice A2 l2.length c2] rfl (by (try simp only [List.map_toArray, List.map_cons, List.map_nil]); first | done | rfl | (simp only [List.length_drop, List.length_take]; rfl)) ?_; (with_reducible refine (drawlotref12_Total.calls k _ _ l2 t265 t266 _ ?side1 ?side2 A12.out).mono ?_); (case side1 => repeat (first | exact (Kd.C_below HR2.out (by repeat (first | (with_reducible first | exact HB.out | apply below_alloc | apply pw_below_drewN | apply below_drew1) | exact HB.out))) | (with_reducible refine Kd.C_alloc ?_ _) | (with_reducible refine Kd.C_drewN ?_ _) | (with_reducible refine Kd.C_drew ?_))); (case side2 => exact HC2.out); rintro e w' ⟨rfl, ⟨nd, rfl⟩⟩; refine ⟨_, rfl, ?_⟩) | ((with_reducible refine gate_callee (f := 31) rfl ?_); refine goesL_ (some 53) rfl rfl Try.func31 (by kernel_rfl) rfl #[.int .i64 a1, .slice Ao30 y256.length co30] rfl (by (try simp only [List.map_toArray, List.map_cons, List.map_nil]); first | done | rfl | (simp only [List.length_drop, List.length_take]; rfl)) ?_; (with_reducible refine (scan_Without.calls a1 _ _ y256 t267 t268 _ ?side1 ?side2 A13.out).mono ?_); (case side1 => repeat (first | exact (Kd.R_reads' HO258.out).2.2 | (with_reducible refine Kd.C_alloc ?_ _) | (with_reducible refine Kd.C_drewN ?_ _) | (with_reducible refine Kd.C_drew ?_))); (case side2 => exact (Kd.R_reads' HO258.out).2.1); rintro e w31 ⟨v269, rfl, ho0, hb⟩; refine ⟨_, rfl, ?_⟩; have n0_ := Aside0.mk (Kd.R_elder' (by (with_reducible repeat (first | apply Kd.R_alloc | apply Kd.R_drewN | apply Kd.R_drew)); exact HO258.out) (Kd.R_base ho0) hb); have n1_ := Aside0.mk (Kd.R_lower (Kd.R_new' ho0 (Kd.R_lt (by (with_reducible repeat (first | apply Kd.R_alloc | apply Kd.R_drewN | apply Kd.R_drew)); exact HO258.out))) (below_size (by repeat (first | (with_reducible first | exact HB.out | apply below_alloc | apply pw_below_drewN | apply below_drew1) | exact HB.out)))); have n2_ := Aside0.mk (below_step (by repeat (first | (with_reducible first | exact HB.out | apply below_alloc | apply pw_below_drewN | apply below_drew1) | exact HB.out)) hb); clear HO258; clear HB; have HO258 := n0_; have HO270 := n1_; have HB := n2_; clear n0_ n1_ n2_; (try clear hb); (try clear hb2); (try clear hk); (try clear hi); (try clear ho0)) | ((with_reducible refine gate_callee (f := 32) rfl ?_); refine goesL_ (some 59) rfl rfl Try.func32 (by kernel_rfl) rfl #[.int .i64 a1, .slice A2 l2.length c2] rfl (by (try simp only [List.map_toArray, List.map_cons, List.map_nil]); first | done | rfl | (simp only [List.length_drop, List.length_take]; rfl)) ?_; (with_reducible refine (drawlotref12_Without.calls a1 _ _ l2 t271 t272 _ ?side1 ?side2 A14.out).mono ?_); (case side1 => repeat (first | exact (Kd.C_below HR2.out HB.out) | (with_reducible refine Kd.C_alloc ?_ _) | (with_reducible refine Kd.C_drewN ?_ _) | (with_reducible refine Kd.C_drew ?_))); (case side2 => exact HC2.out); rintro e w32 ⟨v273, rfl, ho0, hb⟩; refine ⟨_, rfl, ?_⟩; have n0_ := Aside0.mk (Kd.R_elder' (by (with_reducible repeat (first | apply Kd.R_alloc | apply Kd.R_drewN | apply Kd.R_drew)); exact HO258.out) (Kd.R_base ho0) hb); have n1_ := Aside0.mk (Kd.R_elder' (by (with_reducible repeat (first | apply Kd.R_alloc | apply Kd.R_drewN | apply Kd.R_drew)); exact HO270.out) (Kd.R_base ho0) hb); have n2_ := Aside0.mk (Kd.R_lower (Kd.R_new' (Kd.R_new' ho0 (Kd.R_lt (by (with_reducible repeat (first | apply Kd.R_alloc | apply Kd.R_drewN | apply Kd.R_drew)); exact HO258.out))) (Kd.R_lt (by (with_reducible repeat (first | apply Kd.R_alloc | apply Kd.R_drewN | apply Kd.R_drew)); exact HO270.out))) (below_size (by repeat (first | (with_reducible first | exact HB.out | apply below_alloc | apply pw_below_drewN | apply below_drew1) | exact HB.out)))); have n3_ := Aside0.mk (below_step (by repeat (first | (with_reducible first | exact HB.out | apply below_alloc | apply pw_below_drewN | apply below_drew1) | exact HB.out)) hb); clear HO258; clear HO270; clear HB; have HO258 := n0_; have HO270 := n1_; have HO274 := n2_; have HB := n3_; clear n0_ n1_ n2_ n3_; (try clear hb); (try clear hb2); (try clear hk); (try clear hi); (try clear ho0); obtain ⟨Ao33, co33, eo33⟩ := Kd.R_slice HO270.out; subst eo33; obtain ⟨Ao34, co34, eo34⟩ := Kd.R_slice HO274.out; subst eo34) | (go_at_call 25; (with_reducible refine (drawlotref09_Same.calls k _ _ t267 _ _ t271 true _ ?side1 ?side2 ?side3 ?side4 A19.out).mono ?_); (case side1 => repeat (first | exact (Kd.R_reads' HO270.out).2.2 | (with_reducible refine Kd.C_alloc ?_ _) | (with_reducible refine Kd.C_drewN ?_ _) | (with_reducible refine Kd.C_drew ?_))); (case side2 => exact (Kd.R_reads' HO270.out).2.1); (case side3 => repeat (first | exact (Kd.R_reads' HO274.out).2.2 | (with_reducible refine Kd.C_alloc ?_ _) | (with_reducible refine Kd.C_drewN ?_ _) | (with_reducible refine Kd.C_drew ?_))); (case side4 => exact (Kd.R_reads' HO274.out).2.1); rintro e w' ⟨rfl, ⟨nd, rfl⟩⟩) | (go_at_call 33; (with_reducible refine (scan_Positive.calls k _ _ y256 t276 _ ?side1 ?side2 A22.out).mono ?_); (case side1 => repeat (first | exact (Kd.R_reads' HO258.out).2.2 | (with_reducible refine Kd.C_alloc ?_ _) | (with_reducible refine Kd.C_drewN ?_ _) | (with_reducible refine Kd.C_drew ?_))); (case side2 => exact (Kd.R_reads' HO258.out).2.1); rintro e w' ⟨rfl, ⟨nd, rfl⟩⟩) | (go_at_call 34; (with_reducible refine (drawlotref12_Positive.calls k _ _ l2 t277 _ ?side1 ?side2 A23.out).mono ?_); (case side1 => repeat (first | exact (Kd.C_below HR2.out (by repeat (first | (with_reducible first | exact HB.out | apply below_alloc | apply pw_below_drewN | apply below_drew1) | exact HB.out))) | (with_reducible refine Kd.C_alloc ?_ _) | (with_reducible refine Kd.C_drewN ?_ _) | (with_reducible refine Kd.C_drew ?_))); (case side2 => exact HC2.out); rintro e w' ⟨rfl, ⟨nd, rfl⟩⟩) | (go_at_call 25; (with_reducible refine (drawlotref09_Same.calls k _ _ y256 _ _ l2 t278 _ ?side1 ?side2 ?side3 ?side4 A25.out).mono ?_); (case side1 => repeat (first | exact (Kd.R_reads' HO258.out).2.2 | (with_reducible refine Kd.C_alloc ?_ _) | (with_reducible refine Kd.C_drewN ?_ _) | (with_reducible refine Kd.C_drew ?_))); (case side2 => exact (Kd.R_reads' HO258.out).2.1); (case side3 => repeat (first | exact (Kd.C_below HR2.out (by repeat (first | (with_reducible first | exact HB.out | apply below_alloc | apply pw_below_drewN | apply below_drew1) | exact HB.out))) | (with_reducible refine Kd.C_alloc ?_ _) | (with_reducible refine Kd.C_drewN ?_ _) | (with_reducible refine Kd.C_drew ?_))); (case side4 => exact HC2.out); rintro e w' ⟨rfl, ⟨nd, rfl⟩⟩))
                      go_ret
                      exact ⟨by first | rfl | (simp [errW_none, errW_some] <;> rfl) | (simp [*, errW_none, errW_some] <;> rfl), by repeat (first | (with_reducible first | exact HB.out | apply below_alloc | apply pw_below_drewN | apply below_drew1) | exact HB.out)⟩
                    · rw [if_neg c24] at H
                      exact absurd H (by simp)
                  · rw [if_neg c21] at H
                    exact absurd H (by simp)
                · replace c20 := Bool.eq_false_iff.mpr c20
                  subst c20
                  have H1 : (none) = some r := by rw [if_neg (show ¬ (false = true) by decide)] at H; exact H
                  clear H
                  have H := H1
                  clear H1
                  exact absurd H (by simp)
              · rw [if_neg c18] at H
                exact absurd H (by simp)
            · rw [if_neg c17] at H
              exact absurd H (by simp)
          · rw [if_neg c16] at H
            exact absurd H (by simp)
        · rw [if_neg c15] at H
          exact absurd H (by simp)
      · rw [if_neg c8] at H
        exact absurd H (by simp)
  · replace c5 := Bool.eq_false_iff.mpr c5
    subst c5
    have H1 : (none) = some r := by rw [if_neg (show ¬ (false = true) by decide)] at H; exact H
    clear H
    have H := H1
    clear H1
    exact absurd H (by simp)

/-- THE ONE PURE STATEMENT of drawlotlaw12_ScanTells: yours. -/
def drawlotlaw12_ScanTells.Pure : Prop := ∀ (a0 : Int) (a1 : Int) (l2 : List Int), (Lit.int .u64 a0).wf = true → (Lit.int .i64 a1).wf = true → l2.length ≤ maxLen → l2.length * 8 ≤ 140737488351232 → (∀ x ∈ l2, (Lit.int .u64 x).wf = true) → ∃ k, drawlotlaw12_ScanTells.f k a0 a1 l2 = some true
theorem drawlotlaw12_ScanTells.walk (P : drawlotlaw12_ScanTells.Pure) (a0 : Int) (a1 : Int) (a2 : Option Addr) (len2 cap2 : Nat) (z2 : List Int) (w : World) (w0 : (Lit.int .u64 a0).wf = true) (w1 : (Lit.int .i64 a1).wf = true) (w2 : (a2 = none ∧ len2 = 0 ∧ cap2 = 0 ∧ z2 = []) ∨ ∃ x, a2 = some x ∧ len2 ≤ cap2 ∧ cap2 ≤ maxLen ∧ z2.length = cap2 ∧ (∀ i, i < z2.length → w.cell? (x.add i) = some (.int .u64 (z2.getD i 0))) ∧ ∀ n ∈ z2, (Lit.int .u64 n).wf = true) (y2 : len2 * 8 ≤ 140737488351232) :
    Calls Try.prog 7 #[.int .u64 a0, .int .i64 a1, .slice a2 len2 cap2] w fun e w' => e = .returned (.bool true) ∧ Below w.heap.size w w' := by
  obtain ⟨l2, rfl, hr2, hm2, hw2, hc2⟩ := ReadsInt.ofRowC w2
  obtain ⟨k, h⟩ := P a0 a1 l2 w0 w1 hm2 y2 hw2
  refine (drawlotlaw12_ScanTells.calls k a0 a1 _ _ l2 true w (Kd.C_of_reads (d := (0 : Int)) (h1 := fun _ => rfl) hr2) hc2 h).mono ?_
  rintro e w' ⟨rfl, hd⟩
  exact ⟨rfl, hd⟩

end Go.Proofs.Ytngacagfmpndmaa.PF
