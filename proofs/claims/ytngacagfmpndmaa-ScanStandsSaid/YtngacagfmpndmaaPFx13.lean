/- Written by xprint.py, this session's own driver, for the seat Ytngacagfmpndmaa: contracts of Go functions, each saying that a call answers what a plain Lean function of the same name says, and, in a text named Law, the row of a law: its Go function answers true for every input. No conditions. -/
import Derived.Test.YtngacagfmpndmaaPFx0
import Derived.Test.YtngacagfmpndmaaPFx2
namespace Go.Proofs.Ytngacagfmpndmaa.PF
open Go.RowKit Go.Proofs.YtngacagfmpndmaaW.PrintWords Go.Proofs.YtngacagfmpndmaaW.PrintLast Go.Proofs.YtngacagfmpndmaaW.PrintMore
attribute [local go_sem] max2_int min2_int max_two min_two max_three min_three max_four min_four   -- for this text's walks alone
set_option linter.unusedVariables false
set_option linter.unusedSimpArgs false

/-! ### drawlotlaw12_ScanStands: function 8 -/
def drawlotlaw12_ScanStands.f (k : Nat) (a0 : Int) (l1 : List Int) : Option (Bool) := (drawlotlaw12_alive.f k).bind fun t279 => (if t279 = true then (if (l1.length : Int) > 300 then (some true) else ((scan_Owner.f k a0 l1).bind fun bt280 => (if bt280.2 = 0 then (if bt280.1 < 0 then (none) else (if bt280.1 ≥ (l1.length : Int) then (none) else (if 0 ≤ bt280.1 then (if bt280.1 ≤ (l1.length : Int) then ((scan_Total.f k (l1.take (bt280.1 : Int).toNat)).bind fun bt283 => (if 0 ≤ (wrap64 (bt280.1 + 1)) then (if (wrap64 (bt280.1 + 1)) ≤ (l1.length : Int) then ((scan_Total.f k (l1.take ((wrap64 (bt280.1 + 1)) : Int).toNat)).bind fun bt286 => ((scan_Without.f bt280.1 l1).bind fun bt288 => (if bt283.2 = 0 then (if bt286.2 = 0 then (if bt288.2 = 0 then (if bt283.1 ≤ a0 then (if a0 < bt286.1 then ((scan_Positive.f k bt288.1).bind fun t292 => ((scan_Positive.f k l1).bind fun t293 => (some (t292 == (wrap64 (t293 - 1)))))) else (none)) else (none)) else (none)) else (none)) else (none)))) else (none)) else (none))) else (none)) else (none)))) else (some (bt280.1 == 0))))) else (none))
theorem drawlotlaw12_ScanStands.mono : ∀ a0 a1 k, LeO (drawlotlaw12_ScanStands.f k a0 a1) (drawlotlaw12_ScanStands.f (k + 1) a0 a1) := by
  intro a0 a1 k
  unfold drawlotlaw12_ScanStands.f
  repeat' first
      | (with_reducible exact drawlotlaw12_alive.mono _)
      | (with_reducible exact scan_Owner.mono _ _ _)
      | (with_reducible exact scan_Positive.mono _ _)
      | (with_reducible exact scan_Total.mono _ _)
      | (with_reducible exact LeO.refl _)
      | (with_reducible exact LeO.none _)
      | (with_reducible refine LeO.ite ?_ ?_)
      | (with_reducible refine LeO.bind ?_ (fun _ => ?_))
      | exact drawlotlaw12_alive.mono _
      | exact scan_Owner.mono _ _ _
      | exact scan_Positive.mono _ _
      | exact scan_Total.mono _ _
      | exact LeO.none _
      | refine LeO.ite ?_ ?_
      | refine LeO.bind ?_ (fun _ => ?_)
set_option maxHeartbeats 8000000 in
set_option maxRecDepth 100000 in
theorem drawlotlaw12_ScanStands.calls (k : Nat) (a0 : Int) (A1 : Option Addr) (c1 : Nat) (l1 : List Int) (r : Bool) (w : World) (hr1 : Kd.C (Kd.int .u64) w A1 l1.length l1) (hc1 : l1.length ≤ c1) (h : drawlotlaw12_ScanStands.f k a0 l1 = some r) :
    Calls Try.prog 8 #[.int .u64 a0, .slice A1 l1.length c1] w fun e w' => e = .returned (.bool r) ∧ Below w.heap.size w w' := by
  have HR1 := Aside0.mk hr1
  have HC1 := Aside0.mk hc1
  clear hr1 hc1
  have HB := Aside0.mk (Below.refl w.heap.size w)
  have H : ((drawlotlaw12_alive.f k).bind fun t279 => (if t279 = true then (if (l1.length : Int) > 300 then (some true) else ((scan_Owner.f k a0 l1).bind fun bt280 => (if bt280.2 = 0 then (if bt280.1 < 0 then (none) else (if bt280.1 ≥ (l1.length : Int) then (none) else (if 0 ≤ bt280.1 then (if bt280.1 ≤ (l1.length : Int) then ((scan_Total.f k (l1.take (bt280.1 : Int).toNat)).bind fun bt283 => (if 0 ≤ (wrap64 (bt280.1 + 1)) then (if (wrap64 (bt280.1 + 1)) ≤ (l1.length : Int) then ((scan_Total.f k (l1.take ((wrap64 (bt280.1 + 1)) : Int).toNat)).bind fun bt286 => ((scan_Without.f bt280.1 l1).bind fun bt288 => (if bt283.2 = 0 then (if bt286.2 = 0 then (if bt288.2 = 0 then (if bt283.1 ≤ a0 then (if a0 < bt286.1 then ((scan_Positive.f k bt288.1).bind fun t292 => ((scan_Positive.f k l1).bind fun t293 => (some (t292 == (wrap64 (t293 - 1)))))) else (none)) else (none)) else (none)) else (none)) else (none)))) else (none)) else (none))) else (none)) else (none)))) else (some (bt280.1 == 0))))) else (none))) = some r := h
  clear h
  replace H := Option.bind_eq_some_iff.mp H
  obtain ⟨t279, A30, H⟩ := H
  replace H : (if t279 = true then (if (l1.length : Int) > 300 then (some true) else ((scan_Owner.f k a0 l1).bind fun bt280 => (if bt280.2 = 0 then (if bt280.1 < 0 then (none) else (if bt280.1 ≥ (l1.length : Int) then (none) else (if 0 ≤ bt280.1 then (if bt280.1 ≤ (l1.length : Int) then ((scan_Total.f k (l1.take (bt280.1 : Int).toNat)).bind fun bt283 => (if 0 ≤ (wrap64 (bt280.1 + 1)) then (if (wrap64 (bt280.1 + 1)) ≤ (l1.length : Int) then ((scan_Total.f k (l1.take ((wrap64 (bt280.1 + 1)) : Int).toNat)).bind fun bt286 => ((scan_Without.f bt280.1 l1).bind fun bt288 => (if bt283.2 = 0 then (if bt286.2 = 0 then (if bt288.2 = 0 then (if bt283.1 ≤ a0 then (if a0 < bt286.1 then ((scan_Positive.f k bt288.1).bind fun t292 => ((scan_Positive.f k l1).bind fun t293 => (some (t292 == (wrap64 (t293 - 1)))))) else (none)) else (none)) else (none)) else (none)) else (none)))) else (none)) else (none))) else (none)) else (none)))) else (some (bt280.1 == 0))))) else (none)) = some r := H
  have A3 := Aside0.mk A30
  clear A30
  by_cases c4 : t279 = true
  · subst c4
    have H1 : (if (l1.length : Int) > 300 then (some true) else ((scan_Owner.f k a0 l1).bind fun bt280 => (if bt280.2 = 0 then (if bt280.1 < 0 then (none) else (if bt280.1 ≥ (l1.length : Int) then (none) else (if 0 ≤ bt280.1 then (if bt280.1 ≤ (l1.length : Int) then ((scan_Total.f k (l1.take (bt280.1 : Int).toNat)).bind fun bt283 => (if 0 ≤ (wrap64 (bt280.1 + 1)) then (if (wrap64 (bt280.1 + 1)) ≤ (l1.length : Int) then ((scan_Total.f k (l1.take ((wrap64 (bt280.1 + 1)) : Int).toNat)).bind fun bt286 => ((scan_Without.f bt280.1 l1).bind fun bt288 => (if bt283.2 = 0 then (if bt286.2 = 0 then (if bt288.2 = 0 then (if bt283.1 ≤ a0 then (if a0 < bt286.1 then ((scan_Positive.f k bt288.1).bind fun t292 => ((scan_Positive.f k l1).bind fun t293 => (some (t292 == (wrap64 (t293 - 1)))))) else (none)) else (none)) else (none)) else (none)) else (none)))) else (none)) else (none))) else (none)) else (none)))) else (some (bt280.1 == 0))))) = some r := by rw [if_pos rfl] at H; exact H
    clear H
    have H := H1
    clear H1
    by_cases c5 : (l1.length : Int) > 300
    · rw [if_pos c5] at H
      have c5b0 : decide (300 < (l1.length : Int)) = true := decide_eq_true c5
      have c5b1 : decide (300 < l1.length) = true := decide_eq_true (by omega)
      clear c5
      obtain rfl := Option.some.inj H
      go_enter Try.func8, Try.ntmps8
      try simp only [List.append]
      go_wp2_with (first | ((with_reducible refine gate_callee (f := 26) rfl ?_); refine goesL_ (some 13) rfl rfl Try.func26 (by kernel_rfl) rfl #[] rfl (by (try simp only [List.map_toArray, List.map_cons, List.map_nil]); first | done | rfl | (simp only [List.length_drop, List.length_take]; rfl)) ?_; (with_reducible refine (drawlotlaw12_alive.calls k  true _ A3.out).mono ?_); rintro e w6 ⟨rfl, hb⟩; refine ⟨_, rfl, ?_⟩; have n0_ := Aside0.mk (below_step (by repeat (first | (with_reducible first | exact HB.out | apply below_alloc | apply pw_below_drewN | apply below_drew1) | exact HB.out)) hb); clear HB; have HB := n0_; clear n0_; (try clear hb); (try clear hb2); (try clear hk); (try clear hi)))
      go_ret
      exact ⟨by first | rfl | (simp [errW_none, errW_some] <;> rfl) | (simp [*, errW_none, errW_some] <;> rfl), by repeat (first | (with_reducible first | exact HB.out | apply below_alloc | apply pw_below_drewN | apply below_drew1) | exact HB.out)⟩
    · rw [if_neg c5] at H
      have c5b0 : decide (300 < (l1.length : Int)) = false := decide_eq_false c5
      have c5b1 : decide (300 < l1.length) = false := decide_eq_false (by omega)
      clear c5
      replace H := Option.bind_eq_some_iff.mp H
      obtain ⟨⟨t280, t281⟩, A70, H⟩ := H
      replace H : (if t281 = 0 then (if t280 < 0 then (none) else (if t280 ≥ (l1.length : Int) then (none) else (if 0 ≤ t280 then (if t280 ≤ (l1.length : Int) then ((scan_Total.f k (l1.take (t280 : Int).toNat)).bind fun bt283 => (if 0 ≤ (wrap64 (t280 + 1)) then (if (wrap64 (t280 + 1)) ≤ (l1.length : Int) then ((scan_Total.f k (l1.take ((wrap64 (t280 + 1)) : Int).toNat)).bind fun bt286 => ((scan_Without.f t280 l1).bind fun bt288 => (if bt283.2 = 0 then (if bt286.2 = 0 then (if bt288.2 = 0 then (if bt283.1 ≤ a0 then (if a0 < bt286.1 then ((scan_Positive.f k bt288.1).bind fun t292 => ((scan_Positive.f k l1).bind fun t293 => (some (t292 == (wrap64 (t293 - 1)))))) else (none)) else (none)) else (none)) else (none)) else (none)))) else (none)) else (none))) else (none)) else (none)))) else (some (t280 == 0))) = some r := H
      have A7 := Aside0.mk A70
      clear A70
      by_cases c8 : t281 = 0
      · rw [if_pos c8] at H
        have c8b0 : (t281 == 0) = true := beq_iff_eq.mpr c8
        have c8b1 : (t281 != 0) = false := bne_eq_false_iff_eq.mpr c8
        clear c8
        by_cases c9 : t280 < 0
        · rw [if_pos c9] at H
          exact absurd H (by simp)
        · rw [if_neg c9] at H
          have c9b0 : decide (t280 < 0) = false := decide_eq_false c9
          clear c9
          by_cases c10 : t280 ≥ (l1.length : Int)
          · rw [if_pos c10] at H
            exact absurd H (by simp)
          · rw [if_neg c10] at H
            have c10b0 : decide ((l1.length : Int) ≤ t280) = false := decide_eq_false c10
            clear c10
            by_cases c11 : 0 ≤ t280
            · rw [if_pos c11] at H
              have c11b0 := eq_true c11
              have c11b1 : decide (0 ≤ t280) = true := decide_eq_true c11
              clear c11
              by_cases c12 : t280 ≤ (l1.length : Int)
              · rw [if_pos c12] at H
                have c12b0 := eq_true c12
                have c12b1 : decide (t280 ≤ (l1.length : Int)) = true := decide_eq_true c12
                clear c12
                replace H := Option.bind_eq_some_iff.mp H
                obtain ⟨⟨t283, t284⟩, A130, H⟩ := H
                replace H : (if 0 ≤ (wrap64 (t280 + 1)) then (if (wrap64 (t280 + 1)) ≤ (l1.length : Int) then ((scan_Total.f k (l1.take ((wrap64 (t280 + 1)) : Int).toNat)).bind fun bt286 => ((scan_Without.f t280 l1).bind fun bt288 => (if t284 = 0 then (if bt286.2 = 0 then (if bt288.2 = 0 then (if t283 ≤ a0 then (if a0 < bt286.1 then ((scan_Positive.f k bt288.1).bind fun t292 => ((scan_Positive.f k l1).bind fun t293 => (some (t292 == (wrap64 (t293 - 1)))))) else (none)) else (none)) else (none)) else (none)) else (none)))) else (none)) else (none)) = some r := H
                have A13 := Aside0.mk A130
                clear A130
                obtain ⟨ji14, hji14⟩ : ∃ j_ : Int, (wrap64 (t280 + 1)) = j_ := ⟨_, rfl⟩
                replace H : (if 0 ≤ (ji14) then (if (ji14) ≤ (l1.length : Int) then ((scan_Total.f k (l1.take ((ji14) : Int).toNat)).bind fun bt286 => ((scan_Without.f t280 l1).bind fun bt288 => (if t284 = 0 then (if bt286.2 = 0 then (if bt288.2 = 0 then (if t283 ≤ a0 then (if a0 < bt286.1 then ((scan_Positive.f k bt288.1).bind fun t292 => ((scan_Positive.f k l1).bind fun t293 => (some (t292 == (wrap64 (t293 - 1)))))) else (none)) else (none)) else (none)) else (none)) else (none)))) else (none)) else (none)) = some r := by first | (rw [hji14] at H; exact H) | (simp only [hji14] at H ⊢; exact H)
                (try rw [hji14] at A3)
                (try rw [hji14] at A7)
                (try rw [hji14] at A13)
                have hji14w : (IntKind.i64.wrap (t280 + 1)) = ji14 := (i64_w _).trans hji14
                by_cases c15 : 0 ≤ (ji14)
                · rw [if_pos c15] at H
                  have c15b0 := eq_true c15
                  have c15b1 : decide (0 ≤ (ji14)) = true := decide_eq_true c15
                  clear c15
                  by_cases c16 : (ji14) ≤ (l1.length : Int)
                  · rw [if_pos c16] at H
                    have c16b0 := eq_true c16
                    have c16b1 : decide ((ji14) ≤ (l1.length : Int)) = true := decide_eq_true c16
                    clear c16
                    replace H := Option.bind_eq_some_iff.mp H
                    obtain ⟨⟨t286, t287⟩, A170, H⟩ := H
                    replace H : ((scan_Without.f t280 l1).bind fun bt288 => (if t284 = 0 then (if t287 = 0 then (if bt288.2 = 0 then (if t283 ≤ a0 then (if a0 < t286 then ((scan_Positive.f k bt288.1).bind fun t292 => ((scan_Positive.f k l1).bind fun t293 => (some (t292 == (wrap64 (t293 - 1)))))) else (none)) else (none)) else (none)) else (none)) else (none))) = some r := H
                    have A17 := Aside0.mk A170
                    clear A170
                    replace H := Option.bind_eq_some_iff.mp H
                    obtain ⟨⟨t288, t289⟩, A180, H⟩ := H
                    replace H : (if t284 = 0 then (if t287 = 0 then (if t289 = 0 then (if t283 ≤ a0 then (if a0 < t286 then ((scan_Positive.f k t288).bind fun t292 => ((scan_Positive.f k l1).bind fun t293 => (some (t292 == (wrap64 (t293 - 1)))))) else (none)) else (none)) else (none)) else (none)) else (none)) = some r := H
                    have A18 := Aside0.mk A180
                    clear A180
                    by_cases c19 : t284 = 0
                    · rw [if_pos c19] at H
                      have c19b0 : (t284 == 0) = true := beq_iff_eq.mpr c19
                      have c19b1 : (t284 != 0) = false := bne_eq_false_iff_eq.mpr c19
                      clear c19
                      by_cases c20 : t287 = 0
                      · rw [if_pos c20] at H
                        have c20b0 : (t287 == 0) = true := beq_iff_eq.mpr c20
                        have c20b1 : (t287 != 0) = false := bne_eq_false_iff_eq.mpr c20
                        clear c20
                        by_cases c21 : t289 = 0
                        · rw [if_pos c21] at H
                          have c21b0 : (t289 == 0) = true := beq_iff_eq.mpr c21
                          have c21b1 : (t289 != 0) = false := bne_eq_false_iff_eq.mpr c21
                          clear c21
                          by_cases c22 : t283 ≤ a0
                          · rw [if_pos c22] at H
                            have c22b0 : decide (t283 ≤ a0) = true := decide_eq_true c22
                            clear c22
                            by_cases c23 : a0 < t286
                            · rw [if_pos c23] at H
                              have c23b0 : decide (a0 < t286) = true := decide_eq_true c23
                              clear c23
                              replace H := Option.bind_eq_some_iff.mp H
                              obtain ⟨t292, A240, H⟩ := H
                              replace H : ((scan_Positive.f k l1).bind fun t293 => (some (t292 == (wrap64 (t293 - 1))))) = some r := H
                              have A24 := Aside0.mk A240
                              clear A240
                              replace H := Option.bind_eq_some_iff.mp H
                              obtain ⟨t293, A250, H⟩ := H
                              replace H : (some (t292 == (wrap64 (t293 - 1)))) = some r := H
                              have A25 := Aside0.mk A250
                              clear A250
                              obtain rfl := Option.some.inj H
                              go_enter Try.func8, Try.ntmps8
                              try simp only [List.append]
                              go_wp2_with (first | ((with_reducible refine gate_callee (f := 26) rfl ?_); refine goesL_ (some 13) rfl rfl Try.func26 (by kernel_rfl) rfl #[] rfl (by (try simp only [List.map_toArray, List.map_cons, List.map_nil]); first | done | rfl | (simp only [List.length_drop, List.length_take]; rfl)) ?_; (with_reducible refine (drawlotlaw12_alive.calls k  true _ A3.out).mono ?_); rintro e w26 ⟨rfl, hb⟩; refine ⟨_, rfl, ?_⟩; have n0_ := Aside0.mk (below_step (by repeat (first | (with_reducible first | exact HB.out | apply below_alloc | apply pw_below_drewN | apply below_drew1) | exact HB.out)) hb); clear HB; have HB := n0_; clear n0_; (try clear hb); (try clear hb2); (try clear hk); (try clear hi)) | ((with_reducible refine gate_callee (f := 27) rfl ?_); refine goesL_ (some 21) rfl rfl Try.func27 (by kernel_rfl) rfl #[.int .u64 a0, .slice A1 l1.length c1] rfl (by (try simp only [List.map_toArray, List.map_cons, List.map_nil]); first | done | rfl | (simp only [List.length_drop, List.length_take]; rfl)) ?_; (with_reducible refine (scan_Owner.calls k a0 _ _ l1 t280 t281 _ ?side1 ?side2 A7.out).mono ?_); (case side1 => repeat (first | exact (Kd.C_below HR1.out HB.out) | (with_reducible refine Kd.C_alloc ?_ _) | (with_reducible refine Kd.C_drewN ?_ _) | (with_reducible refine Kd.C_drew ?_))); (case side2 => exact HC1.out); rintro e w' ⟨rfl, ⟨nd, rfl⟩⟩; refine ⟨_, rfl, ?_⟩; obtain ⟨i027, hi027, _, hsz27, _⟩ := info_parts info22; obtain ⟨hcut27, hA27, hC27⟩ := print_take_of (P := Try.prog) (Value.int .u64) 0 28 22 .i64 Try.underlying28 hi027 hsz27 A1 c1 l1 t280 (of_decide_eq_true (by first | (with_reducible assumption) | assumption)) (of_decide_eq_true (by first | (with_reducible assumption) | assumption)) HC1.out; have HR282 := Aside0.mk (Kd.C_of_reads (h1 := fun _ => rfl) (hA27 _ (Kd.reads_of_C HR1.out))); have HC282 := Aside0.mk hC27; clear hA27 hC27 hi027 hsz27) | ((with_reducible refine gate_callee (f := 29) rfl ?_); refine goesL_ (some 40) rfl rfl Try.func29 (by kernel_rfl) rfl #[.slice A1 (l1.take (t280 : Int).toNat).length c1] rfl (by (try simp only [List.map_toArray, List.map_cons, List.map_nil]); first | done | (rw [show (l1.take (t280 : Int).toNat).length = t280.toNat from (by rw [List.length_take]; have h_ : (t280 : Int) ≤ (l1.length : Int) := of_decide_eq_true (by first | (with_reducible assumption) | assumption); omega)] <;> rfl) | rfl | (simp only [List.length_drop, List.length_take]; rfl)) ?_; (with_reducible refine (scan_Total.calls k _ _ (l1.take (t280 : Int).toNat) t283 t284 _ ?side1 ?side2 A13.out).mono ?_); (case side1 => repeat (first | exact (Kd.C_below HR282.out (by repeat (first | (with_reducible first | exact HB.out | apply below_alloc | apply pw_below_drewN | apply below_drew1) | exact HB.out))) | (with_reducible refine Kd.C_alloc ?_ _) | (with_reducible refine Kd.C_drewN ?_ _) | (with_reducible refine Kd.C_drew ?_))); (case side2 => exact HC282.out); rintro e w' ⟨rfl, ⟨nd, rfl⟩⟩; refine ⟨_, rfl, ?_⟩; obtain ⟨i028, hi028, _, hsz28, _⟩ := info_parts info22; obtain ⟨hcut28, hA28, hC28⟩ := print_take_of (P := Try.prog) (Value.int .u64) 0 28 22 .i64 Try.underlying28 hi028 hsz28 A1 c1 l1 (ji14) (of_decide_eq_true (by first | (with_reducible assumption) | assumption)) (of_decide_eq_true (by first | (with_reducible assumption) | assumption)) HC1.out; have HR285 := Aside0.mk (Kd.C_of_reads (h1 := fun _ => rfl) (hA28 _ (Kd.reads_of_C HR1.out))); have HC285 := Aside0.mk hC28; clear hA28 hC28 hi028 hsz28) | ((with_reducible refine gate_callee (f := 29) rfl ?_); refine goesL_ (some 48) rfl rfl Try.func29 (by kernel_rfl) rfl #[.slice A1 (l1.take ((ji14) : Int).toNat).length c1] rfl (by (try simp only [List.map_toArray, List.map_cons, List.map_nil]); first | done | (rw [show (l1.take ((ji14) : Int).toNat).length = (ji14).toNat from (by rw [List.length_take]; have h_ : ((ji14) : Int) ≤ (l1.length : Int) := of_decide_eq_true (by first | (with_reducible assumption) | assumption); omega)] <;> rfl) | (simp only [hji14]; rfl) | rfl | (simp only [List.length_drop, List.length_take]; rfl)) ?_; (with_reducible refine (scan_Total.calls k _ _ (l1.take ((ji14) : Int).toNat) t286 t287 _ ?side1 ?side2 A17.out).mono ?_); (case side1 => repeat (first | exact (Kd.C_below HR285.out (by repeat (first | (with_reducible first | exact HB.out | apply below_alloc | apply pw_below_drewN | apply below_drew1) | exact HB.out))) | (with_reducible refine Kd.C_alloc ?_ _) | (with_reducible refine Kd.C_drewN ?_ _) | (with_reducible refine Kd.C_drew ?_))); (case side2 => exact HC285.out); rintro e w' ⟨rfl, ⟨nd, rfl⟩⟩; refine ⟨_, rfl, ?_⟩) | ((with_reducible refine gate_callee (f := 31) rfl ?_); refine goesL_ (some 54) rfl rfl Try.func31 (by kernel_rfl) rfl #[.int .i64 t280, .slice A1 l1.length c1] rfl (by (try simp only [List.map_toArray, List.map_cons, List.map_nil]); first | done | rfl | (simp only [List.length_drop, List.length_take]; rfl)) ?_; (with_reducible refine (scan_Without.calls t280 _ _ l1 t288 t289 _ ?side1 ?side2 A18.out).mono ?_); (case side1 => repeat (first | exact (Kd.C_below HR1.out (by repeat (first | (with_reducible first | exact HB.out | apply below_alloc | apply pw_below_drewN | apply below_drew1) | exact HB.out))) | (with_reducible refine Kd.C_alloc ?_ _) | (with_reducible refine Kd.C_drewN ?_ _) | (with_reducible refine Kd.C_drew ?_))); (case side2 => exact HC1.out); rintro e w29 ⟨v290, rfl, ho0, hb⟩; refine ⟨_, rfl, ?_⟩; have n0_ := Aside0.mk (Kd.R_lower ho0 (below_size (by repeat (first | (with_reducible first | exact HB.out | apply below_alloc | apply pw_below_drewN | apply below_drew1) | exact HB.out)))); have n1_ := Aside0.mk (below_step (by repeat (first | (with_reducible first | exact HB.out | apply below_alloc | apply pw_below_drewN | apply below_drew1) | exact HB.out)) hb); clear HB; have HO291 := n0_; have HB := n1_; clear n0_ n1_; (try clear hb); (try clear hb2); (try clear hk); (try clear hi); (try clear ho0); obtain ⟨Ao30, co30, eo30⟩ := Kd.R_slice HO291.out; subst eo30) | (go_at_call 33; (with_reducible refine (scan_Positive.calls k _ _ t288 t292 _ ?side1 ?side2 A24.out).mono ?_); (case side1 => repeat (first | exact (Kd.R_reads' HO291.out).2.2 | (with_reducible refine Kd.C_alloc ?_ _) | (with_reducible refine Kd.C_drewN ?_ _) | (with_reducible refine Kd.C_drew ?_))); (case side2 => exact (Kd.R_reads' HO291.out).2.1); rintro e w' ⟨rfl, ⟨nd, rfl⟩⟩) | (go_at_call 33; (with_reducible refine (scan_Positive.calls k _ _ l1 t293 _ ?side1 ?side2 A25.out).mono ?_); (case side1 => repeat (first | exact (Kd.C_below HR1.out (by repeat (first | (with_reducible first | exact HB.out | apply below_alloc | apply pw_below_drewN | apply below_drew1) | exact HB.out))) | (with_reducible refine Kd.C_alloc ?_ _) | (with_reducible refine Kd.C_drewN ?_ _) | (with_reducible refine Kd.C_drew ?_))); (case side2 => exact HC1.out); rintro e w' ⟨rfl, ⟨nd, rfl⟩⟩))
                              go_ret
                              exact ⟨by first | rfl | (simp [errW_none, errW_some] <;> rfl) | (simp only [← hji14]; first | rfl | (simp [errW_none, errW_some] <;> rfl)) | (simp [*, errW_none, errW_some] <;> rfl), by repeat (first | (with_reducible first | exact HB.out | apply below_alloc | apply pw_below_drewN | apply below_drew1) | exact HB.out)⟩
                            · rw [if_neg c23] at H
                              exact absurd H (by simp)
                          · rw [if_neg c22] at H
                            exact absurd H (by simp)
                        · rw [if_neg c21] at H
                          exact absurd H (by simp)
                      · rw [if_neg c20] at H
                        exact absurd H (by simp)
                    · rw [if_neg c19] at H
                      exact absurd H (by simp)
                  · rw [if_neg c16] at H
                    exact absurd H (by simp)
                · rw [if_neg c15] at H
                  exact absurd H (by simp)
              · rw [if_neg c12] at H
                exact absurd H (by simp)
            · rw [if_neg c11] at H
              exact absurd H (by simp)
      · rw [if_neg c8] at H
        have c8b0 : (t281 == 0) = false := beq_eq_false_iff_ne.mpr c8
        have c8b1 : (t281 != 0) = true := bne_iff_ne.mpr c8
        obtain rfl := Option.some.inj H
        go_enter Try.func8, Try.ntmps8
        try simp only [List.append]
        go_wp2_with (first | ((with_reducible refine gate_callee (f := 26) rfl ?_); refine goesL_ (some 13) rfl rfl Try.func26 (by kernel_rfl) rfl #[] rfl (by (try simp only [List.map_toArray, List.map_cons, List.map_nil]); first | done | rfl | (simp only [List.length_drop, List.length_take]; rfl)) ?_; (with_reducible refine (drawlotlaw12_alive.calls k  true _ A3.out).mono ?_); rintro e w31 ⟨rfl, hb⟩; refine ⟨_, rfl, ?_⟩; have n0_ := Aside0.mk (below_step (by repeat (first | (with_reducible first | exact HB.out | apply below_alloc | apply pw_below_drewN | apply below_drew1) | exact HB.out)) hb); clear HB; have HB := n0_; clear n0_; (try clear hb); (try clear hb2); (try clear hk); (try clear hi)) | ((with_reducible refine gate_callee (f := 27) rfl ?_); refine goesL_ (some 21) rfl rfl Try.func27 (by kernel_rfl) rfl #[.int .u64 a0, .slice A1 l1.length c1] rfl (by (try simp only [List.map_toArray, List.map_cons, List.map_nil]); first | done | rfl | (simp only [List.length_drop, List.length_take]; rfl)) ?_; (with_reducible refine (scan_Owner.calls k a0 _ _ l1 t280 t281 _ ?side1 ?side2 A7.out).mono ?_); (case side1 => repeat (first | exact (Kd.C_below HR1.out HB.out) | (with_reducible refine Kd.C_alloc ?_ _) | (with_reducible refine Kd.C_drewN ?_ _) | (with_reducible refine Kd.C_drew ?_))); (case side2 => exact HC1.out); rintro e w' ⟨rfl, ⟨nd, rfl⟩⟩; refine ⟨_, rfl, ?_⟩))
        go_ret
        exact ⟨by first | rfl | (simp [errW_none, errW_some] <;> rfl) | (simp [*, errW_none, errW_some] <;> rfl), by repeat (first | (with_reducible first | exact HB.out | apply below_alloc | apply pw_below_drewN | apply below_drew1) | exact HB.out)⟩
  · replace c4 := Bool.eq_false_iff.mpr c4
    subst c4
    have H1 : (none) = some r := by rw [if_neg (show ¬ (false = true) by decide)] at H; exact H
    clear H
    have H := H1
    clear H1
    exact absurd H (by simp)

/-- THE ONE PURE STATEMENT of drawlotlaw12_ScanStands: yours. -/
def drawlotlaw12_ScanStands.Pure : Prop := ∀ (a0 : Int) (l1 : List Int), (Lit.int .u64 a0).wf = true → l1.length ≤ maxLen → l1.length * 8 ≤ 140737488351232 → (∀ x ∈ l1, (Lit.int .u64 x).wf = true) → ∃ k, drawlotlaw12_ScanStands.f k a0 l1 = some true
theorem drawlotlaw12_ScanStands.walk (P : drawlotlaw12_ScanStands.Pure) (a0 : Int) (a1 : Option Addr) (len1 cap1 : Nat) (z1 : List Int) (w : World) (w0 : (Lit.int .u64 a0).wf = true) (w1 : (a1 = none ∧ len1 = 0 ∧ cap1 = 0 ∧ z1 = []) ∨ ∃ x, a1 = some x ∧ len1 ≤ cap1 ∧ cap1 ≤ maxLen ∧ z1.length = cap1 ∧ (∀ i, i < z1.length → w.cell? (x.add i) = some (.int .u64 (z1.getD i 0))) ∧ ∀ n ∈ z1, (Lit.int .u64 n).wf = true) (y1 : len1 * 8 ≤ 140737488351232) :
    Calls Try.prog 8 #[.int .u64 a0, .slice a1 len1 cap1] w fun e w' => e = .returned (.bool true) ∧ Below w.heap.size w w' := by
  obtain ⟨l1, rfl, hr1, hm1, hw1, hc1⟩ := ReadsInt.ofRowC w1
  obtain ⟨k, h⟩ := P a0 l1 w0 hm1 y1 hw1
  refine (drawlotlaw12_ScanStands.calls k a0 _ _ l1 true w (Kd.C_of_reads (d := (0 : Int)) (h1 := fun _ => rfl) hr1) hc1 h).mono ?_
  rintro e w' ⟨rfl, hd⟩
  exact ⟨rfl, hd⟩

end Go.Proofs.Ytngacagfmpndmaa.PF
