/- Written by xprint.py, this session's own driver, for the seat Ytpkdpdbcgbeakaa: contracts of Go functions, each saying that a call answers what a plain Lean function of the same name says, and, in a text named Law, the row of a law: its Go function answers true for every input. No conditions. -/
import Derived.Test.YtpkdpdbcgbeakaaPWx0
import Derived.Test.YtpkdpdbcgbeakaaPWx1
namespace Go.Proofs.Ytpkdpdbcgbeakaa.PW
open Go.RowKit Go.Proofs.YtpkdpdbcgbeakaaW.PrintWords Go.Proofs.YtpkdpdbcgbeakaaW.PrintLast Go.Proofs.YtpkdpdbcgbeakaaW.PrintMore
attribute [local go_sem] max2_int min2_int max_two min_two max_three min_three max_four min_four   -- for this text's walks alone
set_option linter.unusedVariables false
set_option linter.unusedSimpArgs false

/-! ### drawlotlaw01_WordBack: function 5 -/
def drawlotlaw01_WordBack.f (k : Nat) (a0 : Int) (a1 : List Int) (a2 : Int) : Option (Bool) := (drawlotlaw01_alive.f k).bind fun t145 => (if t145 = true then ((word_Put64.f k a0).bind fun t146 => ((word_Get64.f k t146).bind fun t147 => (if t147 = a0 then ((word_Get64.f k a1).bind fun t148 => ((word_Put64.f k t148).bind fun t149 => (if (Ar.eqb 8 t149 a1) = true then ((word_Put32.f ((IntKind.u64.wrap (Int.tdiv a0 4294967296)) % 4294967296)).bind fun t150 => ((word_Get32.f k t150).bind fun t151 => (if t151 = ((IntKind.u64.wrap (Int.tdiv a0 4294967296)) % 4294967296) then ((word_Rotate.f ((IntKind.u64.wrap (Int.tdiv a0 4294967296)) % 4294967296) (wrap64 (a2))).bind fun t152 => ((word_Rotate.f t152 (wrap64 (-(wrap64 (a2))))).bind fun t153 => (some (t153 == ((IntKind.u64.wrap (Int.tdiv a0 4294967296)) % 4294967296))))) else (none)))) else (none)))) else (none)))) else (none))
theorem drawlotlaw01_WordBack.mono : ∀ a0 a1 a2 k, LeO (drawlotlaw01_WordBack.f k a0 a1 a2) (drawlotlaw01_WordBack.f (k + 1) a0 a1 a2) := by
  intro a0 a1 a2 k
  unfold drawlotlaw01_WordBack.f
  repeat' first
      | (with_reducible exact drawlotlaw01_alive.mono _)
      | (with_reducible exact word_Get32.mono _ _)
      | (with_reducible exact word_Get64.mono _ _)
      | (with_reducible exact word_Put64.mono _ _)
      | (with_reducible exact LeO.refl _)
      | (with_reducible exact LeO.none _)
      | (with_reducible refine LeO.ite ?_ ?_)
      | (with_reducible refine LeO.bind ?_ (fun _ => ?_))
      | exact drawlotlaw01_alive.mono _
      | exact word_Get32.mono _ _
      | exact word_Get64.mono _ _
      | exact word_Put64.mono _ _
      | exact LeO.none _
      | refine LeO.ite ?_ ?_
      | refine LeO.bind ?_ (fun _ => ?_)
def drawlotlaw01_WordBack.T4 : Bool × List (List Nat × List Nat) := (true, [([], []), ([0], [0]), ([1, 1], [1]), ([], []), ([2, 3], [2, 3]), ([4, 2], [4]), ([5], [5]), ([6, 5, 5], [5, 6]), ([7, 7, 5], [5, 7]), ([5], [5]), ([8, 9, 5], [5, 8, 9]), ([5, 10], [5, 10]), ([11, 8], [11]), ([12], [12]), ([13, 12, 12], [12, 13]), ([14, 14, 12], [12, 14]), ([12], [12]), ([15, 16, 12], [12, 15, 16]), ([12, 17], [12, 17]), ([18, 15], [18]), ([19], [19]), ([19], [19]), ([20, 21, 19, 19], [19, 20, 21]), ([19], [19]), ([23, 19], [19, 23]), ([22, 24, 22, 19], [19, 22, 24]), ([19], [19]), ([25, 26, 19], [19, 25, 26]), ([19, 27], [19, 27]), ([28, 25, 0, 1, 2, 3, 4, 5, 6, 7, 8, 9, 10, 11, 12, 13, 14, 15, 16, 17, 18, 19, 20, 21, 22, 23, 24, 25, 26, 27, 28], [28])])
def drawlotlaw01_WordBack.B4 : List Nat := [0, 1, 3, 0, 15, 31, 63, 127, 255, 63, 1023, 2047, 4095, 8191, 16383, 32767, 8191, 131071, 262143, 524287, 1048575, 1048575, 4194303, 1048575, 9437183, 33554431, 1048575, 134217727, 268435455, 536870911]
theorem drawlotlaw01_WordBack.tab4 : rtab .any (opsOf Try.f5 4) = drawlotlaw01_WordBack.T4 := by kernel_rfl
theorem drawlotlaw01_WordBack.bits4 : waitsOk drawlotlaw01_WordBack.T4.2 drawlotlaw01_WordBack.B4 = true := by kernel_rfl
set_option maxHeartbeats 8000000 in
set_option maxRecDepth 100000 in
theorem drawlotlaw01_WordBack.calls (k : Nat) (a0 : Int) (a1 : List Int) (a2 : Int) (r : Bool) (w : World) (h : drawlotlaw01_WordBack.f k a0 a1 a2 = some r) :
    Calls Try.prog 5 #[.int .u64 a0, .agg (Ar.cells .u8 8 a1), .int .u8 a2] w fun e w' => e = .returned (.bool r) ∧ Below w.heap.size w w' := by
  have HB := Aside0.mk (Below.refl w.heap.size w)
  have H : ((drawlotlaw01_alive.f k).bind fun t145 => (if t145 = true then ((word_Put64.f k a0).bind fun t146 => ((word_Get64.f k t146).bind fun t147 => (if t147 = a0 then ((word_Get64.f k a1).bind fun t148 => ((word_Put64.f k t148).bind fun t149 => (if (Ar.eqb 8 t149 a1) = true then ((word_Put32.f ((IntKind.u64.wrap (Int.tdiv a0 4294967296)) % 4294967296)).bind fun t150 => ((word_Get32.f k t150).bind fun t151 => (if t151 = ((IntKind.u64.wrap (Int.tdiv a0 4294967296)) % 4294967296) then ((word_Rotate.f ((IntKind.u64.wrap (Int.tdiv a0 4294967296)) % 4294967296) (wrap64 (a2))).bind fun t152 => ((word_Rotate.f t152 (wrap64 (-(wrap64 (a2))))).bind fun t153 => (some (t153 == ((IntKind.u64.wrap (Int.tdiv a0 4294967296)) % 4294967296))))) else (none)))) else (none)))) else (none)))) else (none))) = some r := h
  clear h
  replace H := Option.bind_eq_some_iff.mp H
  obtain ⟨t145, A40, H⟩ := H
  replace H : (if t145 = true then ((word_Put64.f k a0).bind fun t146 => ((word_Get64.f k t146).bind fun t147 => (if t147 = a0 then ((word_Get64.f k a1).bind fun t148 => ((word_Put64.f k t148).bind fun t149 => (if (Ar.eqb 8 t149 a1) = true then ((word_Put32.f ((IntKind.u64.wrap (Int.tdiv a0 4294967296)) % 4294967296)).bind fun t150 => ((word_Get32.f k t150).bind fun t151 => (if t151 = ((IntKind.u64.wrap (Int.tdiv a0 4294967296)) % 4294967296) then ((word_Rotate.f ((IntKind.u64.wrap (Int.tdiv a0 4294967296)) % 4294967296) (wrap64 (a2))).bind fun t152 => ((word_Rotate.f t152 (wrap64 (-(wrap64 (a2))))).bind fun t153 => (some (t153 == ((IntKind.u64.wrap (Int.tdiv a0 4294967296)) % 4294967296))))) else (none)))) else (none)))) else (none)))) else (none)) = some r := H
  have A4 := Aside0.mk A40
  clear A40
  by_cases c5 : t145 = true
  · subst c5
    have H1 : ((word_Put64.f k a0).bind fun t146 => ((word_Get64.f k t146).bind fun t147 => (if t147 = a0 then ((word_Get64.f k a1).bind fun t148 => ((word_Put64.f k t148).bind fun t149 => (if (Ar.eqb 8 t149 a1) = true then ((word_Put32.f ((IntKind.u64.wrap (Int.tdiv a0 4294967296)) % 4294967296)).bind fun t150 => ((word_Get32.f k t150).bind fun t151 => (if t151 = ((IntKind.u64.wrap (Int.tdiv a0 4294967296)) % 4294967296) then ((word_Rotate.f ((IntKind.u64.wrap (Int.tdiv a0 4294967296)) % 4294967296) (wrap64 (a2))).bind fun t152 => ((word_Rotate.f t152 (wrap64 (-(wrap64 (a2))))).bind fun t153 => (some (t153 == ((IntKind.u64.wrap (Int.tdiv a0 4294967296)) % 4294967296))))) else (none)))) else (none)))) else (none)))) = some r := by rw [if_pos rfl] at H; exact H
    clear H
    have H := H1
    clear H1
    replace H := Option.bind_eq_some_iff.mp H
    obtain ⟨t146, A60, H⟩ := H
    replace H : ((word_Get64.f k t146).bind fun t147 => (if t147 = a0 then ((word_Get64.f k a1).bind fun t148 => ((word_Put64.f k t148).bind fun t149 => (if (Ar.eqb 8 t149 a1) = true then ((word_Put32.f ((IntKind.u64.wrap (Int.tdiv a0 4294967296)) % 4294967296)).bind fun t150 => ((word_Get32.f k t150).bind fun t151 => (if t151 = ((IntKind.u64.wrap (Int.tdiv a0 4294967296)) % 4294967296) then ((word_Rotate.f ((IntKind.u64.wrap (Int.tdiv a0 4294967296)) % 4294967296) (wrap64 (a2))).bind fun t152 => ((word_Rotate.f t152 (wrap64 (-(wrap64 (a2))))).bind fun t153 => (some (t153 == ((IntKind.u64.wrap (Int.tdiv a0 4294967296)) % 4294967296))))) else (none)))) else (none)))) else (none))) = some r := H
    have A6 := Aside0.mk A60
    clear A60
    replace H := Option.bind_eq_some_iff.mp H
    obtain ⟨t147, A70, H⟩ := H
    replace H : (if t147 = a0 then ((word_Get64.f k a1).bind fun t148 => ((word_Put64.f k t148).bind fun t149 => (if (Ar.eqb 8 t149 a1) = true then ((word_Put32.f ((IntKind.u64.wrap (Int.tdiv a0 4294967296)) % 4294967296)).bind fun t150 => ((word_Get32.f k t150).bind fun t151 => (if t151 = ((IntKind.u64.wrap (Int.tdiv a0 4294967296)) % 4294967296) then ((word_Rotate.f ((IntKind.u64.wrap (Int.tdiv a0 4294967296)) % 4294967296) (wrap64 (a2))).bind fun t152 => ((word_Rotate.f t152 (wrap64 (-(wrap64 (a2))))).bind fun t153 => (some (t153 == ((IntKind.u64.wrap (Int.tdiv a0 4294967296)) % 4294967296))))) else (none)))) else (none)))) else (none)) = some r := H
    have A7 := Aside0.mk A70
    clear A70
    by_cases c8 : t147 = a0
    · rw [if_pos c8] at H
      have c8b0 : (t147 == a0) = true := beq_iff_eq.mpr c8
      have c8b1 : (t147 != a0) = false := bne_eq_false_iff_eq.mpr c8
      clear c8
      replace H := Option.bind_eq_some_iff.mp H
      obtain ⟨t148, A90, H⟩ := H
      replace H : ((word_Put64.f k t148).bind fun t149 => (if (Ar.eqb 8 t149 a1) = true then ((word_Put32.f ((IntKind.u64.wrap (Int.tdiv a0 4294967296)) % 4294967296)).bind fun t150 => ((word_Get32.f k t150).bind fun t151 => (if t151 = ((IntKind.u64.wrap (Int.tdiv a0 4294967296)) % 4294967296) then ((word_Rotate.f ((IntKind.u64.wrap (Int.tdiv a0 4294967296)) % 4294967296) (wrap64 (a2))).bind fun t152 => ((word_Rotate.f t152 (wrap64 (-(wrap64 (a2))))).bind fun t153 => (some (t153 == ((IntKind.u64.wrap (Int.tdiv a0 4294967296)) % 4294967296))))) else (none)))) else (none))) = some r := H
      have A9 := Aside0.mk A90
      clear A90
      replace H := Option.bind_eq_some_iff.mp H
      obtain ⟨t149, A100, H⟩ := H
      replace H : (if (Ar.eqb 8 t149 a1) = true then ((word_Put32.f ((IntKind.u64.wrap (Int.tdiv a0 4294967296)) % 4294967296)).bind fun t150 => ((word_Get32.f k t150).bind fun t151 => (if t151 = ((IntKind.u64.wrap (Int.tdiv a0 4294967296)) % 4294967296) then ((word_Rotate.f ((IntKind.u64.wrap (Int.tdiv a0 4294967296)) % 4294967296) (wrap64 (a2))).bind fun t152 => ((word_Rotate.f t152 (wrap64 (-(wrap64 (a2))))).bind fun t153 => (some (t153 == ((IntKind.u64.wrap (Int.tdiv a0 4294967296)) % 4294967296))))) else (none)))) else (none)) = some r := H
      have A10 := Aside0.mk A100
      clear A100
      by_cases c11 : (Ar.eqb 8 t149 a1) = true
      · rw [if_pos c11] at H
        have c11b0 : (Ar.eqb 8 t149 a1) = true := c11
        clear c11
        replace H := Option.bind_eq_some_iff.mp H
        obtain ⟨t150, A120, H⟩ := H
        replace H : ((word_Get32.f k t150).bind fun t151 => (if t151 = ((IntKind.u64.wrap (Int.tdiv a0 4294967296)) % 4294967296) then ((word_Rotate.f ((IntKind.u64.wrap (Int.tdiv a0 4294967296)) % 4294967296) (wrap64 (a2))).bind fun t152 => ((word_Rotate.f t152 (wrap64 (-(wrap64 (a2))))).bind fun t153 => (some (t153 == ((IntKind.u64.wrap (Int.tdiv a0 4294967296)) % 4294967296))))) else (none))) = some r := H
        have A12 := Aside0.mk A120
        clear A120
        replace H := Option.bind_eq_some_iff.mp H
        obtain ⟨t151, A130, H⟩ := H
        replace H : (if t151 = ((IntKind.u64.wrap (Int.tdiv a0 4294967296)) % 4294967296) then ((word_Rotate.f ((IntKind.u64.wrap (Int.tdiv a0 4294967296)) % 4294967296) (wrap64 (a2))).bind fun t152 => ((word_Rotate.f t152 (wrap64 (-(wrap64 (a2))))).bind fun t153 => (some (t153 == ((IntKind.u64.wrap (Int.tdiv a0 4294967296)) % 4294967296))))) else (none)) = some r := H
        have A13 := Aside0.mk A130
        clear A130
        by_cases c14 : t151 = ((IntKind.u64.wrap (Int.tdiv a0 4294967296)) % 4294967296)
        · rw [if_pos c14] at H
          have c14b0 : (t151 == ((IntKind.u64.wrap (Int.tdiv a0 4294967296)) % 4294967296)) = true := beq_iff_eq.mpr c14
          have c14b1 : (t151 != ((IntKind.u64.wrap (Int.tdiv a0 4294967296)) % 4294967296)) = false := bne_eq_false_iff_eq.mpr c14
          clear c14
          replace H := Option.bind_eq_some_iff.mp H
          obtain ⟨t152, A150, H⟩ := H
          replace H : ((word_Rotate.f t152 (wrap64 (-(wrap64 (a2))))).bind fun t153 => (some (t153 == ((IntKind.u64.wrap (Int.tdiv a0 4294967296)) % 4294967296)))) = some r := H
          have A15 := Aside0.mk A150
          clear A150
          replace H := Option.bind_eq_some_iff.mp H
          obtain ⟨t153, A160, H⟩ := H
          replace H : (some (t153 == ((IntKind.u64.wrap (Int.tdiv a0 4294967296)) % 4294967296))) = some r := H
          have A16 := Aside0.mk A160
          clear A160
          obtain rfl := Option.some.inj H
          go_enter Try.func5, Try.ntmps5
          try go_wp2_with (first | ((with_reducible refine gate_dst (N := 4) rfl ?_); (try (refine gate_guard (by rfl) ?_; dsimp only)); refine box_event ?hg (N := 4) ?hd (cs := (Ar.cells .u8 8 a1)) (t := 27) ?hr ?_; (case hd => rfl); (case hg => rfl); (case hr => first | exact Ar.box_run rfl rfl | exact Ar.alloc_run rfl (by kernel_rfl) | (go_simp; done) | (go_simp; rfl)); intro gb144 hg w17 hbox hb; have n0_ := Aside0.mk (below_step (by repeat (first | (with_reducible first | exact HB.out | apply below_alloc | apply pw_below_drewN | apply below_drew1) | exact HB.out)) hb); have n1_ := Aside0.mk (hbox); have n2_ := Aside0.mk ((by rw [hg]; exact (below_size (by repeat (first | (with_reducible first | exact HB.out | apply below_alloc | apply pw_below_drewN | apply below_drew1) | exact HB.out))) : w.heap.size ≤ gb144)); have n3_ := Aside0.mk ((by rw [hg]; exact (below_size (by repeat (first | (with_reducible first | exact HB.out | apply below_alloc | apply pw_below_drewN | apply below_drew1) | exact HB.out))) : w.heap.size ≤ gb144)); clear HB; have HB := n0_; have BK144 := n1_; have GW144 := n2_; have GE144 := n3_; clear n0_ n1_ n2_ n3_; clear hb hbox hg) | ((with_reducible refine gate_callee (f := 17) rfl ?_); refine goesL_ (some 9) rfl rfl Try.func17 (by kernel_rfl) rfl #[] rfl (by (try simp only [List.map_toArray, List.map_cons, List.map_nil]); first | done | rfl | (simp only [List.length_drop, List.length_take]; rfl)) ?_; (with_reducible refine (drawlotlaw01_alive.calls k  true _ A4.out).mono ?_); rintro e w18 ⟨rfl, hb⟩; refine ⟨_, rfl, ?_⟩; have n0_ := Aside0.mk (blk_below (g := gb144) (o := .cells (Ar.cells .u8 8 a1) 27 (0, 0)) (by (with_reducible repeat (first | refine blk_drewN ?_ _ | refine blk_drew ?_ | refine blk_alloc ?_ _)); exact BK144.out) hb); have n1_ := Aside0.mk (below_step (by repeat (first | (with_reducible first | exact HB.out | apply below_alloc | apply pw_below_drewN | apply below_drew1 | refine below_set ?_ GE144.out) | exact HB.out)) hb); clear BK144; clear HB; have BK144 := n0_; have HB := n1_; clear n0_ n1_; (try clear hb); (try clear hb2); (try clear hk); (try clear hi)))
          have n0_ := Aside0.mk (blk_drew BK144.out)
          have n1_ := Aside0.mk (below_drew1 HB.out)
          clear BK144
          clear HB
          have BK144 := n0_
          have HB := n1_
          clear n0_ n1_
          refine start_ (n := 30) (S := fun w' => w'.cell? ⟨gb144, 0, none⟩ = some (.int .u8 (Ar.get 8 a1 0)) ∧ w'.cell? ⟨gb144, 1, none⟩ = some (.int .u8 (Ar.get 8 a1 1)) ∧ w'.cell? ⟨gb144, 2, none⟩ = some (.int .u8 (Ar.get 8 a1 2)) ∧ w'.cell? ⟨gb144, 3, none⟩ = some (.int .u8 (Ar.get 8 a1 3)) ∧ w'.cell? ⟨gb144, 4, none⟩ = some (.int .u8 (Ar.get 8 a1 4)) ∧ w'.cell? ⟨gb144, 5, none⟩ = some (.int .u8 (Ar.get 8 a1 5)) ∧ w'.cell? ⟨gb144, 6, none⟩ = some (.int .u8 (Ar.get 8 a1 6)) ∧ w'.cell? ⟨gb144, 7, none⟩ = some (.int .u8 (Ar.get 8 a1 7))) (ds := []) #[false, false, false, false, false, false, false, false, false, false, false, false, false, false, false, false, false, false, false, false, false, false, false, false, false, false, false, false, false, false] (by kernel_rfl) rfl rfl ⟨(Ar.cell_run (j := 0) BK144.out (by decide) (by decide)), (Ar.cell_run (j := 1) BK144.out (by decide) (by decide)), (Ar.cell_run (j := 2) BK144.out (by decide) (by decide)), (Ar.cell_run (j := 3) BK144.out (by decide) (by decide)), (Ar.cell_run (j := 4) BK144.out (by decide) (by decide)), (Ar.cell_run (j := 5) BK144.out (by decide) (by decide)), (Ar.cell_run (j := 6) BK144.out (by decide) (by decide)), (Ar.cell_run (j := 7) BK144.out (by decide) (by decide))⟩ (fun hHeld => ?_); refine with_tabW drawlotlaw01_WordBack.tab4 drawlotlaw01_WordBack.bits4 (fun HT_ HW_ => ?_)
          generalize w18.drew = w19 at BK144 HB hHeld ⊢
          refine pure_ (i := 0) (N := some 16) (v := ?_) (a' := ?_) #[true, false, false, false, false, false, false, false, false, false, false, false, false, false, false, false, false, false, false, false, false, false, false, false, false, false, false, false, false, false] rfl rfl (any_of HT_.out (by kernel_rfl)) (fun _ _ _ h => h) (Or.inl ⟨by rfl, ?_⟩) ?_ ?_
          rotate_left
          · intro w'
            go_simp
            with_reducible rfl
          rotate_left
          · simp only [Act.put, List.setIfInBounds_toArray, List.set_cons_zero, List.set_cons_succ, i64_w, i32_w]
            rfl
          refine pure_ (i := 3) (N := some 19) (v := ?_) (a' := ?_) #[true, false, false, true, false, false, false, false, false, false, false, false, false, false, false, false, false, false, false, false, false, false, false, false, false, false, false, false, false, false] rfl rfl (any_of HT_.out (by kernel_rfl)) (fun _ _ _ h => h) (Or.inl ⟨by rfl, ?_⟩) ?_ ?_
          rotate_left
          · intro w'
            go_simp
            with_reducible rfl
          rotate_left
          · simp only [Act.put, List.setIfInBounds_toArray, List.set_cons_zero, List.set_cons_succ, i64_w, i32_w]
            rfl
          refine one_ (i := 1) (N := some 17) #[true, true, false, true, false, false, false, false, false, false, false, false, false, false, false, false, false, false, false, false, false, false, false, false, false, false, false, false, false, false] rfl rfl (one_of HT_.out (by kernel_rfl)) (by decide) (fun K hK => ?_)
          refine goes_ Try.func24 (by kernel_rfl) rfl #[.int .u64 a0] (by rfl) rfl rfl (by (try simp only [List.map_toArray, List.map_cons, List.map_nil]); first | done | rfl | (simp only [List.length_drop, List.length_take]; rfl)) ?_
          with_reducible refine (word_Put64.calls k a0 t146 _ A6.out).mono ?_
          rintro e w20 ⟨rfl, hb⟩
          refine ⟨_, rfl, ?_⟩
          have n0_ := Aside0.mk (blk_below (g := gb144) (o := .cells (Ar.cells .u8 8 a1) 27 (0, 0)) (by (with_reducible repeat (first | refine blk_drewN ?_ _ | refine blk_drew ?_ | refine blk_alloc ?_ _)); exact BK144.out) hb)
          have n1_ := Aside0.mk (below_step (by repeat (first | (with_reducible first | exact HB.out | apply below_alloc | apply pw_below_drewN | apply below_drew1 | refine below_set ?_ GE144.out) | exact HB.out)) hb)
          clear BK144
          clear HB
          have BK144 := n0_
          have HB := n1_
          clear n0_ n1_
          (try clear hb)
          (try clear hb2)
          (try clear hk)
          (try clear hi)
          refine hK.out _ _ ⟨(Ar.cell_run (j := 0) BK144.out (by decide) (by decide)), (Ar.cell_run (j := 1) BK144.out (by decide) (by decide)), (Ar.cell_run (j := 2) BK144.out (by decide) (by decide)), (Ar.cell_run (j := 3) BK144.out (by decide) (by decide)), (Ar.cell_run (j := 4) BK144.out (by decide) (by decide)), (Ar.cell_run (j := 5) BK144.out (by decide) (by decide)), (Ar.cell_run (j := 6) BK144.out (by decide) (by decide)), (Ar.cell_run (j := 7) BK144.out (by decide) (by decide))⟩ (fun hHeld => ?_)
          clear hK K
          refine norm_ (a' := ?_) ?_ ?_
          rotate_left
          · show Act.put _ (some 17) _ = _
            simp only [Act.put, List.setIfInBounds_toArray, List.set_cons_zero, List.set_cons_succ, i64_w, i32_w]
            rfl
          refine one_ (i := 2) (N := some 18) #[true, true, true, true, false, false, false, false, false, false, false, false, false, false, false, false, false, false, false, false, false, false, false, false, false, false, false, false, false, false] rfl rfl (one_of HT_.out (by kernel_rfl)) (by decide) (fun K hK => ?_)
          refine goes_ Try.func26 (by kernel_rfl) rfl #[.agg (Ar.cells .u8 8 t146)] (by rfl) rfl rfl (by (try simp only [List.map_toArray, List.map_cons, List.map_nil]); first | done | rfl | (simp only [List.length_drop, List.length_take]; rfl)) ?_
          with_reducible refine (word_Get64.calls k t146 t147 _ A7.out).mono ?_
          rintro e w21 ⟨rfl, hb⟩
          refine ⟨_, rfl, ?_⟩
          have n0_ := Aside0.mk (blk_below (g := gb144) (o := .cells (Ar.cells .u8 8 a1) 27 (0, 0)) (by (with_reducible repeat (first | refine blk_drewN ?_ _ | refine blk_drew ?_ | refine blk_alloc ?_ _)); exact BK144.out) hb)
          have n1_ := Aside0.mk (below_step (by repeat (first | (with_reducible first | exact HB.out | apply below_alloc | apply pw_below_drewN | apply below_drew1 | refine below_set ?_ GE144.out) | exact HB.out)) hb)
          clear BK144
          clear HB
          have BK144 := n0_
          have HB := n1_
          clear n0_ n1_
          (try clear hb)
          (try clear hb2)
          (try clear hk)
          (try clear hi)
          refine hK.out _ _ ⟨(Ar.cell_run (j := 0) BK144.out (by decide) (by decide)), (Ar.cell_run (j := 1) BK144.out (by decide) (by decide)), (Ar.cell_run (j := 2) BK144.out (by decide) (by decide)), (Ar.cell_run (j := 3) BK144.out (by decide) (by decide)), (Ar.cell_run (j := 4) BK144.out (by decide) (by decide)), (Ar.cell_run (j := 5) BK144.out (by decide) (by decide)), (Ar.cell_run (j := 6) BK144.out (by decide) (by decide)), (Ar.cell_run (j := 7) BK144.out (by decide) (by decide))⟩ (fun hHeld => ?_)
          clear hK K
          refine norm_ (a' := ?_) ?_ ?_
          rotate_left
          · show Act.put _ (some 18) _ = _
            simp only [Act.put, List.setIfInBounds_toArray, List.set_cons_zero, List.set_cons_succ, i64_w, i32_w]
            rfl
          refine pure_ (i := 4) (N := some 20) (v := ?_) (a' := ?_) #[true, true, true, true, true, false, false, false, false, false, false, false, false, false, false, false, false, false, false, false, false, false, false, false, false, false, false, false, false, false] rfl rfl (any_of HT_.out (by kernel_rfl)) (fun _ _ _ h => h) (Or.inl ⟨by rfl, ?_⟩) ?_ ?_
          rotate_left
          · intro w'
            go_simp
            with_reducible rfl
          rotate_left
          · simp only [Act.put, List.setIfInBounds_toArray, List.set_cons_zero, List.set_cons_succ, i64_w, i32_w]
            rfl
          refine pure_ (i := 5) (N := some 21) (v := ?_) (a' := ?_) #[true, true, true, true, true, true, false, false, false, false, false, false, false, false, false, false, false, false, false, false, false, false, false, false, false, false, false, false, false, false] rfl rfl (any_of HT_.out (by kernel_rfl)) (fun _ _ _ h => h) (Or.inl ⟨by rfl, ?_⟩) ?_ ?_
          rotate_left
          · intro w'
            go_simp
            with_reducible rfl
          rotate_left
          · simp only [Act.put, List.setIfInBounds_toArray, List.set_cons_zero, List.set_cons_succ, i64_w, i32_w]
            rfl
          refine take_ (i := 6) (N := some 22) (v := ?_) (a' := ?_) #[true, true, true, true, true, true, true, false, false, false, false, false, false, false, false, false, false, false, false, false, false, false, false, false, false, false, false, false, false, false] rfl rfl (take_ofW HT_.out HW_.out (by kernel_rfl)) (fun _ _ _ h => h) (Or.inl ⟨by rfl, ?_⟩) hHeld ?_ ?_
          rotate_left
          · rintro w' ⟨s0, s1, s2, s3, s4, s5, s6, s7⟩
            go_simp
            with_reducible rfl
          rotate_left
          · simp only [Act.put, List.setIfInBounds_toArray, List.set_cons_zero, List.set_cons_succ, i64_w, i32_w]
            rfl
          refine take_ (i := 9) (N := some 25) (v := ?_) (a' := ?_) #[true, true, true, true, true, true, true, false, false, true, false, false, false, false, false, false, false, false, false, false, false, false, false, false, false, false, false, false, false, false] rfl rfl (take_ofW HT_.out HW_.out (by kernel_rfl)) (fun _ _ _ h => h) (Or.inl ⟨by rfl, ?_⟩) hHeld ?_ ?_
          rotate_left
          · rintro w' ⟨s0, s1, s2, s3, s4, s5, s6, s7⟩
            go_simp
            with_reducible rfl
          rotate_left
          · simp only [Act.put, List.setIfInBounds_toArray, List.set_cons_zero, List.set_cons_succ, i64_w, i32_w]
            rfl
          refine one_ (i := 7) (N := some 23) #[true, true, true, true, true, true, true, true, false, true, false, false, false, false, false, false, false, false, false, false, false, false, false, false, false, false, false, false, false, false] rfl rfl (one_of HT_.out (by kernel_rfl)) (by decide) (fun K hK => ?_)
          refine goes_ Try.func26 (by kernel_rfl) rfl #[.agg (Ar.cells .u8 8 a1)] (by rfl) rfl rfl (by (try simp only [List.map_toArray, List.map_cons, List.map_nil]); first | done | rfl | (simp only [List.length_drop, List.length_take]; rfl)) ?_
          with_reducible refine (word_Get64.calls k a1 t148 _ A9.out).mono ?_
          rintro e w22 ⟨rfl, hb⟩
          refine ⟨_, rfl, ?_⟩
          have n0_ := Aside0.mk (blk_below (g := gb144) (o := .cells (Ar.cells .u8 8 a1) 27 (0, 0)) (by (with_reducible repeat (first | refine blk_drewN ?_ _ | refine blk_drew ?_ | refine blk_alloc ?_ _)); exact BK144.out) hb)
          have n1_ := Aside0.mk (below_step (by repeat (first | (with_reducible first | exact HB.out | apply below_alloc | apply pw_below_drewN | apply below_drew1 | refine below_set ?_ GE144.out) | exact HB.out)) hb)
          clear BK144
          clear HB
          have BK144 := n0_
          have HB := n1_
          clear n0_ n1_
          (try clear hb)
          (try clear hb2)
          (try clear hk)
          (try clear hi)
          refine hK.out _ _ ⟨(Ar.cell_run (j := 0) BK144.out (by decide) (by decide)), (Ar.cell_run (j := 1) BK144.out (by decide) (by decide)), (Ar.cell_run (j := 2) BK144.out (by decide) (by decide)), (Ar.cell_run (j := 3) BK144.out (by decide) (by decide)), (Ar.cell_run (j := 4) BK144.out (by decide) (by decide)), (Ar.cell_run (j := 5) BK144.out (by decide) (by decide)), (Ar.cell_run (j := 6) BK144.out (by decide) (by decide)), (Ar.cell_run (j := 7) BK144.out (by decide) (by decide))⟩ (fun hHeld => ?_)
          clear hK K
          refine norm_ (a' := ?_) ?_ ?_
          rotate_left
          · show Act.put _ (some 23) _ = _
            simp only [Act.put, List.setIfInBounds_toArray, List.set_cons_zero, List.set_cons_succ, i64_w, i32_w]
            rfl
          refine one_ (i := 8) (N := some 24) #[true, true, true, true, true, true, true, true, true, true, false, false, false, false, false, false, false, false, false, false, false, false, false, false, false, false, false, false, false, false] rfl rfl (one_of HT_.out (by kernel_rfl)) (by decide) (fun K hK => ?_)
          refine goes_ Try.func24 (by kernel_rfl) rfl #[.int .u64 t148] (by rfl) rfl rfl (by (try simp only [List.map_toArray, List.map_cons, List.map_nil]); first | done | rfl | (simp only [List.length_drop, List.length_take]; rfl)) ?_
          with_reducible refine (word_Put64.calls k t148 t149 _ A10.out).mono ?_
          rintro e w23 ⟨rfl, hb⟩
          refine ⟨_, rfl, ?_⟩
          have n0_ := Aside0.mk (blk_below (g := gb144) (o := .cells (Ar.cells .u8 8 a1) 27 (0, 0)) (by (with_reducible repeat (first | refine blk_drewN ?_ _ | refine blk_drew ?_ | refine blk_alloc ?_ _)); exact BK144.out) hb)
          have n1_ := Aside0.mk (below_step (by repeat (first | (with_reducible first | exact HB.out | apply below_alloc | apply pw_below_drewN | apply below_drew1 | refine below_set ?_ GE144.out) | exact HB.out)) hb)
          clear BK144
          clear HB
          have BK144 := n0_
          have HB := n1_
          clear n0_ n1_
          (try clear hb)
          (try clear hb2)
          (try clear hk)
          (try clear hi)
          refine hK.out _ _ ⟨(Ar.cell_run (j := 0) BK144.out (by decide) (by decide)), (Ar.cell_run (j := 1) BK144.out (by decide) (by decide)), (Ar.cell_run (j := 2) BK144.out (by decide) (by decide)), (Ar.cell_run (j := 3) BK144.out (by decide) (by decide)), (Ar.cell_run (j := 4) BK144.out (by decide) (by decide)), (Ar.cell_run (j := 5) BK144.out (by decide) (by decide)), (Ar.cell_run (j := 6) BK144.out (by decide) (by decide)), (Ar.cell_run (j := 7) BK144.out (by decide) (by decide))⟩ (fun hHeld => ?_)
          clear hK K
          refine norm_ (a' := ?_) ?_ ?_
          rotate_left
          · show Act.put _ (some 24) _ = _
            simp only [Act.put, List.setIfInBounds_toArray, List.set_cons_zero, List.set_cons_succ, i64_w, i32_w]
            rfl
          refine pure_ (i := 10) (N := some 26) (v := ?_) (a' := ?_) #[true, true, true, true, true, true, true, true, true, true, true, false, false, false, false, false, false, false, false, false, false, false, false, false, false, false, false, false, false, false] rfl rfl (any_of HT_.out (by kernel_rfl)) (fun _ _ _ h => h) (Or.inl ⟨by rfl, ?_⟩) ?_ ?_
          rotate_left
          · intro w'
            go_simp
            with_reducible rfl
          rotate_left
          · simp only [Act.put, List.setIfInBounds_toArray, List.set_cons_zero, List.set_cons_succ, i64_w, i32_w]
            rfl
          refine pure_ (i := 11) (N := some 27) (v := ?_) (a' := ?_) #[true, true, true, true, true, true, true, true, true, true, true, true, false, false, false, false, false, false, false, false, false, false, false, false, false, false, false, false, false, false] rfl rfl (any_of HT_.out (by kernel_rfl)) (fun _ _ _ h => h) (Or.inl ⟨by rfl, ?_⟩) ?_ ?_
          rotate_left
          · intro w'
            go_simp
            with_reducible rfl
          rotate_left
          · simp only [Act.put, List.setIfInBounds_toArray, List.set_cons_zero, List.set_cons_succ, i64_w, i32_w]
            rfl
          refine pure_ (i := 12) (N := some 28) (v := ?_) (a' := ?_) #[true, true, true, true, true, true, true, true, true, true, true, true, true, false, false, false, false, false, false, false, false, false, false, false, false, false, false, false, false, false] rfl rfl (any_of HT_.out (by kernel_rfl)) (fun _ _ _ h => h) (Or.inl ⟨by rfl, ?_⟩) ?_ ?_
          rotate_left
          · intro w'
            go_simp
            with_reducible rfl
          rotate_left
          · simp only [Act.put, List.setIfInBounds_toArray, List.set_cons_zero, List.set_cons_succ, i64_w, i32_w]
            rfl
          refine pure_ (i := 13) (N := some 29) (v := ?_) (a' := ?_) #[true, true, true, true, true, true, true, true, true, true, true, true, true, true, false, false, false, false, false, false, false, false, false, false, false, false, false, false, false, false] rfl rfl (any_of HT_.out (by kernel_rfl)) (fun _ _ _ h => h) (Or.inl ⟨by rfl, ?_⟩) ?_ ?_
          rotate_left
          · intro w'
            go_simp
            with_reducible rfl
          rotate_left
          · simp only [Act.put, List.setIfInBounds_toArray, List.set_cons_zero, List.set_cons_succ, i64_w, i32_w]
            rfl
          refine pure_ (i := 16) (N := some 32) (v := ?_) (a' := ?_) #[true, true, true, true, true, true, true, true, true, true, true, true, true, true, false, false, true, false, false, false, false, false, false, false, false, false, false, false, false, false] rfl rfl (any_of HT_.out (by kernel_rfl)) (fun _ _ _ h => h) (Or.inl ⟨by rfl, ?_⟩) ?_ ?_
          rotate_left
          · intro w'
            go_simp
            with_reducible rfl
          rotate_left
          · simp only [Act.put, List.setIfInBounds_toArray, List.set_cons_zero, List.set_cons_succ, i64_w, i32_w]
            rfl
          refine one_ (i := 14) (N := some 30) #[true, true, true, true, true, true, true, true, true, true, true, true, true, true, true, false, true, false, false, false, false, false, false, false, false, false, false, false, false, false] rfl rfl (one_of HT_.out (by kernel_rfl)) (by decide) (fun K hK => ?_)
          refine goes_ Try.func28 (by kernel_rfl) rfl #[.int .u32 ((IntKind.u64.wrap (Int.tdiv a0 4294967296)) % 4294967296)] (by rfl) rfl rfl (by (try simp only [List.map_toArray, List.map_cons, List.map_nil]); first | done | rfl | (simp only [List.length_drop, List.length_take]; rfl)) ?_
          with_reducible refine (word_Put32.calls ((IntKind.u64.wrap (Int.tdiv a0 4294967296)) % 4294967296) t150 _ A12.out).mono ?_
          rintro e w24 ⟨rfl, hb⟩
          refine ⟨_, rfl, ?_⟩
          have n0_ := Aside0.mk (blk_below (g := gb144) (o := .cells (Ar.cells .u8 8 a1) 27 (0, 0)) (by (with_reducible repeat (first | refine blk_drewN ?_ _ | refine blk_drew ?_ | refine blk_alloc ?_ _)); exact BK144.out) hb)
          have n1_ := Aside0.mk (below_step (by repeat (first | (with_reducible first | exact HB.out | apply below_alloc | apply pw_below_drewN | apply below_drew1 | refine below_set ?_ GE144.out) | exact HB.out)) hb)
          clear BK144
          clear HB
          have BK144 := n0_
          have HB := n1_
          clear n0_ n1_
          (try clear hb)
          (try clear hb2)
          (try clear hk)
          (try clear hi)
          refine hK.out _ _ ⟨(Ar.cell_run (j := 0) BK144.out (by decide) (by decide)), (Ar.cell_run (j := 1) BK144.out (by decide) (by decide)), (Ar.cell_run (j := 2) BK144.out (by decide) (by decide)), (Ar.cell_run (j := 3) BK144.out (by decide) (by decide)), (Ar.cell_run (j := 4) BK144.out (by decide) (by decide)), (Ar.cell_run (j := 5) BK144.out (by decide) (by decide)), (Ar.cell_run (j := 6) BK144.out (by decide) (by decide)), (Ar.cell_run (j := 7) BK144.out (by decide) (by decide))⟩ (fun hHeld => ?_)
          clear hK K
          refine norm_ (a' := ?_) ?_ ?_
          rotate_left
          · show Act.put _ (some 30) _ = _
            simp only [Act.put, List.setIfInBounds_toArray, List.set_cons_zero, List.set_cons_succ, i64_w, i32_w]
            rfl
          refine one_ (i := 15) (N := some 31) #[true, true, true, true, true, true, true, true, true, true, true, true, true, true, true, true, true, false, false, false, false, false, false, false, false, false, false, false, false, false] rfl rfl (one_of HT_.out (by kernel_rfl)) (by decide) (fun K hK => ?_)
          refine goes_ Try.func30 (by kernel_rfl) rfl #[.agg (Ar.cells .u8 4 t150)] (by rfl) rfl rfl (by (try simp only [List.map_toArray, List.map_cons, List.map_nil]); first | done | rfl | (simp only [List.length_drop, List.length_take]; rfl)) ?_
          with_reducible refine (word_Get32.calls k t150 t151 _ A13.out).mono ?_
          rintro e w25 ⟨rfl, hb⟩
          refine ⟨_, rfl, ?_⟩
          have n0_ := Aside0.mk (blk_below (g := gb144) (o := .cells (Ar.cells .u8 8 a1) 27 (0, 0)) (by (with_reducible repeat (first | refine blk_drewN ?_ _ | refine blk_drew ?_ | refine blk_alloc ?_ _)); exact BK144.out) hb)
          have n1_ := Aside0.mk (below_step (by repeat (first | (with_reducible first | exact HB.out | apply below_alloc | apply pw_below_drewN | apply below_drew1 | refine below_set ?_ GE144.out) | exact HB.out)) hb)
          clear BK144
          clear HB
          have BK144 := n0_
          have HB := n1_
          clear n0_ n1_
          (try clear hb)
          (try clear hb2)
          (try clear hk)
          (try clear hi)
          refine hK.out _ _ ⟨(Ar.cell_run (j := 0) BK144.out (by decide) (by decide)), (Ar.cell_run (j := 1) BK144.out (by decide) (by decide)), (Ar.cell_run (j := 2) BK144.out (by decide) (by decide)), (Ar.cell_run (j := 3) BK144.out (by decide) (by decide)), (Ar.cell_run (j := 4) BK144.out (by decide) (by decide)), (Ar.cell_run (j := 5) BK144.out (by decide) (by decide)), (Ar.cell_run (j := 6) BK144.out (by decide) (by decide)), (Ar.cell_run (j := 7) BK144.out (by decide) (by decide))⟩ (fun hHeld => ?_)
          clear hK K
          refine norm_ (a' := ?_) ?_ ?_
          rotate_left
          · show Act.put _ (some 31) _ = _
            simp only [Act.put, List.setIfInBounds_toArray, List.set_cons_zero, List.set_cons_succ, i64_w, i32_w]
            rfl
          refine pure_ (i := 17) (N := some 33) (v := ?_) (a' := ?_) #[true, true, true, true, true, true, true, true, true, true, true, true, true, true, true, true, true, true, false, false, false, false, false, false, false, false, false, false, false, false] rfl rfl (any_of HT_.out (by kernel_rfl)) (fun _ _ _ h => h) (Or.inl ⟨by rfl, ?_⟩) ?_ ?_
          rotate_left
          · intro w'
            go_simp
            with_reducible rfl
          rotate_left
          · simp only [Act.put, List.setIfInBounds_toArray, List.set_cons_zero, List.set_cons_succ, i64_w, i32_w]
            rfl
          refine pure_ (i := 18) (N := some 34) (v := ?_) (a' := ?_) #[true, true, true, true, true, true, true, true, true, true, true, true, true, true, true, true, true, true, true, false, false, false, false, false, false, false, false, false, false, false] rfl rfl (any_of HT_.out (by kernel_rfl)) (fun _ _ _ h => h) (Or.inl ⟨by rfl, ?_⟩) ?_ ?_
          rotate_left
          · intro w'
            go_simp
            with_reducible rfl
          rotate_left
          · simp only [Act.put, List.setIfInBounds_toArray, List.set_cons_zero, List.set_cons_succ, i64_w, i32_w]
            rfl
          refine pure_ (i := 19) (N := some 35) (v := ?_) (a' := ?_) #[true, true, true, true, true, true, true, true, true, true, true, true, true, true, true, true, true, true, true, true, false, false, false, false, false, false, false, false, false, false] rfl rfl (any_of HT_.out (by kernel_rfl)) (fun _ _ _ h => h) (Or.inl ⟨by rfl, ?_⟩) ?_ ?_
          rotate_left
          · intro w'
            go_simp
            with_reducible rfl
          rotate_left
          · simp only [Act.put, List.setIfInBounds_toArray, List.set_cons_zero, List.set_cons_succ, i64_w, i32_w]
            rfl
          refine pure_ (i := 20) (N := some 36) (v := ?_) (a' := ?_) #[true, true, true, true, true, true, true, true, true, true, true, true, true, true, true, true, true, true, true, true, true, false, false, false, false, false, false, false, false, false] rfl rfl (any_of HT_.out (by kernel_rfl)) (fun _ _ _ h => h) (Or.inl ⟨by rfl, ?_⟩) ?_ ?_
          rotate_left
          · intro w'
            go_simp
            with_reducible rfl
          rotate_left
          · simp only [Act.put, List.setIfInBounds_toArray, List.set_cons_zero, List.set_cons_succ, i64_w, i32_w]
            rfl
          refine pure_ (i := 21) (N := some 37) (v := ?_) (a' := ?_) #[true, true, true, true, true, true, true, true, true, true, true, true, true, true, true, true, true, true, true, true, true, true, false, false, false, false, false, false, false, false] rfl rfl (any_of HT_.out (by kernel_rfl)) (fun _ _ _ h => h) (Or.inl ⟨by rfl, ?_⟩) ?_ ?_
          rotate_left
          · intro w'
            go_simp
            with_reducible rfl
          rotate_left
          · simp only [Act.put, List.setIfInBounds_toArray, List.set_cons_zero, List.set_cons_succ, i64_w, i32_w]
            rfl
          refine pure_ (i := 23) (N := some 39) (v := ?_) (a' := ?_) #[true, true, true, true, true, true, true, true, true, true, true, true, true, true, true, true, true, true, true, true, true, true, false, true, false, false, false, false, false, false] rfl rfl (any_of HT_.out (by kernel_rfl)) (fun _ _ _ h => h) (Or.inl ⟨by rfl, ?_⟩) ?_ ?_
          rotate_left
          · intro w'
            go_simp
            with_reducible rfl
          rotate_left
          · simp only [Act.put, List.setIfInBounds_toArray, List.set_cons_zero, List.set_cons_succ, i64_w, i32_w]
            rfl
          refine pure_ (i := 24) (N := some 40) (v := ?_) (a' := ?_) #[true, true, true, true, true, true, true, true, true, true, true, true, true, true, true, true, true, true, true, true, true, true, false, true, true, false, false, false, false, false] rfl rfl (any_of HT_.out (by kernel_rfl)) (fun _ _ _ h => h) (Or.inl ⟨by rfl, ?_⟩) ?_ ?_
          rotate_left
          · intro w'
            go_simp
            with_reducible rfl
          rotate_left
          · simp only [Act.put, List.setIfInBounds_toArray, List.set_cons_zero, List.set_cons_succ, i64_w, i32_w]
            rfl
          refine pure_ (i := 26) (N := some 42) (v := ?_) (a' := ?_) #[true, true, true, true, true, true, true, true, true, true, true, true, true, true, true, true, true, true, true, true, true, true, false, true, true, false, true, false, false, false] rfl rfl (any_of HT_.out (by kernel_rfl)) (fun _ _ _ h => h) (Or.inl ⟨by rfl, ?_⟩) ?_ ?_
          rotate_left
          · intro w'
            go_simp
            with_reducible rfl
          rotate_left
          · simp only [Act.put, List.setIfInBounds_toArray, List.set_cons_zero, List.set_cons_succ, i64_w, i32_w]
            rfl
          refine one_ (i := 22) (N := some 38) #[true, true, true, true, true, true, true, true, true, true, true, true, true, true, true, true, true, true, true, true, true, true, true, true, true, false, true, false, false, false] rfl rfl (one_of HT_.out (by kernel_rfl)) (by decide) (fun K hK => ?_)
          refine goes_ Try.func22 (by kernel_rfl) rfl #[.int .u32 ((IntKind.u64.wrap (Int.tdiv a0 4294967296)) % 4294967296), .int .i64 (wrap64 (a2))] (by rfl) rfl rfl (by (try simp only [List.map_toArray, List.map_cons, List.map_nil]); first | done | rfl | (simp only [List.length_drop, List.length_take]; rfl)) ?_
          with_reducible refine (word_Rotate.calls ((IntKind.u64.wrap (Int.tdiv a0 4294967296)) % 4294967296) (wrap64 (a2)) t152 _ A15.out).mono ?_
          rintro e w' ⟨rfl, ⟨nd, rfl⟩⟩
          refine ⟨_, rfl, ?_⟩
          refine hK.out _ _ ⟨(Ar.cell_run (j := 0) BK144.out (by decide) (by decide)), (Ar.cell_run (j := 1) BK144.out (by decide) (by decide)), (Ar.cell_run (j := 2) BK144.out (by decide) (by decide)), (Ar.cell_run (j := 3) BK144.out (by decide) (by decide)), (Ar.cell_run (j := 4) BK144.out (by decide) (by decide)), (Ar.cell_run (j := 5) BK144.out (by decide) (by decide)), (Ar.cell_run (j := 6) BK144.out (by decide) (by decide)), (Ar.cell_run (j := 7) BK144.out (by decide) (by decide))⟩ (fun hHeld => ?_)
          clear hK K
          refine norm_ (a' := ?_) ?_ ?_
          rotate_left
          · show Act.put _ (some 38) _ = _
            simp only [Act.put, List.setIfInBounds_toArray, List.set_cons_zero, List.set_cons_succ, i64_w, i32_w]
            rfl
          refine one_ (i := 25) (N := some 41) #[true, true, true, true, true, true, true, true, true, true, true, true, true, true, true, true, true, true, true, true, true, true, true, true, true, true, true, false, false, false] rfl rfl (one_of HT_.out (by kernel_rfl)) (by decide) (fun K hK => ?_)
          refine goes_ Try.func22 (by kernel_rfl) rfl #[.int .u32 t152, .int .i64 (wrap64 (-(wrap64 (a2))))] (by rfl) rfl rfl (by (try simp only [List.map_toArray, List.map_cons, List.map_nil]); first | done | rfl | (simp only [List.length_drop, List.length_take]; rfl)) ?_
          with_reducible refine (word_Rotate.calls t152 (wrap64 (-(wrap64 (a2)))) t153 _ A16.out).mono ?_
          rintro e w' ⟨rfl, ⟨nd, rfl⟩⟩
          refine ⟨_, rfl, ?_⟩
          refine hK.out _ _ ⟨(Ar.cell_run (j := 0) BK144.out (by decide) (by decide)), (Ar.cell_run (j := 1) BK144.out (by decide) (by decide)), (Ar.cell_run (j := 2) BK144.out (by decide) (by decide)), (Ar.cell_run (j := 3) BK144.out (by decide) (by decide)), (Ar.cell_run (j := 4) BK144.out (by decide) (by decide)), (Ar.cell_run (j := 5) BK144.out (by decide) (by decide)), (Ar.cell_run (j := 6) BK144.out (by decide) (by decide)), (Ar.cell_run (j := 7) BK144.out (by decide) (by decide))⟩ (fun hHeld => ?_)
          clear hK K
          refine norm_ (a' := ?_) ?_ ?_
          rotate_left
          · show Act.put _ (some 41) _ = _
            simp only [Act.put, List.setIfInBounds_toArray, List.set_cons_zero, List.set_cons_succ, i64_w, i32_w]
            rfl
          refine pure_ (i := 27) (N := some 43) (v := ?_) (a' := ?_) #[true, true, true, true, true, true, true, true, true, true, true, true, true, true, true, true, true, true, true, true, true, true, true, true, true, true, true, true, false, false] rfl rfl (any_of HT_.out (by kernel_rfl)) (fun _ _ _ h => h) (Or.inl ⟨by rfl, ?_⟩) ?_ ?_
          rotate_left
          · intro w'
            go_simp
            with_reducible rfl
          rotate_left
          · simp only [Act.put, List.setIfInBounds_toArray, List.set_cons_zero, List.set_cons_succ, i64_w, i32_w]
            rfl
          refine pure_ (i := 28) (N := some 44) (v := ?_) (a' := ?_) #[true, true, true, true, true, true, true, true, true, true, true, true, true, true, true, true, true, true, true, true, true, true, true, true, true, true, true, true, true, false] rfl rfl (any_of HT_.out (by kernel_rfl)) (fun _ _ _ h => h) (Or.inl ⟨by rfl, ?_⟩) ?_ ?_
          rotate_left
          · intro w'
            go_simp
            with_reducible rfl
          rotate_left
          · simp only [Act.put, List.setIfInBounds_toArray, List.set_cons_zero, List.set_cons_succ, i64_w, i32_w]
            rfl
          refine pure_ (i := 29) (N := some 6) (v := ?_) (a' := ?_) #[true, true, true, true, true, true, true, true, true, true, true, true, true, true, true, true, true, true, true, true, true, true, true, true, true, true, true, true, true, true] rfl rfl (any_of HT_.out (by kernel_rfl)) (fun _ _ _ h => h) (Or.inl ⟨by rfl, ?_⟩) ?_ ?_
          rotate_left
          · intro w'
            go_simp
            with_reducible rfl
          rotate_left
          · simp only [Act.put, List.setIfInBounds_toArray, List.set_cons_zero, List.set_cons_succ, i64_w, i32_w]
            rfl
          refine done_ (done_of HT_.out (by kernel_rfl)) ?_
          try go_wp2
          go_ret
          exact ⟨by first | rfl | (simp [errW_none, errW_some] <;> rfl) | (simp [*, errW_none, errW_some] <;> rfl), by repeat (first | (with_reducible first | exact HB.out | apply below_alloc | apply pw_below_drewN | apply below_drew1 | refine below_set ?_ GE144.out) | exact HB.out)⟩
        · rw [if_neg c14] at H
          exact absurd H (by simp)
      · rw [if_neg c11] at H
        exact absurd H (by simp)
    · rw [if_neg c8] at H
      exact absurd H (by simp)
  · replace c5 := Bool.eq_false_iff.mpr c5
    subst c5
    have H1 : (none) = some r := by rw [if_neg (show ¬ (false = true) by decide)] at H; exact H
    clear H
    have H := H1
    clear H1
    exact absurd H (by simp)

/-- THE ONE PURE STATEMENT of drawlotlaw01_WordBack: yours. -/
def drawlotlaw01_WordBack.Pure : Prop := ∀ (a0 : Int) (a1 : List Int) (a2 : Int), (Lit.int .u64 a0).wf = true → (a1.length = 8 ∧ ∀ x ∈ a1, (Lit.int .u8 x).wf = true) → (Lit.int .u8 a2).wf = true → ∃ k, drawlotlaw01_WordBack.f k a0 a1 a2 = some true
theorem drawlotlaw01_WordBack.walk (P : drawlotlaw01_WordBack.Pure) (a0 : Int) (a1 : List Int) (a2 : Int) (w : World) (w0 : (Lit.int .u64 a0).wf = true) (w1 : a1.length = 8 ∧ ∀ x ∈ a1, (Lit.int .u8 x).wf = true) (w2 : (Lit.int .u8 a2).wf = true) :
    Calls Try.prog 5 #[.int .u64 a0, .agg (Ar.cells .u8 8 a1), .int .u8 a2] w fun e w' => e = .returned (.bool true) ∧ Below w.heap.size w w' := by
  obtain ⟨k, h⟩ := P a0 a1 a2 w0 w1 w2
  refine (drawlotlaw01_WordBack.calls k a0 a1 a2 true w h).mono ?_
  rintro e w' ⟨rfl, hd⟩
  exact ⟨rfl, hd⟩

end Go.Proofs.Ytpkdpdbcgbeakaa.PW
