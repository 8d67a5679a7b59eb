/- Written by xprint.py, this session's own driver, for the seat Ytpkdpdbcgbeakaa: contracts of Go functions, each saying that a call answers what a plain Lean function of the same name says, and, in a text named Law, the row of a law: its Go function answers true for every input. No conditions. -/
import Derived.Test.YtpkdpdbcgbeakaaPWx0
import Derived.Test.YtpkdpdbcgbeakaaPWx1
import Derived.Test.YtpkdpdbcgbeakaaPWx2
namespace Go.Proofs.Ytpkdpdbcgbeakaa.PW
open Go.RowKit Go.Proofs.YtpkdpdbcgbeakaaW.PrintWords Go.Proofs.YtpkdpdbcgbeakaaW.PrintLast Go.Proofs.YtpkdpdbcgbeakaaW.PrintMore
attribute [local go_sem] max2_int min2_int max_two min_two max_three min_three max_four min_four   -- for this text's walks alone
set_option linter.unusedVariables false
set_option linter.unusedSimpArgs false

/-! ### drawlotlaw01_WordBytes: function 4 -/
def drawlotlaw01_WordBytes.f (k : Nat) (a0 : Int) (a1 : List Int) : Option (Bool) := (drawlotlaw01_alive.f k).bind fun t132 => (if t132 = true then ((word_Put64.f k a0).bind fun t134 => ((drawlotref01_Put64.f k a0).bind fun t135 => (if (Ar.eqb 8 t134 t135) = true then ((word_Get64.f k a1).bind fun t136 => ((drawlotref01_Get64.f k a1).bind fun t137 => (if t136 = t137 then ((word_Put32.f ((Int.tmod a0 4294967296) % 4294967296)).bind fun t138 => ((drawlotref01_Put32.f ((Int.tmod a0 4294967296) % 4294967296)).bind fun t139 => (if (Ar.eqb 4 t138 t139) = true then ((word_Get32.f k [Ar.get 8 a1 0, Ar.get 8 a1 1, Ar.get 8 a1 2, Ar.get 8 a1 3]).bind fun t140 => ((drawlotref01_Get32.f k [Ar.get 8 a1 0, Ar.get 8 a1 1, Ar.get 8 a1 2, Ar.get 8 a1 3]).bind fun t141 => (if t140 = t141 then ((word_Bits.f k a0).bind fun t142 => ((drawlotref01_Bits.f k a0).bind fun t143 => (some (t142 == t143)))) else (none)))) else (none)))) else (none)))) else (none)))) else (none))
theorem drawlotlaw01_WordBytes.mono : ∀ a0 a1 k, LeO (drawlotlaw01_WordBytes.f k a0 a1) (drawlotlaw01_WordBytes.f (k + 1) a0 a1) := by
  intro a0 a1 k
  unfold drawlotlaw01_WordBytes.f
  repeat' first
      | (with_reducible exact drawlotlaw01_alive.mono _)
      | (with_reducible exact drawlotref01_Bits.mono _ _)
      | (with_reducible exact drawlotref01_Get32.mono _ _)
      | (with_reducible exact drawlotref01_Get64.mono _ _)
      | (with_reducible exact drawlotref01_Put64.mono _ _)
      | (with_reducible exact word_Bits.mono _ _)
      | (with_reducible exact word_Get32.mono _ _)
      | (with_reducible exact word_Get64.mono _ _)
      | (with_reducible exact word_Put64.mono _ _)
      | (with_reducible exact LeO.refl _)
      | (with_reducible exact LeO.none _)
      | (with_reducible refine LeO.ite ?_ ?_)
      | (with_reducible refine LeO.bind ?_ (fun _ => ?_))
      | exact drawlotlaw01_alive.mono _
      | exact drawlotref01_Bits.mono _ _
      | exact drawlotref01_Get32.mono _ _
      | exact drawlotref01_Get64.mono _ _
      | exact drawlotref01_Put64.mono _ _
      | exact word_Bits.mono _ _
      | exact word_Get32.mono _ _
      | exact word_Get64.mono _ _
      | exact word_Put64.mono _ _
      | exact LeO.none _
      | refine LeO.ite ?_ ?_
      | refine LeO.bind ?_ (fun _ => ?_)
def drawlotlaw01_WordBytes.T3 : Bool × List (List Nat × List Nat) := (true, [([], []), ([0], [0]), ([1], [1]), ([], []), ([3], [3]), ([], []), ([5], [5]), ([], []), ([7], [7]), ([], []), ([9], [9]), ([4, 6, 8, 10], [4, 6, 8, 10]), ([], []), ([2, 0, 1, 2, 12], [2]), ([12, 11, 13, 0, 1, 2, 3, 4, 5, 6, 7, 8, 9, 10, 11, 12, 13], [11, 12])])
def drawlotlaw01_WordBytes.B3 : List Nat := [0, 1, 3, 0, 8, 0, 32, 0, 128, 0, 512, 2040, 0, 4103, 16383]
theorem drawlotlaw01_WordBytes.tab3 : rtab .any (opsOf Try.f4 3) = drawlotlaw01_WordBytes.T3 := by kernel_rfl
theorem drawlotlaw01_WordBytes.bits3 : waitsOk drawlotlaw01_WordBytes.T3.2 drawlotlaw01_WordBytes.B3 = true := by kernel_rfl
def drawlotlaw01_WordBytes.T4 : Bool × List (List Nat × List Nat) := (true, [([], []), ([0], [0]), ([], []), ([2, 1], [2]), ([1, 3], [1, 3]), ([4, 3], [4]), ([5], [5]), ([6, 5, 5], [5, 6]), ([5], [5]), ([8, 7, 5], [5, 8]), ([7, 9, 5], [5, 7, 9]), ([5, 10], [5, 10]), ([11, 9], [11]), ([12], [12]), ([13, 12, 12], [12, 13]), ([12], [12]), ([15, 14, 12], [12, 15]), ([14, 16, 12], [12, 14, 16]), ([12, 17], [12, 17]), ([18, 16], [18]), ([19], [19]), ([20, 19, 19], [19, 20]), ([19], [19]), ([22, 21, 19], [19, 22]), ([21, 23, 19], [19, 21, 23]), ([19, 24], [19, 24]), ([25, 23], [25]), ([26], [26]), ([27, 26, 26], [26, 27]), ([26], [26]), ([29, 28, 26], [26, 29]), ([28, 30, 26], [26, 28, 30]), ([26, 31], [26, 31]), ([32, 30, 0, 1, 2, 3, 4, 5, 6, 7, 8, 9, 10, 11, 12, 13, 14, 15, 16, 17, 18, 19, 20, 21, 22, 23, 24, 25, 26, 27, 28, 29, 30, 31, 32], [32])])
def drawlotlaw01_WordBytes.B4 : List Nat := [0, 1, 0, 7, 15, 31, 63, 127, 63, 511, 1023, 2047, 4095, 8191, 16383, 8191, 65535, 131071, 262143, 524287, 1048575, 2097151, 1048575, 8388607, 16777215, 33554431, 67108863, 134217727, 268435455, 134217727, 1073741823, 2147483647, 4294967295, 8589934591]
theorem drawlotlaw01_WordBytes.tab4 : rtab .any (opsOf Try.f4 4) = drawlotlaw01_WordBytes.T4 := by kernel_rfl
theorem drawlotlaw01_WordBytes.bits4 : waitsOk drawlotlaw01_WordBytes.T4.2 drawlotlaw01_WordBytes.B4 = true := by kernel_rfl
set_option maxHeartbeats 8000000 in
set_option maxRecDepth 100000 in
theorem drawlotlaw01_WordBytes.calls (k : Nat) (a0 : Int) (a1 : List Int) (r : Bool) (w : World) (h : drawlotlaw01_WordBytes.f k a0 a1 = some r) :
    Calls Try.prog 4 #[.int .u64 a0, .agg (Ar.cells .u8 8 a1)] w fun e w' => e = .returned (.bool r) ∧ Below w.heap.size w w' := by
  have HB := Aside0.mk (Below.refl w.heap.size w)
  have H : ((drawlotlaw01_alive.f k).bind fun t132 => (if t132 = true then ((word_Put64.f k a0).bind fun t134 => ((drawlotref01_Put64.f k a0).bind fun t135 => (if (Ar.eqb 8 t134 t135) = true then ((word_Get64.f k a1).bind fun t136 => ((drawlotref01_Get64.f k a1).bind fun t137 => (if t136 = t137 then ((word_Put32.f ((Int.tmod a0 4294967296) % 4294967296)).bind fun t138 => ((drawlotref01_Put32.f ((Int.tmod a0 4294967296) % 4294967296)).bind fun t139 => (if (Ar.eqb 4 t138 t139) = true then ((word_Get32.f k [Ar.get 8 a1 0, Ar.get 8 a1 1, Ar.get 8 a1 2, Ar.get 8 a1 3]).bind fun t140 => ((drawlotref01_Get32.f k [Ar.get 8 a1 0, Ar.get 8 a1 1, Ar.get 8 a1 2, Ar.get 8 a1 3]).bind fun t141 => (if t140 = t141 then ((word_Bits.f k a0).bind fun t142 => ((drawlotref01_Bits.f k a0).bind fun t143 => (some (t142 == t143)))) else (none)))) else (none)))) else (none)))) else (none)))) else (none))) = some r := h
  clear h
  replace H := Option.bind_eq_some_iff.mp H
  obtain ⟨t132, A30, H⟩ := H
  replace H : (if t132 = true then ((word_Put64.f k a0).bind fun t134 => ((drawlotref01_Put64.f k a0).bind fun t135 => (if (Ar.eqb 8 t134 t135) = true then ((word_Get64.f k a1).bind fun t136 => ((drawlotref01_Get64.f k a1).bind fun t137 => (if t136 = t137 then ((word_Put32.f ((Int.tmod a0 4294967296) % 4294967296)).bind fun t138 => ((drawlotref01_Put32.f ((Int.tmod a0 4294967296) % 4294967296)).bind fun t139 => (if (Ar.eqb 4 t138 t139) = true then ((word_Get32.f k [Ar.get 8 a1 0, Ar.get 8 a1 1, Ar.get 8 a1 2, Ar.get 8 a1 3]).bind fun t140 => ((drawlotref01_Get32.f k [Ar.get 8 a1 0, Ar.get 8 a1 1, Ar.get 8 a1 2, Ar.get 8 a1 3]).bind fun t141 => (if t140 = t141 then ((word_Bits.f k a0).bind fun t142 => ((drawlotref01_Bits.f k a0).bind fun t143 => (some (t142 == t143)))) else (none)))) else (none)))) else (none)))) else (none)))) else (none)) = some r := H
  have A3 := Aside0.mk A30
  clear A30
  by_cases c4 : t132 = true
  · subst c4
    have H1 : ((word_Put64.f k a0).bind fun t134 => ((drawlotref01_Put64.f k a0).bind fun t135 => (if (Ar.eqb 8 t134 t135) = true then ((word_Get64.f k a1).bind fun t136 => ((drawlotref01_Get64.f k a1).bind fun t137 => (if t136 = t137 then ((word_Put32.f ((Int.tmod a0 4294967296) % 4294967296)).bind fun t138 => ((drawlotref01_Put32.f ((Int.tmod a0 4294967296) % 4294967296)).bind fun t139 => (if (Ar.eqb 4 t138 t139) = true then ((word_Get32.f k [Ar.get 8 a1 0, Ar.get 8 a1 1, Ar.get 8 a1 2, Ar.get 8 a1 3]).bind fun t140 => ((drawlotref01_Get32.f k [Ar.get 8 a1 0, Ar.get 8 a1 1, Ar.get 8 a1 2, Ar.get 8 a1 3]).bind fun t141 => (if t140 = t141 then ((word_Bits.f k a0).bind fun t142 => ((drawlotref01_Bits.f k a0).bind fun t143 => (some (t142 == t143)))) else (none)))) else (none)))) else (none)))) else (none)))) = some r := by rw [if_pos rfl] at H; exact H
    clear H
    have H := H1
    clear H1
    replace H := Option.bind_eq_some_iff.mp H
    obtain ⟨t134, A50, H⟩ := H
    replace H : ((drawlotref01_Put64.f k a0).bind fun t135 => (if (Ar.eqb 8 t134 t135) = true then ((word_Get64.f k a1).bind fun t136 => ((drawlotref01_Get64.f k a1).bind fun t137 => (if t136 = t137 then ((word_Put32.f ((Int.tmod a0 4294967296) % 4294967296)).bind fun t138 => ((drawlotref01_Put32.f ((Int.tmod a0 4294967296) % 4294967296)).bind fun t139 => (if (Ar.eqb 4 t138 t139) = true then ((word_Get32.f k [Ar.get 8 a1 0, Ar.get 8 a1 1, Ar.get 8 a1 2, Ar.get 8 a1 3]).bind fun t140 => ((drawlotref01_Get32.f k [Ar.get 8 a1 0, Ar.get 8 a1 1, Ar.get 8 a1 2, Ar.get 8 a1 3]).bind fun t141 => (if t140 = t141 then ((word_Bits.f k a0).bind fun t142 => ((drawlotref01_Bits.f k a0).bind fun t143 => (some (t142 == t143)))) else (none)))) else (none)))) else (none)))) else (none))) = some r := H
    have A5 := Aside0.mk A50
    clear A50
    replace H := Option.bind_eq_some_iff.mp H
    obtain ⟨t135, A60, H⟩ := H
    replace H : (if (Ar.eqb 8 t134 t135) = true then ((word_Get64.f k a1).bind fun t136 => ((drawlotref01_Get64.f k a1).bind fun t137 => (if t136 = t137 then ((word_Put32.f ((Int.tmod a0 4294967296) % 4294967296)).bind fun t138 => ((drawlotref01_Put32.f ((Int.tmod a0 4294967296) % 4294967296)).bind fun t139 => (if (Ar.eqb 4 t138 t139) = true then ((word_Get32.f k [Ar.get 8 a1 0, Ar.get 8 a1 1, Ar.get 8 a1 2, Ar.get 8 a1 3]).bind fun t140 => ((drawlotref01_Get32.f k [Ar.get 8 a1 0, Ar.get 8 a1 1, Ar.get 8 a1 2, Ar.get 8 a1 3]).bind fun t141 => (if t140 = t141 then ((word_Bits.f k a0).bind fun t142 => ((drawlotref01_Bits.f k a0).bind fun t143 => (some (t142 == t143)))) else (none)))) else (none)))) else (none)))) else (none)) = some r := H
    have A6 := Aside0.mk A60
    clear A60
    by_cases c7 : (Ar.eqb 8 t134 t135) = true
    · rw [if_pos c7] at H
      have c7b0 : (Ar.eqb 8 t134 t135) = true := c7
      clear c7
      replace H := Option.bind_eq_some_iff.mp H
      obtain ⟨t136, A80, H⟩ := H
      replace H : ((drawlotref01_Get64.f k a1).bind fun t137 => (if t136 = t137 then ((word_Put32.f ((Int.tmod a0 4294967296) % 4294967296)).bind fun t138 => ((drawlotref01_Put32.f ((Int.tmod a0 4294967296) % 4294967296)).bind fun t139 => (if (Ar.eqb 4 t138 t139) = true then ((word_Get32.f k [Ar.get 8 a1 0, Ar.get 8 a1 1, Ar.get 8 a1 2, Ar.get 8 a1 3]).bind fun t140 => ((drawlotref01_Get32.f k [Ar.get 8 a1 0, Ar.get 8 a1 1, Ar.get 8 a1 2, Ar.get 8 a1 3]).bind fun t141 => (if t140 = t141 then ((word_Bits.f k a0).bind fun t142 => ((drawlotref01_Bits.f k a0).bind fun t143 => (some (t142 == t143)))) else (none)))) else (none)))) else (none))) = some r := H
      have A8 := Aside0.mk A80
      clear A80
      replace H := Option.bind_eq_some_iff.mp H
      obtain ⟨t137, A90, H⟩ := H
      replace H : (if t136 = t137 then ((word_Put32.f ((Int.tmod a0 4294967296) % 4294967296)).bind fun t138 => ((drawlotref01_Put32.f ((Int.tmod a0 4294967296) % 4294967296)).bind fun t139 => (if (Ar.eqb 4 t138 t139) = true then ((word_Get32.f k [Ar.get 8 a1 0, Ar.get 8 a1 1, Ar.get 8 a1 2, Ar.get 8 a1 3]).bind fun t140 => ((drawlotref01_Get32.f k [Ar.get 8 a1 0, Ar.get 8 a1 1, Ar.get 8 a1 2, Ar.get 8 a1 3]).bind fun t141 => (if t140 = t141 then ((word_Bits.f k a0).bind fun t142 => ((drawlotref01_Bits.f k a0).bind fun t143 => (some (t142 == t143)))) else (none)))) else (none)))) else (none)) = some r := H
      have A9 := Aside0.mk A90
      clear A90
      by_cases c10 : t136 = t137
      · rw [if_pos c10] at H
        have c10b0 : (t136 == t137) = true := beq_iff_eq.mpr c10
        have c10b1 : (t136 != t137) = false := bne_eq_false_iff_eq.mpr c10
        clear c10
        replace H := Option.bind_eq_some_iff.mp H
        obtain ⟨t138, A110, H⟩ := H
        replace H : ((drawlotref01_Put32.f ((Int.tmod a0 4294967296) % 4294967296)).bind fun t139 => (if (Ar.eqb 4 t138 t139) = true then ((word_Get32.f k [Ar.get 8 a1 0, Ar.get 8 a1 1, Ar.get 8 a1 2, Ar.get 8 a1 3]).bind fun t140 => ((drawlotref01_Get32.f k [Ar.get 8 a1 0, Ar.get 8 a1 1, Ar.get 8 a1 2, Ar.get 8 a1 3]).bind fun t141 => (if t140 = t141 then ((word_Bits.f k a0).bind fun t142 => ((drawlotref01_Bits.f k a0).bind fun t143 => (some (t142 == t143)))) else (none)))) else (none))) = some r := H
        have A11 := Aside0.mk A110
        clear A110
        replace H := Option.bind_eq_some_iff.mp H
        obtain ⟨t139, A120, H⟩ := H
        replace H : (if (Ar.eqb 4 t138 t139) = true then ((word_Get32.f k [Ar.get 8 a1 0, Ar.get 8 a1 1, Ar.get 8 a1 2, Ar.get 8 a1 3]).bind fun t140 => ((drawlotref01_Get32.f k [Ar.get 8 a1 0, Ar.get 8 a1 1, Ar.get 8 a1 2, Ar.get 8 a1 3]).bind fun t141 => (if t140 = t141 then ((word_Bits.f k a0).bind fun t142 => ((drawlotref01_Bits.f k a0).bind fun t143 => (some (t142 == t143)))) else (none)))) else (none)) = some r := H
        have A12 := Aside0.mk A120
        clear A120
        by_cases c13 : (Ar.eqb 4 t138 t139) = true
        · rw [if_pos c13] at H
          have c13b0 : (Ar.eqb 4 t138 t139) = true := c13
          clear c13
          replace H := Option.bind_eq_some_iff.mp H
          obtain ⟨t140, A140, H⟩ := H
          replace H : ((drawlotref01_Get32.f k [Ar.get 8 a1 0, Ar.get 8 a1 1, Ar.get 8 a1 2, Ar.get 8 a1 3]).bind fun t141 => (if t140 = t141 then ((word_Bits.f k a0).bind fun t142 => ((drawlotref01_Bits.f k a0).bind fun t143 => (some (t142 == t143)))) else (none))) = some r := H
          have A14 := Aside0.mk A140
          clear A140
          replace H := Option.bind_eq_some_iff.mp H
          obtain ⟨t141, A150, H⟩ := H
          replace H : (if t140 = t141 then ((word_Bits.f k a0).bind fun t142 => ((drawlotref01_Bits.f k a0).bind fun t143 => (some (t142 == t143)))) else (none)) = some r := H
          have A15 := Aside0.mk A150
          clear A150
          by_cases c16 : t140 = t141
          · rw [if_pos c16] at H
            have c16b0 : (t140 == t141) = true := beq_iff_eq.mpr c16
            have c16b1 : (t140 != t141) = false := bne_eq_false_iff_eq.mpr c16
            clear c16
            replace H := Option.bind_eq_some_iff.mp H
            obtain ⟨t142, A170, H⟩ := H
            replace H : ((drawlotref01_Bits.f k a0).bind fun t143 => (some (t142 == t143))) = some r := H
            have A17 := Aside0.mk A170
            clear A170
            replace H := Option.bind_eq_some_iff.mp H
            obtain ⟨t143, A180, H⟩ := H
            replace H : (some (t142 == t143)) = some r := H
            have A18 := Aside0.mk A180
            clear A180
            obtain rfl := Option.some.inj H
            go_enter Try.func4, Try.ntmps4
            try go_wp2_with (first | ((with_reducible refine gate_dst (N := 3) rfl ?_); (try (refine gate_guard (by rfl) ?_; dsimp only)); refine box_event ?hg (N := 3) ?hd (cs := (Ar.cells .u8 8 a1)) (t := 27) ?hr ?_; (case hd => rfl); (case hg => rfl); (case hr => first | exact Ar.box_run rfl rfl | exact Ar.alloc_run rfl (by kernel_rfl) | (go_simp; done) | (go_simp; rfl)); intro gb131 hg w19 hbox hb; have n0_ := Aside0.mk (below_step (by repeat (first | (with_reducible first | exact HB.out | apply below_alloc | apply pw_below_drewN | apply below_drew1) | exact HB.out)) hb); have n1_ := Aside0.mk (hbox); have n2_ := Aside0.mk ((by rw [hg]; exact (below_size (by repeat (first | (with_reducible first | exact HB.out | apply below_alloc | apply pw_below_drewN | apply below_drew1) | exact HB.out))) : w.heap.size ≤ gb131)); have n3_ := Aside0.mk ((by rw [hg]; exact (below_size (by repeat (first | (with_reducible first | exact HB.out | apply below_alloc | apply pw_below_drewN | apply below_drew1) | exact HB.out))) : w.heap.size ≤ gb131)); clear HB; have HB := n0_; have BK131 := n1_; have GW131 := n2_; have GE131 := n3_; clear n0_ n1_ n2_ n3_; clear hb hbox hg) | ((with_reducible refine gate_callee (f := 17) rfl ?_); refine goesL_ (some 7) rfl rfl Try.func17 (by kernel_rfl) rfl #[] rfl (by (try simp only [List.map_toArray, List.map_cons, List.map_nil]); first | done | rfl | (simp only [List.length_drop, List.length_take]; rfl)) ?_; (with_reducible refine (drawlotlaw01_alive.calls k  true _ A3.out).mono ?_); rintro e w20 ⟨rfl, hb⟩; refine ⟨_, rfl, ?_⟩; have n0_ := Aside0.mk (blk_below (g := gb131) (o := .cells (Ar.cells .u8 8 a1) 27 (0, 0)) (by (with_reducible repeat (first | refine blk_drewN ?_ _ | refine blk_drew ?_ | refine blk_alloc ?_ _)); exact BK131.out) hb); have n1_ := Aside0.mk (below_step (by repeat (first | (with_reducible first | exact HB.out | apply below_alloc | apply pw_below_drewN | apply below_drew1 | refine below_set ?_ GE131.out) | exact HB.out)) hb); clear BK131; clear HB; have BK131 := n0_; have HB := n1_; clear n0_ n1_; (try clear hb); (try clear hb2); (try clear hk); (try clear hi)))
            have n0_ := Aside0.mk (blk_drew BK131.out)
            have n1_ := Aside0.mk (below_drew1 HB.out)
            clear BK131
            clear HB
            have BK131 := n0_
            have HB := n1_
            clear n0_ n1_
            refine start_ (n := 15) (S := fun w' => w'.cell? ⟨gb131, 0, none⟩ = some (.int .u8 (Ar.get 8 a1 0)) ∧ w'.cell? ⟨gb131, 1, none⟩ = some (.int .u8 (Ar.get 8 a1 1)) ∧ w'.cell? ⟨gb131, 2, none⟩ = some (.int .u8 (Ar.get 8 a1 2)) ∧ w'.cell? ⟨gb131, 3, none⟩ = some (.int .u8 (Ar.get 8 a1 3))) (ds := []) #[false, false, false, false, false, false, false, false, false, false, false, false, false, false, false] (by kernel_rfl) rfl rfl ⟨(Ar.cell_run (j := 0) BK131.out (by decide) (by decide)), (Ar.cell_run (j := 1) BK131.out (by decide) (by decide)), (Ar.cell_run (j := 2) BK131.out (by decide) (by decide)), (Ar.cell_run (j := 3) BK131.out (by decide) (by decide))⟩ (fun hHeld => ?_); refine with_tabW drawlotlaw01_WordBytes.tab3 drawlotlaw01_WordBytes.bits3 (fun HT_ HW_ => ?_)
            generalize w20.drew = w21 at BK131 HB hHeld ⊢
            refine pure_ (i := 0) (N := some 9) (v := ?_) (a' := ?_) #[true, false, false, false, false, false, false, false, false, false, false, false, false, false, false] rfl rfl (any_of HT_.out (by kernel_rfl)) (fun _ _ _ h => h) (Or.inl ⟨by rfl, ?_⟩) ?_ ?_
            rotate_left
            · intro w'
              go_simp
              with_reducible rfl
            rotate_left
            · simp only [Act.put, List.setIfInBounds_toArray, List.set_cons_zero, List.set_cons_succ, i64_w, i32_w]
              rfl
            refine pure_ (i := 1) (N := some 10) (v := ?_) (a' := ?_) #[true, true, false, false, false, false, false, false, false, false, false, false, false, false, false] rfl rfl (any_of HT_.out (by kernel_rfl)) (fun _ _ _ h => h) (Or.inl ⟨by rfl, ?_⟩) ?_ ?_
            rotate_left
            · intro w'
              go_simp
              with_reducible rfl
            rotate_left
            · simp only [Act.put, List.setIfInBounds_toArray, List.set_cons_zero, List.set_cons_succ, i64_w, i32_w]
              rfl
            refine pure_ (i := 2) (N := some 11) (v := ?_) (a' := ?_) #[true, true, true, false, false, false, false, false, false, false, false, false, false, false, false] rfl rfl (any_of HT_.out (by kernel_rfl)) (fun _ _ _ h => h) (Or.inl ⟨by rfl, ?_⟩) ?_ ?_
            rotate_left
            · intro w'
              go_simp
              with_reducible rfl
            rotate_left
            · simp only [Act.put, List.setIfInBounds_toArray, List.set_cons_zero, List.set_cons_succ, i64_w, i32_w]
              rfl
            refine pure_ (i := 3) (N := some 12) (v := ?_) (a' := ?_) #[true, true, true, true, false, false, false, false, false, false, false, false, false, false, false] rfl rfl (any_of HT_.out (by kernel_rfl)) (fun _ _ _ h => h) (Or.inl ⟨by rfl, ?_⟩) ?_ ?_
            rotate_left
            · intro w'
              go_simp
              with_reducible rfl
            rotate_left
            · simp only [Act.put, List.setIfInBounds_toArray, List.set_cons_zero, List.set_cons_succ, i64_w, i32_w]
              rfl
            refine pure_ (i := 5) (N := some 14) (v := ?_) (a' := ?_) #[true, true, true, true, false, true, false, false, false, false, false, false, false, false, false] rfl rfl (any_of HT_.out (by kernel_rfl)) (fun _ _ _ h => h) (Or.inl ⟨by rfl, ?_⟩) ?_ ?_
            rotate_left
            · intro w'
              go_simp
              with_reducible rfl
            rotate_left
            · simp only [Act.put, List.setIfInBounds_toArray, List.set_cons_zero, List.set_cons_succ, i64_w, i32_w]
              rfl
            refine pure_ (i := 7) (N := some 16) (v := ?_) (a' := ?_) #[true, true, true, true, false, true, false, true, false, false, false, false, false, false, false] rfl rfl (any_of HT_.out (by kernel_rfl)) (fun _ _ _ h => h) (Or.inl ⟨by rfl, ?_⟩) ?_ ?_
            rotate_left
            · intro w'
              go_simp
              with_reducible rfl
            rotate_left
            · simp only [Act.put, List.setIfInBounds_toArray, List.set_cons_zero, List.set_cons_succ, i64_w, i32_w]
              rfl
            refine pure_ (i := 9) (N := some 18) (v := ?_) (a' := ?_) #[true, true, true, true, false, true, false, true, false, true, false, false, false, false, false] rfl rfl (any_of HT_.out (by kernel_rfl)) (fun _ _ _ h => h) (Or.inl ⟨by rfl, ?_⟩) ?_ ?_
            rotate_left
            · intro w'
              go_simp
              with_reducible rfl
            rotate_left
            · simp only [Act.put, List.setIfInBounds_toArray, List.set_cons_zero, List.set_cons_succ, i64_w, i32_w]
              rfl
            refine take_ (i := 4) (N := some 13) (v := ?_) (a' := ?_) #[true, true, true, true, true, true, false, true, false, true, false, false, false, false, false] rfl rfl (take_ofW HT_.out HW_.out (by kernel_rfl)) (fun _ _ _ h => h) (Or.inl ⟨by rfl, ?_⟩) hHeld ?_ ?_
            rotate_left
            · rintro w' ⟨s0, s1, s2, s3⟩
              go_simp
              with_reducible rfl
            rotate_left
            · simp only [Act.put, List.setIfInBounds_toArray, List.set_cons_zero, List.set_cons_succ, i64_w, i32_w]
              rfl
            refine take_ (i := 6) (N := some 15) (v := ?_) (a' := ?_) #[true, true, true, true, true, true, true, true, false, true, false, false, false, false, false] rfl rfl (take_ofW HT_.out HW_.out (by kernel_rfl)) (fun _ _ _ h => h) (Or.inl ⟨by rfl, ?_⟩) hHeld ?_ ?_
            rotate_left
            · rintro w' ⟨s0, s1, s2, s3⟩
              go_simp
              with_reducible rfl
            rotate_left
            · simp only [Act.put, List.setIfInBounds_toArray, List.set_cons_zero, List.set_cons_succ, i64_w, i32_w]
              rfl
            refine take_ (i := 8) (N := some 17) (v := ?_) (a' := ?_) #[true, true, true, true, true, true, true, true, true, true, false, false, false, false, false] rfl rfl (take_ofW HT_.out HW_.out (by kernel_rfl)) (fun _ _ _ h => h) (Or.inl ⟨by rfl, ?_⟩) hHeld ?_ ?_
            rotate_left
            · rintro w' ⟨s0, s1, s2, s3⟩
              go_simp
              with_reducible rfl
            rotate_left
            · simp only [Act.put, List.setIfInBounds_toArray, List.set_cons_zero, List.set_cons_succ, i64_w, i32_w]
              rfl
            refine take_ (i := 10) (N := some 19) (v := ?_) (a' := ?_) #[true, true, true, true, true, true, true, true, true, true, true, false, false, false, false] rfl rfl (take_ofW HT_.out HW_.out (by kernel_rfl)) (fun _ _ _ h => h) (Or.inl ⟨by rfl, ?_⟩) hHeld ?_ ?_
            rotate_left
            · rintro w' ⟨s0, s1, s2, s3⟩
              go_simp
              with_reducible rfl
            rotate_left
            · simp only [Act.put, List.setIfInBounds_toArray, List.set_cons_zero, List.set_cons_succ, i64_w, i32_w]
              rfl
            refine pure_ (i := 11) (N := some 20) (v := ?_) (a' := ?_) #[true, true, true, true, true, true, true, true, true, true, true, true, false, false, false] rfl rfl (any_of HT_.out (by kernel_rfl)) (fun _ _ _ h => h) (Or.inl ⟨by rfl, ?_⟩) ?_ ?_
            rotate_left
            · intro w'
              go_simp
              with_reducible rfl
            rotate_left
            · simp only [Act.put, List.setIfInBounds_toArray, List.set_cons_zero, List.set_cons_succ, i64_w, i32_w]
              rfl
            refine one_ (i := 12) (N := some 6) #[true, true, true, true, true, true, true, true, true, true, true, true, true, false, false] rfl rfl (one_of HT_.out (by kernel_rfl)) (by decide) (fun K hK => ?_)
            refine box_step ?hg (N := 6) ?hd (cs := (Ar.cells .u8 4 (List.replicate 4 0))) (t := 28) ?hr ?_; (case hd => rfl); (case hg => rfl); (case hr => first | exact Ar.box_run rfl rfl | exact Ar.alloc_run rfl (by kernel_rfl) | (go_simp; done) | (go_simp; rfl))
            intro gb133 hg w26 hbox hb
            have n0_ := Aside0.mk (blk_below (g := gb131) (o := .cells (Ar.cells .u8 8 a1) 27 (0, 0)) (by (with_reducible repeat (first | refine blk_drewN ?_ _ | refine blk_drew ?_ | refine blk_alloc ?_ _)); exact BK131.out) hb)
            have n1_ := Aside0.mk (below_step (by repeat (first | (with_reducible first | exact HB.out | apply below_alloc | apply pw_below_drewN | apply below_drew1 | refine below_set ?_ GE131.out) | exact HB.out)) hb)
            have n2_ := Aside0.mk (hbox)
            have n3_ := Aside0.mk ((by rw [hg]; exact (below_size (by repeat (first | (with_reducible first | exact HB.out | apply below_alloc | apply pw_below_drewN | apply below_drew1 | refine below_set ?_ GE131.out) | exact HB.out))) : w.heap.size ≤ gb133))
            have n4_ := Aside0.mk ((by rw [hg]; exact (below_size (by repeat (first | (with_reducible first | exact HB.out | apply below_alloc | apply pw_below_drewN | apply below_drew1 | refine below_set ?_ GE131.out) | exact HB.out))) : w.heap.size ≤ gb133))
            have n5_ := Aside0.mk ((by rw [hg]; exact Nat.ne_of_lt (blk_lt (g := gb131) (o := .cells (Ar.cells .u8 8 a1) 27 (0, 0)) (by (with_reducible repeat (first | refine blk_drewN ?_ _ | refine blk_drew ?_ | refine blk_alloc ?_ _)); exact BK131.out)) : gb131 ≠ gb133))
            have n6_ := Aside0.mk ((by rw [hg]; exact Nat.ne_of_gt (blk_lt (g := gb131) (o := .cells (Ar.cells .u8 8 a1) 27 (0, 0)) (by (with_reducible repeat (first | refine blk_drewN ?_ _ | refine blk_drew ?_ | refine blk_alloc ?_ _)); exact BK131.out)) : gb133 ≠ gb131))
            clear BK131
            clear HB
            have BK131 := n0_
            have HB := n1_
            have BK133 := n2_
            have GW133 := n3_
            have GE133 := n4_
            have NB131_133 := n5_
            have NB133_131 := n6_
            clear n0_ n1_ n2_ n3_ n4_ n5_ n6_
            clear hb hbox hg
            refine hK.out _ _ ⟨(Ar.cell_run (j := 0) BK131.out (by decide) (by decide)), (Ar.cell_run (j := 1) BK131.out (by decide) (by decide)), (Ar.cell_run (j := 2) BK131.out (by decide) (by decide)), (Ar.cell_run (j := 3) BK131.out (by decide) (by decide))⟩ (fun hHeld => ?_)
            clear hK K
            refine norm_ (a' := ?_) ?_ ?_
            rotate_left
            · show Act.put _ (some 6) _ = _
              simp only [Act.put, List.setIfInBounds_toArray, List.set_cons_zero, List.set_cons_succ, i64_w, i32_w]
              rfl
            refine pure_ (i := 13) (N := some 5) (v := ?_) (a' := ?_) #[true, true, true, true, true, true, true, true, true, true, true, true, true, true, false] rfl rfl (any_of HT_.out (by kernel_rfl)) (fun _ _ _ h => h) (Or.inl ⟨by rfl, ?_⟩) ?_ ?_
            rotate_left
            · intro w'
              go_simp
              with_reducible rfl
            rotate_left
            · simp only [Act.put, List.setIfInBounds_toArray, List.set_cons_zero, List.set_cons_succ, i64_w, i32_w]
              rfl
            refine one_ (i := 14) (N := none) #[true, true, true, true, true, true, true, true, true, true, true, true, true, true, true] rfl rfl (one_of HT_.out (by kernel_rfl)) (by decide) (fun K hK => ?_)
            refine Ar.store_all_step (by rfl) rfl rfl Try.underlying28 (by kernel_rfl) (g := gb133) rfl (z := [Ar.get 8 a1 0, Ar.get 8 a1 1, Ar.get 8 a1 2, Ar.get 8 a1 3]) (by first | rfl | (go_simp; done) | (go_simp; rfl)) (by (with_reducible repeat (first | refine blk_drewN ?_ _ | refine blk_drew ?_ | refine blk_alloc ?_ _)); exact BK133.out) ?_; intro w27 hbk_ hg
            have n0_ := Aside0.mk (blk_grown (g := gb131) (o := .cells (Ar.cells .u8 8 a1) 27 (0, 0)) (by (with_reducible repeat (first | refine blk_drewN ?_ _ | refine blk_drew ?_ | refine blk_alloc ?_ _)); exact BK131.out) hg (fun e_ => NB131_133.out (Option.some.inj e_)))
            have n1_ := Aside0.mk (hbk_)
            have n2_ := Aside0.mk (Below.grown (by repeat (first | (with_reducible first | exact HB.out | apply below_alloc | apply pw_below_drewN | apply below_drew1 | refine below_set ?_ GE131.out | refine below_set ?_ GE133.out) | exact HB.out)) hg ((below_size (by repeat (first | (with_reducible first | exact HB.out | apply below_alloc | apply pw_below_drewN | apply below_drew1 | refine below_set ?_ GE131.out | refine below_set ?_ GE133.out) | exact HB.out)))) (fun _ e_ => by cases e_; exact GE133.out))
            clear BK131
            clear BK133
            clear HB
            have BK131 := n0_
            have BK133 := n1_
            have HB := n2_
            clear n0_ n1_ n2_
            clear hbk_ hg
            refine hK.out _ _ ⟨(Ar.cell_run (j := 0) BK131.out (by decide) (by decide)), (Ar.cell_run (j := 1) BK131.out (by decide) (by decide)), (Ar.cell_run (j := 2) BK131.out (by decide) (by decide)), (Ar.cell_run (j := 3) BK131.out (by decide) (by decide))⟩ (fun hHeld => ?_)
            clear hK K
            refine done_ (done_of HT_.out (by kernel_rfl)) ?_
            try go_wp2
            have n0_ := Aside0.mk (blk_drew BK131.out)
            have n1_ := Aside0.mk (blk_drew BK133.out)
            have n2_ := Aside0.mk (below_drew1 HB.out)
            clear BK131
            clear BK133
            clear HB
            have BK131 := n0_
            have BK133 := n1_
            have HB := n2_
            clear n0_ n1_ n2_
            refine start_ (n := 34) (S := fun w' => w'.cell? ⟨gb131, 0, none⟩ = some (.int .u8 (Ar.get 8 a1 0)) ∧ w'.cell? ⟨gb131, 1, none⟩ = some (.int .u8 (Ar.get 8 a1 1)) ∧ w'.cell? ⟨gb131, 2, none⟩ = some (.int .u8 (Ar.get 8 a1 2)) ∧ w'.cell? ⟨gb131, 3, none⟩ = some (.int .u8 (Ar.get 8 a1 3)) ∧ w'.cell? ⟨gb131, 4, none⟩ = some (.int .u8 (Ar.get 8 a1 4)) ∧ w'.cell? ⟨gb131, 5, none⟩ = some (.int .u8 (Ar.get 8 a1 5)) ∧ w'.cell? ⟨gb131, 6, none⟩ = some (.int .u8 (Ar.get 8 a1 6)) ∧ w'.cell? ⟨gb131, 7, none⟩ = some (.int .u8 (Ar.get 8 a1 7)) ∧ w'.cell? ⟨gb133, 0, none⟩ = some (.int .u8 (Ar.get 4 [Ar.get 8 a1 0, Ar.get 8 a1 1, Ar.get 8 a1 2, Ar.get 8 a1 3] 0)) ∧ w'.cell? ⟨gb133, 1, none⟩ = some (.int .u8 (Ar.get 4 [Ar.get 8 a1 0, Ar.get 8 a1 1, Ar.get 8 a1 2, Ar.get 8 a1 3] 1)) ∧ w'.cell? ⟨gb133, 2, none⟩ = some (.int .u8 (Ar.get 4 [Ar.get 8 a1 0, Ar.get 8 a1 1, Ar.get 8 a1 2, Ar.get 8 a1 3] 2)) ∧ w'.cell? ⟨gb133, 3, none⟩ = some (.int .u8 (Ar.get 4 [Ar.get 8 a1 0, Ar.get 8 a1 1, Ar.get 8 a1 2, Ar.get 8 a1 3] 3))) (ds := []) #[false, false, false, false, false, false, false, false, false, false, false, false, false, false, false, false, false, false, false, false, false, false, false, false, false, false, false, false, false, false, false, false, false, false] (by kernel_rfl) rfl rfl ⟨(Ar.cell_run (j := 0) BK131.out (by decide) (by decide)), (Ar.cell_run (j := 1) BK131.out (by decide) (by decide)), (Ar.cell_run (j := 2) BK131.out (by decide) (by decide)), (Ar.cell_run (j := 3) BK131.out (by decide) (by decide)), (Ar.cell_run (j := 4) BK131.out (by decide) (by decide)), (Ar.cell_run (j := 5) BK131.out (by decide) (by decide)), (Ar.cell_run (j := 6) BK131.out (by decide) (by decide)), (Ar.cell_run (j := 7) BK131.out (by decide) (by decide)), (Ar.cell_run (j := 0) BK133.out (by decide) (by decide)), (Ar.cell_run (j := 1) BK133.out (by decide) (by decide)), (Ar.cell_run (j := 2) BK133.out (by decide) (by decide)), (Ar.cell_run (j := 3) BK133.out (by decide) (by decide))⟩ (fun hHeld => ?_); refine with_tabW drawlotlaw01_WordBytes.tab4 drawlotlaw01_WordBytes.bits4 (fun HT_ HW_ => ?_)
            generalize w27.drew = w28 at BK131 BK133 HB hHeld ⊢
            refine pure_ (i := 0) (N := some 21) (v := ?_) (a' := ?_) #[true, false, false, false, false, false, false, false, false, false, false, false, false, false, false, false, false, false, false, false, false, false, false, false, false, false, false, false, false, false, false, false, false, false] rfl rfl (any_of HT_.out (by kernel_rfl)) (fun _ _ _ h => h) (Or.inl ⟨by rfl, ?_⟩) ?_ ?_
            rotate_left
            · intro w'
              go_simp
              with_reducible rfl
            rotate_left
            · simp only [Act.put, List.setIfInBounds_toArray, List.set_cons_zero, List.set_cons_succ, i64_w, i32_w]
              rfl
            refine pure_ (i := 2) (N := some 23) (v := ?_) (a' := ?_) #[true, false, true, false, false, false, false, false, false, false, false, false, false, false, false, false, false, false, false, false, false, false, false, false, false, false, false, false, false, false, false, false, false, false] rfl rfl (any_of HT_.out (by kernel_rfl)) (fun _ _ _ h => h) (Or.inl ⟨by rfl, ?_⟩) ?_ ?_
            rotate_left
            · intro w'
              go_simp
              with_reducible rfl
            rotate_left
            · simp only [Act.put, List.setIfInBounds_toArray, List.set_cons_zero, List.set_cons_succ, i64_w, i32_w]
              rfl
            refine one_ (i := 1) (N := some 22) #[true, true, true, false, false, false, false, false, false, false, false, false, false, false, false, false, false, false, false, false, false, false, false, false, false, false, false, false, false, false, false, false, false, false] rfl rfl (one_of HT_.out (by kernel_rfl)) (by decide) (fun K hK => ?_)
            refine goes_ Try.func24 (by kernel_rfl) rfl #[.int .u64 a0] (by rfl) rfl rfl (by (try simp only [List.map_toArray, List.map_cons, List.map_nil]); first | done | rfl | (simp only [List.length_drop, List.length_take]; rfl)) ?_
            with_reducible refine (word_Put64.calls k a0 t134 _ A5.out).mono ?_
            rintro e w29 ⟨rfl, hb⟩
            refine ⟨_, rfl, ?_⟩
            have n0_ := Aside0.mk (blk_below (g := gb131) (o := .cells (Ar.cells .u8 8 a1) 27 (0, 0)) (by (with_reducible repeat (first | refine blk_drewN ?_ _ | refine blk_drew ?_ | refine blk_alloc ?_ _)); exact BK131.out) hb)
            have n1_ := Aside0.mk (blk_below (g := gb133) (o := .cells (Ar.cells .u8 4 [Ar.get 8 a1 0, Ar.get 8 a1 1, Ar.get 8 a1 2, Ar.get 8 a1 3]) 28 (0, 0)) (by (with_reducible repeat (first | refine blk_drewN ?_ _ | refine blk_drew ?_ | refine blk_alloc ?_ _)); exact BK133.out) hb)
            have n2_ := Aside0.mk (below_step (by repeat (first | (with_reducible first | exact HB.out | apply below_alloc | apply pw_below_drewN | apply below_drew1 | refine below_set ?_ GE131.out | refine below_set ?_ GE133.out) | exact HB.out)) hb)
            clear BK131
            clear BK133
            clear HB
            have BK131 := n0_
            have BK133 := n1_
            have HB := n2_
            clear n0_ n1_ n2_
            (try clear hb)
            (try clear hb2)
            (try clear hk)
            (try clear hi)
            refine hK.out _ _ ⟨(Ar.cell_run (j := 0) BK131.out (by decide) (by decide)), (Ar.cell_run (j := 1) BK131.out (by decide) (by decide)), (Ar.cell_run (j := 2) BK131.out (by decide) (by decide)), (Ar.cell_run (j := 3) BK131.out (by decide) (by decide)), (Ar.cell_run (j := 4) BK131.out (by decide) (by decide)), (Ar.cell_run (j := 5) BK131.out (by decide) (by decide)), (Ar.cell_run (j := 6) BK131.out (by decide) (by decide)), (Ar.cell_run (j := 7) BK131.out (by decide) (by decide)), (Ar.cell_run (j := 0) BK133.out (by decide) (by decide)), (Ar.cell_run (j := 1) BK133.out (by decide) (by decide)), (Ar.cell_run (j := 2) BK133.out (by decide) (by decide)), (Ar.cell_run (j := 3) BK133.out (by decide) (by decide))⟩ (fun hHeld => ?_)
            clear hK K
            refine norm_ (a' := ?_) ?_ ?_
            rotate_left
            · show Act.put _ (some 22) _ = _
              simp only [Act.put, List.setIfInBounds_toArray, List.set_cons_zero, List.set_cons_succ, i64_w, i32_w]
              rfl
            refine one_ (i := 3) (N := some 24) #[true, true, true, true, false, false, false, false, false, false, false, false, false, false, false, false, false, false, false, false, false, false, false, false, false, false, false, false, false, false, false, false, false, false] rfl rfl (one_of HT_.out (by kernel_rfl)) (by decide) (fun K hK => ?_)
            refine goes_ Try.func25 (by kernel_rfl) rfl #[.int .u64 a0] (by rfl) rfl rfl (by (try simp only [List.map_toArray, List.map_cons, List.map_nil]); first | done | rfl | (simp only [List.length_drop, List.length_take]; rfl)) ?_
            with_reducible refine (drawlotref01_Put64.calls k a0 t135 _ A6.out).mono ?_
            rintro e w30 ⟨rfl, hb⟩
            refine ⟨_, rfl, ?_⟩
            have n0_ := Aside0.mk (blk_below (g := gb131) (o := .cells (Ar.cells .u8 8 a1) 27 (0, 0)) (by (with_reducible repeat (first | refine blk_drewN ?_ _ | refine blk_drew ?_ | refine blk_alloc ?_ _)); exact BK131.out) hb)
            have n1_ := Aside0.mk (blk_below (g := gb133) (o := .cells (Ar.cells .u8 4 [Ar.get 8 a1 0, Ar.get 8 a1 1, Ar.get 8 a1 2, Ar.get 8 a1 3]) 28 (0, 0)) (by (with_reducible repeat (first | refine blk_drewN ?_ _ | refine blk_drew ?_ | refine blk_alloc ?_ _)); exact BK133.out) hb)
            have n2_ := Aside0.mk (below_step (by repeat (first | (with_reducible first | exact HB.out | apply below_alloc | apply pw_below_drewN | apply below_drew1 | refine below_set ?_ GE131.out | refine below_set ?_ GE133.out) | exact HB.out)) hb)
            clear BK131
            clear BK133
            clear HB
            have BK131 := n0_
            have BK133 := n1_
            have HB := n2_
            clear n0_ n1_ n2_
            (try clear hb)
            (try clear hb2)
            (try clear hk)
            (try clear hi)
            refine hK.out _ _ ⟨(Ar.cell_run (j := 0) BK131.out (by decide) (by decide)), (Ar.cell_run (j := 1) BK131.out (by decide) (by decide)), (Ar.cell_run (j := 2) BK131.out (by decide) (by decide)), (Ar.cell_run (j := 3) BK131.out (by decide) (by decide)), (Ar.cell_run (j := 4) BK131.out (by decide) (by decide)), (Ar.cell_run (j := 5) BK131.out (by decide) (by decide)), (Ar.cell_run (j := 6) BK131.out (by decide) (by decide)), (Ar.cell_run (j := 7) BK131.out (by decide) (by decide)), (Ar.cell_run (j := 0) BK133.out (by decide) (by decide)), (Ar.cell_run (j := 1) BK133.out (by decide) (by decide)), (Ar.cell_run (j := 2) BK133.out (by decide) (by decide)), (Ar.cell_run (j := 3) BK133.out (by decide) (by decide))⟩ (fun hHeld => ?_)
            clear hK K
            refine norm_ (a' := ?_) ?_ ?_
            rotate_left
            · show Act.put _ (some 24) _ = _
              simp only [Act.put, List.setIfInBounds_toArray, List.set_cons_zero, List.set_cons_succ, i64_w, i32_w]
              rfl
            refine pure_ (i := 4) (N := some 25) (v := ?_) (a' := ?_) #[true, true, true, true, true, false, false, false, false, false, false, false, false, false, false, false, false, false, false, false, false, false, false, false, false, false, false, false, false, false, false, false, false, false] rfl rfl (any_of HT_.out (by kernel_rfl)) (fun _ _ _ h => h) (Or.inl ⟨by rfl, ?_⟩) ?_ ?_
            rotate_left
            · intro w'
              go_simp
              with_reducible rfl
            rotate_left
            · simp only [Act.put, List.setIfInBounds_toArray, List.set_cons_zero, List.set_cons_succ, i64_w, i32_w]
              rfl
            refine pure_ (i := 5) (N := some 26) (v := ?_) (a' := ?_) #[true, true, true, true, true, true, false, false, false, false, false, false, false, false, false, false, false, false, false, false, false, false, false, false, false, false, false, false, false, false, false, false, false, false] rfl rfl (any_of HT_.out (by kernel_rfl)) (fun _ _ _ h => h) (Or.inl ⟨by rfl, ?_⟩) ?_ ?_
            rotate_left
            · intro w'
              go_simp
              with_reducible rfl
            rotate_left
            · simp only [Act.put, List.setIfInBounds_toArray, List.set_cons_zero, List.set_cons_succ, i64_w, i32_w]
              rfl
            refine take_ (i := 6) (N := some 27) (v := ?_) (a' := ?_) #[true, true, true, true, true, true, true, false, false, false, false, false, false, false, false, false, false, false, false, false, false, false, false, false, false, false, false, false, false, false, false, false, false, false] rfl rfl (take_ofW HT_.out HW_.out (by kernel_rfl)) (fun _ _ _ h => h) (Or.inl ⟨by rfl, ?_⟩) hHeld ?_ ?_
            rotate_left
            · rintro w' ⟨s0, s1, s2, s3, s4, s5, s6, s7, s8, s9, s10, s11⟩
              go_simp
              with_reducible rfl
            rotate_left
            · simp only [Act.put, List.setIfInBounds_toArray, List.set_cons_zero, List.set_cons_succ, i64_w, i32_w]
              rfl
            refine take_ (i := 8) (N := some 29) (v := ?_) (a' := ?_) #[true, true, true, true, true, true, true, false, true, false, false, false, false, false, false, false, false, false, false, false, false, false, false, false, false, false, false, false, false, false, false, false, false, false] rfl rfl (take_ofW HT_.out HW_.out (by kernel_rfl)) (fun _ _ _ h => h) (Or.inl ⟨by rfl, ?_⟩) hHeld ?_ ?_
            rotate_left
            · rintro w' ⟨s0, s1, s2, s3, s4, s5, s6, s7, s8, s9, s10, s11⟩
              go_simp
              with_reducible rfl
            rotate_left
            · simp only [Act.put, List.setIfInBounds_toArray, List.set_cons_zero, List.set_cons_succ, i64_w, i32_w]
              rfl
            refine one_ (i := 7) (N := some 28) #[true, true, true, true, true, true, true, true, true, false, false, false, false, false, false, false, false, false, false, false, false, false, false, false, false, false, false, false, false, false, false, false, false, false] rfl rfl (one_of HT_.out (by kernel_rfl)) (by decide) (fun K hK => ?_)
            refine goes_ Try.func26 (by kernel_rfl) rfl #[.agg (Ar.cells .u8 8 a1)] (by rfl) rfl rfl (by (try simp only [List.map_toArray, List.map_cons, List.map_nil]); first | done | rfl | (simp only [List.length_drop, List.length_take]; rfl)) ?_
            with_reducible refine (word_Get64.calls k a1 t136 _ A8.out).mono ?_
            rintro e w31 ⟨rfl, hb⟩
            refine ⟨_, rfl, ?_⟩
            have n0_ := Aside0.mk (blk_below (g := gb131) (o := .cells (Ar.cells .u8 8 a1) 27 (0, 0)) (by (with_reducible repeat (first | refine blk_drewN ?_ _ | refine blk_drew ?_ | refine blk_alloc ?_ _)); exact BK131.out) hb)
            have n1_ := Aside0.mk (blk_below (g := gb133) (o := .cells (Ar.cells .u8 4 [Ar.get 8 a1 0, Ar.get 8 a1 1, Ar.get 8 a1 2, Ar.get 8 a1 3]) 28 (0, 0)) (by (with_reducible repeat (first | refine blk_drewN ?_ _ | refine blk_drew ?_ | refine blk_alloc ?_ _)); exact BK133.out) hb)
            have n2_ := Aside0.mk (below_step (by repeat (first | (with_reducible first | exact HB.out | apply below_alloc | apply pw_below_drewN | apply below_drew1 | refine below_set ?_ GE131.out | refine below_set ?_ GE133.out) | exact HB.out)) hb)
            clear BK131
            clear BK133
            clear HB
            have BK131 := n0_
            have BK133 := n1_
            have HB := n2_
            clear n0_ n1_ n2_
            (try clear hb)
            (try clear hb2)
            (try clear hk)
            (try clear hi)
            refine hK.out _ _ ⟨(Ar.cell_run (j := 0) BK131.out (by decide) (by decide)), (Ar.cell_run (j := 1) BK131.out (by decide) (by decide)), (Ar.cell_run (j := 2) BK131.out (by decide) (by decide)), (Ar.cell_run (j := 3) BK131.out (by decide) (by decide)), (Ar.cell_run (j := 4) BK131.out (by decide) (by decide)), (Ar.cell_run (j := 5) BK131.out (by decide) (by decide)), (Ar.cell_run (j := 6) BK131.out (by decide) (by decide)), (Ar.cell_run (j := 7) BK131.out (by decide) (by decide)), (Ar.cell_run (j := 0) BK133.out (by decide) (by decide)), (Ar.cell_run (j := 1) BK133.out (by decide) (by decide)), (Ar.cell_run (j := 2) BK133.out (by decide) (by decide)), (Ar.cell_run (j := 3) BK133.out (by decide) (by decide))⟩ (fun hHeld => ?_)
            clear hK K
            refine norm_ (a' := ?_) ?_ ?_
            rotate_left
            · show Act.put _ (some 28) _ = _
              simp only [Act.put, List.setIfInBounds_toArray, List.set_cons_zero, List.set_cons_succ, i64_w, i32_w]
              rfl
            refine one_ (i := 9) (N := some 30) #[true, true, true, true, true, true, true, true, true, true, false, false, false, false, false, false, false, false, false, false, false, false, false, false, false, false, false, false, false, false, false, false, false, false] rfl rfl (one_of HT_.out (by kernel_rfl)) (by decide) (fun K hK => ?_)
            refine goes_ Try.func27 (by kernel_rfl) rfl #[.agg (Ar.cells .u8 8 a1)] (by rfl) rfl rfl (by (try simp only [List.map_toArray, List.map_cons, List.map_nil]); first | done | rfl | (simp only [List.length_drop, List.length_take]; rfl)) ?_
            with_reducible refine (drawlotref01_Get64.calls k a1 t137 _ A9.out).mono ?_
            rintro e w32 ⟨rfl, hb⟩
            refine ⟨_, rfl, ?_⟩
            have n0_ := Aside0.mk (blk_below (g := gb131) (o := .cells (Ar.cells .u8 8 a1) 27 (0, 0)) (by (with_reducible repeat (first | refine blk_drewN ?_ _ | refine blk_drew ?_ | refine blk_alloc ?_ _)); exact BK131.out) hb)
            have n1_ := Aside0.mk (blk_below (g := gb133) (o := .cells (Ar.cells .u8 4 [Ar.get 8 a1 0, Ar.get 8 a1 1, Ar.get 8 a1 2, Ar.get 8 a1 3]) 28 (0, 0)) (by (with_reducible repeat (first | refine blk_drewN ?_ _ | refine blk_drew ?_ | refine blk_alloc ?_ _)); exact BK133.out) hb)
            have n2_ := Aside0.mk (below_step (by repeat (first | (with_reducible first | exact HB.out | apply below_alloc | apply pw_below_drewN | apply below_drew1 | refine below_set ?_ GE131.out | refine below_set ?_ GE133.out) | exact HB.out)) hb)
            clear BK131
            clear BK133
            clear HB
            have BK131 := n0_
            have BK133 := n1_
            have HB := n2_
            clear n0_ n1_ n2_
            (try clear hb)
            (try clear hb2)
            (try clear hk)
            (try clear hi)
            refine hK.out _ _ ⟨(Ar.cell_run (j := 0) BK131.out (by decide) (by decide)), (Ar.cell_run (j := 1) BK131.out (by decide) (by decide)), (Ar.cell_run (j := 2) BK131.out (by decide) (by decide)), (Ar.cell_run (j := 3) BK131.out (by decide) (by decide)), (Ar.cell_run (j := 4) BK131.out (by decide) (by decide)), (Ar.cell_run (j := 5) BK131.out (by decide) (by decide)), (Ar.cell_run (j := 6) BK131.out (by decide) (by decide)), (Ar.cell_run (j := 7) BK131.out (by decide) (by decide)), (Ar.cell_run (j := 0) BK133.out (by decide) (by decide)), (Ar.cell_run (j := 1) BK133.out (by decide) (by decide)), (Ar.cell_run (j := 2) BK133.out (by decide) (by decide)), (Ar.cell_run (j := 3) BK133.out (by decide) (by decide))⟩ (fun hHeld => ?_)
            clear hK K
            refine norm_ (a' := ?_) ?_ ?_
            rotate_left
            · show Act.put _ (some 30) _ = _
              simp only [Act.put, List.setIfInBounds_toArray, List.set_cons_zero, List.set_cons_succ, i64_w, i32_w]
              rfl
            refine pure_ (i := 10) (N := some 31) (v := ?_) (a' := ?_) #[true, true, true, true, true, true, true, true, true, true, true, false, false, false, false, false, false, false, false, false, false, false, false, false, false, false, false, false, false, false, false, false, false, false] rfl rfl (any_of HT_.out (by kernel_rfl)) (fun _ _ _ h => h) (Or.inl ⟨by rfl, ?_⟩) ?_ ?_
            rotate_left
            · intro w'
              go_simp
              with_reducible rfl
            rotate_left
            · simp only [Act.put, List.setIfInBounds_toArray, List.set_cons_zero, List.set_cons_succ, i64_w, i32_w]
              rfl
            refine pure_ (i := 11) (N := some 32) (v := ?_) (a' := ?_) #[true, true, true, true, true, true, true, true, true, true, true, true, false, false, false, false, false, false, false, false, false, false, false, false, false, false, false, false, false, false, false, false, false, false] rfl rfl (any_of HT_.out (by kernel_rfl)) (fun _ _ _ h => h) (Or.inl ⟨by rfl, ?_⟩) ?_ ?_
            rotate_left
            · intro w'
              go_simp
              with_reducible rfl
            rotate_left
            · simp only [Act.put, List.setIfInBounds_toArray, List.set_cons_zero, List.set_cons_succ, i64_w, i32_w]
              rfl
            refine pure_ (i := 12) (N := some 33) (v := ?_) (a' := ?_) #[true, true, true, true, true, true, true, true, true, true, true, true, true, false, false, false, false, false, false, false, false, false, false, false, false, false, false, false, false, false, false, false, false, false] rfl rfl (any_of HT_.out (by kernel_rfl)) (fun _ _ _ h => h) (Or.inl ⟨by rfl, ?_⟩) ?_ ?_
            rotate_left
            · intro w'
              go_simp
              with_reducible rfl
            rotate_left
            · simp only [Act.put, List.setIfInBounds_toArray, List.set_cons_zero, List.set_cons_succ, i64_w, i32_w]
              rfl
            refine pure_ (i := 13) (N := some 34) (v := ?_) (a' := ?_) #[true, true, true, true, true, true, true, true, true, true, true, true, true, true, false, false, false, false, false, false, false, false, false, false, false, false, false, false, false, false, false, false, false, false] rfl rfl (any_of HT_.out (by kernel_rfl)) (fun _ _ _ h => h) (Or.inl ⟨by rfl, ?_⟩) ?_ ?_
            rotate_left
            · intro w'
              go_simp
              with_reducible rfl
            rotate_left
            · simp only [Act.put, List.setIfInBounds_toArray, List.set_cons_zero, List.set_cons_succ, i64_w, i32_w]
              rfl
            refine pure_ (i := 15) (N := some 36) (v := ?_) (a' := ?_) #[true, true, true, true, true, true, true, true, true, true, true, true, true, true, false, true, false, false, false, false, false, false, false, false, false, false, false, false, false, false, false, false, false, false] rfl rfl (any_of HT_.out (by kernel_rfl)) (fun _ _ _ h => h) (Or.inl ⟨by rfl, ?_⟩) ?_ ?_
            rotate_left
            · intro w'
              go_simp
              with_reducible rfl
            rotate_left
            · simp only [Act.put, List.setIfInBounds_toArray, List.set_cons_zero, List.set_cons_succ, i64_w, i32_w]
              rfl
            refine one_ (i := 14) (N := some 35) #[true, true, true, true, true, true, true, true, true, true, true, true, true, true, true, true, false, false, false, false, false, false, false, false, false, false, false, false, false, false, false, false, false, false] rfl rfl (one_of HT_.out (by kernel_rfl)) (by decide) (fun K hK => ?_)
            refine goes_ Try.func28 (by kernel_rfl) rfl #[.int .u32 ((Int.tmod a0 4294967296) % 4294967296)] (by rfl) rfl rfl (by (try simp only [List.map_toArray, List.map_cons, List.map_nil]); first | done | rfl | (simp only [List.length_drop, List.length_take]; rfl)) ?_
            with_reducible refine (word_Put32.calls ((Int.tmod a0 4294967296) % 4294967296) t138 _ A11.out).mono ?_
            rintro e w33 ⟨rfl, hb⟩
            refine ⟨_, rfl, ?_⟩
            have n0_ := Aside0.mk (blk_below (g := gb131) (o := .cells (Ar.cells .u8 8 a1) 27 (0, 0)) (by (with_reducible repeat (first | refine blk_drewN ?_ _ | refine blk_drew ?_ | refine blk_alloc ?_ _)); exact BK131.out) hb)
            have n1_ := Aside0.mk (blk_below (g := gb133) (o := .cells (Ar.cells .u8 4 [Ar.get 8 a1 0, Ar.get 8 a1 1, Ar.get 8 a1 2, Ar.get 8 a1 3]) 28 (0, 0)) (by (with_reducible repeat (first | refine blk_drewN ?_ _ | refine blk_drew ?_ | refine blk_alloc ?_ _)); exact BK133.out) hb)
            have n2_ := Aside0.mk (below_step (by repeat (first | (with_reducible first | exact HB.out | apply below_alloc | apply pw_below_drewN | apply below_drew1 | refine below_set ?_ GE131.out | refine below_set ?_ GE133.out) | exact HB.out)) hb)
            clear BK131
            clear BK133
            clear HB
            have BK131 := n0_
            have BK133 := n1_
            have HB := n2_
            clear n0_ n1_ n2_
            (try clear hb)
            (try clear hb2)
            (try clear hk)
            (try clear hi)
            refine hK.out _ _ ⟨(Ar.cell_run (j := 0) BK131.out (by decide) (by decide)), (Ar.cell_run (j := 1) BK131.out (by decide) (by decide)), (Ar.cell_run (j := 2) BK131.out (by decide) (by decide)), (Ar.cell_run (j := 3) BK131.out (by decide) (by decide)), (Ar.cell_run (j := 4) BK131.out (by decide) (by decide)), (Ar.cell_run (j := 5) BK131.out (by decide) (by decide)), (Ar.cell_run (j := 6) BK131.out (by decide) (by decide)), (Ar.cell_run (j := 7) BK131.out (by decide) (by decide)), (Ar.cell_run (j := 0) BK133.out (by decide) (by decide)), (Ar.cell_run (j := 1) BK133.out (by decide) (by decide)), (Ar.cell_run (j := 2) BK133.out (by decide) (by decide)), (Ar.cell_run (j := 3) BK133.out (by decide) (by decide))⟩ (fun hHeld => ?_)
            clear hK K
            refine norm_ (a' := ?_) ?_ ?_
            rotate_left
            · show Act.put _ (some 35) _ = _
              simp only [Act.put, List.setIfInBounds_toArray, List.set_cons_zero, List.set_cons_succ, i64_w, i32_w]
              rfl
            refine one_ (i := 16) (N := some 37) #[true, true, true, true, true, true, true, true, true, true, true, true, true, true, true, true, true, false, false, false, false, false, false, false, false, false, false, false, false, false, false, false, false, false] rfl rfl (one_of HT_.out (by kernel_rfl)) (by decide) (fun K hK => ?_)
            refine goes_ Try.func29 (by kernel_rfl) rfl #[.int .u32 ((Int.tmod a0 4294967296) % 4294967296)] (by rfl) rfl rfl (by (try simp only [List.map_toArray, List.map_cons, List.map_nil]); first | done | rfl | (simp only [List.length_drop, List.length_take]; rfl)) ?_
            with_reducible refine (drawlotref01_Put32.calls ((Int.tmod a0 4294967296) % 4294967296) t139 _ A12.out).mono ?_
            rintro e w34 ⟨rfl, hb⟩
            refine ⟨_, rfl, ?_⟩
            have n0_ := Aside0.mk (blk_below (g := gb131) (o := .cells (Ar.cells .u8 8 a1) 27 (0, 0)) (by (with_reducible repeat (first | refine blk_drewN ?_ _ | refine blk_drew ?_ | refine blk_alloc ?_ _)); exact BK131.out) hb)
            have n1_ := Aside0.mk (blk_below (g := gb133) (o := .cells (Ar.cells .u8 4 [Ar.get 8 a1 0, Ar.get 8 a1 1, Ar.get 8 a1 2, Ar.get 8 a1 3]) 28 (0, 0)) (by (with_reducible repeat (first | refine blk_drewN ?_ _ | refine blk_drew ?_ | refine blk_alloc ?_ _)); exact BK133.out) hb)
            have n2_ := Aside0.mk (below_step (by repeat (first | (with_reducible first | exact HB.out | apply below_alloc | apply pw_below_drewN | apply below_drew1 | refine below_set ?_ GE131.out | refine below_set ?_ GE133.out) | exact HB.out)) hb)
            clear BK131
            clear BK133
            clear HB
            have BK131 := n0_
            have BK133 := n1_
            have HB := n2_
            clear n0_ n1_ n2_
            (try clear hb)
            (try clear hb2)
            (try clear hk)
            (try clear hi)
            refine hK.out _ _ ⟨(Ar.cell_run (j := 0) BK131.out (by decide) (by decide)), (Ar.cell_run (j := 1) BK131.out (by decide) (by decide)), (Ar.cell_run (j := 2) BK131.out (by decide) (by decide)), (Ar.cell_run (j := 3) BK131.out (by decide) (by decide)), (Ar.cell_run (j := 4) BK131.out (by decide) (by decide)), (Ar.cell_run (j := 5) BK131.out (by decide) (by decide)), (Ar.cell_run (j := 6) BK131.out (by decide) (by decide)), (Ar.cell_run (j := 7) BK131.out (by decide) (by decide)), (Ar.cell_run (j := 0) BK133.out (by decide) (by decide)), (Ar.cell_run (j := 1) BK133.out (by decide) (by decide)), (Ar.cell_run (j := 2) BK133.out (by decide) (by decide)), (Ar.cell_run (j := 3) BK133.out (by decide) (by decide))⟩ (fun hHeld => ?_)
            clear hK K
            refine norm_ (a' := ?_) ?_ ?_
            rotate_left
            · show Act.put _ (some 37) _ = _
              simp only [Act.put, List.setIfInBounds_toArray, List.set_cons_zero, List.set_cons_succ, i64_w, i32_w]
              rfl
            refine pure_ (i := 17) (N := some 38) (v := ?_) (a' := ?_) #[true, true, true, true, true, true, true, true, true, true, true, true, true, true, true, true, true, true, false, false, false, false, false, false, false, false, false, false, false, false, false, false, false, false] rfl rfl (any_of HT_.out (by kernel_rfl)) (fun _ _ _ h => h) (Or.inl ⟨by rfl, ?_⟩) ?_ ?_
            rotate_left
            · intro w'
              go_simp
              with_reducible rfl
            rotate_left
            · simp only [Act.put, List.setIfInBounds_toArray, List.set_cons_zero, List.set_cons_succ, i64_w, i32_w]
              rfl
            refine pure_ (i := 18) (N := some 39) (v := ?_) (a' := ?_) #[true, true, true, true, true, true, true, true, true, true, true, true, true, true, true, true, true, true, true, false, false, false, false, false, false, false, false, false, false, false, false, false, false, false] rfl rfl (any_of HT_.out (by kernel_rfl)) (fun _ _ _ h => h) (Or.inl ⟨by rfl, ?_⟩) ?_ ?_
            rotate_left
            · intro w'
              go_simp
              with_reducible rfl
            rotate_left
            · simp only [Act.put, List.setIfInBounds_toArray, List.set_cons_zero, List.set_cons_succ, i64_w, i32_w]
              rfl
            refine pure_ (i := 19) (N := some 40) (v := ?_) (a' := ?_) #[true, true, true, true, true, true, true, true, true, true, true, true, true, true, true, true, true, true, true, true, false, false, false, false, false, false, false, false, false, false, false, false, false, false] rfl rfl (any_of HT_.out (by kernel_rfl)) (fun _ _ _ h => h) (Or.inl ⟨by rfl, ?_⟩) ?_ ?_
            rotate_left
            · intro w'
              go_simp
              with_reducible rfl
            rotate_left
            · simp only [Act.put, List.setIfInBounds_toArray, List.set_cons_zero, List.set_cons_succ, i64_w, i32_w]
              rfl
            refine take_ (i := 20) (N := some 41) (v := ?_) (a' := ?_) #[true, true, true, true, true, true, true, true, true, true, true, true, true, true, true, true, true, true, true, true, true, false, false, false, false, false, false, false, false, false, false, false, false, false] rfl rfl (take_ofW HT_.out HW_.out (by kernel_rfl)) (fun _ _ _ h => h) (Or.inl ⟨by rfl, ?_⟩) hHeld ?_ ?_
            rotate_left
            · rintro w' ⟨s0, s1, s2, s3, s4, s5, s6, s7, s8, s9, s10, s11⟩
              go_simp
              with_reducible rfl
            rotate_left
            · simp only [Act.put, List.setIfInBounds_toArray, List.set_cons_zero, List.set_cons_succ, i64_w, i32_w]
              rfl
            refine take_ (i := 22) (N := some 43) (v := ?_) (a' := ?_) #[true, true, true, true, true, true, true, true, true, true, true, true, true, true, true, true, true, true, true, true, true, false, true, false, false, false, false, false, false, false, false, false, false, false] rfl rfl (take_ofW HT_.out HW_.out (by kernel_rfl)) (fun _ _ _ h => h) (Or.inl ⟨by rfl, ?_⟩) hHeld ?_ ?_
            rotate_left
            · rintro w' ⟨s0, s1, s2, s3, s4, s5, s6, s7, s8, s9, s10, s11⟩
              go_simp
              with_reducible rfl
            rotate_left
            · simp only [Act.put, List.setIfInBounds_toArray, List.set_cons_zero, List.set_cons_succ, i64_w, i32_w]
              rfl
            refine one_ (i := 21) (N := some 42) #[true, true, true, true, true, true, true, true, true, true, true, true, true, true, true, true, true, true, true, true, true, true, true, false, false, false, false, false, false, false, false, false, false, false] rfl rfl (one_of HT_.out (by kernel_rfl)) (by decide) (fun K hK => ?_)
            refine goes_ Try.func30 (by kernel_rfl) rfl #[.agg (Ar.cells .u8 4 [Ar.get 8 a1 0, Ar.get 8 a1 1, Ar.get 8 a1 2, Ar.get 8 a1 3])] (by rfl) rfl rfl (by (try simp only [List.map_toArray, List.map_cons, List.map_nil]); first | done | rfl | (simp only [List.length_drop, List.length_take]; rfl)) ?_
            with_reducible refine (word_Get32.calls k [Ar.get 8 a1 0, Ar.get 8 a1 1, Ar.get 8 a1 2, Ar.get 8 a1 3] t140 _ A14.out).mono ?_
            rintro e w35 ⟨rfl, hb⟩
            refine ⟨_, rfl, ?_⟩
            have n0_ := Aside0.mk (blk_below (g := gb131) (o := .cells (Ar.cells .u8 8 a1) 27 (0, 0)) (by (with_reducible repeat (first | refine blk_drewN ?_ _ | refine blk_drew ?_ | refine blk_alloc ?_ _)); exact BK131.out) hb)
            have n1_ := Aside0.mk (blk_below (g := gb133) (o := .cells (Ar.cells .u8 4 [Ar.get 8 a1 0, Ar.get 8 a1 1, Ar.get 8 a1 2, Ar.get 8 a1 3]) 28 (0, 0)) (by (with_reducible repeat (first | refine blk_drewN ?_ _ | refine blk_drew ?_ | refine blk_alloc ?_ _)); exact BK133.out) hb)
            have n2_ := Aside0.mk (below_step (by repeat (first | (with_reducible first | exact HB.out | apply below_alloc | apply pw_below_drewN | apply below_drew1 | refine below_set ?_ GE131.out | refine below_set ?_ GE133.out) | exact HB.out)) hb)
            clear BK131
            clear BK133
            clear HB
            have BK131 := n0_
            have BK133 := n1_
            have HB := n2_
            clear n0_ n1_ n2_
            (try clear hb)
            (try clear hb2)
            (try clear hk)
            (try clear hi)
            refine hK.out _ _ ⟨(Ar.cell_run (j := 0) BK131.out (by decide) (by decide)), (Ar.cell_run (j := 1) BK131.out (by decide) (by decide)), (Ar.cell_run (j := 2) BK131.out (by decide) (by decide)), (Ar.cell_run (j := 3) BK131.out (by decide) (by decide)), (Ar.cell_run (j := 4) BK131.out (by decide) (by decide)), (Ar.cell_run (j := 5) BK131.out (by decide) (by decide)), (Ar.cell_run (j := 6) BK131.out (by decide) (by decide)), (Ar.cell_run (j := 7) BK131.out (by decide) (by decide)), (Ar.cell_run (j := 0) BK133.out (by decide) (by decide)), (Ar.cell_run (j := 1) BK133.out (by decide) (by decide)), (Ar.cell_run (j := 2) BK133.out (by decide) (by decide)), (Ar.cell_run (j := 3) BK133.out (by decide) (by decide))⟩ (fun hHeld => ?_)
            clear hK K
            refine norm_ (a' := ?_) ?_ ?_
            rotate_left
            · show Act.put _ (some 42) _ = _
              simp only [Act.put, List.setIfInBounds_toArray, List.set_cons_zero, List.set_cons_succ, i64_w, i32_w]
              rfl
            refine one_ (i := 23) (N := some 44) #[true, true, true, true, true, true, true, true, true, true, true, true, true, true, true, true, true, true, true, true, true, true, true, true, false, false, false, false, false, false, false, false, false, false] rfl rfl (one_of HT_.out (by kernel_rfl)) (by decide) (fun K hK => ?_)
            refine goes_ Try.func31 (by kernel_rfl) rfl #[.agg (Ar.cells .u8 4 [Ar.get 8 a1 0, Ar.get 8 a1 1, Ar.get 8 a1 2, Ar.get 8 a1 3])] (by rfl) rfl rfl (by (try simp only [List.map_toArray, List.map_cons, List.map_nil]); first | done | rfl | (simp only [List.length_drop, List.length_take]; rfl)) ?_
            with_reducible refine (drawlotref01_Get32.calls k [Ar.get 8 a1 0, Ar.get 8 a1 1, Ar.get 8 a1 2, Ar.get 8 a1 3] t141 _ A15.out).mono ?_
            rintro e w36 ⟨rfl, hb⟩
            refine ⟨_, rfl, ?_⟩
            have n0_ := Aside0.mk (blk_below (g := gb131) (o := .cells (Ar.cells .u8 8 a1) 27 (0, 0)) (by (with_reducible repeat (first | refine blk_drewN ?_ _ | refine blk_drew ?_ | refine blk_alloc ?_ _)); exact BK131.out) hb)
            have n1_ := Aside0.mk (blk_below (g := gb133) (o := .cells (Ar.cells .u8 4 [Ar.get 8 a1 0, Ar.get 8 a1 1, Ar.get 8 a1 2, Ar.get 8 a1 3]) 28 (0, 0)) (by (with_reducible repeat (first | refine blk_drewN ?_ _ | refine blk_drew ?_ | refine blk_alloc ?_ _)); exact BK133.out) hb)
            have n2_ := Aside0.mk (below_step (by repeat (first | (with_reducible first | exact HB.out | apply below_alloc | apply pw_below_drewN | apply below_drew1 | refine below_set ?_ GE131.out | refine below_set ?_ GE133.out) | exact HB.out)) hb)
            clear BK131
            clear BK133
            clear HB
            have BK131 := n0_
            have BK133 := n1_
            have HB := n2_
            clear n0_ n1_ n2_
            (try clear hb)
            (try clear hb2)
            (try clear hk)
            (try clear hi)
            refine hK.out _ _ ⟨(Ar.cell_run (j := 0) BK131.out (by decide) (by decide)), (Ar.cell_run (j := 1) BK131.out (by decide) (by decide)), (Ar.cell_run (j := 2) BK131.out (by decide) (by decide)), (Ar.cell_run (j := 3) BK131.out (by decide) (by decide)), (Ar.cell_run (j := 4) BK131.out (by decide) (by decide)), (Ar.cell_run (j := 5) BK131.out (by decide) (by decide)), (Ar.cell_run (j := 6) BK131.out (by decide) (by decide)), (Ar.cell_run (j := 7) BK131.out (by decide) (by decide)), (Ar.cell_run (j := 0) BK133.out (by decide) (by decide)), (Ar.cell_run (j := 1) BK133.out (by decide) (by decide)), (Ar.cell_run (j := 2) BK133.out (by decide) (by decide)), (Ar.cell_run (j := 3) BK133.out (by decide) (by decide))⟩ (fun hHeld => ?_)
            clear hK K
            refine norm_ (a' := ?_) ?_ ?_
            rotate_left
            · show Act.put _ (some 44) _ = _
              simp only [Act.put, List.setIfInBounds_toArray, List.set_cons_zero, List.set_cons_succ, i64_w, i32_w]
              rfl
            refine pure_ (i := 24) (N := some 45) (v := ?_) (a' := ?_) #[true, true, true, true, true, true, true, true, true, true, true, true, true, true, true, true, true, true, true, true, true, true, true, true, true, false, false, false, false, false, false, false, false, false] rfl rfl (any_of HT_.out (by kernel_rfl)) (fun _ _ _ h => h) (Or.inl ⟨by rfl, ?_⟩) ?_ ?_
            rotate_left
            · intro w'
              go_simp
              with_reducible rfl
            rotate_left
            · simp only [Act.put, List.setIfInBounds_toArray, List.set_cons_zero, List.set_cons_succ, i64_w, i32_w]
              rfl
            refine pure_ (i := 25) (N := some 46) (v := ?_) (a' := ?_) #[true, true, true, true, true, true, true, true, true, true, true, true, true, true, true, true, true, true, true, true, true, true, true, true, true, true, false, false, false, false, false, false, false, false] rfl rfl (any_of HT_.out (by kernel_rfl)) (fun _ _ _ h => h) (Or.inl ⟨by rfl, ?_⟩) ?_ ?_
            rotate_left
            · intro w'
              go_simp
              with_reducible rfl
            rotate_left
            · simp only [Act.put, List.setIfInBounds_toArray, List.set_cons_zero, List.set_cons_succ, i64_w, i32_w]
              rfl
            refine pure_ (i := 26) (N := some 47) (v := ?_) (a' := ?_) #[true, true, true, true, true, true, true, true, true, true, true, true, true, true, true, true, true, true, true, true, true, true, true, true, true, true, true, false, false, false, false, false, false, false] rfl rfl (any_of HT_.out (by kernel_rfl)) (fun _ _ _ h => h) (Or.inl ⟨by rfl, ?_⟩) ?_ ?_
            rotate_left
            · intro w'
              go_simp
              with_reducible rfl
            rotate_left
            · simp only [Act.put, List.setIfInBounds_toArray, List.set_cons_zero, List.set_cons_succ, i64_w, i32_w]
              rfl
            refine pure_ (i := 27) (N := some 48) (v := ?_) (a' := ?_) #[true, true, true, true, true, true, true, true, true, true, true, true, true, true, true, true, true, true, true, true, true, true, true, true, true, true, true, true, false, false, false, false, false, false] rfl rfl (any_of HT_.out (by kernel_rfl)) (fun _ _ _ h => h) (Or.inl ⟨by rfl, ?_⟩) ?_ ?_
            rotate_left
            · intro w'
              go_simp
              with_reducible rfl
            rotate_left
            · simp only [Act.put, List.setIfInBounds_toArray, List.set_cons_zero, List.set_cons_succ, i64_w, i32_w]
              rfl
            refine pure_ (i := 29) (N := some 50) (v := ?_) (a' := ?_) #[true, true, true, true, true, true, true, true, true, true, true, true, true, true, true, true, true, true, true, true, true, true, true, true, true, true, true, true, false, true, false, false, false, false] rfl rfl (any_of HT_.out (by kernel_rfl)) (fun _ _ _ h => h) (Or.inl ⟨by rfl, ?_⟩) ?_ ?_
            rotate_left
            · intro w'
              go_simp
              with_reducible rfl
            rotate_left
            · simp only [Act.put, List.setIfInBounds_toArray, List.set_cons_zero, List.set_cons_succ, i64_w, i32_w]
              rfl
            refine one_ (i := 28) (N := some 49) #[true, true, true, true, true, true, true, true, true, true, true, true, true, true, true, true, true, true, true, true, true, true, true, true, true, true, true, true, true, true, false, false, false, false] rfl rfl (one_of HT_.out (by kernel_rfl)) (by decide) (fun K hK => ?_)
            refine goes_ Try.func32 (by kernel_rfl) rfl #[.int .u64 a0] (by rfl) rfl rfl (by (try simp only [List.map_toArray, List.map_cons, List.map_nil]); first | done | rfl | (simp only [List.length_drop, List.length_take]; rfl)) ?_
            with_reducible refine (word_Bits.calls k a0 t142 _ A17.out).mono ?_
            rintro e w' ⟨rfl, ⟨nd, rfl⟩⟩
            refine ⟨_, rfl, ?_⟩
            refine hK.out _ _ ⟨(Ar.cell_run (j := 0) BK131.out (by decide) (by decide)), (Ar.cell_run (j := 1) BK131.out (by decide) (by decide)), (Ar.cell_run (j := 2) BK131.out (by decide) (by decide)), (Ar.cell_run (j := 3) BK131.out (by decide) (by decide)), (Ar.cell_run (j := 4) BK131.out (by decide) (by decide)), (Ar.cell_run (j := 5) BK131.out (by decide) (by decide)), (Ar.cell_run (j := 6) BK131.out (by decide) (by decide)), (Ar.cell_run (j := 7) BK131.out (by decide) (by decide)), (Ar.cell_run (j := 0) BK133.out (by decide) (by decide)), (Ar.cell_run (j := 1) BK133.out (by decide) (by decide)), (Ar.cell_run (j := 2) BK133.out (by decide) (by decide)), (Ar.cell_run (j := 3) BK133.out (by decide) (by decide))⟩ (fun hHeld => ?_)
            clear hK K
            refine norm_ (a' := ?_) ?_ ?_
            rotate_left
            · show Act.put _ (some 49) _ = _
              simp only [Act.put, List.setIfInBounds_toArray, List.set_cons_zero, List.set_cons_succ, i64_w, i32_w]
              rfl
            refine one_ (i := 30) (N := some 51) #[true, true, true, true, true, true, true, true, true, true, true, true, true, true, true, true, true, true, true, true, true, true, true, true, true, true, true, true, true, true, true, false, false, false] rfl rfl (one_of HT_.out (by kernel_rfl)) (by decide) (fun K hK => ?_)
            refine goes_ Try.func33 (by kernel_rfl) rfl #[.int .u64 a0] (by rfl) rfl rfl (by (try simp only [List.map_toArray, List.map_cons, List.map_nil]); first | done | rfl | (simp only [List.length_drop, List.length_take]; rfl)) ?_
            with_reducible refine (drawlotref01_Bits.calls k a0 t143 _ A18.out).mono ?_
            rintro e w' ⟨rfl, ⟨nd, rfl⟩⟩
            refine ⟨_, rfl, ?_⟩
            refine hK.out _ _ ⟨(Ar.cell_run (j := 0) BK131.out (by decide) (by decide)), (Ar.cell_run (j := 1) BK131.out (by decide) (by decide)), (Ar.cell_run (j := 2) BK131.out (by decide) (by decide)), (Ar.cell_run (j := 3) BK131.out (by decide) (by decide)), (Ar.cell_run (j := 4) BK131.out (by decide) (by decide)), (Ar.cell_run (j := 5) BK131.out (by decide) (by decide)), (Ar.cell_run (j := 6) BK131.out (by decide) (by decide)), (Ar.cell_run (j := 7) BK131.out (by decide) (by decide)), (Ar.cell_run (j := 0) BK133.out (by decide) (by decide)), (Ar.cell_run (j := 1) BK133.out (by decide) (by decide)), (Ar.cell_run (j := 2) BK133.out (by decide) (by decide)), (Ar.cell_run (j := 3) BK133.out (by decide) (by decide))⟩ (fun hHeld => ?_)
            clear hK K
            refine norm_ (a' := ?_) ?_ ?_
            rotate_left
            · show Act.put _ (some 51) _ = _
              simp only [Act.put, List.setIfInBounds_toArray, List.set_cons_zero, List.set_cons_succ, i64_w, i32_w]
              rfl
            refine pure_ (i := 31) (N := some 52) (v := ?_) (a' := ?_) #[true, true, true, true, true, true, true, true, true, true, true, true, true, true, true, true, true, true, true, true, true, true, true, true, true, true, true, true, true, true, true, true, false, false] rfl rfl (any_of HT_.out (by kernel_rfl)) (fun _ _ _ h => h) (Or.inl ⟨by rfl, ?_⟩) ?_ ?_
            rotate_left
            · intro w'
              go_simp
              with_reducible rfl
            rotate_left
            · simp only [Act.put, List.setIfInBounds_toArray, List.set_cons_zero, List.set_cons_succ, i64_w, i32_w]
              rfl
            refine pure_ (i := 32) (N := some 53) (v := ?_) (a' := ?_) #[true, true, true, true, true, true, true, true, true, true, true, true, true, true, true, true, true, true, true, true, true, true, true, true, true, true, true, true, true, true, true, true, true, false] rfl rfl (any_of HT_.out (by kernel_rfl)) (fun _ _ _ h => h) (Or.inl ⟨by rfl, ?_⟩) ?_ ?_
            rotate_left
            · intro w'
              go_simp
              with_reducible rfl
            rotate_left
            · simp only [Act.put, List.setIfInBounds_toArray, List.set_cons_zero, List.set_cons_succ, i64_w, i32_w]
              rfl
            refine pure_ (i := 33) (N := some 4) (v := ?_) (a' := ?_) #[true, true, true, true, true, true, true, true, true, true, true, true, true, true, true, true, true, true, true, true, true, true, true, true, true, true, true, true, true, true, true, true, true, true] rfl rfl (any_of HT_.out (by kernel_rfl)) (fun _ _ _ h => h) (Or.inl ⟨by rfl, ?_⟩) ?_ ?_
            rotate_left
            · intro w'
              go_simp
              with_reducible rfl
            rotate_left
            · simp only [Act.put, List.setIfInBounds_toArray, List.set_cons_zero, List.set_cons_succ, i64_w, i32_w]
              rfl
            refine done_ (done_of HT_.out (by kernel_rfl)) ?_
            try go_wp2
            go_ret
            exact ⟨by first | rfl | (simp [errW_none, errW_some] <;> rfl) | (simp [*, errW_none, errW_some] <;> rfl), by repeat (first | (with_reducible first | exact HB.out | apply below_alloc | apply pw_below_drewN | apply below_drew1 | refine below_set ?_ GE131.out | refine below_set ?_ GE133.out) | exact HB.out)⟩
          · rw [if_neg c16] at H
            exact absurd H (by simp)
        · rw [if_neg c13] at H
          exact absurd H (by simp)
      · rw [if_neg c10] at H
        exact absurd H (by simp)
    · rw [if_neg c7] at H
      exact absurd H (by simp)
  · replace c4 := Bool.eq_false_iff.mpr c4
    subst c4
    have H1 : (none) = some r := by rw [if_neg (show ¬ (false = true) by decide)] at H; exact H
    clear H
    have H := H1
    clear H1
    exact absurd H (by simp)

/-- THE ONE PURE STATEMENT of drawlotlaw01_WordBytes: yours. -/
def drawlotlaw01_WordBytes.Pure : Prop := ∀ (a0 : Int) (a1 : List Int), (Lit.int .u64 a0).wf = true → (a1.length = 8 ∧ ∀ x ∈ a1, (Lit.int .u8 x).wf = true) → ∃ k, drawlotlaw01_WordBytes.f k a0 a1 = some true
theorem drawlotlaw01_WordBytes.walk (P : drawlotlaw01_WordBytes.Pure) (a0 : Int) (a1 : List Int) (w : World) (w0 : (Lit.int .u64 a0).wf = true) (w1 : a1.length = 8 ∧ ∀ x ∈ a1, (Lit.int .u8 x).wf = true) :
    Calls Try.prog 4 #[.int .u64 a0, .agg (Ar.cells .u8 8 a1)] w fun e w' => e = .returned (.bool true) ∧ Below w.heap.size w w' := by
  obtain ⟨k, h⟩ := P a0 a1 w0 w1
  refine (drawlotlaw01_WordBytes.calls k a0 a1 true w h).mono ?_
  rintro e w' ⟨rfl, hd⟩
  exact ⟨rfl, hd⟩

end Go.Proofs.Ytpkdpdbcgbeakaa.PW
