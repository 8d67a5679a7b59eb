/- Proved here: LawShaTexts, the statement of the row that this text's last part names, and all that it rests on: words on walks, contracts of the program's functions, plain lemmas. Conditions: none but those of the given row. (part 5 of 5) -/
import Derived.Test.YtkcdcbiobkcpmaaDoorZT3
import Derived.Test.YtkcdcbiobkcpmaaDoorRows
import Derived.Test.YtkcdcbiobkcpmaaDoorTie
import Derived.Test.YtkcdcbiobkcpmaaDoorCards
section
namespace Go.Proofs.YtkcdcbiobkcpmaaDoor.PA
open Go.RowKit Go.Proofs.YtkcdcbiobkcpmaaDoorW.PrintWords Go.Proofs.YtkcdcbiobkcpmaaDoorW.PrintLast Go.Proofs.YtkcdcbiobkcpmaaDoorW.PrintMore
attribute [local go_sem] max2_int min2_int max_two min_two max_three min_three max_four min_four
set_option linter.unusedVariables false
set_option linter.unusedSimpArgs false
def drawlotref05_value.l0 : Nat → Int → Int → Option (Int)
  | 0, _, _ => none
  | k + 1, x0, x3 => if x3 < 16 then (if 0 ≤ x3 then (if (bt (⟨#[48, 49, 50, 51, 52, 53, 54, 55, 56, 57, 97, 98, 99, 100, 101, 102]⟩ : ByteArray) x3) = x0 then (some x3) else (drawlotref05_value.l0 k x0 (wrap64 (x3 + 1)))) else (none)) else (some 16)
def drawlotref05_value.f (k : Nat) (a0 : Int) : Option (Int) := drawlotref05_value.l0 k a0 0
theorem drawlotref05_value.mono_l : ∀ k, (∀ y0 y1, LeO (drawlotref05_value.l0 k y0 y1) (drawlotref05_value.l0 (k + 1) y0 y1))
  | 0 => fun _ _ r h => by simp [drawlotref05_value.l0] at h
  | k + 1 => by
    have ih0 := drawlotref05_value.mono_l k
    · intro y0 y1
      unfold drawlotref05_value.l0
      repeat' first
      | (with_reducible exact ih0 _ _)
      | (with_reducible exact LeO.refl _)
      | (with_reducible exact LeO.none _)
      | (with_reducible refine LeO.ite ?_ ?_)
      | (with_reducible refine LeO.bind ?_ (fun _ => ?_))
      | exact ih0 _ _
      | exact LeO.none _
      | refine LeO.ite ?_ ?_
      | refine LeO.bind ?_ (fun _ => ?_)
theorem drawlotref05_value.mono : ∀ a0 k, LeO (drawlotref05_value.f k a0) (drawlotref05_value.f (k + 1) a0) := by
  intro a0 k
  have ih0 := drawlotref05_value.mono_l k
  unfold drawlotref05_value.f
  repeat' first
      | (with_reducible exact ih0 _ _)
      | (with_reducible exact LeO.refl _)
      | (with_reducible exact LeO.none _)
      | (with_reducible refine LeO.ite ?_ ?_)
      | (with_reducible refine LeO.bind ?_ (fun _ => ?_))
      | exact ih0 _ _
      | exact LeO.none _
      | refine LeO.ite ?_ ?_
      | refine LeO.bind ?_ (fun _ => ?_)
set_option maxHeartbeats 8000000 in
set_option maxRecDepth 100000 in
theorem drawlotref05_value.calls (k : Nat) (a0 : Int) (r : Int) (w : World) (h : drawlotref05_value.f k a0 = some r) :
    Calls Tryd.prog 40 #[.int .u8 a0] w fun e w' => e = .returned (.int .i64 r) ∧ Drawn0 w w' := by
  have H : (drawlotref05_value.l0 k a0 0) = some r := h
  clear h
  have H' := Aside0.mk H
  clear H
  go_enter Tryd.func40, Tryd.ntmps40
  go_wp2
  go_loopg [3] k (fun kq v3 w' => ∃ (x3_1 : Int), v3 = .int .i64 x3_1 ∧ Aside0 (drawlotref05_value.l0 kq a0 x3_1 = some r) ∧ Aside0 (kq ≤ k) ∧ Drawn0 w w')
  case atStart => exact ⟨(0), (by first | rfl | (simp; done) | (simp [*]; done)), H', ⟨Nat.le_refl _⟩, by repeat (first | exact Drawn0.refl _ | apply Drawn0.step)⟩
  case round =>
    clear H'
    obtain ⟨x3_1, rfl, HA, HK1, ⟨m1, rfl⟩⟩ := hrel
    cases gk with
    | zero => exact absurd HA.out (by simp [drawlotref05_value.l0])
    | succ k1 =>
      have H := HA.out
      clear HA
      simp only [drawlotref05_value.l0] at H
      by_cases c2 : x3_1 < 16
      · rw [if_pos c2] at H
        have c2b0 : decide (x3_1 < 16) = true := decide_eq_true c2
        clear c2
        by_cases c3 : 0 ≤ x3_1
        · rw [if_pos c3] at H
          have c3b0 : decide (0 ≤ x3_1) = true := decide_eq_true c3
          clear c3
          by_cases c5 : (bt (⟨#[48, 49, 50, 51, 52, 53, 54, 55, 56, 57, 97, 98, 99, 100, 101, 102]⟩ : ByteArray) x3_1) = a0
          · rw [if_pos c5] at H
            have c5b0 : ((bt (⟨#[48, 49, 50, 51, 52, 53, 54, 55, 56, 57, 97, 98, 99, 100, 101, 102]⟩ : ByteArray) x3_1) == a0) = true := beq_iff_eq.mpr c5
            have c5b1 : ((bt (⟨#[48, 49, 50, 51, 52, 53, 54, 55, 56, 57, 97, 98, 99, 100, 101, 102]⟩ : ByteArray) x3_1) != a0) = false := bne_eq_false_iff_eq.mpr c5
            clear c5
            obtain rfl := Option.some.inj H
            have p4 : 0 ≤ (x3_1 : Int) := of_decide_eq_true qa
            have q4 : x3_1 < (16 : Int) := of_decide_eq_true qa
            have hx4 := bt_at (⟨#[48, 49, 50, 51, 52, 53, 54, 55, 56, 57, 97, 98, 99, 100, 101, 102]⟩ : ByteArray) x3_1
            replace p4 := eq_true p4
            replace q4 := eq_true q4
            go_wp2
            go_ret
            exact ⟨by first | rfl | (simp; done) | (simp [*]; done), by repeat (first | exact Drawn0.refl _ | apply Drawn0.step)⟩
          · rw [if_neg c5] at H
            have c5b0 : ((bt (⟨#[48, 49, 50, 51, 52, 53, 54, 55, 56, 57, 97, 98, 99, 100, 101, 102]⟩ : ByteArray) x3_1) == a0) = false := beq_eq_false_iff_ne.mpr c5
            have c5b1 : ((bt (⟨#[48, 49, 50, 51, 52, 53, 54, 55, 56, 57, 97, 98, 99, 100, 101, 102]⟩ : ByteArray) x3_1) != a0) = true := bne_iff_ne.mpr c5
            have H' := Aside0.mk H
            clear H
            have p4 : 0 ≤ (x3_1 : Int) := of_decide_eq_true qa
            have q4 : x3_1 < (16 : Int) := of_decide_eq_true qa
            have hx4 := bt_at (⟨#[48, 49, 50, 51, 52, 53, 54, 55, 56, 57, 97, 98, 99, 100, 101, 102]⟩ : ByteArray) x3_1
            replace p4 := eq_true p4
            replace q4 := eq_true q4
            go_wp2
            go_roundg k1
            case measure => have := HK1.out; omega
            case rel => exact ⟨(wrap64 (x3_1 + 1)), (by first | rfl | (simp; done) | (simp [*]; done)), H', ⟨by have := HK1.out; omega⟩, by repeat (first | exact Drawn0.refl _ | apply Drawn0.step)⟩
        · rw [if_neg c3] at H
          exact absurd H (by simp)
      · rw [if_neg c2] at H
        have c2b0 : decide (x3_1 < 16) = false := decide_eq_false c2
        clear c2
        obtain rfl := Option.some.inj H
        go_wp2
        go_ret
        exact ⟨by first | rfl | (simp; done) | (simp [*]; done), by repeat (first | exact Drawn0.refl _ | apply Drawn0.step)⟩
def drawlotref05_Parse.l0 : Nat → ByteArray → Int → List Int → Option (List Int × Int)
 | 0, _, _, _ => none
 | k + 1, x0, x5, x267000 => if x5 < 32 then (if 0 ≤ (wrap64 (2 * x5)) then (if (wrap64 (2 * x5)) < (x0.size : Int) then ((drawlotref05_value.f k (bt x0 (wrap64 (2 * x5)))).bind fun t267 => (if 0 ≤ (wrap64 ((wrap64 (2 * x5)) + 1)) then (if (wrap64 ((wrap64 (2 * x5)) + 1)) < (x0.size : Int) then ((drawlotref05_value.f k (bt x0 (wrap64 ((wrap64 (2 * x5)) + 1)))).bind fun t268 => (if t267 > 15 then (some ([0, 0, 0, 0, 0, 0, 0, 0, 0, 0, 0, 0, 0, 0, 0, 0, 0, 0, 0, 0, 0, 0, 0, 0, 0, 0, 0, 0, 0, 0, 0, 0], 2)) else (if t268 > 15 then (some ([0, 0, 0, 0, 0, 0, 0, 0, 0, 0, 0, 0, 0, 0, 0, 0, 0, 0, 0, 0, 0, 0, 0, 0, 0, 0, 0, 0, 0, 0, 0, 0], 2)) else (if 0 ≤ x5 then (drawlotref05_Parse.l0 k x0 (wrap64 (x5 + 1)) (Ar.set 32 x267000 x5 ((wrap64 ((wrap64 (16 * t267)) + t268)) % 256))) else (none))))) else (none)) else (none))) else (none)) else (none)) else (some (x267000, 0))
def drawlotref05_Parse.f (k : Nat) (a0 : ByteArray) : Option (List Int × Int) := if (a0.size : Int) = 64 then (drawlotref05_Parse.l0 k a0 0 (List.replicate 32 0)) else (some ((List.replicate 32 0), 2))
theorem drawlotref05_Parse.mono_l : ∀ k, (∀ y0 y1 y2, LeO (drawlotref05_Parse.l0 k y0 y1 y2) (drawlotref05_Parse.l0 (k + 1) y0 y1 y2))
 | 0 => fun _ _ _ r h => by simp [drawlotref05_Parse.l0] at h
 | k + 1 => by
  have ih0 := drawlotref05_Parse.mono_l k
  ·intro y0 y1 y2
   unfold drawlotref05_Parse.l0
   repeat' first
   | (with_reducible exact ih0 _ _ _)
   | (with_reducible exact drawlotref05_value.mono _ _)
   | (with_reducible exact LeO.refl _)
   | (with_reducible exact LeO.none _)
   | (with_reducible refine LeO.ite ?_ ?_)
   | (with_reducible refine LeO.bind ?_ (fun _ => ?_))
   | exact ih0 _ _ _
   | exact drawlotref05_value.mono _ _
   | exact LeO.none _
   | refine LeO.ite ?_ ?_
   | refine LeO.bind ?_ (fun _ => ?_)
theorem drawlotref05_Parse.mono : ∀ a0 k, LeO (drawlotref05_Parse.f k a0) (drawlotref05_Parse.f (k + 1) a0) := by
 intro a0 k
 have ih0 := drawlotref05_Parse.mono_l k
 unfold drawlotref05_Parse.f
 repeat' first
   | (with_reducible exact ih0 _ _ _)
   | (with_reducible exact drawlotref05_value.mono _ _)
   | (with_reducible exact LeO.refl _)
   | (with_reducible exact LeO.none _)
   | (with_reducible refine LeO.ite ?_ ?_)
   | (with_reducible refine LeO.bind ?_ (fun _ => ?_))
   | exact ih0 _ _ _
   | exact drawlotref05_value.mono _ _
   | exact LeO.none _
   | refine LeO.ite ?_ ?_
   | refine LeO.bind ?_ (fun _ => ?_)
set_option maxHeartbeats 8000000 in
set_option maxRecDepth 100000 in
theorem drawlotref05_Parse.calls (k : Nat) (a0 : ByteArray) (r1 : List Int) (r2 : Int) (w : World) (h : drawlotref05_Parse.f k a0 = some (r1, r2)) :
  Calls Tryd.prog 23 #[.string a0] w fun e w' => e = .returned (.tuple #[.agg (Ar.cells .u8 32 r1), .int .i64 r2]) ∧ Below w.heap.size w w' := by
 have HB := Aside0.mk (Below.refl w.heap.size w)
 have H : (if (a0.size : Int) = 64 then (drawlotref05_Parse.l0 k a0 0 (List.replicate 32 0)) else (some ((List.replicate 32 0), 2))) = some (r1, r2) := h
 clear h
 by_cases c2 : (a0.size : Int) = 64
 ·rw [if_pos c2] at H
  have c2b0 : ((a0.size : Int) == 64) = true := beq_iff_eq.mpr c2
  have c2b1 : ((a0.size : Int) != 64) = false := bne_eq_false_iff_eq.mpr c2
  clear c2
  have H' := Aside0.mk H
  clear H
  go_enter Tryd.func23, Tryd.ntmps23
  go_wp2_with (first | ((with_reducible refine gate_dst (N := 2) rfl ?_); (try (refine gate_guard (by rfl) ?_; dsimp only)); refine qE (N := 2) (cs := (Ar.cells .u8 32 (List.replicate 32 0))) (t := 26) ?_; intro gb265 hg w3 hbox hb; have BK265 := Aside0.mk (hbox); have GW265 := Aside0.mk ((qe HB hg : w.heap.size ≤ gb265)); have GE265 := Aside0.mk ((qe HB hg : w.heap.size ≤ gb265)); replace HB := Aside0.mk (below_step (qs HB) hb); clear hb hbox hg) | ((with_reducible refine gate_dst (N := 4) rfl ?_); (try (refine gate_guard (by rfl) ?_; dsimp only)); refine qE (N := 4) (cs := (Ar.cells .u8 32 (List.replicate 32 0))) (t := 26) ?_; intro gb266 hg w4 hbox hb; have BK266 := Aside0.mk (hbox); have GW266 := Aside0.mk ((qe HB hg : w.heap.size ≤ gb266)); have GE266 := Aside0.mk ((qe HB hg : w.heap.size ≤ gb266)); replace HB := Aside0.mk (below_step (qs HB) hb); have NB265_266 := Aside0.mk ((qn BK265 hg : gb265 ≠ gb266)); have NB266_265 := Aside0.mk ((qm BK265 hg : gb266 ≠ gb265)); replace BK265 := Aside0.mk (qB BK265 hb); clear hb hbox hg))
  repeat (go_quiet (first | ((with_reducible refine gate_dst (N := 2) rfl ?_); (try (refine gate_guard (by rfl) ?_; dsimp only)); refine qE (N := 2) (cs := (Ar.cells .u8 32 (List.replicate 32 0))) (t := 26) ?_; intro gb265 hg w3 hbox hb; have BK265 := Aside0.mk (hbox); have GW265 := Aside0.mk ((qe HB hg : w.heap.size ≤ gb265)); have GE265 := Aside0.mk ((qe HB hg : w.heap.size ≤ gb265)); replace HB := Aside0.mk (below_step (qs HB) hb); clear hb hbox hg) | ((with_reducible refine gate_dst (N := 4) rfl ?_); (try (refine gate_guard (by rfl) ?_; dsimp only)); refine qE (N := 4) (cs := (Ar.cells .u8 32 (List.replicate 32 0))) (t := 26) ?_; intro gb266 hg w4 hbox hb; have BK266 := Aside0.mk (hbox); have GW266 := Aside0.mk ((qe HB hg : w.heap.size ≤ gb266)); have GE266 := Aside0.mk ((qe HB hg : w.heap.size ≤ gb266)); replace HB := Aside0.mk (below_step (qs HB) hb); have NB265_266 := Aside0.mk ((qn BK265 hg : gb265 ≠ gb266)); have NB266_265 := Aside0.mk ((qm BK265 hg : gb266 ≠ gb265)); replace BK265 := Aside0.mk (qB BK265 hb); clear hb hbox hg)); try go_wp2_with (first | ((with_reducible refine gate_dst (N := 2) rfl ?_); (try (refine gate_guard (by rfl) ?_; dsimp only)); refine qE (N := 2) (cs := (Ar.cells .u8 32 (List.replicate 32 0))) (t := 26) ?_; intro gb265 hg w3 hbox hb; have BK265 := Aside0.mk (hbox); have GW265 := Aside0.mk ((qe HB hg : w.heap.size ≤ gb265)); have GE265 := Aside0.mk ((qe HB hg : w.heap.size ≤ gb265)); replace HB := Aside0.mk (below_step (qs HB) hb); clear hb hbox hg) | ((with_reducible refine gate_dst (N := 4) rfl ?_); (try (refine gate_guard (by rfl) ?_; dsimp only)); refine qE (N := 4) (cs := (Ar.cells .u8 32 (List.replicate 32 0))) (t := 26) ?_; intro gb266 hg w4 hbox hb; have BK266 := Aside0.mk (hbox); have GW266 := Aside0.mk ((qe HB hg : w.heap.size ≤ gb266)); have GE266 := Aside0.mk ((qe HB hg : w.heap.size ≤ gb266)); replace HB := Aside0.mk (below_step (qs HB) hb); have NB265_266 := Aside0.mk ((qn BK265 hg : gb265 ≠ gb266)); have NB266_265 := Aside0.mk ((qm BK265 hg : gb266 ≠ gb265)); replace BK265 := Aside0.mk (qB BK265 hb); clear hb hbox hg)))
  go_loopg [5] k (fun kq v5 w' => ∃ (x5_1 : Int) (x266000_1 : List Int) (x267000_1 : List Int), v5 = .int .i64 x5_1 ∧ Aside0 (drawlotref05_Parse.l0 kq a0 x5_1 x267000_1 = some (r1, r2)) ∧ Aside0 (kq ≤ k) ∧ Aside0 (w'.heap[gb265]? = some (.cells (Ar.cells .u8 32 x266000_1) 26 (0, 0))) ∧ Aside0 (w'.heap[gb266]? = some (.cells (Ar.cells .u8 32 x267000_1) 26 (0, 0))) ∧ Aside0 (Below w.heap.size w w'))
  case atStart => exact ⟨(0), ((List.replicate 32 0)), ((List.replicate 32 0)), (by first | rfl | (simp; done) | (simp [*]; done)), H', ⟨Nat.le_refl _⟩, ⟨by (with_reducible repeat (first | refine blk_drewN ?_ _ | refine blk_drew ?_ | refine blk_alloc ?_ _)); exact BK265.out⟩, ⟨by (with_reducible repeat (first | refine blk_drewN ?_ _ | refine blk_drew ?_ | refine blk_alloc ?_ _)); exact BK266.out⟩, ⟨by repeat (first | (with_reducible first | exact HB.out | apply below_alloc | apply pw_below_drewN | apply below_drew1 | refine below_set ?_ GE265.out | refine below_set ?_ GE266.out) | exact HB.out)⟩⟩
  case round =>
   clear H'
   try clear c2
   try clear c2b0
   try clear c2b1
   try clear p2
   obtain ⟨x5_1, x266000_1, x267000_1, rfl, HA, HK1, BK265, BK266, HB⟩ := hrel
   cases gk with
   | zero => exact absurd HA.out (by simp [drawlotref05_Parse.l0])
   | succ k1 =>
    have H := HA.out
    clear HA
    simp only [drawlotref05_Parse.l0] at H
    by_cases c5 : x5_1 < 32
    ·rw [if_pos c5] at H
     have c5b0 : decide (x5_1 < 32) = true := decide_eq_true c5
     clear c5
     obtain ⟨ji6, hji6⟩ : ∃ j_ : Int, (wrap64 (2 * x5_1)) = j_ := ⟨_, rfl⟩
     replace H : (if 0 ≤ (ji6) then (if (ji6) < (a0.size : Int) then ((drawlotref05_value.f k1 (bt a0 (ji6))).bind fun t267 => (if 0 ≤ (wrap64 ((ji6) + 1)) then (if (wrap64 ((ji6) + 1)) < (a0.size : Int) then ((drawlotref05_value.f k1 (bt a0 (wrap64 ((ji6) + 1)))).bind fun t268 => (if t267 > 15 then (some ([0, 0, 0, 0, 0, 0, 0, 0, 0, 0, 0, 0, 0, 0, 0, 0, 0, 0, 0, 0, 0, 0, 0, 0, 0, 0, 0, 0, 0, 0, 0, 0], 2)) else (if t268 > 15 then (some ([0, 0, 0, 0, 0, 0, 0, 0, 0, 0, 0, 0, 0, 0, 0, 0, 0, 0, 0, 0, 0, 0, 0, 0, 0, 0, 0, 0, 0, 0, 0, 0], 2)) else (if 0 ≤ x5_1 then (drawlotref05_Parse.l0 k1 a0 (wrap64 (x5_1 + 1)) (Ar.set 32 x267000_1 x5_1 ((wrap64 ((wrap64 (16 * t267)) + t268)) % 256))) else (none))))) else (none)) else (none))) else (none)) else (none)) = some (r1, r2) := by first | (rw [hji6] at H; exact H) | (simp only [hji6] at H ⊢; exact H)
     have hji6w : (IntKind.i64.wrap (2 * x5_1)) = ji6 := (i64_w _).trans hji6
     by_cases c7 : 0 ≤ (ji6)
     ·rw [if_pos c7] at H
      have c7b0 : decide (0 ≤ (ji6)) = true := decide_eq_true c7
      clear c7
      by_cases c8 : (ji6) < (a0.size : Int)
      ·rw [if_pos c8] at H
       have c8b0 : decide ((ji6) < (a0.size : Int)) = true := decide_eq_true c8
       clear c8
       replace H := Option.bind_eq_some_iff.mp H
       obtain ⟨t267, A100, H⟩ := H
       replace H : (if 0 ≤ (wrap64 ((ji6) + 1)) then (if (wrap64 ((ji6) + 1)) < (a0.size : Int) then ((drawlotref05_value.f k1 (bt a0 (wrap64 ((ji6) + 1)))).bind fun t268 => (if t267 > 15 then (some ([0, 0, 0, 0, 0, 0, 0, 0, 0, 0, 0, 0, 0, 0, 0, 0, 0, 0, 0, 0, 0, 0, 0, 0, 0, 0, 0, 0, 0, 0, 0, 0], 2)) else (if t268 > 15 then (some ([0, 0, 0, 0, 0, 0, 0, 0, 0, 0, 0, 0, 0, 0, 0, 0, 0, 0, 0, 0, 0, 0, 0, 0, 0, 0, 0, 0, 0, 0, 0, 0], 2)) else (if 0 ≤ x5_1 then (drawlotref05_Parse.l0 k1 a0 (wrap64 (x5_1 + 1)) (Ar.set 32 x267000_1 x5_1 ((wrap64 ((wrap64 (16 * t267)) + t268)) % 256))) else (none))))) else (none)) else (none)) = some (r1, r2) := H
       have A10 := Aside0.mk A100
       clear A100
       obtain ⟨ji11, hji11⟩ : ∃ j_ : Int, (wrap64 ((ji6) + 1)) = j_ := ⟨_, rfl⟩
       replace H : (if 0 ≤ (ji11) then (if (ji11) < (a0.size : Int) then ((drawlotref05_value.f k1 (bt a0 (ji11))).bind fun t268 => (if t267 > 15 then (some ([0, 0, 0, 0, 0, 0, 0, 0, 0, 0, 0, 0, 0, 0, 0, 0, 0, 0, 0, 0, 0, 0, 0, 0, 0, 0, 0, 0, 0, 0, 0, 0], 2)) else (if t268 > 15 then (some ([0, 0, 0, 0, 0, 0, 0, 0, 0, 0, 0, 0, 0, 0, 0, 0, 0, 0, 0, 0, 0, 0, 0, 0, 0, 0, 0, 0, 0, 0, 0, 0], 2)) else (if 0 ≤ x5_1 then (drawlotref05_Parse.l0 k1 a0 (wrap64 (x5_1 + 1)) (Ar.set 32 x267000_1 x5_1 ((wrap64 ((wrap64 (16 * t267)) + t268)) % 256))) else (none))))) else (none)) else (none)) = some (r1, r2) := by first | (rw [hji11] at H; exact H) | (simp only [hji11] at H ⊢; exact H)
       (try rw [hji11] at A10)
       have hji11w : (IntKind.i64.wrap ((ji6) + 1)) = ji11 := (i64_w _).trans hji11
       by_cases c12 : 0 ≤ (ji11)
       ·rw [if_pos c12] at H
        have c12b0 : decide (0 ≤ (ji11)) = true := decide_eq_true c12
        clear c12
        by_cases c13 : (ji11) < (a0.size : Int)
        ·rw [if_pos c13] at H
         have c13b0 : decide ((ji11) < (a0.size : Int)) = true := decide_eq_true c13
         clear c13
         replace H := Option.bind_eq_some_iff.mp H
         obtain ⟨t268, A150, H⟩ := H
         replace H : (if t267 > 15 then (some ([0, 0, 0, 0, 0, 0, 0, 0, 0, 0, 0, 0, 0, 0, 0, 0, 0, 0, 0, 0, 0, 0, 0, 0, 0, 0, 0, 0, 0, 0, 0, 0], 2)) else (if t268 > 15 then (some ([0, 0, 0, 0, 0, 0, 0, 0, 0, 0, 0, 0, 0, 0, 0, 0, 0, 0, 0, 0, 0, 0, 0, 0, 0, 0, 0, 0, 0, 0, 0, 0], 2)) else (if 0 ≤ x5_1 then (drawlotref05_Parse.l0 k1 a0 (wrap64 (x5_1 + 1)) (Ar.set 32 x267000_1 x5_1 ((wrap64 ((wrap64 (16 * t267)) + t268)) % 256))) else (none)))) = some (r1, r2) := H
         have A15 := Aside0.mk A150
         clear A150
         by_cases c16 : t267 > 15
         ·rw [if_pos c16] at H
          have c16b0 : decide (15 < t267) = true := decide_eq_true c16
          clear c16
          simp only [Option.some.injEq, Prod.mk.injEq] at H
          obtain ⟨rfl, rfl⟩ := H
          have p9 : 0 ≤ ((ji6) : Int) := of_decide_eq_true qa
          have q9 : (ji6) < (a0.size : Int) := of_decide_eq_true qa
          have hx9 := bt_at a0 (ji6)
          replace p9 := eq_true p9
          replace q9 := eq_true q9
          go_wp2_with (first | (go_at_call 40; (with_reducible refine (drawlotref05_value.calls k1 (bt a0 (ji6)) t267 _ A10.out).mono ?_); rintro e w' ⟨rfl, ⟨nd, rfl⟩⟩; (try first | exact ⟨rfl, _, World.drewN_drewN _ _ _⟩ | exact ⟨rfl, _, Eq.trans (World.drewN_drewN _ _ _) (congrArg (World.drewN _) (Nat.add_assoc _ _ _))⟩); have p14 : 0 ≤ ((ji11) : Int) := of_decide_eq_true qa; have q14 : (ji11) < (a0.size : Int) := of_decide_eq_true qa; have hx14 := bt_at a0 (ji11); replace p14 := eq_true p14; replace q14 := eq_true q14) | (go_at_call 40; (with_reducible refine (drawlotref05_value.calls k1 (bt a0 (ji11)) t268 _ A15.out).mono ?_); rintro e w' ⟨rfl, ⟨nd, rfl⟩⟩; (try first | exact ⟨rfl, _, World.drewN_drewN _ _ _⟩ | exact ⟨rfl, _, Eq.trans (World.drewN_drewN _ _ _) (congrArg (World.drewN _) (Nat.add_assoc _ _ _))⟩)) | ((with_reducible refine gate_dst (N := 33) rfl ?_); (try (refine gate_guard (by rfl) ?_; dsimp only)); refine Ar.build_event rfl (D := 33) rfl (T := 26) rfl (k := .u8) (n := 32) (l := [0, 0, 0, 0, 0, 0, 0, 0, 0, 0, 0, 0, 0, 0, 0, 0, 0, 0, 0, 0, 0, 0, 0, 0, 0, 0, 0, 0, 0, 0, 0, 0]) Tryd.underlying26 (by kernel_rfl) (by kernel_rfl) [] (by rfl) (by rfl) (by rfl) ?_) | ((with_reducible refine gate_store (t := 26) (p := 2) rfl ?_); (try (rw [drewN_self wr]; generalize hq_ : World.drewN wr _ = wr; replace BK265 := Aside0.mk (blk_at hq_ BK265.out); replace BK266 := Aside0.mk (blk_at hq_ BK266.out); replace HB := Aside0.mk (below_at hq_ HB.out); clear hq_)); refine Ar.store_all_event rfl rfl rfl Tryd.underlying26 (by kernel_rfl) (g := gb265) rfl (z := [0, 0, 0, 0, 0, 0, 0, 0, 0, 0, 0, 0, 0, 0, 0, 0, 0, 0, 0, 0, 0, 0, 0, 0, 0, 0, 0, 0, 0, 0, 0, 0]) qg (qb BK265) ?_; intro w17 hbk_ hg; replace BK266 := Aside0.mk (qG BK266 hg (fun e_ => NB266_265.out (Option.some.inj e_))); replace BK265 := Aside0.mk (hbk_); replace HB := Aside0.mk (Below.grown (qs HB) hg ((below_size (qs HB))) (fun _ e_ => by cases e_; exact GE265.out)); clear hbk_ hg))
          repeat (go_quiet (first | (go_at_call 40; (with_reducible refine (drawlotref05_value.calls k1 (bt a0 (ji6)) t267 _ A10.out).mono ?_); rintro e w' ⟨rfl, ⟨nd, rfl⟩⟩; (try first | exact ⟨rfl, _, World.drewN_drewN _ _ _⟩ | exact ⟨rfl, _, Eq.trans (World.drewN_drewN _ _ _) (congrArg (World.drewN _) (Nat.add_assoc _ _ _))⟩); have p14 : 0 ≤ ((ji11) : Int) := of_decide_eq_true qa; have q14 : (ji11) < (a0.size : Int) := of_decide_eq_true qa; have hx14 := bt_at a0 (ji11); replace p14 := eq_true p14; replace q14 := eq_true q14) | (go_at_call 40; (with_reducible refine (drawlotref05_value.calls k1 (bt a0 (ji11)) t268 _ A15.out).mono ?_); rintro e w' ⟨rfl, ⟨nd, rfl⟩⟩; (try first | exact ⟨rfl, _, World.drewN_drewN _ _ _⟩ | exact ⟨rfl, _, Eq.trans (World.drewN_drewN _ _ _) (congrArg (World.drewN _) (Nat.add_assoc _ _ _))⟩)) | ((with_reducible refine gate_dst (N := 33) rfl ?_); (try (refine gate_guard (by rfl) ?_; dsimp only)); refine Ar.build_event rfl (D := 33) rfl (T := 26) rfl (k := .u8) (n := 32) (l := [0, 0, 0, 0, 0, 0, 0, 0, 0, 0, 0, 0, 0, 0, 0, 0, 0, 0, 0, 0, 0, 0, 0, 0, 0, 0, 0, 0, 0, 0, 0, 0]) Tryd.underlying26 (by kernel_rfl) (by kernel_rfl) [] (by rfl) (by rfl) (by rfl) ?_) | ((with_reducible refine gate_store (t := 26) (p := 2) rfl ?_); (try (rw [drewN_self wr]; generalize hq_ : World.drewN wr _ = wr; replace BK265 := Aside0.mk (blk_at hq_ BK265.out); replace BK266 := Aside0.mk (blk_at hq_ BK266.out); replace HB := Aside0.mk (below_at hq_ HB.out); clear hq_)); refine Ar.store_all_event rfl rfl rfl Tryd.underlying26 (by kernel_rfl) (g := gb265) rfl (z := [0, 0, 0, 0, 0, 0, 0, 0, 0, 0, 0, 0, 0, 0, 0, 0, 0, 0, 0, 0, 0, 0, 0, 0, 0, 0, 0, 0, 0, 0, 0, 0]) qg (qb BK265) ?_; intro w17 hbk_ hg; replace BK266 := Aside0.mk (qG BK266 hg (fun e_ => NB266_265.out (Option.some.inj e_))); replace BK265 := Aside0.mk (hbk_); replace HB := Aside0.mk (Below.grown (qs HB) hg ((below_size (qs HB))) (fun _ e_ => by cases e_; exact GE265.out)); clear hbk_ hg)); try go_wp2_with (first | (go_at_call 40; (with_reducible refine (drawlotref05_value.calls k1 (bt a0 (ji6)) t267 _ A10.out).mono ?_); rintro e w' ⟨rfl, ⟨nd, rfl⟩⟩; (try first | exact ⟨rfl, _, World.drewN_drewN _ _ _⟩ | exact ⟨rfl, _, Eq.trans (World.drewN_drewN _ _ _) (congrArg (World.drewN _) (Nat.add_assoc _ _ _))⟩); have p14 : 0 ≤ ((ji11) : Int) := of_decide_eq_true qa; have q14 : (ji11) < (a0.size : Int) := of_decide_eq_true qa; have hx14 := bt_at a0 (ji11); replace p14 := eq_true p14; replace q14 := eq_true q14) | (go_at_call 40; (with_reducible refine (drawlotref05_value.calls k1 (bt a0 (ji11)) t268 _ A15.out).mono ?_); rintro e w' ⟨rfl, ⟨nd, rfl⟩⟩; (try first | exact ⟨rfl, _, World.drewN_drewN _ _ _⟩ | exact ⟨rfl, _, Eq.trans (World.drewN_drewN _ _ _) (congrArg (World.drewN _) (Nat.add_assoc _ _ _))⟩)) | ((with_reducible refine gate_dst (N := 33) rfl ?_); (try (refine gate_guard (by rfl) ?_; dsimp only)); refine Ar.build_event rfl (D := 33) rfl (T := 26) rfl (k := .u8) (n := 32) (l := [0, 0, 0, 0, 0, 0, 0, 0, 0, 0, 0, 0, 0, 0, 0, 0, 0, 0, 0, 0, 0, 0, 0, 0, 0, 0, 0, 0, 0, 0, 0, 0]) Tryd.underlying26 (by kernel_rfl) (by kernel_rfl) [] (by rfl) (by rfl) (by rfl) ?_) | ((with_reducible refine gate_store (t := 26) (p := 2) rfl ?_); (try (rw [drewN_self wr]; generalize hq_ : World.drewN wr _ = wr; replace BK265 := Aside0.mk (blk_at hq_ BK265.out); replace BK266 := Aside0.mk (blk_at hq_ BK266.out); replace HB := Aside0.mk (below_at hq_ HB.out); clear hq_)); refine Ar.store_all_event rfl rfl rfl Tryd.underlying26 (by kernel_rfl) (g := gb265) rfl (z := [0, 0, 0, 0, 0, 0, 0, 0, 0, 0, 0, 0, 0, 0, 0, 0, 0, 0, 0, 0, 0, 0, 0, 0, 0, 0, 0, 0, 0, 0, 0, 0]) qg (qb BK265) ?_; intro w17 hbk_ hg; replace BK266 := Aside0.mk (qG BK266 hg (fun e_ => NB266_265.out (Option.some.inj e_))); replace BK265 := Aside0.mk (hbk_); replace HB := Aside0.mk (Below.grown (qs HB) hg ((below_size (qs HB))) (fun _ e_ => by cases e_; exact GE265.out)); clear hbk_ hg)))
          refine bodyPost_ret (results_ct rfl _ _ gb265 26 (Ar.cells .u8 32 [0, 0, 0, 0, 0, 0, 0, 0, 0, 0, 0, 0, 0, 0, 0, 0, 0, 0, 0, 0, 0, 0, 0, 0, 0, 0, 0, 0, 0, 0, 0, 0]) (0, 0) _ rfl (qb BK265) Tryd.underlying26 rfl qZ) rfl ?_
          exact ⟨by first | rfl | (simp [errW_none, errW_some] <;> rfl) | (simp only [← hji6, ← hji11]; first | rfl | (simp [errW_none, errW_some] <;> rfl)) | (simp [*, errW_none, errW_some] <;> rfl), by repeat (first | (with_reducible first | exact HB.out | apply below_alloc | apply pw_below_drewN | apply below_drew1 | refine below_set ?_ GE265.out | refine below_set ?_ GE266.out) | exact HB.out)⟩
         ·rw [if_neg c16] at H
          have c16b0 : decide (15 < t267) = false := decide_eq_false c16
          clear c16
          by_cases c18 : t268 > 15
          ·rw [if_pos c18] at H
           have c18b0 : decide (15 < t268) = true := decide_eq_true c18
           clear c18
           simp only [Option.some.injEq, Prod.mk.injEq] at H
           obtain ⟨rfl, rfl⟩ := H
           have p9 : 0 ≤ ((ji6) : Int) := of_decide_eq_true qa
           have q9 : (ji6) < (a0.size : Int) := of_decide_eq_true qa
           have hx9 := bt_at a0 (ji6)
           replace p9 := eq_true p9
           replace q9 := eq_true q9
           go_wp2_with (first | (go_at_call 40; (with_reducible refine (drawlotref05_value.calls k1 (bt a0 (ji6)) t267 _ A10.out).mono ?_); rintro e w' ⟨rfl, ⟨nd, rfl⟩⟩; (try first | exact ⟨rfl, _, World.drewN_drewN _ _ _⟩ | exact ⟨rfl, _, Eq.trans (World.drewN_drewN _ _ _) (congrArg (World.drewN _) (Nat.add_assoc _ _ _))⟩); have p14 : 0 ≤ ((ji11) : Int) := of_decide_eq_true qa; have q14 : (ji11) < (a0.size : Int) := of_decide_eq_true qa; have hx14 := bt_at a0 (ji11); replace p14 := eq_true p14; replace q14 := eq_true q14) | (go_at_call 40; (with_reducible refine (drawlotref05_value.calls k1 (bt a0 (ji11)) t268 _ A15.out).mono ?_); rintro e w' ⟨rfl, ⟨nd, rfl⟩⟩; (try first | exact ⟨rfl, _, World.drewN_drewN _ _ _⟩ | exact ⟨rfl, _, Eq.trans (World.drewN_drewN _ _ _) (congrArg (World.drewN _) (Nat.add_assoc _ _ _))⟩)) | ((with_reducible refine gate_dst (N := 33) rfl ?_); (try (refine gate_guard (by rfl) ?_; dsimp only)); refine Ar.build_event rfl (D := 33) rfl (T := 26) rfl (k := .u8) (n := 32) (l := [0, 0, 0, 0, 0, 0, 0, 0, 0, 0, 0, 0, 0, 0, 0, 0, 0, 0, 0, 0, 0, 0, 0, 0, 0, 0, 0, 0, 0, 0, 0, 0]) Tryd.underlying26 (by kernel_rfl) (by kernel_rfl) [] (by rfl) (by rfl) (by rfl) ?_) | ((with_reducible refine gate_store (t := 26) (p := 2) rfl ?_); (try (rw [drewN_self wr]; generalize hq_ : World.drewN wr _ = wr; replace BK265 := Aside0.mk (blk_at hq_ BK265.out); replace BK266 := Aside0.mk (blk_at hq_ BK266.out); replace HB := Aside0.mk (below_at hq_ HB.out); clear hq_)); refine Ar.store_all_event rfl rfl rfl Tryd.underlying26 (by kernel_rfl) (g := gb265) rfl (z := [0, 0, 0, 0, 0, 0, 0, 0, 0, 0, 0, 0, 0, 0, 0, 0, 0, 0, 0, 0, 0, 0, 0, 0, 0, 0, 0, 0, 0, 0, 0, 0]) qg (qb BK265) ?_; intro w19 hbk_ hg; replace BK266 := Aside0.mk (qG BK266 hg (fun e_ => NB266_265.out (Option.some.inj e_))); replace BK265 := Aside0.mk (hbk_); replace HB := Aside0.mk (Below.grown (qs HB) hg ((below_size (qs HB))) (fun _ e_ => by cases e_; exact GE265.out)); clear hbk_ hg))
           repeat (go_quiet (first | (go_at_call 40; (with_reducible refine (drawlotref05_value.calls k1 (bt a0 (ji6)) t267 _ A10.out).mono ?_); rintro e w' ⟨rfl, ⟨nd, rfl⟩⟩; (try first | exact ⟨rfl, _, World.drewN_drewN _ _ _⟩ | exact ⟨rfl, _, Eq.trans (World.drewN_drewN _ _ _) (congrArg (World.drewN _) (Nat.add_assoc _ _ _))⟩); have p14 : 0 ≤ ((ji11) : Int) := of_decide_eq_true qa; have q14 : (ji11) < (a0.size : Int) := of_decide_eq_true qa; have hx14 := bt_at a0 (ji11); replace p14 := eq_true p14; replace q14 := eq_true q14) | (go_at_call 40; (with_reducible refine (drawlotref05_value.calls k1 (bt a0 (ji11)) t268 _ A15.out).mono ?_); rintro e w' ⟨rfl, ⟨nd, rfl⟩⟩; (try first | exact ⟨rfl, _, World.drewN_drewN _ _ _⟩ | exact ⟨rfl, _, Eq.trans (World.drewN_drewN _ _ _) (congrArg (World.drewN _) (Nat.add_assoc _ _ _))⟩)) | ((with_reducible refine gate_dst (N := 33) rfl ?_); (try (refine gate_guard (by rfl) ?_; dsimp only)); refine Ar.build_event rfl (D := 33) rfl (T := 26) rfl (k := .u8) (n := 32) (l := [0, 0, 0, 0, 0, 0, 0, 0, 0, 0, 0, 0, 0, 0, 0, 0, 0, 0, 0, 0, 0, 0, 0, 0, 0, 0, 0, 0, 0, 0, 0, 0]) Tryd.underlying26 (by kernel_rfl) (by kernel_rfl) [] (by rfl) (by rfl) (by rfl) ?_) | ((with_reducible refine gate_store (t := 26) (p := 2) rfl ?_); (try (rw [drewN_self wr]; generalize hq_ : World.drewN wr _ = wr; replace BK265 := Aside0.mk (blk_at hq_ BK265.out); replace BK266 := Aside0.mk (blk_at hq_ BK266.out); replace HB := Aside0.mk (below_at hq_ HB.out); clear hq_)); refine Ar.store_all_event rfl rfl rfl Tryd.underlying26 (by kernel_rfl) (g := gb265) rfl (z := [0, 0, 0, 0, 0, 0, 0, 0, 0, 0, 0, 0, 0, 0, 0, 0, 0, 0, 0, 0, 0, 0, 0, 0, 0, 0, 0, 0, 0, 0, 0, 0]) qg (qb BK265) ?_; intro w19 hbk_ hg; replace BK266 := Aside0.mk (qG BK266 hg (fun e_ => NB266_265.out (Option.some.inj e_))); replace BK265 := Aside0.mk (hbk_); replace HB := Aside0.mk (Below.grown (qs HB) hg ((below_size (qs HB))) (fun _ e_ => by cases e_; exact GE265.out)); clear hbk_ hg)); try go_wp2_with (first | (go_at_call 40; (with_reducible refine (drawlotref05_value.calls k1 (bt a0 (ji6)) t267 _ A10.out).mono ?_); rintro e w' ⟨rfl, ⟨nd, rfl⟩⟩; (try first | exact ⟨rfl, _, World.drewN_drewN _ _ _⟩ | exact ⟨rfl, _, Eq.trans (World.drewN_drewN _ _ _) (congrArg (World.drewN _) (Nat.add_assoc _ _ _))⟩); have p14 : 0 ≤ ((ji11) : Int) := of_decide_eq_true qa; have q14 : (ji11) < (a0.size : Int) := of_decide_eq_true qa; have hx14 := bt_at a0 (ji11); replace p14 := eq_true p14; replace q14 := eq_true q14) | (go_at_call 40; (with_reducible refine (drawlotref05_value.calls k1 (bt a0 (ji11)) t268 _ A15.out).mono ?_); rintro e w' ⟨rfl, ⟨nd, rfl⟩⟩; (try first | exact ⟨rfl, _, World.drewN_drewN _ _ _⟩ | exact ⟨rfl, _, Eq.trans (World.drewN_drewN _ _ _) (congrArg (World.drewN _) (Nat.add_assoc _ _ _))⟩)) | ((with_reducible refine gate_dst (N := 33) rfl ?_); (try (refine gate_guard (by rfl) ?_; dsimp only)); refine Ar.build_event rfl (D := 33) rfl (T := 26) rfl (k := .u8) (n := 32) (l := [0, 0, 0, 0, 0, 0, 0, 0, 0, 0, 0, 0, 0, 0, 0, 0, 0, 0, 0, 0, 0, 0, 0, 0, 0, 0, 0, 0, 0, 0, 0, 0]) Tryd.underlying26 (by kernel_rfl) (by kernel_rfl) [] (by rfl) (by rfl) (by rfl) ?_) | ((with_reducible refine gate_store (t := 26) (p := 2) rfl ?_); (try (rw [drewN_self wr]; generalize hq_ : World.drewN wr _ = wr; replace BK265 := Aside0.mk (blk_at hq_ BK265.out); replace BK266 := Aside0.mk (blk_at hq_ BK266.out); replace HB := Aside0.mk (below_at hq_ HB.out); clear hq_)); refine Ar.store_all_event rfl rfl rfl Tryd.underlying26 (by kernel_rfl) (g := gb265) rfl (z := [0, 0, 0, 0, 0, 0, 0, 0, 0, 0, 0, 0, 0, 0, 0, 0, 0, 0, 0, 0, 0, 0, 0, 0, 0, 0, 0, 0, 0, 0, 0, 0]) qg (qb BK265) ?_; intro w19 hbk_ hg; replace BK266 := Aside0.mk (qG BK266 hg (fun e_ => NB266_265.out (Option.some.inj e_))); replace BK265 := Aside0.mk (hbk_); replace HB := Aside0.mk (Below.grown (qs HB) hg ((below_size (qs HB))) (fun _ e_ => by cases e_; exact GE265.out)); clear hbk_ hg)))
           refine bodyPost_ret (results_ct rfl _ _ gb265 26 (Ar.cells .u8 32 [0, 0, 0, 0, 0, 0, 0, 0, 0, 0, 0, 0, 0, 0, 0, 0, 0, 0, 0, 0, 0, 0, 0, 0, 0, 0, 0, 0, 0, 0, 0, 0]) (0, 0) _ rfl (qb BK265) Tryd.underlying26 rfl qZ) rfl ?_
           exact ⟨by first | rfl | (simp [errW_none, errW_some] <;> rfl) | (simp only [← hji6, ← hji11]; first | rfl | (simp [errW_none, errW_some] <;> rfl)) | (simp [*, errW_none, errW_some] <;> rfl), by repeat (first | (with_reducible first | exact HB.out | apply below_alloc | apply pw_below_drewN | apply below_drew1 | refine below_set ?_ GE265.out | refine below_set ?_ GE266.out) | exact HB.out)⟩
          ·rw [if_neg c18] at H
           have c18b0 : decide (15 < t268) = false := decide_eq_false c18
           clear c18
           by_cases c20 : 0 ≤ x5_1
           ·rw [if_pos c20] at H
            have c20b0 : decide (0 ≤ x5_1) = true := decide_eq_true c20
            clear c20
            obtain ⟨y269, hy269⟩ : ∃ y_ : List Int, y_ = (Ar.set 32 x267000_1 x5_1 ((wrap64 ((wrap64 (16 * t267)) + t268)) % 256)) := ⟨_, rfl⟩
            replace H : (drawlotref05_Parse.l0 k1 a0 (wrap64 (x5_1 + 1)) y269) = some (r1, r2) := by first | (rw [hy269]; with_reducible exact H) | (have H2_ := (Option.bind_some _ _).symm.trans H; rw [hy269]; with_reducible exact H2_) | (have H2_ := (Option.bind_some _ _).symm.trans H; with_reducible exact H2_) | with_reducible exact H | (rw [hy269]; exact H) | exact H
            have Ny269 := Aside0.mk hy269
            clear hy269
            have H' := Aside0.mk H
            clear H
            have p9 : 0 ≤ ((ji6) : Int) := of_decide_eq_true qa
            have q9 : (ji6) < (a0.size : Int) := of_decide_eq_true qa
            have hx9 := bt_at a0 (ji6)
            replace p9 := eq_true p9
            replace q9 := eq_true q9
            go_wp2_with (first | (go_at_call 40; (with_reducible refine (drawlotref05_value.calls k1 (bt a0 (ji6)) t267 _ A10.out).mono ?_); rintro e w' ⟨rfl, ⟨nd, rfl⟩⟩; (try first | exact ⟨rfl, _, World.drewN_drewN _ _ _⟩ | exact ⟨rfl, _, Eq.trans (World.drewN_drewN _ _ _) (congrArg (World.drewN _) (Nat.add_assoc _ _ _))⟩); have p14 : 0 ≤ ((ji11) : Int) := of_decide_eq_true qa; have q14 : (ji11) < (a0.size : Int) := of_decide_eq_true qa; have hx14 := bt_at a0 (ji11); replace p14 := eq_true p14; replace q14 := eq_true q14) | (go_at_call 40; (with_reducible refine (drawlotref05_value.calls k1 (bt a0 (ji11)) t268 _ A15.out).mono ?_); rintro e w' ⟨rfl, ⟨nd, rfl⟩⟩; (try first | exact ⟨rfl, _, World.drewN_drewN _ _ _⟩ | exact ⟨rfl, _, Eq.trans (World.drewN_drewN _ _ _) (congrArg (World.drewN _) (Nat.add_assoc _ _ _))⟩); have p21 : (0 ≤ (x5_1 : Int)) = True := eq_true qo; have q21 : ((x5_1 : Int) < 32) = True := eq_true qo) | ((with_reducible refine gate_store (t := 5) (p := 40) rfl ?_); (try (rw [drewN_self wr]; generalize hq_ : World.drewN wr _ = wr; replace BK265 := Aside0.mk (blk_at hq_ BK265.out); replace BK266 := Aside0.mk (blk_at hq_ BK266.out); replace HB := Aside0.mk (below_at hq_ HB.out); clear hq_)); refine Ar.put_event rfl rfl rfl (by kernel_rfl) (g := gb266) (j := x5_1) rfl (z := ((wrap64 ((wrap64 (16 * t267)) + t268)) % 256)) qg (qb BK266) qo qo ?_; intro w22 hbk_ hg; rw [← Ny269.out] at hbk_; replace BK265 := Aside0.mk (qG BK265 hg (fun e_ => NB265_266.out (Option.some.inj e_))); replace BK266 := Aside0.mk (hbk_); replace HB := Aside0.mk (Below.grown (qs HB) hg ((below_size (qs HB))) (fun _ e_ => by cases e_; exact GE266.out)); clear hbk_ hg))
            repeat (go_quiet (first | (go_at_call 40; (with_reducible refine (drawlotref05_value.calls k1 (bt a0 (ji6)) t267 _ A10.out).mono ?_); rintro e w' ⟨rfl, ⟨nd, rfl⟩⟩; (try first | exact ⟨rfl, _, World.drewN_drewN _ _ _⟩ | exact ⟨rfl, _, Eq.trans (World.drewN_drewN _ _ _) (congrArg (World.drewN _) (Nat.add_assoc _ _ _))⟩); have p14 : 0 ≤ ((ji11) : Int) := of_decide_eq_true qa; have q14 : (ji11) < (a0.size : Int) := of_decide_eq_true qa; have hx14 := bt_at a0 (ji11); replace p14 := eq_true p14; replace q14 := eq_true q14) | (go_at_call 40; (with_reducible refine (drawlotref05_value.calls k1 (bt a0 (ji11)) t268 _ A15.out).mono ?_); rintro e w' ⟨rfl, ⟨nd, rfl⟩⟩; (try first | exact ⟨rfl, _, World.drewN_drewN _ _ _⟩ | exact ⟨rfl, _, Eq.trans (World.drewN_drewN _ _ _) (congrArg (World.drewN _) (Nat.add_assoc _ _ _))⟩); have p21 : (0 ≤ (x5_1 : Int)) = True := eq_true qo; have q21 : ((x5_1 : Int) < 32) = True := eq_true qo) | ((with_reducible refine gate_store (t := 5) (p := 40) rfl ?_); (try (rw [drewN_self wr]; generalize hq_ : World.drewN wr _ = wr; replace BK265 := Aside0.mk (blk_at hq_ BK265.out); replace BK266 := Aside0.mk (blk_at hq_ BK266.out); replace HB := Aside0.mk (below_at hq_ HB.out); clear hq_)); refine Ar.put_event rfl rfl rfl (by kernel_rfl) (g := gb266) (j := x5_1) rfl (z := ((wrap64 ((wrap64 (16 * t267)) + t268)) % 256)) qg (qb BK266) qo qo ?_; intro w22 hbk_ hg; rw [← Ny269.out] at hbk_; replace BK265 := Aside0.mk (qG BK265 hg (fun e_ => NB265_266.out (Option.some.inj e_))); replace BK266 := Aside0.mk (hbk_); replace HB := Aside0.mk (Below.grown (qs HB) hg ((below_size (qs HB))) (fun _ e_ => by cases e_; exact GE266.out)); clear hbk_ hg)); try go_wp2_with (first | (go_at_call 40; (with_reducible refine (drawlotref05_value.calls k1 (bt a0 (ji6)) t267 _ A10.out).mono ?_); rintro e w' ⟨rfl, ⟨nd, rfl⟩⟩; (try first | exact ⟨rfl, _, World.drewN_drewN _ _ _⟩ | exact ⟨rfl, _, Eq.trans (World.drewN_drewN _ _ _) (congrArg (World.drewN _) (Nat.add_assoc _ _ _))⟩); have p14 : 0 ≤ ((ji11) : Int) := of_decide_eq_true qa; have q14 : (ji11) < (a0.size : Int) := of_decide_eq_true qa; have hx14 := bt_at a0 (ji11); replace p14 := eq_true p14; replace q14 := eq_true q14) | (go_at_call 40; (with_reducible refine (drawlotref05_value.calls k1 (bt a0 (ji11)) t268 _ A15.out).mono ?_); rintro e w' ⟨rfl, ⟨nd, rfl⟩⟩; (try first | exact ⟨rfl, _, World.drewN_drewN _ _ _⟩ | exact ⟨rfl, _, Eq.trans (World.drewN_drewN _ _ _) (congrArg (World.drewN _) (Nat.add_assoc _ _ _))⟩); have p21 : (0 ≤ (x5_1 : Int)) = True := eq_true qo; have q21 : ((x5_1 : Int) < 32) = True := eq_true qo) | ((with_reducible refine gate_store (t := 5) (p := 40) rfl ?_); (try (rw [drewN_self wr]; generalize hq_ : World.drewN wr _ = wr; replace BK265 := Aside0.mk (blk_at hq_ BK265.out); replace BK266 := Aside0.mk (blk_at hq_ BK266.out); replace HB := Aside0.mk (below_at hq_ HB.out); clear hq_)); refine Ar.put_event rfl rfl rfl (by kernel_rfl) (g := gb266) (j := x5_1) rfl (z := ((wrap64 ((wrap64 (16 * t267)) + t268)) % 256)) qg (qb BK266) qo qo ?_; intro w22 hbk_ hg; rw [← Ny269.out] at hbk_; replace BK265 := Aside0.mk (qG BK265 hg (fun e_ => NB265_266.out (Option.some.inj e_))); replace BK266 := Aside0.mk (hbk_); replace HB := Aside0.mk (Below.grown (qs HB) hg ((below_size (qs HB))) (fun _ e_ => by cases e_; exact GE266.out)); clear hbk_ hg)))
            go_roundg k1
            case measure => have := HK1.out; omega
            case rel => exact ⟨(wrap64 (x5_1 + 1)), (x266000_1), (y269), (by first | rfl | (simp; done) | (simp [*]; done)), H', ⟨by have := HK1.out; omega⟩, ⟨by (with_reducible repeat (first | refine blk_drewN ?_ _ | refine blk_drew ?_ | refine blk_alloc ?_ _)); exact BK265.out⟩, ⟨by (with_reducible repeat (first | refine blk_drewN ?_ _ | refine blk_drew ?_ | refine blk_alloc ?_ _)); exact BK266.out⟩, ⟨by repeat (first | (with_reducible first | exact HB.out | apply below_alloc | apply pw_below_drewN | apply below_drew1 | refine below_set ?_ GE265.out | refine below_set ?_ GE266.out) | exact HB.out)⟩⟩
           ·rw [if_neg c20] at H
            exact absurd H (by simp)
        ·rw [if_neg c13] at H
         exact absurd H (by simp)
       ·rw [if_neg c12] at H
        exact absurd H (by simp)
      ·rw [if_neg c8] at H
       exact absurd H (by simp)
     ·rw [if_neg c7] at H
      exact absurd H (by simp)
    ·rw [if_neg c5] at H
     have c5b0 : decide (x5_1 < 32) = false := decide_eq_false c5
     clear c5
     simp only [Option.some.injEq, Prod.mk.injEq] at H
     obtain ⟨rfl, rfl⟩ := H
     go_wp2_with (first | ((with_reducible refine gate_dst (N := 41) rfl ?_); (try (refine gate_guard (by rfl) ?_; dsimp only)); refine Ar.load_event rfl (D := 41) rfl (T := 26) rfl Tryd.underlying26 (by kernel_rfl) (g := gb266) rfl (qb BK266) ?_) | ((with_reducible refine gate_store (t := 26) (p := 2) rfl ?_); (try (rw [drewN_self wr]; generalize hq_ : World.drewN wr _ = wr; replace BK265 := Aside0.mk (blk_at hq_ BK265.out); replace BK266 := Aside0.mk (blk_at hq_ BK266.out); replace HB := Aside0.mk (below_at hq_ HB.out); clear hq_)); refine Ar.store_all_event rfl rfl rfl Tryd.underlying26 (by kernel_rfl) (g := gb265) rfl (z := x267000_1) qg (qb BK265) ?_; intro w23 hbk_ hg; replace BK266 := Aside0.mk (qG BK266 hg (fun e_ => NB266_265.out (Option.some.inj e_))); replace BK265 := Aside0.mk (hbk_); replace HB := Aside0.mk (Below.grown (qs HB) hg ((below_size (qs HB))) (fun _ e_ => by cases e_; exact GE265.out)); clear hbk_ hg))
     repeat (go_quiet (first | ((with_reducible refine gate_dst (N := 41) rfl ?_); (try (refine gate_guard (by rfl) ?_; dsimp only)); refine Ar.load_event rfl (D := 41) rfl (T := 26) rfl Tryd.underlying26 (by kernel_rfl) (g := gb266) rfl (qb BK266) ?_) | ((with_reducible refine gate_store (t := 26) (p := 2) rfl ?_); (try (rw [drewN_self wr]; generalize hq_ : World.drewN wr _ = wr; replace BK265 := Aside0.mk (blk_at hq_ BK265.out); replace BK266 := Aside0.mk (blk_at hq_ BK266.out); replace HB := Aside0.mk (below_at hq_ HB.out); clear hq_)); refine Ar.store_all_event rfl rfl rfl Tryd.underlying26 (by kernel_rfl) (g := gb265) rfl (z := x267000_1) qg (qb BK265) ?_; intro w23 hbk_ hg; replace BK266 := Aside0.mk (qG BK266 hg (fun e_ => NB266_265.out (Option.some.inj e_))); replace BK265 := Aside0.mk (hbk_); replace HB := Aside0.mk (Below.grown (qs HB) hg ((below_size (qs HB))) (fun _ e_ => by cases e_; exact GE265.out)); clear hbk_ hg)); try go_wp2_with (first | ((with_reducible refine gate_dst (N := 41) rfl ?_); (try (refine gate_guard (by rfl) ?_; dsimp only)); refine Ar.load_event rfl (D := 41) rfl (T := 26) rfl Tryd.underlying26 (by kernel_rfl) (g := gb266) rfl (qb BK266) ?_) | ((with_reducible refine gate_store (t := 26) (p := 2) rfl ?_); (try (rw [drewN_self wr]; generalize hq_ : World.drewN wr _ = wr; replace BK265 := Aside0.mk (blk_at hq_ BK265.out); replace BK266 := Aside0.mk (blk_at hq_ BK266.out); replace HB := Aside0.mk (below_at hq_ HB.out); clear hq_)); refine Ar.store_all_event rfl rfl rfl Tryd.underlying26 (by kernel_rfl) (g := gb265) rfl (z := x267000_1) qg (qb BK265) ?_; intro w23 hbk_ hg; replace BK266 := Aside0.mk (qG BK266 hg (fun e_ => NB266_265.out (Option.some.inj e_))); replace BK265 := Aside0.mk (hbk_); replace HB := Aside0.mk (Below.grown (qs HB) hg ((below_size (qs HB))) (fun _ e_ => by cases e_; exact GE265.out)); clear hbk_ hg)))
     refine bodyPost_ret (results_ct rfl _ _ gb265 26 (Ar.cells .u8 32 x267000_1) (0, 0) _ rfl (qb BK265) Tryd.underlying26 rfl qZ) rfl ?_
     exact ⟨by first | rfl | (simp [errW_none, errW_some] <;> rfl) | (simp [*, errW_none, errW_some] <;> rfl), by repeat (first | (with_reducible first | exact HB.out | apply below_alloc | apply pw_below_drewN | apply below_drew1 | refine below_set ?_ GE265.out | refine below_set ?_ GE266.out) | exact HB.out)⟩
 ·rw [if_neg c2] at H
  have c2b0 : ((a0.size : Int) == 64) = false := beq_eq_false_iff_ne.mpr c2
  have c2b1 : ((a0.size : Int) != 64) = true := bne_iff_ne.mpr c2
  simp only [Option.some.injEq, Prod.mk.injEq] at H
  obtain ⟨rfl, rfl⟩ := H
  go_enter Tryd.func23, Tryd.ntmps23
  go_wp2_with (first | ((with_reducible refine gate_dst (N := 2) rfl ?_); (try (refine gate_guard (by rfl) ?_; dsimp only)); refine qE (N := 2) (cs := (Ar.cells .u8 32 (List.replicate 32 0))) (t := 26) ?_; intro gb265 hg w24 hbox hb; have BK265 := Aside0.mk (hbox); have GW265 := Aside0.mk ((qe HB hg : w.heap.size ≤ gb265)); have GE265 := Aside0.mk ((qe HB hg : w.heap.size ≤ gb265)); replace HB := Aside0.mk (below_step (qs HB) hb); clear hb hbox hg) | ((with_reducible refine gate_dst (N := 4) rfl ?_); (try (refine gate_guard (by rfl) ?_; dsimp only)); refine qE (N := 4) (cs := (Ar.cells .u8 32 (List.replicate 32 0))) (t := 26) ?_; intro gb266 hg w25 hbox hb; have BK266 := Aside0.mk (hbox); have GW266 := Aside0.mk ((qe HB hg : w.heap.size ≤ gb266)); have GE266 := Aside0.mk ((qe HB hg : w.heap.size ≤ gb266)); replace HB := Aside0.mk (below_step (qs HB) hb); have NB265_266 := Aside0.mk ((qn BK265 hg : gb265 ≠ gb266)); have NB266_265 := Aside0.mk ((qm BK265 hg : gb266 ≠ gb265)); replace BK265 := Aside0.mk (qB BK265 hb); clear hb hbox hg) | ((with_reducible refine gate_dst (N := 11) rfl ?_); (try (refine gate_guard (by rfl) ?_; dsimp only)); refine Ar.load_event rfl (D := 11) rfl (T := 26) rfl Tryd.underlying26 (by kernel_rfl) (g := gb266) rfl (qb BK266) ?_) | ((with_reducible refine gate_store (t := 26) (p := 2) rfl ?_); (try (rw [drewN_self w25]; generalize hq_ : World.drewN w25 _ = w25; replace BK265 := Aside0.mk (blk_at hq_ BK265.out); replace BK266 := Aside0.mk (blk_at hq_ BK266.out); replace HB := Aside0.mk (below_at hq_ HB.out); clear hq_)); refine Ar.store_all_event rfl rfl rfl Tryd.underlying26 (by kernel_rfl) (g := gb265) rfl (z := (List.replicate 32 0)) qg (qb BK265) ?_; intro w26 hbk_ hg; replace BK266 := Aside0.mk (qG BK266 hg (fun e_ => NB266_265.out (Option.some.inj e_))); replace BK265 := Aside0.mk (hbk_); replace HB := Aside0.mk (Below.grown (qs HB) hg ((below_size (qs HB))) (fun _ e_ => by cases e_; exact GE265.out)); clear hbk_ hg))
  repeat (go_quiet (first | ((with_reducible refine gate_dst (N := 2) rfl ?_); (try (refine gate_guard (by rfl) ?_; dsimp only)); refine qE (N := 2) (cs := (Ar.cells .u8 32 (List.replicate 32 0))) (t := 26) ?_; intro gb265 hg w24 hbox hb; have BK265 := Aside0.mk (hbox); have GW265 := Aside0.mk ((qe HB hg : w.heap.size ≤ gb265)); have GE265 := Aside0.mk ((qe HB hg : w.heap.size ≤ gb265)); replace HB := Aside0.mk (below_step (qs HB) hb); clear hb hbox hg) | ((with_reducible refine gate_dst (N := 4) rfl ?_); (try (refine gate_guard (by rfl) ?_; dsimp only)); refine qE (N := 4) (cs := (Ar.cells .u8 32 (List.replicate 32 0))) (t := 26) ?_; intro gb266 hg w25 hbox hb; have BK266 := Aside0.mk (hbox); have GW266 := Aside0.mk ((qe HB hg : w.heap.size ≤ gb266)); have GE266 := Aside0.mk ((qe HB hg : w.heap.size ≤ gb266)); replace HB := Aside0.mk (below_step (qs HB) hb); have NB265_266 := Aside0.mk ((qn BK265 hg : gb265 ≠ gb266)); have NB266_265 := Aside0.mk ((qm BK265 hg : gb266 ≠ gb265)); replace BK265 := Aside0.mk (qB BK265 hb); clear hb hbox hg) | ((with_reducible refine gate_dst (N := 11) rfl ?_); (try (refine gate_guard (by rfl) ?_; dsimp only)); refine Ar.load_event rfl (D := 11) rfl (T := 26) rfl Tryd.underlying26 (by kernel_rfl) (g := gb266) rfl (qb BK266) ?_) | ((with_reducible refine gate_store (t := 26) (p := 2) rfl ?_); (try (rw [drewN_self w25]; generalize hq_ : World.drewN w25 _ = w25; replace BK265 := Aside0.mk (blk_at hq_ BK265.out); replace BK266 := Aside0.mk (blk_at hq_ BK266.out); replace HB := Aside0.mk (below_at hq_ HB.out); clear hq_)); refine Ar.store_all_event rfl rfl rfl Tryd.underlying26 (by kernel_rfl) (g := gb265) rfl (z := (List.replicate 32 0)) qg (qb BK265) ?_; intro w26 hbk_ hg; replace BK266 := Aside0.mk (qG BK266 hg (fun e_ => NB266_265.out (Option.some.inj e_))); replace BK265 := Aside0.mk (hbk_); replace HB := Aside0.mk (Below.grown (qs HB) hg ((below_size (qs HB))) (fun _ e_ => by cases e_; exact GE265.out)); clear hbk_ hg)); try go_wp2_with (first | ((with_reducible refine gate_dst (N := 2) rfl ?_); (try (refine gate_guard (by rfl) ?_; dsimp only)); refine qE (N := 2) (cs := (Ar.cells .u8 32 (List.replicate 32 0))) (t := 26) ?_; intro gb265 hg w24 hbox hb; have BK265 := Aside0.mk (hbox); have GW265 := Aside0.mk ((qe HB hg : w.heap.size ≤ gb265)); have GE265 := Aside0.mk ((qe HB hg : w.heap.size ≤ gb265)); replace HB := Aside0.mk (below_step (qs HB) hb); clear hb hbox hg) | ((with_reducible refine gate_dst (N := 4) rfl ?_); (try (refine gate_guard (by rfl) ?_; dsimp only)); refine qE (N := 4) (cs := (Ar.cells .u8 32 (List.replicate 32 0))) (t := 26) ?_; intro gb266 hg w25 hbox hb; have BK266 := Aside0.mk (hbox); have GW266 := Aside0.mk ((qe HB hg : w.heap.size ≤ gb266)); have GE266 := Aside0.mk ((qe HB hg : w.heap.size ≤ gb266)); replace HB := Aside0.mk (below_step (qs HB) hb); have NB265_266 := Aside0.mk ((qn BK265 hg : gb265 ≠ gb266)); have NB266_265 := Aside0.mk ((qm BK265 hg : gb266 ≠ gb265)); replace BK265 := Aside0.mk (qB BK265 hb); clear hb hbox hg) | ((with_reducible refine gate_dst (N := 11) rfl ?_); (try (refine gate_guard (by rfl) ?_; dsimp only)); refine Ar.load_event rfl (D := 11) rfl (T := 26) rfl Tryd.underlying26 (by kernel_rfl) (g := gb266) rfl (qb BK266) ?_) | ((with_reducible refine gate_store (t := 26) (p := 2) rfl ?_); (try (rw [drewN_self w25]; generalize hq_ : World.drewN w25 _ = w25; replace BK265 := Aside0.mk (blk_at hq_ BK265.out); replace BK266 := Aside0.mk (blk_at hq_ BK266.out); replace HB := Aside0.mk (below_at hq_ HB.out); clear hq_)); refine Ar.store_all_event rfl rfl rfl Tryd.underlying26 (by kernel_rfl) (g := gb265) rfl (z := (List.replicate 32 0)) qg (qb BK265) ?_; intro w26 hbk_ hg; replace BK266 := Aside0.mk (qG BK266 hg (fun e_ => NB266_265.out (Option.some.inj e_))); replace BK265 := Aside0.mk (hbk_); replace HB := Aside0.mk (Below.grown (qs HB) hg ((below_size (qs HB))) (fun _ e_ => by cases e_; exact GE265.out)); clear hbk_ hg)))
  refine bodyPost_ret (results_ct rfl _ _ gb265 26 (Ar.cells .u8 32 (List.replicate 32 0)) (0, 0) _ rfl (qb BK265) Tryd.underlying26 rfl qZ) rfl ?_
  exact ⟨by first | rfl | (simp [errW_none, errW_some] <;> rfl) | (simp [*, errW_none, errW_some] <;> rfl), by repeat (first | (with_reducible first | exact HB.out | apply below_alloc | apply pw_below_drewN | apply below_drew1 | refine below_set ?_ GE265.out | refine below_set ?_ GE266.out) | exact HB.out)⟩
theorem drawlotref05_Text_u8 (x : Int) : IntKind.u8.wrap x = x % 256 := by simp [IntKind.wrap, IntKind.bits, IntKind.signed]
attribute [local go_sem] drawlotref05_Text_u8
def drawlotref05_Text.l0 : Nat → ByteArray → Int → List Int → Option (ByteArray)
 | 0, _, _, _ => none
 | k + 1, x3, x4, x271000 => if x4 < 32 then (if 0 ≤ x4 then (if 0 ≤ ((Int.tdiv (Ar.get 32 x271000 x4) 16) % 256) then (if ((Int.tdiv (Ar.get 32 x271000 x4) 16) % 256) ≤ ((((Int.tdiv (Ar.get 32 x271000 x4) 16) % 256) + 1) % 256) then (if ((((Int.tdiv (Ar.get 32 x271000 x4) 16) % 256) + 1) % 256) ≤ 16 then (if x3.size + ((⟨#[48, 49, 50, 51, 52, 53, 54, 55, 56, 57, 97, 98, 99, 100, 101, 102]⟩ : ByteArray).extract (((Int.tdiv (Ar.get 32 x271000 x4) 16) % 256) : Int).toNat (((((Int.tdiv (Ar.get 32 x271000 x4) 16) % 256) + 1) % 256) : Int).toNat).size ≤ 9223372036854775807 then (if 0 ≤ (Int.tmod (Ar.get 32 x271000 x4) 16) then (if (Int.tmod (Ar.get 32 x271000 x4) 16) ≤ (((Int.tmod (Ar.get 32 x271000 x4) 16) + 1) % 256) then (if (((Int.tmod (Ar.get 32 x271000 x4) 16) + 1) % 256) ≤ 16 then (if (x3 ++ ((⟨#[48, 49, 50, 51, 52, 53, 54, 55, 56, 57, 97, 98, 99, 100, 101, 102]⟩ : ByteArray).extract (((Int.tdiv (Ar.get 32 x271000 x4) 16) % 256) : Int).toNat (((((Int.tdiv (Ar.get 32 x271000 x4) 16) % 256) + 1) % 256) : Int).toNat)).size + ((⟨#[48, 49, 50, 51, 52, 53, 54, 55, 56, 57, 97, 98, 99, 100, 101, 102]⟩ : ByteArray).extract ((Int.tmod (Ar.get 32 x271000 x4) 16) : Int).toNat ((((Int.tmod (Ar.get 32 x271000 x4) 16) + 1) % 256) : Int).toNat).size ≤ 9223372036854775807 then (drawlotref05_Text.l0 k ((x3 ++ ((⟨#[48, 49, 50, 51, 52, 53, 54, 55, 56, 57, 97, 98, 99, 100, 101, 102]⟩ : ByteArray).extract (((Int.tdiv (Ar.get 32 x271000 x4) 16) % 256) : Int).toNat (((((Int.tdiv (Ar.get 32 x271000 x4) 16) % 256) + 1) % 256) : Int).toNat)) ++ ((⟨#[48, 49, 50, 51, 52, 53, 54, 55, 56, 57, 97, 98, 99, 100, 101, 102]⟩ : ByteArray).extract ((Int.tmod (Ar.get 32 x271000 x4) 16) : Int).toNat ((((Int.tmod (Ar.get 32 x271000 x4) 16) + 1) % 256) : Int).toNat)) (wrap64 (x4 + 1)) x271000) else (none)) else (none)) else (none)) else (none)) else (none)) else (none)) else (none)) else (none)) else (none)) else (some x3)
def drawlotref05_Text.f (k : Nat) (a0 : List Int) : Option (ByteArray) := drawlotref05_Text.l0 k (⟨#[]⟩ : ByteArray) 0 a0
theorem drawlotref05_Text.mono_l : ∀ k, (∀ y0 y1 y2, LeO (drawlotref05_Text.l0 k y0 y1 y2) (drawlotref05_Text.l0 (k + 1) y0 y1 y2))
 | 0 => fun _ _ _ r h => by simp [drawlotref05_Text.l0] at h
 | k + 1 => by
  have ih0 := drawlotref05_Text.mono_l k
  ·intro y0 y1 y2
   unfold drawlotref05_Text.l0
   repeat' first
   | (with_reducible exact ih0 _ _ _)
   | (with_reducible exact LeO.refl _)
   | (with_reducible exact LeO.none _)
   | (with_reducible refine LeO.ite ?_ ?_)
   | (with_reducible refine LeO.bind ?_ (fun _ => ?_))
   | exact ih0 _ _ _
   | exact LeO.none _
   | refine LeO.ite ?_ ?_
   | refine LeO.bind ?_ (fun _ => ?_)
theorem drawlotref05_Text.mono : ∀ a0 k, LeO (drawlotref05_Text.f k a0) (drawlotref05_Text.f (k + 1) a0) := by
 intro a0 k
 have ih0 := drawlotref05_Text.mono_l k
 unfold drawlotref05_Text.f
 repeat' first
   | (with_reducible exact ih0 _ _ _)
   | (with_reducible exact LeO.refl _)
   | (with_reducible exact LeO.none _)
   | (with_reducible refine LeO.ite ?_ ?_)
   | (with_reducible refine LeO.bind ?_ (fun _ => ?_))
   | exact ih0 _ _ _
   | exact LeO.none _
   | refine LeO.ite ?_ ?_
   | refine LeO.bind ?_ (fun _ => ?_)
def drawlotref05_Text.T5 : Bool × List (List Nat × List Nat) := (true, [([], []), ([0], [0]), ([1], [1]), ([2], [2]), ([], []), ([4], [4]), ([5], [5]), ([6], [6]), ([3, 0, 1, 2, 3], [3]), ([7, 8, 0, 1, 2, 3, 4, 5, 6, 7, 8], [7])])
def drawlotref05_Text.B5 : List Nat := [0, 1, 3, 7, 0, 16, 48, 112, 15, 511]
theorem drawlotref05_Text.tab5 : rtab .any (opsOf Tryd.f25 5) = drawlotref05_Text.T5 := by kernel_rfl
theorem drawlotref05_Text.bits5 : waitsOk drawlotref05_Text.T5.2 drawlotref05_Text.B5 = true := by kernel_rfl
def drawlotref05_Text.T6 : Bool × List (List Nat × List Nat) := (true, [([], []), ([], []), ([], []), ([2], [2]), ([1, 3], [1, 3]), ([0, 4], [0, 4]), ([], []), ([], []), ([7], [7]), ([6, 8], [6, 8]), ([5, 9], [5, 9]), ([10, 0, 1, 2, 3, 4, 5, 6, 7, 8, 9, 10], [0, 10])])
def drawlotref05_Text.B6 : List Nat := [0, 0, 0, 4, 14, 31, 0, 0, 128, 448, 1023, 2047]
theorem drawlotref05_Text.tab6 : rtab .any (opsOf Tryd.f25 6) = drawlotref05_Text.T6 := by kernel_rfl
theorem drawlotref05_Text.bits6 : waitsOk drawlotref05_Text.T6.2 drawlotref05_Text.B6 = true := by kernel_rfl
set_option maxHeartbeats 8000000 in
set_option maxRecDepth 100000 in
theorem drawlotref05_Text.calls (k : Nat) (a0 : List Int) (r : ByteArray) (w : World) (h : drawlotref05_Text.f k a0 = some r) :
  Calls Tryd.prog 25 #[.agg (Ar.cells .u8 32 a0)] w fun e w' => e = .returned (.string r) ∧ Below w.heap.size w w' := by
 have HB := Aside0.mk (Below.refl w.heap.size w)
 have H : (drawlotref05_Text.l0 k (⟨#[]⟩ : ByteArray) 0 a0) = some r := h
 clear h
 have H' := Aside0.mk H
 clear H
 go_enter Tryd.func25, Tryd.ntmps25
 go_wp2_with (first | ((with_reducible refine gate_dst (N := 1) rfl ?_); (try (refine gate_guard (by rfl) ?_; dsimp only)); refine qE (N := 1) (cs := (Ar.cells .u8 32 a0)) (t := 26) ?_; intro gb270 hg w2 hbox hb; have BK270 := Aside0.mk (hbox); have GW270 := Aside0.mk ((qe HB hg : w.heap.size ≤ gb270)); have GE270 := Aside0.mk ((qe HB hg : w.heap.size ≤ gb270)); replace HB := Aside0.mk (below_step (qs HB) hb); clear hb hbox hg))
 go_loopg [3, 4] k (fun kq v3 v4 w' => ∃ (x3_1 : ByteArray) (x4_1 : Int), v3 = .string x3_1 ∧ v4 = .int .i64 x4_1 ∧ Aside0 (drawlotref05_Text.l0 kq x3_1 x4_1 a0 = some r) ∧ Aside0 (kq ≤ k) ∧ Aside0 (w'.heap[gb270]? = some (.cells (Ar.cells .u8 32 a0) 26 (0, 0))) ∧ Aside0 (Below w.heap.size w w'))
 case atStart => exact ⟨((⟨#[]⟩ : ByteArray)), (0), (by first | rfl | (simp; done) | (simp [*]; done)), (by first | rfl | (simp; done) | (simp [*]; done)), H', ⟨Nat.le_refl _⟩, ⟨by (with_reducible repeat (first | refine blk_drewN ?_ _ | refine blk_drew ?_ | refine blk_alloc ?_ _)); exact BK270.out⟩, ⟨by repeat (first | (with_reducible first | exact HB.out | apply below_alloc | apply pw_below_drewN | apply below_drew1 | refine below_set ?_ GE270.out) | exact HB.out)⟩⟩
 case round =>
  clear H'
  try clear c2
  try clear p2
  obtain ⟨x3_1, x4_1, rfl, rfl, HA, HK1, BK270, HB⟩ := hrel
  cases gk with
  | zero => exact absurd HA.out (by simp [drawlotref05_Text.l0])
  | succ k1 =>
   have H := HA.out
   clear HA
   simp only [drawlotref05_Text.l0] at H
   by_cases c3 : x4_1 < 32
   ·rw [if_pos c3] at H
    have c3b0 : decide (x4_1 < 32) = true := decide_eq_true c3
    clear c3
    by_cases c4 : 0 ≤ x4_1
    ·rw [if_pos c4] at H
     have c4b0 : decide (0 ≤ x4_1) = true := decide_eq_true c4
     clear c4
     obtain ⟨ji5, hji5⟩ : ∃ j_ : Int, ((Int.tdiv (Ar.get 32 a0 x4_1) 16) % 256) = j_ := ⟨_, rfl⟩
     replace H : (if 0 ≤ (ji5) then (if (ji5) ≤ (((ji5) + 1) % 256) then (if (((ji5) + 1) % 256) ≤ 16 then (if x3_1.size + ((⟨#[48, 49, 50, 51, 52, 53, 54, 55, 56, 57, 97, 98, 99, 100, 101, 102]⟩ : ByteArray).extract ((ji5) : Int).toNat ((((ji5) + 1) % 256) : Int).toNat).size ≤ 9223372036854775807 then (if 0 ≤ (Int.tmod (Ar.get 32 a0 x4_1) 16) then (if (Int.tmod (Ar.get 32 a0 x4_1) 16) ≤ (((Int.tmod (Ar.get 32 a0 x4_1) 16) + 1) % 256) then (if (((Int.tmod (Ar.get 32 a0 x4_1) 16) + 1) % 256) ≤ 16 then (if (x3_1 ++ ((⟨#[48, 49, 50, 51, 52, 53, 54, 55, 56, 57, 97, 98, 99, 100, 101, 102]⟩ : ByteArray).extract ((ji5) : Int).toNat ((((ji5) + 1) % 256) : Int).toNat)).size + ((⟨#[48, 49, 50, 51, 52, 53, 54, 55, 56, 57, 97, 98, 99, 100, 101, 102]⟩ : ByteArray).extract ((Int.tmod (Ar.get 32 a0 x4_1) 16) : Int).toNat ((((Int.tmod (Ar.get 32 a0 x4_1) 16) + 1) % 256) : Int).toNat).size ≤ 9223372036854775807 then (drawlotref05_Text.l0 k1 ((x3_1 ++ ((⟨#[48, 49, 50, 51, 52, 53, 54, 55, 56, 57, 97, 98, 99, 100, 101, 102]⟩ : ByteArray).extract ((ji5) : Int).toNat ((((ji5) + 1) % 256) : Int).toNat)) ++ ((⟨#[48, 49, 50, 51, 52, 53, 54, 55, 56, 57, 97, 98, 99, 100, 101, 102]⟩ : ByteArray).extract ((Int.tmod (Ar.get 32 a0 x4_1) 16) : Int).toNat ((((Int.tmod (Ar.get 32 a0 x4_1) 16) + 1) % 256) : Int).toNat)) (wrap64 (x4_1 + 1)) a0) else (none)) else (none)) else (none)) else (none)) else (none)) else (none)) else (none)) else (none)) = some r := by first | (rw [hji5] at H; exact H) | (simp only [hji5] at H ⊢; exact H)
     by_cases c6 : 0 ≤ (ji5)
     ·rw [if_pos c6] at H
      have c6b0 := eq_true c6
      have c6b1 : decide (0 ≤ (ji5)) = true := decide_eq_true c6
      clear c6
      by_cases c7 : (ji5) ≤ (((ji5) + 1) % 256)
      ·rw [if_pos c7] at H
       have c7b0 := eq_true c7
       have c7b1 : decide ((ji5) ≤ (((ji5) + 1) % 256)) = true := decide_eq_true c7
       by_cases c8 : (((ji5) + 1) % 256) ≤ 16
       ·rw [if_pos c8] at H
        have c8b0 := eq_true c8
        have c8b1 : decide ((((ji5) + 1) % 256) ≤ 16) = true := decide_eq_true c8
        by_cases c9 : x3_1.size + ((⟨#[48, 49, 50, 51, 52, 53, 54, 55, 56, 57, 97, 98, 99, 100, 101, 102]⟩ : ByteArray).extract ((ji5) : Int).toNat ((((ji5) + 1) % 256) : Int).toNat).size ≤ 9223372036854775807
        ·rw [if_pos c9] at H
         have c9b0 := eq_true c9
         have c9b1 : decide (x3_1.size + ((⟨#[48, 49, 50, 51, 52, 53, 54, 55, 56, 57, 97, 98, 99, 100, 101, 102]⟩ : ByteArray).extract ((ji5) : Int).toNat ((((ji5) + 1) % 256) : Int).toNat).size ≤ 9223372036854775807) = true := decide_eq_true c9
         try have c9b2 : (9223372036854775807 < x3_1.size + ((⟨#[48, 49, 50, 51, 52, 53, 54, 55, 56, 57, 97, 98, 99, 100, 101, 102]⟩ : ByteArray).extract ((ji5) : Int).toNat ((((ji5) + 1) % 256) : Int).toNat).size) = False := eq_false (Nat.not_lt.2 c9)
         have c9t : (9223372036854775807 < x3_1.size + (((ji5 + 1) % 256).toNat - ji5.toNat)) = False := eq_false (by have h_ := c9; simp only [ByteArray.size_append, ByteArray.size_extract] at h_; have e_ : (⟨#[48, 49, 50, 51, 52, 53, 54, 55, 56, 57, 97, 98, 99, 100, 101, 102]⟩ : ByteArray).size = 16 := rfl; omega)
         obtain ⟨ji10, hji10⟩ : ∃ j_ : Int, (Int.tmod (Ar.get 32 a0 x4_1) 16) = j_ := ⟨_, rfl⟩
         replace H : (if 0 ≤ (ji10) then (if (ji10) ≤ (((ji10) + 1) % 256) then (if (((ji10) + 1) % 256) ≤ 16 then (if (x3_1 ++ ((⟨#[48, 49, 50, 51, 52, 53, 54, 55, 56, 57, 97, 98, 99, 100, 101, 102]⟩ : ByteArray).extract ((ji5) : Int).toNat ((((ji5) + 1) % 256) : Int).toNat)).size + ((⟨#[48, 49, 50, 51, 52, 53, 54, 55, 56, 57, 97, 98, 99, 100, 101, 102]⟩ : ByteArray).extract ((ji10) : Int).toNat ((((ji10) + 1) % 256) : Int).toNat).size ≤ 9223372036854775807 then (drawlotref05_Text.l0 k1 ((x3_1 ++ ((⟨#[48, 49, 50, 51, 52, 53, 54, 55, 56, 57, 97, 98, 99, 100, 101, 102]⟩ : ByteArray).extract ((ji5) : Int).toNat ((((ji5) + 1) % 256) : Int).toNat)) ++ ((⟨#[48, 49, 50, 51, 52, 53, 54, 55, 56, 57, 97, 98, 99, 100, 101, 102]⟩ : ByteArray).extract ((ji10) : Int).toNat ((((ji10) + 1) % 256) : Int).toNat)) (wrap64 (x4_1 + 1)) a0) else (none)) else (none)) else (none)) else (none)) = some r := by first | (rw [hji10] at H; exact H) | (simp only [hji10] at H ⊢; exact H)
         by_cases c11 : 0 ≤ (ji10)
         ·rw [if_pos c11] at H
          have c11b0 := eq_true c11
          have c11b1 : decide (0 ≤ (ji10)) = true := decide_eq_true c11
          clear c11
          by_cases c12 : (ji10) ≤ (((ji10) + 1) % 256)
          ·rw [if_pos c12] at H
           have c12b0 := eq_true c12
           have c12b1 : decide ((ji10) ≤ (((ji10) + 1) % 256)) = true := decide_eq_true c12
           by_cases c13 : (((ji10) + 1) % 256) ≤ 16
           ·rw [if_pos c13] at H
            have c13b0 := eq_true c13
            have c13b1 : decide ((((ji10) + 1) % 256) ≤ 16) = true := decide_eq_true c13
            by_cases c14 : (x3_1 ++ ((⟨#[48, 49, 50, 51, 52, 53, 54, 55, 56, 57, 97, 98, 99, 100, 101, 102]⟩ : ByteArray).extract ((ji5) : Int).toNat ((((ji5) + 1) % 256) : Int).toNat)).size + ((⟨#[48, 49, 50, 51, 52, 53, 54, 55, 56, 57, 97, 98, 99, 100, 101, 102]⟩ : ByteArray).extract ((ji10) : Int).toNat ((((ji10) + 1) % 256) : Int).toNat).size ≤ 9223372036854775807
            ·rw [if_pos c14] at H
             have c14b0 := eq_true c14
             have c14b1 : decide ((x3_1 ++ ((⟨#[48, 49, 50, 51, 52, 53, 54, 55, 56, 57, 97, 98, 99, 100, 101, 102]⟩ : ByteArray).extract ((ji5) : Int).toNat ((((ji5) + 1) % 256) : Int).toNat)).size + ((⟨#[48, 49, 50, 51, 52, 53, 54, 55, 56, 57, 97, 98, 99, 100, 101, 102]⟩ : ByteArray).extract ((ji10) : Int).toNat ((((ji10) + 1) % 256) : Int).toNat).size ≤ 9223372036854775807) = true := decide_eq_true c14
             try have c14b2 : (9223372036854775807 < (x3_1 ++ ((⟨#[48, 49, 50, 51, 52, 53, 54, 55, 56, 57, 97, 98, 99, 100, 101, 102]⟩ : ByteArray).extract ((ji5) : Int).toNat ((((ji5) + 1) % 256) : Int).toNat)).size + ((⟨#[48, 49, 50, 51, 52, 53, 54, 55, 56, 57, 97, 98, 99, 100, 101, 102]⟩ : ByteArray).extract ((ji10) : Int).toNat ((((ji10) + 1) % 256) : Int).toNat).size) = False := eq_false (Nat.not_lt.2 c14)
             have c14t : (9223372036854775807 < x3_1.size + (((ji5 + 1) % 256).toNat - ji5.toNat) + (((ji10 + 1) % 256).toNat - ji10.toNat)) = False := eq_false (by have h_ := c14; simp only [ByteArray.size_append, ByteArray.size_extract] at h_; have e_ : (⟨#[48, 49, 50, 51, 52, 53, 54, 55, 56, 57, 97, 98, 99, 100, 101, 102]⟩ : ByteArray).size = 16 := rfl; omega)
             have H' := Aside0.mk H
             clear H
             try go_wp2
             replace BK270 := Aside0.mk (blk_drew BK270.out)
             replace HB := Aside0.mk (below_drew1 HB.out)
             have p16 : (0 ≤ (x4_1 : Int)) = True := eq_true qo
             have q16 : ((x4_1 : Int) < 32) = True := eq_true qo
             have p17 : (0 ≤ (x4_1 : Int)) = True := eq_true qo
             have q17 : ((x4_1 : Int) < 32) = True := eq_true qo
             refine start_ (n := 10) (S := fun w' => w'.cell? ⟨gb270, (x4_1 : Int).toNat, none⟩ = some (.int .u8 (Ar.get 32 a0 x4_1))) (ds := []) #[false, false, false, false, false, false, false, false, false, false] (by kernel_rfl) rfl rfl ((Ar.cell_run (j := x4_1) BK270.out qo qo)) (fun hHeld => ?_); refine with_tabW drawlotref05_Text.tab5 drawlotref05_Text.bits5 (fun HT_ HW_ => ?_)
             generalize wr.drew = w15 at BK270 HB hHeld ⊢
             refine pure_ (i := 0) (N := some 11) (v := ?_) (a' := ?_) #[true, false, false, false, false, false, false, false, false, false] rfl rfl (any_of HT_.out (by kernel_rfl)) (fun _ _ _ h => h) (Or.inl ⟨by rfl, ?_⟩) ?_ ?_
             rotate_left
             ·intro w'
              go_simp
              with_reducible rfl
             rotate_left
             ·simp only [Act.put, List.setIfInBounds_toArray, List.set_cons_zero, List.set_cons_succ, i64_w, i32_w]
              rfl
             refine pure_ (i := 1) (N := some 12) (v := ?_) (a' := ?_) #[true, true, false, false, false, false, false, false, false, false] rfl rfl (any_of HT_.out (by kernel_rfl)) (fun _ _ _ h => h) (Or.inl ⟨by rfl, ?_⟩) ?_ ?_
             rotate_left
             ·intro w'
              go_simp
              with_reducible rfl
             rotate_left
             ·simp only [Act.put, List.setIfInBounds_toArray, List.set_cons_zero, List.set_cons_succ, i64_w, i32_w]
              rfl
             refine pure_ (i := 4) (N := some 15) (v := ?_) (a' := ?_) #[true, true, false, false, true, false, false, false, false, false] rfl rfl (any_of HT_.out (by kernel_rfl)) (fun _ _ _ h => h) (Or.inl ⟨by rfl, ?_⟩) ?_ ?_
             rotate_left
             ·intro w'
              go_simp
              with_reducible rfl
             rotate_left
             ·simp only [Act.put, List.setIfInBounds_toArray, List.set_cons_zero, List.set_cons_succ, i64_w, i32_w]
              rfl
             refine pure_ (i := 5) (N := some 16) (v := ?_) (a' := ?_) #[true, true, false, false, true, true, false, false, false, false] rfl rfl (any_of HT_.out (by kernel_rfl)) (fun _ _ _ h => h) (Or.inl ⟨by rfl, ?_⟩) ?_ ?_
             rotate_left
             ·intro w'
              go_simp
              with_reducible rfl
             rotate_left
             ·simp only [Act.put, List.setIfInBounds_toArray, List.set_cons_zero, List.set_cons_succ, i64_w, i32_w]
              rfl
             refine take_ (i := 2) (N := some 13) (v := ?_) (a' := ?_) #[true, true, true, false, true, true, false, false, false, false] rfl rfl (take_ofW HT_.out HW_.out (by kernel_rfl)) (fun _ _ _ h => h) (Or.inl ⟨by rfl, ?_⟩) hHeld ?_ ?_
             rotate_left
             ·intro w' s0
              go_simp
              with_reducible rfl
             rotate_left
             ·simp only [Act.put, List.setIfInBounds_toArray, List.set_cons_zero, List.set_cons_succ, i64_w, i32_w]
              rfl
             refine pure_ (i := 3) (N := some 14) (v := ?_) (a' := ?_) #[true, true, true, true, true, true, false, false, false, false] rfl rfl (any_of HT_.out (by kernel_rfl)) (fun _ _ _ h => h) (Or.inl ⟨by rfl, ?_⟩) ?_ ?_
             rotate_left
             ·intro w'
              go_simp
              with_reducible rfl
             rotate_left
             ·simp only [Act.put, List.setIfInBounds_toArray, List.set_cons_zero, List.set_cons_succ, i64_w, i32_w]
              rfl
             refine pure_ (i := 8) (N := some 5) (v := ?_) (a' := ?_) #[true, true, true, true, true, true, false, false, true, false] rfl rfl (any_of HT_.out (by kernel_rfl)) (fun _ _ _ h => h) (Or.inl ⟨by rfl, ?_⟩) ?_ ?_
             rotate_left
             ·intro w'
              go_simp
              with_reducible rfl
             rotate_left
             ·simp only [Act.put, List.setIfInBounds_toArray, List.set_cons_zero, List.set_cons_succ, i64_w, i32_w]
              rfl
             refine take_ (i := 6) (N := some 17) (v := ?_) (a' := ?_) #[true, true, true, true, true, true, true, false, true, false] rfl rfl (take_ofW HT_.out HW_.out (by kernel_rfl)) (fun _ _ _ h => h) (Or.inl ⟨by rfl, ?_⟩) hHeld ?_ ?_
             rotate_left
             ·intro w' s0
              go_simp
              with_reducible rfl
             rotate_left
             ·simp only [Act.put, List.setIfInBounds_toArray, List.set_cons_zero, List.set_cons_succ, i64_w, i32_w]
              rfl
             refine pure_ (i := 7) (N := some 18) (v := ?_) (a' := ?_) #[true, true, true, true, true, true, true, true, true, false] rfl rfl (any_of HT_.out (by kernel_rfl)) (fun _ _ _ h => h) (Or.inl ⟨by rfl, ?_⟩) ?_ ?_
             rotate_left
             ·intro w'
              go_simp
              with_reducible rfl
             rotate_left
             ·simp only [Act.put, List.setIfInBounds_toArray, List.set_cons_zero, List.set_cons_succ, i64_w, i32_w]
              rfl
             refine pure_ (i := 9) (N := some 6) (v := ?_) (a' := ?_) #[true, true, true, true, true, true, true, true, true, true] rfl rfl (any_of HT_.out (by kernel_rfl)) (fun _ _ _ h => h) (Or.inl ⟨by rfl, ?_⟩) ?_ ?_
             rotate_left
             ·intro w'
              go_simp
              with_reducible rfl
             rotate_left
             ·simp only [Act.put, List.setIfInBounds_toArray, List.set_cons_zero, List.set_cons_succ, i64_w, i32_w]
              rfl
             refine done_ (done_of HT_.out (by kernel_rfl)) ?_
             try go_wp2
             replace BK270 := Aside0.mk (blk_drew BK270.out)
             replace HB := Aside0.mk (below_drew1 HB.out)
             refine start_ (n := 12) (S := fun w' => True) (ds := []) #[false, false, false, false, false, false, false, false, false, false, false, false] (by kernel_rfl) rfl rfl trivial (fun hHeld => ?_); refine with_tabW drawlotref05_Text.tab6 drawlotref05_Text.bits6 (fun HT_ HW_ => ?_)
             generalize w15.drew = w18 at BK270 HB hHeld ⊢
             refine pure_ (i := 0) (N := some 19) (v := ?_) (a' := ?_) #[true, false, false, false, false, false, false, false, false, false, false, false] rfl rfl (any_of HT_.out (by kernel_rfl)) (fun _ _ _ h => h) (Or.inl ⟨by rfl, ?_⟩) ?_ ?_
             rotate_left
             ·intro w'
              go_simp
              with_reducible rfl
             rotate_left
             ·simp only [Act.put, List.setIfInBounds_toArray, List.set_cons_zero, List.set_cons_succ, i64_w, i32_w]
              rfl
             refine pure_ (i := 1) (N := some 20) (v := ?_) (a' := ?_) #[true, true, false, false, false, false, false, false, false, false, false, false] rfl rfl (any_of HT_.out (by kernel_rfl)) (fun _ _ _ h => h) (Or.inl ⟨by rfl, ?_⟩) ?_ ?_
             rotate_left
             ·intro w'
              go_simp
              with_reducible rfl
             rotate_left
             ·simp only [Act.put, List.setIfInBounds_toArray, List.set_cons_zero, List.set_cons_succ, i64_w, i32_w]
              rfl
             refine pure_ (i := 2) (N := some 21) (v := ?_) (a' := ?_) #[true, true, true, false, false, false, false, false, false, false, false, false] rfl rfl (any_of HT_.out (by kernel_rfl)) (fun _ _ _ h => h) (Or.inl ⟨by rfl, ?_⟩) ?_ ?_
             rotate_left
             ·intro w'
              go_simp
              with_reducible rfl
             rotate_left
             ·simp only [Act.put, List.setIfInBounds_toArray, List.set_cons_zero, List.set_cons_succ, i64_w, i32_w]
              rfl
             refine pure_ (i := 3) (N := some 22) (v := ?_) (a' := ?_) #[true, true, true, true, false, false, false, false, false, false, false, false] rfl rfl (any_of HT_.out (by kernel_rfl)) (fun _ _ _ h => h) (Or.inl ⟨by rfl, ?_⟩) ?_ ?_
             rotate_left
             ·intro w'
              go_simp
              with_reducible rfl
             rotate_left
             ·simp only [Act.put, List.setIfInBounds_toArray, List.set_cons_zero, List.set_cons_succ, i64_w, i32_w]
              rfl
             refine pure_ (i := 4) (N := some 23) (v := ?_) (a' := ?_) #[true, true, true, true, true, false, false, false, false, false, false, false] rfl rfl (any_of HT_.out (by kernel_rfl)) (fun _ _ _ h => h) (Or.inl ⟨by rfl, ?_⟩) ?_ ?_
             rotate_left
             ·intro w'
              go_simp
              with_reducible rfl
             rotate_left
             ·simp only [Act.put, List.setIfInBounds_toArray, List.set_cons_zero, List.set_cons_succ, i64_w, i32_w]
              rfl
             refine pure_ (i := 5) (N := some 24) (v := ?_) (a' := ?_) #[true, true, true, true, true, true, false, false, false, false, false, false] rfl rfl (any_of HT_.out (by kernel_rfl)) (fun _ _ _ h => h) (Or.inl ⟨by rfl, ?_⟩) ?_ ?_
             rotate_left
             ·intro w'
              go_simp
              with_reducible rfl
             rotate_left
             ·simp only [Act.put, List.setIfInBounds_toArray, List.set_cons_zero, List.set_cons_succ, i64_w, i32_w]
              rfl
             refine pure_ (i := 6) (N := some 25) (v := ?_) (a' := ?_) #[true, true, true, true, true, true, true, false, false, false, false, false] rfl rfl (any_of HT_.out (by kernel_rfl)) (fun _ _ _ h => h) (Or.inl ⟨by rfl, ?_⟩) ?_ ?_
             rotate_left
             ·intro w'
              go_simp
              with_reducible rfl
             rotate_left
             ·simp only [Act.put, List.setIfInBounds_toArray, List.set_cons_zero, List.set_cons_succ, i64_w, i32_w]
              rfl
             refine pure_ (i := 7) (N := some 26) (v := ?_) (a' := ?_) #[true, true, true, true, true, true, true, true, false, false, false, false] rfl rfl (any_of HT_.out (by kernel_rfl)) (fun _ _ _ h => h) (Or.inl ⟨by rfl, ?_⟩) ?_ ?_
             rotate_left
             ·intro w'
              go_simp
              with_reducible rfl
             rotate_left
             ·simp only [Act.put, List.setIfInBounds_toArray, List.set_cons_zero, List.set_cons_succ, i64_w, i32_w]
              rfl
             refine pure_ (i := 8) (N := some 27) (v := ?_) (a' := ?_) #[true, true, true, true, true, true, true, true, true, false, false, false] rfl rfl (any_of HT_.out (by kernel_rfl)) (fun _ _ _ h => h) (Or.inl ⟨by rfl, ?_⟩) ?_ ?_
             rotate_left
             ·intro w'
              go_simp
              with_reducible rfl
             rotate_left
             ·simp only [Act.put, List.setIfInBounds_toArray, List.set_cons_zero, List.set_cons_succ, i64_w, i32_w]
              rfl
             refine pure_ (i := 9) (N := some 28) (v := ?_) (a' := ?_) #[true, true, true, true, true, true, true, true, true, true, false, false] rfl rfl (any_of HT_.out (by kernel_rfl)) (fun _ _ _ h => h) (Or.inl ⟨by rfl, ?_⟩) ?_ ?_
             rotate_left
             ·intro w'
              go_simp
              with_reducible rfl
             rotate_left
             ·simp only [Act.put, List.setIfInBounds_toArray, List.set_cons_zero, List.set_cons_succ, i64_w, i32_w]
              rfl
             refine pure_ (i := 10) (N := some 29) (v := ?_) (a' := ?_) #[true, true, true, true, true, true, true, true, true, true, true, false] rfl rfl (any_of HT_.out (by kernel_rfl)) (fun _ _ _ h => h) (Or.inl ⟨by rfl, ?_⟩) ?_ ?_
             rotate_left
             ·intro w'
              go_simp
              with_reducible rfl
             rotate_left
             ·simp only [Act.put, List.setIfInBounds_toArray, List.set_cons_zero, List.set_cons_succ, i64_w, i32_w]
              rfl
             refine pure_ (i := 11) (N := some 3) (v := ?_) (a' := ?_) #[true, true, true, true, true, true, true, true, true, true, true, true] rfl rfl (any_of HT_.out (by kernel_rfl)) (fun _ _ _ h => h) (Or.inl ⟨by rfl, ?_⟩) ?_ ?_
             rotate_left
             ·intro w'
              go_simp
              with_reducible rfl
             rotate_left
             ·simp only [Act.put, List.setIfInBounds_toArray, List.set_cons_zero, List.set_cons_succ, i64_w, i32_w]
              rfl
             refine done_ (done_of HT_.out (by kernel_rfl)) ?_
             try go_wp2
             go_roundg k1
             case measure => have := HK1.out; omega
             case rel => exact ⟨((x3_1 ++ ((⟨#[48, 49, 50, 51, 52, 53, 54, 55, 56, 57, 97, 98, 99, 100, 101, 102]⟩ : ByteArray).extract ((ji5) : Int).toNat ((((ji5) + 1) % 256) : Int).toNat)) ++ ((⟨#[48, 49, 50, 51, 52, 53, 54, 55, 56, 57, 97, 98, 99, 100, 101, 102]⟩ : ByteArray).extract ((ji10) : Int).toNat ((((ji10) + 1) % 256) : Int).toNat)), (wrap64 (x4_1 + 1)), (by first | rfl | (simp; done) | (simp only [← hji5, ← hji10] <;> (first | rfl | simp)) | (simp [*]; done)), (by first | rfl | (simp; done) | (simp [*]; done)), H', ⟨by have := HK1.out; omega⟩, ⟨by (with_reducible repeat (first | refine blk_drewN ?_ _ | refine blk_drew ?_ | refine blk_alloc ?_ _)); exact BK270.out⟩, ⟨by repeat (first | (with_reducible first | exact HB.out | apply below_alloc | apply pw_below_drewN | apply below_drew1 | refine below_set ?_ GE270.out) | exact HB.out)⟩⟩
            ·rw [if_neg c14] at H
             exact absurd H (by simp)
           ·rw [if_neg c13] at H
            exact absurd H (by simp)
          ·rw [if_neg c12] at H
           exact absurd H (by simp)
         ·rw [if_neg c11] at H
          exact absurd H (by simp)
        ·rw [if_neg c9] at H
         exact absurd H (by simp)
       ·rw [if_neg c8] at H
        exact absurd H (by simp)
      ·rw [if_neg c7] at H
       exact absurd H (by simp)
     ·rw [if_neg c6] at H
      exact absurd H (by simp)
    ·rw [if_neg c4] at H
     exact absurd H (by simp)
   ·rw [if_neg c3] at H
    have c3b0 : decide (x4_1 < 32) = false := decide_eq_false c3
    clear c3
    obtain rfl := Option.some.inj H
    go_wp2
    go_ret
    exact ⟨by first | rfl | (simp [errW_none, errW_some] <;> rfl) | (simp [*, errW_none, errW_some] <;> rfl), by repeat (first | (with_reducible first | exact HB.out | apply below_alloc | apply pw_below_drewN | apply below_drew1 | refine below_set ?_ GE270.out) | exact HB.out)⟩
end Go.Proofs.YtkcdcbiobkcpmaaDoor.PA
end
section
namespace Go.Proofs.YtkcdcbiobkcpmaaDoor.PA
open Go.RowKit Go.Proofs.YtkcdcbiobkcpmaaDoorW.PrintWords Go.Proofs.YtkcdcbiobkcpmaaDoorW.PrintLast Go.Proofs.YtkcdcbiobkcpmaaDoorW.PrintMore
attribute [local go_sem] max2_int min2_int max_two min_two max_three min_three max_four min_four
set_option linter.unusedVariables false
set_option linter.unusedSimpArgs false
def drawlotlaw05_ShaTexts.f (k : Nat) (a0 : List Int) (a1 : ByteArray) : Option (Bool) := (drawlotlaw05_alive.f k).bind fun t272 => (if t272 = true then (if (a1.size : Int) > 200 then (some true) else ((sha_Parse.f k a1).bind fun bt273 => ((drawlotref05_Parse.f k a1).bind fun bt276 => ((sha_Text.f k a0).bind fun t279 => ((sha_Parse.f k t279).bind fun bt280 => (if (Ar.eqb 32 bt273.1 bt276.1) = true then (if bt273.2 = bt276.2 then ((sha_Text.f k a0).bind fun t283 => ((drawlotref05_Text.f k a0).bind fun t284 => (if t283.toList = t284.toList then (if bt280.2 = 0 then (if (Ar.eqb 32 bt280.1 a0) = true then (if bt273.2 = 0 then ((sha_Text.f k bt273.1).bind fun t285 => (some (t285.toList == a1.toList))) else (some true)) else (none)) else (none)) else (none)))) else (none)) else (none))))))) else (none))
theorem drawlotlaw05_ShaTexts.mono : ∀ a0 a1 k, LeO (drawlotlaw05_ShaTexts.f k a0 a1) (drawlotlaw05_ShaTexts.f (k + 1) a0 a1) := by
 intro a0 a1 k
 unfold drawlotlaw05_ShaTexts.f
 repeat' first
   | (with_reducible exact drawlotlaw05_alive.mono _)
   | (with_reducible exact drawlotref05_Parse.mono _ _)
   | (with_reducible exact drawlotref05_Text.mono _ _)
   | (with_reducible exact sha_Parse.mono _ _)
   | (with_reducible exact sha_Text.mono _ _)
   | (with_reducible exact LeO.refl _)
   | (with_reducible exact LeO.none _)
   | (with_reducible refine LeO.ite ?_ ?_)
   | (with_reducible refine LeO.bind ?_ (fun _ => ?_))
   | exact drawlotlaw05_alive.mono _
   | exact drawlotref05_Parse.mono _ _
   | exact drawlotref05_Text.mono _ _
   | exact sha_Parse.mono _ _
   | exact sha_Text.mono _ _
   | exact LeO.none _
   | refine LeO.ite ?_ ?_
   | refine LeO.bind ?_ (fun _ => ?_)
def drawlotlaw05_ShaTexts.T8 : Bool × List (List Nat × List Nat) := (true, [([], []), ([], []), ([0, 1], [0, 1]), ([2], [2]), ([3], [3]), ([3], [3]), ([4, 5, 3], [3, 4, 5]), ([3, 6], [3, 6]), ([7, 3], [7]), ([8], [8]), ([9, 8, 8], [8, 9]), ([8], [8]), ([11, 10, 8], [8, 11]), ([10, 12, 8], [8, 10, 12]), ([8, 13], [8, 13]), ([14, 12], [14]), ([15], [15]), ([16, 15], [15, 16]), ([15, 17], [15, 17]), ([18, 15], [18]), ([19], [19]), ([19], [19]), ([20, 21, 19], [19, 20, 21]), ([19, 22], [19, 22]), ([23, 19], [23]), ([24], [24]), ([25, 24], [24, 25]), ([26, 24, 24], [24, 26]), ([27], [27]), ([28, 27, 27], [27, 28]), ([27], [27]), ([29, 30, 27], [27, 29, 30]), ([27, 31, 24], [24, 27, 31]), ([24, 32], [24, 32]), ([33, 29, 0, 1, 2, 3, 4, 5, 6, 7, 8, 9, 10, 11, 12, 13, 14, 15, 16, 17, 18, 19, 20, 21, 22, 23, 24, 25, 26, 27, 28, 29, 30, 31, 32, 33], [33])])
def drawlotlaw05_ShaTexts.B8 : List Nat := [0, 0, 3, 7, 15, 15, 63, 127, 255, 511, 1023, 511, 4095, 8191, 16383, 32767, 65535, 131071, 262143, 524287, 1048575, 1048575, 4194303, 8388607, 16777215, 33554431, 67108863, 134217727, 268435455, 536870911, 268435455, 2147483647, 4294967295, 8589934591, 17179869183]
theorem drawlotlaw05_ShaTexts.tab8 : rtab .any (opsOf Tryd.f6 8) = drawlotlaw05_ShaTexts.T8 := by kernel_rfl
theorem drawlotlaw05_ShaTexts.bits8 : waitsOk drawlotlaw05_ShaTexts.T8.2 drawlotlaw05_ShaTexts.B8 = true := by kernel_rfl
set_option maxHeartbeats 8000000 in
set_option maxRecDepth 100000 in
theorem drawlotlaw05_ShaTexts.calls (k : Nat) (a0 : List Int) (a1 : ByteArray) (r : Bool) (w : World) (h : drawlotlaw05_ShaTexts.f k a0 a1 = some r) :
  Calls Tryd.prog 6 #[.agg (Ar.cells .u8 32 a0), .string a1] w fun e w' => e = .returned (.bool r) ∧ Below w.heap.size w w' := by
 have HB := Aside0.mk (Below.refl w.heap.size w)
 have H : ((drawlotlaw05_alive.f k).bind fun t272 => (if t272 = true then (if (a1.size : Int) > 200 then (some true) else ((sha_Parse.f k a1).bind fun bt273 => ((drawlotref05_Parse.f k a1).bind fun bt276 => ((sha_Text.f k a0).bind fun t279 => ((sha_Parse.f k t279).bind fun bt280 => (if (Ar.eqb 32 bt273.1 bt276.1) = true then (if bt273.2 = bt276.2 then ((sha_Text.f k a0).bind fun t283 => ((drawlotref05_Text.f k a0).bind fun t284 => (if t283.toList = t284.toList then (if bt280.2 = 0 then (if (Ar.eqb 32 bt280.1 a0) = true then (if bt273.2 = 0 then ((sha_Text.f k bt273.1).bind fun t285 => (some (t285.toList == a1.toList))) else (some true)) else (none)) else (none)) else (none)))) else (none)) else (none))))))) else (none))) = some r := h
 clear h
 replace H := Option.bind_eq_some_iff.mp H
 obtain ⟨t272, A30, H⟩ := H
 replace H : (if t272 = true then (if (a1.size : Int) > 200 then (some true) else ((sha_Parse.f k a1).bind fun bt273 => ((drawlotref05_Parse.f k a1).bind fun bt276 => ((sha_Text.f k a0).bind fun t279 => ((sha_Parse.f k t279).bind fun bt280 => (if (Ar.eqb 32 bt273.1 bt276.1) = true then (if bt273.2 = bt276.2 then ((sha_Text.f k a0).bind fun t283 => ((drawlotref05_Text.f k a0).bind fun t284 => (if t283.toList = t284.toList then (if bt280.2 = 0 then (if (Ar.eqb 32 bt280.1 a0) = true then (if bt273.2 = 0 then ((sha_Text.f k bt273.1).bind fun t285 => (some (t285.toList == a1.toList))) else (some true)) else (none)) else (none)) else (none)))) else (none)) else (none))))))) else (none)) = some r := H
 have A3 := Aside0.mk A30
 clear A30
 by_cases c4 : t272 = true
 ·subst c4
  have H1 : (if (a1.size : Int) > 200 then (some true) else ((sha_Parse.f k a1).bind fun bt273 => ((drawlotref05_Parse.f k a1).bind fun bt276 => ((sha_Text.f k a0).bind fun t279 => ((sha_Parse.f k t279).bind fun bt280 => (if (Ar.eqb 32 bt273.1 bt276.1) = true then (if bt273.2 = bt276.2 then ((sha_Text.f k a0).bind fun t283 => ((drawlotref05_Text.f k a0).bind fun t284 => (if t283.toList = t284.toList then (if bt280.2 = 0 then (if (Ar.eqb 32 bt280.1 a0) = true then (if bt273.2 = 0 then ((sha_Text.f k bt273.1).bind fun t285 => (some (t285.toList == a1.toList))) else (some true)) else (none)) else (none)) else (none)))) else (none)) else (none))))))) = some r := by rw [if_pos rfl] at H; exact H
  clear H
  have H := H1
  clear H1
  by_cases c5 : (a1.size : Int) > 200
  ·rw [if_pos c5] at H
   have c5b0 : decide (200 < (a1.size : Int)) = true := decide_eq_true c5
   have c5b1 : decide (200 < a1.size) = true := decide_eq_true (by omega)
   clear c5
   obtain rfl := Option.some.inj H
   go_enter Tryd.func6, Tryd.ntmps6
   try simp only [List.append]
   go_wp2_with (first | ((with_reducible refine gate_dst (N := 2) rfl ?_); (try (refine gate_guard (by rfl) ?_; dsimp only)); refine qE (N := 2) (cs := (Ar.cells .u8 32 a0)) (t := 26) ?_; intro gb271 hg w6 hbox hb; have BK271 := Aside0.mk (hbox); have GW271 := Aside0.mk ((qe HB hg : w.heap.size ≤ gb271)); have GE271 := Aside0.mk ((qe HB hg : w.heap.size ≤ gb271)); replace HB := Aside0.mk (below_step (qs HB) hb); clear hb hbox hg) | ((with_reducible refine gate_callee (f := 7) rfl ?_); refine goesL_ (some 11) rfl rfl Tryd.func7 (by kernel_rfl) rfl #[] rfl ql ?_; (with_reducible refine (drawlotlaw05_alive.calls k  true _ A3.out).mono ?_); rintro e w7 ⟨rfl, hb⟩; refine ⟨_, rfl, ?_⟩; replace BK271 := Aside0.mk (qB BK271 hb); replace HB := Aside0.mk (below_step (qs HB) hb); (try clear hb); (try clear hb2); (try clear hk); (try clear hi)))
   go_ret
   exact ⟨by first | rfl | (simp [errW_none, errW_some] <;> rfl) | (simp [*, errW_none, errW_some] <;> rfl), by repeat (first | (with_reducible first | exact HB.out | apply below_alloc | apply pw_below_drewN | apply below_drew1 | refine below_set ?_ GE271.out) | exact HB.out)⟩
  ·rw [if_neg c5] at H
   have c5b0 : decide (200 < (a1.size : Int)) = false := decide_eq_false c5
   have c5b1 : decide (200 < a1.size) = false := decide_eq_false (by omega)
   clear c5
   replace H := Option.bind_eq_some_iff.mp H
   obtain ⟨⟨t273, t274⟩, A80, H⟩ := H
   replace H : ((drawlotref05_Parse.f k a1).bind fun bt276 => ((sha_Text.f k a0).bind fun t279 => ((sha_Parse.f k t279).bind fun bt280 => (if (Ar.eqb 32 t273 bt276.1) = true then (if t274 = bt276.2 then ((sha_Text.f k a0).bind fun t283 => ((drawlotref05_Text.f k a0).bind fun t284 => (if t283.toList = t284.toList then (if bt280.2 = 0 then (if (Ar.eqb 32 bt280.1 a0) = true then (if t274 = 0 then ((sha_Text.f k t273).bind fun t285 => (some (t285.toList == a1.toList))) else (some true)) else (none)) else (none)) else (none)))) else (none)) else (none))))) = some r := H
   have A8 := Aside0.mk A80
   clear A80
   replace H := Option.bind_eq_some_iff.mp H
   obtain ⟨⟨t276, t277⟩, A90, H⟩ := H
   replace H : ((sha_Text.f k a0).bind fun t279 => ((sha_Parse.f k t279).bind fun bt280 => (if (Ar.eqb 32 t273 t276) = true then (if t274 = t277 then ((sha_Text.f k a0).bind fun t283 => ((drawlotref05_Text.f k a0).bind fun t284 => (if t283.toList = t284.toList then (if bt280.2 = 0 then (if (Ar.eqb 32 bt280.1 a0) = true then (if t274 = 0 then ((sha_Text.f k t273).bind fun t285 => (some (t285.toList == a1.toList))) else (some true)) else (none)) else (none)) else (none)))) else (none)) else (none)))) = some r := H
   have A9 := Aside0.mk A90
   clear A90
   replace H := Option.bind_eq_some_iff.mp H
   obtain ⟨t279, A100, H⟩ := H
   replace H : ((sha_Parse.f k t279).bind fun bt280 => (if (Ar.eqb 32 t273 t276) = true then (if t274 = t277 then ((sha_Text.f k a0).bind fun t283 => ((drawlotref05_Text.f k a0).bind fun t284 => (if t283.toList = t284.toList then (if bt280.2 = 0 then (if (Ar.eqb 32 bt280.1 a0) = true then (if t274 = 0 then ((sha_Text.f k t273).bind fun t285 => (some (t285.toList == a1.toList))) else (some true)) else (none)) else (none)) else (none)))) else (none)) else (none))) = some r := H
   have A10 := Aside0.mk A100
   clear A100
   replace H := Option.bind_eq_some_iff.mp H
   obtain ⟨⟨t280, t281⟩, A110, H⟩ := H
   replace H : (if (Ar.eqb 32 t273 t276) = true then (if t274 = t277 then ((sha_Text.f k a0).bind fun t283 => ((drawlotref05_Text.f k a0).bind fun t284 => (if t283.toList = t284.toList then (if t281 = 0 then (if (Ar.eqb 32 t280 a0) = true then (if t274 = 0 then ((sha_Text.f k t273).bind fun t285 => (some (t285.toList == a1.toList))) else (some true)) else (none)) else (none)) else (none)))) else (none)) else (none)) = some r := H
   have A11 := Aside0.mk A110
   clear A110
   by_cases c12 : (Ar.eqb 32 t273 t276) = true
   ·rw [if_pos c12] at H
    have c12b0 : (Ar.eqb 32 t273 t276) = true := c12
    clear c12
    by_cases c13 : t274 = t277
    ·rw [if_pos c13] at H
     have c13b0 : (t274 == t277) = true := beq_iff_eq.mpr c13
     have c13b1 : (t274 != t277) = false := bne_eq_false_iff_eq.mpr c13
     clear c13
     replace H := Option.bind_eq_some_iff.mp H
     obtain ⟨t283, A140, H⟩ := H
     replace H : ((drawlotref05_Text.f k a0).bind fun t284 => (if t283.toList = t284.toList then (if t281 = 0 then (if (Ar.eqb 32 t280 a0) = true then (if t274 = 0 then ((sha_Text.f k t273).bind fun t285 => (some (t285.toList == a1.toList))) else (some true)) else (none)) else (none)) else (none))) = some r := H
     have A14 := Aside0.mk A140
     clear A140
     replace H := Option.bind_eq_some_iff.mp H
     obtain ⟨t284, A150, H⟩ := H
     replace H : (if t283.toList = t284.toList then (if t281 = 0 then (if (Ar.eqb 32 t280 a0) = true then (if t274 = 0 then ((sha_Text.f k t273).bind fun t285 => (some (t285.toList == a1.toList))) else (some true)) else (none)) else (none)) else (none)) = some r := H
     have A15 := Aside0.mk A150
     clear A150
     by_cases c16 : t283.toList = t284.toList
     ·rw [if_pos c16] at H
      have c16b0 : (t283.toList == t284.toList) = true := beq_iff_eq.mpr c16
      have c16b1 : (t283.toList != t284.toList) = false := bne_eq_false_iff_eq.mpr c16
      clear c16
      by_cases c17 : t281 = 0
      ·rw [if_pos c17] at H
       have c17b0 : (t281 == 0) = true := beq_iff_eq.mpr c17
       have c17b1 : (t281 != 0) = false := bne_eq_false_iff_eq.mpr c17
       clear c17
       by_cases c18 : (Ar.eqb 32 t280 a0) = true
       ·rw [if_pos c18] at H
        have c18b0 : (Ar.eqb 32 t280 a0) = true := c18
        clear c18
        by_cases c19 : t274 = 0
        ·rw [if_pos c19] at H
         have c19b0 : (t274 == 0) = true := beq_iff_eq.mpr c19
         have c19b1 : (t274 != 0) = false := bne_eq_false_iff_eq.mpr c19
         clear c19
         replace H := Option.bind_eq_some_iff.mp H
         obtain ⟨t285, A200, H⟩ := H
         replace H : (some (t285.toList == a1.toList)) = some r := H
         have A20 := Aside0.mk A200
         clear A200
         obtain rfl := Option.some.inj H
         go_enter Tryd.func6, Tryd.ntmps6
         try simp only [List.append]
         try go_wp2_with (first | ((with_reducible refine gate_dst (N := 2) rfl ?_); (try (refine gate_guard (by rfl) ?_; dsimp only)); refine qE (N := 2) (cs := (Ar.cells .u8 32 a0)) (t := 26) ?_; intro gb271 hg w21 hbox hb; have BK271 := Aside0.mk (hbox); have GW271 := Aside0.mk ((qe HB hg : w.heap.size ≤ gb271)); have GE271 := Aside0.mk ((qe HB hg : w.heap.size ≤ gb271)); replace HB := Aside0.mk (below_step (qs HB) hb); clear hb hbox hg) | ((with_reducible refine gate_callee (f := 7) rfl ?_); refine goesL_ (some 11) rfl rfl Tryd.func7 (by kernel_rfl) rfl #[] rfl ql ?_; (with_reducible refine (drawlotlaw05_alive.calls k  true _ A3.out).mono ?_); rintro e w22 ⟨rfl, hb⟩; refine ⟨_, rfl, ?_⟩; replace BK271 := Aside0.mk (qB BK271 hb); replace HB := Aside0.mk (below_step (qs HB) hb); (try clear hb); (try clear hb2); (try clear hk); (try clear hi)) | ((with_reducible refine gate_callee (f := 22) rfl ?_); refine goesL_ (some 18) rfl rfl Tryd.func22 (by kernel_rfl) rfl #[.string a1] rfl ql ?_; (with_reducible refine (sha_Parse.calls k a1 t273 t274 _ A8.out).mono ?_); rintro e w23 ⟨rfl, hb⟩; refine ⟨_, rfl, ?_⟩; replace BK271 := Aside0.mk (qB BK271 hb); replace HB := Aside0.mk (below_step (qs HB) hb); (try clear hb); (try clear hb2); (try clear hk); (try clear hi)) | ((with_reducible refine gate_dst (N := 5) rfl ?_); (try (refine gate_guard (by rfl) ?_; dsimp only)); refine qE (N := 5) (cs := (Ar.cells .u8 32 (List.replicate 32 0))) (t := 26) ?_; intro gb275 hg w24 hbox hb; have BK275 := Aside0.mk (hbox); have GW275 := Aside0.mk ((qe HB hg : w.heap.size ≤ gb275)); have GE275 := Aside0.mk ((qe HB hg : w.heap.size ≤ gb275)); replace HB := Aside0.mk (below_step (qs HB) hb); have NB271_275 := Aside0.mk ((qn BK271 hg : gb271 ≠ gb275)); have NB275_271 := Aside0.mk ((qm BK271 hg : gb275 ≠ gb271)); replace BK271 := Aside0.mk (qB BK271 hb); clear hb hbox hg) | ((with_reducible refine gate_store (t := 26) (p := 5) rfl ?_); refine Ar.store_all_event rfl rfl rfl Tryd.underlying26 (by kernel_rfl) (g := gb275) rfl (z := t273) qg (qb BK275) ?_; intro w25 hbk_ hg; replace BK271 := Aside0.mk (qG BK271 hg (fun e_ => NB271_275.out (Option.some.inj e_))); replace BK275 := Aside0.mk (hbk_); replace HB := Aside0.mk (Below.grown (qs HB) hg ((below_size (qs HB))) (fun _ e_ => by cases e_; exact GE275.out)); clear hbk_ hg) | ((with_reducible refine gate_callee (f := 23) rfl ?_); refine goesL_ (some 23) rfl rfl Tryd.func23 (by kernel_rfl) rfl #[.string a1] rfl ql ?_; (with_reducible refine (drawlotref05_Parse.calls k a1 t276 t277 _ A9.out).mono ?_); rintro e w26 ⟨rfl, hb⟩; refine ⟨_, rfl, ?_⟩; replace BK271 := Aside0.mk (qB BK271 hb); replace BK275 := Aside0.mk (qB BK275 hb); replace HB := Aside0.mk (below_step (qs HB) hb); (try clear hb); (try clear hb2); (try clear hk); (try clear hi)) | ((with_reducible refine gate_dst (N := 7) rfl ?_); (try (refine gate_guard (by rfl) ?_; dsimp only)); refine qE (N := 7) (cs := (Ar.cells .u8 32 (List.replicate 32 0))) (t := 26) ?_; intro gb278 hg w27 hbox hb; have BK278 := Aside0.mk (hbox); have GW278 := Aside0.mk ((qe HB hg : w.heap.size ≤ gb278)); have GE278 := Aside0.mk ((qe HB hg : w.heap.size ≤ gb278)); replace HB := Aside0.mk (below_step (qs HB) hb); have NB271_278 := Aside0.mk ((qn BK271 hg : gb271 ≠ gb278)); have NB278_271 := Aside0.mk ((qm BK271 hg : gb278 ≠ gb271)); replace BK271 := Aside0.mk (qB BK271 hb); have NB275_278 := Aside0.mk ((qn BK275 hg : gb275 ≠ gb278)); have NB278_275 := Aside0.mk ((qm BK275 hg : gb278 ≠ gb275)); replace BK275 := Aside0.mk (qB BK275 hb); clear hb hbox hg) | ((with_reducible refine gate_store (t := 26) (p := 7) rfl ?_); refine Ar.store_all_event rfl rfl rfl Tryd.underlying26 (by kernel_rfl) (g := gb278) rfl (z := t276) qg (qb BK278) ?_; intro w28 hbk_ hg; replace BK271 := Aside0.mk (qG BK271 hg (fun e_ => NB271_278.out (Option.some.inj e_))); replace BK275 := Aside0.mk (qG BK275 hg (fun e_ => NB275_278.out (Option.some.inj e_))); replace BK278 := Aside0.mk (hbk_); replace HB := Aside0.mk (Below.grown (qs HB) hg ((below_size (qs HB))) (fun _ e_ => by cases e_; exact GE278.out)); clear hbk_ hg) | ((with_reducible refine gate_dst (N := 27) rfl ?_); (try (refine gate_guard (by rfl) ?_; dsimp only)); refine Ar.load_event rfl (D := 27) rfl (T := 26) rfl Tryd.underlying26 (by kernel_rfl) (g := gb271) rfl (qb BK271) ?_) | ((with_reducible refine gate_callee (f := 24) rfl ?_); refine goesL_ (some 28) rfl rfl Tryd.func24 (by kernel_rfl) rfl #[.agg (Ar.cells .u8 32 a0)] rfl ql ?_; (with_reducible refine (sha_Text.calls k a0 t279 _ A10.out).mono ?_); rintro e w29 ⟨rfl, hb⟩; refine ⟨_, rfl, ?_⟩; replace BK271 := Aside0.mk (qB BK271 hb); replace BK275 := Aside0.mk (qB BK275 hb); replace BK278 := Aside0.mk (qB BK278 hb); replace HB := Aside0.mk (below_step (qs HB) hb); (try clear hb); (try clear hb2); (try clear hk); (try clear hi)) | ((with_reducible refine gate_callee (f := 22) rfl ?_); refine goesL_ (some 29) rfl rfl Tryd.func22 (by kernel_rfl) rfl #[.string t279] rfl ql ?_; (with_reducible refine (sha_Parse.calls k t279 t280 t281 _ A11.out).mono ?_); rintro e w30 ⟨rfl, hb⟩; refine ⟨_, rfl, ?_⟩; replace BK271 := Aside0.mk (qB BK271 hb); replace BK275 := Aside0.mk (qB BK275 hb); replace BK278 := Aside0.mk (qB BK278 hb); replace HB := Aside0.mk (below_step (qs HB) hb); (try clear hb); (try clear hb2); (try clear hk); (try clear hi)) | ((with_reducible refine gate_dst (N := 9) rfl ?_); (try (refine gate_guard (by rfl) ?_; dsimp only)); refine qE (N := 9) (cs := (Ar.cells .u8 32 (List.replicate 32 0))) (t := 26) ?_; intro gb282 hg w31 hbox hb; have BK282 := Aside0.mk (hbox); have GW282 := Aside0.mk ((qe HB hg : w.heap.size ≤ gb282)); have GE282 := Aside0.mk ((qe HB hg : w.heap.size ≤ gb282)); replace HB := Aside0.mk (below_step (qs HB) hb); have NB271_282 := Aside0.mk ((qn BK271 hg : gb271 ≠ gb282)); have NB282_271 := Aside0.mk ((qm BK271 hg : gb282 ≠ gb271)); replace BK271 := Aside0.mk (qB BK271 hb); have NB275_282 := Aside0.mk ((qn BK275 hg : gb275 ≠ gb282)); have NB282_275 := Aside0.mk ((qm BK275 hg : gb282 ≠ gb275)); replace BK275 := Aside0.mk (qB BK275 hb); have NB278_282 := Aside0.mk ((qn BK278 hg : gb278 ≠ gb282)); have NB282_278 := Aside0.mk ((qm BK278 hg : gb282 ≠ gb278)); replace BK278 := Aside0.mk (qB BK278 hb); clear hb hbox hg) | ((with_reducible refine gate_store (t := 26) (p := 9) rfl ?_); refine Ar.store_all_event rfl rfl rfl Tryd.underlying26 (by kernel_rfl) (g := gb282) rfl (z := t280) qg (qb BK282) ?_; intro w32 hbk_ hg; replace BK271 := Aside0.mk (qG BK271 hg (fun e_ => NB271_282.out (Option.some.inj e_))); replace BK275 := Aside0.mk (qG BK275 hg (fun e_ => NB275_282.out (Option.some.inj e_))); replace BK278 := Aside0.mk (qG BK278 hg (fun e_ => NB278_282.out (Option.some.inj e_))); replace BK282 := Aside0.mk (hbk_); replace HB := Aside0.mk (Below.grown (qs HB) hg ((below_size (qs HB))) (fun _ e_ => by cases e_; exact GE282.out)); clear hbk_ hg))
         replace BK271 := Aside0.mk (blk_drew BK271.out)
         replace BK275 := Aside0.mk (blk_drew BK275.out)
         replace BK278 := Aside0.mk (blk_drew BK278.out)
         replace BK282 := Aside0.mk (blk_drew BK282.out)
         replace HB := Aside0.mk (below_drew1 HB.out)
         refine start_ (n := 35) (S := fun w' => w'.heap[gb275]? = some (.cells (Ar.cells .u8 32 t273) 26 (0, 0)) ∧ w'.heap[gb278]? = some (.cells (Ar.cells .u8 32 t276) 26 (0, 0)) ∧ w'.heap[gb271]? = some (.cells (Ar.cells .u8 32 a0) 26 (0, 0)) ∧ w'.heap[gb282]? = some (.cells (Ar.cells .u8 32 t280) 26 (0, 0))) (ds := []) #[false, false, false, false, false, false, false, false, false, false, false, false, false, false, false, false, false, false, false, false, false, false, false, false, false, false, false, false, false, false, false, false, false, false, false] (by kernel_rfl) rfl rfl ⟨BK275.out, BK278.out, BK271.out, BK282.out⟩ (fun hHeld => ?_); refine with_tabW drawlotlaw05_ShaTexts.tab8 drawlotlaw05_ShaTexts.bits8 (fun HT_ HW_ => ?_)
         generalize w32.drew = w33 at BK271 BK275 BK278 BK282 HB hHeld ⊢
         refine take_ (i := 0) (N := some 32) (v := ?_) (a' := ?_) #[true, false, false, false, false, false, false, false, false, false, false, false, false, false, false, false, false, false, false, false, false, false, false, false, false, false, false, false, false, false, false, false, false, false, false] rfl rfl (take_ofW HT_.out HW_.out (by kernel_rfl)) (fun _ _ _ h => h) (Or.inl ⟨by rfl, ?_⟩) hHeld ?_ ?_
         rotate_left
         ·rintro w' ⟨s0, s1, s2, s3⟩
          first | (refine (Ar.load_run rfl Tryd.underlying26 (by kernel_rfl) rfl (by assumption)).trans ?_; with_reducible rfl) | (go_simp; with_reducible rfl)
         rotate_left
         ·simp only [Act.put, List.setIfInBounds_toArray, List.set_cons_zero, List.set_cons_succ, i64_w, i32_w]
          rfl
         refine take_ (i := 1) (N := some 33) (v := ?_) (a' := ?_) #[true, true, false, false, false, false, false, false, false, false, false, false, false, false, false, false, false, false, false, false, false, false, false, false, false, false, false, false, false, false, false, false, false, false, false] rfl rfl (take_ofW HT_.out HW_.out (by kernel_rfl)) (fun _ _ _ h => h) (Or.inl ⟨by rfl, ?_⟩) hHeld ?_ ?_
         rotate_left
         ·rintro w' ⟨s0, s1, s2, s3⟩
          first | (refine (Ar.load_run rfl Tryd.underlying26 (by kernel_rfl) rfl (by assumption)).trans ?_; with_reducible rfl) | (go_simp; with_reducible rfl)
         rotate_left
         ·simp only [Act.put, List.setIfInBounds_toArray, List.set_cons_zero, List.set_cons_succ, i64_w, i32_w]
          rfl
         refine pure_ (i := 2) (N := some 34) (v := ?_) (a' := ?_) #[true, true, true, false, false, false, false, false, false, false, false, false, false, false, false, false, false, false, false, false, false, false, false, false, false, false, false, false, false, false, false, false, false, false, false] rfl rfl (any_of HT_.out (by kernel_rfl)) (fun _ _ _ h => h) (Or.inl ⟨by rfl, ?_⟩) ?_ ?_
         rotate_left
         ·intro w'
          go_simp
          with_reducible rfl
         rotate_left
         ·simp only [Act.put, List.setIfInBounds_toArray, List.set_cons_zero, List.set_cons_succ, i64_w, i32_w]
          rfl
         refine pure_ (i := 3) (N := some 35) (v := ?_) (a' := ?_) #[true, true, true, true, false, false, false, false, false, false, false, false, false, false, false, false, false, false, false, false, false, false, false, false, false, false, false, false, false, false, false, false, false, false, false] rfl rfl (any_of HT_.out (by kernel_rfl)) (fun _ _ _ h => h) (Or.inl ⟨by rfl, ?_⟩) ?_ ?_
         rotate_left
         ·intro w'
          go_simp
          with_reducible rfl
         rotate_left
         ·simp only [Act.put, List.setIfInBounds_toArray, List.set_cons_zero, List.set_cons_succ, i64_w, i32_w]
          rfl
         refine pure_ (i := 4) (N := some 36) (v := ?_) (a' := ?_) #[true, true, true, true, true, false, false, false, false, false, false, false, false, false, false, false, false, false, false, false, false, false, false, false, false, false, false, false, false, false, false, false, false, false, false] rfl rfl (any_of HT_.out (by kernel_rfl)) (fun _ _ _ h => h) (Or.inl ⟨by rfl, ?_⟩) ?_ ?_
         rotate_left
         ·intro w'
          go_simp
          with_reducible rfl
         rotate_left
         ·simp only [Act.put, List.setIfInBounds_toArray, List.set_cons_zero, List.set_cons_succ, i64_w, i32_w]
          rfl
         refine pure_ (i := 5) (N := some 37) (v := ?_) (a' := ?_) #[true, true, true, true, true, true, false, false, false, false, false, false, false, false, false, false, false, false, false, false, false, false, false, false, false, false, false, false, false, false, false, false, false, false, false] rfl rfl (any_of HT_.out (by kernel_rfl)) (fun _ _ _ h => h) (Or.inl ⟨by rfl, ?_⟩) ?_ ?_
         rotate_left
         ·intro w'
          go_simp
          with_reducible rfl
         rotate_left
         ·simp only [Act.put, List.setIfInBounds_toArray, List.set_cons_zero, List.set_cons_succ, i64_w, i32_w]
          rfl
         refine pure_ (i := 6) (N := some 38) (v := ?_) (a' := ?_) #[true, true, true, true, true, true, true, false, false, false, false, false, false, false, false, false, false, false, false, false, false, false, false, false, false, false, false, false, false, false, false, false, false, false, false] rfl rfl (any_of HT_.out (by kernel_rfl)) (fun _ _ _ h => h) (Or.inl ⟨by rfl, ?_⟩) ?_ ?_
         rotate_left
         ·intro w'
          go_simp
          with_reducible rfl
         rotate_left
         ·simp only [Act.put, List.setIfInBounds_toArray, List.set_cons_zero, List.set_cons_succ, i64_w, i32_w]
          rfl
         refine pure_ (i := 7) (N := some 39) (v := ?_) (a' := ?_) #[true, true, true, true, true, true, true, true, false, false, false, false, false, false, false, false, false, false, false, false, false, false, false, false, false, false, false, false, false, false, false, false, false, false, false] rfl rfl (any_of HT_.out (by kernel_rfl)) (fun _ _ _ h => h) (Or.inl ⟨by rfl, ?_⟩) ?_ ?_
         rotate_left
         ·intro w'
          go_simp
          with_reducible rfl
         rotate_left
         ·simp only [Act.put, List.setIfInBounds_toArray, List.set_cons_zero, List.set_cons_succ, i64_w, i32_w]
          rfl
         refine pure_ (i := 8) (N := some 40) (v := ?_) (a' := ?_) #[true, true, true, true, true, true, true, true, true, false, false, false, false, false, false, false, false, false, false, false, false, false, false, false, false, false, false, false, false, false, false, false, false, false, false] rfl rfl (any_of HT_.out (by kernel_rfl)) (fun _ _ _ h => h) (Or.inl ⟨by rfl, ?_⟩) ?_ ?_
         rotate_left
         ·intro w'
          go_simp
          with_reducible rfl
         rotate_left
         ·simp only [Act.put, List.setIfInBounds_toArray, List.set_cons_zero, List.set_cons_succ, i64_w, i32_w]
          rfl
         refine take_ (i := 9) (N := some 41) (v := ?_) (a' := ?_) #[true, true, true, true, true, true, true, true, true, true, false, false, false, false, false, false, false, false, false, false, false, false, false, false, false, false, false, false, false, false, false, false, false, false, false] rfl rfl (take_ofW HT_.out HW_.out (by kernel_rfl)) (fun _ _ _ h => h) (Or.inl ⟨by rfl, ?_⟩) hHeld ?_ ?_
         rotate_left
         ·rintro w' ⟨s0, s1, s2, s3⟩
          first | (refine (Ar.load_run rfl Tryd.underlying26 (by kernel_rfl) rfl (by assumption)).trans ?_; with_reducible rfl) | (go_simp; with_reducible rfl)
         rotate_left
         ·simp only [Act.put, List.setIfInBounds_toArray, List.set_cons_zero, List.set_cons_succ, i64_w, i32_w]
          rfl
         refine take_ (i := 11) (N := some 43) (v := ?_) (a' := ?_) #[true, true, true, true, true, true, true, true, true, true, false, true, false, false, false, false, false, false, false, false, false, false, false, false, false, false, false, false, false, false, false, false, false, false, false] rfl rfl (take_ofW HT_.out HW_.out (by kernel_rfl)) (fun _ _ _ h => h) (Or.inl ⟨by rfl, ?_⟩) hHeld ?_ ?_
         rotate_left
         ·rintro w' ⟨s0, s1, s2, s3⟩
          first | (refine (Ar.load_run rfl Tryd.underlying26 (by kernel_rfl) rfl (by assumption)).trans ?_; with_reducible rfl) | (go_simp; with_reducible rfl)
         rotate_left
         ·simp only [Act.put, List.setIfInBounds_toArray, List.set_cons_zero, List.set_cons_succ, i64_w, i32_w]
          rfl
         refine one_ (i := 10) (N := some 42) #[true, true, true, true, true, true, true, true, true, true, true, true, false, false, false, false, false, false, false, false, false, false, false, false, false, false, false, false, false, false, false, false, false, false, false] rfl rfl (one_of HT_.out (by kernel_rfl)) (by decide) (fun K hK => ?_)
         refine goes_ Tryd.func24 (by kernel_rfl) rfl #[.agg (Ar.cells .u8 32 a0)] (by rfl) rfl rfl ql ?_
         with_reducible refine (sha_Text.calls k a0 t283 _ A14.out).mono ?_
         rintro e w34 ⟨rfl, hb⟩
         refine ⟨_, rfl, ?_⟩
         replace BK271 := Aside0.mk (qB BK271 hb)
         replace BK275 := Aside0.mk (qB BK275 hb)
         replace BK278 := Aside0.mk (qB BK278 hb)
         replace BK282 := Aside0.mk (qB BK282 hb)
         replace HB := Aside0.mk (below_step (qs HB) hb)
         (try clear hb)
         (try clear hb2)
         (try clear hk)
         (try clear hi)
         refine hK.out _ _ ⟨BK275.out, BK278.out, BK271.out, BK282.out⟩ (fun hHeld => ?_)
         clear hK K
         refine norm_ (a' := ?_) ?_ ?_
         rotate_left
         ·show Act.put _ (some 42) _ = _
          simp only [Act.put, List.setIfInBounds_toArray, List.set_cons_zero, List.set_cons_succ, i64_w, i32_w]
          rfl
         refine one_ (i := 12) (N := some 44) #[true, true, true, true, true, true, true, true, true, true, true, true, true, false, false, false, false, false, false, false, false, false, false, false, false, false, false, false, false, false, false, false, false, false, false] rfl rfl (one_of HT_.out (by kernel_rfl)) (by decide) (fun K hK => ?_)
         refine goes_ Tryd.func25 (by kernel_rfl) rfl #[.agg (Ar.cells .u8 32 a0)] (by rfl) rfl rfl ql ?_
         with_reducible refine (drawlotref05_Text.calls k a0 t284 _ A15.out).mono ?_
         rintro e w35 ⟨rfl, hb⟩
         refine ⟨_, rfl, ?_⟩
         replace BK271 := Aside0.mk (qB BK271 hb)
         replace BK275 := Aside0.mk (qB BK275 hb)
         replace BK278 := Aside0.mk (qB BK278 hb)
         replace BK282 := Aside0.mk (qB BK282 hb)
         replace HB := Aside0.mk (below_step (qs HB) hb)
         (try clear hb)
         (try clear hb2)
         (try clear hk)
         (try clear hi)
         refine hK.out _ _ ⟨BK275.out, BK278.out, BK271.out, BK282.out⟩ (fun hHeld => ?_)
         clear hK K
         refine norm_ (a' := ?_) ?_ ?_
         rotate_left
         ·show Act.put _ (some 44) _ = _
          simp only [Act.put, List.setIfInBounds_toArray, List.set_cons_zero, List.set_cons_succ, i64_w, i32_w]
          rfl
         refine pure_ (i := 13) (N := some 45) (v := ?_) (a' := ?_) #[true, true, true, true, true, true, true, true, true, true, true, true, true, true, false, false, false, false, false, false, false, false, false, false, false, false, false, false, false, false, false, false, false, false, false] rfl rfl (any_of HT_.out (by kernel_rfl)) (fun _ _ _ h => h) (Or.inl ⟨by rfl, ?_⟩) ?_ ?_
         rotate_left
         ·intro w'
          go_simp
          with_reducible rfl
         rotate_left
         ·simp only [Act.put, List.setIfInBounds_toArray, List.set_cons_zero, List.set_cons_succ, i64_w, i32_w]
          rfl
         refine pure_ (i := 14) (N := some 46) (v := ?_) (a' := ?_) #[true, true, true, true, true, true, true, true, true, true, true, true, true, true, true, false, false, false, false, false, false, false, false, false, false, false, false, false, false, false, false, false, false, false, false] rfl rfl (any_of HT_.out (by kernel_rfl)) (fun _ _ _ h => h) (Or.inl ⟨by rfl, ?_⟩) ?_ ?_
         rotate_left
         ·intro w'
          go_simp
          with_reducible rfl
         rotate_left
         ·simp only [Act.put, List.setIfInBounds_toArray, List.set_cons_zero, List.set_cons_succ, i64_w, i32_w]
          rfl
         refine pure_ (i := 15) (N := some 47) (v := ?_) (a' := ?_) #[true, true, true, true, true, true, true, true, true, true, true, true, true, true, true, true, false, false, false, false, false, false, false, false, false, false, false, false, false, false, false, false, false, false, false] rfl rfl (any_of HT_.out (by kernel_rfl)) (fun _ _ _ h => h) (Or.inl ⟨by rfl, ?_⟩) ?_ ?_
         rotate_left
         ·intro w'
          go_simp
          with_reducible rfl
         rotate_left
         ·simp only [Act.put, List.setIfInBounds_toArray, List.set_cons_zero, List.set_cons_succ, i64_w, i32_w]
          rfl
         refine pure_ (i := 16) (N := some 48) (v := ?_) (a' := ?_) #[true, true, true, true, true, true, true, true, true, true, true, true, true, true, true, true, true, false, false, false, false, false, false, false, false, false, false, false, false, false, false, false, false, false, false] rfl rfl (any_of HT_.out (by kernel_rfl)) (fun _ _ _ h => h) (Or.inl ⟨by rfl, ?_⟩) ?_ ?_
         rotate_left
         ·intro w'
          go_simp
          with_reducible rfl
         rotate_left
         ·simp only [Act.put, List.setIfInBounds_toArray, List.set_cons_zero, List.set_cons_succ, i64_w, i32_w]
          rfl
         refine pure_ (i := 17) (N := some 49) (v := ?_) (a' := ?_) #[true, true, true, true, true, true, true, true, true, true, true, true, true, true, true, true, true, true, false, false, false, false, false, false, false, false, false, false, false, false, false, false, false, false, false] rfl rfl (any_of HT_.out (by kernel_rfl)) (fun _ _ _ h => h) (Or.inl ⟨by rfl, ?_⟩) ?_ ?_
         rotate_left
         ·intro w'
          go_simp
          with_reducible rfl
         rotate_left
         ·simp only [Act.put, List.setIfInBounds_toArray, List.set_cons_zero, List.set_cons_succ, i64_w, i32_w]
          rfl
         refine pure_ (i := 18) (N := some 50) (v := ?_) (a' := ?_) #[true, true, true, true, true, true, true, true, true, true, true, true, true, true, true, true, true, true, true, false, false, false, false, false, false, false, false, false, false, false, false, false, false, false, false] rfl rfl (any_of HT_.out (by kernel_rfl)) (fun _ _ _ h => h) (Or.inl ⟨by rfl, ?_⟩) ?_ ?_
         rotate_left
         ·intro w'
          go_simp
          with_reducible rfl
         rotate_left
         ·simp only [Act.put, List.setIfInBounds_toArray, List.set_cons_zero, List.set_cons_succ, i64_w, i32_w]
          rfl
         refine pure_ (i := 19) (N := some 51) (v := ?_) (a' := ?_) #[true, true, true, true, true, true, true, true, true, true, true, true, true, true, true, true, true, true, true, true, false, false, false, false, false, false, false, false, false, false, false, false, false, false, false] rfl rfl (any_of HT_.out (by kernel_rfl)) (fun _ _ _ h => h) (Or.inl ⟨by rfl, ?_⟩) ?_ ?_
         rotate_left
         ·intro w'
          go_simp
          with_reducible rfl
         rotate_left
         ·simp only [Act.put, List.setIfInBounds_toArray, List.set_cons_zero, List.set_cons_succ, i64_w, i32_w]
          rfl
         refine take_ (i := 20) (N := some 52) (v := ?_) (a' := ?_) #[true, true, true, true, true, true, true, true, true, true, true, true, true, true, true, true, true, true, true, true, true, false, false, false, false, false, false, false, false, false, false, false, false, false, false] rfl rfl (take_ofW HT_.out HW_.out (by kernel_rfl)) (fun _ _ _ h => h) (Or.inl ⟨by rfl, ?_⟩) hHeld ?_ ?_
         rotate_left
         ·rintro w' ⟨s0, s1, s2, s3⟩
          first | (refine (Ar.load_run rfl Tryd.underlying26 (by kernel_rfl) rfl (by assumption)).trans ?_; with_reducible rfl) | (go_simp; with_reducible rfl)
         rotate_left
         ·simp only [Act.put, List.setIfInBounds_toArray, List.set_cons_zero, List.set_cons_succ, i64_w, i32_w]
          rfl
         refine take_ (i := 21) (N := some 53) (v := ?_) (a' := ?_) #[true, true, true, true, true, true, true, true, true, true, true, true, true, true, true, true, true, true, true, true, true, true, false, false, false, false, false, false, false, false, false, false, false, false, false] rfl rfl (take_ofW HT_.out HW_.out (by kernel_rfl)) (fun _ _ _ h => h) (Or.inl ⟨by rfl, ?_⟩) hHeld ?_ ?_
         rotate_left
         ·rintro w' ⟨s0, s1, s2, s3⟩
          first | (refine (Ar.load_run rfl Tryd.underlying26 (by kernel_rfl) rfl (by assumption)).trans ?_; with_reducible rfl) | (go_simp; with_reducible rfl)
         rotate_left
         ·simp only [Act.put, List.setIfInBounds_toArray, List.set_cons_zero, List.set_cons_succ, i64_w, i32_w]
          rfl
         refine pure_ (i := 22) (N := some 54) (v := ?_) (a' := ?_) #[true, true, true, true, true, true, true, true, true, true, true, true, true, true, true, true, true, true, true, true, true, true, true, false, false, false, false, false, false, false, false, false, false, false, false] rfl rfl (any_of HT_.out (by kernel_rfl)) (fun _ _ _ h => h) (Or.inl ⟨by rfl, ?_⟩) ?_ ?_
         rotate_left
         ·intro w'
          go_simp
          with_reducible rfl
         rotate_left
         ·simp only [Act.put, List.setIfInBounds_toArray, List.set_cons_zero, List.set_cons_succ, i64_w, i32_w]
          rfl
         refine pure_ (i := 23) (N := some 55) (v := ?_) (a' := ?_) #[true, true, true, true, true, true, true, true, true, true, true, true, true, true, true, true, true, true, true, true, true, true, true, true, false, false, false, false, false, false, false, false, false, false, false] rfl rfl (any_of HT_.out (by kernel_rfl)) (fun _ _ _ h => h) (Or.inl ⟨by rfl, ?_⟩) ?_ ?_
         rotate_left
         ·intro w'
          go_simp
          with_reducible rfl
         rotate_left
         ·simp only [Act.put, List.setIfInBounds_toArray, List.set_cons_zero, List.set_cons_succ, i64_w, i32_w]
          rfl
         refine pure_ (i := 24) (N := some 56) (v := ?_) (a' := ?_) #[true, true, true, true, true, true, true, true, true, true, true, true, true, true, true, true, true, true, true, true, true, true, true, true, true, false, false, false, false, false, false, false, false, false, false] rfl rfl (any_of HT_.out (by kernel_rfl)) (fun _ _ _ h => h) (Or.inl ⟨by rfl, ?_⟩) ?_ ?_
         rotate_left
         ·intro w'
          go_simp
          with_reducible rfl
         rotate_left
         ·simp only [Act.put, List.setIfInBounds_toArray, List.set_cons_zero, List.set_cons_succ, i64_w, i32_w]
          rfl
         refine pure_ (i := 25) (N := some 57) (v := ?_) (a' := ?_) #[true, true, true, true, true, true, true, true, true, true, true, true, true, true, true, true, true, true, true, true, true, true, true, true, true, true, false, false, false, false, false, false, false, false, false] rfl rfl (any_of HT_.out (by kernel_rfl)) (fun _ _ _ h => h) (Or.inl ⟨by rfl, ?_⟩) ?_ ?_
         rotate_left
         ·intro w'
          go_simp
          with_reducible rfl
         rotate_left
         ·simp only [Act.put, List.setIfInBounds_toArray, List.set_cons_zero, List.set_cons_succ, i64_w, i32_w]
          rfl
         refine pure_ (i := 26) (N := some 58) (v := ?_) (a' := ?_) #[true, true, true, true, true, true, true, true, true, true, true, true, true, true, true, true, true, true, true, true, true, true, true, true, true, true, true, false, false, false, false, false, false, false, false] rfl rfl (any_of HT_.out (by kernel_rfl)) (fun _ _ _ h => h) (Or.inl ⟨by rfl, ?_⟩) ?_ ?_
         rotate_left
         ·intro w'
          go_simp
          with_reducible rfl
         rotate_left
         ·simp only [Act.put, List.setIfInBounds_toArray, List.set_cons_zero, List.set_cons_succ, i64_w, i32_w]
          rfl
         refine pure_ (i := 27) (N := some 59) (v := ?_) (a' := ?_) #[true, true, true, true, true, true, true, true, true, true, true, true, true, true, true, true, true, true, true, true, true, true, true, true, true, true, true, true, false, false, false, false, false, false, false] rfl rfl (any_of HT_.out (by kernel_rfl)) (fun _ _ _ h => h) (Or.inl ⟨by rfl, ?_⟩) ?_ ?_
         rotate_left
         ·intro w'
          go_simp
          with_reducible rfl
         rotate_left
         ·simp only [Act.put, List.setIfInBounds_toArray, List.set_cons_zero, List.set_cons_succ, i64_w, i32_w]
          rfl
         refine pure_ (i := 30) (N := some 62) (v := ?_) (a' := ?_) #[true, true, true, true, true, true, true, true, true, true, true, true, true, true, true, true, true, true, true, true, true, true, true, true, true, true, true, true, false, false, true, false, false, false, false] rfl rfl (any_of HT_.out (by kernel_rfl)) (fun _ _ _ h => h) (Or.inl ⟨by rfl, ?_⟩) ?_ ?_
         rotate_left
         ·intro w'
          go_simp
          with_reducible rfl
         rotate_left
         ·simp only [Act.put, List.setIfInBounds_toArray, List.set_cons_zero, List.set_cons_succ, i64_w, i32_w]
          rfl
         refine take_ (i := 28) (N := some 60) (v := ?_) (a' := ?_) #[true, true, true, true, true, true, true, true, true, true, true, true, true, true, true, true, true, true, true, true, true, true, true, true, true, true, true, true, true, false, true, false, false, false, false] rfl rfl (take_ofW HT_.out HW_.out (by kernel_rfl)) (fun _ _ _ h => h) (Or.inl ⟨by rfl, ?_⟩) hHeld ?_ ?_
         rotate_left
         ·rintro w' ⟨s0, s1, s2, s3⟩
          first | (refine (Ar.load_run rfl Tryd.underlying26 (by kernel_rfl) rfl (by assumption)).trans ?_; with_reducible rfl) | (go_simp; with_reducible rfl)
         rotate_left
         ·simp only [Act.put, List.setIfInBounds_toArray, List.set_cons_zero, List.set_cons_succ, i64_w, i32_w]
          rfl
         refine one_ (i := 29) (N := some 61) #[true, true, true, true, true, true, true, true, true, true, true, true, true, true, true, true, true, true, true, true, true, true, true, true, true, true, true, true, true, true, true, false, false, false, false] rfl rfl (one_of HT_.out (by kernel_rfl)) (by decide) (fun K hK => ?_)
         refine goes_ Tryd.func24 (by kernel_rfl) rfl #[.agg (Ar.cells .u8 32 t273)] (by rfl) rfl rfl ql ?_
         with_reducible refine (sha_Text.calls k t273 t285 _ A20.out).mono ?_
         rintro e w36 ⟨rfl, hb⟩
         refine ⟨_, rfl, ?_⟩
         replace BK271 := Aside0.mk (qB BK271 hb)
         replace BK275 := Aside0.mk (qB BK275 hb)
         replace BK278 := Aside0.mk (qB BK278 hb)
         replace BK282 := Aside0.mk (qB BK282 hb)
         replace HB := Aside0.mk (below_step (qs HB) hb)
         (try clear hb)
         (try clear hb2)
         (try clear hk)
         (try clear hi)
         refine hK.out _ _ ⟨BK275.out, BK278.out, BK271.out, BK282.out⟩ (fun hHeld => ?_)
         clear hK K
         refine norm_ (a' := ?_) ?_ ?_
         rotate_left
         ·show Act.put _ (some 61) _ = _
          simp only [Act.put, List.setIfInBounds_toArray, List.set_cons_zero, List.set_cons_succ, i64_w, i32_w]
          rfl
         refine pure_ (i := 31) (N := some 63) (v := ?_) (a' := ?_) #[true, true, true, true, true, true, true, true, true, true, true, true, true, true, true, true, true, true, true, true, true, true, true, true, true, true, true, true, true, true, true, true, false, false, false] rfl rfl (any_of HT_.out (by kernel_rfl)) (fun _ _ _ h => h) (Or.inl ⟨by rfl, ?_⟩) ?_ ?_
         rotate_left
         ·intro w'
          go_simp
          with_reducible rfl
         rotate_left
         ·simp only [Act.put, List.setIfInBounds_toArray, List.set_cons_zero, List.set_cons_succ, i64_w, i32_w]
          rfl
         refine pure_ (i := 32) (N := some 64) (v := ?_) (a' := ?_) #[true, true, true, true, true, true, true, true, true, true, true, true, true, true, true, true, true, true, true, true, true, true, true, true, true, true, true, true, true, true, true, true, true, false, false] rfl rfl (any_of HT_.out (by kernel_rfl)) (fun _ _ _ h => h) (Or.inl ⟨by rfl, ?_⟩) ?_ ?_
         rotate_left
         ·intro w'
          go_simp
          with_reducible rfl
         rotate_left
         ·simp only [Act.put, List.setIfInBounds_toArray, List.set_cons_zero, List.set_cons_succ, i64_w, i32_w]
          rfl
         refine pure_ (i := 33) (N := some 65) (v := ?_) (a' := ?_) #[true, true, true, true, true, true, true, true, true, true, true, true, true, true, true, true, true, true, true, true, true, true, true, true, true, true, true, true, true, true, true, true, true, true, false] rfl rfl (any_of HT_.out (by kernel_rfl)) (fun _ _ _ h => h) (Or.inl ⟨by rfl, ?_⟩) ?_ ?_
         rotate_left
         ·intro w'
          go_simp
          with_reducible rfl
         rotate_left
         ·simp only [Act.put, List.setIfInBounds_toArray, List.set_cons_zero, List.set_cons_succ, i64_w, i32_w]
          rfl
         refine pure_ (i := 34) (N := some 4) (v := ?_) (a' := ?_) #[true, true, true, true, true, true, true, true, true, true, true, true, true, true, true, true, true, true, true, true, true, true, true, true, true, true, true, true, true, true, true, true, true, true, true] rfl rfl (any_of HT_.out (by kernel_rfl)) (fun _ _ _ h => h) (Or.inl ⟨by rfl, ?_⟩) ?_ ?_
         rotate_left
         ·intro w'
          go_simp
          with_reducible rfl
         rotate_left
         ·simp only [Act.put, List.setIfInBounds_toArray, List.set_cons_zero, List.set_cons_succ, i64_w, i32_w]
          rfl
         refine done_ (done_of HT_.out (by kernel_rfl)) ?_
         try go_wp2
         go_ret
         exact ⟨by first | rfl | (simp [errW_none, errW_some] <;> rfl) | (simp [*, errW_none, errW_some] <;> rfl), by repeat (first | (with_reducible first | exact HB.out | apply below_alloc | apply pw_below_drewN | apply below_drew1 | refine below_set ?_ GE271.out | refine below_set ?_ GE275.out | refine below_set ?_ GE278.out | refine below_set ?_ GE282.out) | exact HB.out)⟩
        ·rw [if_neg c19] at H
         have c19b0 : (t274 == 0) = false := beq_eq_false_iff_ne.mpr c19
         have c19b1 : (t274 != 0) = true := bne_iff_ne.mpr c19
         obtain rfl := Option.some.inj H
         go_enter Tryd.func6, Tryd.ntmps6
         try simp only [List.append]
         try go_wp2_with (first | ((with_reducible refine gate_dst (N := 2) rfl ?_); (try (refine gate_guard (by rfl) ?_; dsimp only)); refine qE (N := 2) (cs := (Ar.cells .u8 32 a0)) (t := 26) ?_; intro gb271 hg w37 hbox hb; have BK271 := Aside0.mk (hbox); have GW271 := Aside0.mk ((qe HB hg : w.heap.size ≤ gb271)); have GE271 := Aside0.mk ((qe HB hg : w.heap.size ≤ gb271)); replace HB := Aside0.mk (below_step (qs HB) hb); clear hb hbox hg) | ((with_reducible refine gate_callee (f := 7) rfl ?_); refine goesL_ (some 11) rfl rfl Tryd.func7 (by kernel_rfl) rfl #[] rfl ql ?_; (with_reducible refine (drawlotlaw05_alive.calls k  true _ A3.out).mono ?_); rintro e w38 ⟨rfl, hb⟩; refine ⟨_, rfl, ?_⟩; replace BK271 := Aside0.mk (qB BK271 hb); replace HB := Aside0.mk (below_step (qs HB) hb); (try clear hb); (try clear hb2); (try clear hk); (try clear hi)) | ((with_reducible refine gate_callee (f := 22) rfl ?_); refine goesL_ (some 18) rfl rfl Tryd.func22 (by kernel_rfl) rfl #[.string a1] rfl ql ?_; (with_reducible refine (sha_Parse.calls k a1 t273 t274 _ A8.out).mono ?_); rintro e w39 ⟨rfl, hb⟩; refine ⟨_, rfl, ?_⟩; replace BK271 := Aside0.mk (qB BK271 hb); replace HB := Aside0.mk (below_step (qs HB) hb); (try clear hb); (try clear hb2); (try clear hk); (try clear hi)) | ((with_reducible refine gate_dst (N := 5) rfl ?_); (try (refine gate_guard (by rfl) ?_; dsimp only)); refine qE (N := 5) (cs := (Ar.cells .u8 32 (List.replicate 32 0))) (t := 26) ?_; intro gb275 hg w40 hbox hb; have BK275 := Aside0.mk (hbox); have GW275 := Aside0.mk ((qe HB hg : w.heap.size ≤ gb275)); have GE275 := Aside0.mk ((qe HB hg : w.heap.size ≤ gb275)); replace HB := Aside0.mk (below_step (qs HB) hb); have NB271_275 := Aside0.mk ((qn BK271 hg : gb271 ≠ gb275)); have NB275_271 := Aside0.mk ((qm BK271 hg : gb275 ≠ gb271)); replace BK271 := Aside0.mk (qB BK271 hb); clear hb hbox hg) | ((with_reducible refine gate_store (t := 26) (p := 5) rfl ?_); refine Ar.store_all_event rfl rfl rfl Tryd.underlying26 (by kernel_rfl) (g := gb275) rfl (z := t273) qg (qb BK275) ?_; intro w41 hbk_ hg; replace BK271 := Aside0.mk (qG BK271 hg (fun e_ => NB271_275.out (Option.some.inj e_))); replace BK275 := Aside0.mk (hbk_); replace HB := Aside0.mk (Below.grown (qs HB) hg ((below_size (qs HB))) (fun _ e_ => by cases e_; exact GE275.out)); clear hbk_ hg) | ((with_reducible refine gate_callee (f := 23) rfl ?_); refine goesL_ (some 23) rfl rfl Tryd.func23 (by kernel_rfl) rfl #[.string a1] rfl ql ?_; (with_reducible refine (drawlotref05_Parse.calls k a1 t276 t277 _ A9.out).mono ?_); rintro e w42 ⟨rfl, hb⟩; refine ⟨_, rfl, ?_⟩; replace BK271 := Aside0.mk (qB BK271 hb); replace BK275 := Aside0.mk (qB BK275 hb); replace HB := Aside0.mk (below_step (qs HB) hb); (try clear hb); (try clear hb2); (try clear hk); (try clear hi)) | ((with_reducible refine gate_dst (N := 7) rfl ?_); (try (refine gate_guard (by rfl) ?_; dsimp only)); refine qE (N := 7) (cs := (Ar.cells .u8 32 (List.replicate 32 0))) (t := 26) ?_; intro gb278 hg w43 hbox hb; have BK278 := Aside0.mk (hbox); have GW278 := Aside0.mk ((qe HB hg : w.heap.size ≤ gb278)); have GE278 := Aside0.mk ((qe HB hg : w.heap.size ≤ gb278)); replace HB := Aside0.mk (below_step (qs HB) hb); have NB271_278 := Aside0.mk ((qn BK271 hg : gb271 ≠ gb278)); have NB278_271 := Aside0.mk ((qm BK271 hg : gb278 ≠ gb271)); replace BK271 := Aside0.mk (qB BK271 hb); have NB275_278 := Aside0.mk ((qn BK275 hg : gb275 ≠ gb278)); have NB278_275 := Aside0.mk ((qm BK275 hg : gb278 ≠ gb275)); replace BK275 := Aside0.mk (qB BK275 hb); clear hb hbox hg) | ((with_reducible refine gate_store (t := 26) (p := 7) rfl ?_); refine Ar.store_all_event rfl rfl rfl Tryd.underlying26 (by kernel_rfl) (g := gb278) rfl (z := t276) qg (qb BK278) ?_; intro w44 hbk_ hg; replace BK271 := Aside0.mk (qG BK271 hg (fun e_ => NB271_278.out (Option.some.inj e_))); replace BK275 := Aside0.mk (qG BK275 hg (fun e_ => NB275_278.out (Option.some.inj e_))); replace BK278 := Aside0.mk (hbk_); replace HB := Aside0.mk (Below.grown (qs HB) hg ((below_size (qs HB))) (fun _ e_ => by cases e_; exact GE278.out)); clear hbk_ hg) | ((with_reducible refine gate_dst (N := 27) rfl ?_); (try (refine gate_guard (by rfl) ?_; dsimp only)); refine Ar.load_event rfl (D := 27) rfl (T := 26) rfl Tryd.underlying26 (by kernel_rfl) (g := gb271) rfl (qb BK271) ?_) | ((with_reducible refine gate_callee (f := 24) rfl ?_); refine goesL_ (some 28) rfl rfl Tryd.func24 (by kernel_rfl) rfl #[.agg (Ar.cells .u8 32 a0)] rfl ql ?_; (with_reducible refine (sha_Text.calls k a0 t279 _ A10.out).mono ?_); rintro e w45 ⟨rfl, hb⟩; refine ⟨_, rfl, ?_⟩; replace BK271 := Aside0.mk (qB BK271 hb); replace BK275 := Aside0.mk (qB BK275 hb); replace BK278 := Aside0.mk (qB BK278 hb); replace HB := Aside0.mk (below_step (qs HB) hb); (try clear hb); (try clear hb2); (try clear hk); (try clear hi)) | ((with_reducible refine gate_callee (f := 22) rfl ?_); refine goesL_ (some 29) rfl rfl Tryd.func22 (by kernel_rfl) rfl #[.string t279] rfl ql ?_; (with_reducible refine (sha_Parse.calls k t279 t280 t281 _ A11.out).mono ?_); rintro e w46 ⟨rfl, hb⟩; refine ⟨_, rfl, ?_⟩; replace BK271 := Aside0.mk (qB BK271 hb); replace BK275 := Aside0.mk (qB BK275 hb); replace BK278 := Aside0.mk (qB BK278 hb); replace HB := Aside0.mk (below_step (qs HB) hb); (try clear hb); (try clear hb2); (try clear hk); (try clear hi)) | ((with_reducible refine gate_dst (N := 9) rfl ?_); (try (refine gate_guard (by rfl) ?_; dsimp only)); refine qE (N := 9) (cs := (Ar.cells .u8 32 (List.replicate 32 0))) (t := 26) ?_; intro gb282 hg w47 hbox hb; have BK282 := Aside0.mk (hbox); have GW282 := Aside0.mk ((qe HB hg : w.heap.size ≤ gb282)); have GE282 := Aside0.mk ((qe HB hg : w.heap.size ≤ gb282)); replace HB := Aside0.mk (below_step (qs HB) hb); have NB271_282 := Aside0.mk ((qn BK271 hg : gb271 ≠ gb282)); have NB282_271 := Aside0.mk ((qm BK271 hg : gb282 ≠ gb271)); replace BK271 := Aside0.mk (qB BK271 hb); have NB275_282 := Aside0.mk ((qn BK275 hg : gb275 ≠ gb282)); have NB282_275 := Aside0.mk ((qm BK275 hg : gb282 ≠ gb275)); replace BK275 := Aside0.mk (qB BK275 hb); have NB278_282 := Aside0.mk ((qn BK278 hg : gb278 ≠ gb282)); have NB282_278 := Aside0.mk ((qm BK278 hg : gb282 ≠ gb278)); replace BK278 := Aside0.mk (qB BK278 hb); clear hb hbox hg) | ((with_reducible refine gate_store (t := 26) (p := 9) rfl ?_); refine Ar.store_all_event rfl rfl rfl Tryd.underlying26 (by kernel_rfl) (g := gb282) rfl (z := t280) qg (qb BK282) ?_; intro w48 hbk_ hg; replace BK271 := Aside0.mk (qG BK271 hg (fun e_ => NB271_282.out (Option.some.inj e_))); replace BK275 := Aside0.mk (qG BK275 hg (fun e_ => NB275_282.out (Option.some.inj e_))); replace BK278 := Aside0.mk (qG BK278 hg (fun e_ => NB278_282.out (Option.some.inj e_))); replace BK282 := Aside0.mk (hbk_); replace HB := Aside0.mk (Below.grown (qs HB) hg ((below_size (qs HB))) (fun _ e_ => by cases e_; exact GE282.out)); clear hbk_ hg))
         replace BK271 := Aside0.mk (blk_drew BK271.out)
         replace BK275 := Aside0.mk (blk_drew BK275.out)
         replace BK278 := Aside0.mk (blk_drew BK278.out)
         replace BK282 := Aside0.mk (blk_drew BK282.out)
         replace HB := Aside0.mk (below_drew1 HB.out)
         refine start_ (n := 35) (S := fun w' => w'.heap[gb275]? = some (.cells (Ar.cells .u8 32 t273) 26 (0, 0)) ∧ w'.heap[gb278]? = some (.cells (Ar.cells .u8 32 t276) 26 (0, 0)) ∧ w'.heap[gb271]? = some (.cells (Ar.cells .u8 32 a0) 26 (0, 0)) ∧ w'.heap[gb282]? = some (.cells (Ar.cells .u8 32 t280) 26 (0, 0))) (ds := []) #[false, false, false, false, false, false, false, false, false, false, false, false, false, false, false, false, false, false, false, false, false, false, false, false, false, false, false, false, false, false, false, false, false, false, false] (by kernel_rfl) rfl rfl ⟨BK275.out, BK278.out, BK271.out, BK282.out⟩ (fun hHeld => ?_); refine with_tabW drawlotlaw05_ShaTexts.tab8 drawlotlaw05_ShaTexts.bits8 (fun HT_ HW_ => ?_)
         generalize w48.drew = w49 at BK271 BK275 BK278 BK282 HB hHeld ⊢
         refine take_ (i := 0) (N := some 32) (v := ?_) (a' := ?_) #[true, false, false, false, false, false, false, false, false, false, false, false, false, false, false, false, false, false, false, false, false, false, false, false, false, false, false, false, false, false, false, false, false, false, false] rfl rfl (take_ofW HT_.out HW_.out (by kernel_rfl)) (fun _ _ _ h => h) (Or.inl ⟨by rfl, ?_⟩) hHeld ?_ ?_
         rotate_left
         ·rintro w' ⟨s0, s1, s2, s3⟩
          first | (refine (Ar.load_run rfl Tryd.underlying26 (by kernel_rfl) rfl (by assumption)).trans ?_; with_reducible rfl) | (go_simp; with_reducible rfl)
         rotate_left
         ·simp only [Act.put, List.setIfInBounds_toArray, List.set_cons_zero, List.set_cons_succ, i64_w, i32_w]
          rfl
         refine take_ (i := 1) (N := some 33) (v := ?_) (a' := ?_) #[true, true, false, false, false, false, false, false, false, false, false, false, false, false, false, false, false, false, false, false, false, false, false, false, false, false, false, false, false, false, false, false, false, false, false] rfl rfl (take_ofW HT_.out HW_.out (by kernel_rfl)) (fun _ _ _ h => h) (Or.inl ⟨by rfl, ?_⟩) hHeld ?_ ?_
         rotate_left
         ·rintro w' ⟨s0, s1, s2, s3⟩
          first | (refine (Ar.load_run rfl Tryd.underlying26 (by kernel_rfl) rfl (by assumption)).trans ?_; with_reducible rfl) | (go_simp; with_reducible rfl)
         rotate_left
         ·simp only [Act.put, List.setIfInBounds_toArray, List.set_cons_zero, List.set_cons_succ, i64_w, i32_w]
          rfl
         refine pure_ (i := 2) (N := some 34) (v := ?_) (a' := ?_) #[true, true, true, false, false, false, false, false, false, false, false, false, false, false, false, false, false, false, false, false, false, false, false, false, false, false, false, false, false, false, false, false, false, false, false] rfl rfl (any_of HT_.out (by kernel_rfl)) (fun _ _ _ h => h) (Or.inl ⟨by rfl, ?_⟩) ?_ ?_
         rotate_left
         ·intro w'
          go_simp
          with_reducible rfl
         rotate_left
         ·simp only [Act.put, List.setIfInBounds_toArray, List.set_cons_zero, List.set_cons_succ, i64_w, i32_w]
          rfl
         refine pure_ (i := 3) (N := some 35) (v := ?_) (a' := ?_) #[true, true, true, true, false, false, false, false, false, false, false, false, false, false, false, false, false, false, false, false, false, false, false, false, false, false, false, false, false, false, false, false, false, false, false] rfl rfl (any_of HT_.out (by kernel_rfl)) (fun _ _ _ h => h) (Or.inl ⟨by rfl, ?_⟩) ?_ ?_
         rotate_left
         ·intro w'
          go_simp
          with_reducible rfl
         rotate_left
         ·simp only [Act.put, List.setIfInBounds_toArray, List.set_cons_zero, List.set_cons_succ, i64_w, i32_w]
          rfl
         refine pure_ (i := 4) (N := some 36) (v := ?_) (a' := ?_) #[true, true, true, true, true, false, false, false, false, false, false, false, false, false, false, false, false, false, false, false, false, false, false, false, false, false, false, false, false, false, false, false, false, false, false] rfl rfl (any_of HT_.out (by kernel_rfl)) (fun _ _ _ h => h) (Or.inl ⟨by rfl, ?_⟩) ?_ ?_
         rotate_left
         ·intro w'
          go_simp
          with_reducible rfl
         rotate_left
         ·simp only [Act.put, List.setIfInBounds_toArray, List.set_cons_zero, List.set_cons_succ, i64_w, i32_w]
          rfl
         refine pure_ (i := 5) (N := some 37) (v := ?_) (a' := ?_) #[true, true, true, true, true, true, false, false, false, false, false, false, false, false, false, false, false, false, false, false, false, false, false, false, false, false, false, false, false, false, false, false, false, false, false] rfl rfl (any_of HT_.out (by kernel_rfl)) (fun _ _ _ h => h) (Or.inl ⟨by rfl, ?_⟩) ?_ ?_
         rotate_left
         ·intro w'
          go_simp
          with_reducible rfl
         rotate_left
         ·simp only [Act.put, List.setIfInBounds_toArray, List.set_cons_zero, List.set_cons_succ, i64_w, i32_w]
          rfl
         refine pure_ (i := 6) (N := some 38) (v := ?_) (a' := ?_) #[true, true, true, true, true, true, true, false, false, false, false, false, false, false, false, false, false, false, false, false, false, false, false, false, false, false, false, false, false, false, false, false, false, false, false] rfl rfl (any_of HT_.out (by kernel_rfl)) (fun _ _ _ h => h) (Or.inl ⟨by rfl, ?_⟩) ?_ ?_
         rotate_left
         ·intro w'
          go_simp
          with_reducible rfl
         rotate_left
         ·simp only [Act.put, List.setIfInBounds_toArray, List.set_cons_zero, List.set_cons_succ, i64_w, i32_w]
          rfl
         refine pure_ (i := 7) (N := some 39) (v := ?_) (a' := ?_) #[true, true, true, true, true, true, true, true, false, false, false, false, false, false, false, false, false, false, false, false, false, false, false, false, false, false, false, false, false, false, false, false, false, false, false] rfl rfl (any_of HT_.out (by kernel_rfl)) (fun _ _ _ h => h) (Or.inl ⟨by rfl, ?_⟩) ?_ ?_
         rotate_left
         ·intro w'
          go_simp
          with_reducible rfl
         rotate_left
         ·simp only [Act.put, List.setIfInBounds_toArray, List.set_cons_zero, List.set_cons_succ, i64_w, i32_w]
          rfl
         refine pure_ (i := 8) (N := some 40) (v := ?_) (a' := ?_) #[true, true, true, true, true, true, true, true, true, false, false, false, false, false, false, false, false, false, false, false, false, false, false, false, false, false, false, false, false, false, false, false, false, false, false] rfl rfl (any_of HT_.out (by kernel_rfl)) (fun _ _ _ h => h) (Or.inl ⟨by rfl, ?_⟩) ?_ ?_
         rotate_left
         ·intro w'
          go_simp
          with_reducible rfl
         rotate_left
         ·simp only [Act.put, List.setIfInBounds_toArray, List.set_cons_zero, List.set_cons_succ, i64_w, i32_w]
          rfl
         refine take_ (i := 9) (N := some 41) (v := ?_) (a' := ?_) #[true, true, true, true, true, true, true, true, true, true, false, false, false, false, false, false, false, false, false, false, false, false, false, false, false, false, false, false, false, false, false, false, false, false, false] rfl rfl (take_ofW HT_.out HW_.out (by kernel_rfl)) (fun _ _ _ h => h) (Or.inl ⟨by rfl, ?_⟩) hHeld ?_ ?_
         rotate_left
         ·rintro w' ⟨s0, s1, s2, s3⟩
          first | (refine (Ar.load_run rfl Tryd.underlying26 (by kernel_rfl) rfl (by assumption)).trans ?_; with_reducible rfl) | (go_simp; with_reducible rfl)
         rotate_left
         ·simp only [Act.put, List.setIfInBounds_toArray, List.set_cons_zero, List.set_cons_succ, i64_w, i32_w]
          rfl
         refine take_ (i := 11) (N := some 43) (v := ?_) (a' := ?_) #[true, true, true, true, true, true, true, true, true, true, false, true, false, false, false, false, false, false, false, false, false, false, false, false, false, false, false, false, false, false, false, false, false, false, false] rfl rfl (take_ofW HT_.out HW_.out (by kernel_rfl)) (fun _ _ _ h => h) (Or.inl ⟨by rfl, ?_⟩) hHeld ?_ ?_
         rotate_left
         ·rintro w' ⟨s0, s1, s2, s3⟩
          first | (refine (Ar.load_run rfl Tryd.underlying26 (by kernel_rfl) rfl (by assumption)).trans ?_; with_reducible rfl) | (go_simp; with_reducible rfl)
         rotate_left
         ·simp only [Act.put, List.setIfInBounds_toArray, List.set_cons_zero, List.set_cons_succ, i64_w, i32_w]
          rfl
         refine one_ (i := 10) (N := some 42) #[true, true, true, true, true, true, true, true, true, true, true, true, false, false, false, false, false, false, false, false, false, false, false, false, false, false, false, false, false, false, false, false, false, false, false] rfl rfl (one_of HT_.out (by kernel_rfl)) (by decide) (fun K hK => ?_)
         refine goes_ Tryd.func24 (by kernel_rfl) rfl #[.agg (Ar.cells .u8 32 a0)] (by rfl) rfl rfl ql ?_
         with_reducible refine (sha_Text.calls k a0 t283 _ A14.out).mono ?_
         rintro e w50 ⟨rfl, hb⟩
         refine ⟨_, rfl, ?_⟩
         replace BK271 := Aside0.mk (qB BK271 hb)
         replace BK275 := Aside0.mk (qB BK275 hb)
         replace BK278 := Aside0.mk (qB BK278 hb)
         replace BK282 := Aside0.mk (qB BK282 hb)
         replace HB := Aside0.mk (below_step (qs HB) hb)
         (try clear hb)
         (try clear hb2)
         (try clear hk)
         (try clear hi)
         refine hK.out _ _ ⟨BK275.out, BK278.out, BK271.out, BK282.out⟩ (fun hHeld => ?_)
         clear hK K
         refine norm_ (a' := ?_) ?_ ?_
         rotate_left
         ·show Act.put _ (some 42) _ = _
          simp only [Act.put, List.setIfInBounds_toArray, List.set_cons_zero, List.set_cons_succ, i64_w, i32_w]
          rfl
         refine one_ (i := 12) (N := some 44) #[true, true, true, true, true, true, true, true, true, true, true, true, true, false, false, false, false, false, false, false, false, false, false, false, false, false, false, false, false, false, false, false, false, false, false] rfl rfl (one_of HT_.out (by kernel_rfl)) (by decide) (fun K hK => ?_)
         refine goes_ Tryd.func25 (by kernel_rfl) rfl #[.agg (Ar.cells .u8 32 a0)] (by rfl) rfl rfl ql ?_
         with_reducible refine (drawlotref05_Text.calls k a0 t284 _ A15.out).mono ?_
         rintro e w51 ⟨rfl, hb⟩
         refine ⟨_, rfl, ?_⟩
         replace BK271 := Aside0.mk (qB BK271 hb)
         replace BK275 := Aside0.mk (qB BK275 hb)
         replace BK278 := Aside0.mk (qB BK278 hb)
         replace BK282 := Aside0.mk (qB BK282 hb)
         replace HB := Aside0.mk (below_step (qs HB) hb)
         (try clear hb)
         (try clear hb2)
         (try clear hk)
         (try clear hi)
         refine hK.out _ _ ⟨BK275.out, BK278.out, BK271.out, BK282.out⟩ (fun hHeld => ?_)
         clear hK K
         refine norm_ (a' := ?_) ?_ ?_
         rotate_left
         ·show Act.put _ (some 44) _ = _
          simp only [Act.put, List.setIfInBounds_toArray, List.set_cons_zero, List.set_cons_succ, i64_w, i32_w]
          rfl
         refine pure_ (i := 13) (N := some 45) (v := ?_) (a' := ?_) #[true, true, true, true, true, true, true, true, true, true, true, true, true, true, false, false, false, false, false, false, false, false, false, false, false, false, false, false, false, false, false, false, false, false, false] rfl rfl (any_of HT_.out (by kernel_rfl)) (fun _ _ _ h => h) (Or.inl ⟨by rfl, ?_⟩) ?_ ?_
         rotate_left
         ·intro w'
          go_simp
          with_reducible rfl
         rotate_left
         ·simp only [Act.put, List.setIfInBounds_toArray, List.set_cons_zero, List.set_cons_succ, i64_w, i32_w]
          rfl
         refine pure_ (i := 14) (N := some 46) (v := ?_) (a' := ?_) #[true, true, true, true, true, true, true, true, true, true, true, true, true, true, true, false, false, false, false, false, false, false, false, false, false, false, false, false, false, false, false, false, false, false, false] rfl rfl (any_of HT_.out (by kernel_rfl)) (fun _ _ _ h => h) (Or.inl ⟨by rfl, ?_⟩) ?_ ?_
         rotate_left
         ·intro w'
          go_simp
          with_reducible rfl
         rotate_left
         ·simp only [Act.put, List.setIfInBounds_toArray, List.set_cons_zero, List.set_cons_succ, i64_w, i32_w]
          rfl
         refine pure_ (i := 15) (N := some 47) (v := ?_) (a' := ?_) #[true, true, true, true, true, true, true, true, true, true, true, true, true, true, true, true, false, false, false, false, false, false, false, false, false, false, false, false, false, false, false, false, false, false, false] rfl rfl (any_of HT_.out (by kernel_rfl)) (fun _ _ _ h => h) (Or.inl ⟨by rfl, ?_⟩) ?_ ?_
         rotate_left
         ·intro w'
          go_simp
          with_reducible rfl
         rotate_left
         ·simp only [Act.put, List.setIfInBounds_toArray, List.set_cons_zero, List.set_cons_succ, i64_w, i32_w]
          rfl
         refine pure_ (i := 16) (N := some 48) (v := ?_) (a' := ?_) #[true, true, true, true, true, true, true, true, true, true, true, true, true, true, true, true, true, false, false, false, false, false, false, false, false, false, false, false, false, false, false, false, false, false, false] rfl rfl (any_of HT_.out (by kernel_rfl)) (fun _ _ _ h => h) (Or.inl ⟨by rfl, ?_⟩) ?_ ?_
         rotate_left
         ·intro w'
          go_simp
          with_reducible rfl
         rotate_left
         ·simp only [Act.put, List.setIfInBounds_toArray, List.set_cons_zero, List.set_cons_succ, i64_w, i32_w]
          rfl
         refine pure_ (i := 17) (N := some 49) (v := ?_) (a' := ?_) #[true, true, true, true, true, true, true, true, true, true, true, true, true, true, true, true, true, true, false, false, false, false, false, false, false, false, false, false, false, false, false, false, false, false, false] rfl rfl (any_of HT_.out (by kernel_rfl)) (fun _ _ _ h => h) (Or.inl ⟨by rfl, ?_⟩) ?_ ?_
         rotate_left
         ·intro w'
          go_simp
          with_reducible rfl
         rotate_left
         ·simp only [Act.put, List.setIfInBounds_toArray, List.set_cons_zero, List.set_cons_succ, i64_w, i32_w]
          rfl
         refine pure_ (i := 18) (N := some 50) (v := ?_) (a' := ?_) #[true, true, true, true, true, true, true, true, true, true, true, true, true, true, true, true, true, true, true, false, false, false, false, false, false, false, false, false, false, false, false, false, false, false, false] rfl rfl (any_of HT_.out (by kernel_rfl)) (fun _ _ _ h => h) (Or.inl ⟨by rfl, ?_⟩) ?_ ?_
         rotate_left
         ·intro w'
          go_simp
          with_reducible rfl
         rotate_left
         ·simp only [Act.put, List.setIfInBounds_toArray, List.set_cons_zero, List.set_cons_succ, i64_w, i32_w]
          rfl
         refine pure_ (i := 19) (N := some 51) (v := ?_) (a' := ?_) #[true, true, true, true, true, true, true, true, true, true, true, true, true, true, true, true, true, true, true, true, false, false, false, false, false, false, false, false, false, false, false, false, false, false, false] rfl rfl (any_of HT_.out (by kernel_rfl)) (fun _ _ _ h => h) (Or.inl ⟨by rfl, ?_⟩) ?_ ?_
         rotate_left
         ·intro w'
          go_simp
          with_reducible rfl
         rotate_left
         ·simp only [Act.put, List.setIfInBounds_toArray, List.set_cons_zero, List.set_cons_succ, i64_w, i32_w]
          rfl
         refine take_ (i := 20) (N := some 52) (v := ?_) (a' := ?_) #[true, true, true, true, true, true, true, true, true, true, true, true, true, true, true, true, true, true, true, true, true, false, false, false, false, false, false, false, false, false, false, false, false, false, false] rfl rfl (take_ofW HT_.out HW_.out (by kernel_rfl)) (fun _ _ _ h => h) (Or.inl ⟨by rfl, ?_⟩) hHeld ?_ ?_
         rotate_left
         ·rintro w' ⟨s0, s1, s2, s3⟩
          first | (refine (Ar.load_run rfl Tryd.underlying26 (by kernel_rfl) rfl (by assumption)).trans ?_; with_reducible rfl) | (go_simp; with_reducible rfl)
         rotate_left
         ·simp only [Act.put, List.setIfInBounds_toArray, List.set_cons_zero, List.set_cons_succ, i64_w, i32_w]
          rfl
         refine take_ (i := 21) (N := some 53) (v := ?_) (a' := ?_) #[true, true, true, true, true, true, true, true, true, true, true, true, true, true, true, true, true, true, true, true, true, true, false, false, false, false, false, false, false, false, false, false, false, false, false] rfl rfl (take_ofW HT_.out HW_.out (by kernel_rfl)) (fun _ _ _ h => h) (Or.inl ⟨by rfl, ?_⟩) hHeld ?_ ?_
         rotate_left
         ·rintro w' ⟨s0, s1, s2, s3⟩
          first | (refine (Ar.load_run rfl Tryd.underlying26 (by kernel_rfl) rfl (by assumption)).trans ?_; with_reducible rfl) | (go_simp; with_reducible rfl)
         rotate_left
         ·simp only [Act.put, List.setIfInBounds_toArray, List.set_cons_zero, List.set_cons_succ, i64_w, i32_w]
          rfl
         refine pure_ (i := 22) (N := some 54) (v := ?_) (a' := ?_) #[true, true, true, true, true, true, true, true, true, true, true, true, true, true, true, true, true, true, true, true, true, true, true, false, false, false, false, false, false, false, false, false, false, false, false] rfl rfl (any_of HT_.out (by kernel_rfl)) (fun _ _ _ h => h) (Or.inl ⟨by rfl, ?_⟩) ?_ ?_
         rotate_left
         ·intro w'
          go_simp
          with_reducible rfl
         rotate_left
         ·simp only [Act.put, List.setIfInBounds_toArray, List.set_cons_zero, List.set_cons_succ, i64_w, i32_w]
          rfl
         refine pure_ (i := 23) (N := some 55) (v := ?_) (a' := ?_) #[true, true, true, true, true, true, true, true, true, true, true, true, true, true, true, true, true, true, true, true, true, true, true, true, false, false, false, false, false, false, false, false, false, false, false] rfl rfl (any_of HT_.out (by kernel_rfl)) (fun _ _ _ h => h) (Or.inl ⟨by rfl, ?_⟩) ?_ ?_
         rotate_left
         ·intro w'
          go_simp
          with_reducible rfl
         rotate_left
         ·simp only [Act.put, List.setIfInBounds_toArray, List.set_cons_zero, List.set_cons_succ, i64_w, i32_w]
          rfl
         refine pure_ (i := 24) (N := some 56) (v := ?_) (a' := ?_) #[true, true, true, true, true, true, true, true, true, true, true, true, true, true, true, true, true, true, true, true, true, true, true, true, true, false, false, false, false, false, false, false, false, false, false] rfl rfl (any_of HT_.out (by kernel_rfl)) (fun _ _ _ h => h) (Or.inl ⟨by rfl, ?_⟩) ?_ ?_
         rotate_left
         ·intro w'
          go_simp
          with_reducible rfl
         rotate_left
         ·simp only [Act.put, List.setIfInBounds_toArray, List.set_cons_zero, List.set_cons_succ, i64_w, i32_w]
          rfl
         refine pure_ (i := 25) (N := some 57) (v := ?_) (a' := ?_) #[true, true, true, true, true, true, true, true, true, true, true, true, true, true, true, true, true, true, true, true, true, true, true, true, true, true, false, false, false, false, false, false, false, false, false] rfl rfl (any_of HT_.out (by kernel_rfl)) (fun _ _ _ h => h) (Or.inl ⟨by rfl, ?_⟩) ?_ ?_
         rotate_left
         ·intro w'
          go_simp
          with_reducible rfl
         rotate_left
         ·simp only [Act.put, List.setIfInBounds_toArray, List.set_cons_zero, List.set_cons_succ, i64_w, i32_w]
          rfl
         refine pure_ (i := 26) (N := some 58) (v := ?_) (a' := ?_) #[true, true, true, true, true, true, true, true, true, true, true, true, true, true, true, true, true, true, true, true, true, true, true, true, true, true, true, false, false, false, false, false, false, false, false] rfl rfl (any_of HT_.out (by kernel_rfl)) (fun _ _ _ h => h) (Or.inl ⟨by rfl, ?_⟩) ?_ ?_
         rotate_left
         ·intro w'
          go_simp
          with_reducible rfl
         rotate_left
         ·simp only [Act.put, List.setIfInBounds_toArray, List.set_cons_zero, List.set_cons_succ, i64_w, i32_w]
          rfl
         refine pure_ (i := 27) (N := some 59) (v := ?_) (a' := ?_) #[true, true, true, true, true, true, true, true, true, true, true, true, true, true, true, true, true, true, true, true, true, true, true, true, true, true, true, true, false, false, false, false, false, false, false] rfl rfl (any_of HT_.out (by kernel_rfl)) (fun _ _ _ h => h) (Or.inl ⟨by rfl, ?_⟩) ?_ ?_
         rotate_left
         ·intro w'
          go_simp
          with_reducible rfl
         rotate_left
         ·simp only [Act.put, List.setIfInBounds_toArray, List.set_cons_zero, List.set_cons_succ, i64_w, i32_w]
          rfl
         refine pure_ (i := 28) (N := some 60) (v := undef) (a' := ?_) #[true, true, true, true, true, true, true, true, true, true, true, true, true, true, true, true, true, true, true, true, true, true, true, true, true, true, true, true, true, false, false, false, false, false, false] rfl rfl (any_of HT_.out (by kernel_rfl)) (fun _ _ _ h => h) (Or.inr ⟨by rfl, rfl⟩) ?_ ?_
         rotate_left
         ·simp only [Act.put, List.setIfInBounds_toArray, List.set_cons_zero, List.set_cons_succ, i64_w, i32_w]
          rfl
         refine pure_ (i := 29) (N := some 61) (v := undef) (a' := ?_) #[true, true, true, true, true, true, true, true, true, true, true, true, true, true, true, true, true, true, true, true, true, true, true, true, true, true, true, true, true, true, false, false, false, false, false] rfl rfl (any_of HT_.out (by kernel_rfl)) (fun _ _ _ h => h) (Or.inr ⟨by rfl, rfl⟩) ?_ ?_
         rotate_left
         ·simp only [Act.put, List.setIfInBounds_toArray, List.set_cons_zero, List.set_cons_succ, i64_w, i32_w]
          rfl
         refine pure_ (i := 30) (N := some 62) (v := undef) (a' := ?_) #[true, true, true, true, true, true, true, true, true, true, true, true, true, true, true, true, true, true, true, true, true, true, true, true, true, true, true, true, true, true, true, false, false, false, false] rfl rfl (any_of HT_.out (by kernel_rfl)) (fun _ _ _ h => h) (Or.inr ⟨by rfl, rfl⟩) ?_ ?_
         rotate_left
         ·simp only [Act.put, List.setIfInBounds_toArray, List.set_cons_zero, List.set_cons_succ, i64_w, i32_w]
          rfl
         refine pure_ (i := 31) (N := some 63) (v := undef) (a' := ?_) #[true, true, true, true, true, true, true, true, true, true, true, true, true, true, true, true, true, true, true, true, true, true, true, true, true, true, true, true, true, true, true, true, false, false, false] rfl rfl (any_of HT_.out (by kernel_rfl)) (fun _ _ _ h => h) (Or.inr ⟨by rfl, rfl⟩) ?_ ?_
         rotate_left
         ·simp only [Act.put, List.setIfInBounds_toArray, List.set_cons_zero, List.set_cons_succ, i64_w, i32_w]
          rfl
         refine pure_ (i := 32) (N := some 64) (v := ?_) (a' := ?_) #[true, true, true, true, true, true, true, true, true, true, true, true, true, true, true, true, true, true, true, true, true, true, true, true, true, true, true, true, true, true, true, true, true, false, false] rfl rfl (any_of HT_.out (by kernel_rfl)) (fun _ _ _ h => h) (Or.inl ⟨by rfl, ?_⟩) ?_ ?_
         rotate_left
         ·intro w'
          go_simp
          with_reducible rfl
         rotate_left
         ·simp only [Act.put, List.setIfInBounds_toArray, List.set_cons_zero, List.set_cons_succ, i64_w, i32_w]
          rfl
         refine pure_ (i := 33) (N := some 65) (v := ?_) (a' := ?_) #[true, true, true, true, true, true, true, true, true, true, true, true, true, true, true, true, true, true, true, true, true, true, true, true, true, true, true, true, true, true, true, true, true, true, false] rfl rfl (any_of HT_.out (by kernel_rfl)) (fun _ _ _ h => h) (Or.inl ⟨by rfl, ?_⟩) ?_ ?_
         rotate_left
         ·intro w'
          go_simp
          with_reducible rfl
         rotate_left
         ·simp only [Act.put, List.setIfInBounds_toArray, List.set_cons_zero, List.set_cons_succ, i64_w, i32_w]
          rfl
         refine pure_ (i := 34) (N := some 4) (v := ?_) (a' := ?_) #[true, true, true, true, true, true, true, true, true, true, true, true, true, true, true, true, true, true, true, true, true, true, true, true, true, true, true, true, true, true, true, true, true, true, true] rfl rfl (any_of HT_.out (by kernel_rfl)) (fun _ _ _ h => h) (Or.inl ⟨by rfl, ?_⟩) ?_ ?_
         rotate_left
         ·intro w'
          go_simp
          with_reducible rfl
         rotate_left
         ·simp only [Act.put, List.setIfInBounds_toArray, List.set_cons_zero, List.set_cons_succ, i64_w, i32_w]
          rfl
         refine done_ (done_of HT_.out (by kernel_rfl)) ?_
         try go_wp2
         go_ret
         exact ⟨by first | rfl | (simp [errW_none, errW_some] <;> rfl) | (simp [*, errW_none, errW_some] <;> rfl), by repeat (first | (with_reducible first | exact HB.out | apply below_alloc | apply pw_below_drewN | apply below_drew1 | refine below_set ?_ GE271.out | refine below_set ?_ GE275.out | refine below_set ?_ GE278.out | refine below_set ?_ GE282.out) | exact HB.out)⟩
       ·rw [if_neg c18] at H
        exact absurd H (by simp)
      ·rw [if_neg c17] at H
       exact absurd H (by simp)
     ·rw [if_neg c16] at H
      exact absurd H (by simp)
    ·rw [if_neg c13] at H
     exact absurd H (by simp)
   ·rw [if_neg c12] at H
    exact absurd H (by simp)
 ·replace c4 := Bool.eq_false_iff.mpr c4
  subst c4
  have H1 : (none) = some r := by rw [if_neg (show ¬ (false = true) by decide)] at H; exact H
  clear H
  have H := H1
  clear H1
  exact absurd H (by simp)
def drawlotlaw05_ShaTexts.Pure : Prop := ∀ (a0 : List Int) (a1 : ByteArray), (a0.length = 32 ∧ ∀ x ∈ a0, (Lit.int .u8 x).wf = true) → a1.size ≤ 140737488351232 → ∃ k, drawlotlaw05_ShaTexts.f k a0 a1 = some true
theorem drawlotlaw05_ShaTexts.walk (P : drawlotlaw05_ShaTexts.Pure) (a0 : List Int) (a1 : ByteArray) (w : World) (w0 : a0.length = 32 ∧ ∀ x ∈ a0, (Lit.int .u8 x).wf = true) (w1 : a1.size ≤ 140737488351232) :
  Calls Tryd.prog 6 #[.agg (Ar.cells .u8 32 a0), .string a1] w fun e w' => e = .returned (.bool true) ∧ Below w.heap.size w w' := by
 obtain ⟨k, h⟩ := P a0 a1 w0 w1
 refine (drawlotlaw05_ShaTexts.calls k a0 a1 true w h).mono ?_
 rintro e w' ⟨rfl, hd⟩
 exact ⟨rfl, hd⟩
end Go.Proofs.YtkcdcbiobkcpmaaDoor.PA
end
section
namespace Go.Proofs.YtkcdcbiobkcpmaaDoor.Lm
open Go.RowKit Go.Proofs.YtkcdcbiobkcpmaaDoorW.PrintWords
theorem w64_id {x : Int} (h0 : -9223372036854775808 ≤ x) (h1 : x < 9223372036854775808) : wrap64 x = x := by unfold wrap64; omega
theorem wf8 {x : Int} (h : (Lit.int .u8 x).wf = true) : 0 ≤ x ∧ x < 256 := by have := bounds_u8 h; omega
def U64 (l : List Int) : Prop := ∀ x ∈ l, 0 ≤ x ∧ x < 18446744073709551616
theorem rd_nat (l : List Int) (i : Nat) : rd l (i : Int) = l.getD i 0 := by simp [rd]
theorem rd_lt {l : List Int} {i : Int} (h0 : 0 ≤ i) (h1 : i < (l.length : Int)) : ∃ h : i.toNat < l.length, rd l i = l[i.toNat]'h := by
  have h : i.toNat < l.length := by omega
  exact ⟨h, by unfold rd; rw [List.getD_eq_getElem?_getD, List.getElem?_eq_getElem h]; rfl⟩
theorem U64.rd {l : List Int} (h : U64 l) (i : Int) : 0 ≤ rd l i ∧ rd l i < 18446744073709551616 := by
  unfold YtkcdcbiobkcpmaaDoorW.PrintWords.rd
  rw [List.getD_eq_getElem?_getD]
  by_cases hi : i.toNat < l.length
  · rw [List.getElem?_eq_getElem hi]; exact h _ (List.getElem_mem hi)
  · rw [List.getElem?_eq_none (by omega)]; simp
theorem U64.take {l : List Int} (h : U64 l) (n : Nat) : U64 (l.take n) := fun x hx => h x (List.mem_of_mem_take hx)
theorem U64.drop {l : List Int} (h : U64 l) (n : Nat) : U64 (l.drop n) := fun x hx => h x (List.mem_of_mem_drop hx)
theorem ext_rd {a b : List Int} (hl : a.length = b.length) (h : ∀ i : Nat, i < a.length → rd a (i : Int) = rd b (i : Int)) : a = b := by
  refine List.ext_getElem hl fun i h1 h2 => ?_
  have := h i h1
  rw [rd_nat, rd_nat, List.getD_eq_getElem?_getD, List.getD_eq_getElem?_getD, List.getElem?_eq_getElem h1, List.getElem?_eq_getElem h2] at this
  exact this
theorem bs {α β : Type} (a : α) (f : α → Option β) : (some a).bind f = f a := Eq.trans (Option.bind_some a f) rfl
end Go.Proofs.YtkcdcbiobkcpmaaDoor.Lm
end
section
namespace Go.Proofs.YtkcdcbiobkcpmaaDoor.Lm
open Go.RowKit Go.Proofs.YtkcdcbiobkcpmaaDoor.PA Go.Proofs.YtkcdcbiobkcpmaaDoorW.PrintWords Go.Proofs.YtkcdcbiobkcpmaaDoorW.PrintLast
theorem alive05 (k : Nat) (hk : 300 ≤ k) : drawlotlaw05_alive.f k = some true := at_rounds (g := fun k => drawlotlaw05_alive.f k) (fun k => drawlotlaw05_alive.mono k) (k := 300) (k' := k) hk (r := true) (by decide +kernel)
end Go.Proofs.YtkcdcbiobkcpmaaDoor.Lm
end
section
namespace Go.Proofs.YtkcdcbiobkcpmaaDoor.Lm
open Go.RowKit Go.Proofs.YtkcdcbiobkcpmaaDoorW.PrintWords
theorem rd_getD (l : List Int) (j : Int) : rd l j = l.getD j.toNat 0 := rfl
theorem get_set {n : Nat} {l : List Int} {i j v : Int} (h0 : 0 ≤ i) (h1 : i < n) (hj : 0 ≤ j) : Ar.get n (Ar.set n l i v) j = if j = i then v else Ar.get n l j := by
  have hl : (Ar.fit n l).length = n := Ar.fit_len n l
  have e : Ar.fit n (Ar.set n l i v) = Ar.set n l i v := Ar.fit_id (by simp [Ar.set, Ar.fit_len])
  unfold Ar.get
  rw [e]
  unfold Ar.set
  rw [rd_getD, rd_getD, List.getD_eq_getElem?_getD, List.getD_eq_getElem?_getD]
  by_cases h : j = i
  · subst h
    rw [if_pos rfl, List.getElem?_set_self (by omega)]
    rfl
  · rw [if_neg h, List.getElem?_set_ne (by omega)]
theorem get_zero (n : Nat) (j : Int) : Ar.get n (List.replicate n 0) j = 0 := by
  unfold Ar.get
  rw [Ar.fit_id (by simp), rd_getD, List.getD_eq_getElem?_getD]
  by_cases h : j.toNat < n
  · rw [List.getElem?_replicate_of_lt h]; rfl
  · rw [List.getElem?_eq_none (by simp; omega)]; rfl
theorem get_out {n : Nat} (l : List Int) {j : Int} (h : (n : Int) ≤ j) : Ar.get n l j = 0 := by
  unfold Ar.get
  rw [rd_getD, List.getD_eq_getElem?_getD, List.getElem?_eq_none (by rw [Ar.fit_len]; omega)]
  rfl
theorem eqb_of {n : Nat} {a b : List Int} (h : ∀ j : Int, 0 ≤ j → j < n → Ar.get n a j = Ar.get n b j) : Ar.eqb n a b = true := by
  unfold Ar.eqb
  rw [beq_iff_eq]
  refine ext_rd (by rw [Ar.fit_len, Ar.fit_len]) fun i hi => ?_
  rw [Ar.fit_len] at hi
  exact h i (by omega) (by omega)
theorem eqb_self (n : Nat) (a : List Int) : Ar.eqb n a a = true := by unfold Ar.eqb; exact beq_self_eq_true _
def InR (n : Nat) (b : Int) (l : List Int) : Prop := ∀ j, 0 ≤ Ar.get n l j ∧ Ar.get n l j < b
theorem get_neg {n : Nat} (l : List Int) {j : Int} (h : j ≤ 0) : Ar.get n l j = Ar.get n l 0 := by
  unfold Ar.get
  rw [rd_getD, rd_getD, show j.toNat = (0 : Int).toNat by omega]
theorem InR.zero (n : Nat) {b : Int} (hb : 0 < b) : InR n b (List.replicate n 0) := fun j => by rw [get_zero]; omega
theorem InR.of_mem {n : Nat} {b : Int} {l : List Int} (hb : 0 < b) (hl : l.length = n) (h : ∀ x ∈ l, 0 ≤ x ∧ x < b) : InR n b l := fun j => by
  unfold Ar.get
  rw [Ar.fit_id hl, rd_getD, List.getD_eq_getElem?_getD]
  by_cases hj : j.toNat < l.length
  · rw [List.getElem?_eq_getElem hj]; exact h _ (List.getElem_mem hj)
  · rw [List.getElem?_eq_none (by omega)]; exact ⟨Int.le_refl _, hb⟩
theorem InR.set {n : Nat} {b : Int} {l : List Int} {i v : Int} (h : InR n b l) (h0 : 0 ≤ i) (h1 : i < n) (hv : 0 ≤ v ∧ v < b) : InR n b (Ar.set n l i v) := fun j => by
  by_cases hj : 0 ≤ j
  · rw [get_set h0 h1 hj]
    split
    · exact hv
    · exact h j
  · rw [get_neg _ (by omega), get_set h0 h1 (by omega)]
    split
    · exact hv
    · exact h 0
theorem get_putAll {n : Nat} : ∀ (vs l : List Int) (o : Nat) (j : Int), 0 ≤ j → o + vs.length ≤ n → Ar.get n (Ar.putAll n l o vs) j = if (o : Int) ≤ j ∧ j < o + vs.length then rd vs (j - o) else Ar.get n l j
  | [], l, o, j, _, _ => by
    rw [if_neg (by simp only [List.length_nil]; omega)]
    rfl
  | v :: r, l, o, j, hj, hn => by
    simp only [List.length_cons] at hn ⊢
    rw [Ar.putAll, get_putAll r _ (o + 1) j hj (by omega), get_set (by omega) (by omega) hj]
    by_cases h1 : ((o + 1 : Nat) : Int) ≤ j ∧ j < ((o + 1 : Nat) : Int) + (r.length : Int)
    · rw [if_pos h1, if_pos (by omega)]
      rw [rd_getD, rd_getD, show (j - (o : Int)).toNat = (j - ((o + 1 : Nat) : Int)).toNat + 1 by omega]
      rfl
    · rw [if_neg h1]
      by_cases h2 : j = o
      · subst h2
        rw [if_pos rfl, if_pos (by omega), rd_getD, show ((o : Int) - (o : Int)).toNat = 0 by omega]
        rfl
      · rw [if_neg h2, if_neg (by omega)]
theorem InR.putAll {n : Nat} {b : Int} {l vs : List Int} {o : Nat} (h : InR n b l) (hn : o + vs.length ≤ n) (hv : ∀ x ∈ vs, 0 ≤ x ∧ x < b) : InR n b (Ar.putAll n l o vs) := by
  have key : ∀ j : Int, 0 ≤ j → 0 ≤ Ar.get n (Ar.putAll n l o vs) j ∧ Ar.get n (Ar.putAll n l o vs) j < b := fun j hj => by
    rw [get_putAll vs l o j hj hn]
    split
    · rename_i hc
      obtain ⟨hlt, e⟩ := rd_lt (l := vs) (i := j - o) (by omega) (by omega)
      rw [e]
      exact hv _ (List.getElem_mem _)
    · exact h j
  intro j
  by_cases hj : 0 ≤ j
  · exact key j hj
  · rw [get_neg _ (by omega)]; exact key 0 (by omega)
end Go.Proofs.YtkcdcbiobkcpmaaDoor.Lm
end
section
namespace Go.Proofs.YtkcdcbiobkcpmaaDoor.Lm
open Go.RowKit Go.Proofs.YtkcdcbiobkcpmaaDoor.PA Go.Proofs.YtkcdcbiobkcpmaaDoorW.PrintWords Go.Proofs.YtkcdcbiobkcpmaaDoorW.PrintLast
def DG : ByteArray := ⟨#[48, 49, 50, 51, 52, 53, 54, 55, 56, 57, 97, 98, 99, 100, 101, 102]⟩
def vd (c : Int) : Int := if 48 ≤ c ∧ c ≤ 57 then c - 48 else if 97 ≤ c ∧ c ≤ 102 then c - 87 else 16
theorem vd_range (c : Int) : 0 ≤ vd c ∧ vd c ≤ 16 := by unfold vd; split <;> (try split) <;> omega
theorem idx_nat : ∀ c : Nat, c < 256 → strings_IndexByte.f DG (c : Int) = some (if vd c = 16 then -1 else vd c) := by decide +kernel
theorem idx_ok {c : Int} (h0 : 0 ≤ c) (h1 : c < 256) : strings_IndexByte.f DG c = some (if vd c = 16 then -1 else vd c) := by
  obtain ⟨n, rfl⟩ := Int.eq_ofNat_of_zero_le h0
  exact idx_nat n (by omega)
theorem val_nat : ∀ c : Nat, c < 256 → drawlotref05_value.f 20 (c : Int) = some (vd c) := by decide +kernel
theorem val_ok {k : Nat} (hk : 20 ≤ k) {c : Int} (h0 : 0 ≤ c) (h1 : c < 256) : drawlotref05_value.f k c = some (vd c) := by
  obtain ⟨n, rfl⟩ := Int.eq_ofNat_of_zero_le h0
  exact at_rounds (g := fun k => drawlotref05_value.f k (n : Int)) (fun k => drawlotref05_value.mono (n : Int) k) (k := 20) (k' := k) hk (val_nat n (by omega))
theorem cont_nat : ∀ c : Nat, c < 256 → DG.data.toList.contains c.toUInt8 = decide (vd (c : Int) ≠ 16) := by decide +kernel
theorem bt_byte (s : ByteArray) (i : Int) : 0 ≤ bt s i ∧ bt s i < 256 := by have := bt_range s i; omega
def AllD (s : ByteArray) : Prop := ∀ j : Nat, j < s.size → vd (bt s j) ≠ 16
theorem bt_get (s : ByteArray) (j : Nat) (h : j < s.data.toList.length) : bt s (j : Int) = ((s.data.toList[j]).toNat : Int) := by
  have hs : j < s.size := by rw [← data_length]; exact h
  rw [← bt_at s (j : Int) (by rw [Int.toNat_natCast]; exact hs)]
  simp [Int.toNat_natCast]
  rfl
theorem cont_ok (s : ByteArray) (j : Nat) (h : j < s.data.toList.length) : DG.data.toList.contains s.data.toList[j] = decide (vd (bt s j) ≠ 16) := by
  rw [bt_get s j h, ← cont_nat _ (UInt8.toNat_lt _)]
  simp
theorem dw_nil {p : UInt8 → Bool} : ∀ {l : List UInt8}, l.dropWhile p = [] ↔ ∀ x ∈ l, p x = true
  | [] => by simp
  | x :: l => by
    rw [List.dropWhile_cons]
    by_cases h : p x = true
    · rw [if_pos h, dw_nil]; simp [h]
    · rw [if_neg h]; simp [h]
theorem trim_nil {s : ByteArray} : Lib.trimS s.data.toList DG.data.toList = [] ↔ AllD s := by
  unfold Lib.trimS Lib.trimLeftS Lib.trimRightS
  constructor
  · intro h j hj
    rw [dw_nil] at h
    have all : ∀ x ∈ s.data.toList.reverse.dropWhile (DG.data.toList.contains ·), DG.data.toList.contains x = true := fun x hx => h x (List.mem_reverse.2 hx)
    have nil : s.data.toList.reverse.dropWhile (DG.data.toList.contains ·) = [] := by
      cases e : s.data.toList.reverse.dropWhile (DG.data.toList.contains ·) with
      | nil => rfl
      | cons x l =>
        have h1 := all x (by rw [e]; exact List.mem_cons_self)
        have h2 := List.head?_dropWhile_not (DG.data.toList.contains ·) s.data.toList.reverse
        rw [e] at h2
        simp only [List.head?_cons] at h2
        rw [h1] at h2
        cases h2
    rw [dw_nil] at nil
    have hl : j < s.data.toList.length := by rw [data_length]; exact hj
    have := nil s.data.toList[j] (List.mem_reverse.2 (List.getElem_mem hl))
    rw [cont_ok s j hl] at this
    exact of_decide_eq_true this
  · intro h
    have nil : s.data.toList.reverse.dropWhile (DG.data.toList.contains ·) = [] := by
      rw [dw_nil]
      intro x hx
      obtain ⟨j, hj, rfl⟩ := List.getElem_of_mem (List.mem_reverse.1 hx)
      rw [cont_ok s j hj]
      exact decide_eq_true (h j (by rw [← data_length]; exact hj))
    rw [nil]
    rfl
def pw (s : ByteArray) (j : Int) : Int := 16 * vd (bt s (2 * j)) + vd (bt s (2 * j + 1))
def pset (s : ByteArray) : Nat → Nat → List Int → List Int
  | 0, _, h => h
  | m + 1, i, h => pset s m (i + 1) (Ar.set 32 h i (pw s i))
theorem get_pset (s : ByteArray) : ∀ (m i : Nat) (h : List Int) (j : Nat), i + m ≤ 32 → Ar.get 32 (pset s m i h) j = if i ≤ j ∧ j < i + m then pw s j else Ar.get 32 h j
  | 0, i, h, j, _ => by rw [if_neg (by omega)]; rfl
  | m + 1, i, h, j, hi => by
    rw [pset, get_pset s m (i + 1) _ j (by omega)]
    by_cases h1 : i + 1 ≤ j ∧ j < i + 1 + m
    · rw [if_pos h1, if_pos (by omega)]
    · rw [if_neg h1, get_set (by omega) (by omega) (by omega)]
      by_cases h2 : (j : Int) = i
      · rw [if_pos h2, if_pos (by omega), h2]
      · rw [if_neg h2, if_neg (by omega)]
theorem or_nat : ∀ a : Nat, a < 16 → ∀ b : Nat, b < 16 → Go.bits .or .i64 (wrap64 ((a : Int) * 16)) (b : Int) % 256 = 16 * (a : Int) + b := by decide +kernel
theorem or_ok {a b : Int} (ha : 0 ≤ a) (ha' : a < 16) (hb : 0 ≤ b) (hb' : b < 16) : Go.bits .or .i64 (wrap64 (a * 16)) b % 256 = 16 * a + b := by
  obtain ⟨a, rfl⟩ := Int.eq_ofNat_of_zero_le ha
  obtain ⟨b, rfl⟩ := Int.eq_ofNat_of_zero_le hb
  exact or_nat a (by omega) b (by omega)
theorem sparse_loop {s : ByteArray} (hs : s.size = 64) (hg : AllD s) : ∀ (m k i : Nat) (h : List Int), i + m = 32 → m < k → sha_Parse.l0 k s (i : Int) h = some (pset s m i h, 0)
  | 0, k, i, h, hi, hk => by
    obtain ⟨k, rfl⟩ : ∃ m, k = m + 1 := ⟨k - 1, by omega⟩
    rw [sha_Parse.l0, if_neg (by omega)]
    rfl
  | m + 1, k, i, h, hi, hk => by
    obtain ⟨k, rfl⟩ : ∃ m, k = m + 1 := ⟨k - 1, by omega⟩
    have e0 : wrap64 (2 * (i : Int)) = 2 * i := w64_id (by omega) (by omega)
    have e1 : wrap64 (2 * (i : Int) + 1) = 2 * i + 1 := w64_id (by omega) (by omega)
    have en : wrap64 ((i : Int) + 1) = ((i + 1 : Nat) : Int) := by rw [w64_id (by omega) (by omega)]; omega
    have g0 := hg (2 * i) (by omega)
    have g1 := hg (2 * i + 1) (by omega)
    rw [show ((2 * i : Nat) : Int) = 2 * (i : Int) by omega] at g0
    rw [show ((2 * i + 1 : Nat) : Int) = 2 * (i : Int) + 1 by omega] at g1
    have b0 := bt_byte s (2 * i)
    have b1 := bt_byte s (2 * i + 1)
    have v0 := vd_range (bt s (2 * i))
    have v1 := vd_range (bt s (2 * i + 1))
    have hz : (s.size : Int) = 64 := by omega
    rw [sha_Parse.l0, if_pos (by omega), e0, e1, if_pos (by omega), if_pos (by omega), show (⟨#[48, 49, 50, 51, 52, 53, 54, 55, 56, 57, 97, 98, 99, 100, 101, 102]⟩ : ByteArray) = DG from rfl, idx_ok b0.1 b0.2, bs, if_pos (by omega), if_pos (by omega), idx_ok b1.1 b1.2, bs, if_pos (by omega), if_neg g0, if_neg g1, or_ok (by omega) (by omega) (by omega) (by omega), en]
    exact sparse_loop hs hg m k (i + 1) _ (by omega) (by omega)
def Z32 : List Int := [0, 0, 0, 0, 0, 0, 0, 0, 0, 0, 0, 0, 0, 0, 0, 0, 0, 0, 0, 0, 0, 0, 0, 0, 0, 0, 0, 0, 0, 0, 0, 0]
instance (s : ByteArray) : Decidable (AllD s) := inferInstanceAs (Decidable (∀ j : Nat, j < s.size → vd (bt s j) ≠ 16))
def parseF (s : ByteArray) : List Int × Int := if s.size = 64 ∧ AllD s then (pset s 32 0 Z32, 0) else (Z32, 2)
theorem z32 : List.replicate 32 (0 : Int) = Z32 := rfl
theorem sparse_ok {k : Nat} (hk : 40 ≤ k) (s : ByteArray) : sha_Parse.f k s = some (parseF s) := by
  obtain ⟨k, rfl⟩ : ∃ m, k = m + 1 := ⟨k - 1, by omega⟩
  unfold sha_Parse.f parseF
  by_cases hs : s.size = 64
  · have ht : strings_Trim.f s DG = some (⟨(Lib.trimS s.data.toList DG.data.toList).toArray⟩ : ByteArray) := by
      unfold strings_Trim.f
      exact if_pos ⟨by omega, by decide, by decide +kernel⟩
    rw [if_pos (by omega), show (⟨#[48, 49, 50, 51, 52, 53, 54, 55, 56, 57, 97, 98, 99, 100, 101, 102]⟩ : ByteArray) = DG from rfl, ht, bs, Lib.toList_data, z32]
    by_cases hg : AllD s
    · rw [if_pos ⟨hs, hg⟩, trim_nil.2 hg, sha_Parse.j0, if_neg (by decide)]
      exact sparse_loop hs hg 32 k 0 _ (by omega) (by omega)
    · have : (Lib.trimS s.data.toList DG.data.toList != []) = true := by
        rw [bne_iff_ne]
        exact fun e => hg (trim_nil.1 e)
      rw [if_neg (fun e => hg e.2), sha_Parse.j0]
      exact if_pos this
  · rw [if_neg (by omega), if_neg (fun e => hs e.1), sha_Parse.j0]
    rfl
theorem rparse_loop {s : ByteArray} (hs : s.size = 64) : ∀ (m k i : Nat) (h : List Int), i + m = 32 → m + 20 < k → (∀ j : Nat, j < 2 * i → vd (bt s j) ≠ 16) →
    (AllD s → drawlotref05_Parse.l0 k s (i : Int) h = some (pset s m i h, 0)) ∧ (¬ AllD s → drawlotref05_Parse.l0 k s (i : Int) h = some (Z32, 2))
  | 0, k, i, h, hi, hk, hb => by
    obtain ⟨k, rfl⟩ : ∃ m, k = m + 1 := ⟨k - 1, by omega⟩
    refine ⟨fun _ => ?_, fun n => absurd (fun j hj => hb j (by omega)) n⟩
    rw [drawlotref05_Parse.l0, if_neg (by omega)]
    rfl
  | m + 1, k, i, h, hi, hk, hb => by
    obtain ⟨k, rfl⟩ : ∃ m, k = m + 1 := ⟨k - 1, by omega⟩
    have e0 : wrap64 (2 * (i : Int)) = 2 * i := w64_id (by omega) (by omega)
    have e1 : wrap64 (2 * (i : Int) + 1) = 2 * i + 1 := w64_id (by omega) (by omega)
    have en : wrap64 ((i : Int) + 1) = ((i + 1 : Nat) : Int) := by rw [w64_id (by omega) (by omega)]; omega
    have b0 := bt_byte s (2 * i)
    have b1 := bt_byte s (2 * i + 1)
    have v0 := vd_range (bt s (2 * i))
    have v1 := vd_range (bt s (2 * i + 1))
    have c0 : ((2 * i : Nat) : Int) = 2 * (i : Int) := by omega
    have c1 : ((2 * i + 1 : Nat) : Int) = 2 * (i : Int) + 1 := by omega
    have hz : (s.size : Int) = 64 := by omega
    have go : drawlotref05_Parse.l0 (k + 1) s (i : Int) h = if vd (bt s (2 * i)) > 15 then some (Z32, 2) else if vd (bt s (2 * i + 1)) > 15 then some (Z32, 2) else drawlotref05_Parse.l0 k s ((i + 1 : Nat) : Int) (Ar.set 32 h i (wrap64 (wrap64 (16 * vd (bt s (2 * i))) + vd (bt s (2 * i + 1))) % 256)) := by
      rw [drawlotref05_Parse.l0, if_pos (by omega), e0, e1, if_pos (by omega), if_pos (by omega), val_ok (by omega) b0.1 b0.2, bs, if_pos (by omega), if_pos (by omega), val_ok (by omega) b1.1 b1.2, bs]
      rw [if_pos (show (0 : Int) ≤ i by omega), en]
      rfl
    rw [go]
    by_cases g0 : vd (bt s (2 * i)) > 15
    · rw [if_pos g0]
      exact ⟨fun a => absurd (by omega : vd (bt s (2 * i)) = 16) (by have := a (2 * i) (by omega); rwa [c0] at this), fun _ => rfl⟩
    · rw [if_neg g0]
      by_cases g1 : vd (bt s (2 * i + 1)) > 15
      · rw [if_pos g1]
        exact ⟨fun a => absurd (by omega : vd (bt s (2 * i + 1)) = 16) (by have := a (2 * i + 1) (by omega); rwa [c1] at this), fun _ => rfl⟩
      · have ew : wrap64 (wrap64 (16 * vd (bt s (2 * i))) + vd (bt s (2 * i + 1))) % 256 = pw s i := by
          rw [w64_id (x := 16 * vd (bt s (2 * i))) (by omega) (by omega), w64_id (by omega) (by omega)]
          unfold pw
          omega
        rw [if_neg g1, ew]
        refine rparse_loop hs m k (i + 1) _ (by omega) (by omega) fun j hj => ?_
        by_cases h1 : j < 2 * i
        · exact hb j h1
        · rcases (show j = 2 * i ∨ j = 2 * i + 1 by omega) with rfl | rfl
          · rw [c0]; omega
          · rw [c1]; omega
theorem rparse_ok {k : Nat} (hk : 60 ≤ k) (s : ByteArray) : drawlotref05_Parse.f k s = some (parseF s) := by
  unfold drawlotref05_Parse.f parseF
  by_cases hs : s.size = 64
  · rw [if_pos (by omega), z32]
    have := rparse_loop hs 32 k 0 Z32 (by omega) (by omega) (fun j hj => by omega)
    by_cases hg : AllD s
    · rw [if_pos ⟨hs, hg⟩]; exact this.1 hg
    · rw [if_neg (fun e => hg e.2)]; exact this.2 hg
  · rw [if_neg (by omega), if_neg (fun e => hs e.1)]
    rfl
def dg (x : Int) : UInt8 := (bt DG x).toNat.toUInt8
def txs (h : List Int) : Nat → Nat → List UInt8
  | 0, _ => []
  | m + 1, i => dg (Ar.get 32 h i / 16) :: dg (Ar.get 32 h i % 16) :: txs h m (i + 1)
theorem txs_len (h : List Int) : ∀ m i, (txs h m i).length = 2 * m
  | 0, _ => rfl
  | m + 1, i => by rw [txs, List.length_cons, List.length_cons, txs_len h m (i + 1)]; omega
theorem txs_get (h : List Int) : ∀ (m i n : Nat), n < m → (txs h m i)[2 * n]? = some (dg (Ar.get 32 h (i + n : Nat) / 16)) ∧ (txs h m i)[2 * n + 1]? = some (dg (Ar.get 32 h (i + n : Nat) % 16))
  | 0, i, n, hn => by omega
  | m + 1, i, 0, _ => ⟨rfl, rfl⟩
  | m + 1, i, n + 1, hn => by
    have := txs_get h m (i + 1) n (by omega)
    rw [show i + 1 + n = i + (n + 1) by omega] at this
    rw [txs, show 2 * (n + 1) = 2 * n + 1 + 1 by omega, List.getElem?_cons_succ, List.getElem?_cons_succ, List.getElem?_cons_succ, List.getElem?_cons_succ]
    exact this
def textF (h : List Int) : ByteArray := ⟨(txs h 32 0).toArray⟩
theorem stext_loop {h : List Int} (hh : InR 32 256 h) : ∀ (m k i : Nat) (acc : List UInt8), i + m = 32 → m < k → acc.length = 2 * i → sha_Text.l0 k h acc (i : Int) = some (⟨(acc ++ txs h m i).toArray⟩ : ByteArray)
  | 0, k, i, acc, hi, hk, _ => by
    obtain ⟨k, rfl⟩ : ∃ m, k = m + 1 := ⟨k - 1, by omega⟩
    rw [sha_Text.l0, if_neg (by omega), txs, List.append_nil]
  | m + 1, k, i, acc, hi, hk, ha => by
    obtain ⟨k, rfl⟩ : ∃ m, k = m + 1 := ⟨k - 1, by omega⟩
    rw [sha_Text.l0, if_pos (by omega), if_pos (by omega), if_pos ⟨hh i, by omega⟩, show (i : Int) + 1 = ((i + 1 : Nat) : Int) by omega, stext_loop hh m k (i + 1) _ (by omega) (by omega) (by simp; omega), List.append_assoc]
    rfl
theorem stext_ok {k : Nat} (hk : 40 ≤ k) {h : List Int} (hh : InR 32 256 h) : sha_Text.f k h = some (textF h) := by
  unfold sha_Text.f textF
  have := stext_loop hh 32 k 0 [] (by omega) (by omega) rfl
  rw [List.nil_append] at this
  exact this
theorem cut_nat : ∀ a : Nat, a < 16 → DG.extract a (a + 1) = ⟨#[dg (a : Int)]⟩ := by decide +kernel
theorem cut_ok {a : Int} (h0 : 0 ≤ a) (h1 : a < 16) : DG.extract a.toNat (a + 1).toNat = ⟨#[dg a]⟩ := by
  obtain ⟨n, rfl⟩ := Int.eq_ofNat_of_zero_le h0
  rw [show ((n : Int) + 1).toNat = n + 1 by omega, Int.toNat_natCast]
  exact cut_nat n (by omega)
theorem app1 (l : List UInt8) (b : UInt8) : (⟨l.toArray⟩ : ByteArray) ++ (⟨#[b]⟩ : ByteArray) = ⟨(l ++ [b]).toArray⟩ := by
  apply ByteArray.ext
  simp
theorem rtext_loop {h : List Int} (hh : InR 32 256 h) : ∀ (m k i : Nat) (acc : List UInt8), i + m = 32 → m < k → acc.length = 2 * i → drawlotref05_Text.l0 k (⟨acc.toArray⟩ : ByteArray) (i : Int) h = some (⟨(acc ++ txs h m i).toArray⟩ : ByteArray)
  | 0, k, i, acc, hi, hk, _ => by
    obtain ⟨k, rfl⟩ : ∃ m, k = m + 1 := ⟨k - 1, by omega⟩
    rw [drawlotref05_Text.l0, if_neg (by omega), txs, List.append_nil]
  | m + 1, k, i, acc, hi, hk, ha => by
    obtain ⟨k, rfl⟩ : ∃ m, k = m + 1 := ⟨k - 1, by omega⟩
    have hx := hh (i : Int)
    have en : wrap64 ((i : Int) + 1) = ((i + 1 : Nat) : Int) := by rw [w64_id (by omega) (by omega)]; omega
    have q0 : Int.tdiv (Ar.get 32 h i) 16 % 256 = Ar.get 32 h i / 16 := by rw [Int.tdiv_eq_ediv_of_nonneg hx.1]; omega
    have q1 : Int.tmod (Ar.get 32 h i) 16 = Ar.get 32 h i % 16 := Int.tmod_eq_emod_of_nonneg hx.1
    have q2 : (Ar.get 32 h i / 16 + 1) % 256 = Ar.get 32 h i / 16 + 1 := by omega
    have q3 : (Ar.get 32 h i % 16 + 1) % 256 = Ar.get 32 h i % 16 + 1 := by omega
    have sz : ∀ l : List UInt8, (⟨l.toArray⟩ : ByteArray).size = l.length := fun l => by simp [ByteArray.size]
    rw [drawlotref05_Text.l0, if_pos (by omega), if_pos (by omega), q0, q1, q2, q3, show (⟨#[48, 49, 50, 51, 52, 53, 54, 55, 56, 57, 97, 98, 99, 100, 101, 102]⟩ : ByteArray) = DG from rfl, cut_ok (by omega) (by omega), cut_ok (by omega) (by omega), app1, app1, if_pos (by omega), if_pos (by omega), if_pos (by omega), if_pos (by rw [sz, show (⟨#[dg (Ar.get 32 h i / 16)]⟩ : ByteArray).size = 1 from rfl]; omega), if_pos (by omega), if_pos (by omega), if_pos (by omega), if_pos (by rw [sz, show (⟨#[dg (Ar.get 32 h i % 16)]⟩ : ByteArray).size = 1 from rfl, List.length_append, List.length_singleton]; omega), en, rtext_loop hh m k (i + 1) _ (by omega) (by omega) (by simp; omega), List.append_assoc, List.append_assoc]
    rfl
theorem rtext_ok {k : Nat} (hk : 40 ≤ k) {h : List Int} (hh : InR 32 256 h) : drawlotref05_Text.f k h = some (textF h) := by
  unfold drawlotref05_Text.f textF
  have := rtext_loop hh 32 k 0 [] (by omega) (by omega) rfl
  rw [List.nil_append] at this
  exact this
theorem dg_vd_nat : ∀ a : Nat, a < 16 → vd ((dg (a : Int)).toNat : Int) = a := by decide +kernel
theorem dg_vd {a : Int} (h0 : 0 ≤ a) (h1 : a < 16) : vd ((dg a).toNat : Int) = a := by
  obtain ⟨n, rfl⟩ := Int.eq_ofNat_of_zero_le h0
  exact dg_vd_nat n (by omega)
theorem vd_dg_nat : ∀ c : Nat, c < 256 → vd (c : Int) ≠ 16 → dg (vd (c : Int)) = c.toUInt8 := by decide +kernel
theorem vd_dg {c : UInt8} (h : vd (c.toNat : Int) ≠ 16) : dg (vd (c.toNat : Int)) = c := by
  rw [vd_dg_nat _ (UInt8.toNat_lt _) h]
  simp
theorem textF_size (h : List Int) : (textF h).size = 64 := by
  show (txs h 32 0).toArray.size = 64
  rw [List.size_toArray, txs_len]
theorem bt_text (h : List Int) (n : Nat) (hn : n < 32) : bt (textF h) (2 * (n : Int)) = ((dg (Ar.get 32 h n / 16)).toNat : Int) ∧ bt (textF h) (2 * (n : Int) + 1) = ((dg (Ar.get 32 h n % 16)).toNat : Int) := by
  have := txs_get h 32 0 n hn
  rw [Nat.zero_add] at this
  have hl := txs_len h 32 0
  rw [show 2 * (n : Int) = ((2 * n : Nat) : Int) by omega, show ((2 * n : Nat) : Int) + 1 = ((2 * n + 1 : Nat) : Int) by omega, bt_get _ _ (show 2 * n < (txs h 32 0).length by omega), bt_get _ _ (show 2 * n + 1 < (txs h 32 0).length by omega)]
  constructor
  · have e := this.1
    rw [List.getElem?_eq_getElem (by omega), Option.some.injEq] at e
    exact congrArg (fun b : UInt8 => (b.toNat : Int)) e
  · have e := this.2
    rw [List.getElem?_eq_getElem (by omega), Option.some.injEq] at e
    exact congrArg (fun b : UInt8 => (b.toNat : Int)) e
theorem text_all {h : List Int} (hh : InR 32 256 h) : AllD (textF h) := by
  intro j hj
  rw [textF_size] at hj
  have hx := hh ((j / 2 : Nat) : Int)
  have := bt_text h (j / 2) (by omega)
  rcases (show j = 2 * (j / 2) ∨ j = 2 * (j / 2) + 1 by omega) with e | e
  · rw [show (j : Int) = 2 * ((j / 2 : Nat) : Int) by omega, this.1, dg_vd (by omega) (by omega)]
    omega
  · rw [show (j : Int) = 2 * ((j / 2 : Nat) : Int) + 1 by omega, this.2, dg_vd (by omega) (by omega)]
    omega
theorem back_hash {h : List Int} (hh : InR 32 256 h) : (parseF (textF h)).2 = 0 ∧ Ar.eqb 32 (parseF (textF h)).1 h = true := by
  have ha := text_all hh
  unfold parseF
  rw [if_pos ⟨textF_size h, ha⟩]
  refine ⟨rfl, eqb_of fun j h0 h1 => ?_⟩
  obtain ⟨n, rfl⟩ := Int.eq_ofNat_of_zero_le h0
  have := bt_text h n (by omega)
  have hx := hh (n : Int)
  rw [get_pset _ 32 0 _ n (by omega), if_pos (by omega)]
  unfold pw
  rw [this.1, this.2, dg_vd (by omega) (by omega), dg_vd (by omega) (by omega)]
  omega
theorem in_of {s : ByteArray} {P : List Int} (hs : s.size = 64) (hd : AllD s) (hg : ∀ n : Nat, n < 32 → Ar.get 32 P n = pw s n) : InR 32 256 P := by
  have key : ∀ n : Nat, n < 32 → ∀ j : Int, j = n → 0 ≤ Ar.get 32 P j ∧ Ar.get 32 P j < 256 := fun n hn j e => by
    rw [e, hg n hn]
    unfold pw
    have g0 := hd (2 * n) (by omega)
    have g1 := hd (2 * n + 1) (by omega)
    rw [show ((2 * n : Nat) : Int) = 2 * (n : Int) by omega] at g0
    rw [show ((2 * n + 1 : Nat) : Int) = 2 * (n : Int) + 1 by omega] at g1
    have v0 := vd_range (bt s (2 * n))
    have v1 := vd_range (bt s (2 * n + 1))
    omega
  intro j
  by_cases h1 : j < 32
  · by_cases h0 : 0 ≤ j
    · obtain ⟨n, rfl⟩ := Int.eq_ofNat_of_zero_le h0
      exact key n (by omega) _ rfl
    · rw [get_neg _ (by omega)]
      exact key 0 (by omega) 0 rfl
  · rw [get_out _ (by omega)]
    omega
theorem parse_pos {s : ByteArray} (h : s.size = 64 ∧ AllD s) : ∃ P, parseF s = (P, 0) ∧ ∀ n : Nat, n < 32 → Ar.get 32 P n = pw s n := by
  refine ⟨pset s 32 0 Z32, by unfold parseF; rw [if_pos h], fun n hn => ?_⟩
  rw [get_pset _ 32 0 _ n (by omega), if_pos (by omega)]
theorem parse_neg {s : ByteArray} (h : ¬ (s.size = 64 ∧ AllD s)) : parseF s = (Z32, 2) := by unfold parseF; rw [if_neg h]
theorem parse_in (s : ByteArray) : InR 32 256 (parseF s).1 := by
  by_cases h : s.size = 64 ∧ AllD s
  · obtain ⟨P, e, hg⟩ := parse_pos h
    rw [e]
    exact in_of h.1 h.2 hg
  · rw [parse_neg h, ← z32]
    exact InR.zero 32 (by omega)
theorem text_ext {h : List Int} {s : ByteArray} (hs : s.size = 64) (H : ∀ n : Nat, n < 32 → s.data.toList[2 * n]? = some (dg (Ar.get 32 h n / 16)) ∧ s.data.toList[2 * n + 1]? = some (dg (Ar.get 32 h n % 16))) : textF h = s := by
  have hl := txs_len h 32 0
  apply ByteArray.ext
  apply Array.ext'
  refine List.ext_getElem? fun j => ?_
  show (txs h 32 0)[j]? = s.data.toList[j]?
  have hl2 : s.data.toList.length = 64 := by rw [data_length, hs]
  by_cases hj : j < 64
  · have a := txs_get h 32 0 (j / 2) (by omega)
    rw [Nat.zero_add] at a
    have b := H (j / 2) (by omega)
    rcases (show j = 2 * (j / 2) ∨ j = 2 * (j / 2) + 1 by omega) with e | e
    · rw [e, a.1, b.1]
    · rw [e, a.2, b.2]
  · rw [List.getElem?_eq_none (by omega), List.getElem?_eq_none (by omega)]
theorem back_text {s : ByteArray} (h : (parseF s).2 = 0) : textF (parseF s).1 = s := by
  by_cases c : s.size = 64 ∧ AllD s
  · obtain ⟨P, e, hg⟩ := parse_pos c
    rw [e]
    refine text_ext c.1 fun n hn => ?_
    have hl2 : s.data.toList.length = 64 := by rw [data_length, c.1]
    have g0 := c.2 (2 * n) (by omega)
    have g1 := c.2 (2 * n + 1) (by omega)
    rw [bt_get s _ (by omega)] at g0 g1
    have v0 := vd_range ((s.data.toList[2 * n]'(by omega)).toNat : Int)
    have v1 := vd_range ((s.data.toList[2 * n + 1]'(by omega)).toNat : Int)
    have ep : pw s (n : Int) = 16 * vd ((s.data.toList[2 * n]'(by omega)).toNat : Int) + vd ((s.data.toList[2 * n + 1]'(by omega)).toNat : Int) := by
      unfold pw
      rw [show 2 * (n : Int) = ((2 * n : Nat) : Int) by omega, show ((2 * n : Nat) : Int) + 1 = ((2 * n + 1 : Nat) : Int) by omega, bt_get s _ (by omega), bt_get s _ (by omega)]
    rw [hg n hn, ep, show (16 * vd ((s.data.toList[2 * n]'(by omega)).toNat : Int) + vd ((s.data.toList[2 * n + 1]'(by omega)).toNat : Int)) / 16 = vd ((s.data.toList[2 * n]'(by omega)).toNat : Int) by omega, show (16 * vd ((s.data.toList[2 * n]'(by omega)).toNat : Int) + vd ((s.data.toList[2 * n + 1]'(by omega)).toNat : Int)) % 16 = vd ((s.data.toList[2 * n + 1]'(by omega)).toNat : Int) by omega, vd_dg g0, vd_dg g1]
    exact ⟨List.getElem?_eq_getElem (by omega), List.getElem?_eq_getElem (by omega)⟩
  · rw [parse_neg c] at h
    cases h
end Go.Proofs.YtkcdcbiobkcpmaaDoor.Lm
end
section
namespace Go.Proofs.YtkcdcbiobkcpmaaDoor.Pure
open Go.RowKit Go.Proofs.YtkcdcbiobkcpmaaDoor.PA Go.Proofs.YtkcdcbiobkcpmaaDoorW.PrintWords Go.Proofs.YtkcdcbiobkcpmaaDoorW.PrintLast Go.Proofs.YtkcdcbiobkcpmaaDoor.Lm
theorem ShaTexts : drawlotlaw05_ShaTexts.Pure := by
  intro h s hh _
  refine ⟨2000, ?_⟩
  unfold drawlotlaw05_ShaTexts.f
  rw [alive05 _ (by omega), bs, if_pos rfl]
  by_cases c : (s.size : Int) > 200
  · rw [if_pos c]
  · have hr : InR 32 256 h := InR.of_mem (by decide) hh.1 fun x hx => wf8 (hh.2 x hx)
    have b := back_hash hr
    rw [if_neg c, sparse_ok (by omega), bs, rparse_ok (by omega), bs, stext_ok (by omega) hr, bs, sparse_ok (by omega), bs, if_pos (eqb_self _ _), if_pos rfl, bs, rtext_ok (by omega) hr, bs, if_pos rfl, if_pos b.1, if_pos b.2]
    by_cases e : (parseF s).2 = 0
    · rw [if_pos e, stext_ok (by omega) (parse_in s), bs, back_text e, beq_self_eq_true]
    · rw [if_neg e]
end Go.Proofs.YtkcdcbiobkcpmaaDoor.Pure
end
section
namespace Go.Proofs.YtkcdcbiobkcpmaaDoor.shaTexts
open Go.ChangeShapes Go.WideShapes Go.ChangeAt Go.RowKit
open Go.ChangeMaps (open_string shut_string)
set_option linter.unusedVariables false
theorem own : ownKnob Tryd.prog.godebug = none := by kernel_rfl
theorem laidOut : laidOutB Tryd.prog = true := by kernel_rfl
def IsRow (k : IntKind) (w : World) (a : Option Addr) (len cap : Nat) (zs : List Int) : Prop :=
  (a = none ∧ len = 0 ∧ cap = 0 ∧ zs = []) ∨
  ∃ x, a = some x ∧ len ≤ cap ∧ cap ≤ maxLen ∧ zs.length = cap ∧ (∀ i, i < zs.length → w.cell? (x.add i) = some (.int k (zs.getD i 0))) ∧ ∀ n ∈ zs, (Lit.int k n).wf = true
theorem door_met (os : Os) (args : Array Value) : laidMetH Tryd.prog Rows.shaTextsRow.laid ((World.laidAll Tryd.prog os Rows.shaTextsRow.laid).forCall (fun _ _ => 0) ⟨#[], args, []⟩).memory := by
  rw [MakeChecks.laidMetH_plain _ _ _ (by kernel_rfl)]
  exact laidMet_laidAll _ (by kernel_rfl) (by kernel_rfl)
set_option maxRecDepth 100000 in
theorem lifted (os : Os) (started : os.Started) (H : Type) (enc : TypeId × Value → H) :
    ReturnsInHanded {} Tryd.checked os 6 .any (fun w args => (Rows.shaTextsSpec.pre enc Tryd.prog Tryd.f6 Rows.shaTextsRow.domain false w args ∧ laidMetH Tryd.prog Rows.shaTextsRow.laid w) ∧ sizedMet enc Tryd.prog Tryd.f6 (OpenSpec.ofChange Rows.shaTextsSpec) false w args) (Rows.shaTextsSpec.post enc Tryd.prog Tryd.f6 false true false false) := by
  refine returnsInHanded_of_change_and (C := Tryd.checked) (X := (fun w _ => laidMetH Tryd.prog Rows.shaTextsRow.laid w)) (fun _ _ _ hh h => h.of_heap hh) own started (by kernel_rfl) Tryd.func6
    (ChangeSpec.witness_shaped (enc := enc) (C := Tryd.checked) (os := os) (X := (fun w _ => laidMetH Tryd.prog Rows.shaTextsRow.laid w)) false (World.laidAll Tryd.prog os Rows.shaTextsRow.laid) #[.agg #[.int .u8 0, .int .u8 0, .int .u8 0, .int .u8 0, .int .u8 0, .int .u8 0, .int .u8 0, .int .u8 0, .int .u8 0, .int .u8 0, .int .u8 0, .int .u8 0, .int .u8 0, .int .u8 0, .int .u8 0, .int .u8 0, .int .u8 0, .int .u8 0, .int .u8 0, .int .u8 0, .int .u8 0, .int .u8 0, .int .u8 0, .int .u8 0, .int .u8 0, .int .u8 0, .int .u8 0, .int .u8 0, .int .u8 0, .int .u8 0, .int .u8 0, .int .u8 0], .string ByteArray.empty] 8 (World.laidAll_os _ _ _) (World.shaped_of_ZipB (by kernel_rfl) (by kernel_rfl)) (by kernel_rfl) (by kernel_rfl) (by kernel_rfl) (door_met os _)) ?_
  intro W base args ds gs before hval0 hW hcnd hsz0 hL _
  clear hL
  have hsz : (DataW.weightsEach Tryd.prog (Tryd.f6.params.toList ++ Rows.shaTextsSpec.plain.varTypes Tryd.prog) (ds ++ gs)).all (· ≤ reachBytes) = true := hsz0
  have hval : ∀ (j : Nat) t v, Tryd.f6.params[j]? = some t → args[j]? = some v → Value.okWide Tryd.prog W .any base t v := hval0
  have hW' := hW
  obtain ⟨p, q, hA0, hV, rfl, hfz, hnd⟩ := hW
  have hA : DataW.TrodAll enc Tryd.prog W 0 (fun _ => true) true Tryd.f6.params.toList args.toList ds p := hA0
  rw [Tryd.params6] at hA hval hsz
  obtain ⟨v0, vs0, d0, ds0, p0, q0, hargs, rfl, rfl, h0, r0⟩ := trodAll_cons hA
  obtain ⟨v1, vs1, d1, ds1, p1, q1, rfl, rfl, rfl, h1, r1⟩ := trodAll_cons r0
  obtain ⟨rfl, rfl, rfl⟩ := trodAll_nil r1
  obtain rfl : args = #[v0, v1] := by cases args; simp_all
  obtain ⟨rfl, rfl⟩ := trodVars_none hV
  have k0 := h0
  have lt0 : ∀ x ∈ p0, x.block < W.heap.size := by obtain ⟨m, hm⟩ := k0; exact DataW.trod_lt m _ _ _ hm
  obtain ⟨a0, rfl, w0⟩ := Ar.open_arr Tryd.underlying26 Tryd.underlying5 (by kernel_rfl) (by kernel_rfl) (hval 0 26 v0 rfl rfl) h0
  obtain ⟨a1, rfl, rfl, rfl, y1⟩ := open_string Tryd.underlying9 (hval 1 9 v1 rfl rfl) h1
  have w1 : a1.size ≤ 140737488351232 := by
    have z := sized_string hsz (j := 1) (t := 9) rfl rfl
    rw [Array.length_toList] at z
    exact z
  clear hA0 hval0 hsz0 hsz
  refine (PA.drawlotlaw05_ShaTexts.walk Pure.ShaTexts a0 a1 W w0 w1).mono fun e W' ⟨he, bel⟩ => ?_
  subst he
  exact ⟨_, rfl, _, _, _, [], _, [], hW', trodAll_mk1 (shut_bool Tryd.underlying4 _), (trodAll_cons_mk (Below.trod laidOut (by kernel_rfl) (of_decide_eq_true (by kernel_rfl)) k0 bel lt0) (trodAll_cons_mk (shut_string Tryd.underlying9 y1) trodAll_mk0)), rfl, bel.frame _, fun h => by cases h⟩
theorem over : Rows.shaTextsRow.holds Tryd.pinned (OpenSpec.ofChange Rows.shaTextsSpec) :=
  OpenClaim.holds_of_wide 6 Tryd.f6 rfl rfl rfl rfl rfl rfl rfl ⟨rfl, rfl, rfl, rfl, rfl⟩ rfl rfl rfl rfl rfl (by kernel_rfl) Tryd.func6 (by kernel_rfl)
    (of_decide_eq_true (by kernel_rfl)) (by unfold Func.isWrapper; first | (rw [if_pos (by decide +kernel)]; kernel_rfl) | (rw [if_neg (by decide +kernel)]; exact ⟨rfl, rfl⟩))
    (fun os started H enc _ => lifted os started H enc)
theorem proved : Rows.ShaTextsCardSaid :=
  Claim7.holds_tied_plain_at .later [] [.data, .pinned] true (true, "311753296e7158f837a4b53852611107cba6fa893b0917bfdbf65c92a330119a") false
    over (fun _ h => by cases h) (by kernel_rfl) (fun _ h => by cases h) shaTexts_row_tie rfl ⟨rfl, rfl⟩ (by kernel_rfl) rfl
    (fun f fn hf hfn => by
      obtain rfl : f = 6 := Option.some.inj ((show Tryd.prog.funcNamed "drawlot/drawlotlaw05.ShaTexts" = some 6 by kernel_rfl).symm.trans hf) |>.symm
      obtain rfl : fn = Tryd.f6 := (Option.some.inj (Tryd.func6.symm.trans hfn)).symm
      exact ⟨by kernel_rfl, fun j t ht => by
        rw [Tryd.params6] at ht
        have hm : t ∈ [26, 9] := by simpa using Array.mem_of_getElem? ht
        have hall : ([26, 9].all fun u => !Tryd.prog.wantsStandIn u) = true := by kernel_rfl
        exact (show Tryd.prog.wantsStandIn t = false by simpa using List.all_eq_true.1 hall t hm)⟩)
    (by kernel_rfl)
#print axioms proved
end Go.Proofs.YtkcdcbiobkcpmaaDoor.shaTexts
namespace Go.Proofs.YtkcdcbiobkcpmaaDoor
theorem shaTexts_holds : Rows.ShaTextsCardSaid := shaTexts.proved
end Go.Proofs.YtkcdcbiobkcpmaaDoor
end
