/- Proved here: LawShaCuts, the statement of the row that this text's last part names, and all that it rests on: words on walks, contracts of the program's functions, plain lemmas. Conditions: none but those of the given row. (part 6 of 6) -/
import Derived.Test.YtkcdcbiobkcpmaaDoorZC4
import Derived.Test.YtkcdcbiobkcpmaaDoorRows
import Derived.Test.YtkcdcbiobkcpmaaDoorTie
import Derived.Test.YtkcdcbiobkcpmaaDoorCards
section
namespace Go.Proofs.YtkcdcbiobkcpmaaDoor.PA
open Go.RowKit Go.Proofs.YtkcdcbiobkcpmaaDoorW.PrintWords Go.Proofs.YtkcdcbiobkcpmaaDoorW.PrintLast Go.Proofs.YtkcdcbiobkcpmaaDoorW.PrintMore
attribute [local go_sem] max2_int min2_int max_two min_two max_three min_three max_four min_four
set_option linter.unusedVariables false
set_option linter.unusedSimpArgs false
def drawlotlaw05_ShaCuts.l0 : Nat → List Int → List Int → List Int → Int → List Int → List Int → Int → Option (Bool)
 | 0, _, _, _, _, _, _, _ => none
 | k + 1, x0, x1, x6, x7, x485000, x485001, x485002 => if x7 ≤ (x1.length : Int) then (if x7 < (x1.length : Int) then (if 0 ≤ x7 then (if (wrap64 ((x6.length : Int) + 1)) = 0 then (none) else (if 0 ≤ (Int.tmod (wrap64 (rd x1 x7)) (wrap64 ((x6.length : Int) + 1))) then (if (Int.tmod (wrap64 (rd x1 x7)) (wrap64 ((x6.length : Int) + 1))) ≤ (x6.length : Int) then ((sha_Write.f k x485000 x485001 x485002 (([(x6.take ((Int.tmod (wrap64 (rd x1 x7)) (wrap64 ((x6.length : Int) + 1))) : Int).toNat)] : List (List Int)))).bind fun bt494 => ((sha_Finish.f k bt494.1 bt494.2.1 bt494.2.2.1).bind fun bt501 => (if bt494.2.2.2 = 0 then (if bt501.2 = 0 then (if 0 ≤ (wrap64 ((wrap64 ((x0.length : Int) - (x6.length : Int))) + (Int.tmod (wrap64 (rd x1 x7)) (wrap64 ((x6.length : Int) + 1))))) then (if (wrap64 ((wrap64 ((x0.length : Int) - (x6.length : Int))) + (Int.tmod (wrap64 (rd x1 x7)) (wrap64 ((x6.length : Int) + 1))))) ≤ (x0.length : Int) then ((drawlotref05_Sum.f k (x0.take ((wrap64 ((wrap64 ((x0.length : Int) - (x6.length : Int))) + (Int.tmod (wrap64 (rd x1 x7)) (wrap64 ((x6.length : Int) + 1))))) : Int).toNat)).bind fun t509 => (if ((Ar.eqb 32 bt501.1 t509) = true) then (drawlotlaw05_ShaCuts.l0 k x0 x1 (x6.drop ((Int.tmod (wrap64 (rd x1 x7)) (wrap64 ((x6.length : Int) + 1))) : Int).toNat) (wrap64 (x7 + 1)) bt494.1 bt494.2.1 bt494.2.2.1) else (none))) else (none)) else (none)) else (none)) else (none)))) else (none)) else (none))) else (none)) else (if 0 ≤ (x6.length : Int) then (if (x6.length : Int) ≤ (x6.length : Int) then ((sha_Write.f k x485000 x485001 x485002 (([(x6.take ((x6.length : Int) : Int).toNat)] : List (List Int)))).bind fun bt523 => ((sha_Finish.f k bt523.1 bt523.2.1 bt523.2.2.1).bind fun bt530 => (if bt523.2.2.2 = 0 then (if bt530.2 = 0 then (if 0 ≤ (wrap64 ((wrap64 ((x0.length : Int) - (x6.length : Int))) + (x6.length : Int))) then (if (wrap64 ((wrap64 ((x0.length : Int) - (x6.length : Int))) + (x6.length : Int))) ≤ (x0.length : Int) then ((drawlotref05_Sum.f k (x0.take ((wrap64 ((wrap64 ((x0.length : Int) - (x6.length : Int))) + (x6.length : Int))) : Int).toNat)).bind fun t538 => (if ((Ar.eqb 32 bt530.1 t538) = true) then (drawlotlaw05_ShaCuts.l0 k x0 x1 (x6.drop ((x6.length : Int) : Int).toNat) (wrap64 (x7 + 1)) bt523.1 bt523.2.1 bt523.2.2.1) else (none))) else (none)) else (none)) else (none)) else (none)))) else (none)) else (none))) else (if (x6.length : Int) = 0 then ((sha_Sum.f k (([x0] : List (List Int)))).bind fun t547 => ((drawlotref05_Sum.f k x0).bind fun t548 => (some (Ar.eqb 32 t547 t548)))) else (none))
def drawlotlaw05_ShaCuts.f (k : Nat) (l0 : List Int) (l1 : List Int) : Option (Bool) := (drawlotlaw05_alive.f k).bind fun t478 => (if t478 = true then (if (l0.length : Int) > 1000 then (some true) else (if (l1.length : Int) > 20 then (some true) else ((sha_New.f).bind fun bt479 => (drawlotlaw05_ShaCuts.l0 k l0 l1 l0 0 bt479.1 bt479.2.1 bt479.2.2)))) else (none))
theorem drawlotlaw05_ShaCuts.mono_l : ∀ k, (∀ y0 y1 y2 y3 y4 y5 y6, LeO (drawlotlaw05_ShaCuts.l0 k y0 y1 y2 y3 y4 y5 y6) (drawlotlaw05_ShaCuts.l0 (k + 1) y0 y1 y2 y3 y4 y5 y6))
 | 0 => fun _ _ _ _ _ _ _ r h => by simp [drawlotlaw05_ShaCuts.l0] at h
 | k + 1 => by
  have ih0 := drawlotlaw05_ShaCuts.mono_l k
  ·intro y0 y1 y2 y3 y4 y5 y6
   unfold drawlotlaw05_ShaCuts.l0
   repeat' first
   | (with_reducible exact ih0 _ _ _ _ _ _ _)
   | (with_reducible exact drawlotlaw05_alive.mono _)
   | (with_reducible exact drawlotref05_Sum.mono _ _)
   | (with_reducible exact sha_Finish.mono _ _ _ _)
   | (with_reducible exact sha_Sum.mono _ _)
   | (with_reducible exact sha_Write.mono _ _ _ _ _)
   | (with_reducible exact LeO.refl _)
   | (with_reducible exact LeO.none _)
   | (with_reducible refine LeO.ite ?_ ?_)
   | (with_reducible refine LeO.bind ?_ (fun _ => ?_))
   | exact ih0 _ _ _ _ _ _ _
   | exact drawlotlaw05_alive.mono _
   | exact drawlotref05_Sum.mono _ _
   | exact sha_Finish.mono _ _ _ _
   | exact sha_Sum.mono _ _
   | exact sha_Write.mono _ _ _ _ _
   | exact LeO.none _
   | refine LeO.ite ?_ ?_
   | refine LeO.bind ?_ (fun _ => ?_)
theorem drawlotlaw05_ShaCuts.mono : ∀ a0 a1 k, LeO (drawlotlaw05_ShaCuts.f k a0 a1) (drawlotlaw05_ShaCuts.f (k + 1) a0 a1) := by
 intro a0 a1 k
 have ih0 := drawlotlaw05_ShaCuts.mono_l k
 unfold drawlotlaw05_ShaCuts.f
 repeat' first
   | (with_reducible exact ih0 _ _ _ _ _ _ _)
   | (with_reducible exact drawlotlaw05_alive.mono _)
   | (with_reducible exact drawlotref05_Sum.mono _ _)
   | (with_reducible exact sha_Finish.mono _ _ _ _)
   | (with_reducible exact sha_Sum.mono _ _)
   | (with_reducible exact sha_Write.mono _ _ _ _ _)
   | (with_reducible exact LeO.refl _)
   | (with_reducible exact LeO.none _)
   | (with_reducible refine LeO.ite ?_ ?_)
   | (with_reducible refine LeO.bind ?_ (fun _ => ?_))
   | exact ih0 _ _ _ _ _ _ _
   | exact drawlotlaw05_alive.mono _
   | exact drawlotref05_Sum.mono _ _
   | exact sha_Finish.mono _ _ _ _
   | exact sha_Sum.mono _ _
   | exact sha_Write.mono _ _ _ _ _
   | exact LeO.none _
   | refine LeO.ite ?_ ?_
   | refine LeO.bind ?_ (fun _ => ?_)
def drawlotlaw05_ShaCuts.T13 : Bool × List (List Nat × List Nat) := (true, [([], []), ([], []), ([], []), ([1, 2], [1, 2]), ([3], [3]), ([0, 4], [0, 4]), ([5], [5]), ([6], [6]), ([6], [6]), ([], []), ([9, 7, 5, 0, 1, 2, 3, 4, 5, 6, 7, 9], [7, 9]), ([8, 10, 0, 1, 2, 3, 4, 5, 6, 7, 8, 9, 10], [8])])
def drawlotlaw05_ShaCuts.B13 : List Nat := [0, 0, 0, 6, 14, 31, 63, 127, 127, 0, 767, 2047]
theorem drawlotlaw05_ShaCuts.tab13 : rtab .any (opsOf Tryd.f5 13) = drawlotlaw05_ShaCuts.T13 := by kernel_rfl
theorem drawlotlaw05_ShaCuts.bits13 : waitsOk drawlotlaw05_ShaCuts.T13.2 drawlotlaw05_ShaCuts.B13 = true := by kernel_rfl
def drawlotlaw05_ShaCuts.T15 : Bool × List (List Nat × List Nat) := (true, [([], []), ([0], [0]), ([1], [1]), ([2], [2]), ([3, 2], [2, 3]), ([2, 4], [2, 4]), ([5, 2], [5]), ([6], [6]), ([6], [6]), ([6], [6]), ([9, 6], [6, 9]), ([6], [6]), ([11, 6], [6, 11]), ([10, 12, 6], [6, 10, 12]), ([6], [6]), ([13, 14, 6], [6, 13, 14]), ([8, 15, 6], [6, 8, 15]), ([16, 6, 6], [6, 16]), ([7, 17, 6], [6, 7, 17]), ([6, 18], [6, 18])])
def drawlotlaw05_ShaCuts.B15 : List Nat := [0, 1, 3, 7, 15, 31, 63, 127, 127, 127, 639, 127, 2175, 7807, 127, 32383, 65407, 130943, 262143, 524287]
theorem drawlotlaw05_ShaCuts.tab15 : rtab .any (opsOf Tryd.f5 15) = drawlotlaw05_ShaCuts.T15 := by kernel_rfl
theorem drawlotlaw05_ShaCuts.bits15 : waitsOk drawlotlaw05_ShaCuts.T15.2 drawlotlaw05_ShaCuts.B15 = true := by kernel_rfl
set_option maxHeartbeats 8000000 in
set_option maxRecDepth 100000 in
theorem drawlotlaw05_ShaCuts.calls (k : Nat) (P0_ : Nat → Prop) (A0 : Option Addr) (c0 : Nat) (l0 : List Int) (A1 : Option Addr) (c1 : Nat) (l1 : List Int) (r : Bool) (w : World) (hs0 : Kd.V (Kd.int .u8) 5 w w.heap.size (fun k_ => P0_ k_) (.slice A0 l0.length c0) l0) (hr1 : Kd.C (Kd.int .u16) w A1 l1.length l1) (hc1 : l1.length ≤ c1) (h : drawlotlaw05_ShaCuts.f k l0 l1 = some r) :
  Calls Tryd.prog 5 #[.slice A0 l0.length c0, .slice A1 l1.length c1] w fun e w' => e = .returned (.bool r) ∧ Below w.heap.size w w' := by
 have hu36 := Tryd.underlying36
 have HO0 := Aside0.mk (show Kd.V (Kd.int .u8) 5 w w.heap.size (fun k_ => (P0_ k_ ∨ w.heap.size ≤ k_)) (.slice A0 l0.length c0) l0 from Kd.V_mono hs0 (fun k_ hk => .inl hk))
 have HR1 := Aside0.mk hr1
 have HC1 := Aside0.mk hc1
 clear hr1 hc1
 have HB := Aside0.mk (Below.refl w.heap.size w)
 have H : ((drawlotlaw05_alive.f k).bind fun t478 => (if t478 = true then (if (l0.length : Int) > 1000 then (some true) else (if (l1.length : Int) > 20 then (some true) else ((sha_New.f).bind fun bt479 => (drawlotlaw05_ShaCuts.l0 k l0 l1 l0 0 bt479.1 bt479.2.1 bt479.2.2)))) else (none))) = some r := h
 clear h
 replace H := Option.bind_eq_some_iff.mp H
 obtain ⟨t478, A30, H⟩ := H
 replace H : (if t478 = true then (if (l0.length : Int) > 1000 then (some true) else (if (l1.length : Int) > 20 then (some true) else ((sha_New.f).bind fun bt479 => (drawlotlaw05_ShaCuts.l0 k l0 l1 l0 0 bt479.1 bt479.2.1 bt479.2.2)))) else (none)) = some r := H
 have A3 := Aside0.mk A30
 clear A30
 by_cases c4 : t478 = true
 ·subst c4
  have H1 : (if (l0.length : Int) > 1000 then (some true) else (if (l1.length : Int) > 20 then (some true) else ((sha_New.f).bind fun bt479 => (drawlotlaw05_ShaCuts.l0 k l0 l1 l0 0 bt479.1 bt479.2.1 bt479.2.2)))) = some r := by rw [if_pos rfl] at H; exact H
  clear H
  have H := H1
  clear H1
  by_cases c5 : (l0.length : Int) > 1000
  ·rw [if_pos c5] at H
   have c5b0 : decide (1000 < (l0.length : Int)) = true := decide_eq_true c5
   have c5b1 : decide (1000 < l0.length) = true := decide_eq_true (by omega)
   clear c5
   obtain rfl := Option.some.inj H
   go_enter Tryd.func5, Tryd.ntmps5
   try simp only [List.append]
   go_wp2_with (first | ((with_reducible refine gate_callee (f := 7) rfl ?_); refine goesL_ (some 13) rfl rfl Tryd.func7 (by kernel_rfl) rfl #[] rfl ql ?_; (with_reducible refine (drawlotlaw05_alive.calls k  true _ A3.out).mono ?_); rintro e w6 ⟨rfl, hb⟩; refine ⟨_, rfl, ?_⟩; replace HO0 := Aside0.mk (Kd.V_below (qv HO0) hb); replace HB := Aside0.mk (below_step (qs HB) hb); (try clear hb); (try clear hb2); (try clear hk); (try clear hi)))
   go_ret
   exact ⟨by first | rfl | (simp [errW_none, errW_some] <;> rfl) | (simp [*, errW_none, errW_some] <;> rfl), by repeat (first | (with_reducible first | exact HB.out | apply below_alloc | apply pw_below_drewN | apply below_drew1) | exact HB.out)⟩
  ·rw [if_neg c5] at H
   have c5b0 : decide (1000 < (l0.length : Int)) = false := decide_eq_false c5
   have c5b1 : decide (1000 < l0.length) = false := decide_eq_false (by omega)
   clear c5
   by_cases c7 : (l1.length : Int) > 20
   ·rw [if_pos c7] at H
    have c7b0 : decide (20 < (l1.length : Int)) = true := decide_eq_true c7
    have c7b1 : decide (20 < l1.length) = true := decide_eq_true (by omega)
    clear c7
    obtain rfl := Option.some.inj H
    go_enter Tryd.func5, Tryd.ntmps5
    try simp only [List.append]
    go_wp2_with (first | ((with_reducible refine gate_callee (f := 7) rfl ?_); refine goesL_ (some 13) rfl rfl Tryd.func7 (by kernel_rfl) rfl #[] rfl ql ?_; (with_reducible refine (drawlotlaw05_alive.calls k  true _ A3.out).mono ?_); rintro e w8 ⟨rfl, hb⟩; refine ⟨_, rfl, ?_⟩; replace HO0 := Aside0.mk (Kd.V_below (qv HO0) hb); replace HB := Aside0.mk (below_step (qs HB) hb); (try clear hb); (try clear hb2); (try clear hk); (try clear hi)))
    go_ret
    exact ⟨by first | rfl | (simp [errW_none, errW_some] <;> rfl) | (simp [*, errW_none, errW_some] <;> rfl), by repeat (first | (with_reducible first | exact HB.out | apply below_alloc | apply pw_below_drewN | apply below_drew1) | exact HB.out)⟩
   ·rw [if_neg c7] at H
    have c7b0 : decide (20 < (l1.length : Int)) = false := decide_eq_false c7
    have c7b1 : decide (20 < l1.length) = false := decide_eq_false (by omega)
    clear c7
    replace H := Option.bind_eq_some_iff.mp H
    obtain ⟨⟨t479, t480, t483⟩, A90, H⟩ := H
    replace H : (drawlotlaw05_ShaCuts.l0 k l0 l1 l0 0 t479 t480 t483) = some r := H
    have A9 := Aside0.mk A90
    clear A90
    have H' := Aside0.mk H
    clear H
    go_enter Tryd.func5, Tryd.ntmps5
    try simp only [List.append]
    go_wp2_with (first | ((with_reducible refine gate_callee (f := 7) rfl ?_); refine goesL_ (some 13) rfl rfl Tryd.func7 (by kernel_rfl) rfl #[] rfl ql ?_; (with_reducible refine (drawlotlaw05_alive.calls k  true _ A3.out).mono ?_); rintro e w10 ⟨rfl, hb⟩; refine ⟨_, rfl, ?_⟩; replace HO0 := Aside0.mk (Kd.V_below (qv HO0) hb); replace HB := Aside0.mk (below_step (qs HB) hb); (try clear hb); (try clear hb2); (try clear hk); (try clear hi)) | ((with_reducible refine gate_callee (f := 20) rfl ?_); refine goesL_ (some 23) rfl rfl Tryd.func20 (by kernel_rfl) rfl #[] rfl ql ?_; (with_reducible refine (sha_New.calls  t479 t480 t483 _ A9.out).mono ?_); rintro e w11 ⟨v481, rfl, ho0, hb⟩; refine ⟨_, rfl, ?_⟩; replace HO0 := Aside0.mk (Kd.V_elder' (qv HO0) (Kd.R_base ho0) hb); have HO482 := Aside0.mk (Kd.R_lower (Kd.R_newM (M := fun k_ => (w.heap.size ≤ k_)) ho0 (below_size (qs HB)) (fun k_ h_ => h_)) (below_size (qs HB))); replace HB := Aside0.mk (below_step (qs HB) hb); (try clear hb); (try clear hb2); (try clear hk); (try clear hi); (try clear ho0)) | ((with_reducible refine gate_dst (N := 5) rfl ?_); (try (refine gate_guard (by rfl) ?_; dsimp only)); refine qF (N := 5) (cs := ((Ar.cells .u32 8 (List.replicate 8 0)) ++ #[.slice none 0 0, .int .u64 0])) (t := 36) ?_; intro gb484 hg w12 hbox hb; replace HO0 := Aside0.mk (Kd.V_below (Kd.V_elderB (qv HO0) gb484 (Nat.le_of_eq hg.symm)) hb); replace HO482 := Aside0.mk (Kd.R_below (qr HO482) hb); have BK484 := Aside0.mk (hbox); have GW484 := Aside0.mk ((qe HB hg : w.heap.size ≤ gb484)); have GE484 := Aside0.mk ((qe HB hg : w.heap.size ≤ gb484)); replace HB := Aside0.mk (below_step (qs HB) hb); clear hb hbox hg) | ((with_reducible refine gate_store (t := 36) (p := 5) rfl ?_); refine Ar.gstore_event rfl rfl rfl (D := ((Ar.cells .u32 8 t479) ++ #[v481, .int .u64 t483])) qz (g := gb484) rfl qg (qb BK484) (by simp [Ar.cells_size]) (by repeat (first | (with_reducible refine Ar.all_app ?_ ?_) | (with_reducible exact Ar.cells_one _ _ _) | (focus (simp [Value.oneCell']; done)) | (focus (simp [(show (v481 : Value).oneCell' = true from by (have e_ := Kd.R_slice HO482.out; obtain ⟨_, _, e_⟩ := e_; rw [e_]; rfl))]; first | done | rfl | (repeat' constructor))) | rfl)) ?_; intro w13 hbk_ hg; replace HO0 := Aside0.mk (Kd.V_grown (qv HO0) hg (by intro k_ hk e_; exact (hk.2) (Option.some.inj e_))); replace HO482 := Aside0.mk (Kd.R_mono (Kd.R_grown (Kd.R_types (qr HO482) BK484.out (by decide)) hg (fun k_ hk_ e_ => hk_.2 (Option.some.inj e_))) (fun _ h_ => h_.1)); replace BK484 := Aside0.mk (hbk_); replace HB := Aside0.mk (Below.grown (qs HB) hg ((below_size (qs HB))) (fun _ e_ => by cases e_; exact GE484.out)); clear hbk_ hg))
    go_loopg [6, 7] k (fun kq v6 v7 w' => ∃ (x6_1 : List Int) (x7_1 : Int) (x485000_1 : List Int) (x485001_1 : List Int) (x485002_1 : Int) (u485001 : Value), v7 = .int .i64 x7_1 ∧ Aside0 (drawlotlaw05_ShaCuts.l0 kq l0 l1 x6_1 x7_1 x485000_1 x485001_1 x485002_1 = some r) ∧ Aside0 (kq ≤ k) ∧ Aside0 (Kd.V (Kd.int .u8) 5 w' w.heap.size (fun k_ => (P0_ k_ ∨ w.heap.size ≤ k_) ∧ k_ ≠ gb484) (.slice A0 l0.length c0) l0) ∧ Aside0 (Kd.V (Kd.int .u8) 5 w' w.heap.size (fun k_ => (P0_ k_ ∨ w.heap.size ≤ k_) ∧ k_ ≠ gb484) v6 x6_1) ∧ Aside0 (Kd.V (Kd.int .u8) 5 w' w.heap.size (fun k_ => (P0_ k_ ∨ w.heap.size ≤ k_) ∧ k_ ≠ gb484) u485001 x485001_1) ∧ Aside0 (w'.heap[gb484]? = some (.cells (Ar.cells .u32 8 x485000_1 ++ #[u485001, .int .u64 x485002_1]) 36 (0, 0))) ∧ Aside0 (Below w.heap.size w w'))
    case atStart => exact ⟨(l0), (0), (t479), (t480), (t483), (v481), (by first | rfl | (simp; done) | (simp [*]; done)), H', ⟨Nat.le_refl _⟩, ⟨by (with_reducible repeat (first | apply Kd.V_alloc | apply Kd.V_drewN | apply Kd.V_drew)); exact Kd.V_mono HO0.out (fun _ hk => ⟨hk.1.1, hk.2⟩)⟩, ⟨by (with_reducible repeat (first | apply Kd.V_alloc | apply Kd.V_drewN | apply Kd.V_drew)); exact Kd.V_mono HO0.out (fun _ hk => ⟨hk.1.1, hk.2⟩)⟩, ⟨Kd.V_mono (Kd.R_V (Kd.R_types (qr HO482) BK484.out (by decide))) (fun k_ hk => by first | exact ⟨.inr hk.1, hk.2⟩ | exact ⟨.inr hk.1.1, hk.2⟩ | exact ⟨.inr hk.1.2, hk.2⟩ | exact (.inr hk))⟩, ⟨by (with_reducible repeat (first | refine blk_drewN ?_ _ | refine blk_drew ?_ | refine blk_alloc ?_ _)); exact BK484.out⟩, ⟨by repeat (first | (with_reducible first | exact HB.out | apply below_alloc | apply pw_below_drewN | apply below_drew1 | refine below_set ?_ GE484.out) | exact HB.out)⟩⟩
    case round =>
     clear H'
     try clear c1
     try clear c2
     try clear p2
     try clear c4
     try clear c5
     try clear c5b0
     try clear c5b1
     try clear c7
     try clear c7b0
     try clear c7b1
     obtain ⟨x6_1, x7_1, x485000_1, x485001_1, x485002_1, u485001, rfl, HA, HK1, HO_0, HO_6, HO_485001, BK484, HB⟩ := hrel
     cases gk with
     | zero => exact absurd HA.out (by simp [drawlotlaw05_ShaCuts.l0])
     | succ k1 =>
      have H := HA.out
      clear HA
      simp only [drawlotlaw05_ShaCuts.l0] at H
      by_cases c14 : x7_1 ≤ (l1.length : Int)
      ·rw [if_pos c14] at H
       have c14b0 : decide (x7_1 ≤ (l1.length : Int)) = true := decide_eq_true c14
       clear c14
       by_cases c15 : x7_1 < (l1.length : Int)
       ·rw [if_pos c15] at H
        have c15b0 : decide (x7_1 < (l1.length : Int)) = true := decide_eq_true c15
        clear c15
        by_cases c16 : 0 ≤ x7_1
        ·rw [if_pos c16] at H
         have c16b0 : decide (0 ≤ x7_1) = true := decide_eq_true c16
         clear c16
         by_cases c17 : (wrap64 ((x6_1.length : Int) + 1)) = 0
         ·rw [if_pos c17] at H
          exact absurd H (by simp)
         ·rw [if_neg c17] at H
          have c17b0 : ((wrap64 ((x6_1.length : Int) + 1)) == 0) = false := beq_eq_false_iff_ne.mpr c17
          have c17b1 : ((wrap64 ((x6_1.length : Int) + 1)) != 0) = true := bne_iff_ne.mpr c17
          obtain ⟨ji18, hji18⟩ : ∃ j_ : Int, (Int.tmod (wrap64 (rd l1 x7_1)) (wrap64 ((x6_1.length : Int) + 1))) = j_ := ⟨_, rfl⟩
          replace H : (if 0 ≤ (ji18) then (if (ji18) ≤ (x6_1.length : Int) then ((sha_Write.f k1 x485000_1 x485001_1 x485002_1 (([(x6_1.take ((ji18) : Int).toNat)] : List (List Int)))).bind fun bt494 => ((sha_Finish.f k1 bt494.1 bt494.2.1 bt494.2.2.1).bind fun bt501 => (if bt494.2.2.2 = 0 then (if bt501.2 = 0 then (if 0 ≤ (wrap64 ((wrap64 ((l0.length : Int) - (x6_1.length : Int))) + (ji18))) then (if (wrap64 ((wrap64 ((l0.length : Int) - (x6_1.length : Int))) + (ji18))) ≤ (l0.length : Int) then ((drawlotref05_Sum.f k1 (l0.take ((wrap64 ((wrap64 ((l0.length : Int) - (x6_1.length : Int))) + (ji18))) : Int).toNat)).bind fun t509 => (if ((Ar.eqb 32 bt501.1 t509) = true) then (drawlotlaw05_ShaCuts.l0 k1 l0 l1 (x6_1.drop ((ji18) : Int).toNat) (wrap64 (x7_1 + 1)) bt494.1 bt494.2.1 bt494.2.2.1) else (none))) else (none)) else (none)) else (none)) else (none)))) else (none)) else (none)) = some r := by first | (rw [hji18] at H; exact H) | (simp only [hji18] at H ⊢; exact H)
          by_cases c19 : 0 ≤ (ji18)
          ·rw [if_pos c19] at H
           have c19b0 := eq_true c19
           have c19b1 : decide (0 ≤ (ji18)) = true := decide_eq_true c19
           clear c19
           by_cases c20 : (ji18) ≤ (x6_1.length : Int)
           ·rw [if_pos c20] at H
            have c20b0 := eq_true c20
            have c20b1 : decide ((ji18) ≤ (x6_1.length : Int)) = true := decide_eq_true c20
            clear c20
            obtain ⟨y486, hy486⟩ : ∃ y_ : List Int, y_ = (x6_1.take ((ji18) : Int).toNat) := ⟨_, rfl⟩
            replace H : ((sha_Write.f k1 x485000_1 x485001_1 x485002_1 (([y486] : List (List Int)))).bind fun bt494 => ((sha_Finish.f k1 bt494.1 bt494.2.1 bt494.2.2.1).bind fun bt501 => (if bt494.2.2.2 = 0 then (if bt501.2 = 0 then (if 0 ≤ (wrap64 ((wrap64 ((l0.length : Int) - (x6_1.length : Int))) + (ji18))) then (if (wrap64 ((wrap64 ((l0.length : Int) - (x6_1.length : Int))) + (ji18))) ≤ (l0.length : Int) then ((drawlotref05_Sum.f k1 (l0.take ((wrap64 ((wrap64 ((l0.length : Int) - (x6_1.length : Int))) + (ji18))) : Int).toNat)).bind fun t509 => (if ((Ar.eqb 32 bt501.1 t509) = true) then (drawlotlaw05_ShaCuts.l0 k1 l0 l1 (x6_1.drop ((ji18) : Int).toNat) (wrap64 (x7_1 + 1)) bt494.1 bt494.2.1 bt494.2.2.1) else (none))) else (none)) else (none)) else (none)) else (none)))) = some r := by first | (rw [hy486]; with_reducible exact H) | (have H2_ := (Option.bind_some _ _).symm.trans H; rw [hy486]; with_reducible exact H2_) | (have H2_ := (Option.bind_some _ _).symm.trans H; with_reducible exact H2_) | with_reducible exact H | (rw [hy486]; exact H) | exact H
            have Ny486 := Aside0.mk hy486
            clear hy486
            obtain ⟨y491, hy491⟩ : ∃ y_ : List (List Int), y_ = (([y486] : List (List Int))) := ⟨_, rfl⟩
            replace H : ((sha_Write.f k1 x485000_1 x485001_1 x485002_1 y491).bind fun bt494 => ((sha_Finish.f k1 bt494.1 bt494.2.1 bt494.2.2.1).bind fun bt501 => (if bt494.2.2.2 = 0 then (if bt501.2 = 0 then (if 0 ≤ (wrap64 ((wrap64 ((l0.length : Int) - (x6_1.length : Int))) + (ji18))) then (if (wrap64 ((wrap64 ((l0.length : Int) - (x6_1.length : Int))) + (ji18))) ≤ (l0.length : Int) then ((drawlotref05_Sum.f k1 (l0.take ((wrap64 ((wrap64 ((l0.length : Int) - (x6_1.length : Int))) + (ji18))) : Int).toNat)).bind fun t509 => (if ((Ar.eqb 32 bt501.1 t509) = true) then (drawlotlaw05_ShaCuts.l0 k1 l0 l1 (x6_1.drop ((ji18) : Int).toNat) (wrap64 (x7_1 + 1)) bt494.1 bt494.2.1 bt494.2.2.1) else (none))) else (none)) else (none)) else (none)) else (none)))) = some r := by first | (rw [hy491]; with_reducible exact H) | (have H2_ := (Option.bind_some _ _).symm.trans H; rw [hy491]; with_reducible exact H2_) | (have H2_ := (Option.bind_some _ _).symm.trans H; with_reducible exact H2_) | with_reducible exact H | (rw [hy491]; exact H) | exact H
            have Ny491 := Aside0.mk hy491
            clear hy491
            replace H := Option.bind_eq_some_iff.mp H
            obtain ⟨⟨t494, t495, t498, t499⟩, A210, H⟩ := H
            replace H : ((sha_Finish.f k1 t494 t495 t498).bind fun bt501 => (if t499 = 0 then (if bt501.2 = 0 then (if 0 ≤ (wrap64 ((wrap64 ((l0.length : Int) - (x6_1.length : Int))) + (ji18))) then (if (wrap64 ((wrap64 ((l0.length : Int) - (x6_1.length : Int))) + (ji18))) ≤ (l0.length : Int) then ((drawlotref05_Sum.f k1 (l0.take ((wrap64 ((wrap64 ((l0.length : Int) - (x6_1.length : Int))) + (ji18))) : Int).toNat)).bind fun t509 => (if ((Ar.eqb 32 bt501.1 t509) = true) then (drawlotlaw05_ShaCuts.l0 k1 l0 l1 (x6_1.drop ((ji18) : Int).toNat) (wrap64 (x7_1 + 1)) t494 t495 t498) else (none))) else (none)) else (none)) else (none)) else (none))) = some r := H
            have A21 := Aside0.mk A210
            clear A210
            replace H := Option.bind_eq_some_iff.mp H
            obtain ⟨⟨t501, t502⟩, A220, H⟩ := H
            replace H : (if t499 = 0 then (if t502 = 0 then (if 0 ≤ (wrap64 ((wrap64 ((l0.length : Int) - (x6_1.length : Int))) + (ji18))) then (if (wrap64 ((wrap64 ((l0.length : Int) - (x6_1.length : Int))) + (ji18))) ≤ (l0.length : Int) then ((drawlotref05_Sum.f k1 (l0.take ((wrap64 ((wrap64 ((l0.length : Int) - (x6_1.length : Int))) + (ji18))) : Int).toNat)).bind fun t509 => (if ((Ar.eqb 32 t501 t509) = true) then (drawlotlaw05_ShaCuts.l0 k1 l0 l1 (x6_1.drop ((ji18) : Int).toNat) (wrap64 (x7_1 + 1)) t494 t495 t498) else (none))) else (none)) else (none)) else (none)) else (none)) = some r := H
            have A22 := Aside0.mk A220
            clear A220
            by_cases c23 : t499 = 0
            ·rw [if_pos c23] at H
             have c23b0 : (t499 == 0) = true := beq_iff_eq.mpr c23
             have c23b1 : (t499 != 0) = false := bne_eq_false_iff_eq.mpr c23
             clear c23
             by_cases c24 : t502 = 0
             ·rw [if_pos c24] at H
              have c24b0 : (t502 == 0) = true := beq_iff_eq.mpr c24
              have c24b1 : (t502 != 0) = false := bne_eq_false_iff_eq.mpr c24
              clear c24
              obtain ⟨ji25, hji25⟩ : ∃ j_ : Int, (wrap64 ((wrap64 ((l0.length : Int) - (x6_1.length : Int))) + (ji18))) = j_ := ⟨_, rfl⟩
              replace H : (if 0 ≤ (ji25) then (if (ji25) ≤ (l0.length : Int) then ((drawlotref05_Sum.f k1 (l0.take ((ji25) : Int).toNat)).bind fun t509 => (if ((Ar.eqb 32 t501 t509) = true) then (drawlotlaw05_ShaCuts.l0 k1 l0 l1 (x6_1.drop ((ji18) : Int).toNat) (wrap64 (x7_1 + 1)) t494 t495 t498) else (none))) else (none)) else (none)) = some r := by first | (rw [hji25] at H; exact H) | (simp only [hji25] at H ⊢; exact H)
              (try rw [hji25] at A21)
              (try rw [hji25] at A22)
              have hji25w : (IntKind.i64.wrap ((wrap64 ((l0.length : Int) - (x6_1.length : Int))) + (ji18))) = ji25 := (i64_w _).trans hji25
              by_cases c26 : 0 ≤ (ji25)
              ·rw [if_pos c26] at H
               have c26b0 := eq_true c26
               have c26b1 : decide (0 ≤ (ji25)) = true := decide_eq_true c26
               clear c26
               by_cases c27 : (ji25) ≤ (l0.length : Int)
               ·rw [if_pos c27] at H
                have c27b0 := eq_true c27
                have c27b1 : decide ((ji25) ≤ (l0.length : Int)) = true := decide_eq_true c27
                clear c27
                obtain ⟨y504, hy504⟩ : ∃ y_ : List Int, y_ = (l0.take ((ji25) : Int).toNat) := ⟨_, rfl⟩
                replace H : ((drawlotref05_Sum.f k1 y504).bind fun t509 => (if ((Ar.eqb 32 t501 t509) = true) then (drawlotlaw05_ShaCuts.l0 k1 l0 l1 (x6_1.drop ((ji18) : Int).toNat) (wrap64 (x7_1 + 1)) t494 t495 t498) else (none))) = some r := by first | (rw [hy504]; with_reducible exact H) | (have H2_ := (Option.bind_some _ _).symm.trans H; rw [hy504]; with_reducible exact H2_) | (have H2_ := (Option.bind_some _ _).symm.trans H; with_reducible exact H2_) | with_reducible exact H | (rw [hy504]; exact H) | exact H
                have Ny504 := Aside0.mk hy504
                clear hy504
                replace H := Option.bind_eq_some_iff.mp H
                obtain ⟨t509, A280, H⟩ := H
                replace H : (if ((Ar.eqb 32 t501 t509) = true) then (drawlotlaw05_ShaCuts.l0 k1 l0 l1 (x6_1.drop ((ji18) : Int).toNat) (wrap64 (x7_1 + 1)) t494 t495 t498) else (none)) = some r := H
                have A28 := Aside0.mk A280
                clear A280
                by_cases c29 : ((Ar.eqb 32 t501 t509) = true)
                ·rw [if_pos c29] at H
                 have c29b0 : (Ar.eqb 32 t501 t509) = true := c29
                 clear c29
                 have c30b0 := eq_true (of_decide_eq_true qa : 0 ≤ (ji18))
                 have c31b0 := eq_true (of_decide_eq_true qa : (ji18) ≤ (x6_1.length : Int))
                 obtain ⟨y510, hy510⟩ : ∃ y_ : List Int, y_ = (x6_1.drop ((ji18) : Int).toNat) := ⟨_, rfl⟩
                 replace H : (drawlotlaw05_ShaCuts.l0 k1 l0 l1 y510 (wrap64 (x7_1 + 1)) t494 t495 t498) = some r := by first | (rw [hy510]; with_reducible exact H) | (have H2_ := (Option.bind_some _ _).symm.trans H; rw [hy510]; with_reducible exact H2_) | (have H2_ := (Option.bind_some _ _).symm.trans H; with_reducible exact H2_) | with_reducible exact H | (rw [hy510]; exact H) | exact H
                 have Ny510 := Aside0.mk hy510
                 clear hy510
                 have H' := Aside0.mk H
                 clear H
                 obtain ⟨Ao32, co32, eo32⟩ := Kd.V_slice HO_6.out
                 subst eo32
                 have p485 : 0 ≤ (x7_1 : Int) := of_decide_eq_true qa
                 have q485 : x7_1 < (l1.length : Int) := of_decide_eq_true qa
                 obtain ⟨ad485, e485, hx485_0⟩ := Kd.at_int HR1.out x7_1 p485 q485
                 cases e485
                 replace hx485_0 := (HB.out.cell (World.block_lt_of_cell? w _ hx485_0)).trans hx485_0
                 replace p485 := eq_true p485
                 replace q485 := eq_true q485
                 obtain ⟨Ao33, co33, eo33⟩ := Kd.V_slice HO_485001.out
                 subst eo33
                 try go_wp2
                 replace HO_0 := Aside0.mk (Kd.V_drew HO_0.out)
                 replace HO_6 := Aside0.mk (Kd.V_drew HO_6.out)
                 replace HO_485001 := Aside0.mk (Kd.V_drew HO_485001.out)
                 replace BK484 := Aside0.mk (blk_drew BK484.out)
                 replace HB := Aside0.mk (below_drew1 HB.out)
                 have q35 : ((ji18) : Int) ≤ ((x6_1.length : Int) : Int) := of_decide_eq_true qa
                 obtain ⟨i035, hi035, _, hsz35, _⟩ := info_parts info5
                 have hroom35 : x6_1.length ≤ co32 := (Kd.V_reads' HO_6.out).2.1
                 have hC35 : Kd.F (Kd.int .u8) _ _ Ao32 x6_1.length x6_1 := (Kd.V_at (base := w.heap.size) HO_6.out).2.2
                 have hcut35 := cut_to (P := Tryd.prog) 29 5 .i64 Tryd.underlying29 hi035 Ao32 x6_1.length co32 (ji18) qo q35 hroom35
                 have hr35 := Kd.F_take (m := ((ji18) : Int).toNat) hC35 (by omega)
                 have hy35 : y486.length = ((ji18) : Int).toNat := (by rw [Ny486.out, List.length_take]; omega)
                 rw [← Ny486.out] at hr35
                 rw [← hy35] at hcut35
                 have HO490 := Aside0.mk (show Kd.V (Kd.int .u8) 5 _ w.heap.size _ (.slice Ao32 y486.length co32) y486 from Kd.V_mk (by omega) hr35)
                 have HC490 := Aside0.mk (show y486.length ≤ co32 from by omega)
                 clear hr35 hC35 hroom35 hi035 hsz35
                 have KY35 := Aside0.mk hy35
                 clear hy35
                 replace q35 := eq_true q35
                 refine start_ (n := 12) (S := fun w' => w'.heap[gb484]? = some (.cells ((Ar.cells .u32 8 x485000_1) ++ #[.slice Ao33 x485001_1.length co33, .int .u64 x485002_1]) 36 (0, 0)) ∧ w'.cell? ⟨gb484, 8, none⟩ = some (.slice Ao33 x485001_1.length co33) ∧ w'.cell? ⟨gb484, 9, none⟩ = some (.int .u64 x485002_1)) (ds := []) #[false, false, false, false, false, false, false, false, false, false, false, false] (by kernel_rfl) rfl rfl ⟨BK484.out, (blk_cell BK484.out 8).trans qc, (blk_cell BK484.out 9).trans qc⟩ (fun hHeld => ?_); refine with_tabW drawlotlaw05_ShaCuts.tab13 drawlotlaw05_ShaCuts.bits13 (fun HT_ HW_ => ?_)
                 generalize wr.drew = w34 at HO_0 HO_6 HO_485001 BK484 HB HO490 hHeld ⊢
                 refine pure_ (i := 1) (N := some 48) (v := ?_) (a' := ?_) #[false, true, false, false, false, false, false, false, false, false, false, false] rfl rfl (any_of HT_.out (by kernel_rfl)) (fun _ _ _ h => h) (Or.inl ⟨by rfl, ?_⟩) ?_ ?_
                 rotate_left
                 ·intro w'
                  go_simp
                  with_reducible rfl
                 rotate_left
                 ·simp only [Act.put, List.setIfInBounds_toArray, List.set_cons_zero, List.set_cons_succ, i64_w, i32_w]
                  rfl
                 refine pure_ (i := 2) (N := some 49) (v := ?_) (a' := ?_) #[false, true, true, false, false, false, false, false, false, false, false, false] rfl rfl (any_of HT_.out (by kernel_rfl)) (fun _ _ _ h => h) (Or.inl ⟨by rfl, ?_⟩) ?_ ?_
                 rotate_left
                 ·intro w'
                  go_simp
                  with_reducible rfl
                 rotate_left
                 ·simp only [Act.put, List.setIfInBounds_toArray, List.set_cons_zero, List.set_cons_succ, i64_w, i32_w]
                  rfl
                 refine pure_ (i := 3) (N := some 50) (v := ?_) (a' := ?_) #[false, true, true, true, false, false, false, false, false, false, false, false] rfl rfl (any_of HT_.out (by kernel_rfl)) (fun _ _ _ h => h) (Or.inl ⟨by rfl, ?_⟩) ?_ ?_
                 rotate_left
                 ·intro w'
                  go_simp
                  with_reducible rfl
                 rotate_left
                 ·simp only [Act.put, List.setIfInBounds_toArray, List.set_cons_zero, List.set_cons_succ, i64_w, i32_w]
                  rfl
                 refine take_ (i := 0) (N := some 47) (v := ?_) (a' := ?_) #[true, true, true, true, false, false, false, false, false, false, false, false] rfl rfl (take_ofW HT_.out HW_.out (by kernel_rfl)) (fun _ _ _ h => h) (Or.inl ⟨by rfl, ?_⟩) hHeld ?_ ?_
                 rotate_left
                 ·rintro w' ⟨s0, s1, s2⟩
                  first | (refine (Ar.gload_run rfl Tryd.underlying36 rfl (D := ((Ar.cells .u32 8 x485000_1) ++ #[.slice Ao33 x485001_1.length co33, .int .u64 x485002_1])) qz rfl (Ar.blk_part (by assumption) Ar.in_whole)).trans ?_; with_reducible rfl) | (go_simp; with_reducible rfl)
                 rotate_left
                 ·simp only [Act.put, List.setIfInBounds_toArray, List.set_cons_zero, List.set_cons_succ, i64_w, i32_w]
                  rfl
                 refine join_ (σ := Value × Value × Nat) 2 #[true, true, true, true, true, true, true, true, true, true, false, false] (fun s_ => [(51, s_.1), (52, .tuple #[.agg ((Ar.cells .u32 8 t494) ++ #[s_.2.1, .int .u64 t498]), .int .i64 t499]), (9, .pointer (some ⟨s_.2.2, 0, none⟩)), (46, .tuple #[.agg ((Ar.cells .u32 8 t494) ++ #[s_.2.1, .int .u64 t498]), .int .i64 t499]), (53, .agg ((Ar.cells .u32 8 t494) ++ #[s_.2.1, .int .u64 t498])), (54, .int .i64 t499)]) (fun s_ w' => (w'.heap[gb484]? = some (.cells ((Ar.cells .u32 8 x485000_1) ++ #[.slice Ao33 x485001_1.length co33, .int .u64 x485002_1]) 36 (0, 0)) ∧ w'.cell? ⟨gb484, 8, none⟩ = some (.slice Ao33 x485001_1.length co33) ∧ w'.cell? ⟨gb484, 9, none⟩ = some (.int .u64 x485002_1)) ∧ (Kd.V (Kd.int .u8) 5 w' w.heap.size (fun k_ => (P0_ k_ ∨ w.heap.size ≤ k_) ∧ some k_ ≠ (s_.1 : Value).ownBlock ∧ k_ ≠ gb484 ∧ k_ ≠ s_.2.2) (.slice Ao32 y486.length co32) y486) ∧ (Kd.N (Kd.slice 5 (Kd.int .u8)) 29 w' w.heap.size (fun k_ => (P0_ k_ ∨ w.heap.size ≤ k_) ∧ k_ ≠ gb484 ∧ k_ ≠ s_.2.2) s_.1 y491) ∧ (Kd.V (Kd.int .u8) 5 w' w.heap.size (fun k_ => (P0_ k_ ∨ w.heap.size ≤ k_) ∧ some k_ ≠ (s_.1 : Value).ownBlock ∧ k_ ≠ gb484 ∧ k_ ≠ s_.2.2) s_.2.1 t495) ∧ (Kd.V (Kd.int .u8) 5 w' w.heap.size (fun k_ => (P0_ k_ ∨ w.heap.size ≤ k_) ∧ some k_ ≠ (s_.1 : Value).ownBlock ∧ k_ ≠ gb484 ∧ k_ ≠ s_.2.2) (.slice A0 l0.length c0) l0) ∧ (Kd.V (Kd.int .u8) 5 w' w.heap.size (fun k_ => (P0_ k_ ∨ w.heap.size ≤ k_) ∧ some k_ ≠ (s_.1 : Value).ownBlock ∧ k_ ≠ gb484 ∧ k_ ≠ s_.2.2) (.slice Ao33 x485001_1.length co33) x485001_1) ∧ (Kd.V (Kd.int .u8) 5 w' w.heap.size (fun k_ => (P0_ k_ ∨ w.heap.size ≤ k_) ∧ some k_ ≠ (s_.1 : Value).ownBlock ∧ k_ ≠ gb484 ∧ k_ ≠ s_.2.2) (.slice Ao32 x6_1.length co32) x6_1) ∧ (w'.heap[gb484]? = some (.cells ((Ar.cells .u32 8 x485000_1) ++ #[.slice Ao33 x485001_1.length co33, .int .u64 x485002_1]) 36 (0, 0))) ∧ (w'.heap[s_.2.2]? = some (.cells ((Ar.cells .u32 8 (List.replicate 8 0)) ++ #[.slice none 0 0, .int .u64 0]) 36 (0, 0))) ∧ (w.heap.size ≤ s_.2.2) ∧ (w.heap.size ≤ s_.2.2) ∧ (gb484 ≠ s_.2.2) ∧ (s_.2.2 ≠ gb484) ∧ (Below w.heap.size w w')) ?_ ?_
                 rotate_left
                 ·intro hCont
                  refine two_ (i := 4) (j := 9) (Ni := some 51) (Nj := some 9) #[true, true, true, true, true, false, false, false, false, false, false, false] #[true, true, true, true, false, false, false, false, false, true, false, false] rfl rfl rfl rfl (two_of HT_.out (by kernel_rfl)) (by decide) (by decide) (fun K hK => ?_) (fun K hK => ?_)
                  ·skip
                   refine Kd.N_lit_step (Kd.slice 5 (Kd.int .u8)) _ 29 ?hg (N' := 51) ?hd (xs := ([y486] : List (List Int))) (inner := [.slice Ao32 y486.length co32]) (ok := (fun k_ => (P0_ k_ ∨ w.heap.size ≤ k_) ∧ k_ ≠ gb484)) (okp := (fun k_ => (P0_ k_ ∨ w.heap.size ≤ k_) ∧ k_ ≠ gb484)) ?hr ?hp (fun _ hk => hk) ((show ∀ k_, w34.heap.size ≤ k_ → (fun k_ => (P0_ k_ ∨ w.heap.size ≤ k_) ∧ k_ ≠ gb484) k_ from fun k_ hk => ⟨(.inr (Nat.le_trans (below_size (qs HB)) hk)), Kd.freshB (g := gb484) (o := .cells ((Ar.cells .u32 8 x485000_1) ++ #[.slice Ao33 x485001_1.length co33, .int .u64 x485002_1]) 36 (0, 0)) (qb BK484) k_ hk⟩) _ (Nat.le_refl _)) (Below.refl _ _) (Nat.le_refl _) (by simp) ?_; (case hd => rfl); (case hg => rfl); (case hr => first | (go_simp; done) | (go_simp; rfl)); (case hp => exact (Reps.one ((Kd.FK_slice_mk (Kd.V_reads' (Kd.V_mono (ok' := (fun k_ => (P0_ k_ ∨ w.heap.size ≤ k_) ∧ k_ ≠ gb484)) (HO490.out) (fun k_ hk => ⟨hk.1, hk.2⟩))).2.1 (Kd.V_F (e := 5) (base := w.heap.size) (Kd.V_mono (ok := (fun k_ => ((P0_ k_ ∨ w.heap.size ≤ k_) ∧ k_ ≠ gb484))) (ok' := (fun k_ => (P0_ k_ ∨ w.heap.size ≤ k_) ∧ k_ ≠ gb484)) (by repeat (first | exact HO490.out | apply Kd.V_drewN | apply Kd.V_alloc | apply Kd.V_drew)) (fun k_ hk => ⟨hk.1, hk.2⟩)))) : Kd.FK (Kd.slice 5 (Kd.int .u8)) _ _ y486 [.slice Ao32 y486.length co32]) (Reps.none _ _)))
                   intro v492 w36 ho37 hb hg_ hnew_
                   clear hg_ hnew_
                   (first | rw [← Ny491.out] at ho37 | (simp only [Int.reduceToNat] at ho37; rw [← Ny491.out] at ho37))
                   replace HO_0 := Aside0.mk (Kd.V_elder' (qv HO_0) (Kd.N_base ho37) hb)
                   replace HO_6 := Aside0.mk (Kd.V_elder' (qv HO_6) (Kd.N_base ho37) hb)
                   replace HO_485001 := Aside0.mk (Kd.V_elder' (qv HO_485001) (Kd.N_base ho37) hb)
                   replace HO490 := Aside0.mk (Kd.V_elder' (qv HO490) (Kd.N_base ho37) hb)
                   have HO493 := Aside0.mk (Kd.N_lower ho37 (below_size (qs HB)))
                   replace BK484 := Aside0.mk (qB BK484 hb)
                   replace HB := Aside0.mk (below_step (qs HB) hb)
                   clear hb ho37
                   obtain ⟨Ao38, co38, eo38⟩ := Kd.N_slice HO493.out
                   (first | subst eo38 | (injection eo38 with f1_ f2_ f3_; have f4_ := f1_.symm; have f5_ := f3_.symm; clear f1_ f2_ f3_; subst f4_; subst f5_))
                   refine hK.out _ _ ⟨BK484.out, (blk_cell BK484.out 8).trans qc, (blk_cell BK484.out 9).trans qc⟩ (fun hHeld => ?_)
                   clear hK K
                   refine norm_ (a' := ?_) ?_ ?_
                   rotate_left
                   ·show Act.put _ (some 51) _ = _
                    simp only [Act.put, List.setIfInBounds_toArray, List.set_cons_zero, List.set_cons_succ, i64_w, i32_w]
                    rfl
                   refine two_ (i := 5) (j := 9) (Ni := some 52) (Nj := some 9) #[true, true, true, true, true, true, false, false, false, false, false, false] #[true, true, true, true, true, false, false, false, false, true, false, false] rfl rfl rfl rfl (two_of HT_.out (by kernel_rfl)) (by decide) (by decide) (fun K hK => ?_) (fun K hK => ?_)
                   ·skip
                    refine goes_ Tryd.func12 (by kernel_rfl) rfl #[.agg ((Ar.cells .u32 8 x485000_1) ++ #[.slice Ao33 x485001_1.length co33, .int .u64 x485002_1]), .slice Ao38 y491.length co38] (by rfl) rfl rfl ql ?_
                    with_reducible refine (sha_Write.calls k1 x485000_1 (fun k_ => (((P0_ k_ ∨ w.heap.size ≤ k_) ∧ k_ ≠ gb484) ∧ some k_ ≠ (.slice Ao38 y491.length co38 : Value).ownBlock)) _ _ x485001_1 x485002_1 _ _ y491 t494 t495 t498 t499 _ ?side1 ?side2 ?side3 A21.out).mono ?_
                    (case side1 => exact HO_485001.out)
                    (case side2 => repeat (first | exact (Kd.N_reads' HO493.out).2.2 | (with_reducible refine Kd.C_alloc ?_ _) | (with_reducible refine Kd.C_drewN ?_ _) | (with_reducible refine Kd.C_drew ?_)))
                    (case side3 => exact (Kd.N_reads' HO493.out).2.1)
                    rintro e w39 ⟨v496, rfl, ho0, hb⟩
                    refine ⟨_, rfl, ?_⟩
                    replace HO_0 := Aside0.mk (Kd.V_below (qv HO_0) hb)
                    replace HO_6 := Aside0.mk (Kd.V_below (qv HO_6) hb)
                    replace HO_485001 := Aside0.mk (Kd.V_below (qv HO_485001) hb)
                    replace HO490 := Aside0.mk (Kd.V_below (qv HO490) hb)
                    have HO497 := Aside0.mk (Kd.V_lower (Kd.V_mono (ok' := fun k_ => (P0_ k_ ∨ w.heap.size ≤ k_) ∧ some k_ ≠ (.slice Ao38 y491.length co38 : Value).ownBlock ∧ k_ ≠ gb484) ho0 (fun k_ hk_ => ⟨Or.elim hk_ (fun hs_ => hs_.1.1) (fun hn_ => (.inr (Nat.le_trans (below_size (qs HB)) hn_))), Or.elim hk_ (fun hs_ => hs_.2) (fun hn_ => (Kd.fresh' (Kd.N_lt (qn HO493)) k_ hn_)), Or.elim hk_ (fun hs_ => hs_.1.2) (fun hn_ => (Kd.freshB (g := gb484) (o := .cells ((Ar.cells .u32 8 x485000_1) ++ #[.slice Ao33 x485001_1.length co33, .int .u64 x485002_1]) 36 (0, 0)) (qb BK484) k_ hn_))⟩)) (below_size (qs HB)))
                    replace HO493 := Aside0.mk (Kd.N_below (qn HO493) hb)
                    replace BK484 := Aside0.mk (qB BK484 hb)
                    replace HB := Aside0.mk (below_step (qs HB) hb)
                    (try clear hb)
                    (try clear hb2)
                    (try clear hk)
                    (try clear hi)
                    (try clear ho0)
                    refine hK.out _ _ ⟨BK484.out, (blk_cell BK484.out 8).trans qc, (blk_cell BK484.out 9).trans qc⟩ (fun hHeld => ?_)
                    clear hK K
                    refine norm_ (a' := ?_) ?_ ?_
                    rotate_left
                    ·show Act.put _ (some 52) _ = _
                     simp only [Act.put, List.setIfInBounds_toArray, List.set_cons_zero, List.set_cons_succ, i64_w, i32_w]
                     rfl
                    refine pure_ (i := 6) (N := some 46) (v := ?_) (a' := ?_) #[true, true, true, true, true, true, true, false, false, false, false, false] rfl rfl (any_of HT_.out (by kernel_rfl)) (fun _ _ _ h => h) (Or.inl ⟨by rfl, ?_⟩) ?_ ?_
                    rotate_left
                    ·intro w'
                     go_simp
                     with_reducible rfl
                    rotate_left
                    ·simp only [Act.put, List.setIfInBounds_toArray, List.set_cons_zero, List.set_cons_succ, i64_w, i32_w]
                     rfl
                    refine pure_ (i := 7) (N := some 53) (v := ?_) (a' := ?_) #[true, true, true, true, true, true, true, true, false, false, false, false] rfl rfl (any_of HT_.out (by kernel_rfl)) (fun _ _ _ h => h) (Or.inl ⟨by rfl, ?_⟩) ?_ ?_
                    rotate_left
                    ·intro w'
                     go_simp
                     with_reducible rfl
                    rotate_left
                    ·simp only [Act.put, List.setIfInBounds_toArray, List.set_cons_zero, List.set_cons_succ, i64_w, i32_w]
                     rfl
                    refine pure_ (i := 8) (N := some 54) (v := ?_) (a' := ?_) #[true, true, true, true, true, true, true, true, true, false, false, false] rfl rfl (any_of HT_.out (by kernel_rfl)) (fun _ _ _ h => h) (Or.inl ⟨by rfl, ?_⟩) ?_ ?_
                    rotate_left
                    ·intro w'
                     go_simp
                     with_reducible rfl
                    rotate_left
                    ·simp only [Act.put, List.setIfInBounds_toArray, List.set_cons_zero, List.set_cons_succ, i64_w, i32_w]
                     rfl
                    refine one_ (i := 9) (N := some 9) #[true, true, true, true, true, true, true, true, true, true, false, false] rfl rfl (one_of HT_.out (by kernel_rfl)) (by decide) (fun K hK => ?_)
                    refine box_step ?hg (N := 9) ?hd (cs := ((Ar.cells .u32 8 (List.replicate 8 0)) ++ #[.slice none 0 0, .int .u64 0])) (t := 36) ?hr ?_; (case hd => rfl); (case hg => rfl); (case hr => first | exact Ar.gbox_run rfl rfl | exact Ar.galloc_run rfl (by kernel_rfl) | (go_simp; done) | (go_simp; rfl))
                    intro gb500 hg w40 hbox hb
                    replace HO_0 := Aside0.mk (Kd.V_below (Kd.V_elderB (qv HO_0) gb500 (Nat.le_of_eq hg.symm)) hb)
                    replace HO_6 := Aside0.mk (Kd.V_below (Kd.V_elderB (qv HO_6) gb500 (Nat.le_of_eq hg.symm)) hb)
                    replace HO_485001 := Aside0.mk (Kd.V_below (Kd.V_elderB (qv HO_485001) gb500 (Nat.le_of_eq hg.symm)) hb)
                    replace HO490 := Aside0.mk (Kd.V_below (Kd.V_elderB (qv HO490) gb500 (Nat.le_of_eq hg.symm)) hb)
                    replace HO493 := Aside0.mk (Kd.N_below (Kd.N_elderB (qn HO493) gb500 (Nat.le_of_eq hg.symm)) hb)
                    replace HO497 := Aside0.mk (Kd.V_below (Kd.V_elderB (qv HO497) gb500 (Nat.le_of_eq hg.symm)) hb)
                    have BK500 := Aside0.mk (hbox)
                    have GW500 := Aside0.mk ((qe HB hg : w.heap.size ≤ gb500))
                    have GE500 := Aside0.mk ((qe HB hg : w.heap.size ≤ gb500))
                    replace HB := Aside0.mk (below_step (qs HB) hb)
                    have NB484_500 := Aside0.mk ((qu BK484 hg : gb484 ≠ gb500))
                    have NB500_484 := Aside0.mk ((qw BK484 hg : gb500 ≠ gb484))
                    replace BK484 := Aside0.mk (qB BK484 hb)
                    clear hb hbox hg
                    refine hK.out _ _ ⟨BK484.out, (blk_cell BK484.out 8).trans qc, (blk_cell BK484.out 9).trans qc⟩ (fun hHeld => ?_)
                    clear hK K
                    refine norm_ (a' := ?_) ?_ ?_
                    rotate_left
                    ·show Act.put _ (some 9) _ = _
                     simp only [Act.put, List.setIfInBounds_toArray, List.set_cons_zero, List.set_cons_succ, i64_w, i32_w]
                     rfl
                    exact norm_ (by simp only [putAll, Act.put, List.setIfInBounds_toArray, List.set_cons_zero, List.set_cons_succ]) (hCont (.slice Ao38 y491.length co38, v496, gb500) _ ⟨hHeld, (by (with_reducible repeat (first | apply Kd.V_alloc | apply Kd.V_drewN | apply Kd.V_drew)); exact Kd.V_mono HO490.out (fun _ hk => ⟨hk.1.1.1, ⟨hk.1.2, ⟨hk.1.1.2, hk.2⟩⟩⟩)), (by (with_reducible repeat (first | apply Kd.N_alloc | apply Kd.N_drewN | apply Kd.N_drew)); exact Kd.N_mono HO493.out (fun _ hk => ⟨hk.1.1, ⟨hk.1.2, hk.2⟩⟩)), (by (with_reducible repeat (first | apply Kd.V_alloc | apply Kd.V_drewN | apply Kd.V_drew)); exact Kd.V_mono HO497.out (fun _ hk => ⟨hk.1.1, ⟨hk.1.2.1, ⟨hk.1.2.2, hk.2⟩⟩⟩)), (by (with_reducible repeat (first | apply Kd.V_alloc | apply Kd.V_drewN | apply Kd.V_drew)); exact Kd.V_mono HO_0.out (fun _ hk => ⟨hk.1.1.1, ⟨hk.1.2, ⟨hk.1.1.2, hk.2⟩⟩⟩)), (by (with_reducible repeat (first | apply Kd.V_alloc | apply Kd.V_drewN | apply Kd.V_drew)); exact Kd.V_mono HO_485001.out (fun _ hk => ⟨hk.1.1.1, ⟨hk.1.2, ⟨hk.1.1.2, hk.2⟩⟩⟩)), (by (with_reducible repeat (first | apply Kd.V_alloc | apply Kd.V_drewN | apply Kd.V_drew)); exact Kd.V_mono HO_6.out (fun _ hk => ⟨hk.1.1.1, ⟨hk.1.2, ⟨hk.1.1.2, hk.2⟩⟩⟩)), (qb BK484), (qb BK500), GW500.out, GE500.out, NB484_500.out, NB500_484.out, (qs HB)⟩)
                   ·skip
                    refine box_step ?hg (N := 9) ?hd (cs := ((Ar.cells .u32 8 (List.replicate 8 0)) ++ #[.slice none 0 0, .int .u64 0])) (t := 36) ?hr ?_; (case hd => rfl); (case hg => rfl); (case hr => first | exact Ar.gbox_run rfl rfl | exact Ar.galloc_run rfl (by kernel_rfl) | (go_simp; done) | (go_simp; rfl))
                    intro gb500 hg w38 hbox hb
                    replace HO_0 := Aside0.mk (Kd.V_below (Kd.V_elderB (qv HO_0) gb500 (Nat.le_of_eq hg.symm)) hb)
                    replace HO_6 := Aside0.mk (Kd.V_below (Kd.V_elderB (qv HO_6) gb500 (Nat.le_of_eq hg.symm)) hb)
                    replace HO_485001 := Aside0.mk (Kd.V_below (Kd.V_elderB (qv HO_485001) gb500 (Nat.le_of_eq hg.symm)) hb)
                    replace HO490 := Aside0.mk (Kd.V_below (Kd.V_elderB (qv HO490) gb500 (Nat.le_of_eq hg.symm)) hb)
                    replace HO493 := Aside0.mk (Kd.N_below (Kd.N_elderB (qn HO493) gb500 (Nat.le_of_eq hg.symm)) hb)
                    have BK500 := Aside0.mk (hbox)
                    have GW500 := Aside0.mk ((qe HB hg : w.heap.size ≤ gb500))
                    have GE500 := Aside0.mk ((qe HB hg : w.heap.size ≤ gb500))
                    replace HB := Aside0.mk (below_step (qs HB) hb)
                    have NB484_500 := Aside0.mk ((qu BK484 hg : gb484 ≠ gb500))
                    have NB500_484 := Aside0.mk ((qw BK484 hg : gb500 ≠ gb484))
                    replace BK484 := Aside0.mk (qB BK484 hb)
                    clear hb hbox hg
                    obtain ⟨Ao39, co39, eo39⟩ := Kd.N_slice HO493.out
                    (first | subst eo39 | (injection eo39 with f1_ f2_ f3_; have f4_ := f1_.symm; have f5_ := f3_.symm; clear f1_ f2_ f3_; subst f4_; subst f5_))
                    refine hK.out _ _ ⟨BK484.out, (blk_cell BK484.out 8).trans qc, (blk_cell BK484.out 9).trans qc⟩ (fun hHeld => ?_)
                    clear hK K
                    refine norm_ (a' := ?_) ?_ ?_
                    rotate_left
                    ·show Act.put _ (some 9) _ = _
                     simp only [Act.put, List.setIfInBounds_toArray, List.set_cons_zero, List.set_cons_succ, i64_w, i32_w]
                     rfl
                    refine one_ (i := 5) (N := some 52) #[true, true, true, true, true, true, false, false, false, true, false, false] rfl rfl (one_of HT_.out (by kernel_rfl)) (by decide) (fun K hK => ?_)
                    refine goes_ Tryd.func12 (by kernel_rfl) rfl #[.agg ((Ar.cells .u32 8 x485000_1) ++ #[.slice Ao33 x485001_1.length co33, .int .u64 x485002_1]), .slice Ao39 y491.length co39] (by rfl) rfl rfl ql ?_
                    with_reducible refine (sha_Write.calls k1 x485000_1 (fun k_ => ((((P0_ k_ ∨ w.heap.size ≤ k_) ∧ k_ ≠ gb484) ∧ some k_ ≠ (.slice Ao39 y491.length co39 : Value).ownBlock) ∧ k_ ≠ gb500)) _ _ x485001_1 x485002_1 _ _ y491 t494 t495 t498 t499 _ ?side1 ?side2 ?side3 A21.out).mono ?_
                    (case side1 => exact HO_485001.out)
                    (case side2 => repeat (first | exact (Kd.N_reads' HO493.out).2.2 | (with_reducible refine Kd.C_alloc ?_ _) | (with_reducible refine Kd.C_drewN ?_ _) | (with_reducible refine Kd.C_drew ?_)))
                    (case side3 => exact (Kd.N_reads' HO493.out).2.1)
                    rintro e w40 ⟨v496, rfl, ho0, hb⟩
                    refine ⟨_, rfl, ?_⟩
                    replace HO_0 := Aside0.mk (Kd.V_below (qv HO_0) hb)
                    replace HO_6 := Aside0.mk (Kd.V_below (qv HO_6) hb)
                    replace HO_485001 := Aside0.mk (Kd.V_below (qv HO_485001) hb)
                    replace HO490 := Aside0.mk (Kd.V_below (qv HO490) hb)
                    have HO497 := Aside0.mk (Kd.V_lower (Kd.V_mono (ok' := fun k_ => (P0_ k_ ∨ w.heap.size ≤ k_) ∧ some k_ ≠ (.slice Ao39 y491.length co39 : Value).ownBlock ∧ k_ ≠ gb484 ∧ k_ ≠ gb500) ho0 (fun k_ hk_ => ⟨Or.elim hk_ (fun hs_ => hs_.1.1.1) (fun hn_ => (.inr (Nat.le_trans (below_size (qs HB)) hn_))), Or.elim hk_ (fun hs_ => hs_.1.2) (fun hn_ => (Kd.fresh' (Kd.N_lt (qn HO493)) k_ hn_)), Or.elim hk_ (fun hs_ => hs_.1.1.2) (fun hn_ => (Kd.freshB (g := gb484) (o := .cells ((Ar.cells .u32 8 x485000_1) ++ #[.slice Ao33 x485001_1.length co33, .int .u64 x485002_1]) 36 (0, 0)) (qb BK484) k_ hn_)), Or.elim hk_ (fun hs_ => hs_.2) (fun hn_ => (Kd.freshB (g := gb500) (o := .cells ((Ar.cells .u32 8 (List.replicate 8 0)) ++ #[.slice none 0 0, .int .u64 0]) 36 (0, 0)) (qb BK500) k_ hn_))⟩)) (below_size (qs HB)))
                    replace HO493 := Aside0.mk (Kd.N_below (qn HO493) hb)
                    replace BK484 := Aside0.mk (qB BK484 hb)
                    replace BK500 := Aside0.mk (qB BK500 hb)
                    replace HB := Aside0.mk (below_step (qs HB) hb)
                    (try clear hb)
                    (try clear hb2)
                    (try clear hk)
                    (try clear hi)
                    (try clear ho0)
                    refine hK.out _ _ ⟨BK484.out, (blk_cell BK484.out 8).trans qc, (blk_cell BK484.out 9).trans qc⟩ (fun hHeld => ?_)
                    clear hK K
                    refine norm_ (a' := ?_) ?_ ?_
                    rotate_left
                    ·show Act.put _ (some 52) _ = _
                     simp only [Act.put, List.setIfInBounds_toArray, List.set_cons_zero, List.set_cons_succ, i64_w, i32_w]
                     rfl
                    refine pure_ (i := 6) (N := some 46) (v := ?_) (a' := ?_) #[true, true, true, true, true, true, true, false, false, true, false, false] rfl rfl (any_of HT_.out (by kernel_rfl)) (fun _ _ _ h => h) (Or.inl ⟨by rfl, ?_⟩) ?_ ?_
                    rotate_left
                    ·intro w'
                     go_simp
                     with_reducible rfl
                    rotate_left
                    ·simp only [Act.put, List.setIfInBounds_toArray, List.set_cons_zero, List.set_cons_succ, i64_w, i32_w]
                     rfl
                    refine pure_ (i := 7) (N := some 53) (v := ?_) (a' := ?_) #[true, true, true, true, true, true, true, true, false, true, false, false] rfl rfl (any_of HT_.out (by kernel_rfl)) (fun _ _ _ h => h) (Or.inl ⟨by rfl, ?_⟩) ?_ ?_
                    rotate_left
                    ·intro w'
                     go_simp
                     with_reducible rfl
                    rotate_left
                    ·simp only [Act.put, List.setIfInBounds_toArray, List.set_cons_zero, List.set_cons_succ, i64_w, i32_w]
                     rfl
                    refine pure_ (i := 8) (N := some 54) (v := ?_) (a' := ?_) #[true, true, true, true, true, true, true, true, true, true, false, false] rfl rfl (any_of HT_.out (by kernel_rfl)) (fun _ _ _ h => h) (Or.inl ⟨by rfl, ?_⟩) ?_ ?_
                    rotate_left
                    ·intro w'
                     go_simp
                     with_reducible rfl
                    rotate_left
                    ·simp only [Act.put, List.setIfInBounds_toArray, List.set_cons_zero, List.set_cons_succ, i64_w, i32_w]
                     rfl
                    exact norm_ (by simp only [putAll, Act.put, List.setIfInBounds_toArray, List.set_cons_zero, List.set_cons_succ]) (hCont (.slice Ao39 y491.length co39, v496, gb500) _ ⟨hHeld, (by (with_reducible repeat (first | apply Kd.V_alloc | apply Kd.V_drewN | apply Kd.V_drew)); exact Kd.V_mono HO490.out (fun _ hk => ⟨hk.1.1.1, ⟨hk.1.2, ⟨hk.1.1.2, hk.2⟩⟩⟩)), (by (with_reducible repeat (first | apply Kd.N_alloc | apply Kd.N_drewN | apply Kd.N_drew)); exact Kd.N_mono HO493.out (fun _ hk => ⟨hk.1.1, ⟨hk.1.2, hk.2⟩⟩)), (qv HO497), (by (with_reducible repeat (first | apply Kd.V_alloc | apply Kd.V_drewN | apply Kd.V_drew)); exact Kd.V_mono HO_0.out (fun _ hk => ⟨hk.1.1.1, ⟨hk.1.2, ⟨hk.1.1.2, hk.2⟩⟩⟩)), (by (with_reducible repeat (first | apply Kd.V_alloc | apply Kd.V_drewN | apply Kd.V_drew)); exact Kd.V_mono HO_485001.out (fun _ hk => ⟨hk.1.1.1, ⟨hk.1.2, ⟨hk.1.1.2, hk.2⟩⟩⟩)), (by (with_reducible repeat (first | apply Kd.V_alloc | apply Kd.V_drewN | apply Kd.V_drew)); exact Kd.V_mono HO_6.out (fun _ hk => ⟨hk.1.1.1, ⟨hk.1.2, ⟨hk.1.1.2, hk.2⟩⟩⟩)), (qb BK484), (qb BK500), GW500.out, GE500.out, NB484_500.out, NB500_484.out, (qs HB)⟩)
                  ·skip
                   refine box_step ?hg (N := 9) ?hd (cs := ((Ar.cells .u32 8 (List.replicate 8 0)) ++ #[.slice none 0 0, .int .u64 0])) (t := 36) ?hr ?_; (case hd => rfl); (case hg => rfl); (case hr => first | exact Ar.gbox_run rfl rfl | exact Ar.galloc_run rfl (by kernel_rfl) | (go_simp; done) | (go_simp; rfl))
                   intro gb500 hg w36 hbox hb
                   replace HO_0 := Aside0.mk (Kd.V_below (Kd.V_elderB (qv HO_0) gb500 (Nat.le_of_eq hg.symm)) hb)
                   replace HO_6 := Aside0.mk (Kd.V_below (Kd.V_elderB (qv HO_6) gb500 (Nat.le_of_eq hg.symm)) hb)
                   replace HO_485001 := Aside0.mk (Kd.V_below (Kd.V_elderB (qv HO_485001) gb500 (Nat.le_of_eq hg.symm)) hb)
                   replace HO490 := Aside0.mk (Kd.V_below (Kd.V_elderB (qv HO490) gb500 (Nat.le_of_eq hg.symm)) hb)
                   have BK500 := Aside0.mk (hbox)
                   have GW500 := Aside0.mk ((qe HB hg : w.heap.size ≤ gb500))
                   have GE500 := Aside0.mk ((qe HB hg : w.heap.size ≤ gb500))
                   replace HB := Aside0.mk (below_step (qs HB) hb)
                   have NB484_500 := Aside0.mk ((qu BK484 hg : gb484 ≠ gb500))
                   have NB500_484 := Aside0.mk ((qw BK484 hg : gb500 ≠ gb484))
                   replace BK484 := Aside0.mk (qB BK484 hb)
                   clear hb hbox hg
                   refine hK.out _ _ ⟨BK484.out, (blk_cell BK484.out 8).trans qc, (blk_cell BK484.out 9).trans qc⟩ (fun hHeld => ?_)
                   clear hK K
                   refine norm_ (a' := ?_) ?_ ?_
                   rotate_left
                   ·show Act.put _ (some 9) _ = _
                    simp only [Act.put, List.setIfInBounds_toArray, List.set_cons_zero, List.set_cons_succ, i64_w, i32_w]
                    rfl
                   refine one_ (i := 4) (N := some 51) #[true, true, true, true, true, false, false, false, false, true, false, false] rfl rfl (one_of HT_.out (by kernel_rfl)) (by decide) (fun K hK => ?_)
                   refine Kd.N_lit_step (Kd.slice 5 (Kd.int .u8)) _ 29 ?hg (N' := 51) ?hd (xs := ([y486] : List (List Int))) (inner := [.slice Ao32 y486.length co32]) (ok := (fun k_ => (P0_ k_ ∨ w.heap.size ≤ k_) ∧ k_ ≠ gb484 ∧ k_ ≠ gb500)) (okp := (fun k_ => (P0_ k_ ∨ w.heap.size ≤ k_) ∧ k_ ≠ gb484 ∧ k_ ≠ gb500)) ?hr ?hp (fun _ hk => hk) ((show ∀ k_, w36.heap.size ≤ k_ → (fun k_ => (P0_ k_ ∨ w.heap.size ≤ k_) ∧ k_ ≠ gb484 ∧ k_ ≠ gb500) k_ from fun k_ hk => ⟨(.inr (Nat.le_trans (below_size (qs HB)) hk)), Kd.freshB (g := gb484) (o := .cells ((Ar.cells .u32 8 x485000_1) ++ #[.slice Ao33 x485001_1.length co33, .int .u64 x485002_1]) 36 (0, 0)) (qb BK484) k_ hk, Kd.freshB (g := gb500) (o := .cells ((Ar.cells .u32 8 (List.replicate 8 0)) ++ #[.slice none 0 0, .int .u64 0]) 36 (0, 0)) (qb BK500) k_ hk⟩) _ (Nat.le_refl _)) (Below.refl _ _) (Nat.le_refl _) (by simp) ?_; (case hd => rfl); (case hg => rfl); (case hr => first | (go_simp; done) | (go_simp; rfl)); (case hp => exact (Reps.one ((Kd.FK_slice_mk (Kd.V_reads' (Kd.V_mono (ok' := (fun k_ => (P0_ k_ ∨ w.heap.size ≤ k_) ∧ k_ ≠ gb484 ∧ k_ ≠ gb500)) (HO490.out) (fun k_ hk => ⟨hk.1.1, ⟨hk.1.2, hk.2⟩⟩))).2.1 (Kd.V_F (e := 5) (base := w.heap.size) (Kd.V_mono (ok := (fun k_ => (((P0_ k_ ∨ w.heap.size ≤ k_) ∧ k_ ≠ gb484) ∧ k_ ≠ gb500))) (ok' := (fun k_ => (P0_ k_ ∨ w.heap.size ≤ k_) ∧ k_ ≠ gb484 ∧ k_ ≠ gb500)) (by repeat (first | exact HO490.out | apply Kd.V_drewN | apply Kd.V_alloc | apply Kd.V_drew)) (fun k_ hk => ⟨hk.1.1, ⟨hk.1.2, hk.2⟩⟩)))) : Kd.FK (Kd.slice 5 (Kd.int .u8)) _ _ y486 [.slice Ao32 y486.length co32]) (Reps.none _ _)))
                   intro v492 w37 ho38 hb hg_ hnew_
                   clear hg_ hnew_
                   (first | rw [← Ny491.out] at ho38 | (simp only [Int.reduceToNat] at ho38; rw [← Ny491.out] at ho38))
                   replace HO_0 := Aside0.mk (Kd.V_elder' (qv HO_0) (Kd.N_base ho38) hb)
                   replace HO_6 := Aside0.mk (Kd.V_elder' (qv HO_6) (Kd.N_base ho38) hb)
                   replace HO_485001 := Aside0.mk (Kd.V_elder' (qv HO_485001) (Kd.N_base ho38) hb)
                   replace HO490 := Aside0.mk (Kd.V_elder' (qv HO490) (Kd.N_base ho38) hb)
                   have HO493 := Aside0.mk (Kd.N_lower ho38 (below_size (qs HB)))
                   replace BK484 := Aside0.mk (qB BK484 hb)
                   replace BK500 := Aside0.mk (qB BK500 hb)
                   replace HB := Aside0.mk (below_step (qs HB) hb)
                   clear hb ho38
                   obtain ⟨Ao39, co39, eo39⟩ := Kd.N_slice HO493.out
                   (first | subst eo39 | (injection eo39 with f1_ f2_ f3_; have f4_ := f1_.symm; have f5_ := f3_.symm; clear f1_ f2_ f3_; subst f4_; subst f5_))
                   refine hK.out _ _ ⟨BK484.out, (blk_cell BK484.out 8).trans qc, (blk_cell BK484.out 9).trans qc⟩ (fun hHeld => ?_)
                   clear hK K
                   refine norm_ (a' := ?_) ?_ ?_
                   rotate_left
                   ·show Act.put _ (some 51) _ = _
                    simp only [Act.put, List.setIfInBounds_toArray, List.set_cons_zero, List.set_cons_succ, i64_w, i32_w]
                    rfl
                   refine one_ (i := 5) (N := some 52) #[true, true, true, true, true, true, false, false, false, true, false, false] rfl rfl (one_of HT_.out (by kernel_rfl)) (by decide) (fun K hK => ?_)
                   refine goes_ Tryd.func12 (by kernel_rfl) rfl #[.agg ((Ar.cells .u32 8 x485000_1) ++ #[.slice Ao33 x485001_1.length co33, .int .u64 x485002_1]), .slice Ao39 y491.length co39] (by rfl) rfl rfl ql ?_
                   with_reducible refine (sha_Write.calls k1 x485000_1 (fun k_ => ((((P0_ k_ ∨ w.heap.size ≤ k_) ∧ k_ ≠ gb484) ∧ k_ ≠ gb500) ∧ some k_ ≠ (.slice Ao39 y491.length co39 : Value).ownBlock)) _ _ x485001_1 x485002_1 _ _ y491 t494 t495 t498 t499 _ ?side1 ?side2 ?side3 A21.out).mono ?_
                   (case side1 => exact HO_485001.out)
                   (case side2 => repeat (first | exact (Kd.N_reads' HO493.out).2.2 | (with_reducible refine Kd.C_alloc ?_ _) | (with_reducible refine Kd.C_drewN ?_ _) | (with_reducible refine Kd.C_drew ?_)))
                   (case side3 => exact (Kd.N_reads' HO493.out).2.1)
                   rintro e w40 ⟨v496, rfl, ho0, hb⟩
                   refine ⟨_, rfl, ?_⟩
                   replace HO_0 := Aside0.mk (Kd.V_below (qv HO_0) hb)
                   replace HO_6 := Aside0.mk (Kd.V_below (qv HO_6) hb)
                   replace HO_485001 := Aside0.mk (Kd.V_below (qv HO_485001) hb)
                   replace HO490 := Aside0.mk (Kd.V_below (qv HO490) hb)
                   have HO497 := Aside0.mk (Kd.V_lower (Kd.V_mono (ok' := fun k_ => (P0_ k_ ∨ w.heap.size ≤ k_) ∧ some k_ ≠ (.slice Ao39 y491.length co39 : Value).ownBlock ∧ k_ ≠ gb484 ∧ k_ ≠ gb500) ho0 (fun k_ hk_ => ⟨Or.elim hk_ (fun hs_ => hs_.1.1.1) (fun hn_ => (.inr (Nat.le_trans (below_size (qs HB)) hn_))), Or.elim hk_ (fun hs_ => hs_.2) (fun hn_ => (Kd.fresh' (Kd.N_lt (qn HO493)) k_ hn_)), Or.elim hk_ (fun hs_ => hs_.1.1.2) (fun hn_ => (Kd.freshB (g := gb484) (o := .cells ((Ar.cells .u32 8 x485000_1) ++ #[.slice Ao33 x485001_1.length co33, .int .u64 x485002_1]) 36 (0, 0)) (qb BK484) k_ hn_)), Or.elim hk_ (fun hs_ => hs_.1.2) (fun hn_ => (Kd.freshB (g := gb500) (o := .cells ((Ar.cells .u32 8 (List.replicate 8 0)) ++ #[.slice none 0 0, .int .u64 0]) 36 (0, 0)) (qb BK500) k_ hn_))⟩)) (below_size (qs HB)))
                   replace HO493 := Aside0.mk (Kd.N_below (qn HO493) hb)
                   replace BK484 := Aside0.mk (qB BK484 hb)
                   replace BK500 := Aside0.mk (qB BK500 hb)
                   replace HB := Aside0.mk (below_step (qs HB) hb)
                   (try clear hb)
                   (try clear hb2)
                   (try clear hk)
                   (try clear hi)
                   (try clear ho0)
                   refine hK.out _ _ ⟨BK484.out, (blk_cell BK484.out 8).trans qc, (blk_cell BK484.out 9).trans qc⟩ (fun hHeld => ?_)
                   clear hK K
                   refine norm_ (a' := ?_) ?_ ?_
                   rotate_left
                   ·show Act.put _ (some 52) _ = _
                    simp only [Act.put, List.setIfInBounds_toArray, List.set_cons_zero, List.set_cons_succ, i64_w, i32_w]
                    rfl
                   refine pure_ (i := 6) (N := some 46) (v := ?_) (a' := ?_) #[true, true, true, true, true, true, true, false, false, true, false, false] rfl rfl (any_of HT_.out (by kernel_rfl)) (fun _ _ _ h => h) (Or.inl ⟨by rfl, ?_⟩) ?_ ?_
                   rotate_left
                   ·intro w'
                    go_simp
                    with_reducible rfl
                   rotate_left
                   ·simp only [Act.put, List.setIfInBounds_toArray, List.set_cons_zero, List.set_cons_succ, i64_w, i32_w]
                    rfl
                   refine pure_ (i := 7) (N := some 53) (v := ?_) (a' := ?_) #[true, true, true, true, true, true, true, true, false, true, false, false] rfl rfl (any_of HT_.out (by kernel_rfl)) (fun _ _ _ h => h) (Or.inl ⟨by rfl, ?_⟩) ?_ ?_
                   rotate_left
                   ·intro w'
                    go_simp
                    with_reducible rfl
                   rotate_left
                   ·simp only [Act.put, List.setIfInBounds_toArray, List.set_cons_zero, List.set_cons_succ, i64_w, i32_w]
                    rfl
                   refine pure_ (i := 8) (N := some 54) (v := ?_) (a' := ?_) #[true, true, true, true, true, true, true, true, true, true, false, false] rfl rfl (any_of HT_.out (by kernel_rfl)) (fun _ _ _ h => h) (Or.inl ⟨by rfl, ?_⟩) ?_ ?_
                   rotate_left
                   ·intro w'
                    go_simp
                    with_reducible rfl
                   rotate_left
                   ·simp only [Act.put, List.setIfInBounds_toArray, List.set_cons_zero, List.set_cons_succ, i64_w, i32_w]
                    rfl
                   exact norm_ (by simp only [putAll, Act.put, List.setIfInBounds_toArray, List.set_cons_zero, List.set_cons_succ]) (hCont (.slice Ao39 y491.length co39, v496, gb500) _ ⟨hHeld, (by (with_reducible repeat (first | apply Kd.V_alloc | apply Kd.V_drewN | apply Kd.V_drew)); exact Kd.V_mono HO490.out (fun _ hk => ⟨hk.1.1.1, ⟨hk.2, ⟨hk.1.1.2, hk.1.2⟩⟩⟩)), (qn HO493), (qv HO497), (by (with_reducible repeat (first | apply Kd.V_alloc | apply Kd.V_drewN | apply Kd.V_drew)); exact Kd.V_mono HO_0.out (fun _ hk => ⟨hk.1.1.1, ⟨hk.2, ⟨hk.1.1.2, hk.1.2⟩⟩⟩)), (by (with_reducible repeat (first | apply Kd.V_alloc | apply Kd.V_drewN | apply Kd.V_drew)); exact Kd.V_mono HO_485001.out (fun _ hk => ⟨hk.1.1.1, ⟨hk.2, ⟨hk.1.1.2, hk.1.2⟩⟩⟩)), (by (with_reducible repeat (first | apply Kd.V_alloc | apply Kd.V_drewN | apply Kd.V_drew)); exact Kd.V_mono HO_6.out (fun _ hk => ⟨hk.1.1.1, ⟨hk.2, ⟨hk.1.1.2, hk.1.2⟩⟩⟩)), (qb BK484), (qb BK500), GW500.out, GE500.out, NB484_500.out, NB500_484.out, (qs HB)⟩)
                 rintro ⟨v492, v496, gb500⟩ w41 ⟨hS_, h0_, h1_, h2_, h3_, h4_, h5_, h6_, h7_, h8_, h9_, h10_, h11_, h12_⟩
                 have n0_ : Aside0 (Kd.V (Kd.int .u8) 5 w41 w.heap.size (fun k_ => (P0_ k_ ∨ w.heap.size ≤ k_) ∧ some k_ ≠ (v492 : Value).ownBlock ∧ k_ ≠ gb484 ∧ k_ ≠ gb500) (.slice Ao32 y486.length co32) y486) := ⟨h0_⟩
                 have n1_ : Aside0 (Kd.N (Kd.slice 5 (Kd.int .u8)) 29 w41 w.heap.size (fun k_ => (P0_ k_ ∨ w.heap.size ≤ k_) ∧ k_ ≠ gb484 ∧ k_ ≠ gb500) v492 y491) := ⟨h1_⟩
                 have n2_ : Aside0 (Kd.V (Kd.int .u8) 5 w41 w.heap.size (fun k_ => (P0_ k_ ∨ w.heap.size ≤ k_) ∧ some k_ ≠ (v492 : Value).ownBlock ∧ k_ ≠ gb484 ∧ k_ ≠ gb500) v496 t495) := ⟨h2_⟩
                 have n3_ : Aside0 (Kd.V (Kd.int .u8) 5 w41 w.heap.size (fun k_ => (P0_ k_ ∨ w.heap.size ≤ k_) ∧ some k_ ≠ (v492 : Value).ownBlock ∧ k_ ≠ gb484 ∧ k_ ≠ gb500) (.slice A0 l0.length c0) l0) := ⟨h3_⟩
                 have n4_ : Aside0 (Kd.V (Kd.int .u8) 5 w41 w.heap.size (fun k_ => (P0_ k_ ∨ w.heap.size ≤ k_) ∧ some k_ ≠ (v492 : Value).ownBlock ∧ k_ ≠ gb484 ∧ k_ ≠ gb500) (.slice Ao33 x485001_1.length co33) x485001_1) := ⟨h4_⟩
                 have n5_ : Aside0 (Kd.V (Kd.int .u8) 5 w41 w.heap.size (fun k_ => (P0_ k_ ∨ w.heap.size ≤ k_) ∧ some k_ ≠ (v492 : Value).ownBlock ∧ k_ ≠ gb484 ∧ k_ ≠ gb500) (.slice Ao32 x6_1.length co32) x6_1) := ⟨h5_⟩
                 have n6_ : Aside0 (w41.heap[gb484]? = some (.cells ((Ar.cells .u32 8 x485000_1) ++ #[.slice Ao33 x485001_1.length co33, .int .u64 x485002_1]) 36 (0, 0))) := ⟨h6_⟩
                 have n7_ : Aside0 (w41.heap[gb500]? = some (.cells ((Ar.cells .u32 8 (List.replicate 8 0)) ++ #[.slice none 0 0, .int .u64 0]) 36 (0, 0))) := ⟨h7_⟩
                 have n8_ : Aside0 (w.heap.size ≤ gb500) := ⟨h8_⟩
                 have n9_ : Aside0 (w.heap.size ≤ gb500) := ⟨h9_⟩
                 have n10_ : Aside0 (gb484 ≠ gb500) := ⟨h10_⟩
                 have n11_ : Aside0 (gb500 ≠ gb484) := ⟨h11_⟩
                 have n12_ : Aside0 (Below w.heap.size w w41) := ⟨h12_⟩
                 clear HO_0 HO_6 HO_485001 BK484 HB h0_ h1_ h2_ h3_ h4_ h5_ h6_ h7_ h8_ h9_ h10_ h11_ h12_
                 have HO490 := n0_
                 have HO493 := n1_
                 have HO497 := n2_
                 have HO_0 := n3_
                 have HO_485001 := n4_
                 have HO_6 := n5_
                 have BK484 := n6_
                 have BK500 := n7_
                 have GW500 := n8_
                 have GE500 := n9_
                 have NB484_500 := n10_
                 have NB500_484 := n11_
                 have HB := n12_
                 clear n0_ n1_ n2_ n3_ n4_ n5_ n6_ n7_ n8_ n9_ n10_ n11_ n12_
                 have hHeld : w41.heap[gb484]? = some (.cells ((Ar.cells .u32 8 x485000_1) ++ #[.slice Ao33 x485001_1.length co33, .int .u64 x485002_1]) 36 (0, 0)) ∧ w41.cell? ⟨gb484, 8, none⟩ = some (.slice Ao33 x485001_1.length co33) ∧ w41.cell? ⟨gb484, 9, none⟩ = some (.int .u64 x485002_1) := hS_
                 refine norm_ (a' := ?_) ?_ ?_
                 rotate_left
                 ·simp only [putAll, Act.put, List.setIfInBounds_toArray, List.set_cons_zero, List.set_cons_succ]
                  rfl
                 refine one_ (i := 10) (N := none) #[true, true, true, true, true, true, true, true, true, true, true, false] rfl rfl (one_of HT_.out (by kernel_rfl)) (by decide) (fun K hK => ?_)
                 refine Ar.gstore_step (by rfl) rfl rfl (D := ((Ar.cells .u32 8 t494) ++ #[v496, .int .u64 t498])) qz (g := gb500) rfl qg (qb BK500) (by simp [Ar.cells_size]) (by repeat (first | (with_reducible refine Ar.all_app ?_ ?_) | (with_reducible exact Ar.cells_one _ _ _) | (focus (simp [Value.oneCell']; done)) | (focus (simp [(show (v496 : Value).oneCell' = true from by (have e_ := Kd.V_slice HO497.out; obtain ⟨_, _, e_⟩ := e_; rw [e_]; rfl))]; first | done | rfl | (repeat' constructor))) | rfl)) ?_; intro w42 hbk_ hg
                 replace HO_0 := Aside0.mk (Kd.V_grown (qv HO_0) hg (by intro k_ hk e_; exact (hk.2.2.2) (Option.some.inj e_)))
                 replace HO_6 := Aside0.mk (Kd.V_grown (qv HO_6) hg (by intro k_ hk e_; exact (hk.2.2.2) (Option.some.inj e_)))
                 replace HO_485001 := Aside0.mk (Kd.V_grown (qv HO_485001) hg (by intro k_ hk e_; exact (hk.2.2.2) (Option.some.inj e_)))
                 replace BK484 := Aside0.mk (qG BK484 hg (fun e_ => NB484_500.out (Option.some.inj e_)))
                 replace HO490 := Aside0.mk (Kd.V_grown (qv HO490) hg (by intro k_ hk e_; exact (hk.2.2.2) (Option.some.inj e_)))
                 replace HO493 := Aside0.mk (Kd.N_grown (qn HO493) hg (by intro k_ hk e_; exact (hk.2.2) (Option.some.inj e_)))
                 replace HO497 := Aside0.mk (Kd.V_grown (qv HO497) hg (by intro k_ hk e_; exact (hk.2.2.2) (Option.some.inj e_)))
                 replace BK500 := Aside0.mk (hbk_)
                 replace HB := Aside0.mk (Below.grown (qs HB) hg ((below_size (qs HB))) (fun _ e_ => by cases e_; exact GE500.out))
                 clear hbk_ hg
                 refine hK.out _ _ ⟨BK484.out, (blk_cell BK484.out 8).trans qc, (blk_cell BK484.out 9).trans qc⟩ (fun hHeld => ?_)
                 clear hK K
                 refine pure_ (i := 11) (N := some 10) (v := ?_) (a' := ?_) #[true, true, true, true, true, true, true, true, true, true, true, true] rfl rfl (any_of HT_.out (by kernel_rfl)) (fun _ _ _ h => h) (Or.inl ⟨by rfl, ?_⟩) ?_ ?_
                 rotate_left
                 ·intro w'
                  go_simp
                  with_reducible rfl
                 rotate_left
                 ·simp only [Act.put, List.setIfInBounds_toArray, List.set_cons_zero, List.set_cons_succ, i64_w, i32_w]
                  rfl
                 refine done_ (done_of HT_.out (by kernel_rfl)) ?_
                 obtain ⟨Ao43, co43, eo43⟩ := Kd.V_slice HO497.out
                 subst eo43
                 try go_wp2_with (first | ((with_reducible refine gate_dst (N := 56) rfl ?_); (try (refine gate_guard (by rfl) ?_; dsimp only)); refine Ar.gload_event rfl (T := 36) rfl Tryd.underlying36 rfl (D := ((Ar.cells .u32 8 t494) ++ #[.slice Ao43 t495.length co43, .int .u64 t498])) qz (A := ⟨gb500, 0, none⟩) rfl (Ar.blk_part (qb BK500) Ar.in_whole) ?_) | ((with_reducible refine gate_callee (f := 14) rfl ?_); refine goesL_ (some 57) rfl rfl Tryd.func14 (by kernel_rfl) rfl #[.agg ((Ar.cells .u32 8 t494) ++ #[.slice Ao43 t495.length co43, .int .u64 t498])] rfl ql ?_; (with_reducible refine (sha_Finish.calls k1 t494 _ _ t495 t498 t501 t502 _ ?side1 ?side2 A22.out).mono ?_); (case side1 => repeat (first | exact (Kd.V_reads' HO497.out).2.2 | (with_reducible refine Kd.C_alloc ?_ _) | (with_reducible refine Kd.C_drewN ?_ _) | (with_reducible refine Kd.C_drew ?_))); (case side2 => exact (Kd.V_reads' HO497.out).2.1); rintro e w44 ⟨rfl, hb⟩; refine ⟨_, rfl, ?_⟩; replace HO_0 := Aside0.mk (Kd.V_below (qv HO_0) hb); replace HO_6 := Aside0.mk (Kd.V_below (qv HO_6) hb); replace HO_485001 := Aside0.mk (Kd.V_below (qv HO_485001) hb); replace HO490 := Aside0.mk (Kd.V_below (qv HO490) hb); replace HO493 := Aside0.mk (Kd.N_below (qn HO493) hb); replace HO497 := Aside0.mk (Kd.V_below (qv HO497) hb); replace BK484 := Aside0.mk (qB BK484 hb); replace BK500 := Aside0.mk (qB BK500 hb); replace HB := Aside0.mk (below_step (qs HB) hb); (try clear hb); (try clear hb2); (try clear hk); (try clear hi)) | ((with_reducible refine gate_dst (N := 11) rfl ?_); (try (refine gate_guard (by rfl) ?_; dsimp only)); refine qE (N := 11) (cs := (Ar.cells .u8 32 (List.replicate 32 0))) (t := 26) ?_; intro gb503 hg w45 hbox hb; replace HO_0 := Aside0.mk (Kd.V_below (Kd.V_elderB (qv HO_0) gb503 (Nat.le_of_eq hg.symm)) hb); replace HO_6 := Aside0.mk (Kd.V_below (Kd.V_elderB (qv HO_6) gb503 (Nat.le_of_eq hg.symm)) hb); replace HO_485001 := Aside0.mk (Kd.V_below (Kd.V_elderB (qv HO_485001) gb503 (Nat.le_of_eq hg.symm)) hb); replace HO490 := Aside0.mk (Kd.V_below (Kd.V_elderB (qv HO490) gb503 (Nat.le_of_eq hg.symm)) hb); replace HO493 := Aside0.mk (Kd.N_below (Kd.N_elderB (qn HO493) gb503 (Nat.le_of_eq hg.symm)) hb); replace HO497 := Aside0.mk (Kd.V_below (Kd.V_elderB (qv HO497) gb503 (Nat.le_of_eq hg.symm)) hb); have BK503 := Aside0.mk (hbox); have GW503 := Aside0.mk ((qe HB hg : w.heap.size ≤ gb503)); have GE503 := Aside0.mk ((qe HB hg : w.heap.size ≤ gb503)); replace HB := Aside0.mk (below_step (qs HB) hb); have NB484_503 := Aside0.mk ((qu BK484 hg : gb484 ≠ gb503)); have NB503_484 := Aside0.mk ((qw BK484 hg : gb503 ≠ gb484)); replace BK484 := Aside0.mk (qB BK484 hb); have NB500_503 := Aside0.mk ((qu BK500 hg : gb500 ≠ gb503)); have NB503_500 := Aside0.mk ((qw BK500 hg : gb503 ≠ gb500)); replace BK500 := Aside0.mk (qB BK500 hb); clear hb hbox hg) | ((with_reducible refine gate_store (t := 26) (p := 11) rfl ?_); refine Ar.store_all_event rfl rfl rfl Tryd.underlying26 (by kernel_rfl) (g := gb503) rfl (z := t501) qg (qb BK503) ?_; intro w46 hbk_ hg; replace HO_0 := Aside0.mk (Kd.V_grown (qv HO_0) hg (by intro k_ hk e_; exact (hk.2) (Option.some.inj e_))); replace HO_6 := Aside0.mk (Kd.V_grown (qv HO_6) hg (by intro k_ hk e_; exact (hk.2) (Option.some.inj e_))); replace HO_485001 := Aside0.mk (Kd.V_grown (qv HO_485001) hg (by intro k_ hk e_; exact (hk.2) (Option.some.inj e_))); replace BK484 := Aside0.mk (qG BK484 hg (fun e_ => NB484_503.out (Option.some.inj e_))); replace HO490 := Aside0.mk (Kd.V_grown (qv HO490) hg (by intro k_ hk e_; exact (hk.2) (Option.some.inj e_))); replace HO493 := Aside0.mk (Kd.N_grown (qn HO493) hg (by intro k_ hk e_; exact (hk.2) (Option.some.inj e_))); replace HO497 := Aside0.mk (Kd.V_grown (qv HO497) hg (by intro k_ hk e_; exact (hk.2) (Option.some.inj e_))); replace BK500 := Aside0.mk (qG BK500 hg (fun e_ => NB500_503.out (Option.some.inj e_))); replace BK503 := Aside0.mk (hbk_); replace HB := Aside0.mk (Below.grown (qs HB) hg ((below_size (qs HB))) (fun _ e_ => by cases e_; exact GE503.out)); clear hbk_ hg))
                 replace HO_0 := Aside0.mk (Kd.V_drew HO_0.out)
                 replace HO_6 := Aside0.mk (Kd.V_drew HO_6.out)
                 replace HO_485001 := Aside0.mk (Kd.V_drew HO_485001.out)
                 replace HO490 := Aside0.mk (Kd.V_drew HO490.out)
                 replace HO493 := Aside0.mk (Kd.N_drew HO493.out)
                 replace HO497 := Aside0.mk (Kd.V_drew HO497.out)
                 replace BK484 := Aside0.mk (blk_drew BK484.out)
                 replace BK500 := Aside0.mk (blk_drew BK500.out)
                 replace BK503 := Aside0.mk (blk_drew BK503.out)
                 replace HB := Aside0.mk (below_drew1 HB.out)
                 have q48 : ((ji25) : Int) ≤ ((l0.length : Int) : Int) := of_decide_eq_true qa
                 obtain ⟨i048, hi048, _, hsz48, _⟩ := info_parts info5
                 have hroom48 : l0.length ≤ c0 := (Kd.V_reads' HO_0.out).2.1
                 have hC48 : Kd.F (Kd.int .u8) _ _ A0 l0.length l0 := (Kd.V_at (base := w.heap.size) HO_0.out).2.2
                 have hcut48 := cut_to (P := Tryd.prog) 29 5 .i64 Tryd.underlying29 hi048 A0 l0.length c0 (ji25) qo q48 hroom48
                 have hr48 := Kd.F_take (m := ((ji25) : Int).toNat) hC48 (by omega)
                 have hy48 : y504.length = ((ji25) : Int).toNat := (by rw [Ny504.out, List.length_take]; omega)
                 rw [← Ny504.out] at hr48
                 rw [← hy48] at hcut48
                 have HO508 := Aside0.mk (show Kd.V (Kd.int .u8) 5 _ w.heap.size _ (.slice A0 y504.length c0) y504 from Kd.V_mk (by omega) hr48)
                 have HC508 := Aside0.mk (show y504.length ≤ c0 from by omega)
                 clear hr48 hC48 hroom48 hi048 hsz48
                 have KY48 := Aside0.mk hy48
                 clear hy48
                 replace q48 := eq_true q48
                 refine start_ (n := 20) (S := fun w' => w'.heap[gb503]? = some (.cells (Ar.cells .u8 32 t501) 26 (0, 0))) (ds := []) #[false, false, false, false, false, false, false, false, false, false, false, false, false, false, false, false, false, false, false, false] (by kernel_rfl) rfl rfl (BK503.out) (fun hHeld => ?_); refine with_tabW drawlotlaw05_ShaCuts.tab15 drawlotlaw05_ShaCuts.bits15 (fun HT_ HW_ => ?_)
                 generalize w46.drew = w47 at HO_0 HO_6 HO_485001 HO490 HO493 HO497 BK484 BK500 BK503 HB HO508 hHeld ⊢
                 refine pure_ (i := 0) (N := some 60) (v := ?_) (a' := ?_) #[true, false, false, false, false, false, false, false, false, false, false, false, false, false, false, false, false, false, false, false] rfl rfl (any_of HT_.out (by kernel_rfl)) (fun _ _ _ h => h) (Or.inl ⟨by rfl, ?_⟩) ?_ ?_
                 rotate_left
                 ·intro w'
                  go_simp
                  with_reducible rfl
                 rotate_left
                 ·simp only [Act.put, List.setIfInBounds_toArray, List.set_cons_zero, List.set_cons_succ, i64_w, i32_w]
                  rfl
                 refine pure_ (i := 1) (N := some 61) (v := ?_) (a' := ?_) #[true, true, false, false, false, false, false, false, false, false, false, false, false, false, false, false, false, false, false, false] rfl rfl (any_of HT_.out (by kernel_rfl)) (fun _ _ _ h => h) (Or.inl ⟨by rfl, ?_⟩) ?_ ?_
                 rotate_left
                 ·intro w'
                  go_simp
                  with_reducible rfl
                 rotate_left
                 ·simp only [Act.put, List.setIfInBounds_toArray, List.set_cons_zero, List.set_cons_succ, i64_w, i32_w]
                  rfl
                 refine pure_ (i := 2) (N := some 62) (v := ?_) (a' := ?_) #[true, true, true, false, false, false, false, false, false, false, false, false, false, false, false, false, false, false, false, false] rfl rfl (any_of HT_.out (by kernel_rfl)) (fun _ _ _ h => h) (Or.inl ⟨by rfl, ?_⟩) ?_ ?_
                 rotate_left
                 ·intro w'
                  go_simp
                  with_reducible rfl
                 rotate_left
                 ·simp only [Act.put, List.setIfInBounds_toArray, List.set_cons_zero, List.set_cons_succ, i64_w, i32_w]
                  rfl
                 refine pure_ (i := 3) (N := some 63) (v := ?_) (a' := ?_) #[true, true, true, true, false, false, false, false, false, false, false, false, false, false, false, false, false, false, false, false] rfl rfl (any_of HT_.out (by kernel_rfl)) (fun _ _ _ h => h) (Or.inl ⟨by rfl, ?_⟩) ?_ ?_
                 rotate_left
                 ·intro w'
                  go_simp
                  with_reducible rfl
                 rotate_left
                 ·simp only [Act.put, List.setIfInBounds_toArray, List.set_cons_zero, List.set_cons_succ, i64_w, i32_w]
                  rfl
                 refine pure_ (i := 4) (N := some 64) (v := ?_) (a' := ?_) #[true, true, true, true, true, false, false, false, false, false, false, false, false, false, false, false, false, false, false, false] rfl rfl (any_of HT_.out (by kernel_rfl)) (fun _ _ _ h => h) (Or.inl ⟨by rfl, ?_⟩) ?_ ?_
                 rotate_left
                 ·intro w'
                  go_simp
                  with_reducible rfl
                 rotate_left
                 ·simp only [Act.put, List.setIfInBounds_toArray, List.set_cons_zero, List.set_cons_succ, i64_w, i32_w]
                  rfl
                 refine pure_ (i := 5) (N := some 65) (v := ?_) (a' := ?_) #[true, true, true, true, true, true, false, false, false, false, false, false, false, false, false, false, false, false, false, false] rfl rfl (any_of HT_.out (by kernel_rfl)) (fun _ _ _ h => h) (Or.inl ⟨by rfl, ?_⟩) ?_ ?_
                 rotate_left
                 ·intro w'
                  go_simp
                  with_reducible rfl
                 rotate_left
                 ·simp only [Act.put, List.setIfInBounds_toArray, List.set_cons_zero, List.set_cons_succ, i64_w, i32_w]
                  rfl
                 refine pure_ (i := 6) (N := some 66) (v := ?_) (a' := ?_) #[true, true, true, true, true, true, true, false, false, false, false, false, false, false, false, false, false, false, false, false] rfl rfl (any_of HT_.out (by kernel_rfl)) (fun _ _ _ h => h) (Or.inl ⟨by rfl, ?_⟩) ?_ ?_
                 rotate_left
                 ·intro w'
                  go_simp
                  with_reducible rfl
                 rotate_left
                 ·simp only [Act.put, List.setIfInBounds_toArray, List.set_cons_zero, List.set_cons_succ, i64_w, i32_w]
                  rfl
                 refine pure_ (i := 8) (N := some 68) (v := ?_) (a' := ?_) #[true, true, true, true, true, true, true, false, true, false, false, false, false, false, false, false, false, false, false, false] rfl rfl (any_of HT_.out (by kernel_rfl)) (fun _ _ _ h => h) (Or.inl ⟨by rfl, ?_⟩) ?_ ?_
                 rotate_left
                 ·intro w'
                  go_simp
                  with_reducible rfl
                 rotate_left
                 ·simp only [Act.put, List.setIfInBounds_toArray, List.set_cons_zero, List.set_cons_succ, i64_w, i32_w]
                  rfl
                 refine pure_ (i := 9) (N := some 69) (v := ?_) (a' := ?_) #[true, true, true, true, true, true, true, false, true, true, false, false, false, false, false, false, false, false, false, false] rfl rfl (any_of HT_.out (by kernel_rfl)) (fun _ _ _ h => h) (Or.inl ⟨by rfl, ?_⟩) ?_ ?_
                 rotate_left
                 ·intro w'
                  go_simp
                  with_reducible rfl
                 rotate_left
                 ·simp only [Act.put, List.setIfInBounds_toArray, List.set_cons_zero, List.set_cons_succ, i64_w, i32_w]
                  rfl
                 refine pure_ (i := 10) (N := some 70) (v := ?_) (a' := ?_) #[true, true, true, true, true, true, true, false, true, true, true, false, false, false, false, false, false, false, false, false] rfl rfl (any_of HT_.out (by kernel_rfl)) (fun _ _ _ h => h) (Or.inl ⟨by rfl, ?_⟩) ?_ ?_
                 rotate_left
                 ·intro w'
                  go_simp
                  with_reducible rfl
                 rotate_left
                 ·simp only [Act.put, List.setIfInBounds_toArray, List.set_cons_zero, List.set_cons_succ, i64_w, i32_w]
                  rfl
                 refine pure_ (i := 11) (N := some 71) (v := ?_) (a' := ?_) #[true, true, true, true, true, true, true, false, true, true, true, true, false, false, false, false, false, false, false, false] rfl rfl (any_of HT_.out (by kernel_rfl)) (fun _ _ _ h => h) (Or.inl ⟨by rfl, ?_⟩) ?_ ?_
                 rotate_left
                 ·intro w'
                  go_simp
                  with_reducible rfl
                 rotate_left
                 ·simp only [Act.put, List.setIfInBounds_toArray, List.set_cons_zero, List.set_cons_succ, i64_w, i32_w]
                  rfl
                 refine pure_ (i := 12) (N := some 72) (v := ?_) (a' := ?_) #[true, true, true, true, true, true, true, false, true, true, true, true, true, false, false, false, false, false, false, false] rfl rfl (any_of HT_.out (by kernel_rfl)) (fun _ _ _ h => h) (Or.inl ⟨by rfl, ?_⟩) ?_ ?_
                 rotate_left
                 ·intro w'
                  go_simp
                  with_reducible rfl
                 rotate_left
                 ·simp only [Act.put, List.setIfInBounds_toArray, List.set_cons_zero, List.set_cons_succ, i64_w, i32_w]
                  rfl
                 refine pure_ (i := 13) (N := some 73) (v := ?_) (a' := ?_) #[true, true, true, true, true, true, true, false, true, true, true, true, true, true, false, false, false, false, false, false] rfl rfl (any_of HT_.out (by kernel_rfl)) (fun _ _ _ h => h) (Or.inl ⟨by rfl, ?_⟩) ?_ ?_
                 rotate_left
                 ·intro w'
                  go_simp
                  with_reducible rfl
                 rotate_left
                 ·simp only [Act.put, List.setIfInBounds_toArray, List.set_cons_zero, List.set_cons_succ, i64_w, i32_w]
                  rfl
                 refine pure_ (i := 14) (N := some 74) (v := ?_) (a' := ?_) #[true, true, true, true, true, true, true, false, true, true, true, true, true, true, true, false, false, false, false, false] rfl rfl (any_of HT_.out (by kernel_rfl)) (fun _ _ _ h => h) (Or.inl ⟨by rfl, ?_⟩) ?_ ?_
                 rotate_left
                 ·intro w'
                  go_simp
                  with_reducible rfl
                 rotate_left
                 ·simp only [Act.put, List.setIfInBounds_toArray, List.set_cons_zero, List.set_cons_succ, i64_w, i32_w]
                  rfl
                 refine pure_ (i := 15) (N := some 75) (v := ?_) (a' := ?_) #[true, true, true, true, true, true, true, false, true, true, true, true, true, true, true, true, false, false, false, false] rfl rfl (any_of HT_.out (by kernel_rfl)) (fun _ _ _ h => h) (Or.inl ⟨by rfl, ?_⟩) ?_ ?_
                 rotate_left
                 ·intro w'
                  go_simp
                  with_reducible rfl
                 rotate_left
                 ·simp only [Act.put, List.setIfInBounds_toArray, List.set_cons_zero, List.set_cons_succ, i64_w, i32_w]
                  rfl
                 refine pure_ (i := 16) (N := some 76) (v := ?_) (a' := ?_) #[true, true, true, true, true, true, true, false, true, true, true, true, true, true, true, true, true, false, false, false] rfl rfl (any_of HT_.out (by kernel_rfl)) (fun _ _ _ h => h) (Or.inl ⟨by rfl, ?_⟩) ?_ ?_
                 rotate_left
                 ·intro w'
                  go_simp
                  with_reducible rfl
                 rotate_left
                 ·simp only [Act.put, List.setIfInBounds_toArray, List.set_cons_zero, List.set_cons_succ, i64_w, i32_w]
                  rfl
                 refine take_ (i := 7) (N := some 67) (v := ?_) (a' := ?_) #[true, true, true, true, true, true, true, true, true, true, true, true, true, true, true, true, true, false, false, false] rfl rfl (take_ofW HT_.out HW_.out (by kernel_rfl)) (fun _ _ _ h => h) (Or.inl ⟨by rfl, ?_⟩) hHeld ?_ ?_
                 rotate_left
                 ·intro w' s0
                  first | (refine (Ar.load_run rfl Tryd.underlying26 (by kernel_rfl) rfl (by assumption)).trans ?_; with_reducible rfl) | (go_simp; with_reducible rfl)
                 rotate_left
                 ·simp only [Act.put, List.setIfInBounds_toArray, List.set_cons_zero, List.set_cons_succ, i64_w, i32_w]
                  rfl
                 refine one_ (i := 17) (N := some 77) #[true, true, true, true, true, true, true, true, true, true, true, true, true, true, true, true, true, true, false, false] rfl rfl (one_of HT_.out (by kernel_rfl)) (by decide) (fun K hK => ?_)
                 refine goes_ Tryd.func10 (by kernel_rfl) rfl #[.slice A0 y504.length c0] (by rfl) rfl rfl ql ?_
                 with_reducible refine (drawlotref05_Sum.calls k1 _ _ y504 t509 _ ?side1 ?side2 A28.out).mono ?_
                 (case side1 => repeat (first | exact (Kd.V_reads' HO508.out).2.2 | (with_reducible refine Kd.C_alloc ?_ _) | (with_reducible refine Kd.C_drewN ?_ _) | (with_reducible refine Kd.C_drew ?_)))
                 (case side2 => exact (Kd.V_reads' HO508.out).2.1)
                 rintro e w49 ⟨rfl, hb⟩
                 refine ⟨_, rfl, ?_⟩
                 replace HO_0 := Aside0.mk (Kd.V_below (qv HO_0) hb)
                 replace HO_6 := Aside0.mk (Kd.V_below (qv HO_6) hb)
                 replace HO_485001 := Aside0.mk (Kd.V_below (qv HO_485001) hb)
                 replace HO490 := Aside0.mk (Kd.V_below (qv HO490) hb)
                 replace HO493 := Aside0.mk (Kd.N_below (qn HO493) hb)
                 replace HO497 := Aside0.mk (Kd.V_below (qv HO497) hb)
                 replace HO508 := Aside0.mk (Kd.V_below (qv HO508) hb)
                 replace BK484 := Aside0.mk (qB BK484 hb)
                 replace BK500 := Aside0.mk (qB BK500 hb)
                 replace BK503 := Aside0.mk (qB BK503 hb)
                 replace HB := Aside0.mk (below_step (qs HB) hb)
                 (try clear hb)
                 (try clear hb2)
                 (try clear hk)
                 (try clear hi)
                 refine hK.out _ _ (BK503.out) (fun hHeld => ?_)
                 clear hK K
                 refine norm_ (a' := ?_) ?_ ?_
                 rotate_left
                 ·show Act.put _ (some 77) _ = _
                  simp only [Act.put, List.setIfInBounds_toArray, List.set_cons_zero, List.set_cons_succ, i64_w, i32_w]
                  rfl
                 refine pure_ (i := 18) (N := some 78) (v := ?_) (a' := ?_) #[true, true, true, true, true, true, true, true, true, true, true, true, true, true, true, true, true, true, true, false] rfl rfl (any_of HT_.out (by kernel_rfl)) (fun _ _ _ h => h) (Or.inl ⟨by rfl, ?_⟩) ?_ ?_
                 rotate_left
                 ·intro w'
                  go_simp
                  with_reducible rfl
                 rotate_left
                 ·simp only [Act.put, List.setIfInBounds_toArray, List.set_cons_zero, List.set_cons_succ, i64_w, i32_w]
                  rfl
                 refine pure_ (i := 19) (N := some 79) (v := ?_) (a' := ?_) #[true, true, true, true, true, true, true, true, true, true, true, true, true, true, true, true, true, true, true, true] rfl rfl (any_of HT_.out (by kernel_rfl)) (fun _ _ _ h => h) (Or.inl ⟨by rfl, ?_⟩) ?_ ?_
                 rotate_left
                 ·intro w'
                  go_simp
                  with_reducible rfl
                 rotate_left
                 ·simp only [Act.put, List.setIfInBounds_toArray, List.set_cons_zero, List.set_cons_succ, i64_w, i32_w]
                  rfl
                 refine done_ (done_of HT_.out (by kernel_rfl)) ?_
                 try go_wp2
                 replace HO_0 := Aside0.mk (Kd.V_drew HO_0.out)
                 replace HO_6 := Aside0.mk (Kd.V_drew HO_6.out)
                 replace HO_485001 := Aside0.mk (Kd.V_drew HO_485001.out)
                 replace HO490 := Aside0.mk (Kd.V_drew HO490.out)
                 replace HO493 := Aside0.mk (Kd.N_drew HO493.out)
                 replace HO497 := Aside0.mk (Kd.V_drew HO497.out)
                 replace HO508 := Aside0.mk (Kd.V_drew HO508.out)
                 replace BK484 := Aside0.mk (blk_drew BK484.out)
                 replace BK500 := Aside0.mk (blk_drew BK500.out)
                 replace BK503 := Aside0.mk (blk_drew BK503.out)
                 replace HB := Aside0.mk (below_drew1 HB.out)
                 have q51 : ((ji18) : Int) ≤ ((x6_1.length : Int) : Int) := of_decide_eq_true qa
                 obtain ⟨i051, hi051, _, hsz51, _⟩ := info_parts info5
                 have hroom51 : x6_1.length ≤ co32 := (Kd.V_reads' HO_6.out).2.1
                 have hC51 : Kd.F (Kd.int .u8) _ _ Ao32 x6_1.length x6_1 := (Kd.V_at (base := w.heap.size) HO_6.out).2.2
                 have q051 : (0 : Int) ≤ ((ji18) : Int) := of_decide_eq_true qa
                 have hcut51 := cut_from (P := Tryd.prog) 29 5 .i64 Tryd.underlying29 hi051 1 hsz51 Ao32 x6_1.length co32 (ji18) q051 q51
                 have hr51 := Kd.F_cut (m := ((ji18) : Int).toNat) (c := co32) hC51 (by omega) hroom51
                 obtain ⟨A51, hA51⟩ : ∃ A1, A1 = (if co32 = ((ji18) : Int).toNat then Ao32 else (Ao32 : Option Addr).map (·.add (((ji18) : Int).toNat * 1))) := ⟨_, rfl⟩
                 obtain ⟨c51, hc51⟩ : ∃ c1, c1 = co32 - ((ji18) : Int).toNat := ⟨_, rfl⟩
                 have hy51 : y510.length = x6_1.length - ((ji18) : Int).toNat := (by rw [Ny510.out, List.length_drop] <;> omega)
                 rw [show (x6_1).drop ((ji18) : Int).toNat = y510 from Ny510.out.symm] at hr51
                 replace hr51 : Kd.F (Kd.int .u8) _ _ A51 y510.length y510 := (by rw [hA51]; exact hr51)
                 rw [← hy51, ← hA51, ← hc51] at hcut51
                 have HO514 := Aside0.mk (show Kd.V (Kd.int .u8) 5 _ w.heap.size _ (.slice A51 y510.length c51) y510 from Kd.V_mk (by rw [hy51, hc51]; exact Nat.sub_le_sub_right hroom51 _) hr51)
                 have HC514 := Aside0.mk (show y510.length ≤ c51 from by rw [hy51, hc51]; exact Nat.sub_le_sub_right hroom51 _)
                 clear hr51 hC51 hroom51 hi051 hsz51 hc51
                 have KY51 := Aside0.mk hy51
                 have KA51 := Aside0.mk hA51
                 clear hy51 hA51
                 replace q51 := eq_true q51
                 refine start_ (n := 6) (S := fun w' => w'.heap[gb500]? = some (.cells ((Ar.cells .u32 8 t494) ++ #[.slice Ao43 t495.length co43, .int .u64 t498]) 36 (0, 0)) ∧ w'.cell? ⟨gb500, 8, none⟩ = some (.slice Ao43 t495.length co43) ∧ w'.cell? ⟨gb500, 9, none⟩ = some (.int .u64 t498)) (ds := []) #[false, false, false, false, false, false] (by kernel_rfl) rfl rfl ⟨BK500.out, (blk_cell BK500.out 8).trans qc, (blk_cell BK500.out 9).trans qc⟩ (fun hHeld => ?_)
                 generalize w49.drew = w50 at HO_0 HO_6 HO_485001 HO490 HO493 HO497 HO508 BK484 BK500 BK503 HB HO514 hHeld ⊢
                 refine pure_ (i := 1) (N := some 81) (v := ?_) (a' := ?_) #[false, true, false, false, false, false] rfl rfl (by kernel_rfl) (fun _ _ _ h => h) (Or.inl ⟨by rfl, ?_⟩) ?_ ?_
                 rotate_left
                 ·intro w'
                  go_simp
                  with_reducible rfl
                 rotate_left
                 ·simp only [Act.put, List.setIfInBounds_toArray, List.set_cons_zero, List.set_cons_succ, i64_w, i32_w]
                  rfl
                 refine pure_ (i := 2) (N := some 82) (v := ?_) (a' := ?_) #[false, true, true, false, false, false] rfl rfl (by kernel_rfl) (fun _ _ _ h => h) (Or.inl ⟨by rfl, ?_⟩) ?_ ?_
                 rotate_left
                 ·intro w'
                  go_simp
                  with_reducible rfl
                 rotate_left
                 ·simp only [Act.put, List.setIfInBounds_toArray, List.set_cons_zero, List.set_cons_succ, i64_w, i32_w]
                  rfl
                 refine pure_ (i := 3) (N := some 83) (v := ?_) (a' := ?_) #[false, true, true, true, false, false] rfl rfl (by kernel_rfl) (fun _ _ _ h => h) (Or.inl ⟨by rfl, ?_⟩) ?_ ?_
                 rotate_left
                 ·intro w'
                  go_simp
                  with_reducible rfl
                 rotate_left
                 ·simp only [Act.put, List.setIfInBounds_toArray, List.set_cons_zero, List.set_cons_succ, i64_w, i32_w]
                  rfl
                 refine take_ (i := 0) (N := some 80) (v := ?_) (a' := ?_) #[true, true, true, true, false, false] rfl rfl (by kernel_rfl) (fun _ _ _ h => h) (Or.inl ⟨by rfl, ?_⟩) hHeld ?_ ?_
                 rotate_left
                 ·rintro w' ⟨s0, s1, s2⟩
                  first | (refine (Ar.gload_run rfl Tryd.underlying36 rfl (D := ((Ar.cells .u32 8 t494) ++ #[.slice Ao43 t495.length co43, .int .u64 t498])) qz rfl (Ar.blk_part (by assumption) Ar.in_whole)).trans ?_; with_reducible rfl) | (go_simp; with_reducible rfl)
                 rotate_left
                 ·simp only [Act.put, List.setIfInBounds_toArray, List.set_cons_zero, List.set_cons_succ, i64_w, i32_w]
                  rfl
                 refine one_ (i := 4) (N := none) #[true, true, true, true, true, false] rfl rfl (by kernel_rfl) (by decide) (fun K hK => ?_)
                 refine Ar.gstore_step (by rfl) rfl rfl (D := ((Ar.cells .u32 8 t494) ++ #[.slice Ao43 t495.length co43, .int .u64 t498])) qz (g := gb484) rfl qg (qb BK484) (by simp [Ar.cells_size]) (by repeat (first | (with_reducible refine Ar.all_app ?_ ?_) | (with_reducible exact Ar.cells_one _ _ _) | (focus (simp [Value.oneCell']; done)) | rfl)) ?_; intro w52 hbk_ hg
                 replace HO_0 := Aside0.mk (Kd.V_grown (qv HO_0) hg (by intro k_ hk e_; exact (hk.1.2.2.1) (Option.some.inj e_)))
                 replace HO_6 := Aside0.mk (Kd.V_grown (qv HO_6) hg (by intro k_ hk e_; exact (hk.1.2.2.1) (Option.some.inj e_)))
                 replace HO_485001 := Aside0.mk (Kd.V_grown (qv HO_485001) hg (by intro k_ hk e_; exact (hk.1.2.2.1) (Option.some.inj e_)))
                 replace HO490 := Aside0.mk (Kd.V_grown (qv HO490) hg (by intro k_ hk e_; exact (hk.1.2.2.1) (Option.some.inj e_)))
                 replace HO493 := Aside0.mk (Kd.N_grown (qn HO493) hg (by intro k_ hk e_; exact (hk.1.2.1) (Option.some.inj e_)))
                 replace HO497 := Aside0.mk (Kd.V_grown (qv HO497) hg (by intro k_ hk e_; exact (hk.1.2.2.1) (Option.some.inj e_)))
                 replace BK500 := Aside0.mk (qG BK500 hg (fun e_ => NB500_484.out (Option.some.inj e_)))
                 replace BK503 := Aside0.mk (qG BK503 hg (fun e_ => NB503_484.out (Option.some.inj e_)))
                 replace HO508 := Aside0.mk (Kd.V_grown (qv HO508) hg (by intro k_ hk e_; exact (hk.1.2.2.1) (Option.some.inj e_)))
                 replace HO514 := Aside0.mk (Kd.V_grown (qv HO514) hg (by intro k_ hk e_; exact (hk.1.2.2.1) (Option.some.inj e_)))
                 replace BK484 := Aside0.mk (hbk_)
                 replace HB := Aside0.mk (Below.grown (qs HB) hg ((below_size (qs HB))) (fun _ e_ => by cases e_; exact GE484.out))
                 clear hbk_ hg
                 refine hK.out _ _ ⟨BK500.out, (blk_cell BK500.out 8).trans qc, (blk_cell BK500.out 9).trans qc⟩ (fun hHeld => ?_)
                 clear hK K
                 refine pure_ (i := 5) (N := some 6) (v := ?_) (a' := ?_) #[true, true, true, true, true, true] rfl rfl (by kernel_rfl) (fun _ _ _ h => h) (Or.inl ⟨by rfl, ?_⟩) ?_ ?_
                 rotate_left
                 ·intro w'
                  go_simp
                  with_reducible rfl
                 rotate_left
                 ·simp only [Act.put, List.setIfInBounds_toArray, List.set_cons_zero, List.set_cons_succ, i64_w, i32_w]
                  rfl
                 refine done_ (by kernel_rfl) ?_
                 try go_wp2
                 go_roundg k1
                 case measure => have := HK1.out; omega
                 case rel => exact ⟨(y510), (wrap64 (x7_1 + 1)), (t494), (t495), (t498), (.slice Ao43 t495.length co43), (by first | rfl | (simp; done) | (simp [*]; done)), H', ⟨by have := HK1.out; omega⟩, ⟨by (with_reducible repeat (first | apply Kd.V_alloc | apply Kd.V_drewN | apply Kd.V_drew)); exact Kd.V_mono HO_0.out (fun _ hk => ⟨hk.1.1, hk.1.2.2.1⟩)⟩, ⟨by (with_reducible repeat (first | apply Kd.V_alloc | apply Kd.V_drewN | apply Kd.V_drew)); exact Kd.V_mono HO514.out (fun _ hk => ⟨hk.1.1, hk.1.2.2.1⟩)⟩, ⟨by (with_reducible repeat (first | apply Kd.V_alloc | apply Kd.V_drewN | apply Kd.V_drew)); exact Kd.V_mono HO497.out (fun _ hk => ⟨hk.1.1, hk.1.2.2.1⟩)⟩, ⟨by (with_reducible repeat (first | refine blk_drewN ?_ _ | refine blk_drew ?_ | refine blk_alloc ?_ _)); exact BK484.out⟩, ⟨by repeat (first | (with_reducible first | exact HB.out | apply below_alloc | apply pw_below_drewN | apply below_drew1 | refine below_set ?_ GE484.out | refine below_set ?_ GE500.out | refine below_set ?_ GE503.out) | exact HB.out)⟩⟩
                ·rw [if_neg c29] at H
                 exact absurd H (by simp)
               ·rw [if_neg c27] at H
                exact absurd H (by simp)
              ·rw [if_neg c26] at H
               exact absurd H (by simp)
             ·rw [if_neg c24] at H
              exact absurd H (by simp)
            ·rw [if_neg c23] at H
             exact absurd H (by simp)
           ·rw [if_neg c20] at H
            exact absurd H (by simp)
          ·rw [if_neg c19] at H
           exact absurd H (by simp)
        ·rw [if_neg c16] at H
         exact absurd H (by simp)
       ·rw [if_neg c15] at H
        have c15b0 : decide (x7_1 < (l1.length : Int)) = false := decide_eq_false c15
        clear c15
        by_cases c53 : 0 ≤ (x6_1.length : Int)
        ·rw [if_pos c53] at H
         have c53b0 := eq_true c53
         have c53b1 : decide (0 ≤ (x6_1.length : Int)) = true := decide_eq_true c53
         clear c53
         by_cases c54 : (x6_1.length : Int) ≤ (x6_1.length : Int)
         ·rw [if_pos c54] at H
          have c54b0 := eq_true c54
          have c54b1 : decide ((x6_1.length : Int) ≤ (x6_1.length : Int)) = true := decide_eq_true c54
          clear c54
          obtain ⟨y515, hy515⟩ : ∃ y_ : List Int, y_ = (x6_1.take ((x6_1.length : Int) : Int).toNat) := ⟨_, rfl⟩
          replace H : ((sha_Write.f k1 x485000_1 x485001_1 x485002_1 (([y515] : List (List Int)))).bind fun bt523 => ((sha_Finish.f k1 bt523.1 bt523.2.1 bt523.2.2.1).bind fun bt530 => (if bt523.2.2.2 = 0 then (if bt530.2 = 0 then (if 0 ≤ (wrap64 ((wrap64 ((l0.length : Int) - (x6_1.length : Int))) + (x6_1.length : Int))) then (if (wrap64 ((wrap64 ((l0.length : Int) - (x6_1.length : Int))) + (x6_1.length : Int))) ≤ (l0.length : Int) then ((drawlotref05_Sum.f k1 (l0.take ((wrap64 ((wrap64 ((l0.length : Int) - (x6_1.length : Int))) + (x6_1.length : Int))) : Int).toNat)).bind fun t538 => (if ((Ar.eqb 32 bt530.1 t538) = true) then (drawlotlaw05_ShaCuts.l0 k1 l0 l1 (x6_1.drop ((x6_1.length : Int) : Int).toNat) (wrap64 (x7_1 + 1)) bt523.1 bt523.2.1 bt523.2.2.1) else (none))) else (none)) else (none)) else (none)) else (none)))) = some r := by first | (rw [hy515]; with_reducible exact H) | (have H2_ := (Option.bind_some _ _).symm.trans H; rw [hy515]; with_reducible exact H2_) | (have H2_ := (Option.bind_some _ _).symm.trans H; with_reducible exact H2_) | with_reducible exact H | (rw [hy515]; exact H) | exact H
          have Ny515 := Aside0.mk hy515
          clear hy515
          obtain ⟨y520, hy520⟩ : ∃ y_ : List (List Int), y_ = (([y515] : List (List Int))) := ⟨_, rfl⟩
          replace H : ((sha_Write.f k1 x485000_1 x485001_1 x485002_1 y520).bind fun bt523 => ((sha_Finish.f k1 bt523.1 bt523.2.1 bt523.2.2.1).bind fun bt530 => (if bt523.2.2.2 = 0 then (if bt530.2 = 0 then (if 0 ≤ (wrap64 ((wrap64 ((l0.length : Int) - (x6_1.length : Int))) + (x6_1.length : Int))) then (if (wrap64 ((wrap64 ((l0.length : Int) - (x6_1.length : Int))) + (x6_1.length : Int))) ≤ (l0.length : Int) then ((drawlotref05_Sum.f k1 (l0.take ((wrap64 ((wrap64 ((l0.length : Int) - (x6_1.length : Int))) + (x6_1.length : Int))) : Int).toNat)).bind fun t538 => (if ((Ar.eqb 32 bt530.1 t538) = true) then (drawlotlaw05_ShaCuts.l0 k1 l0 l1 (x6_1.drop ((x6_1.length : Int) : Int).toNat) (wrap64 (x7_1 + 1)) bt523.1 bt523.2.1 bt523.2.2.1) else (none))) else (none)) else (none)) else (none)) else (none)))) = some r := by first | (rw [hy520]; with_reducible exact H) | (have H2_ := (Option.bind_some _ _).symm.trans H; rw [hy520]; with_reducible exact H2_) | (have H2_ := (Option.bind_some _ _).symm.trans H; with_reducible exact H2_) | with_reducible exact H | (rw [hy520]; exact H) | exact H
          have Ny520 := Aside0.mk hy520
          clear hy520
          replace H := Option.bind_eq_some_iff.mp H
          obtain ⟨⟨t523, t524, t527, t528⟩, A550, H⟩ := H
          replace H : ((sha_Finish.f k1 t523 t524 t527).bind fun bt530 => (if t528 = 0 then (if bt530.2 = 0 then (if 0 ≤ (wrap64 ((wrap64 ((l0.length : Int) - (x6_1.length : Int))) + (x6_1.length : Int))) then (if (wrap64 ((wrap64 ((l0.length : Int) - (x6_1.length : Int))) + (x6_1.length : Int))) ≤ (l0.length : Int) then ((drawlotref05_Sum.f k1 (l0.take ((wrap64 ((wrap64 ((l0.length : Int) - (x6_1.length : Int))) + (x6_1.length : Int))) : Int).toNat)).bind fun t538 => (if ((Ar.eqb 32 bt530.1 t538) = true) then (drawlotlaw05_ShaCuts.l0 k1 l0 l1 (x6_1.drop ((x6_1.length : Int) : Int).toNat) (wrap64 (x7_1 + 1)) t523 t524 t527) else (none))) else (none)) else (none)) else (none)) else (none))) = some r := H
          have A55 := Aside0.mk A550
          clear A550
          replace H := Option.bind_eq_some_iff.mp H
          obtain ⟨⟨t530, t531⟩, A560, H⟩ := H
          replace H : (if t528 = 0 then (if t531 = 0 then (if 0 ≤ (wrap64 ((wrap64 ((l0.length : Int) - (x6_1.length : Int))) + (x6_1.length : Int))) then (if (wrap64 ((wrap64 ((l0.length : Int) - (x6_1.length : Int))) + (x6_1.length : Int))) ≤ (l0.length : Int) then ((drawlotref05_Sum.f k1 (l0.take ((wrap64 ((wrap64 ((l0.length : Int) - (x6_1.length : Int))) + (x6_1.length : Int))) : Int).toNat)).bind fun t538 => (if ((Ar.eqb 32 t530 t538) = true) then (drawlotlaw05_ShaCuts.l0 k1 l0 l1 (x6_1.drop ((x6_1.length : Int) : Int).toNat) (wrap64 (x7_1 + 1)) t523 t524 t527) else (none))) else (none)) else (none)) else (none)) else (none)) = some r := H
          have A56 := Aside0.mk A560
          clear A560
          by_cases c57 : t528 = 0
          ·rw [if_pos c57] at H
           have c57b0 : (t528 == 0) = true := beq_iff_eq.mpr c57
           have c57b1 : (t528 != 0) = false := bne_eq_false_iff_eq.mpr c57
           clear c57
           by_cases c58 : t531 = 0
           ·rw [if_pos c58] at H
            have c58b0 : (t531 == 0) = true := beq_iff_eq.mpr c58
            have c58b1 : (t531 != 0) = false := bne_eq_false_iff_eq.mpr c58
            clear c58
            obtain ⟨ji59, hji59⟩ : ∃ j_ : Int, (wrap64 ((wrap64 ((l0.length : Int) - (x6_1.length : Int))) + (x6_1.length : Int))) = j_ := ⟨_, rfl⟩
            replace H : (if 0 ≤ (ji59) then (if (ji59) ≤ (l0.length : Int) then ((drawlotref05_Sum.f k1 (l0.take ((ji59) : Int).toNat)).bind fun t538 => (if ((Ar.eqb 32 t530 t538) = true) then (drawlotlaw05_ShaCuts.l0 k1 l0 l1 (x6_1.drop ((x6_1.length : Int) : Int).toNat) (wrap64 (x7_1 + 1)) t523 t524 t527) else (none))) else (none)) else (none)) = some r := by first | (rw [hji59] at H; exact H) | (simp only [hji59] at H ⊢; exact H)
            (try rw [hji59] at A55)
            (try rw [hji59] at A56)
            have hji59w : (IntKind.i64.wrap ((wrap64 ((l0.length : Int) - (x6_1.length : Int))) + (x6_1.length : Int))) = ji59 := (i64_w _).trans hji59
            by_cases c60 : 0 ≤ (ji59)
            ·rw [if_pos c60] at H
             have c60b0 := eq_true c60
             have c60b1 : decide (0 ≤ (ji59)) = true := decide_eq_true c60
             clear c60
             by_cases c61 : (ji59) ≤ (l0.length : Int)
             ·rw [if_pos c61] at H
              have c61b0 := eq_true c61
              have c61b1 : decide ((ji59) ≤ (l0.length : Int)) = true := decide_eq_true c61
              clear c61
              obtain ⟨y533, hy533⟩ : ∃ y_ : List Int, y_ = (l0.take ((ji59) : Int).toNat) := ⟨_, rfl⟩
              replace H : ((drawlotref05_Sum.f k1 y533).bind fun t538 => (if ((Ar.eqb 32 t530 t538) = true) then (drawlotlaw05_ShaCuts.l0 k1 l0 l1 (x6_1.drop ((x6_1.length : Int) : Int).toNat) (wrap64 (x7_1 + 1)) t523 t524 t527) else (none))) = some r := by first | (rw [hy533]; with_reducible exact H) | (have H2_ := (Option.bind_some _ _).symm.trans H; rw [hy533]; with_reducible exact H2_) | (have H2_ := (Option.bind_some _ _).symm.trans H; with_reducible exact H2_) | with_reducible exact H | (rw [hy533]; exact H) | exact H
              have Ny533 := Aside0.mk hy533
              clear hy533
              replace H := Option.bind_eq_some_iff.mp H
              obtain ⟨t538, A620, H⟩ := H
              replace H : (if ((Ar.eqb 32 t530 t538) = true) then (drawlotlaw05_ShaCuts.l0 k1 l0 l1 (x6_1.drop ((x6_1.length : Int) : Int).toNat) (wrap64 (x7_1 + 1)) t523 t524 t527) else (none)) = some r := H
              have A62 := Aside0.mk A620
              clear A620
              by_cases c63 : ((Ar.eqb 32 t530 t538) = true)
              ·rw [if_pos c63] at H
               have c63b0 : (Ar.eqb 32 t530 t538) = true := c63
               clear c63
               have c64b0 := eq_true (of_decide_eq_true qa : 0 ≤ (x6_1.length : Int))
               have c65b0 := eq_true (of_decide_eq_true qa : (x6_1.length : Int) ≤ (x6_1.length : Int))
               obtain ⟨y539, hy539⟩ : ∃ y_ : List Int, y_ = (x6_1.drop ((x6_1.length : Int) : Int).toNat) := ⟨_, rfl⟩
               replace H : (drawlotlaw05_ShaCuts.l0 k1 l0 l1 y539 (wrap64 (x7_1 + 1)) t523 t524 t527) = some r := by first | (rw [hy539]; with_reducible exact H) | (have H2_ := (Option.bind_some _ _).symm.trans H; rw [hy539]; with_reducible exact H2_) | (have H2_ := (Option.bind_some _ _).symm.trans H; with_reducible exact H2_) | with_reducible exact H | (rw [hy539]; exact H) | exact H
               have Ny539 := Aside0.mk hy539
               clear hy539
               have H' := Aside0.mk H
               clear H
               obtain ⟨Ao66, co66, eo66⟩ := Kd.V_slice HO_6.out
               subst eo66
               obtain ⟨Ao67, co67, eo67⟩ := Kd.V_slice HO_485001.out
               subst eo67
               try go_wp2
               replace HO_0 := Aside0.mk (Kd.V_drew HO_0.out)
               replace HO_6 := Aside0.mk (Kd.V_drew HO_6.out)
               replace HO_485001 := Aside0.mk (Kd.V_drew HO_485001.out)
               replace BK484 := Aside0.mk (blk_drew BK484.out)
               replace HB := Aside0.mk (below_drew1 HB.out)
               have q69 : ((x6_1.length : Int) : Int) ≤ ((x6_1.length : Int) : Int) := of_decide_eq_true qa
               obtain ⟨i069, hi069, _, hsz69, _⟩ := info_parts info5
               have hroom69 : x6_1.length ≤ co66 := (Kd.V_reads' HO_6.out).2.1
               have hC69 : Kd.F (Kd.int .u8) _ _ Ao66 x6_1.length x6_1 := (Kd.V_at (base := w.heap.size) HO_6.out).2.2
               have hcut69 := cut_to (P := Tryd.prog) 29 5 .i64 Tryd.underlying29 hi069 Ao66 x6_1.length co66 (x6_1.length : Int) qo q69 hroom69
               have hr69 := Kd.F_take (m := ((x6_1.length : Int) : Int).toNat) hC69 (by omega)
               have hy69 : y515.length = ((x6_1.length : Int) : Int).toNat := (by rw [Ny515.out, List.length_take]; omega)
               rw [← Ny515.out] at hr69
               rw [← hy69] at hcut69
               have HO519 := Aside0.mk (show Kd.V (Kd.int .u8) 5 _ w.heap.size _ (.slice Ao66 y515.length co66) y515 from Kd.V_mk (by omega) hr69)
               have HC519 := Aside0.mk (show y515.length ≤ co66 from by omega)
               clear hr69 hC69 hroom69 hi069 hsz69
               have KY69 := Aside0.mk hy69
               clear hy69
               replace q69 := eq_true q69
               refine start_ (n := 12) (S := fun w' => w'.heap[gb484]? = some (.cells ((Ar.cells .u32 8 x485000_1) ++ #[.slice Ao67 x485001_1.length co67, .int .u64 x485002_1]) 36 (0, 0)) ∧ w'.cell? ⟨gb484, 8, none⟩ = some (.slice Ao67 x485001_1.length co67) ∧ w'.cell? ⟨gb484, 9, none⟩ = some (.int .u64 x485002_1)) (ds := []) #[false, false, false, false, false, false, false, false, false, false, false, false] (by kernel_rfl) rfl rfl ⟨BK484.out, (blk_cell BK484.out 8).trans qc, (blk_cell BK484.out 9).trans qc⟩ (fun hHeld => ?_); refine with_tabW drawlotlaw05_ShaCuts.tab13 drawlotlaw05_ShaCuts.bits13 (fun HT_ HW_ => ?_)
               generalize wr.drew = w68 at HO_0 HO_6 HO_485001 BK484 HB HO519 hHeld ⊢
               refine pure_ (i := 1) (N := some 48) (v := ?_) (a' := ?_) #[false, true, false, false, false, false, false, false, false, false, false, false] rfl rfl (any_of HT_.out (by kernel_rfl)) (fun _ _ _ h => h) (Or.inl ⟨by rfl, ?_⟩) ?_ ?_
               rotate_left
               ·intro w'
                go_simp
                with_reducible rfl
               rotate_left
               ·simp only [Act.put, List.setIfInBounds_toArray, List.set_cons_zero, List.set_cons_succ, i64_w, i32_w]
                rfl
               refine pure_ (i := 2) (N := some 49) (v := ?_) (a' := ?_) #[false, true, true, false, false, false, false, false, false, false, false, false] rfl rfl (any_of HT_.out (by kernel_rfl)) (fun _ _ _ h => h) (Or.inl ⟨by rfl, ?_⟩) ?_ ?_
               rotate_left
               ·intro w'
                go_simp
                with_reducible rfl
               rotate_left
               ·simp only [Act.put, List.setIfInBounds_toArray, List.set_cons_zero, List.set_cons_succ, i64_w, i32_w]
                rfl
               refine pure_ (i := 3) (N := some 50) (v := ?_) (a' := ?_) #[false, true, true, true, false, false, false, false, false, false, false, false] rfl rfl (any_of HT_.out (by kernel_rfl)) (fun _ _ _ h => h) (Or.inl ⟨by rfl, ?_⟩) ?_ ?_
               rotate_left
               ·intro w'
                go_simp
                with_reducible rfl
               rotate_left
               ·simp only [Act.put, List.setIfInBounds_toArray, List.set_cons_zero, List.set_cons_succ, i64_w, i32_w]
                rfl
               refine take_ (i := 0) (N := some 47) (v := ?_) (a' := ?_) #[true, true, true, true, false, false, false, false, false, false, false, false] rfl rfl (take_ofW HT_.out HW_.out (by kernel_rfl)) (fun _ _ _ h => h) (Or.inl ⟨by rfl, ?_⟩) hHeld ?_ ?_
               rotate_left
               ·rintro w' ⟨s0, s1, s2⟩
                first | (refine (Ar.gload_run rfl Tryd.underlying36 rfl (D := ((Ar.cells .u32 8 x485000_1) ++ #[.slice Ao67 x485001_1.length co67, .int .u64 x485002_1])) qz rfl (Ar.blk_part (by assumption) Ar.in_whole)).trans ?_; with_reducible rfl) | (go_simp; with_reducible rfl)
               rotate_left
               ·simp only [Act.put, List.setIfInBounds_toArray, List.set_cons_zero, List.set_cons_succ, i64_w, i32_w]
                rfl
               refine join_ (σ := Value × Value × Nat) 2 #[true, true, true, true, true, true, true, true, true, true, false, false] (fun s_ => [(51, s_.1), (52, .tuple #[.agg ((Ar.cells .u32 8 t523) ++ #[s_.2.1, .int .u64 t527]), .int .i64 t528]), (9, .pointer (some ⟨s_.2.2, 0, none⟩)), (46, .tuple #[.agg ((Ar.cells .u32 8 t523) ++ #[s_.2.1, .int .u64 t527]), .int .i64 t528]), (53, .agg ((Ar.cells .u32 8 t523) ++ #[s_.2.1, .int .u64 t527])), (54, .int .i64 t528)]) (fun s_ w' => (w'.heap[gb484]? = some (.cells ((Ar.cells .u32 8 x485000_1) ++ #[.slice Ao67 x485001_1.length co67, .int .u64 x485002_1]) 36 (0, 0)) ∧ w'.cell? ⟨gb484, 8, none⟩ = some (.slice Ao67 x485001_1.length co67) ∧ w'.cell? ⟨gb484, 9, none⟩ = some (.int .u64 x485002_1)) ∧ (Kd.V (Kd.int .u8) 5 w' w.heap.size (fun k_ => (P0_ k_ ∨ w.heap.size ≤ k_) ∧ some k_ ≠ (s_.1 : Value).ownBlock ∧ k_ ≠ gb484 ∧ k_ ≠ s_.2.2) (.slice Ao66 y515.length co66) y515) ∧ (Kd.N (Kd.slice 5 (Kd.int .u8)) 29 w' w.heap.size (fun k_ => (P0_ k_ ∨ w.heap.size ≤ k_) ∧ k_ ≠ gb484 ∧ k_ ≠ s_.2.2) s_.1 y520) ∧ (Kd.V (Kd.int .u8) 5 w' w.heap.size (fun k_ => (P0_ k_ ∨ w.heap.size ≤ k_) ∧ some k_ ≠ (s_.1 : Value).ownBlock ∧ k_ ≠ gb484 ∧ k_ ≠ s_.2.2) s_.2.1 t524) ∧ (Kd.V (Kd.int .u8) 5 w' w.heap.size (fun k_ => (P0_ k_ ∨ w.heap.size ≤ k_) ∧ some k_ ≠ (s_.1 : Value).ownBlock ∧ k_ ≠ gb484 ∧ k_ ≠ s_.2.2) (.slice A0 l0.length c0) l0) ∧ (Kd.V (Kd.int .u8) 5 w' w.heap.size (fun k_ => (P0_ k_ ∨ w.heap.size ≤ k_) ∧ some k_ ≠ (s_.1 : Value).ownBlock ∧ k_ ≠ gb484 ∧ k_ ≠ s_.2.2) (.slice Ao67 x485001_1.length co67) x485001_1) ∧ (Kd.V (Kd.int .u8) 5 w' w.heap.size (fun k_ => (P0_ k_ ∨ w.heap.size ≤ k_) ∧ some k_ ≠ (s_.1 : Value).ownBlock ∧ k_ ≠ gb484 ∧ k_ ≠ s_.2.2) (.slice Ao66 x6_1.length co66) x6_1) ∧ (w'.heap[gb484]? = some (.cells ((Ar.cells .u32 8 x485000_1) ++ #[.slice Ao67 x485001_1.length co67, .int .u64 x485002_1]) 36 (0, 0))) ∧ (w'.heap[s_.2.2]? = some (.cells ((Ar.cells .u32 8 (List.replicate 8 0)) ++ #[.slice none 0 0, .int .u64 0]) 36 (0, 0))) ∧ (w.heap.size ≤ s_.2.2) ∧ (w.heap.size ≤ s_.2.2) ∧ (gb484 ≠ s_.2.2) ∧ (s_.2.2 ≠ gb484) ∧ (Below w.heap.size w w')) ?_ ?_
               rotate_left
               ·intro hCont
                refine two_ (i := 4) (j := 9) (Ni := some 51) (Nj := some 9) #[true, true, true, true, true, false, false, false, false, false, false, false] #[true, true, true, true, false, false, false, false, false, true, false, false] rfl rfl rfl rfl (two_of HT_.out (by kernel_rfl)) (by decide) (by decide) (fun K hK => ?_) (fun K hK => ?_)
                ·skip
                 refine Kd.N_lit_step (Kd.slice 5 (Kd.int .u8)) _ 29 ?hg (N' := 51) ?hd (xs := ([y515] : List (List Int))) (inner := [.slice Ao66 y515.length co66]) (ok := (fun k_ => (P0_ k_ ∨ w.heap.size ≤ k_) ∧ k_ ≠ gb484)) (okp := (fun k_ => (P0_ k_ ∨ w.heap.size ≤ k_) ∧ k_ ≠ gb484)) ?hr ?hp (fun _ hk => hk) ((show ∀ k_, w68.heap.size ≤ k_ → (fun k_ => (P0_ k_ ∨ w.heap.size ≤ k_) ∧ k_ ≠ gb484) k_ from fun k_ hk => ⟨(.inr (Nat.le_trans (below_size (qs HB)) hk)), Kd.freshB (g := gb484) (o := .cells ((Ar.cells .u32 8 x485000_1) ++ #[.slice Ao67 x485001_1.length co67, .int .u64 x485002_1]) 36 (0, 0)) (qb BK484) k_ hk⟩) _ (Nat.le_refl _)) (Below.refl _ _) (Nat.le_refl _) (by simp) ?_; (case hd => rfl); (case hg => rfl); (case hr => first | (go_simp; done) | (go_simp; rfl)); (case hp => exact (Reps.one ((Kd.FK_slice_mk (Kd.V_reads' (Kd.V_mono (ok' := (fun k_ => (P0_ k_ ∨ w.heap.size ≤ k_) ∧ k_ ≠ gb484)) (HO519.out) (fun k_ hk => ⟨hk.1, hk.2⟩))).2.1 (Kd.V_F (e := 5) (base := w.heap.size) (Kd.V_mono (ok := (fun k_ => ((P0_ k_ ∨ w.heap.size ≤ k_) ∧ k_ ≠ gb484))) (ok' := (fun k_ => (P0_ k_ ∨ w.heap.size ≤ k_) ∧ k_ ≠ gb484)) (by repeat (first | exact HO519.out | apply Kd.V_drewN | apply Kd.V_alloc | apply Kd.V_drew)) (fun k_ hk => ⟨hk.1, hk.2⟩)))) : Kd.FK (Kd.slice 5 (Kd.int .u8)) _ _ y515 [.slice Ao66 y515.length co66]) (Reps.none _ _)))
                 intro v521 w70 ho71 hb hg_ hnew_
                 clear hg_ hnew_
                 (first | rw [← Ny520.out] at ho71 | (simp only [Int.reduceToNat] at ho71; rw [← Ny520.out] at ho71))
                 replace HO_0 := Aside0.mk (Kd.V_elder' (qv HO_0) (Kd.N_base ho71) hb)
                 replace HO_6 := Aside0.mk (Kd.V_elder' (qv HO_6) (Kd.N_base ho71) hb)
                 replace HO_485001 := Aside0.mk (Kd.V_elder' (qv HO_485001) (Kd.N_base ho71) hb)
                 replace HO519 := Aside0.mk (Kd.V_elder' (qv HO519) (Kd.N_base ho71) hb)
                 have HO522 := Aside0.mk (Kd.N_lower ho71 (below_size (qs HB)))
                 replace BK484 := Aside0.mk (qB BK484 hb)
                 replace HB := Aside0.mk (below_step (qs HB) hb)
                 clear hb ho71
                 obtain ⟨Ao72, co72, eo72⟩ := Kd.N_slice HO522.out
                 (first | subst eo72 | (injection eo72 with f1_ f2_ f3_; have f4_ := f1_.symm; have f5_ := f3_.symm; clear f1_ f2_ f3_; subst f4_; subst f5_))
                 refine hK.out _ _ ⟨BK484.out, (blk_cell BK484.out 8).trans qc, (blk_cell BK484.out 9).trans qc⟩ (fun hHeld => ?_)
                 clear hK K
                 refine norm_ (a' := ?_) ?_ ?_
                 rotate_left
                 ·show Act.put _ (some 51) _ = _
                  simp only [Act.put, List.setIfInBounds_toArray, List.set_cons_zero, List.set_cons_succ, i64_w, i32_w]
                  rfl
                 refine two_ (i := 5) (j := 9) (Ni := some 52) (Nj := some 9) #[true, true, true, true, true, true, false, false, false, false, false, false] #[true, true, true, true, true, false, false, false, false, true, false, false] rfl rfl rfl rfl (two_of HT_.out (by kernel_rfl)) (by decide) (by decide) (fun K hK => ?_) (fun K hK => ?_)
                 ·skip
                  refine goes_ Tryd.func12 (by kernel_rfl) rfl #[.agg ((Ar.cells .u32 8 x485000_1) ++ #[.slice Ao67 x485001_1.length co67, .int .u64 x485002_1]), .slice Ao72 y520.length co72] (by rfl) rfl rfl ql ?_
                  with_reducible refine (sha_Write.calls k1 x485000_1 (fun k_ => (((P0_ k_ ∨ w.heap.size ≤ k_) ∧ k_ ≠ gb484) ∧ some k_ ≠ (.slice Ao72 y520.length co72 : Value).ownBlock)) _ _ x485001_1 x485002_1 _ _ y520 t523 t524 t527 t528 _ ?side1 ?side2 ?side3 A55.out).mono ?_
                  (case side1 => exact HO_485001.out)
                  (case side2 => repeat (first | exact (Kd.N_reads' HO522.out).2.2 | (with_reducible refine Kd.C_alloc ?_ _) | (with_reducible refine Kd.C_drewN ?_ _) | (with_reducible refine Kd.C_drew ?_)))
                  (case side3 => exact (Kd.N_reads' HO522.out).2.1)
                  rintro e w73 ⟨v525, rfl, ho0, hb⟩
                  refine ⟨_, rfl, ?_⟩
                  replace HO_0 := Aside0.mk (Kd.V_below (qv HO_0) hb)
                  replace HO_6 := Aside0.mk (Kd.V_below (qv HO_6) hb)
                  replace HO_485001 := Aside0.mk (Kd.V_below (qv HO_485001) hb)
                  replace HO519 := Aside0.mk (Kd.V_below (qv HO519) hb)
                  have HO526 := Aside0.mk (Kd.V_lower (Kd.V_mono (ok' := fun k_ => (P0_ k_ ∨ w.heap.size ≤ k_) ∧ some k_ ≠ (.slice Ao72 y520.length co72 : Value).ownBlock ∧ k_ ≠ gb484) ho0 (fun k_ hk_ => ⟨Or.elim hk_ (fun hs_ => hs_.1.1) (fun hn_ => (.inr (Nat.le_trans (below_size (qs HB)) hn_))), Or.elim hk_ (fun hs_ => hs_.2) (fun hn_ => (Kd.fresh' (Kd.N_lt (qn HO522)) k_ hn_)), Or.elim hk_ (fun hs_ => hs_.1.2) (fun hn_ => (Kd.freshB (g := gb484) (o := .cells ((Ar.cells .u32 8 x485000_1) ++ #[.slice Ao67 x485001_1.length co67, .int .u64 x485002_1]) 36 (0, 0)) (qb BK484) k_ hn_))⟩)) (below_size (qs HB)))
                  replace HO522 := Aside0.mk (Kd.N_below (qn HO522) hb)
                  replace BK484 := Aside0.mk (qB BK484 hb)
                  replace HB := Aside0.mk (below_step (qs HB) hb)
                  (try clear hb)
                  (try clear hb2)
                  (try clear hk)
                  (try clear hi)
                  (try clear ho0)
                  refine hK.out _ _ ⟨BK484.out, (blk_cell BK484.out 8).trans qc, (blk_cell BK484.out 9).trans qc⟩ (fun hHeld => ?_)
                  clear hK K
                  refine norm_ (a' := ?_) ?_ ?_
                  rotate_left
                  ·show Act.put _ (some 52) _ = _
                   simp only [Act.put, List.setIfInBounds_toArray, List.set_cons_zero, List.set_cons_succ, i64_w, i32_w]
                   rfl
                  refine pure_ (i := 6) (N := some 46) (v := ?_) (a' := ?_) #[true, true, true, true, true, true, true, false, false, false, false, false] rfl rfl (any_of HT_.out (by kernel_rfl)) (fun _ _ _ h => h) (Or.inl ⟨by rfl, ?_⟩) ?_ ?_
                  rotate_left
                  ·intro w'
                   go_simp
                   with_reducible rfl
                  rotate_left
                  ·simp only [Act.put, List.setIfInBounds_toArray, List.set_cons_zero, List.set_cons_succ, i64_w, i32_w]
                   rfl
                  refine pure_ (i := 7) (N := some 53) (v := ?_) (a' := ?_) #[true, true, true, true, true, true, true, true, false, false, false, false] rfl rfl (any_of HT_.out (by kernel_rfl)) (fun _ _ _ h => h) (Or.inl ⟨by rfl, ?_⟩) ?_ ?_
                  rotate_left
                  ·intro w'
                   go_simp
                   with_reducible rfl
                  rotate_left
                  ·simp only [Act.put, List.setIfInBounds_toArray, List.set_cons_zero, List.set_cons_succ, i64_w, i32_w]
                   rfl
                  refine pure_ (i := 8) (N := some 54) (v := ?_) (a' := ?_) #[true, true, true, true, true, true, true, true, true, false, false, false] rfl rfl (any_of HT_.out (by kernel_rfl)) (fun _ _ _ h => h) (Or.inl ⟨by rfl, ?_⟩) ?_ ?_
                  rotate_left
                  ·intro w'
                   go_simp
                   with_reducible rfl
                  rotate_left
                  ·simp only [Act.put, List.setIfInBounds_toArray, List.set_cons_zero, List.set_cons_succ, i64_w, i32_w]
                   rfl
                  refine one_ (i := 9) (N := some 9) #[true, true, true, true, true, true, true, true, true, true, false, false] rfl rfl (one_of HT_.out (by kernel_rfl)) (by decide) (fun K hK => ?_)
                  refine box_step ?hg (N := 9) ?hd (cs := ((Ar.cells .u32 8 (List.replicate 8 0)) ++ #[.slice none 0 0, .int .u64 0])) (t := 36) ?hr ?_; (case hd => rfl); (case hg => rfl); (case hr => first | exact Ar.gbox_run rfl rfl | exact Ar.galloc_run rfl (by kernel_rfl) | (go_simp; done) | (go_simp; rfl))
                  intro gb529 hg w74 hbox hb
                  replace HO_0 := Aside0.mk (Kd.V_below (Kd.V_elderB (qv HO_0) gb529 (Nat.le_of_eq hg.symm)) hb)
                  replace HO_6 := Aside0.mk (Kd.V_below (Kd.V_elderB (qv HO_6) gb529 (Nat.le_of_eq hg.symm)) hb)
                  replace HO_485001 := Aside0.mk (Kd.V_below (Kd.V_elderB (qv HO_485001) gb529 (Nat.le_of_eq hg.symm)) hb)
                  replace HO519 := Aside0.mk (Kd.V_below (Kd.V_elderB (qv HO519) gb529 (Nat.le_of_eq hg.symm)) hb)
                  replace HO522 := Aside0.mk (Kd.N_below (Kd.N_elderB (qn HO522) gb529 (Nat.le_of_eq hg.symm)) hb)
                  replace HO526 := Aside0.mk (Kd.V_below (Kd.V_elderB (qv HO526) gb529 (Nat.le_of_eq hg.symm)) hb)
                  have BK529 := Aside0.mk (hbox)
                  have GW529 := Aside0.mk ((qe HB hg : w.heap.size ≤ gb529))
                  have GE529 := Aside0.mk ((qe HB hg : w.heap.size ≤ gb529))
                  replace HB := Aside0.mk (below_step (qs HB) hb)
                  have NB484_529 := Aside0.mk ((qu BK484 hg : gb484 ≠ gb529))
                  have NB529_484 := Aside0.mk ((qw BK484 hg : gb529 ≠ gb484))
                  replace BK484 := Aside0.mk (qB BK484 hb)
                  clear hb hbox hg
                  refine hK.out _ _ ⟨BK484.out, (blk_cell BK484.out 8).trans qc, (blk_cell BK484.out 9).trans qc⟩ (fun hHeld => ?_)
                  clear hK K
                  refine norm_ (a' := ?_) ?_ ?_
                  rotate_left
                  ·show Act.put _ (some 9) _ = _
                   simp only [Act.put, List.setIfInBounds_toArray, List.set_cons_zero, List.set_cons_succ, i64_w, i32_w]
                   rfl
                  exact norm_ (by simp only [putAll, Act.put, List.setIfInBounds_toArray, List.set_cons_zero, List.set_cons_succ]) (hCont (.slice Ao72 y520.length co72, v525, gb529) _ ⟨hHeld, (by (with_reducible repeat (first | apply Kd.V_alloc | apply Kd.V_drewN | apply Kd.V_drew)); exact Kd.V_mono HO519.out (fun _ hk => ⟨hk.1.1.1, ⟨hk.1.2, ⟨hk.1.1.2, hk.2⟩⟩⟩)), (by (with_reducible repeat (first | apply Kd.N_alloc | apply Kd.N_drewN | apply Kd.N_drew)); exact Kd.N_mono HO522.out (fun _ hk => ⟨hk.1.1, ⟨hk.1.2, hk.2⟩⟩)), (by (with_reducible repeat (first | apply Kd.V_alloc | apply Kd.V_drewN | apply Kd.V_drew)); exact Kd.V_mono HO526.out (fun _ hk => ⟨hk.1.1, ⟨hk.1.2.1, ⟨hk.1.2.2, hk.2⟩⟩⟩)), (by (with_reducible repeat (first | apply Kd.V_alloc | apply Kd.V_drewN | apply Kd.V_drew)); exact Kd.V_mono HO_0.out (fun _ hk => ⟨hk.1.1.1, ⟨hk.1.2, ⟨hk.1.1.2, hk.2⟩⟩⟩)), (by (with_reducible repeat (first | apply Kd.V_alloc | apply Kd.V_drewN | apply Kd.V_drew)); exact Kd.V_mono HO_485001.out (fun _ hk => ⟨hk.1.1.1, ⟨hk.1.2, ⟨hk.1.1.2, hk.2⟩⟩⟩)), (by (with_reducible repeat (first | apply Kd.V_alloc | apply Kd.V_drewN | apply Kd.V_drew)); exact Kd.V_mono HO_6.out (fun _ hk => ⟨hk.1.1.1, ⟨hk.1.2, ⟨hk.1.1.2, hk.2⟩⟩⟩)), (qb BK484), (qb BK529), GW529.out, GE529.out, NB484_529.out, NB529_484.out, (qs HB)⟩)
                 ·skip
                  refine box_step ?hg (N := 9) ?hd (cs := ((Ar.cells .u32 8 (List.replicate 8 0)) ++ #[.slice none 0 0, .int .u64 0])) (t := 36) ?hr ?_; (case hd => rfl); (case hg => rfl); (case hr => first | exact Ar.gbox_run rfl rfl | exact Ar.galloc_run rfl (by kernel_rfl) | (go_simp; done) | (go_simp; rfl))
                  intro gb529 hg w72 hbox hb
                  replace HO_0 := Aside0.mk (Kd.V_below (Kd.V_elderB (qv HO_0) gb529 (Nat.le_of_eq hg.symm)) hb)
                  replace HO_6 := Aside0.mk (Kd.V_below (Kd.V_elderB (qv HO_6) gb529 (Nat.le_of_eq hg.symm)) hb)
                  replace HO_485001 := Aside0.mk (Kd.V_below (Kd.V_elderB (qv HO_485001) gb529 (Nat.le_of_eq hg.symm)) hb)
                  replace HO519 := Aside0.mk (Kd.V_below (Kd.V_elderB (qv HO519) gb529 (Nat.le_of_eq hg.symm)) hb)
                  replace HO522 := Aside0.mk (Kd.N_below (Kd.N_elderB (qn HO522) gb529 (Nat.le_of_eq hg.symm)) hb)
                  have BK529 := Aside0.mk (hbox)
                  have GW529 := Aside0.mk ((qe HB hg : w.heap.size ≤ gb529))
                  have GE529 := Aside0.mk ((qe HB hg : w.heap.size ≤ gb529))
                  replace HB := Aside0.mk (below_step (qs HB) hb)
                  have NB484_529 := Aside0.mk ((qu BK484 hg : gb484 ≠ gb529))
                  have NB529_484 := Aside0.mk ((qw BK484 hg : gb529 ≠ gb484))
                  replace BK484 := Aside0.mk (qB BK484 hb)
                  clear hb hbox hg
                  obtain ⟨Ao73, co73, eo73⟩ := Kd.N_slice HO522.out
                  (first | subst eo73 | (injection eo73 with f1_ f2_ f3_; have f4_ := f1_.symm; have f5_ := f3_.symm; clear f1_ f2_ f3_; subst f4_; subst f5_))
                  refine hK.out _ _ ⟨BK484.out, (blk_cell BK484.out 8).trans qc, (blk_cell BK484.out 9).trans qc⟩ (fun hHeld => ?_)
                  clear hK K
                  refine norm_ (a' := ?_) ?_ ?_
                  rotate_left
                  ·show Act.put _ (some 9) _ = _
                   simp only [Act.put, List.setIfInBounds_toArray, List.set_cons_zero, List.set_cons_succ, i64_w, i32_w]
                   rfl
                  refine one_ (i := 5) (N := some 52) #[true, true, true, true, true, true, false, false, false, true, false, false] rfl rfl (one_of HT_.out (by kernel_rfl)) (by decide) (fun K hK => ?_)
                  refine goes_ Tryd.func12 (by kernel_rfl) rfl #[.agg ((Ar.cells .u32 8 x485000_1) ++ #[.slice Ao67 x485001_1.length co67, .int .u64 x485002_1]), .slice Ao73 y520.length co73] (by rfl) rfl rfl ql ?_
                  with_reducible refine (sha_Write.calls k1 x485000_1 (fun k_ => ((((P0_ k_ ∨ w.heap.size ≤ k_) ∧ k_ ≠ gb484) ∧ some k_ ≠ (.slice Ao73 y520.length co73 : Value).ownBlock) ∧ k_ ≠ gb529)) _ _ x485001_1 x485002_1 _ _ y520 t523 t524 t527 t528 _ ?side1 ?side2 ?side3 A55.out).mono ?_
                  (case side1 => exact HO_485001.out)
                  (case side2 => repeat (first | exact (Kd.N_reads' HO522.out).2.2 | (with_reducible refine Kd.C_alloc ?_ _) | (with_reducible refine Kd.C_drewN ?_ _) | (with_reducible refine Kd.C_drew ?_)))
                  (case side3 => exact (Kd.N_reads' HO522.out).2.1)
                  rintro e w74 ⟨v525, rfl, ho0, hb⟩
                  refine ⟨_, rfl, ?_⟩
                  replace HO_0 := Aside0.mk (Kd.V_below (qv HO_0) hb)
                  replace HO_6 := Aside0.mk (Kd.V_below (qv HO_6) hb)
                  replace HO_485001 := Aside0.mk (Kd.V_below (qv HO_485001) hb)
                  replace HO519 := Aside0.mk (Kd.V_below (qv HO519) hb)
                  have HO526 := Aside0.mk (Kd.V_lower (Kd.V_mono (ok' := fun k_ => (P0_ k_ ∨ w.heap.size ≤ k_) ∧ some k_ ≠ (.slice Ao73 y520.length co73 : Value).ownBlock ∧ k_ ≠ gb484 ∧ k_ ≠ gb529) ho0 (fun k_ hk_ => ⟨Or.elim hk_ (fun hs_ => hs_.1.1.1) (fun hn_ => (.inr (Nat.le_trans (below_size (qs HB)) hn_))), Or.elim hk_ (fun hs_ => hs_.1.2) (fun hn_ => (Kd.fresh' (Kd.N_lt (qn HO522)) k_ hn_)), Or.elim hk_ (fun hs_ => hs_.1.1.2) (fun hn_ => (Kd.freshB (g := gb484) (o := .cells ((Ar.cells .u32 8 x485000_1) ++ #[.slice Ao67 x485001_1.length co67, .int .u64 x485002_1]) 36 (0, 0)) (qb BK484) k_ hn_)), Or.elim hk_ (fun hs_ => hs_.2) (fun hn_ => (Kd.freshB (g := gb529) (o := .cells ((Ar.cells .u32 8 (List.replicate 8 0)) ++ #[.slice none 0 0, .int .u64 0]) 36 (0, 0)) (qb BK529) k_ hn_))⟩)) (below_size (qs HB)))
                  replace HO522 := Aside0.mk (Kd.N_below (qn HO522) hb)
                  replace BK484 := Aside0.mk (qB BK484 hb)
                  replace BK529 := Aside0.mk (qB BK529 hb)
                  replace HB := Aside0.mk (below_step (qs HB) hb)
                  (try clear hb)
                  (try clear hb2)
                  (try clear hk)
                  (try clear hi)
                  (try clear ho0)
                  refine hK.out _ _ ⟨BK484.out, (blk_cell BK484.out 8).trans qc, (blk_cell BK484.out 9).trans qc⟩ (fun hHeld => ?_)
                  clear hK K
                  refine norm_ (a' := ?_) ?_ ?_
                  rotate_left
                  ·show Act.put _ (some 52) _ = _
                   simp only [Act.put, List.setIfInBounds_toArray, List.set_cons_zero, List.set_cons_succ, i64_w, i32_w]
                   rfl
                  refine pure_ (i := 6) (N := some 46) (v := ?_) (a' := ?_) #[true, true, true, true, true, true, true, false, false, true, false, false] rfl rfl (any_of HT_.out (by kernel_rfl)) (fun _ _ _ h => h) (Or.inl ⟨by rfl, ?_⟩) ?_ ?_
                  rotate_left
                  ·intro w'
                   go_simp
                   with_reducible rfl
                  rotate_left
                  ·simp only [Act.put, List.setIfInBounds_toArray, List.set_cons_zero, List.set_cons_succ, i64_w, i32_w]
                   rfl
                  refine pure_ (i := 7) (N := some 53) (v := ?_) (a' := ?_) #[true, true, true, true, true, true, true, true, false, true, false, false] rfl rfl (any_of HT_.out (by kernel_rfl)) (fun _ _ _ h => h) (Or.inl ⟨by rfl, ?_⟩) ?_ ?_
                  rotate_left
                  ·intro w'
                   go_simp
                   with_reducible rfl
                  rotate_left
                  ·simp only [Act.put, List.setIfInBounds_toArray, List.set_cons_zero, List.set_cons_succ, i64_w, i32_w]
                   rfl
                  refine pure_ (i := 8) (N := some 54) (v := ?_) (a' := ?_) #[true, true, true, true, true, true, true, true, true, true, false, false] rfl rfl (any_of HT_.out (by kernel_rfl)) (fun _ _ _ h => h) (Or.inl ⟨by rfl, ?_⟩) ?_ ?_
                  rotate_left
                  ·intro w'
                   go_simp
                   with_reducible rfl
                  rotate_left
                  ·simp only [Act.put, List.setIfInBounds_toArray, List.set_cons_zero, List.set_cons_succ, i64_w, i32_w]
                   rfl
                  exact norm_ (by simp only [putAll, Act.put, List.setIfInBounds_toArray, List.set_cons_zero, List.set_cons_succ]) (hCont (.slice Ao73 y520.length co73, v525, gb529) _ ⟨hHeld, (by (with_reducible repeat (first | apply Kd.V_alloc | apply Kd.V_drewN | apply Kd.V_drew)); exact Kd.V_mono HO519.out (fun _ hk => ⟨hk.1.1.1, ⟨hk.1.2, ⟨hk.1.1.2, hk.2⟩⟩⟩)), (by (with_reducible repeat (first | apply Kd.N_alloc | apply Kd.N_drewN | apply Kd.N_drew)); exact Kd.N_mono HO522.out (fun _ hk => ⟨hk.1.1, ⟨hk.1.2, hk.2⟩⟩)), (qv HO526), (by (with_reducible repeat (first | apply Kd.V_alloc | apply Kd.V_drewN | apply Kd.V_drew)); exact Kd.V_mono HO_0.out (fun _ hk => ⟨hk.1.1.1, ⟨hk.1.2, ⟨hk.1.1.2, hk.2⟩⟩⟩)), (by (with_reducible repeat (first | apply Kd.V_alloc | apply Kd.V_drewN | apply Kd.V_drew)); exact Kd.V_mono HO_485001.out (fun _ hk => ⟨hk.1.1.1, ⟨hk.1.2, ⟨hk.1.1.2, hk.2⟩⟩⟩)), (by (with_reducible repeat (first | apply Kd.V_alloc | apply Kd.V_drewN | apply Kd.V_drew)); exact Kd.V_mono HO_6.out (fun _ hk => ⟨hk.1.1.1, ⟨hk.1.2, ⟨hk.1.1.2, hk.2⟩⟩⟩)), (qb BK484), (qb BK529), GW529.out, GE529.out, NB484_529.out, NB529_484.out, (qs HB)⟩)
                ·skip
                 refine box_step ?hg (N := 9) ?hd (cs := ((Ar.cells .u32 8 (List.replicate 8 0)) ++ #[.slice none 0 0, .int .u64 0])) (t := 36) ?hr ?_; (case hd => rfl); (case hg => rfl); (case hr => first | exact Ar.gbox_run rfl rfl | exact Ar.galloc_run rfl (by kernel_rfl) | (go_simp; done) | (go_simp; rfl))
                 intro gb529 hg w70 hbox hb
                 replace HO_0 := Aside0.mk (Kd.V_below (Kd.V_elderB (qv HO_0) gb529 (Nat.le_of_eq hg.symm)) hb)
                 replace HO_6 := Aside0.mk (Kd.V_below (Kd.V_elderB (qv HO_6) gb529 (Nat.le_of_eq hg.symm)) hb)
                 replace HO_485001 := Aside0.mk (Kd.V_below (Kd.V_elderB (qv HO_485001) gb529 (Nat.le_of_eq hg.symm)) hb)
                 replace HO519 := Aside0.mk (Kd.V_below (Kd.V_elderB (qv HO519) gb529 (Nat.le_of_eq hg.symm)) hb)
                 have BK529 := Aside0.mk (hbox)
                 have GW529 := Aside0.mk ((qe HB hg : w.heap.size ≤ gb529))
                 have GE529 := Aside0.mk ((qe HB hg : w.heap.size ≤ gb529))
                 replace HB := Aside0.mk (below_step (qs HB) hb)
                 have NB484_529 := Aside0.mk ((qu BK484 hg : gb484 ≠ gb529))
                 have NB529_484 := Aside0.mk ((qw BK484 hg : gb529 ≠ gb484))
                 replace BK484 := Aside0.mk (qB BK484 hb)
                 clear hb hbox hg
                 refine hK.out _ _ ⟨BK484.out, (blk_cell BK484.out 8).trans qc, (blk_cell BK484.out 9).trans qc⟩ (fun hHeld => ?_)
                 clear hK K
                 refine norm_ (a' := ?_) ?_ ?_
                 rotate_left
                 ·show Act.put _ (some 9) _ = _
                  simp only [Act.put, List.setIfInBounds_toArray, List.set_cons_zero, List.set_cons_succ, i64_w, i32_w]
                  rfl
                 refine one_ (i := 4) (N := some 51) #[true, true, true, true, true, false, false, false, false, true, false, false] rfl rfl (one_of HT_.out (by kernel_rfl)) (by decide) (fun K hK => ?_)
                 refine Kd.N_lit_step (Kd.slice 5 (Kd.int .u8)) _ 29 ?hg (N' := 51) ?hd (xs := ([y515] : List (List Int))) (inner := [.slice Ao66 y515.length co66]) (ok := (fun k_ => (P0_ k_ ∨ w.heap.size ≤ k_) ∧ k_ ≠ gb484 ∧ k_ ≠ gb529)) (okp := (fun k_ => (P0_ k_ ∨ w.heap.size ≤ k_) ∧ k_ ≠ gb484 ∧ k_ ≠ gb529)) ?hr ?hp (fun _ hk => hk) ((show ∀ k_, w70.heap.size ≤ k_ → (fun k_ => (P0_ k_ ∨ w.heap.size ≤ k_) ∧ k_ ≠ gb484 ∧ k_ ≠ gb529) k_ from fun k_ hk => ⟨(.inr (Nat.le_trans (below_size (qs HB)) hk)), Kd.freshB (g := gb484) (o := .cells ((Ar.cells .u32 8 x485000_1) ++ #[.slice Ao67 x485001_1.length co67, .int .u64 x485002_1]) 36 (0, 0)) (qb BK484) k_ hk, Kd.freshB (g := gb529) (o := .cells ((Ar.cells .u32 8 (List.replicate 8 0)) ++ #[.slice none 0 0, .int .u64 0]) 36 (0, 0)) (qb BK529) k_ hk⟩) _ (Nat.le_refl _)) (Below.refl _ _) (Nat.le_refl _) (by simp) ?_; (case hd => rfl); (case hg => rfl); (case hr => first | (go_simp; done) | (go_simp; rfl)); (case hp => exact (Reps.one ((Kd.FK_slice_mk (Kd.V_reads' (Kd.V_mono (ok' := (fun k_ => (P0_ k_ ∨ w.heap.size ≤ k_) ∧ k_ ≠ gb484 ∧ k_ ≠ gb529)) (HO519.out) (fun k_ hk => ⟨hk.1.1, ⟨hk.1.2, hk.2⟩⟩))).2.1 (Kd.V_F (e := 5) (base := w.heap.size) (Kd.V_mono (ok := (fun k_ => (((P0_ k_ ∨ w.heap.size ≤ k_) ∧ k_ ≠ gb484) ∧ k_ ≠ gb529))) (ok' := (fun k_ => (P0_ k_ ∨ w.heap.size ≤ k_) ∧ k_ ≠ gb484 ∧ k_ ≠ gb529)) (by repeat (first | exact HO519.out | apply Kd.V_drewN | apply Kd.V_alloc | apply Kd.V_drew)) (fun k_ hk => ⟨hk.1.1, ⟨hk.1.2, hk.2⟩⟩)))) : Kd.FK (Kd.slice 5 (Kd.int .u8)) _ _ y515 [.slice Ao66 y515.length co66]) (Reps.none _ _)))
                 intro v521 w71 ho72 hb hg_ hnew_
                 clear hg_ hnew_
                 (first | rw [← Ny520.out] at ho72 | (simp only [Int.reduceToNat] at ho72; rw [← Ny520.out] at ho72))
                 replace HO_0 := Aside0.mk (Kd.V_elder' (qv HO_0) (Kd.N_base ho72) hb)
                 replace HO_6 := Aside0.mk (Kd.V_elder' (qv HO_6) (Kd.N_base ho72) hb)
                 replace HO_485001 := Aside0.mk (Kd.V_elder' (qv HO_485001) (Kd.N_base ho72) hb)
                 replace HO519 := Aside0.mk (Kd.V_elder' (qv HO519) (Kd.N_base ho72) hb)
                 have HO522 := Aside0.mk (Kd.N_lower ho72 (below_size (qs HB)))
                 replace BK484 := Aside0.mk (qB BK484 hb)
                 replace BK529 := Aside0.mk (qB BK529 hb)
                 replace HB := Aside0.mk (below_step (qs HB) hb)
                 clear hb ho72
                 obtain ⟨Ao73, co73, eo73⟩ := Kd.N_slice HO522.out
                 (first | subst eo73 | (injection eo73 with f1_ f2_ f3_; have f4_ := f1_.symm; have f5_ := f3_.symm; clear f1_ f2_ f3_; subst f4_; subst f5_))
                 refine hK.out _ _ ⟨BK484.out, (blk_cell BK484.out 8).trans qc, (blk_cell BK484.out 9).trans qc⟩ (fun hHeld => ?_)
                 clear hK K
                 refine norm_ (a' := ?_) ?_ ?_
                 rotate_left
                 ·show Act.put _ (some 51) _ = _
                  simp only [Act.put, List.setIfInBounds_toArray, List.set_cons_zero, List.set_cons_succ, i64_w, i32_w]
                  rfl
                 refine one_ (i := 5) (N := some 52) #[true, true, true, true, true, true, false, false, false, true, false, false] rfl rfl (one_of HT_.out (by kernel_rfl)) (by decide) (fun K hK => ?_)
                 refine goes_ Tryd.func12 (by kernel_rfl) rfl #[.agg ((Ar.cells .u32 8 x485000_1) ++ #[.slice Ao67 x485001_1.length co67, .int .u64 x485002_1]), .slice Ao73 y520.length co73] (by rfl) rfl rfl ql ?_
                 with_reducible refine (sha_Write.calls k1 x485000_1 (fun k_ => ((((P0_ k_ ∨ w.heap.size ≤ k_) ∧ k_ ≠ gb484) ∧ k_ ≠ gb529) ∧ some k_ ≠ (.slice Ao73 y520.length co73 : Value).ownBlock)) _ _ x485001_1 x485002_1 _ _ y520 t523 t524 t527 t528 _ ?side1 ?side2 ?side3 A55.out).mono ?_
                 (case side1 => exact HO_485001.out)
                 (case side2 => repeat (first | exact (Kd.N_reads' HO522.out).2.2 | (with_reducible refine Kd.C_alloc ?_ _) | (with_reducible refine Kd.C_drewN ?_ _) | (with_reducible refine Kd.C_drew ?_)))
                 (case side3 => exact (Kd.N_reads' HO522.out).2.1)
                 rintro e w74 ⟨v525, rfl, ho0, hb⟩
                 refine ⟨_, rfl, ?_⟩
                 replace HO_0 := Aside0.mk (Kd.V_below (qv HO_0) hb)
                 replace HO_6 := Aside0.mk (Kd.V_below (qv HO_6) hb)
                 replace HO_485001 := Aside0.mk (Kd.V_below (qv HO_485001) hb)
                 replace HO519 := Aside0.mk (Kd.V_below (qv HO519) hb)
                 have HO526 := Aside0.mk (Kd.V_lower (Kd.V_mono (ok' := fun k_ => (P0_ k_ ∨ w.heap.size ≤ k_) ∧ some k_ ≠ (.slice Ao73 y520.length co73 : Value).ownBlock ∧ k_ ≠ gb484 ∧ k_ ≠ gb529) ho0 (fun k_ hk_ => ⟨Or.elim hk_ (fun hs_ => hs_.1.1.1) (fun hn_ => (.inr (Nat.le_trans (below_size (qs HB)) hn_))), Or.elim hk_ (fun hs_ => hs_.2) (fun hn_ => (Kd.fresh' (Kd.N_lt (qn HO522)) k_ hn_)), Or.elim hk_ (fun hs_ => hs_.1.1.2) (fun hn_ => (Kd.freshB (g := gb484) (o := .cells ((Ar.cells .u32 8 x485000_1) ++ #[.slice Ao67 x485001_1.length co67, .int .u64 x485002_1]) 36 (0, 0)) (qb BK484) k_ hn_)), Or.elim hk_ (fun hs_ => hs_.1.2) (fun hn_ => (Kd.freshB (g := gb529) (o := .cells ((Ar.cells .u32 8 (List.replicate 8 0)) ++ #[.slice none 0 0, .int .u64 0]) 36 (0, 0)) (qb BK529) k_ hn_))⟩)) (below_size (qs HB)))
                 replace HO522 := Aside0.mk (Kd.N_below (qn HO522) hb)
                 replace BK484 := Aside0.mk (qB BK484 hb)
                 replace BK529 := Aside0.mk (qB BK529 hb)
                 replace HB := Aside0.mk (below_step (qs HB) hb)
                 (try clear hb)
                 (try clear hb2)
                 (try clear hk)
                 (try clear hi)
                 (try clear ho0)
                 refine hK.out _ _ ⟨BK484.out, (blk_cell BK484.out 8).trans qc, (blk_cell BK484.out 9).trans qc⟩ (fun hHeld => ?_)
                 clear hK K
                 refine norm_ (a' := ?_) ?_ ?_
                 rotate_left
                 ·show Act.put _ (some 52) _ = _
                  simp only [Act.put, List.setIfInBounds_toArray, List.set_cons_zero, List.set_cons_succ, i64_w, i32_w]
                  rfl
                 refine pure_ (i := 6) (N := some 46) (v := ?_) (a' := ?_) #[true, true, true, true, true, true, true, false, false, true, false, false] rfl rfl (any_of HT_.out (by kernel_rfl)) (fun _ _ _ h => h) (Or.inl ⟨by rfl, ?_⟩) ?_ ?_
                 rotate_left
                 ·intro w'
                  go_simp
                  with_reducible rfl
                 rotate_left
                 ·simp only [Act.put, List.setIfInBounds_toArray, List.set_cons_zero, List.set_cons_succ, i64_w, i32_w]
                  rfl
                 refine pure_ (i := 7) (N := some 53) (v := ?_) (a' := ?_) #[true, true, true, true, true, true, true, true, false, true, false, false] rfl rfl (any_of HT_.out (by kernel_rfl)) (fun _ _ _ h => h) (Or.inl ⟨by rfl, ?_⟩) ?_ ?_
                 rotate_left
                 ·intro w'
                  go_simp
                  with_reducible rfl
                 rotate_left
                 ·simp only [Act.put, List.setIfInBounds_toArray, List.set_cons_zero, List.set_cons_succ, i64_w, i32_w]
                  rfl
                 refine pure_ (i := 8) (N := some 54) (v := ?_) (a' := ?_) #[true, true, true, true, true, true, true, true, true, true, false, false] rfl rfl (any_of HT_.out (by kernel_rfl)) (fun _ _ _ h => h) (Or.inl ⟨by rfl, ?_⟩) ?_ ?_
                 rotate_left
                 ·intro w'
                  go_simp
                  with_reducible rfl
                 rotate_left
                 ·simp only [Act.put, List.setIfInBounds_toArray, List.set_cons_zero, List.set_cons_succ, i64_w, i32_w]
                  rfl
                 exact norm_ (by simp only [putAll, Act.put, List.setIfInBounds_toArray, List.set_cons_zero, List.set_cons_succ]) (hCont (.slice Ao73 y520.length co73, v525, gb529) _ ⟨hHeld, (by (with_reducible repeat (first | apply Kd.V_alloc | apply Kd.V_drewN | apply Kd.V_drew)); exact Kd.V_mono HO519.out (fun _ hk => ⟨hk.1.1.1, ⟨hk.2, ⟨hk.1.1.2, hk.1.2⟩⟩⟩)), (qn HO522), (qv HO526), (by (with_reducible repeat (first | apply Kd.V_alloc | apply Kd.V_drewN | apply Kd.V_drew)); exact Kd.V_mono HO_0.out (fun _ hk => ⟨hk.1.1.1, ⟨hk.2, ⟨hk.1.1.2, hk.1.2⟩⟩⟩)), (by (with_reducible repeat (first | apply Kd.V_alloc | apply Kd.V_drewN | apply Kd.V_drew)); exact Kd.V_mono HO_485001.out (fun _ hk => ⟨hk.1.1.1, ⟨hk.2, ⟨hk.1.1.2, hk.1.2⟩⟩⟩)), (by (with_reducible repeat (first | apply Kd.V_alloc | apply Kd.V_drewN | apply Kd.V_drew)); exact Kd.V_mono HO_6.out (fun _ hk => ⟨hk.1.1.1, ⟨hk.2, ⟨hk.1.1.2, hk.1.2⟩⟩⟩)), (qb BK484), (qb BK529), GW529.out, GE529.out, NB484_529.out, NB529_484.out, (qs HB)⟩)
               rintro ⟨v521, v525, gb529⟩ w75 ⟨hS_, h0_, h1_, h2_, h3_, h4_, h5_, h6_, h7_, h8_, h9_, h10_, h11_, h12_⟩
               have n0_ : Aside0 (Kd.V (Kd.int .u8) 5 w75 w.heap.size (fun k_ => (P0_ k_ ∨ w.heap.size ≤ k_) ∧ some k_ ≠ (v521 : Value).ownBlock ∧ k_ ≠ gb484 ∧ k_ ≠ gb529) (.slice Ao66 y515.length co66) y515) := ⟨h0_⟩
               have n1_ : Aside0 (Kd.N (Kd.slice 5 (Kd.int .u8)) 29 w75 w.heap.size (fun k_ => (P0_ k_ ∨ w.heap.size ≤ k_) ∧ k_ ≠ gb484 ∧ k_ ≠ gb529) v521 y520) := ⟨h1_⟩
               have n2_ : Aside0 (Kd.V (Kd.int .u8) 5 w75 w.heap.size (fun k_ => (P0_ k_ ∨ w.heap.size ≤ k_) ∧ some k_ ≠ (v521 : Value).ownBlock ∧ k_ ≠ gb484 ∧ k_ ≠ gb529) v525 t524) := ⟨h2_⟩
               have n3_ : Aside0 (Kd.V (Kd.int .u8) 5 w75 w.heap.size (fun k_ => (P0_ k_ ∨ w.heap.size ≤ k_) ∧ some k_ ≠ (v521 : Value).ownBlock ∧ k_ ≠ gb484 ∧ k_ ≠ gb529) (.slice A0 l0.length c0) l0) := ⟨h3_⟩
               have n4_ : Aside0 (Kd.V (Kd.int .u8) 5 w75 w.heap.size (fun k_ => (P0_ k_ ∨ w.heap.size ≤ k_) ∧ some k_ ≠ (v521 : Value).ownBlock ∧ k_ ≠ gb484 ∧ k_ ≠ gb529) (.slice Ao67 x485001_1.length co67) x485001_1) := ⟨h4_⟩
               have n5_ : Aside0 (Kd.V (Kd.int .u8) 5 w75 w.heap.size (fun k_ => (P0_ k_ ∨ w.heap.size ≤ k_) ∧ some k_ ≠ (v521 : Value).ownBlock ∧ k_ ≠ gb484 ∧ k_ ≠ gb529) (.slice Ao66 x6_1.length co66) x6_1) := ⟨h5_⟩
               have n6_ : Aside0 (w75.heap[gb484]? = some (.cells ((Ar.cells .u32 8 x485000_1) ++ #[.slice Ao67 x485001_1.length co67, .int .u64 x485002_1]) 36 (0, 0))) := ⟨h6_⟩
               have n7_ : Aside0 (w75.heap[gb529]? = some (.cells ((Ar.cells .u32 8 (List.replicate 8 0)) ++ #[.slice none 0 0, .int .u64 0]) 36 (0, 0))) := ⟨h7_⟩
               have n8_ : Aside0 (w.heap.size ≤ gb529) := ⟨h8_⟩
               have n9_ : Aside0 (w.heap.size ≤ gb529) := ⟨h9_⟩
               have n10_ : Aside0 (gb484 ≠ gb529) := ⟨h10_⟩
               have n11_ : Aside0 (gb529 ≠ gb484) := ⟨h11_⟩
               have n12_ : Aside0 (Below w.heap.size w w75) := ⟨h12_⟩
               clear HO_0 HO_6 HO_485001 BK484 HB h0_ h1_ h2_ h3_ h4_ h5_ h6_ h7_ h8_ h9_ h10_ h11_ h12_
               have HO519 := n0_
               have HO522 := n1_
               have HO526 := n2_
               have HO_0 := n3_
               have HO_485001 := n4_
               have HO_6 := n5_
               have BK484 := n6_
               have BK529 := n7_
               have GW529 := n8_
               have GE529 := n9_
               have NB484_529 := n10_
               have NB529_484 := n11_
               have HB := n12_
               clear n0_ n1_ n2_ n3_ n4_ n5_ n6_ n7_ n8_ n9_ n10_ n11_ n12_
               have hHeld : w75.heap[gb484]? = some (.cells ((Ar.cells .u32 8 x485000_1) ++ #[.slice Ao67 x485001_1.length co67, .int .u64 x485002_1]) 36 (0, 0)) ∧ w75.cell? ⟨gb484, 8, none⟩ = some (.slice Ao67 x485001_1.length co67) ∧ w75.cell? ⟨gb484, 9, none⟩ = some (.int .u64 x485002_1) := hS_
               refine norm_ (a' := ?_) ?_ ?_
               rotate_left
               ·simp only [putAll, Act.put, List.setIfInBounds_toArray, List.set_cons_zero, List.set_cons_succ]
                rfl
               refine one_ (i := 10) (N := none) #[true, true, true, true, true, true, true, true, true, true, true, false] rfl rfl (one_of HT_.out (by kernel_rfl)) (by decide) (fun K hK => ?_)
               refine Ar.gstore_step (by rfl) rfl rfl (D := ((Ar.cells .u32 8 t523) ++ #[v525, .int .u64 t527])) qz (g := gb529) rfl qg (qb BK529) (by simp [Ar.cells_size]) (by repeat (first | (with_reducible refine Ar.all_app ?_ ?_) | (with_reducible exact Ar.cells_one _ _ _) | (focus (simp [Value.oneCell']; done)) | (focus (simp [(show (v525 : Value).oneCell' = true from by (have e_ := Kd.V_slice HO526.out; obtain ⟨_, _, e_⟩ := e_; rw [e_]; rfl))]; first | done | rfl | (repeat' constructor))) | rfl)) ?_; intro w76 hbk_ hg
               replace HO_0 := Aside0.mk (Kd.V_grown (qv HO_0) hg (by intro k_ hk e_; exact (hk.2.2.2) (Option.some.inj e_)))
               replace HO_6 := Aside0.mk (Kd.V_grown (qv HO_6) hg (by intro k_ hk e_; exact (hk.2.2.2) (Option.some.inj e_)))
               replace HO_485001 := Aside0.mk (Kd.V_grown (qv HO_485001) hg (by intro k_ hk e_; exact (hk.2.2.2) (Option.some.inj e_)))
               replace BK484 := Aside0.mk (qG BK484 hg (fun e_ => NB484_529.out (Option.some.inj e_)))
               replace HO519 := Aside0.mk (Kd.V_grown (qv HO519) hg (by intro k_ hk e_; exact (hk.2.2.2) (Option.some.inj e_)))
               replace HO522 := Aside0.mk (Kd.N_grown (qn HO522) hg (by intro k_ hk e_; exact (hk.2.2) (Option.some.inj e_)))
               replace HO526 := Aside0.mk (Kd.V_grown (qv HO526) hg (by intro k_ hk e_; exact (hk.2.2.2) (Option.some.inj e_)))
               replace BK529 := Aside0.mk (hbk_)
               replace HB := Aside0.mk (Below.grown (qs HB) hg ((below_size (qs HB))) (fun _ e_ => by cases e_; exact GE529.out))
               clear hbk_ hg
               refine hK.out _ _ ⟨BK484.out, (blk_cell BK484.out 8).trans qc, (blk_cell BK484.out 9).trans qc⟩ (fun hHeld => ?_)
               clear hK K
               refine pure_ (i := 11) (N := some 10) (v := ?_) (a' := ?_) #[true, true, true, true, true, true, true, true, true, true, true, true] rfl rfl (any_of HT_.out (by kernel_rfl)) (fun _ _ _ h => h) (Or.inl ⟨by rfl, ?_⟩) ?_ ?_
               rotate_left
               ·intro w'
                go_simp
                with_reducible rfl
               rotate_left
               ·simp only [Act.put, List.setIfInBounds_toArray, List.set_cons_zero, List.set_cons_succ, i64_w, i32_w]
                rfl
               refine done_ (done_of HT_.out (by kernel_rfl)) ?_
               obtain ⟨Ao77, co77, eo77⟩ := Kd.V_slice HO526.out
               subst eo77
               try go_wp2_with (first | ((with_reducible refine gate_dst (N := 56) rfl ?_); (try (refine gate_guard (by rfl) ?_; dsimp only)); refine Ar.gload_event rfl (T := 36) rfl Tryd.underlying36 rfl (D := ((Ar.cells .u32 8 t523) ++ #[.slice Ao77 t524.length co77, .int .u64 t527])) qz (A := ⟨gb529, 0, none⟩) rfl (Ar.blk_part (qb BK529) Ar.in_whole) ?_) | ((with_reducible refine gate_callee (f := 14) rfl ?_); refine goesL_ (some 57) rfl rfl Tryd.func14 (by kernel_rfl) rfl #[.agg ((Ar.cells .u32 8 t523) ++ #[.slice Ao77 t524.length co77, .int .u64 t527])] rfl ql ?_; (with_reducible refine (sha_Finish.calls k1 t523 _ _ t524 t527 t530 t531 _ ?side1 ?side2 A56.out).mono ?_); (case side1 => repeat (first | exact (Kd.V_reads' HO526.out).2.2 | (with_reducible refine Kd.C_alloc ?_ _) | (with_reducible refine Kd.C_drewN ?_ _) | (with_reducible refine Kd.C_drew ?_))); (case side2 => exact (Kd.V_reads' HO526.out).2.1); rintro e w78 ⟨rfl, hb⟩; refine ⟨_, rfl, ?_⟩; replace HO_0 := Aside0.mk (Kd.V_below (qv HO_0) hb); replace HO_6 := Aside0.mk (Kd.V_below (qv HO_6) hb); replace HO_485001 := Aside0.mk (Kd.V_below (qv HO_485001) hb); replace HO519 := Aside0.mk (Kd.V_below (qv HO519) hb); replace HO522 := Aside0.mk (Kd.N_below (qn HO522) hb); replace HO526 := Aside0.mk (Kd.V_below (qv HO526) hb); replace BK484 := Aside0.mk (qB BK484 hb); replace BK529 := Aside0.mk (qB BK529 hb); replace HB := Aside0.mk (below_step (qs HB) hb); (try clear hb); (try clear hb2); (try clear hk); (try clear hi)) | ((with_reducible refine gate_dst (N := 11) rfl ?_); (try (refine gate_guard (by rfl) ?_; dsimp only)); refine qE (N := 11) (cs := (Ar.cells .u8 32 (List.replicate 32 0))) (t := 26) ?_; intro gb532 hg w79 hbox hb; replace HO_0 := Aside0.mk (Kd.V_below (Kd.V_elderB (qv HO_0) gb532 (Nat.le_of_eq hg.symm)) hb); replace HO_6 := Aside0.mk (Kd.V_below (Kd.V_elderB (qv HO_6) gb532 (Nat.le_of_eq hg.symm)) hb); replace HO_485001 := Aside0.mk (Kd.V_below (Kd.V_elderB (qv HO_485001) gb532 (Nat.le_of_eq hg.symm)) hb); replace HO519 := Aside0.mk (Kd.V_below (Kd.V_elderB (qv HO519) gb532 (Nat.le_of_eq hg.symm)) hb); replace HO522 := Aside0.mk (Kd.N_below (Kd.N_elderB (qn HO522) gb532 (Nat.le_of_eq hg.symm)) hb); replace HO526 := Aside0.mk (Kd.V_below (Kd.V_elderB (qv HO526) gb532 (Nat.le_of_eq hg.symm)) hb); have BK532 := Aside0.mk (hbox); have GW532 := Aside0.mk ((qe HB hg : w.heap.size ≤ gb532)); have GE532 := Aside0.mk ((qe HB hg : w.heap.size ≤ gb532)); replace HB := Aside0.mk (below_step (qs HB) hb); have NB484_532 := Aside0.mk ((qu BK484 hg : gb484 ≠ gb532)); have NB532_484 := Aside0.mk ((qw BK484 hg : gb532 ≠ gb484)); replace BK484 := Aside0.mk (qB BK484 hb); have NB529_532 := Aside0.mk ((qu BK529 hg : gb529 ≠ gb532)); have NB532_529 := Aside0.mk ((qw BK529 hg : gb532 ≠ gb529)); replace BK529 := Aside0.mk (qB BK529 hb); clear hb hbox hg) | ((with_reducible refine gate_store (t := 26) (p := 11) rfl ?_); refine Ar.store_all_event rfl rfl rfl Tryd.underlying26 (by kernel_rfl) (g := gb532) rfl (z := t530) qg (qb BK532) ?_; intro w80 hbk_ hg; replace HO_0 := Aside0.mk (Kd.V_grown (qv HO_0) hg (by intro k_ hk e_; exact (hk.2) (Option.some.inj e_))); replace HO_6 := Aside0.mk (Kd.V_grown (qv HO_6) hg (by intro k_ hk e_; exact (hk.2) (Option.some.inj e_))); replace HO_485001 := Aside0.mk (Kd.V_grown (qv HO_485001) hg (by intro k_ hk e_; exact (hk.2) (Option.some.inj e_))); replace BK484 := Aside0.mk (qG BK484 hg (fun e_ => NB484_532.out (Option.some.inj e_))); replace HO519 := Aside0.mk (Kd.V_grown (qv HO519) hg (by intro k_ hk e_; exact (hk.2) (Option.some.inj e_))); replace HO522 := Aside0.mk (Kd.N_grown (qn HO522) hg (by intro k_ hk e_; exact (hk.2) (Option.some.inj e_))); replace HO526 := Aside0.mk (Kd.V_grown (qv HO526) hg (by intro k_ hk e_; exact (hk.2) (Option.some.inj e_))); replace BK529 := Aside0.mk (qG BK529 hg (fun e_ => NB529_532.out (Option.some.inj e_))); replace BK532 := Aside0.mk (hbk_); replace HB := Aside0.mk (Below.grown (qs HB) hg ((below_size (qs HB))) (fun _ e_ => by cases e_; exact GE532.out)); clear hbk_ hg))
               replace HO_0 := Aside0.mk (Kd.V_drew HO_0.out)
               replace HO_6 := Aside0.mk (Kd.V_drew HO_6.out)
               replace HO_485001 := Aside0.mk (Kd.V_drew HO_485001.out)
               replace HO519 := Aside0.mk (Kd.V_drew HO519.out)
               replace HO522 := Aside0.mk (Kd.N_drew HO522.out)
               replace HO526 := Aside0.mk (Kd.V_drew HO526.out)
               replace BK484 := Aside0.mk (blk_drew BK484.out)
               replace BK529 := Aside0.mk (blk_drew BK529.out)
               replace BK532 := Aside0.mk (blk_drew BK532.out)
               replace HB := Aside0.mk (below_drew1 HB.out)
               have q82 : ((ji59) : Int) ≤ ((l0.length : Int) : Int) := of_decide_eq_true qa
               obtain ⟨i082, hi082, _, hsz82, _⟩ := info_parts info5
               have hroom82 : l0.length ≤ c0 := (Kd.V_reads' HO_0.out).2.1
               have hC82 : Kd.F (Kd.int .u8) _ _ A0 l0.length l0 := (Kd.V_at (base := w.heap.size) HO_0.out).2.2
               have hcut82 := cut_to (P := Tryd.prog) 29 5 .i64 Tryd.underlying29 hi082 A0 l0.length c0 (ji59) qo q82 hroom82
               have hr82 := Kd.F_take (m := ((ji59) : Int).toNat) hC82 (by omega)
               have hy82 : y533.length = ((ji59) : Int).toNat := (by rw [Ny533.out, List.length_take]; omega)
               rw [← Ny533.out] at hr82
               rw [← hy82] at hcut82
               have HO537 := Aside0.mk (show Kd.V (Kd.int .u8) 5 _ w.heap.size _ (.slice A0 y533.length c0) y533 from Kd.V_mk (by omega) hr82)
               have HC537 := Aside0.mk (show y533.length ≤ c0 from by omega)
               clear hr82 hC82 hroom82 hi082 hsz82
               have KY82 := Aside0.mk hy82
               clear hy82
               replace q82 := eq_true q82
               refine start_ (n := 20) (S := fun w' => w'.heap[gb532]? = some (.cells (Ar.cells .u8 32 t530) 26 (0, 0))) (ds := []) #[false, false, false, false, false, false, false, false, false, false, false, false, false, false, false, false, false, false, false, false] (by kernel_rfl) rfl rfl (BK532.out) (fun hHeld => ?_); refine with_tabW drawlotlaw05_ShaCuts.tab15 drawlotlaw05_ShaCuts.bits15 (fun HT_ HW_ => ?_)
               generalize w80.drew = w81 at HO_0 HO_6 HO_485001 HO519 HO522 HO526 BK484 BK529 BK532 HB HO537 hHeld ⊢
               refine pure_ (i := 0) (N := some 60) (v := ?_) (a' := ?_) #[true, false, false, false, false, false, false, false, false, false, false, false, false, false, false, false, false, false, false, false] rfl rfl (any_of HT_.out (by kernel_rfl)) (fun _ _ _ h => h) (Or.inl ⟨by rfl, ?_⟩) ?_ ?_
               rotate_left
               ·intro w'
                go_simp
                with_reducible rfl
               rotate_left
               ·simp only [Act.put, List.setIfInBounds_toArray, List.set_cons_zero, List.set_cons_succ, i64_w, i32_w]
                rfl
               refine pure_ (i := 1) (N := some 61) (v := ?_) (a' := ?_) #[true, true, false, false, false, false, false, false, false, false, false, false, false, false, false, false, false, false, false, false] rfl rfl (any_of HT_.out (by kernel_rfl)) (fun _ _ _ h => h) (Or.inl ⟨by rfl, ?_⟩) ?_ ?_
               rotate_left
               ·intro w'
                go_simp
                with_reducible rfl
               rotate_left
               ·simp only [Act.put, List.setIfInBounds_toArray, List.set_cons_zero, List.set_cons_succ, i64_w, i32_w]
                rfl
               refine pure_ (i := 2) (N := some 62) (v := ?_) (a' := ?_) #[true, true, true, false, false, false, false, false, false, false, false, false, false, false, false, false, false, false, false, false] rfl rfl (any_of HT_.out (by kernel_rfl)) (fun _ _ _ h => h) (Or.inl ⟨by rfl, ?_⟩) ?_ ?_
               rotate_left
               ·intro w'
                go_simp
                with_reducible rfl
               rotate_left
               ·simp only [Act.put, List.setIfInBounds_toArray, List.set_cons_zero, List.set_cons_succ, i64_w, i32_w]
                rfl
               refine pure_ (i := 3) (N := some 63) (v := ?_) (a' := ?_) #[true, true, true, true, false, false, false, false, false, false, false, false, false, false, false, false, false, false, false, false] rfl rfl (any_of HT_.out (by kernel_rfl)) (fun _ _ _ h => h) (Or.inl ⟨by rfl, ?_⟩) ?_ ?_
               rotate_left
               ·intro w'
                go_simp
                with_reducible rfl
               rotate_left
               ·simp only [Act.put, List.setIfInBounds_toArray, List.set_cons_zero, List.set_cons_succ, i64_w, i32_w]
                rfl
               refine pure_ (i := 4) (N := some 64) (v := ?_) (a' := ?_) #[true, true, true, true, true, false, false, false, false, false, false, false, false, false, false, false, false, false, false, false] rfl rfl (any_of HT_.out (by kernel_rfl)) (fun _ _ _ h => h) (Or.inl ⟨by rfl, ?_⟩) ?_ ?_
               rotate_left
               ·intro w'
                go_simp
                with_reducible rfl
               rotate_left
               ·simp only [Act.put, List.setIfInBounds_toArray, List.set_cons_zero, List.set_cons_succ, i64_w, i32_w]
                rfl
               refine pure_ (i := 5) (N := some 65) (v := ?_) (a' := ?_) #[true, true, true, true, true, true, false, false, false, false, false, false, false, false, false, false, false, false, false, false] rfl rfl (any_of HT_.out (by kernel_rfl)) (fun _ _ _ h => h) (Or.inl ⟨by rfl, ?_⟩) ?_ ?_
               rotate_left
               ·intro w'
                go_simp
                with_reducible rfl
               rotate_left
               ·simp only [Act.put, List.setIfInBounds_toArray, List.set_cons_zero, List.set_cons_succ, i64_w, i32_w]
                rfl
               refine pure_ (i := 6) (N := some 66) (v := ?_) (a' := ?_) #[true, true, true, true, true, true, true, false, false, false, false, false, false, false, false, false, false, false, false, false] rfl rfl (any_of HT_.out (by kernel_rfl)) (fun _ _ _ h => h) (Or.inl ⟨by rfl, ?_⟩) ?_ ?_
               rotate_left
               ·intro w'
                go_simp
                with_reducible rfl
               rotate_left
               ·simp only [Act.put, List.setIfInBounds_toArray, List.set_cons_zero, List.set_cons_succ, i64_w, i32_w]
                rfl
               refine pure_ (i := 8) (N := some 68) (v := ?_) (a' := ?_) #[true, true, true, true, true, true, true, false, true, false, false, false, false, false, false, false, false, false, false, false] rfl rfl (any_of HT_.out (by kernel_rfl)) (fun _ _ _ h => h) (Or.inl ⟨by rfl, ?_⟩) ?_ ?_
               rotate_left
               ·intro w'
                go_simp
                with_reducible rfl
               rotate_left
               ·simp only [Act.put, List.setIfInBounds_toArray, List.set_cons_zero, List.set_cons_succ, i64_w, i32_w]
                rfl
               refine pure_ (i := 9) (N := some 69) (v := ?_) (a' := ?_) #[true, true, true, true, true, true, true, false, true, true, false, false, false, false, false, false, false, false, false, false] rfl rfl (any_of HT_.out (by kernel_rfl)) (fun _ _ _ h => h) (Or.inl ⟨by rfl, ?_⟩) ?_ ?_
               rotate_left
               ·intro w'
                go_simp
                with_reducible rfl
               rotate_left
               ·simp only [Act.put, List.setIfInBounds_toArray, List.set_cons_zero, List.set_cons_succ, i64_w, i32_w]
                rfl
               refine pure_ (i := 10) (N := some 70) (v := ?_) (a' := ?_) #[true, true, true, true, true, true, true, false, true, true, true, false, false, false, false, false, false, false, false, false] rfl rfl (any_of HT_.out (by kernel_rfl)) (fun _ _ _ h => h) (Or.inl ⟨by rfl, ?_⟩) ?_ ?_
               rotate_left
               ·intro w'
                go_simp
                with_reducible rfl
               rotate_left
               ·simp only [Act.put, List.setIfInBounds_toArray, List.set_cons_zero, List.set_cons_succ, i64_w, i32_w]
                rfl
               refine pure_ (i := 11) (N := some 71) (v := ?_) (a' := ?_) #[true, true, true, true, true, true, true, false, true, true, true, true, false, false, false, false, false, false, false, false] rfl rfl (any_of HT_.out (by kernel_rfl)) (fun _ _ _ h => h) (Or.inl ⟨by rfl, ?_⟩) ?_ ?_
               rotate_left
               ·intro w'
                go_simp
                with_reducible rfl
               rotate_left
               ·simp only [Act.put, List.setIfInBounds_toArray, List.set_cons_zero, List.set_cons_succ, i64_w, i32_w]
                rfl
               refine pure_ (i := 12) (N := some 72) (v := ?_) (a' := ?_) #[true, true, true, true, true, true, true, false, true, true, true, true, true, false, false, false, false, false, false, false] rfl rfl (any_of HT_.out (by kernel_rfl)) (fun _ _ _ h => h) (Or.inl ⟨by rfl, ?_⟩) ?_ ?_
               rotate_left
               ·intro w'
                go_simp
                with_reducible rfl
               rotate_left
               ·simp only [Act.put, List.setIfInBounds_toArray, List.set_cons_zero, List.set_cons_succ, i64_w, i32_w]
                rfl
               refine pure_ (i := 13) (N := some 73) (v := ?_) (a' := ?_) #[true, true, true, true, true, true, true, false, true, true, true, true, true, true, false, false, false, false, false, false] rfl rfl (any_of HT_.out (by kernel_rfl)) (fun _ _ _ h => h) (Or.inl ⟨by rfl, ?_⟩) ?_ ?_
               rotate_left
               ·intro w'
                go_simp
                with_reducible rfl
               rotate_left
               ·simp only [Act.put, List.setIfInBounds_toArray, List.set_cons_zero, List.set_cons_succ, i64_w, i32_w]
                rfl
               refine pure_ (i := 14) (N := some 74) (v := ?_) (a' := ?_) #[true, true, true, true, true, true, true, false, true, true, true, true, true, true, true, false, false, false, false, false] rfl rfl (any_of HT_.out (by kernel_rfl)) (fun _ _ _ h => h) (Or.inl ⟨by rfl, ?_⟩) ?_ ?_
               rotate_left
               ·intro w'
                go_simp
                with_reducible rfl
               rotate_left
               ·simp only [Act.put, List.setIfInBounds_toArray, List.set_cons_zero, List.set_cons_succ, i64_w, i32_w]
                rfl
               refine pure_ (i := 15) (N := some 75) (v := ?_) (a' := ?_) #[true, true, true, true, true, true, true, false, true, true, true, true, true, true, true, true, false, false, false, false] rfl rfl (any_of HT_.out (by kernel_rfl)) (fun _ _ _ h => h) (Or.inl ⟨by rfl, ?_⟩) ?_ ?_
               rotate_left
               ·intro w'
                go_simp
                with_reducible rfl
               rotate_left
               ·simp only [Act.put, List.setIfInBounds_toArray, List.set_cons_zero, List.set_cons_succ, i64_w, i32_w]
                rfl
               refine pure_ (i := 16) (N := some 76) (v := ?_) (a' := ?_) #[true, true, true, true, true, true, true, false, true, true, true, true, true, true, true, true, true, false, false, false] rfl rfl (any_of HT_.out (by kernel_rfl)) (fun _ _ _ h => h) (Or.inl ⟨by rfl, ?_⟩) ?_ ?_
               rotate_left
               ·intro w'
                go_simp
                with_reducible rfl
               rotate_left
               ·simp only [Act.put, List.setIfInBounds_toArray, List.set_cons_zero, List.set_cons_succ, i64_w, i32_w]
                rfl
               refine take_ (i := 7) (N := some 67) (v := ?_) (a' := ?_) #[true, true, true, true, true, true, true, true, true, true, true, true, true, true, true, true, true, false, false, false] rfl rfl (take_ofW HT_.out HW_.out (by kernel_rfl)) (fun _ _ _ h => h) (Or.inl ⟨by rfl, ?_⟩) hHeld ?_ ?_
               rotate_left
               ·intro w' s0
                first | (refine (Ar.load_run rfl Tryd.underlying26 (by kernel_rfl) rfl (by assumption)).trans ?_; with_reducible rfl) | (go_simp; with_reducible rfl)
               rotate_left
               ·simp only [Act.put, List.setIfInBounds_toArray, List.set_cons_zero, List.set_cons_succ, i64_w, i32_w]
                rfl
               refine one_ (i := 17) (N := some 77) #[true, true, true, true, true, true, true, true, true, true, true, true, true, true, true, true, true, true, false, false] rfl rfl (one_of HT_.out (by kernel_rfl)) (by decide) (fun K hK => ?_)
               refine goes_ Tryd.func10 (by kernel_rfl) rfl #[.slice A0 y533.length c0] (by rfl) rfl rfl ql ?_
               with_reducible refine (drawlotref05_Sum.calls k1 _ _ y533 t538 _ ?side1 ?side2 A62.out).mono ?_
               (case side1 => repeat (first | exact (Kd.V_reads' HO537.out).2.2 | (with_reducible refine Kd.C_alloc ?_ _) | (with_reducible refine Kd.C_drewN ?_ _) | (with_reducible refine Kd.C_drew ?_)))
               (case side2 => exact (Kd.V_reads' HO537.out).2.1)
               rintro e w83 ⟨rfl, hb⟩
               refine ⟨_, rfl, ?_⟩
               replace HO_0 := Aside0.mk (Kd.V_below (qv HO_0) hb)
               replace HO_6 := Aside0.mk (Kd.V_below (qv HO_6) hb)
               replace HO_485001 := Aside0.mk (Kd.V_below (qv HO_485001) hb)
               replace HO519 := Aside0.mk (Kd.V_below (qv HO519) hb)
               replace HO522 := Aside0.mk (Kd.N_below (qn HO522) hb)
               replace HO526 := Aside0.mk (Kd.V_below (qv HO526) hb)
               replace HO537 := Aside0.mk (Kd.V_below (qv HO537) hb)
               replace BK484 := Aside0.mk (qB BK484 hb)
               replace BK529 := Aside0.mk (qB BK529 hb)
               replace BK532 := Aside0.mk (qB BK532 hb)
               replace HB := Aside0.mk (below_step (qs HB) hb)
               (try clear hb)
               (try clear hb2)
               (try clear hk)
               (try clear hi)
               refine hK.out _ _ (BK532.out) (fun hHeld => ?_)
               clear hK K
               refine norm_ (a' := ?_) ?_ ?_
               rotate_left
               ·show Act.put _ (some 77) _ = _
                simp only [Act.put, List.setIfInBounds_toArray, List.set_cons_zero, List.set_cons_succ, i64_w, i32_w]
                rfl
               refine pure_ (i := 18) (N := some 78) (v := ?_) (a' := ?_) #[true, true, true, true, true, true, true, true, true, true, true, true, true, true, true, true, true, true, true, false] rfl rfl (any_of HT_.out (by kernel_rfl)) (fun _ _ _ h => h) (Or.inl ⟨by rfl, ?_⟩) ?_ ?_
               rotate_left
               ·intro w'
                go_simp
                with_reducible rfl
               rotate_left
               ·simp only [Act.put, List.setIfInBounds_toArray, List.set_cons_zero, List.set_cons_succ, i64_w, i32_w]
                rfl
               refine pure_ (i := 19) (N := some 79) (v := ?_) (a' := ?_) #[true, true, true, true, true, true, true, true, true, true, true, true, true, true, true, true, true, true, true, true] rfl rfl (any_of HT_.out (by kernel_rfl)) (fun _ _ _ h => h) (Or.inl ⟨by rfl, ?_⟩) ?_ ?_
               rotate_left
               ·intro w'
                go_simp
                with_reducible rfl
               rotate_left
               ·simp only [Act.put, List.setIfInBounds_toArray, List.set_cons_zero, List.set_cons_succ, i64_w, i32_w]
                rfl
               refine done_ (done_of HT_.out (by kernel_rfl)) ?_
               try go_wp2
               replace HO_0 := Aside0.mk (Kd.V_drew HO_0.out)
               replace HO_6 := Aside0.mk (Kd.V_drew HO_6.out)
               replace HO_485001 := Aside0.mk (Kd.V_drew HO_485001.out)
               replace HO519 := Aside0.mk (Kd.V_drew HO519.out)
               replace HO522 := Aside0.mk (Kd.N_drew HO522.out)
               replace HO526 := Aside0.mk (Kd.V_drew HO526.out)
               replace HO537 := Aside0.mk (Kd.V_drew HO537.out)
               replace BK484 := Aside0.mk (blk_drew BK484.out)
               replace BK529 := Aside0.mk (blk_drew BK529.out)
               replace BK532 := Aside0.mk (blk_drew BK532.out)
               replace HB := Aside0.mk (below_drew1 HB.out)
               have q85 : ((x6_1.length : Int) : Int) ≤ ((x6_1.length : Int) : Int) := of_decide_eq_true qa
               obtain ⟨i085, hi085, _, hsz85, _⟩ := info_parts info5
               have hroom85 : x6_1.length ≤ co66 := (Kd.V_reads' HO_6.out).2.1
               have hC85 : Kd.F (Kd.int .u8) _ _ Ao66 x6_1.length x6_1 := (Kd.V_at (base := w.heap.size) HO_6.out).2.2
               have q085 : (0 : Int) ≤ ((x6_1.length : Int) : Int) := of_decide_eq_true qa
               have hcut85 := cut_from (P := Tryd.prog) 29 5 .i64 Tryd.underlying29 hi085 1 hsz85 Ao66 x6_1.length co66 (x6_1.length : Int) q085 q85
               have hr85 := Kd.F_cut (m := ((x6_1.length : Int) : Int).toNat) (c := co66) hC85 (by omega) hroom85
               obtain ⟨A85, hA85⟩ : ∃ A1, A1 = (if co66 = ((x6_1.length : Int) : Int).toNat then Ao66 else (Ao66 : Option Addr).map (·.add (((x6_1.length : Int) : Int).toNat * 1))) := ⟨_, rfl⟩
               obtain ⟨c85, hc85⟩ : ∃ c1, c1 = co66 - ((x6_1.length : Int) : Int).toNat := ⟨_, rfl⟩
               have hy85 : y539.length = x6_1.length - ((x6_1.length : Int) : Int).toNat := (by rw [Ny539.out, List.length_drop] <;> omega)
               rw [show (x6_1).drop ((x6_1.length : Int) : Int).toNat = y539 from Ny539.out.symm] at hr85
               replace hr85 : Kd.F (Kd.int .u8) _ _ A85 y539.length y539 := (by rw [hA85]; exact hr85)
               rw [← hy85, ← hA85, ← hc85] at hcut85
               have HO543 := Aside0.mk (show Kd.V (Kd.int .u8) 5 _ w.heap.size _ (.slice A85 y539.length c85) y539 from Kd.V_mk (by rw [hy85, hc85]; exact Nat.sub_le_sub_right hroom85 _) hr85)
               have HC543 := Aside0.mk (show y539.length ≤ c85 from by rw [hy85, hc85]; exact Nat.sub_le_sub_right hroom85 _)
               clear hr85 hC85 hroom85 hi085 hsz85 hc85
               have KY85 := Aside0.mk hy85
               have KA85 := Aside0.mk hA85
               clear hy85 hA85
               replace q85 := eq_true q85
               refine start_ (n := 6) (S := fun w' => w'.heap[gb529]? = some (.cells ((Ar.cells .u32 8 t523) ++ #[.slice Ao77 t524.length co77, .int .u64 t527]) 36 (0, 0)) ∧ w'.cell? ⟨gb529, 8, none⟩ = some (.slice Ao77 t524.length co77) ∧ w'.cell? ⟨gb529, 9, none⟩ = some (.int .u64 t527)) (ds := []) #[false, false, false, false, false, false] (by kernel_rfl) rfl rfl ⟨BK529.out, (blk_cell BK529.out 8).trans qc, (blk_cell BK529.out 9).trans qc⟩ (fun hHeld => ?_)
               generalize w83.drew = w84 at HO_0 HO_6 HO_485001 HO519 HO522 HO526 HO537 BK484 BK529 BK532 HB HO543 hHeld ⊢
               refine pure_ (i := 1) (N := some 81) (v := ?_) (a' := ?_) #[false, true, false, false, false, false] rfl rfl (by kernel_rfl) (fun _ _ _ h => h) (Or.inl ⟨by rfl, ?_⟩) ?_ ?_
               rotate_left
               ·intro w'
                go_simp
                with_reducible rfl
               rotate_left
               ·simp only [Act.put, List.setIfInBounds_toArray, List.set_cons_zero, List.set_cons_succ, i64_w, i32_w]
                rfl
               refine pure_ (i := 2) (N := some 82) (v := ?_) (a' := ?_) #[false, true, true, false, false, false] rfl rfl (by kernel_rfl) (fun _ _ _ h => h) (Or.inl ⟨by rfl, ?_⟩) ?_ ?_
               rotate_left
               ·intro w'
                go_simp
                with_reducible rfl
               rotate_left
               ·simp only [Act.put, List.setIfInBounds_toArray, List.set_cons_zero, List.set_cons_succ, i64_w, i32_w]
                rfl
               refine pure_ (i := 3) (N := some 83) (v := ?_) (a' := ?_) #[false, true, true, true, false, false] rfl rfl (by kernel_rfl) (fun _ _ _ h => h) (Or.inl ⟨by rfl, ?_⟩) ?_ ?_
               rotate_left
               ·intro w'
                go_simp
                with_reducible rfl
               rotate_left
               ·simp only [Act.put, List.setIfInBounds_toArray, List.set_cons_zero, List.set_cons_succ, i64_w, i32_w]
                rfl
               refine take_ (i := 0) (N := some 80) (v := ?_) (a' := ?_) #[true, true, true, true, false, false] rfl rfl (by kernel_rfl) (fun _ _ _ h => h) (Or.inl ⟨by rfl, ?_⟩) hHeld ?_ ?_
               rotate_left
               ·rintro w' ⟨s0, s1, s2⟩
                first | (refine (Ar.gload_run rfl Tryd.underlying36 rfl (D := ((Ar.cells .u32 8 t523) ++ #[.slice Ao77 t524.length co77, .int .u64 t527])) qz rfl (Ar.blk_part (by assumption) Ar.in_whole)).trans ?_; with_reducible rfl) | (go_simp; with_reducible rfl)
               rotate_left
               ·simp only [Act.put, List.setIfInBounds_toArray, List.set_cons_zero, List.set_cons_succ, i64_w, i32_w]
                rfl
               refine one_ (i := 4) (N := none) #[true, true, true, true, true, false] rfl rfl (by kernel_rfl) (by decide) (fun K hK => ?_)
               refine Ar.gstore_step (by rfl) rfl rfl (D := ((Ar.cells .u32 8 t523) ++ #[.slice Ao77 t524.length co77, .int .u64 t527])) qz (g := gb484) rfl qg (qb BK484) (by simp [Ar.cells_size]) (by repeat (first | (with_reducible refine Ar.all_app ?_ ?_) | (with_reducible exact Ar.cells_one _ _ _) | (focus (simp [Value.oneCell']; done)) | rfl)) ?_; intro w86 hbk_ hg
               replace HO_0 := Aside0.mk (Kd.V_grown (qv HO_0) hg (by intro k_ hk e_; exact (hk.1.2.2.1) (Option.some.inj e_)))
               replace HO_6 := Aside0.mk (Kd.V_grown (qv HO_6) hg (by intro k_ hk e_; exact (hk.1.2.2.1) (Option.some.inj e_)))
               replace HO_485001 := Aside0.mk (Kd.V_grown (qv HO_485001) hg (by intro k_ hk e_; exact (hk.1.2.2.1) (Option.some.inj e_)))
               replace HO519 := Aside0.mk (Kd.V_grown (qv HO519) hg (by intro k_ hk e_; exact (hk.1.2.2.1) (Option.some.inj e_)))
               replace HO522 := Aside0.mk (Kd.N_grown (qn HO522) hg (by intro k_ hk e_; exact (hk.1.2.1) (Option.some.inj e_)))
               replace HO526 := Aside0.mk (Kd.V_grown (qv HO526) hg (by intro k_ hk e_; exact (hk.1.2.2.1) (Option.some.inj e_)))
               replace BK529 := Aside0.mk (qG BK529 hg (fun e_ => NB529_484.out (Option.some.inj e_)))
               replace BK532 := Aside0.mk (qG BK532 hg (fun e_ => NB532_484.out (Option.some.inj e_)))
               replace HO537 := Aside0.mk (Kd.V_grown (qv HO537) hg (by intro k_ hk e_; exact (hk.1.2.2.1) (Option.some.inj e_)))
               replace HO543 := Aside0.mk (Kd.V_grown (qv HO543) hg (by intro k_ hk e_; exact (hk.1.2.2.1) (Option.some.inj e_)))
               replace BK484 := Aside0.mk (hbk_)
               replace HB := Aside0.mk (Below.grown (qs HB) hg ((below_size (qs HB))) (fun _ e_ => by cases e_; exact GE484.out))
               clear hbk_ hg
               refine hK.out _ _ ⟨BK529.out, (blk_cell BK529.out 8).trans qc, (blk_cell BK529.out 9).trans qc⟩ (fun hHeld => ?_)
               clear hK K
               refine pure_ (i := 5) (N := some 6) (v := ?_) (a' := ?_) #[true, true, true, true, true, true] rfl rfl (by kernel_rfl) (fun _ _ _ h => h) (Or.inl ⟨by rfl, ?_⟩) ?_ ?_
               rotate_left
               ·intro w'
                go_simp
                with_reducible rfl
               rotate_left
               ·simp only [Act.put, List.setIfInBounds_toArray, List.set_cons_zero, List.set_cons_succ, i64_w, i32_w]
                rfl
               refine done_ (by kernel_rfl) ?_
               try go_wp2
               go_roundg k1
               case measure => have := HK1.out; omega
               case rel => exact ⟨(y539), (wrap64 (x7_1 + 1)), (t523), (t524), (t527), (.slice Ao77 t524.length co77), (by first | rfl | (simp; done) | (simp [*]; done)), H', ⟨by have := HK1.out; omega⟩, ⟨by (with_reducible repeat (first | apply Kd.V_alloc | apply Kd.V_drewN | apply Kd.V_drew)); exact Kd.V_mono HO_0.out (fun _ hk => ⟨hk.1.1, hk.1.2.2.1⟩)⟩, ⟨by (with_reducible repeat (first | apply Kd.V_alloc | apply Kd.V_drewN | apply Kd.V_drew)); exact Kd.V_mono HO543.out (fun _ hk => ⟨hk.1.1, hk.1.2.2.1⟩)⟩, ⟨by (with_reducible repeat (first | apply Kd.V_alloc | apply Kd.V_drewN | apply Kd.V_drew)); exact Kd.V_mono HO526.out (fun _ hk => ⟨hk.1.1, hk.1.2.2.1⟩)⟩, ⟨by (with_reducible repeat (first | refine blk_drewN ?_ _ | refine blk_drew ?_ | refine blk_alloc ?_ _)); exact BK484.out⟩, ⟨by repeat (first | (with_reducible first | exact HB.out | apply below_alloc | apply pw_below_drewN | apply below_drew1 | refine below_set ?_ GE484.out | refine below_set ?_ GE529.out | refine below_set ?_ GE532.out) | exact HB.out)⟩⟩
              ·rw [if_neg c63] at H
               exact absurd H (by simp)
             ·rw [if_neg c61] at H
              exact absurd H (by simp)
            ·rw [if_neg c60] at H
             exact absurd H (by simp)
           ·rw [if_neg c58] at H
            exact absurd H (by simp)
          ·rw [if_neg c57] at H
           exact absurd H (by simp)
         ·rw [if_neg c54] at H
          exact absurd H (by simp)
        ·rw [if_neg c53] at H
         exact absurd H (by simp)
      ·rw [if_neg c14] at H
       have c14b0 : decide (x7_1 ≤ (l1.length : Int)) = false := decide_eq_false c14
       clear c14
       by_cases c87 : (x6_1.length : Int) = 0
       ·rw [if_pos c87] at H
        have c87b0 : ((x6_1.length : Int) == 0) = true := beq_iff_eq.mpr c87
        have c87b1 : ((x6_1.length : Int) != 0) = false := bne_eq_false_iff_eq.mpr c87
        clear c87
        obtain ⟨y544, hy544⟩ : ∃ y_ : List (List Int), y_ = (([l0] : List (List Int))) := ⟨_, rfl⟩
        replace H : ((sha_Sum.f k1 y544).bind fun t547 => ((drawlotref05_Sum.f k1 l0).bind fun t548 => (some (Ar.eqb 32 t547 t548)))) = some r := by first | (rw [hy544]; with_reducible exact H) | (have H2_ := (Option.bind_some _ _).symm.trans H; rw [hy544]; with_reducible exact H2_) | (have H2_ := (Option.bind_some _ _).symm.trans H; with_reducible exact H2_) | with_reducible exact H | (rw [hy544]; exact H) | exact H
        have Ny544 := Aside0.mk hy544
        clear hy544
        replace H := Option.bind_eq_some_iff.mp H
        obtain ⟨t547, A880, H⟩ := H
        replace H : ((drawlotref05_Sum.f k1 l0).bind fun t548 => (some (Ar.eqb 32 t547 t548))) = some r := H
        have A88 := Aside0.mk A880
        clear A880
        replace H := Option.bind_eq_some_iff.mp H
        obtain ⟨t548, A890, H⟩ := H
        replace H : (some (Ar.eqb 32 t547 t548)) = some r := H
        have A89 := Aside0.mk A890
        clear A890
        obtain rfl := Option.some.inj H
        obtain ⟨Ao90, co90, eo90⟩ := Kd.V_slice HO_6.out
        subst eo90
        go_wp2_with (first | ((with_reducible refine gate_dst (N := 89) rfl ?_); (try (refine gate_guard (by rfl) ?_; dsimp only)); refine Kd.N_lit (Kd.slice 5 (Kd.int .u8)) _ 29 ?hg (N' := 89) ?hd (xs := ([l0] : List (List Int))) (inner := [.slice A0 l0.length c0]) (ok := (fun k_ => (P0_ k_ ∨ w.heap.size ≤ k_) ∧ k_ ≠ gb484)) (okp := (fun k_ => (P0_ k_ ∨ w.heap.size ≤ k_) ∧ k_ ≠ gb484)) ?hr ?hp (fun _ hk => hk) ((show ∀ k_, wr.heap.size ≤ k_ → (fun k_ => (P0_ k_ ∨ w.heap.size ≤ k_) ∧ k_ ≠ gb484) k_ from fun k_ hk => ⟨(.inr (Nat.le_trans (below_size (qs HB)) hk)), Kd.freshB (g := gb484) (o := .cells ((Ar.cells .u32 8 x485000_1) ++ #[u485001, .int .u64 x485002_1]) 36 (0, 0)) (qb BK484) k_ hk⟩) _ (Nat.le_refl _)) (Below.refl _ _) (Nat.le_refl _) (by simp) ?_; (case hd => rfl); (case hg => rfl); (case hr => first | (go_simp; done) | (go_simp; rfl)); (case hp => exact (Reps.one ((Kd.FK_slice_mk (Kd.V_reads' (Kd.V_mono (ok' := (fun k_ => (P0_ k_ ∨ w.heap.size ≤ k_) ∧ k_ ≠ gb484)) (HO_0.out) (fun k_ hk => ⟨hk.1, hk.2⟩))).2.1 (Kd.V_F (e := 5) (base := w.heap.size) (Kd.V_mono (ok := (fun k_ => ((P0_ k_ ∨ w.heap.size ≤ k_) ∧ k_ ≠ gb484))) (ok' := (fun k_ => (P0_ k_ ∨ w.heap.size ≤ k_) ∧ k_ ≠ gb484)) (by repeat (first | exact HO_0.out | apply Kd.V_drewN | apply Kd.V_alloc | apply Kd.V_drew)) (fun k_ hk => ⟨hk.1, hk.2⟩)))) : Kd.FK (Kd.slice 5 (Kd.int .u8)) _ _ l0 [.slice A0 l0.length c0]) (Reps.none _ _))); intro v545 w91 ho92 hb hg_ hnew_; clear hg_ hnew_; (first | rw [← Ny544.out] at ho92 | (simp only [Int.reduceToNat] at ho92; rw [← Ny544.out] at ho92)); replace HO_0 := Aside0.mk (Kd.V_elder' (qv HO_0) (Kd.N_base ho92) hb); replace HO_6 := Aside0.mk (Kd.V_elder' (qv HO_6) (Kd.N_base ho92) hb); replace HO_485001 := Aside0.mk (Kd.V_elder' (qv HO_485001) (Kd.N_base ho92) hb); have HO546 := Aside0.mk (Kd.N_lower ho92 (below_size (qs HB))); replace BK484 := Aside0.mk (qB BK484 hb); replace HB := Aside0.mk (below_step (qs HB) hb); clear hb ho92; obtain ⟨Ao93, co93, eo93⟩ := Kd.N_slice HO546.out; subst eo93) | (go_at_call 9; (with_reducible refine (sha_Sum.calls k1 _ _ y544 t547 _ ?side1 ?side2 A88.out).mono ?_); (case side1 => repeat (first | exact (Kd.N_reads' HO546.out).2.2 | (with_reducible refine Kd.C_alloc ?_ _) | (with_reducible refine Kd.C_drewN ?_ _) | (with_reducible refine Kd.C_drew ?_))); (case side2 => exact (Kd.N_reads' HO546.out).2.1); rintro e w94 ⟨rfl, hb⟩; replace HO_0 := Aside0.mk (Kd.V_below (qv HO_0) hb); replace HO_6 := Aside0.mk (Kd.V_below (qv HO_6) hb); replace HO_485001 := Aside0.mk (Kd.V_below (qv HO_485001) hb); replace HO546 := Aside0.mk (Kd.N_below (qn HO546) hb); replace BK484 := Aside0.mk (qB BK484 hb); replace HB := Aside0.mk (below_step (qs HB) hb); (try clear hb); (try clear hb2); (try clear hk); (try clear hi)) | (go_at_call 10; (with_reducible refine (drawlotref05_Sum.calls k1 _ _ l0 t548 _ ?side1 ?side2 A89.out).mono ?_); (case side1 => repeat (first | exact (Kd.V_reads' HO_0.out).2.2 | (with_reducible refine Kd.C_alloc ?_ _) | (with_reducible refine Kd.C_drewN ?_ _) | (with_reducible refine Kd.C_drew ?_))); (case side2 => exact (Kd.V_reads' HO_0.out).2.1); rintro e w95 ⟨rfl, hb⟩; replace HO_0 := Aside0.mk (Kd.V_below (qv HO_0) hb); replace HO_6 := Aside0.mk (Kd.V_below (qv HO_6) hb); replace HO_485001 := Aside0.mk (Kd.V_below (qv HO_485001) hb); replace HO546 := Aside0.mk (Kd.N_below (qn HO546) hb); replace BK484 := Aside0.mk (qB BK484 hb); replace HB := Aside0.mk (below_step (qs HB) hb); (try clear hb); (try clear hb2); (try clear hk); (try clear hi)) | ((with_reducible refine gate_dst (N := 93) rfl ?_); (try (refine gate_guard (by rfl) ?_; dsimp only)); refine Ar.eq_event rfl (D := 93) rfl (T := 26) (neq := false) rfl Tryd.underlying26 (by kernel_rfl) Tryd.underlying5 (by kernel_rfl) (k := .u8) (n := 32) (l := t547) (m := t548) qg qg ?_; dsimp only [if_true, if_false, Bool.false_eq_true]))
        go_ret
        exact ⟨by first | rfl | (simp [errW_none, errW_some] <;> rfl) | (simp [*, errW_none, errW_some] <;> rfl), by repeat (first | (with_reducible first | exact HB.out | apply below_alloc | apply pw_below_drewN | apply below_drew1 | refine below_set ?_ GE484.out) | exact HB.out)⟩
       ·rw [if_neg c87] at H
        exact absurd H (by simp)
 ·replace c4 := Bool.eq_false_iff.mpr c4
  subst c4
  have H1 : (none) = some r := by rw [if_neg (show ¬ (false = true) by decide)] at H; exact H
  clear H
  have H := H1
  clear H1
  exact absurd H (by simp)
def drawlotlaw05_ShaCuts.Pure : Prop := ∀ (l0 : List Int) (l1 : List Int), l0.length ≤ maxLen → l0.length * 1 ≤ 140737488351232 → (∀ x ∈ l0, (Lit.int .u8 x).wf = true) → l1.length ≤ maxLen → l1.length * 2 ≤ 140737488351232 → (∀ x ∈ l1, (Lit.int .u16 x).wf = true) → ∃ k, drawlotlaw05_ShaCuts.f k l0 l1 = some true
theorem drawlotlaw05_ShaCuts.walk (P : drawlotlaw05_ShaCuts.Pure) (a0 : Option Addr) (len0 cap0 : Nat) (z0 : List Int) (a1 : Option Addr) (len1 cap1 : Nat) (z1 : List Int) (w : World) (w0 : (a0 = none ∧ len0 = 0 ∧ cap0 = 0 ∧ z0 = []) ∨ ∃ x, a0 = some x ∧ len0 ≤ cap0 ∧ cap0 ≤ maxLen ∧ z0.length = cap0 ∧ (∀ i, i < z0.length → w.cell? (x.add i) = some (.int .u8 (z0.getD i 0))) ∧ ∀ n ∈ z0, (Lit.int .u8 n).wf = true) (y0 : len0 * 1 ≤ 140737488351232) (w1 : (a1 = none ∧ len1 = 0 ∧ cap1 = 0 ∧ z1 = []) ∨ ∃ x, a1 = some x ∧ len1 ≤ cap1 ∧ cap1 ≤ maxLen ∧ z1.length = cap1 ∧ (∀ i, i < z1.length → w.cell? (x.add i) = some (.int .u16 (z1.getD i 0))) ∧ ∀ n ∈ z1, (Lit.int .u16 n).wf = true) (y1 : len1 * 2 ≤ 140737488351232) :
  Calls Tryd.prog 5 #[.slice a0 len0 cap0, .slice a1 len1 cap1] w fun e w' => e = .returned (.bool true) ∧ Below w.heap.size w w' := by
 obtain ⟨l0, rfl, hr0, hm0, hw0, hc0⟩ := ReadsInt.ofRowC w0
 obtain ⟨l1, rfl, hr1, hm1, hw1, hc1⟩ := ReadsInt.ofRowC w1
 obtain ⟨k, h⟩ := P l0 l1 hm0 y0 hw0 hm1 y1 hw1
 refine (drawlotlaw05_ShaCuts.calls k (fun k_ => k_ < w.heap.size) _ _ l0 _ _ l1 true w (Kd.V_mk hc0 (Kd.F_below (Kd.C_F (Kd.heap_int .u8) (Kd.C_of_reads (d := (0 : Int)) (h1 := fun _ => rfl) hr0)) (Below.refl _ _))) (Kd.C_of_reads (d := (0 : Int)) (h1 := fun _ => rfl) hr1) hc1 h).mono ?_
 rintro e w' ⟨rfl, hd⟩
 exact ⟨rfl, hd⟩
end Go.Proofs.YtkcdcbiobkcpmaaDoor.PA
end
section
namespace Go.Proofs.YtkcdcbiobkcpmaaDoor.Lm
open Go.RowKit Go.Proofs.YtkcdcbiobkcpmaaDoorW.PrintWords
theorem u64w (x : Int) : IntKind.u64.wrap x = x % 18446744073709551616 := by simp [IntKind.wrap, IntKind.bits, IntKind.signed]
theorem u64w_id {x : Int} (h0 : 0 ≤ x) (h1 : x < 18446744073709551616) : IntKind.u64.wrap x = x := by rw [u64w]; omega
theorem w64_id {x : Int} (h0 : -9223372036854775808 ≤ x) (h1 : x < 9223372036854775808) : wrap64 x = x := by unfold wrap64; omega
theorem wf8 {x : Int} (h : (Lit.int .u8 x).wf = true) : 0 ≤ x ∧ x < 256 := by have := bounds_u8 h; omega
theorem wf16 {x : Int} (h : (Lit.int .u16 x).wf = true) : 0 ≤ x ∧ x < 65536 := by have := bounds_u16 h; omega
def U64 (l : List Int) : Prop := ∀ x ∈ l, 0 ≤ x ∧ x < 18446744073709551616
theorem rd_nat (l : List Int) (i : Nat) : rd l (i : Int) = l.getD i 0 := by simp [rd]
theorem rd_lt {l : List Int} {i : Int} (h0 : 0 ≤ i) (h1 : i < (l.length : Int)) : ∃ h : i.toNat < l.length, rd l i = l[i.toNat]'h := by
  have h : i.toNat < l.length := by omega
  exact ⟨h, by unfold rd; rw [List.getD_eq_getElem?_getD, List.getElem?_eq_getElem h]; rfl⟩
theorem U64.rd {l : List Int} (h : U64 l) (i : Int) : 0 ≤ rd l i ∧ rd l i < 18446744073709551616 := by
  unfold YtkcdcbiobkcpmaaDoorW.PrintWords.rd
  rw [List.getD_eq_getElem?_getD]
  by_cases hi : i.toNat < l.length
  · rw [List.getElem?_eq_getElem hi]; exact h _ (List.getElem_mem hi)
  · rw [List.getElem?_eq_none (by omega)]; simp
theorem U64.take {l : List Int} (h : U64 l) (n : Nat) : U64 (l.take n) := fun x hx => h x (List.mem_of_mem_take hx)
theorem U64.drop {l : List Int} (h : U64 l) (n : Nat) : U64 (l.drop n) := fun x hx => h x (List.mem_of_mem_drop hx)
theorem drop_step {l : List Int} {n : Nat} (h : n < l.length) : l.drop n = rd l (n : Int) :: l.drop (n + 1) := by
  rw [rd_nat, List.getD_eq_getElem?_getD, List.getElem?_eq_getElem h]
  exact List.drop_eq_getElem_cons h
theorem bs {α β : Type} (a : α) (f : α → Option β) : (some a).bind f = f a := Eq.trans (Option.bind_some a f) rfl
end Go.Proofs.YtkcdcbiobkcpmaaDoor.Lm
end
section
namespace Go.Proofs.YtkcdcbiobkcpmaaDoor.Lm
open Go.RowKit Go.Proofs.YtkcdcbiobkcpmaaDoor.PA Go.Proofs.YtkcdcbiobkcpmaaDoorW.PrintWords Go.Proofs.YtkcdcbiobkcpmaaDoorW.PrintLast
theorem alive05 (k : Nat) (hk : 300 ≤ k) : drawlotlaw05_alive.f k = some true := at_rounds (g := fun k => drawlotlaw05_alive.f k) (fun k => drawlotlaw05_alive.mono k) (k := 300) (k' := k) hk (r := true) (by decide +kernel)
end Go.Proofs.YtkcdcbiobkcpmaaDoor.Lm
end
section
namespace Go.Proofs.YtkcdcbiobkcpmaaDoor.PA
open Go.RowKit Go.Proofs.YtkcdcbiobkcpmaaDoorW.PrintWords Go.Proofs.YtkcdcbiobkcpmaaDoorW.PrintLast Go.Proofs.YtkcdcbiobkcpmaaDoorW.PrintMore
attribute [local go_sem] max2_int min2_int max_two min_two max_three min_three max_four min_four
set_option linter.unusedVariables false
set_option linter.unusedSimpArgs false
theorem drawlotref05_Text_u8 (x : Int) : IntKind.u8.wrap x = x % 256 := by simp [IntKind.wrap, IntKind.bits, IntKind.signed]
attribute [local go_sem] drawlotref05_Text_u8
end Go.Proofs.YtkcdcbiobkcpmaaDoor.PA
end
section
namespace Go.Proofs.YtkcdcbiobkcpmaaDoor.Lm
open Go.RowKit Go.Proofs.YtkcdcbiobkcpmaaDoor.PA Go.Proofs.YtkcdcbiobkcpmaaDoorW.PrintWords Go.Proofs.YtkcdcbiobkcpmaaDoorW.PrintLast Go.Proofs.YtkcdcbiobkcpmaaDoorW.PrintMore
theorem u32w (x : Int) : IntKind.u32.wrap x = x % 4294967296 := by simp [IntKind.wrap, IntKind.bits, IntKind.signed]
theorem bits_or_comm (k : IntKind) (x y : Int) : bits .or k x y = bits .or k y x := by unfold bits; simp only [BitVec.or_comm]
theorem wraps_u32 (n : Int) (h0 : 0 ≤ n) (h1 : n < 2 ^ 32) : IntKind.u32.wrap n = n := by rw [u32w]; omega
theorem pow_pos (n : Nat) : (0 : Int) < 2 ^ n := Int.pow_pos (by decide)
theorem pow_split {m : Nat} (h : m ≤ 32) : (2 : Int) ^ m * 2 ^ (32 - m) = 4294967296 := by
  rw [← Int.pow_add, show m + (32 - m) = 32 by omega]; rfl
theorem tmod32 (n : Int) : (0 ≤ Int.tmod n 32 ∧ Int.tmod n 32 = n % 32) ∨ (Int.tmod n 32 < 0 ∧ Int.tmod n 32 = n % 32 - 32) := by
  have h := Int.tmod_eq_emod (a := n) (b := 32)
  have hr := Int.emod_nonneg n (show (32 : Int) ≠ 0 by decide)
  have hr2 := Int.emod_lt_of_pos n (show (0 : Int) < 32 by decide)
  by_cases hc : 0 ≤ n ∨ (32 : Int) ∣ n
  · rw [if_pos hc] at h
    left; omega
  · rw [if_neg hc] at h
    right
    have : Int.natAbs 32 = 32 := rfl
    rw [this] at h
    omega
def rotF (x : Int) (m : Nat) : Int := x / 2 ^ m + x % 2 ^ m * 2 ^ (32 - m)
def leftF (x : Int) (m : Nat) : Int := x * 2 ^ m % 4294967296
theorem left_mod (x : Int) {m : Nat} (h : m ≤ 32) : leftF x (32 - m) = x % 2 ^ m * 2 ^ (32 - m) := by
  unfold leftF
  rw [← pow_split h]
  have hQ := pow_pos (32 - m)
  have := Int.mul_emod_mul_of_pos (a := 2 ^ (32 - m)) x (2 ^ m) hQ
  rw [Int.mul_comm x, Int.mul_comm (2 ^ m : Int), this, Int.mul_comm]
theorem div_lt {x : Int} (h1 : x < 4294967296) {m : Nat} (h : m ≤ 32) : x / 2 ^ m < 2 ^ (32 - m) := by
  refine Int.ediv_lt_of_lt_mul (pow_pos m) ?_
  rw [Int.mul_comm, pow_split h]; exact h1
theorem rotF_range {x : Int} (h0 : 0 ≤ x) (h1 : x < 4294967296) {m : Nat} (h : m ≤ 32) : 0 ≤ rotF x m ∧ rotF x m < 4294967296 := by
  unfold rotF
  have hP := pow_pos m
  have hQ := pow_pos (32 - m)
  have hd := div_lt h1 h
  have hd0 : 0 ≤ x / 2 ^ m := Int.ediv_nonneg h0 (Int.le_of_lt hP)
  have hm0 := Int.emod_nonneg x (Int.ne_of_gt hP)
  have hm1 := Int.emod_lt_of_pos x hP
  have hs := pow_split h
  have h3 : x % 2 ^ m * 2 ^ (32 - m) ≤ (2 ^ m - 1) * 2 ^ (32 - m) := Int.mul_le_mul_of_nonneg_right (by omega) (Int.le_of_lt hQ)
  rw [Int.sub_mul, hs, Int.one_mul] at h3
  have h4 : 0 ≤ x % 2 ^ m * 2 ^ (32 - m) := Int.mul_nonneg hm0 (Int.le_of_lt hQ)
  omega
theorem or_rot {x : Int} (h0 : 0 ≤ x) (h1 : x < 4294967296) {m : Nat} (h : m ≤ 32) : bits .or .u32 (x / 2 ^ m) (leftF x (32 - m)) = rotF x m := by
  have hP := pow_pos m
  have hQ := pow_pos (32 - m)
  have hd := div_lt h1 h
  have hd0 : 0 ≤ x / 2 ^ m := Int.ediv_nonneg h0 (Int.le_of_lt hP)
  have hl0 : 0 ≤ leftF x (32 - m) := Int.emod_nonneg _ (by decide)
  have hl1 : leftF x (32 - m) < 4294967296 := Int.emod_lt_of_pos _ (by decide)
  have hx1 : x / 2 ^ m < 2 ^ 32 := by
    have : x / 2 ^ m ≤ x := Int.ediv_le_self _ h0
    have : (2 : Int) ^ 32 = 4294967296 := rfl
    omega
  rw [bits_or_comm, bits_join .u32 32 (by decide) wraps_u32 (32 - m) _ _ hl0 (by rw [left_mod x h]; exact Int.mul_emod_left _ _) hl1 hd0 hd hx1, left_mod x h]
  unfold rotF
  omega
theorem rot_one {x : Int} {m : Nat} (h : m < 32) : rotF x m / 2 + rotF x m % 2 * 2147483648 = rotF x (m + 1) := by
  unfold rotF
  have hP := pow_pos m
  have e1 : (2 : Int) ^ (32 - m) = 2 * 2 ^ (31 - m) := by rw [show 32 - m = (31 - m) + 1 by omega, Int.pow_succ, Int.mul_comm]
  have e2 : (2 : Int) ^ (m + 1) = 2 ^ m * 2 := Int.pow_succ 2 m
  have e3 : (2 : Int) ^ m * 2 ^ (31 - m) = 2147483648 := by rw [← Int.pow_add, show m + (31 - m) = 31 by omega]; rfl
  rw [e1, e2, show 32 - (m + 1) = 31 - m by omega]
  generalize (2 : Int) ^ m = P at *
  generalize (2 : Int) ^ (31 - m) = Q at *
  have hd : x / (P * 2) = x / P / 2 := (Int.ediv_ediv_of_nonneg (Int.le_of_lt hP)).symm
  have hmd : x % (P * 2) = x % P + P * (x / P % 2) := by
    have a1 := Int.emod_add_mul_ediv x P
    have a2 := Int.emod_add_mul_ediv x (P * 2)
    have a3 := Int.emod_add_mul_ediv (x / P) 2
    rw [hd, Int.mul_assoc] at a2
    have a4 : P * (x / P) = P * (x / P % 2) + P * (2 * (x / P / 2)) := by rw [← Int.mul_add, a3]
    omega
  rw [hd, hmd]
  have b1 : x % P * (2 * Q) = 2 * (x % P * Q) := by rw [← Int.mul_assoc, Int.mul_comm (x % P) 2, Int.mul_assoc]
  have b2 : (x % P + P * (x / P % 2)) * Q = x % P * Q + 2147483648 * (x / P % 2) := by
    rw [Int.add_mul, Int.mul_assoc P, Int.mul_comm (x / P % 2) Q, ← Int.mul_assoc P, e3]
  rw [b1, b2]
  omega
theorem rotF_zero (x : Int) : rotF x 0 = x := by
  unfold rotF
  simp
theorem right_ok {x n : Int} (hn0 : -9223372036854775808 ≤ n) (hn1 : n < 9223372036854775808) : word_Right.f x n = some (x / 2 ^ (min n.toNat 32)) := by
  unfold word_Right.f
  have e : IntKind.u64.wrap (mx n 0) = (n.toNat : Int) := by rw [u64w]; unfold mx; split <;> omega
  rw [e, if_pos (by omega)]
  rfl
theorem rotate_ok {x n : Int} (h0 : 0 ≤ x) (h1 : x < 4294967296) : word_Rotate.f x n = some (rotF x (n % 32).toNat) := by
  unfold word_Rotate.f
  have e : Int.tmod (IntKind.u64.wrap n) 32 = n % 32 := by
    rw [u64w, Int.tmod_eq_emod_of_nonneg (by omega)]; omega
  have e2 : IntKind.u64.wrap (32 - n % 32) = 32 - n % 32 := by rw [u64w]; omega
  rw [e, e2, if_pos (by omega), if_pos (by omega)]
  have hm : (n % 32).toNat ≤ 32 := by omega
  have e3 : shr .u32 x (n % 32) = x / 2 ^ (n % 32).toNat := by
    unfold shr; rw [Nat.min_eq_left (by exact hm)]
  have e4 : shl .u32 x (32 - n % 32) = leftF x (32 - (n % 32).toNat) := by
    unfold shl leftF; rw [u32w, show (32 - n % 32).toNat = 32 - (n % 32).toNat by omega, Nat.min_eq_left (show 32 - (n % 32).toNat ≤ IntKind.u32.bits by show _ ≤ 32; omega)]
  rw [e3, e4]
  exact congrArg some (or_rot h0 h1 hm)
theorem r01right_loop (n : Int) (hn1 : n < 9223372036854775808) : ∀ (d k : Nat) (x i : Int), d < k → 0 ≤ i → n = i + d → 0 ≤ x → x < 4294967296 → drawlotref01_Right.l0 k x n i = some (x / 2 ^ d)
  | 0, k, x, i, hk, hi, hd, h0, h1 => by
    obtain ⟨k, rfl⟩ : ∃ m, k = m + 1 := ⟨k - 1, by omega⟩
    simp only [drawlotref01_Right.l0]
    rw [if_neg (by omega)]
    simp
  | d + 1, k, x, i, hk, hi, hd, h0, h1 => by
    obtain ⟨k, rfl⟩ : ∃ m, k = m + 1 := ⟨k - 1, by omega⟩
    simp only [drawlotref01_Right.l0]
    have e : Int.tdiv x 2 % 4294967296 = x / 2 := by rw [Int.tdiv_eq_ediv_of_nonneg h0]; omega
    rw [if_pos (by omega), w64_id (x := i + 1) (by omega) (by omega), e, r01right_loop n hn1 d k _ (i + 1) (by omega) (by omega) (by omega) (by omega) (by omega)]
    rw [Int.ediv_ediv_of_nonneg (by decide), Int.pow_succ, Int.mul_comm]
theorem r01right_ok {k : Nat} (hk : 33 < k) {x n : Int} (h0 : 0 ≤ x) (h1 : x < 4294967296) (hn0 : -9223372036854775808 ≤ n) (hn1 : n < 9223372036854775808) : drawlotref01_Right.f k x n = some (x / 2 ^ (min n.toNat 32)) := by
  unfold drawlotref01_Right.f
  by_cases h : n > 31
  · rw [if_pos h, Nat.min_eq_right (by omega), show (2 : Int) ^ 32 = 4294967296 from rfl, Int.ediv_eq_zero_of_lt h0 h1]
  · rw [if_neg h, Nat.min_eq_left (by omega)]
    by_cases hn : 0 ≤ n
    · exact r01right_loop n hn1 n.toNat k x 0 (by omega) (by omega) (by omega) h0 h1
    · obtain ⟨k, rfl⟩ : ∃ m, k = m + 1 := ⟨k - 1, by omega⟩
      simp only [drawlotref01_Right.l0]
      rw [if_neg (by omega), show n.toNat = 0 by omega]
      simp
theorem r01rotate_loop (x : Int) (h0 : 0 ≤ x) (h1 : x < 4294967296) (n : Nat) (hn : n < 32) : ∀ (d k i : Nat), d < k → n = i + d → drawlotref01_Rotate.l0 k (rotF x i) n i = some (rotF x n)
  | 0, k, i, hk, hd => by
    obtain ⟨k, rfl⟩ : ∃ m, k = m + 1 := ⟨k - 1, by omega⟩
    simp only [drawlotref01_Rotate.l0]
    rw [if_neg (by omega), show i = n by omega]
  | d + 1, k, i, hk, hd => by
    obtain ⟨k, rfl⟩ : ∃ m, k = m + 1 := ⟨k - 1, by omega⟩
    simp only [drawlotref01_Rotate.l0]
    obtain ⟨a0, a1⟩ := rotF_range h0 h1 (m := i) (by omega)
    obtain ⟨c0, c1⟩ := rotF_range h0 h1 (m := i + 1) (by omega)
    have e := rot_one (x := x) (m := i) (by omega)
    have e2 : (Int.tdiv (rotF x i) 2 % 4294967296 + Int.tmod (rotF x i) 2 * 2147483648 % 4294967296) % 4294967296 = rotF x (i + 1) := by
      rw [Int.tdiv_eq_ediv_of_nonneg a0, Int.tmod_eq_emod_of_nonneg a0]; omega
    rw [if_pos (by omega), e2, w64_id (by omega) (by omega)]
    exact r01rotate_loop x h0 h1 n hn d k (i + 1) (by omega) (by omega)
theorem r01rotate_ok {k : Nat} (hk : 40 < k) {x n : Int} (h0 : 0 ≤ x) (h1 : x < 4294967296) (_hn0 : -9223372036854775808 ≤ n) (_hn1 : n < 9223372036854775808) : drawlotref01_Rotate.f k x n = some (rotF x (n % 32).toNat) := by
  unfold drawlotref01_Rotate.f
  have hl : ∀ (m : Int), m = n % 32 → drawlotref01_Rotate.j0 k x m = some (rotF x (n % 32).toNat) := by
    rintro m rfl
    obtain ⟨k, rfl⟩ : ∃ m, k = m + 1 := ⟨k - 1, by omega⟩
    simp only [drawlotref01_Rotate.j0]
    have := r01rotate_loop x h0 h1 (n % 32).toNat (by omega) (n % 32).toNat k 0 (by omega) (by omega)
    rw [rotF_zero, show (((n % 32).toNat : Nat) : Int) = n % 32 by omega] at this
    exact this
  have ht := tmod32 n
  by_cases h : Int.tmod n 32 < 0
  · rw [if_pos h]
    refine hl _ ?_
    rw [w64_id (by omega) (by omega)]
    omega
  · rw [if_neg h]
    refine hl _ ?_
    omega
end Go.Proofs.YtkcdcbiobkcpmaaDoor.Lm
end
section
namespace Go.Proofs.YtkcdcbiobkcpmaaDoor.Lm
open Go.RowKit Go.Proofs.YtkcdcbiobkcpmaaDoor.PA Go.Proofs.YtkcdcbiobkcpmaaDoorW.PrintWords Go.Proofs.YtkcdcbiobkcpmaaDoorW.PrintLast Go.Proofs.YtkcdcbiobkcpmaaDoorW.PrintMore
theorem get32_step (k : Nat) (acc : Int) (l : List Int) (i : Nat) (hi : i < 4) (ha0 : 0 ≤ acc) (ha1 : acc < 256 ^ i) (hb : 0 ≤ Ar.get 4 l i ∧ Ar.get 4 l i < 256) : word_Get32.l0 (k + 1) acc l i = word_Get32.l0 k (acc * 256 + Ar.get 4 l i) l ((i + 1 : Nat) : Int) := by
  have e4 : wrap64 ((i : Int) + 1) = ((i + 1 : Nat) : Int) := by rw [w64_id (by omega) (by omega)]; omega
  have hlt : acc < 16777216 := by
    rcases (show i = 0 ∨ i = 1 ∨ i = 2 ∨ i = 3 by omega) with rfl | rfl | rfl | rfl <;> simp at ha1 <;> omega
  have e1 : acc * 256 % 4294967296 = acc * 256 := by omega
  have e2 : Ar.get 4 l i % 4294967296 = Ar.get 4 l i := by omega
  have e3 : bits .or .u32 (acc * 256) (Ar.get 4 l i) = acc * 256 + Ar.get 4 l i :=
    bits_join .u32 32 (by decide) wraps_u32 8 _ _ (by omega) (by show acc * 256 % 256 = 0; omega) (by have : (2 : Int) ^ 32 = 4294967296 := rfl; omega) hb.1 hb.2 (by have : (2 : Int) ^ 32 = 4294967296 := rfl; omega)
  rw [word_Get32.l0, if_pos (by omega), if_pos (by omega), e1, e2, e3, e4]
theorem get32_ok (k : Nat) (hk : 5 ≤ k) (b0 b1 b2 b3 : Int) (h : ∀ b ∈ [b0, b1, b2, b3], 0 ≤ b ∧ b < 256) : word_Get32.f k [b0, b1, b2, b3] = some (((b0 * 256 + b1) * 256 + b2) * 256 + b3) := by
  obtain ⟨k, rfl⟩ : ∃ m, k = m + 5 := ⟨k - 5, by omega⟩
  simp only [List.mem_cons, List.not_mem_nil, or_false, forall_eq_or_imp, forall_eq] at h
  obtain ⟨h0, h1, h2, h3⟩ := h
  unfold word_Get32.f
  have s := fun k acc i hi => get32_step k acc [b0, b1, b2, b3] i hi
  rw [show ((0 : Int)) = ((0 : Nat) : Int) from rfl]
  rw [s _ _ 0 (by decide) (by decide) (by decide) h0]
  have z : ((0 : Nat) : Int) * 256 + Ar.get 4 [b0, b1, b2, b3] (0 : Nat) = b0 := by show (0 : Int) * 256 + b0 = b0; omega
  rw [z]
  rw [s _ _ 1 (by decide) (by omega) (by show b0 < 256; omega) h1]
  show word_Get32.l0 _ (b0 * 256 + b1) _ _ = _
  rw [s _ _ 2 (by decide) (by omega) (by show _ < (65536 : Int); omega) h2]
  show word_Get32.l0 _ ((b0 * 256 + b1) * 256 + b2) _ _ = _
  rw [s _ _ 3 (by decide) (by omega) (by show _ < (16777216 : Int); omega) h3]
  show word_Get32.l0 _ (((b0 * 256 + b1) * 256 + b2) * 256 + b3) _ _ = _
  rw [word_Get32.l0, if_neg (by decide)]
end Go.Proofs.YtkcdcbiobkcpmaaDoor.Lm
end
section
namespace Go.Proofs.YtkcdcbiobkcpmaaDoor.Lm
open Go.RowKit Go.Proofs.YtkcdcbiobkcpmaaDoorW.PrintWords
theorem rd_getD (l : List Int) (j : Int) : rd l j = l.getD j.toNat 0 := rfl
theorem get_set {n : Nat} {l : List Int} {i j v : Int} (h0 : 0 ≤ i) (h1 : i < n) (hj : 0 ≤ j) : Ar.get n (Ar.set n l i v) j = if j = i then v else Ar.get n l j := by
  have hl : (Ar.fit n l).length = n := Ar.fit_len n l
  have e : Ar.fit n (Ar.set n l i v) = Ar.set n l i v := Ar.fit_id (by simp [Ar.set, Ar.fit_len])
  unfold Ar.get
  rw [e]
  unfold Ar.set
  rw [rd_getD, rd_getD, List.getD_eq_getElem?_getD, List.getD_eq_getElem?_getD]
  by_cases h : j = i
  · subst h
    rw [if_pos rfl, List.getElem?_set_self (by omega)]
    rfl
  · rw [if_neg h, List.getElem?_set_ne (by omega)]
theorem get_zero (n : Nat) (j : Int) : Ar.get n (List.replicate n 0) j = 0 := by
  unfold Ar.get
  rw [Ar.fit_id (by simp), rd_getD, List.getD_eq_getElem?_getD]
  by_cases h : j.toNat < n
  · rw [List.getElem?_replicate_of_lt h]; rfl
  · rw [List.getElem?_eq_none (by simp; omega)]; rfl
theorem eqb_self (n : Nat) (a : List Int) : Ar.eqb n a a = true := by unfold Ar.eqb; exact beq_self_eq_true _
theorem part4 {m o : Nat} (l : List Int) (h : o + 4 ≤ m) : Ar.part m l o 4 = [Ar.get m l o, Ar.get m l (o + 1), Ar.get m l (o + 2), Ar.get m l (o + 3)] := by
  have hl : (Ar.fit m l).length = m := Ar.fit_len m l
  unfold Ar.part Ar.get
  rw [drop_step (n := o) (by omega), drop_step (n := o + 1) (by omega), drop_step (n := o + 2) (by omega), drop_step (n := o + 3) (by omega)]
  simp only [List.take_succ_cons, List.take_zero]
  rfl
def InR (n : Nat) (b : Int) (l : List Int) : Prop := ∀ j, 0 ≤ Ar.get n l j ∧ Ar.get n l j < b
theorem get_neg {n : Nat} (l : List Int) {j : Int} (h : j ≤ 0) : Ar.get n l j = Ar.get n l 0 := by
  unfold Ar.get
  rw [rd_getD, rd_getD, show j.toNat = (0 : Int).toNat by omega]
theorem InR.zero (n : Nat) {b : Int} (hb : 0 < b) : InR n b (List.replicate n 0) := fun j => by rw [get_zero]; omega
theorem InR.of_mem {n : Nat} {b : Int} {l : List Int} (hb : 0 < b) (hl : l.length = n) (h : ∀ x ∈ l, 0 ≤ x ∧ x < b) : InR n b l := fun j => by
  unfold Ar.get
  rw [Ar.fit_id hl, rd_getD, List.getD_eq_getElem?_getD]
  by_cases hj : j.toNat < l.length
  · rw [List.getElem?_eq_getElem hj]; exact h _ (List.getElem_mem hj)
  · rw [List.getElem?_eq_none (by omega)]; exact ⟨Int.le_refl _, hb⟩
theorem InR.set {n : Nat} {b : Int} {l : List Int} {i v : Int} (h : InR n b l) (h0 : 0 ≤ i) (h1 : i < n) (hv : 0 ≤ v ∧ v < b) : InR n b (Ar.set n l i v) := fun j => by
  by_cases hj : 0 ≤ j
  · rw [get_set h0 h1 hj]
    split
    · exact hv
    · exact h j
  · rw [get_neg _ (by omega), get_set h0 h1 (by omega)]
    split
    · exact hv
    · exact h 0
theorem get_putAll {n : Nat} : ∀ (vs l : List Int) (o : Nat) (j : Int), 0 ≤ j → o + vs.length ≤ n → Ar.get n (Ar.putAll n l o vs) j = if (o : Int) ≤ j ∧ j < o + vs.length then rd vs (j - o) else Ar.get n l j
  | [], l, o, j, _, _ => by
    rw [if_neg (by simp only [List.length_nil]; omega)]
    rfl
  | v :: r, l, o, j, hj, hn => by
    simp only [List.length_cons] at hn ⊢
    rw [Ar.putAll, get_putAll r _ (o + 1) j hj (by omega), get_set (by omega) (by omega) hj]
    by_cases h1 : ((o + 1 : Nat) : Int) ≤ j ∧ j < ((o + 1 : Nat) : Int) + (r.length : Int)
    · rw [if_pos h1, if_pos (by omega)]
      rw [rd_getD, rd_getD, show (j - (o : Int)).toNat = (j - ((o + 1 : Nat) : Int)).toNat + 1 by omega]
      rfl
    · rw [if_neg h1]
      by_cases h2 : j = o
      · subst h2
        rw [if_pos rfl, if_pos (by omega), rd_getD, show ((o : Int) - (o : Int)).toNat = 0 by omega]
        rfl
      · rw [if_neg h2, if_neg (by omega)]
theorem InR.putAll {n : Nat} {b : Int} {l vs : List Int} {o : Nat} (h : InR n b l) (hn : o + vs.length ≤ n) (hv : ∀ x ∈ vs, 0 ≤ x ∧ x < b) : InR n b (Ar.putAll n l o vs) := by
  have key : ∀ j : Int, 0 ≤ j → 0 ≤ Ar.get n (Ar.putAll n l o vs) j ∧ Ar.get n (Ar.putAll n l o vs) j < b := fun j hj => by
    rw [get_putAll vs l o j hj hn]
    split
    · rename_i hc
      obtain ⟨hlt, e⟩ := rd_lt (l := vs) (i := j - o) (by omega) (by omega)
      rw [e]
      exact hv _ (List.getElem_mem _)
    · exact h j
  intro j
  by_cases hj : 0 ≤ j
  · exact key j hj
  · rw [get_neg _ (by omega)]; exact key 0 (by omega)
end Go.Proofs.YtkcdcbiobkcpmaaDoor.Lm
end
section
namespace Go.Proofs.YtkcdcbiobkcpmaaDoor.Lm
open Go.RowKit Go.Proofs.YtkcdcbiobkcpmaaDoor.PA Go.Proofs.YtkcdcbiobkcpmaaDoorW.PrintWords Go.Proofs.YtkcdcbiobkcpmaaDoorW.PrintLast Go.Proofs.YtkcdcbiobkcpmaaDoorW.PrintMore
def sig (x : Int) (a b c : Nat) : Int := Go.bits .xor .u32 (Go.bits .xor .u32 (rotF x a) (rotF x b)) (x / 2 ^ c)
theorem bits_range (op : BinOp) (x y : Int) : 0 ≤ Go.bits op .u32 x y ∧ Go.bits op .u32 x y < 4294967296 := by
  unfold Go.bits
  simp only [u32w]
  omega
theorem First_ok {x : Int} (h0 : 0 ≤ x) (h1 : x < 4294967296) : plan_First.f x = some (sig x 7 18 3) := by
  unfold plan_First.f plan_mix.f
  rw [rotate_ok h0 h1, bs, rotate_ok h0 h1, bs, right_ok (by omega) (by omega), bs, bs]
  rfl
theorem Second_ok {x : Int} (h0 : 0 ≤ x) (h1 : x < 4294967296) : plan_Second.f x = some (sig x 17 19 10) := by
  unfold plan_Second.f plan_mix.f
  rw [rotate_ok h0 h1, bs, rotate_ok h0 h1, bs, right_ok (by omega) (by omega), bs, bs]
  rfl
def word4 (b : List Int) (i : Int) : Int := ((Ar.get 64 b (4 * i) * 256 + Ar.get 64 b (4 * i + 1)) * 256 + Ar.get 64 b (4 * i + 2)) * 256 + Ar.get 64 b (4 * i + 3)
theorem word4_range {b : List Int} (hb : InR 64 256 b) (i : Int) : 0 ≤ word4 b i ∧ word4 b i < 4294967296 := by
  have h0 := hb (4 * i); have h1 := hb (4 * i + 1); have h2 := hb (4 * i + 2); have h3 := hb (4 * i + 3)
  unfold word4
  omega
def next (w : List Int) (i : Int) : Int := (((sig (Ar.get 64 w (i - 2)) 17 19 10 + Ar.get 64 w (i - 7)) % 4294967296 + sig (Ar.get 64 w (i - 15)) 7 18 3) % 4294967296 + Ar.get 64 w (i - 16)) % 4294967296
def Good (b w : List Int) (j : Int) : Prop := (j < 16 → Ar.get 64 w j = word4 b j) ∧ (16 ≤ j → Ar.get 64 w j = next w j)
theorem next_keep {w : List Int} {i j v : Int} (h0 : 0 ≤ i) (h1 : i < 64) (hj : 16 ≤ j) (hji : j ≤ i) : next (Ar.set 64 w i v) j = next w j := by
  unfold next
  rw [get_set h0 h1 (by omega), get_set h0 h1 (by omega), get_set h0 h1 (by omega), get_set h0 h1 (by omega), if_neg (by omega), if_neg (by omega), if_neg (by omega), if_neg (by omega)]
theorem Good.keep {b w : List Int} {i j v : Int} (h0 : 0 ≤ i) (h1 : i < 64) (hj : 0 ≤ j) (hji : j < i) (h : Good b w j) : Good b (Ar.set 64 w i v) j := by
  refine ⟨fun hc => ?_, fun hc => ?_⟩
  · rw [get_set h0 h1 hj, if_neg (by omega)]; exact h.1 hc
  · rw [get_set h0 h1 hj, if_neg (by omega), next_keep h0 h1 hc (by omega)]; exact h.2 hc
theorem of_loop (b : List Int) (hb : InR 64 256 b) : ∀ (d k i : Nat) (w : List Int), i + d = 64 → d + 10 ≤ k → InR 64 4294967296 w → (∀ j : Int, 0 ≤ j → j < i → Good b w j) →
    ∃ w', plan_Of.l0 k i b w = some w' ∧ InR 64 4294967296 w' ∧ ∀ j : Int, 0 ≤ j → j < 64 → Good b w' j
  | 0, k, i, w, hi, hk, hw, hg => by
    obtain ⟨k, rfl⟩ : ∃ m, k = m + 1 := ⟨k - 1, by omega⟩
    refine ⟨w, ?_, hw, fun j h0 h1 => hg j h0 (by omega)⟩
    simp only [plan_Of.l0]
    rw [if_neg (by omega)]
  | d + 1, k, i, w, hi, hk, hw, hg => by
    obtain ⟨k, rfl⟩ : ∃ m, k = m + 1 := ⟨k - 1, by omega⟩
    have e4 : wrap64 (4 * (i : Int)) = 4 * i := w64_id (by omega) (by omega)
    have e1 : wrap64 ((i : Int) + 1) = ((i + 1 : Nat) : Int) := by rw [w64_id (by omega) (by omega)]; omega
    by_cases hc : i < 16
    · have e44 : wrap64 (4 * (i : Int) + 4) = 4 * i + 4 := w64_id (by omega) (by omega)
      have hp : Ar.part 64 b (4 * (i : Int)).toNat 4 = [Ar.get 64 b (4 * (i : Int)), Ar.get 64 b (4 * (i : Int) + 1), Ar.get 64 b (4 * (i : Int) + 2), Ar.get 64 b (4 * (i : Int) + 3)] := by
        rw [part4 b (o := (4 * (i : Int)).toNat) (by omega), show ((4 * (i : Int)).toNat : Int) = 4 * i by omega]
      have h32 : word_Get32.f k (Ar.part 64 b (4 * (i : Int)).toNat 4) = some (word4 b i) := by
        rw [hp, get32_ok k (by omega) _ _ _ _ (by simp only [List.mem_cons, List.not_mem_nil, or_false, forall_eq_or_imp, forall_eq]; exact ⟨hb _, hb _, hb _, hb _⟩)]
        rfl
      obtain ⟨w', h', hr, hg'⟩ := of_loop b hb d k (i + 1) (Ar.set 64 w i (word4 b i)) (by omega) (by omega) (hw.set (by omega) (by omega) (word4_range hb i)) (fun j h0 h1 => by
        by_cases hji : j = i
        · subst hji
          refine ⟨fun _ => ?_, fun h => by omega⟩
          rw [get_set (by omega) (by omega) (by omega), if_pos rfl]
        · exact (hg j h0 (by omega)).keep (by omega) (by omega) h0 (by omega))
      refine ⟨w', ?_, hr, hg'⟩
      simp only [plan_Of.l0]
      rw [if_pos (by omega), e4, if_pos (by omega), if_pos (by omega), e44, if_pos (by omega), if_pos (by omega), if_pos (by omega), h32, bs, if_pos (by omega), e1]
      exact h'
    · have e2 : wrap64 ((i : Int) - 2) = i - 2 := w64_id (by omega) (by omega)
      have e7 : wrap64 ((i : Int) - 7) = i - 7 := w64_id (by omega) (by omega)
      have e15 : wrap64 ((i : Int) - 15) = i - 15 := w64_id (by omega) (by omega)
      have e16 : wrap64 ((i : Int) - 16) = i - 16 := w64_id (by omega) (by omega)
      have hn : 0 ≤ next w i ∧ next w i < 4294967296 := by unfold next; omega
      obtain ⟨w', h', hr, hg'⟩ := of_loop b hb d k (i + 1) (Ar.set 64 w i (next w i)) (by omega) (by omega) (hw.set (by omega) (by omega) hn) (fun j h0 h1 => by
        by_cases hji : j = i
        · subst hji
          refine ⟨fun h => by omega, fun _ => ?_⟩
          rw [get_set (by omega) (by omega) (by omega), if_pos rfl, next_keep (by omega) (by omega) (by omega) (by omega)]
        · exact (hg j h0 (by omega)).keep (by omega) (by omega) h0 (by omega))
      refine ⟨w', ?_, hr, hg'⟩
      simp only [plan_Of.l0]
      rw [if_pos (by omega), e4, if_neg (by omega), e2, if_pos (by omega), if_pos (by omega), Second_ok (hw _).1 (hw _).2, bs, e7, if_pos (by omega), if_pos (by omega), e15, if_pos (by omega), if_pos (by omega), First_ok (hw _).1 (hw _).2, bs, e16, if_pos (by omega), if_pos (by omega), if_pos (by omega), e1]
      exact h'
theorem Of_ok {b : List Int} (hb : InR 64 256 b) {k : Nat} (hk : 80 ≤ k) : ∃ w, plan_Of.f k b = some w ∧ InR 64 4294967296 w ∧ ∀ j : Int, 0 ≤ j → j < 64 → Good b w j := by
  unfold plan_Of.f
  exact of_loop b hb 64 k 0 _ (by omega) (by omega) (InR.zero 64 (by decide)) (fun j h0 h1 => by omega)
end Go.Proofs.YtkcdcbiobkcpmaaDoor.Lm
end
section
namespace Go.Proofs.YtkcdcbiobkcpmaaDoor.Lm
open Go.RowKit Go.Proofs.YtkcdcbiobkcpmaaDoor.PA Go.Proofs.YtkcdcbiobkcpmaaDoorW.PrintWords Go.Proofs.YtkcdcbiobkcpmaaDoorW.PrintLast Go.Proofs.YtkcdcbiobkcpmaaDoorW.PrintMore
theorem bv_wrap (z : BitVec IntKind.u32.bits) : BitVec.ofInt IntKind.u32.bits (IntKind.u32.wrap (z.toNat : Int)) = z := by
  have h : (z.toNat : Int) < 4294967296 := by have := z.isLt; have e : 2 ^ IntKind.u32.bits = 4294967296 := rfl; omega
  rw [u32w, Int.emod_eq_of_lt (by omega) h, BitVec.ofInt_natCast, BitVec.ofNat_toNat, BitVec.setWidth_eq]
theorem bv_and (x y : Int) : BitVec.ofInt IntKind.u32.bits (Go.bits .and .u32 x y) = BitVec.ofInt IntKind.u32.bits x &&& BitVec.ofInt IntKind.u32.bits y := bv_wrap _
theorem bv_or (x y : Int) : BitVec.ofInt IntKind.u32.bits (Go.bits .or .u32 x y) = BitVec.ofInt IntKind.u32.bits x ||| BitVec.ofInt IntKind.u32.bits y := bv_wrap _
theorem bv_xor (x y : Int) : BitVec.ofInt IntKind.u32.bits (Go.bits .xor .u32 x y) = BitVec.ofInt IntKind.u32.bits x ^^^ BitVec.ofInt IntKind.u32.bits y := bv_wrap _
theorem xor_or {x y : Int} (h : BitVec.ofInt IntKind.u32.bits x ^^^ BitVec.ofInt IntKind.u32.bits y = BitVec.ofInt IntKind.u32.bits x ||| BitVec.ofInt IntKind.u32.bits y) : Go.bits .xor .u32 x y = Go.bits .or .u32 x y := by
  unfold Go.bits
  simp only [h]
theorem not_sub {e : Int} (h0 : 0 ≤ e) (h1 : e < 4294967296) : Go.bits .xor .u32 4294967295 e = (4294967295 - e) % 4294967296 := by
  have ha : BitVec.ofInt IntKind.u32.bits 4294967295 = BitVec.allOnes IntKind.u32.bits := by decide
  unfold Go.bits
  simp only [ha, BitVec.allOnes_xor, BitVec.toNat_not, u32w]
  have e2 : (BitVec.ofInt IntKind.u32.bits e).toNat = e.toNat := by
    rw [BitVec.toNat_ofInt]
    have : ((2 ^ IntKind.u32.bits : Nat) : Int) = 4294967296 := rfl
    rw [this, Int.emod_eq_of_lt h0 h1]
  rw [e2]
  have e3 : 2 ^ IntKind.u32.bits = 4294967296 := rfl
  omega
def rot3 (x : Int) (a b c : Nat) : Int := Go.bits .xor .u32 (Go.bits .xor .u32 (rotF x a) (rotF x b)) (rotF x c)
def chF (e f g : Int) : Int := Go.bits .or .u32 (Go.bits .and .u32 e f) (Go.bits .and .u32 ((4294967295 - e) % 4294967296) g)
def majF (a b c : Int) : Int := Go.bits .or .u32 (Go.bits .or .u32 (Go.bits .and .u32 a b) (Go.bits .and .u32 a c)) (Go.bits .and .u32 b c)
theorem ch_eq {e f g : Int} (h0 : 0 ≤ e) (h1 : e < 4294967296) : Go.bits .xor .u32 (Go.bits .and .u32 e f) (Go.bits .and .u32 (Go.bits .xor .u32 4294967295 e) g) = chF e f g := by
  unfold chF
  rw [← not_sub h0 h1]
  refine xor_or ?_
  simp only [bv_and, bv_xor]
  have ha : BitVec.ofInt IntKind.u32.bits 4294967295 = BitVec.allOnes IntKind.u32.bits := by decide
  rw [ha, BitVec.allOnes_xor]
  refine BitVec.eq_of_getLsbD_eq fun i hi => ?_
  simp only [BitVec.getLsbD_xor, BitVec.getLsbD_or, BitVec.getLsbD_and, BitVec.getLsbD_not, hi, decide_true, Bool.true_and]
  cases (BitVec.ofInt IntKind.u32.bits e).getLsbD i <;> cases (BitVec.ofInt IntKind.u32.bits f).getLsbD i <;> cases (BitVec.ofInt IntKind.u32.bits g).getLsbD i <;> rfl
theorem maj_eq (a b c : Int) : Go.bits .xor .u32 (Go.bits .xor .u32 (Go.bits .and .u32 a b) (Go.bits .and .u32 a c)) (Go.bits .and .u32 b c) = majF a b c := by
  have h : BitVec.ofInt IntKind.u32.bits (Go.bits .xor .u32 (Go.bits .xor .u32 (Go.bits .and .u32 a b) (Go.bits .and .u32 a c)) (Go.bits .and .u32 b c)) = BitVec.ofInt IntKind.u32.bits (majF a b c) := by
    unfold majF
    simp only [bv_and, bv_xor, bv_or]
    refine BitVec.eq_of_getLsbD_eq fun i hi => ?_
    simp only [BitVec.getLsbD_xor, BitVec.getLsbD_or, BitVec.getLsbD_and]
    cases (BitVec.ofInt IntKind.u32.bits a).getLsbD i <;> cases (BitVec.ofInt IntKind.u32.bits b).getLsbD i <;> cases (BitVec.ofInt IntKind.u32.bits c).getLsbD i <;> rfl
  have h2 := congrArg BitVec.toNat h
  rw [BitVec.toNat_ofInt, BitVec.toNat_ofInt] at h2
  have e3 : ((2 ^ IntKind.u32.bits : Nat) : Int) = 4294967296 := rfl
  rw [e3] at h2
  have r1 := bits_range .xor (Go.bits .xor .u32 (Go.bits .and .u32 a b) (Go.bits .and .u32 a c)) (Go.bits .and .u32 b c)
  have r2 : 0 ≤ majF a b c ∧ majF a b c < 4294967296 := bits_range _ _ _
  rw [Int.emod_eq_of_lt r1.1 r1.2, Int.emod_eq_of_lt r2.1 r2.2] at h2
  omega
def lowF (e f g : Int) : Int := (rot3 e 6 11 25 + chF e f g) % 4294967296
def highF (a b c : Int) : Int := (rot3 a 2 13 22 + majF a b c) % 4294967296
theorem mix_ok {x : Int} (h0 : 0 ≤ x) (h1 : x < 4294967296) (a b c : Nat) (ha : a < 32) (hb : b < 32) (hc : c < 32) : comp_mix.f x a b c = some (rot3 x a b c) := by
  unfold comp_mix.f
  rw [rotate_ok h0 h1, bs, rotate_ok h0 h1, bs, rotate_ok h0 h1, bs, show ((a : Int) % 32).toNat = a by omega, show ((b : Int) % 32).toNat = b by omega, show ((c : Int) % 32).toNat = c by omega]
  rfl
theorem low_ok {e f g : Int} (h0 : 0 ≤ e) (h1 : e < 4294967296) : comp_low.f e f g = some (lowF e f g) := by
  unfold comp_low.f
  have := mix_ok h0 h1 6 11 25 (by decide) (by decide) (by decide)
  rw [show comp_mix.f e 6 11 25 = some (rot3 e 6 11 25) from this, bs, ch_eq h0 h1]
  rfl
theorem high_ok {a b c : Int} (h0 : 0 ≤ a) (h1 : a < 4294967296) : comp_high.f a b c = some (highF a b c) := by
  unfold comp_high.f
  have := mix_ok h0 h1 2 13 22 (by decide) (by decide) (by decide)
  rw [show comp_mix.f a 2 13 22 = some (rot3 a 2 13 22) from this, bs, maj_eq]
  rfl
theorem part7 (l : List Int) (o : Nat) (h : o + 7 ≤ 8) : Ar.part 8 l o 7 = [Ar.get 8 l o, Ar.get 8 l (o + 1 : Nat), Ar.get 8 l (o + 2 : Nat), Ar.get 8 l (o + 3 : Nat), Ar.get 8 l (o + 4 : Nat), Ar.get 8 l (o + 5 : Nat), Ar.get 8 l (o + 6 : Nat)] := by
  have hl : (Ar.fit 8 l).length = 8 := Ar.fit_len 8 l
  unfold Ar.part Ar.get
  rw [drop_step (n := o) (by omega), drop_step (n := o + 1) (by omega), drop_step (n := o + 1 + 1) (by omega), drop_step (n := o + 1 + 1 + 1) (by omega), drop_step (n := o + 1 + 1 + 1 + 1) (by omega), drop_step (n := o + 1 + 1 + 1 + 1 + 1) (by omega), drop_step (n := o + 1 + 1 + 1 + 1 + 1 + 1) (by omega)]
  simp only [List.take_succ_cons, List.take_zero]
theorem part7_0 (l : List Int) : Ar.part 8 l 0 7 = [Ar.get 8 l 0, Ar.get 8 l 1, Ar.get 8 l 2, Ar.get 8 l 3, Ar.get 8 l 4, Ar.get 8 l 5, Ar.get 8 l 6] := by
  have h := part7 l 0 (by omega)
  simpa only [Nat.zero_add, Int.cast_ofNat_Int] using h
theorem lay1 (a b c d e f g : Int) : Ar.putAll 8 (List.replicate 8 0) 1 [a, b, c, d, e, f, g] = [0, a, b, c, d, e, f, g] := by simp [Ar.putAll, Ar.set, Ar.fit, List.replicate]
theorem set0 (x a b c d e f g h : Int) : Ar.set 8 [a, b, c, d, e, f, g, h] 0 x = [x, b, c, d, e, f, g, h] := rfl
theorem set4 (x a b c d e f g h : Int) : Ar.set 8 [a, b, c, d, e, f, g, h] 4 x = [a, b, c, d, x, f, g, h] := rfl
theorem get8_4 (a b c d e f g h : Int) : Ar.get 8 [a, b, c, d, e, f, g, h] 4 = e := rfl
def tee (s : List Int) (w k : Int) : Int := (((Ar.get 8 s 7 + lowF (Ar.get 8 s 4) (Ar.get 8 s 5) (Ar.get 8 s 6)) % 4294967296 + k) % 4294967296 + w) % 4294967296
def rnd (s : List Int) (w k : Int) : List Int := [(tee s w k + highF (Ar.get 8 s 0) (Ar.get 8 s 1) (Ar.get 8 s 2)) % 4294967296, Ar.get 8 s 0, Ar.get 8 s 1, Ar.get 8 s 2, (Ar.get 8 s 3 + tee s w k) % 4294967296, Ar.get 8 s 4, Ar.get 8 s 5, Ar.get 8 s 6]
def off (s : List Int) : Int := (Ar.get 8 s 0 - highF (Ar.get 8 s 1) (Ar.get 8 s 2) (Ar.get 8 s 3)) % 4294967296
theorem Round_ok {s : List Int} (hs : InR 8 4294967296 s) (w k : Int) : comp_Round.f s w k = some (rnd s w k) := by
  unfold comp_Round.f
  rw [low_ok (hs 4).1 (hs 4).2, bs, high_ok (hs 0).1 (hs 0).2, bs, bs, part7_0, lay1, set0, get8_4, set4]
  rfl
theorem InR.lit {a b c d e f g h : Int} (H : ∀ x ∈ [a, b, c, d, e, f, g, h], 0 ≤ x ∧ x < 4294967296) : InR 8 4294967296 [a, b, c, d, e, f, g, h] := InR.of_mem (by decide) rfl H
theorem rnd_in {s : List Int} (hs : InR 8 4294967296 s) (w k : Int) : InR 8 4294967296 (rnd s w k) := by
  refine InR.lit ?_
  simp only [List.mem_cons, List.not_mem_nil, or_false, forall_eq_or_imp, forall_eq]
  exact ⟨by omega, hs 0, hs 1, hs 2, by omega, hs 4, hs 5, hs 6⟩
end Go.Proofs.YtkcdcbiobkcpmaaDoor.Lm
end
section
namespace Go.Proofs.YtkcdcbiobkcpmaaDoor.Lm
open Go.RowKit Go.Proofs.YtkcdcbiobkcpmaaDoor.PA Go.Proofs.YtkcdcbiobkcpmaaDoorW.PrintWords Go.Proofs.YtkcdcbiobkcpmaaDoorW.PrintLast Go.Proofs.YtkcdcbiobkcpmaaDoorW.PrintMore
theorem r01get32_step (k : Nat) (acc : Int) (l : List Int) (i : Nat) (hi : i < 4) (ha0 : 0 ≤ acc) (ha1 : acc < 256 ^ i) (hb : 0 ≤ Ar.get 4 l i ∧ Ar.get 4 l i < 256) : drawlotref01_Get32.l0 (k + 1) acc i l = drawlotref01_Get32.l0 k (acc * 256 + Ar.get 4 l i) ((i + 1 : Nat) : Int) l := by
  have e4 : wrap64 ((i : Int) + 1) = ((i + 1 : Nat) : Int) := by rw [w64_id (by omega) (by omega)]; omega
  have hlt : acc < 16777216 := by
    rcases (show i = 0 ∨ i = 1 ∨ i = 2 ∨ i = 3 by omega) with rfl | rfl | rfl | rfl <;> simp at ha1 <;> omega
  have e1 : (acc * 256 % 4294967296 + Ar.get 4 l i % 4294967296) % 4294967296 = acc * 256 + Ar.get 4 l i := by omega
  rw [drawlotref01_Get32.l0, if_pos (by omega), if_pos (by omega), e1, e4]
theorem r01get32_ok (k : Nat) (hk : 5 ≤ k) (b0 b1 b2 b3 : Int) (h : ∀ b ∈ [b0, b1, b2, b3], 0 ≤ b ∧ b < 256) : drawlotref01_Get32.f k [b0, b1, b2, b3] = some (((b0 * 256 + b1) * 256 + b2) * 256 + b3) := by
  obtain ⟨k, rfl⟩ : ∃ m, k = m + 5 := ⟨k - 5, by omega⟩
  simp only [List.mem_cons, List.not_mem_nil, or_false, forall_eq_or_imp, forall_eq] at h
  obtain ⟨h0, h1, h2, h3⟩ := h
  unfold drawlotref01_Get32.f
  have s := fun k acc i hi => r01get32_step k acc [b0, b1, b2, b3] i hi
  have hz := s (k + 4) 0 0 (by decide) (by decide) (by decide) h0
  have z : (0 : Int) * 256 + Ar.get 4 [b0, b1, b2, b3] (0 : Nat) = b0 := by show (0 : Int) * 256 + b0 = b0; omega
  rw [z] at hz
  refine Eq.trans hz ?_
  rw [s _ _ 1 (by decide) (by omega) (by show b0 < 256; omega) h1]
  show drawlotref01_Get32.l0 _ (b0 * 256 + b1) _ _ = _
  rw [s _ _ 2 (by decide) (by omega) (by show _ < (65536 : Int); omega) h2]
  show drawlotref01_Get32.l0 _ ((b0 * 256 + b1) * 256 + b2) _ _ = _
  rw [s _ _ 3 (by decide) (by omega) (by show _ < (16777216 : Int); omega) h3]
  show drawlotref01_Get32.l0 _ (((b0 * 256 + b1) * 256 + b2) * 256 + b3) _ _ = _
  rw [drawlotref01_Get32.l0, if_neg (by decide)]
end Go.Proofs.YtkcdcbiobkcpmaaDoor.Lm
end
section
namespace Go.Proofs.YtkcdcbiobkcpmaaDoor.Lm
open Go.RowKit Go.Proofs.YtkcdcbiobkcpmaaDoor.PA Go.Proofs.YtkcdcbiobkcpmaaDoorW.PrintWords Go.Proofs.YtkcdcbiobkcpmaaDoorW.PrintLast
theorem r03First {x : Int} (h0 : 0 ≤ x) (h1 : x < 4294967296) {k : Nat} (hk : 50 ≤ k) : drawlotref03_First.f k x = some (sig x 7 18 3) := by
  unfold drawlotref03_First.f
  rw [r01rotate_ok (by omega) h0 h1 (by omega) (by omega), bs, r01rotate_ok (by omega) h0 h1 (by omega) (by omega), bs, r01right_ok (by omega) h0 h1 (by omega) (by omega), bs]
  rfl
theorem r03Second {x : Int} (h0 : 0 ≤ x) (h1 : x < 4294967296) {k : Nat} (hk : 50 ≤ k) : drawlotref03_Second.f k x = some (sig x 17 19 10) := by
  unfold drawlotref03_Second.f
  rw [r01rotate_ok (by omega) h0 h1 (by omega) (by omega), bs, r01rotate_ok (by omega) h0 h1 (by omega) (by omega), bs, r01right_ok (by omega) h0 h1 (by omega) (by omega), bs]
  rfl
theorem r03of1 (b : List Int) : ∀ (d k i : Nat) (w : List Int), 16 ≤ i → i + d = 64 → d + 60 ≤ k → InR 64 4294967296 w → (∀ j : Int, 0 ≤ j → j < i → Lm.Good b w j) →
    ∃ w', drawlotref03_Of.l1 k i w = some w' ∧ ∀ j : Int, 0 ≤ j → j < 64 → Lm.Good b w' j
  | 0, k, i, w, h16, hi, hk, hw, hg => by
    obtain ⟨k, rfl⟩ : ∃ m, k = m + 1 := ⟨k - 1, by omega⟩
    refine ⟨w, ?_, fun j h0 h1 => hg j h0 (by omega)⟩
    simp only [drawlotref03_Of.l1]
    rw [if_neg (by omega)]
  | d + 1, k, i, w, h16, hi, hk, hw, hg => by
    obtain ⟨k, rfl⟩ : ∃ m, k = m + 1 := ⟨k - 1, by omega⟩
    have e1 : wrap64 ((i : Int) + 1) = ((i + 1 : Nat) : Int) := by rw [w64_id (by omega) (by omega)]; omega
    have e2 : wrap64 ((i : Int) - 2) = i - 2 := w64_id (by omega) (by omega)
    have e7 : wrap64 ((i : Int) - 7) = i - 7 := w64_id (by omega) (by omega)
    have e15 : wrap64 ((i : Int) - 15) = i - 15 := w64_id (by omega) (by omega)
    have e16 : wrap64 ((i : Int) - 16) = i - 16 := w64_id (by omega) (by omega)
    have hn : 0 ≤ next w i ∧ next w i < 4294967296 := by unfold next; omega
    obtain ⟨w', h', hg'⟩ := r03of1 b d k (i + 1) (Ar.set 64 w i (next w i)) (by omega) (by omega) (by omega) (hw.set (by omega) (by omega) hn) (fun j h0 h1 => by
      by_cases hji : j = i
      · subst hji
        refine ⟨fun h => by omega, fun _ => ?_⟩
        rw [get_set (by omega) (by omega) (by omega), if_pos rfl, next_keep (by omega) (by omega) (by omega) (by omega)]
      · exact (hg j h0 (by omega)).keep (by omega) (by omega) h0 (by omega))
    refine ⟨w', ?_, hg'⟩
    simp only [drawlotref03_Of.l1]
    rw [if_pos (by omega), e2, if_pos (by omega), if_pos (by omega), r03Second (hw _).1 (hw _).2 (by omega), bs, e7, if_pos (by omega), if_pos (by omega), e15, if_pos (by omega), if_pos (by omega), r03First (hw _).1 (hw _).2 (by omega), bs, e16, if_pos (by omega), if_pos (by omega), if_pos (by omega), e1]
    exact h'
theorem r03of0 (b : List Int) (hb : InR 64 256 b) : ∀ (d k i : Nat) (w : List Int), i + d = 16 → d + 120 ≤ k → InR 64 4294967296 w → (∀ j : Int, 0 ≤ j → j < i → Lm.Good b w j) →
    ∃ w', drawlotref03_Of.l0 k i b w = some w' ∧ ∀ j : Int, 0 ≤ j → j < 64 → Lm.Good b w' j
  | 0, k, i, w, hi, hk, hw, hg => by
    obtain ⟨k, rfl⟩ : ∃ m, k = m + 1 := ⟨k - 1, by omega⟩
    simp only [drawlotref03_Of.l0]
    rw [if_neg (by omega)]
    exact r03of1 b 48 k 16 w (by omega) (by omega) (by omega) hw (fun j h0 h1 => hg j h0 (by omega))
  | d + 1, k, i, w, hi, hk, hw, hg => by
    obtain ⟨k, rfl⟩ : ∃ m, k = m + 1 := ⟨k - 1, by omega⟩
    have e4 : wrap64 (4 * (i : Int)) = 4 * i := w64_id (by omega) (by omega)
    have e41 : wrap64 (4 * (i : Int) + 1) = 4 * i + 1 := w64_id (by omega) (by omega)
    have e42 : wrap64 (4 * (i : Int) + 2) = 4 * i + 2 := w64_id (by omega) (by omega)
    have e43 : wrap64 (4 * (i : Int) + 3) = 4 * i + 3 := w64_id (by omega) (by omega)
    have e1 : wrap64 ((i : Int) + 1) = ((i + 1 : Nat) : Int) := by rw [w64_id (by omega) (by omega)]; omega
    have h32 : drawlotref01_Get32.f k [Ar.get 64 b (4 * (i : Int)), Ar.get 64 b (4 * (i : Int) + 1), Ar.get 64 b (4 * (i : Int) + 2), Ar.get 64 b (4 * (i : Int) + 3)] = some (word4 b i) := by
      rw [r01get32_ok k (by omega) _ _ _ _ (by simp only [List.mem_cons, List.not_mem_nil, or_false, forall_eq_or_imp, forall_eq]; exact ⟨hb _, hb _, hb _, hb _⟩)]
      rfl
    obtain ⟨w', h', hg'⟩ := r03of0 b hb d k (i + 1) (Ar.set 64 w i (word4 b i)) (by omega) (by omega) (hw.set (by omega) (by omega) (word4_range hb i)) (fun j h0 h1 => by
      by_cases hji : j = i
      · subst hji
        refine ⟨fun _ => ?_, fun h => by omega⟩
        rw [get_set (by omega) (by omega) (by omega), if_pos rfl]
      · exact (hg j h0 (by omega)).keep (by omega) (by omega) h0 (by omega))
    refine ⟨w', ?_, hg'⟩
    simp only [drawlotref03_Of.l0]
    rw [if_pos (by omega), e4, if_pos (by omega), if_pos (by omega), e41, if_pos (by omega), if_pos (by omega), e42, if_pos (by omega), if_pos (by omega), e43, if_pos (by omega), if_pos (by omega), h32, bs, if_pos (by omega), if_pos (by omega), e1]
    exact h'
theorem plans_same {b w v : List Int} (hw : ∀ j : Int, 0 ≤ j → j < 64 → Lm.Good b w j) (hv : ∀ j : Int, 0 ≤ j → j < 64 → Lm.Good b v j) : ∀ (n : Nat) (j : Int), j < n → 0 ≤ j → j < 64 → Ar.get 64 w j = Ar.get 64 v j
  | 0, j, hn, h0, h1 => by omega
  | n + 1, j, hn, h0, h1 => by
    by_cases hc : j < 16
    · rw [(hw j h0 h1).1 hc, (hv j h0 h1).1 hc]
    · rw [(hw j h0 h1).2 (by omega), (hv j h0 h1).2 (by omega)]
      unfold next
      have ih := fun i (a : i < (n : Int)) (b : 0 ≤ i) (c : i < 64) => plans_same hw hv n i a b c
      rw [ih (j - 2) (by omega) (by omega) (by omega), ih (j - 7) (by omega) (by omega) (by omega), ih (j - 15) (by omega) (by omega) (by omega), ih (j - 16) (by omega) (by omega) (by omega)]
theorem turned_ok {x : Int} (h0 : 0 ≤ x) (h1 : x < 4294967296) {k : Nat} (hk : 50 ≤ k) (a b c : Nat) (ha : a < 32) (hb : b < 32) (hc : c < 32) : drawlotref04_turned.f k x a b c = some (rot3 x a b c) := by
  unfold drawlotref04_turned.f
  rw [r01rotate_ok (by omega) h0 h1 (by omega) (by omega), bs, r01rotate_ok (by omega) h0 h1 (by omega) (by omega), bs, r01rotate_ok (by omega) h0 h1 (by omega) (by omega), bs, show ((a : Int) % 32).toNat = a by omega, show ((b : Int) % 32).toNat = b by omega, show ((c : Int) % 32).toNat = c by omega]
  rfl
theorem r04Round {s : List Int} (hs : InR 8 4294967296 s) (w k : Int) {n : Nat} (hn : 50 ≤ n) : drawlotref04_Round.f n s w k = some (rnd s w k) := by
  unfold drawlotref04_Round.f
  have t1 := turned_ok (hs 4).1 (hs 4).2 hn 6 11 25 (by decide) (by decide) (by decide)
  have t2 := turned_ok (hs 0).1 (hs 0).2 hn 2 13 22 (by decide) (by decide) (by decide)
  rw [show drawlotref04_turned.f n (Ar.get 8 s 4) 6 11 25 = _ from t1, bs, show drawlotref04_choice.f (Ar.get 8 s 4) (Ar.get 8 s 5) (Ar.get 8 s 6) = some (chF (Ar.get 8 s 4) (Ar.get 8 s 5) (Ar.get 8 s 6)) from rfl, bs,
    show drawlotref04_turned.f n (Ar.get 8 s 0) 2 13 22 = _ from t2, bs, show drawlotref04_majority.f (Ar.get 8 s 0) (Ar.get 8 s 1) (Ar.get 8 s 2) = some (majF (Ar.get 8 s 0) (Ar.get 8 s 1) (Ar.get 8 s 2)) from rfl, bs]
  have e : ((((Ar.get 8 s 7 + rot3 (Ar.get 8 s 4) 6 11 25) % 4294967296 + chF (Ar.get 8 s 4) (Ar.get 8 s 5) (Ar.get 8 s 6)) % 4294967296 + k) % 4294967296 + w) % 4294967296 = tee s w k := by
    unfold tee lowF
    omega
  rw [e]
  rfl
def Cs : List Int := (comp_constants.f).getD []
theorem constants_ok : comp_constants.f = some Cs := rfl
theorem r04Constant {i : Int} (h0 : 0 ≤ i) (h1 : i < 64) : drawlotref04_Constant.f i = some (Ar.get 64 Cs i) := by
  unfold drawlotref04_Constant.f
  rw [if_neg (by omega), if_neg (by omega), if_pos (by omega), if_pos (by omega)]
  rfl
theorem take_end (a : List Int) : ∀ (d k i : Nat) (x : List Int), i + d = 8 → d < k → InR 8 4294967296 x → ∃ r, comp_Take.l1 k i a x = some r ∧ drawlotref04_Take.l1 k i a x = some r ∧ InR 8 4294967296 r
  | 0, k, i, x, hi, hk, hx => by
    obtain ⟨k, rfl⟩ : ∃ m, k = m + 1 := ⟨k - 1, by omega⟩
    refine ⟨x, ?_, ?_, hx⟩
    · simp only [comp_Take.l1]
      rw [if_neg (by omega)]
    · simp only [drawlotref04_Take.l1]
      rw [if_neg (by omega)]
  | d + 1, k, i, x, hi, hk, hx => by
    obtain ⟨k, rfl⟩ : ∃ m, k = m + 1 := ⟨k - 1, by omega⟩
    have e1 : wrap64 ((i : Int) + 1) = ((i + 1 : Nat) : Int) := by rw [w64_id (by omega) (by omega)]; omega
    obtain ⟨r, h1, h2, h3⟩ := take_end a d k (i + 1) (Ar.set 8 x i ((Ar.get 8 x i + Ar.get 8 a i) % 4294967296)) (by omega) (by omega) (hx.set (by omega) (by omega) (by omega))
    refine ⟨r, ?_, ?_, h3⟩
    · simp only [comp_Take.l1]
      rw [if_pos (by omega), if_pos (by omega), e1]
      exact h1
    · simp only [drawlotref04_Take.l1]
      rw [if_pos (by omega), if_pos (by omega), e1]
      exact h2
theorem take_loop (a w v : List Int) (hwv : ∀ j : Int, 0 ≤ j → j < 64 → Ar.get 64 w j = Ar.get 64 v j) : ∀ (d k i : Nat) (x : List Int), i + d = 64 → d + 60 ≤ k → InR 8 4294967296 x → ∃ r, comp_Take.l0 k w i a x Cs = some r ∧ drawlotref04_Take.l0 k i a v x = some r ∧ InR 8 4294967296 r
  | 0, k, i, x, hi, hk, hx => by
    obtain ⟨k, rfl⟩ : ∃ m, k = m + 1 := ⟨k - 1, by omega⟩
    obtain ⟨r, h1, h2, h3⟩ := take_end a 8 k 0 x (by omega) (by omega) hx
    refine ⟨r, ?_, ?_, h3⟩
    · simp only [comp_Take.l0]
      rw [if_neg (by omega)]
      exact h1
    · simp only [drawlotref04_Take.l0]
      rw [if_neg (by omega)]
      exact h2
  | d + 1, k, i, x, hi, hk, hx => by
    obtain ⟨k, rfl⟩ : ∃ m, k = m + 1 := ⟨k - 1, by omega⟩
    have e1 : wrap64 ((i : Int) + 1) = ((i + 1 : Nat) : Int) := by rw [w64_id (by omega) (by omega)]; omega
    obtain ⟨r, h1, h2, h3⟩ := take_loop a w v hwv d k (i + 1) (rnd x (Ar.get 64 w i) (Ar.get 64 Cs i)) (by omega) (by omega) (rnd_in hx _ _)
    refine ⟨r, ?_, ?_, h3⟩
    · simp only [comp_Take.l0]
      rw [if_pos (by omega), if_pos (by omega), Round_ok hx, bs, e1]
      exact h1
    · simp only [drawlotref04_Take.l0]
      rw [if_pos (by omega), if_pos (by omega), r04Constant (by omega) (by omega), bs, ← hwv i (by omega) (by omega), r04Round hx _ _ (by omega), bs, e1]
      exact h2
def tk (s b : List Int) : List Int := (comp_Take.f 200 s b).getD []
theorem tk_ok {s b : List Int} (hs : InR 8 4294967296 s) (hb : InR 64 256 b) {n : Nat} (hn : 200 ≤ n) : comp_Take.f n s b = some (tk s b) ∧ drawlotref04_Take.f n s b = some (tk s b) ∧ InR 8 4294967296 (tk s b) := by
  obtain ⟨w, ew, _, hw⟩ := Of_ok hb (k := 200) (by omega)
  obtain ⟨v, ev, hv⟩ := r03of0 b hb 16 200 0 _ (by omega) (by omega) (InR.zero 64 (by decide)) (fun j h0 h1 => by omega)
  obtain ⟨r, h1, h2, h3⟩ := take_loop s w v (fun j h0 h1 => plans_same hw hv 64 j (by omega) h0 h1) 64 200 0 s (by omega) (by omega) hs
  have t1 : comp_Take.f 200 s b = some r := by
    unfold comp_Take.f
    rw [constants_ok, bs, ew, bs]
    exact h1
  have t2 : drawlotref04_Take.f 200 s b = some r := by
    unfold drawlotref04_Take.f
    rw [show drawlotref03_Of.f 200 b = some v from ev, bs]
    exact h2
  have e : tk s b = r := by unfold tk; rw [t1]; rfl
  rw [e]
  exact ⟨at_rounds (g := fun k => comp_Take.f k s b) (fun k => comp_Take.mono s b k) (k := 200) (k' := n) hn t1, at_rounds (g := fun k => drawlotref04_Take.f k s b) (fun k => drawlotref04_Take.mono s b k) (k := 200) (k' := n) hn t2, h3⟩
end Go.Proofs.YtkcdcbiobkcpmaaDoor.Lm
end
section
namespace Go.Proofs.YtkcdcbiobkcpmaaDoor.Lm
open Go.RowKit Go.Proofs.YtkcdcbiobkcpmaaDoor.PA Go.Proofs.YtkcdcbiobkcpmaaDoorW.PrintWords Go.Proofs.YtkcdcbiobkcpmaaDoorW.PrintLast Go.Proofs.YtkcdcbiobkcpmaaDoorW.PrintMore
def be8 (x : Int) : List Int := [x / 72057594037927936 % 256, x / 281474976710656 % 256, x / 1099511627776 % 256, x / 4294967296 % 256, x / 16777216 % 256, x / 65536 % 256, x / 256 % 256, x % 256]
theorem be8_len (x : Int) : (be8 x).length = 8 := rfl
theorem be8_byte (x : Int) : ∀ y ∈ be8 x, 0 ≤ y ∧ y < 256 := by
  intro y hy
  simp only [be8, List.mem_cons, List.mem_nil_iff, or_false] at hy
  rcases hy with h | h | h | h | h | h | h | h <;> subst h <;> omega
theorem pput64_step (k : Nat) (x : Int) (i : Nat) (l : List Int) (hi : i < 8) : word_Put64.l0 (k + 1) x i l = word_Put64.l0 k x ((i + 1 : Nat) : Int) (Ar.set 8 l i (x / 2 ^ (8 * (7 - i)) % 256)) := by
  have e1 : wrap64 (7 - (i : Int)) = 7 - i := w64_id (by omega) (by omega)
  have e2 : wrap64 (8 * (7 - (i : Int))) = 8 * (7 - i) := w64_id (by omega) (by omega)
  have e3 : IntKind.u64.wrap (8 * (7 - (i : Int))) = 8 * (7 - i) := u64w_id (by omega) (by omega)
  have e4 : wrap64 ((i : Int) + 1) = ((i + 1 : Nat) : Int) := by rw [w64_id (by omega) (by omega)]; omega
  have e5 : shr .u64 x (8 * (7 - (i : Int))) = x / 2 ^ (8 * (7 - i)) := by
    unfold shr
    rw [show (8 * (7 - (i : Int))).toNat = 8 * (7 - i) by omega, Nat.min_eq_left (show 8 * (7 - i) ≤ IntKind.u64.bits by show _ ≤ 64; omega)]
  rw [word_Put64.l0, if_pos (by omega), e1, e2, e3, if_pos (by omega), if_pos (by omega), e4, e5]
theorem pput64_ok (k : Nat) (hk : 9 ≤ k) (x : Int) : word_Put64.f k x = some (be8 x) := by
  obtain ⟨k, rfl⟩ : ∃ m, k = m + 9 := ⟨k - 9, by omega⟩
  unfold word_Put64.f be8
  have s := fun k i l hi => pput64_step k x i l hi
  rw [show ((0 : Int)) = ((0 : Nat) : Int) from rfl, s _ 0 _ (by decide), s _ 1 _ (by decide), s _ 2 _ (by decide), s _ 3 _ (by decide), s _ 4 _ (by decide), s _ 5 _ (by decide), s _ 6 _ (by decide), s _ 7 _ (by decide), word_Put64.l0, if_neg (by decide)]
  simp [Ar.set, Ar.fit, List.set]
theorem pblocks_ok (a : Int) (h0 : 0 ≤ a) (_h1 : a < 18446744073709551616) : pad_Blocks.f a = some (if a ≥ 2305843009213693952 then 0 else (a + 72) / 64) := by
  unfold pad_Blocks.f
  by_cases h : a ≥ 2305843009213693952
  · rw [if_pos h, if_pos h]
  · rw [if_neg h, if_neg h, u64w_id (x := a + 8) (by omega) (by omega), u64w_id (x := a + 8 + 64) (by omega) (by omega), Int.tdiv_eq_ediv_of_nonneg (by omega), u64w_id (by omega) (by omega), show a + 8 + 64 = a + 72 by omega]
def zerosF (r : Nat) : Nat := if r ≤ 55 then 55 - r else 119 - r
def tailF (l : List Int) (n : Int) : List Int := l ++ 128 :: (List.replicate (zerosF l.length) 0 ++ be8 (IntKind.u64.wrap (n * 8)))
theorem pad_list (l : List Int) (S z : Nat) (h : S = l.length + 1 + z + 8) (x : List Int) (hx : x.length = 8) : ((l ++ List.replicate (S - l.length) 0).set l.length 128).take (S - 8) ++ Ar.fit 8 x = l ++ 128 :: (List.replicate z 0 ++ x) := by
  subst h
  rw [Ar.fit_id hx, show l.length + 1 + z + 8 - l.length = (z + 8) + 1 by omega, List.replicate_succ, List.set_append_right _ _ (Nat.le_refl _), Nat.sub_self, List.set_cons_zero, show l.length + 1 + z + 8 - 8 = l.length + (z + 1) by omega, List.take_append, List.take_of_length_le (by omega), show l.length + (z + 1) - l.length = z + 1 by omega, List.take_succ_cons, List.take_replicate, Nat.min_eq_left (by omega)]
  simp
theorem ptail_ok (k : Nat) (hk : 9 ≤ k) (l : List Int) (n : Int) (h0 : 0 ≤ n) (h1 : n < 18446744073709551616) (hl : l.length < 9223372036854775807) : pad_Tail.f k l n = some (if n ≥ 2305843009213693952 ∨ (l.length : Int) ≠ n % 64 then ([], false) else (tailF l n, true)) := by
  unfold pad_Tail.f
  by_cases h : n ≥ 2305843009213693952
  · rw [if_pos h, if_pos (Or.inl h)]
  · rw [if_neg h, u64w_id (x := (l.length : Int)) (by omega) (by omega), Int.tmod_eq_emod_of_nonneg h0]
    by_cases hr : (l.length : Int) = n % 64
    · rw [if_pos hr, if_neg (by simp; omega), pblocks_ok n h0 h1, bs, pput64_ok k hk, bs, if_neg h, Int.tdiv_eq_ediv_of_nonneg h0, u64w_id (x := n / 64) (by omega) (by omega), u64w_id (x := (n + 72) / 64 - n / 64) (by omega) (by omega), w64_id (x := (n + 72) / 64 - n / 64) (by omega) (by omega), w64_id (x := ((n + 72) / 64 - n / 64) * 64) (by omega) (by omega), if_pos (by omega)]
      rw [pad_list l _ (zerosF l.length) (by unfold zerosF; split <;> omega) _ (be8_len _)]
      rfl
    · rw [if_neg hr, if_pos (Or.inr hr)]
def cutF : Nat → List Int → List (List Int)
  | 0, _ => []
  | m + 1, b => b.take 64 :: cutF m (b.drop 64)
theorem cutF_len : ∀ (m : Nat) (b : List Int), (cutF m b).length = m
  | 0, _ => rfl
  | m + 1, b => by rw [cutF, List.length_cons, cutF_len]
theorem pcut_loop : ∀ (m k : Nat) (b : List Int) (out : List (List Int)), b.length / 64 = m → m < k → out.length + m < 1048576 → pad_Cut.l0 k b out = some (out ++ cutF m b, b.drop (64 * m))
  | 0, k + 1, b, out, h, _, _ => by
    rw [pad_Cut.l0, if_neg (by omega)]
    simp [cutF]
  | m + 1, k + 1, b, out, h, hk, ho => by
    rw [pad_Cut.l0, if_pos (by omega), if_pos (by omega), pcut_loop m k (b.drop 64) (out ++ [b.take 64]) (by rw [List.length_drop]; omega) (by omega) (by simp; omega), cutF, List.drop_drop, show 64 + 64 * m = 64 * (m + 1) by omega]
    simp
theorem pcut_ok (k : Nat) (l : List Int) (hk : l.length / 64 < k) (hl : l.length < 1000000) : pad_Cut.f k l = some (cutF (l.length / 64) l, l.drop (64 * (l.length / 64))) := by
  unfold pad_Cut.f
  rw [pcut_loop (l.length / 64) k l [] rfl hk (by simp; omega)]
  simp
def padF (l : List Int) : List Int := l ++ 128 :: (List.replicate (zerosF (l.length % 64)) 0 ++ be8 (l.length * 8))
theorem padF_len (l : List Int) : ((padF l).length : Int) = 64 * (((l.length : Int) + 72) / 64) := by
  unfold padF zerosF
  simp only [List.length_append, List.length_cons, List.length_replicate, be8_len]
  split <;> omega
theorem padF_byte {l : List Int} (h : ∀ x ∈ l, 0 ≤ x ∧ x < 256) : ∀ x ∈ padF l, 0 ≤ x ∧ x < 256 := by
  intro x hx
  unfold padF at hx
  rcases List.mem_append.1 hx with h1 | h1
  · exact h x h1
  · rcases List.mem_cons.1 h1 with h2 | h2
    · subst h2; omega
    · rcases List.mem_append.1 h2 with h3 | h3
      · have := List.eq_of_mem_replicate h3
        omega
      · exact be8_byte _ x h3
end Go.Proofs.YtkcdcbiobkcpmaaDoor.Lm
end
section
namespace Go.Proofs.YtkcdcbiobkcpmaaDoor.Lm
open Go.RowKit Go.Proofs.YtkcdcbiobkcpmaaDoor.PA Go.Proofs.YtkcdcbiobkcpmaaDoorW.PrintWords Go.Proofs.YtkcdcbiobkcpmaaDoorW.PrintLast Go.Proofs.YtkcdcbiobkcpmaaDoorW.PrintMore
theorem r02put64_step (k : Nat) (x : Int) (i : Nat) (l : List Int) (hi : i < 8) (h0 : 0 ≤ x) (h1 : x < 18446744073709551616) : drawlotref01_Put64.l0 (k + 1) x i l = drawlotref01_Put64.l0 k (x / 256) ((i : Int) - 1) (Ar.set 8 l i (x % 256)) := by
  have e1 : IntKind.u64.wrap (Int.tdiv x 256) = x / 256 := by rw [Int.tdiv_eq_ediv_of_nonneg h0, u64w]; omega
  have e2 : Int.tmod x 256 % 256 = x % 256 := by rw [Int.tmod_eq_emod_of_nonneg h0]; omega
  rw [drawlotref01_Put64.l0, if_pos (by omega), if_pos (by omega), if_pos (by omega), e1, e2, w64_id (by omega) (by omega)]
theorem r02put64_ok (k : Nat) (hk : 9 ≤ k) (x : Int) (h0 : 0 ≤ x) (h1 : x < 18446744073709551616) : drawlotref01_Put64.f k x = some (be8 x) := by
  obtain ⟨k, rfl⟩ : ∃ m, k = m + 9 := ⟨k - 9, by omega⟩
  unfold drawlotref01_Put64.f be8
  rw [show (7 : Int) = ((7 : Nat) : Int) from rfl, r02put64_step _ _ 7 _ (by decide) h0 h1, show ((7 : Nat) : Int) - 1 = ((6 : Nat) : Int) from rfl, r02put64_step _ _ 6 _ (by decide) (by omega) (by omega), show ((6 : Nat) : Int) - 1 = ((5 : Nat) : Int) from rfl,
    r02put64_step _ _ 5 _ (by decide) (by omega) (by omega), show ((5 : Nat) : Int) - 1 = ((4 : Nat) : Int) from rfl, r02put64_step _ _ 4 _ (by decide) (by omega) (by omega), show ((4 : Nat) : Int) - 1 = ((3 : Nat) : Int) from rfl, r02put64_step _ _ 3 _ (by decide) (by omega) (by omega), show ((3 : Nat) : Int) - 1 = ((2 : Nat) : Int) from rfl, r02put64_step _ _ 2 _ (by decide) (by omega) (by omega), show ((2 : Nat) : Int) - 1 = ((1 : Nat) : Int) from rfl,
    r02put64_step _ _ 1 _ (by decide) (by omega) (by omega), show ((1 : Nat) : Int) - 1 = ((0 : Nat) : Int) from rfl, r02put64_step _ _ 0 _ (by decide) (by omega) (by omega), drawlotref01_Put64.l0, if_neg (by decide)]
  have e2 : x / 256 / 256 = x / 65536 := by omega
  have e3 : x / 65536 / 256 = x / 16777216 := by omega
  have e4 : x / 16777216 / 256 = x / 4294967296 := by omega
  have e5 : x / 4294967296 / 256 = x / 1099511627776 := by omega
  have e6 : x / 1099511627776 / 256 = x / 281474976710656 := by omega
  have e7 : x / 281474976710656 / 256 = x / 72057594037927936 := by omega
  simp only [e2, e3, e4, e5, e6, e7]
  simp [Ar.set, Ar.fit, List.set]
theorem rfill (n : Int) : ∀ (z k : Nat) (x : List Int), (∀ i, i < z → (x.length + i) % 64 ≠ 56) → x.length + z < 100000 → drawlotref02_Tail.l0 (k + z) n x = drawlotref02_Tail.l0 k n (x ++ List.replicate z 0)
  | 0, k, x, _, _ => by simp
  | z + 1, k, x, h, hl => by
    have h0 := h 0 (by omega)
    rw [show k + (z + 1) = (k + z) + 1 by omega]
    conv => lhs; rw [drawlotref02_Tail.l0]
    rw [if_neg (by omega), if_pos (by omega), rfill n z k (x ++ [0]) (fun i hi => by have := h (i + 1) (by omega); rw [List.length_append, List.length_singleton]; omega) (by simp; omega), List.append_assoc, List.replicate_succ]
    rfl
theorem rcopy (k : Nat) (i : Nat) (x b : List Int) (hi : i < 8) (hl : x.length < 1000000) : drawlotref02_Tail.l1 (k + 1) x i b = drawlotref02_Tail.l1 k (x ++ [Ar.get 8 b i]) ((i + 1 : Nat) : Int) b := by
  conv => lhs; rw [drawlotref02_Tail.l1]
  rw [if_pos (by omega), if_pos (by omega), if_pos (by omega), w64_id (by omega) (by omega)]
  rfl
theorem rcopied (k : Nat) (hk : 9 ≤ k) (x : List Int) (z : Int) (hl : x.length < 100000) : drawlotref02_Tail.l1 k x 0 (be8 z) = some (x ++ be8 z, true) := by
  obtain ⟨k, rfl⟩ : ∃ m, k = m + 9 := ⟨k - 9, by omega⟩
  rw [show (0 : Int) = ((0 : Nat) : Int) from rfl, rcopy _ 0 _ _ (by decide) (by omega), rcopy _ 1 _ _ (by decide) (by simp; omega), rcopy _ 2 _ _ (by decide) (by simp; omega), rcopy _ 3 _ _ (by decide) (by simp; omega), rcopy _ 4 _ _ (by decide) (by simp; omega), rcopy _ 5 _ _ (by decide) (by simp; omega), rcopy _ 6 _ _ (by decide) (by simp; omega), rcopy _ 7 _ _ (by decide) (by simp; omega)]
  conv => lhs; rw [drawlotref02_Tail.l1]
  rw [if_neg (by decide)]
  have g : ∀ i, i < 8 → Ar.get 8 (be8 z) (i : Nat) = (be8 z).getD i 0 := by
    intro i hi
    unfold Ar.get
    rw [Ar.fit_id (be8_len z), rd_nat]
  rw [g 0 (by decide), g 1 (by decide), g 2 (by decide), g 3 (by decide), g 4 (by decide), g 5 (by decide), g 6 (by decide), g 7 (by decide)]
  simp [be8]
theorem rtail_ok (k : Nat) (hk : 90 ≤ k) (l : List Int) (n : Int) (h0 : 0 ≤ n) (h1 : n < 18446744073709551616) (hl : l.length < 90000) : drawlotref02_Tail.f k l n = some (if n ≥ 2305843009213693952 ∨ (l.length : Int) ≠ n % 64 then ([], false) else (tailF l n, true)) := by
  obtain ⟨k, rfl⟩ : ∃ m, k = (m + 80) + 1 := ⟨k - 81, by omega⟩
  unfold drawlotref02_Tail.f
  by_cases h : n ≥ 2305843009213693952
  · rw [if_pos h, if_pos (Or.inl h), drawlotref02_Tail.j0, if_pos rfl]
  · rw [if_neg h, u64w_id (x := (l.length : Int)) (by omega) (by omega), Int.tmod_eq_emod_of_nonneg h0]
    by_cases hr : (l.length : Int) = n % 64
    · rw [if_neg (by simp; omega), show ((l.length : Int) != n % 64) = false from bne_eq_false_iff_eq.mpr hr, drawlotref02_Tail.j0, if_neg (by decide), bs, if_pos (by simp; omega), bs, if_pos (by simp; omega)]
      have hz : zerosF l.length ≤ 63 := by unfold zerosF; split <;> omega
      rw [show k + 80 = ((k + 79 - zerosF l.length) + 1) + zerosF l.length by omega, rfill n _ _ _ (fun i hi => by
        unfold zerosF at hi
        simp only [List.nil_append, List.length_append, List.length_singleton]
        split at hi <;> omega) (by simp; omega)]
      conv => lhs; rw [drawlotref02_Tail.l0]
      rw [if_pos (by
        unfold zerosF
        simp only [List.nil_append, List.length_append, List.length_singleton, List.length_replicate]
        split <;> omega), r02put64_ok _ (by omega) _ (by rw [u64w]; omega) (by rw [u64w]; omega), bs, rcopied _ (by omega) _ _ (by simp; omega)]
      unfold tailF
      rw [show (8 * n : Int) = n * 8 by omega]
      simp
    · rw [if_pos (Or.inr hr), show ((l.length : Int) != n % 64) = true from bne_iff_ne.mpr hr, drawlotref02_Tail.j0, if_pos rfl]
end Go.Proofs.YtkcdcbiobkcpmaaDoor.Lm
end
section
namespace Go.Proofs.YtkcdcbiobkcpmaaDoor.Lm
open Go.RowKit Go.Proofs.YtkcdcbiobkcpmaaDoor.PA Go.Proofs.YtkcdcbiobkcpmaaDoorW.PrintWords Go.Proofs.YtkcdcbiobkcpmaaDoorW.PrintLast Go.Proofs.YtkcdcbiobkcpmaaDoorW.PrintMore
theorem rcut_loop : ∀ (m k : Nat) (b : List Int) (out : List (List Int)) (t : Nat), (b.length - t) / 64 = m → t ≤ b.length → m < k → out.length + m < 1048576 → b.length < 1000000 → drawlotref02_Cut.l0 k b out (t : Int) = some (out ++ cutF m (b.drop t), b.drop (t + 64 * m))
  | 0, k + 1, b, out, t, h, ht, _, _, hb => by
    rw [drawlotref02_Cut.l0, if_pos ⟨by omega, by omega, by omega⟩, if_neg (by omega)]
    simp [cutF]
  | m + 1, k + 1, b, out, t, h, ht, hk, ho, hb => by
    have e := rcut_loop m k b (out ++ [(b.drop t).take 64]) (t + 64) (by omega) (by omega) (by omega) (by simp; omega) hb
    rw [drawlotref02_Cut.l0, if_pos ⟨by omega, by omega, by omega⟩, if_pos (by omega), if_pos (by omega), Int.toNat_natCast, show ((t : Int) + 64) = ((t + 64 : Nat) : Int) by omega, e, cutF, List.drop_drop, show t + 64 + 64 * m = t + 64 * (m + 1) by omega]
    simp
theorem rcut_ok (k : Nat) (l : List Int) (hk : l.length / 64 < k) (hl : l.length < 1000000) : drawlotref02_Cut.f k l = some (cutF (l.length / 64) l, l.drop (64 * (l.length / 64))) := by
  unfold drawlotref02_Cut.f
  have := rcut_loop (l.length / 64) k l [] 0 (by simp) (by omega) hk (by simp; omega) hl
  rw [show (0 : Int) = ((0 : Nat) : Int) from rfl, this]
  simp
theorem rpad_ok (k : Nat) (hk : 90 ≤ k) (l : List Int) (hl : l.length ≤ 60000) : drawlotref02_Pad.f k l = some (padF l) := by
  unfold drawlotref02_Pad.f
  have hd : (l.drop ((l.length : Int) - (l.length : Int) % 64).toNat).length = l.length % 64 := by rw [List.length_drop]; omega
  have ht : drawlotref02_Tail.f k (l.drop ((l.length : Int) - (l.length : Int) % 64).toNat) (l.length : Int) = some (tailF (l.drop ((l.length : Int) - (l.length : Int) % 64).toNat) (l.length : Int), true) := by
    rw [rtail_ok k hk _ _ (by omega) (by omega) (by omega), if_neg]
    rw [hd]; omega
  have hz : (tailF (l.drop ((l.length : Int) - (l.length : Int) % 64).toNat) (l.length : Int)).length < 5000 := by
    unfold tailF zerosF
    simp only [List.length_append, List.length_cons, List.length_replicate, be8_len, hd]
    split <;> omega
  rw [w64_id (by omega) (by omega), if_pos (by omega), if_pos (by omega), u64w_id (x := (l.length : Int)) (by omega) (by omega), ht, bs, bs, if_pos (by simp; omega), bs, if_pos (by simp; omega)]
  unfold tailF padF
  rw [hd, List.nil_append, ← List.append_assoc, List.take_append_drop, u64w_id (by omega) (by omega)]
end Go.Proofs.YtkcdcbiobkcpmaaDoor.Lm
end
section
namespace Go.Proofs.YtkcdcbiobkcpmaaDoor.Lm
open Go.RowKit Go.Proofs.YtkcdcbiobkcpmaaDoor.PA Go.Proofs.YtkcdcbiobkcpmaaDoorW.PrintWords Go.Proofs.YtkcdcbiobkcpmaaDoorW.PrintLast
def ByteL (l : List Int) : Prop := ∀ x ∈ l, 0 ≤ x ∧ x < 256
theorem ByteL.app {a b : List Int} (ha : ByteL a) (hb : ByteL b) : ByteL (a ++ b) := fun x hx => by
  rcases List.mem_append.1 hx with h | h
  · exact ha x h
  · exact hb x h
theorem ByteL.drop {a : List Int} (ha : ByteL a) (n : Nat) : ByteL (a.drop n) := fun x hx => ha x (List.mem_of_mem_drop hx)
theorem ByteL.take {a : List Int} (ha : ByteL a) (n : Nat) : ByteL (a.take n) := fun x hx => ha x (List.mem_of_mem_take hx)
theorem ByteL.nil : ByteL [] := fun x hx => by cases hx
def Blk (b : List Int) : Prop := b.length = 64 ∧ ByteL b
theorem Blk.inR {b : List Int} (h : Blk b) : InR 64 256 b := InR.of_mem (by decide) h.1 h.2
def takes (s : List Int) (l : List (List Int)) : List Int := l.foldl tk s
theorem takes_app (s : List Int) (a b : List (List Int)) : takes s (a ++ b) = takes (takes s a) b := List.foldl_append
def bks (l : List Int) : List (List Int) := cutF (l.length / 64) l
def rst (l : List Int) : List Int := l.drop (64 * (l.length / 64))
theorem rst_len (l : List Int) : (rst l).length = l.length % 64 := by unfold rst; rw [List.length_drop]; omega
theorem cutF_app : ∀ (m n : Nat) (x y : List Int), 64 * m ≤ x.length → cutF (m + n) (x ++ y) = cutF m x ++ cutF n (x.drop (64 * m) ++ y)
  | 0, n, x, y, _ => by simp [cutF]
  | m + 1, n, x, y, h => by
    rw [show m + 1 + n = (m + n) + 1 by omega]
    simp only [cutF]
    rw [List.take_append_of_le_length (by omega), List.drop_append_of_le_length (by omega), cutF_app m n (x.drop 64) y (by rw [List.length_drop]; omega), List.drop_drop, show 64 + 64 * m = 64 * (m + 1) by omega]
    rfl
theorem bks_app (x y : List Int) : bks (x ++ y) = bks x ++ bks (rst x ++ y) := by
  unfold bks
  have h : (x ++ y).length / 64 = x.length / 64 + (rst x ++ y).length / 64 := by
    rw [List.length_append, List.length_append, rst_len]; omega
  rw [h, cutF_app _ _ x y (by omega)]
  rfl
theorem rst_app (x y : List Int) : rst (x ++ y) = rst (rst x ++ y) := by
  have h : (x ++ y).length / 64 = x.length / 64 + (rst x ++ y).length / 64 := by
    rw [List.length_append, List.length_append, rst_len]; omega
  have e : rst (x ++ y) = (x ++ y).drop (64 * (x.length / 64 + (rst x ++ y).length / 64)) := by rw [show rst (x ++ y) = (x ++ y).drop (64 * ((x ++ y).length / 64)) from rfl, h]
  rw [e, Nat.mul_add, ← List.drop_drop, List.drop_append_of_le_length (by omega)]
  rfl
theorem bks_short {l : List Int} (h : l.length < 64) : bks l = [] := by unfold bks; rw [Nat.div_eq_of_lt h]; rfl
theorem rst_short {l : List Int} (h : l.length < 64) : rst l = l := by unfold rst; rw [Nat.div_eq_of_lt h]; rfl
theorem cutF_blk : ∀ (m : Nat) (l : List Int), 64 * m ≤ l.length → ByteL l → ∀ b ∈ cutF m l, Blk b
  | 0, l, _, _, b, hb => by cases hb
  | m + 1, l, h, hl, b, hb => by
    simp only [cutF, List.mem_cons] at hb
    rcases hb with rfl | hb
    · exact ⟨by rw [List.length_take]; omega, hl.take 64⟩
    · exact cutF_blk m (l.drop 64) (by rw [List.length_drop]; omega) (hl.drop 64) b hb
theorem bks_blk {l : List Int} (hl : ByteL l) : ∀ b ∈ bks l, Blk b := cutF_blk _ l (by omega) hl
theorem bks_len (l : List Int) : (bks l).length = l.length / 64 := cutF_len _ l
theorem takes_in {s : List Int} (hs : InR 8 4294967296 s) : ∀ {l : List (List Int)}, (∀ b ∈ l, Blk b) → InR 8 4294967296 (takes s l) := by
  intro l
  induction l generalizing s with
  | nil => intro _; exact hs
  | cons b l ih => intro h; exact ih (tk_ok hs (h b (List.mem_cons_self ..)).inR (n := 200) (by omega)).2.2 (fun c hc => h c (List.mem_cons_of_mem _ hc))
theorem stake_loop (l : List (List Int)) (hl : l.length < 1000000) (hb : ∀ b ∈ l, Blk b) : ∀ (m k i : Nat) (s : List Int), i + m = l.length → m + 210 ≤ k → InR 8 4294967296 s → sha_writer_take.l0 k l s (i : Int) = some (takes s (l.drop i))
  | 0, k, i, s, hi, hk, hs => by
    obtain ⟨k, rfl⟩ : ∃ m, k = m + 1 := ⟨k - 1, by omega⟩
    rw [List.drop_eq_nil_of_le (by omega)]
    simp only [sha_writer_take.l0]
    rw [if_neg (by omega)]
    rfl
  | m + 1, k, i, s, hi, hk, hs => by
    obtain ⟨k, rfl⟩ : ∃ m, k = m + 1 := ⟨k - 1, by omega⟩
    have hil : i < l.length := by omega
    have hB := hb l[i] (List.getElem_mem hil)
    have t := tk_ok hs hB.inR (n := k) (by omega)
    have h1 := stake_loop l hl hb m k (i + 1) (tk s l[i]) (by omega) (by omega) t.2.2
    have e1 : wrap64 ((i : Int) + 1) = ((i + 1 : Nat) : Int) := by rw [w64_id (by omega) (by omega)]; omega
    have eb : sha_writer_take.blk l (i : Int) = l[i] := by unfold sha_writer_take.blk; rw [Int.toNat_natCast, List.getD_eq_getElem?_getD, List.getElem?_eq_getElem hil]; rfl
    rw [List.drop_eq_getElem_cons hil]
    simp only [sha_writer_take.l0]
    rw [if_pos (by omega), if_pos (by omega), eb, t.1, bs, e1]
    exact h1
theorem rtake_loop (l : List (List Int)) (hl : l.length < 1000000) (hb : ∀ b ∈ l, Blk b) : ∀ (m k i : Nat) (s : List Int), i + m = l.length → m + 210 ≤ k → InR 8 4294967296 s → drawlotref05_take.l0 k l (i : Int) s = some (takes s (l.drop i))
  | 0, k, i, s, hi, hk, hs => by
    obtain ⟨k, rfl⟩ : ∃ m, k = m + 1 := ⟨k - 1, by omega⟩
    rw [List.drop_eq_nil_of_le (by omega)]
    simp only [drawlotref05_take.l0]
    rw [if_neg (by omega)]
    rfl
  | m + 1, k, i, s, hi, hk, hs => by
    obtain ⟨k, rfl⟩ : ∃ m, k = m + 1 := ⟨k - 1, by omega⟩
    have hil : i < l.length := by omega
    have hB := hb l[i] (List.getElem_mem hil)
    have t := tk_ok hs hB.inR (n := k) (by omega)
    have h1 := rtake_loop l hl hb m k (i + 1) (tk s l[i]) (by omega) (by omega) t.2.2
    have e1 : wrap64 ((i : Int) + 1) = ((i + 1 : Nat) : Int) := by rw [w64_id (by omega) (by omega)]; omega
    have eb : rd_L2 l (i : Int) = l[i] := by unfold rd_L2; rw [Int.toNat_natCast, List.getD_eq_getElem?_getD, List.getElem?_eq_getElem hil]; rfl
    rw [List.drop_eq_getElem_cons hil]
    simp only [drawlotref05_take.l0]
    rw [if_pos (by omega), if_pos (by omega), eb, t.2.1, bs, e1]
    exact h1
theorem stake_ok {k : Nat} {s b : List Int} (hs : InR 8 4294967296 s) (hb : ByteL b) (hl : b.length < 1000000) (hk : b.length / 64 + 220 ≤ k) : sha_writer_take.f k s b = some (takes s (bks b), rst b) := by
  unfold sha_writer_take.f
  rw [pcut_ok k b (by omega) hl, bs]
  show ((sha_writer_take.l0 k (bks b) s ((0 : Nat) : Int)).bind fun q => some (q, rst b)) = _
  rw [stake_loop (bks b) (by rw [bks_len]; omega) (bks_blk hb) (b.length / 64) k 0 s (by rw [bks_len]; omega) (by omega) hs, bs]
  rfl
theorem rtake_ok {k : Nat} {s b : List Int} (hs : InR 8 4294967296 s) (hb : ByteL b) (hl : b.length < 1000000) (hk : b.length / 64 + 220 ≤ k) : drawlotref05_take.f k s (bks b) = some (takes s (bks b)) := by
  unfold drawlotref05_take.f
  exact rtake_loop _ (by rw [bks_len]; omega) (bks_blk hb) (b.length / 64) k 0 s (by rw [bks_len]; omega) (by omega) hs
theorem rcut_ok' {k : Nat} {b : List Int} (hl : b.length < 1000000) (hk : b.length / 64 < k) : drawlotref02_Cut.f k b = some (bks b, rst b) := rcut_ok k b hk hl
theorem swrite_ok {k : Nat} {s r b : List Int} {n : Int} (hs : InR 8 4294967296 s) (hr : ByteL r) (hb : ByteL b) (h : (r ++ b).length < 1000000) (hk : (r ++ b).length / 64 + 220 ≤ k) (h0 : 0 ≤ n) (h1 : n < 2305843009213693952) :
    sha_writer_write.f k s r n b = some (takes s (bks (r ++ b)), rst (r ++ b), n + b.length) := by
  have hl := h
  rw [List.length_append] at hl
  unfold sha_writer_write.f bytes_Clone.f
  rw [bs, if_pos (by simp; omega), bs, List.nil_append, if_pos (by omega), stake_ok hs (hr.app hb) h hk, bs, u64w_id (x := (b.length : Int)) (by omega) (by omega), u64w_id (by omega) (by omega)]
def outF (s r : List Int) (n : Int) (t : List Int) : List Int × List Int × Int × Int := if n + (t.length : Int) ≥ 2305843009213693952 then (List.replicate 8 0, [], 0, 11) else (takes s (bks (r ++ t)), rst (r ++ t), n + t.length, 0)
theorem sWrite_loop (l : List (List Int)) (hl : l.length ≤ 20) (h5 : ∀ b ∈ l, b.length ≤ 1000 ∧ ByteL b) : ∀ (m k i : Nat) (s r : List Int) (n : Int), i + m = l.length → m + 400 ≤ k → InR 8 4294967296 s → r.length < 64 → ByteL r → 0 ≤ n → n < 2305843009213693952 →
    sha_Write.l0 k s r n l (i : Int) = some (outF s r n (l.drop i).flatten)
  | 0, k, i, s, r, n, hi, hk, hs, hr, hrb, h0, h1 => by
    obtain ⟨k, rfl⟩ : ∃ m, k = m + 1 := ⟨k - 1, by omega⟩
    rw [List.drop_eq_nil_of_le (by omega)]
    simp only [sha_Write.l0]
    rw [if_neg (by omega)]
    unfold outF
    rw [if_neg (by simp; omega)]
    simp only [List.flatten_nil, List.append_nil, bks_short hr, rst_short hr, List.length_nil]
    simp [takes]
  | m + 1, k, i, s, r, n, hi, hk, hs, hr, hrb, h0, h1 => by
    obtain ⟨k, rfl⟩ : ∃ m, k = m + 1 := ⟨k - 1, by omega⟩
    have hil : i < l.length := by omega
    obtain ⟨hB, hBb⟩ := h5 l[i] (List.getElem_mem hil)
    have e1 : wrap64 ((i : Int) + 1) = ((i + 1 : Nat) : Int) := by rw [w64_id (by omega) (by omega)]; omega
    have eb : sha_Write.row l (i : Int) = l[i] := by unfold sha_Write.row; rw [Int.toNat_natCast, List.getD_eq_getElem?_getD, List.getElem?_eq_getElem hil]; rfl
    have hw := swrite_ok (k := k) (n := n) hs hrb hBb (by rw [List.length_append]; omega) (by rw [List.length_append]; omega) h0 h1
    rw [List.drop_eq_getElem_cons hil, List.flatten_cons]
    simp only [sha_Write.l0]
    rw [if_pos (by omega), if_pos (by omega), eb, hw, bs]
    by_cases hm : n + (l[i].length : Int) ≥ 2305843009213693952
    · rw [if_pos hm]
      unfold outF
      rw [if_pos (by rw [List.length_append]; omega)]
    · rw [if_neg hm, e1]
      dsimp only
      have hrl : (rst (r ++ l[i])).length < 64 := by rw [rst_len]; omega
      rw [sWrite_loop l hl h5 m k (i + 1) (takes s (bks (r ++ l[i]))) (rst (r ++ l[i])) (n + (l[i].length : Int)) (by omega) (by omega) (takes_in hs (bks_blk (hrb.app hBb))) hrl ((hrb.app hBb).drop _) (by omega) (by omega)]
      unfold outF
      simp only [List.length_append]
      rw [show n + (l[i].length : Int) + ((l.drop (i + 1)).flatten.length : Int) = n + ((l[i].length + (l.drop (i + 1)).flatten.length : Nat) : Int) by omega, ← takes_app, ← List.append_assoc r, ← bks_app, ← rst_app]
theorem sright_ok (r : List Int) {n : Int} (h0 : 0 ≤ n) (h1 : n < 18446744073709551616) (hr : r.length < 1000000) (a0 : List Int) : sha_Right.f a0 r n = some (decide (n < 2305843009213693952 ∧ (r.length : Int) = n % 64)) := by
  unfold sha_Right.f
  have e : Go.bits .and .u64 n 63 = n % 64 := bits_mask .u64 64 (by decide) (fun m a b => u64w_id a b) 6 (by decide) n h0 h1
  by_cases h : n < 2305843009213693952
  · rw [if_pos h, e, u64w_id (by omega) (by omega)]
    rw [Option.some.injEq, Bool.eq_iff_iff]
    simp [h]
  · rw [if_neg h]
    simp [h]
def wrF (s r : List Int) (n : Int) (t : List Int) : List Int × List Int × Int × Int := if n < 2305843009213693952 ∧ (r.length : Int) = n % 64 then outF s r n t else (List.replicate 8 0, [], 0, 1)
theorem sWrite_ok {k : Nat} (hk : 500 ≤ k) {s r : List Int} {n : Int} (hs : InR 8 4294967296 s) (hr : ByteL r) (h0 : 0 ≤ n) (h1 : n < 18446744073709551616) (hl : r.length < 1000000) {l : List (List Int)} (h20 : l.length ≤ 20) (h5 : ∀ b ∈ l, b.length ≤ 1000 ∧ ByteL b) :
    sha_Write.f k s r n l = some (wrF s r n l.flatten) := by
  unfold sha_Write.f wrF
  rw [sright_ok r h0 h1 hl, bs]
  by_cases h : n < 2305843009213693952 ∧ (r.length : Int) = n % 64
  · rw [if_pos (decide_eq_true h), if_pos h, show (0 : Int) = ((0 : Nat) : Int) from rfl, sWrite_loop l h20 h5 l.length k 0 s r n (by omega) (by omega) hs (by omega) hr h0 h.1, List.drop_zero]
  · rw [if_neg (by simpa using h), if_neg h]
theorem flat_len {l : List (List Int)} (h20 : l.length ≤ 20) (h5 : ∀ b ∈ l, b.length ≤ 1000 ∧ ByteL b) : l.flatten.length ≤ 20000 := by
  have : ∀ (l : List (List Int)), (∀ b ∈ l, b.length ≤ 1000 ∧ ByteL b) → l.flatten.length ≤ 1000 * l.length := by
    intro l
    induction l with
    | nil => intro _; simp
    | cons a l ih =>
      intro h
      have := ih (fun b hb => h b (List.mem_cons_of_mem _ hb))
      have := (h a (List.mem_cons_self ..)).1
      rw [List.flatten_cons, List.length_append, List.length_cons]
      omega
  have := this l h5
  omega
theorem flat_byte {l : List (List Int)} (h5 : ∀ b ∈ l, b.length ≤ 1000 ∧ ByteL b) : ByteL l.flatten := fun x hx => by
  obtain ⟨b, hb, hxb⟩ := List.mem_flatten.1 hx
  exact (h5 b hb).2 x hxb
end Go.Proofs.YtkcdcbiobkcpmaaDoor.Lm
end
section
namespace Go.Proofs.YtkcdcbiobkcpmaaDoor.Lm
open Go.RowKit Go.Proofs.YtkcdcbiobkcpmaaDoor.PA Go.Proofs.YtkcdcbiobkcpmaaDoorW.PrintWords Go.Proofs.YtkcdcbiobkcpmaaDoorW.PrintLast
def w4 (x : Int) : List Int := [x / 16777216 % 256, x / 65536 % 256, x / 256 % 256, x % 256]
def hashF (s : List Int) : List Int := w4 (Ar.get 8 s 0) ++ w4 (Ar.get 8 s 1) ++ w4 (Ar.get 8 s 2) ++ w4 (Ar.get 8 s 3) ++ w4 (Ar.get 8 s 4) ++ w4 (Ar.get 8 s 5) ++ w4 (Ar.get 8 s 6) ++ w4 (Ar.get 8 s 7)
theorem put32_ok {x : Int} (h0 : 0 ≤ x) (_h1 : x < 4294967296) : drawlotref01_Put32.f x = some (w4 x) := by
  unfold drawlotref01_Put32.f w4
  rw [Int.tdiv_eq_ediv_of_nonneg h0, Int.tdiv_eq_ediv_of_nonneg h0, Int.tdiv_eq_ediv_of_nonneg h0, Int.tmod_eq_emod_of_nonneg h0]
  simp only [Option.some.injEq, List.cons.injEq, and_true]
  refine ⟨?_, ?_, ?_⟩ <;> omega
theorem shash9 (s : List Int) : sha_writer_hash.f 9 s = some (hashF s) := by kernel_rfl
theorem shash_ok {k : Nat} (hk : 9 ≤ k) (s : List Int) : sha_writer_hash.f k s = some (hashF s) := at_rounds (g := fun k => sha_writer_hash.f k s) (fun k => sha_writer_hash.mono s k) (k := 9) (k' := k) hk (shash9 s)
theorem rl1 (k : Nat) (i : Nat) (hi : i < 8) (s h t : List Int) : drawlotref05_hash.l1 (k + 5) (i : Int) 0 s h t = drawlotref05_hash.l0 k ((i + 1 : Nat) : Int) s (Ar.set 32 (Ar.set 32 (Ar.set 32 (Ar.set 32 h (4 * i) (Ar.get 4 t 0)) (4 * i + 1) (Ar.get 4 t 1)) (4 * i + 2) (Ar.get 4 t 2)) (4 * i + 3) (Ar.get 4 t 3)) := by
  have e : wrap64 (4 * (i : Int)) = 4 * i := w64_id (by omega) (by omega)
  have e0 : wrap64 (4 * (i : Int) + 0) = 4 * i := by rw [w64_id (by omega) (by omega)]; omega
  have e1 : wrap64 (4 * (i : Int) + 1) = 4 * i + 1 := w64_id (by omega) (by omega)
  have e2 : wrap64 (4 * (i : Int) + 2) = 4 * i + 2 := w64_id (by omega) (by omega)
  have e3 : wrap64 (4 * (i : Int) + 3) = 4 * i + 3 := w64_id (by omega) (by omega)
  have en : wrap64 ((i : Int) + 1) = ((i + 1 : Nat) : Int) := by rw [w64_id (by omega) (by omega)]; omega
  have z1 : wrap64 ((0 : Int) + 1) = 1 := by rw [w64_id (by omega) (by omega)]; rfl
  have z2 : wrap64 ((1 : Int) + 1) = 2 := by rw [w64_id (by omega) (by omega)]; rfl
  have z3 : wrap64 ((2 : Int) + 1) = 3 := by rw [w64_id (by omega) (by omega)]; rfl
  have z4 : wrap64 ((3 : Int) + 1) = 4 := by rw [w64_id (by omega) (by omega)]; rfl
  simp only [drawlotref05_hash.l1, e, e0, e1, e2, e3, z1, z2, z3, z4]
  rw [if_pos (by omega), if_pos (by omega), if_pos (by omega), if_pos (by omega), if_pos (by omega), if_pos (by omega), if_pos (by omega), if_pos (by omega), if_pos (by omega), if_pos (by omega), if_pos (by omega), if_pos (by omega), if_pos (by omega), if_pos (by omega), if_pos (by omega), if_pos (by omega), if_neg (by omega), en]
def setw4 (h : List Int) (i : Int) (t : List Int) : List Int := Ar.set 32 (Ar.set 32 (Ar.set 32 (Ar.set 32 h (4 * i) (Ar.get 4 t 0)) (4 * i + 1) (Ar.get 4 t 1)) (4 * i + 2) (Ar.get 4 t 2)) (4 * i + 3) (Ar.get 4 t 3)
theorem rl0 (k : Nat) (i : Nat) (hi : i < 8) {s : List Int} (hs : InR 8 4294967296 s) (h : List Int) : drawlotref05_hash.l0 (k + 6) (i : Int) s h = drawlotref05_hash.l0 k ((i + 1 : Nat) : Int) s (setw4 h i (w4 (Ar.get 8 s i))) := by
  rw [drawlotref05_hash.l0, if_pos (by omega), if_pos (by omega), put32_ok (hs _).1 (hs _).2, bs, rl1 k i hi]
  rfl
theorem rhash_ok {k : Nat} (hk : 60 ≤ k) {s : List Int} (hs : InR 8 4294967296 s) : drawlotref05_hash.f k s = some (hashF s) := by
  obtain ⟨k, rfl⟩ : ∃ m, k = m + 1 + 6 + 6 + 6 + 6 + 6 + 6 + 6 + 6 := ⟨k - 49, by omega⟩
  unfold drawlotref05_hash.f
  show drawlotref05_hash.l0 _ ((0 : Nat) : Int) s _ = _
  rw [rl0 _ 0 (by omega) hs, rl0 _ 1 (by omega) hs, rl0 _ 2 (by omega) hs, rl0 _ 3 (by omega) hs, rl0 _ 4 (by omega) hs, rl0 _ 5 (by omega) hs, rl0 _ 6 (by omega) hs, rl0 _ 7 (by omega) hs, drawlotref05_hash.l0, if_neg (by omega)]
  kernel_rfl
def fiF (s r : List Int) (n : Int) : List Int × Int := if n < 2305843009213693952 ∧ (r.length : Int) = n % 64 then (hashF (takes s (bks (tailF r n))), 0) else (List.replicate 32 0, 1)
theorem tailF_byte {r : List Int} (hr : ByteL r) (n : Int) : ByteL (tailF r n) := by
  unfold tailF
  refine hr.app fun x hx => ?_
  rcases List.mem_cons.1 hx with rfl | hx
  · omega
  · rcases List.mem_append.1 hx with h | h
    · have := (List.mem_replicate.1 h).2; omega
    · exact be8_byte _ x h
theorem tailF_len (r : List Int) (n : Int) (h : r.length < 64) : (tailF r n).length ≤ 200 := by
  unfold tailF zerosF
  simp only [List.length_append, List.length_cons, List.length_replicate, be8_len]
  split <;> omega
theorem sFinish_ok {k : Nat} (hk : 300 ≤ k) {s r : List Int} {n : Int} (hs : InR 8 4294967296 s) (hr : ByteL r) (h0 : 0 ≤ n) (h1 : n < 18446744073709551616) (hl : r.length < 20000) : sha_Finish.f k s r n = some (fiF s r n) := by
  unfold sha_Finish.f fiF
  have ht := ptail_ok k (by omega) r n h0 h1 (by omega)
  by_cases h : n < 2305843009213693952 ∧ (r.length : Int) = n % 64
  · rw [if_neg (by omega)] at ht
    have := tailF_len r n (by omega)
    rw [if_pos h, ht, bs, if_pos rfl]
    dsimp only
    rw [stake_ok hs (tailF_byte hr n) (by omega) (by omega), bs, shash_ok (by omega), bs]
  · rw [if_pos (by omega)] at ht
    rw [if_neg h, ht, bs, if_neg (by decide)]
    rfl
end Go.Proofs.YtkcdcbiobkcpmaaDoor.Lm
end
section
namespace Go.Proofs.YtkcdcbiobkcpmaaDoor.Lm
open Go.RowKit Go.Proofs.YtkcdcbiobkcpmaaDoor.PA Go.Proofs.YtkcdcbiobkcpmaaDoorW.PrintWords Go.Proofs.YtkcdcbiobkcpmaaDoorW.PrintLast
def H0 : List Int := [1779033703, 3144134277, 1013904242, 2773480762, 1359893119, 2600822924, 528734635, 1541459225]
theorem H0_in : InR 8 4294967296 H0 := InR.of_mem (by decide) rfl (by decide)
def sumF (t : List Int) : List Int := hashF (takes H0 (bks t ++ bks (tailF (rst t) t.length)))
theorem sSum_ok {k : Nat} (hk : 1000 ≤ k) {l : List (List Int)} (h20 : l.length ≤ 20) (h5 : ∀ b ∈ l, b.length ≤ 1000 ∧ ByteL b) : sha_Sum.f k l = some (sumF l.flatten) := by
  have hf := flat_len h20 h5
  have hb := flat_byte h5
  unfold sha_Sum.f
  rw [show sha_New.f = some (H0, [], 0) from rfl, bs]
  dsimp only
  rw [sWrite_ok (by omega) H0_in ByteL.nil (by omega) (by omega) (by simp) h20 h5, bs]
  have hw : wrF H0 [] 0 l.flatten = (takes H0 (bks l.flatten), rst l.flatten, (l.flatten.length : Int), 0) := by
    unfold wrF outF
    rw [if_pos ⟨by omega, by simp⟩, if_neg (by omega), List.nil_append, Int.zero_add]
  rw [hw]
  dsimp only
  rw [sFinish_ok (by omega) (takes_in H0_in (bks_blk hb)) (show ByteL (rst l.flatten) from hb.drop _) (by omega) (by omega) (by rw [rst_len]; omega), bs]
  unfold fiF sumF
  rw [if_pos ⟨by omega, by rw [rst_len]; omega⟩, takes_app]
theorem bks_pad (t : List Int) (h : t.length < 100000) : bks (padF t) = bks t ++ bks (tailF (rst t) t.length) := by
  unfold padF tailF
  rw [bks_app, rst_len, u64w_id (by omega) (by omega)]
theorem rSum_ok {k : Nat} (hk : 1000 ≤ k) {t : List Int} (ht : t.length ≤ 20000) (hb : ByteL t) : drawlotref05_Sum.f k t = some (sumF t) := by
  unfold drawlotref05_Sum.f
  have hl := padF_len t
  have hpb : ByteL (padF t) := padF_byte hb
  rw [rpad_ok k (by omega) t (by omega), bs, rcut_ok' (by omega) (by omega), bs, show drawlotref04_Start.f = some H0 from rfl, bs]
  dsimp only
  rw [rtake_ok H0_in hpb (by omega) (by omega), bs, rhash_ok (by omega) (takes_in H0_in (bks_blk hpb)), bs, bks_pad t (by omega)]
  rfl
end Go.Proofs.YtkcdcbiobkcpmaaDoor.Lm
end
section
namespace Go.Proofs.YtkcdcbiobkcpmaaDoor.Pure
open Go.RowKit Go.Proofs.YtkcdcbiobkcpmaaDoor.PA Go.Proofs.YtkcdcbiobkcpmaaDoorW.PrintWords Go.Proofs.YtkcdcbiobkcpmaaDoorW.PrintLast Go.Proofs.YtkcdcbiobkcpmaaDoor.Lm
theorem cuts_write {k : Nat} (hk : 500 ≤ k) {p q : List Int} (hp : ByteL p) (hq : ByteL q) (hl : p.length + q.length ≤ 1000) :
    sha_Write.f k (takes H0 (bks p)) (rst p) (p.length : Int) [q] = some (takes H0 (bks (p ++ q)), rst (p ++ q), ((p ++ q).length : Int), 0) := by
  have hr := rst_len p
  rw [sWrite_ok hk (takes_in H0_in (bks_blk hp)) (show ByteL (rst p) from hp.drop _) (by omega) (by omega) (by omega) (by simp) (fun b hb => by
    rw [List.mem_singleton] at hb; subst hb; exact ⟨by omega, hq⟩)]
  unfold wrF outF
  have e : ([q] : List (List Int)).flatten = q := by simp
  rw [e, if_pos ⟨by omega, by rw [hr]; omega⟩, if_neg (by omega), ← takes_app, ← bks_app, ← rst_app, List.length_append, Int.natCast_add]
theorem cuts_finish {k : Nat} (hk : 300 ≤ k) {p : List Int} (hp : ByteL p) (hl : p.length ≤ 1000) :
    sha_Finish.f k (takes H0 (bks p)) (rst p) (p.length : Int) = some (sumF p, 0) := by
  have hr := rst_len p
  rw [sFinish_ok hk (takes_in H0_in (bks_blk hp)) (show ByteL (rst p) from hp.drop _) (by omega) (by omega) (by omega)]
  unfold fiF sumF
  rw [if_pos ⟨by omega, by rw [hr]; omega⟩, takes_app]
theorem cuts_sum {k : Nat} (hk : 1000 ≤ k) {x : List Int} (hx : ByteL x) (hl : x.length ≤ 1000) : sha_Sum.f k [x] = some (sumF x) := by
  have e : ([x] : List (List Int)).flatten = x := by simp
  rw [sSum_ok hk (by simp) (fun b hb => by rw [List.mem_singleton] at hb; subst hb; exact ⟨hl, hx⟩), e]
theorem cuts_loop {x : List Int} (hx : ByteL x) (hl : x.length ≤ 1000) {c : List Int} (hc : ∀ v ∈ c, 0 ≤ v ∧ v < 65536) (hcl : c.length ≤ 20) :
    ∀ (m k i : Nat) (p q : List Int), i + m = c.length + 1 → m + 1500 ≤ k → p ++ q = x → (m = 0 → q = []) →
      drawlotlaw05_ShaCuts.l0 k x c q (i : Int) (takes H0 (bks p)) (rst p) (p.length : Int) = some true
  | 0, k, i, p, q, hi, hk, hpq, h0 => by
    obtain ⟨k, rfl⟩ : ∃ m, k = m + 1 := ⟨k - 1, by omega⟩
    rw [drawlotlaw05_ShaCuts.l0, if_neg (by omega), h0 rfl, if_pos (by simp), cuts_sum (by omega) hx hl, bs, rSum_ok (by omega) (by omega) hx, bs, eqb_self]
  | m + 1, k, i, p, q, hi, hk, hpq, _ => by
    obtain ⟨k, rfl⟩ : ∃ m, k = m + 1 := ⟨k - 1, by omega⟩
    have hlen : p.length + q.length = x.length := by rw [← hpq, List.length_append]
    have hp : ByteL p := fun v hv => hx v (by rw [← hpq]; exact List.mem_append_left _ hv)
    have hq : ByteL q := fun v hv => hx v (by rw [← hpq]; exact List.mem_append_right _ hv)
    have en : wrap64 ((i : Int) + 1) = ((i + 1 : Nat) : Int) := by rw [w64_id (by omega) (by omega)]; omega
    have go : ∀ n : Nat, n ≤ q.length → (m = 0 → n = q.length) →
        ((sha_Write.f k (takes H0 (bks p)) (rst p) (p.length : Int) [q.take n]).bind fun bt => ((sha_Finish.f k bt.1 bt.2.1 bt.2.2.1).bind fun bf => (if bt.2.2.2 = 0 then (if bf.2 = 0 then (if 0 ≤ (wrap64 ((wrap64 ((x.length : Int) - (q.length : Int))) + (n : Int))) then (if (wrap64 ((wrap64 ((x.length : Int) - (q.length : Int))) + (n : Int))) ≤ (x.length : Int) then ((drawlotref05_Sum.f k (x.take ((wrap64 ((wrap64 ((x.length : Int) - (q.length : Int))) + (n : Int))) : Int).toNat)).bind fun t => (if ((Ar.eqb 32 bf.1 t) = true) then (drawlotlaw05_ShaCuts.l0 k x c (q.drop n) ((i + 1 : Nat) : Int) bt.1 bt.2.1 bt.2.2.1) else (none))) else (none)) else (none)) else (none)) else (none)))) = some true := by
      intro n hn hm
      have hqn : ByteL (q.take n) := hq.take n
      have ew : wrap64 ((wrap64 ((x.length : Int) - (q.length : Int))) + (n : Int)) = ((p.length + n : Nat) : Int) := by
        rw [w64_id (x := (x.length : Int) - (q.length : Int)) (by omega) (by omega), w64_id (by omega) (by omega)]; omega
      have ht : x.take (p.length + n) = p ++ q.take n := by rw [← hpq, List.take_length_add_append]
      have hpl : (p ++ q.take n).length ≤ 1000 := by rw [List.length_append, List.length_take]; omega
      rw [cuts_write (by omega) hp hqn (by rw [List.length_take]; omega), bs]
      dsimp only
      rw [cuts_finish (by omega) (hp.app hqn) hpl, bs, if_pos rfl, if_pos rfl, ew, if_pos (by omega), if_pos (by omega), Int.toNat_natCast, ht, rSum_ok (by omega) (by omega) (hp.app hqn), bs, if_pos (eqb_self _ _)]
      exact cuts_loop hx hl hc hcl m k (i + 1) (p ++ q.take n) (q.drop n) (by omega) (by omega) (by rw [List.append_assoc, List.take_append_drop, hpq]) (fun e => List.drop_eq_nil_of_le (by have := hm e; omega))
    rw [drawlotlaw05_ShaCuts.l0, if_pos (by omega)]
    by_cases hi2 : i < c.length
    · have hv := hc (rd c i) (by obtain ⟨h, e⟩ := rd_lt (l := c) (i := (i : Int)) (by omega) (by omega); rw [e]; exact List.getElem_mem h)
      have e1 : wrap64 ((q.length : Int) + 1) = ((q.length + 1 : Nat) : Int) := by rw [w64_id (by omega) (by omega)]; omega
      have e2 : wrap64 (rd c i) = rd c i := w64_id (by omega) (by omega)
      have e3 : Int.tmod (rd c i) ((q.length + 1 : Nat) : Int) = (((rd c i).toNat % (q.length + 1) : Nat) : Int) := by
        rw [Int.tmod_eq_emod_of_nonneg hv.1, Int.natCast_emod, Int.toNat_of_nonneg hv.1]
      have hn : (rd c i).toNat % (q.length + 1) ≤ q.length := by have := Nat.mod_lt (rd c i).toNat (show 0 < q.length + 1 by omega); omega
      rw [if_pos (by omega), if_pos (by omega), e1, if_neg (by omega), e2, e3, if_pos (by omega), if_pos (by omega), Int.toNat_natCast, en]
      exact go _ hn (fun e => absurd hi2 (by omega))
    · rw [if_neg (by omega), if_pos (by omega), if_pos (by omega), Int.toNat_natCast, en]
      exact go _ (Nat.le_refl _) (fun _ => rfl)
theorem ShaCuts : drawlotlaw05_ShaCuts.Pure := by
  intro x c _ _ hx _ _ hc
  refine ⟨3000, ?_⟩
  unfold drawlotlaw05_ShaCuts.f
  rw [alive05 _ (by omega), bs, if_pos rfl]
  by_cases h1 : (x.length : Int) > 1000
  · rw [if_pos h1]
  · rw [if_neg h1]
    by_cases h2 : (c.length : Int) > 20
    · rw [if_pos h2]
    · rw [if_neg h2, show sha_New.f = some (H0, [], 0) from rfl, bs]
      exact cuts_loop (fun v hv => wf8 (hx v hv)) (by omega) (fun v hv => wf16 (hc v hv)) (by omega) (c.length + 1) 3000 0 [] x (by omega) (by omega) rfl (fun e => by omega)
end Go.Proofs.YtkcdcbiobkcpmaaDoor.Pure
end
section
namespace Go.Proofs.YtkcdcbiobkcpmaaDoorW.PrintWords
open Go.ChangeShapes Go.WideShapes
theorem sized_ints {H : Type} {enc : TypeId × Value → H} {P : Program} {W : World} {base : Nat} {spare : Nat → Bool} {held : Bool} {t e : TypeId} {k : IntKind} {a : Option Addr} {len cap : Nat} {d : DataW H} {ps : List MemPlace} {ts : List TypeId} {ds : List (DataW H)} {j : Nat}
    (hsz : (DataW.weightsEach P ts ds).all (· ≤ reachBytes) = true) (ht : ts[j]? = some t) (hd : ds[j]? = some d) (hu : P.underlying t = some (.slice e)) (he : P.underlying e = some (.int k)) (hc : P.cellsOf e = 1) {B : Nat} (hB : P.bytesOf e = B)
    (h : DataW.Trod enc P W base spare held t (.slice a len cap) d ps) : len * B ≤ 140737488351232 := by
  obtain ⟨fuel, hf⟩ := h
  rcases open_ints hu he hc hf with ⟨hcs, _⟩ | ⟨x, l, c, zs, hcs, _, hl, _, hz, hx, _, _⟩
  · simp [Value.cells] at hcs
    obtain ⟨rfl, rfl, rfl⟩ := hcs
    simp
  · simp [Value.cells] at hcs
    obtain ⟨rfl, rfl, rfl⟩ := hcs
    obtain ⟨hx, _⟩ := Prod.mk.inj hx
    subst hx
    have z := sized_slice hsz ht hd hu
    rw [hB] at z
    have hl2 : len ≤ zs.length := by
      rw [hz]
      split
      · exact hl
      · exact Nat.le_refl _
    have h1 : (lits (H := H) k (zs.take len)).length + (lits (H := H) k (zs.drop len)).length = zs.length := by
      simp [lits]
      omega
    rw [h1] at z
    exact Nat.le_trans (Nat.mul_le_mul_right _ hl2) z
end Go.Proofs.YtkcdcbiobkcpmaaDoorW.PrintWords
end
section
namespace Go.Proofs.YtkcdcbiobkcpmaaDoor.shaCuts
open Go.ChangeShapes Go.WideShapes Go.ChangeAt Go.RowKit
open Go.ChangeMaps (open_string shut_string)
set_option linter.unusedVariables false
theorem own : ownKnob Tryd.prog.godebug = none := by kernel_rfl
theorem laidOut : laidOutB Tryd.prog = true := by kernel_rfl
def IsRow (k : IntKind) (w : World) (a : Option Addr) (len cap : Nat) (zs : List Int) : Prop :=
  (a = none ∧ len = 0 ∧ cap = 0 ∧ zs = []) ∨
  ∃ x, a = some x ∧ len ≤ cap ∧ cap ≤ maxLen ∧ zs.length = cap ∧ (∀ i, i < zs.length → w.cell? (x.add i) = some (.int k (zs.getD i 0))) ∧ ∀ n ∈ zs, (Lit.int k n).wf = true
theorem door_met (os : Os) (args : Array Value) : laidMetH Tryd.prog Rows.shaCutsRow.laid ((World.laidAll Tryd.prog os Rows.shaCutsRow.laid).forCall (fun _ _ => 0) ⟨#[], args, []⟩).memory := by
  rw [MakeChecks.laidMetH_plain _ _ _ (by kernel_rfl)]
  exact laidMet_laidAll _ (by kernel_rfl) (by kernel_rfl)
set_option maxRecDepth 100000 in
theorem lifted (os : Os) (started : os.Started) (H : Type) (enc : TypeId × Value → H) :
    ReturnsInHanded {} Tryd.checked os 5 .any (fun w args => (Rows.shaCutsSpec.pre enc Tryd.prog Tryd.f5 Rows.shaCutsRow.domain false w args ∧ laidMetH Tryd.prog Rows.shaCutsRow.laid w) ∧ sizedMet enc Tryd.prog Tryd.f5 (OpenSpec.ofChange Rows.shaCutsSpec) false w args) (Rows.shaCutsSpec.post enc Tryd.prog Tryd.f5 false true false false) := by
  refine returnsInHanded_of_change_and (C := Tryd.checked) (X := (fun w _ => laidMetH Tryd.prog Rows.shaCutsRow.laid w)) (fun _ _ _ hh h => h.of_heap hh) own started (by kernel_rfl) Tryd.func5
    (ChangeSpec.witness_shaped (enc := enc) (C := Tryd.checked) (os := os) (X := (fun w _ => laidMetH Tryd.prog Rows.shaCutsRow.laid w)) false (World.laidAll Tryd.prog os Rows.shaCutsRow.laid) #[.slice none 0 0, .slice none 0 0] 8 (World.laidAll_os _ _ _) (World.shaped_of_ZipB (by kernel_rfl) (by kernel_rfl)) (by kernel_rfl) (by kernel_rfl) (by kernel_rfl) (door_met os _)) ?_
  intro W base args ds gs before hval0 hW hcnd hsz0 hL _
  clear hL
  have hsz : (DataW.weightsEach Tryd.prog (Tryd.f5.params.toList ++ Rows.shaCutsSpec.plain.varTypes Tryd.prog) (ds ++ gs)).all (· ≤ reachBytes) = true := hsz0
  have hval : ∀ (j : Nat) t v, Tryd.f5.params[j]? = some t → args[j]? = some v → Value.okWide Tryd.prog W .any base t v := hval0
  have hW' := hW
  obtain ⟨p, q, hA0, hV, rfl, hfz, hnd⟩ := hW
  have hA : DataW.TrodAll enc Tryd.prog W 0 (fun _ => true) true Tryd.f5.params.toList args.toList ds p := hA0
  rw [Tryd.params5] at hA hval hsz
  obtain ⟨v0, vs0, d0, ds0, p0, q0, hargs, rfl, rfl, h0, r0⟩ := trodAll_cons hA
  obtain ⟨v1, vs1, d1, ds1, p1, q1, rfl, rfl, rfl, h1, r1⟩ := trodAll_cons r0
  obtain ⟨rfl, rfl, rfl⟩ := trodAll_nil r1
  obtain rfl : args = #[v0, v1] := by cases args; simp_all
  obtain ⟨rfl, rfl⟩ := trodVars_none hV
  obtain ⟨a0, len0, cap0, rfl⟩ := okWide_slice Tryd.underlying29 (hval 0 29 v0 rfl rfl)
  have k0 := h0
  have lt0 : ∀ x ∈ p0, x.block < W.heap.size := by obtain ⟨m, hm⟩ := k0; exact DataW.trod_lt m _ _ _ hm
  obtain ⟨z0, w0⟩ : ∃ zs, IsRow .u8 W a0 len0 cap0 zs := by
    obtain ⟨fuel, hf⟩ := h0
    rcases open_ints Tryd.underlying29 Tryd.underlying5 (by kernel_rfl) hf with ⟨hcs, _⟩ | ⟨x, l, c, zs, hcs, _, hl, hm, hz, _, hcell, hwz⟩
    · simp [Value.cells] at hcs
      obtain ⟨rfl, rfl, rfl⟩ := hcs
      exact ⟨[], .inl ⟨rfl, rfl, rfl, rfl⟩⟩
    · simp [Value.cells] at hcs
      obtain ⟨rfl, rfl, rfl⟩ := hcs
      exact ⟨zs, .inr ⟨_, rfl, hl, hm, by simpa using hz, hcell, hwz⟩⟩
  have y0 : len0 * 1 ≤ 140737488351232 := Go.Proofs.YtkcdcbiobkcpmaaDoorW.PrintWords.sized_ints hsz (j := 0) (t := 29) rfl rfl Tryd.underlying29 Tryd.underlying5 (by kernel_rfl) (by kernel_rfl) h0
  obtain ⟨a1, len1, cap1, rfl⟩ := okWide_slice Tryd.underlying47 (hval 1 47 v1 rfl rfl)
  have k1 := h1
  have lt1 : ∀ x ∈ p1, x.block < W.heap.size := by obtain ⟨m, hm⟩ := k1; exact DataW.trod_lt m _ _ _ hm
  obtain ⟨z1, w1⟩ : ∃ zs, IsRow .u16 W a1 len1 cap1 zs := by
    obtain ⟨fuel, hf⟩ := h1
    rcases open_ints Tryd.underlying47 Tryd.underlying48 (by kernel_rfl) hf with ⟨hcs, _⟩ | ⟨x, l, c, zs, hcs, _, hl, hm, hz, _, hcell, hwz⟩
    · simp [Value.cells] at hcs
      obtain ⟨rfl, rfl, rfl⟩ := hcs
      exact ⟨[], .inl ⟨rfl, rfl, rfl, rfl⟩⟩
    · simp [Value.cells] at hcs
      obtain ⟨rfl, rfl, rfl⟩ := hcs
      exact ⟨zs, .inr ⟨_, rfl, hl, hm, by simpa using hz, hcell, hwz⟩⟩
  have y1 : len1 * 2 ≤ 140737488351232 := Go.Proofs.YtkcdcbiobkcpmaaDoorW.PrintWords.sized_ints hsz (j := 1) (t := 47) rfl rfl Tryd.underlying47 Tryd.underlying48 (by kernel_rfl) (by kernel_rfl) h1
  clear hA0 hval0 hsz0 hsz
  refine (PA.drawlotlaw05_ShaCuts.walk Pure.ShaCuts a0 len0 cap0 z0 a1 len1 cap1 z1 W w0 y0 w1 y1).mono fun e W' ⟨he, bel⟩ => ?_
  subst he
  exact ⟨_, rfl, _, _, _, [], _, [], hW', trodAll_mk1 (shut_bool Tryd.underlying4 _), (trodAll_cons_mk (Below.trod laidOut (by kernel_rfl) (of_decide_eq_true (by kernel_rfl)) k0 bel lt0) (trodAll_cons_mk (Below.trod laidOut (by kernel_rfl) (of_decide_eq_true (by kernel_rfl)) k1 bel lt1) trodAll_mk0)), rfl, bel.frame _, fun h => by cases h⟩
theorem over : Rows.shaCutsRow.holds Tryd.pinned (OpenSpec.ofChange Rows.shaCutsSpec) :=
  OpenClaim.holds_of_wide 5 Tryd.f5 rfl rfl rfl rfl rfl rfl rfl ⟨rfl, rfl, rfl, rfl, rfl⟩ rfl rfl rfl rfl rfl (by kernel_rfl) Tryd.func5 (by kernel_rfl)
    (of_decide_eq_true (by kernel_rfl)) (by unfold Func.isWrapper; first | (rw [if_pos (by decide +kernel)]; kernel_rfl) | (rw [if_neg (by decide +kernel)]; exact ⟨rfl, rfl⟩))
    (fun os started H enc _ => lifted os started H enc)
theorem proved : Rows.ShaCutsCardSaid :=
  Claim7.holds_tied_plain_at .later [] [.data, .pinned] true (true, "311753296e7158f837a4b53852611107cba6fa893b0917bfdbf65c92a330119a") false
    over (fun _ h => by cases h) (by kernel_rfl) (fun _ h => by cases h) shaCuts_row_tie rfl ⟨rfl, rfl⟩ (by kernel_rfl) rfl
    (fun f fn hf hfn => by
      obtain rfl : f = 5 := Option.some.inj ((show Tryd.prog.funcNamed "drawlot/drawlotlaw05.ShaCuts" = some 5 by kernel_rfl).symm.trans hf) |>.symm
      obtain rfl : fn = Tryd.f5 := (Option.some.inj (Tryd.func5.symm.trans hfn)).symm
      exact ⟨by kernel_rfl, fun j t ht => by
        rw [Tryd.params5] at ht
        have hm : t ∈ [29, 47] := by simpa using Array.mem_of_getElem? ht
        have hall : ([29, 47].all fun u => !Tryd.prog.wantsStandIn u) = true := by kernel_rfl
        exact (show Tryd.prog.wantsStandIn t = false by simpa using List.all_eq_true.1 hall t hm)⟩)
    (by kernel_rfl)
#print axioms proved
end Go.Proofs.YtkcdcbiobkcpmaaDoor.shaCuts
namespace Go.Proofs.YtkcdcbiobkcpmaaDoor
theorem shaCuts_holds : Rows.ShaCutsCardSaid := shaCuts.proved
end Go.Proofs.YtkcdcbiobkcpmaaDoor
end
