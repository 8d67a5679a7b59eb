/- Written by xprint.py, this session's own driver, for the seat Ytngacagfmpndmaa: contracts of Go functions, each saying that a call answers what a plain Lean function of the same name says, and, in a text named Law, the row of a law: its Go function answers true for every input. No conditions. -/
import Derived.Test.YtngacagfmpndmaaPFx0
import Derived.Test.YtngacagfmpndmaaPFx2
import Derived.Test.YtngacagfmpndmaaPFx3
import Derived.Test.YtngacagfmpndmaaPFx4
import Derived.Test.YtngacagfmpndmaaPFx6
namespace Go.Proofs.Ytngacagfmpndmaa.PF
open Go.RowKit Go.Proofs.YtngacagfmpndmaaW.PrintWords Go.Proofs.YtngacagfmpndmaaW.PrintLast Go.Proofs.YtngacagfmpndmaaW.PrintMore
attribute [local go_sem] max2_int min2_int max_two min_two max_three min_three max_four min_four   -- for this text's walks alone
set_option linter.unusedVariables false
set_option linter.unusedSimpArgs false

/-! ### drawlotlaw11_FenOwns: function 13 -/
mutual
def drawlotlaw11_FenOwns.l0 : Nat → List Int → Int → Int → Option (Bool)
  | 0, _, _, _ => none
  | k + 1, x0, x3, x4 => if x4 < (x0.length : Int) then (if x4 < 50 then (if 0 ≤ x4 then (drawlotlaw11_FenOwns.l0 k x0 (IntKind.u64.wrap (x3 + (Int.tmod (rd x0 x4) 50))) (wrap64 (x4 + 1))) else (none)) else (if (x0.length : Int) > 40 then (some true) else (drawlotlaw11_FenOwns.l1 k x0 x3 ([] : List Int) 0))) else (if (x0.length : Int) > 40 then (some true) else (drawlotlaw11_FenOwns.l1 k x0 x3 ([] : List Int) 0))
def drawlotlaw11_FenOwns.l1 : Nat → List Int → Int → List Int → Int → Option (Bool)
  | 0, _, _, _, _ => none
  | k + 1, x0, x3, x5, x6 => if x6 < (x0.length : Int) then (if 0 ≤ x6 then (if x5.length < 17592186044416 then (drawlotlaw11_FenOwns.l1 k x0 x3 (x5 ++ [Int.tmod (rd x0 x6) 50]) (wrap64 (x6 + 1))) else (none)) else (none)) else ((fen_Build.f k x5).bind fun bt571 => (if bt571.2 = 0 then (if 0 ≤ (x0.length : Int) then (if ((x0.length : Int) : Int).toNat ≤ 35184372088832 then (drawlotlaw11_FenOwns.l2 k x3 x5 (List.replicate ((x0.length : Int) : Int).toNat 0) 0 bt571.1) else (none)) else (none)) else (none)))
def drawlotlaw11_FenOwns.l2 : Nat → Int → List Int → List Int → Int → List Int → Option (Bool)
  | 0, _, _, _, _, _ => none
  | k + 1, x3, x5, x9, x10, x576000 => if x10 < x3 then ((fen_Owner.f k x576000 x10).bind fun bt579 => (if bt579.2 = 0 then (if bt579.1 < 0 then (none) else (if bt579.1 ≥ (x9.length : Int) then (none) else (if 0 ≤ bt579.1 then (if bt579.1 < (x9.length : Int) then (drawlotlaw11_FenOwns.l2 k x3 x5 (x9.set (bt579.1 : Int).toNat (IntKind.u64.wrap ((rd x9 bt579.1) + 1))) (IntKind.u64.wrap (x10 + 1)) x576000) else (none)) else (none)))) else (none))) else ((drawlotref09_Same.f k x9 x5).bind fun t583 => (some t583))
end
def drawlotlaw11_FenOwns.f (k : Nat) (l0 : List Int) : Option (Bool) := (drawlotlaw11_alive.f k).bind fun t565 => (if t565 = true then (drawlotlaw11_FenOwns.l0 k l0 0 0) else (none))
theorem drawlotlaw11_FenOwns.mono_l : ∀ k, (∀ y0 y1 y2, LeO (drawlotlaw11_FenOwns.l0 k y0 y1 y2) (drawlotlaw11_FenOwns.l0 (k + 1) y0 y1 y2)) ∧ (∀ y0 y1 y2 y3, LeO (drawlotlaw11_FenOwns.l1 k y0 y1 y2 y3) (drawlotlaw11_FenOwns.l1 (k + 1) y0 y1 y2 y3)) ∧ (∀ y0 y1 y2 y3 y4, LeO (drawlotlaw11_FenOwns.l2 k y0 y1 y2 y3 y4) (drawlotlaw11_FenOwns.l2 (k + 1) y0 y1 y2 y3 y4))
  | 0 => ⟨fun _ _ _ r h => by simp [drawlotlaw11_FenOwns.l0] at h, fun _ _ _ _ r h => by simp [drawlotlaw11_FenOwns.l1] at h, fun _ _ _ _ _ r h => by simp [drawlotlaw11_FenOwns.l2] at h⟩
  | k + 1 => by
    obtain ⟨ih0, ih1, ih2⟩ := drawlotlaw11_FenOwns.mono_l k
    refine ⟨?_, ?_, ?_⟩
    · intro y0 y1 y2
      unfold drawlotlaw11_FenOwns.l0
      repeat' first
      | (with_reducible exact ih0 _ _ _)
      | (with_reducible exact ih1 _ _ _ _)
      | (with_reducible exact ih2 _ _ _ _ _)
      | (with_reducible exact drawlotlaw11_alive.mono _)
      | (with_reducible exact drawlotref09_Same.mono _ _ _)
      | (with_reducible exact fen_Build.mono _ _)
      | (with_reducible exact fen_Owner.mono _ _ _)
      | (with_reducible exact LeO.refl _)
      | (with_reducible exact LeO.none _)
      | (with_reducible refine LeO.ite ?_ ?_)
      | (with_reducible refine LeO.bind ?_ (fun _ => ?_))
      | exact ih0 _ _ _
      | exact ih1 _ _ _ _
      | exact ih2 _ _ _ _ _
      | exact drawlotlaw11_alive.mono _
      | exact drawlotref09_Same.mono _ _ _
      | exact fen_Build.mono _ _
      | exact fen_Owner.mono _ _ _
      | exact LeO.none _
      | refine LeO.ite ?_ ?_
      | refine LeO.bind ?_ (fun _ => ?_)
    · intro y0 y1 y2 y3
      unfold drawlotlaw11_FenOwns.l1
      repeat' first
      | (with_reducible exact ih0 _ _ _)
      | (with_reducible exact ih1 _ _ _ _)
      | (with_reducible exact ih2 _ _ _ _ _)
      | (with_reducible exact drawlotlaw11_alive.mono _)
      | (with_reducible exact drawlotref09_Same.mono _ _ _)
      | (with_reducible exact fen_Build.mono _ _)
      | (with_reducible exact fen_Owner.mono _ _ _)
      | (with_reducible exact LeO.refl _)
      | (with_reducible exact LeO.none _)
      | (with_reducible refine LeO.ite ?_ ?_)
      | (with_reducible refine LeO.bind ?_ (fun _ => ?_))
      | exact ih0 _ _ _
      | exact ih1 _ _ _ _
      | exact ih2 _ _ _ _ _
      | exact drawlotlaw11_alive.mono _
      | exact drawlotref09_Same.mono _ _ _
      | exact fen_Build.mono _ _
      | exact fen_Owner.mono _ _ _
      | exact LeO.none _
      | refine LeO.ite ?_ ?_
      | refine LeO.bind ?_ (fun _ => ?_)
    · intro y0 y1 y2 y3 y4
      unfold drawlotlaw11_FenOwns.l2
      repeat' first
      | (with_reducible exact ih0 _ _ _)
      | (with_reducible exact ih1 _ _ _ _)
      | (with_reducible exact ih2 _ _ _ _ _)
      | (with_reducible exact drawlotlaw11_alive.mono _)
      | (with_reducible exact drawlotref09_Same.mono _ _ _)
      | (with_reducible exact fen_Build.mono _ _)
      | (with_reducible exact fen_Owner.mono _ _ _)
      | (with_reducible exact LeO.refl _)
      | (with_reducible exact LeO.none _)
      | (with_reducible refine LeO.ite ?_ ?_)
      | (with_reducible refine LeO.bind ?_ (fun _ => ?_))
      | exact ih0 _ _ _
      | exact ih1 _ _ _ _
      | exact ih2 _ _ _ _ _
      | exact drawlotlaw11_alive.mono _
      | exact drawlotref09_Same.mono _ _ _
      | exact fen_Build.mono _ _
      | exact fen_Owner.mono _ _ _
      | exact LeO.none _
      | refine LeO.ite ?_ ?_
      | refine LeO.bind ?_ (fun _ => ?_)
theorem drawlotlaw11_FenOwns.mono : ∀ a0 k, LeO (drawlotlaw11_FenOwns.f k a0) (drawlotlaw11_FenOwns.f (k + 1) a0) := by
  intro a0 k
  obtain ⟨ih0, ih1, ih2⟩ := drawlotlaw11_FenOwns.mono_l k
  unfold drawlotlaw11_FenOwns.f
  repeat' first
      | (with_reducible exact ih0 _ _ _)
      | (with_reducible exact ih1 _ _ _ _)
      | (with_reducible exact ih2 _ _ _ _ _)
      | (with_reducible exact drawlotlaw11_alive.mono _)
      | (with_reducible exact drawlotref09_Same.mono _ _ _)
      | (with_reducible exact fen_Build.mono _ _)
      | (with_reducible exact fen_Owner.mono _ _ _)
      | (with_reducible exact LeO.refl _)
      | (with_reducible exact LeO.none _)
      | (with_reducible refine LeO.ite ?_ ?_)
      | (with_reducible refine LeO.bind ?_ (fun _ => ?_))
      | exact ih0 _ _ _
      | exact ih1 _ _ _ _
      | exact ih2 _ _ _ _ _
      | exact drawlotlaw11_alive.mono _
      | exact drawlotref09_Same.mono _ _ _
      | exact fen_Build.mono _ _
      | exact fen_Owner.mono _ _ _
      | exact LeO.none _
      | refine LeO.ite ?_ ?_
      | refine LeO.bind ?_ (fun _ => ?_)
set_option maxHeartbeats 8000000 in
set_option maxRecDepth 100000 in
theorem drawlotlaw11_FenOwns.calls (k : Nat) (A0 : Option Addr) (c0 : Nat) (l0 : List Int) (r : Bool) (w : World) (hr0 : Kd.C (Kd.int .u64) w A0 l0.length l0) (hc0 : l0.length ≤ c0) (h : drawlotlaw11_FenOwns.f k l0 = some r) :
    Calls Try.prog 13 #[.slice A0 l0.length c0] w fun e w' => e = .returned (.bool r) ∧ Below w.heap.size w w' := by
  have hu49 := Try.underlying49
  have HR0 := Aside0.mk hr0
  have HC0 := Aside0.mk hc0
  clear hr0 hc0
  have HB := Aside0.mk (Below.refl w.heap.size w)
  have H : ((drawlotlaw11_alive.f k).bind fun t565 => (if t565 = true then (drawlotlaw11_FenOwns.l0 k l0 0 0) else (none))) = some r := h
  clear h
  replace H := Option.bind_eq_some_iff.mp H
  obtain ⟨t565, A20, H⟩ := H
  replace H : (if t565 = true then (drawlotlaw11_FenOwns.l0 k l0 0 0) else (none)) = some r := H
  have A2 := Aside0.mk A20
  clear A20
  by_cases c3 : t565 = true
  · subst c3
    have H1 : (drawlotlaw11_FenOwns.l0 k l0 0 0) = some r := by rw [if_pos rfl] at H; exact H
    clear H
    have H := H1
    clear H1
    have H' := Aside0.mk H
    clear H
    go_enter Try.func13, Try.ntmps13
    try simp only [List.append]
    go_wp2_with (first | ((with_reducible refine gate_callee (f := 37) rfl ?_); refine goesL_ (some 13) rfl rfl Try.func37 (by kernel_rfl) rfl #[] rfl (by (try simp only [List.map_toArray, List.map_cons, List.map_nil]); first | done | rfl | (simp only [List.length_drop, List.length_take]; rfl)) ?_; (with_reducible refine (drawlotlaw11_alive.calls k  true _ A2.out).mono ?_); rintro e w4 ⟨rfl, hb⟩; refine ⟨_, rfl, ?_⟩; have n0_ := Aside0.mk (below_step (by repeat (first | (with_reducible first | exact HB.out | apply below_alloc | apply pw_below_drewN | apply below_drew1) | exact HB.out)) hb); clear HB; have HB := n0_; clear n0_; (try clear hb); (try clear hb2); (try clear hk); (try clear hi)))
    go_loopg [3, 4] k (fun kq v3 v4 w' => ∃ (x3_1 : Int) (x4_1 : Int), v3 = .int .u64 x3_1 ∧ v4 = .int .i64 x4_1 ∧ Aside0 (drawlotlaw11_FenOwns.l0 kq l0 x3_1 x4_1 = some r) ∧ Aside0 (kq ≤ k) ∧ Aside0 (Below w.heap.size w w'))
    case atStart => exact ⟨(0), (0), (by first | rfl | (simp; done) | (simp [*]; done)), (by first | rfl | (simp; done) | (simp [*]; done)), H', ⟨Nat.le_refl _⟩, ⟨by repeat (first | (with_reducible first | exact HB.out | apply below_alloc | apply pw_below_drewN | apply below_drew1) | exact HB.out)⟩⟩
    case round =>
      clear H'
      try clear c1
      try clear p2
      try clear c3
      obtain ⟨x3_1, x4_1, rfl, rfl, HA, HK1, HB⟩ := hrel
      cases gk with
      | zero => exact absurd HA.out (by simp [drawlotlaw11_FenOwns.l0])
      | succ k1 =>
        have H := HA.out
        clear HA
        simp only [drawlotlaw11_FenOwns.l0] at H
        by_cases c5 : x4_1 < (l0.length : Int)
        · rw [if_pos c5] at H
          have c5b0 : decide (x4_1 < (l0.length : Int)) = true := decide_eq_true c5
          clear c5
          by_cases c6 : x4_1 < 50
          · rw [if_pos c6] at H
            have c6b0 : decide (x4_1 < 50) = true := decide_eq_true c6
            clear c6
            by_cases c7 : 0 ≤ x4_1
            · rw [if_pos c7] at H
              have c7b0 : decide (0 ≤ x4_1) = true := decide_eq_true c7
              clear c7
              have H' := Aside0.mk H
              clear H
              have p566 : 0 ≤ (x4_1 : Int) := of_decide_eq_true (by first | (with_reducible assumption) | assumption)
              have q566 : x4_1 < (l0.length : Int) := of_decide_eq_true (by first | (with_reducible assumption) | assumption)
              obtain ⟨ad566, e566, hx566_0⟩ := Kd.at_int HR0.out x4_1 p566 q566
              cases e566
              replace hx566_0 := (HB.out.cell (World.block_lt_of_cell? w _ hx566_0)).trans hx566_0
              replace p566 := eq_true p566
              replace q566 := eq_true q566
              go_wp2
              go_roundg k1
              case measure => have := HK1.out; omega
              case rel => exact ⟨(IntKind.u64.wrap (x3_1 + (Int.tmod (rd l0 x4_1) 50))), (wrap64 (x4_1 + 1)), (by first | rfl | (simp; done) | (simp [*]; done)), (by first | rfl | (simp; done) | (simp [*]; done)), H', ⟨by have := HK1.out; omega⟩, ⟨by repeat (first | (with_reducible first | exact HB.out | apply below_alloc | apply pw_below_drewN | apply below_drew1) | exact HB.out)⟩⟩
            · rw [if_neg c7] at H
              exact absurd H (by simp)
          · rw [if_neg c6] at H
            have c6b0 : decide (x4_1 < 50) = false := decide_eq_false c6
            clear c6
            by_cases c8 : (l0.length : Int) > 40
            · rw [if_pos c8] at H
              have c8b0 : decide (40 < (l0.length : Int)) = true := decide_eq_true c8
              have c8b1 : decide (40 < l0.length) = true := decide_eq_true (by omega)
              clear c8
              obtain rfl := Option.some.inj H
              go_wp2
              go_ret
              exact ⟨by first | rfl | (simp [errW_none, errW_some] <;> rfl) | (simp [*, errW_none, errW_some] <;> rfl), by repeat (first | (with_reducible first | exact HB.out | apply below_alloc | apply pw_below_drewN | apply below_drew1) | exact HB.out)⟩
            · rw [if_neg c8] at H
              have c8b0 : decide (40 < (l0.length : Int)) = false := decide_eq_false c8
              have c8b1 : decide (40 < l0.length) = false := decide_eq_false (by omega)
              clear c8
              have H' := Aside0.mk H
              clear H
              go_wp2
              go_loopg [5, 6] k1 (fun kq v5 v6 w' => ∃ (x5_2 : List Int) (x6_2 : Int), v6 = .int .i64 x6_2 ∧ Aside0 (drawlotlaw11_FenOwns.l1 kq l0 x3_1 x5_2 x6_2 = some r) ∧ Aside0 (kq ≤ k1) ∧ Aside0 (Kd.R (Kd.int .u64) 22 w' w.heap.size (fun _ => True) v5 x5_2) ∧ Aside0 (Below w.heap.size w w'))
              case atStart => exact ⟨(([] : List Int)), (0), (by first | rfl | (simp; done) | (simp [*]; done)), H', ⟨Nat.le_refl _⟩, ⟨by first | exact Kd.R_nil _ _ _ _ _ | exact Kd.N_nil _ _ _ _ _ | exact Kd.V_nil _ _ _ _ _ | exact Kd.Q_nil _ _ _ _ _ | exact Kd.S_nil _ _ _ _ _⟩, ⟨by repeat (first | (with_reducible first | exact HB.out | apply below_alloc | apply pw_below_drewN | apply below_drew1) | exact HB.out)⟩⟩
              case round =>
                clear H'
                try clear c1
                try clear p2
                try clear c3
                try clear c5
                try clear c5b0
                try clear p5
                try clear q5
                try clear hx5
                try clear c6
                try clear c6b0
                try clear p6
                try clear c7
                try clear c7b0
                try clear c8
                try clear c8b0
                try clear c8b1
                try clear hx566_0
                try clear p2
                try clear p566
                try clear q566
                obtain ⟨x5_2, x6_2, rfl, HA, HK2, HO_5, HB⟩ := hrel
                cases gk with
                | zero => exact absurd HA.out (by simp [drawlotlaw11_FenOwns.l1])
                | succ k2 =>
                  have H := HA.out
                  clear HA
                  simp only [drawlotlaw11_FenOwns.l1] at H
                  by_cases c9 : x6_2 < (l0.length : Int)
                  · rw [if_pos c9] at H
                    have c9b0 : decide (x6_2 < (l0.length : Int)) = true := decide_eq_true c9
                    clear c9
                    by_cases c10 : 0 ≤ x6_2
                    · rw [if_pos c10] at H
                      have c10b0 : decide (0 ≤ x6_2) = true := decide_eq_true c10
                      clear c10
                      by_cases c11 : x5_2.length < 17592186044416
                      · rw [if_pos c11] at H
                        have LMc11 := Aside0.mk c11
                        clear c11
                        obtain ⟨y568, hy568⟩ : ∃ y_ : List Int, y_ = (x5_2 ++ [Int.tmod (rd l0 x6_2) 50]) := ⟨_, rfl⟩
                        replace H : (drawlotlaw11_FenOwns.l1 k2 l0 x3_1 y568 (wrap64 (x6_2 + 1))) = some r := by first | (rw [hy568]; with_reducible exact H) | (have H2_ := (Option.bind_some _ _).symm.trans H; rw [hy568]; with_reducible exact H2_) | (have H2_ := (Option.bind_some _ _).symm.trans H; with_reducible exact H2_) | with_reducible exact H | (rw [hy568]; exact H) | exact H
                        have Ny568 := Aside0.mk hy568
                        clear hy568
                        have H' := Aside0.mk H
                        clear H
                        have p567 : 0 ≤ (x6_2 : Int) := of_decide_eq_true (by first | (with_reducible assumption) | assumption)
                        have q567 : x6_2 < (l0.length : Int) := of_decide_eq_true (by first | (with_reducible assumption) | assumption)
                        obtain ⟨ad567, e567, hx567_0⟩ := Kd.at_int HR0.out x6_2 p567 q567
                        cases e567
                        replace hx567_0 := (HB.out.cell (World.block_lt_of_cell? w _ hx567_0)).trans hx567_0
                        replace p567 := eq_true p567
                        replace q567 := eq_true q567
                        go_wp2_with (first | ((with_reducible refine gate_builtin (b := .append) (xs := #[.tmp 41, .tmp 47]) rfl ?_); (try (refine gate_guard (by rfl) ?_; dsimp only)); at_builtin; refine Kd.R_append (Kd.int .u64) (w0 := w) w.heap.size rfl (.tmp 41) (.tmp 47) 28 22 (.int .u64 0) 8 rfl Try.underlying28 info22 rfl (by decide) (by omega) u5 x5_2 (Int.tmod (rd l0 x6_2) 50) [.int .u64 (Int.tmod (rd l0 x6_2) 50)] (fun _ => True) (fun _ => False) rfl rfl ?aP (fun _ hk => hk.elim) ?aF ?aO ?aB ?aS ?aL ?_; (case aP => exact rfl); (case aB => exact (by repeat (first | (with_reducible first | exact HB.out | apply below_alloc | apply pw_below_drewN | apply below_drew1) | exact HB.out))); (case aF => exact (fun _ _ => trivial)); (case aO => exact (by (with_reducible repeat (first | apply Kd.R_alloc | apply Kd.R_drewN | apply Kd.R_drew)); exact HO_5.out)); (case aS => exact (below_size (by repeat (first | (with_reducible first | exact HB.out | apply below_alloc | apply pw_below_drewN | apply below_drew1) | exact HB.out)))); (case aL => have := LMc11.out; omega); intro v569 w12 ho hb hg hat; rw [← Ny568.out] at ho; have n0_ := Aside0.mk (hb); have n1_ := Aside0.mk (ho); clear HB; clear HO_5; have HB := n0_; have HO570 := n1_; clear n0_ n1_; clear ho hb hg hat))
                        go_roundg k2
                        case measure => have := HK1.out; have := HK2.out; omega
                        case rel => exact ⟨(y568), (wrap64 (x6_2 + 1)), (by first | rfl | (simp; done) | (simp [*]; done)), H', ⟨by have := HK1.out; have := HK2.out; omega⟩, ⟨by (with_reducible repeat (first | apply Kd.R_alloc | apply Kd.R_drewN | apply Kd.R_drew)); exact HO570.out⟩, ⟨by repeat (first | (with_reducible first | exact HB.out | apply below_alloc | apply pw_below_drewN | apply below_drew1) | exact HB.out)⟩⟩
                      · rw [if_neg c11] at H
                        exact absurd H (by simp)
                    · rw [if_neg c10] at H
                      exact absurd H (by simp)
                  · rw [if_neg c9] at H
                    have c9b0 : decide (x6_2 < (l0.length : Int)) = false := decide_eq_false c9
                    clear c9
                    replace H := Option.bind_eq_some_iff.mp H
                    obtain ⟨⟨t571, t574⟩, A130, H⟩ := H
                    replace H : (if t574 = 0 then (if 0 ≤ (l0.length : Int) then (if ((l0.length : Int) : Int).toNat ≤ 35184372088832 then (drawlotlaw11_FenOwns.l2 k2 x3_1 x5_2 (List.replicate ((l0.length : Int) : Int).toNat 0) 0 t571) else (none)) else (none)) else (none)) = some r := H
                    have A13 := Aside0.mk A130
                    clear A130
                    by_cases c14 : t574 = 0
                    · rw [if_pos c14] at H
                      have c14b0 : (t574 == 0) = true := beq_iff_eq.mpr c14
                      have c14b1 : (t574 != 0) = false := bne_eq_false_iff_eq.mpr c14
                      clear c14
                      by_cases c15 : 0 ≤ (l0.length : Int)
                      · rw [if_pos c15] at H
                        have c15b0 := eq_true c15
                        have c15b1 : decide (0 ≤ (l0.length : Int)) = true := decide_eq_true c15
                        clear c15
                        by_cases c16 : ((l0.length : Int) : Int).toNat ≤ 35184372088832
                        · rw [if_pos c16] at H
                          have c16b0 := eq_true c16
                          have c16b1 : decide (((l0.length : Int) : Int).toNat ≤ 35184372088832) = true := decide_eq_true c16
                          clear c16
                          obtain ⟨y576, hy576⟩ : ∃ y_ : List Int, y_ = (List.replicate ((l0.length : Int) : Int).toNat 0) := ⟨_, rfl⟩
                          replace H : (drawlotlaw11_FenOwns.l2 k2 x3_1 x5_2 y576 0 t571) = some r := by first | (rw [hy576]; with_reducible exact H) | (have H2_ := (Option.bind_some _ _).symm.trans H; rw [hy576]; with_reducible exact H2_) | (have H2_ := (Option.bind_some _ _).symm.trans H; with_reducible exact H2_) | with_reducible exact H | (rw [hy576]; exact H) | exact H
                          have Ny576 := Aside0.mk hy576
                          clear hy576
                          have H' := Aside0.mk H
                          clear H
                          obtain ⟨Ao17, co17, eo17⟩ := Kd.R_slice HO_5.out
                          subst eo17
                          go_wp2_with (first | ((with_reducible refine gate_callee (f := 35) rfl ?_); refine goesL_ (some 51) rfl rfl Try.func35 (by kernel_rfl) rfl #[.slice Ao17 x5_2.length co17] rfl (by (try simp only [List.map_toArray, List.map_cons, List.map_nil]); first | done | rfl | (simp only [List.length_drop, List.length_take]; rfl)) ?_; (with_reducible refine (fen_Build.calls k2 _ _ x5_2 t571 t574 _ ?side1 ?side2 A13.out).mono ?_); (case side1 => repeat (first | exact (Kd.R_reads' HO_5.out).2.2 | (with_reducible refine Kd.C_alloc ?_ _) | (with_reducible refine Kd.C_drewN ?_ _) | (with_reducible refine Kd.C_drew ?_))); (case side2 => exact (Kd.R_reads' HO_5.out).2.1); rintro e w18 ⟨v572, rfl, ho0, hb⟩; refine ⟨_, rfl, ?_⟩; have n0_ := Aside0.mk (Kd.R_elder' (by (with_reducible repeat (first | apply Kd.R_alloc | apply Kd.R_drewN | apply Kd.R_drew)); exact HO_5.out) (Kd.R_base ho0) hb); have n1_ := Aside0.mk (Kd.R_lower (Kd.R_new' ho0 (Kd.R_lt (by (with_reducible repeat (first | apply Kd.R_alloc | apply Kd.R_drewN | apply Kd.R_drew)); exact HO_5.out))) (below_size (by repeat (first | (with_reducible first | exact HB.out | apply below_alloc | apply pw_below_drewN | apply below_drew1) | exact HB.out)))); have n2_ := Aside0.mk (below_step (by repeat (first | (with_reducible first | exact HB.out | apply below_alloc | apply pw_below_drewN | apply below_drew1) | exact HB.out)) hb); clear HO_5; clear HB; have HO_5 := n0_; have HO573 := n1_; have HB := n2_; clear n0_ n1_ n2_; (try clear hb); (try clear hb2); (try clear hk); (try clear hi); (try clear ho0)) | ((with_reducible refine gate_dst (N := 7) rfl ?_); (try (refine gate_guard (by rfl) ?_; dsimp only)); refine box_event ?hg (N := 7) ?hd (cs := #[.slice none 0 0]) (t := 49) ?hr ?_; (case hd => rfl); (case hg => rfl); (case hr => first | (go_simp; done) | (go_simp; rfl)); intro gb575 hg w19 hbox hb; have n0_ := Aside0.mk (Kd.R_below (by (with_reducible repeat (first | apply Kd.R_alloc | apply Kd.R_drewN | apply Kd.R_drew)); exact HO_5.out) hb); have n1_ := Aside0.mk (Kd.R_below (by (with_reducible repeat (first | apply Kd.R_alloc | apply Kd.R_drewN | apply Kd.R_drew)); exact HO573.out) hb); have n2_ := Aside0.mk (below_step (by repeat (first | (with_reducible first | exact HB.out | apply below_alloc | apply pw_below_drewN | apply below_drew1) | exact HB.out)) hb); have n3_ := Aside0.mk (hbox); have n4_ := Aside0.mk ((by rw [hg]; exact (below_size (by repeat (first | (with_reducible first | exact HB.out | apply below_alloc | apply pw_below_drewN | apply below_drew1) | exact HB.out))) : w.heap.size ≤ gb575)); have n5_ := Aside0.mk ((by rw [hg]; exact (below_size (by repeat (first | (with_reducible first | exact HB.out | apply below_alloc | apply pw_below_drewN | apply below_drew1) | exact HB.out))) : w.heap.size ≤ gb575)); clear HO_5; clear HO573; clear HB; have HO_5 := n0_; have HO573 := n1_; have HB := n2_; have BK575 := n3_; have GW575 := n4_; have GE575 := n5_; clear n0_ n1_ n2_ n3_ n4_ n5_; clear hb hbox hg; obtain ⟨Ao20, co20, eo20⟩ := Kd.R_slice HO573.out; subst eo20; have hcz21_0 : w19.cell? ⟨gb575, 0, none⟩ = some (.slice none 0 0) := (blk_cell BK575.out 0).trans rfl; have hfz21_0 := blk_frozen BK575.out 0) | ((with_reducible refine gate_dst (N := 58) rfl ?_); (try (refine gate_guard (by rfl) ?_; dsimp only)); refine Kd.R_make (Kd.int .u64) _ 22 rfl (N := 58) rfl 28 _ _ rfl (l0.length : Int) rfl rfl Try.underlying28 (.int .u64 0) 8 info22 rfl (by decide) (by omega) 0 (ok := fun _ => True) (okp := fun _ => True) rfl (fun _ hk => hk) trivial (of_decide_eq_true (by first | (with_reducible assumption) | assumption)) (Nat.le_trans (Nat.mul_le_mul_right _ (of_decide_eq_true (by first | (with_reducible assumption) | assumption) : (l0.length : Int).toNat ≤ 35184372088832)) (by omega)) (Below.refl _ _) (Nat.le_refl _) ?_; intro v577 w22 ho23 hb hg_ hnew_; clear hg_ hnew_; (first | rw [← Ny576.out] at ho23 | (simp only [Int.reduceToNat] at ho23; rw [← Ny576.out] at ho23)); have n0_ := Aside0.mk (Kd.R_elder' (by (with_reducible repeat (first | apply Kd.R_alloc | apply Kd.R_drewN | apply Kd.R_drew)); exact (Kd.R_mono (Kd.R_far (p := ⟨gb575, 0, none⟩) (Kd.R_types HO_5.out BK575.out (by decide)) (fun _ hk => hk.2) (.slice Ao20 t571.length co20)) (fun _ h_ => h_.1))) (Kd.R_base ho23) hb); have n1_ := Aside0.mk (Kd.R_elder' (by (with_reducible repeat (first | apply Kd.R_alloc | apply Kd.R_drewN | apply Kd.R_drew)); exact (Kd.R_mono (Kd.R_far (p := ⟨gb575, 0, none⟩) (Kd.R_types HO573.out BK575.out (by decide)) (fun _ hk => hk.2) (.slice Ao20 t571.length co20)) (fun _ h_ => h_.1))) (Kd.R_base ho23) hb); have n2_ := Aside0.mk (Kd.R_lower (Kd.R_new' (Kd.R_new' ho23 (Kd.R_lt (by (with_reducible repeat (first | apply Kd.R_alloc | apply Kd.R_drewN | apply Kd.R_drew)); exact (Kd.R_mono (Kd.R_far (p := ⟨gb575, 0, none⟩) (Kd.R_types HO_5.out BK575.out (by decide)) (fun _ hk => hk.2) (.slice Ao20 t571.length co20)) (fun _ h_ => h_.1))))) (Kd.R_lt (by (with_reducible repeat (first | apply Kd.R_alloc | apply Kd.R_drewN | apply Kd.R_drew)); exact (Kd.R_mono (Kd.R_far (p := ⟨gb575, 0, none⟩) (Kd.R_types HO573.out BK575.out (by decide)) (fun _ hk => hk.2) (.slice Ao20 t571.length co20)) (fun _ h_ => h_.1))))) (below_size (by repeat (first | (with_reducible first | exact HB.out | apply below_alloc | apply pw_below_drewN | apply below_drew1 | refine below_set ?_ GE575.out) | exact HB.out)))); have n3_ := Aside0.mk (blk_below (g := gb575) (o := .cells #[.slice Ao20 t571.length co20] 49 (0, 0)) (by (with_reducible repeat (first | refine blk_drewN ?_ _ | refine blk_drew ?_ | refine blk_alloc ?_ _)); refine blk_put (cs := #[.slice none 0 0]) ?_ 0 _ rfl; (with_reducible repeat (first | refine blk_drewN ?_ _ | refine blk_drew ?_ | refine blk_alloc ?_ _)); exact BK575.out) hb); have n4_ := Aside0.mk (below_step (by repeat (first | (with_reducible first | exact HB.out | apply below_alloc | apply pw_below_drewN | apply below_drew1 | refine below_set ?_ GE575.out) | exact HB.out)) hb); clear HO_5; clear HO573; clear BK575; clear HB; have HO_5 := n0_; have HO573 := n1_; have HO578 := n2_; have BK575 := n3_; have HB := n4_; clear n0_ n1_ n2_ n3_ n4_; clear hb ho23))
                          go_loopg [10] k2 (fun kq v10 w' => ∃ (x9_3 : List Int) (x10_3 : Int), v10 = .int .u64 x10_3 ∧ Aside0 (drawlotlaw11_FenOwns.l2 kq x3_1 x5_2 x9_3 x10_3 t571 = some r) ∧ Aside0 (kq ≤ k2) ∧ Aside0 (Kd.R (Kd.int .u64) 22 w' w.heap.size (fun k_ => some k_ ≠ (v577 : Value).ownBlock ∧ some k_ ≠ ((.slice Ao20 t571.length co20) : Value).ownBlock) (.slice Ao17 x5_2.length co17) x5_2) ∧ Aside0 (Kd.R (Kd.int .u64) 22 w' w.heap.size (fun k_ => some k_ ≠ ((.slice Ao17 x5_2.length co17) : Value).ownBlock ∧ some k_ ≠ ((.slice Ao20 t571.length co20) : Value).ownBlock) v577 x9_3) ∧ Aside0 (Kd.R (Kd.int .u64) 22 w' w.heap.size (fun k_ => some k_ ≠ ((.slice Ao17 x5_2.length co17) : Value).ownBlock ∧ some k_ ≠ (v577 : Value).ownBlock) (.slice Ao20 t571.length co20) t571) ∧ Aside0 (w'.heap[gb575]? = some (.cells #[(.slice Ao20 t571.length co20)] 49 (0, 0))) ∧ Aside0 (Below w.heap.size w w'))
                          case atStart => exact ⟨(y576), (0), (by first | rfl | (simp; done) | (simp [*]; done)), H', ⟨Nat.le_refl _⟩, ⟨by (with_reducible repeat (first | apply Kd.R_alloc | apply Kd.R_drewN | apply Kd.R_drew)); exact Kd.R_mono HO_5.out (fun _ hk => ⟨hk.2, hk.1.2⟩)⟩, ⟨by (with_reducible repeat (first | apply Kd.R_alloc | apply Kd.R_drewN | apply Kd.R_drew)); exact Kd.R_mono HO578.out (fun _ hk => ⟨hk.1.2, hk.2⟩)⟩, ⟨by (with_reducible repeat (first | apply Kd.R_alloc | apply Kd.R_drewN | apply Kd.R_drew)); exact Kd.R_mono HO573.out (fun _ hk => ⟨hk.1.2, hk.2⟩)⟩, ⟨by (with_reducible repeat (first | refine blk_drewN ?_ _ | refine blk_drew ?_ | refine blk_alloc ?_ _)); exact BK575.out⟩, ⟨by repeat (first | (with_reducible first | exact HB.out | apply below_alloc | apply pw_below_drewN | apply below_drew1 | refine below_set ?_ GE575.out) | exact HB.out)⟩⟩
                          case round =>
                            clear H'
                            try clear c1
                            try clear p2
                            try clear c3
                            try clear c5
                            try clear c5b0
                            try clear p5
                            try clear q5
                            try clear hx5
                            try clear c6
                            try clear c6b0
                            try clear p6
                            try clear c7
                            try clear c7b0
                            try clear c8
                            try clear c8b0
                            try clear c8b1
                            try clear c9
                            try clear c9b0
                            try clear c10
                            try clear c10b0
                            try clear c11
                            try clear c13
                            try clear c14
                            try clear c14b0
                            try clear c14b1
                            try clear c15
                            try clear c15b0
                            try clear c15b1
                            try clear c16
                            try clear c16b0
                            try clear c16b1
                            try clear hcz21_0
                            try clear hfz21_0
                            try clear hx566_0
                            try clear hx567_0
                            try clear p2
                            try clear p5
                            try clear p566
                            try clear p567
                            try clear p6
                            try clear q5
                            try clear q566
                            try clear q567
                            obtain ⟨x9_3, x10_3, rfl, HA, HK3, HO_5, HO_9, HO_576000, BK575, HB⟩ := hrel
                            cases gk with
                            | zero => exact absurd HA.out (by simp [drawlotlaw11_FenOwns.l2])
                            | succ k3 =>
                              have H := HA.out
                              clear HA
                              simp only [drawlotlaw11_FenOwns.l2] at H
                              by_cases c24 : x10_3 < x3_1
                              · rw [if_pos c24] at H
                                have c24b0 : decide (x10_3 < x3_1) = true := decide_eq_true c24
                                clear c24
                                replace H := Option.bind_eq_some_iff.mp H
                                obtain ⟨⟨t579, t580⟩, A250, H⟩ := H
                                replace H : (if t580 = 0 then (if t579 < 0 then (none) else (if t579 ≥ (x9_3.length : Int) then (none) else (if 0 ≤ t579 then (if t579 < (x9_3.length : Int) then (drawlotlaw11_FenOwns.l2 k3 x3_1 x5_2 (x9_3.set (t579 : Int).toNat (IntKind.u64.wrap ((rd x9_3 t579) + 1))) (IntKind.u64.wrap (x10_3 + 1)) t571) else (none)) else (none)))) else (none)) = some r := H
                                have A25 := Aside0.mk A250
                                clear A250
                                by_cases c26 : t580 = 0
                                · rw [if_pos c26] at H
                                  have c26b0 : (t580 == 0) = true := beq_iff_eq.mpr c26
                                  have c26b1 : (t580 != 0) = false := bne_eq_false_iff_eq.mpr c26
                                  clear c26
                                  by_cases c27 : t579 < 0
                                  · rw [if_pos c27] at H
                                    exact absurd H (by simp)
                                  · rw [if_neg c27] at H
                                    have c27b0 : decide (t579 < 0) = false := decide_eq_false c27
                                    clear c27
                                    by_cases c28 : t579 ≥ (x9_3.length : Int)
                                    · rw [if_pos c28] at H
                                      exact absurd H (by simp)
                                    · rw [if_neg c28] at H
                                      have c28b0 : decide ((x9_3.length : Int) ≤ t579) = false := decide_eq_false c28
                                      clear c28
                                      by_cases c29 : 0 ≤ t579
                                      · rw [if_pos c29] at H
                                        have c29b0 : decide (0 ≤ t579) = true := decide_eq_true c29
                                        clear c29
                                        by_cases c30 : t579 < (x9_3.length : Int)
                                        · rw [if_pos c30] at H
                                          have c30b0 : decide (t579 < (x9_3.length : Int)) = true := decide_eq_true c30
                                          clear c30
                                          obtain ⟨y582, hy582⟩ : ∃ y_ : List Int, y_ = (x9_3.set (t579 : Int).toNat (IntKind.u64.wrap ((rd x9_3 t579) + 1))) := ⟨_, rfl⟩
                                          replace H : (drawlotlaw11_FenOwns.l2 k3 x3_1 x5_2 y582 (IntKind.u64.wrap (x10_3 + 1)) t571) = some r := by first | (rw [hy582]; with_reducible exact H) | (have H2_ := (Option.bind_some _ _).symm.trans H; rw [hy582]; with_reducible exact H2_) | (have H2_ := (Option.bind_some _ _).symm.trans H; with_reducible exact H2_) | with_reducible exact H | (rw [hy582]; exact H) | exact H
                                          have Ny582 := Aside0.mk hy582
                                          clear hy582
                                          have H' := Aside0.mk H
                                          clear H
                                          have hcz32_0 : wr.cell? ⟨gb575, 0, none⟩ = some (.slice Ao20 t571.length co20) := (blk_cell BK575.out 0).trans rfl
                                          have hfz32_0 := blk_frozen BK575.out 0
                                          go_wp2_with (first | ((with_reducible refine gate_callee (f := 36) rfl ?_); refine goesL_ (some 67) rfl rfl Try.func36 (by kernel_rfl) rfl #[.agg #[.slice Ao20 t571.length co20], .int .u64 x10_3] rfl (by (try simp only [List.map_toArray, List.map_cons, List.map_nil]); first | done | rfl | (simp only [List.length_drop, List.length_take]; rfl)) ?_; (with_reducible refine (fen_Owner.calls k3 _ _ t571 x10_3 t579 t580 _ ?side1 ?side2 A25.out).mono ?_); (case side1 => repeat (first | exact (Kd.R_reads' HO_576000.out).2.2 | (with_reducible refine Kd.C_alloc ?_ _) | (with_reducible refine Kd.C_drewN ?_ _) | (with_reducible refine Kd.C_drew ?_))); (case side2 => exact (Kd.R_reads' HO_576000.out).2.1); rintro e w33 ⟨rfl, hb⟩; refine ⟨_, rfl, ?_⟩; have n0_ := Aside0.mk (Kd.R_below (by (with_reducible repeat (first | apply Kd.R_alloc | apply Kd.R_drewN | apply Kd.R_drew)); exact HO_5.out) hb); have n1_ := Aside0.mk (Kd.R_below (by (with_reducible repeat (first | apply Kd.R_alloc | apply Kd.R_drewN | apply Kd.R_drew)); exact HO_9.out) hb); have n2_ := Aside0.mk (Kd.R_below (by (with_reducible repeat (first | apply Kd.R_alloc | apply Kd.R_drewN | apply Kd.R_drew)); exact HO_576000.out) hb); have n3_ := Aside0.mk (blk_below (g := gb575) (o := .cells #[.slice Ao20 t571.length co20] 49 (0, 0)) (by (with_reducible repeat (first | refine blk_drewN ?_ _ | refine blk_drew ?_ | refine blk_alloc ?_ _)); exact BK575.out) hb); have n4_ := Aside0.mk (below_step (by repeat (first | (with_reducible first | exact HB.out | apply below_alloc | apply pw_below_drewN | apply below_drew1 | refine below_set ?_ GE575.out) | exact HB.out)) hb); clear HO_5; clear HO_9; clear HO_576000; clear BK575; clear HB; have HO_5 := n0_; have HO_9 := n1_; have HO_576000 := n2_; have BK575 := n3_; have HB := n4_; clear n0_ n1_ n2_ n3_ n4_; (try clear hb); (try clear hb2); (try clear hk); (try clear hi); obtain ⟨Ao34, co34, eo34⟩ := Kd.R_slice HO_9.out; subst eo34; have p581 : 0 ≤ (t579 : Int) := of_decide_eq_true (by first | (with_reducible assumption) | assumption); have q581 : t579 < (x9_3.length : Int) := of_decide_eq_true (by first | (with_reducible assumption) | assumption); obtain ⟨ad581, e581, hx581_0⟩ := Kd.at_int (Kd.R_reads' HO_9.out).2.2 t579 p581 q581; cases e581; replace p581 := eq_true p581; replace q581 := eq_true q581; have p31 : 0 ≤ (t579 : Int) := of_decide_eq_true (by first | (with_reducible assumption) | assumption); have q31 : (t579 : Int) < ((x9_3.length : Int) : Int) := of_decide_eq_true (by first | (with_reducible assumption) | assumption); obtain ⟨go31, co31, eo31, gb31, gl31, cl31, HG31⟩ := Kd.R_form HO_9.out (by omega); (first | cases eo31 | (injection eo31 with ea_ en_ ec_; (first | subst ea_ | (injection ea_ with ea_; subst ea_)); subst ec_; clear en_)); have GB31 := Aside0.mk gb31; have GG31 := Aside0.mk HG31; clear gb31 gl31 HG31; (first | simp only [add_plain] at hx581_0 | skip); obtain ⟨hx31_0, hf31_0⟩ := Kd.R_celln 0 HO_9.out (t579 : Int) p31 q31; replace p31 := eq_true p31; replace q31 := eq_true q31; obtain ⟨hy35_, hz35_⟩ := Kd.R_celln 0 HO_9.out (t579 : Int) (of_decide_eq_true (by first | (with_reducible assumption) | assumption)) (of_decide_eq_true (by first | (with_reducible assumption) | assumption)); have HP35 := Kd.R_putg HO_9.out (t579 : Int) (IntKind.u64.wrap ((rd x9_3 t579) + 1))) | ((with_reducible refine gate_store (t := 22) (p := 87) rfl ?_); refine store_event (t := 22) (p := 87) (v := ?vo_w36) (w1 := (w33.setCell ⟨go31, (t579 : Int).toNat, none⟩ (.int .u64 (IntKind.u64.wrap ((rd x9_3 t579) + 1))))) ?hg ?ho ?hn ?hr ?_; (case ho => rfl); (case hg => rfl); (case hn => rfl); (case hr => first | (go_simp; done) | (go_simp; rfl)); intro w36 hw; have hg : w33.grownBy w36 (some go31) := (by rw [hw]; exact HP35.2); have hp_ : Kd.R (Kd.int .u64) 22 w36 w.heap.size (fun k_ => some k_ ≠ (.slice Ao17 x5_2.length co17 : Value).ownBlock ∧ some k_ ≠ (.slice Ao20 t571.length co20 : Value).ownBlock) (.slice (some ⟨go31, 0, none⟩) x9_3.length co34) y582 := (by rw [hw, Ny582.out]; exact HP35.1); clear HP35; have n0_ := Aside0.mk (Kd.R_after (v := (.slice (some ⟨go31, 0, none⟩) x9_3.length co34)) (v1 := (.slice (some ⟨go31, 0, none⟩) x9_3.length co34)) (ok := (fun k_ => some k_ ≠ (.slice Ao20 t571.length co20 : Value).ownBlock)) (by (with_reducible repeat (first | apply Kd.R_alloc | apply Kd.R_drewN | apply Kd.R_drew)); exact Kd.R_mono HO_5.out (fun _ hk => ⟨hk.2, hk.1⟩)) hg (.inl rfl)); have n1_ := Aside0.mk (hp_); have n2_ := Aside0.mk (Kd.R_after (v := (.slice (some ⟨go31, 0, none⟩) x9_3.length co34)) (v1 := (.slice (some ⟨go31, 0, none⟩) x9_3.length co34)) (ok := (fun k_ => some k_ ≠ (.slice Ao17 x5_2.length co17 : Value).ownBlock)) (by (with_reducible repeat (first | apply Kd.R_alloc | apply Kd.R_drewN | apply Kd.R_drew)); exact HO_576000.out) hg (.inl rfl)); have n3_ := Aside0.mk (blk_grown (g := gb575) (o := .cells #[.slice Ao20 t571.length co20] 49 (0, 0)) (by (with_reducible repeat (first | refine blk_drewN ?_ _ | refine blk_drew ?_ | refine blk_alloc ?_ _)); exact BK575.out) hg (Kd.R_ne HO_9.out BK575.out (by decide))); have n4_ := Aside0.mk ((by rw [hw]; exact below_set (HB.out) GB31.out : Below w.heap.size w w36)); clear HO_5; clear HO_9; clear HO_576000; clear BK575; clear HB; have HO_5 := n0_; have HO_9 := n1_; have HO_576000 := n2_; have BK575 := n3_; have HB := n4_; clear n0_ n1_ n2_ n3_ n4_; clear hg hw hp_))
                                          go_roundg k3
                                          case measure => have := HK1.out; have := HK2.out; have := HK3.out; omega
                                          case rel => exact ⟨(y582), (IntKind.u64.wrap (x10_3 + 1)), (by first | rfl | (simp; done) | (simp [*]; done)), H', ⟨by have := HK1.out; have := HK2.out; have := HK3.out; omega⟩, ⟨by (with_reducible repeat (first | apply Kd.R_alloc | apply Kd.R_drewN | apply Kd.R_drew)); exact Kd.R_mono HO_5.out (fun _ hk => ⟨hk.2, hk.1⟩)⟩, ⟨by (with_reducible repeat (first | apply Kd.R_alloc | apply Kd.R_drewN | apply Kd.R_drew)); exact HO_9.out⟩, ⟨by (with_reducible repeat (first | apply Kd.R_alloc | apply Kd.R_drewN | apply Kd.R_drew)); exact HO_576000.out⟩, ⟨by (with_reducible repeat (first | refine blk_drewN ?_ _ | refine blk_drew ?_ | refine blk_alloc ?_ _)); exact BK575.out⟩, ⟨by repeat (first | (with_reducible first | exact HB.out | apply below_alloc | apply pw_below_drewN | apply below_drew1 | refine below_set ?_ GE575.out) | exact HB.out)⟩⟩
                                        · rw [if_neg c30] at H
                                          exact absurd H (by simp)
                                      · rw [if_neg c29] at H
                                        exact absurd H (by simp)
                                · rw [if_neg c26] at H
                                  exact absurd H (by simp)
                              · rw [if_neg c24] at H
                                have c24b0 : decide (x10_3 < x3_1) = false := decide_eq_false c24
                                clear c24
                                replace H := Option.bind_eq_some_iff.mp H
                                obtain ⟨t583, A370, H⟩ := H
                                replace H : (some t583) = some r := H
                                have A37 := Aside0.mk A370
                                clear A370
                                obtain rfl := Option.some.inj H
                                obtain ⟨Ao38, co38, eo38⟩ := Kd.R_slice HO_9.out
                                subst eo38
                                go_wp2_with (first | ((with_reducible refine gate_callee (f := 25) rfl ?_); refine goesL_ (some 90) rfl rfl Try.func25 (by kernel_rfl) rfl #[.slice Ao38 x9_3.length co38, .slice Ao17 x5_2.length co17] rfl (by (try simp only [List.map_toArray, List.map_cons, List.map_nil]); first | done | rfl | (simp only [List.length_drop, List.length_take]; rfl)) ?_; (with_reducible refine (drawlotref09_Same.calls k3 _ _ x9_3 _ _ x5_2 t583 _ ?side1 ?side2 ?side3 ?side4 A37.out).mono ?_); (case side1 => repeat (first | exact (Kd.R_reads' HO_9.out).2.2 | (with_reducible refine Kd.C_alloc ?_ _) | (with_reducible refine Kd.C_drewN ?_ _) | (with_reducible refine Kd.C_drew ?_))); (case side2 => exact (Kd.R_reads' HO_9.out).2.1); (case side3 => repeat (first | exact (Kd.R_reads' HO_5.out).2.2 | (with_reducible refine Kd.C_alloc ?_ _) | (with_reducible refine Kd.C_drewN ?_ _) | (with_reducible refine Kd.C_drew ?_))); (case side4 => exact (Kd.R_reads' HO_5.out).2.1); rintro e w' ⟨rfl, ⟨nd, rfl⟩⟩; refine ⟨_, rfl, ?_⟩))
                                go_ret
                                exact ⟨by first | rfl | (simp [errW_none, errW_some] <;> rfl) | (simp [*, errW_none, errW_some] <;> rfl), by repeat (first | (with_reducible first | exact HB.out | apply below_alloc | apply pw_below_drewN | apply below_drew1 | refine below_set ?_ GE575.out) | exact HB.out)⟩
                        · rw [if_neg c16] at H
                          exact absurd H (by simp)
                      · rw [if_neg c15] at H
                        exact absurd H (by simp)
                    · rw [if_neg c14] at H
                      exact absurd H (by simp)
        · rw [if_neg c5] at H
          have c5b0 : decide (x4_1 < (l0.length : Int)) = false := decide_eq_false c5
          clear c5
          by_cases c39 : (l0.length : Int) > 40
          · rw [if_pos c39] at H
            have c39b0 : decide (40 < (l0.length : Int)) = true := decide_eq_true c39
            have c39b1 : decide (40 < l0.length) = true := decide_eq_true (by omega)
            clear c39
            obtain rfl := Option.some.inj H
            go_wp2
            go_ret
            exact ⟨by first | rfl | (simp [errW_none, errW_some] <;> rfl) | (simp [*, errW_none, errW_some] <;> rfl), by repeat (first | (with_reducible first | exact HB.out | apply below_alloc | apply pw_below_drewN | apply below_drew1) | exact HB.out)⟩
          · rw [if_neg c39] at H
            have c39b0 : decide (40 < (l0.length : Int)) = false := decide_eq_false c39
            have c39b1 : decide (40 < l0.length) = false := decide_eq_false (by omega)
            clear c39
            have H' := Aside0.mk H
            clear H
            go_wp2
            go_loopg [5, 6] k1 (fun kq v5 v6 w' => ∃ (x5_2 : List Int) (x6_2 : Int), v6 = .int .i64 x6_2 ∧ Aside0 (drawlotlaw11_FenOwns.l1 kq l0 x3_1 x5_2 x6_2 = some r) ∧ Aside0 (kq ≤ k1) ∧ Aside0 (Kd.R (Kd.int .u64) 22 w' w.heap.size (fun _ => True) v5 x5_2) ∧ Aside0 (Below w.heap.size w w'))
            case atStart => exact ⟨(([] : List Int)), (0), (by first | rfl | (simp; done) | (simp [*]; done)), H', ⟨Nat.le_refl _⟩, ⟨by first | exact Kd.R_nil _ _ _ _ _ | exact Kd.N_nil _ _ _ _ _ | exact Kd.V_nil _ _ _ _ _ | exact Kd.Q_nil _ _ _ _ _ | exact Kd.S_nil _ _ _ _ _⟩, ⟨by repeat (first | (with_reducible first | exact HB.out | apply below_alloc | apply pw_below_drewN | apply below_drew1) | exact HB.out)⟩⟩
            case round =>
              clear H'
              try clear c1
              try clear c2
              try clear p2
              try clear c3
              try clear p3
              try clear q3
              try clear hx3
              try clear hf3
              try clear c5
              try clear c5b0
              try clear p5
              try clear q5
              try clear hx5
              try clear c6
              try clear c6b0
              try clear p6
              try clear c7
              try clear c7b0
              try clear c8
              try clear c8b0
              try clear c8b1
              try clear c9
              try clear c9b0
              try clear c10
              try clear c10b0
              try clear c11
              try clear c13
              try clear c14
              try clear c14b0
              try clear c14b1
              try clear c15
              try clear c15b0
              try clear c15b1
              try clear c16
              try clear c16b0
              try clear c16b1
              try clear c24
              try clear c24b0
              try clear c25
              try clear c26
              try clear c26b0
              try clear c26b1
              try clear c27
              try clear c27b0
              try clear c28
              try clear c28b0
              try clear c29
              try clear c29b0
              try clear c30
              try clear c30b0
              try clear p31
              try clear q31
              try clear hx31
              try clear hf31
              try clear c35
              try clear c36
              try clear c37
              try clear c39
              try clear c39b0
              try clear c39b1
              try clear hcz21_0
              try clear hcz32_0
              try clear hfz21_0
              try clear hfz32_0
              try clear hx31_0
              try clear hx566_0
              try clear hx567_0
              try clear hx581_0
              try clear p2
              try clear p31
              try clear p5
              try clear p566
              try clear p567
              try clear p581
              try clear p6
              try clear q31
              try clear q5
              try clear q566
              try clear q567
              try clear q581
              obtain ⟨x5_2, x6_2, rfl, HA, HK2, HO_5, HB⟩ := hrel
              cases gk with
              | zero => exact absurd HA.out (by simp [drawlotlaw11_FenOwns.l1])
              | succ k2 =>
                have H := HA.out
                clear HA
                simp only [drawlotlaw11_FenOwns.l1] at H
                by_cases c40 : x6_2 < (l0.length : Int)
                · rw [if_pos c40] at H
                  have c40b0 : decide (x6_2 < (l0.length : Int)) = true := decide_eq_true c40
                  clear c40
                  by_cases c41 : 0 ≤ x6_2
                  · rw [if_pos c41] at H
                    have c41b0 : decide (0 ≤ x6_2) = true := decide_eq_true c41
                    clear c41
                    by_cases c42 : x5_2.length < 17592186044416
                    · rw [if_pos c42] at H
                      have LMc42 := Aside0.mk c42
                      clear c42
                      obtain ⟨y568, hy568⟩ : ∃ y_ : List Int, y_ = (x5_2 ++ [Int.tmod (rd l0 x6_2) 50]) := ⟨_, rfl⟩
                      replace H : (drawlotlaw11_FenOwns.l1 k2 l0 x3_1 y568 (wrap64 (x6_2 + 1))) = some r := by first | (rw [hy568]; with_reducible exact H) | (have H2_ := (Option.bind_some _ _).symm.trans H; rw [hy568]; with_reducible exact H2_) | (have H2_ := (Option.bind_some _ _).symm.trans H; with_reducible exact H2_) | with_reducible exact H | (rw [hy568]; exact H) | exact H
                      have Ny568 := Aside0.mk hy568
                      clear hy568
                      have H' := Aside0.mk H
                      clear H
                      have p567 : 0 ≤ (x6_2 : Int) := of_decide_eq_true (by first | (with_reducible assumption) | assumption)
                      have q567 : x6_2 < (l0.length : Int) := of_decide_eq_true (by first | (with_reducible assumption) | assumption)
                      obtain ⟨ad567, e567, hx567_0⟩ := Kd.at_int HR0.out x6_2 p567 q567
                      cases e567
                      replace hx567_0 := (HB.out.cell (World.block_lt_of_cell? w _ hx567_0)).trans hx567_0
                      replace p567 := eq_true p567
                      replace q567 := eq_true q567
                      go_wp2_with (first | ((with_reducible refine gate_builtin (b := .append) (xs := #[.tmp 41, .tmp 47]) rfl ?_); (try (refine gate_guard (by rfl) ?_; dsimp only)); at_builtin; refine Kd.R_append (Kd.int .u64) (w0 := w) w.heap.size rfl (.tmp 41) (.tmp 47) 28 22 (.int .u64 0) 8 rfl Try.underlying28 info22 rfl (by decide) (by omega) u5 x5_2 (Int.tmod (rd l0 x6_2) 50) [.int .u64 (Int.tmod (rd l0 x6_2) 50)] (fun _ => True) (fun _ => False) rfl rfl ?aP (fun _ hk => hk.elim) ?aF ?aO ?aB ?aS ?aL ?_; (case aP => exact rfl); (case aB => exact (by repeat (first | (with_reducible first | exact HB.out | apply below_alloc | apply pw_below_drewN | apply below_drew1) | exact HB.out))); (case aF => exact (fun _ _ => trivial)); (case aO => exact (by (with_reducible repeat (first | apply Kd.R_alloc | apply Kd.R_drewN | apply Kd.R_drew)); exact HO_5.out)); (case aS => exact (below_size (by repeat (first | (with_reducible first | exact HB.out | apply below_alloc | apply pw_below_drewN | apply below_drew1) | exact HB.out)))); (case aL => have := LMc42.out; omega); intro v569 w43 ho hb hg hat; rw [← Ny568.out] at ho; have n0_ := Aside0.mk (hb); have n1_ := Aside0.mk (ho); clear HB; clear HO_5; have HB := n0_; have HO570 := n1_; clear n0_ n1_; clear ho hb hg hat))
                      go_roundg k2
                      case measure => have := HK1.out; have := HK2.out; omega
                      case rel => exact ⟨(y568), (wrap64 (x6_2 + 1)), (by first | rfl | (simp; done) | (simp [*]; done)), H', ⟨by have := HK1.out; have := HK2.out; omega⟩, ⟨by (with_reducible repeat (first | apply Kd.R_alloc | apply Kd.R_drewN | apply Kd.R_drew)); exact HO570.out⟩, ⟨by repeat (first | (with_reducible first | exact HB.out | apply below_alloc | apply pw_below_drewN | apply below_drew1) | exact HB.out)⟩⟩
                    · rw [if_neg c42] at H
                      exact absurd H (by simp)
                  · rw [if_neg c41] at H
                    exact absurd H (by simp)
                · rw [if_neg c40] at H
                  have c40b0 : decide (x6_2 < (l0.length : Int)) = false := decide_eq_false c40
                  clear c40
                  replace H := Option.bind_eq_some_iff.mp H
                  obtain ⟨⟨t571, t574⟩, A440, H⟩ := H
                  replace H : (if t574 = 0 then (if 0 ≤ (l0.length : Int) then (if ((l0.length : Int) : Int).toNat ≤ 35184372088832 then (drawlotlaw11_FenOwns.l2 k2 x3_1 x5_2 (List.replicate ((l0.length : Int) : Int).toNat 0) 0 t571) else (none)) else (none)) else (none)) = some r := H
                  have A44 := Aside0.mk A440
                  clear A440
                  by_cases c45 : t574 = 0
                  · rw [if_pos c45] at H
                    have c45b0 : (t574 == 0) = true := beq_iff_eq.mpr c45
                    have c45b1 : (t574 != 0) = false := bne_eq_false_iff_eq.mpr c45
                    clear c45
                    by_cases c46 : 0 ≤ (l0.length : Int)
                    · rw [if_pos c46] at H
                      have c46b0 := eq_true c46
                      have c46b1 : decide (0 ≤ (l0.length : Int)) = true := decide_eq_true c46
                      clear c46
                      by_cases c47 : ((l0.length : Int) : Int).toNat ≤ 35184372088832
                      · rw [if_pos c47] at H
                        have c47b0 := eq_true c47
                        have c47b1 : decide (((l0.length : Int) : Int).toNat ≤ 35184372088832) = true := decide_eq_true c47
                        clear c47
                        obtain ⟨y576, hy576⟩ : ∃ y_ : List Int, y_ = (List.replicate ((l0.length : Int) : Int).toNat 0) := ⟨_, rfl⟩
                        replace H : (drawlotlaw11_FenOwns.l2 k2 x3_1 x5_2 y576 0 t571) = some r := by first | (rw [hy576]; with_reducible exact H) | (have H2_ := (Option.bind_some _ _).symm.trans H; rw [hy576]; with_reducible exact H2_) | (have H2_ := (Option.bind_some _ _).symm.trans H; with_reducible exact H2_) | with_reducible exact H | (rw [hy576]; exact H) | exact H
                        have Ny576 := Aside0.mk hy576
                        clear hy576
                        have H' := Aside0.mk H
                        clear H
                        obtain ⟨Ao48, co48, eo48⟩ := Kd.R_slice HO_5.out
                        subst eo48
                        go_wp2_with (first | ((with_reducible refine gate_callee (f := 35) rfl ?_); refine goesL_ (some 51) rfl rfl Try.func35 (by kernel_rfl) rfl #[.slice Ao48 x5_2.length co48] rfl (by (try simp only [List.map_toArray, List.map_cons, List.map_nil]); first | done | rfl | (simp only [List.length_drop, List.length_take]; rfl)) ?_; (with_reducible refine (fen_Build.calls k2 _ _ x5_2 t571 t574 _ ?side1 ?side2 A44.out).mono ?_); (case side1 => repeat (first | exact (Kd.R_reads' HO_5.out).2.2 | (with_reducible refine Kd.C_alloc ?_ _) | (with_reducible refine Kd.C_drewN ?_ _) | (with_reducible refine Kd.C_drew ?_))); (case side2 => exact (Kd.R_reads' HO_5.out).2.1); rintro e w49 ⟨v572, rfl, ho0, hb⟩; refine ⟨_, rfl, ?_⟩; have n0_ := Aside0.mk (Kd.R_elder' (by (with_reducible repeat (first | apply Kd.R_alloc | apply Kd.R_drewN | apply Kd.R_drew)); exact HO_5.out) (Kd.R_base ho0) hb); have n1_ := Aside0.mk (Kd.R_lower (Kd.R_new' ho0 (Kd.R_lt (by (with_reducible repeat (first | apply Kd.R_alloc | apply Kd.R_drewN | apply Kd.R_drew)); exact HO_5.out))) (below_size (by repeat (first | (with_reducible first | exact HB.out | apply below_alloc | apply pw_below_drewN | apply below_drew1) | exact HB.out)))); have n2_ := Aside0.mk (below_step (by repeat (first | (with_reducible first | exact HB.out | apply below_alloc | apply pw_below_drewN | apply below_drew1) | exact HB.out)) hb); clear HO_5; clear HB; have HO_5 := n0_; have HO573 := n1_; have HB := n2_; clear n0_ n1_ n2_; (try clear hb); (try clear hb2); (try clear hk); (try clear hi); (try clear ho0)) | ((with_reducible refine gate_dst (N := 7) rfl ?_); (try (refine gate_guard (by rfl) ?_; dsimp only)); refine box_event ?hg (N := 7) ?hd (cs := #[.slice none 0 0]) (t := 49) ?hr ?_; (case hd => rfl); (case hg => rfl); (case hr => first | (go_simp; done) | (go_simp; rfl)); intro gb575 hg w50 hbox hb; have n0_ := Aside0.mk (Kd.R_below (by (with_reducible repeat (first | apply Kd.R_alloc | apply Kd.R_drewN | apply Kd.R_drew)); exact HO_5.out) hb); have n1_ := Aside0.mk (Kd.R_below (by (with_reducible repeat (first | apply Kd.R_alloc | apply Kd.R_drewN | apply Kd.R_drew)); exact HO573.out) hb); have n2_ := Aside0.mk (below_step (by repeat (first | (with_reducible first | exact HB.out | apply below_alloc | apply pw_below_drewN | apply below_drew1) | exact HB.out)) hb); have n3_ := Aside0.mk (hbox); have n4_ := Aside0.mk ((by rw [hg]; exact (below_size (by repeat (first | (with_reducible first | exact HB.out | apply below_alloc | apply pw_below_drewN | apply below_drew1) | exact HB.out))) : w.heap.size ≤ gb575)); have n5_ := Aside0.mk ((by rw [hg]; exact (below_size (by repeat (first | (with_reducible first | exact HB.out | apply below_alloc | apply pw_below_drewN | apply below_drew1) | exact HB.out))) : w.heap.size ≤ gb575)); clear HO_5; clear HO573; clear HB; have HO_5 := n0_; have HO573 := n1_; have HB := n2_; have BK575 := n3_; have GW575 := n4_; have GE575 := n5_; clear n0_ n1_ n2_ n3_ n4_ n5_; clear hb hbox hg; obtain ⟨Ao51, co51, eo51⟩ := Kd.R_slice HO573.out; subst eo51; have hcz52_0 : w50.cell? ⟨gb575, 0, none⟩ = some (.slice none 0 0) := (blk_cell BK575.out 0).trans rfl; have hfz52_0 := blk_frozen BK575.out 0) | ((with_reducible refine gate_dst (N := 58) rfl ?_); (try (refine gate_guard (by rfl) ?_; dsimp only)); refine Kd.R_make (Kd.int .u64) _ 22 rfl (N := 58) rfl 28 _ _ rfl (l0.length : Int) rfl rfl Try.underlying28 (.int .u64 0) 8 info22 rfl (by decide) (by omega) 0 (ok := fun _ => True) (okp := fun _ => True) rfl (fun _ hk => hk) trivial (of_decide_eq_true (by first | (with_reducible assumption) | assumption)) (Nat.le_trans (Nat.mul_le_mul_right _ (of_decide_eq_true (by first | (with_reducible assumption) | assumption) : (l0.length : Int).toNat ≤ 35184372088832)) (by omega)) (Below.refl _ _) (Nat.le_refl _) ?_; intro v577 w53 ho54 hb hg_ hnew_; clear hg_ hnew_; (first | rw [← Ny576.out] at ho54 | (simp only [Int.reduceToNat] at ho54; rw [← Ny576.out] at ho54)); have n0_ := Aside0.mk (Kd.R_elder' (by (with_reducible repeat (first | apply Kd.R_alloc | apply Kd.R_drewN | apply Kd.R_drew)); exact (Kd.R_mono (Kd.R_far (p := ⟨gb575, 0, none⟩) (Kd.R_types HO_5.out BK575.out (by decide)) (fun _ hk => hk.2) (.slice Ao51 t571.length co51)) (fun _ h_ => h_.1))) (Kd.R_base ho54) hb); have n1_ := Aside0.mk (Kd.R_elder' (by (with_reducible repeat (first | apply Kd.R_alloc | apply Kd.R_drewN | apply Kd.R_drew)); exact (Kd.R_mono (Kd.R_far (p := ⟨gb575, 0, none⟩) (Kd.R_types HO573.out BK575.out (by decide)) (fun _ hk => hk.2) (.slice Ao51 t571.length co51)) (fun _ h_ => h_.1))) (Kd.R_base ho54) hb); have n2_ := Aside0.mk (Kd.R_lower (Kd.R_new' (Kd.R_new' ho54 (Kd.R_lt (by (with_reducible repeat (first | apply Kd.R_alloc | apply Kd.R_drewN | apply Kd.R_drew)); exact (Kd.R_mono (Kd.R_far (p := ⟨gb575, 0, none⟩) (Kd.R_types HO_5.out BK575.out (by decide)) (fun _ hk => hk.2) (.slice Ao51 t571.length co51)) (fun _ h_ => h_.1))))) (Kd.R_lt (by (with_reducible repeat (first | apply Kd.R_alloc | apply Kd.R_drewN | apply Kd.R_drew)); exact (Kd.R_mono (Kd.R_far (p := ⟨gb575, 0, none⟩) (Kd.R_types HO573.out BK575.out (by decide)) (fun _ hk => hk.2) (.slice Ao51 t571.length co51)) (fun _ h_ => h_.1))))) (below_size (by repeat (first | (with_reducible first | exact HB.out | apply below_alloc | apply pw_below_drewN | apply below_drew1 | refine below_set ?_ GE575.out) | exact HB.out)))); have n3_ := Aside0.mk (blk_below (g := gb575) (o := .cells #[.slice Ao51 t571.length co51] 49 (0, 0)) (by (with_reducible repeat (first | refine blk_drewN ?_ _ | refine blk_drew ?_ | refine blk_alloc ?_ _)); refine blk_put (cs := #[.slice none 0 0]) ?_ 0 _ rfl; (with_reducible repeat (first | refine blk_drewN ?_ _ | refine blk_drew ?_ | refine blk_alloc ?_ _)); exact BK575.out) hb); have n4_ := Aside0.mk (below_step (by repeat (first | (with_reducible first | exact HB.out | apply below_alloc | apply pw_below_drewN | apply below_drew1 | refine below_set ?_ GE575.out) | exact HB.out)) hb); clear HO_5; clear HO573; clear BK575; clear HB; have HO_5 := n0_; have HO573 := n1_; have HO578 := n2_; have BK575 := n3_; have HB := n4_; clear n0_ n1_ n2_ n3_ n4_; clear hb ho54))
                        go_loopg [10] k2 (fun kq v10 w' => ∃ (x9_3 : List Int) (x10_3 : Int), v10 = .int .u64 x10_3 ∧ Aside0 (drawlotlaw11_FenOwns.l2 kq x3_1 x5_2 x9_3 x10_3 t571 = some r) ∧ Aside0 (kq ≤ k2) ∧ Aside0 (Kd.R (Kd.int .u64) 22 w' w.heap.size (fun k_ => some k_ ≠ (v577 : Value).ownBlock ∧ some k_ ≠ ((.slice Ao51 t571.length co51) : Value).ownBlock) (.slice Ao48 x5_2.length co48) x5_2) ∧ Aside0 (Kd.R (Kd.int .u64) 22 w' w.heap.size (fun k_ => some k_ ≠ ((.slice Ao48 x5_2.length co48) : Value).ownBlock ∧ some k_ ≠ ((.slice Ao51 t571.length co51) : Value).ownBlock) v577 x9_3) ∧ Aside0 (Kd.R (Kd.int .u64) 22 w' w.heap.size (fun k_ => some k_ ≠ ((.slice Ao48 x5_2.length co48) : Value).ownBlock ∧ some k_ ≠ (v577 : Value).ownBlock) (.slice Ao51 t571.length co51) t571) ∧ Aside0 (w'.heap[gb575]? = some (.cells #[(.slice Ao51 t571.length co51)] 49 (0, 0))) ∧ Aside0 (Below w.heap.size w w'))
                        case atStart => exact ⟨(y576), (0), (by first | rfl | (simp; done) | (simp [*]; done)), H', ⟨Nat.le_refl _⟩, ⟨by (with_reducible repeat (first | apply Kd.R_alloc | apply Kd.R_drewN | apply Kd.R_drew)); exact Kd.R_mono HO_5.out (fun _ hk => ⟨hk.2, hk.1.2⟩)⟩, ⟨by (with_reducible repeat (first | apply Kd.R_alloc | apply Kd.R_drewN | apply Kd.R_drew)); exact Kd.R_mono HO578.out (fun _ hk => ⟨hk.1.2, hk.2⟩)⟩, ⟨by (with_reducible repeat (first | apply Kd.R_alloc | apply Kd.R_drewN | apply Kd.R_drew)); exact Kd.R_mono HO573.out (fun _ hk => ⟨hk.1.2, hk.2⟩)⟩, ⟨by (with_reducible repeat (first | refine blk_drewN ?_ _ | refine blk_drew ?_ | refine blk_alloc ?_ _)); exact BK575.out⟩, ⟨by repeat (first | (with_reducible first | exact HB.out | apply below_alloc | apply pw_below_drewN | apply below_drew1 | refine below_set ?_ GE575.out) | exact HB.out)⟩⟩
                        case round =>
                          clear H'
                          try clear c1
                          try clear c2
                          try clear p2
                          try clear c3
                          try clear p3
                          try clear q3
                          try clear hx3
                          try clear hf3
                          try clear c4
                          try clear c5
                          try clear c5b0
                          try clear p5
                          try clear q5
                          try clear hx5
                          try clear c6
                          try clear c6b0
                          try clear p6
                          try clear c7
                          try clear c7b0
                          try clear c8
                          try clear c8b0
                          try clear c8b1
                          try clear c9
                          try clear c9b0
                          try clear c10
                          try clear c10b0
                          try clear c11
                          try clear c13
                          try clear c14
                          try clear c14b0
                          try clear c14b1
                          try clear c15
                          try clear c15b0
                          try clear c15b1
                          try clear c16
                          try clear c16b0
                          try clear c16b1
                          try clear c24
                          try clear c24b0
                          try clear c25
                          try clear c26
                          try clear c26b0
                          try clear c26b1
                          try clear c27
                          try clear c27b0
                          try clear c28
                          try clear c28b0
                          try clear c29
                          try clear c29b0
                          try clear c30
                          try clear c30b0
                          try clear p31
                          try clear q31
                          try clear hx31
                          try clear hf31
                          try clear c35
                          try clear c36
                          try clear c37
                          try clear c39
                          try clear c39b0
                          try clear c39b1
                          try clear c40
                          try clear c40b0
                          try clear c41
                          try clear c41b0
                          try clear c42
                          try clear c45
                          try clear c45b0
                          try clear c45b1
                          try clear c46
                          try clear c46b0
                          try clear c46b1
                          try clear c47
                          try clear c47b0
                          try clear c47b1
                          try clear hcz21_0
                          try clear hcz32_0
                          try clear hcz52_0
                          try clear hfz21_0
                          try clear hfz32_0
                          try clear hfz52_0
                          try clear hx31_0
                          try clear hx566_0
                          try clear hx567_0
                          try clear hx581_0
                          try clear p2
                          try clear p3
                          try clear p31
                          try clear p5
                          try clear p566
                          try clear p567
                          try clear p581
                          try clear p6
                          try clear q3
                          try clear q31
                          try clear q5
                          try clear q566
                          try clear q567
                          try clear q581
                          obtain ⟨x9_3, x10_3, rfl, HA, HK3, HO_5, HO_9, HO_576000, BK575, HB⟩ := hrel
                          cases gk with
                          | zero => exact absurd HA.out (by simp [drawlotlaw11_FenOwns.l2])
                          | succ k3 =>
                            have H := HA.out
                            clear HA
                            simp only [drawlotlaw11_FenOwns.l2] at H
                            by_cases c55 : x10_3 < x3_1
                            · rw [if_pos c55] at H
                              have c55b0 : decide (x10_3 < x3_1) = true := decide_eq_true c55
                              clear c55
                              replace H := Option.bind_eq_some_iff.mp H
                              obtain ⟨⟨t579, t580⟩, A560, H⟩ := H
                              replace H : (if t580 = 0 then (if t579 < 0 then (none) else (if t579 ≥ (x9_3.length : Int) then (none) else (if 0 ≤ t579 then (if t579 < (x9_3.length : Int) then (drawlotlaw11_FenOwns.l2 k3 x3_1 x5_2 (x9_3.set (t579 : Int).toNat (IntKind.u64.wrap ((rd x9_3 t579) + 1))) (IntKind.u64.wrap (x10_3 + 1)) t571) else (none)) else (none)))) else (none)) = some r := H
                              have A56 := Aside0.mk A560
                              clear A560
                              by_cases c57 : t580 = 0
                              · rw [if_pos c57] at H
                                have c57b0 : (t580 == 0) = true := beq_iff_eq.mpr c57
                                have c57b1 : (t580 != 0) = false := bne_eq_false_iff_eq.mpr c57
                                clear c57
                                by_cases c58 : t579 < 0
                                · rw [if_pos c58] at H
                                  exact absurd H (by simp)
                                · rw [if_neg c58] at H
                                  have c58b0 : decide (t579 < 0) = false := decide_eq_false c58
                                  clear c58
                                  by_cases c59 : t579 ≥ (x9_3.length : Int)
                                  · rw [if_pos c59] at H
                                    exact absurd H (by simp)
                                  · rw [if_neg c59] at H
                                    have c59b0 : decide ((x9_3.length : Int) ≤ t579) = false := decide_eq_false c59
                                    clear c59
                                    by_cases c60 : 0 ≤ t579
                                    · rw [if_pos c60] at H
                                      have c60b0 : decide (0 ≤ t579) = true := decide_eq_true c60
                                      clear c60
                                      by_cases c61 : t579 < (x9_3.length : Int)
                                      · rw [if_pos c61] at H
                                        have c61b0 : decide (t579 < (x9_3.length : Int)) = true := decide_eq_true c61
                                        clear c61
                                        obtain ⟨y582, hy582⟩ : ∃ y_ : List Int, y_ = (x9_3.set (t579 : Int).toNat (IntKind.u64.wrap ((rd x9_3 t579) + 1))) := ⟨_, rfl⟩
                                        replace H : (drawlotlaw11_FenOwns.l2 k3 x3_1 x5_2 y582 (IntKind.u64.wrap (x10_3 + 1)) t571) = some r := by first | (rw [hy582]; with_reducible exact H) | (have H2_ := (Option.bind_some _ _).symm.trans H; rw [hy582]; with_reducible exact H2_) | (have H2_ := (Option.bind_some _ _).symm.trans H; with_reducible exact H2_) | with_reducible exact H | (rw [hy582]; exact H) | exact H
                                        have Ny582 := Aside0.mk hy582
                                        clear hy582
                                        have H' := Aside0.mk H
                                        clear H
                                        have hcz63_0 : wr.cell? ⟨gb575, 0, none⟩ = some (.slice Ao51 t571.length co51) := (blk_cell BK575.out 0).trans rfl
                                        have hfz63_0 := blk_frozen BK575.out 0
                                        go_wp2_with (first | ((with_reducible refine gate_callee (f := 36) rfl ?_); refine goesL_ (some 67) rfl rfl Try.func36 (by kernel_rfl) rfl #[.agg #[.slice Ao51 t571.length co51], .int .u64 x10_3] rfl (by (try simp only [List.map_toArray, List.map_cons, List.map_nil]); first | done | rfl | (simp only [List.length_drop, List.length_take]; rfl)) ?_; (with_reducible refine (fen_Owner.calls k3 _ _ t571 x10_3 t579 t580 _ ?side1 ?side2 A56.out).mono ?_); (case side1 => repeat (first | exact (Kd.R_reads' HO_576000.out).2.2 | (with_reducible refine Kd.C_alloc ?_ _) | (with_reducible refine Kd.C_drewN ?_ _) | (with_reducible refine Kd.C_drew ?_))); (case side2 => exact (Kd.R_reads' HO_576000.out).2.1); rintro e w64 ⟨rfl, hb⟩; refine ⟨_, rfl, ?_⟩; have n0_ := Aside0.mk (Kd.R_below (by (with_reducible repeat (first | apply Kd.R_alloc | apply Kd.R_drewN | apply Kd.R_drew)); exact HO_5.out) hb); have n1_ := Aside0.mk (Kd.R_below (by (with_reducible repeat (first | apply Kd.R_alloc | apply Kd.R_drewN | apply Kd.R_drew)); exact HO_9.out) hb); have n2_ := Aside0.mk (Kd.R_below (by (with_reducible repeat (first | apply Kd.R_alloc | apply Kd.R_drewN | apply Kd.R_drew)); exact HO_576000.out) hb); have n3_ := Aside0.mk (blk_below (g := gb575) (o := .cells #[.slice Ao51 t571.length co51] 49 (0, 0)) (by (with_reducible repeat (first | refine blk_drewN ?_ _ | refine blk_drew ?_ | refine blk_alloc ?_ _)); exact BK575.out) hb); have n4_ := Aside0.mk (below_step (by repeat (first | (with_reducible first | exact HB.out | apply below_alloc | apply pw_below_drewN | apply below_drew1 | refine below_set ?_ GE575.out) | exact HB.out)) hb); clear HO_5; clear HO_9; clear HO_576000; clear BK575; clear HB; have HO_5 := n0_; have HO_9 := n1_; have HO_576000 := n2_; have BK575 := n3_; have HB := n4_; clear n0_ n1_ n2_ n3_ n4_; (try clear hb); (try clear hb2); (try clear hk); (try clear hi); obtain ⟨Ao65, co65, eo65⟩ := Kd.R_slice HO_9.out; subst eo65; have p581 : 0 ≤ (t579 : Int) := of_decide_eq_true (by first | (with_reducible assumption) | assumption); have q581 : t579 < (x9_3.length : Int) := of_decide_eq_true (by first | (with_reducible assumption) | assumption); obtain ⟨ad581, e581, hx581_0⟩ := Kd.at_int (Kd.R_reads' HO_9.out).2.2 t579 p581 q581; cases e581; replace p581 := eq_true p581; replace q581 := eq_true q581; have p62 : 0 ≤ (t579 : Int) := of_decide_eq_true (by first | (with_reducible assumption) | assumption); have q62 : (t579 : Int) < ((x9_3.length : Int) : Int) := of_decide_eq_true (by first | (with_reducible assumption) | assumption); obtain ⟨go62, co62, eo62, gb62, gl62, cl62, HG62⟩ := Kd.R_form HO_9.out (by omega); (first | cases eo62 | (injection eo62 with ea_ en_ ec_; (first | subst ea_ | (injection ea_ with ea_; subst ea_)); subst ec_; clear en_)); have GB62 := Aside0.mk gb62; have GG62 := Aside0.mk HG62; clear gb62 gl62 HG62; (first | simp only [add_plain] at hx581_0 | skip); obtain ⟨hx62_0, hf62_0⟩ := Kd.R_celln 0 HO_9.out (t579 : Int) p62 q62; replace p62 := eq_true p62; replace q62 := eq_true q62; obtain ⟨hy66_, hz66_⟩ := Kd.R_celln 0 HO_9.out (t579 : Int) (of_decide_eq_true (by first | (with_reducible assumption) | assumption)) (of_decide_eq_true (by first | (with_reducible assumption) | assumption)); have HP66 := Kd.R_putg HO_9.out (t579 : Int) (IntKind.u64.wrap ((rd x9_3 t579) + 1))) | ((with_reducible refine gate_store (t := 22) (p := 87) rfl ?_); refine store_event (t := 22) (p := 87) (v := ?vo_w67) (w1 := (w64.setCell ⟨go62, (t579 : Int).toNat, none⟩ (.int .u64 (IntKind.u64.wrap ((rd x9_3 t579) + 1))))) ?hg ?ho ?hn ?hr ?_; (case ho => rfl); (case hg => rfl); (case hn => rfl); (case hr => first | (go_simp; done) | (go_simp; rfl)); intro w67 hw; have hg : w64.grownBy w67 (some go62) := (by rw [hw]; exact HP66.2); have hp_ : Kd.R (Kd.int .u64) 22 w67 w.heap.size (fun k_ => some k_ ≠ (.slice Ao48 x5_2.length co48 : Value).ownBlock ∧ some k_ ≠ (.slice Ao51 t571.length co51 : Value).ownBlock) (.slice (some ⟨go62, 0, none⟩) x9_3.length co65) y582 := (by rw [hw, Ny582.out]; exact HP66.1); clear HP66; have n0_ := Aside0.mk (Kd.R_after (v := (.slice (some ⟨go62, 0, none⟩) x9_3.length co65)) (v1 := (.slice (some ⟨go62, 0, none⟩) x9_3.length co65)) (ok := (fun k_ => some k_ ≠ (.slice Ao51 t571.length co51 : Value).ownBlock)) (by (with_reducible repeat (first | apply Kd.R_alloc | apply Kd.R_drewN | apply Kd.R_drew)); exact Kd.R_mono HO_5.out (fun _ hk => ⟨hk.2, hk.1⟩)) hg (.inl rfl)); have n1_ := Aside0.mk (hp_); have n2_ := Aside0.mk (Kd.R_after (v := (.slice (some ⟨go62, 0, none⟩) x9_3.length co65)) (v1 := (.slice (some ⟨go62, 0, none⟩) x9_3.length co65)) (ok := (fun k_ => some k_ ≠ (.slice Ao48 x5_2.length co48 : Value).ownBlock)) (by (with_reducible repeat (first | apply Kd.R_alloc | apply Kd.R_drewN | apply Kd.R_drew)); exact HO_576000.out) hg (.inl rfl)); have n3_ := Aside0.mk (blk_grown (g := gb575) (o := .cells #[.slice Ao51 t571.length co51] 49 (0, 0)) (by (with_reducible repeat (first | refine blk_drewN ?_ _ | refine blk_drew ?_ | refine blk_alloc ?_ _)); exact BK575.out) hg (Kd.R_ne HO_9.out BK575.out (by decide))); have n4_ := Aside0.mk ((by rw [hw]; exact below_set (HB.out) GB62.out : Below w.heap.size w w67)); clear HO_5; clear HO_9; clear HO_576000; clear BK575; clear HB; have HO_5 := n0_; have HO_9 := n1_; have HO_576000 := n2_; have BK575 := n3_; have HB := n4_; clear n0_ n1_ n2_ n3_ n4_; clear hg hw hp_))
                                        go_roundg k3
                                        case measure => have := HK1.out; have := HK2.out; have := HK3.out; omega
                                        case rel => exact ⟨(y582), (IntKind.u64.wrap (x10_3 + 1)), (by first | rfl | (simp; done) | (simp [*]; done)), H', ⟨by have := HK1.out; have := HK2.out; have := HK3.out; omega⟩, ⟨by (with_reducible repeat (first | apply Kd.R_alloc | apply Kd.R_drewN | apply Kd.R_drew)); exact Kd.R_mono HO_5.out (fun _ hk => ⟨hk.2, hk.1⟩)⟩, ⟨by (with_reducible repeat (first | apply Kd.R_alloc | apply Kd.R_drewN | apply Kd.R_drew)); exact HO_9.out⟩, ⟨by (with_reducible repeat (first | apply Kd.R_alloc | apply Kd.R_drewN | apply Kd.R_drew)); exact HO_576000.out⟩, ⟨by (with_reducible repeat (first | refine blk_drewN ?_ _ | refine blk_drew ?_ | refine blk_alloc ?_ _)); exact BK575.out⟩, ⟨by repeat (first | (with_reducible first | exact HB.out | apply below_alloc | apply pw_below_drewN | apply below_drew1 | refine below_set ?_ GE575.out) | exact HB.out)⟩⟩
                                      · rw [if_neg c61] at H
                                        exact absurd H (by simp)
                                    · rw [if_neg c60] at H
                                      exact absurd H (by simp)
                              · rw [if_neg c57] at H
                                exact absurd H (by simp)
                            · rw [if_neg c55] at H
                              have c55b0 : decide (x10_3 < x3_1) = false := decide_eq_false c55
                              clear c55
                              replace H := Option.bind_eq_some_iff.mp H
                              obtain ⟨t583, A680, H⟩ := H
                              replace H : (some t583) = some r := H
                              have A68 := Aside0.mk A680
                              clear A680
                              obtain rfl := Option.some.inj H
                              obtain ⟨Ao69, co69, eo69⟩ := Kd.R_slice HO_9.out
                              subst eo69
                              go_wp2_with (first | ((with_reducible refine gate_callee (f := 25) rfl ?_); refine goesL_ (some 90) rfl rfl Try.func25 (by kernel_rfl) rfl #[.slice Ao69 x9_3.length co69, .slice Ao48 x5_2.length co48] rfl (by (try simp only [List.map_toArray, List.map_cons, List.map_nil]); first | done | rfl | (simp only [List.length_drop, List.length_take]; rfl)) ?_; (with_reducible refine (drawlotref09_Same.calls k3 _ _ x9_3 _ _ x5_2 t583 _ ?side1 ?side2 ?side3 ?side4 A68.out).mono ?_); (case side1 => repeat (first | exact (Kd.R_reads' HO_9.out).2.2 | (with_reducible refine Kd.C_alloc ?_ _) | (with_reducible refine Kd.C_drewN ?_ _) | (with_reducible refine Kd.C_drew ?_))); (case side2 => exact (Kd.R_reads' HO_9.out).2.1); (case side3 => repeat (first | exact (Kd.R_reads' HO_5.out).2.2 | (with_reducible refine Kd.C_alloc ?_ _) | (with_reducible refine Kd.C_drewN ?_ _) | (with_reducible refine Kd.C_drew ?_))); (case side4 => exact (Kd.R_reads' HO_5.out).2.1); rintro e w' ⟨rfl, ⟨nd, rfl⟩⟩; refine ⟨_, rfl, ?_⟩))
                              go_ret
                              exact ⟨by first | rfl | (simp [errW_none, errW_some] <;> rfl) | (simp [*, errW_none, errW_some] <;> rfl), by repeat (first | (with_reducible first | exact HB.out | apply below_alloc | apply pw_below_drewN | apply below_drew1 | refine below_set ?_ GE575.out) | exact HB.out)⟩
                      · rw [if_neg c47] at H
                        exact absurd H (by simp)
                    · rw [if_neg c46] at H
                      exact absurd H (by simp)
                  · rw [if_neg c45] at H
                    exact absurd H (by simp)
  · replace c3 := Bool.eq_false_iff.mpr c3
    subst c3
    have H1 : (none) = some r := by rw [if_neg (show ¬ (false = true) by decide)] at H; exact H
    clear H
    have H := H1
    clear H1
    exact absurd H (by simp)

/-- THE ONE PURE STATEMENT of drawlotlaw11_FenOwns: yours. -/
def drawlotlaw11_FenOwns.Pure : Prop := ∀ (l0 : List Int), l0.length ≤ maxLen → l0.length * 8 ≤ 140737488351232 → (∀ x ∈ l0, (Lit.int .u64 x).wf = true) → ∃ k, drawlotlaw11_FenOwns.f k l0 = some true
theorem drawlotlaw11_FenOwns.walk (P : drawlotlaw11_FenOwns.Pure) (a0 : Option Addr) (len0 cap0 : Nat) (z0 : List Int) (w : World) (w0 : (a0 = none ∧ len0 = 0 ∧ cap0 = 0 ∧ z0 = []) ∨ ∃ x, a0 = some x ∧ len0 ≤ cap0 ∧ cap0 ≤ maxLen ∧ z0.length = cap0 ∧ (∀ i, i < z0.length → w.cell? (x.add i) = some (.int .u64 (z0.getD i 0))) ∧ ∀ n ∈ z0, (Lit.int .u64 n).wf = true) (y0 : len0 * 8 ≤ 140737488351232) :
    Calls Try.prog 13 #[.slice a0 len0 cap0] w fun e w' => e = .returned (.bool true) ∧ Below w.heap.size w w' := by
  obtain ⟨l0, rfl, hr0, hm0, hw0, hc0⟩ := ReadsInt.ofRowC w0
  obtain ⟨k, h⟩ := P l0 hm0 y0 hw0
  refine (drawlotlaw11_FenOwns.calls k _ _ l0 true w (Kd.C_of_reads (d := (0 : Int)) (h1 := fun _ => rfl) hr0) hc0 h).mono ?_
  rintro e w' ⟨rfl, hd⟩
  exact ⟨rfl, hd⟩

end Go.Proofs.Ytngacagfmpndmaa.PF
