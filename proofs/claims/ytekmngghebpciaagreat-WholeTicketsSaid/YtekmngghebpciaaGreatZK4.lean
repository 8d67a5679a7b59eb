/- Proved here: LawWholeTickets, the statement of the row that this text's last part names, and all that it rests on: words on walks, contracts of the program's functions, plain lemmas. Conditions: none but those of the given row. (part 5 of 6) -/
import Derived.Test.YtekmngghebpciaaGreatZK3
section
namespace Go.Proofs.YtekmngghebpciaaGreat.PW
open Go.RowKit Go.Proofs.YtekmngghebpciaaGreatW.PrintWords Go.Proofs.YtekmngghebpciaaGreatW.PrintLast Go.Proofs.YtekmngghebpciaaGreatW.PrintMore
attribute [local go_sem] max2_int min2_int max_two min_two max_three min_three max_four min_four
set_option linter.unusedVariables false
set_option linter.unusedSimpArgs false
def fen_Set.l0 : Nat → Int → Int → List Int → Int → Option (List Int × Int)
 | 0, _, _, _, _ => none
 | k + 1, x2, x8, x12, x13 => if x13 ≤ (x12.length : Int) then (if 0 ≤ (wrap64 (x13 - 1)) then (if (wrap64 (x13 - 1)) < (x12.length : Int) then ((fen_low.f x13).bind fun t437 => (fen_Set.l0 k x2 x8 (x12.set ((wrap64 (x13 - 1)) : Int).toNat (IntKind.u64.wrap ((IntKind.u64.wrap ((rd x12 (wrap64 (x13 - 1))) - x8)) + x2))) (wrap64 (x13 + t437)))) else (none)) else (none)) else (some (x12, 0))
def fen_Set.f (k : Nat) (l0_0 : List Int) (a1 : Int) (a2 : Int) : Option (List Int × Int) := (fen_At.f k l0_0 a1).bind fun bt427 => (if bt427.2 = 0 then ((fen_Total.f k l0_0).bind fun t429 => ((safe_Add.f (IntKind.u64.wrap (t429 - bt427.1)) a2).bind fun bt430 => (if bt430.2 = true then ((slices_Clone_uint64_uint64.f l0_0).bind fun t432 => (fen_Set.l0 k a2 bt427.1 t432 (wrap64 (a1 + 1)))) else (none)))) else (none))
theorem fen_Set.mono_l : ∀ k, (∀ y0 y1 y2 y3, LeO (fen_Set.l0 k y0 y1 y2 y3) (fen_Set.l0 (k + 1) y0 y1 y2 y3))
 | 0 => fun _ _ _ _ r h => by simp [fen_Set.l0] at h
 | k + 1 => by
  have ih0 := fen_Set.mono_l k
  ·intro y0 y1 y2 y3
   unfold fen_Set.l0
   repeat' first
   | (with_reducible exact ih0 _ _ _ _)
   | (with_reducible exact fen_At.mono _ _ _)
   | (with_reducible exact fen_Total.mono _ _)
   | (with_reducible exact LeO.refl _)
   | (with_reducible exact LeO.none _)
   | (with_reducible refine LeO.ite ?_ ?_)
   | (with_reducible refine LeO.bind ?_ (fun _ => ?_))
   | exact ih0 _ _ _ _
   | exact fen_At.mono _ _ _
   | exact fen_Total.mono _ _
   | exact LeO.none _
   | refine LeO.ite ?_ ?_
   | refine LeO.bind ?_ (fun _ => ?_)
theorem fen_Set.mono : ∀ a0 a1 a2 k, LeO (fen_Set.f k a0 a1 a2) (fen_Set.f (k + 1) a0 a1 a2) := by
 intro a0 a1 a2 k
 have ih0 := fen_Set.mono_l k
 unfold fen_Set.f
 repeat' first
   | (with_reducible exact ih0 _ _ _ _)
   | (with_reducible exact fen_At.mono _ _ _)
   | (with_reducible exact fen_Total.mono _ _)
   | (with_reducible exact LeO.refl _)
   | (with_reducible exact LeO.none _)
   | (with_reducible refine LeO.ite ?_ ?_)
   | (with_reducible refine LeO.bind ?_ (fun _ => ?_))
   | exact ih0 _ _ _ _
   | exact fen_At.mono _ _ _
   | exact fen_Total.mono _ _
   | exact LeO.none _
   | refine LeO.ite ?_ ?_
   | refine LeO.bind ?_ (fun _ => ?_)
set_option maxHeartbeats 8000000 in
set_option maxRecDepth 100000 in
theorem fen_Set.calls (k : Nat) (A0_0 : Option Addr) (c0_0 : Nat) (l0_0 : List Int) (a1 : Int) (a2 : Int) (r1 : List Int) (r2 : Int) (w : World) (hr0_0 : Kd.C (Kd.int .u64) w A0_0 l0_0.length l0_0) (hc0_0 : l0_0.length ≤ c0_0) (h : fen_Set.f k l0_0 a1 a2 = some (r1, r2)) :
  Calls Tryz.prog 73 #[.agg #[.slice A0_0 l0_0.length c0_0], .int .i64 a1, .int .u64 a2] w fun e w' => ∃ v0_ : Value, e = .returned (.tuple #[.agg #[v0_], .int .i64 r2]) ∧ Kd.R (Kd.int .u64) 24 w' w.heap.size (fun _ => True) v0_ r1 ∧ Below w.heap.size w w' := by
 have hu54 := Tryz.underlying54
 have HR0_0 := Aside0.mk hr0_0
 have HC0_0 := Aside0.mk hc0_0
 clear hr0_0 hc0_0
 have HB := Aside0.mk (Below.refl w.heap.size w)
 have H : ((fen_At.f k l0_0 a1).bind fun bt427 => (if bt427.2 = 0 then ((fen_Total.f k l0_0).bind fun t429 => ((safe_Add.f (IntKind.u64.wrap (t429 - bt427.1)) a2).bind fun bt430 => (if bt430.2 = true then ((slices_Clone_uint64_uint64.f l0_0).bind fun t432 => (fen_Set.l0 k a2 bt427.1 t432 (wrap64 (a1 + 1)))) else (none)))) else (none))) = some (r1, r2) := h
 clear h
 replace H := Option.bind_eq_some_iff.mp H
 obtain ⟨⟨t427, t428⟩, A40, H⟩ := H
 try dsimp only at H
 have A4 := Aside0.mk A40
 clear A40
 by_cases c5 : t428 = 0
 ·rw [if_pos c5] at H
  have c5b0 : (t428 == 0) = true := beq_iff_eq.mpr c5
  have c5b1 : (t428 != 0) = false := bne_eq_false_iff_eq.mpr c5
  clear c5
  replace H := Option.bind_eq_some_iff.mp H
  obtain ⟨t429, A60, H⟩ := H
  try dsimp only at H
  have A6 := Aside0.mk A60
  clear A60
  replace H := Option.bind_eq_some_iff.mp H
  obtain ⟨⟨t430, t431⟩, A70, H⟩ := H
  try dsimp only at H
  have A7 := Aside0.mk A70
  clear A70
  by_cases c8 : t431 = true
  ·subst c8
   have H1 : ((slices_Clone_uint64_uint64.f l0_0).bind fun t432 => (fen_Set.l0 k a2 t427 t432 (wrap64 (a1 + 1)))) = some (r1, r2) := by rw [if_pos rfl] at H; exact H
   clear H
   have H := H1
   clear H1
   replace H := Option.bind_eq_some_iff.mp H
   obtain ⟨t432, A90, H⟩ := H
   try dsimp only at H
   have A9 := Aside0.mk A90
   clear A90
   have H' := Aside0.mk H
   clear H
   go_enter Tryz.func73, Tryz.ntmps73
   go_wp2_with (first | ((with_reducible refine qd 3 ?_); refine box_event ?hg (N := 3) ?hd (cs := #[.slice A0_0 l0_0.length c0_0]) (t := 54) ?hr ?_; (case hd => rfl); (case hg => rfl); (case hr => first | (go_simp; done) | (go_simp; rfl)); intro gb425 hg w10 hbox hb; have BK425 := Aside0.mk (hbox); have GW425 := Aside0.mk (qe HB hg); have GE425 := Aside0.mk (qe HB hg); replace HB := Aside0.mk (below_step (qs HB) hb); clear hb hbox hg) | ((with_reducible refine qd 6 ?_); refine box_event ?hg (N := 6) ?hd (cs := #[.slice none 0 0]) (t := 54) ?hr ?_; (case hd => rfl); (case hg => rfl); (case hr => first | (go_simp; done) | (go_simp; rfl)); intro gb426 hg w11 hbox hb; have BK426 := Aside0.mk (hbox); have GW426 := Aside0.mk (qe HB hg); have GE426 := Aside0.mk (qe HB hg); replace HB := Aside0.mk (below_step (qs HB) hb); have NB425_426 := Aside0.mk (qu BK425 hg); have NB426_425 := Aside0.mk (qw BK425 hg); replace BK425 := Aside0.mk (qB BK425 hb); clear hb hbox hg; have hnb12 := NB425_426.out; have hnc12 := NB426_425.out; have hcz13_0 : w11.cell? ⟨gb425, 0, none⟩ = some (.slice A0_0 l0_0.length c0_0) := (blk_cell BK425.out 0).trans rfl; have hfz13_0 := blk_frozen BK425.out 0) | ((with_reducible refine gate_callee (f := 98) rfl ?_); refine goesL_ (some 17) rfl rfl Tryz.func98 (by kernel_rfl) rfl #[.agg #[.slice A0_0 l0_0.length c0_0], .int .i64 a1] rfl ql ?_; (with_reducible refine (fen_At.calls k _ _ l0_0 a1 t427 t428 _ ?side1 ?side2 A4.out).mono ?_); (case side1 => repeat (first | exact (Kd.C_below HR0_0.out HB.out) | (with_reducible refine Kd.C_alloc ?_ _) | (with_reducible refine Kd.C_drewN ?_ _) | (with_reducible refine Kd.C_drew ?_))); (case side2 => exact HC0_0.out); rintro e w14 ⟨rfl, hb⟩; refine ⟨_, rfl, ?_⟩; replace BK425 := Aside0.mk (qB BK425 hb); replace BK426 := Aside0.mk (qB BK426 hb); replace HB := Aside0.mk (below_step (qs HB) hb); (try clear hb); (try clear hb2); (try clear hk); (try clear hi); have hcz15_0 : w14.cell? ⟨gb425, 0, none⟩ = some (.slice A0_0 l0_0.length c0_0) := (blk_cell BK425.out 0).trans rfl; have hfz15_0 := blk_frozen BK425.out 0) | ((with_reducible refine gate_callee (f := 60) rfl ?_); refine goesL_ (some 26) rfl rfl Tryz.func60 (by kernel_rfl) rfl #[.agg #[.slice A0_0 l0_0.length c0_0]] rfl ql ?_; (with_reducible refine (fen_Total.calls k _ _ l0_0 t429 _ ?side1 ?side2 A6.out).mono ?_); (case side1 => repeat (first | exact (Kd.C_below HR0_0.out HB.out) | (with_reducible refine Kd.C_alloc ?_ _) | (with_reducible refine Kd.C_drewN ?_ _) | (with_reducible refine Kd.C_drew ?_))); (case side2 => exact HC0_0.out); rintro e w16 ⟨rfl, hb⟩; refine ⟨_, rfl, ?_⟩; replace BK425 := Aside0.mk (qB BK425 hb); replace BK426 := Aside0.mk (qB BK426 hb); replace HB := Aside0.mk (below_step (qs HB) hb); (try clear hb); (try clear hb2); (try clear hk); (try clear hi)) | ((with_reducible refine gate_callee (f := 85) rfl ?_); refine goesL_ (some 30) rfl rfl Tryz.func85 (by kernel_rfl) rfl #[.int .u64 (IntKind.u64.wrap (t429 - t427)), .int .u64 a2] rfl ql ?_; (with_reducible refine (safe_Add.calls (IntKind.u64.wrap (t429 - t427)) a2 t430 true _ A7.out).mono ?_); rintro e w' ⟨rfl, ⟨nd, rfl⟩⟩; refine ⟨_, rfl, ?_⟩; have hcz17_0 : w16.cell? ⟨gb425, 0, none⟩ = some (.slice A0_0 l0_0.length c0_0) := (blk_cell BK425.out 0).trans rfl; have hfz17_0 := blk_frozen BK425.out 0) | ((with_reducible refine gate_callee (f := 58) rfl ?_); refine goesL_ (some 38) rfl rfl Tryz.func58 (by kernel_rfl) rfl #[.slice A0_0 l0_0.length c0_0] rfl ql ?_; (with_reducible refine (slices_Clone_uint64_uint64.calls _ _ l0_0 t432 _ ?side1 ?side2 A9.out).mono ?_); (case side1 => repeat (first | exact (Kd.C_below HR0_0.out (qs HB)) | (with_reducible refine Kd.C_alloc ?_ _) | (with_reducible refine Kd.C_drewN ?_ _) | (with_reducible refine Kd.C_drew ?_))); (case side2 => exact HC0_0.out); rintro e w18 ⟨v433, rfl, ho0, hb⟩; refine ⟨_, rfl, ?_⟩; have HO434 := Aside0.mk (Kd.R_lower ho0 (below_size (qs HB))); replace BK425 := Aside0.mk (qB BK425 hb); replace BK426 := Aside0.mk (qB BK426 hb); replace HB := Aside0.mk (below_step (qs HB) hb); (try clear hb); (try clear hb2); (try clear hk); (try clear hi); (try clear ho0)))
   go_loopg [13] k (fun kq v13 w' => ∃ (x12_1 : List Int) (x13_1 : Int), v13 = .int .i64 x13_1 ∧ Aside0 (fen_Set.l0 kq a2 t427 x12_1 x13_1 = some (r1, r2)) ∧ Aside0 (kq ≤ k) ∧ Aside0 (Kd.R (Kd.int .u64) 24 w' w.heap.size (fun _ => True) v433 x12_1) ∧ Aside0 (w'.heap[gb425]? = some (.cells #[(.slice A0_0 l0_0.length c0_0)] 54 (0, 0))) ∧ Aside0 (w'.heap[gb426]? = some (.cells #[(.slice none 0 0)] 54 (0, 0))) ∧ Aside0 (Below w.heap.size w w'))
   case atStart => exact ⟨(t432), (wrap64 (a1 + 1)), (by first | rfl | (simp; done) | (simp [*]; done)), H', ⟨Nat.le_refl _⟩, ⟨(qr HO434)⟩, ⟨(qb BK425)⟩, ⟨(qb BK426)⟩, ⟨(qs HB)⟩⟩
   case round =>
    clear H'
    try clear c1
    try clear p2
    try clear c5
    try clear c5b0
    try clear c5b1
    try clear c6
    try clear p6
    try clear c7
    try clear c8
    try clear c9
    try clear c12
    try clear hcz13_0
    try clear hcz15_0
    try clear hcz17_0
    try clear hfz13_0
    try clear hfz15_0
    try clear hfz17_0
    obtain ⟨x12_1, x13_1, rfl, HA, HK1, HO_12, BK425, BK426, HB⟩ := hrel
    cases gk with
    | zero => exact absurd HA.out (by simp [fen_Set.l0])
    | succ k1 =>
     have H := HA.out
     clear HA
     simp only [fen_Set.l0] at H
     by_cases c19 : x13_1 ≤ (x12_1.length : Int)
     ·rw [if_pos c19] at H
      have c19b0 : decide (x13_1 ≤ (x12_1.length : Int)) = true := decide_eq_true c19
      clear c19
      obtain ⟨ji20, hji20⟩ : ∃ j_ : Int, (wrap64 (x13_1 - 1)) = j_ := ⟨_, rfl⟩
      replace H : (if 0 ≤ (ji20) then (if (ji20) < (x12_1.length : Int) then ((fen_low.f x13_1).bind fun t437 => (fen_Set.l0 k1 a2 t427 (x12_1.set ((ji20) : Int).toNat (IntKind.u64.wrap ((IntKind.u64.wrap ((rd x12_1 (ji20)) - t427)) + a2))) (wrap64 (x13_1 + t437)))) else (none)) else (none)) = some (r1, r2) := by first | (rw [hji20] at H; exact H) | (simp only [hji20] at H ⊢; exact H)
      have hji20w : (IntKind.i64.wrap (x13_1 - 1)) = ji20 := (i64_w _).trans hji20
      by_cases c21 : 0 ≤ (ji20)
      ·rw [if_pos c21] at H
       have c21b0 : decide (0 ≤ (ji20)) = true := decide_eq_true c21
       clear c21
       by_cases c22 : (ji20) < (x12_1.length : Int)
       ·rw [if_pos c22] at H
        have c22b0 : decide ((ji20) < (x12_1.length : Int)) = true := decide_eq_true c22
        clear c22
        obtain ⟨y436, hy436⟩ : ∃ y_ : List Int, y_ = (x12_1.set ((ji20) : Int).toNat (IntKind.u64.wrap ((IntKind.u64.wrap ((rd x12_1 (ji20)) - t427)) + a2))) := ⟨_, rfl⟩
        replace H : ((fen_low.f x13_1).bind fun t437 => (fen_Set.l0 k1 a2 t427 y436 (wrap64 (x13_1 + t437)))) = some (r1, r2) := by first | (rw [hy436]; with_reducible exact H) | (have H2_ := (Option.bind_some _ _).symm.trans H; rw [hy436]; with_reducible exact H2_) | (have H2_ := (Option.bind_some _ _).symm.trans H; with_reducible exact H2_) | with_reducible exact H | (rw [hy436]; exact H) | exact H
        have Ny436 := Aside0.mk hy436
        clear hy436
        replace H := Option.bind_eq_some_iff.mp H
        obtain ⟨t437, A240, H⟩ := H
        try dsimp only at H
        have A24 := Aside0.mk A240
        clear A240
        have H' := Aside0.mk H
        clear H
        obtain ⟨Ao25, co25, eo25⟩ := Kd.R_slice HO_12.out
        subst eo25
        have p435 : 0 ≤ ((ji20) : Int) := of_decide_eq_true qa
        have q435 : (ji20) < (x12_1.length : Int) := of_decide_eq_true qa
        obtain ⟨ad435, e435, hx435_0⟩ := Kd.at_int (Kd.R_reads' HO_12.out).2.2 (ji20) p435 q435
        cases e435
        replace p435 := eq_true p435
        replace q435 := eq_true q435
        have p23 : 0 ≤ ((ji20) : Int) := of_decide_eq_true qa
        have q23 : ((ji20) : Int) < ((x12_1.length : Int) : Int) := of_decide_eq_true qa
        obtain ⟨go23, co23, eo23, gb23, gl23, cl23, HG23⟩ := Kd.R_form HO_12.out (by omega)
        (first | cases eo23 | (injection eo23 with ea_ en_ ec_; (first | subst ea_ | (injection ea_ with ea_; subst ea_)); subst ec_; clear en_))
        have GB23 := Aside0.mk gb23
        have GG23 := Aside0.mk HG23
        clear gb23 gl23 HG23
        (first | simp only [add_plain] at hx435_0 | skip)
        obtain ⟨hx23_0, hf23_0⟩ := Kd.R_celln 0 HO_12.out ((ji20) : Int) p23 q23
        replace p23 := eq_true p23
        replace q23 := eq_true q23
        have HP26 := Kd.R_putg HO_12.out ((ji20) : Int) (IntKind.u64.wrap ((IntKind.u64.wrap ((rd x12_1 (ji20)) - t427)) + a2))
        go_wp2_with (first | ((with_reducible refine gate_store (t := 24) (p := 61) rfl ?_); refine store_event (t := 24) (p := 61) (v := ?vo_w27) (w1 := (wr.setCell ⟨go23, ((ji20) : Int).toNat, none⟩ (.int .u64 (IntKind.u64.wrap ((IntKind.u64.wrap ((rd x12_1 (ji20)) - t427)) + a2))))) ?hg ?ho ?hn ?hr ?_; (case ho => rfl); (case hg => rfl); (case hn => rfl); (case hr => first | (go_simp; done) | (go_simp; rfl)); intro w27 hw; have hg : wr.grownBy w27 (some go23) := (by rw [hw]; exact HP26.2); have hp_ : Kd.R (Kd.int .u64) 24 w27 w.heap.size (fun _ => True) (.slice (some ⟨go23, 0, none⟩) x12_1.length co25) y436 := (by rw [hw, Ny436.out]; exact HP26.1); clear HP26; replace BK425 := Aside0.mk (qG BK425 hg (Kd.R_ne HO_12.out BK425.out (by decide))); replace BK426 := Aside0.mk (qG BK426 hg (Kd.R_ne HO_12.out BK426.out (by decide))); replace HO_12 := Aside0.mk (hp_); replace HB := Aside0.mk ((by rw [hw]; exact below_set (HB.out) GB23.out : Below w.heap.size w w27)); clear hg hw hp_) | ((with_reducible refine gate_callee (f := 59) rfl ?_); refine goesL_ (some 47) rfl rfl Tryz.func59 (by kernel_rfl) rfl #[.int .i64 x13_1] rfl ql ?_; (with_reducible refine (fen_low.calls x13_1 t437 _ A24.out).mono ?_); rintro e w' ⟨rfl, ⟨nd, rfl⟩⟩; refine ⟨_, rfl, ?_⟩))
        go_roundg k1
        case measure => have := HK1.out; omega
        case rel => exact ⟨(y436), (wrap64 (x13_1 + t437)), (by first | rfl | (simp; done) | (simp [*]; done)), H', ⟨by have := HK1.out; omega⟩, ⟨(qr HO_12)⟩, ⟨(qb BK425)⟩, ⟨(qb BK426)⟩, ⟨(qs HB)⟩⟩
       ·rw [if_neg c22] at H
        exact absurd H (by simp)
      ·rw [if_neg c21] at H
       exact absurd H (by simp)
     ·rw [if_neg c19] at H
      have c19b0 : decide (x13_1 ≤ (x12_1.length : Int)) = false := decide_eq_false c19
      clear c19
      simp only [Option.some.injEq, Prod.mk.injEq] at H
      obtain ⟨rfl, rfl⟩ := H
      obtain ⟨Ao28, co28, eo28⟩ := Kd.R_slice HO_12.out
      subst eo28
      have hnb29 := NB426_425.out
      have hnc29 := NB425_426.out
      have hcz30_0 : wr.cell? ⟨gb426, 0, none⟩ = some (.slice none 0 0) := (blk_cell BK426.out 0).trans rfl
      have hfz30_0 := blk_frozen BK426.out 0
      go_wp2
      refine bodyPost_ret (results_ct rfl _ _ gb426 54 #[.slice Ao28 x12_1.length co28] (0, 0) _ rfl (by (with_reducible repeat (first | refine blk_drewN ?_ _ | refine blk_drew ?_ | refine blk_alloc ?_ _)); refine blk_put (cs := #[.slice none 0 0]) ?_ 0 _ rfl; (with_reducible repeat (first | refine blk_drewN ?_ _ | refine blk_drew ?_ | refine blk_alloc ?_ _)); exact BK426.out) Tryz.underlying54 rfl qZ) rfl ?_
      exact ⟨_, by first | rfl | (simp [errW_none, errW_some] <;> rfl) | (simp [*, errW_none, errW_some] <;> rfl), by (with_reducible repeat (first | apply Kd.R_alloc | apply Kd.R_drewN | apply Kd.R_drew)); exact Kd.R_mono (Kd.R_far (p := ⟨gb426, 0, none⟩) (Kd.R_types HO_12.out BK426.out (by decide)) (fun _ hk => hk.2) (.slice Ao28 x12_1.length co28)) (fun _ hk => trivial), (qs HB)⟩
  ·replace c8 := Bool.eq_false_iff.mpr c8
   subst c8
   have H1 : (none) = some (r1, r2) := by rw [if_neg (show ¬ (false = true) by decide)] at H; exact H
   clear H
   have H := H1
   clear H1
   exact absurd H (by simp)
 ·rw [if_neg c5] at H
  exact absurd H (by simp)
def comm_Draw.l0 : Nat → Int → Int → List Int → List Int → Int → List Int → Int → List Int → Int → Int → Option (List Int × Int × List Int × Int × List Int × Int × Int × Int)
 | 0, _, _, _, _, _, _, _, _, _, _ => none
 | k + 1, x1, x3, x8, x439000, x440000, x440001, x440002, x440003, x440004, x440005 => if (x8.length : Int) < x1 then ((lead_Draw.f k x439000 x440000 x440001 x440002 x440003 x440004 x440005 x3).bind fun bt446 => (if bt446.2.2.2.2.2.2.2 = 0 then (if x8.length < 17592186044416 then ((fen_Set.f k x439000 bt446.1 0).bind fun bt460 => (if bt460.2 = 0 then (comm_Draw.l0 k x1 x3 (x8 ++ [bt446.1]) bt460.1 bt446.2.1 bt446.2.2.1 bt446.2.2.2.1 bt446.2.2.2.2.1 bt446.2.2.2.2.2.1 bt446.2.2.2.2.2.2.1) else (none))) else (none)) else (none))) else (some (x8, x440000, x440001, x440002, x440003, x440004, x440005, 0))
def comm_Draw.f (k : Nat) (l0_0 : List Int) (a1 : Int) (a2_0 : Int) (l2_1 : List Int) (a2_2 : Int) (a2_3 : List Int) (a2_4 : Int) (a2_5 : Int) (a3 : Int) : Option (List Int × Int × List Int × Int × List Int × Int × Int × Int) := (comm_may.f a1 a2_0 l2_1 a2_2 a2_3 a2_4 a2_5 a3).bind fun t441 => (if t441 = true then ((fen_Stakes.f k l0_0).bind fun t442 => ((scan_Positive.f k t442).bind fun t445 => (if t445 < a1 then (none) else (comm_Draw.l0 k a1 a3 ([] : List Int) l0_0 a2_0 l2_1 a2_2 a2_3 a2_4 a2_5)))) else (none))
theorem comm_Draw.mono_l : ∀ k, (∀ y0 y1 y2 y3 y4 y5 y6 y7 y8 y9, LeO (comm_Draw.l0 k y0 y1 y2 y3 y4 y5 y6 y7 y8 y9) (comm_Draw.l0 (k + 1) y0 y1 y2 y3 y4 y5 y6 y7 y8 y9))
 | 0 => fun _ _ _ _ _ _ _ _ _ _ r h => by simp [comm_Draw.l0] at h
 | k + 1 => by
  have ih0 := comm_Draw.mono_l k
  ·intro y0 y1 y2 y3 y4 y5 y6 y7 y8 y9
   unfold comm_Draw.l0
   repeat' first
   | (with_reducible exact ih0 _ _ _ _ _ _ _ _ _ _)
   | (with_reducible exact fen_Set.mono _ _ _ _)
   | (with_reducible exact fen_Stakes.mono _ _)
   | (with_reducible exact lead_Draw.mono _ _ _ _ _ _ _ _ _)
   | (with_reducible exact scan_Positive.mono _ _)
   | (with_reducible exact LeO.refl _)
   | (with_reducible exact LeO.none _)
   | (with_reducible refine LeO.ite ?_ ?_)
   | (with_reducible refine LeO.bind ?_ (fun _ => ?_))
   | exact ih0 _ _ _ _ _ _ _ _ _ _
   | exact fen_Set.mono _ _ _ _
   | exact fen_Stakes.mono _ _
   | exact lead_Draw.mono _ _ _ _ _ _ _ _ _
   | exact scan_Positive.mono _ _
   | exact LeO.none _
   | refine LeO.ite ?_ ?_
   | refine LeO.bind ?_ (fun _ => ?_)
theorem comm_Draw.mono : ∀ a0 a1 a2 a3 a4 a5 a6 a7 a8 k, LeO (comm_Draw.f k a0 a1 a2 a3 a4 a5 a6 a7 a8) (comm_Draw.f (k + 1) a0 a1 a2 a3 a4 a5 a6 a7 a8) := by
 intro a0 a1 a2 a3 a4 a5 a6 a7 a8 k
 have ih0 := comm_Draw.mono_l k
 unfold comm_Draw.f
 repeat' first
   | (with_reducible exact ih0 _ _ _ _ _ _ _ _ _ _)
   | (with_reducible exact fen_Set.mono _ _ _ _)
   | (with_reducible exact fen_Stakes.mono _ _)
   | (with_reducible exact lead_Draw.mono _ _ _ _ _ _ _ _ _)
   | (with_reducible exact scan_Positive.mono _ _)
   | (with_reducible exact LeO.refl _)
   | (with_reducible exact LeO.none _)
   | (with_reducible refine LeO.ite ?_ ?_)
   | (with_reducible refine LeO.bind ?_ (fun _ => ?_))
   | exact ih0 _ _ _ _ _ _ _ _ _ _
   | exact fen_Set.mono _ _ _ _
   | exact fen_Stakes.mono _ _
   | exact lead_Draw.mono _ _ _ _ _ _ _ _ _
   | exact scan_Positive.mono _ _
   | exact LeO.none _
   | refine LeO.ite ?_ ?_
   | refine LeO.bind ?_ (fun _ => ?_)
set_option maxHeartbeats 8000000 in
set_option maxRecDepth 100000 in
theorem comm_Draw.calls (k : Nat) (P0_0_ : Nat → Prop) (A0_0 : Option Addr) (c0_0 : Nat) (l0_0 : List Int) (a1 : Int) (a2_0 : Int) (P2_1_ : Nat → Prop) (A2_1 : Option Addr) (c2_1 : Nat) (l2_1 : List Int) (a2_2 : Int) (a2_3 : List Int) (a2_4 : Int) (a2_5 : Int) (a3 : Int) (r1 : List Int) (r2 : Int) (r3 : List Int) (r4 : Int) (r5 : List Int) (r6 : Int) (r7 : Int) (r8 : Int) (w : World) (hs0_0 : Kd.V (Kd.int .u64) 24 w w.heap.size (fun k_ => P0_0_ k_) (.slice A0_0 l0_0.length c0_0) l0_0) (hs2_1 : Kd.V (Kd.int .u8) 5 w w.heap.size (fun k_ => P2_1_ k_) (.slice A2_1 l2_1.length c2_1) l2_1) (h : comm_Draw.f k l0_0 a1 a2_0 l2_1 a2_2 a2_3 a2_4 a2_5 a3 = some (r1, r2, r3, r4, r5, r6, r7, r8)) :
  Calls Tryz.prog 41 #[.agg #[.slice A0_0 l0_0.length c0_0], .int .i64 a1, .agg (#[.int .i64 a2_0, .slice A2_1 l2_1.length c2_1, .int .u64 a2_2] ++ (Ar.cells .u8 32 a2_3 ++ #[.int .u64 a2_4, .int .u64 a2_5])), .int .i64 a3] w fun e w' => ∃ v0_ v2_ : Value, e = .returned (.tuple #[v0_, .agg (#[.int .i64 r2, v2_, .int .u64 r4] ++ (Ar.cells .u8 32 r5 ++ #[.int .u64 r6, .int .u64 r7])), .int .i64 r8]) ∧ Kd.R (Kd.int .i64) 3 w' w.heap.size (fun k_ => (w.heap.size ≤ k_)) v0_ r1 ∧ Kd.V (Kd.int .u8) 5 w' w.heap.size (fun k_ => ((P0_0_ k_ ∨ P2_1_ k_) ∨ w.heap.size ≤ k_) ∧ some k_ ≠ (v0_ : Value).ownBlock) v2_ r3 ∧ Below w.heap.size w w' := by
 have hu54 := Tryz.underlying54
 have hu39 := Tryz.underlying39
 have HO0_0 := Aside0.mk (show Kd.V (Kd.int .u64) 24 w w.heap.size (fun k_ => ((P0_0_ k_ ∨ P2_1_ k_) ∨ w.heap.size ≤ k_)) (.slice A0_0 l0_0.length c0_0) l0_0 from Kd.V_mono hs0_0 (fun k_ hk => .inl (.inl hk)))
 have HO2_1 := Aside0.mk (show Kd.V (Kd.int .u8) 5 w w.heap.size (fun k_ => ((P0_0_ k_ ∨ P2_1_ k_) ∨ w.heap.size ≤ k_)) (.slice A2_1 l2_1.length c2_1) l2_1 from Kd.V_mono hs2_1 (fun k_ hk => .inl (.inr hk)))
 have HB := Aside0.mk (Below.refl w.heap.size w)
 have H : ((comm_may.f a1 a2_0 l2_1 a2_2 a2_3 a2_4 a2_5 a3).bind fun t441 => (if t441 = true then ((fen_Stakes.f k l0_0).bind fun t442 => ((scan_Positive.f k t442).bind fun t445 => (if t445 < a1 then (none) else (comm_Draw.l0 k a1 a3 ([] : List Int) l0_0 a2_0 l2_1 a2_2 a2_3 a2_4 a2_5)))) else (none))) = some (r1, r2, r3, r4, r5, r6, r7, r8) := h
 clear h
 replace H := Option.bind_eq_some_iff.mp H
 obtain ⟨t441, A50, H⟩ := H
 try dsimp only at H
 have A5 := Aside0.mk A50
 clear A50
 by_cases c6 : t441 = true
 ·subst c6
  have H1 : ((fen_Stakes.f k l0_0).bind fun t442 => ((scan_Positive.f k t442).bind fun t445 => (if t445 < a1 then (none) else (comm_Draw.l0 k a1 a3 ([] : List Int) l0_0 a2_0 l2_1 a2_2 a2_3 a2_4 a2_5)))) = some (r1, r2, r3, r4, r5, r6, r7, r8) := by rw [if_pos rfl] at H; exact H
  clear H
  have H := H1
  clear H1
  replace H := Option.bind_eq_some_iff.mp H
  obtain ⟨t442, A70, H⟩ := H
  try dsimp only at H
  have A7 := Aside0.mk A70
  clear A70
  replace H := Option.bind_eq_some_iff.mp H
  obtain ⟨t445, A80, H⟩ := H
  try dsimp only at H
  have A8 := Aside0.mk A80
  clear A80
  by_cases c9 : t445 < a1
  ·rw [if_pos c9] at H
   exact absurd H (by simp)
  ·rw [if_neg c9] at H
   have c9b0 : decide (t445 < a1) = false := decide_eq_false c9
   clear c9
   have H' := Aside0.mk H
   clear H
   go_enter Tryz.func41, Tryz.ntmps41
   go_wp2_with (first | ((with_reducible refine qd 4 ?_); refine box_event ?hg (N := 4) ?hd (cs := #[.slice A0_0 l0_0.length c0_0]) (t := 54) ?hr ?_; (case hd => rfl); (case hg => rfl); (case hr => first | (go_simp; done) | (go_simp; rfl)); intro gb438 hg w10 hbox hb; replace HO0_0 := Aside0.mk (Kd.V_below (Kd.V_elderB (qv HO0_0) gb438 (Nat.le_of_eq hg.symm)) hb); replace HO2_1 := Aside0.mk (Kd.V_below (Kd.V_elderB (qv HO2_1) gb438 (Nat.le_of_eq hg.symm)) hb); have BK438 := Aside0.mk (hbox); have GW438 := Aside0.mk (qe HB hg); have GE438 := Aside0.mk (qe HB hg); replace HB := Aside0.mk (below_step (qs HB) hb); clear hb hbox hg) | ((with_reducible refine qd 6 ?_); (try (refine gate_guard (by rfl) ?_; dsimp only)); refine qF (N := 6) (cs := (#[.int .i64 a2_0, .slice A2_1 l2_1.length c2_1, .int .u64 a2_2] ++ ((Ar.cells .u8 32 a2_3) ++ #[.int .u64 a2_4, .int .u64 a2_5]))) (t := 39) ?_; intro gb439 hg w11 hbox hb; replace HO0_0 := Aside0.mk (Kd.V_below (Kd.V_elderB (qv HO0_0) gb439 (Nat.le_of_eq hg.symm)) hb); replace HO2_1 := Aside0.mk (Kd.V_below (Kd.V_elderB (qv HO2_1) gb439 (Nat.le_of_eq hg.symm)) hb); have BK439 := Aside0.mk (hbox); have GW439 := Aside0.mk (qe HB hg); have GE439 := Aside0.mk (qe HB hg); replace HB := Aside0.mk (below_step (qs HB) hb); have NB438_439 := Aside0.mk (qu BK438 hg); have NB439_438 := Aside0.mk (qw BK438 hg); replace BK438 := Aside0.mk (qB BK438 hb); clear hb hbox hg) | ((with_reducible refine qd 9 ?_); (try (refine gate_guard (by rfl) ?_; dsimp only)); refine qF (N := 9) (cs := (#[.int .i64 0, .slice none 0 0, .int .u64 0] ++ ((Ar.cells .u8 32 (List.replicate 32 0)) ++ #[.int .u64 0, .int .u64 0]))) (t := 39) ?_; intro gb440 hg w12 hbox hb; replace HO0_0 := Aside0.mk (Kd.V_below (Kd.V_elderB (qv HO0_0) gb440 (Nat.le_of_eq hg.symm)) hb); replace HO2_1 := Aside0.mk (Kd.V_below (Kd.V_elderB (qv HO2_1) gb440 (Nat.le_of_eq hg.symm)) hb); have BK440 := Aside0.mk (hbox); have GW440 := Aside0.mk (qe HB hg); have GE440 := Aside0.mk (qe HB hg); replace HB := Aside0.mk (below_step (qs HB) hb); have NB438_440 := Aside0.mk (qu BK438 hg); have NB440_438 := Aside0.mk (qw BK438 hg); replace BK438 := Aside0.mk (qB BK438 hb); have NB439_440 := Aside0.mk (qu BK439 hg); have NB440_439 := Aside0.mk (qw BK439 hg); replace BK439 := Aside0.mk (qB BK439 hb); clear hb hbox hg) | ((with_reducible refine qd 16 ?_); (try (refine gate_guard (by rfl) ?_; dsimp only)); refine Ar.gload_event rfl (T := 39) rfl Tryz.underlying39 rfl (D := (#[.int .i64 a2_0, .slice A2_1 l2_1.length c2_1, .int .u64 a2_2] ++ ((Ar.cells .u8 32 a2_3) ++ #[.int .u64 a2_4, .int .u64 a2_5]))) qz (A := ⟨gb439, 0, none⟩) rfl (Ar.blk_part (qb BK439) Ar.in_whole) ?_) | ((with_reducible refine gate_callee (f := 71) rfl ?_); refine goesL_ (some 18) rfl rfl Tryz.func71 (by kernel_rfl) rfl #[.int .i64 a1, .agg (#[.int .i64 a2_0, .slice A2_1 l2_1.length c2_1, .int .u64 a2_2] ++ ((Ar.cells .u8 32 a2_3) ++ #[.int .u64 a2_4, .int .u64 a2_5])), .int .i64 a3] rfl ql ?_; (with_reducible refine (comm_may.calls a1 a2_0 _ _ l2_1 a2_2 a2_3 a2_4 a2_5 a3 true _ ?side1 ?side2 A5.out).mono ?_); (case side1 => repeat (first | exact (Kd.V_reads' HO2_1.out).2.2 | (with_reducible refine Kd.C_alloc ?_ _) | (with_reducible refine Kd.C_drewN ?_ _) | (with_reducible refine Kd.C_drew ?_))); (case side2 => exact (Kd.V_reads' HO2_1.out).2.1); rintro e w13 ⟨rfl, hb⟩; refine ⟨_, rfl, ?_⟩; replace HO0_0 := Aside0.mk (Kd.V_below (qv HO0_0) hb); replace HO2_1 := Aside0.mk (Kd.V_below (qv HO2_1) hb); replace BK438 := Aside0.mk (qB BK438 hb); replace BK439 := Aside0.mk (qB BK439 hb); replace BK440 := Aside0.mk (qB BK440 hb); replace HB := Aside0.mk (below_step (qs HB) hb); (try clear hb); (try clear hb2); (try clear hk); (try clear hi); have hnb14 := NB438_439.out; have hnc14 := NB439_438.out; have hnb15 := NB438_440.out; have hnc15 := NB440_438.out; have hcz16_0 : w13.cell? ⟨gb438, 0, none⟩ = some (.slice A0_0 l0_0.length c0_0) := (blk_cell BK438.out 0).trans rfl; have hfz16_0 := blk_frozen BK438.out 0) | ((with_reducible refine gate_callee (f := 72) rfl ?_); refine goesL_ (some 23) rfl rfl Tryz.func72 (by kernel_rfl) rfl #[.agg #[.slice A0_0 l0_0.length c0_0]] rfl ql ?_; (with_reducible refine (fen_Stakes.calls k _ _ l0_0 t442 _ ?side1 ?side2 A7.out).mono ?_); (case side1 => repeat (first | exact (Kd.V_reads' HO0_0.out).2.2 | (with_reducible refine Kd.C_alloc ?_ _) | (with_reducible refine Kd.C_drewN ?_ _) | (with_reducible refine Kd.C_drew ?_))); (case side2 => exact (Kd.V_reads' HO0_0.out).2.1); rintro e w17 ⟨v443, rfl, ho0, hb⟩; refine ⟨_, rfl, ?_⟩; replace HO0_0 := Aside0.mk (Kd.V_elder' (qv HO0_0) (Kd.R_base ho0) hb); replace HO2_1 := Aside0.mk (Kd.V_elder' (qv HO2_1) (Kd.R_base ho0) hb); have HO444 := Aside0.mk (Kd.R_lower (Kd.R_newM (M := fun k_ => (w.heap.size ≤ k_)) ho0 (below_size (qs HB)) (fun k_ h_ => h_)) (below_size (qs HB))); replace BK438 := Aside0.mk (qB BK438 hb); replace BK439 := Aside0.mk (qB BK439 hb); replace BK440 := Aside0.mk (qB BK440 hb); replace HB := Aside0.mk (below_step (qs HB) hb); (try clear hb); (try clear hb2); (try clear hk); (try clear hi); (try clear ho0); obtain ⟨Ao18, co18, eo18⟩ := Kd.R_slice HO444.out; subst eo18) | ((with_reducible refine gate_callee (f := 37) rfl ?_); refine goesL_ (some 24) rfl rfl Tryz.func37 (by kernel_rfl) rfl #[.slice Ao18 t442.length co18] rfl ql ?_; (with_reducible refine (scan_Positive.calls k _ _ t442 t445 _ ?side1 ?side2 A8.out).mono ?_); (case side1 => repeat (first | exact (Kd.R_reads' HO444.out).2.2 | (with_reducible refine Kd.C_alloc ?_ _) | (with_reducible refine Kd.C_drewN ?_ _) | (with_reducible refine Kd.C_drew ?_))); (case side2 => exact (Kd.R_reads' HO444.out).2.1); rintro e w' ⟨rfl, ⟨nd, rfl⟩⟩; refine ⟨_, rfl, ?_⟩))
   go_loopg [8] k (fun kq v8 w' => ∃ (x8_1 : List Int) (x439000_1 : List Int) (x440000_1 : Int) (x440001_1 : List Int) (x440002_1 : Int) (x440003_1 : List Int) (x440004_1 : Int) (x440005_1 : Int) (x441000_1 : Int) (x441002_1 : Int) (x441003_1 : List Int) (x441004_1 : Int) (x441005_1 : Int) (u439000 : Value) (u440001 : Value), Aside0 (comm_Draw.l0 kq a1 a3 x8_1 x439000_1 x440000_1 x440001_1 x440002_1 x440003_1 x440004_1 x440005_1 = some (r1, r2, r3, r4, r5, r6, r7, r8)) ∧ Aside0 (kq ≤ k) ∧ Aside0 (Kd.R (Kd.int .i64) 3 w' w.heap.size (fun k_ => (w.heap.size ≤ k_)) v8 x8_1) ∧ Aside0 (Kd.V (Kd.int .u64) 24 w' w.heap.size (fun k_ => ((P0_0_ k_ ∨ P2_1_ k_) ∨ w.heap.size ≤ k_) ∧ some k_ ≠ (v8 : Value).ownBlock ∧ k_ ≠ gb438 ∧ k_ ≠ gb439 ∧ k_ ≠ gb440) u439000 x439000_1) ∧ Aside0 (Kd.V (Kd.int .u8) 5 w' w.heap.size (fun k_ => ((P0_0_ k_ ∨ P2_1_ k_) ∨ w.heap.size ≤ k_) ∧ some k_ ≠ (v8 : Value).ownBlock ∧ k_ ≠ gb438 ∧ k_ ≠ gb439 ∧ k_ ≠ gb440) u440001 x440001_1) ∧ Aside0 (w'.heap[gb438]? = some (.cells #[u439000] 54 (0, 0))) ∧ Aside0 (w'.heap[gb439]? = some (.cells (#[.int .i64 x440000_1, u440001, .int .u64 x440002_1] ++ (Ar.cells .u8 32 x440003_1 ++ #[.int .u64 x440004_1, .int .u64 x440005_1])) 39 (0, 0))) ∧ Aside0 (w'.heap[gb440]? = some (.cells (#[.int .i64 x441000_1, (.slice none 0 0), .int .u64 x441002_1] ++ (Ar.cells .u8 32 x441003_1 ++ #[.int .u64 x441004_1, .int .u64 x441005_1])) 39 (0, 0))) ∧ Aside0 (Below w.heap.size w w'))
   case atStart => exact ⟨(([] : List Int)), (l0_0), (a2_0), (l2_1), (a2_2), (a2_3), (a2_4), (a2_5), (0), (0), ((List.replicate 32 0)), (0), (0), (.slice A0_0 l0_0.length c0_0), (.slice A2_1 l2_1.length c2_1), H', ⟨Nat.le_refl _⟩, ⟨by first | exact Kd.R_nil _ _ _ _ _ | exact Kd.N_nil _ _ _ _ _ | exact Kd.V_nil _ _ _ _ _ | exact Kd.Q_nil _ _ _ _ _ | exact Kd.S_nil _ _ _ _ _⟩, ⟨by (with_reducible repeat (first | apply Kd.V_alloc | apply Kd.V_drewN | apply Kd.V_drew)); exact Kd.V_mono HO0_0.out (fun _ hk => ⟨hk.1.1.1.1, ⟨(by simp [Value.ownBlock]), ⟨hk.1.1.1.2, ⟨hk.1.1.2, hk.1.2⟩⟩⟩⟩)⟩, ⟨by (with_reducible repeat (first | apply Kd.V_alloc | apply Kd.V_drewN | apply Kd.V_drew)); exact Kd.V_mono HO2_1.out (fun _ hk => ⟨hk.1.1.1.1, ⟨(by simp [Value.ownBlock]), ⟨hk.1.1.1.2, ⟨hk.1.1.2, hk.1.2⟩⟩⟩⟩)⟩, ⟨(qb BK438)⟩, ⟨(qb BK439)⟩, ⟨(qb BK440)⟩, ⟨(qs HB)⟩⟩
   case round =>
    clear H'
    try clear c1
    try clear c2
    try clear p2
    try clear c3
    try clear c4
    try clear c6
    try clear c7
    try clear c9
    try clear c9b0
    try clear c14
    try clear c15
    try clear hcz16_0
    try clear hfz16_0
    obtain ⟨x8_1, x439000_1, x440000_1, x440001_1, x440002_1, x440003_1, x440004_1, x440005_1, x441000_1, x441002_1, x441003_1, x441004_1, x441005_1, u439000, u440001, HA, HK1, HO_8, HO_439000, HO_440001, BK438, BK439, BK440, HB⟩ := hrel
    cases gk with
    | zero => exact absurd HA.out (by simp [comm_Draw.l0])
    | succ k1 =>
     have H := HA.out
     clear HA
     simp only [comm_Draw.l0] at H
     by_cases c19 : (x8_1.length : Int) < a1
     ·rw [if_pos c19] at H
      have c19b0 : decide ((x8_1.length : Int) < a1) = true := decide_eq_true c19
      clear c19
      replace H := Option.bind_eq_some_iff.mp H
      obtain ⟨⟨t446, t447, t448, t451, t452, t453, t454, t455⟩, A200, H⟩ := H
      try dsimp only at H
      have A20 := Aside0.mk A200
      clear A200
      by_cases c21 : t455 = 0
      ·rw [if_pos c21] at H
       have c21b0 : (t455 == 0) = true := beq_iff_eq.mpr c21
       have c21b1 : (t455 != 0) = false := bne_eq_false_iff_eq.mpr c21
       clear c21
       by_cases c22 : x8_1.length < 17592186044416
       ·rw [if_pos c22] at H
        have LMc22 := Aside0.mk c22
        clear c22
        obtain ⟨y457, hy457⟩ : ∃ y_ : List Int, y_ = (x8_1 ++ [t446]) := ⟨_, rfl⟩
        replace H : ((fen_Set.f k1 x439000_1 t446 0).bind fun bt460 => (if bt460.2 = 0 then (comm_Draw.l0 k1 a1 a3 y457 bt460.1 t447 t448 t451 t452 t453 t454) else (none))) = some (r1, r2, r3, r4, r5, r6, r7, r8) := by first | (rw [hy457]; with_reducible exact H) | (have H2_ := (Option.bind_some _ _).symm.trans H; rw [hy457]; with_reducible exact H2_) | (have H2_ := (Option.bind_some _ _).symm.trans H; with_reducible exact H2_) | with_reducible exact H | (rw [hy457]; exact H) | exact H
        have Ny457 := Aside0.mk hy457
        clear hy457
        replace H := Option.bind_eq_some_iff.mp H
        obtain ⟨⟨t460, t463⟩, A230, H⟩ := H
        try dsimp only at H
        have A23 := Aside0.mk A230
        clear A230
        by_cases c24 : t463 = 0
        ·rw [if_pos c24] at H
         have c24b0 : (t463 == 0) = true := beq_iff_eq.mpr c24
         have c24b1 : (t463 != 0) = false := bne_eq_false_iff_eq.mpr c24
         clear c24
         have H' := Aside0.mk H
         clear H
         obtain ⟨Ao25, co25, eo25⟩ := Kd.R_slice HO_8.out
         subst eo25
         have hnb26 := NB438_439.out
         have hnc26 := NB439_438.out
         have hnb27 := NB438_440.out
         have hnc27 := NB440_438.out
         have hcz28_0 : wr.cell? ⟨gb438, 0, none⟩ = some (u439000) := (blk_cell BK438.out 0).trans rfl
         have hfz28_0 := blk_frozen BK438.out 0
         obtain ⟨Ao29, co29, eo29⟩ := Kd.V_slice HO_440001.out
         subst eo29
         obtain ⟨Ao30, co30, eo30⟩ := Kd.V_slice HO_439000.out
         subst eo30
         try go_wp2_with (first | ((with_reducible refine qd 34 ?_); (try (refine gate_guard (by rfl) ?_; dsimp only)); refine Ar.gload_event rfl (T := 39) rfl Tryz.underlying39 rfl (D := (#[.int .i64 x440000_1, .slice Ao29 x440001_1.length co29, .int .u64 x440002_1] ++ ((Ar.cells .u8 32 x440003_1) ++ #[.int .u64 x440004_1, .int .u64 x440005_1]))) qz (A := ⟨gb439, 0, none⟩) rfl (Ar.blk_part (qb BK439) Ar.in_whole) ?_) | ((with_reducible refine gate_callee (f := 23) rfl ?_); refine goesL_ (some 36) rfl rfl Tryz.func23 (by kernel_rfl) rfl #[.agg #[.slice Ao30 x439000_1.length co30], .agg (#[.int .i64 x440000_1, .slice Ao29 x440001_1.length co29, .int .u64 x440002_1] ++ ((Ar.cells .u8 32 x440003_1) ++ #[.int .u64 x440004_1, .int .u64 x440005_1])), .int .i64 a3] rfl ql ?_; (with_reducible refine (lead_Draw.calls k1 _ _ x439000_1 x440000_1 (fun k_ => (((P0_0_ k_ ∨ P2_1_ k_) ∨ w.heap.size ≤ k_) ∧ (some k_ ≠ (.slice Ao25 x8_1.length co25 : Value).ownBlock ∧ (k_ ≠ gb438 ∧ (k_ ≠ gb439 ∧ k_ ≠ gb440))))) _ _ x440001_1 x440002_1 x440003_1 x440004_1 x440005_1 a3 t446 t447 t448 t451 t452 t453 t454 t455 _ ?side1 ?side2 ?side3 A20.out).mono ?_); (case side1 => repeat (first | exact (Kd.V_reads' HO_439000.out).2.2 | (with_reducible refine Kd.C_alloc ?_ _) | (with_reducible refine Kd.C_drewN ?_ _) | (with_reducible refine Kd.C_drew ?_))); (case side2 => exact (Kd.V_reads' HO_439000.out).2.1); (case side3 => exact HO_440001.out); rintro e w31 ⟨v449, rfl, ho0, hb⟩; refine ⟨_, rfl, ?_⟩; replace HO_439000 := Aside0.mk (Kd.V_below (qv HO_439000) hb); replace HO_440001 := Aside0.mk (Kd.V_below (qv HO_440001) hb); have HO450 := Aside0.mk (Kd.V_lower (Kd.V_mono (ok' := fun k_ => ((P0_0_ k_ ∨ P2_1_ k_) ∨ w.heap.size ≤ k_) ∧ some k_ ≠ (.slice Ao25 x8_1.length co25 : Value).ownBlock ∧ k_ ≠ gb438 ∧ k_ ≠ gb439 ∧ k_ ≠ gb440) ho0 (fun k_ hk_ => ⟨Or.elim hk_ (fun hs_ => hs_.1) (fun hn_ => (.inr (Nat.le_trans (below_size (qs HB)) hn_))), Or.elim hk_ (fun hs_ => hs_.2.1) (fun hn_ => (Kd.fresh' (Kd.R_lt (qr HO_8)) k_ hn_)), Or.elim hk_ (fun hs_ => hs_.2.2.1) (fun hn_ => (Kd.freshB (g := gb438) (o := .cells #[.slice Ao30 x439000_1.length co30] 54 (0, 0)) (qb BK438) k_ hn_)), Or.elim hk_ (fun hs_ => hs_.2.2.2.1) (fun hn_ => (Kd.freshB (g := gb439) (o := .cells (#[.int .i64 x440000_1, .slice Ao29 x440001_1.length co29, .int .u64 x440002_1] ++ ((Ar.cells .u8 32 x440003_1) ++ #[.int .u64 x440004_1, .int .u64 x440005_1])) 39 (0, 0)) (qb BK439) k_ hn_)), Or.elim hk_ (fun hs_ => hs_.2.2.2.2) (fun hn_ => (Kd.freshB (g := gb440) (o := .cells (#[.int .i64 x441000_1, .slice none 0 0, .int .u64 x441002_1] ++ ((Ar.cells .u8 32 x441003_1) ++ #[.int .u64 x441004_1, .int .u64 x441005_1])) 39 (0, 0)) (qb BK440) k_ hn_))⟩)) (below_size (qs HB))); replace HO_8 := Aside0.mk (Kd.R_below (qr HO_8) hb); replace BK438 := Aside0.mk (qB BK438 hb); replace BK439 := Aside0.mk (qB BK439 hb); replace BK440 := Aside0.mk (qB BK440 hb); replace HB := Aside0.mk (below_step (qs HB) hb); (try clear hb); (try clear hb2); (try clear hk); (try clear hi); (try clear ho0)) | ((with_reducible refine qd 12 ?_); (try (refine gate_guard (by rfl) ?_; dsimp only)); refine qF (N := 12) (cs := (#[.int .i64 0, .slice none 0 0, .int .u64 0] ++ ((Ar.cells .u8 32 (List.replicate 32 0)) ++ #[.int .u64 0, .int .u64 0]))) (t := 39) ?_; intro gb456 hg w32 hbox hb; replace HO_8 := Aside0.mk (Kd.R_below (qr HO_8) hb); replace HO_439000 := Aside0.mk (Kd.V_below (Kd.V_elderB (qv HO_439000) gb456 (Nat.le_of_eq hg.symm)) hb); replace HO_440001 := Aside0.mk (Kd.V_below (Kd.V_elderB (qv HO_440001) gb456 (Nat.le_of_eq hg.symm)) hb); replace HO450 := Aside0.mk (Kd.V_below (Kd.V_elderB (qv HO450) gb456 (Nat.le_of_eq hg.symm)) hb); have BK456 := Aside0.mk (hbox); have GW456 := Aside0.mk (qe HB hg); have GE456 := Aside0.mk (qe HB hg); replace HB := Aside0.mk (below_step (qs HB) hb); have NB438_456 := Aside0.mk (qu BK438 hg); have NB456_438 := Aside0.mk (qw BK438 hg); replace BK438 := Aside0.mk (qB BK438 hb); have NB439_456 := Aside0.mk (qu BK439 hg); have NB456_439 := Aside0.mk (qw BK439 hg); replace BK439 := Aside0.mk (qB BK439 hb); have NB440_456 := Aside0.mk (qu BK440 hg); have NB456_440 := Aside0.mk (qw BK440 hg); replace BK440 := Aside0.mk (qB BK440 hb); clear hb hbox hg) | ((with_reducible refine gate_store (t := 39) (p := 12) rfl ?_); refine Ar.gstore_event rfl rfl rfl (D := (#[.int .i64 t447, v449, .int .u64 t451] ++ ((Ar.cells .u8 32 t452) ++ #[.int .u64 t453, .int .u64 t454]))) qz (g := gb456) rfl qg (qb BK456) (by simp [Ar.cells_size]) (by repeat (first | (with_reducible refine Ar.all_app ?_ ?_) | (with_reducible exact Ar.cells_one _ _ _) | (focus (simp [Value.oneCell']; done)) | (focus (simp [(show (v449 : Value).oneCell' = true from by (have e_ := Kd.V_slice HO450.out; obtain ⟨_, _, e_⟩ := e_; rw [e_]; rfl))]; first | done | rfl | (repeat' constructor))) | rfl)) ?_; intro w33 hbk_ hg; replace HO_8 := Aside0.mk (Kd.R_mono (Kd.R_grown (Kd.R_types (qr HO_8) BK456.out (by decide)) hg (fun k_ hk_ e_ => hk_.2 (Option.some.inj e_))) (fun _ h_ => h_.1)); replace HO_439000 := Aside0.mk (Kd.V_grown (qv HO_439000) hg (by intro k_ hk e_; exact (hk.2) (Option.some.inj e_))); replace HO_440001 := Aside0.mk (Kd.V_grown (qv HO_440001) hg (by intro k_ hk e_; exact (hk.2) (Option.some.inj e_))); replace BK438 := Aside0.mk (qG BK438 hg (fun e_ => NB438_456.out (Option.some.inj e_))); replace BK439 := Aside0.mk (qG BK439 hg (fun e_ => NB439_456.out (Option.some.inj e_))); replace BK440 := Aside0.mk (qG BK440 hg (fun e_ => NB440_456.out (Option.some.inj e_))); replace HO450 := Aside0.mk (Kd.V_grown (qv HO450) hg (by intro k_ hk e_; exact (hk.2) (Option.some.inj e_))); replace BK456 := Aside0.mk (hbk_); replace HB := Aside0.mk (Below.grown (qs HB) hg ((below_size (qs HB))) (fun _ e_ => by cases e_; exact GE456.out)); clear hbk_ hg))
         replace HO_8 := Aside0.mk (Kd.R_drew HO_8.out)
         replace HO_439000 := Aside0.mk (Kd.V_drew HO_439000.out)
         replace HO_440001 := Aside0.mk (Kd.V_drew HO_440001.out)
         replace HO450 := Aside0.mk (Kd.V_drew HO450.out)
         replace BK438 := Aside0.mk (blk_drew BK438.out)
         replace BK439 := Aside0.mk (blk_drew BK439.out)
         replace BK440 := Aside0.mk (blk_drew BK440.out)
         replace BK456 := Aside0.mk (blk_drew BK456.out)
         replace HB := Aside0.mk (below_drew1 HB.out)
         refine start_ (n := 7) (S := fun w' => w'.heap[gb456]? = some (.cells (#[.int .i64 t447, v449, .int .u64 t451] ++ ((Ar.cells .u8 32 t452) ++ #[.int .u64 t453, .int .u64 t454])) 39 (0, 0)) ∧ w'.cell? ⟨gb456, 0, none⟩ = some (.int .i64 t447) ∧ w'.cell? ⟨gb456, 1, none⟩ = some (v449) ∧ w'.cell? ⟨gb456, 2, none⟩ = some (.int .u64 t451) ∧ w'.cell? ⟨gb456, 35, none⟩ = some (.int .u64 t453) ∧ w'.cell? ⟨gb456, 36, none⟩ = some (.int .u64 t454)) (ds := []) #[false, false, false, false, false, false, false] (by kernel_rfl) rfl rfl ⟨BK456.out, (blk_cell BK456.out 0).trans qc, (blk_cell BK456.out 1).trans qc, (blk_cell BK456.out 2).trans qc, (blk_cell BK456.out 35).trans qc, (blk_cell BK456.out 36).trans qc⟩ (fun hHeld => ?_)
         generalize w33.drew = w34 at HO_8 HO_439000 HO_440001 HO450 BK438 BK439 BK440 BK456 HB hHeld ⊢
         refine qP 0 (some 44) (qt 7 1) ?_
         refine qP 1 (some 45) (qt 7 3) ?_
         refine take_ (i := 4) (N := some 48) (v := ?_) (a' := ?_) (qt 7 19) rfl rfl (by kernel_rfl) (fun _ _ _ h => h) (Or.inl ⟨by rfl, ?_⟩) hHeld ?_ ?_
         rotate_left
         ·rintro w' ⟨s0, s1, s2, s3, s4, s5⟩
          first | (refine (Ar.gload_run rfl Tryz.underlying39 rfl (D := (#[.int .i64 t447, v449, .int .u64 t451] ++ ((Ar.cells .u8 32 t452) ++ #[.int .u64 t453, .int .u64 t454]))) qz rfl (Ar.blk_part (by assumption) Ar.in_whole)).trans ?_; with_reducible rfl) | (go_simp; with_reducible rfl)
         rotate_left
         ·simp only [Act.put, zA_, zB_, zC_, i64_w, i32_w]
          rfl
         refine one_ (i := 2) (N := some 46) (qt 7 23) rfl rfl (by kernel_rfl) (by decide) (fun K hK => ?_)
         refine value_ (w1 := ?_) (v := ?_) (by rfl) rfl ?_ ?_
         rotate_left 2
         ·go_simp
          constructor
          ·rfl
          ·rfl
         refine hK.out _ _ ⟨(blk_alloc BK456.out _), (blk_cell (blk_alloc BK456.out _) 0).trans qc, (blk_cell (blk_alloc BK456.out _) 1).trans qc, (blk_cell (blk_alloc BK456.out _) 2).trans qc, (blk_cell (blk_alloc BK456.out _) 35).trans qc, (blk_cell (blk_alloc BK456.out _) 36).trans qc⟩ (fun hHeld => ?_)
         clear hK K
         refine norm_ (a' := ?_) ?_ ?_
         rotate_left
         ·show Act.put _ (some 46) _ = _
          simp only [Act.put, zA_, zB_, zC_, i64_w, i32_w]
          rfl
         refine one_ (i := 3) (N := some 47) (qt 7 31) rfl rfl (by kernel_rfl) (by decide) (fun K hK => ?_)
         refine Kd.R_append_step (Kd.int .i64) (w0 := w) w.heap.size (by rfl) (.tmp 44) (.tmp 46) 70 3 (.int .i64 0) 8 rfl Tryz.underlying70 info3 rfl (by decide) (by omega) (.slice Ao25 x8_1.length co25) x8_1 t446 [.int .i64 t446] (fun k_ => (w.heap.size ≤ k_)) (fun _ => False) rfl rfl ?aP (fun _ hk => hk.elim) ?aF ?aO ?aB ?aS ?aL ?_
         (case aP => exact rfl)
         (case aB => exact (qs HB))
         (case aF => exact (fun k_ hk => (Nat.le_trans (below_size (qs HB)) hk)))
         (case aO => exact (qr HO_8))
         (case aS => exact (below_size (qs HB)))
         (case aL => have := LMc22.out; omega)
         intro v458 w35 ho hb hg hat
         rw [← Ny457.out] at ho
         replace HO_439000 := Aside0.mk (Kd.V_afterv (ok := (fun k_ => ((P0_0_ k_ ∨ P2_1_ k_) ∨ w.heap.size ≤ k_) ∧ k_ ≠ gb438 ∧ k_ ≠ gb439 ∧ k_ ≠ gb440 ∧ k_ ≠ gb456)) (by (with_reducible repeat (first | apply Kd.V_alloc | apply Kd.V_drewN | apply Kd.V_drew)); exact Kd.V_mono HO_439000.out (fun _ hk => ⟨⟨hk.1.1, ⟨hk.1.2.2.1, ⟨hk.1.2.2.2.1, ⟨hk.1.2.2.2.2, hk.2⟩⟩⟩⟩, hk.1.2.1⟩)) hg hat)
         replace HO_440001 := Aside0.mk (Kd.V_afterv (ok := (fun k_ => ((P0_0_ k_ ∨ P2_1_ k_) ∨ w.heap.size ≤ k_) ∧ k_ ≠ gb438 ∧ k_ ≠ gb439 ∧ k_ ≠ gb440 ∧ k_ ≠ gb456)) (by (with_reducible repeat (first | apply Kd.V_alloc | apply Kd.V_drewN | apply Kd.V_drew)); exact Kd.V_mono HO_440001.out (fun _ hk => ⟨⟨hk.1.1, ⟨hk.1.2.2.1, ⟨hk.1.2.2.2.1, ⟨hk.1.2.2.2.2, hk.2⟩⟩⟩⟩, hk.1.2.1⟩)) hg hat)
         replace BK438 := Aside0.mk (qG BK438 hg (Kd.R_ne HO_8.out BK438.out (by decide)))
         replace BK439 := Aside0.mk (qG BK439 hg (Kd.R_ne HO_8.out BK439.out (by decide)))
         replace BK440 := Aside0.mk (qG BK440 hg (Kd.R_ne HO_8.out BK440.out (by decide)))
         replace HO450 := Aside0.mk (Kd.V_afterv (ok := (fun k_ => ((P0_0_ k_ ∨ P2_1_ k_) ∨ w.heap.size ≤ k_) ∧ k_ ≠ gb438 ∧ k_ ≠ gb439 ∧ k_ ≠ gb440 ∧ k_ ≠ gb456)) (by (with_reducible repeat (first | apply Kd.V_alloc | apply Kd.V_drewN | apply Kd.V_drew)); exact Kd.V_mono HO450.out (fun _ hk => ⟨⟨hk.1.1, ⟨hk.1.2.2.1, ⟨hk.1.2.2.2.1, ⟨hk.1.2.2.2.2, hk.2⟩⟩⟩⟩, hk.1.2.1⟩)) hg hat)
         replace BK456 := Aside0.mk (qG BK456 hg (Kd.R_ne HO_8.out BK456.out (by decide)))
         replace HB := Aside0.mk (hb)
         have HO459 := Aside0.mk (ho)
         clear HO_8 ho hb hg hat
         refine hK.out _ _ ⟨BK456.out, (blk_cell BK456.out 0).trans qc, (blk_cell BK456.out 1).trans qc, (blk_cell BK456.out 2).trans qc, (blk_cell BK456.out 35).trans qc, (blk_cell BK456.out 36).trans qc⟩ (fun hHeld => ?_)
         clear hK K
         refine norm_ (a' := ?_) ?_ ?_
         rotate_left
         ·show Act.put _ (some 47) _ = _
          simp only [Act.put, zA_, zB_, zC_, i64_w, i32_w]
          rfl
         refine qP 5 (some 8) (qt 7 63) ?_
         refine one_ (i := 6) (N := none) (qt 7 127) rfl rfl (by kernel_rfl) (by decide) (fun K hK => ?_)
         refine Ar.gstore_step (by rfl) rfl rfl (D := (#[.int .i64 t447, v449, .int .u64 t451] ++ ((Ar.cells .u8 32 t452) ++ #[.int .u64 t453, .int .u64 t454]))) qz (g := gb439) rfl qg (qb BK439) (by simp [Ar.cells_size]) (by repeat (first | (with_reducible refine Ar.all_app ?_ ?_) | (with_reducible exact Ar.cells_one _ _ _) | (focus (simp [Value.oneCell']; done)) | (focus (simp [(show (v449 : Value).oneCell' = true from by (have e_ := Kd.V_slice HO450.out; obtain ⟨_, _, e_⟩ := e_; rw [e_]; rfl))]; first | done | rfl | (repeat' constructor))) | rfl)) ?_; intro w36 hbk_ hg
         replace HO_439000 := Aside0.mk (Kd.V_grown (qv HO_439000) hg (by intro k_ hk e_; exact (hk.1.2.2.1) (Option.some.inj e_)))
         replace HO_440001 := Aside0.mk (Kd.V_grown (qv HO_440001) hg (by intro k_ hk e_; exact (hk.1.2.2.1) (Option.some.inj e_)))
         replace BK438 := Aside0.mk (qG BK438 hg (fun e_ => NB438_439.out (Option.some.inj e_)))
         replace BK440 := Aside0.mk (qG BK440 hg (fun e_ => NB440_439.out (Option.some.inj e_)))
         replace HO450 := Aside0.mk (Kd.V_grown (qv HO450) hg (by intro k_ hk e_; exact (hk.1.2.2.1) (Option.some.inj e_)))
         replace BK456 := Aside0.mk (qG BK456 hg (fun e_ => NB456_439.out (Option.some.inj e_)))
         replace HO459 := Aside0.mk (Kd.R_mono (Kd.R_grown (Kd.R_types (qr HO459) BK439.out (by decide)) hg (fun k_ hk_ e_ => hk_.2 (Option.some.inj e_))) (fun _ h_ => h_.1))
         replace BK439 := Aside0.mk (hbk_)
         replace HB := Aside0.mk (Below.grown (qs HB) hg ((below_size (qs HB))) (fun _ e_ => by cases e_; exact GE439.out))
         clear hbk_ hg
         refine hK.out _ _ ⟨BK456.out, (blk_cell BK456.out 0).trans qc, (blk_cell BK456.out 1).trans qc, (blk_cell BK456.out 2).trans qc, (blk_cell BK456.out 35).trans qc, (blk_cell BK456.out 36).trans qc⟩ (fun hHeld => ?_)
         clear hK K
         refine done_ (by kernel_rfl) ?_
         have hnb37 := NB438_456.out
         have hnc37 := NB456_438.out
         have hcz38_0 : w36.cell? ⟨gb438, 0, none⟩ = some (.slice Ao30 x439000_1.length co30) := (blk_cell BK438.out 0).trans rfl
         have hfz38_0 := blk_frozen BK438.out 0
         try go_wp2_with (first | ((with_reducible refine gate_callee (f := 73) rfl ?_); refine goesL_ (some 52) rfl rfl Tryz.func73 (by kernel_rfl) rfl #[.agg #[.slice Ao30 x439000_1.length co30], .int .i64 t446, .int .u64 0] rfl ql ?_; (with_reducible refine (fen_Set.calls k1 _ _ x439000_1 t446 0 t460 t463 _ ?side1 ?side2 A23.out).mono ?_); (case side1 => repeat (first | exact (Kd.V_reads' HO_439000.out).2.2 | (with_reducible refine Kd.C_alloc ?_ _) | (with_reducible refine Kd.C_drewN ?_ _) | (with_reducible refine Kd.C_drew ?_))); (case side2 => exact (Kd.V_reads' HO_439000.out).2.1); rintro e w39 ⟨v461, rfl, ho0, hb⟩; refine ⟨_, rfl, ?_⟩; replace HO_439000 := Aside0.mk (Kd.V_elder' (qv HO_439000) (Kd.R_base ho0) hb); replace HO_440001 := Aside0.mk (Kd.V_elder' (qv HO_440001) (Kd.R_base ho0) hb); replace HO450 := Aside0.mk (Kd.V_elder' (qv HO450) (Kd.R_base ho0) hb); replace HO459 := Aside0.mk (Kd.R_below (qr HO459) hb); have HO462 := Aside0.mk (Kd.R_lower (Kd.R_newM (M := fun k_ => (w.heap.size ≤ k_)) ho0 (below_size (qs HB)) (fun k_ h_ => h_)) (below_size (qs HB))); replace BK438 := Aside0.mk (qB BK438 hb); replace BK439 := Aside0.mk (qB BK439 hb); replace BK440 := Aside0.mk (qB BK440 hb); replace BK456 := Aside0.mk (qB BK456 hb); replace HB := Aside0.mk (below_step (qs HB) hb); (try clear hb); (try clear hb2); (try clear hk); (try clear hi); (try clear ho0); obtain ⟨Ao40, co40, eo40⟩ := Kd.R_slice HO462.out; subst eo40; have hcz41_0 : w39.cell? ⟨gb438, 0, none⟩ = some (.slice Ao30 x439000_1.length co30) := (blk_cell BK438.out 0).trans rfl; have hfz41_0 := blk_frozen BK438.out 0))
         go_roundg k1
         case measure => have := HK1.out; omega
         case rel => exact ⟨(y457), (t460), (t447), (t448), (t451), (t452), (t453), (t454), (x441000_1), (x441002_1), (x441003_1), (x441004_1), (x441005_1), (.slice Ao40 t460.length co40), (v449), H', ⟨by have := HK1.out; omega⟩, ⟨by (with_reducible repeat (first | apply Kd.R_alloc | apply Kd.R_drewN | apply Kd.R_drew)); exact Kd.R_mono (Kd.R_far (p := ⟨gb438, 0, none⟩) (Kd.R_types HO459.out BK438.out (by decide)) (fun _ hk => hk.2) (.slice Ao40 t460.length co40)) (fun _ hk => hk.1)⟩, ⟨Kd.V_mono (Kd.R_V (by (with_reducible repeat (first | apply Kd.R_alloc | apply Kd.R_drewN | apply Kd.R_drew)); exact (Kd.R_far (p := ⟨gb438, 0, none⟩) (Kd.R_types (Kd.R_types (Kd.R_types (Kd.R_types (Kd.R_apart' HO462.out (Kd.R_typed HO459.out) (by decide)) BK438.out (by decide)) BK439.out (by decide)) BK440.out (by decide)) BK438.out (by decide)) (fun _ hk => hk.2) (.slice Ao40 t460.length co40)))) (fun k_ hk => by first | exact ⟨.inr hk.1.1.1.1.1.1, ⟨hk.1.1.1.1.2, ⟨hk.1.1.1.2, ⟨hk.1.1.2, hk.1.2⟩⟩⟩⟩ | exact ⟨.inr hk.1, hk.2⟩ | exact ⟨.inr hk.1.1, hk.2⟩ | exact ⟨.inr hk.1.2, hk.2⟩)⟩, ⟨by (with_reducible repeat (first | apply Kd.V_alloc | apply Kd.V_drewN | apply Kd.V_drew)); exact Kd.V_mono (Kd.V_far (p := ⟨gb438, 0, none⟩) (Kd.V_mono HO450.out (fun k_ hk => (⟨hk, hk.1.1.2.1⟩ : _ ∧ k_ ≠ gb438))) (fun _ hk => hk.2) (.slice Ao40 t460.length co40)) (fun _ hk => ⟨hk.1.1.1.1, ⟨hk.1.1.2, ⟨hk.1.1.1.2.1, ⟨hk.1.1.1.2.2.1, hk.1.1.1.2.2.2.1⟩⟩⟩⟩)⟩, ⟨by (with_reducible repeat (first | refine blk_drewN ?_ _ | refine blk_drew ?_ | refine blk_alloc ?_ _)); refine blk_put (cs := #[.slice Ao30 x439000_1.length co30]) ?_ 0 _ rfl; (with_reducible repeat (first | refine blk_drewN ?_ _ | refine blk_drew ?_ | refine blk_alloc ?_ _)); exact BK438.out⟩, ⟨by (with_reducible repeat (first | refine blk_drewN ?_ _ | refine blk_drew ?_ | refine blk_alloc ?_ _)); refine blk_far ?_ NB439_438.out _; (with_reducible repeat (first | refine blk_drewN ?_ _ | refine blk_drew ?_ | refine blk_alloc ?_ _)); exact BK439.out⟩, ⟨by (with_reducible repeat (first | refine blk_drewN ?_ _ | refine blk_drew ?_ | refine blk_alloc ?_ _)); refine blk_far ?_ NB440_438.out _; (with_reducible repeat (first | refine blk_drewN ?_ _ | refine blk_drew ?_ | refine blk_alloc ?_ _)); exact BK440.out⟩, ⟨(qs HB)⟩⟩
        ·rw [if_neg c24] at H
         exact absurd H (by simp)
       ·rw [if_neg c22] at H
        exact absurd H (by simp)
      ·rw [if_neg c21] at H
       exact absurd H (by simp)
     ·rw [if_neg c19] at H
      have c19b0 : decide ((x8_1.length : Int) < a1) = false := decide_eq_false c19
      clear c19
      simp only [Option.some.injEq, Prod.mk.injEq] at H
      obtain ⟨rfl, rfl, rfl, rfl, rfl, rfl, rfl, rfl⟩ := H
      obtain ⟨Ao42, co42, eo42⟩ := Kd.R_slice HO_8.out
      subst eo42
      try go_wp2
      replace HO_8 := Aside0.mk (Kd.R_drew HO_8.out)
      replace HO_439000 := Aside0.mk (Kd.V_drew HO_439000.out)
      replace HO_440001 := Aside0.mk (Kd.V_drew HO_440001.out)
      replace BK438 := Aside0.mk (blk_drew BK438.out)
      replace BK439 := Aside0.mk (blk_drew BK439.out)
      replace BK440 := Aside0.mk (blk_drew BK440.out)
      replace HB := Aside0.mk (below_drew1 HB.out)
      refine start_ (n := 5) (S := fun w' => w'.heap[gb439]? = some (.cells (#[.int .i64 x440000_1, u440001, .int .u64 x440002_1] ++ ((Ar.cells .u8 32 x440003_1) ++ #[.int .u64 x440004_1, .int .u64 x440005_1])) 39 (0, 0)) ∧ w'.cell? ⟨gb439, 0, none⟩ = some (.int .i64 x440000_1) ∧ w'.cell? ⟨gb439, 1, none⟩ = some (u440001) ∧ w'.cell? ⟨gb439, 2, none⟩ = some (.int .u64 x440002_1) ∧ w'.cell? ⟨gb439, 35, none⟩ = some (.int .u64 x440004_1) ∧ w'.cell? ⟨gb439, 36, none⟩ = some (.int .u64 x440005_1)) (ds := []) #[false, false, false, false, false] (by kernel_rfl) rfl rfl ⟨BK439.out, (blk_cell BK439.out 0).trans qc, (blk_cell BK439.out 1).trans qc, (blk_cell BK439.out 2).trans qc, (blk_cell BK439.out 35).trans qc, (blk_cell BK439.out 36).trans qc⟩ (fun hHeld => ?_)
      generalize wr.drew = w43 at HO_8 HO_439000 HO_440001 BK438 BK439 BK440 HB hHeld ⊢
      refine qP 0 (some 59) (qt 5 1) ?_
      refine qP 2 (some 8) (qt 5 5) ?_
      refine take_ (i := 1) (N := some 60) (v := ?_) (a' := ?_) (qt 5 7) rfl rfl (by kernel_rfl) (fun _ _ _ h => h) (Or.inl ⟨by rfl, ?_⟩) hHeld ?_ ?_
      rotate_left
      ·rintro w' ⟨s0, s1, s2, s3, s4, s5⟩
       first | (refine (Ar.gload_run rfl Tryz.underlying39 rfl (D := (#[.int .i64 x440000_1, u440001, .int .u64 x440002_1] ++ ((Ar.cells .u8 32 x440003_1) ++ #[.int .u64 x440004_1, .int .u64 x440005_1]))) qz rfl (Ar.blk_part (by assumption) Ar.in_whole)).trans ?_; with_reducible rfl) | (go_simp; with_reducible rfl)
      rotate_left
      ·simp only [Act.put, zA_, zB_, zC_, i64_w, i32_w]
       rfl
      refine one_ (i := 3) (N := none) (qt 5 15) rfl rfl (by kernel_rfl) (by decide) (fun K hK => ?_)
      refine Ar.gstore_step (by rfl) rfl rfl (D := (#[.int .i64 x440000_1, u440001, .int .u64 x440002_1] ++ ((Ar.cells .u8 32 x440003_1) ++ #[.int .u64 x440004_1, .int .u64 x440005_1]))) qz (g := gb440) rfl qg (qb BK440) (by simp [Ar.cells_size]) (by repeat (first | (with_reducible refine Ar.all_app ?_ ?_) | (with_reducible exact Ar.cells_one _ _ _) | (focus (simp [Value.oneCell']; done)) | (focus (simp [(show (u440001 : Value).oneCell' = true from by (have e_ := Kd.V_slice HO_440001.out; obtain ⟨_, _, e_⟩ := e_; rw [e_]; rfl))]; first | done | rfl | (repeat' constructor))) | rfl)) ?_; intro w44 hbk_ hg
      replace HO_8 := Aside0.mk (Kd.R_mono (Kd.R_grown (Kd.R_types (qr HO_8) BK440.out (by decide)) hg (fun k_ hk_ e_ => hk_.2 (Option.some.inj e_))) (fun _ h_ => h_.1))
      replace HO_439000 := Aside0.mk (Kd.V_grown (qv HO_439000) hg (by intro k_ hk e_; exact (hk.2.2.2.2) (Option.some.inj e_)))
      replace HO_440001 := Aside0.mk (Kd.V_grown (qv HO_440001) hg (by intro k_ hk e_; exact (hk.2.2.2.2) (Option.some.inj e_)))
      replace BK438 := Aside0.mk (qG BK438 hg (fun e_ => NB438_440.out (Option.some.inj e_)))
      replace BK439 := Aside0.mk (qG BK439 hg (fun e_ => NB439_440.out (Option.some.inj e_)))
      replace BK440 := Aside0.mk (hbk_)
      replace HB := Aside0.mk (Below.grown (qs HB) hg ((below_size (qs HB))) (fun _ e_ => by cases e_; exact GE440.out))
      clear hbk_ hg
      refine hK.out _ _ ⟨BK439.out, (blk_cell BK439.out 0).trans qc, (blk_cell BK439.out 1).trans qc, (blk_cell BK439.out 2).trans qc, (blk_cell BK439.out 35).trans qc, (blk_cell BK439.out 36).trans qc⟩ (fun hHeld => ?_)
      clear hK K
      refine qP 4 (some 10) (qt 5 31) ?_
      refine done_ (by kernel_rfl) ?_
      try go_wp2
      refine bodyPost_ret (results_list (rs := [.tmp 8, .cell 9 39, .tmp 10]) rfl (by simp) (.tmp (.cell gb440 39 (#[.int .i64 x440000_1, u440001, .int .u64 x440002_1] ++ ((Ar.cells .u8 32 x440003_1) ++ #[.int .u64 x440004_1, .int .u64 x440005_1])) (0, 0) _ rfl (qb BK440) Tryz.underlying39 rfl qz (.tmp .nil)))) rfl ?_
      exact ⟨_, _, by first | rfl | (simp [errW_none, errW_some] <;> rfl) | (simp [*, errW_none, errW_some] <;> rfl), (qr HO_8), by (with_reducible repeat (first | apply Kd.V_alloc | apply Kd.V_drewN | apply Kd.V_drew)); exact Kd.V_mono HO_440001.out (fun _ hk => ⟨hk.1, hk.2.1⟩), (qs HB)⟩
 ·replace c6 := Bool.eq_false_iff.mpr c6
  subst c6
  have H1 : (none) = some (r1, r2, r3, r4, r5, r6, r7, r8) := by rw [if_neg (show ¬ (false = true) by decide)] at H; exact H
  clear H
  have H := H1
  clear H1
  exact absurd H (by simp)
def drawlottop_alive17.f (k : Nat)  : Option (Bool) := (tape_Tape.f (([96] : List Int)) 8).bind fun bt467 => ((fen_Build.f k (([3, 0, 2] : List Int))).bind fun bt480 => ((lead_Draw.f k bt480.1 bt467.1 bt467.2.1 bt467.2.2.1 bt467.2.2.2.1 bt467.2.2.2.2.1 bt467.2.2.2.2.2.1 2).bind fun bt485 => ((pick_List.f k bt467.1 bt467.2.1 bt467.2.2.1 bt467.2.2.2.1 bt467.2.2.2.2.1 bt467.2.2.2.2.2.1 2 (([3, 0, 2] : List Int))).bind fun bt499 => ((comm_Draw.f k bt480.1 2 bt467.1 bt467.2.1 bt467.2.2.1 bt467.2.2.2.1 bt467.2.2.2.2.1 bt467.2.2.2.2.2.1 2).bind fun bt510 => ((odds_Lead.f k 0 2 (([3, 0, 2] : List Int))).bind fun bt526 => (if bt467.2.2.2.2.2.2 = 0 then (if bt480.2 = 0 then (if bt485.2.2.2.2.2.2.2 = 0 then (if bt499.2.2.2.2.2.2.2 = 0 then (if bt510.2.2.2.2.2.2.2 = 0 then (if bt526.2 = 0 then (if bt485.1 = 2 then (if bt499.2.2.2.2.2.2.1 = 4 then ((drawlotref17_Same.f k bt510.1 (([2, 0] : List Int))).bind fun t533 => (if t533 = true then ((drawlotref10_Same.f k bt526.1 (([33] : List Int))).bind fun t537 => (some t537)) else (none))) else (none)) else (none)) else (none)) else (none)) else (none)) else (none)) else (none)) else (none)))))))
theorem drawlottop_alive17.mono : ∀ k, LeO (drawlottop_alive17.f k ) (drawlottop_alive17.f (k + 1) ) := by
 intro  k
 unfold drawlottop_alive17.f
 repeat' first
   | (with_reducible exact comm_Draw.mono _ _ _ _ _ _ _ _ _ _)
   | (with_reducible exact drawlotref10_Same.mono _ _ _)
   | (with_reducible exact drawlotref17_Same.mono _ _ _)
   | (with_reducible exact fen_Build.mono _ _)
   | (with_reducible exact lead_Draw.mono _ _ _ _ _ _ _ _ _)
   | (with_reducible exact odds_Lead.mono _ _ _ _)
   | (with_reducible exact pick_List.mono _ _ _ _ _ _ _ _ _)
   | (with_reducible exact LeO.refl _)
   | (with_reducible exact LeO.none _)
   | (with_reducible refine LeO.ite ?_ ?_)
   | (with_reducible refine LeO.bind ?_ (fun _ => ?_))
   | exact comm_Draw.mono _ _ _ _ _ _ _ _ _ _
   | exact drawlotref10_Same.mono _ _ _
   | exact drawlotref17_Same.mono _ _ _
   | exact fen_Build.mono _ _
   | exact lead_Draw.mono _ _ _ _ _ _ _ _ _
   | exact odds_Lead.mono _ _ _ _
   | exact pick_List.mono _ _ _ _ _ _ _ _ _
   | exact LeO.none _
   | refine LeO.ite ?_ ?_
   | refine LeO.bind ?_ (fun _ => ?_)
set_option maxHeartbeats 8000000 in
set_option maxRecDepth 100000 in
theorem drawlottop_alive17.calls (k : Nat)  (r : Bool) (w : World) (h : drawlottop_alive17.f k  = some r) :
  Calls Tryz.prog 9 #[] w fun e w' => e = .returned (.bool r) ∧ Below w.heap.size w w' := by
 have hu39 := Tryz.underlying39
 have hu54 := Tryz.underlying54
 have HB := Aside0.mk (Below.refl w.heap.size w)
 have H : ((tape_Tape.f (([96] : List Int)) 8).bind fun bt467 => ((fen_Build.f k (([3, 0, 2] : List Int))).bind fun bt480 => ((lead_Draw.f k bt480.1 bt467.1 bt467.2.1 bt467.2.2.1 bt467.2.2.2.1 bt467.2.2.2.2.1 bt467.2.2.2.2.2.1 2).bind fun bt485 => ((pick_List.f k bt467.1 bt467.2.1 bt467.2.2.1 bt467.2.2.2.1 bt467.2.2.2.2.1 bt467.2.2.2.2.2.1 2 (([3, 0, 2] : List Int))).bind fun bt499 => ((comm_Draw.f k bt480.1 2 bt467.1 bt467.2.1 bt467.2.2.1 bt467.2.2.2.1 bt467.2.2.2.2.1 bt467.2.2.2.2.2.1 2).bind fun bt510 => ((odds_Lead.f k 0 2 (([3, 0, 2] : List Int))).bind fun bt526 => (if bt467.2.2.2.2.2.2 = 0 then (if bt480.2 = 0 then (if bt485.2.2.2.2.2.2.2 = 0 then (if bt499.2.2.2.2.2.2.2 = 0 then (if bt510.2.2.2.2.2.2.2 = 0 then (if bt526.2 = 0 then (if bt485.1 = 2 then (if bt499.2.2.2.2.2.2.1 = 4 then ((drawlotref17_Same.f k bt510.1 (([2, 0] : List Int))).bind fun t533 => (if t533 = true then ((drawlotref10_Same.f k bt526.1 (([33] : List Int))).bind fun t537 => (some t537)) else (none))) else (none)) else (none)) else (none)) else (none)) else (none)) else (none)) else (none)) else (none)))))))) = some r := h
 clear h
 obtain ⟨y464, hy464⟩ : ∃ y_ : List Int, y_ = (([96] : List Int)) := ⟨_, rfl⟩
 replace H : ((tape_Tape.f y464 8).bind fun bt467 => ((fen_Build.f k (([3, 0, 2] : List Int))).bind fun bt480 => ((lead_Draw.f k bt480.1 bt467.1 bt467.2.1 bt467.2.2.1 bt467.2.2.2.1 bt467.2.2.2.2.1 bt467.2.2.2.2.2.1 2).bind fun bt485 => ((pick_List.f k bt467.1 bt467.2.1 bt467.2.2.1 bt467.2.2.2.1 bt467.2.2.2.2.1 bt467.2.2.2.2.2.1 2 (([3, 0, 2] : List Int))).bind fun bt499 => ((comm_Draw.f k bt480.1 2 bt467.1 bt467.2.1 bt467.2.2.1 bt467.2.2.2.1 bt467.2.2.2.2.1 bt467.2.2.2.2.2.1 2).bind fun bt510 => ((odds_Lead.f k 0 2 (([3, 0, 2] : List Int))).bind fun bt526 => (if bt467.2.2.2.2.2.2 = 0 then (if bt480.2 = 0 then (if bt485.2.2.2.2.2.2.2 = 0 then (if bt499.2.2.2.2.2.2.2 = 0 then (if bt510.2.2.2.2.2.2.2 = 0 then (if bt526.2 = 0 then (if bt485.1 = 2 then (if bt499.2.2.2.2.2.2.1 = 4 then ((drawlotref17_Same.f k bt510.1 (([2, 0] : List Int))).bind fun t533 => (if t533 = true then ((drawlotref10_Same.f k bt526.1 (([33] : List Int))).bind fun t537 => (some t537)) else (none))) else (none)) else (none)) else (none)) else (none)) else (none)) else (none)) else (none)) else (none)))))))) = some r := by first | (rw [hy464]; with_reducible exact H) | (have H2_ := (Option.bind_some _ _).symm.trans H; rw [hy464]; with_reducible exact H2_) | (have H2_ := (Option.bind_some _ _).symm.trans H; with_reducible exact H2_) | with_reducible exact H | (rw [hy464]; exact H) | exact H
 have Ny464 := Aside0.mk hy464
 clear hy464
 replace H := Option.bind_eq_some_iff.mp H
 obtain ⟨⟨t467, t468, t471, t472, t473, t474, t475⟩, A10, H⟩ := H
 try dsimp only at H
 have A1 := Aside0.mk A10
 clear A10
 obtain ⟨y477, hy477⟩ : ∃ y_ : List Int, y_ = (([3, 0, 2] : List Int)) := ⟨_, rfl⟩
 replace H : ((fen_Build.f k y477).bind fun bt480 => ((lead_Draw.f k bt480.1 t467 t468 t471 t472 t473 t474 2).bind fun bt485 => ((pick_List.f k t467 t468 t471 t472 t473 t474 2 (([3, 0, 2] : List Int))).bind fun bt499 => ((comm_Draw.f k bt480.1 2 t467 t468 t471 t472 t473 t474 2).bind fun bt510 => ((odds_Lead.f k 0 2 (([3, 0, 2] : List Int))).bind fun bt526 => (if t475 = 0 then (if bt480.2 = 0 then (if bt485.2.2.2.2.2.2.2 = 0 then (if bt499.2.2.2.2.2.2.2 = 0 then (if bt510.2.2.2.2.2.2.2 = 0 then (if bt526.2 = 0 then (if bt485.1 = 2 then (if bt499.2.2.2.2.2.2.1 = 4 then ((drawlotref17_Same.f k bt510.1 (([2, 0] : List Int))).bind fun t533 => (if t533 = true then ((drawlotref10_Same.f k bt526.1 (([33] : List Int))).bind fun t537 => (some t537)) else (none))) else (none)) else (none)) else (none)) else (none)) else (none)) else (none)) else (none)) else (none))))))) = some r := by first | (rw [hy477]; with_reducible exact H) | (have H2_ := (Option.bind_some _ _).symm.trans H; rw [hy477]; with_reducible exact H2_) | (have H2_ := (Option.bind_some _ _).symm.trans H; with_reducible exact H2_) | with_reducible exact H | (rw [hy477]; exact H) | exact H
 have Ny477 := Aside0.mk hy477
 clear hy477
 replace H := Option.bind_eq_some_iff.mp H
 obtain ⟨⟨t480, t483⟩, A20, H⟩ := H
 try dsimp only at H
 have A2 := Aside0.mk A20
 clear A20
 replace H := Option.bind_eq_some_iff.mp H
 obtain ⟨⟨t485, t486, t487, t490, t491, t492, t493, t494⟩, A30, H⟩ := H
 try dsimp only at H
 have A3 := Aside0.mk A30
 clear A30
 obtain ⟨y496, hy496⟩ : ∃ y_ : List Int, y_ = (([3, 0, 2] : List Int)) := ⟨_, rfl⟩
 replace H : ((pick_List.f k t467 t468 t471 t472 t473 t474 2 y496).bind fun bt499 => ((comm_Draw.f k t480 2 t467 t468 t471 t472 t473 t474 2).bind fun bt510 => ((odds_Lead.f k 0 2 (([3, 0, 2] : List Int))).bind fun bt526 => (if t475 = 0 then (if t483 = 0 then (if t494 = 0 then (if bt499.2.2.2.2.2.2.2 = 0 then (if bt510.2.2.2.2.2.2.2 = 0 then (if bt526.2 = 0 then (if t485 = 2 then (if bt499.2.2.2.2.2.2.1 = 4 then ((drawlotref17_Same.f k bt510.1 (([2, 0] : List Int))).bind fun t533 => (if t533 = true then ((drawlotref10_Same.f k bt526.1 (([33] : List Int))).bind fun t537 => (some t537)) else (none))) else (none)) else (none)) else (none)) else (none)) else (none)) else (none)) else (none)) else (none))))) = some r := by first | (rw [hy496]; with_reducible exact H) | (have H2_ := (Option.bind_some _ _).symm.trans H; rw [hy496]; with_reducible exact H2_) | (have H2_ := (Option.bind_some _ _).symm.trans H; with_reducible exact H2_) | with_reducible exact H | (rw [hy496]; exact H) | exact H
 have Ny496 := Aside0.mk hy496
 clear hy496
 replace H := Option.bind_eq_some_iff.mp H
 obtain ⟨⟨t499, t500, t501, t504, t505, t506, t507, t508⟩, A40, H⟩ := H
 try dsimp only at H
 have A4 := Aside0.mk A40
 clear A40
 replace H := Option.bind_eq_some_iff.mp H
 obtain ⟨⟨t510, t513, t514, t517, t518, t519, t520, t521⟩, A50, H⟩ := H
 try dsimp only at H
 have A5 := Aside0.mk A50
 clear A50
 obtain ⟨y523, hy523⟩ : ∃ y_ : List Int, y_ = (([3, 0, 2] : List Int)) := ⟨_, rfl⟩
 replace H : ((odds_Lead.f k 0 2 y523).bind fun bt526 => (if t475 = 0 then (if t483 = 0 then (if t494 = 0 then (if t508 = 0 then (if t521 = 0 then (if bt526.2 = 0 then (if t485 = 2 then (if t507 = 4 then ((drawlotref17_Same.f k t510 (([2, 0] : List Int))).bind fun t533 => (if t533 = true then ((drawlotref10_Same.f k bt526.1 (([33] : List Int))).bind fun t537 => (some t537)) else (none))) else (none)) else (none)) else (none)) else (none)) else (none)) else (none)) else (none)) else (none))) = some r := by first | (rw [hy523]; with_reducible exact H) | (have H2_ := (Option.bind_some _ _).symm.trans H; rw [hy523]; with_reducible exact H2_) | (have H2_ := (Option.bind_some _ _).symm.trans H; with_reducible exact H2_) | with_reducible exact H | (rw [hy523]; exact H) | exact H
 have Ny523 := Aside0.mk hy523
 clear hy523
 replace H := Option.bind_eq_some_iff.mp H
 obtain ⟨⟨t526, t529⟩, A60, H⟩ := H
 try dsimp only at H
 have A6 := Aside0.mk A60
 clear A60
 by_cases c7 : t475 = 0
 ·rw [if_pos c7] at H
  have c7b0 : (t475 == 0) = true := beq_iff_eq.mpr c7
  have c7b1 : (t475 != 0) = false := bne_eq_false_iff_eq.mpr c7
  clear c7
  by_cases c8 : t483 = 0
  ·rw [if_pos c8] at H
   have c8b0 : (t483 == 0) = true := beq_iff_eq.mpr c8
   have c8b1 : (t483 != 0) = false := bne_eq_false_iff_eq.mpr c8
   clear c8
   by_cases c9 : t494 = 0
   ·rw [if_pos c9] at H
    have c9b0 : (t494 == 0) = true := beq_iff_eq.mpr c9
    have c9b1 : (t494 != 0) = false := bne_eq_false_iff_eq.mpr c9
    clear c9
    by_cases c10 : t508 = 0
    ·rw [if_pos c10] at H
     have c10b0 : (t508 == 0) = true := beq_iff_eq.mpr c10
     have c10b1 : (t508 != 0) = false := bne_eq_false_iff_eq.mpr c10
     clear c10
     by_cases c11 : t521 = 0
     ·rw [if_pos c11] at H
      have c11b0 : (t521 == 0) = true := beq_iff_eq.mpr c11
      have c11b1 : (t521 != 0) = false := bne_eq_false_iff_eq.mpr c11
      clear c11
      by_cases c12 : t529 = 0
      ·rw [if_pos c12] at H
       have c12b0 : (t529 == 0) = true := beq_iff_eq.mpr c12
       have c12b1 : (t529 != 0) = false := bne_eq_false_iff_eq.mpr c12
       clear c12
       by_cases c13 : t485 = 2
       ·rw [if_pos c13] at H
        have c13b0 : (t485 == 2) = true := beq_iff_eq.mpr c13
        have c13b1 : (t485 != 2) = false := bne_eq_false_iff_eq.mpr c13
        clear c13
        by_cases c14 : t507 = 4
        ·rw [if_pos c14] at H
         have c14b0 : (t507 == 4) = true := beq_iff_eq.mpr c14
         have c14b1 : (t507 != 4) = false := bne_eq_false_iff_eq.mpr c14
         clear c14
         obtain ⟨y530, hy530⟩ : ∃ y_ : List Int, y_ = (([2, 0] : List Int)) := ⟨_, rfl⟩
         replace H : ((drawlotref17_Same.f k t510 y530).bind fun t533 => (if t533 = true then ((drawlotref10_Same.f k t526 (([33] : List Int))).bind fun t537 => (some t537)) else (none))) = some r := by first | (rw [hy530]; with_reducible exact H) | (have H2_ := (Option.bind_some _ _).symm.trans H; rw [hy530]; with_reducible exact H2_) | (have H2_ := (Option.bind_some _ _).symm.trans H; with_reducible exact H2_) | with_reducible exact H | (rw [hy530]; exact H) | exact H
         have Ny530 := Aside0.mk hy530
         clear hy530
         replace H := Option.bind_eq_some_iff.mp H
         obtain ⟨t533, A150, H⟩ := H
         try dsimp only at H
         have A15 := Aside0.mk A150
         clear A150
         by_cases c16 : t533 = true
         ·subst c16
          have H1 : ((drawlotref10_Same.f k t526 (([33] : List Int))).bind fun t537 => (some t537)) = some r := by rw [if_pos rfl] at H; exact H
          clear H
          have H := H1
          clear H1
          obtain ⟨y534, hy534⟩ : ∃ y_ : List Int, y_ = (([33] : List Int)) := ⟨_, rfl⟩
          replace H : ((drawlotref10_Same.f k t526 y534).bind fun t537 => (some t537)) = some r := by first | (rw [hy534]; with_reducible exact H) | (have H2_ := (Option.bind_some _ _).symm.trans H; rw [hy534]; with_reducible exact H2_) | (have H2_ := (Option.bind_some _ _).symm.trans H; with_reducible exact H2_) | with_reducible exact H | (rw [hy534]; exact H) | exact H
          have Ny534 := Aside0.mk hy534
          clear hy534
          replace H := Option.bind_eq_some_iff.mp H
          obtain ⟨t537, A170, H⟩ := H
          try dsimp only at H
          have A17 := Aside0.mk A170
          clear A170
          obtain rfl := Option.some.inj H
          go_enter Tryz.func9, Tryz.ntmps9
          try simp only [List.append]
          go_wp2_with (first | ((with_reducible refine qd 17 ?_); (try (refine gate_guard (by rfl) ?_; dsimp only)); refine Kd.R_lit (Kd.int .u8) _ 5 ?hg (N := 17) ?hd (xs := ([96] : List Int)) (inner := [.int .u8 96]) (ok := fun _ => True) (okp := fun _ => True) ?hr ?hp (fun _ hk => hk) trivial (Below.refl _ _) (Nat.le_refl _) (by simp) ?_; (case hd => rfl); (case hg => rfl); (case hr => first | (go_simp; done) | (go_simp; rfl)); (case hp => exact (Reps.one (show Kd.M (Kd.int .u8) _ _ _ 96 [.int .u8 96] from rfl) (Reps.none _ _))); intro v465 w18 ho19 hb hg_ hnew_; clear hg_ hnew_; (first | rw [← Ny464.out] at ho19 | (simp only [Int.reduceToNat] at ho19; rw [← Ny464.out] at ho19)); have HO466 := Aside0.mk (Kd.R_lower ho19 (below_size (qs HB))); replace HB := Aside0.mk (below_step (qs HB) hb); clear hb ho19; obtain ⟨Ao20, co20, eo20⟩ := Kd.R_slice HO466.out; subst eo20) | ((with_reducible refine gate_callee (f := 30) rfl ?_); refine goesL_ (some 18) rfl rfl Tryz.func30 (by kernel_rfl) rfl #[.slice Ao20 y464.length co20, .int .u64 8] rfl ql ?_; (with_reducible refine (tape_Tape.calls _ _ y464 8 t467 t468 t471 t472 t473 t474 t475 _ ?side1 ?side2 A1.out).mono ?_); (case side1 => repeat (first | exact (Kd.R_reads' HO466.out).2.2 | (with_reducible refine Kd.C_alloc ?_ _) | (with_reducible refine Kd.C_drewN ?_ _) | (with_reducible refine Kd.C_drew ?_))); (case side2 => exact (Kd.R_reads' HO466.out).2.1); rintro e w21 ⟨v469, rfl, ho0, hb⟩; refine ⟨_, rfl, ?_⟩; have HO470 := Aside0.mk (Kd.R_lower (Kd.R_new' ho0 (Kd.R_lt (qr HO466))) (below_size (qs HB))); replace HO466 := Aside0.mk (Kd.R_elder' (qr HO466) (Kd.R_base ho0) hb); replace HB := Aside0.mk (below_step (qs HB) hb); (try clear hb); (try clear hb2); (try clear hk); (try clear hi); (try clear ho0)) | ((with_reducible refine qd 1 ?_); (try (refine gate_guard (by rfl) ?_; dsimp only)); refine qF (N := 1) (cs := (#[.int .i64 0, .slice none 0 0, .int .u64 0] ++ ((Ar.cells .u8 32 (List.replicate 32 0)) ++ #[.int .u64 0, .int .u64 0]))) (t := 39) ?_; intro gb476 hg w22 hbox hb; replace HO466 := Aside0.mk (Kd.R_below (qr HO466) hb); replace HO470 := Aside0.mk (Kd.R_below (qr HO470) hb); have BK476 := Aside0.mk (hbox); have GW476 := Aside0.mk (qe HB hg); have GE476 := Aside0.mk (qe HB hg); replace HB := Aside0.mk (below_step (qs HB) hb); clear hb hbox hg) | ((with_reducible refine gate_store (t := 39) (p := 1) rfl ?_); refine Ar.gstore_event rfl rfl rfl (D := (#[.int .i64 t467, v469, .int .u64 t471] ++ ((Ar.cells .u8 32 t472) ++ #[.int .u64 t473, .int .u64 t474]))) qz (g := gb476) rfl qg (qb BK476) (by simp [Ar.cells_size]) (by repeat (first | (with_reducible refine Ar.all_app ?_ ?_) | (with_reducible exact Ar.cells_one _ _ _) | (focus (simp [Value.oneCell']; done)) | (focus (simp [(show (v469 : Value).oneCell' = true from by (have e_ := Kd.R_slice HO470.out; obtain ⟨_, _, e_⟩ := e_; rw [e_]; rfl))]; first | done | rfl | (repeat' constructor))) | rfl)) ?_; intro w23 hbk_ hg; replace HO466 := Aside0.mk (Kd.R_mono (Kd.R_grown (Kd.R_types (qr HO466) BK476.out (by decide)) hg (fun k_ hk_ e_ => hk_.2 (Option.some.inj e_))) (fun _ h_ => h_.1)); replace HO470 := Aside0.mk (Kd.R_mono (Kd.R_grown (Kd.R_types (qr HO470) BK476.out (by decide)) hg (fun k_ hk_ e_ => hk_.2 (Option.some.inj e_))) (fun _ h_ => h_.1)); replace BK476 := Aside0.mk (hbk_); replace HB := Aside0.mk (Below.grown (qs HB) hg ((below_size (qs HB))) (fun _ e_ => by cases e_; exact GE476.out)); clear hbk_ hg) | ((with_reducible refine qd 22 ?_); (try (refine gate_guard (by rfl) ?_; dsimp only)); refine Kd.R_lit (Kd.int .u64) _ 24 ?hg (N := 22) ?hd (xs := ([3, 0, 2] : List Int)) (inner := [.int .u64 3, .int .u64 0, .int .u64 2]) (ok := fun _ => True) (okp := fun _ => True) ?hr ?hp (fun _ hk => hk) trivial (Below.refl _ _) (Nat.le_refl _) (by simp) ?_; (case hd => rfl); (case hg => rfl); (case hr => first | (go_simp; done) | (go_simp; rfl)); (case hp => exact (Reps.one (show Kd.M (Kd.int .u64) _ _ _ 3 [.int .u64 3] from rfl) (Reps.one (show Kd.M (Kd.int .u64) _ _ _ 0 [.int .u64 0] from rfl) (Reps.one (show Kd.M (Kd.int .u64) _ _ _ 2 [.int .u64 2] from rfl) (Reps.none _ _))))); intro v478 w24 ho25 hb hg_ hnew_; clear hg_ hnew_; (first | rw [← Ny477.out] at ho25 | (simp only [Int.reduceToNat] at ho25; rw [← Ny477.out] at ho25)); replace HO466 := Aside0.mk (Kd.R_below (qr HO466) hb); replace HO470 := Aside0.mk (Kd.R_below (qr HO470) hb); have HO479 := Aside0.mk (Kd.R_lower ho25 (below_size (qs HB))); replace BK476 := Aside0.mk (qB BK476 hb); replace HB := Aside0.mk (below_step (qs HB) hb); clear hb ho25; obtain ⟨Ao26, co26, eo26⟩ := Kd.R_slice HO479.out; subst eo26) | ((with_reducible refine gate_callee (f := 22) rfl ?_); refine goesL_ (some 23) rfl rfl Tryz.func22 (by kernel_rfl) rfl #[.slice Ao26 y477.length co26] rfl ql ?_; (with_reducible refine (fen_Build.calls k _ _ y477 t480 t483 _ ?side1 ?side2 A2.out).mono ?_); (case side1 => repeat (first | exact (Kd.R_reads' HO479.out).2.2 | (with_reducible refine Kd.C_alloc ?_ _) | (with_reducible refine Kd.C_drewN ?_ _) | (with_reducible refine Kd.C_drew ?_))); (case side2 => exact (Kd.R_reads' HO479.out).2.1); rintro e w27 ⟨v481, rfl, ho0, hb⟩; refine ⟨_, rfl, ?_⟩; replace HO466 := Aside0.mk (Kd.R_below (qr HO466) hb); replace HO470 := Aside0.mk (Kd.R_below (qr HO470) hb); have HO482 := Aside0.mk (Kd.R_lower (Kd.R_new' ho0 (Kd.R_lt (qr HO479))) (below_size (qs HB))); replace HO479 := Aside0.mk (Kd.R_elder' (qr HO479) (Kd.R_base ho0) hb); replace BK476 := Aside0.mk (qB BK476 hb); replace HB := Aside0.mk (below_step (qs HB) hb); (try clear hb); (try clear hb2); (try clear hk); (try clear hi); (try clear ho0)) | ((with_reducible refine qd 3 ?_); (try (refine gate_guard (by rfl) ?_; dsimp only)); refine box_event ?hg (N := 3) ?hd (cs := #[.slice none 0 0]) (t := 54) ?hr ?_; (case hd => rfl); (case hg => rfl); (case hr => first | (go_simp; done) | (go_simp; rfl)); intro gb484 hg w28 hbox hb; replace HO466 := Aside0.mk (Kd.R_below (qr HO466) hb); replace HO470 := Aside0.mk (Kd.R_below (qr HO470) hb); replace HO479 := Aside0.mk (Kd.R_below (qr HO479) hb); replace HO482 := Aside0.mk (Kd.R_below (qr HO482) hb); have BK484 := Aside0.mk (hbox); have GW484 := Aside0.mk (qe HB hg); have GE484 := Aside0.mk (qe HB hg); replace HB := Aside0.mk (below_step (qs HB) hb); have NB476_484 := Aside0.mk (qu BK476 hg); have NB484_476 := Aside0.mk (qw BK476 hg); replace BK476 := Aside0.mk (qB BK476 hb); clear hb hbox hg; obtain ⟨Ao29, co29, eo29⟩ := Kd.R_slice HO482.out; subst eo29; have hnb30 := NB484_476.out; have hnc30 := NB476_484.out; have hcz31_0 : w28.cell? ⟨gb484, 0, none⟩ = some (.slice none 0 0) := (blk_cell BK484.out 0).trans rfl; have hfz31_0 := blk_frozen BK484.out 0) | ((with_reducible refine gate_store (t := 54) (p := 3) rfl ?_); refine store_event (t := 54) (p := 3) (v := ?vo_w32) (w1 := (w28.setCell ⟨gb484, 0, none⟩ (.slice Ao29 t480.length co29))) ?hg ?ho ?hn ?hr ?_; (case ho => rfl); (case hg => rfl); (case hn => rfl); (case hr => first | (go_simp; done) | (go_simp; rfl)); intro w32 hw; have n0_ : Aside0 (Kd.R (Kd.int .u8) 5 w32 w.heap.size (fun k_ => some k_ ≠ (v469 : Value).ownBlock) (.slice Ao20 y464.length co20) y464) := ⟨(by rw [hw]; exact (by (with_reducible repeat (first | apply Kd.R_alloc | apply Kd.R_drewN | apply Kd.R_drew)); exact Kd.R_mono (Kd.R_far (p := ⟨gb484, 0, none⟩) (Kd.R_types HO466.out BK484.out (by decide)) (fun _ hk => hk.2) (.slice Ao29 t480.length co29)) (fun _ hk => hk.1.2)))⟩; have n1_ : Aside0 (Kd.R (Kd.int .u8) 5 w32 w.heap.size (fun k_ => some k_ ≠ (.slice Ao20 y464.length co20 : Value).ownBlock) v469 t468) := ⟨(by rw [hw]; exact (by (with_reducible repeat (first | apply Kd.R_alloc | apply Kd.R_drewN | apply Kd.R_drew)); exact Kd.R_mono (Kd.R_far (p := ⟨gb484, 0, none⟩) (Kd.R_types HO470.out BK484.out (by decide)) (fun _ hk => hk.2) (.slice Ao29 t480.length co29)) (fun _ hk => hk.1.2)))⟩; have n2_ : Aside0 (Kd.R (Kd.int .u64) 24 w32 w.heap.size (fun k_ => some k_ ≠ (.slice Ao29 t480.length co29 : Value).ownBlock) (.slice Ao26 y477.length co26) y477) := ⟨(by rw [hw]; exact (by (with_reducible repeat (first | apply Kd.R_alloc | apply Kd.R_drewN | apply Kd.R_drew)); exact Kd.R_mono (Kd.R_far (p := ⟨gb484, 0, none⟩) (Kd.R_types HO479.out BK484.out (by decide)) (fun _ hk => hk.2) (.slice Ao29 t480.length co29)) (fun _ hk => hk.1.2)))⟩; have n3_ : Aside0 (Kd.R (Kd.int .u64) 24 w32 w.heap.size (fun k_ => some k_ ≠ (.slice Ao26 y477.length co26 : Value).ownBlock) (.slice Ao29 t480.length co29) t480) := ⟨(by rw [hw]; exact (by (with_reducible repeat (first | apply Kd.R_alloc | apply Kd.R_drewN | apply Kd.R_drew)); exact Kd.R_mono (Kd.R_far (p := ⟨gb484, 0, none⟩) (Kd.R_types HO482.out BK484.out (by decide)) (fun _ hk => hk.2) (.slice Ao29 t480.length co29)) (fun _ hk => hk.1.2)))⟩; have n4_ : Aside0 (w32.heap[gb476]? = some (.cells (#[.int .i64 t467, v469, .int .u64 t471] ++ ((Ar.cells .u8 32 t472) ++ #[.int .u64 t473, .int .u64 t474])) 39 (0, 0))) := ⟨(by rw [hw]; exact (by (with_reducible repeat (first | refine blk_drewN ?_ _ | refine blk_drew ?_ | refine blk_alloc ?_ _)); refine blk_far ?_ NB476_484.out _; (with_reducible repeat (first | refine blk_drewN ?_ _ | refine blk_drew ?_ | refine blk_alloc ?_ _)); exact BK476.out))⟩; have n5_ : Aside0 (w32.heap[gb484]? = some (.cells #[.slice Ao29 t480.length co29] 54 (0, 0))) := ⟨(by rw [hw]; exact (by (with_reducible repeat (first | refine blk_drewN ?_ _ | refine blk_drew ?_ | refine blk_alloc ?_ _)); refine blk_put (cs := #[.slice none 0 0]) ?_ 0 _ rfl; (with_reducible repeat (first | refine blk_drewN ?_ _ | refine blk_drew ?_ | refine blk_alloc ?_ _)); exact BK484.out))⟩; have n6_ : Aside0 (Below w.heap.size w w32) := ⟨(by rw [hw]; exact (qs HB))⟩; clear hw HO466 HO470 HO479 HO482 BK476 BK484 HB; have HO466 := n0_; have HO470 := n1_; have HO479 := n2_; have HO482 := n3_; have BK476 := n4_; have BK484 := n5_; have HB := n6_; clear n0_ n1_ n2_ n3_ n4_ n5_ n6_; have hcz33_0 : w32.cell? ⟨gb484, 0, none⟩ = some (.slice Ao29 t480.length co29) := (blk_cell BK484.out 0).trans rfl; have hfz33_0 := blk_frozen BK484.out 0; obtain ⟨Ao34, co34, eo34⟩ := Kd.R_slice HO470.out; subst eo34) | ((with_reducible refine qd 28 ?_); (try (refine gate_guard (by rfl) ?_; dsimp only)); refine Ar.gload_event rfl (T := 39) rfl Tryz.underlying39 rfl (D := (#[.int .i64 t467, .slice Ao34 t468.length co34, .int .u64 t471] ++ ((Ar.cells .u8 32 t472) ++ #[.int .u64 t473, .int .u64 t474]))) qz (A := ⟨gb476, 0, none⟩) rfl (Ar.blk_part (qb BK476) Ar.in_whole) ?_) | ((with_reducible refine gate_callee (f := 23) rfl ?_); refine goesL_ (some 29) rfl rfl Tryz.func23 (by kernel_rfl) rfl #[.agg #[.slice Ao29 t480.length co29], .agg (#[.int .i64 t467, .slice Ao34 t468.length co34, .int .u64 t471] ++ ((Ar.cells .u8 32 t472) ++ #[.int .u64 t473, .int .u64 t474])), .int .i64 2] rfl ql ?_; (with_reducible refine (lead_Draw.calls k _ _ t480 t467 (fun k_ => some k_ = (.slice Ao34 t468.length co34 : Value).ownBlock) _ _ t468 t471 t472 t473 t474 2 t485 t486 t487 t490 t491 t492 t493 t494 _ ?side1 ?side2 ?side3 A3.out).mono ?_); (case side1 => repeat (first | exact (Kd.R_reads' HO482.out).2.2 | (with_reducible refine Kd.C_alloc ?_ _) | (with_reducible refine Kd.C_drewN ?_ _) | (with_reducible refine Kd.C_drew ?_))); (case side2 => exact (Kd.R_reads' HO482.out).2.1); (case side3 => exact Kd.R_V (Kd.R_tight rfl (Kd.R_types (Kd.R_types (Kd.R_apart' (Kd.R_apart' (HO470.out) (Kd.R_typed HO479.out) (by decide)) (Kd.R_typed HO482.out) (by decide)) BK476.out (by decide)) BK484.out (by decide)))); rintro e w35 ⟨v488, rfl, ho0, hb⟩; refine ⟨_, rfl, ?_⟩; have HO489 := Aside0.mk (Kd.V_lower (Kd.V_mono (ok' := fun k_ => some k_ ≠ (.slice Ao20 y464.length co20 : Value).ownBlock ∧ some k_ ≠ (.slice Ao26 y477.length co26 : Value).ownBlock ∧ some k_ ≠ (.slice Ao29 t480.length co29 : Value).ownBlock ∧ k_ ≠ gb476 ∧ k_ ≠ gb484) ho0 (fun k_ hk_ => ⟨Or.elim hk_ (fun hs_ => ((Kd.R_types (Kd.R_types (Kd.R_apart' (Kd.R_apart' (HO470.out) (Kd.R_typed HO479.out) (by decide)) (Kd.R_typed HO482.out) (by decide)) BK476.out (by decide)) BK484.out (by decide)).1 k_ hs_.symm).1.1.1.1) (fun hn_ => (Kd.fresh' (Kd.R_lt (qr HO466)) k_ hn_)), Or.elim hk_ (fun hs_ => ((Kd.R_types (Kd.R_types (Kd.R_apart' (Kd.R_apart' (HO470.out) (Kd.R_typed HO479.out) (by decide)) (Kd.R_typed HO482.out) (by decide)) BK476.out (by decide)) BK484.out (by decide)).1 k_ hs_.symm).1.1.1.2) (fun hn_ => (Kd.fresh' (Kd.R_lt (qr HO479)) k_ hn_)), Or.elim hk_ (fun hs_ => ((Kd.R_types (Kd.R_types (Kd.R_apart' (Kd.R_apart' (HO470.out) (Kd.R_typed HO479.out) (by decide)) (Kd.R_typed HO482.out) (by decide)) BK476.out (by decide)) BK484.out (by decide)).1 k_ hs_.symm).1.1.2) (fun hn_ => (Kd.fresh' (Kd.R_lt (qr HO482)) k_ hn_)), Or.elim hk_ (fun hs_ => ((Kd.R_types (Kd.R_types (Kd.R_apart' (Kd.R_apart' (HO470.out) (Kd.R_typed HO479.out) (by decide)) (Kd.R_typed HO482.out) (by decide)) BK476.out (by decide)) BK484.out (by decide)).1 k_ hs_.symm).1.2) (fun hn_ => (Kd.freshB (g := gb476) (o := .cells (#[.int .i64 t467, .slice Ao34 t468.length co34, .int .u64 t471] ++ ((Ar.cells .u8 32 t472) ++ #[.int .u64 t473, .int .u64 t474])) 39 (0, 0)) (qb BK476) k_ hn_)), Or.elim hk_ (fun hs_ => ((Kd.R_types (Kd.R_types (Kd.R_apart' (Kd.R_apart' (HO470.out) (Kd.R_typed HO479.out) (by decide)) (Kd.R_typed HO482.out) (by decide)) BK476.out (by decide)) BK484.out (by decide)).1 k_ hs_.symm).2) (fun hn_ => (Kd.freshB (g := gb484) (o := .cells #[.slice Ao29 t480.length co29] 54 (0, 0)) (qb BK484) k_ hn_))⟩)) (below_size (qs HB))); replace HO466 := Aside0.mk (Kd.R_below (qr HO466) hb); replace HO470 := Aside0.mk (Kd.R_below (qr HO470) hb); replace HO479 := Aside0.mk (Kd.R_below (qr HO479) hb); replace HO482 := Aside0.mk (Kd.R_below (qr HO482) hb); replace BK476 := Aside0.mk (qB BK476 hb); replace BK484 := Aside0.mk (qB BK484 hb); replace HB := Aside0.mk (below_step (qs HB) hb); (try clear hb); (try clear hb2); (try clear hk); (try clear hi); (try clear ho0)) | ((with_reducible refine qd 6 ?_); (try (refine gate_guard (by rfl) ?_; dsimp only)); refine qF (N := 6) (cs := (#[.int .i64 0, .slice none 0 0, .int .u64 0] ++ ((Ar.cells .u8 32 (List.replicate 32 0)) ++ #[.int .u64 0, .int .u64 0]))) (t := 39) ?_; intro gb495 hg w36 hbox hb; replace HO466 := Aside0.mk (Kd.R_below (qr HO466) hb); replace HO470 := Aside0.mk (Kd.R_below (qr HO470) hb); replace HO479 := Aside0.mk (Kd.R_below (qr HO479) hb); replace HO482 := Aside0.mk (Kd.R_below (qr HO482) hb); replace HO489 := Aside0.mk (Kd.V_below (Kd.V_elderB (qv HO489) gb495 (Nat.le_of_eq hg.symm)) hb); have BK495 := Aside0.mk (hbox); have GW495 := Aside0.mk (qe HB hg); have GE495 := Aside0.mk (qe HB hg); replace HB := Aside0.mk (below_step (qs HB) hb); have NB476_495 := Aside0.mk (qu BK476 hg); have NB495_476 := Aside0.mk (qw BK476 hg); replace BK476 := Aside0.mk (qB BK476 hb); have NB484_495 := Aside0.mk (qu BK484 hg); have NB495_484 := Aside0.mk (qw BK484 hg); replace BK484 := Aside0.mk (qB BK484 hb); clear hb hbox hg) | ((with_reducible refine gate_store (t := 39) (p := 6) rfl ?_); refine Ar.gstore_event rfl rfl rfl (D := (#[.int .i64 t486, v488, .int .u64 t490] ++ ((Ar.cells .u8 32 t491) ++ #[.int .u64 t492, .int .u64 t493]))) qz (g := gb495) rfl qg (qb BK495) (by simp [Ar.cells_size]) (by repeat (first | (with_reducible refine Ar.all_app ?_ ?_) | (with_reducible exact Ar.cells_one _ _ _) | (focus (simp [Value.oneCell']; done)) | (focus (simp [(show (v488 : Value).oneCell' = true from by (have e_ := Kd.V_slice HO489.out; obtain ⟨_, _, e_⟩ := e_; rw [e_]; rfl))]; first | done | rfl | (repeat' constructor))) | rfl)) ?_; intro w37 hbk_ hg; replace HO466 := Aside0.mk (Kd.R_mono (Kd.R_grown (Kd.R_types (qr HO466) BK495.out (by decide)) hg (fun k_ hk_ e_ => hk_.2 (Option.some.inj e_))) (fun _ h_ => h_.1)); replace HO470 := Aside0.mk (Kd.R_mono (Kd.R_grown (Kd.R_types (qr HO470) BK495.out (by decide)) hg (fun k_ hk_ e_ => hk_.2 (Option.some.inj e_))) (fun _ h_ => h_.1)); replace BK476 := Aside0.mk (qG BK476 hg (fun e_ => NB476_495.out (Option.some.inj e_))); replace HO479 := Aside0.mk (Kd.R_mono (Kd.R_grown (Kd.R_types (qr HO479) BK495.out (by decide)) hg (fun k_ hk_ e_ => hk_.2 (Option.some.inj e_))) (fun _ h_ => h_.1)); replace HO482 := Aside0.mk (Kd.R_mono (Kd.R_grown (Kd.R_types (qr HO482) BK495.out (by decide)) hg (fun k_ hk_ e_ => hk_.2 (Option.some.inj e_))) (fun _ h_ => h_.1)); replace BK484 := Aside0.mk (qG BK484 hg (fun e_ => NB484_495.out (Option.some.inj e_))); replace HO489 := Aside0.mk (Kd.V_grown (qv HO489) hg (by intro k_ hk e_; exact (hk.2) (Option.some.inj e_))); replace BK495 := Aside0.mk (hbk_); replace HB := Aside0.mk (Below.grown (qs HB) hg ((below_size (qs HB))) (fun _ e_ => by cases e_; exact GE495.out)); clear hbk_ hg) | ((with_reducible refine qd 34 ?_); (try (refine gate_guard (by rfl) ?_; dsimp only)); refine Ar.gload_event rfl (T := 39) rfl Tryz.underlying39 rfl (D := (#[.int .i64 t467, .slice Ao34 t468.length co34, .int .u64 t471] ++ ((Ar.cells .u8 32 t472) ++ #[.int .u64 t473, .int .u64 t474]))) qz (A := ⟨gb476, 0, none⟩) rfl (Ar.blk_part (qb BK476) Ar.in_whole) ?_) | ((with_reducible refine qd 35 ?_); (try (refine gate_guard (by rfl) ?_; dsimp only)); refine Kd.R_lit (Kd.int .u64) _ 24 ?hg (N := 35) ?hd (xs := ([3, 0, 2] : List Int)) (inner := [.int .u64 3, .int .u64 0, .int .u64 2]) (ok := fun _ => True) (okp := fun _ => True) ?hr ?hp (fun _ hk => hk) trivial (Below.refl _ _) (Nat.le_refl _) (by simp) ?_; (case hd => rfl); (case hg => rfl); (case hr => first | (go_simp; done) | (go_simp; rfl)); (case hp => exact (Reps.one (show Kd.M (Kd.int .u64) _ _ _ 3 [.int .u64 3] from rfl) (Reps.one (show Kd.M (Kd.int .u64) _ _ _ 0 [.int .u64 0] from rfl) (Reps.one (show Kd.M (Kd.int .u64) _ _ _ 2 [.int .u64 2] from rfl) (Reps.none _ _))))); intro v497 w38 ho39 hb hg_ hnew_; clear hg_ hnew_; (first | rw [← Ny496.out] at ho39 | (simp only [Int.reduceToNat] at ho39; rw [← Ny496.out] at ho39)); replace HO466 := Aside0.mk (Kd.R_below (qr HO466) hb); replace HO470 := Aside0.mk (Kd.R_below (qr HO470) hb); replace HO489 := Aside0.mk (Kd.V_elder' (qv HO489) (Kd.R_base ho39) hb); have HO498 := Aside0.mk (Kd.R_lower (Kd.R_new' (Kd.R_new' ho39 (Kd.R_lt (qr HO479))) (Kd.R_lt (qr HO482))) (below_size (qs HB))); replace HO479 := Aside0.mk (Kd.R_elder' (qr HO479) (Kd.R_base ho39) hb); replace HO482 := Aside0.mk (Kd.R_elder' (qr HO482) (Kd.R_base ho39) hb); replace BK476 := Aside0.mk (qB BK476 hb); replace BK484 := Aside0.mk (qB BK484 hb); replace BK495 := Aside0.mk (qB BK495 hb); replace HB := Aside0.mk (below_step (qs HB) hb); clear hb ho39; obtain ⟨Ao40, co40, eo40⟩ := Kd.R_slice HO498.out; subst eo40) | ((with_reducible refine gate_callee (f := 32) rfl ?_); refine goesL_ (some 36) rfl rfl Tryz.func32 (by kernel_rfl) rfl #[.agg (#[.int .i64 t467, .slice Ao34 t468.length co34, .int .u64 t471] ++ ((Ar.cells .u8 32 t472) ++ #[.int .u64 t473, .int .u64 t474])), .int .i64 2, .slice Ao40 y496.length co40] rfl ql ?_; (with_reducible refine (pick_List.calls k t467 (fun k_ => some k_ = (.slice Ao34 t468.length co34 : Value).ownBlock) _ _ t468 t471 t472 t473 t474 2 _ _ y496 t499 t500 t501 t504 t505 t506 t507 t508 _ ?side1 ?side2 ?side3 A4.out).mono ?_); (case side1 => exact Kd.R_V (Kd.R_tight rfl (Kd.R_types (Kd.R_types (Kd.R_types (Kd.R_apart' (Kd.R_apart' (Kd.R_apart' (HO470.out) (Kd.R_typed HO479.out) (by decide)) (Kd.R_typed HO482.out) (by decide)) (Kd.R_typed HO498.out) (by decide)) BK476.out (by decide)) BK484.out (by decide)) BK495.out (by decide)))); (case side2 => repeat (first | exact (Kd.R_reads' HO498.out).2.2 | (with_reducible refine Kd.C_alloc ?_ _) | (with_reducible refine Kd.C_drewN ?_ _) | (with_reducible refine Kd.C_drew ?_))); (case side3 => exact (Kd.R_reads' HO498.out).2.1); rintro e w41 ⟨v502, rfl, ho0, hb⟩; refine ⟨_, rfl, ?_⟩; replace HO489 := Aside0.mk (Kd.V_below (qv HO489) hb); have HO503 := Aside0.mk (Kd.V_lower (Kd.V_mono (ok' := fun k_ => some k_ ≠ (.slice Ao20 y464.length co20 : Value).ownBlock ∧ some k_ ≠ (.slice Ao26 y477.length co26 : Value).ownBlock ∧ some k_ ≠ (.slice Ao29 t480.length co29 : Value).ownBlock ∧ some k_ ≠ (.slice Ao40 y496.length co40 : Value).ownBlock ∧ k_ ≠ gb476 ∧ k_ ≠ gb484 ∧ k_ ≠ gb495) ho0 (fun k_ hk_ => ⟨Or.elim hk_ (fun hs_ => ((Kd.R_types (Kd.R_types (Kd.R_types (Kd.R_apart' (Kd.R_apart' (Kd.R_apart' (HO470.out) (Kd.R_typed HO479.out) (by decide)) (Kd.R_typed HO482.out) (by decide)) (Kd.R_typed HO498.out) (by decide)) BK476.out (by decide)) BK484.out (by decide)) BK495.out (by decide)).1 k_ hs_.symm).1.1.1.1.1.1) (fun hn_ => (Kd.fresh' (Kd.R_lt (qr HO466)) k_ hn_)), Or.elim hk_ (fun hs_ => ((Kd.R_types (Kd.R_types (Kd.R_types (Kd.R_apart' (Kd.R_apart' (Kd.R_apart' (HO470.out) (Kd.R_typed HO479.out) (by decide)) (Kd.R_typed HO482.out) (by decide)) (Kd.R_typed HO498.out) (by decide)) BK476.out (by decide)) BK484.out (by decide)) BK495.out (by decide)).1 k_ hs_.symm).1.1.1.1.1.2) (fun hn_ => (Kd.fresh' (Kd.R_lt (qr HO479)) k_ hn_)), Or.elim hk_ (fun hs_ => ((Kd.R_types (Kd.R_types (Kd.R_types (Kd.R_apart' (Kd.R_apart' (Kd.R_apart' (HO470.out) (Kd.R_typed HO479.out) (by decide)) (Kd.R_typed HO482.out) (by decide)) (Kd.R_typed HO498.out) (by decide)) BK476.out (by decide)) BK484.out (by decide)) BK495.out (by decide)).1 k_ hs_.symm).1.1.1.1.2) (fun hn_ => (Kd.fresh' (Kd.R_lt (qr HO482)) k_ hn_)), Or.elim hk_ (fun hs_ => ((Kd.R_types (Kd.R_types (Kd.R_types (Kd.R_apart' (Kd.R_apart' (Kd.R_apart' (HO470.out) (Kd.R_typed HO479.out) (by decide)) (Kd.R_typed HO482.out) (by decide)) (Kd.R_typed HO498.out) (by decide)) BK476.out (by decide)) BK484.out (by decide)) BK495.out (by decide)).1 k_ hs_.symm).1.1.1.2) (fun hn_ => (Kd.fresh' (Kd.R_lt (qr HO498)) k_ hn_)), Or.elim hk_ (fun hs_ => ((Kd.R_types (Kd.R_types (Kd.R_types (Kd.R_apart' (Kd.R_apart' (Kd.R_apart' (HO470.out) (Kd.R_typed HO479.out) (by decide)) (Kd.R_typed HO482.out) (by decide)) (Kd.R_typed HO498.out) (by decide)) BK476.out (by decide)) BK484.out (by decide)) BK495.out (by decide)).1 k_ hs_.symm).1.1.2) (fun hn_ => (Kd.freshB (g := gb476) (o := .cells (#[.int .i64 t467, .slice Ao34 t468.length co34, .int .u64 t471] ++ ((Ar.cells .u8 32 t472) ++ #[.int .u64 t473, .int .u64 t474])) 39 (0, 0)) (qb BK476) k_ hn_)), Or.elim hk_ (fun hs_ => ((Kd.R_types (Kd.R_types (Kd.R_types (Kd.R_apart' (Kd.R_apart' (Kd.R_apart' (HO470.out) (Kd.R_typed HO479.out) (by decide)) (Kd.R_typed HO482.out) (by decide)) (Kd.R_typed HO498.out) (by decide)) BK476.out (by decide)) BK484.out (by decide)) BK495.out (by decide)).1 k_ hs_.symm).1.2) (fun hn_ => (Kd.freshB (g := gb484) (o := .cells #[.slice Ao29 t480.length co29] 54 (0, 0)) (qb BK484) k_ hn_)), Or.elim hk_ (fun hs_ => ((Kd.R_types (Kd.R_types (Kd.R_types (Kd.R_apart' (Kd.R_apart' (Kd.R_apart' (HO470.out) (Kd.R_typed HO479.out) (by decide)) (Kd.R_typed HO482.out) (by decide)) (Kd.R_typed HO498.out) (by decide)) BK476.out (by decide)) BK484.out (by decide)) BK495.out (by decide)).1 k_ hs_.symm).2) (fun hn_ => (Kd.freshB (g := gb495) (o := .cells (#[.int .i64 t486, v488, .int .u64 t490] ++ ((Ar.cells .u8 32 t491) ++ #[.int .u64 t492, .int .u64 t493])) 39 (0, 0)) (qb BK495) k_ hn_))⟩)) (below_size (qs HB))); replace HO466 := Aside0.mk (Kd.R_below (qr HO466) hb); replace HO470 := Aside0.mk (Kd.R_below (qr HO470) hb); replace HO479 := Aside0.mk (Kd.R_below (qr HO479) hb); replace HO482 := Aside0.mk (Kd.R_below (qr HO482) hb); replace HO498 := Aside0.mk (Kd.R_below (qr HO498) hb); replace BK476 := Aside0.mk (qB BK476 hb); replace BK484 := Aside0.mk (qB BK484 hb); replace BK495 := Aside0.mk (qB BK495 hb); replace HB := Aside0.mk (below_step (qs HB) hb); (try clear hb); (try clear hb2); (try clear hk); (try clear hi); (try clear ho0)) | ((with_reducible refine qd 9 ?_); (try (refine gate_guard (by rfl) ?_; dsimp only)); refine qF (N := 9) (cs := (#[.int .i64 0, .slice none 0 0, .int .u64 0] ++ ((Ar.cells .u8 32 (List.replicate 32 0)) ++ #[.int .u64 0, .int .u64 0]))) (t := 39) ?_; intro gb509 hg w42 hbox hb; replace HO466 := Aside0.mk (Kd.R_below (qr HO466) hb); replace HO470 := Aside0.mk (Kd.R_below (qr HO470) hb); replace HO479 := Aside0.mk (Kd.R_below (qr HO479) hb); replace HO482 := Aside0.mk (Kd.R_below (qr HO482) hb); replace HO489 := Aside0.mk (Kd.V_below (Kd.V_elderB (qv HO489) gb509 (Nat.le_of_eq hg.symm)) hb); replace HO498 := Aside0.mk (Kd.R_below (qr HO498) hb); replace HO503 := Aside0.mk (Kd.V_below (Kd.V_elderB (qv HO503) gb509 (Nat.le_of_eq hg.symm)) hb); have BK509 := Aside0.mk (hbox); have GW509 := Aside0.mk (qe HB hg); have GE509 := Aside0.mk (qe HB hg); replace HB := Aside0.mk (below_step (qs HB) hb); have NB476_509 := Aside0.mk (qu BK476 hg); have NB509_476 := Aside0.mk (qw BK476 hg); replace BK476 := Aside0.mk (qB BK476 hb); have NB484_509 := Aside0.mk (qu BK484 hg); have NB509_484 := Aside0.mk (qw BK484 hg); replace BK484 := Aside0.mk (qB BK484 hb); have NB495_509 := Aside0.mk (qu BK495 hg); have NB509_495 := Aside0.mk (qw BK495 hg); replace BK495 := Aside0.mk (qB BK495 hb); clear hb hbox hg) | ((with_reducible refine gate_store (t := 39) (p := 9) rfl ?_); refine Ar.gstore_event rfl rfl rfl (D := (#[.int .i64 t500, v502, .int .u64 t504] ++ ((Ar.cells .u8 32 t505) ++ #[.int .u64 t506, .int .u64 t507]))) qz (g := gb509) rfl qg (qb BK509) (by simp [Ar.cells_size]) (by repeat (first | (with_reducible refine Ar.all_app ?_ ?_) | (with_reducible exact Ar.cells_one _ _ _) | (focus (simp [Value.oneCell']; done)) | (focus (simp [(show (v502 : Value).oneCell' = true from by (have e_ := Kd.V_slice HO503.out; obtain ⟨_, _, e_⟩ := e_; rw [e_]; rfl))]; first | done | rfl | (repeat' constructor))) | rfl)) ?_; intro w43 hbk_ hg; replace HO466 := Aside0.mk (Kd.R_mono (Kd.R_grown (Kd.R_types (qr HO466) BK509.out (by decide)) hg (fun k_ hk_ e_ => hk_.2 (Option.some.inj e_))) (fun _ h_ => h_.1)); replace HO470 := Aside0.mk (Kd.R_mono (Kd.R_grown (Kd.R_types (qr HO470) BK509.out (by decide)) hg (fun k_ hk_ e_ => hk_.2 (Option.some.inj e_))) (fun _ h_ => h_.1)); replace BK476 := Aside0.mk (qG BK476 hg (fun e_ => NB476_509.out (Option.some.inj e_))); replace HO479 := Aside0.mk (Kd.R_mono (Kd.R_grown (Kd.R_types (qr HO479) BK509.out (by decide)) hg (fun k_ hk_ e_ => hk_.2 (Option.some.inj e_))) (fun _ h_ => h_.1)); replace HO482 := Aside0.mk (Kd.R_mono (Kd.R_grown (Kd.R_types (qr HO482) BK509.out (by decide)) hg (fun k_ hk_ e_ => hk_.2 (Option.some.inj e_))) (fun _ h_ => h_.1)); replace BK484 := Aside0.mk (qG BK484 hg (fun e_ => NB484_509.out (Option.some.inj e_))); replace HO489 := Aside0.mk (Kd.V_grown (qv HO489) hg (by intro k_ hk e_; exact (hk.2) (Option.some.inj e_))); replace BK495 := Aside0.mk (qG BK495 hg (fun e_ => NB495_509.out (Option.some.inj e_))); replace HO498 := Aside0.mk (Kd.R_mono (Kd.R_grown (Kd.R_types (qr HO498) BK509.out (by decide)) hg (fun k_ hk_ e_ => hk_.2 (Option.some.inj e_))) (fun _ h_ => h_.1)); replace HO503 := Aside0.mk (Kd.V_grown (qv HO503) hg (by intro k_ hk e_; exact (hk.2) (Option.some.inj e_))); replace BK509 := Aside0.mk (hbk_); replace HB := Aside0.mk (Below.grown (qs HB) hg ((below_size (qs HB))) (fun _ e_ => by cases e_; exact GE509.out)); clear hbk_ hg; have hnb44 := NB484_495.out; have hnc44 := NB495_484.out; have hnb45 := NB484_509.out; have hnc45 := NB509_484.out; have hcz46_0 : w43.cell? ⟨gb484, 0, none⟩ = some (.slice Ao29 t480.length co29) := (blk_cell BK484.out 0).trans rfl; have hfz46_0 := blk_frozen BK484.out 0) | ((with_reducible refine qd 42 ?_); (try (refine gate_guard (by rfl) ?_; dsimp only)); refine Ar.gload_event rfl (T := 39) rfl Tryz.underlying39 rfl (D := (#[.int .i64 t467, .slice Ao34 t468.length co34, .int .u64 t471] ++ ((Ar.cells .u8 32 t472) ++ #[.int .u64 t473, .int .u64 t474]))) qz (A := ⟨gb476, 0, none⟩) rfl (Ar.blk_part (qb BK476) Ar.in_whole) ?_) | ((with_reducible refine gate_callee (f := 41) rfl ?_); refine goesL_ (some 43) rfl rfl Tryz.func41 (by kernel_rfl) rfl #[.agg #[.slice Ao29 t480.length co29], .int .i64 2, .agg (#[.int .i64 t467, .slice Ao34 t468.length co34, .int .u64 t471] ++ ((Ar.cells .u8 32 t472) ++ #[.int .u64 t473, .int .u64 t474])), .int .i64 2] rfl ql ?_; (with_reducible refine (comm_Draw.calls k (fun k_ => some k_ = (.slice Ao29 t480.length co29 : Value).ownBlock) _ _ t480 2 t467 (fun k_ => some k_ = (.slice Ao34 t468.length co34 : Value).ownBlock) _ _ t468 t471 t472 t473 t474 2 t510 t513 t514 t517 t518 t519 t520 t521 _ ?side1 ?side2 A5.out).mono ?_); (case side1 => exact Kd.R_V (Kd.R_tight rfl (Kd.R_types (Kd.R_types (Kd.R_types (Kd.R_types (Kd.R_apart' (Kd.R_apart' (HO482.out) (Kd.R_typed HO466.out) (by decide)) (Kd.R_typed HO470.out) (by decide)) BK476.out (by decide)) BK484.out (by decide)) BK495.out (by decide)) BK509.out (by decide)))); (case side2 => exact Kd.R_V (Kd.R_tight rfl (Kd.R_types (Kd.R_types (Kd.R_types (Kd.R_types (Kd.R_apart' (Kd.R_apart' (Kd.R_apart' (HO470.out) (Kd.R_typed HO479.out) (by decide)) (Kd.R_typed HO482.out) (by decide)) (Kd.R_typed HO498.out) (by decide)) BK476.out (by decide)) BK484.out (by decide)) BK495.out (by decide)) BK509.out (by decide)))); rintro e w47 ⟨v511, v515, rfl, ho0, ho1, hb⟩; refine ⟨_, rfl, ?_⟩; replace HO489 := Aside0.mk (Kd.V_elder' (qv HO489) (Kd.R_base ho0) hb); replace HO503 := Aside0.mk (Kd.V_elder' (qv HO503) (Kd.R_base ho0) hb); have HO512 := Aside0.mk (Kd.R_lower (Kd.R_mono (ok' := fun k_ => True) ho0 (fun _ hk_ => trivial)) (below_size (qs HB))); have HO516 := Aside0.mk (Kd.V_lower (Kd.V_mono (ok' := fun k_ => some k_ ≠ (v511 : Value).ownBlock ∧ some k_ ≠ (.slice Ao20 y464.length co20 : Value).ownBlock ∧ some k_ ≠ (.slice Ao26 y477.length co26 : Value).ownBlock ∧ some k_ ≠ (.slice Ao40 y496.length co40 : Value).ownBlock ∧ k_ ≠ gb476 ∧ k_ ≠ gb484 ∧ k_ ≠ gb495 ∧ k_ ≠ gb509) ho1 (fun k_ hk_ => ⟨hk_.2, Or.elim hk_.1 (fun hs_ => Or.elim hs_ (fun hs_ => ((Kd.R_types (Kd.R_types (Kd.R_types (Kd.R_types (Kd.R_apart' (Kd.R_apart' (HO482.out) (Kd.R_typed HO466.out) (by decide)) (Kd.R_typed HO470.out) (by decide)) BK476.out (by decide)) BK484.out (by decide)) BK495.out (by decide)) BK509.out (by decide)).1 k_ hs_.symm).1.1.1.1.1.2) (fun hs_ => ((Kd.R_types (Kd.R_types (Kd.R_types (Kd.R_types (Kd.R_apart' (Kd.R_apart' (Kd.R_apart' (HO470.out) (Kd.R_typed HO479.out) (by decide)) (Kd.R_typed HO482.out) (by decide)) (Kd.R_typed HO498.out) (by decide)) BK476.out (by decide)) BK484.out (by decide)) BK495.out (by decide)) BK509.out (by decide)).1 k_ hs_.symm).1.1.1.1.1.1.1)) (fun hn_ => (Kd.fresh' (Kd.R_lt (qr HO466)) k_ hn_)), Or.elim hk_.1 (fun hs_ => Or.elim hs_ (fun hs_ => ((Kd.R_types (Kd.R_types (Kd.R_types (Kd.R_types (Kd.R_apart' (Kd.R_apart' (HO482.out) (Kd.R_typed HO466.out) (by decide)) (Kd.R_typed HO470.out) (by decide)) BK476.out (by decide)) BK484.out (by decide)) BK495.out (by decide)) BK509.out (by decide)).1 k_ hs_.symm).1.1.1.1.1.1.1) (fun hs_ => ((Kd.R_types (Kd.R_types (Kd.R_types (Kd.R_types (Kd.R_apart' (Kd.R_apart' (Kd.R_apart' (HO470.out) (Kd.R_typed HO479.out) (by decide)) (Kd.R_typed HO482.out) (by decide)) (Kd.R_typed HO498.out) (by decide)) BK476.out (by decide)) BK484.out (by decide)) BK495.out (by decide)) BK509.out (by decide)).1 k_ hs_.symm).1.1.1.1.1.1.2)) (fun hn_ => (Kd.fresh' (Kd.R_lt (qr HO479)) k_ hn_)), Or.elim hk_.1 (fun hs_ => Or.elim hs_ (fun hs_ => ((Kd.R_types (Kd.R_types (Kd.R_types (Kd.R_types (Kd.R_apart' (Kd.R_apart' (HO482.out) (Kd.R_typed HO466.out) (by decide)) (Kd.R_typed HO470.out) (by decide)) BK476.out (by decide)) BK484.out (by decide)) BK495.out (by decide)) BK509.out (by decide)).1 k_ hs_.symm).1.1.1.1.1.1.2) (fun hs_ => ((Kd.R_types (Kd.R_types (Kd.R_types (Kd.R_types (Kd.R_apart' (Kd.R_apart' (Kd.R_apart' (HO470.out) (Kd.R_typed HO479.out) (by decide)) (Kd.R_typed HO482.out) (by decide)) (Kd.R_typed HO498.out) (by decide)) BK476.out (by decide)) BK484.out (by decide)) BK495.out (by decide)) BK509.out (by decide)).1 k_ hs_.symm).1.1.1.1.2)) (fun hn_ => (Kd.fresh' (Kd.R_lt (qr HO498)) k_ hn_)), Or.elim hk_.1 (fun hs_ => Or.elim hs_ (fun hs_ => ((Kd.R_types (Kd.R_types (Kd.R_types (Kd.R_types (Kd.R_apart' (Kd.R_apart' (HO482.out) (Kd.R_typed HO466.out) (by decide)) (Kd.R_typed HO470.out) (by decide)) BK476.out (by decide)) BK484.out (by decide)) BK495.out (by decide)) BK509.out (by decide)).1 k_ hs_.symm).1.1.1.2) (fun hs_ => ((Kd.R_types (Kd.R_types (Kd.R_types (Kd.R_types (Kd.R_apart' (Kd.R_apart' (Kd.R_apart' (HO470.out) (Kd.R_typed HO479.out) (by decide)) (Kd.R_typed HO482.out) (by decide)) (Kd.R_typed HO498.out) (by decide)) BK476.out (by decide)) BK484.out (by decide)) BK495.out (by decide)) BK509.out (by decide)).1 k_ hs_.symm).1.1.1.2)) (fun hn_ => (Kd.freshB (g := gb476) (o := .cells (#[.int .i64 t467, .slice Ao34 t468.length co34, .int .u64 t471] ++ ((Ar.cells .u8 32 t472) ++ #[.int .u64 t473, .int .u64 t474])) 39 (0, 0)) (qb BK476) k_ hn_)), Or.elim hk_.1 (fun hs_ => Or.elim hs_ (fun hs_ => ((Kd.R_types (Kd.R_types (Kd.R_types (Kd.R_types (Kd.R_apart' (Kd.R_apart' (HO482.out) (Kd.R_typed HO466.out) (by decide)) (Kd.R_typed HO470.out) (by decide)) BK476.out (by decide)) BK484.out (by decide)) BK495.out (by decide)) BK509.out (by decide)).1 k_ hs_.symm).1.1.2) (fun hs_ => ((Kd.R_types (Kd.R_types (Kd.R_types (Kd.R_types (Kd.R_apart' (Kd.R_apart' (Kd.R_apart' (HO470.out) (Kd.R_typed HO479.out) (by decide)) (Kd.R_typed HO482.out) (by decide)) (Kd.R_typed HO498.out) (by decide)) BK476.out (by decide)) BK484.out (by decide)) BK495.out (by decide)) BK509.out (by decide)).1 k_ hs_.symm).1.1.2)) (fun hn_ => (Kd.freshB (g := gb484) (o := .cells #[.slice Ao29 t480.length co29] 54 (0, 0)) (qb BK484) k_ hn_)), Or.elim hk_.1 (fun hs_ => Or.elim hs_ (fun hs_ => ((Kd.R_types (Kd.R_types (Kd.R_types (Kd.R_types (Kd.R_apart' (Kd.R_apart' (HO482.out) (Kd.R_typed HO466.out) (by decide)) (Kd.R_typed HO470.out) (by decide)) BK476.out (by decide)) BK484.out (by decide)) BK495.out (by decide)) BK509.out (by decide)).1 k_ hs_.symm).1.2) (fun hs_ => ((Kd.R_types (Kd.R_types (Kd.R_types (Kd.R_types (Kd.R_apart' (Kd.R_apart' (Kd.R_apart' (HO470.out) (Kd.R_typed HO479.out) (by decide)) (Kd.R_typed HO482.out) (by decide)) (Kd.R_typed HO498.out) (by decide)) BK476.out (by decide)) BK484.out (by decide)) BK495.out (by decide)) BK509.out (by decide)).1 k_ hs_.symm).1.2)) (fun hn_ => (Kd.freshB (g := gb495) (o := .cells (#[.int .i64 t486, v488, .int .u64 t490] ++ ((Ar.cells .u8 32 t491) ++ #[.int .u64 t492, .int .u64 t493])) 39 (0, 0)) (qb BK495) k_ hn_)), Or.elim hk_.1 (fun hs_ => Or.elim hs_ (fun hs_ => ((Kd.R_types (Kd.R_types (Kd.R_types (Kd.R_types (Kd.R_apart' (Kd.R_apart' (HO482.out) (Kd.R_typed HO466.out) (by decide)) (Kd.R_typed HO470.out) (by decide)) BK476.out (by decide)) BK484.out (by decide)) BK495.out (by decide)) BK509.out (by decide)).1 k_ hs_.symm).2) (fun hs_ => ((Kd.R_types (Kd.R_types (Kd.R_types (Kd.R_types (Kd.R_apart' (Kd.R_apart' (Kd.R_apart' (HO470.out) (Kd.R_typed HO479.out) (by decide)) (Kd.R_typed HO482.out) (by decide)) (Kd.R_typed HO498.out) (by decide)) BK476.out (by decide)) BK484.out (by decide)) BK495.out (by decide)) BK509.out (by decide)).1 k_ hs_.symm).2)) (fun hn_ => (Kd.freshB (g := gb509) (o := .cells (#[.int .i64 t500, v502, .int .u64 t504] ++ ((Ar.cells .u8 32 t505) ++ #[.int .u64 t506, .int .u64 t507])) 39 (0, 0)) (qb BK509) k_ hn_))⟩)) (below_size (qs HB))); replace HO466 := Aside0.mk (Kd.R_below (qr HO466) hb); replace HO470 := Aside0.mk (Kd.R_below (qr HO470) hb); replace HO479 := Aside0.mk (Kd.R_below (qr HO479) hb); replace HO482 := Aside0.mk (Kd.R_below (qr HO482) hb); replace HO498 := Aside0.mk (Kd.R_below (qr HO498) hb); replace BK476 := Aside0.mk (qB BK476 hb); replace BK484 := Aside0.mk (qB BK484 hb); replace BK495 := Aside0.mk (qB BK495 hb); replace BK509 := Aside0.mk (qB BK509 hb); replace HB := Aside0.mk (below_step (qs HB) hb); (try clear hb); (try clear hb2); (try clear hk); (try clear hi); (try clear ho0); (try clear ho1)) | ((with_reducible refine qd 12 ?_); (try (refine gate_guard (by rfl) ?_; dsimp only)); refine qF (N := 12) (cs := (#[.int .i64 0, .slice none 0 0, .int .u64 0] ++ ((Ar.cells .u8 32 (List.replicate 32 0)) ++ #[.int .u64 0, .int .u64 0]))) (t := 39) ?_; intro gb522 hg w48 hbox hb; replace HO466 := Aside0.mk (Kd.R_below (qr HO466) hb); replace HO470 := Aside0.mk (Kd.R_below (qr HO470) hb); replace HO479 := Aside0.mk (Kd.R_below (qr HO479) hb); replace HO482 := Aside0.mk (Kd.R_below (qr HO482) hb); replace HO489 := Aside0.mk (Kd.V_below (Kd.V_elderB (qv HO489) gb522 (Nat.le_of_eq hg.symm)) hb); replace HO498 := Aside0.mk (Kd.R_below (qr HO498) hb); replace HO503 := Aside0.mk (Kd.V_below (Kd.V_elderB (qv HO503) gb522 (Nat.le_of_eq hg.symm)) hb); replace HO512 := Aside0.mk (Kd.R_below (qr HO512) hb); replace HO516 := Aside0.mk (Kd.V_below (Kd.V_elderB (qv HO516) gb522 (Nat.le_of_eq hg.symm)) hb); have BK522 := Aside0.mk (hbox); have GW522 := Aside0.mk (qe HB hg); have GE522 := Aside0.mk (qe HB hg); replace HB := Aside0.mk (below_step (qs HB) hb); have NB476_522 := Aside0.mk (qu BK476 hg); have NB522_476 := Aside0.mk (qw BK476 hg); replace BK476 := Aside0.mk (qB BK476 hb); have NB484_522 := Aside0.mk (qu BK484 hg); have NB522_484 := Aside0.mk (qw BK484 hg); replace BK484 := Aside0.mk (qB BK484 hb); have NB495_522 := Aside0.mk (qu BK495 hg); have NB522_495 := Aside0.mk (qw BK495 hg); replace BK495 := Aside0.mk (qB BK495 hb); have NB509_522 := Aside0.mk (qu BK509 hg); have NB522_509 := Aside0.mk (qw BK509 hg); replace BK509 := Aside0.mk (qB BK509 hb); clear hb hbox hg) | ((with_reducible refine gate_store (t := 39) (p := 12) rfl ?_); refine Ar.gstore_event rfl rfl rfl (D := (#[.int .i64 t513, v515, .int .u64 t517] ++ ((Ar.cells .u8 32 t518) ++ #[.int .u64 t519, .int .u64 t520]))) qz (g := gb522) rfl qg (qb BK522) (by simp [Ar.cells_size]) (by repeat (first | (with_reducible refine Ar.all_app ?_ ?_) | (with_reducible exact Ar.cells_one _ _ _) | (focus (simp [Value.oneCell']; done)) | (focus (simp [(show (v515 : Value).oneCell' = true from by (have e_ := Kd.V_slice HO516.out; obtain ⟨_, _, e_⟩ := e_; rw [e_]; rfl))]; first | done | rfl | (repeat' constructor))) | rfl)) ?_; intro w49 hbk_ hg; replace HO466 := Aside0.mk (Kd.R_mono (Kd.R_grown (Kd.R_types (qr HO466) BK522.out (by decide)) hg (fun k_ hk_ e_ => hk_.2 (Option.some.inj e_))) (fun _ h_ => h_.1)); replace HO470 := Aside0.mk (Kd.R_mono (Kd.R_grown (Kd.R_types (qr HO470) BK522.out (by decide)) hg (fun k_ hk_ e_ => hk_.2 (Option.some.inj e_))) (fun _ h_ => h_.1)); replace BK476 := Aside0.mk (qG BK476 hg (fun e_ => NB476_522.out (Option.some.inj e_))); replace HO479 := Aside0.mk (Kd.R_mono (Kd.R_grown (Kd.R_types (qr HO479) BK522.out (by decide)) hg (fun k_ hk_ e_ => hk_.2 (Option.some.inj e_))) (fun _ h_ => h_.1)); replace HO482 := Aside0.mk (Kd.R_mono (Kd.R_grown (Kd.R_types (qr HO482) BK522.out (by decide)) hg (fun k_ hk_ e_ => hk_.2 (Option.some.inj e_))) (fun _ h_ => h_.1)); replace BK484 := Aside0.mk (qG BK484 hg (fun e_ => NB484_522.out (Option.some.inj e_))); replace HO489 := Aside0.mk (Kd.V_grown (qv HO489) hg (by intro k_ hk e_; exact (hk.2) (Option.some.inj e_))); replace BK495 := Aside0.mk (qG BK495 hg (fun e_ => NB495_522.out (Option.some.inj e_))); replace HO498 := Aside0.mk (Kd.R_mono (Kd.R_grown (Kd.R_types (qr HO498) BK522.out (by decide)) hg (fun k_ hk_ e_ => hk_.2 (Option.some.inj e_))) (fun _ h_ => h_.1)); replace HO503 := Aside0.mk (Kd.V_grown (qv HO503) hg (by intro k_ hk e_; exact (hk.2) (Option.some.inj e_))); replace BK509 := Aside0.mk (qG BK509 hg (fun e_ => NB509_522.out (Option.some.inj e_))); replace HO512 := Aside0.mk (Kd.R_mono (Kd.R_grown (Kd.R_types (qr HO512) BK522.out (by decide)) hg (fun k_ hk_ e_ => hk_.2 (Option.some.inj e_))) (fun _ h_ => h_.1)); replace HO516 := Aside0.mk (Kd.V_grown (qv HO516) hg (by intro k_ hk e_; exact (hk.2) (Option.some.inj e_))); replace BK522 := Aside0.mk (hbk_); replace HB := Aside0.mk (Below.grown (qs HB) hg ((below_size (qs HB))) (fun _ e_ => by cases e_; exact GE522.out)); clear hbk_ hg) | ((with_reducible refine qd 48 ?_); (try (refine gate_guard (by rfl) ?_; dsimp only)); refine Kd.R_lit (Kd.int .u64) _ 24 ?hg (N := 48) ?hd (xs := ([3, 0, 2] : List Int)) (inner := [.int .u64 3, .int .u64 0, .int .u64 2]) (ok := fun _ => True) (okp := fun _ => True) ?hr ?hp (fun _ hk => hk) trivial (Below.refl _ _) (Nat.le_refl _) (by simp) ?_; (case hd => rfl); (case hg => rfl); (case hr => first | (go_simp; done) | (go_simp; rfl)); (case hp => exact (Reps.one (show Kd.M (Kd.int .u64) _ _ _ 3 [.int .u64 3] from rfl) (Reps.one (show Kd.M (Kd.int .u64) _ _ _ 0 [.int .u64 0] from rfl) (Reps.one (show Kd.M (Kd.int .u64) _ _ _ 2 [.int .u64 2] from rfl) (Reps.none _ _))))); intro v524 w50 ho51 hb hg_ hnew_; clear hg_ hnew_; (first | rw [← Ny523.out] at ho51 | (simp only [Int.reduceToNat] at ho51; rw [← Ny523.out] at ho51)); replace HO466 := Aside0.mk (Kd.R_below (qr HO466) hb); replace HO470 := Aside0.mk (Kd.R_below (qr HO470) hb); replace HO489 := Aside0.mk (Kd.V_elder' (qv HO489) (Kd.R_base ho51) hb); replace HO503 := Aside0.mk (Kd.V_elder' (qv HO503) (Kd.R_base ho51) hb); replace HO512 := Aside0.mk (Kd.R_below (qr HO512) hb); replace HO516 := Aside0.mk (Kd.V_elder' (qv HO516) (Kd.R_base ho51) hb); have HO525 := Aside0.mk (Kd.R_lower (Kd.R_new' (Kd.R_new' (Kd.R_new' ho51 (Kd.R_lt (qr HO479))) (Kd.R_lt (qr HO482))) (Kd.R_lt (qr HO498))) (below_size (qs HB))); replace HO479 := Aside0.mk (Kd.R_elder' (qr HO479) (Kd.R_base ho51) hb); replace HO482 := Aside0.mk (Kd.R_elder' (qr HO482) (Kd.R_base ho51) hb); replace HO498 := Aside0.mk (Kd.R_elder' (qr HO498) (Kd.R_base ho51) hb); replace BK476 := Aside0.mk (qB BK476 hb); replace BK484 := Aside0.mk (qB BK484 hb); replace BK495 := Aside0.mk (qB BK495 hb); replace BK509 := Aside0.mk (qB BK509 hb); replace BK522 := Aside0.mk (qB BK522 hb); replace HB := Aside0.mk (below_step (qs HB) hb); clear hb ho51; obtain ⟨Ao52, co52, eo52⟩ := Kd.R_slice HO525.out; subst eo52) | ((with_reducible refine gate_callee (f := 19) rfl ?_); refine goesL_ (some 49) rfl rfl Tryz.func19 (by kernel_rfl) rfl #[.int .i64 0, .int .i64 2, .slice Ao52 y523.length co52] rfl ql ?_; (with_reducible refine (odds_Lead.calls k 0 2 _ _ y523 t526 t529 _ ?side1 ?side2 A6.out).mono ?_); (case side1 => repeat (first | exact (Kd.R_reads' HO525.out).2.2 | (with_reducible refine Kd.C_alloc ?_ _) | (with_reducible refine Kd.C_drewN ?_ _) | (with_reducible refine Kd.C_drew ?_))); (case side2 => exact (Kd.R_reads' HO525.out).2.1); rintro e w53 ⟨v527, rfl, ho0, hb⟩; refine ⟨_, rfl, ?_⟩; replace HO489 := Aside0.mk (Kd.V_below (qv HO489) hb); replace HO503 := Aside0.mk (Kd.V_below (qv HO503) hb); replace HO516 := Aside0.mk (Kd.V_below (qv HO516) hb); have HO528 := Aside0.mk (Kd.V_lower (Kd.V_mono (ok' := fun k_ => some k_ ≠ (.slice Ao20 y464.length co20 : Value).ownBlock ∧ some k_ ≠ (.slice Ao34 t468.length co34 : Value).ownBlock ∧ some k_ ≠ (.slice Ao26 y477.length co26 : Value).ownBlock ∧ some k_ ≠ (.slice Ao29 t480.length co29 : Value).ownBlock ∧ some k_ ≠ (.slice Ao40 y496.length co40 : Value).ownBlock ∧ some k_ ≠ (v511 : Value).ownBlock ∧ some k_ ≠ (.slice Ao52 y523.length co52 : Value).ownBlock ∧ k_ ≠ gb476 ∧ k_ ≠ gb484 ∧ k_ ≠ gb495 ∧ k_ ≠ gb509 ∧ k_ ≠ gb522) ho0 (fun k_ hk_ => ⟨(Kd.fresh' (Kd.R_lt (qr HO466)) k_ hk_), (Kd.fresh' (Kd.R_lt (qr HO470)) k_ hk_), (Kd.fresh' (Kd.R_lt (qr HO479)) k_ hk_), (Kd.fresh' (Kd.R_lt (qr HO482)) k_ hk_), (Kd.fresh' (Kd.R_lt (qr HO498)) k_ hk_), (Kd.fresh' (Kd.R_lt (qr HO512)) k_ hk_), (Kd.fresh' (Kd.R_lt (qr HO525)) k_ hk_), (Kd.freshB (g := gb476) (o := .cells (#[.int .i64 t467, .slice Ao34 t468.length co34, .int .u64 t471] ++ ((Ar.cells .u8 32 t472) ++ #[.int .u64 t473, .int .u64 t474])) 39 (0, 0)) (qb BK476) k_ hk_), (Kd.freshB (g := gb484) (o := .cells #[.slice Ao29 t480.length co29] 54 (0, 0)) (qb BK484) k_ hk_), (Kd.freshB (g := gb495) (o := .cells (#[.int .i64 t486, v488, .int .u64 t490] ++ ((Ar.cells .u8 32 t491) ++ #[.int .u64 t492, .int .u64 t493])) 39 (0, 0)) (qb BK495) k_ hk_), (Kd.freshB (g := gb509) (o := .cells (#[.int .i64 t500, v502, .int .u64 t504] ++ ((Ar.cells .u8 32 t505) ++ #[.int .u64 t506, .int .u64 t507])) 39 (0, 0)) (qb BK509) k_ hk_), (Kd.freshB (g := gb522) (o := .cells (#[.int .i64 t513, v515, .int .u64 t517] ++ ((Ar.cells .u8 32 t518) ++ #[.int .u64 t519, .int .u64 t520])) 39 (0, 0)) (qb BK522) k_ hk_)⟩)) (below_size (qs HB))); replace HO466 := Aside0.mk (Kd.R_below (qr HO466) hb); replace HO470 := Aside0.mk (Kd.R_below (qr HO470) hb); replace HO479 := Aside0.mk (Kd.R_below (qr HO479) hb); replace HO482 := Aside0.mk (Kd.R_below (qr HO482) hb); replace HO498 := Aside0.mk (Kd.R_below (qr HO498) hb); replace HO512 := Aside0.mk (Kd.R_below (qr HO512) hb); replace HO525 := Aside0.mk (Kd.R_below (qr HO525) hb); replace BK476 := Aside0.mk (qB BK476 hb); replace BK484 := Aside0.mk (qB BK484 hb); replace BK495 := Aside0.mk (qB BK495 hb); replace BK509 := Aside0.mk (qB BK509 hb); replace BK522 := Aside0.mk (qB BK522 hb); replace HB := Aside0.mk (below_step (qs HB) hb); (try clear hb); (try clear hb2); (try clear hk); (try clear hi); (try clear ho0); have hnb54 := NB509_476.out; have hnc54 := NB476_509.out; have hnb55 := NB509_495.out; have hnc55 := NB495_509.out; have hnb56 := NB509_522.out; have hnc56 := NB522_509.out; have hcz57_0 : w53.cell? ⟨gb509, 0, none⟩ = some (.int .i64 t500) := (blk_cell BK509.out 0).trans qc; have hcz57_1 : w53.cell? ⟨gb509, 1, none⟩ = some (v502) := (blk_cell BK509.out 1).trans qc; have hcz57_2 : w53.cell? ⟨gb509, 2, none⟩ = some (.int .u64 t504) := (blk_cell BK509.out 2).trans qc; have hcz57_4 : w53.cell? ⟨gb509, 35, none⟩ = some (.int .u64 t506) := (blk_cell BK509.out 35).trans qc; have hcz57_5 : w53.cell? ⟨gb509, 36, none⟩ = some (.int .u64 t507) := (blk_cell BK509.out 36).trans qc) | ((with_reducible refine qd 85 ?_); (try (refine gate_guard (by rfl) ?_; dsimp only)); refine Kd.R_lit (Kd.int .i64) _ 3 ?hg (N := 85) ?hd (xs := ([2, 0] : List Int)) (inner := [.int .i64 2, .int .i64 0]) (ok := fun _ => True) (okp := fun _ => True) ?hr ?hp (fun _ hk => hk) trivial (Below.refl _ _) (Nat.le_refl _) (by simp) ?_; (case hd => rfl); (case hg => rfl); (case hr => first | (go_simp; done) | (go_simp; rfl)); (case hp => exact (Reps.one (show Kd.M (Kd.int .i64) _ _ _ 2 [.int .i64 2] from rfl) (Reps.one (show Kd.M (Kd.int .i64) _ _ _ 0 [.int .i64 0] from rfl) (Reps.none _ _)))); intro v531 w58 ho59 hb hg_ hnew_; clear hg_ hnew_; (first | rw [← Ny530.out] at ho59 | (simp only [Int.reduceToNat] at ho59; rw [← Ny530.out] at ho59)); replace HO466 := Aside0.mk (Kd.R_below (qr HO466) hb); replace HO470 := Aside0.mk (Kd.R_below (qr HO470) hb); replace HO479 := Aside0.mk (Kd.R_below (qr HO479) hb); replace HO482 := Aside0.mk (Kd.R_below (qr HO482) hb); replace HO489 := Aside0.mk (Kd.V_elder' (qv HO489) (Kd.R_base ho59) hb); replace HO498 := Aside0.mk (Kd.R_below (qr HO498) hb); replace HO503 := Aside0.mk (Kd.V_elder' (qv HO503) (Kd.R_base ho59) hb); replace HO516 := Aside0.mk (Kd.V_elder' (qv HO516) (Kd.R_base ho59) hb); replace HO525 := Aside0.mk (Kd.R_below (qr HO525) hb); replace HO528 := Aside0.mk (Kd.V_elder' (qv HO528) (Kd.R_base ho59) hb); have HO532 := Aside0.mk (Kd.R_lower (Kd.R_new' ho59 (Kd.R_lt (qr HO512))) (below_size (qs HB))); replace HO512 := Aside0.mk (Kd.R_elder' (qr HO512) (Kd.R_base ho59) hb); replace BK476 := Aside0.mk (qB BK476 hb); replace BK484 := Aside0.mk (qB BK484 hb); replace BK495 := Aside0.mk (qB BK495 hb); replace BK509 := Aside0.mk (qB BK509 hb); replace BK522 := Aside0.mk (qB BK522 hb); replace HB := Aside0.mk (below_step (qs HB) hb); clear hb ho59; obtain ⟨Ao60, co60, eo60⟩ := Kd.R_slice HO512.out; subst eo60; obtain ⟨Ao61, co61, eo61⟩ := Kd.R_slice HO532.out; subst eo61) | (go_at_call 40; (with_reducible refine (drawlotref17_Same.calls k _ _ t510 _ _ y530 true _ ?side1 ?side2 ?side3 ?side4 A15.out).mono ?_); (case side1 => repeat (first | exact (Kd.R_reads' HO512.out).2.2 | (with_reducible refine Kd.C_alloc ?_ _) | (with_reducible refine Kd.C_drewN ?_ _) | (with_reducible refine Kd.C_drew ?_))); (case side2 => exact (Kd.R_reads' HO512.out).2.1); (case side3 => repeat (first | exact (Kd.R_reads' HO532.out).2.2 | (with_reducible refine Kd.C_alloc ?_ _) | (with_reducible refine Kd.C_drewN ?_ _) | (with_reducible refine Kd.C_drew ?_))); (case side4 => exact (Kd.R_reads' HO532.out).2.1); rintro e w' ⟨rfl, ⟨nd, rfl⟩⟩) | ((with_reducible refine qd 90 ?_); (try (refine gate_guard (by rfl) ?_; dsimp only)); refine Kd.R_lit (Kd.int .u32) _ 89 ?hg (N := 90) ?hd (xs := ([33] : List Int)) (inner := [.int .u32 33]) (ok := fun _ => True) (okp := fun _ => True) ?hr ?hp (fun _ hk => hk) trivial (Below.refl _ _) (Nat.le_refl _) (by simp) ?_; (case hd => rfl); (case hg => rfl); (case hr => first | (go_simp; done) | (go_simp; rfl)); (case hp => exact (Reps.one (show Kd.M (Kd.int .u32) _ _ _ 33 [.int .u32 33] from rfl) (Reps.none _ _))); intro v535 w62 ho63 hb hg_ hnew_; clear hg_ hnew_; (first | rw [← Ny534.out] at ho63 | (simp only [Int.reduceToNat] at ho63; rw [← Ny534.out] at ho63)); replace HO466 := Aside0.mk (Kd.R_below (qr HO466) hb); replace HO470 := Aside0.mk (Kd.R_below (qr HO470) hb); replace HO479 := Aside0.mk (Kd.R_below (qr HO479) hb); replace HO482 := Aside0.mk (Kd.R_below (qr HO482) hb); replace HO489 := Aside0.mk (Kd.V_elder' (qv HO489) (Kd.R_base ho63) hb); replace HO498 := Aside0.mk (Kd.R_below (qr HO498) hb); replace HO503 := Aside0.mk (Kd.V_elder' (qv HO503) (Kd.R_base ho63) hb); replace HO512 := Aside0.mk (Kd.R_below (qr HO512) hb); replace HO516 := Aside0.mk (Kd.V_elder' (qv HO516) (Kd.R_base ho63) hb); replace HO525 := Aside0.mk (Kd.R_below (qr HO525) hb); replace HO528 := Aside0.mk (Kd.V_elder' (qv HO528) (Kd.R_base ho63) hb); replace HO532 := Aside0.mk (Kd.R_below (qr HO532) hb); have HO536 := Aside0.mk (Kd.R_lower ho63 (below_size (qs HB))); replace BK476 := Aside0.mk (qB BK476 hb); replace BK484 := Aside0.mk (qB BK484 hb); replace BK495 := Aside0.mk (qB BK495 hb); replace BK509 := Aside0.mk (qB BK509 hb); replace BK522 := Aside0.mk (qB BK522 hb); replace HB := Aside0.mk (below_step (qs HB) hb); clear hb ho63; obtain ⟨Ao64, co64, eo64⟩ := Kd.V_slice HO528.out; subst eo64; obtain ⟨Ao65, co65, eo65⟩ := Kd.R_slice HO536.out; subst eo65) | (go_at_call 17; (with_reducible refine (drawlotref10_Same.calls k _ _ t526 _ _ y534 t537 _ ?side1 ?side2 ?side3 ?side4 A17.out).mono ?_); (case side1 => repeat (first | exact (Kd.V_reads' HO528.out).2.2 | (with_reducible refine Kd.C_alloc ?_ _) | (with_reducible refine Kd.C_drewN ?_ _) | (with_reducible refine Kd.C_drew ?_))); (case side2 => exact (Kd.V_reads' HO528.out).2.1); (case side3 => repeat (first | exact (Kd.R_reads' HO536.out).2.2 | (with_reducible refine Kd.C_alloc ?_ _) | (with_reducible refine Kd.C_drewN ?_ _) | (with_reducible refine Kd.C_drew ?_))); (case side4 => exact (Kd.R_reads' HO536.out).2.1); rintro e w' ⟨rfl, ⟨nd, rfl⟩⟩))
          go_ret
          exact ⟨by first | rfl | (simp [errW_none, errW_some] <;> rfl) | (simp [*, errW_none, errW_some] <;> rfl), (qs HB)⟩
         ·replace c16 := Bool.eq_false_iff.mpr c16
          subst c16
          have H1 : (none) = some r := by rw [if_neg (show ¬ (false = true) by decide)] at H; exact H
          clear H
          have H := H1
          clear H1
          exact absurd H (by simp)
        ·rw [if_neg c14] at H
         exact absurd H (by simp)
       ·rw [if_neg c13] at H
        exact absurd H (by simp)
      ·rw [if_neg c12] at H
       exact absurd H (by simp)
     ·rw [if_neg c11] at H
      exact absurd H (by simp)
    ·rw [if_neg c10] at H
     exact absurd H (by simp)
   ·rw [if_neg c9] at H
    exact absurd H (by simp)
  ·rw [if_neg c8] at H
   exact absurd H (by simp)
 ·rw [if_neg c7] at H
  exact absurd H (by simp)
end Go.Proofs.YtekmngghebpciaaGreat.PW
end
section
namespace Go.Proofs.YtekmngghebpciaaGreat.PW
open Go.RowKit Go.Proofs.YtekmngghebpciaaGreatW.PrintWords Go.Proofs.YtekmngghebpciaaGreatW.PrintLast Go.Proofs.YtekmngghebpciaaGreatW.PrintMore
attribute [local go_sem] max2_int min2_int max_two min_two max_three min_three max_four min_four
set_option linter.unusedVariables false
set_option linter.unusedSimpArgs false
def drawlottop_small.l0 : Nat → List Int → Int → List Int → Int → Int → Option (List Int × Int)
 | 0, _, _, _, _, _ => none
 | k + 1, x0, x1, x6, x7, x8 => if x8 < (x0.length : Int) then (if 0 ≤ x8 then (if x1 = 0 then (none) else (if x6.length < 17592186044416 then (drawlottop_small.l0 k x0 x1 (x6 ++ [Int.tmod (rd x0 x8) x1]) (IntKind.u64.wrap (x7 + (Int.tmod (rd x0 x8) x1))) (wrap64 (x8 + 1))) else (none))) else (none)) else (some (x6, x7))
def drawlottop_small.f (k : Nat) (l0 : List Int) (a1 : Int) : Option (List Int × Int) := drawlottop_small.l0 k l0 a1 ([] : List Int) 0 0
theorem drawlottop_small.mono_l : ∀ k, (∀ y0 y1 y2 y3 y4, LeO (drawlottop_small.l0 k y0 y1 y2 y3 y4) (drawlottop_small.l0 (k + 1) y0 y1 y2 y3 y4))
 | 0 => fun _ _ _ _ _ r h => by simp [drawlottop_small.l0] at h
 | k + 1 => by
  have ih0 := drawlottop_small.mono_l k
  ·intro y0 y1 y2 y3 y4
   unfold drawlottop_small.l0
   repeat' first
   | (with_reducible exact ih0 _ _ _ _ _)
   | (with_reducible exact LeO.refl _)
   | (with_reducible exact LeO.none _)
   | (with_reducible refine LeO.ite ?_ ?_)
   | (with_reducible refine LeO.bind ?_ (fun _ => ?_))
   | exact ih0 _ _ _ _ _
   | exact LeO.none _
   | refine LeO.ite ?_ ?_
   | refine LeO.bind ?_ (fun _ => ?_)
theorem drawlottop_small.mono : ∀ a0 a1 k, LeO (drawlottop_small.f k a0 a1) (drawlottop_small.f (k + 1) a0 a1) := by
 intro a0 a1 k
 have ih0 := drawlottop_small.mono_l k
 unfold drawlottop_small.f
 repeat' first
   | (with_reducible exact ih0 _ _ _ _ _)
   | (with_reducible exact LeO.refl _)
   | (with_reducible exact LeO.none _)
   | (with_reducible refine LeO.ite ?_ ?_)
   | (with_reducible refine LeO.bind ?_ (fun _ => ?_))
   | exact ih0 _ _ _ _ _
   | exact LeO.none _
   | refine LeO.ite ?_ ?_
   | refine LeO.bind ?_ (fun _ => ?_)
def drawlottop_small.T6 : Bool × List (List Nat × List Nat) := (true, [([], []), ([], []), ([], []), ([1, 2], [1, 2]), ([3], [3]), ([], []), ([4, 5], [4, 5]), ([6], [6]), ([0, 7], [0, 7]), ([], []), ([], []), ([], []), ([10, 11], [10, 11]), ([12], [12]), ([], []), ([13, 14], [13, 14]), ([9, 15], [9, 15]), ([8, 8, 0, 1, 2, 3, 4, 5, 6, 7, 8], [0, 8]), ([16, 17, 0, 1, 2, 3, 4, 5, 6, 7, 8, 9, 10, 11, 12, 13, 14, 15, 16, 17], [9, 16])])
def drawlottop_small.B6 : List Nat := [0, 0, 0, 6, 14, 0, 62, 126, 255, 0, 0, 0, 3072, 7168, 0, 31744, 65024, 511, 262143]
theorem drawlottop_small.tab6 : rtab .any (opsOf Tryz.f10 6) = drawlottop_small.T6 := by kernel_rfl
theorem drawlottop_small.bits6 : waitsOk drawlottop_small.T6.2 drawlottop_small.B6 = true := by kernel_rfl
set_option maxHeartbeats 8000000 in
set_option maxRecDepth 100000 in
theorem drawlottop_small.calls (k : Nat) (A0 : Option Addr) (c0 : Nat) (l0 : List Int) (a1 : Int) (r1 : List Int) (r2 : Int) (w : World) (hr0 : Kd.C (Kd.int .u64) w A0 l0.length l0) (hc0 : l0.length ≤ c0) (h : drawlottop_small.f k l0 a1 = some (r1, r2)) :
  Calls Tryz.prog 10 #[.slice A0 l0.length c0, .int .u64 a1] w fun e w' => ∃ v0_ : Value, e = .returned (.tuple #[v0_, .int .u64 r2]) ∧ Kd.R (Kd.int .u64) 24 w' w.heap.size (fun _ => True) v0_ r1 ∧ Below w.heap.size w w' := by
 have HR0 := Aside0.mk hr0
 have HC0 := Aside0.mk hc0
 clear hr0 hc0
 have HB := Aside0.mk (Below.refl w.heap.size w)
 have H : (drawlottop_small.l0 k l0 a1 ([] : List Int) 0 0) = some (r1, r2) := h
 clear h
 have H' := Aside0.mk H
 clear H
 go_enter Tryz.func10, Tryz.ntmps10
 go_wp2
 go_loopg [6, 7, 8] k (fun kq v6 v7 v8 w' => ∃ (x6_1 : List Int) (x7_1 : Int) (x8_1 : Int), v7 = .int .u64 x7_1 ∧ v8 = .int .i64 x8_1 ∧ Aside0 (drawlottop_small.l0 kq l0 a1 x6_1 x7_1 x8_1 = some (r1, r2)) ∧ Aside0 (kq ≤ k) ∧ Aside0 (Kd.R (Kd.int .u64) 24 w' w.heap.size (fun _ => True) v6 x6_1) ∧ Aside0 (Below w.heap.size w w'))
 case atStart => exact ⟨(([] : List Int)), (0), (0), (by first | rfl | (simp; done) | (simp [*]; done)), (by first | rfl | (simp; done) | (simp [*]; done)), H', ⟨Nat.le_refl _⟩, ⟨by first | exact Kd.R_nil _ _ _ _ _ | exact Kd.N_nil _ _ _ _ _ | exact Kd.V_nil _ _ _ _ _ | exact Kd.Q_nil _ _ _ _ _ | exact Kd.S_nil _ _ _ _ _⟩, ⟨(qs HB)⟩⟩
 case round =>
  clear H'
  try clear c1
  try clear p2
  obtain ⟨x6_1, x7_1, x8_1, rfl, rfl, HA, HK1, HO_6, HB⟩ := hrel
  cases gk with
  | zero => exact absurd HA.out (by simp [drawlottop_small.l0])
  | succ k1 =>
   have H := HA.out
   clear HA
   simp only [drawlottop_small.l0] at H
   by_cases c3 : x8_1 < (l0.length : Int)
   ·rw [if_pos c3] at H
    have c3b0 : decide (x8_1 < (l0.length : Int)) = true := decide_eq_true c3
    clear c3
    by_cases c4 : 0 ≤ x8_1
    ·rw [if_pos c4] at H
     have c4b0 : decide (0 ≤ x8_1) = true := decide_eq_true c4
     clear c4
     by_cases c5 : a1 = 0
     ·rw [if_pos c5] at H
      exact absurd H (by simp)
     ·rw [if_neg c5] at H
      have c5b0 : (a1 == 0) = false := beq_eq_false_iff_ne.mpr c5
      have c5b1 : (a1 != 0) = true := bne_iff_ne.mpr c5
      by_cases c6 : x6_1.length < 17592186044416
      ·rw [if_pos c6] at H
       have LMc6 := Aside0.mk c6
       clear c6
       obtain ⟨y539, hy539⟩ : ∃ y_ : List Int, y_ = (x6_1 ++ [Int.tmod (rd l0 x8_1) a1]) := ⟨_, rfl⟩
       replace H : (drawlottop_small.l0 k1 l0 a1 y539 (IntKind.u64.wrap (x7_1 + (Int.tmod (rd l0 x8_1) a1))) (wrap64 (x8_1 + 1))) = some (r1, r2) := by first | (rw [hy539]; with_reducible exact H) | (have H2_ := (Option.bind_some _ _).symm.trans H; rw [hy539]; with_reducible exact H2_) | (have H2_ := (Option.bind_some _ _).symm.trans H; with_reducible exact H2_) | with_reducible exact H | (rw [hy539]; exact H) | exact H
       have Ny539 := Aside0.mk hy539
       clear hy539
       have H' := Aside0.mk H
       clear H
       try go_wp2
       replace HO_6 := Aside0.mk (Kd.R_drew HO_6.out)
       replace HB := Aside0.mk (below_drew1 HB.out)
       have p538 : 0 ≤ (x8_1 : Int) := of_decide_eq_true qa
       have q538 : x8_1 < (l0.length : Int) := of_decide_eq_true qa
       obtain ⟨ad538, e538, hx538_0⟩ := Kd.at_int HR0.out x8_1 p538 q538
       have hw538_0 := hx538_0
       cases e538
       replace hx538_0 := (HB.out.cell (World.block_lt_of_cell? w _ hx538_0)).trans hx538_0
       replace p538 := eq_true p538
       replace q538 := eq_true q538
       have p542 : 0 ≤ (x8_1 : Int) := of_decide_eq_true qa
       have q542 : x8_1 < (l0.length : Int) := of_decide_eq_true qa
       obtain ⟨ad542, e542, hx542_0⟩ := Kd.at_int HR0.out x8_1 p542 q542
       have hw542_0 := hx542_0
       obtain rfl : ad538 = ad542 := (by injection e542)
       replace hx542_0 := (HB.out.cell (World.block_lt_of_cell? w _ hx542_0)).trans hx542_0
       replace p542 := eq_true p542
       replace q542 := eq_true q542
       refine start_ (n := 19) (S := fun w' => w'.cell? (ad538.add (x8_1).toNat) = some (.int .u64 (rd l0 x8_1)) ∧ w'.cell? (ad538.add (x8_1).toNat) = some (.int .u64 (rd l0 x8_1))) (ds := []) #[false, false, false, false, false, false, false, false, false, false, false, false, false, false, false, false, false, false, false] (by kernel_rfl) rfl rfl ⟨((HB.out.cell (World.block_lt_of_cell? w _ hw538_0)).trans hw538_0), ((HB.out.cell (World.block_lt_of_cell? w _ hw542_0)).trans hw542_0)⟩ (fun hHeld => ?_); refine with_tabW drawlottop_small.tab6 drawlottop_small.bits6 (fun HT_ HW_ => ?_)
       generalize wr.drew = w7 at HO_6 HB hx538_0 hx542_0 hHeld ⊢
       refine qQ 0 (some 15) (qt 19 1) (any_of HT_.out (by kernel_rfl)) ?_
       refine qQ 1 (some 16) (qt 19 3) (any_of HT_.out (by kernel_rfl)) ?_
       refine qQ 2 (some 17) (qt 19 7) (any_of HT_.out (by kernel_rfl)) ?_
       refine qQ 3 (some 18) (qt 19 15) (any_of HT_.out (by kernel_rfl)) ?_
       refine qQ 5 (some 20) (qt 19 47) (any_of HT_.out (by kernel_rfl)) ?_
       refine qQ 9 (some 24) (qt 19 559) (any_of HT_.out (by kernel_rfl)) ?_
       refine qQ 10 (some 25) (qt 19 1583) (any_of HT_.out (by kernel_rfl)) ?_
       refine qQ 11 (some 26) (qt 19 3631) (any_of HT_.out (by kernel_rfl)) ?_
       refine qQ 12 (some 27) (qt 19 7727) (any_of HT_.out (by kernel_rfl)) ?_
       refine qQ 14 (some 29) (qt 19 24111) (any_of HT_.out (by kernel_rfl)) ?_
       refine take_ (i := 4) (N := some 19) (v := ?_) (a' := ?_) (qt 19 24127) rfl rfl (take_ofW HT_.out HW_.out (by kernel_rfl)) (fun _ _ _ h => h) (Or.inl ⟨by rfl, ?_⟩) hHeld ?_ ?_
       rotate_left
       ·rintro w' ⟨s0, s1⟩
        go_simp
        with_reducible rfl
       rotate_left
       ·simp only [Act.put, zA_, zB_, zC_, i64_w, i32_w]
        rfl
       refine qQ 6 (some 21) (qt 19 24191) (any_of HT_.out (by kernel_rfl)) ?_
       refine take_ (i := 13) (N := some 28) (v := ?_) (a' := ?_) (qt 19 32383) rfl rfl (take_ofW HT_.out HW_.out (by kernel_rfl)) (fun _ _ _ h => h) (Or.inl ⟨by rfl, ?_⟩) hHeld ?_ ?_
       rotate_left
       ·rintro w' ⟨s0, s1⟩
        go_simp
        with_reducible rfl
       rotate_left
       ·simp only [Act.put, zA_, zB_, zC_, i64_w, i32_w]
        rfl
       refine qQ 15 (some 30) (qt 19 65151) (any_of HT_.out (by kernel_rfl)) ?_
       refine qQ 16 (some 31) (qt 19 130687) (any_of HT_.out (by kernel_rfl)) ?_
       refine one_ (i := 7) (N := some 22) (qt 19 130815) rfl rfl (one_of HT_.out (by kernel_rfl)) (by decide) (fun K hK => ?_)
       refine value_ (w1 := ?_) (v := ?_) (by rfl) rfl ?_ ?_
       rotate_left 2
       ·go_simp
        constructor
        ·rfl
        ·rfl
       refine hK.out _ _ ⟨(World.cell?_alloc_lt _ _ _ (World.block_lt_of_cell? _ _ (((HB.out.cell (World.block_lt_of_cell? w _ hw538_0)).trans hw538_0)))).trans (((HB.out.cell (World.block_lt_of_cell? w _ hw538_0)).trans hw538_0)), (World.cell?_alloc_lt _ _ _ (World.block_lt_of_cell? _ _ (((HB.out.cell (World.block_lt_of_cell? w _ hw542_0)).trans hw542_0)))).trans (((HB.out.cell (World.block_lt_of_cell? w _ hw542_0)).trans hw542_0))⟩ (fun hHeld => ?_)
       clear hK K
       refine norm_ (a' := ?_) ?_ ?_
       rotate_left
       ·show Act.put _ (some 22) _ = _
        simp only [Act.put, zA_, zB_, zC_, i64_w, i32_w]
        rfl
       refine one_ (i := 8) (N := some 23) (qt 19 131071) rfl rfl (one_of HT_.out (by kernel_rfl)) (by decide) (fun K hK => ?_)
       refine Kd.R_append_step (Kd.int .u64) (w0 := w) w.heap.size (by rfl) (.tmp 15) (.tmp 22) 22 24 (.int .u64 0) 8 rfl Tryz.underlying22 info24 rfl (by decide) (by omega) u6 x6_1 (Int.tmod (rd l0 x8_1) a1) [.int .u64 (Int.tmod (rd l0 x8_1) a1)] (fun _ => True) (fun _ => False) rfl rfl ?aP (fun _ hk => hk.elim) ?aF ?aO ?aB ?aS ?aL ?_
       (case aP => exact rfl)
       (case aB => exact (qs HB))
       (case aF => exact (fun _ _ => trivial))
       (case aO => exact (qr HO_6))
       (case aS => exact (below_size (qs HB)))
       (case aL => have := LMc6.out; omega)
       intro v540 w8 ho hb hg hat
       rw [← Ny539.out] at ho
       replace HB := Aside0.mk (hb)
       have HO541 := Aside0.mk (ho)
       clear HO_6 ho hb hg hat
       refine hK.out _ _ ⟨((HB.out.cell (World.block_lt_of_cell? w _ hw538_0)).trans hw538_0), ((HB.out.cell (World.block_lt_of_cell? w _ hw542_0)).trans hw542_0)⟩ (fun hHeld => ?_)
       clear hK K
       refine norm_ (a' := ?_) ?_ ?_
       rotate_left
       ·show Act.put _ (some 23) _ = _
        simp only [Act.put, zA_, zB_, zC_, i64_w, i32_w]
        rfl
       refine qQ 17 (some 6) (qt 19 262143) (any_of HT_.out (by kernel_rfl)) ?_
       refine qQ 18 (some 7) (qt 19 524287) (any_of HT_.out (by kernel_rfl)) ?_
       refine done_ (done_of HT_.out (by kernel_rfl)) ?_
       try go_wp2
       go_roundg k1
       case measure => have := HK1.out; omega
       case rel => exact ⟨(y539), (IntKind.u64.wrap (x7_1 + (Int.tmod (rd l0 x8_1) a1))), (wrap64 (x8_1 + 1)), (by first | rfl | (simp; done) | (simp [*]; done)), (by first | rfl | (simp; done) | (simp [*]; done)), H', ⟨by have := HK1.out; omega⟩, ⟨(qr HO541)⟩, ⟨(qs HB)⟩⟩
      ·rw [if_neg c6] at H
       exact absurd H (by simp)
    ·rw [if_neg c4] at H
     exact absurd H (by simp)
   ·rw [if_neg c3] at H
    have c3b0 : decide (x8_1 < (l0.length : Int)) = false := decide_eq_false c3
    clear c3
    simp only [Option.some.injEq, Prod.mk.injEq] at H
    obtain ⟨rfl, rfl⟩ := H
    go_wp2
    go_ret2
    exact ⟨_, by first | rfl | (simp [errW_none, errW_some] <;> rfl) | (simp [*, errW_none, errW_some] <;> rfl), (qr HO_6), (qs HB)⟩
def scan_Total.f (k : Nat) (l0 : List Int) : Option (Int × Int) := (safe_Total.f k l0).bind fun bt543 => (if bt543.2 = true then (some (bt543.1, 0)) else (some (0, 11)))
theorem scan_Total.mono : ∀ a0 k, LeO (scan_Total.f k a0) (scan_Total.f (k + 1) a0) := by
  intro a0 k
  unfold scan_Total.f
  repeat' first
      | (with_reducible exact safe_Total.mono _ _)
      | (with_reducible exact LeO.refl _)
      | (with_reducible exact LeO.none _)
      | (with_reducible refine LeO.ite ?_ ?_)
      | (with_reducible refine LeO.bind ?_ (fun _ => ?_))
      | exact safe_Total.mono _ _
      | exact LeO.none _
      | refine LeO.ite ?_ ?_
      | refine LeO.bind ?_ (fun _ => ?_)
set_option maxHeartbeats 8000000 in
set_option maxRecDepth 100000 in
theorem scan_Total.calls (k : Nat) (A0 : Option Addr) (c0 : Nat) (l0 : List Int) (r1 : Int) (r2 : Int) (w : World) (hr0 : Kd.C (Kd.int .u64) w A0 l0.length l0) (hc0 : l0.length ≤ c0) (h : scan_Total.f k l0 = some (r1, r2)) :
    Calls Tryz.prog 35 #[.slice A0 l0.length c0] w fun e w' => e = .returned (.tuple #[.int .u64 r1, .int .i64 r2]) ∧ Drawn0 w w' := by
  have HR0 := Aside0.mk hr0
  have HC0 := Aside0.mk hc0
  clear hr0 hc0
  have H : ((safe_Total.f k l0).bind fun bt543 => (if bt543.2 = true then (some (bt543.1, 0)) else (some (0, 11)))) = some (r1, r2) := h
  clear h
  replace H := Option.bind_eq_some_iff.mp H
  obtain ⟨⟨t543, t544⟩, A20, H⟩ := H
  try dsimp only at H
  have A2 := Aside0.mk A20
  clear A20
  by_cases c3 : t544 = true
  · subst c3
    have H1 : (some (t543, 0)) = some (r1, r2) := by rw [if_pos rfl] at H; exact H
    clear H
    have H := H1
    clear H1
    simp only [Option.some.injEq, Prod.mk.injEq] at H
    obtain ⟨rfl, rfl⟩ := H
    go_enter Tryz.func35, Tryz.ntmps35
    go_wp2_with (first | ((with_reducible refine gate_callee (f := 57) rfl ?_); refine goesL_ (some 8) rfl rfl Tryz.func57 (by kernel_rfl) rfl #[.slice A0 l0.length c0] rfl ql ?_; (with_reducible refine (safe_Total.calls k _ _ l0 t543 true _ ?side1 ?side2 A2.out).mono ?_); (case side1 => repeat (first | exact HR0.out | (with_reducible refine Kd.C_alloc ?_ _) | (with_reducible refine Kd.C_drewN ?_ _) | (with_reducible refine Kd.C_drew ?_))); (case side2 => exact HC0.out); rintro e w' ⟨rfl, ⟨nd, rfl⟩⟩; refine ⟨_, rfl, ?_⟩))
    go_ret2
    exact ⟨by first | rfl | (simp; done) | (simp [*]; done), by repeat (first | exact Drawn0.refl _ | apply Drawn0.step)⟩
  · replace c3 := Bool.eq_false_iff.mpr c3
    subst c3
    have H1 : (some (0, 11)) = some (r1, r2) := by rw [if_neg (show ¬ (false = true) by decide)] at H; exact H
    clear H
    have H := H1
    clear H1
    simp only [Option.some.injEq, Prod.mk.injEq] at H
    obtain ⟨rfl, rfl⟩ := H
    go_enter Tryz.func35, Tryz.ntmps35
    go_wp2_with (first | ((with_reducible refine gate_callee (f := 57) rfl ?_); refine goesL_ (some 8) rfl rfl Tryz.func57 (by kernel_rfl) rfl #[.slice A0 l0.length c0] rfl ql ?_; (with_reducible refine (safe_Total.calls k _ _ l0 t543 false _ ?side1 ?side2 A2.out).mono ?_); (case side1 => repeat (first | exact HR0.out | (with_reducible refine Kd.C_alloc ?_ _) | (with_reducible refine Kd.C_drewN ?_ _) | (with_reducible refine Kd.C_drew ?_))); (case side2 => exact HC0.out); rintro e w' ⟨rfl, ⟨nd, rfl⟩⟩; refine ⟨_, rfl, ?_⟩))
    go_ret2
    exact ⟨by first | rfl | (simp; done) | (simp [*]; done), by repeat (first | exact Drawn0.refl _ | apply Drawn0.step)⟩
def scan_Owner.l0 : Nat → Int → Int → List Int → Int → Int → Option (Int × Int)
 | 0, _, _, _, _, _ => none
 | k + 1, x0, x8, x19, x20, x21 => if x21 < x20 then (if 0 ≤ x21 then (if x21 < (x19.length : Int) then (if x0 < (IntKind.u64.wrap (x8 + (rd x19 x21))) then (some (x21, 0)) else (scan_Owner.l0 k x0 (IntKind.u64.wrap (x8 + (rd x19 x21))) x19 x20 (wrap64 (x21 + 1)))) else (none)) else (none)) else (some (0, 3))
def scan_Owner.f (k : Nat) (a0 : Int) (l1 : List Int) : Option (Int × Int) := (scan_Total.f k l1).bind fun bt545 => (if bt545.2 = 0 then (scan_Owner.l0 k a0 0 l1 (l1.length : Int) 0) else (some (0, bt545.2)))
theorem scan_Owner.mono_l : ∀ k, (∀ y0 y1 y2 y3 y4, LeO (scan_Owner.l0 k y0 y1 y2 y3 y4) (scan_Owner.l0 (k + 1) y0 y1 y2 y3 y4))
 | 0 => fun _ _ _ _ _ r h => by simp [scan_Owner.l0] at h
 | k + 1 => by
  have ih0 := scan_Owner.mono_l k
  ·intro y0 y1 y2 y3 y4
   unfold scan_Owner.l0
   repeat' first
   | (with_reducible exact ih0 _ _ _ _ _)
   | (with_reducible exact scan_Total.mono _ _)
   | (with_reducible exact LeO.refl _)
   | (with_reducible exact LeO.none _)
   | (with_reducible refine LeO.ite ?_ ?_)
   | (with_reducible refine LeO.bind ?_ (fun _ => ?_))
   | exact ih0 _ _ _ _ _
   | exact scan_Total.mono _ _
   | exact LeO.none _
   | refine LeO.ite ?_ ?_
   | refine LeO.bind ?_ (fun _ => ?_)
theorem scan_Owner.mono : ∀ a0 a1 k, LeO (scan_Owner.f k a0 a1) (scan_Owner.f (k + 1) a0 a1) := by
 intro a0 a1 k
 have ih0 := scan_Owner.mono_l k
 unfold scan_Owner.f
 repeat' first
   | (with_reducible exact ih0 _ _ _ _ _)
   | (with_reducible exact scan_Total.mono _ _)
   | (with_reducible exact LeO.refl _)
   | (with_reducible exact LeO.none _)
   | (with_reducible refine LeO.ite ?_ ?_)
   | (with_reducible refine LeO.bind ?_ (fun _ => ?_))
   | exact ih0 _ _ _ _ _
   | exact scan_Total.mono _ _
   | exact LeO.none _
   | refine LeO.ite ?_ ?_
   | refine LeO.bind ?_ (fun _ => ?_)
set_option maxHeartbeats 8000000 in
set_option maxRecDepth 100000 in
theorem scan_Owner.calls (k : Nat) (a0 : Int) (A1 : Option Addr) (c1 : Nat) (l1 : List Int) (r1 : Int) (r2 : Int) (w : World) (hr1 : Kd.C (Kd.int .u64) w A1 l1.length l1) (hc1 : l1.length ≤ c1) (h : scan_Owner.f k a0 l1 = some (r1, r2)) :
  Calls Tryz.prog 26 #[.int .u64 a0, .slice A1 l1.length c1] w fun e w' => e = .returned (.tuple #[.int .i64 r1, .int .i64 r2]) ∧ Drawn0 w w' := by
 have HR1 := Aside0.mk hr1
 have HC1 := Aside0.mk hc1
 clear hr1 hc1
 have H : ((scan_Total.f k l1).bind fun bt545 => (if bt545.2 = 0 then (scan_Owner.l0 k a0 0 l1 (l1.length : Int) 0) else (some (0, bt545.2)))) = some (r1, r2) := h
 clear h
 replace H := Option.bind_eq_some_iff.mp H
 obtain ⟨⟨t545, t546⟩, A30, H⟩ := H
 try dsimp only at H
 have A3 := Aside0.mk A30
 clear A30
 by_cases c4 : t546 = 0
 ·rw [if_pos c4] at H
  have c4b0 : (t546 == 0) = true := beq_iff_eq.mpr c4
  have c4b1 : (t546 != 0) = false := bne_eq_false_iff_eq.mpr c4
  clear c4
  have H' := Aside0.mk H
  clear H
  go_enter Tryz.func26, Tryz.ntmps26
  go_wp2_with (first | ((with_reducible refine gate_callee (f := 35) rfl ?_); refine goesL_ (some 13) rfl rfl Tryz.func35 (by kernel_rfl) rfl #[.slice A1 l1.length c1] rfl ql ?_; (with_reducible refine (scan_Total.calls k _ _ l1 t545 t546 _ ?side1 ?side2 A3.out).mono ?_); (case side1 => repeat (first | exact HR1.out | (with_reducible refine Kd.C_alloc ?_ _) | (with_reducible refine Kd.C_drewN ?_ _) | (with_reducible refine Kd.C_drew ?_))); (case side2 => exact HC1.out); rintro e w' ⟨rfl, ⟨nd, rfl⟩⟩; refine ⟨_, rfl, ?_⟩))
  go_loopg [8, 21] k (fun kq v8 v21 w' => ∃ (x8_1 : Int) (x21_1 : Int), v8 = .int .u64 x8_1 ∧ v21 = .int .i64 x21_1 ∧ Aside0 (scan_Owner.l0 kq a0 x8_1 l1 (l1.length : Int) x21_1 = some (r1, r2)) ∧ Aside0 (kq ≤ k) ∧ Drawn0 w w')
  case atStart => exact ⟨(0), (0), (by first | rfl | (simp; done) | (simp [*]; done)), (by first | rfl | (simp; done) | (simp [*]; done)), H', ⟨Nat.le_refl _⟩, by repeat (first | exact Drawn0.refl _ | apply Drawn0.step)⟩
  case round =>
   clear H'
   try clear c1
   try clear c2
   try clear p2
   try clear c3
   try clear c4
   try clear c4b0
   try clear c4b1
   obtain ⟨x8_1, x21_1, rfl, rfl, HA, HK1, ⟨m1, rfl⟩⟩ := hrel
   cases gk with
   | zero => exact absurd HA.out (by simp [scan_Owner.l0])
   | succ k1 =>
    have H := HA.out
    clear HA
    simp only [scan_Owner.l0] at H
    by_cases c5 : x21_1 < (l1.length : Int)
    ·rw [if_pos c5] at H
     have c5b0 : decide (x21_1 < (l1.length : Int)) = true := decide_eq_true c5
     clear c5
     by_cases c6 : 0 ≤ x21_1
     ·rw [if_pos c6] at H
      have c6b0 : decide (0 ≤ x21_1) = true := decide_eq_true c6
      clear c6
      by_cases c7 : x21_1 < (l1.length : Int)
      ·rw [if_pos c7] at H
       have c7b0 : decide (x21_1 < (l1.length : Int)) = true := decide_eq_true c7
       clear c7
       by_cases c8 : a0 < (IntKind.u64.wrap (x8_1 + (rd l1 x21_1)))
       ·rw [if_pos c8] at H
        have c8b0 : decide (a0 < (IntKind.u64.wrap (x8_1 + (rd l1 x21_1)))) = true := decide_eq_true c8
        clear c8
        simp only [Option.some.injEq, Prod.mk.injEq] at H
        obtain ⟨rfl, rfl⟩ := H
        have p547 : 0 ≤ (x21_1 : Int) := of_decide_eq_true qa
        have q547 : x21_1 < (l1.length : Int) := of_decide_eq_true qa
        obtain ⟨ad547, e547, hx547_0⟩ := Kd.at_int HR1.out x21_1 p547 q547
        cases e547
        replace p547 := eq_true p547
        replace q547 := eq_true q547
        go_wp2
        go_ret2
        exact ⟨by first | rfl | (simp; done) | (simp [*]; done), by repeat (first | exact Drawn0.refl _ | apply Drawn0.step)⟩
       ·rw [if_neg c8] at H
        have c8b0 : decide (a0 < (IntKind.u64.wrap (x8_1 + (rd l1 x21_1)))) = false := decide_eq_false c8
        clear c8
        have H' := Aside0.mk H
        clear H
        have p547 : 0 ≤ (x21_1 : Int) := of_decide_eq_true qa
        have q547 : x21_1 < (l1.length : Int) := of_decide_eq_true qa
        obtain ⟨ad547, e547, hx547_0⟩ := Kd.at_int HR1.out x21_1 p547 q547
        cases e547
        replace p547 := eq_true p547
        replace q547 := eq_true q547
        go_wp2
        go_roundg k1
        case measure => have := HK1.out; omega
        case rel => exact ⟨(IntKind.u64.wrap (x8_1 + (rd l1 x21_1))), (wrap64 (x21_1 + 1)), (by first | rfl | (simp; done) | (simp [*]; done)), (by first | rfl | (simp; done) | (simp [*]; done)), H', ⟨by have := HK1.out; omega⟩, by repeat (first | exact Drawn0.refl _ | apply Drawn0.step)⟩
      ·rw [if_neg c7] at H
       exact absurd H (by simp)
     ·rw [if_neg c6] at H
      exact absurd H (by simp)
    ·rw [if_neg c5] at H
     have c5b0 : decide (x21_1 < (l1.length : Int)) = false := decide_eq_false c5
     clear c5
     simp only [Option.some.injEq, Prod.mk.injEq] at H
     obtain ⟨rfl, rfl⟩ := H
     go_wp2
     go_ret2
     exact ⟨by first | rfl | (simp; done) | (simp [*]; done), by repeat (first | exact Drawn0.refl _ | apply Drawn0.step)⟩
 ·rw [if_neg c4] at H
  have c4b0 : (t546 == 0) = false := beq_eq_false_iff_ne.mpr c4
  have c4b1 : (t546 != 0) = true := bne_iff_ne.mpr c4
  simp only [Option.some.injEq, Prod.mk.injEq] at H
  obtain ⟨rfl, rfl⟩ := H
  go_enter Tryz.func26, Tryz.ntmps26
  go_wp2_with (first | ((with_reducible refine gate_callee (f := 35) rfl ?_); refine goesL_ (some 13) rfl rfl Tryz.func35 (by kernel_rfl) rfl #[.slice A1 l1.length c1] rfl ql ?_; (with_reducible refine (scan_Total.calls k _ _ l1 t545 t546 _ ?side1 ?side2 A3.out).mono ?_); (case side1 => repeat (first | exact HR1.out | (with_reducible refine Kd.C_alloc ?_ _) | (with_reducible refine Kd.C_drewN ?_ _) | (with_reducible refine Kd.C_drew ?_))); (case side2 => exact HC1.out); rintro e w' ⟨rfl, ⟨nd, rfl⟩⟩; refine ⟨_, rfl, ?_⟩))
  go_ret2
  exact ⟨by first | rfl | (simp; done) | (simp [*]; done), by repeat (first | exact Drawn0.refl _ | apply Drawn0.step)⟩
end Go.Proofs.YtekmngghebpciaaGreat.PW
end
