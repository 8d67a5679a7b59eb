/- Proved here: LawWholeTickets, the statement of the row that this text's last part names, and all that it rests on: words on walks, contracts of the program's functions, plain lemmas. Conditions: none but those of the given row. (part 6 of 6) -/
import Derived.Test.YtekmngghebpciaaGreatZK4
import Derived.Test.YtekmngghebpciaaGreatRows
section
namespace Go.Proofs.YtekmngghebpciaaGreat.PW
open Go.RowKit Go.Proofs.YtekmngghebpciaaGreatW.PrintWords Go.Proofs.YtekmngghebpciaaGreatW.PrintLast Go.Proofs.YtekmngghebpciaaGreatW.PrintMore
attribute [local go_sem] max2_int min2_int max_two min_two max_three min_three max_four min_four
set_option linter.unusedVariables false
set_option linter.unusedSimpArgs false
mutual
def drawlottop_WholeTickets.l0 : Nat → List Int → List Int → Int → Int → Int → List Int → Int → List (S96) → Option (Bool)
 | 0, _, _, _, _, _, _, _, _ => none
 | k + 1, x0, x3, x4, x8, x9, x558000, x564000, x564001 => if x9 < x4 then ((fen_Owner.f k x558000 x9).bind fun bt564 => ((scan_Owner.f k x9 x3).bind fun bt566 => (if bt564.2 = 0 then (if bt566.2 = 0 then (if bt564.1 = bt566.1 then (drawlottop_WholeTickets.l0 k x0 x3 x4 x8 (IntKind.u64.wrap (x9 + 1)) x558000 x564000 x564001) else (none)) else (none)) else (none)))) else (if x8 = 0 then (if 0 ≤ (x0.length : Int) then (if ((x0.length : Int) : Int).toNat ≤ 35184372088832 then (drawlottop_WholeTickets.l1 k x0 x3 x4 (List.replicate ((x0.length : Int) : Int).toNat 0) 0 x564000 x564001) else (none)) else (none)) else (some true))
def drawlottop_WholeTickets.l1 : Nat → List Int → List Int → Int → List Int → Int → Int → List (S96) → Option (Bool)
 | 0, _, _, _, _, _, _, _ => none
 | k + 1, x0, x3, x4, x14, x15, x564000, x564001 => if x15 < (IntKind.u64.wrap ((IntKind.u64.wrap ((x0.length : Int))) * x4)) then ((alias_Owner.f k x564000 x564001 x15).bind fun bt571 => (if bt571.2 = 0 then (if bt571.1 < 0 then (none) else (if bt571.1 ≥ (x14.length : Int) then (none) else (if 0 ≤ bt571.1 then (if bt571.1 < (x14.length : Int) then (drawlottop_WholeTickets.l1 k x0 x3 x4 (x14.set (bt571.1 : Int).toNat (IntKind.u64.wrap ((rd x14 bt571.1) + 1))) (IntKind.u64.wrap (x15 + 1)) x564000 x564001) else (none)) else (none)))) else (none))) else (drawlottop_WholeTickets.l2 k x0 x3 x14 0)
def drawlottop_WholeTickets.l2 : Nat → List Int → List Int → List Int → Int → Option (Bool)
 | 0, _, _, _, _ => none
 | k + 1, x0, x3, x14, x18 => if x18 < (x0.length : Int) then (if 0 ≤ x18 then (if x18 < (x14.length : Int) then (if x18 < (x3.length : Int) then (if (rd x14 x18) = (IntKind.u64.wrap ((IntKind.u64.wrap ((x0.length : Int))) * (rd x3 x18))) then (drawlottop_WholeTickets.l2 k x0 x3 x14 (wrap64 (x18 + 1))) else (none)) else (none)) else (none)) else (none)) else (some true)
end
def drawlottop_WholeTickets.f (k : Nat) (l0 : List Int) : Option (Bool) := (drawlottop_alive17.f k).bind fun t548 => (if t548 = true then (if (l0.length : Int) > 20 then (some true) else ((drawlottop_small.f k l0 40).bind fun bt549 => ((fen_Build.f k bt549.1).bind fun bt553 => ((alias_Build.f k bt549.1).bind fun bt558 => (if bt553.2 = 0 then (if bt558.2.2 = 0 then (if bt549.2 > 0 then (drawlottop_WholeTickets.l0 k l0 bt549.1 bt549.2 bt558.2.2 0 bt553.1 bt558.1 bt558.2.1) else (none)) else (if bt549.2 > 0 then (none) else (drawlottop_WholeTickets.l0 k l0 bt549.1 bt549.2 bt558.2.2 0 bt553.1 bt558.1 bt558.2.1))) else (none)))))) else (none))
theorem drawlottop_WholeTickets.mono_l : ∀ k, (∀ y0 y1 y2 y3 y4 y5 y6 y7, LeO (drawlottop_WholeTickets.l0 k y0 y1 y2 y3 y4 y5 y6 y7) (drawlottop_WholeTickets.l0 (k + 1) y0 y1 y2 y3 y4 y5 y6 y7)) ∧ (∀ y0 y1 y2 y3 y4 y5 y6, LeO (drawlottop_WholeTickets.l1 k y0 y1 y2 y3 y4 y5 y6) (drawlottop_WholeTickets.l1 (k + 1) y0 y1 y2 y3 y4 y5 y6)) ∧ (∀ y0 y1 y2 y3, LeO (drawlottop_WholeTickets.l2 k y0 y1 y2 y3) (drawlottop_WholeTickets.l2 (k + 1) y0 y1 y2 y3))
 | 0 => ⟨fun _ _ _ _ _ _ _ _ r h => by simp [drawlottop_WholeTickets.l0] at h, fun _ _ _ _ _ _ _ r h => by simp [drawlottop_WholeTickets.l1] at h, fun _ _ _ _ r h => by simp [drawlottop_WholeTickets.l2] at h⟩
 | k + 1 => by
  obtain ⟨ih0, ih1, ih2⟩ := drawlottop_WholeTickets.mono_l k
  refine ⟨?_, ?_, ?_⟩
  ·intro y0 y1 y2 y3 y4 y5 y6 y7
   unfold drawlottop_WholeTickets.l0
   repeat' first
   | (with_reducible exact ih0 _ _ _ _ _ _ _ _)
   | (with_reducible exact ih1 _ _ _ _ _ _ _)
   | (with_reducible exact ih2 _ _ _ _)
   | (with_reducible exact alias_Build.mono _ _)
   | (with_reducible exact alias_Owner.mono _ _ _ _)
   | (with_reducible exact drawlottop_alive17.mono _)
   | (with_reducible exact drawlottop_small.mono _ _ _)
   | (with_reducible exact fen_Build.mono _ _)
   | (with_reducible exact fen_Owner.mono _ _ _)
   | (with_reducible exact scan_Owner.mono _ _ _)
   | (with_reducible exact LeO.refl _)
   | (with_reducible exact LeO.none _)
   | (with_reducible refine LeO.ite ?_ ?_)
   | (with_reducible refine LeO.bind ?_ (fun _ => ?_))
   | exact ih0 _ _ _ _ _ _ _ _
   | exact ih1 _ _ _ _ _ _ _
   | exact ih2 _ _ _ _
   | exact alias_Build.mono _ _
   | exact alias_Owner.mono _ _ _ _
   | exact drawlottop_alive17.mono _
   | exact drawlottop_small.mono _ _ _
   | exact fen_Build.mono _ _
   | exact fen_Owner.mono _ _ _
   | exact scan_Owner.mono _ _ _
   | exact LeO.none _
   | refine LeO.ite ?_ ?_
   | refine LeO.bind ?_ (fun _ => ?_)
  ·intro y0 y1 y2 y3 y4 y5 y6
   unfold drawlottop_WholeTickets.l1
   repeat' first
   | (with_reducible exact ih0 _ _ _ _ _ _ _ _)
   | (with_reducible exact ih1 _ _ _ _ _ _ _)
   | (with_reducible exact ih2 _ _ _ _)
   | (with_reducible exact alias_Build.mono _ _)
   | (with_reducible exact alias_Owner.mono _ _ _ _)
   | (with_reducible exact drawlottop_alive17.mono _)
   | (with_reducible exact drawlottop_small.mono _ _ _)
   | (with_reducible exact fen_Build.mono _ _)
   | (with_reducible exact fen_Owner.mono _ _ _)
   | (with_reducible exact scan_Owner.mono _ _ _)
   | (with_reducible exact LeO.refl _)
   | (with_reducible exact LeO.none _)
   | (with_reducible refine LeO.ite ?_ ?_)
   | (with_reducible refine LeO.bind ?_ (fun _ => ?_))
   | exact ih0 _ _ _ _ _ _ _ _
   | exact ih1 _ _ _ _ _ _ _
   | exact ih2 _ _ _ _
   | exact alias_Build.mono _ _
   | exact alias_Owner.mono _ _ _ _
   | exact drawlottop_alive17.mono _
   | exact drawlottop_small.mono _ _ _
   | exact fen_Build.mono _ _
   | exact fen_Owner.mono _ _ _
   | exact scan_Owner.mono _ _ _
   | exact LeO.none _
   | refine LeO.ite ?_ ?_
   | refine LeO.bind ?_ (fun _ => ?_)
  ·intro y0 y1 y2 y3
   unfold drawlottop_WholeTickets.l2
   repeat' first
   | (with_reducible exact ih0 _ _ _ _ _ _ _ _)
   | (with_reducible exact ih1 _ _ _ _ _ _ _)
   | (with_reducible exact ih2 _ _ _ _)
   | (with_reducible exact alias_Build.mono _ _)
   | (with_reducible exact alias_Owner.mono _ _ _ _)
   | (with_reducible exact drawlottop_alive17.mono _)
   | (with_reducible exact drawlottop_small.mono _ _ _)
   | (with_reducible exact fen_Build.mono _ _)
   | (with_reducible exact fen_Owner.mono _ _ _)
   | (with_reducible exact scan_Owner.mono _ _ _)
   | (with_reducible exact LeO.refl _)
   | (with_reducible exact LeO.none _)
   | (with_reducible refine LeO.ite ?_ ?_)
   | (with_reducible refine LeO.bind ?_ (fun _ => ?_))
   | exact ih0 _ _ _ _ _ _ _ _
   | exact ih1 _ _ _ _ _ _ _
   | exact ih2 _ _ _ _
   | exact alias_Build.mono _ _
   | exact alias_Owner.mono _ _ _ _
   | exact drawlottop_alive17.mono _
   | exact drawlottop_small.mono _ _ _
   | exact fen_Build.mono _ _
   | exact fen_Owner.mono _ _ _
   | exact scan_Owner.mono _ _ _
   | exact LeO.none _
   | refine LeO.ite ?_ ?_
   | refine LeO.bind ?_ (fun _ => ?_)
theorem drawlottop_WholeTickets.mono : ∀ a0 k, LeO (drawlottop_WholeTickets.f k a0) (drawlottop_WholeTickets.f (k + 1) a0) := by
 intro a0 k
 obtain ⟨ih0, ih1, ih2⟩ := drawlottop_WholeTickets.mono_l k
 unfold drawlottop_WholeTickets.f
 repeat' first
   | (with_reducible exact ih0 _ _ _ _ _ _ _ _)
   | (with_reducible exact ih1 _ _ _ _ _ _ _)
   | (with_reducible exact ih2 _ _ _ _)
   | (with_reducible exact alias_Build.mono _ _)
   | (with_reducible exact alias_Owner.mono _ _ _ _)
   | (with_reducible exact drawlottop_alive17.mono _)
   | (with_reducible exact drawlottop_small.mono _ _ _)
   | (with_reducible exact fen_Build.mono _ _)
   | (with_reducible exact fen_Owner.mono _ _ _)
   | (with_reducible exact scan_Owner.mono _ _ _)
   | (with_reducible exact LeO.refl _)
   | (with_reducible exact LeO.none _)
   | (with_reducible refine LeO.ite ?_ ?_)
   | (with_reducible refine LeO.bind ?_ (fun _ => ?_))
   | exact ih0 _ _ _ _ _ _ _ _
   | exact ih1 _ _ _ _ _ _ _
   | exact ih2 _ _ _ _
   | exact alias_Build.mono _ _
   | exact alias_Owner.mono _ _ _ _
   | exact drawlottop_alive17.mono _
   | exact drawlottop_small.mono _ _ _
   | exact fen_Build.mono _ _
   | exact fen_Owner.mono _ _ _
   | exact scan_Owner.mono _ _ _
   | exact LeO.none _
   | refine LeO.ite ?_ ?_
   | refine LeO.bind ?_ (fun _ => ?_)
set_option maxHeartbeats 8000000 in
set_option maxRecDepth 100000 in
theorem drawlottop_WholeTickets.calls (k : Nat) (A0 : Option Addr) (c0 : Nat) (l0 : List Int) (r : Bool) (w : World) (hr0 : Kd.C (Kd.int .u64) w A0 l0.length l0) (hc0 : l0.length ≤ c0) (h : drawlottop_WholeTickets.f k l0 = some r) :
  Calls Tryz.prog 5 #[.slice A0 l0.length c0] w fun e w' => e = .returned (.bool r) ∧ Below w.heap.size w w' := by
 have hu54 := Tryz.underlying54
 have hu30 := Tryz.underlying30
 have HR0 := Aside0.mk hr0
 have HC0 := Aside0.mk hc0
 clear hr0 hc0
 have HB := Aside0.mk (Below.refl w.heap.size w)
 have H : ((drawlottop_alive17.f k).bind fun t548 => (if t548 = true then (if (l0.length : Int) > 20 then (some true) else ((drawlottop_small.f k l0 40).bind fun bt549 => ((fen_Build.f k bt549.1).bind fun bt553 => ((alias_Build.f k bt549.1).bind fun bt558 => (if bt553.2 = 0 then (if bt558.2.2 = 0 then (if bt549.2 > 0 then (drawlottop_WholeTickets.l0 k l0 bt549.1 bt549.2 bt558.2.2 0 bt553.1 bt558.1 bt558.2.1) else (none)) else (if bt549.2 > 0 then (none) else (drawlottop_WholeTickets.l0 k l0 bt549.1 bt549.2 bt558.2.2 0 bt553.1 bt558.1 bt558.2.1))) else (none)))))) else (none))) = some r := h
 clear h
 replace H := Option.bind_eq_some_iff.mp H
 obtain ⟨t548, A20, H⟩ := H
 try dsimp only at H
 have A2 := Aside0.mk A20
 clear A20
 by_cases c3 : t548 = true
 ·subst c3
  have H1 : (if (l0.length : Int) > 20 then (some true) else ((drawlottop_small.f k l0 40).bind fun bt549 => ((fen_Build.f k bt549.1).bind fun bt553 => ((alias_Build.f k bt549.1).bind fun bt558 => (if bt553.2 = 0 then (if bt558.2.2 = 0 then (if bt549.2 > 0 then (drawlottop_WholeTickets.l0 k l0 bt549.1 bt549.2 bt558.2.2 0 bt553.1 bt558.1 bt558.2.1) else (none)) else (if bt549.2 > 0 then (none) else (drawlottop_WholeTickets.l0 k l0 bt549.1 bt549.2 bt558.2.2 0 bt553.1 bt558.1 bt558.2.1))) else (none)))))) = some r := by rw [if_pos rfl] at H; exact H
  clear H
  have H := H1
  clear H1
  by_cases c4 : (l0.length : Int) > 20
  ·rw [if_pos c4] at H
   have c4b0 : decide (20 < (l0.length : Int)) = true := decide_eq_true c4
   have c4b1 : decide (20 < l0.length) = true := decide_eq_true (by omega)
   clear c4
   obtain rfl := Option.some.inj H
   go_enter Tryz.func5, Tryz.ntmps5
   try simp only [List.append]
   go_wp2_with (first | (go_at_call 9; (with_reducible refine (drawlottop_alive17.calls k  true _ A2.out).mono ?_); rintro e w5 ⟨rfl, hb⟩; replace HB := Aside0.mk (below_step (qs HB) hb); (try clear hb); (try clear hb2); (try clear hk); (try clear hi)))
   repeat (go_quiet (first | (go_at_call 9; (with_reducible refine (drawlottop_alive17.calls k  true _ A2.out).mono ?_); rintro e w5 ⟨rfl, hb⟩; replace HB := Aside0.mk (below_step (qs HB) hb); (try clear hb); (try clear hb2); (try clear hk); (try clear hi))); try go_wp2_with (first | (go_at_call 9; (with_reducible refine (drawlottop_alive17.calls k  true _ A2.out).mono ?_); rintro e w5 ⟨rfl, hb⟩; replace HB := Aside0.mk (below_step (qs HB) hb); (try clear hb); (try clear hb2); (try clear hk); (try clear hi))))
   go_ret
   exact ⟨by first | rfl | (simp [errW_none, errW_some] <;> rfl) | (simp [*, errW_none, errW_some] <;> rfl), (qs HB)⟩
  ·rw [if_neg c4] at H
   have c4b0 : decide (20 < (l0.length : Int)) = false := decide_eq_false c4
   have c4b1 : decide (20 < l0.length) = false := decide_eq_false (by omega)
   clear c4
   replace H := Option.bind_eq_some_iff.mp H
   obtain ⟨⟨t549, t550⟩, A60, H⟩ := H
   try dsimp only at H
   have A6 := Aside0.mk A60
   clear A60
   replace H := Option.bind_eq_some_iff.mp H
   obtain ⟨⟨t553, t556⟩, A70, H⟩ := H
   try dsimp only at H
   have A7 := Aside0.mk A70
   clear A70
   replace H := Option.bind_eq_some_iff.mp H
   obtain ⟨⟨t558, t559, t562⟩, A80, H⟩ := H
   try dsimp only at H
   have A8 := Aside0.mk A80
   clear A80
   by_cases c9 : t556 = 0
   ·rw [if_pos c9] at H
    have c9b0 : (t556 == 0) = true := beq_iff_eq.mpr c9
    have c9b1 : (t556 != 0) = false := bne_eq_false_iff_eq.mpr c9
    clear c9
    by_cases c10 : t562 = 0
    ·rw [if_pos c10] at H
     have c10b0 : (t562 == 0) = true := beq_iff_eq.mpr c10
     have c10b1 : (t562 != 0) = false := bne_eq_false_iff_eq.mpr c10
     clear c10
     by_cases c11 : t550 > 0
     ·rw [if_pos c11] at H
      have c11b0 : decide (0 < t550) = true := decide_eq_true c11
      clear c11
      have H' := Aside0.mk H
      clear H
      go_enter Tryz.func5, Tryz.ntmps5
      try simp only [List.append]
      go_wp2_with (first | (go_at_call 9; (with_reducible refine (drawlottop_alive17.calls k  true _ A2.out).mono ?_); rintro e w12 ⟨rfl, hb⟩; replace HB := Aside0.mk (below_step (qs HB) hb); (try clear hb); (try clear hb2); (try clear hk); (try clear hi)) | (go_at_call 10; (with_reducible refine (drawlottop_small.calls k _ _ l0 40 t549 t550 _ ?side1 ?side2 A6.out).mono ?_); (case side1 => repeat (first | exact (Kd.C_below HR0.out HB.out) | (with_reducible refine Kd.C_alloc ?_ _) | (with_reducible refine Kd.C_drewN ?_ _) | (with_reducible refine Kd.C_drew ?_))); (case side2 => exact HC0.out); rintro e w13 ⟨v551, rfl, ho0, hb⟩; have HO552 := Aside0.mk (Kd.R_lower ho0 (below_size (qs HB))); replace HB := Aside0.mk (below_step (qs HB) hb); (try clear hb); (try clear hb2); (try clear hk); (try clear hi); (try clear ho0); obtain ⟨Ao14, co14, eo14⟩ := Kd.R_slice HO552.out; subst eo14) | (go_at_call 22; (with_reducible refine (fen_Build.calls k _ _ t549 t553 t556 _ ?side1 ?side2 A7.out).mono ?_); (case side1 => repeat (first | exact (Kd.R_reads' HO552.out).2.2 | (with_reducible refine Kd.C_alloc ?_ _) | (with_reducible refine Kd.C_drewN ?_ _) | (with_reducible refine Kd.C_drew ?_))); (case side2 => exact (Kd.R_reads' HO552.out).2.1); rintro e w15 ⟨v554, rfl, ho0, hb⟩; have HO555 := Aside0.mk (Kd.R_lower (Kd.R_new' ho0 (Kd.R_lt (qr HO552))) (below_size (qs HB))); replace HO552 := Aside0.mk (Kd.R_elder' (qr HO552) (Kd.R_base ho0) hb); replace HB := Aside0.mk (below_step (qs HB) hb); (try clear hb); (try clear hb2); (try clear hk); (try clear hi); (try clear ho0)) | ((with_reducible refine qd 5 ?_); (try (refine gate_guard (by rfl) ?_; dsimp only)); refine box_event ?hg (N := 5) ?hd (cs := #[.slice none 0 0]) (t := 54) ?hr ?_; (case hd => rfl); (case hg => rfl); (case hr => first | (go_simp; done) | (go_simp; rfl)); intro gb557 hg w16 hbox hb; replace HO552 := Aside0.mk (Kd.R_below (qr HO552) hb); replace HO555 := Aside0.mk (Kd.R_below (qr HO555) hb); have BK557 := Aside0.mk (hbox); have GW557 := Aside0.mk (qe HB hg); have GE557 := Aside0.mk (qe HB hg); replace HB := Aside0.mk (below_step (qs HB) hb); clear hb hbox hg; obtain ⟨Ao17, co17, eo17⟩ := Kd.R_slice HO555.out; subst eo17; have hcz18_0 : w16.cell? ⟨gb557, 0, none⟩ = some (.slice none 0 0) := (blk_cell BK557.out 0).trans rfl; have hfz18_0 := blk_frozen BK557.out 0) | (go_at_call 12; (with_reducible refine (alias_Build.calls k _ _ t549 t558 t559 t562 _ ?side1 ?side2 A8.out).mono ?_); (case side1 => refine (Kd.R_reads' (e := 24) (base := w.heap.size) (ok := fun k_ => (True ∧ some k_ ≠ (.slice Ao17 t553.length co17 : Value).ownBlock)) (n := t549.length) (c := co14) ?_).2.2; exact (by (with_reducible repeat (first | apply Kd.R_alloc | apply Kd.R_drewN | apply Kd.R_drew)); exact (Kd.R_mono (Kd.R_far (p := ⟨gb557, 0, none⟩) (Kd.R_types HO552.out BK557.out (by decide)) (fun _ hk => hk.2) (.slice Ao17 t553.length co17)) (fun _ h_ => h_.1)))); (case side2 => exact (Kd.R_reads' HO552.out).2.1); rintro e w19 ⟨v560, rfl, ho0, hb⟩; replace HO552 := Aside0.mk (Kd.R_below (by (with_reducible repeat (first | apply Kd.R_alloc | apply Kd.R_drewN | apply Kd.R_drew)); exact (Kd.R_mono (Kd.R_far (p := ⟨gb557, 0, none⟩) (Kd.R_types HO552.out BK557.out (by decide)) (fun _ hk => hk.2) (.slice Ao17 t553.length co17)) (fun _ h_ => h_.1))) hb); replace HO555 := Aside0.mk (Kd.R_below (by (with_reducible repeat (first | apply Kd.R_alloc | apply Kd.R_drewN | apply Kd.R_drew)); exact (Kd.R_mono (Kd.R_far (p := ⟨gb557, 0, none⟩) (Kd.R_types HO555.out BK557.out (by decide)) (fun _ hk => hk.2) (.slice Ao17 t553.length co17)) (fun _ h_ => h_.1))) hb); have HO561 := Aside0.mk (Kd.R_lower ho0 (below_size (qs HB))); replace BK557 := Aside0.mk (blk_below (g := gb557) (o := .cells #[.slice Ao17 t553.length co17] 54 (0, 0)) (by (with_reducible repeat (first | refine blk_drewN ?_ _ | refine blk_drew ?_ | refine blk_alloc ?_ _)); refine blk_put (cs := #[.slice none 0 0]) ?_ 0 _ rfl; (with_reducible repeat (first | refine blk_drewN ?_ _ | refine blk_drew ?_ | refine blk_alloc ?_ _)); exact BK557.out) hb); replace HB := Aside0.mk (below_step (qs HB) hb); (try clear hb); (try clear hb2); (try clear hk); (try clear hi); (try clear ho0)) | ((with_reducible refine qd 7 ?_); (try (refine gate_guard (by rfl) ?_; dsimp only)); refine box_event ?hg (N := 7) ?hd (cs := #[.int .u64 0, .slice none 0 0]) (t := 30) ?hr ?_; (case hd => rfl); (case hg => rfl); (case hr => first | (go_simp; done) | (go_simp; rfl)); intro gb563 hg w20 hbox hb; replace HO552 := Aside0.mk (Kd.R_below (qr HO552) hb); replace HO555 := Aside0.mk (Kd.R_below (qr HO555) hb); replace HO561 := Aside0.mk (Kd.R_below (qr HO561) hb); have BK563 := Aside0.mk (hbox); have GW563 := Aside0.mk (qe HB hg); have GE563 := Aside0.mk (qe HB hg); replace HB := Aside0.mk (below_step (qs HB) hb); have NB557_563 := Aside0.mk (qu BK557 hg); have NB563_557 := Aside0.mk (qw BK557 hg); replace BK557 := Aside0.mk (qB BK557 hb); clear hb hbox hg; have hnb21 := NB563_557.out; have hnc21 := NB557_563.out; have hcz22_0 : w20.cell? ⟨gb563, 0, none⟩ = some (.int .u64 0) := (blk_cell BK563.out 0).trans rfl; have hcz22_1 : w20.cell? ⟨gb563, 1, none⟩ = some (.slice none 0 0) := (blk_cell BK563.out 1).trans rfl; have hfz22_0 := blk_frozen BK563.out 0; have hfz22_1 := blk_frozen BK563.out 1; obtain ⟨Ao23, co23, eo23⟩ := Kd.R_slice HO561.out; subst eo23))
      repeat (go_quiet (first | (go_at_call 9; (with_reducible refine (drawlottop_alive17.calls k  true _ A2.out).mono ?_); rintro e w12 ⟨rfl, hb⟩; replace HB := Aside0.mk (below_step (qs HB) hb); (try clear hb); (try clear hb2); (try clear hk); (try clear hi)) | (go_at_call 10; (with_reducible refine (drawlottop_small.calls k _ _ l0 40 t549 t550 _ ?side1 ?side2 A6.out).mono ?_); (case side1 => repeat (first | exact (Kd.C_below HR0.out HB.out) | (with_reducible refine Kd.C_alloc ?_ _) | (with_reducible refine Kd.C_drewN ?_ _) | (with_reducible refine Kd.C_drew ?_))); (case side2 => exact HC0.out); rintro e w13 ⟨v551, rfl, ho0, hb⟩; have HO552 := Aside0.mk (Kd.R_lower ho0 (below_size (qs HB))); replace HB := Aside0.mk (below_step (qs HB) hb); (try clear hb); (try clear hb2); (try clear hk); (try clear hi); (try clear ho0); obtain ⟨Ao14, co14, eo14⟩ := Kd.R_slice HO552.out; subst eo14) | (go_at_call 22; (with_reducible refine (fen_Build.calls k _ _ t549 t553 t556 _ ?side1 ?side2 A7.out).mono ?_); (case side1 => repeat (first | exact (Kd.R_reads' HO552.out).2.2 | (with_reducible refine Kd.C_alloc ?_ _) | (with_reducible refine Kd.C_drewN ?_ _) | (with_reducible refine Kd.C_drew ?_))); (case side2 => exact (Kd.R_reads' HO552.out).2.1); rintro e w15 ⟨v554, rfl, ho0, hb⟩; have HO555 := Aside0.mk (Kd.R_lower (Kd.R_new' ho0 (Kd.R_lt (qr HO552))) (below_size (qs HB))); replace HO552 := Aside0.mk (Kd.R_elder' (qr HO552) (Kd.R_base ho0) hb); replace HB := Aside0.mk (below_step (qs HB) hb); (try clear hb); (try clear hb2); (try clear hk); (try clear hi); (try clear ho0)) | ((with_reducible refine qd 5 ?_); (try (refine gate_guard (by rfl) ?_; dsimp only)); refine box_event ?hg (N := 5) ?hd (cs := #[.slice none 0 0]) (t := 54) ?hr ?_; (case hd => rfl); (case hg => rfl); (case hr => first | (go_simp; done) | (go_simp; rfl)); intro gb557 hg w16 hbox hb; replace HO552 := Aside0.mk (Kd.R_below (qr HO552) hb); replace HO555 := Aside0.mk (Kd.R_below (qr HO555) hb); have BK557 := Aside0.mk (hbox); have GW557 := Aside0.mk (qe HB hg); have GE557 := Aside0.mk (qe HB hg); replace HB := Aside0.mk (below_step (qs HB) hb); clear hb hbox hg; obtain ⟨Ao17, co17, eo17⟩ := Kd.R_slice HO555.out; subst eo17; have hcz18_0 : w16.cell? ⟨gb557, 0, none⟩ = some (.slice none 0 0) := (blk_cell BK557.out 0).trans rfl; have hfz18_0 := blk_frozen BK557.out 0) | (go_at_call 12; (with_reducible refine (alias_Build.calls k _ _ t549 t558 t559 t562 _ ?side1 ?side2 A8.out).mono ?_); (case side1 => refine (Kd.R_reads' (e := 24) (base := w.heap.size) (ok := fun k_ => (True ∧ some k_ ≠ (.slice Ao17 t553.length co17 : Value).ownBlock)) (n := t549.length) (c := co14) ?_).2.2; exact (by (with_reducible repeat (first | apply Kd.R_alloc | apply Kd.R_drewN | apply Kd.R_drew)); exact (Kd.R_mono (Kd.R_far (p := ⟨gb557, 0, none⟩) (Kd.R_types HO552.out BK557.out (by decide)) (fun _ hk => hk.2) (.slice Ao17 t553.length co17)) (fun _ h_ => h_.1)))); (case side2 => exact (Kd.R_reads' HO552.out).2.1); rintro e w19 ⟨v560, rfl, ho0, hb⟩; replace HO552 := Aside0.mk (Kd.R_below (by (with_reducible repeat (first | apply Kd.R_alloc | apply Kd.R_drewN | apply Kd.R_drew)); exact (Kd.R_mono (Kd.R_far (p := ⟨gb557, 0, none⟩) (Kd.R_types HO552.out BK557.out (by decide)) (fun _ hk => hk.2) (.slice Ao17 t553.length co17)) (fun _ h_ => h_.1))) hb); replace HO555 := Aside0.mk (Kd.R_below (by (with_reducible repeat (first | apply Kd.R_alloc | apply Kd.R_drewN | apply Kd.R_drew)); exact (Kd.R_mono (Kd.R_far (p := ⟨gb557, 0, none⟩) (Kd.R_types HO555.out BK557.out (by decide)) (fun _ hk => hk.2) (.slice Ao17 t553.length co17)) (fun _ h_ => h_.1))) hb); have HO561 := Aside0.mk (Kd.R_lower ho0 (below_size (qs HB))); replace BK557 := Aside0.mk (blk_below (g := gb557) (o := .cells #[.slice Ao17 t553.length co17] 54 (0, 0)) (by (with_reducible repeat (first | refine blk_drewN ?_ _ | refine blk_drew ?_ | refine blk_alloc ?_ _)); refine blk_put (cs := #[.slice none 0 0]) ?_ 0 _ rfl; (with_reducible repeat (first | refine blk_drewN ?_ _ | refine blk_drew ?_ | refine blk_alloc ?_ _)); exact BK557.out) hb); replace HB := Aside0.mk (below_step (qs HB) hb); (try clear hb); (try clear hb2); (try clear hk); (try clear hi); (try clear ho0)) | ((with_reducible refine qd 7 ?_); (try (refine gate_guard (by rfl) ?_; dsimp only)); refine box_event ?hg (N := 7) ?hd (cs := #[.int .u64 0, .slice none 0 0]) (t := 30) ?hr ?_; (case hd => rfl); (case hg => rfl); (case hr => first | (go_simp; done) | (go_simp; rfl)); intro gb563 hg w20 hbox hb; replace HO552 := Aside0.mk (Kd.R_below (qr HO552) hb); replace HO555 := Aside0.mk (Kd.R_below (qr HO555) hb); replace HO561 := Aside0.mk (Kd.R_below (qr HO561) hb); have BK563 := Aside0.mk (hbox); have GW563 := Aside0.mk (qe HB hg); have GE563 := Aside0.mk (qe HB hg); replace HB := Aside0.mk (below_step (qs HB) hb); have NB557_563 := Aside0.mk (qu BK557 hg); have NB563_557 := Aside0.mk (qw BK557 hg); replace BK557 := Aside0.mk (qB BK557 hb); clear hb hbox hg; have hnb21 := NB563_557.out; have hnc21 := NB557_563.out; have hcz22_0 : w20.cell? ⟨gb563, 0, none⟩ = some (.int .u64 0) := (blk_cell BK563.out 0).trans rfl; have hcz22_1 : w20.cell? ⟨gb563, 1, none⟩ = some (.slice none 0 0) := (blk_cell BK563.out 1).trans rfl; have hfz22_0 := blk_frozen BK563.out 0; have hfz22_1 := blk_frozen BK563.out 1; obtain ⟨Ao23, co23, eo23⟩ := Kd.R_slice HO561.out; subst eo23)); try go_wp2_with (first | (go_at_call 9; (with_reducible refine (drawlottop_alive17.calls k  true _ A2.out).mono ?_); rintro e w12 ⟨rfl, hb⟩; replace HB := Aside0.mk (below_step (qs HB) hb); (try clear hb); (try clear hb2); (try clear hk); (try clear hi)) | (go_at_call 10; (with_reducible refine (drawlottop_small.calls k _ _ l0 40 t549 t550 _ ?side1 ?side2 A6.out).mono ?_); (case side1 => repeat (first | exact (Kd.C_below HR0.out HB.out) | (with_reducible refine Kd.C_alloc ?_ _) | (with_reducible refine Kd.C_drewN ?_ _) | (with_reducible refine Kd.C_drew ?_))); (case side2 => exact HC0.out); rintro e w13 ⟨v551, rfl, ho0, hb⟩; have HO552 := Aside0.mk (Kd.R_lower ho0 (below_size (qs HB))); replace HB := Aside0.mk (below_step (qs HB) hb); (try clear hb); (try clear hb2); (try clear hk); (try clear hi); (try clear ho0); obtain ⟨Ao14, co14, eo14⟩ := Kd.R_slice HO552.out; subst eo14) | (go_at_call 22; (with_reducible refine (fen_Build.calls k _ _ t549 t553 t556 _ ?side1 ?side2 A7.out).mono ?_); (case side1 => repeat (first | exact (Kd.R_reads' HO552.out).2.2 | (with_reducible refine Kd.C_alloc ?_ _) | (with_reducible refine Kd.C_drewN ?_ _) | (with_reducible refine Kd.C_drew ?_))); (case side2 => exact (Kd.R_reads' HO552.out).2.1); rintro e w15 ⟨v554, rfl, ho0, hb⟩; have HO555 := Aside0.mk (Kd.R_lower (Kd.R_new' ho0 (Kd.R_lt (qr HO552))) (below_size (qs HB))); replace HO552 := Aside0.mk (Kd.R_elder' (qr HO552) (Kd.R_base ho0) hb); replace HB := Aside0.mk (below_step (qs HB) hb); (try clear hb); (try clear hb2); (try clear hk); (try clear hi); (try clear ho0)) | ((with_reducible refine qd 5 ?_); (try (refine gate_guard (by rfl) ?_; dsimp only)); refine box_event ?hg (N := 5) ?hd (cs := #[.slice none 0 0]) (t := 54) ?hr ?_; (case hd => rfl); (case hg => rfl); (case hr => first | (go_simp; done) | (go_simp; rfl)); intro gb557 hg w16 hbox hb; replace HO552 := Aside0.mk (Kd.R_below (qr HO552) hb); replace HO555 := Aside0.mk (Kd.R_below (qr HO555) hb); have BK557 := Aside0.mk (hbox); have GW557 := Aside0.mk (qe HB hg); have GE557 := Aside0.mk (qe HB hg); replace HB := Aside0.mk (below_step (qs HB) hb); clear hb hbox hg; obtain ⟨Ao17, co17, eo17⟩ := Kd.R_slice HO555.out; subst eo17; have hcz18_0 : w16.cell? ⟨gb557, 0, none⟩ = some (.slice none 0 0) := (blk_cell BK557.out 0).trans rfl; have hfz18_0 := blk_frozen BK557.out 0) | (go_at_call 12; (with_reducible refine (alias_Build.calls k _ _ t549 t558 t559 t562 _ ?side1 ?side2 A8.out).mono ?_); (case side1 => refine (Kd.R_reads' (e := 24) (base := w.heap.size) (ok := fun k_ => (True ∧ some k_ ≠ (.slice Ao17 t553.length co17 : Value).ownBlock)) (n := t549.length) (c := co14) ?_).2.2; exact (by (with_reducible repeat (first | apply Kd.R_alloc | apply Kd.R_drewN | apply Kd.R_drew)); exact (Kd.R_mono (Kd.R_far (p := ⟨gb557, 0, none⟩) (Kd.R_types HO552.out BK557.out (by decide)) (fun _ hk => hk.2) (.slice Ao17 t553.length co17)) (fun _ h_ => h_.1)))); (case side2 => exact (Kd.R_reads' HO552.out).2.1); rintro e w19 ⟨v560, rfl, ho0, hb⟩; replace HO552 := Aside0.mk (Kd.R_below (by (with_reducible repeat (first | apply Kd.R_alloc | apply Kd.R_drewN | apply Kd.R_drew)); exact (Kd.R_mono (Kd.R_far (p := ⟨gb557, 0, none⟩) (Kd.R_types HO552.out BK557.out (by decide)) (fun _ hk => hk.2) (.slice Ao17 t553.length co17)) (fun _ h_ => h_.1))) hb); replace HO555 := Aside0.mk (Kd.R_below (by (with_reducible repeat (first | apply Kd.R_alloc | apply Kd.R_drewN | apply Kd.R_drew)); exact (Kd.R_mono (Kd.R_far (p := ⟨gb557, 0, none⟩) (Kd.R_types HO555.out BK557.out (by decide)) (fun _ hk => hk.2) (.slice Ao17 t553.length co17)) (fun _ h_ => h_.1))) hb); have HO561 := Aside0.mk (Kd.R_lower ho0 (below_size (qs HB))); replace BK557 := Aside0.mk (blk_below (g := gb557) (o := .cells #[.slice Ao17 t553.length co17] 54 (0, 0)) (by (with_reducible repeat (first | refine blk_drewN ?_ _ | refine blk_drew ?_ | refine blk_alloc ?_ _)); refine blk_put (cs := #[.slice none 0 0]) ?_ 0 _ rfl; (with_reducible repeat (first | refine blk_drewN ?_ _ | refine blk_drew ?_ | refine blk_alloc ?_ _)); exact BK557.out) hb); replace HB := Aside0.mk (below_step (qs HB) hb); (try clear hb); (try clear hb2); (try clear hk); (try clear hi); (try clear ho0)) | ((with_reducible refine qd 7 ?_); (try (refine gate_guard (by rfl) ?_; dsimp only)); refine box_event ?hg (N := 7) ?hd (cs := #[.int .u64 0, .slice none 0 0]) (t := 30) ?hr ?_; (case hd => rfl); (case hg => rfl); (case hr => first | (go_simp; done) | (go_simp; rfl)); intro gb563 hg w20 hbox hb; replace HO552 := Aside0.mk (Kd.R_below (qr HO552) hb); replace HO555 := Aside0.mk (Kd.R_below (qr HO555) hb); replace HO561 := Aside0.mk (Kd.R_below (qr HO561) hb); have BK563 := Aside0.mk (hbox); have GW563 := Aside0.mk (qe HB hg); have GE563 := Aside0.mk (qe HB hg); replace HB := Aside0.mk (below_step (qs HB) hb); have NB557_563 := Aside0.mk (qu BK557 hg); have NB563_557 := Aside0.mk (qw BK557 hg); replace BK557 := Aside0.mk (qB BK557 hb); clear hb hbox hg; have hnb21 := NB563_557.out; have hnc21 := NB557_563.out; have hcz22_0 : w20.cell? ⟨gb563, 0, none⟩ = some (.int .u64 0) := (blk_cell BK563.out 0).trans rfl; have hcz22_1 : w20.cell? ⟨gb563, 1, none⟩ = some (.slice none 0 0) := (blk_cell BK563.out 1).trans rfl; have hfz22_0 := blk_frozen BK563.out 0; have hfz22_1 := blk_frozen BK563.out 1; obtain ⟨Ao23, co23, eo23⟩ := Kd.R_slice HO561.out; subst eo23)))
      go_loopg [9] k (fun kq v9 w' => ∃ (x9_1 : Int), v9 = .int .u64 x9_1 ∧ Aside0 (drawlottop_WholeTickets.l0 kq l0 t549 t550 t562 x9_1 t553 t558 t559 = some r) ∧ Aside0 (kq ≤ k) ∧ Aside0 (Kd.R (Kd.int .u64) 24 w' w.heap.size (fun k_ => some k_ ≠ ((.slice Ao17 t553.length co17) : Value).ownBlock) (.slice Ao14 t549.length co14) t549) ∧ Aside0 (Kd.R (Kd.int .u64) 24 w' w.heap.size (fun k_ => some k_ ≠ ((.slice Ao14 t549.length co14) : Value).ownBlock) (.slice Ao17 t553.length co17) t553) ∧ Aside0 (Kd.R k96 96 w' w.heap.size (fun _ => True) (.slice Ao23 t559.length co23) t559) ∧ Aside0 (w'.heap[gb557]? = some (.cells #[(.slice Ao17 t553.length co17)] 54 (0, 0))) ∧ Aside0 (w'.heap[gb563]? = some (.cells #[.int .u64 t558, (.slice Ao23 t559.length co23)] 30 (0, 0))) ∧ Aside0 (Below w.heap.size w w'))
      case atStart => exact ⟨(0), (by first | rfl | (simp; done) | (simp [*]; done)), H', ⟨Nat.le_refl _⟩, ⟨by (with_reducible repeat (first | apply Kd.R_alloc | apply Kd.R_drewN | apply Kd.R_drew)); exact Kd.R_mono (Kd.R_far (p := ⟨gb563, 1, none⟩) (Kd.R_far (p := ⟨gb563, 0, none⟩) (Kd.R_types HO552.out BK563.out (by decide)) (fun _ hk => hk.2) (.int .u64 t558)) (fun _ hk => hk.2) (.slice Ao23 t559.length co23)) (fun _ hk => hk.1.2)⟩, ⟨by (with_reducible repeat (first | apply Kd.R_alloc | apply Kd.R_drewN | apply Kd.R_drew)); exact Kd.R_mono (Kd.R_far (p := ⟨gb563, 1, none⟩) (Kd.R_far (p := ⟨gb563, 0, none⟩) (Kd.R_types HO555.out BK563.out (by decide)) (fun _ hk => hk.2) (.int .u64 t558)) (fun _ hk => hk.2) (.slice Ao23 t559.length co23)) (fun _ hk => hk.1.2)⟩, ⟨by (with_reducible repeat (first | apply Kd.R_alloc | apply Kd.R_drewN | apply Kd.R_drew)); exact Kd.R_mono (Kd.R_far (p := ⟨gb563, 1, none⟩) (Kd.R_far (p := ⟨gb563, 0, none⟩) (Kd.R_types HO561.out BK563.out (by decide)) (fun _ hk => hk.2) (.int .u64 t558)) (fun _ hk => hk.2) (.slice Ao23 t559.length co23)) (fun _ hk => trivial)⟩, ⟨by (with_reducible repeat (first | refine blk_drewN ?_ _ | refine blk_drew ?_ | refine blk_alloc ?_ _)); refine blk_far ?_ NB557_563.out _; (with_reducible repeat (first | refine blk_drewN ?_ _ | refine blk_drew ?_ | refine blk_alloc ?_ _)); refine blk_far ?_ NB557_563.out _; (with_reducible repeat (first | refine blk_drewN ?_ _ | refine blk_drew ?_ | refine blk_alloc ?_ _)); exact BK557.out⟩, ⟨by (with_reducible repeat (first | refine blk_drewN ?_ _ | refine blk_drew ?_ | refine blk_alloc ?_ _)); refine blk_put (cs := #[.int .u64 t558, .slice none 0 0]) ?_ 1 _ rfl; (with_reducible repeat (first | refine blk_drewN ?_ _ | refine blk_drew ?_ | refine blk_alloc ?_ _)); refine blk_put (cs := #[.int .u64 0, .slice none 0 0]) ?_ 0 _ rfl; (with_reducible repeat (first | refine blk_drewN ?_ _ | refine blk_drew ?_ | refine blk_alloc ?_ _)); exact BK563.out⟩, ⟨(qs HB)⟩⟩
      case round =>
       clear H'
       try clear c1
       try clear c2
       try clear p2
       try clear c3
       try clear c4
       try clear c4b0
       try clear c4b1
       try clear c5
       try clear c9
       try clear c9b0
       try clear c9b1
       try clear c10
       try clear c10b0
       try clear c10b1
       try clear c11
       try clear c11b0
       try clear c21
       try clear hcz18_0
       try clear hcz22_0
       try clear hcz22_1
       try clear hfz18_0
       try clear hfz22_0
       try clear hfz22_1
       obtain ⟨x9_1, rfl, HA, HK1, HO_3, HO_558000, HO_564001, BK557, BK563, HB⟩ := hrel
       cases gk with
       | zero => exact absurd HA.out (by simp [drawlottop_WholeTickets.l0])
       | succ k1 =>
        have H := HA.out
        clear HA
        simp only [drawlottop_WholeTickets.l0] at H
        by_cases c24 : x9_1 < t550
        ·rw [if_pos c24] at H
         have c24b0 : decide (x9_1 < t550) = true := decide_eq_true c24
         clear c24
         replace H := Option.bind_eq_some_iff.mp H
         obtain ⟨⟨t564, t565⟩, A250, H⟩ := H
         try dsimp only at H
         have A25 := Aside0.mk A250
         clear A250
         replace H := Option.bind_eq_some_iff.mp H
         obtain ⟨⟨t566, t567⟩, A260, H⟩ := H
         try dsimp only at H
         have A26 := Aside0.mk A260
         clear A260
         by_cases c27 : t565 = 0
         ·rw [if_pos c27] at H
          have c27b0 : (t565 == 0) = true := beq_iff_eq.mpr c27
          have c27b1 : (t565 != 0) = false := bne_eq_false_iff_eq.mpr c27
          clear c27
          by_cases c28 : t567 = 0
          ·rw [if_pos c28] at H
           have c28b0 : (t567 == 0) = true := beq_iff_eq.mpr c28
           have c28b1 : (t567 != 0) = false := bne_eq_false_iff_eq.mpr c28
           clear c28
           by_cases c29 : t564 = t566
           ·rw [if_pos c29] at H
            have c29b0 : (t564 == t566) = true := beq_iff_eq.mpr c29
            have c29b1 : (t564 != t566) = false := bne_eq_false_iff_eq.mpr c29
            clear c29
            have H' := Aside0.mk H
            clear H
            have hnb30 := NB557_563.out
            have hnc30 := NB563_557.out
            have hcz31_0 : wr.cell? ⟨gb557, 0, none⟩ = some (.slice Ao17 t553.length co17) := (blk_cell BK557.out 0).trans rfl
            have hfz31_0 := blk_frozen BK557.out 0
            go_wp2_with (first | (go_at_call 25; (with_reducible refine (fen_Owner.calls k1 _ _ t553 x9_1 t564 t565 _ ?side1 ?side2 A25.out).mono ?_); (case side1 => repeat (first | exact (Kd.R_reads' HO_558000.out).2.2 | (with_reducible refine Kd.C_alloc ?_ _) | (with_reducible refine Kd.C_drewN ?_ _) | (with_reducible refine Kd.C_drew ?_))); (case side2 => exact (Kd.R_reads' HO_558000.out).2.1); rintro e w32 ⟨rfl, hb⟩; replace HO_3 := Aside0.mk (Kd.R_below (qr HO_3) hb); replace HO_558000 := Aside0.mk (Kd.R_below (qr HO_558000) hb); replace HO_564001 := Aside0.mk (Kd.R_below (qr HO_564001) hb); replace BK557 := Aside0.mk (qB BK557 hb); replace BK563 := Aside0.mk (qB BK563 hb); replace HB := Aside0.mk (below_step (qs HB) hb); (try clear hb); (try clear hb2); (try clear hk); (try clear hi)) | (go_at_call 26; (with_reducible refine (scan_Owner.calls k1 x9_1 _ _ t549 t566 t567 _ ?side1 ?side2 A26.out).mono ?_); (case side1 => repeat (first | exact (Kd.R_reads' HO_3.out).2.2 | (with_reducible refine Kd.C_alloc ?_ _) | (with_reducible refine Kd.C_drewN ?_ _) | (with_reducible refine Kd.C_drew ?_))); (case side2 => exact (Kd.R_reads' HO_3.out).2.1); rintro e w' ⟨rfl, ⟨nd, rfl⟩⟩; (try first | exact ⟨rfl, _, World.drewN_drewN _ _ _⟩ | exact ⟨rfl, _, Eq.trans (World.drewN_drewN _ _ _) (congrArg (World.drewN _) (Nat.add_assoc _ _ _))⟩)))
            repeat (go_quiet (first | (go_at_call 25; (with_reducible refine (fen_Owner.calls k1 _ _ t553 x9_1 t564 t565 _ ?side1 ?side2 A25.out).mono ?_); (case side1 => repeat (first | exact (Kd.R_reads' HO_558000.out).2.2 | (with_reducible refine Kd.C_alloc ?_ _) | (with_reducible refine Kd.C_drewN ?_ _) | (with_reducible refine Kd.C_drew ?_))); (case side2 => exact (Kd.R_reads' HO_558000.out).2.1); rintro e w32 ⟨rfl, hb⟩; replace HO_3 := Aside0.mk (Kd.R_below (qr HO_3) hb); replace HO_558000 := Aside0.mk (Kd.R_below (qr HO_558000) hb); replace HO_564001 := Aside0.mk (Kd.R_below (qr HO_564001) hb); replace BK557 := Aside0.mk (qB BK557 hb); replace BK563 := Aside0.mk (qB BK563 hb); replace HB := Aside0.mk (below_step (qs HB) hb); (try clear hb); (try clear hb2); (try clear hk); (try clear hi)) | (go_at_call 26; (with_reducible refine (scan_Owner.calls k1 x9_1 _ _ t549 t566 t567 _ ?side1 ?side2 A26.out).mono ?_); (case side1 => repeat (first | exact (Kd.R_reads' HO_3.out).2.2 | (with_reducible refine Kd.C_alloc ?_ _) | (with_reducible refine Kd.C_drewN ?_ _) | (with_reducible refine Kd.C_drew ?_))); (case side2 => exact (Kd.R_reads' HO_3.out).2.1); rintro e w' ⟨rfl, ⟨nd, rfl⟩⟩; (try first | exact ⟨rfl, _, World.drewN_drewN _ _ _⟩ | exact ⟨rfl, _, Eq.trans (World.drewN_drewN _ _ _) (congrArg (World.drewN _) (Nat.add_assoc _ _ _))⟩))); try go_wp2_with (first | (go_at_call 25; (with_reducible refine (fen_Owner.calls k1 _ _ t553 x9_1 t564 t565 _ ?side1 ?side2 A25.out).mono ?_); (case side1 => repeat (first | exact (Kd.R_reads' HO_558000.out).2.2 | (with_reducible refine Kd.C_alloc ?_ _) | (with_reducible refine Kd.C_drewN ?_ _) | (with_reducible refine Kd.C_drew ?_))); (case side2 => exact (Kd.R_reads' HO_558000.out).2.1); rintro e w32 ⟨rfl, hb⟩; replace HO_3 := Aside0.mk (Kd.R_below (qr HO_3) hb); replace HO_558000 := Aside0.mk (Kd.R_below (qr HO_558000) hb); replace HO_564001 := Aside0.mk (Kd.R_below (qr HO_564001) hb); replace BK557 := Aside0.mk (qB BK557 hb); replace BK563 := Aside0.mk (qB BK563 hb); replace HB := Aside0.mk (below_step (qs HB) hb); (try clear hb); (try clear hb2); (try clear hk); (try clear hi)) | (go_at_call 26; (with_reducible refine (scan_Owner.calls k1 x9_1 _ _ t549 t566 t567 _ ?side1 ?side2 A26.out).mono ?_); (case side1 => repeat (first | exact (Kd.R_reads' HO_3.out).2.2 | (with_reducible refine Kd.C_alloc ?_ _) | (with_reducible refine Kd.C_drewN ?_ _) | (with_reducible refine Kd.C_drew ?_))); (case side2 => exact (Kd.R_reads' HO_3.out).2.1); rintro e w' ⟨rfl, ⟨nd, rfl⟩⟩; (try first | exact ⟨rfl, _, World.drewN_drewN _ _ _⟩ | exact ⟨rfl, _, Eq.trans (World.drewN_drewN _ _ _) (congrArg (World.drewN _) (Nat.add_assoc _ _ _))⟩))))
            go_roundg k1
            case measure => have := HK1.out; omega
            case rel => exact ⟨(IntKind.u64.wrap (x9_1 + 1)), (by first | rfl | (simp; done) | (simp [*]; done)), H', ⟨by have := HK1.out; omega⟩, ⟨(qr HO_3)⟩, ⟨(qr HO_558000)⟩, ⟨(qr HO_564001)⟩, ⟨(qb BK557)⟩, ⟨(qb BK563)⟩, ⟨(qs HB)⟩⟩
           ·rw [if_neg c29] at H
            exact absurd H (by simp)
          ·rw [if_neg c28] at H
           exact absurd H (by simp)
         ·rw [if_neg c27] at H
          exact absurd H (by simp)
        ·rw [if_neg c24] at H
         have c24b0 : decide (x9_1 < t550) = false := decide_eq_false c24
         clear c24
         by_cases c33 : t562 = 0
         ·rw [if_pos c33] at H
          have c33b0 : (t562 == 0) = true := beq_iff_eq.mpr c33
          have c33b1 : (t562 != 0) = false := bne_eq_false_iff_eq.mpr c33
          clear c33
          by_cases c34 : 0 ≤ (l0.length : Int)
          ·rw [if_pos c34] at H
           have c34b0 := eq_true c34
           have c34b1 : decide (0 ≤ (l0.length : Int)) = true := decide_eq_true c34
           clear c34
           by_cases c35 : ((l0.length : Int) : Int).toNat ≤ 35184372088832
           ·rw [if_pos c35] at H
            have c35b0 := eq_true c35
            have c35b1 : decide (((l0.length : Int) : Int).toNat ≤ 35184372088832) = true := decide_eq_true c35
            clear c35
            obtain ⟨y568, hy568⟩ : ∃ y_ : List Int, y_ = (List.replicate ((l0.length : Int) : Int).toNat 0) := ⟨_, rfl⟩
            replace H : (drawlottop_WholeTickets.l1 k1 l0 t549 t550 y568 0 t558 t559) = some r := by first | (rw [hy568]; with_reducible exact H) | (have H2_ := (Option.bind_some _ _).symm.trans H; rw [hy568]; with_reducible exact H2_) | (have H2_ := (Option.bind_some _ _).symm.trans H; with_reducible exact H2_) | with_reducible exact H | (rw [hy568]; exact H) | exact H
            have Ny568 := Aside0.mk hy568
            clear hy568
            have H' := Aside0.mk H
            clear H
            go_wp2_with (first | ((with_reducible refine qd 80 ?_); (try (refine gate_guard (by rfl) ?_; dsimp only)); refine Kd.R_make (Kd.int .u64) _ 24 rfl (N := 80) rfl 22 _ _ rfl (l0.length : Int) rfl rfl Tryz.underlying22 (.int .u64 0) 8 info24 rfl (by decide) (by omega) 0 (ok := fun _ => True) (okp := fun _ => True) rfl (fun _ hk => hk) trivial qo (Nat.le_trans (Nat.mul_le_mul_right _ (of_decide_eq_true qa : (l0.length : Int).toNat ≤ 35184372088832)) (by omega)) (Below.refl _ _) (Nat.le_refl _) ?_; intro v569 w36 ho37 hb hg_ hnew_; clear hg_ hnew_; (first | rw [← Ny568.out] at ho37 | (simp only [Int.reduceToNat] at ho37; rw [← Ny568.out] at ho37)); replace HO_564001 := Aside0.mk (Kd.R_below (qr HO_564001) hb); have HO570 := Aside0.mk (Kd.R_lower (Kd.R_new' (Kd.R_new' ho37 (Kd.R_lt (qr HO_3))) (Kd.R_lt (qr HO_558000))) (below_size (qs HB))); replace HO_3 := Aside0.mk (Kd.R_elder' (qr HO_3) (Kd.R_base ho37) hb); replace HO_558000 := Aside0.mk (Kd.R_elder' (qr HO_558000) (Kd.R_base ho37) hb); replace BK557 := Aside0.mk (qB BK557 hb); replace BK563 := Aside0.mk (qB BK563 hb); replace HB := Aside0.mk (below_step (qs HB) hb); clear hb ho37))
            repeat (go_quiet (first | ((with_reducible refine qd 80 ?_); (try (refine gate_guard (by rfl) ?_; dsimp only)); refine Kd.R_make (Kd.int .u64) _ 24 rfl (N := 80) rfl 22 _ _ rfl (l0.length : Int) rfl rfl Tryz.underlying22 (.int .u64 0) 8 info24 rfl (by decide) (by omega) 0 (ok := fun _ => True) (okp := fun _ => True) rfl (fun _ hk => hk) trivial qo (Nat.le_trans (Nat.mul_le_mul_right _ (of_decide_eq_true qa : (l0.length : Int).toNat ≤ 35184372088832)) (by omega)) (Below.refl _ _) (Nat.le_refl _) ?_; intro v569 w36 ho37 hb hg_ hnew_; clear hg_ hnew_; (first | rw [← Ny568.out] at ho37 | (simp only [Int.reduceToNat] at ho37; rw [← Ny568.out] at ho37)); replace HO_564001 := Aside0.mk (Kd.R_below (qr HO_564001) hb); have HO570 := Aside0.mk (Kd.R_lower (Kd.R_new' (Kd.R_new' ho37 (Kd.R_lt (qr HO_3))) (Kd.R_lt (qr HO_558000))) (below_size (qs HB))); replace HO_3 := Aside0.mk (Kd.R_elder' (qr HO_3) (Kd.R_base ho37) hb); replace HO_558000 := Aside0.mk (Kd.R_elder' (qr HO_558000) (Kd.R_base ho37) hb); replace BK557 := Aside0.mk (qB BK557 hb); replace BK563 := Aside0.mk (qB BK563 hb); replace HB := Aside0.mk (below_step (qs HB) hb); clear hb ho37)); try go_wp2_with (first | ((with_reducible refine qd 80 ?_); (try (refine gate_guard (by rfl) ?_; dsimp only)); refine Kd.R_make (Kd.int .u64) _ 24 rfl (N := 80) rfl 22 _ _ rfl (l0.length : Int) rfl rfl Tryz.underlying22 (.int .u64 0) 8 info24 rfl (by decide) (by omega) 0 (ok := fun _ => True) (okp := fun _ => True) rfl (fun _ hk => hk) trivial qo (Nat.le_trans (Nat.mul_le_mul_right _ (of_decide_eq_true qa : (l0.length : Int).toNat ≤ 35184372088832)) (by omega)) (Below.refl _ _) (Nat.le_refl _) ?_; intro v569 w36 ho37 hb hg_ hnew_; clear hg_ hnew_; (first | rw [← Ny568.out] at ho37 | (simp only [Int.reduceToNat] at ho37; rw [← Ny568.out] at ho37)); replace HO_564001 := Aside0.mk (Kd.R_below (qr HO_564001) hb); have HO570 := Aside0.mk (Kd.R_lower (Kd.R_new' (Kd.R_new' ho37 (Kd.R_lt (qr HO_3))) (Kd.R_lt (qr HO_558000))) (below_size (qs HB))); replace HO_3 := Aside0.mk (Kd.R_elder' (qr HO_3) (Kd.R_base ho37) hb); replace HO_558000 := Aside0.mk (Kd.R_elder' (qr HO_558000) (Kd.R_base ho37) hb); replace BK557 := Aside0.mk (qB BK557 hb); replace BK563 := Aside0.mk (qB BK563 hb); replace HB := Aside0.mk (below_step (qs HB) hb); clear hb ho37)))
            go_loopg [15] k1 (fun kq v15 w' => ∃ (x14_2 : List Int) (x15_2 : Int), v15 = .int .u64 x15_2 ∧ Aside0 (drawlottop_WholeTickets.l1 kq l0 t549 t550 x14_2 x15_2 t558 t559 = some r) ∧ Aside0 (kq ≤ k1) ∧ Aside0 (Kd.R (Kd.int .u64) 24 w' w.heap.size (fun k_ => some k_ ≠ (v569 : Value).ownBlock ∧ some k_ ≠ ((.slice Ao17 t553.length co17) : Value).ownBlock) (.slice Ao14 t549.length co14) t549) ∧ Aside0 (Kd.R (Kd.int .u64) 24 w' w.heap.size (fun k_ => some k_ ≠ ((.slice Ao14 t549.length co14) : Value).ownBlock ∧ some k_ ≠ ((.slice Ao17 t553.length co17) : Value).ownBlock) v569 x14_2) ∧ Aside0 (Kd.R (Kd.int .u64) 24 w' w.heap.size (fun k_ => some k_ ≠ ((.slice Ao14 t549.length co14) : Value).ownBlock ∧ some k_ ≠ (v569 : Value).ownBlock) (.slice Ao17 t553.length co17) t553) ∧ Aside0 (Kd.R k96 96 w' w.heap.size (fun _ => True) (.slice Ao23 t559.length co23) t559) ∧ Aside0 (w'.heap[gb557]? = some (.cells #[(.slice Ao17 t553.length co17)] 54 (0, 0))) ∧ Aside0 (w'.heap[gb563]? = some (.cells #[.int .u64 t558, (.slice Ao23 t559.length co23)] 30 (0, 0))) ∧ Aside0 (Below w.heap.size w w'))
            case atStart => exact ⟨(y568), (0), (by first | rfl | (simp; done) | (simp [*]; done)), H', ⟨Nat.le_refl _⟩, ⟨by (with_reducible repeat (first | apply Kd.R_alloc | apply Kd.R_drewN | apply Kd.R_drew)); exact Kd.R_mono HO_3.out (fun _ hk => ⟨hk.2, hk.1⟩)⟩, ⟨by (with_reducible repeat (first | apply Kd.R_alloc | apply Kd.R_drewN | apply Kd.R_drew)); exact Kd.R_mono HO570.out (fun _ hk => ⟨hk.1.2, hk.2⟩)⟩, ⟨(qr HO_558000)⟩, ⟨(qr HO_564001)⟩, ⟨(qb BK557)⟩, ⟨(qb BK563)⟩, ⟨(qs HB)⟩⟩
            case round =>
             clear H'
             try clear c1
             try clear c2
             try clear p2
             try clear c3
             try clear c4
             try clear c4b0
             try clear c4b1
             try clear c5
             try clear c9
             try clear c9b0
             try clear c9b1
             try clear c10
             try clear c10b0
             try clear c10b1
             try clear c11
             try clear c11b0
             try clear c21
             try clear c24
             try clear c24b0
             try clear c27
             try clear c27b0
             try clear c27b1
             try clear c28
             try clear c28b0
             try clear c28b1
             try clear c29
             try clear c29b0
             try clear c29b1
             try clear c30
             try clear c33
             try clear c33b0
             try clear c33b1
             try clear c34
             try clear c34b0
             try clear c34b1
             try clear c35
             try clear c35b0
             try clear c35b1
             try clear hcz18_0
             try clear hcz22_0
             try clear hcz22_1
             try clear hcz31_0
             try clear hfz18_0
             try clear hfz22_0
             try clear hfz22_1
             try clear hfz31_0
             try clear p2
             obtain ⟨x14_2, x15_2, rfl, HA, HK2, HO_3, HO_14, HO_558000, HO_564001, BK557, BK563, HB⟩ := hrel
             cases gk with
             | zero => exact absurd HA.out (by simp [drawlottop_WholeTickets.l1])
             | succ k2 =>
              have H := HA.out
              clear HA
              simp only [drawlottop_WholeTickets.l1] at H
              by_cases c38 : x15_2 < (IntKind.u64.wrap ((IntKind.u64.wrap ((l0.length : Int))) * t550))
              ·rw [if_pos c38] at H
               have c38b0 : decide (x15_2 < (IntKind.u64.wrap ((IntKind.u64.wrap ((l0.length : Int))) * t550))) = true := decide_eq_true c38
               clear c38
               replace H := Option.bind_eq_some_iff.mp H
               obtain ⟨⟨t571, t572⟩, A390, H⟩ := H
               try dsimp only at H
               have A39 := Aside0.mk A390
               clear A390
               by_cases c40 : t572 = 0
               ·rw [if_pos c40] at H
                have c40b0 : (t572 == 0) = true := beq_iff_eq.mpr c40
                have c40b1 : (t572 != 0) = false := bne_eq_false_iff_eq.mpr c40
                clear c40
                by_cases c41 : t571 < 0
                ·rw [if_pos c41] at H
                 exact absurd H (by simp)
                ·rw [if_neg c41] at H
                 have c41b0 : decide (t571 < 0) = false := decide_eq_false c41
                 clear c41
                 by_cases c42 : t571 ≥ (x14_2.length : Int)
                 ·rw [if_pos c42] at H
                  exact absurd H (by simp)
                 ·rw [if_neg c42] at H
                  have c42b0 : decide ((x14_2.length : Int) ≤ t571) = false := decide_eq_false c42
                  clear c42
                  by_cases c43 : 0 ≤ t571
                  ·rw [if_pos c43] at H
                   have c43b0 : decide (0 ≤ t571) = true := decide_eq_true c43
                   clear c43
                   by_cases c44 : t571 < (x14_2.length : Int)
                   ·rw [if_pos c44] at H
                    have c44b0 : decide (t571 < (x14_2.length : Int)) = true := decide_eq_true c44
                    clear c44
                    obtain ⟨y574, hy574⟩ : ∃ y_ : List Int, y_ = (x14_2.set (t571 : Int).toNat (IntKind.u64.wrap ((rd x14_2 t571) + 1))) := ⟨_, rfl⟩
                    replace H : (drawlottop_WholeTickets.l1 k2 l0 t549 t550 y574 (IntKind.u64.wrap (x15_2 + 1)) t558 t559) = some r := by first | (rw [hy574]; with_reducible exact H) | (have H2_ := (Option.bind_some _ _).symm.trans H; rw [hy574]; with_reducible exact H2_) | (have H2_ := (Option.bind_some _ _).symm.trans H; with_reducible exact H2_) | with_reducible exact H | (rw [hy574]; exact H) | exact H
                    have Ny574 := Aside0.mk hy574
                    clear hy574
                    have H' := Aside0.mk H
                    clear H
                    have hnb46 := NB563_557.out
                    have hnc46 := NB557_563.out
                    have hcz47_0 : wr.cell? ⟨gb563, 0, none⟩ = some (.int .u64 t558) := (blk_cell BK563.out 0).trans rfl
                    have hcz47_1 : wr.cell? ⟨gb563, 1, none⟩ = some (.slice Ao23 t559.length co23) := (blk_cell BK563.out 1).trans rfl
                    have hfz47_0 := blk_frozen BK563.out 0
                    have hfz47_1 := blk_frozen BK563.out 1
                    go_wp2_with (first | (go_at_call 27; (with_reducible refine (alias_Owner.calls k2 t558 _ _ t559 x15_2 t571 t572 _ ?side1 ?side2 A39.out).mono ?_); (case side1 => repeat (first | exact (Kd.R_reads' HO_564001.out).2.2 | (with_reducible refine Kd.C_alloc ?_ _) | (with_reducible refine Kd.C_drewN ?_ _) | (with_reducible refine Kd.C_drew ?_))); (case side2 => exact (Kd.R_reads' HO_564001.out).2.1); rintro e w48 ⟨rfl, hb⟩; replace HO_3 := Aside0.mk (Kd.R_below (qr HO_3) hb); replace HO_14 := Aside0.mk (Kd.R_below (qr HO_14) hb); replace HO_558000 := Aside0.mk (Kd.R_below (qr HO_558000) hb); replace HO_564001 := Aside0.mk (Kd.R_below (qr HO_564001) hb); replace BK557 := Aside0.mk (qB BK557 hb); replace BK563 := Aside0.mk (qB BK563 hb); replace HB := Aside0.mk (below_step (qs HB) hb); (try clear hb); (try clear hb2); (try clear hk); (try clear hi); obtain ⟨Ao49, co49, eo49⟩ := Kd.R_slice HO_14.out; subst eo49; have p573 : 0 ≤ (t571 : Int) := of_decide_eq_true qa; have q573 : t571 < (x14_2.length : Int) := of_decide_eq_true qa; obtain ⟨ad573, e573, hx573_0⟩ := Kd.at_int (Kd.R_reads' HO_14.out).2.2 t571 p573 q573; cases e573; replace p573 := eq_true p573; replace q573 := eq_true q573; have p45 : 0 ≤ (t571 : Int) := of_decide_eq_true qa; have q45 : (t571 : Int) < ((x14_2.length : Int) : Int) := of_decide_eq_true qa; obtain ⟨go45, co45, eo45, gb45, gl45, cl45, HG45⟩ := Kd.R_form HO_14.out (by omega); (first | cases eo45 | (injection eo45 with ea_ en_ ec_; (first | subst ea_ | (injection ea_ with ea_; subst ea_)); subst ec_; clear en_)); have GB45 := Aside0.mk gb45; have GG45 := Aside0.mk HG45; clear gb45 gl45 HG45; (first | simp only [add_plain] at hx573_0 | skip); obtain ⟨hx45_0, hf45_0⟩ := Kd.R_celln 0 HO_14.out (t571 : Int) p45 q45; replace p45 := eq_true p45; replace q45 := eq_true q45; obtain ⟨hy50_, hz50_⟩ := Kd.R_celln 0 HO_14.out (t571 : Int) qo qo; have HP50 := Kd.R_putg HO_14.out (t571 : Int) (IntKind.u64.wrap ((rd x14_2 t571) + 1))) | ((with_reducible refine gate_store (t := 24) (p := 113) rfl ?_); (try (rw [drewN_self w48]; generalize hq_ : World.drewN w48 _ = w48; replace HO_3 := Aside0.mk (Kd.R_at hq_ HO_3.out); replace HO_14 := Aside0.mk (Kd.R_at hq_ HO_14.out); replace HO_558000 := Aside0.mk (Kd.R_at hq_ HO_558000.out); replace HO_564001 := Aside0.mk (Kd.R_at hq_ HO_564001.out); replace BK557 := Aside0.mk (blk_at hq_ BK557.out); replace BK563 := Aside0.mk (blk_at hq_ BK563.out); replace HB := Aside0.mk (below_at hq_ HB.out); clear hq_; (try (obtain ⟨hy50_, hz50_⟩ := Kd.R_celln 0 HO_14.out (t571 : Int) qo qo)); (try (have HP50 := Kd.R_putg HO_14.out (t571 : Int) (IntKind.u64.wrap ((rd x14_2 t571) + 1)))))); refine store_event (t := 24) (p := 113) (v := ?vo_w51) (w1 := (w48.setCell ⟨go45, (t571 : Int).toNat, none⟩ (.int .u64 (IntKind.u64.wrap ((rd x14_2 t571) + 1))))) ?hg ?ho ?hn ?hr ?_; (case ho => rfl); (case hg => rfl); (case hn => rfl); (case hr => first | (go_simp; done) | (go_simp; rfl)); intro w51 hw; have hg : w48.grownBy w51 (some go45) := (by rw [hw]; exact HP50.2); have hp_ : Kd.R (Kd.int .u64) 24 w51 w.heap.size (fun k_ => some k_ ≠ (.slice Ao14 t549.length co14 : Value).ownBlock ∧ some k_ ≠ (.slice Ao17 t553.length co17 : Value).ownBlock) (.slice (some ⟨go45, 0, none⟩) x14_2.length co49) y574 := (by rw [hw, Ny574.out]; exact HP50.1); clear HP50; replace HO_3 := Aside0.mk (Kd.R_after (v := (.slice (some ⟨go45, 0, none⟩) x14_2.length co49)) (v1 := (.slice (some ⟨go45, 0, none⟩) x14_2.length co49)) (ok := (fun k_ => some k_ ≠ (.slice Ao17 t553.length co17 : Value).ownBlock)) (by (with_reducible repeat (first | apply Kd.R_alloc | apply Kd.R_drewN | apply Kd.R_drew)); exact Kd.R_mono HO_3.out (fun _ hk => ⟨hk.2, hk.1⟩)) hg (.inl rfl)); replace HO_558000 := Aside0.mk (Kd.R_after (v := (.slice (some ⟨go45, 0, none⟩) x14_2.length co49)) (v1 := (.slice (some ⟨go45, 0, none⟩) x14_2.length co49)) (ok := (fun k_ => some k_ ≠ (.slice Ao14 t549.length co14 : Value).ownBlock)) (qr HO_558000) hg (.inl rfl)); replace HO_564001 := Aside0.mk (Kd.R_over' (v := (.slice (some ⟨go45, 0, none⟩) x14_2.length co49)) (qr HO_564001) (Kd.R_typed HO_14.out) (by decide) hg); replace BK557 := Aside0.mk (qG BK557 hg (Kd.R_ne HO_14.out BK557.out (by decide))); replace BK563 := Aside0.mk (qG BK563 hg (Kd.R_ne HO_14.out BK563.out (by decide))); replace HO_14 := Aside0.mk (hp_); replace HB := Aside0.mk ((by rw [hw]; exact below_set (HB.out) GB45.out : Below w.heap.size w w51)); clear hg hw hp_))
                    repeat (go_quiet (first | (go_at_call 27; (with_reducible refine (alias_Owner.calls k2 t558 _ _ t559 x15_2 t571 t572 _ ?side1 ?side2 A39.out).mono ?_); (case side1 => repeat (first | exact (Kd.R_reads' HO_564001.out).2.2 | (with_reducible refine Kd.C_alloc ?_ _) | (with_reducible refine Kd.C_drewN ?_ _) | (with_reducible refine Kd.C_drew ?_))); (case side2 => exact (Kd.R_reads' HO_564001.out).2.1); rintro e w48 ⟨rfl, hb⟩; replace HO_3 := Aside0.mk (Kd.R_below (qr HO_3) hb); replace HO_14 := Aside0.mk (Kd.R_below (qr HO_14) hb); replace HO_558000 := Aside0.mk (Kd.R_below (qr HO_558000) hb); replace HO_564001 := Aside0.mk (Kd.R_below (qr HO_564001) hb); replace BK557 := Aside0.mk (qB BK557 hb); replace BK563 := Aside0.mk (qB BK563 hb); replace HB := Aside0.mk (below_step (qs HB) hb); (try clear hb); (try clear hb2); (try clear hk); (try clear hi); obtain ⟨Ao49, co49, eo49⟩ := Kd.R_slice HO_14.out; subst eo49; have p573 : 0 ≤ (t571 : Int) := of_decide_eq_true qa; have q573 : t571 < (x14_2.length : Int) := of_decide_eq_true qa; obtain ⟨ad573, e573, hx573_0⟩ := Kd.at_int (Kd.R_reads' HO_14.out).2.2 t571 p573 q573; cases e573; replace p573 := eq_true p573; replace q573 := eq_true q573; have p45 : 0 ≤ (t571 : Int) := of_decide_eq_true qa; have q45 : (t571 : Int) < ((x14_2.length : Int) : Int) := of_decide_eq_true qa; obtain ⟨go45, co45, eo45, gb45, gl45, cl45, HG45⟩ := Kd.R_form HO_14.out (by omega); (first | cases eo45 | (injection eo45 with ea_ en_ ec_; (first | subst ea_ | (injection ea_ with ea_; subst ea_)); subst ec_; clear en_)); have GB45 := Aside0.mk gb45; have GG45 := Aside0.mk HG45; clear gb45 gl45 HG45; (first | simp only [add_plain] at hx573_0 | skip); obtain ⟨hx45_0, hf45_0⟩ := Kd.R_celln 0 HO_14.out (t571 : Int) p45 q45; replace p45 := eq_true p45; replace q45 := eq_true q45; obtain ⟨hy50_, hz50_⟩ := Kd.R_celln 0 HO_14.out (t571 : Int) qo qo; have HP50 := Kd.R_putg HO_14.out (t571 : Int) (IntKind.u64.wrap ((rd x14_2 t571) + 1))) | ((with_reducible refine gate_store (t := 24) (p := 113) rfl ?_); (try (rw [drewN_self w48]; generalize hq_ : World.drewN w48 _ = w48; replace HO_3 := Aside0.mk (Kd.R_at hq_ HO_3.out); replace HO_14 := Aside0.mk (Kd.R_at hq_ HO_14.out); replace HO_558000 := Aside0.mk (Kd.R_at hq_ HO_558000.out); replace HO_564001 := Aside0.mk (Kd.R_at hq_ HO_564001.out); replace BK557 := Aside0.mk (blk_at hq_ BK557.out); replace BK563 := Aside0.mk (blk_at hq_ BK563.out); replace HB := Aside0.mk (below_at hq_ HB.out); clear hq_; (try (obtain ⟨hy50_, hz50_⟩ := Kd.R_celln 0 HO_14.out (t571 : Int) qo qo)); (try (have HP50 := Kd.R_putg HO_14.out (t571 : Int) (IntKind.u64.wrap ((rd x14_2 t571) + 1)))))); refine store_event (t := 24) (p := 113) (v := ?vo_w51) (w1 := (w48.setCell ⟨go45, (t571 : Int).toNat, none⟩ (.int .u64 (IntKind.u64.wrap ((rd x14_2 t571) + 1))))) ?hg ?ho ?hn ?hr ?_; (case ho => rfl); (case hg => rfl); (case hn => rfl); (case hr => first | (go_simp; done) | (go_simp; rfl)); intro w51 hw; have hg : w48.grownBy w51 (some go45) := (by rw [hw]; exact HP50.2); have hp_ : Kd.R (Kd.int .u64) 24 w51 w.heap.size (fun k_ => some k_ ≠ (.slice Ao14 t549.length co14 : Value).ownBlock ∧ some k_ ≠ (.slice Ao17 t553.length co17 : Value).ownBlock) (.slice (some ⟨go45, 0, none⟩) x14_2.length co49) y574 := (by rw [hw, Ny574.out]; exact HP50.1); clear HP50; replace HO_3 := Aside0.mk (Kd.R_after (v := (.slice (some ⟨go45, 0, none⟩) x14_2.length co49)) (v1 := (.slice (some ⟨go45, 0, none⟩) x14_2.length co49)) (ok := (fun k_ => some k_ ≠ (.slice Ao17 t553.length co17 : Value).ownBlock)) (by (with_reducible repeat (first | apply Kd.R_alloc | apply Kd.R_drewN | apply Kd.R_drew)); exact Kd.R_mono HO_3.out (fun _ hk => ⟨hk.2, hk.1⟩)) hg (.inl rfl)); replace HO_558000 := Aside0.mk (Kd.R_after (v := (.slice (some ⟨go45, 0, none⟩) x14_2.length co49)) (v1 := (.slice (some ⟨go45, 0, none⟩) x14_2.length co49)) (ok := (fun k_ => some k_ ≠ (.slice Ao14 t549.length co14 : Value).ownBlock)) (qr HO_558000) hg (.inl rfl)); replace HO_564001 := Aside0.mk (Kd.R_over' (v := (.slice (some ⟨go45, 0, none⟩) x14_2.length co49)) (qr HO_564001) (Kd.R_typed HO_14.out) (by decide) hg); replace BK557 := Aside0.mk (qG BK557 hg (Kd.R_ne HO_14.out BK557.out (by decide))); replace BK563 := Aside0.mk (qG BK563 hg (Kd.R_ne HO_14.out BK563.out (by decide))); replace HO_14 := Aside0.mk (hp_); replace HB := Aside0.mk ((by rw [hw]; exact below_set (HB.out) GB45.out : Below w.heap.size w w51)); clear hg hw hp_)); try go_wp2_with (first | (go_at_call 27; (with_reducible refine (alias_Owner.calls k2 t558 _ _ t559 x15_2 t571 t572 _ ?side1 ?side2 A39.out).mono ?_); (case side1 => repeat (first | exact (Kd.R_reads' HO_564001.out).2.2 | (with_reducible refine Kd.C_alloc ?_ _) | (with_reducible refine Kd.C_drewN ?_ _) | (with_reducible refine Kd.C_drew ?_))); (case side2 => exact (Kd.R_reads' HO_564001.out).2.1); rintro e w48 ⟨rfl, hb⟩; replace HO_3 := Aside0.mk (Kd.R_below (qr HO_3) hb); replace HO_14 := Aside0.mk (Kd.R_below (qr HO_14) hb); replace HO_558000 := Aside0.mk (Kd.R_below (qr HO_558000) hb); replace HO_564001 := Aside0.mk (Kd.R_below (qr HO_564001) hb); replace BK557 := Aside0.mk (qB BK557 hb); replace BK563 := Aside0.mk (qB BK563 hb); replace HB := Aside0.mk (below_step (qs HB) hb); (try clear hb); (try clear hb2); (try clear hk); (try clear hi); obtain ⟨Ao49, co49, eo49⟩ := Kd.R_slice HO_14.out; subst eo49; have p573 : 0 ≤ (t571 : Int) := of_decide_eq_true qa; have q573 : t571 < (x14_2.length : Int) := of_decide_eq_true qa; obtain ⟨ad573, e573, hx573_0⟩ := Kd.at_int (Kd.R_reads' HO_14.out).2.2 t571 p573 q573; cases e573; replace p573 := eq_true p573; replace q573 := eq_true q573; have p45 : 0 ≤ (t571 : Int) := of_decide_eq_true qa; have q45 : (t571 : Int) < ((x14_2.length : Int) : Int) := of_decide_eq_true qa; obtain ⟨go45, co45, eo45, gb45, gl45, cl45, HG45⟩ := Kd.R_form HO_14.out (by omega); (first | cases eo45 | (injection eo45 with ea_ en_ ec_; (first | subst ea_ | (injection ea_ with ea_; subst ea_)); subst ec_; clear en_)); have GB45 := Aside0.mk gb45; have GG45 := Aside0.mk HG45; clear gb45 gl45 HG45; (first | simp only [add_plain] at hx573_0 | skip); obtain ⟨hx45_0, hf45_0⟩ := Kd.R_celln 0 HO_14.out (t571 : Int) p45 q45; replace p45 := eq_true p45; replace q45 := eq_true q45; obtain ⟨hy50_, hz50_⟩ := Kd.R_celln 0 HO_14.out (t571 : Int) qo qo; have HP50 := Kd.R_putg HO_14.out (t571 : Int) (IntKind.u64.wrap ((rd x14_2 t571) + 1))) | ((with_reducible refine gate_store (t := 24) (p := 113) rfl ?_); (try (rw [drewN_self w48]; generalize hq_ : World.drewN w48 _ = w48; replace HO_3 := Aside0.mk (Kd.R_at hq_ HO_3.out); replace HO_14 := Aside0.mk (Kd.R_at hq_ HO_14.out); replace HO_558000 := Aside0.mk (Kd.R_at hq_ HO_558000.out); replace HO_564001 := Aside0.mk (Kd.R_at hq_ HO_564001.out); replace BK557 := Aside0.mk (blk_at hq_ BK557.out); replace BK563 := Aside0.mk (blk_at hq_ BK563.out); replace HB := Aside0.mk (below_at hq_ HB.out); clear hq_; (try (obtain ⟨hy50_, hz50_⟩ := Kd.R_celln 0 HO_14.out (t571 : Int) qo qo)); (try (have HP50 := Kd.R_putg HO_14.out (t571 : Int) (IntKind.u64.wrap ((rd x14_2 t571) + 1)))))); refine store_event (t := 24) (p := 113) (v := ?vo_w51) (w1 := (w48.setCell ⟨go45, (t571 : Int).toNat, none⟩ (.int .u64 (IntKind.u64.wrap ((rd x14_2 t571) + 1))))) ?hg ?ho ?hn ?hr ?_; (case ho => rfl); (case hg => rfl); (case hn => rfl); (case hr => first | (go_simp; done) | (go_simp; rfl)); intro w51 hw; have hg : w48.grownBy w51 (some go45) := (by rw [hw]; exact HP50.2); have hp_ : Kd.R (Kd.int .u64) 24 w51 w.heap.size (fun k_ => some k_ ≠ (.slice Ao14 t549.length co14 : Value).ownBlock ∧ some k_ ≠ (.slice Ao17 t553.length co17 : Value).ownBlock) (.slice (some ⟨go45, 0, none⟩) x14_2.length co49) y574 := (by rw [hw, Ny574.out]; exact HP50.1); clear HP50; replace HO_3 := Aside0.mk (Kd.R_after (v := (.slice (some ⟨go45, 0, none⟩) x14_2.length co49)) (v1 := (.slice (some ⟨go45, 0, none⟩) x14_2.length co49)) (ok := (fun k_ => some k_ ≠ (.slice Ao17 t553.length co17 : Value).ownBlock)) (by (with_reducible repeat (first | apply Kd.R_alloc | apply Kd.R_drewN | apply Kd.R_drew)); exact Kd.R_mono HO_3.out (fun _ hk => ⟨hk.2, hk.1⟩)) hg (.inl rfl)); replace HO_558000 := Aside0.mk (Kd.R_after (v := (.slice (some ⟨go45, 0, none⟩) x14_2.length co49)) (v1 := (.slice (some ⟨go45, 0, none⟩) x14_2.length co49)) (ok := (fun k_ => some k_ ≠ (.slice Ao14 t549.length co14 : Value).ownBlock)) (qr HO_558000) hg (.inl rfl)); replace HO_564001 := Aside0.mk (Kd.R_over' (v := (.slice (some ⟨go45, 0, none⟩) x14_2.length co49)) (qr HO_564001) (Kd.R_typed HO_14.out) (by decide) hg); replace BK557 := Aside0.mk (qG BK557 hg (Kd.R_ne HO_14.out BK557.out (by decide))); replace BK563 := Aside0.mk (qG BK563 hg (Kd.R_ne HO_14.out BK563.out (by decide))); replace HO_14 := Aside0.mk (hp_); replace HB := Aside0.mk ((by rw [hw]; exact below_set (HB.out) GB45.out : Below w.heap.size w w51)); clear hg hw hp_)))
                    go_roundg k2
                    case measure => have := HK1.out; have := HK2.out; omega
                    case rel => exact ⟨(y574), (IntKind.u64.wrap (x15_2 + 1)), (by first | rfl | (simp; done) | (simp [*]; done)), H', ⟨by have := HK1.out; have := HK2.out; omega⟩, ⟨by (with_reducible repeat (first | apply Kd.R_alloc | apply Kd.R_drewN | apply Kd.R_drew)); exact Kd.R_mono HO_3.out (fun _ hk => ⟨hk.2, hk.1⟩)⟩, ⟨(qr HO_14)⟩, ⟨(qr HO_558000)⟩, ⟨(qr HO_564001)⟩, ⟨(qb BK557)⟩, ⟨(qb BK563)⟩, ⟨(qs HB)⟩⟩
                   ·rw [if_neg c44] at H
                    exact absurd H (by simp)
                  ·rw [if_neg c43] at H
                   exact absurd H (by simp)
               ·rw [if_neg c40] at H
                exact absurd H (by simp)
              ·rw [if_neg c38] at H
               have c38b0 : decide (x15_2 < (IntKind.u64.wrap ((IntKind.u64.wrap ((l0.length : Int))) * t550))) = false := decide_eq_false c38
               clear c38
               have H' := Aside0.mk H
               clear H
               go_wp2
               repeat (go_quiet (fail); try go_wp2)
               go_loopg [18] k2 (fun kq v18 w' => ∃ (x18_3 : Int), v18 = .int .i64 x18_3 ∧ Aside0 (drawlottop_WholeTickets.l2 kq l0 t549 x14_2 x18_3 = some r) ∧ Aside0 (kq ≤ k2) ∧ Aside0 (Kd.R (Kd.int .u64) 24 w' w.heap.size (fun k_ => some k_ ≠ (v569 : Value).ownBlock ∧ some k_ ≠ ((.slice Ao17 t553.length co17) : Value).ownBlock) (.slice Ao14 t549.length co14) t549) ∧ Aside0 (Kd.R (Kd.int .u64) 24 w' w.heap.size (fun k_ => some k_ ≠ ((.slice Ao14 t549.length co14) : Value).ownBlock ∧ some k_ ≠ ((.slice Ao17 t553.length co17) : Value).ownBlock) v569 x14_2) ∧ Aside0 (Kd.R (Kd.int .u64) 24 w' w.heap.size (fun k_ => some k_ ≠ ((.slice Ao14 t549.length co14) : Value).ownBlock ∧ some k_ ≠ (v569 : Value).ownBlock) (.slice Ao17 t553.length co17) t553) ∧ Aside0 (Kd.R k96 96 w' w.heap.size (fun _ => True) (.slice Ao23 t559.length co23) t559) ∧ Aside0 (w'.heap[gb557]? = some (.cells #[(.slice Ao17 t553.length co17)] 54 (0, 0))) ∧ Aside0 (w'.heap[gb563]? = some (.cells #[.int .u64 t558, (.slice Ao23 t559.length co23)] 30 (0, 0))) ∧ Aside0 (Below w.heap.size w w'))
               case atStart => exact ⟨(0), (by first | rfl | (simp; done) | (simp [*]; done)), H', ⟨Nat.le_refl _⟩, ⟨(qr HO_3)⟩, ⟨(qr HO_14)⟩, ⟨(qr HO_558000)⟩, ⟨(qr HO_564001)⟩, ⟨(qb BK557)⟩, ⟨(qb BK563)⟩, ⟨(qs HB)⟩⟩
               case round =>
                clear H'
                try clear c1
                try clear c2
                try clear p2
                try clear c3
                try clear c4
                try clear c4b0
                try clear c4b1
                try clear p4
                try clear q4
                try clear hx4
                try clear hf4
                try clear c5
                try clear p5
                try clear q5
                try clear hx5
                try clear c9
                try clear c9b0
                try clear c9b1
                try clear c10
                try clear c10b0
                try clear c10b1
                try clear c11
                try clear c11b0
                try clear c21
                try clear c24
                try clear c24b0
                try clear c27
                try clear c27b0
                try clear c27b1
                try clear c28
                try clear c28b0
                try clear c28b1
                try clear c29
                try clear c29b0
                try clear c29b1
                try clear c30
                try clear c33
                try clear c33b0
                try clear c33b1
                try clear c34
                try clear c34b0
                try clear c34b1
                try clear c35
                try clear c35b0
                try clear c35b1
                try clear c38
                try clear c38b0
                try clear c40
                try clear c40b0
                try clear c40b1
                try clear c41
                try clear c41b0
                try clear c42
                try clear c42b0
                try clear c43
                try clear c43b0
                try clear c44
                try clear c44b0
                try clear p45
                try clear q45
                try clear hx45
                try clear hf45
                try clear c46
                try clear hcz18_0
                try clear hcz22_0
                try clear hcz22_1
                try clear hcz31_0
                try clear hcz47_0
                try clear hcz47_1
                try clear hfz18_0
                try clear hfz22_0
                try clear hfz22_1
                try clear hfz31_0
                try clear hfz47_0
                try clear hfz47_1
                try clear hx45_0
                try clear hx573_0
                try clear p2
                try clear p45
                try clear p573
                try clear q45
                try clear q573
                obtain ⟨x18_3, rfl, HA, HK3, HO_3, HO_14, HO_558000, HO_564001, BK557, BK563, HB⟩ := hrel
                cases gk with
                | zero => exact absurd HA.out (by simp [drawlottop_WholeTickets.l2])
                | succ k3 =>
                 have H := HA.out
                 clear HA
                 simp only [drawlottop_WholeTickets.l2] at H
                 by_cases c52 : x18_3 < (l0.length : Int)
                 ·rw [if_pos c52] at H
                  have c52b0 : decide (x18_3 < (l0.length : Int)) = true := decide_eq_true c52
                  clear c52
                  by_cases c53 : 0 ≤ x18_3
                  ·rw [if_pos c53] at H
                   have c53b0 : decide (0 ≤ x18_3) = true := decide_eq_true c53
                   clear c53
                   by_cases c54 : x18_3 < (x14_2.length : Int)
                   ·rw [if_pos c54] at H
                    have c54b0 : decide (x18_3 < (x14_2.length : Int)) = true := decide_eq_true c54
                    clear c54
                    by_cases c55 : x18_3 < (t549.length : Int)
                    ·rw [if_pos c55] at H
                     have c55b0 : decide (x18_3 < (t549.length : Int)) = true := decide_eq_true c55
                     clear c55
                     by_cases c56 : (rd x14_2 x18_3) = (IntKind.u64.wrap ((IntKind.u64.wrap ((l0.length : Int))) * (rd t549 x18_3)))
                     ·rw [if_pos c56] at H
                      have c56b0 : ((rd x14_2 x18_3) == (IntKind.u64.wrap ((IntKind.u64.wrap ((l0.length : Int))) * (rd t549 x18_3)))) = true := beq_iff_eq.mpr c56
                      have c56b1 : ((rd x14_2 x18_3) != (IntKind.u64.wrap ((IntKind.u64.wrap ((l0.length : Int))) * (rd t549 x18_3)))) = false := bne_eq_false_iff_eq.mpr c56
                      clear c56
                      have H' := Aside0.mk H
                      clear H
                      obtain ⟨Ao57, co57, eo57⟩ := Kd.R_slice HO_14.out
                      subst eo57
                      have p575 : 0 ≤ (x18_3 : Int) := of_decide_eq_true qa
                      have q575 : x18_3 < (x14_2.length : Int) := of_decide_eq_true qa
                      obtain ⟨ad575, e575, hx575_0⟩ := Kd.at_int (Kd.R_reads' HO_14.out).2.2 x18_3 p575 q575
                      cases e575
                      replace p575 := eq_true p575
                      replace q575 := eq_true q575
                      have p576 : 0 ≤ (x18_3 : Int) := of_decide_eq_true qa
                      have q576 : x18_3 < (t549.length : Int) := of_decide_eq_true qa
                      obtain ⟨ad576, e576, hx576_0⟩ := Kd.at_int (Kd.R_reads' HO_3.out).2.2 x18_3 p576 q576
                      cases e576
                      replace p576 := eq_true p576
                      replace q576 := eq_true q576
                      go_wp2
                      repeat (go_quiet (fail); try go_wp2)
                      go_roundg k3
                      case measure => have := HK1.out; have := HK2.out; have := HK3.out; omega
                      case rel => exact ⟨(wrap64 (x18_3 + 1)), (by first | rfl | (simp; done) | (simp [*]; done)), H', ⟨by have := HK1.out; have := HK2.out; have := HK3.out; omega⟩, ⟨(qr HO_3)⟩, ⟨(qr HO_14)⟩, ⟨(qr HO_558000)⟩, ⟨(qr HO_564001)⟩, ⟨(qb BK557)⟩, ⟨(qb BK563)⟩, ⟨(qs HB)⟩⟩
                     ·rw [if_neg c56] at H
                      exact absurd H (by simp)
                    ·rw [if_neg c55] at H
                     exact absurd H (by simp)
                   ·rw [if_neg c54] at H
                    exact absurd H (by simp)
                  ·rw [if_neg c53] at H
                   exact absurd H (by simp)
                 ·rw [if_neg c52] at H
                  have c52b0 : decide (x18_3 < (l0.length : Int)) = false := decide_eq_false c52
                  clear c52
                  obtain rfl := Option.some.inj H
                  go_wp2
                  repeat (go_quiet (fail); try go_wp2)
                  go_ret
                  exact ⟨by first | rfl | (simp [errW_none, errW_some] <;> rfl) | (simp [*, errW_none, errW_some] <;> rfl), (qs HB)⟩
           ·rw [if_neg c35] at H
            exact absurd H (by simp)
          ·rw [if_neg c34] at H
           exact absurd H (by simp)
         ·rw [if_neg c33] at H
          have c33b0 : (t562 == 0) = false := beq_eq_false_iff_ne.mpr c33
          have c33b1 : (t562 != 0) = true := bne_iff_ne.mpr c33
          obtain rfl := Option.some.inj H
          go_wp2
          repeat (go_quiet (fail); try go_wp2)
          go_ret
          exact ⟨by first | rfl | (simp [errW_none, errW_some] <;> rfl) | (simp [*, errW_none, errW_some] <;> rfl), (qs HB)⟩
     ·rw [if_neg c11] at H
      exact absurd H (by simp)
    ·rw [if_neg c10] at H
     have c10b0 : (t562 == 0) = false := beq_eq_false_iff_ne.mpr c10
     have c10b1 : (t562 != 0) = true := bne_iff_ne.mpr c10
     by_cases c58 : t550 > 0
     ·rw [if_pos c58] at H
      exact absurd H (by simp)
     ·rw [if_neg c58] at H
      have c58b0 : decide (0 < t550) = false := decide_eq_false c58
      clear c58
      have H' := Aside0.mk H
      clear H
      go_enter Tryz.func5, Tryz.ntmps5
      try simp only [List.append]
      go_wp2_with (first | (go_at_call 9; (with_reducible refine (drawlottop_alive17.calls k  true _ A2.out).mono ?_); rintro e w59 ⟨rfl, hb⟩; replace HB := Aside0.mk (below_step (qs HB) hb); (try clear hb); (try clear hb2); (try clear hk); (try clear hi)) | (go_at_call 10; (with_reducible refine (drawlottop_small.calls k _ _ l0 40 t549 t550 _ ?side1 ?side2 A6.out).mono ?_); (case side1 => repeat (first | exact (Kd.C_below HR0.out HB.out) | (with_reducible refine Kd.C_alloc ?_ _) | (with_reducible refine Kd.C_drewN ?_ _) | (with_reducible refine Kd.C_drew ?_))); (case side2 => exact HC0.out); rintro e w60 ⟨v551, rfl, ho0, hb⟩; have HO552 := Aside0.mk (Kd.R_lower ho0 (below_size (qs HB))); replace HB := Aside0.mk (below_step (qs HB) hb); (try clear hb); (try clear hb2); (try clear hk); (try clear hi); (try clear ho0); obtain ⟨Ao61, co61, eo61⟩ := Kd.R_slice HO552.out; subst eo61) | (go_at_call 22; (with_reducible refine (fen_Build.calls k _ _ t549 t553 t556 _ ?side1 ?side2 A7.out).mono ?_); (case side1 => repeat (first | exact (Kd.R_reads' HO552.out).2.2 | (with_reducible refine Kd.C_alloc ?_ _) | (with_reducible refine Kd.C_drewN ?_ _) | (with_reducible refine Kd.C_drew ?_))); (case side2 => exact (Kd.R_reads' HO552.out).2.1); rintro e w62 ⟨v554, rfl, ho0, hb⟩; have HO555 := Aside0.mk (Kd.R_lower (Kd.R_new' ho0 (Kd.R_lt (qr HO552))) (below_size (qs HB))); replace HO552 := Aside0.mk (Kd.R_elder' (qr HO552) (Kd.R_base ho0) hb); replace HB := Aside0.mk (below_step (qs HB) hb); (try clear hb); (try clear hb2); (try clear hk); (try clear hi); (try clear ho0)) | ((with_reducible refine qd 5 ?_); (try (refine gate_guard (by rfl) ?_; dsimp only)); refine box_event ?hg (N := 5) ?hd (cs := #[.slice none 0 0]) (t := 54) ?hr ?_; (case hd => rfl); (case hg => rfl); (case hr => first | (go_simp; done) | (go_simp; rfl)); intro gb557 hg w63 hbox hb; replace HO552 := Aside0.mk (Kd.R_below (qr HO552) hb); replace HO555 := Aside0.mk (Kd.R_below (qr HO555) hb); have BK557 := Aside0.mk (hbox); have GW557 := Aside0.mk (qe HB hg); have GE557 := Aside0.mk (qe HB hg); replace HB := Aside0.mk (below_step (qs HB) hb); clear hb hbox hg; obtain ⟨Ao64, co64, eo64⟩ := Kd.R_slice HO555.out; subst eo64; have hcz65_0 : w63.cell? ⟨gb557, 0, none⟩ = some (.slice none 0 0) := (blk_cell BK557.out 0).trans rfl; have hfz65_0 := blk_frozen BK557.out 0) | (go_at_call 12; (with_reducible refine (alias_Build.calls k _ _ t549 t558 t559 t562 _ ?side1 ?side2 A8.out).mono ?_); (case side1 => refine (Kd.R_reads' (e := 24) (base := w.heap.size) (ok := fun k_ => (True ∧ some k_ ≠ (.slice Ao64 t553.length co64 : Value).ownBlock)) (n := t549.length) (c := co61) ?_).2.2; exact (by (with_reducible repeat (first | apply Kd.R_alloc | apply Kd.R_drewN | apply Kd.R_drew)); exact (Kd.R_mono (Kd.R_far (p := ⟨gb557, 0, none⟩) (Kd.R_types HO552.out BK557.out (by decide)) (fun _ hk => hk.2) (.slice Ao64 t553.length co64)) (fun _ h_ => h_.1)))); (case side2 => exact (Kd.R_reads' HO552.out).2.1); rintro e w66 ⟨v560, rfl, ho0, hb⟩; replace HO552 := Aside0.mk (Kd.R_below (by (with_reducible repeat (first | apply Kd.R_alloc | apply Kd.R_drewN | apply Kd.R_drew)); exact (Kd.R_mono (Kd.R_far (p := ⟨gb557, 0, none⟩) (Kd.R_types HO552.out BK557.out (by decide)) (fun _ hk => hk.2) (.slice Ao64 t553.length co64)) (fun _ h_ => h_.1))) hb); replace HO555 := Aside0.mk (Kd.R_below (by (with_reducible repeat (first | apply Kd.R_alloc | apply Kd.R_drewN | apply Kd.R_drew)); exact (Kd.R_mono (Kd.R_far (p := ⟨gb557, 0, none⟩) (Kd.R_types HO555.out BK557.out (by decide)) (fun _ hk => hk.2) (.slice Ao64 t553.length co64)) (fun _ h_ => h_.1))) hb); have HO561 := Aside0.mk (Kd.R_lower ho0 (below_size (qs HB))); replace BK557 := Aside0.mk (blk_below (g := gb557) (o := .cells #[.slice Ao64 t553.length co64] 54 (0, 0)) (by (with_reducible repeat (first | refine blk_drewN ?_ _ | refine blk_drew ?_ | refine blk_alloc ?_ _)); refine blk_put (cs := #[.slice none 0 0]) ?_ 0 _ rfl; (with_reducible repeat (first | refine blk_drewN ?_ _ | refine blk_drew ?_ | refine blk_alloc ?_ _)); exact BK557.out) hb); replace HB := Aside0.mk (below_step (qs HB) hb); (try clear hb); (try clear hb2); (try clear hk); (try clear hi); (try clear ho0)) | ((with_reducible refine qd 7 ?_); (try (refine gate_guard (by rfl) ?_; dsimp only)); refine box_event ?hg (N := 7) ?hd (cs := #[.int .u64 0, .slice none 0 0]) (t := 30) ?hr ?_; (case hd => rfl); (case hg => rfl); (case hr => first | (go_simp; done) | (go_simp; rfl)); intro gb563 hg w67 hbox hb; replace HO552 := Aside0.mk (Kd.R_below (qr HO552) hb); replace HO555 := Aside0.mk (Kd.R_below (qr HO555) hb); replace HO561 := Aside0.mk (Kd.R_below (qr HO561) hb); have BK563 := Aside0.mk (hbox); have GW563 := Aside0.mk (qe HB hg); have GE563 := Aside0.mk (qe HB hg); replace HB := Aside0.mk (below_step (qs HB) hb); have NB557_563 := Aside0.mk (qu BK557 hg); have NB563_557 := Aside0.mk (qw BK557 hg); replace BK557 := Aside0.mk (qB BK557 hb); clear hb hbox hg; have hnb68 := NB563_557.out; have hnc68 := NB557_563.out; have hcz69_0 : w67.cell? ⟨gb563, 0, none⟩ = some (.int .u64 0) := (blk_cell BK563.out 0).trans rfl; have hcz69_1 : w67.cell? ⟨gb563, 1, none⟩ = some (.slice none 0 0) := (blk_cell BK563.out 1).trans rfl; have hfz69_0 := blk_frozen BK563.out 0; have hfz69_1 := blk_frozen BK563.out 1; obtain ⟨Ao70, co70, eo70⟩ := Kd.R_slice HO561.out; subst eo70))
      repeat (go_quiet (first | (go_at_call 9; (with_reducible refine (drawlottop_alive17.calls k  true _ A2.out).mono ?_); rintro e w59 ⟨rfl, hb⟩; replace HB := Aside0.mk (below_step (qs HB) hb); (try clear hb); (try clear hb2); (try clear hk); (try clear hi)) | (go_at_call 10; (with_reducible refine (drawlottop_small.calls k _ _ l0 40 t549 t550 _ ?side1 ?side2 A6.out).mono ?_); (case side1 => repeat (first | exact (Kd.C_below HR0.out HB.out) | (with_reducible refine Kd.C_alloc ?_ _) | (with_reducible refine Kd.C_drewN ?_ _) | (with_reducible refine Kd.C_drew ?_))); (case side2 => exact HC0.out); rintro e w60 ⟨v551, rfl, ho0, hb⟩; have HO552 := Aside0.mk (Kd.R_lower ho0 (below_size (qs HB))); replace HB := Aside0.mk (below_step (qs HB) hb); (try clear hb); (try clear hb2); (try clear hk); (try clear hi); (try clear ho0); obtain ⟨Ao61, co61, eo61⟩ := Kd.R_slice HO552.out; subst eo61) | (go_at_call 22; (with_reducible refine (fen_Build.calls k _ _ t549 t553 t556 _ ?side1 ?side2 A7.out).mono ?_); (case side1 => repeat (first | exact (Kd.R_reads' HO552.out).2.2 | (with_reducible refine Kd.C_alloc ?_ _) | (with_reducible refine Kd.C_drewN ?_ _) | (with_reducible refine Kd.C_drew ?_))); (case side2 => exact (Kd.R_reads' HO552.out).2.1); rintro e w62 ⟨v554, rfl, ho0, hb⟩; have HO555 := Aside0.mk (Kd.R_lower (Kd.R_new' ho0 (Kd.R_lt (qr HO552))) (below_size (qs HB))); replace HO552 := Aside0.mk (Kd.R_elder' (qr HO552) (Kd.R_base ho0) hb); replace HB := Aside0.mk (below_step (qs HB) hb); (try clear hb); (try clear hb2); (try clear hk); (try clear hi); (try clear ho0)) | ((with_reducible refine qd 5 ?_); (try (refine gate_guard (by rfl) ?_; dsimp only)); refine box_event ?hg (N := 5) ?hd (cs := #[.slice none 0 0]) (t := 54) ?hr ?_; (case hd => rfl); (case hg => rfl); (case hr => first | (go_simp; done) | (go_simp; rfl)); intro gb557 hg w63 hbox hb; replace HO552 := Aside0.mk (Kd.R_below (qr HO552) hb); replace HO555 := Aside0.mk (Kd.R_below (qr HO555) hb); have BK557 := Aside0.mk (hbox); have GW557 := Aside0.mk (qe HB hg); have GE557 := Aside0.mk (qe HB hg); replace HB := Aside0.mk (below_step (qs HB) hb); clear hb hbox hg; obtain ⟨Ao64, co64, eo64⟩ := Kd.R_slice HO555.out; subst eo64; have hcz65_0 : w63.cell? ⟨gb557, 0, none⟩ = some (.slice none 0 0) := (blk_cell BK557.out 0).trans rfl; have hfz65_0 := blk_frozen BK557.out 0) | (go_at_call 12; (with_reducible refine (alias_Build.calls k _ _ t549 t558 t559 t562 _ ?side1 ?side2 A8.out).mono ?_); (case side1 => refine (Kd.R_reads' (e := 24) (base := w.heap.size) (ok := fun k_ => (True ∧ some k_ ≠ (.slice Ao64 t553.length co64 : Value).ownBlock)) (n := t549.length) (c := co61) ?_).2.2; exact (by (with_reducible repeat (first | apply Kd.R_alloc | apply Kd.R_drewN | apply Kd.R_drew)); exact (Kd.R_mono (Kd.R_far (p := ⟨gb557, 0, none⟩) (Kd.R_types HO552.out BK557.out (by decide)) (fun _ hk => hk.2) (.slice Ao64 t553.length co64)) (fun _ h_ => h_.1)))); (case side2 => exact (Kd.R_reads' HO552.out).2.1); rintro e w66 ⟨v560, rfl, ho0, hb⟩; replace HO552 := Aside0.mk (Kd.R_below (by (with_reducible repeat (first | apply Kd.R_alloc | apply Kd.R_drewN | apply Kd.R_drew)); exact (Kd.R_mono (Kd.R_far (p := ⟨gb557, 0, none⟩) (Kd.R_types HO552.out BK557.out (by decide)) (fun _ hk => hk.2) (.slice Ao64 t553.length co64)) (fun _ h_ => h_.1))) hb); replace HO555 := Aside0.mk (Kd.R_below (by (with_reducible repeat (first | apply Kd.R_alloc | apply Kd.R_drewN | apply Kd.R_drew)); exact (Kd.R_mono (Kd.R_far (p := ⟨gb557, 0, none⟩) (Kd.R_types HO555.out BK557.out (by decide)) (fun _ hk => hk.2) (.slice Ao64 t553.length co64)) (fun _ h_ => h_.1))) hb); have HO561 := Aside0.mk (Kd.R_lower ho0 (below_size (qs HB))); replace BK557 := Aside0.mk (blk_below (g := gb557) (o := .cells #[.slice Ao64 t553.length co64] 54 (0, 0)) (by (with_reducible repeat (first | refine blk_drewN ?_ _ | refine blk_drew ?_ | refine blk_alloc ?_ _)); refine blk_put (cs := #[.slice none 0 0]) ?_ 0 _ rfl; (with_reducible repeat (first | refine blk_drewN ?_ _ | refine blk_drew ?_ | refine blk_alloc ?_ _)); exact BK557.out) hb); replace HB := Aside0.mk (below_step (qs HB) hb); (try clear hb); (try clear hb2); (try clear hk); (try clear hi); (try clear ho0)) | ((with_reducible refine qd 7 ?_); (try (refine gate_guard (by rfl) ?_; dsimp only)); refine box_event ?hg (N := 7) ?hd (cs := #[.int .u64 0, .slice none 0 0]) (t := 30) ?hr ?_; (case hd => rfl); (case hg => rfl); (case hr => first | (go_simp; done) | (go_simp; rfl)); intro gb563 hg w67 hbox hb; replace HO552 := Aside0.mk (Kd.R_below (qr HO552) hb); replace HO555 := Aside0.mk (Kd.R_below (qr HO555) hb); replace HO561 := Aside0.mk (Kd.R_below (qr HO561) hb); have BK563 := Aside0.mk (hbox); have GW563 := Aside0.mk (qe HB hg); have GE563 := Aside0.mk (qe HB hg); replace HB := Aside0.mk (below_step (qs HB) hb); have NB557_563 := Aside0.mk (qu BK557 hg); have NB563_557 := Aside0.mk (qw BK557 hg); replace BK557 := Aside0.mk (qB BK557 hb); clear hb hbox hg; have hnb68 := NB563_557.out; have hnc68 := NB557_563.out; have hcz69_0 : w67.cell? ⟨gb563, 0, none⟩ = some (.int .u64 0) := (blk_cell BK563.out 0).trans rfl; have hcz69_1 : w67.cell? ⟨gb563, 1, none⟩ = some (.slice none 0 0) := (blk_cell BK563.out 1).trans rfl; have hfz69_0 := blk_frozen BK563.out 0; have hfz69_1 := blk_frozen BK563.out 1; obtain ⟨Ao70, co70, eo70⟩ := Kd.R_slice HO561.out; subst eo70)); try go_wp2_with (first | (go_at_call 9; (with_reducible refine (drawlottop_alive17.calls k  true _ A2.out).mono ?_); rintro e w59 ⟨rfl, hb⟩; replace HB := Aside0.mk (below_step (qs HB) hb); (try clear hb); (try clear hb2); (try clear hk); (try clear hi)) | (go_at_call 10; (with_reducible refine (drawlottop_small.calls k _ _ l0 40 t549 t550 _ ?side1 ?side2 A6.out).mono ?_); (case side1 => repeat (first | exact (Kd.C_below HR0.out HB.out) | (with_reducible refine Kd.C_alloc ?_ _) | (with_reducible refine Kd.C_drewN ?_ _) | (with_reducible refine Kd.C_drew ?_))); (case side2 => exact HC0.out); rintro e w60 ⟨v551, rfl, ho0, hb⟩; have HO552 := Aside0.mk (Kd.R_lower ho0 (below_size (qs HB))); replace HB := Aside0.mk (below_step (qs HB) hb); (try clear hb); (try clear hb2); (try clear hk); (try clear hi); (try clear ho0); obtain ⟨Ao61, co61, eo61⟩ := Kd.R_slice HO552.out; subst eo61) | (go_at_call 22; (with_reducible refine (fen_Build.calls k _ _ t549 t553 t556 _ ?side1 ?side2 A7.out).mono ?_); (case side1 => repeat (first | exact (Kd.R_reads' HO552.out).2.2 | (with_reducible refine Kd.C_alloc ?_ _) | (with_reducible refine Kd.C_drewN ?_ _) | (with_reducible refine Kd.C_drew ?_))); (case side2 => exact (Kd.R_reads' HO552.out).2.1); rintro e w62 ⟨v554, rfl, ho0, hb⟩; have HO555 := Aside0.mk (Kd.R_lower (Kd.R_new' ho0 (Kd.R_lt (qr HO552))) (below_size (qs HB))); replace HO552 := Aside0.mk (Kd.R_elder' (qr HO552) (Kd.R_base ho0) hb); replace HB := Aside0.mk (below_step (qs HB) hb); (try clear hb); (try clear hb2); (try clear hk); (try clear hi); (try clear ho0)) | ((with_reducible refine qd 5 ?_); (try (refine gate_guard (by rfl) ?_; dsimp only)); refine box_event ?hg (N := 5) ?hd (cs := #[.slice none 0 0]) (t := 54) ?hr ?_; (case hd => rfl); (case hg => rfl); (case hr => first | (go_simp; done) | (go_simp; rfl)); intro gb557 hg w63 hbox hb; replace HO552 := Aside0.mk (Kd.R_below (qr HO552) hb); replace HO555 := Aside0.mk (Kd.R_below (qr HO555) hb); have BK557 := Aside0.mk (hbox); have GW557 := Aside0.mk (qe HB hg); have GE557 := Aside0.mk (qe HB hg); replace HB := Aside0.mk (below_step (qs HB) hb); clear hb hbox hg; obtain ⟨Ao64, co64, eo64⟩ := Kd.R_slice HO555.out; subst eo64; have hcz65_0 : w63.cell? ⟨gb557, 0, none⟩ = some (.slice none 0 0) := (blk_cell BK557.out 0).trans rfl; have hfz65_0 := blk_frozen BK557.out 0) | (go_at_call 12; (with_reducible refine (alias_Build.calls k _ _ t549 t558 t559 t562 _ ?side1 ?side2 A8.out).mono ?_); (case side1 => refine (Kd.R_reads' (e := 24) (base := w.heap.size) (ok := fun k_ => (True ∧ some k_ ≠ (.slice Ao64 t553.length co64 : Value).ownBlock)) (n := t549.length) (c := co61) ?_).2.2; exact (by (with_reducible repeat (first | apply Kd.R_alloc | apply Kd.R_drewN | apply Kd.R_drew)); exact (Kd.R_mono (Kd.R_far (p := ⟨gb557, 0, none⟩) (Kd.R_types HO552.out BK557.out (by decide)) (fun _ hk => hk.2) (.slice Ao64 t553.length co64)) (fun _ h_ => h_.1)))); (case side2 => exact (Kd.R_reads' HO552.out).2.1); rintro e w66 ⟨v560, rfl, ho0, hb⟩; replace HO552 := Aside0.mk (Kd.R_below (by (with_reducible repeat (first | apply Kd.R_alloc | apply Kd.R_drewN | apply Kd.R_drew)); exact (Kd.R_mono (Kd.R_far (p := ⟨gb557, 0, none⟩) (Kd.R_types HO552.out BK557.out (by decide)) (fun _ hk => hk.2) (.slice Ao64 t553.length co64)) (fun _ h_ => h_.1))) hb); replace HO555 := Aside0.mk (Kd.R_below (by (with_reducible repeat (first | apply Kd.R_alloc | apply Kd.R_drewN | apply Kd.R_drew)); exact (Kd.R_mono (Kd.R_far (p := ⟨gb557, 0, none⟩) (Kd.R_types HO555.out BK557.out (by decide)) (fun _ hk => hk.2) (.slice Ao64 t553.length co64)) (fun _ h_ => h_.1))) hb); have HO561 := Aside0.mk (Kd.R_lower ho0 (below_size (qs HB))); replace BK557 := Aside0.mk (blk_below (g := gb557) (o := .cells #[.slice Ao64 t553.length co64] 54 (0, 0)) (by (with_reducible repeat (first | refine blk_drewN ?_ _ | refine blk_drew ?_ | refine blk_alloc ?_ _)); refine blk_put (cs := #[.slice none 0 0]) ?_ 0 _ rfl; (with_reducible repeat (first | refine blk_drewN ?_ _ | refine blk_drew ?_ | refine blk_alloc ?_ _)); exact BK557.out) hb); replace HB := Aside0.mk (below_step (qs HB) hb); (try clear hb); (try clear hb2); (try clear hk); (try clear hi); (try clear ho0)) | ((with_reducible refine qd 7 ?_); (try (refine gate_guard (by rfl) ?_; dsimp only)); refine box_event ?hg (N := 7) ?hd (cs := #[.int .u64 0, .slice none 0 0]) (t := 30) ?hr ?_; (case hd => rfl); (case hg => rfl); (case hr => first | (go_simp; done) | (go_simp; rfl)); intro gb563 hg w67 hbox hb; replace HO552 := Aside0.mk (Kd.R_below (qr HO552) hb); replace HO555 := Aside0.mk (Kd.R_below (qr HO555) hb); replace HO561 := Aside0.mk (Kd.R_below (qr HO561) hb); have BK563 := Aside0.mk (hbox); have GW563 := Aside0.mk (qe HB hg); have GE563 := Aside0.mk (qe HB hg); replace HB := Aside0.mk (below_step (qs HB) hb); have NB557_563 := Aside0.mk (qu BK557 hg); have NB563_557 := Aside0.mk (qw BK557 hg); replace BK557 := Aside0.mk (qB BK557 hb); clear hb hbox hg; have hnb68 := NB563_557.out; have hnc68 := NB557_563.out; have hcz69_0 : w67.cell? ⟨gb563, 0, none⟩ = some (.int .u64 0) := (blk_cell BK563.out 0).trans rfl; have hcz69_1 : w67.cell? ⟨gb563, 1, none⟩ = some (.slice none 0 0) := (blk_cell BK563.out 1).trans rfl; have hfz69_0 := blk_frozen BK563.out 0; have hfz69_1 := blk_frozen BK563.out 1; obtain ⟨Ao70, co70, eo70⟩ := Kd.R_slice HO561.out; subst eo70)))
      go_loopg [9] k (fun kq v9 w' => ∃ (x9_1 : Int), v9 = .int .u64 x9_1 ∧ Aside0 (drawlottop_WholeTickets.l0 kq l0 t549 t550 t562 x9_1 t553 t558 t559 = some r) ∧ Aside0 (kq ≤ k) ∧ Aside0 (Kd.R (Kd.int .u64) 24 w' w.heap.size (fun k_ => some k_ ≠ ((.slice Ao64 t553.length co64) : Value).ownBlock) (.slice Ao61 t549.length co61) t549) ∧ Aside0 (Kd.R (Kd.int .u64) 24 w' w.heap.size (fun k_ => some k_ ≠ ((.slice Ao61 t549.length co61) : Value).ownBlock) (.slice Ao64 t553.length co64) t553) ∧ Aside0 (Kd.R k96 96 w' w.heap.size (fun _ => True) (.slice Ao70 t559.length co70) t559) ∧ Aside0 (w'.heap[gb557]? = some (.cells #[(.slice Ao64 t553.length co64)] 54 (0, 0))) ∧ Aside0 (w'.heap[gb563]? = some (.cells #[.int .u64 t558, (.slice Ao70 t559.length co70)] 30 (0, 0))) ∧ Aside0 (Below w.heap.size w w'))
      case atStart => exact ⟨(0), (by first | rfl | (simp; done) | (simp [*]; done)), H', ⟨Nat.le_refl _⟩, ⟨by (with_reducible repeat (first | apply Kd.R_alloc | apply Kd.R_drewN | apply Kd.R_drew)); exact Kd.R_mono (Kd.R_far (p := ⟨gb563, 1, none⟩) (Kd.R_far (p := ⟨gb563, 0, none⟩) (Kd.R_types HO552.out BK563.out (by decide)) (fun _ hk => hk.2) (.int .u64 t558)) (fun _ hk => hk.2) (.slice Ao70 t559.length co70)) (fun _ hk => hk.1.2)⟩, ⟨by (with_reducible repeat (first | apply Kd.R_alloc | apply Kd.R_drewN | apply Kd.R_drew)); exact Kd.R_mono (Kd.R_far (p := ⟨gb563, 1, none⟩) (Kd.R_far (p := ⟨gb563, 0, none⟩) (Kd.R_types HO555.out BK563.out (by decide)) (fun _ hk => hk.2) (.int .u64 t558)) (fun _ hk => hk.2) (.slice Ao70 t559.length co70)) (fun _ hk => hk.1.2)⟩, ⟨by (with_reducible repeat (first | apply Kd.R_alloc | apply Kd.R_drewN | apply Kd.R_drew)); exact Kd.R_mono (Kd.R_far (p := ⟨gb563, 1, none⟩) (Kd.R_far (p := ⟨gb563, 0, none⟩) (Kd.R_types HO561.out BK563.out (by decide)) (fun _ hk => hk.2) (.int .u64 t558)) (fun _ hk => hk.2) (.slice Ao70 t559.length co70)) (fun _ hk => trivial)⟩, ⟨by (with_reducible repeat (first | refine blk_drewN ?_ _ | refine blk_drew ?_ | refine blk_alloc ?_ _)); refine blk_far ?_ NB557_563.out _; (with_reducible repeat (first | refine blk_drewN ?_ _ | refine blk_drew ?_ | refine blk_alloc ?_ _)); refine blk_far ?_ NB557_563.out _; (with_reducible repeat (first | refine blk_drewN ?_ _ | refine blk_drew ?_ | refine blk_alloc ?_ _)); exact BK557.out⟩, ⟨by (with_reducible repeat (first | refine blk_drewN ?_ _ | refine blk_drew ?_ | refine blk_alloc ?_ _)); refine blk_put (cs := #[.int .u64 t558, .slice none 0 0]) ?_ 1 _ rfl; (with_reducible repeat (first | refine blk_drewN ?_ _ | refine blk_drew ?_ | refine blk_alloc ?_ _)); refine blk_put (cs := #[.int .u64 0, .slice none 0 0]) ?_ 0 _ rfl; (with_reducible repeat (first | refine blk_drewN ?_ _ | refine blk_drew ?_ | refine blk_alloc ?_ _)); exact BK563.out⟩, ⟨(qs HB)⟩⟩
      case round =>
       clear H'
       try clear c1
       try clear c2
       try clear p2
       try clear c3
       try clear c4
       try clear c4b0
       try clear c4b1
       try clear p4
       try clear q4
       try clear hx4
       try clear hf4
       try clear c5
       try clear p5
       try clear q5
       try clear hx5
       try clear c6
       try clear p6
       try clear c9
       try clear c9b0
       try clear c9b1
       try clear c10
       try clear c10b0
       try clear c10b1
       try clear c11
       try clear c11b0
       try clear c21
       try clear c24
       try clear c24b0
       try clear c27
       try clear c27b0
       try clear c27b1
       try clear c28
       try clear c28b0
       try clear c28b1
       try clear c29
       try clear c29b0
       try clear c29b1
       try clear c30
       try clear c33
       try clear c33b0
       try clear c33b1
       try clear c34
       try clear c34b0
       try clear c34b1
       try clear c35
       try clear c35b0
       try clear c35b1
       try clear c38
       try clear c38b0
       try clear c40
       try clear c40b0
       try clear c40b1
       try clear c41
       try clear c41b0
       try clear c42
       try clear c42b0
       try clear c43
       try clear c43b0
       try clear c44
       try clear c44b0
       try clear p45
       try clear q45
       try clear hx45
       try clear hf45
       try clear c46
       try clear c52
       try clear c52b0
       try clear c53
       try clear c53b0
       try clear c54
       try clear c54b0
       try clear c55
       try clear c55b0
       try clear c56
       try clear c56b0
       try clear c56b1
       try clear p57
       try clear q57
       try clear hx57
       try clear c58
       try clear c58b0
       try clear p64
       try clear c68
       try clear hcz18_0
       try clear hcz22_0
       try clear hcz22_1
       try clear hcz31_0
       try clear hcz47_0
       try clear hcz47_1
       try clear hcz65_0
       try clear hcz69_0
       try clear hcz69_1
       try clear hfz18_0
       try clear hfz22_0
       try clear hfz22_1
       try clear hfz31_0
       try clear hfz47_0
       try clear hfz47_1
       try clear hfz65_0
       try clear hfz69_0
       try clear hfz69_1
       try clear hx45_0
       try clear hx573_0
       try clear hx575_0
       try clear hx576_0
       try clear p2
       try clear p4
       try clear p45
       try clear p5
       try clear p573
       try clear p575
       try clear p576
       try clear q4
       try clear q45
       try clear q5
       try clear q573
       try clear q575
       try clear q576
       obtain ⟨x9_1, rfl, HA, HK1, HO_3, HO_558000, HO_564001, BK557, BK563, HB⟩ := hrel
       cases gk with
       | zero => exact absurd HA.out (by simp [drawlottop_WholeTickets.l0])
       | succ k1 =>
        have H := HA.out
        clear HA
        simp only [drawlottop_WholeTickets.l0] at H
        by_cases c71 : x9_1 < t550
        ·rw [if_pos c71] at H
         have c71b0 : decide (x9_1 < t550) = true := decide_eq_true c71
         clear c71
         replace H := Option.bind_eq_some_iff.mp H
         obtain ⟨⟨t564, t565⟩, A720, H⟩ := H
         try dsimp only at H
         have A72 := Aside0.mk A720
         clear A720
         replace H := Option.bind_eq_some_iff.mp H
         obtain ⟨⟨t566, t567⟩, A730, H⟩ := H
         try dsimp only at H
         have A73 := Aside0.mk A730
         clear A730
         by_cases c74 : t565 = 0
         ·rw [if_pos c74] at H
          have c74b0 : (t565 == 0) = true := beq_iff_eq.mpr c74
          have c74b1 : (t565 != 0) = false := bne_eq_false_iff_eq.mpr c74
          clear c74
          by_cases c75 : t567 = 0
          ·rw [if_pos c75] at H
           have c75b0 : (t567 == 0) = true := beq_iff_eq.mpr c75
           have c75b1 : (t567 != 0) = false := bne_eq_false_iff_eq.mpr c75
           clear c75
           by_cases c76 : t564 = t566
           ·rw [if_pos c76] at H
            have c76b0 : (t564 == t566) = true := beq_iff_eq.mpr c76
            have c76b1 : (t564 != t566) = false := bne_eq_false_iff_eq.mpr c76
            clear c76
            have H' := Aside0.mk H
            clear H
            have hnb77 := NB557_563.out
            have hnc77 := NB563_557.out
            have hcz78_0 : wr.cell? ⟨gb557, 0, none⟩ = some (.slice Ao64 t553.length co64) := (blk_cell BK557.out 0).trans rfl
            have hfz78_0 := blk_frozen BK557.out 0
            go_wp2_with (first | (go_at_call 25; (with_reducible refine (fen_Owner.calls k1 _ _ t553 x9_1 t564 t565 _ ?side1 ?side2 A72.out).mono ?_); (case side1 => repeat (first | exact (Kd.R_reads' HO_558000.out).2.2 | (with_reducible refine Kd.C_alloc ?_ _) | (with_reducible refine Kd.C_drewN ?_ _) | (with_reducible refine Kd.C_drew ?_))); (case side2 => exact (Kd.R_reads' HO_558000.out).2.1); rintro e w79 ⟨rfl, hb⟩; replace HO_3 := Aside0.mk (Kd.R_below (qr HO_3) hb); replace HO_558000 := Aside0.mk (Kd.R_below (qr HO_558000) hb); replace HO_564001 := Aside0.mk (Kd.R_below (qr HO_564001) hb); replace BK557 := Aside0.mk (qB BK557 hb); replace BK563 := Aside0.mk (qB BK563 hb); replace HB := Aside0.mk (below_step (qs HB) hb); (try clear hb); (try clear hb2); (try clear hk); (try clear hi)) | (go_at_call 26; (with_reducible refine (scan_Owner.calls k1 x9_1 _ _ t549 t566 t567 _ ?side1 ?side2 A73.out).mono ?_); (case side1 => repeat (first | exact (Kd.R_reads' HO_3.out).2.2 | (with_reducible refine Kd.C_alloc ?_ _) | (with_reducible refine Kd.C_drewN ?_ _) | (with_reducible refine Kd.C_drew ?_))); (case side2 => exact (Kd.R_reads' HO_3.out).2.1); rintro e w' ⟨rfl, ⟨nd, rfl⟩⟩; (try first | exact ⟨rfl, _, World.drewN_drewN _ _ _⟩ | exact ⟨rfl, _, Eq.trans (World.drewN_drewN _ _ _) (congrArg (World.drewN _) (Nat.add_assoc _ _ _))⟩)))
            repeat (go_quiet (first | (go_at_call 25; (with_reducible refine (fen_Owner.calls k1 _ _ t553 x9_1 t564 t565 _ ?side1 ?side2 A72.out).mono ?_); (case side1 => repeat (first | exact (Kd.R_reads' HO_558000.out).2.2 | (with_reducible refine Kd.C_alloc ?_ _) | (with_reducible refine Kd.C_drewN ?_ _) | (with_reducible refine Kd.C_drew ?_))); (case side2 => exact (Kd.R_reads' HO_558000.out).2.1); rintro e w79 ⟨rfl, hb⟩; replace HO_3 := Aside0.mk (Kd.R_below (qr HO_3) hb); replace HO_558000 := Aside0.mk (Kd.R_below (qr HO_558000) hb); replace HO_564001 := Aside0.mk (Kd.R_below (qr HO_564001) hb); replace BK557 := Aside0.mk (qB BK557 hb); replace BK563 := Aside0.mk (qB BK563 hb); replace HB := Aside0.mk (below_step (qs HB) hb); (try clear hb); (try clear hb2); (try clear hk); (try clear hi)) | (go_at_call 26; (with_reducible refine (scan_Owner.calls k1 x9_1 _ _ t549 t566 t567 _ ?side1 ?side2 A73.out).mono ?_); (case side1 => repeat (first | exact (Kd.R_reads' HO_3.out).2.2 | (with_reducible refine Kd.C_alloc ?_ _) | (with_reducible refine Kd.C_drewN ?_ _) | (with_reducible refine Kd.C_drew ?_))); (case side2 => exact (Kd.R_reads' HO_3.out).2.1); rintro e w' ⟨rfl, ⟨nd, rfl⟩⟩; (try first | exact ⟨rfl, _, World.drewN_drewN _ _ _⟩ | exact ⟨rfl, _, Eq.trans (World.drewN_drewN _ _ _) (congrArg (World.drewN _) (Nat.add_assoc _ _ _))⟩))); try go_wp2_with (first | (go_at_call 25; (with_reducible refine (fen_Owner.calls k1 _ _ t553 x9_1 t564 t565 _ ?side1 ?side2 A72.out).mono ?_); (case side1 => repeat (first | exact (Kd.R_reads' HO_558000.out).2.2 | (with_reducible refine Kd.C_alloc ?_ _) | (with_reducible refine Kd.C_drewN ?_ _) | (with_reducible refine Kd.C_drew ?_))); (case side2 => exact (Kd.R_reads' HO_558000.out).2.1); rintro e w79 ⟨rfl, hb⟩; replace HO_3 := Aside0.mk (Kd.R_below (qr HO_3) hb); replace HO_558000 := Aside0.mk (Kd.R_below (qr HO_558000) hb); replace HO_564001 := Aside0.mk (Kd.R_below (qr HO_564001) hb); replace BK557 := Aside0.mk (qB BK557 hb); replace BK563 := Aside0.mk (qB BK563 hb); replace HB := Aside0.mk (below_step (qs HB) hb); (try clear hb); (try clear hb2); (try clear hk); (try clear hi)) | (go_at_call 26; (with_reducible refine (scan_Owner.calls k1 x9_1 _ _ t549 t566 t567 _ ?side1 ?side2 A73.out).mono ?_); (case side1 => repeat (first | exact (Kd.R_reads' HO_3.out).2.2 | (with_reducible refine Kd.C_alloc ?_ _) | (with_reducible refine Kd.C_drewN ?_ _) | (with_reducible refine Kd.C_drew ?_))); (case side2 => exact (Kd.R_reads' HO_3.out).2.1); rintro e w' ⟨rfl, ⟨nd, rfl⟩⟩; (try first | exact ⟨rfl, _, World.drewN_drewN _ _ _⟩ | exact ⟨rfl, _, Eq.trans (World.drewN_drewN _ _ _) (congrArg (World.drewN _) (Nat.add_assoc _ _ _))⟩))))
            go_roundg k1
            case measure => have := HK1.out; omega
            case rel => exact ⟨(IntKind.u64.wrap (x9_1 + 1)), (by first | rfl | (simp; done) | (simp [*]; done)), H', ⟨by have := HK1.out; omega⟩, ⟨(qr HO_3)⟩, ⟨(qr HO_558000)⟩, ⟨(qr HO_564001)⟩, ⟨(qb BK557)⟩, ⟨(qb BK563)⟩, ⟨(qs HB)⟩⟩
           ·rw [if_neg c76] at H
            exact absurd H (by simp)
          ·rw [if_neg c75] at H
           exact absurd H (by simp)
         ·rw [if_neg c74] at H
          exact absurd H (by simp)
        ·rw [if_neg c71] at H
         have c71b0 : decide (x9_1 < t550) = false := decide_eq_false c71
         clear c71
         by_cases c80 : t562 = 0
         ·rw [if_pos c80] at H
          have c80b0 : (t562 == 0) = true := beq_iff_eq.mpr c80
          have c80b1 : (t562 != 0) = false := bne_eq_false_iff_eq.mpr c80
          clear c80
          by_cases c81 : 0 ≤ (l0.length : Int)
          ·rw [if_pos c81] at H
           have c81b0 := eq_true c81
           have c81b1 : decide (0 ≤ (l0.length : Int)) = true := decide_eq_true c81
           clear c81
           by_cases c82 : ((l0.length : Int) : Int).toNat ≤ 35184372088832
           ·rw [if_pos c82] at H
            have c82b0 := eq_true c82
            have c82b1 : decide (((l0.length : Int) : Int).toNat ≤ 35184372088832) = true := decide_eq_true c82
            clear c82
            obtain ⟨y568, hy568⟩ : ∃ y_ : List Int, y_ = (List.replicate ((l0.length : Int) : Int).toNat 0) := ⟨_, rfl⟩
            replace H : (drawlottop_WholeTickets.l1 k1 l0 t549 t550 y568 0 t558 t559) = some r := by first | (rw [hy568]; with_reducible exact H) | (have H2_ := (Option.bind_some _ _).symm.trans H; rw [hy568]; with_reducible exact H2_) | (have H2_ := (Option.bind_some _ _).symm.trans H; with_reducible exact H2_) | with_reducible exact H | (rw [hy568]; exact H) | exact H
            have Ny568 := Aside0.mk hy568
            clear hy568
            have H' := Aside0.mk H
            clear H
            go_wp2_with (first | ((with_reducible refine qd 80 ?_); (try (refine gate_guard (by rfl) ?_; dsimp only)); refine Kd.R_make (Kd.int .u64) _ 24 rfl (N := 80) rfl 22 _ _ rfl (l0.length : Int) rfl rfl Tryz.underlying22 (.int .u64 0) 8 info24 rfl (by decide) (by omega) 0 (ok := fun _ => True) (okp := fun _ => True) rfl (fun _ hk => hk) trivial qo (Nat.le_trans (Nat.mul_le_mul_right _ (of_decide_eq_true qa : (l0.length : Int).toNat ≤ 35184372088832)) (by omega)) (Below.refl _ _) (Nat.le_refl _) ?_; intro v569 w83 ho84 hb hg_ hnew_; clear hg_ hnew_; (first | rw [← Ny568.out] at ho84 | (simp only [Int.reduceToNat] at ho84; rw [← Ny568.out] at ho84)); replace HO_564001 := Aside0.mk (Kd.R_below (qr HO_564001) hb); have HO570 := Aside0.mk (Kd.R_lower (Kd.R_new' (Kd.R_new' ho84 (Kd.R_lt (qr HO_3))) (Kd.R_lt (qr HO_558000))) (below_size (qs HB))); replace HO_3 := Aside0.mk (Kd.R_elder' (qr HO_3) (Kd.R_base ho84) hb); replace HO_558000 := Aside0.mk (Kd.R_elder' (qr HO_558000) (Kd.R_base ho84) hb); replace BK557 := Aside0.mk (qB BK557 hb); replace BK563 := Aside0.mk (qB BK563 hb); replace HB := Aside0.mk (below_step (qs HB) hb); clear hb ho84))
            repeat (go_quiet (first | ((with_reducible refine qd 80 ?_); (try (refine gate_guard (by rfl) ?_; dsimp only)); refine Kd.R_make (Kd.int .u64) _ 24 rfl (N := 80) rfl 22 _ _ rfl (l0.length : Int) rfl rfl Tryz.underlying22 (.int .u64 0) 8 info24 rfl (by decide) (by omega) 0 (ok := fun _ => True) (okp := fun _ => True) rfl (fun _ hk => hk) trivial qo (Nat.le_trans (Nat.mul_le_mul_right _ (of_decide_eq_true qa : (l0.length : Int).toNat ≤ 35184372088832)) (by omega)) (Below.refl _ _) (Nat.le_refl _) ?_; intro v569 w83 ho84 hb hg_ hnew_; clear hg_ hnew_; (first | rw [← Ny568.out] at ho84 | (simp only [Int.reduceToNat] at ho84; rw [← Ny568.out] at ho84)); replace HO_564001 := Aside0.mk (Kd.R_below (qr HO_564001) hb); have HO570 := Aside0.mk (Kd.R_lower (Kd.R_new' (Kd.R_new' ho84 (Kd.R_lt (qr HO_3))) (Kd.R_lt (qr HO_558000))) (below_size (qs HB))); replace HO_3 := Aside0.mk (Kd.R_elder' (qr HO_3) (Kd.R_base ho84) hb); replace HO_558000 := Aside0.mk (Kd.R_elder' (qr HO_558000) (Kd.R_base ho84) hb); replace BK557 := Aside0.mk (qB BK557 hb); replace BK563 := Aside0.mk (qB BK563 hb); replace HB := Aside0.mk (below_step (qs HB) hb); clear hb ho84)); try go_wp2_with (first | ((with_reducible refine qd 80 ?_); (try (refine gate_guard (by rfl) ?_; dsimp only)); refine Kd.R_make (Kd.int .u64) _ 24 rfl (N := 80) rfl 22 _ _ rfl (l0.length : Int) rfl rfl Tryz.underlying22 (.int .u64 0) 8 info24 rfl (by decide) (by omega) 0 (ok := fun _ => True) (okp := fun _ => True) rfl (fun _ hk => hk) trivial qo (Nat.le_trans (Nat.mul_le_mul_right _ (of_decide_eq_true qa : (l0.length : Int).toNat ≤ 35184372088832)) (by omega)) (Below.refl _ _) (Nat.le_refl _) ?_; intro v569 w83 ho84 hb hg_ hnew_; clear hg_ hnew_; (first | rw [← Ny568.out] at ho84 | (simp only [Int.reduceToNat] at ho84; rw [← Ny568.out] at ho84)); replace HO_564001 := Aside0.mk (Kd.R_below (qr HO_564001) hb); have HO570 := Aside0.mk (Kd.R_lower (Kd.R_new' (Kd.R_new' ho84 (Kd.R_lt (qr HO_3))) (Kd.R_lt (qr HO_558000))) (below_size (qs HB))); replace HO_3 := Aside0.mk (Kd.R_elder' (qr HO_3) (Kd.R_base ho84) hb); replace HO_558000 := Aside0.mk (Kd.R_elder' (qr HO_558000) (Kd.R_base ho84) hb); replace BK557 := Aside0.mk (qB BK557 hb); replace BK563 := Aside0.mk (qB BK563 hb); replace HB := Aside0.mk (below_step (qs HB) hb); clear hb ho84)))
            go_loopg [15] k1 (fun kq v15 w' => ∃ (x14_2 : List Int) (x15_2 : Int), v15 = .int .u64 x15_2 ∧ Aside0 (drawlottop_WholeTickets.l1 kq l0 t549 t550 x14_2 x15_2 t558 t559 = some r) ∧ Aside0 (kq ≤ k1) ∧ Aside0 (Kd.R (Kd.int .u64) 24 w' w.heap.size (fun k_ => some k_ ≠ (v569 : Value).ownBlock ∧ some k_ ≠ ((.slice Ao64 t553.length co64) : Value).ownBlock) (.slice Ao61 t549.length co61) t549) ∧ Aside0 (Kd.R (Kd.int .u64) 24 w' w.heap.size (fun k_ => some k_ ≠ ((.slice Ao61 t549.length co61) : Value).ownBlock ∧ some k_ ≠ ((.slice Ao64 t553.length co64) : Value).ownBlock) v569 x14_2) ∧ Aside0 (Kd.R (Kd.int .u64) 24 w' w.heap.size (fun k_ => some k_ ≠ ((.slice Ao61 t549.length co61) : Value).ownBlock ∧ some k_ ≠ (v569 : Value).ownBlock) (.slice Ao64 t553.length co64) t553) ∧ Aside0 (Kd.R k96 96 w' w.heap.size (fun _ => True) (.slice Ao70 t559.length co70) t559) ∧ Aside0 (w'.heap[gb557]? = some (.cells #[(.slice Ao64 t553.length co64)] 54 (0, 0))) ∧ Aside0 (w'.heap[gb563]? = some (.cells #[.int .u64 t558, (.slice Ao70 t559.length co70)] 30 (0, 0))) ∧ Aside0 (Below w.heap.size w w'))
            case atStart => exact ⟨(y568), (0), (by first | rfl | (simp; done) | (simp [*]; done)), H', ⟨Nat.le_refl _⟩, ⟨by (with_reducible repeat (first | apply Kd.R_alloc | apply Kd.R_drewN | apply Kd.R_drew)); exact Kd.R_mono HO_3.out (fun _ hk => ⟨hk.2, hk.1⟩)⟩, ⟨by (with_reducible repeat (first | apply Kd.R_alloc | apply Kd.R_drewN | apply Kd.R_drew)); exact Kd.R_mono HO570.out (fun _ hk => ⟨hk.1.2, hk.2⟩)⟩, ⟨(qr HO_558000)⟩, ⟨(qr HO_564001)⟩, ⟨(qb BK557)⟩, ⟨(qb BK563)⟩, ⟨(qs HB)⟩⟩
            case round =>
             clear H'
             try clear c1
             try clear c2
             try clear p2
             try clear c3
             try clear c4
             try clear c4b0
             try clear c4b1
             try clear p4
             try clear q4
             try clear hx4
             try clear hf4
             try clear c5
             try clear p5
             try clear q5
             try clear hx5
             try clear c6
             try clear p6
             try clear c7
             try clear c8
             try clear c9
             try clear c9b0
             try clear c9b1
             try clear c10
             try clear c10b0
             try clear c10b1
             try clear c11
             try clear c11b0
             try clear c21
             try clear c24
             try clear c24b0
             try clear c27
             try clear c27b0
             try clear c27b1
             try clear c28
             try clear c28b0
             try clear c28b1
             try clear c29
             try clear c29b0
             try clear c29b1
             try clear c30
             try clear c33
             try clear c33b0
             try clear c33b1
             try clear c34
             try clear c34b0
             try clear c34b1
             try clear c35
             try clear c35b0
             try clear c35b1
             try clear c38
             try clear c38b0
             try clear c40
             try clear c40b0
             try clear c40b1
             try clear c41
             try clear c41b0
             try clear c42
             try clear c42b0
             try clear c43
             try clear c43b0
             try clear c44
             try clear c44b0
             try clear p45
             try clear q45
             try clear hx45
             try clear hf45
             try clear c46
             try clear c52
             try clear c52b0
             try clear c53
             try clear c53b0
             try clear c54
             try clear c54b0
             try clear c55
             try clear c55b0
             try clear c56
             try clear c56b0
             try clear c56b1
             try clear p57
             try clear q57
             try clear hx57
             try clear c58
             try clear c58b0
             try clear p64
             try clear c68
             try clear c71
             try clear c71b0
             try clear c74
             try clear c74b0
             try clear c74b1
             try clear c75
             try clear c75b0
             try clear c75b1
             try clear c76
             try clear c76b0
             try clear c76b1
             try clear c77
             try clear c80
             try clear c80b0
             try clear c80b1
             try clear c81
             try clear c81b0
             try clear c81b1
             try clear c82
             try clear c82b0
             try clear c82b1
             try clear hcz18_0
             try clear hcz22_0
             try clear hcz22_1
             try clear hcz31_0
             try clear hcz47_0
             try clear hcz47_1
             try clear hcz65_0
             try clear hcz69_0
             try clear hcz69_1
             try clear hcz78_0
             try clear hfz18_0
             try clear hfz22_0
             try clear hfz22_1
             try clear hfz31_0
             try clear hfz47_0
             try clear hfz47_1
             try clear hfz65_0
             try clear hfz69_0
             try clear hfz69_1
             try clear hfz78_0
             try clear hx45_0
             try clear hx573_0
             try clear hx575_0
             try clear hx576_0
             try clear p2
             try clear p4
             try clear p45
             try clear p5
             try clear p57
             try clear p573
             try clear p575
             try clear p576
             try clear p6
             try clear p64
             try clear q4
             try clear q45
             try clear q5
             try clear q57
             try clear q573
             try clear q575
             try clear q576
             obtain ⟨x14_2, x15_2, rfl, HA, HK2, HO_3, HO_14, HO_558000, HO_564001, BK557, BK563, HB⟩ := hrel
             cases gk with
             | zero => exact absurd HA.out (by simp [drawlottop_WholeTickets.l1])
             | succ k2 =>
              have H := HA.out
              clear HA
              simp only [drawlottop_WholeTickets.l1] at H
              by_cases c85 : x15_2 < (IntKind.u64.wrap ((IntKind.u64.wrap ((l0.length : Int))) * t550))
              ·rw [if_pos c85] at H
               have c85b0 : decide (x15_2 < (IntKind.u64.wrap ((IntKind.u64.wrap ((l0.length : Int))) * t550))) = true := decide_eq_true c85
               clear c85
               replace H := Option.bind_eq_some_iff.mp H
               obtain ⟨⟨t571, t572⟩, A860, H⟩ := H
               try dsimp only at H
               have A86 := Aside0.mk A860
               clear A860
               by_cases c87 : t572 = 0
               ·rw [if_pos c87] at H
                have c87b0 : (t572 == 0) = true := beq_iff_eq.mpr c87
                have c87b1 : (t572 != 0) = false := bne_eq_false_iff_eq.mpr c87
                clear c87
                by_cases c88 : t571 < 0
                ·rw [if_pos c88] at H
                 exact absurd H (by simp)
                ·rw [if_neg c88] at H
                 have c88b0 : decide (t571 < 0) = false := decide_eq_false c88
                 clear c88
                 by_cases c89 : t571 ≥ (x14_2.length : Int)
                 ·rw [if_pos c89] at H
                  exact absurd H (by simp)
                 ·rw [if_neg c89] at H
                  have c89b0 : decide ((x14_2.length : Int) ≤ t571) = false := decide_eq_false c89
                  clear c89
                  by_cases c90 : 0 ≤ t571
                  ·rw [if_pos c90] at H
                   have c90b0 : decide (0 ≤ t571) = true := decide_eq_true c90
                   clear c90
                   by_cases c91 : t571 < (x14_2.length : Int)
                   ·rw [if_pos c91] at H
                    have c91b0 : decide (t571 < (x14_2.length : Int)) = true := decide_eq_true c91
                    clear c91
                    obtain ⟨y574, hy574⟩ : ∃ y_ : List Int, y_ = (x14_2.set (t571 : Int).toNat (IntKind.u64.wrap ((rd x14_2 t571) + 1))) := ⟨_, rfl⟩
                    replace H : (drawlottop_WholeTickets.l1 k2 l0 t549 t550 y574 (IntKind.u64.wrap (x15_2 + 1)) t558 t559) = some r := by first | (rw [hy574]; with_reducible exact H) | (have H2_ := (Option.bind_some _ _).symm.trans H; rw [hy574]; with_reducible exact H2_) | (have H2_ := (Option.bind_some _ _).symm.trans H; with_reducible exact H2_) | with_reducible exact H | (rw [hy574]; exact H) | exact H
                    have Ny574 := Aside0.mk hy574
                    clear hy574
                    have H' := Aside0.mk H
                    clear H
                    have hnb93 := NB563_557.out
                    have hnc93 := NB557_563.out
                    have hcz94_0 : wr.cell? ⟨gb563, 0, none⟩ = some (.int .u64 t558) := (blk_cell BK563.out 0).trans rfl
                    have hcz94_1 : wr.cell? ⟨gb563, 1, none⟩ = some (.slice Ao70 t559.length co70) := (blk_cell BK563.out 1).trans rfl
                    have hfz94_0 := blk_frozen BK563.out 0
                    have hfz94_1 := blk_frozen BK563.out 1
                    go_wp2_with (first | (go_at_call 27; (with_reducible refine (alias_Owner.calls k2 t558 _ _ t559 x15_2 t571 t572 _ ?side1 ?side2 A86.out).mono ?_); (case side1 => repeat (first | exact (Kd.R_reads' HO_564001.out).2.2 | (with_reducible refine Kd.C_alloc ?_ _) | (with_reducible refine Kd.C_drewN ?_ _) | (with_reducible refine Kd.C_drew ?_))); (case side2 => exact (Kd.R_reads' HO_564001.out).2.1); rintro e w95 ⟨rfl, hb⟩; replace HO_3 := Aside0.mk (Kd.R_below (qr HO_3) hb); replace HO_14 := Aside0.mk (Kd.R_below (qr HO_14) hb); replace HO_558000 := Aside0.mk (Kd.R_below (qr HO_558000) hb); replace HO_564001 := Aside0.mk (Kd.R_below (qr HO_564001) hb); replace BK557 := Aside0.mk (qB BK557 hb); replace BK563 := Aside0.mk (qB BK563 hb); replace HB := Aside0.mk (below_step (qs HB) hb); (try clear hb); (try clear hb2); (try clear hk); (try clear hi); obtain ⟨Ao96, co96, eo96⟩ := Kd.R_slice HO_14.out; subst eo96; have p573 : 0 ≤ (t571 : Int) := of_decide_eq_true qa; have q573 : t571 < (x14_2.length : Int) := of_decide_eq_true qa; obtain ⟨ad573, e573, hx573_0⟩ := Kd.at_int (Kd.R_reads' HO_14.out).2.2 t571 p573 q573; cases e573; replace p573 := eq_true p573; replace q573 := eq_true q573; have p92 : 0 ≤ (t571 : Int) := of_decide_eq_true qa; have q92 : (t571 : Int) < ((x14_2.length : Int) : Int) := of_decide_eq_true qa; obtain ⟨go92, co92, eo92, gb92, gl92, cl92, HG92⟩ := Kd.R_form HO_14.out (by omega); (first | cases eo92 | (injection eo92 with ea_ en_ ec_; (first | subst ea_ | (injection ea_ with ea_; subst ea_)); subst ec_; clear en_)); have GB92 := Aside0.mk gb92; have GG92 := Aside0.mk HG92; clear gb92 gl92 HG92; (first | simp only [add_plain] at hx573_0 | skip); obtain ⟨hx92_0, hf92_0⟩ := Kd.R_celln 0 HO_14.out (t571 : Int) p92 q92; replace p92 := eq_true p92; replace q92 := eq_true q92; obtain ⟨hy97_, hz97_⟩ := Kd.R_celln 0 HO_14.out (t571 : Int) qo qo; have HP97 := Kd.R_putg HO_14.out (t571 : Int) (IntKind.u64.wrap ((rd x14_2 t571) + 1))) | ((with_reducible refine gate_store (t := 24) (p := 113) rfl ?_); (try (rw [drewN_self w95]; generalize hq_ : World.drewN w95 _ = w95; replace HO_3 := Aside0.mk (Kd.R_at hq_ HO_3.out); replace HO_14 := Aside0.mk (Kd.R_at hq_ HO_14.out); replace HO_558000 := Aside0.mk (Kd.R_at hq_ HO_558000.out); replace HO_564001 := Aside0.mk (Kd.R_at hq_ HO_564001.out); replace BK557 := Aside0.mk (blk_at hq_ BK557.out); replace BK563 := Aside0.mk (blk_at hq_ BK563.out); replace HB := Aside0.mk (below_at hq_ HB.out); clear hq_; (try (obtain ⟨hy97_, hz97_⟩ := Kd.R_celln 0 HO_14.out (t571 : Int) qo qo)); (try (have HP97 := Kd.R_putg HO_14.out (t571 : Int) (IntKind.u64.wrap ((rd x14_2 t571) + 1)))))); refine store_event (t := 24) (p := 113) (v := ?vo_w98) (w1 := (w95.setCell ⟨go92, (t571 : Int).toNat, none⟩ (.int .u64 (IntKind.u64.wrap ((rd x14_2 t571) + 1))))) ?hg ?ho ?hn ?hr ?_; (case ho => rfl); (case hg => rfl); (case hn => rfl); (case hr => first | (go_simp; done) | (go_simp; rfl)); intro w98 hw; have hg : w95.grownBy w98 (some go92) := (by rw [hw]; exact HP97.2); have hp_ : Kd.R (Kd.int .u64) 24 w98 w.heap.size (fun k_ => some k_ ≠ (.slice Ao61 t549.length co61 : Value).ownBlock ∧ some k_ ≠ (.slice Ao64 t553.length co64 : Value).ownBlock) (.slice (some ⟨go92, 0, none⟩) x14_2.length co96) y574 := (by rw [hw, Ny574.out]; exact HP97.1); clear HP97; replace HO_3 := Aside0.mk (Kd.R_after (v := (.slice (some ⟨go92, 0, none⟩) x14_2.length co96)) (v1 := (.slice (some ⟨go92, 0, none⟩) x14_2.length co96)) (ok := (fun k_ => some k_ ≠ (.slice Ao64 t553.length co64 : Value).ownBlock)) (by (with_reducible repeat (first | apply Kd.R_alloc | apply Kd.R_drewN | apply Kd.R_drew)); exact Kd.R_mono HO_3.out (fun _ hk => ⟨hk.2, hk.1⟩)) hg (.inl rfl)); replace HO_558000 := Aside0.mk (Kd.R_after (v := (.slice (some ⟨go92, 0, none⟩) x14_2.length co96)) (v1 := (.slice (some ⟨go92, 0, none⟩) x14_2.length co96)) (ok := (fun k_ => some k_ ≠ (.slice Ao61 t549.length co61 : Value).ownBlock)) (qr HO_558000) hg (.inl rfl)); replace HO_564001 := Aside0.mk (Kd.R_over' (v := (.slice (some ⟨go92, 0, none⟩) x14_2.length co96)) (qr HO_564001) (Kd.R_typed HO_14.out) (by decide) hg); replace BK557 := Aside0.mk (qG BK557 hg (Kd.R_ne HO_14.out BK557.out (by decide))); replace BK563 := Aside0.mk (qG BK563 hg (Kd.R_ne HO_14.out BK563.out (by decide))); replace HO_14 := Aside0.mk (hp_); replace HB := Aside0.mk ((by rw [hw]; exact below_set (HB.out) GB92.out : Below w.heap.size w w98)); clear hg hw hp_))
                    repeat (go_quiet (first | (go_at_call 27; (with_reducible refine (alias_Owner.calls k2 t558 _ _ t559 x15_2 t571 t572 _ ?side1 ?side2 A86.out).mono ?_); (case side1 => repeat (first | exact (Kd.R_reads' HO_564001.out).2.2 | (with_reducible refine Kd.C_alloc ?_ _) | (with_reducible refine Kd.C_drewN ?_ _) | (with_reducible refine Kd.C_drew ?_))); (case side2 => exact (Kd.R_reads' HO_564001.out).2.1); rintro e w95 ⟨rfl, hb⟩; replace HO_3 := Aside0.mk (Kd.R_below (qr HO_3) hb); replace HO_14 := Aside0.mk (Kd.R_below (qr HO_14) hb); replace HO_558000 := Aside0.mk (Kd.R_below (qr HO_558000) hb); replace HO_564001 := Aside0.mk (Kd.R_below (qr HO_564001) hb); replace BK557 := Aside0.mk (qB BK557 hb); replace BK563 := Aside0.mk (qB BK563 hb); replace HB := Aside0.mk (below_step (qs HB) hb); (try clear hb); (try clear hb2); (try clear hk); (try clear hi); obtain ⟨Ao96, co96, eo96⟩ := Kd.R_slice HO_14.out; subst eo96; have p573 : 0 ≤ (t571 : Int) := of_decide_eq_true qa; have q573 : t571 < (x14_2.length : Int) := of_decide_eq_true qa; obtain ⟨ad573, e573, hx573_0⟩ := Kd.at_int (Kd.R_reads' HO_14.out).2.2 t571 p573 q573; cases e573; replace p573 := eq_true p573; replace q573 := eq_true q573; have p92 : 0 ≤ (t571 : Int) := of_decide_eq_true qa; have q92 : (t571 : Int) < ((x14_2.length : Int) : Int) := of_decide_eq_true qa; obtain ⟨go92, co92, eo92, gb92, gl92, cl92, HG92⟩ := Kd.R_form HO_14.out (by omega); (first | cases eo92 | (injection eo92 with ea_ en_ ec_; (first | subst ea_ | (injection ea_ with ea_; subst ea_)); subst ec_; clear en_)); have GB92 := Aside0.mk gb92; have GG92 := Aside0.mk HG92; clear gb92 gl92 HG92; (first | simp only [add_plain] at hx573_0 | skip); obtain ⟨hx92_0, hf92_0⟩ := Kd.R_celln 0 HO_14.out (t571 : Int) p92 q92; replace p92 := eq_true p92; replace q92 := eq_true q92; obtain ⟨hy97_, hz97_⟩ := Kd.R_celln 0 HO_14.out (t571 : Int) qo qo; have HP97 := Kd.R_putg HO_14.out (t571 : Int) (IntKind.u64.wrap ((rd x14_2 t571) + 1))) | ((with_reducible refine gate_store (t := 24) (p := 113) rfl ?_); (try (rw [drewN_self w95]; generalize hq_ : World.drewN w95 _ = w95; replace HO_3 := Aside0.mk (Kd.R_at hq_ HO_3.out); replace HO_14 := Aside0.mk (Kd.R_at hq_ HO_14.out); replace HO_558000 := Aside0.mk (Kd.R_at hq_ HO_558000.out); replace HO_564001 := Aside0.mk (Kd.R_at hq_ HO_564001.out); replace BK557 := Aside0.mk (blk_at hq_ BK557.out); replace BK563 := Aside0.mk (blk_at hq_ BK563.out); replace HB := Aside0.mk (below_at hq_ HB.out); clear hq_; (try (obtain ⟨hy97_, hz97_⟩ := Kd.R_celln 0 HO_14.out (t571 : Int) qo qo)); (try (have HP97 := Kd.R_putg HO_14.out (t571 : Int) (IntKind.u64.wrap ((rd x14_2 t571) + 1)))))); refine store_event (t := 24) (p := 113) (v := ?vo_w98) (w1 := (w95.setCell ⟨go92, (t571 : Int).toNat, none⟩ (.int .u64 (IntKind.u64.wrap ((rd x14_2 t571) + 1))))) ?hg ?ho ?hn ?hr ?_; (case ho => rfl); (case hg => rfl); (case hn => rfl); (case hr => first | (go_simp; done) | (go_simp; rfl)); intro w98 hw; have hg : w95.grownBy w98 (some go92) := (by rw [hw]; exact HP97.2); have hp_ : Kd.R (Kd.int .u64) 24 w98 w.heap.size (fun k_ => some k_ ≠ (.slice Ao61 t549.length co61 : Value).ownBlock ∧ some k_ ≠ (.slice Ao64 t553.length co64 : Value).ownBlock) (.slice (some ⟨go92, 0, none⟩) x14_2.length co96) y574 := (by rw [hw, Ny574.out]; exact HP97.1); clear HP97; replace HO_3 := Aside0.mk (Kd.R_after (v := (.slice (some ⟨go92, 0, none⟩) x14_2.length co96)) (v1 := (.slice (some ⟨go92, 0, none⟩) x14_2.length co96)) (ok := (fun k_ => some k_ ≠ (.slice Ao64 t553.length co64 : Value).ownBlock)) (by (with_reducible repeat (first | apply Kd.R_alloc | apply Kd.R_drewN | apply Kd.R_drew)); exact Kd.R_mono HO_3.out (fun _ hk => ⟨hk.2, hk.1⟩)) hg (.inl rfl)); replace HO_558000 := Aside0.mk (Kd.R_after (v := (.slice (some ⟨go92, 0, none⟩) x14_2.length co96)) (v1 := (.slice (some ⟨go92, 0, none⟩) x14_2.length co96)) (ok := (fun k_ => some k_ ≠ (.slice Ao61 t549.length co61 : Value).ownBlock)) (qr HO_558000) hg (.inl rfl)); replace HO_564001 := Aside0.mk (Kd.R_over' (v := (.slice (some ⟨go92, 0, none⟩) x14_2.length co96)) (qr HO_564001) (Kd.R_typed HO_14.out) (by decide) hg); replace BK557 := Aside0.mk (qG BK557 hg (Kd.R_ne HO_14.out BK557.out (by decide))); replace BK563 := Aside0.mk (qG BK563 hg (Kd.R_ne HO_14.out BK563.out (by decide))); replace HO_14 := Aside0.mk (hp_); replace HB := Aside0.mk ((by rw [hw]; exact below_set (HB.out) GB92.out : Below w.heap.size w w98)); clear hg hw hp_)); try go_wp2_with (first | (go_at_call 27; (with_reducible refine (alias_Owner.calls k2 t558 _ _ t559 x15_2 t571 t572 _ ?side1 ?side2 A86.out).mono ?_); (case side1 => repeat (first | exact (Kd.R_reads' HO_564001.out).2.2 | (with_reducible refine Kd.C_alloc ?_ _) | (with_reducible refine Kd.C_drewN ?_ _) | (with_reducible refine Kd.C_drew ?_))); (case side2 => exact (Kd.R_reads' HO_564001.out).2.1); rintro e w95 ⟨rfl, hb⟩; replace HO_3 := Aside0.mk (Kd.R_below (qr HO_3) hb); replace HO_14 := Aside0.mk (Kd.R_below (qr HO_14) hb); replace HO_558000 := Aside0.mk (Kd.R_below (qr HO_558000) hb); replace HO_564001 := Aside0.mk (Kd.R_below (qr HO_564001) hb); replace BK557 := Aside0.mk (qB BK557 hb); replace BK563 := Aside0.mk (qB BK563 hb); replace HB := Aside0.mk (below_step (qs HB) hb); (try clear hb); (try clear hb2); (try clear hk); (try clear hi); obtain ⟨Ao96, co96, eo96⟩ := Kd.R_slice HO_14.out; subst eo96; have p573 : 0 ≤ (t571 : Int) := of_decide_eq_true qa; have q573 : t571 < (x14_2.length : Int) := of_decide_eq_true qa; obtain ⟨ad573, e573, hx573_0⟩ := Kd.at_int (Kd.R_reads' HO_14.out).2.2 t571 p573 q573; cases e573; replace p573 := eq_true p573; replace q573 := eq_true q573; have p92 : 0 ≤ (t571 : Int) := of_decide_eq_true qa; have q92 : (t571 : Int) < ((x14_2.length : Int) : Int) := of_decide_eq_true qa; obtain ⟨go92, co92, eo92, gb92, gl92, cl92, HG92⟩ := Kd.R_form HO_14.out (by omega); (first | cases eo92 | (injection eo92 with ea_ en_ ec_; (first | subst ea_ | (injection ea_ with ea_; subst ea_)); subst ec_; clear en_)); have GB92 := Aside0.mk gb92; have GG92 := Aside0.mk HG92; clear gb92 gl92 HG92; (first | simp only [add_plain] at hx573_0 | skip); obtain ⟨hx92_0, hf92_0⟩ := Kd.R_celln 0 HO_14.out (t571 : Int) p92 q92; replace p92 := eq_true p92; replace q92 := eq_true q92; obtain ⟨hy97_, hz97_⟩ := Kd.R_celln 0 HO_14.out (t571 : Int) qo qo; have HP97 := Kd.R_putg HO_14.out (t571 : Int) (IntKind.u64.wrap ((rd x14_2 t571) + 1))) | ((with_reducible refine gate_store (t := 24) (p := 113) rfl ?_); (try (rw [drewN_self w95]; generalize hq_ : World.drewN w95 _ = w95; replace HO_3 := Aside0.mk (Kd.R_at hq_ HO_3.out); replace HO_14 := Aside0.mk (Kd.R_at hq_ HO_14.out); replace HO_558000 := Aside0.mk (Kd.R_at hq_ HO_558000.out); replace HO_564001 := Aside0.mk (Kd.R_at hq_ HO_564001.out); replace BK557 := Aside0.mk (blk_at hq_ BK557.out); replace BK563 := Aside0.mk (blk_at hq_ BK563.out); replace HB := Aside0.mk (below_at hq_ HB.out); clear hq_; (try (obtain ⟨hy97_, hz97_⟩ := Kd.R_celln 0 HO_14.out (t571 : Int) qo qo)); (try (have HP97 := Kd.R_putg HO_14.out (t571 : Int) (IntKind.u64.wrap ((rd x14_2 t571) + 1)))))); refine store_event (t := 24) (p := 113) (v := ?vo_w98) (w1 := (w95.setCell ⟨go92, (t571 : Int).toNat, none⟩ (.int .u64 (IntKind.u64.wrap ((rd x14_2 t571) + 1))))) ?hg ?ho ?hn ?hr ?_; (case ho => rfl); (case hg => rfl); (case hn => rfl); (case hr => first | (go_simp; done) | (go_simp; rfl)); intro w98 hw; have hg : w95.grownBy w98 (some go92) := (by rw [hw]; exact HP97.2); have hp_ : Kd.R (Kd.int .u64) 24 w98 w.heap.size (fun k_ => some k_ ≠ (.slice Ao61 t549.length co61 : Value).ownBlock ∧ some k_ ≠ (.slice Ao64 t553.length co64 : Value).ownBlock) (.slice (some ⟨go92, 0, none⟩) x14_2.length co96) y574 := (by rw [hw, Ny574.out]; exact HP97.1); clear HP97; replace HO_3 := Aside0.mk (Kd.R_after (v := (.slice (some ⟨go92, 0, none⟩) x14_2.length co96)) (v1 := (.slice (some ⟨go92, 0, none⟩) x14_2.length co96)) (ok := (fun k_ => some k_ ≠ (.slice Ao64 t553.length co64 : Value).ownBlock)) (by (with_reducible repeat (first | apply Kd.R_alloc | apply Kd.R_drewN | apply Kd.R_drew)); exact Kd.R_mono HO_3.out (fun _ hk => ⟨hk.2, hk.1⟩)) hg (.inl rfl)); replace HO_558000 := Aside0.mk (Kd.R_after (v := (.slice (some ⟨go92, 0, none⟩) x14_2.length co96)) (v1 := (.slice (some ⟨go92, 0, none⟩) x14_2.length co96)) (ok := (fun k_ => some k_ ≠ (.slice Ao61 t549.length co61 : Value).ownBlock)) (qr HO_558000) hg (.inl rfl)); replace HO_564001 := Aside0.mk (Kd.R_over' (v := (.slice (some ⟨go92, 0, none⟩) x14_2.length co96)) (qr HO_564001) (Kd.R_typed HO_14.out) (by decide) hg); replace BK557 := Aside0.mk (qG BK557 hg (Kd.R_ne HO_14.out BK557.out (by decide))); replace BK563 := Aside0.mk (qG BK563 hg (Kd.R_ne HO_14.out BK563.out (by decide))); replace HO_14 := Aside0.mk (hp_); replace HB := Aside0.mk ((by rw [hw]; exact below_set (HB.out) GB92.out : Below w.heap.size w w98)); clear hg hw hp_)))
                    go_roundg k2
                    case measure => have := HK1.out; have := HK2.out; omega
                    case rel => exact ⟨(y574), (IntKind.u64.wrap (x15_2 + 1)), (by first | rfl | (simp; done) | (simp [*]; done)), H', ⟨by have := HK1.out; have := HK2.out; omega⟩, ⟨by (with_reducible repeat (first | apply Kd.R_alloc | apply Kd.R_drewN | apply Kd.R_drew)); exact Kd.R_mono HO_3.out (fun _ hk => ⟨hk.2, hk.1⟩)⟩, ⟨(qr HO_14)⟩, ⟨(qr HO_558000)⟩, ⟨(qr HO_564001)⟩, ⟨(qb BK557)⟩, ⟨(qb BK563)⟩, ⟨(qs HB)⟩⟩
                   ·rw [if_neg c91] at H
                    exact absurd H (by simp)
                  ·rw [if_neg c90] at H
                   exact absurd H (by simp)
               ·rw [if_neg c87] at H
                exact absurd H (by simp)
              ·rw [if_neg c85] at H
               have c85b0 : decide (x15_2 < (IntKind.u64.wrap ((IntKind.u64.wrap ((l0.length : Int))) * t550))) = false := decide_eq_false c85
               clear c85
               have H' := Aside0.mk H
               clear H
               go_wp2
               repeat (go_quiet (fail); try go_wp2)
               go_loopg [18] k2 (fun kq v18 w' => ∃ (x18_3 : Int), v18 = .int .i64 x18_3 ∧ Aside0 (drawlottop_WholeTickets.l2 kq l0 t549 x14_2 x18_3 = some r) ∧ Aside0 (kq ≤ k2) ∧ Aside0 (Kd.R (Kd.int .u64) 24 w' w.heap.size (fun k_ => some k_ ≠ (v569 : Value).ownBlock ∧ some k_ ≠ ((.slice Ao64 t553.length co64) : Value).ownBlock) (.slice Ao61 t549.length co61) t549) ∧ Aside0 (Kd.R (Kd.int .u64) 24 w' w.heap.size (fun k_ => some k_ ≠ ((.slice Ao61 t549.length co61) : Value).ownBlock ∧ some k_ ≠ ((.slice Ao64 t553.length co64) : Value).ownBlock) v569 x14_2) ∧ Aside0 (Kd.R (Kd.int .u64) 24 w' w.heap.size (fun k_ => some k_ ≠ ((.slice Ao61 t549.length co61) : Value).ownBlock ∧ some k_ ≠ (v569 : Value).ownBlock) (.slice Ao64 t553.length co64) t553) ∧ Aside0 (Kd.R k96 96 w' w.heap.size (fun _ => True) (.slice Ao70 t559.length co70) t559) ∧ Aside0 (w'.heap[gb557]? = some (.cells #[(.slice Ao64 t553.length co64)] 54 (0, 0))) ∧ Aside0 (w'.heap[gb563]? = some (.cells #[.int .u64 t558, (.slice Ao70 t559.length co70)] 30 (0, 0))) ∧ Aside0 (Below w.heap.size w w'))
               case atStart => exact ⟨(0), (by first | rfl | (simp; done) | (simp [*]; done)), H', ⟨Nat.le_refl _⟩, ⟨(qr HO_3)⟩, ⟨(qr HO_14)⟩, ⟨(qr HO_558000)⟩, ⟨(qr HO_564001)⟩, ⟨(qb BK557)⟩, ⟨(qb BK563)⟩, ⟨(qs HB)⟩⟩
               case round =>
                clear H'
                try clear c1
                try clear c2
                try clear p2
                try clear c3
                try clear c4
                try clear c4b0
                try clear c4b1
                try clear p4
                try clear q4
                try clear hx4
                try clear hf4
                try clear c5
                try clear p5
                try clear q5
                try clear hx5
                try clear c6
                try clear p6
                try clear c7
                try clear c8
                try clear c9
                try clear c9b0
                try clear c9b1
                try clear p9
                try clear q9
                try clear hx9
                try clear hf9
                try clear c10
                try clear c10b0
                try clear c10b1
                try clear c11
                try clear c11b0
                try clear c21
                try clear c24
                try clear c24b0
                try clear c27
                try clear c27b0
                try clear c27b1
                try clear c28
                try clear c28b0
                try clear c28b1
                try clear c29
                try clear c29b0
                try clear c29b1
                try clear c30
                try clear c33
                try clear c33b0
                try clear c33b1
                try clear c34
                try clear c34b0
                try clear c34b1
                try clear c35
                try clear c35b0
                try clear c35b1
                try clear c38
                try clear c38b0
                try clear c40
                try clear c40b0
                try clear c40b1
                try clear c41
                try clear c41b0
                try clear c42
                try clear c42b0
                try clear c43
                try clear c43b0
                try clear c44
                try clear c44b0
                try clear p45
                try clear q45
                try clear hx45
                try clear hf45
                try clear c46
                try clear c52
                try clear c52b0
                try clear c53
                try clear c53b0
                try clear c54
                try clear c54b0
                try clear c55
                try clear c55b0
                try clear c56
                try clear c56b0
                try clear c56b1
                try clear p57
                try clear q57
                try clear hx57
                try clear c58
                try clear c58b0
                try clear p64
                try clear c68
                try clear c71
                try clear c71b0
                try clear c74
                try clear c74b0
                try clear c74b1
                try clear c75
                try clear c75b0
                try clear c75b1
                try clear c76
                try clear c76b0
                try clear c76b1
                try clear c77
                try clear c80
                try clear c80b0
                try clear c80b1
                try clear c81
                try clear c81b0
                try clear c81b1
                try clear c82
                try clear c82b0
                try clear c82b1
                try clear c85
                try clear c85b0
                try clear c87
                try clear c87b0
                try clear c87b1
                try clear c88
                try clear c88b0
                try clear c89
                try clear c89b0
                try clear c90
                try clear c90b0
                try clear c91
                try clear c91b0
                try clear p92
                try clear q92
                try clear hx92
                try clear hf92
                try clear c93
                try clear hcz18_0
                try clear hcz22_0
                try clear hcz22_1
                try clear hcz31_0
                try clear hcz47_0
                try clear hcz47_1
                try clear hcz65_0
                try clear hcz69_0
                try clear hcz69_1
                try clear hcz78_0
                try clear hcz94_0
                try clear hcz94_1
                try clear hfz18_0
                try clear hfz22_0
                try clear hfz22_1
                try clear hfz31_0
                try clear hfz47_0
                try clear hfz47_1
                try clear hfz65_0
                try clear hfz69_0
                try clear hfz69_1
                try clear hfz78_0
                try clear hfz94_0
                try clear hfz94_1
                try clear hx45_0
                try clear hx573_0
                try clear hx575_0
                try clear hx576_0
                try clear hx92_0
                try clear p2
                try clear p4
                try clear p45
                try clear p5
                try clear p57
                try clear p573
                try clear p575
                try clear p576
                try clear p6
                try clear p64
                try clear p92
                try clear q4
                try clear q45
                try clear q5
                try clear q57
                try clear q573
                try clear q575
                try clear q576
                try clear q92
                obtain ⟨x18_3, rfl, HA, HK3, HO_3, HO_14, HO_558000, HO_564001, BK557, BK563, HB⟩ := hrel
                cases gk with
                | zero => exact absurd HA.out (by simp [drawlottop_WholeTickets.l2])
                | succ k3 =>
                 have H := HA.out
                 clear HA
                 simp only [drawlottop_WholeTickets.l2] at H
                 by_cases c99 : x18_3 < (l0.length : Int)
                 ·rw [if_pos c99] at H
                  have c99b0 : decide (x18_3 < (l0.length : Int)) = true := decide_eq_true c99
                  clear c99
                  by_cases c100 : 0 ≤ x18_3
                  ·rw [if_pos c100] at H
                   have c100b0 : decide (0 ≤ x18_3) = true := decide_eq_true c100
                   clear c100
                   by_cases c101 : x18_3 < (x14_2.length : Int)
                   ·rw [if_pos c101] at H
                    have c101b0 : decide (x18_3 < (x14_2.length : Int)) = true := decide_eq_true c101
                    clear c101
                    by_cases c102 : x18_3 < (t549.length : Int)
                    ·rw [if_pos c102] at H
                     have c102b0 : decide (x18_3 < (t549.length : Int)) = true := decide_eq_true c102
                     clear c102
                     by_cases c103 : (rd x14_2 x18_3) = (IntKind.u64.wrap ((IntKind.u64.wrap ((l0.length : Int))) * (rd t549 x18_3)))
                     ·rw [if_pos c103] at H
                      have c103b0 : ((rd x14_2 x18_3) == (IntKind.u64.wrap ((IntKind.u64.wrap ((l0.length : Int))) * (rd t549 x18_3)))) = true := beq_iff_eq.mpr c103
                      have c103b1 : ((rd x14_2 x18_3) != (IntKind.u64.wrap ((IntKind.u64.wrap ((l0.length : Int))) * (rd t549 x18_3)))) = false := bne_eq_false_iff_eq.mpr c103
                      clear c103
                      have H' := Aside0.mk H
                      clear H
                      obtain ⟨Ao104, co104, eo104⟩ := Kd.R_slice HO_14.out
                      subst eo104
                      have p575 : 0 ≤ (x18_3 : Int) := of_decide_eq_true qa
                      have q575 : x18_3 < (x14_2.length : Int) := of_decide_eq_true qa
                      obtain ⟨ad575, e575, hx575_0⟩ := Kd.at_int (Kd.R_reads' HO_14.out).2.2 x18_3 p575 q575
                      cases e575
                      replace p575 := eq_true p575
                      replace q575 := eq_true q575
                      have p576 : 0 ≤ (x18_3 : Int) := of_decide_eq_true qa
                      have q576 : x18_3 < (t549.length : Int) := of_decide_eq_true qa
                      obtain ⟨ad576, e576, hx576_0⟩ := Kd.at_int (Kd.R_reads' HO_3.out).2.2 x18_3 p576 q576
                      cases e576
                      replace p576 := eq_true p576
                      replace q576 := eq_true q576
                      go_wp2
                      repeat (go_quiet (fail); try go_wp2)
                      go_roundg k3
                      case measure => have := HK1.out; have := HK2.out; have := HK3.out; omega
                      case rel => exact ⟨(wrap64 (x18_3 + 1)), (by first | rfl | (simp; done) | (simp [*]; done)), H', ⟨by have := HK1.out; have := HK2.out; have := HK3.out; omega⟩, ⟨(qr HO_3)⟩, ⟨(qr HO_14)⟩, ⟨(qr HO_558000)⟩, ⟨(qr HO_564001)⟩, ⟨(qb BK557)⟩, ⟨(qb BK563)⟩, ⟨(qs HB)⟩⟩
                     ·rw [if_neg c103] at H
                      exact absurd H (by simp)
                    ·rw [if_neg c102] at H
                     exact absurd H (by simp)
                   ·rw [if_neg c101] at H
                    exact absurd H (by simp)
                  ·rw [if_neg c100] at H
                   exact absurd H (by simp)
                 ·rw [if_neg c99] at H
                  have c99b0 : decide (x18_3 < (l0.length : Int)) = false := decide_eq_false c99
                  clear c99
                  obtain rfl := Option.some.inj H
                  go_wp2
                  repeat (go_quiet (fail); try go_wp2)
                  go_ret
                  exact ⟨by first | rfl | (simp [errW_none, errW_some] <;> rfl) | (simp [*, errW_none, errW_some] <;> rfl), (qs HB)⟩
           ·rw [if_neg c82] at H
            exact absurd H (by simp)
          ·rw [if_neg c81] at H
           exact absurd H (by simp)
         ·rw [if_neg c80] at H
          have c80b0 : (t562 == 0) = false := beq_eq_false_iff_ne.mpr c80
          have c80b1 : (t562 != 0) = true := bne_iff_ne.mpr c80
          obtain rfl := Option.some.inj H
          go_wp2
          repeat (go_quiet (fail); try go_wp2)
          go_ret
          exact ⟨by first | rfl | (simp [errW_none, errW_some] <;> rfl) | (simp [*, errW_none, errW_some] <;> rfl), (qs HB)⟩
   ·rw [if_neg c9] at H
    exact absurd H (by simp)
 ·replace c3 := Bool.eq_false_iff.mpr c3
  subst c3
  have H1 : (none) = some r := by rw [if_neg (show ¬ (false = true) by decide)] at H; exact H
  clear H
  have H := H1
  clear H1
  exact absurd H (by simp)
def drawlottop_WholeTickets.Pure : Prop := ∀ (l0 : List Int), l0.length ≤ maxLen → l0.length * 8 ≤ 140737488351232 → (∀ x ∈ l0, (Lit.int .u64 x).wf = true) → ∃ k, drawlottop_WholeTickets.f k l0 = some true
theorem drawlottop_WholeTickets.walk (P : drawlottop_WholeTickets.Pure) (a0 : Option Addr) (len0 cap0 : Nat) (z0 : List Int) (w : World) (w0 : (a0 = none ∧ len0 = 0 ∧ cap0 = 0 ∧ z0 = []) ∨ ∃ x, a0 = some x ∧ len0 ≤ cap0 ∧ cap0 ≤ maxLen ∧ z0.length = cap0 ∧ (∀ i, i < z0.length → w.cell? (x.add i) = some (.int .u64 (z0.getD i 0))) ∧ ∀ n ∈ z0, (Lit.int .u64 n).wf = true) (y0 : len0 * 8 ≤ 140737488351232) :
  Calls Tryz.prog 5 #[.slice a0 len0 cap0] w fun e w' => e = .returned (.bool true) ∧ Below w.heap.size w w' := by
 obtain ⟨l0, rfl, hr0, hm0, hw0, hc0⟩ := ReadsInt.ofRowC w0
 obtain ⟨k, h⟩ := P l0 hm0 y0 hw0
 refine (drawlottop_WholeTickets.calls k _ _ l0 true w (Kd.C_of_reads (d := (0 : Int)) (h1 := fun _ => rfl) hr0) hc0 h).mono ?_
 rintro e w' ⟨rfl, hd⟩
 exact ⟨rfl, hd⟩
end Go.Proofs.YtekmngghebpciaaGreat.PW
end
section
namespace Go.Proofs.YtekmngghebpciaaGreat.Lm
open Go.RowKit Go.Proofs.YtekmngghebpciaaGreatW.PrintWords
theorem u64w (x : Int) : IntKind.u64.wrap x = x % 18446744073709551616 := by simp [IntKind.wrap, IntKind.bits, IntKind.signed]
theorem u64w_id {x : Int} (h0 : 0 ≤ x) (h1 : x < 18446744073709551616) : IntKind.u64.wrap x = x := by rw [u64w]; omega
theorem w64_id {x : Int} (h0 : -9223372036854775808 ≤ x) (h1 : x < 9223372036854775808) : wrap64 x = x := by unfold wrap64; omega
theorem wf64 {x : Int} (h : (Lit.int .u64 x).wf = true) : 0 ≤ x ∧ x < 18446744073709551616 := by have := bounds_u64 h; omega
theorem and32 (x : Int) (h0 : 0 ≤ x) (h1 : x < 18446744073709551616) : Go.bits .and .u64 x 4294967295 = x % 4294967296 :=
  bits_mask .u64 64 (by decide) (fun n a b => by rw [u64w]; omega) 32 (by decide) x h0 h1
def U64 (l : List Int) : Prop := ∀ x ∈ l, 0 ≤ x ∧ x < 18446744073709551616
theorem U64.of_wf {l : List Int} (h : ∀ x ∈ l, (Lit.int .u64 x).wf = true) : U64 l := fun x hx => wf64 (h x hx)
theorem rd_nat (l : List Int) (i : Nat) : rd l (i : Int) = l.getD i 0 := by simp [rd]
theorem rd_lt {l : List Int} {i : Int} (h0 : 0 ≤ i) (h1 : i < (l.length : Int)) : ∃ h : i.toNat < l.length, rd l i = l[i.toNat]'h := by
  have h : i.toNat < l.length := by omega
  exact ⟨h, by unfold rd; rw [List.getD_eq_getElem?_getD, List.getElem?_eq_getElem h]; rfl⟩
theorem U64.rd {l : List Int} (h : U64 l) (i : Int) : 0 ≤ rd l i ∧ rd l i < 18446744073709551616 := by
  unfold YtekmngghebpciaaGreatW.PrintWords.rd
  rw [List.getD_eq_getElem?_getD]
  by_cases hi : i.toNat < l.length
  · rw [List.getElem?_eq_getElem hi]; exact h _ (List.getElem_mem hi)
  · rw [List.getElem?_eq_none (by omega)]; simp
theorem U64.take {l : List Int} (h : U64 l) (n : Nat) : U64 (l.take n) := fun x hx => h x (List.mem_of_mem_take hx)
theorem U64.drop {l : List Int} (h : U64 l) (n : Nat) : U64 (l.drop n) := fun x hx => h x (List.mem_of_mem_drop hx)
theorem sum_nonneg {l : List Int} (h : U64 l) : 0 ≤ l.sum := by
  induction l with
  | nil => simp
  | cons x l ih =>
    have a := h x (by simp)
    have b := ih (fun y hy => h y (by simp [hy]))
    simp only [List.sum_cons]; omega
theorem drop_step {l : List Int} {n : Nat} (h : n < l.length) : l.drop n = rd l (n : Int) :: l.drop (n + 1) := by
  rw [rd_nat, List.getD_eq_getElem?_getD, List.getElem?_eq_getElem h]
  exact List.drop_eq_getElem_cons h
theorem sum_drop_step {l : List Int} {n : Nat} (h : n < l.length) : (l.drop n).sum = rd l (n : Int) + (l.drop (n + 1)).sum := by rw [drop_step h, List.sum_cons]
theorem take_step {l : List Int} {n : Nat} (h : n < l.length) : l.take (n + 1) = l.take n ++ [rd l (n : Int)] := by
  rw [rd_nat, List.getD_eq_getElem?_getD, List.getElem?_eq_getElem h]
  exact List.take_succ_eq_append_getElem h
theorem sum_take_step {l : List Int} {n : Nat} (h : n < l.length) : (l.take (n + 1)).sum = (l.take n).sum + rd l (n : Int) := by rw [take_step h, List.sum_append]; simp
theorem sum_take_drop (l : List Int) (n : Nat) : (l.take n).sum + (l.drop n).sum = l.sum := by rw [← List.sum_append, List.take_append_drop]
theorem ext_rd {a b : List Int} (hl : a.length = b.length) (h : ∀ i : Nat, i < a.length → rd a (i : Int) = rd b (i : Int)) : a = b := by
  refine List.ext_getElem hl fun i h1 h2 => ?_
  have := h i h1
  rw [rd_nat, rd_nat, List.getD_eq_getElem?_getD, List.getD_eq_getElem?_getD, List.getElem?_eq_getElem h1, List.getElem?_eq_getElem h2] at this
  exact this
theorem bs {α β : Type} (a : α) (f : α → Option β) : (some a).bind f = f a := Eq.trans (Option.bind_some a f) rfl
end Go.Proofs.YtekmngghebpciaaGreat.Lm
end
section
namespace Go.Proofs.YtekmngghebpciaaGreat.Lm
open Go.RowKit Go.Proofs.YtekmngghebpciaaGreatW.PrintWords Go.Proofs.YtekmngghebpciaaGreat.PW
theorem add_ok {a b : Int} (ha : 0 ≤ a ∧ a < 18446744073709551616) (hb : 0 ≤ b ∧ b < 18446744073709551616) : safe_Add.f a b = some (if a + b < 9223372036854775808 then (a + b, true) else (0, false)) := by
  unfold safe_Add.f
  rw [if_pos ⟨ha.1, ha.2, hb.1, hb.2⟩]
  split <;> rfl
theorem told_ok (n more : Int) : safe_told.f n more = some (if more = 0 ∧ n < 9223372036854775808 then (n, true) else (0, false)) := by
  unfold safe_told.f safe_Fits.f
  by_cases h : more = 0
  · simp only [h, if_true, Option.bind_some, decide_eq_true_eq, true_and]; split <;> rfl
  · simp [h]
theorem mul64_ok {a b : Int} (ha : 0 ≤ a ∧ a < 18446744073709551616) (hb : 0 ≤ b ∧ b < 18446744073709551616) : bits_Mul64.f a b = some (a * b / 18446744073709551616, a * b % 18446744073709551616) := by
  obtain ⟨a0, a1⟩ := ha
  obtain ⟨b0, b1⟩ := hb
  unfold bits_Mul64.f
  have hx : a = a / 4294967296 * 4294967296 + a % 4294967296 := by omega
  have hy : b = b / 4294967296 * 4294967296 + b % 4294967296 := by omega
  rw [and32 a a0 a1, and32 b b0 b1]
  have p1 : 0 ≤ a / 4294967296 ∧ a / 4294967296 ≤ 4294967295 := by omega
  have q1 : 0 ≤ a % 4294967296 ∧ a % 4294967296 ≤ 4294967295 := by omega
  have p2 : 0 ≤ b / 4294967296 ∧ b / 4294967296 ≤ 4294967295 := by omega
  have q2 : 0 ≤ b % 4294967296 ∧ b % 4294967296 ≤ 4294967295 := by omega
  have hab : a * b = (a / 4294967296 * (b / 4294967296)) * 18446744073709551616 + (a / 4294967296 * (b % 4294967296) + a % 4294967296 * (b / 4294967296)) * 4294967296 + a % 4294967296 * (b % 4294967296) := by
    conv => lhs; rw [hx, hy]
    generalize a / 4294967296 = x1
    generalize a % 4294967296 = x0
    generalize b / 4294967296 = y1
    generalize b % 4294967296 = y0
    rw [Int.add_mul, Int.mul_add, Int.mul_add]
    have e1 : x1 * 4294967296 * (y1 * 4294967296) = x1 * y1 * 18446744073709551616 := by rw [show (18446744073709551616 : Int) = 4294967296 * 4294967296 by decide]; ac_rfl
    have e2 : x1 * 4294967296 * y0 = x1 * y0 * 4294967296 := by ac_rfl
    have e3 : x0 * (y1 * 4294967296) = x0 * y1 * 4294967296 := by ac_rfl
    rw [e1, e2, e3]; omega
  rw [hab]
  generalize a / 4294967296 = x1 at *
  generalize a % 4294967296 = x0 at *
  generalize b / 4294967296 = y1 at *
  generalize b % 4294967296 = y0 at *
  have B : ∀ x y : Int, 0 ≤ x ∧ x ≤ 4294967295 → 0 ≤ y ∧ y ≤ 4294967295 → 0 ≤ x * y ∧ x * y ≤ 18446744065119617025 := fun x y hx hy =>
    ⟨Int.mul_nonneg hx.1 hy.1, by have := Int.mul_le_mul hx.2 hy.2 hy.1 (by decide); omega⟩
  have h11 := B x1 y1 p1 p2
  have h10 := B x1 y0 p1 q2
  have h01 := B x0 y1 q1 p2
  have h00 := B x0 y0 q1 q2
  clear hab hx hy B p1 p2 q1 q2
  generalize x1 * y1 = A at *
  generalize x1 * y0 = C at *
  generalize x0 * y1 = D at *
  generalize x0 * y0 = E at *
  simp only [u64w]
  rw [Int.emod_eq_of_lt (a := E) h00.1 (by omega), Int.emod_eq_of_lt (a := C) h10.1 (by omega), Int.emod_eq_of_lt (a := A) h11.1 (by omega), Int.emod_eq_of_lt (a := D) h01.1 (by omega)]
  rw [Int.emod_eq_of_lt (a := C + E / 4294967296) (by omega) (by omega), and32 _ (by omega) (by omega)]
  rw [Int.emod_eq_of_lt (a := (C + E / 4294967296) % 4294967296 + D) (by omega) (by omega)]
  rw [Int.emod_eq_of_lt (a := A + (C + E / 4294967296) / 4294967296) (by omega) (by omega)]
  have e : A * 18446744073709551616 + (C + D) * 4294967296 + E = (A + (C + E / 4294967296) / 4294967296 + ((C + E / 4294967296) % 4294967296 + D) / 4294967296) * 18446744073709551616 + ((((C + E / 4294967296) % 4294967296 + D) % 4294967296) * 4294967296 + E % 4294967296) := by omega
  congr 2
  · rw [e]; omega
theorem mul_ok {a b : Int} (ha : 0 ≤ a ∧ a < 18446744073709551616) (hb : 0 ≤ b ∧ b < 18446744073709551616) : safe_Mul.f a b = some (if a * b < 9223372036854775808 then (a * b, true) else (0, false)) := by
  unfold safe_Mul.f
  rw [mul64_ok ha hb]
  simp only [Option.bind_some, told_ok]
  have hp : 0 ≤ a * b := Int.mul_nonneg ha.1 hb.1
  generalize a * b = p at *
  by_cases h : p < 9223372036854775808
  · have e1 : p / 18446744073709551616 = 0 := by omega
    have e2 : p % 18446744073709551616 = p := by omega
    rw [e1, e2, if_pos h, if_pos ⟨rfl, h⟩]
  · rw [if_neg h]
    by_cases g : p / 18446744073709551616 = 0
    · rw [if_neg (by omega)]
    · rw [if_neg (fun z => g z.1)]
theorem total_l : ∀ (d k : Nat) (s : Int) (l : List Int) (n : Nat), U64 l → n + d = l.length → d < k → 0 ≤ s → s < 9223372036854775808 → l.length < 9223372036854775807 →
    safe_Total.l0 k s l (l.length : Int) (n : Int) = some (if s + (l.drop n).sum < 9223372036854775808 then (s + (l.drop n).sum, true) else (0, false)) := by
  intro d
  induction d with
  | zero =>
    intro k s l n hl hn hk h0 h1 hm
    obtain ⟨k, rfl⟩ : ∃ m, k = m + 1 := ⟨k - 1, by omega⟩
    simp only [safe_Total.l0]
    rw [if_neg (by omega), List.drop_eq_nil_of_le (by omega)]
    simp only [List.sum_nil, Int.add_zero]
    rw [if_pos h1]
  | succ d ih =>
    intro k s l n hl hn hk h0 h1 hm
    obtain ⟨k, rfl⟩ : ∃ m, k = m + 1 := ⟨k - 1, by omega⟩
    simp only [safe_Total.l0]
    have hr := hl.rd (n : Int)
    rw [if_pos (by omega), if_pos (by omega), if_pos (by omega), add_ok ⟨h0, by omega⟩ hr, sum_drop_step (by omega)]
    simp only [Option.bind_some]
    have hs := sum_nonneg (hl.drop (n + 1))
    by_cases c : s + rd l (n : Int) < 9223372036854775808
    · rw [if_pos c]
      simp only [if_true]
      rw [show wrap64 ((n : Int) + 1) = ((n + 1 : Nat) : Int) by rw [w64_id (by omega) (by omega)]; omega]
      rw [ih k _ l (n + 1) hl (by omega) (by omega) (by omega) c hm, Int.add_assoc]
    · rw [if_neg c, if_neg (show ¬ (s + (rd l (n : Int) + (l.drop (n + 1)).sum) < 9223372036854775808) by omega)]
      simp
theorem total_ok (k : Nat) (l : List Int) (hl : U64 l) (hk : l.length < k) (hm : l.length < 9223372036854775807) :
    safe_Total.f k l = some (if l.sum < 9223372036854775808 then (l.sum, true) else (0, false)) := by
  unfold safe_Total.f
  have := total_l l.length k 0 l 0 hl (by omega) hk (by omega) (by omega) hm
  simpa using this
end Go.Proofs.YtekmngghebpciaaGreat.Lm
end
section
namespace Go.Proofs.YtekmngghebpciaaGreat.Lm
open Go.RowKit Go.Proofs.YtekmngghebpciaaGreatW.PrintWords Go.Proofs.YtekmngghebpciaaGreat.PW
theorem stepC {n m : Nat} (h : n < m) (hm : m < 9223372036854775807) : wrap64 ((n : Int) + 1) = ((n + 1 : Nat) : Int) := by rw [w64_id (by omega) (by omega)]; omega
theorem rdT_nat (l : List S96) (i : Nat) : rd_T96 l (i : Int) = l.getD i z96 := by simp [rd_T96]
theorem rdT_get {l : List S96} {n : Nat} (h : n < l.length) : rd_T96 l (n : Int) = l[n] := by rw [rdT_nat, List.getD_eq_getElem?_getD, List.getElem?_eq_getElem h]; rfl
theorem dropT {l : List S96} {n : Nat} (h : n < l.length) : l.drop n = rd_T96 l (n : Int) :: l.drop (n + 1) := by rw [rdT_get h]; exact List.drop_eq_getElem_cons h
def cellOk (T n : Int) (c : S96) : Bool := decide (c.f0 ≤ T) && (decide (0 ≤ c.f1) && decide (c.f1 < n))
theorem bad_ok (T n : Int) (c : S96) : alias_Right_bad T n c = !cellOk T n c := by
  unfold alias_Right_bad cellOk
  by_cases h : c.f0 ≤ T <;> by_cases g : 0 ≤ c.f1 <;> by_cases e : c.f1 < n <;> simp [h, g, e] <;> omega
def rightS (T : Int) (cl : List S96) : Bool := decide (0 < (cl.length : Int)) && (decide (0 < T) && (decide ((cl.length : Int) * T < 9223372036854775808) && cl.all (cellOk T cl.length)))
theorem idx_ok (T n : Int) (l : List S96) (hm : l.length < 9223372036854775807) : ∀ (d k x : Nat), x + d = l.length → d < k →
    ∃ r, alias_Right_idx k l T n (x : Int) = some r ∧ (!decide (r ≥ 0)) = (l.drop x).all (cellOk T n) := by
  intro d
  induction d with
  | zero =>
    intro k x hx hk
    obtain ⟨k, rfl⟩ : ∃ m, k = m + 1 := ⟨k - 1, by omega⟩
    refine ⟨-1, ?_, ?_⟩
    · simp only [alias_Right_idx]; rw [if_neg (by omega)]
    · rw [List.drop_eq_nil_of_le (by omega)]; rfl
  | succ d ih =>
    intro k x hx hk
    obtain ⟨k, rfl⟩ : ∃ m, k = m + 1 := ⟨k - 1, by omega⟩
    simp only [alias_Right_idx]
    rw [if_pos (by omega), if_pos (by omega), dropT (by omega), bad_ok]
    by_cases c : cellOk T n (rd_T96 l (x : Int)) = true
    · rw [if_neg (by simp [c]), stepC (m := l.length) (by omega) hm]
      obtain ⟨r, h1, h2⟩ := ih k (x + 1) (by omega) (by omega)
      exact ⟨r, h1, by simp [c, h2]⟩
    · rw [if_pos (by simpa using c)]
      refine ⟨_, rfl, ?_⟩
      rw [List.all_cons, Bool.eq_false_iff.mpr c, Bool.false_and, decide_eq_true (by omega)]; rfl
theorem right_ok (k : Nat) (T : Int) (cl : List S96) (hT : 0 ≤ T ∧ T < 18446744073709551616) (hk : cl.length < k) (hm : cl.length < 9223372036854775807) : alias_Right.f k T cl = some (rightS T cl) := by
  unfold alias_Right.f rightS
  rw [u64w_id (x := (cl.length : Int)) (by omega) (by omega), mul_ok (by omega) hT, bs]
  by_cases c : (cl.length : Int) * T < 9223372036854775808
  · rw [if_pos c, if_pos rfl]
    by_cases z : (cl.length : Int) = 0
    · rw [if_pos z, decide_eq_false (p := 0 < (cl.length : Int)) (by omega)]; rfl
    · rw [if_neg z, decide_eq_true (p := 0 < (cl.length : Int)) (by omega)]
      by_cases t : T = 0
      · rw [if_pos t, decide_eq_false (p := 0 < T) (by omega)]; rfl
      · rw [if_neg t, decide_eq_true (p := 0 < T) (by omega), decide_eq_true c]
        obtain ⟨r, h1, h2⟩ := idx_ok T cl.length cl hm cl.length k 0 (by omega) hk
        rw [show (0 : Int) = ((0 : Nat) : Int) from rfl, h1, bs]
        rw [List.drop_zero] at h2
        rw [← h2]; simp
  · rw [if_neg c, decide_eq_false c]
    simp
theorem column_ok (k : Nat) (T : Int) (cl : List S96) (hT : 0 ≤ T ∧ T < 18446744073709551616) (hk : cl.length < k) (hm : cl.length < 9223372036854775807) (i : Int) :
    alias_column.f k T cl i = some (if rightS T cl = true then (if 0 ≤ i ∧ i < cl.length then 0 else 3) else 1) := by
  unfold alias_column.f
  rw [right_ok k T cl hT hk hm, bs]
  by_cases c : rightS T cl = true
  · rw [if_pos c, if_pos c]
    by_cases a : i < 0
    · rw [if_pos a, if_neg (by omega)]
    · rw [if_neg a]
      by_cases b : i ≥ (cl.length : Int)
      · rw [if_pos b, if_neg (by omega)]
      · rw [if_neg b, if_pos (by omega)]
  · rw [if_neg c, if_neg c]
def lookS (T : Int) (cl : List S96) (i u : Int) : Int × Int :=
  if rightS T cl = true then (if 0 ≤ i ∧ i < cl.length ∧ u < T then (if u ≥ (rd_T96 cl i).f0 then ((rd_T96 cl i).f1, 0) else (i, 0)) else (0, 3)) else (0, 1)
theorem lookup_ok (k : Nat) (T : Int) (cl : List S96) (hT : 0 ≤ T ∧ T < 18446744073709551616) (hk : cl.length < k) (hm : cl.length < 9223372036854775807) (i u : Int) :
    alias_Lookup.f k T cl i u = some (lookS T cl i u) := by
  unfold alias_Lookup.f lookS
  rw [column_ok k T cl hT hk hm, bs]
  by_cases c : rightS T cl = true
  · simp only [if_pos c]
    by_cases a : 0 ≤ i ∧ i < cl.length
    · rw [if_pos a, if_pos rfl]
      by_cases b : u ≥ T
      · rw [if_pos b, if_neg (by omega)]
      · rw [if_neg b, if_pos a.1, if_pos a.2, if_pos (show 0 ≤ i ∧ i < (cl.length : Int) ∧ u < T by omega)]
        split <;> rfl
    · rw [if_neg a, if_neg (by decide), if_neg (by omega)]
  · simp only [if_neg c]
    rw [if_neg (by decide)]
def sizeS (T : Int) (cl : List S96) : Int := if rightS T cl = true then (cl.length : Int) * T else 0
theorem rightS_lt {T : Int} {cl : List S96} (h : rightS T cl = true) : 0 < (cl.length : Int) ∧ 0 < T ∧ (cl.length : Int) * T < 9223372036854775808 ∧ ∀ c ∈ cl, c.f0 ≤ T ∧ 0 ≤ c.f1 ∧ c.f1 < cl.length := by
  simp only [rightS, Bool.and_eq_true, decide_eq_true_eq, List.all_eq_true, cellOk] at h
  exact h
theorem size_ok (k : Nat) (T : Int) (cl : List S96) (hT : 0 ≤ T ∧ T < 18446744073709551616) (hk : cl.length < k) (hm : cl.length < 9223372036854775807) : alias_Size.f k T cl = some (sizeS T cl) := by
  unfold alias_Size.f sizeS
  rw [right_ok k T cl hT hk hm, bs]
  by_cases c : rightS T cl = true
  · have h := rightS_lt c
    have := Int.mul_nonneg (a := (cl.length : Int)) (b := T) (by omega) (by omega)
    rw [if_pos c, if_pos c, u64w_id (x := (cl.length : Int)) (by omega) (by omega), u64w_id (by omega) (by omega)]
  · rw [if_neg c, if_neg c]
def ownerS (T : Int) (cl : List S96) (u : Int) : Int × Int :=
  if rightS T cl = true then (if u < (cl.length : Int) * T then lookS T cl (u / T) (u % T) else (0, 3)) else (0, 1)
theorem owner_okA (k : Nat) (T : Int) (cl : List S96) (hT : 0 ≤ T ∧ T < 18446744073709551616) (hk : cl.length < k) (hm : cl.length < 9223372036854775807) (u : Int) (hu : 0 ≤ u ∧ u < 18446744073709551616) :
    alias_Owner.f k T cl u = some (ownerS T cl u) := by
  unfold alias_Owner.f ownerS
  rw [right_ok k T cl hT hk hm, bs, size_ok k T cl hT hk hm, bs]
  unfold sizeS
  by_cases c : rightS T cl = true
  · have h := rightS_lt c
    simp only [if_pos c]
    by_cases a : u < (cl.length : Int) * T
    · have h0 : 0 ≤ u / T := Int.ediv_nonneg hu.1 (by omega)
      have h1 : u / T < cl.length := Int.ediv_lt_of_lt_mul (by omega) a
      rw [if_neg (by omega), if_neg (by omega), if_pos a, Int.tdiv_eq_ediv_of_nonneg hu.1, Int.tmod_eq_emod_of_nonneg hu.1, u64w_id h0 (by omega), w64_id (by omega) (by omega), lookup_ok k T cl hT hk hm, bs]
    · rw [if_pos (by omega), if_neg a]
  · simp only [if_neg c]
    first | done | rw [if_neg c]
def gave (T : Int) (cl : List S96) (i : Int) : Int := (cl.map fun c => if c.f1 = i then T - c.f0 else 0).sum
theorem gave_cons (T : Int) (c : S96) (cl : List S96) (i : Int) : gave T (c :: cl) i = (if c.f1 = i then T - c.f0 else 0) + gave T cl i := by simp [gave]
def W96 (cl : List S96) : Prop := ∀ c ∈ cl, 0 ≤ c.f0 ∧ c.f0 < 18446744073709551616
theorem W96.rd {cl : List S96} (h : W96 cl) (i : Int) : 0 ≤ (rd_T96 cl i).f0 ∧ (rd_T96 cl i).f0 < 18446744073709551616 := by
  unfold rd_T96
  rw [List.getD_eq_getElem?_getD]
  by_cases hi : i.toNat < cl.length
  · rw [List.getElem?_eq_getElem hi]; exact h _ (List.getElem_mem hi)
  · rw [List.getElem?_eq_none (by omega)]; exact ⟨by decide, by decide⟩
end Go.Proofs.YtekmngghebpciaaGreat.Lm
end
section
namespace Go.Proofs.YtekmngghebpciaaGreat.Lm
open Go.RowKit Go.Proofs.YtekmngghebpciaaGreatW.PrintWords Go.Proofs.YtekmngghebpciaaGreat.PW
def fin : Nat → Int → List Int → List S96 → List Int → List Int → List S96
  | 0, _, _, cl, _, _ => cl
  | d + 1, T, hs, cl, sm, lg => if 0 < sm.length ∧ 0 < lg.length then
      (let i := rd sm ((sm.length - 1 : Nat) : Int); let k := rd lg ((lg.length - 1 : Nat) : Int); let x := IntKind.u64.wrap (rd hs k - IntKind.u64.wrap (T - rd hs i))
       fin d T (hs.set k.toNat x) (cl.set i.toNat ⟨rd hs i, k⟩) (if x < T then sm.take (sm.length - 1) ++ [k] else sm.take (sm.length - 1)) (if x < T then lg.take (lg.length - 1) else lg.take (lg.length - 1) ++ [k]))
      else cl
def InR (n : Nat) (l : List Int) : Prop := ∀ j ∈ l, 0 ≤ j ∧ j < n
theorem InR.rd {n : Nat} {l : List Int} (h : InR n l) {i : Nat} (hi : i < l.length) : 0 ≤ rd l (i : Int) ∧ rd l (i : Int) < n := by
  obtain ⟨h', e⟩ := rd_lt (l := l) (i := (i : Int)) (by omega) (by omega)
  rw [e]
  exact h _ (List.getElem_mem h')
theorem InR.take {n : Nat} {l : List Int} (h : InR n l) (m : Nat) : InR n (l.take m) := fun j hj => h j (List.mem_of_mem_take hj)
theorem InR.snoc {n : Nat} {l : List Int} (h : InR n l) {k : Int} (hk : 0 ≤ k ∧ k < n) : InR n (l ++ [k]) := fun j hj => by
  rcases List.mem_append.1 hj with h1 | h1
  · exact h j h1
  · simp only [List.mem_singleton] at h1; subst h1; exact hk
theorem last_w {m : Nat} (h0 : 0 < m) (h1 : m < 9223372036854775807) : wrap64 ((m : Int) - 1) = ((m - 1 : Nat) : Int) := by rw [w64_id (by omega) (by omega)]; omega
theorem l1_ok (T : Int) (n : Nat) : ∀ (d k : Nat) (hs : List Int) (cl : List S96) (sm lg : List Int), sm.length + lg.length ≤ d → d < k → d < 17592186044416 → hs.length = n → cl.length = n → InR n sm → InR n lg →
    alias_Build.l1 k T hs cl sm lg = some (T, fin d T hs cl sm lg, 0) := by
  intro d
  induction d with
  | zero =>
    intro k hs cl sm lg hd hk _ hh hc is il
    obtain ⟨k, rfl⟩ : ∃ m, k = m + 1 := ⟨k - 1, by omega⟩
    simp only [alias_Build.l1, fin]
    rw [if_neg (by omega)]
  | succ d ih =>
    intro k hs cl sm lg hd hk hb hh hc is il
    obtain ⟨k, rfl⟩ : ∃ m, k = m + 1 := ⟨k - 1, by omega⟩
    simp only [alias_Build.l1, fin]
    by_cases c : 0 < sm.length ∧ 0 < lg.length
    · have ps := is.rd (i := sm.length - 1) (by omega)
      have pl := il.rd (i := lg.length - 1) (by omega)
      rw [if_pos (by omega), if_pos c, last_w (m := sm.length) (by omega) (by omega), last_w (m := lg.length) (by omega) (by omega)]
      rw [if_pos (by omega), Int.toNat_natCast, Int.toNat_natCast]
      have h1 : (sm.take (sm.length - 1)).length = sm.length - 1 := by rw [List.length_take]; omega
      have h2 : (lg.take (lg.length - 1)).length = lg.length - 1 := by rw [List.length_take]; omega
      refine ih k _ _ _ _ ?_ (by omega) (by omega) (by rw [List.length_set]; exact hh) (by rw [List.length_set]; exact hc) ?_ ?_
      · split <;> simp only [List.length_append, List.length_singleton, h1, h2] <;> omega
      · split
        · exact (is.take _).snoc pl
        · exact is.take _
      · split
        · exact il.take _
        · exact (il.take _).snoc pl
    · rw [if_neg (by omega), if_neg c]
def hasAt (l : List Int) (j : Nat) : Int := IntKind.u64.wrap (rd l (j : Int) * IntKind.u64.wrap (l.length : Int))
def hs0 (l : List Int) (i : Nat) : List Int := (List.range i).map (hasAt l) ++ List.replicate (l.length - i) 0
def cl0 (T : Int) (i : Nat) : List S96 := (List.range i).map fun j : Nat => ⟨T, (j : Int)⟩
def sm0 (l : List Int) (T : Int) (i : Nat) : List Int := ((List.range i).filter fun j => decide (hasAt l j < T)).map fun j : Nat => (j : Int)
def lg0 (l : List Int) (T : Int) (i : Nat) : List Int := ((List.range i).filter fun j => !decide (hasAt l j < T)).map fun j : Nat => (j : Int)
theorem set_rep {α : Type} (a : List α) (z x : α) (m : Nat) (h : 0 < m) : (a ++ List.replicate m z).set a.length x = (a ++ [x]) ++ List.replicate (m - 1) z := by
  obtain ⟨m, rfl⟩ : ∃ q, m = q + 1 := ⟨m - 1, by omega⟩
  rw [List.set_append_right _ _ (Nat.le_refl _)]
  simp [List.replicate_succ]
theorem hs0_step (l : List Int) {i : Nat} (h : i < l.length) : (hs0 l i).set i (hasAt l i) = hs0 l (i + 1) := by
  unfold hs0
  have := set_rep ((List.range i).map (hasAt l)) 0 (hasAt l i) (l.length - i) (by omega)
  rw [List.length_map, List.length_range] at this
  rw [this, List.range_succ, List.map_append, show l.length - i - 1 = l.length - (i + 1) by omega]; rfl
theorem hs0_len (l : List Int) {i : Nat} (h : i ≤ l.length) : (hs0 l i).length = l.length := by
  simp only [hs0, List.length_append, List.length_map, List.length_range, List.length_replicate]; omega
theorem cl0_step (T : Int) (i : Nat) : cl0 T i ++ [⟨T, (i : Int)⟩] = cl0 T (i + 1) := by simp [cl0, List.range_succ]
theorem cl0_len (T : Int) (i : Nat) : (cl0 T i).length = i := by simp [cl0]
theorem sm0_step (l : List Int) (T : Int) (i : Nat) : (if hasAt l i < T then sm0 l T i ++ [(i : Int)] else sm0 l T i) = sm0 l T (i + 1) := by
  unfold sm0
  rw [List.range_succ, List.filter_append, List.map_append]
  by_cases c : hasAt l i < T <;> simp [c]
theorem lg0_step (l : List Int) (T : Int) (i : Nat) : (if hasAt l i < T then lg0 l T i else lg0 l T i ++ [(i : Int)]) = lg0 l T (i + 1) := by
  unfold lg0
  rw [List.range_succ, List.filter_append, List.map_append]
  by_cases c : hasAt l i < T <;> simp [c]
theorem smlg_len (l : List Int) (T : Int) (i : Nat) : (sm0 l T i).length + (lg0 l T i).length = i := by
  induction i with
  | zero => rfl
  | succ i ih =>
    rw [← sm0_step, ← lg0_step]
    by_cases c : hasAt l i < T
    · rw [if_pos c, if_pos c, List.length_append, List.length_singleton]; omega
    · rw [if_neg c, if_neg c, List.length_append, List.length_singleton]; omega
theorem sm0_in (l : List Int) (T : Int) (i : Nat) : InR i (sm0 l T i) := fun j hj => by
  simp only [sm0, List.mem_map, List.mem_filter, List.mem_range] at hj
  obtain ⟨a, ⟨h, _⟩, rfl⟩ := hj
  omega
theorem lg0_in (l : List Int) (T : Int) (i : Nat) : InR i (lg0 l T i) := fun j hj => by
  simp only [lg0, List.mem_map, List.mem_filter, List.mem_range] at hj
  obtain ⟨a, ⟨h, _⟩, rfl⟩ := hj
  omega
def tabS (l : List Int) : List S96 := fin l.length l.sum (hs0 l l.length) (cl0 l.sum l.length) (sm0 l l.sum l.length) (lg0 l l.sum l.length)
theorem l0_ok (T : Int) (l : List Int) (hm : l.length ≤ 1048576) : ∀ (d k i : Nat), i + d = l.length → d + l.length + 1 < k →
    alias_Build.l0 k l T (hs0 l i) (cl0 T i) (sm0 l T i) (lg0 l T i) (i : Int) = some (T, fin l.length T (hs0 l l.length) (cl0 T l.length) (sm0 l T l.length) (lg0 l T l.length), 0) := by
  intro d
  induction d with
  | zero =>
    intro k i hi hk
    obtain ⟨k, rfl⟩ : ∃ m, k = m + 1 := ⟨k - 1, by omega⟩
    simp only [alias_Build.l0]
    obtain rfl : i = l.length := by omega
    rw [if_neg (by omega)]
    exact l1_ok T l.length l.length k _ _ _ _ (by have := smlg_len l T l.length; omega) (by omega) (by omega) (hs0_len l (Nat.le_refl _)) (cl0_len T _) (sm0_in l T _) (lg0_in l T _)
  | succ d ih =>
    intro k i hi hk
    obtain ⟨k, rfl⟩ : ∃ m, k = m + 1 := ⟨k - 1, by omega⟩
    simp only [alias_Build.l0]
    have h1 := hs0_len l (i := i) (by omega)
    have h2 := cl0_len T i
    have h3 := smlg_len l T i
    rw [if_pos (by omega), if_pos (by omega), Int.toNat_natCast, stepC (m := l.length) (by omega) (by omega)]
    rw [show IntKind.u64.wrap (rd l (i : Int) * IntKind.u64.wrap (l.length : Int)) = hasAt l i from rfl, hs0_step l (by omega), cl0_step, sm0_step, lg0_step]
    exact ih k (i + 1) (by omega) (by omega)
def buildS (l : List Int) : Int × List S96 × Int :=
  if l.length = 0 then (0, [], 10) else if l.sum < 9223372036854775808 then (if l.sum = 0 then (0, [], 10) else if (l.length : Int) * l.sum < 9223372036854775808 then (l.sum, tabS l, 0) else (0, [], 11)) else (0, [], 11)
theorem totalA_ok (k : Nat) (l : List Int) (hl : U64 l) (hk : l.length < k) (hm : l.length ≤ 1048576) :
    alias_total.f k l = some (if l.length = 0 then (0, 10) else if l.sum < 9223372036854775808 then (if l.sum = 0 then (0, 10) else if (l.length : Int) * l.sum < 9223372036854775808 then (l.sum, 0) else (0, 11)) else (0, 11)) := by
  unfold alias_total.f
  rw [u64w_id (x := (l.length : Int)) (by omega) (by omega)]
  by_cases z : l.length = 0
  · rw [if_pos (by omega), if_pos z]
  · rw [if_neg (by omega), if_neg z, total_ok k l hl hk (by omega), bs]
    have hs := sum_nonneg hl
    by_cases c : l.sum < 9223372036854775808
    · simp only [if_pos c]
      rw [if_pos trivial]
      by_cases e : l.sum = 0
      · rw [if_pos e, if_pos e]
      · rw [if_neg e, if_neg e, mul_ok (by omega) (by omega), bs]
        by_cases g : (l.length : Int) * l.sum < 9223372036854775808
        · simp only [if_pos g]; rw [if_pos trivial]
        · simp only [if_neg g]; rw [if_neg (by decide)]
    · simp only [if_neg c]
      rw [if_neg (by decide)]
theorem buildA_ok (k : Nat) (l : List Int) (hl : U64 l) (hk : 2 * l.length + 1 < k) (hm : l.length ≤ 1048576) : alias_Build.f k l = some (buildS l) := by
  unfold alias_Build.f buildS
  rw [totalA_ok k l hl (by omega) hm, bs]
  by_cases z : l.length = 0
  · simp only [if_pos z]; rw [if_neg (by decide)]
  · simp only [if_neg z]
    by_cases c : l.sum < 9223372036854775808
    · simp only [if_pos c]
      by_cases e : l.sum = 0
      · simp only [if_pos e]; rw [if_neg (by decide)]
      · simp only [if_neg e]
        by_cases g : (l.length : Int) * l.sum < 9223372036854775808
        · simp only [if_pos g]
          rw [if_pos trivial, if_pos hm]
          have := l0_ok l.sum l hm l.length k 0 (by omega) (by omega)
          simpa [hs0, cl0, sm0, lg0, tabS] using this
        · simp only [if_neg g]; rw [if_neg (by decide)]
    · simp only [if_neg c]; rw [if_neg (by decide)]
end Go.Proofs.YtekmngghebpciaaGreat.Lm
end
section
namespace Go.Proofs.YtekmngghebpciaaGreat.Lm
open Go.RowKit Go.Proofs.YtekmngghebpciaaGreatW.PrintWords Go.Proofs.YtekmngghebpciaaGreat.PW
theorem rd_setI {l : List Int} {i : Int} (x j : Int) (h0 : 0 ≤ i) (h : i < l.length) (hj : 0 ≤ j) : rd (l.set i.toNat x) j = if i = j then x else rd l j := by
  unfold rd
  rw [List.getD_eq_getElem?_getD, List.getD_eq_getElem?_getD]
  by_cases c : i = j
  · subst c
    rw [if_pos rfl, List.getElem?_set_self (by omega)]; rfl
  · rw [if_neg c, List.getElem?_set_ne (by omega)]
theorem rdT_setI {l : List S96} {i : Int} (x : S96) (j : Int) (h0 : 0 ≤ i) (h : i < l.length) (hj : 0 ≤ j) : rd_T96 (l.set i.toNat x) j = if i = j then x else rd_T96 l j := by
  unfold rd_T96
  rw [List.getD_eq_getElem?_getD, List.getD_eq_getElem?_getD]
  by_cases c : i = j
  · subst c
    rw [if_pos rfl, List.getElem?_set_self (by omega)]; rfl
  · rw [if_neg c, List.getElem?_set_ne (by omega)]
theorem gave_set (T : Int) (j : Int) (c : S96) : ∀ (cl : List S96) (i : Nat), i < cl.length → gave T (cl.set i c) j = gave T cl j + (if c.f1 = j then T - c.f0 else 0) - (if (rd_T96 cl (i : Int)).f1 = j then T - (rd_T96 cl (i : Int)).f0 else 0) := by
  intro cl
  induction cl with
  | nil => intro i h; simp at h
  | cons a cl ih =>
    intro i h
    cases i with
    | zero =>
      rw [List.set_cons_zero, gave_cons, gave_cons, rdT_nat]
      simp only [List.getD_cons_zero]
      omega
    | succ i =>
      rw [List.set_cons_succ, gave_cons, gave_cons, ih i (by simpa using h), rdT_nat, rdT_nat]
      simp only [List.getD_cons_succ]
      omega
theorem gave_nonneg {T j : Int} {cl : List S96} (h : ∀ c ∈ cl, c.f0 ≤ T) : 0 ≤ gave T cl j := by
  induction cl with
  | nil => simp [gave]
  | cons a cl ih =>
    rw [gave_cons]
    have := h a (by simp)
    have := ih (fun c hc => h c (by simp [hc]))
    split <;> omega
structure Inv (l : List Int) (T : Int) (hs : List Int) (cl : List S96) (sm lg : List Int) : Prop where
  lh : hs.length = l.length
  lc : cl.length = l.length
  is : InR l.length sm
  il : InR l.length lg
  nd : (sm ++ lg).Nodup
  hs_sm : ∀ j ∈ sm, 0 ≤ rd hs j ∧ rd hs j < T
  hs_lg : ∀ j ∈ lg, T ≤ rd hs j
  un : ∀ j ∈ sm ++ lg, rd_T96 cl j = ⟨T, j⟩
  dn : ∀ j : Int, 0 ≤ j → j < l.length → j ∉ sm ++ lg → (rd_T96 cl j).f0 = rd hs j ∧ 0 ≤ rd hs j ∧ rd hs j ≤ T ∧ 0 ≤ (rd_T96 cl j).f1 ∧ (rd_T96 cl j).f1 < l.length
  con : ∀ j : Int, 0 ≤ j → j < l.length → rd hs j + gave T cl j = l.length * rd l j
  bal : ((sm ++ lg).map (rd hs)).sum = T * ((sm.length : Int) + lg.length)
theorem Inv.step {l : List Int} {T : Int} {hs : List Int} {cl : List S96} {s g sm' lg' : List Int} {i k : Int} (hI : Inv l T hs cl (s ++ [i]) (g ++ [k])) (x : Int) (hx : x = rd hs k - (T - rd hs i))
    (h1 : (x < T ∧ sm' = s ++ [k] ∧ lg' = g) ∨ (T ≤ x ∧ sm' = s ∧ lg' = g ++ [k])) : Inv l T (hs.set k.toNat x) (cl.set i.toNat ⟨rd hs i, k⟩) sm' lg' := by
  obtain ⟨lh, lc, is, il, nd, hsm, hlg, un, dn, con, bal⟩ := hI
  have ri := is i (by simp)
  have rk := il k (by simp)
  have pold : ((s ++ [i]) ++ (g ++ [k])).Perm (i :: k :: (s ++ g)) := by
    rw [List.perm_iff_count]; intro a; simp only [List.count_append, List.count_cons, List.count_nil]; omega
  have pnew : (sm' ++ lg').Perm (k :: (s ++ g)) := by
    rw [List.perm_iff_count]; intro a
    rcases h1 with ⟨_, rfl, rfl⟩ | ⟨_, rfl, rfl⟩ <;> simp only [List.count_append, List.count_cons, List.count_nil] <;> omega
  have nd2 := pold.nodup_iff.mp nd
  rw [List.nodup_cons, List.nodup_cons] at nd2
  obtain ⟨n1, n2, n3⟩ := nd2
  have hik : i ≠ k := fun e => n1 (by rw [e]; simp)
  have mnew : ∀ j, j ∈ sm' ++ lg' ↔ j = k ∨ j ∈ s ∨ j ∈ g := fun j => by rw [pnew.mem_iff]; simp
  have mold : ∀ j, j ∈ (s ++ [i]) ++ (g ++ [k]) ↔ j = i ∨ j = k ∨ j ∈ s ∨ j ∈ g := fun j => by rw [pold.mem_iff]; simp
  have hsi := hsm i (by simp)
  have hlk := hlg k (by simp)
  have RS : ∀ j ∈ s, 0 ≤ j ∧ j < l.length ∧ j ≠ k ∧ j ≠ i := fun j hj => ⟨(is j (by simp [hj])).1, (is j (by simp [hj])).2, fun e => n2 (by rw [← e]; simp [hj]), fun e => n1 (by rw [← e]; simp [hj])⟩
  have RG : ∀ j ∈ g, 0 ≤ j ∧ j < l.length ∧ j ≠ k ∧ j ≠ i := fun j hj => ⟨(il j (by simp [hj])).1, (il j (by simp [hj])).2, fun e => n2 (by rw [← e]; simp [hj]), fun e => n1 (by rw [← e]; simp [hj])⟩
  have H : ∀ j : Int, 0 ≤ j → rd (hs.set k.toNat x) j = if k = j then x else rd hs j := fun j hj => rd_setI x j rk.1 (by omega) hj
  have C : ∀ j : Int, 0 ≤ j → rd_T96 (cl.set i.toNat ⟨rd hs i, k⟩) j = if i = j then ⟨rd hs i, k⟩ else rd_T96 cl j := fun j hj => rdT_setI _ j ri.1 (by omega) hj
  have HS : ∀ j ∈ s, rd (hs.set k.toNat x) j = rd hs j := fun j hj => by have := RS j hj; rw [H j this.1, if_neg (fun e => this.2.2.1 e.symm)]
  have HG : ∀ j ∈ g, rd (hs.set k.toNat x) j = rd hs j := fun j hj => by have := RG j hj; rw [H j this.1, if_neg (fun e => this.2.2.1 e.symm)]
  have Hk : rd (hs.set k.toNat x) k = x := by rw [H k rk.1, if_pos rfl]
  refine ⟨by rw [List.length_set]; exact lh, by rw [List.length_set]; exact lc, ?_, ?_, pnew.nodup_iff.mpr (List.nodup_cons.mpr ⟨n2, n3⟩), ?_, ?_, ?_, ?_, ?_, ?_⟩
  · intro j hj
    rcases (mnew j).mp (List.mem_append_left _ hj) with rfl | h | h
    · exact rk
    · exact ⟨(RS j h).1, (RS j h).2.1⟩
    · exact ⟨(RG j h).1, (RG j h).2.1⟩
  · intro j hj
    rcases (mnew j).mp (List.mem_append_right _ hj) with rfl | h | h
    · exact rk
    · exact ⟨(RS j h).1, (RS j h).2.1⟩
    · exact ⟨(RG j h).1, (RG j h).2.1⟩
  · intro j hj
    rcases h1 with ⟨hlt, rfl, rfl⟩ | ⟨hge, rfl, rfl⟩
    · rcases List.mem_append.1 hj with h | h
      · rw [HS j h]; exact hsm j (by simp [h])
      · simp only [List.mem_singleton] at h; subst h; rw [Hk]; omega
    · rw [HS j hj]; exact hsm j (by simp [hj])
  · intro j hj
    rcases h1 with ⟨hlt, rfl, rfl⟩ | ⟨hge, rfl, rfl⟩
    · rw [HG j hj]; exact hlg j (by simp [hj])
    · rcases List.mem_append.1 hj with h | h
      · rw [HG j h]; exact hlg j (by simp [h])
      · simp only [List.mem_singleton] at h; subst h; rw [Hk]; exact hge
  · intro j hj
    rcases (mnew j).mp hj with rfl | h | h
    · rw [C j rk.1, if_neg hik]; exact un j (by simp)
    · have := RS j h
      rw [C j this.1, if_neg (fun e => this.2.2.2 e.symm)]; exact un j (by simp [h])
    · have := RG j h
      rw [C j this.1, if_neg (fun e => this.2.2.2 e.symm)]; exact un j (by simp [h])
  · intro j h0 hn hj
    have hj2 : ¬ (j = k ∨ j ∈ s ∨ j ∈ g) := fun e => hj ((mnew j).mpr e)
    rw [C j h0, H j h0, if_neg (show ¬ k = j from fun e => hj2 (.inl e.symm))]
    by_cases c : i = j
    · subst c
      rw [if_pos rfl]
      exact ⟨rfl, hsi.1, by omega, rk.1, rk.2⟩
    · rw [if_neg c]
      exact dn j h0 hn (fun e => by rcases (mold j).mp e with h | h; exact c h.symm; exact hj2 h)
  · intro j h0 hn
    have e1 := gave_set T j ⟨rd hs i, k⟩ cl i.toNat (by omega)
    have e2 := un i (by simp)
    rw [show ((i.toNat : Nat) : Int) = i by omega, e2] at e1
    dsimp only at e1
    have e3 := con j h0 hn
    rw [e1, H j h0]
    by_cases c : k = j
    · subst c
      rw [if_pos rfl, if_pos rfl]
      split <;> omega
    · rw [if_neg c, if_neg c]
      split <;> omega
  · have es : (s.map (rd (hs.set k.toNat x))).sum = (s.map (rd hs)).sum := by rw [List.map_congr_left HS]
    have eg : (g.map (rd (hs.set k.toNat x))).sum = (g.map (rd hs)).sum := by rw [List.map_congr_left HG]
    have hb : (s.map (rd hs)).sum + rd hs i + ((g.map (rd hs)).sum + rd hs k) = T * (((s.length : Int) + g.length) + 2) := by
      have := bal
      simp only [List.map_append, List.sum_append, List.map_cons, List.map_nil, List.sum_cons, List.sum_nil, List.length_append, List.length_cons, List.length_nil] at this
      rw [show ((s.length : Int) + g.length) + 2 = ((s.length + (0 + 1) : Nat) : Int) + ((g.length + (0 + 1) : Nat) : Int) by omega, ← this]; omega
    rw [Int.mul_add] at hb
    rcases h1 with ⟨_, rfl, rfl⟩ | ⟨_, rfl, rfl⟩
    · simp only [List.map_append, List.sum_append, List.map_cons, List.map_nil, List.sum_cons, List.sum_nil, List.length_append, List.length_cons, List.length_nil]
      rw [es, eg, Hk, show ((s.length + (0 + 1) : Nat) : Int) + (lg'.length : Int) = ((s.length : Int) + lg'.length) + 1 by omega, Int.mul_add]
      omega
    · simp only [List.map_append, List.sum_append, List.map_cons, List.map_nil, List.sum_cons, List.sum_nil, List.length_append, List.length_cons, List.length_nil]
      rw [es, eg, Hk, show (sm'.length : Int) + ((g.length + (0 + 1) : Nat) : Int) = ((sm'.length : Int) + g.length) + 1 by omega, Int.mul_add]
      omega
theorem snoc_of {l : List Int} (h : 0 < l.length) : l = l.take (l.length - 1) ++ [rd l ((l.length - 1 : Nat) : Int)] := by
  have := take_step (l := l) (n := l.length - 1) (by omega)
  rw [show l.length - 1 + 1 = l.length by omega, List.take_length] at this
  exact this
theorem Inv.cell {l : List Int} {T : Int} {hs : List Int} {cl : List S96} {sm lg : List Int} (hI : Inv l T hs cl sm lg) (hT : 0 ≤ T) (j : Int) (h0 : 0 ≤ j) (h1 : j < l.length) : 0 ≤ (rd_T96 cl j).f0 ∧ (rd_T96 cl j).f0 ≤ T ∧ 0 ≤ (rd_T96 cl j).f1 ∧ (rd_T96 cl j).f1 < l.length := by
  by_cases c : j ∈ sm ++ lg
  · rw [hI.un j c]; exact ⟨hT, Int.le_refl _, h0, h1⟩
  · have := hI.dn j h0 h1 c; omega
theorem Inv.cells {l : List Int} {T : Int} {hs : List Int} {cl : List S96} {sm lg : List Int} (hI : Inv l T hs cl sm lg) (hT : 0 ≤ T) : ∀ c ∈ cl, 0 ≤ c.f0 ∧ c.f0 ≤ T ∧ 0 ≤ c.f1 ∧ c.f1 < l.length := fun c hc => by
  obtain ⟨n, hn, rfl⟩ := List.getElem_of_mem hc
  have := hI.cell hT (n : Int) (by omega) (by have := hI.lc; omega)
  rwa [rdT_get hn] at this
theorem fin_inv {l : List Int} {T : Int} (hT : 0 < T) (hb : ∀ j : Int, 0 ≤ j → j < l.length → (l.length : Int) * rd l j < 9223372036854775808) : ∀ (d : Nat) (hs : List Int) (cl : List S96) (sm lg : List Int), sm.length + lg.length ≤ d → Inv l T hs cl sm lg →
    ∃ hs' sm' lg', Inv l T hs' (fin d T hs cl sm lg) sm' lg' ∧ (sm' = [] ∨ lg' = []) := by
  intro d
  induction d with
  | zero =>
    intro hs cl sm lg hd hI
    exact ⟨hs, sm, lg, hI, .inl (List.length_eq_zero_iff.mp (by omega))⟩
  | succ d ih =>
    intro hs cl sm lg hd hI
    simp only [fin]
    by_cases c : 0 < sm.length ∧ 0 < lg.length
    · rw [if_pos c]
      have es := snoc_of c.1
      have el := snoc_of c.2
      have h1 : (sm.take (sm.length - 1)).length = sm.length - 1 := by rw [List.length_take]; omega
      have h2 : (lg.take (lg.length - 1)).length = lg.length - 1 := by rw [List.length_take]; omega
      generalize ht1 : sm.take (sm.length - 1) = s at *
      generalize ht2 : lg.take (lg.length - 1) = g at *
      generalize hti : rd sm ((sm.length - 1 : Nat) : Int) = i at *
      generalize htk : rd lg ((lg.length - 1 : Nat) : Int) = k at *
      have hI2 : Inv l T hs cl (s ++ [i]) (g ++ [k]) := by rw [← es, ← el]; exact hI
      have ri := hI2.is i (by simp)
      have rk := hI2.il k (by simp)
      have hsi := hI2.hs_sm i (by simp)
      have hlk := hI2.hs_lg k (by simp)
      have hc := hI2.con k rk.1 rk.2
      have hg : 0 ≤ gave T cl k := gave_nonneg (fun c hc => (hI2.cells (by omega) c hc).2.1)
      have hbk := hb k rk.1 rk.2
      rw [u64w_id (x := T - rd hs i) (by omega) (by omega), u64w_id (by omega) (by omega)]
      generalize hx : rd hs k - (T - rd hs i) = x
      by_cases e : x < T
      · rw [if_pos e, if_pos e]
        exact ih _ _ _ _ (by simp only [List.length_append, List.length_singleton]; omega) (hI2.step x hx.symm (.inl ⟨e, rfl, rfl⟩))
      · rw [if_neg e, if_neg e]
        exact ih _ _ _ _ (by simp only [List.length_append, List.length_singleton]; omega) (hI2.step x hx.symm (.inr ⟨by omega, rfl, rfl⟩))
    · rw [if_neg c]
      refine ⟨hs, sm, lg, hI, ?_⟩
      by_cases a : 0 < sm.length
      · exact .inr (List.length_eq_zero_iff.mp (by omega))
      · exact .inl (List.length_eq_zero_iff.mp (by omega))
theorem sum_below {T : Int} {f : Int → Int} : ∀ (l : List Int), (∀ j ∈ l, f j < T) → (l.map f).sum ≤ T * (l.length : Int) - l.length
  | [], _ => by simp
  | a :: l, h => by
    have h1 := h a (by simp)
    have h2 := sum_below l (fun j hj => h j (by simp [hj]))
    simp only [List.map_cons, List.sum_cons, List.length_cons]
    rw [show ((l.length + 1 : Nat) : Int) = (l.length : Int) + 1 by omega, Int.mul_add]
    omega
theorem sum_above {T : Int} {f : Int → Int} : ∀ (l : List Int), (∀ j ∈ l, T ≤ f j) → T * (l.length : Int) ≤ (l.map f).sum ∧ ((l.map f).sum = T * (l.length : Int) → ∀ j ∈ l, f j = T)
  | [], _ => by simp
  | a :: l, h => by
    have h1 := h a (by simp)
    obtain ⟨h2, h3⟩ := sum_above l (fun j hj => h j (by simp [hj]))
    simp only [List.map_cons, List.sum_cons, List.length_cons]
    rw [show ((l.length + 1 : Nat) : Int) = (l.length : Int) + 1 by omega, Int.mul_add]
    refine ⟨by omega, fun e j hj => ?_⟩
    rcases List.mem_cons.1 hj with rfl | hj
    · omega
    · exact h3 (by omega) j hj
theorem Inv.owns {l : List Int} {T : Int} {hs : List Int} {cl : List S96} {sm lg : List Int} (hI : Inv l T hs cl sm lg) (he : sm = [] ∨ lg = []) (j : Int) (h0 : 0 ≤ j) (h1 : j < l.length) : (rd_T96 cl j).f0 + gave T cl j = l.length * rd l j := by
  have hc := hI.con j h0 h1
  by_cases c : j ∈ sm ++ lg
  · rw [hI.un j c]
    have hb := hI.bal
    have : rd hs j = T := by
      rcases he with rfl | rfl
      · rw [List.nil_append] at c hb
        rw [List.length_nil] at hb
        exact (sum_above lg hI.hs_lg).2 (by rw [hb]; congr 1; omega) j c
      · rw [List.append_nil] at c hb
        rw [List.length_nil] at hb
        have := sum_below sm (fun j hj => (hI.hs_sm j hj).2)
        rw [hb, show (sm.length : Int) + ((0 : Nat) : Int) = sm.length by omega] at this
        have : 0 < sm.length := List.length_pos_of_mem c
        omega
    show T + gave T cl j = _
    omega
  · have := (hI.dn j h0 h1 c).1
    omega
theorem sum_hs0 (l : List Int) (T : Int) (f : Int → Int) : ∀ i : Nat, ((sm0 l T i).map f).sum + ((lg0 l T i).map f).sum = ((List.range i).map fun j : Nat => f (j : Int)).sum := by
  intro i
  induction i with
  | zero => simp [sm0, lg0]
  | succ i ih =>
    rw [← sm0_step, ← lg0_step, List.range_succ, List.map_append, List.sum_append, ← ih]
    by_cases c : hasAt l i < T
    · rw [if_pos c, if_pos c, List.map_append, List.sum_append]; simp; omega
    · rw [if_neg c, if_neg c, List.map_append, List.sum_append]; simp; omega
theorem gave_cl0 (T : Int) (j : Int) : ∀ n, gave T (cl0 T n) j = 0 := by
  intro n
  unfold gave cl0
  induction n with
  | zero => rfl
  | succ n ih =>
    rw [List.range_succ, List.map_append, List.map_append, List.sum_append, ih]
    simp
theorem rd_hs0 (l : List Int) {j : Int} (h0 : 0 ≤ j) (h1 : j < l.length) : rd (hs0 l l.length) j = hasAt l j.toNat := by
  obtain ⟨n, rfl⟩ := Int.eq_ofNat_of_zero_le h0
  rw [rd_nat, List.getD_eq_getElem?_getD]
  simp only [hs0, Nat.sub_self, List.replicate_zero, List.append_nil, Int.toNat_natCast]
  rw [List.getElem?_map, List.getElem?_range (by omega)]; rfl
theorem rd_cl0 (T : Int) {n : Nat} {j : Int} (h0 : 0 ≤ j) (h1 : j < n) : rd_T96 (cl0 T n) j = ⟨T, j⟩ := by
  obtain ⟨m, rfl⟩ := Int.eq_ofNat_of_zero_le h0
  rw [rdT_nat, List.getD_eq_getElem?_getD]
  simp only [cl0]
  rw [List.getElem?_map, List.getElem?_range (by omega)]; rfl
theorem rd_le_sum {l : List Int} (hl : U64 l) (j : Int) : rd l j ≤ l.sum := by
  induction l generalizing j with
  | nil => simp [rd]
  | cons a l ih =>
    have ha := hl a (by simp)
    have hl' : U64 l := fun y hy => hl y (by simp [hy])
    have hs := sum_nonneg hl'
    rw [List.sum_cons]
    unfold rd
    cases hj : j.toNat with
    | zero => simp only [List.getD_cons_zero]; omega
    | succ m =>
      have := ih hl' (m : Int)
      rw [rd_nat] at this
      simp only [List.getD_cons_succ]; omega
theorem range_sum (l : List Int) (c : Int) : ((List.range l.length).map fun j : Nat => rd l (j : Int) * c).sum = l.sum * c := by
  have : ∀ n, n ≤ l.length → ((List.range n).map fun j : Nat => rd l (j : Int) * c).sum = (l.take n).sum * c := by
    intro n
    induction n with
    | zero => intro _; simp
    | succ n ih =>
      intro h
      rw [List.range_succ, List.map_append, List.sum_append, ih (by omega), sum_take_step (by omega), Int.add_mul]; simp
  rw [this _ (Nat.le_refl _), List.take_length]
theorem inv0 {l : List Int} (hl : U64 l) (hT : 0 < l.sum) (hb : (l.length : Int) * l.sum < 9223372036854775808) : Inv l l.sum (hs0 l l.length) (cl0 l.sum l.length) (sm0 l l.sum l.length) (lg0 l l.sum l.length) := by
  have hn : 0 < l.length := by
    cases l with
    | nil => simp at hT
    | cons a l => simp
  have hle : (l.length : Int) ≤ (l.length : Int) * l.sum := by
    have := Int.mul_le_mul_of_nonneg_left (show (1 : Int) ≤ l.sum by omega) (show (0 : Int) ≤ l.length by omega)
    omega
  have hat : ∀ j : Nat, hasAt l j = rd l (j : Int) * l.length := fun j => by
    have h1 := hl.rd (j : Int)
    have h2 := rd_le_sum hl (j : Int)
    have h3 : rd l (j : Int) * l.length ≤ l.sum * l.length := Int.mul_le_mul_of_nonneg_right h2 (by omega)
    rw [Int.mul_comm l.sum] at h3
    have h4 : 0 ≤ rd l (j : Int) * l.length := Int.mul_nonneg h1.1 (by omega)
    unfold hasAt
    rw [u64w_id (x := (l.length : Int)) (by omega) (by omega), u64w_id h4 (by omega)]
  have hrd : ∀ j : Int, 0 ≤ j → j < l.length → rd (hs0 l l.length) j = rd l j * l.length := fun j h0 h1 => by
    rw [rd_hs0 l h0 h1, hat, show ((j.toNat : Nat) : Int) = j by omega]
  have iS := sm0_in l l.sum l.length
  have iL := lg0_in l l.sum l.length
  have mS : ∀ j ∈ sm0 l l.sum l.length, rd (hs0 l l.length) j < l.sum := fun j hj => by
    have h := iS j hj
    simp only [sm0, List.mem_map, List.mem_filter, List.mem_range, decide_eq_true_eq] at hj
    obtain ⟨a, ⟨_, g⟩, rfl⟩ := hj
    rw [rd_hs0 l h.1 h.2, Int.toNat_natCast]; exact g
  have mL : ∀ j ∈ lg0 l l.sum l.length, l.sum ≤ rd (hs0 l l.length) j := fun j hj => by
    have h := iL j hj
    simp only [lg0, List.mem_map, List.mem_filter, List.mem_range, Bool.not_eq_true', decide_eq_false_iff_not] at hj
    obtain ⟨a, ⟨_, g⟩, rfl⟩ := hj
    rw [rd_hs0 l h.1 h.2, Int.toNat_natCast]; omega
  have all : ∀ j : Int, 0 ≤ j → j < l.length → j ∈ sm0 l l.sum l.length ++ lg0 l l.sum l.length := fun j h0 h1 => by
    simp only [sm0, lg0, List.mem_append, List.mem_map, List.mem_filter, List.mem_range]
    by_cases c : hasAt l j.toNat < l.sum
    · exact .inl ⟨j.toNat, ⟨by omega, by simpa using c⟩, by omega⟩
    · exact .inr ⟨j.toNat, ⟨by omega, by simpa using c⟩, by omega⟩
  refine ⟨hs0_len l (Nat.le_refl _), cl0_len _ _, iS, iL, ?_, ?_, mL, ?_, ?_, ?_, ?_⟩
  · rw [List.nodup_append]
    refine ⟨?_, ?_, fun a ha b hb e => by subst e; have := mS a ha; have := mL a hb; omega⟩
    · exact List.Pairwise.map _ (fun a b h e => h (by omega)) (List.Pairwise.filter _ List.nodup_range)
    · exact List.Pairwise.map _ (fun a b h e => h (by omega)) (List.Pairwise.filter _ List.nodup_range)
  · intro j hj
    have h := iS j hj
    refine ⟨?_, mS j hj⟩
    rw [hrd j h.1 h.2]
    exact Int.mul_nonneg (hl.rd j).1 (by omega)
  · intro j hj
    have h : 0 ≤ j ∧ j < l.length := by
      rcases List.mem_append.1 hj with h | h
      · exact iS j h
      · exact iL j h
    exact rd_cl0 _ h.1 h.2
  · intro j h0 h1 hj
    exact absurd (all j h0 h1) hj
  · intro j h0 h1
    rw [gave_cl0, hrd j h0 h1, Int.mul_comm, Int.add_zero]
  · rw [List.map_append, List.sum_append, sum_hs0, show (((sm0 l l.sum l.length).length : Int) + (lg0 l l.sum l.length).length) = l.length by have := smlg_len l l.sum l.length; omega, ← range_sum]
    congr 1
    refine List.map_congr_left fun j hj => ?_
    rw [List.mem_range] at hj
    exact hrd j (by omega) (by omega)
theorem tab_right {l : List Int} (hl : U64 l) (hT : 0 < l.sum) (hb : (l.length : Int) * l.sum < 9223372036854775808) : (tabS l).length = l.length ∧ rightS l.sum (tabS l) = true ∧ W96 (tabS l) ∧ ∀ j : Int, 0 ≤ j → j < l.length → (rd_T96 (tabS l) j).f0 + gave l.sum (tabS l) j = l.length * rd l j := by
  have hI := inv0 hl hT hb
  have hn : 0 < l.length := by
    cases l with
    | nil => simp at hT
    | cons a l => simp
  have hle : (l.sum : Int) ≤ (l.length : Int) * l.sum := by
    have := Int.mul_le_mul_of_nonneg_right (show (1 : Int) ≤ l.length by omega) (show 0 ≤ l.sum by omega)
    omega
  obtain ⟨hs', sm', lg', h1, h2⟩ := fin_inv hT (fun j h0 h1 => by
    have := Int.mul_le_mul_of_nonneg_left (rd_le_sum hl j) (show (0 : Int) ≤ l.length by omega)
    omega) l.length _ _ _ _ (by have := smlg_len l l.sum l.length; omega) hI
  have hc := h1.cells (by omega)
  have hlen : (tabS l).length = l.length := h1.lc
  refine ⟨hlen, ?_, fun c hc' => by have := hc c hc'; omega, fun j h0 hj => h1.owns h2 j h0 hj⟩
  simp only [rightS, Bool.and_eq_true, decide_eq_true_eq, List.all_eq_true, cellOk, hlen]
  exact ⟨by omega, hT, hb, fun c hc' => by have := hc c hc'; omega⟩
end Go.Proofs.YtekmngghebpciaaGreat.Lm
end
section
namespace Go.Proofs.YtekmngghebpciaaGreat.Lm
set_option linter.unusedVariables false
open Go.RowKit Go.Proofs.YtekmngghebpciaaGreat.PW Go.Proofs.YtekmngghebpciaaGreatW.PrintWords Go.Proofs.YtekmngghebpciaaGreatW.PrintLast
theorem alive17_ok (k : Nat) (hk : 300 ≤ k) : drawlottop_alive17.f k = some true := at_rounds (g := fun k => drawlottop_alive17.f k) (fun k => drawlottop_alive17.mono k) (k := 300) (k' := k) hk (r := true) (by decide +kernel)
def sml (b : Int) (l : List Int) : List Int := l.map fun x => Int.tmod x b
theorem sml_length (b : Int) (l : List Int) : (sml b l).length = l.length := by simp [sml]
theorem sml_bound {b : Int} (hb : 0 < b) {l : List Int} (hl : U64 l) : ∀ x ∈ sml b l, 0 ≤ x ∧ x < b := by
  intro x hx
  obtain ⟨y, hy, rfl⟩ := List.mem_map.1 hx
  have := hl y hy
  rw [Int.tmod_eq_emod_of_nonneg this.1]
  exact ⟨Int.emod_nonneg _ (by omega), Int.emod_lt_of_pos _ hb⟩
theorem sml_U64 {b : Int} (hb : 0 < b) (hb' : b ≤ 1000) {l : List Int} (hl : U64 l) : U64 (sml b l) := fun x hx => by have := sml_bound hb hl x hx; omega
theorem sum_small {b : Int} (hb : 0 < b) : ∀ {l : List Int}, (∀ x ∈ l, 0 ≤ x ∧ x < b) → l.sum ≤ b * l.length
  | [], _ => by simp
  | a :: l, h => by
    have h1 := h a (by simp)
    have h2 := sum_small hb (l := l) (fun j hj => h j (by simp [hj]))
    have e : b * ((l.length + 1 : Nat) : Int) = b * l.length + b := by rw [show ((l.length + 1 : Nat) : Int) = (l.length : Int) + 1 by omega, Int.mul_add, Int.mul_one]
    rw [List.sum_cons, List.length_cons, e]; omega
theorem rd_sml (b : Int) {l : List Int} {n : Nat} (h : n < l.length) : rd (sml b l) (n : Int) = Int.tmod (rd l (n : Int)) b := by
  rw [rd_nat, rd_nat, List.getD_eq_getElem?_getD, List.getD_eq_getElem?_getD]
  simp [sml, List.getElem?_eq_getElem h]
theorem small_l {b : Int} (hb : 0 < b) (hb' : b ≤ 1000) {l : List Int} (hl : U64 l) (hm : l.length ≤ 1000) : ∀ (d k n : Nat), n + d = l.length → d < k →
    drawlottop_small.l0 k l b ((sml b l).take n) ((sml b l).take n).sum (n : Int) = some (sml b l, (sml b l).sum) := by
  have hlen := sml_length b l
  have hu := sml_U64 hb hb' hl
  intro d
  induction d with
  | zero =>
    intro k n hn hk
    obtain ⟨k, rfl⟩ : ∃ m, k = m + 1 := ⟨k - 1, by omega⟩
    simp only [drawlottop_small.l0]
    rw [if_neg (by omega), List.take_of_length_le (by omega)]
  | succ d ih =>
    intro k n hn hk
    obtain ⟨k, rfl⟩ : ∃ m, k = m + 1 := ⟨k - 1, by omega⟩
    simp only [drawlottop_small.l0]
    have h1 : ((sml b l).take n).length ≤ n := by rw [List.length_take]; omega
    have h2 : ((sml b l).take (n + 1)).sum ≤ b * ((sml b l).take (n + 1)).length := sum_small hb fun x hx => sml_bound hb hl x (List.mem_of_mem_take hx)
    have h3 : (((sml b l).take (n + 1)).length : Int) ≤ 1000 := by rw [List.length_take]; omega
    have h4 : b * (((sml b l).take (n + 1)).length : Int) ≤ 1000 * 1000 := Int.mul_le_mul hb' h3 (by omega) (by omega)
    have h5 := sum_nonneg (hu.take (n + 1))
    rw [if_pos (by omega), if_pos (by omega), if_neg (by omega), if_pos (by omega), ← rd_sml b (by omega), ← take_step (by omega), ← sum_take_step (by omega), u64w_id h5 (by omega), stepC (m := l.length) (by omega) (by omega)]
    exact ih k (n + 1) (by omega) (by omega)
theorem small_ok {b : Int} (hb : 0 < b) (hb' : b ≤ 1000) {l : List Int} (hl : U64 l) (hm : l.length ≤ 1000) (k : Nat) (hk : l.length < k) : drawlottop_small.f k l b = some (sml b l, (sml b l).sum) := by
  unfold drawlottop_small.f
  have := small_l hb hb' hl hm l.length k 0 (by omega) (by omega)
  rw [List.take_zero] at this
  exact this
def Qc (T : Int) (cl : List S96) (c : Nat) (o j : Int) : Int :=
  gave T (cl.take c) j + (if j < c then (rd_T96 cl j).f0 else 0) + (if j = c then min o (rd_T96 cl (c : Int)).f0 else 0) + (if (rd_T96 cl (c : Int)).f1 = j then max 0 (o - (rd_T96 cl (c : Int)).f0) else 0)
theorem gave_take {T j : Int} {cl : List S96} {c : Nat} (h : c < cl.length) : gave T (cl.take (c + 1)) j = gave T (cl.take c) j + (if (rd_T96 cl (c : Int)).f1 = j then T - (rd_T96 cl (c : Int)).f0 else 0) := by
  rw [List.take_succ_eq_append_getElem h, rdT_get h]
  unfold gave
  rw [List.map_append, List.sum_append]
  simp only [List.map_cons, List.map_nil, List.sum_cons, List.sum_nil, Int.add_zero]
theorem Qc_next {T : Int} {cl : List S96} {c : Nat} (h : c < cl.length) (h0 : 0 ≤ (rd_T96 cl (c : Int)).f0 ∧ (rd_T96 cl (c : Int)).f0 ≤ T) (hn : ∀ d : Nat, 0 ≤ (rd_T96 cl (d : Int)).f0) (j : Int) : Qc T cl c T j = Qc T cl (c + 1) 0 j := by
  unfold Qc
  have := hn (c + 1)
  rw [gave_take h, show min 0 (rd_T96 cl ((c + 1 : Nat) : Int)).f0 = 0 by omega, show max 0 (0 - (rd_T96 cl ((c + 1 : Nat) : Int)).f0) = 0 by omega]
  by_cases e : j = (c : Int)
  · subst e
    rw [if_neg (by omega), if_pos rfl, if_pos (show (c : Int) < ((c + 1 : Nat) : Int) by omega), if_neg (show ¬ (c : Int) = ((c + 1 : Nat) : Int) by omega)]
    split <;> split <;> omega
  · rw [if_neg e]
    by_cases a : j < (c : Int)
    · rw [if_pos a, if_pos (show j < ((c + 1 : Nat) : Int) by omega)]
      split <;> split <;> split <;> omega
    · rw [if_neg a, if_neg (show ¬ j < ((c + 1 : Nat) : Int) by omega)]
      split <;> split <;> split <;> omega
theorem Qc_step {T : Int} {cl : List S96} {c : Nat} {o : Int} (h0 : 0 ≤ (rd_T96 cl (c : Int)).f0) (ho : 0 ≤ o) (j : Int) : Qc T cl c (o + 1) j = Qc T cl c o j + (if j = (if o ≥ (rd_T96 cl (c : Int)).f0 then (rd_T96 cl (c : Int)).f1 else (c : Int)) then 1 else 0) := by
  unfold Qc
  by_cases a : o ≥ (rd_T96 cl (c : Int)).f0
  · rw [if_pos a]
    by_cases b : (rd_T96 cl (c : Int)).f1 = j
    · rw [if_pos b, if_pos b, if_pos b.symm]
      split <;> split <;> omega
    · rw [if_neg b, if_neg b, if_neg (show ¬ j = (rd_T96 cl (c : Int)).f1 from fun e => b e.symm)]
      split <;> split <;> omega
  · rw [if_neg a]
    by_cases b : j = (c : Int)
    · rw [if_pos b, if_pos b, if_pos b]
      split <;> split <;> omega
    · rw [if_neg b, if_neg b, if_neg b]
      split <;> split <;> omega
theorem divmod {T o : Int} (c : Int) (h0 : 0 ≤ o) (h1 : o < T) : (c * T + o) / T = c ∧ (c * T + o) % T = o :=
  (Int.ediv_emod_unique (by omega)).mpr ⟨by rw [Int.mul_comm T]; omega, h0, h1⟩
end Go.Proofs.YtekmngghebpciaaGreat.Lm
end
section
namespace Go.Proofs.YtekmngghebpciaaGreat.Lm
open Go.RowKit Go.Proofs.YtekmngghebpciaaGreatW.PrintWords Go.Proofs.YtekmngghebpciaaGreat.PW
def ownr : List Int → Int → Int → Int × Int
  | [], _, _ => (0, 3)
  | x :: l, i, t => if t < x then (i, 0) else ownr l (i + 1) (t - x)
theorem clone_ok (l : List Int) (h : l.length < 17592186044416) : slices_Clone_uint64_uint64.f l = some l := by
  unfold slices_Clone_uint64_uint64.f
  simp only [Option.bind_some, List.length_nil, Nat.zero_add, List.nil_append]
  rw [if_pos h]
theorem stotal_ok (k : Nat) (l : List Int) (hl : U64 l) (hk : l.length < k) (hm : l.length < 9223372036854775807) :
    scan_Total.f k l = some (if l.sum < 9223372036854775808 then (l.sum, 0) else (0, 11)) := by
  unfold scan_Total.f
  rw [total_ok k l hl hk hm]
  simp only [Option.bind_some]
  split <;> simp
theorem step_cast {n : Nat} {m : Nat} (h : n < m) (hm : m < 9223372036854775807) : wrap64 ((n : Int) + 1) = ((n + 1 : Nat) : Int) := by rw [w64_id (by omega) (by omega)]; omega
theorem sowner_l (t : Int) (ht : 0 ≤ t ∧ t < 18446744073709551616) : ∀ (d k : Nat) (s : Int) (l : List Int) (n : Nat), U64 l → n + d = l.length → d < k → 0 ≤ s → s + (l.drop n).sum < 9223372036854775808 → l.length < 9223372036854775807 →
    s ≤ t → scan_Owner.l0 k t s l (l.length : Int) (n : Int) = some (ownr (l.drop n) n (t - s)) := by
  intro d
  induction d with
  | zero =>
    intro k s l n hl hn hk h0 h1 hm hs
    obtain ⟨k, rfl⟩ : ∃ m, k = m + 1 := ⟨k - 1, by omega⟩
    simp only [scan_Owner.l0]
    rw [if_neg (by omega), List.drop_eq_nil_of_le (by omega)]
    rfl
  | succ d ih =>
    intro k s l n hl hn hk h0 h1 hm hs
    obtain ⟨k, rfl⟩ : ∃ m, k = m + 1 := ⟨k - 1, by omega⟩
    simp only [scan_Owner.l0]
    have hr := hl.rd (n : Int)
    have hs' := sum_nonneg (hl.drop (n + 1))
    rw [sum_drop_step (by omega)] at h1
    rw [if_pos (by omega), if_pos (by omega), if_pos (by omega), u64w_id (by omega) (by omega), drop_step (by omega)]
    simp only [ownr]
    by_cases c : t < s + rd l (n : Int)
    · rw [if_pos c, if_pos (by omega)]
    · rw [if_neg c, if_neg (by omega), step_cast (m := l.length) (by omega) hm]
      rw [ih k _ l (n + 1) hl (by omega) (by omega) (by omega) (by omega) hm (by omega)]
      rw [show t - (s + rd l (n : Int)) = t - s - rd l (n : Int) by omega]
      rfl
theorem sowner_ok (k : Nat) (t : Int) (ht : 0 ≤ t ∧ t < 18446744073709551616) (l : List Int) (hl : U64 l) (hk : l.length < k) (hm : l.length < 9223372036854775807) :
    scan_Owner.f k t l = some (if l.sum < 9223372036854775808 then ownr l 0 t else (0, 11)) := by
  unfold scan_Owner.f
  rw [stotal_ok k l hl hk hm]
  simp only [Option.bind_some]
  by_cases c : l.sum < 9223372036854775808
  · simp only [c, if_true]
    have h := sowner_l t ht l.length k 0 l 0 hl (by omega) hk (by omega) (by simpa using c) hm ht.1
    simpa using h
  · simp [c]
theorem ownr_spec : ∀ (l : List Int) (i t : Int), 0 ≤ t → U64 l →
    (∃ n : Nat, n < l.length ∧ ownr l i t = (i + n, 0) ∧ (l.take n).sum ≤ t ∧ t < (l.take (n + 1)).sum ∧ 0 < rd l n) ∨ (ownr l i t = (0, 3) ∧ l.sum ≤ t) := by
  intro l
  induction l with
  | nil => intro i t h0 _; right; exact ⟨rfl, by simpa using h0⟩
  | cons x l ih =>
    intro i t h0 hu
    have hx := hu x (by simp)
    have hl : U64 l := fun y hy => hu y (by simp [hy])
    simp only [ownr]
    by_cases c : t < x
    · left
      refine ⟨0, by simp, by rw [if_pos c]; simp, by simpa using h0, by simpa using c, ?_⟩
      simp [rd]; omega
    · rw [if_neg c]
      rcases ih (i + 1) (t - x) (by omega) hl with ⟨n, h1, h2, h3, h4, h5⟩ | ⟨h1, h2⟩
      · left
        refine ⟨n + 1, by simp; omega, by rw [h2]; simp; omega, by simp; omega, ?_, ?_⟩
        · rw [List.take_succ_cons, List.sum_cons]; omega
        · rw [rd_nat] at h5 ⊢; simpa using h5
      · right
        exact ⟨h1, by simp; omega⟩
end Go.Proofs.YtekmngghebpciaaGreat.Lm
end
section
namespace Go.Proofs.YtekmngghebpciaaGreat.Lm
open Go.RowKit Go.Proofs.YtekmngghebpciaaGreatW.PrintWords
def lb (n : Nat) : Nat := if h : n % 2 = 0 ∧ 0 < n then 2 * lb (n / 2) else 1
termination_by n
decreasing_by omega
theorem lb_odd (m : Nat) : lb (2 * m + 1) = 1 := by rw [lb, dif_neg (by omega)]
theorem lb_even (m : Nat) (h : 0 < m) : lb (2 * m) = 2 * lb m := by
  rw [lb, dif_pos (by omega)]
  congr 2; omega
theorem halves {p : Nat → Prop} (ho : ∀ m, p (2 * m + 1)) (he : ∀ m, 0 < m → p m → p (2 * m)) : ∀ n, 0 < n → p n := by
  intro n
  induction n using Nat.strongRecOn with
  | _ n ih =>
    intro h
    by_cases c : n % 2 = 0
    · have e : n = 2 * (n / 2) := by omega
      rw [e]
      exact he _ (by omega) (ih _ (by omega) (by omega))
    · have e : n = 2 * (n / 2) + 1 := by omega
      rw [e]
      exact ho _
theorem lb_pos : ∀ n, 0 < n → 0 < lb n ∧ lb n ≤ n := by
  refine halves (fun m => ?_) (fun m h ih => ?_)
  · rw [lb_odd]; omega
  · rw [lb_even m h]; omega
theorem lb_up : ∀ n, 0 < n → (n + lb n) - lb (n + lb n) ≤ n - lb n := by
  refine halves (fun m => ?_) (fun m h ih => ?_)
  · rw [lb_odd, show 2 * m + 1 + 1 = 2 * (m + 1) by omega, lb_even _ (by omega)]
    have := lb_pos (m + 1) (by omega)
    omega
  · have hp := lb_pos m h
    rw [lb_even m h, show 2 * m + 2 * lb m = 2 * (m + lb m) by omega, lb_even _ (by omega)]
    omega
theorem lb_pow (e : Nat) : ∀ c : Nat, lb (2 ^ e * (2 * c + 1)) = 2 ^ e := by
  induction e with
  | zero => intro c; rw [Nat.pow_zero, Nat.one_mul, lb_odd]
  | succ e ih =>
    intro c
    have : 2 ^ (e + 1) * (2 * c + 1) = 2 * (2 ^ e * (2 * c + 1)) := by rw [Nat.pow_succ]; ac_rfl
    rw [this, lb_even _ (Nat.mul_pos (Nat.two_pow_pos e) (by omega)), ih, Nat.pow_succ]
    omega
def cov (m j : Nat) : Nat := if h : j % 2 = 1 ∨ j = 0 then j - 1 else if m + 1 ≥ j then j - 1 else 2 * cov (m / 2) (j / 2)
termination_by j
decreasing_by omega
theorem cov_odd (m c : Nat) : cov m (2 * c + 1) = 2 * c := by rw [cov, dif_pos (by omega)]; omega
theorem cov_late (m j : Nat) (h : j ≤ m + 1) : cov m j = j - 1 := by
  rw [cov]
  repeat' split
  all_goals first | rfl | omega
theorem cov_even (m c : Nat) (h : m + 1 < 2 * c) : cov m (2 * c) = 2 * cov (m / 2) c := by
  rw [cov, dif_neg (by omega), if_neg (by omega)]
  congr 2; omega
theorem cov_zero : ∀ j, 0 < j → cov 0 j = j - lb j := by
  refine halves (fun m => ?_) (fun m h ih => ?_)
  · rw [cov_odd, lb_odd]; omega
  · rw [cov_even _ _ (by omega), lb_even m h, ih]; omega
theorem cov_up : ∀ i, 0 < i → cov (i - 1) (i + lb i) = i - lb i ∧ cov i (i + lb i) = i := by
  refine halves (fun m => ?_) (fun m h ih => ?_)
  · rw [lb_odd, show 2 * m + 1 + 1 = 2 * (m + 1) by omega]
    refine ⟨?_, ?_⟩
    · rw [cov_even _ _ (by omega), cov_late _ _ (by omega)]; omega
    · rw [cov_late _ _ (by omega)]; omega
  · have hp := lb_pos m h
    rw [lb_even m h, show 2 * m + 2 * lb m = 2 * (m + lb m) by omega]
    refine ⟨?_, ?_⟩
    · rw [cov_even _ _ (by omega), show (2 * m - 1) / 2 = m - 1 by omega, ih.1]; omega
    · rw [cov_even _ _ (by omega), show 2 * m / 2 = m by omega, ih.2]
theorem cov_other : ∀ j, 0 < j → ∀ i, 0 < i → i < j → i + lb i ≠ j → cov i j = cov (i - 1) j := by
  refine halves (fun m => ?_) (fun m h ih => ?_)
  · intro i _ _ _; rw [cov_odd, cov_odd]
  · intro i h0 h1 h2
    by_cases c : i % 2 = 0
    · have e : i = 2 * (i / 2) := by omega
      rw [e, lb_even _ (by omega)] at h2
      rw [cov_even _ _ (by omega), cov_even _ _ (by omega), show (i - 1) / 2 = i / 2 - 1 by omega]
      rw [ih (i / 2) (by omega) (by omega) (by omega)]
    · have e : i = 2 * (i / 2) + 1 := by omega
      rw [e, lb_odd] at h2
      rw [cov_even _ _ (by omega), cov_even _ _ (by omega), show (i - 1) / 2 = i / 2 by omega]
def P (l : List Int) (n : Nat) : Int := (l.take n).sum
theorem P_zero (l : List Int) : P l 0 = 0 := by simp [P]
theorem P_succ {l : List Int} {n : Nat} (h : n < l.length) : P l (n + 1) = P l n + rd l (n : Int) := sum_take_step h
theorem P_all {l : List Int} {n : Nat} (h : l.length ≤ n) : P l n = l.sum := by unfold P; rw [List.take_of_length_le h]
theorem P_mono {l : List Int} (hl : U64 l) {a b : Nat} (h : a ≤ b) : P l a ≤ P l b := by
  obtain ⟨d, rfl⟩ := Nat.exists_eq_add_of_le h
  have : l.take (a + d) = l.take a ++ (l.drop a).take d := List.take_add
  unfold P
  rw [this, List.sum_append]
  have := sum_nonneg ((hl.drop a).take d)
  omega
theorem P_nonneg {l : List Int} (hl : U64 l) (n : Nat) : 0 ≤ P l n := sum_nonneg (hl.take n)
theorem P_le {l : List Int} (hl : U64 l) (n : Nat) : P l n ≤ l.sum := by
  have := sum_take_drop l n
  have := sum_nonneg (hl.drop n)
  unfold P; omega
def tre (l : List Int) : List Int := (List.range l.length).map fun i => P l (i + 1) - P l (i + 1 - lb (i + 1))
theorem tre_length (l : List Int) : (tre l).length = l.length := by simp [tre]
theorem rd_tre {l : List Int} {n : Nat} (h0 : 0 < n) (h : n ≤ l.length) : rd (tre l) ((n - 1 : Nat) : Int) = P l n - P l (n - lb n) := by
  rw [rd_nat, List.getD_eq_getElem?_getD]
  unfold tre
  rw [List.getElem?_map, List.getElem?_range (by omega)]
  simp [show n - 1 + 1 = n by omega]
theorem ext_tre {l t : List Int} (hl : t.length = l.length) (h : ∀ j, 0 < j → j ≤ l.length → rd t ((j - 1 : Nat) : Int) = P l j - P l (j - lb j)) : t = tre l := by
  refine ext_rd (by rw [hl, tre_length]) fun i hi => ?_
  have := h (i + 1) (by omega) (by omega)
  rw [show i + 1 - 1 = i by omega] at this
  rw [this, ← rd_tre (l := l) (n := i + 1) (by omega) (by omega)]
  rfl
theorem rd_set {l : List Int} {i : Nat} (x : Int) (j : Nat) (h : i < l.length) : rd (l.set i x) (j : Int) = if i = j then x else rd l (j : Int) := by
  rw [rd_nat, rd_nat, List.getD_eq_getElem?_getD, List.getElem?_set]
  split
  · rename_i e; subst e; simp
  · simp [List.getD_eq_getElem?_getD]
theorem and_compl : ∀ w y : Nat, y < 2 ^ w → y &&& (2 ^ w - (y + 1)) = 0 := by
  intro w y h
  refine Nat.eq_of_testBit_eq fun i => ?_
  rw [Nat.testBit_and, Nat.testBit_two_pow_sub_succ h]
  cases y.testBit i <;> simp
theorem and_two (a b : Nat) : (2 * a) &&& (2 * b) = 2 * (a &&& b) := by
  have h1 := @Nat.and_div_two (2 * a) (2 * b)
  have h2 := @Nat.and_mod_two_eq_one (2 * a) (2 * b)
  rw [show 2 * a / 2 = a by omega, show 2 * b / 2 = b by omega] at h1
  omega
theorem and_two_one (a b : Nat) : (2 * a + 1) &&& (2 * b + 1) = 2 * (a &&& b) + 1 := by
  have h1 := @Nat.and_div_two (2 * a + 1) (2 * b + 1)
  have h2 := @Nat.and_mod_two_eq_one (2 * a + 1) (2 * b + 1)
  rw [show (2 * a + 1) / 2 = a by omega, show (2 * b + 1) / 2 = b by omega] at h1
  have := h2.2 ⟨by omega, by omega⟩
  omega
theorem and_neg_lb : ∀ n, 0 < n → ∀ w, n < 2 ^ w → n &&& (2 ^ w - n) = lb n := by
  refine halves (fun m => ?_) (fun m h ih => ?_)
  · intro w hw
    obtain ⟨w, rfl⟩ : ∃ v, w = v + 1 := ⟨w - 1, by rcases w with _ | w <;> simp at hw ⊢⟩
    rw [Nat.pow_succ] at hw ⊢
    have e : 2 ^ w * 2 - (2 * m + 1) = 2 * (2 ^ w - (m + 1)) + 1 := by omega
    rw [e, and_two_one, and_compl w m (by omega), lb_odd]
  · intro w hw
    obtain ⟨w, rfl⟩ : ∃ v, w = v + 1 := ⟨w - 1, by rcases w with _ | w <;> simp at hw ⊢; omega⟩
    rw [Nat.pow_succ] at hw ⊢
    have e : 2 ^ w * 2 - 2 * m = 2 * (2 ^ w - m) := by omega
    rw [e, and_two, ih w (by omega), lb_even m h]
theorem bits_low (n : Nat) (h0 : 0 < n) (h1 : n < 9223372036854775808) : Go.bits .and .i64 (n : Int) (wrap64 (-(n : Int))) = (lb n : Int) := by
  have hl := lb_pos n h0
  rw [w64_id (by omega) (by omega)]
  have e1 : (BitVec.ofInt 64 (n : Int)).toNat = n := by rw [BitVec.toNat_ofInt]; omega
  have e2 : (BitVec.ofInt 64 (-(n : Int))).toNat = 2 ^ 64 - n := by rw [BitVec.toNat_ofInt]; omega
  have e : (BitVec.ofInt 64 (n : Int) &&& BitVec.ofInt 64 (-(n : Int))).toNat = lb n := by
    rw [BitVec.toNat_and, e1, e2]
    exact and_neg_lb n h0 64 (by omega)
  show IntKind.i64.wrap ((BitVec.ofInt 64 (n : Int) &&& BitVec.ofInt 64 (-(n : Int))).toNat : Int) = _
  rw [e, IntKind.wrap_i64]
  omega
end Go.Proofs.YtekmngghebpciaaGreat.Lm
end
section
namespace Go.Proofs.YtekmngghebpciaaGreat.Lm
open Go.RowKit Go.Proofs.YtekmngghebpciaaGreatW.PrintWords Go.Proofs.YtekmngghebpciaaGreat.PW
theorem low_ok (n : Nat) (h0 : 0 < n) (h1 : n < 9223372036854775808) : fen_low.f (n : Int) = some (lb n : Int) := by
  unfold fen_low.f
  rw [bits_low n h0 h1]
theorem wsub1 {n : Nat} (h0 : 0 < n) (h1 : n < 9223372036854775808) : wrap64 ((n : Int) - 1) = ((n - 1 : Nat) : Int) := by rw [w64_id (by omega) (by omega)]; omega
theorem wadd {a b : Nat} (h : a + b < 9223372036854775808) : wrap64 ((a : Int) + (b : Int)) = ((a + b : Nat) : Int) := by rw [w64_id (by omega) (by omega)]; omega
theorem wsub {a b : Nat} (h : b ≤ a) (h1 : a < 9223372036854775808) : wrap64 ((a : Int) - (b : Int)) = ((a - b : Nat) : Int) := by rw [w64_id (by omega) (by omega)]; omega
theorem flen_ok (t : List Int) : fen_Len.f t = some (t.length : Int) := Eq.trans (by unfold fen_Len.f; rfl) rfl
theorem prefix_l {l : List Int} (hl : U64 l) (hm : l.length < 9223372036854775807) : ∀ (n k : Nat) (s : Int), n ≤ l.length → n < k → 0 ≤ s → s + P l n < 18446744073709551616 →
    fen_prefix.l0 k (n : Int) s (tre l) = some (s + P l n) := by
  intro n
  induction n using Nat.strongRecOn with
  | _ n ih =>
    intro k s hn hk h0 h1
    obtain ⟨k, rfl⟩ : ∃ m, k = m + 1 := ⟨k - 1, by omega⟩
    simp only [fen_prefix.l0]
    by_cases c : n = 0
    · subst c
      rw [if_neg (by omega), P_zero, Int.add_zero]
    · have hp := lb_pos n (by omega)
      have hr := rd_tre (l := l) (n := n) (by omega) hn
      have hn0 := P_nonneg hl (n - lb n)
      have hmo := P_mono hl (a := n - lb n) (b := n) (by omega)
      rw [if_pos (by omega), wsub1 (by omega) (by omega), if_pos (by omega), if_pos (by rw [tre_length]; omega), low_ok n (by omega) (by omega), Option.bind_some, wsub hp.2 (by omega), hr, u64w_id (by omega) (by omega),
        ih (n - lb n) (by omega) k _ (by omega) (by omega) (by omega) (by omega)]
      congr 1; omega
theorem prefix_ok {l : List Int} (hl : U64 l) (hs : l.sum < 9223372036854775808) (hm : l.length < 9223372036854775807) (n k : Nat) (hn : n ≤ l.length) (hk : n < k) : fen_prefix.f k (tre l) (n : Int) = some (P l n) := by
  unfold fen_prefix.f
  have := P_le hl n
  rw [prefix_l hl hm n k 0 hn hk (by omega) (by omega), Int.zero_add]
theorem ftotal_ok {l : List Int} (hl : U64 l) (hs : l.sum < 9223372036854775808) (hm : l.length < 9223372036854775807) (k : Nat) (hk : l.length < k) : fen_Total.f k (tre l) = some l.sum := by
  unfold fen_Total.f fen_Len.f
  rw [Option.bind_some, tre_length, prefix_ok hl hs hm _ k (by omega) hk, Option.bind_some, P_all (by omega)]
theorem build_l {l : List Int} (hl : U64 l) (hs : l.sum < 9223372036854775808) (hm : l.length < 4611686018427387904) : ∀ (d k i : Nat) (t : List Int), i + d = l.length + 1 → 0 < i → d < k → t.length = l.length →
    (∀ j, 0 < j → j ≤ l.length → rd t ((j - 1 : Nat) : Int) = rd l ((j - 1 : Nat) : Int) + P l (cov (i - 1) j) - P l (j - lb j)) → fen_Build.l0 k t (i : Int) = some (tre l, 0) := by
  intro d
  induction d with
  | zero =>
    intro k i t hi h0 hk ht hv
    obtain ⟨k, rfl⟩ : ∃ m, k = m + 1 := ⟨k - 1, by omega⟩
    simp only [fen_Build.l0]
    rw [if_neg (by omega)]
    have : t = tre l := ext_tre ht fun j h1 h2 => by
      rw [hv j h1 h2, cov_late _ _ (by omega)]
      have := P_succ (l := l) (n := j - 1) (by omega)
      rw [show j - 1 + 1 = j by omega] at this
      omega
    rw [this]
  | succ d ih =>
    intro k i t hi h0 hk ht hv
    obtain ⟨k, rfl⟩ : ∃ m, k = m + 1 := ⟨k - 1, by omega⟩
    simp only [fen_Build.l0]
    have hp := lb_pos i h0
    rw [if_pos (by omega), low_ok i h0 (by omega), Option.bind_some, wadd (by omega), show wrap64 ((i : Int) + 1) = ((i + 1 : Nat) : Int) by rw [w64_id (by omega) (by omega)]; omega]
    by_cases c : i + lb i ≤ l.length
    · have hu := hv (i + lb i) (by omega) c
      have hi' := hv i h0 (by omega)
      have cu := cov_up i h0
      rw [cov_late (i - 1) i (by omega)] at hi'
      have ps := P_succ (l := l) (n := i - 1) (by omega)
      rw [show i - 1 + 1 = i by omega] at ps
      have hval : rd t ((i - 1 : Nat) : Int) = P l i - P l (i - lb i) := by omega
      rw [cu.1] at hu
      have hb1 := P_mono hl (a := i) (b := i + lb i - 1) (by omega)
      have ps2 := P_succ (l := l) (n := i + lb i - 1) (by omega)
      rw [show i + lb i - 1 + 1 = i + lb i by omega] at ps2
      have hb2 := P_le hl (i + lb i)
      have hb3 := P_mono hl (a := i + lb i - lb (i + lb i)) (b := i - lb i) (lb_up i h0)
      have hb4 := P_mono hl (a := i - lb i) (b := i) (by omega)
      have hb5 := P_nonneg hl (i + lb i - lb (i + lb i))
      have hb6 := hl.rd ((i + lb i - 1 : Nat) : Int)
      rw [if_pos (by omega), wsub1 (by omega) (by omega), wsub1 (by omega) (by omega), if_pos (by omega), if_pos (by omega), if_pos (by omega), if_pos (by omega), hval, u64w_id (by omega) (by omega), Int.toNat_natCast]
      refine ih k (i + 1) _ (by omega) (by omega) (by omega) (by simpa using ht) fun j h1 h2 => ?_
      rw [rd_set _ _ (by omega), show i + 1 - 1 = i by omega]
      by_cases e : j = i + lb i
      · subst e
        rw [if_pos rfl, cu.2]
        omega
      · rw [if_neg (by omega), hv j h1 h2]
        by_cases g : i < j
        · rw [cov_other j h1 i h0 g (by omega)]
        · rw [cov_late _ _ (by omega), cov_late _ _ (by omega)]
    · rw [if_neg (by omega)]
      refine ih k (i + 1) t (by omega) (by omega) (by omega) ht fun j h1 h2 => ?_
      rw [hv j h1 h2, show i + 1 - 1 = i by omega]
      by_cases g : i < j
      · rw [cov_other j h1 i h0 g (by omega)]
      · rw [cov_late _ _ (by omega), cov_late _ _ (by omega)]
theorem build_one (k : Nat) (l : List Int) (hl : U64 l) (c : l.sum < 9223372036854775808) (hk : l.length + 1 < k) (hm : l.length < 1048577) : fen_Build.l0 k l 1 = some (tre l, 0) := by
  have h := build_l hl c (by omega) l.length k 1 l (by omega) (by omega) (by omega) rfl (fun j h1 h2 => by
    rw [Nat.sub_self, cov_zero j h1]; omega)
  exact h
theorem build_ok (k : Nat) (l : List Int) (hl : U64 l) (hk : l.length + 1 < k) (hm : l.length < 1048577) :
    fen_Build.f k l = some (if l.sum < 9223372036854775808 then (tre l, 0) else ([], 11)) := by
  unfold fen_Build.f
  rw [if_neg (by omega), total_ok k l hl (by omega) (by omega), Option.bind_some]
  by_cases c : l.sum < 9223372036854775808
  · rw [if_pos c, if_pos rfl, clone_ok l (by omega), Option.bind_some, if_pos c]
    exact build_one k l hl c hk hm
  · rw [if_neg c, if_neg c, if_neg (by decide)]
theorem build_at (k : Nat) (l : List Int) (hl : U64 l) (hk : l.length + 1 < k) (hm : l.length < 1048577) (hs : l.sum < 9223372036854775808) : fen_Build.f k l = some (tre l, 0) := by rw [build_ok k l hl hk hm, if_pos hs]
theorem descend_l {l : List Int} (hl : U64 l) (hs : l.sum < 9223372036854775808) (hm : l.length < 4611686018427387904) (t : Int) (h0 : 0 ≤ t) (h1 : t < l.sum) : ∀ (e k c : Nat), e < 62 → e + 1 < k → c * 2 ^ (e + 1) ≤ l.length →
    P l (c * 2 ^ (e + 1)) ≤ t → (∀ n, n ≤ l.length → (c + 1) * 2 ^ (e + 1) ≤ n → t < P l n) →
    ∃ n : Nat, n < l.length ∧ fen_Owner.l1 k (t - P l (c * 2 ^ (e + 1))) ((c * 2 ^ (e + 1) : Nat) : Int) ((2 ^ e : Nat) : Int) (tre l) = some ((n : Int), 0) ∧ P l n ≤ t ∧ t < P l (n + 1) := by
  have last : ∀ (k m : Nat), 0 < k → m ≤ l.length → P l m ≤ t → (∀ n, n ≤ l.length → m + 1 ≤ n → t < P l n) →
      ∃ n : Nat, n < l.length ∧ fen_Owner.l1 k (t - P l m) (m : Int) 0 (tre l) = some ((n : Int), 0) ∧ P l n ≤ t ∧ t < P l (n + 1) := by
    intro k m hk h2 h3 h4
    obtain ⟨k, rfl⟩ : ∃ m, k = m + 1 := ⟨k - 1, by omega⟩
    have hlt : m < l.length := by
      rcases Nat.lt_or_ge m l.length with h | h
      · exact h
      · rw [P_all h] at h3; omega
    exact ⟨m, hlt, by simp only [fen_Owner.l1]; rw [if_neg (by omega)], h3, h4 (m + 1) (by omega) (by omega)⟩
  intro e
  induction e with
  | zero =>
    intro k c he hk hc hp ha
    obtain ⟨k, rfl⟩ : ∃ m, k = m + 1 := ⟨k - 1, by omega⟩
    simp only [fen_Owner.l1, flen_ok, bs, tre_length]
    rw [Nat.zero_add, Nat.pow_one] at *
    rw [Nat.pow_zero, if_pos (by decide), wadd (by omega)]
    by_cases g : c * 2 + 1 ≤ l.length
    · have hr := rd_tre (l := l) (n := c * 2 + 1) (by omega) g
      rw [show c * 2 + 1 = 2 * c + 1 by omega, lb_odd, show 2 * c + 1 - 1 = c * 2 by omega, show 2 * c + 1 = c * 2 + 1 by omega] at hr
      have hq := P_le hl (c * 2 + 1)
      have hq2 := P_nonneg hl (c * 2)
      rw [if_pos (by omega), wsub1 (by omega) (by omega), if_pos (by omega), if_pos (by omega), show c * 2 + 1 - 1 = c * 2 by omega, hr]
      by_cases d : P l (c * 2 + 1) - P l (c * 2) ≤ t - P l (c * 2)
      · have hq3 := P_mono hl (a := c * 2) (b := c * 2 + 1) (by omega)
        rw [if_pos d, u64w_id (by omega) (by omega), show t - P l (c * 2) - (P l (c * 2 + 1) - P l (c * 2)) = t - P l (c * 2 + 1) by omega, show ((1 : Nat) : Int) / 2 = 0 by decide]
        exact last k (c * 2 + 1) (by omega) g (by omega) (fun n h2 h3 => ha n h2 (by omega))
      · rw [if_neg d, show ((1 : Nat) : Int) / 2 = 0 by decide]
        refine last k (c * 2) (by omega) hc hp (fun n h2 h3 => ?_)
        have := P_mono hl (a := c * 2 + 1) (b := n) h3
        omega
    · rw [if_neg (by omega), show ((1 : Nat) : Int) / 2 = 0 by decide]
      exact last k (c * 2) (by omega) hc hp (fun n h2 h3 => by omega)
  | succ e ih =>
    intro k c he hk hc hp ha
    obtain ⟨k, rfl⟩ : ∃ m, k = m + 1 := ⟨k - 1, by omega⟩
    simp only [fen_Owner.l1, flen_ok, bs, tre_length]
    have e1 : 2 ^ (e + 1 + 1) = 2 * 2 ^ (e + 1) := by rw [Nat.pow_succ]; omega
    have e2 : 2 ^ (e + 1) = 2 * 2 ^ e := by rw [Nat.pow_succ]; omega
    have hpos := Nat.two_pow_pos e
    have hbig : 2 ^ (e + 1) ≤ 4611686018427387904 := by
      have := Nat.pow_le_pow_right (n := 2) (by decide) (show e + 1 ≤ 62 by omega)
      simpa using this
    have e3 : c * 2 ^ (e + 1 + 1) = (2 * c) * 2 ^ (e + 1) := by rw [e1]; ac_rfl
    have e4 : c * 2 ^ (e + 1 + 1) + 2 ^ (e + 1) = (2 * c + 1) * 2 ^ (e + 1) := by rw [e3, Nat.add_mul]; omega
    have half : ((2 ^ (e + 1) : Nat) : Int) / 2 = ((2 ^ e : Nat) : Int) := by rw [e2]; omega
    have e5 : (c + 1) * 2 ^ (e + 1 + 1) = (2 * c + 1 + 1) * 2 ^ (e + 1) := by rw [e1, show 2 * c + 1 + 1 = (c + 1) * 2 by omega]; ac_rfl
    rw [if_pos (by omega), wadd (by omega), half, e4]
    by_cases g : (2 * c + 1) * 2 ^ (e + 1) ≤ l.length
    · have hr := rd_tre (l := l) (n := (2 * c + 1) * 2 ^ (e + 1)) (by omega) g
      rw [show lb ((2 * c + 1) * 2 ^ (e + 1)) = 2 ^ (e + 1) by rw [Nat.mul_comm, lb_pow], show (2 * c + 1) * 2 ^ (e + 1) - 2 ^ (e + 1) = (2 * c) * 2 ^ (e + 1) by rw [Nat.add_mul]; omega] at hr
      rw [e3] at hp ⊢
      have hq := P_le hl ((2 * c + 1) * 2 ^ (e + 1))
      have hq2 := P_nonneg hl ((2 * c) * 2 ^ (e + 1))
      rw [if_pos (by omega), wsub1 (by omega) (by omega), if_pos (by omega), if_pos (by omega), hr]
      by_cases d : P l ((2 * c + 1) * 2 ^ (e + 1)) - P l ((2 * c) * 2 ^ (e + 1)) ≤ t - P l ((2 * c) * 2 ^ (e + 1))
      · rw [if_pos d]
        have hq3 := P_mono hl (a := (2 * c) * 2 ^ (e + 1)) (b := (2 * c + 1) * 2 ^ (e + 1)) (by rw [Nat.add_mul]; omega)
        rw [u64w_id (by omega) (by omega), show ∀ A B : Int, t - A - (B - A) = t - B by intro A B; omega]
        exact ih k (2 * c + 1) (by omega) (by omega) g (by omega) (fun n h2 h3 => ha n h2 (by rw [e5]; exact h3))
      · rw [if_neg d]
        refine ih k (2 * c) (by omega) (by omega) (by rw [← e3]; exact hc) hp (fun n h2 h3 => ?_)
        have := P_mono hl (a := (2 * c + 1) * 2 ^ (e + 1)) (b := n) h3
        omega
    · rw [if_neg (by omega), e3]
      rw [e3] at hp
      exact ih k (2 * c) (by omega) (by omega) (by rw [← e3]; exact hc) hp (fun n h2 h3 => by omega)
theorem climb_l {l : List Int} (hl : U64 l) (hs : l.sum < 9223372036854775808) (hm : l.length < 2305843009213693952) (t : Int) (h0 : 0 ≤ t) (h1 : t < l.sum) : ∀ (d e k : Nat), e + d = 61 → 2 ^ e ≤ l.length → d + 66 < k →
    ∃ n : Nat, n < l.length ∧ fen_Owner.l0 k t 0 ((2 ^ e : Nat) : Int) (tre l) = some ((n : Int), 0) ∧ P l n ≤ t ∧ t < P l (n + 1) := by
  intro d
  induction d with
  | zero =>
    intro e k he hle hk
    obtain rfl : e = 61 := by omega
    simp at hle; omega
  | succ d ih =>
    intro e k he hle hk
    obtain ⟨k, rfl⟩ : ∃ m, k = m + 1 := ⟨k - 1, by omega⟩
    simp only [fen_Owner.l0, flen_ok, bs, tre_length]
    have e2 : 2 ^ (e + 1) = 2 * 2 ^ e := by rw [Nat.pow_succ]; omega
    rw [show wrap64 (((2 ^ e : Nat) : Int) * 2) = ((2 ^ (e + 1) : Nat) : Int) by rw [w64_id (by omega) (by omega), e2]; omega]
    by_cases c : 2 ^ (e + 1) ≤ l.length
    · rw [if_pos (by omega)]
      exact ih (e + 1) k (by omega) c (by omega)
    · rw [if_neg (by omega)]
      have h := descend_l hl hs (by omega) t h0 h1 e k 0 (by omega) (by omega) (by omega) (by rw [Nat.zero_mul, P_zero]; exact h0) (fun n h2 h3 => by omega)
      simpa [P_zero] using h
theorem owner_ok {l : List Int} (hl : U64 l) (hs : l.sum < 9223372036854775808) (hm : l.length < 2305843009213693952) (k : Nat) (hk : l.length < k) (hk2 : 200 < k) (t : Int) (ht : 0 ≤ t) :
    fen_Owner.f k (tre l) t = some (ownr l 0 t) := by
  unfold fen_Owner.f
  rw [ftotal_ok hl hs (by omega) k hk, Option.bind_some]
  rcases ownr_spec l 0 t ht hl with ⟨n, h1, h2, h3, h4, h5⟩ | ⟨h1, h2⟩
  · have hlt : t < l.sum := by
      have := P_le hl (n + 1)
      unfold P at this
      omega
    rw [if_neg (by omega)]
    obtain ⟨m, g1, g2, g3, g4⟩ := climb_l hl hs hm t ht hlt 61 0 k (by omega) (by simp; omega) (by omega)
    rw [show ((2 ^ 0 : Nat) : Int) = 1 by rfl] at g2
    rw [g2, h2, Int.zero_add]
    have : m = n := by
      rcases Nat.lt_trichotomy m n with c | c | c
      · have := P_mono hl (a := m + 1) (b := n) c
        unfold P at *; omega
      · exact c
      · have := P_mono hl (a := n + 1) (b := m) c
        unfold P at *; omega
    rw [this]
  · rw [if_pos (by omega), h1]
end Go.Proofs.YtekmngghebpciaaGreat.Lm
end
section
namespace Go.Proofs.YtekmngghebpciaaGreat.Pure
open Go.RowKit Go.Proofs.YtekmngghebpciaaGreat.PW Go.Proofs.YtekmngghebpciaaGreatW.PrintWords Go.Proofs.YtekmngghebpciaaGreatW.PrintLast Go.Proofs.YtekmngghebpciaaGreat.Lm
theorem tick_2 {s x : List Int} {o : List Int} (hx : x.length = s.length) (ho : o.length = s.length) (hm : s.length < 21) (hb : ∀ y ∈ s, 0 ≤ y ∧ y < 40) (hv : ∀ j : Nat, j < s.length → rd o (j : Int) = s.length * rd s (j : Int)) : ∀ (d k n : Nat), n + d = s.length → d < k →
    drawlottop_WholeTickets.l2 k x s o (n : Int) = some true := by
  intro d
  induction d with
  | zero =>
    intro k n hn hk
    obtain ⟨k, rfl⟩ : ∃ m, k = m + 1 := ⟨k - 1, by omega⟩
    simp only [drawlottop_WholeTickets.l2]
    rw [if_neg (by omega)]
  | succ d ih =>
    intro k n hn hk
    obtain ⟨k, rfl⟩ : ∃ m, k = m + 1 := ⟨k - 1, by omega⟩
    simp only [drawlottop_WholeTickets.l2]
    obtain ⟨h', e⟩ := rd_lt (l := s) (i := (n : Int)) (by omega) (by omega)
    have hbn := hb _ (List.getElem_mem h')
    rw [← e] at hbn
    have hp : 0 ≤ (s.length : Int) * rd s (n : Int) := Int.mul_nonneg (by omega) hbn.1
    have hq : (s.length : Int) * rd s (n : Int) ≤ 21 * 40 := Int.mul_le_mul (by omega) (by omega) hbn.1 (by omega)
    rw [if_pos (by omega), if_pos (by omega), if_pos (by omega), if_pos (by omega), hv n (by omega), hx, u64w_id (x := (s.length : Int)) (by omega) (by omega), u64w_id (by omega) (by omega), if_pos rfl, stepC (m := s.length) (by omega) (by omega)]
    exact ih k (n + 1) (by omega) (by omega)
theorem tick_1 {s x : List Int} (hx : x.length = s.length) (hu : U64 s) (hb : ∀ y ∈ s, 0 ≤ y ∧ y < 40) (hT : 0 < s.sum) (hm : s.length < 21) : ∀ (d k c : Nat) (o : Int) (w : List Int), (c : Int) * s.sum + o + d = s.length * s.sum → 0 ≤ o → o < s.sum → c ≤ s.length → d + 60 < k → w.length = s.length →
    (∀ j : Nat, j < s.length → rd w (j : Int) = Qc s.sum (tabS s) c o (j : Int) ∧ 0 ≤ rd w (j : Int) ∧ rd w (j : Int) ≤ (c : Int) * s.sum + o) → drawlottop_WholeTickets.l1 k x s s.sum w ((c : Int) * s.sum + o) s.sum (tabS s) = some true := by
  have hsm := sum_small (b := 40) (by decide) hb
  have hsz : (s.length : Int) * s.sum ≤ 20 * 800 := Int.mul_le_mul (by omega) (by omega) (by omega) (by omega)
  have hs0 : 0 ≤ (s.length : Int) * s.sum := Int.mul_nonneg (by omega) (by omega)
  obtain ⟨h1, h2, h3, h4⟩ := tab_right hu hT (by omega)
  have hr := rightS_lt h2
  intro d
  induction d with
  | zero =>
    intro k c o w hd ho hT' hc hk hw hv
    obtain ⟨k, rfl⟩ : ∃ m, k = m + 1 := ⟨k - 1, by omega⟩
    simp only [drawlottop_WholeTickets.l1]
    rw [hx, u64w_id (x := (s.length : Int)) (by omega) (by omega), u64w_id hs0 (by omega), if_neg (by omega)]
    have hcn : c = s.length := by
      rcases Nat.lt_or_ge c s.length with g | g
      · have : ((c : Int) + 1) * s.sum ≤ s.length * s.sum := Int.mul_le_mul_of_nonneg_right (by omega) (by omega)
        rw [Int.add_mul] at this
        omega
      · omega
    subst hcn
    obtain rfl : o = 0 := by omega
    refine tick_2 hx hw hm hb (fun j hj => ?_) s.length k 0 (by omega) (by omega)
    rw [(hv j hj).1]
    have e := h4 (j : Int) (by omega) (by omega)
    unfold Qc
    rw [← h1, List.take_length, if_pos (by omega), if_neg (by omega)]
    have z : rd_T96 (tabS s) ((tabS s).length : Int) = z96 := by rw [rdT_nat, List.getD_eq_getElem?_getD, List.getElem?_eq_none (Nat.le_refl _)]; rfl
    rw [z, h1]
    show _ + _ + 0 + (if (0 : Int) = (j : Int) then max 0 (0 - 0) else 0) = _
    rw [show max (0 : Int) (0 - 0) = 0 by decide]
    split <;> omega
  | succ d ih =>
    intro k c o w hd ho hT' hc hk hw hv
    obtain ⟨k, rfl⟩ : ∃ m, k = m + 1 := ⟨k - 1, by omega⟩
    simp only [drawlottop_WholeTickets.l1]
    have hcs : 0 ≤ (c : Int) * s.sum := Int.mul_nonneg (by omega) (by omega)
    have hcl : c < s.length := by
      rcases Nat.lt_or_ge c s.length with g | g
      · exact g
      · have : (s.length : Int) * s.sum ≤ c * s.sum := Int.mul_le_mul_of_nonneg_right (by omega) (by omega)
        omega
    rw [hx, u64w_id (x := (s.length : Int)) (by omega) (by omega), u64w_id hs0 (by omega), if_pos (by omega), owner_okA k s.sum (tabS s) (by omega) (by omega) (by omega) _ (by omega), bs]
    obtain ⟨e1, e2⟩ := divmod (c : Int) ho hT'
    have hcell : ∀ m : Nat, m < s.length → 0 ≤ (rd_T96 (tabS s) (m : Int)).f0 ∧ (rd_T96 (tabS s) (m : Int)).f0 ≤ s.sum ∧ 0 ≤ (rd_T96 (tabS s) (m : Int)).f1 ∧ (rd_T96 (tabS s) (m : Int)).f1 < s.length := fun m hm => by
      have a := h3.rd (m : Int)
      have b := hr.2.2.2 (rd_T96 (tabS s) (m : Int)) (by rw [rdT_get (by omega)]; exact List.getElem_mem _)
      omega
    have hc0 := hcell c hcl
    have hn0 : ∀ m : Nat, 0 ≤ (rd_T96 (tabS s) (m : Int)).f0 := fun m => (h3.rd (m : Int)).1
    have ho1 : ownerS s.sum (tabS s) ((c : Int) * s.sum + o) = ((if o ≥ (rd_T96 (tabS s) (c : Int)).f0 then (rd_T96 (tabS s) (c : Int)).f1 else (c : Int)), 0) := by
      unfold ownerS lookS
      rw [if_pos h2, if_pos (by rw [h1]; omega), if_pos h2, e1, e2, if_pos (by omega)]
      split <;> rfl
    have hS := Qc_step (T := s.sum) (cl := tabS s) (c := c) hc0.1 ho
    rw [ho1]
    generalize hg : (if o ≥ (rd_T96 (tabS s) (c : Int)).f0 then (rd_T96 (tabS s) (c : Int)).f1 else (c : Int)) = q at *
    have hq : 0 ≤ q ∧ q < s.length := by
      rw [← hg]; split <;> omega
    obtain ⟨m, rfl⟩ := Int.eq_ofNat_of_zero_le hq.1
    have hvm := hv m (by omega)
    rw [if_pos rfl, if_neg (by omega), if_neg (by omega), if_pos (by omega), if_pos (by omega), Int.toNat_natCast, u64w_id (x := rd w (m : Int) + 1) (by omega) (by omega), u64w_id (by omega) (by omega)]
    have hset : ∀ j : Nat, j < s.length → rd (w.set m (rd w (m : Int) + 1)) (j : Int) = rd w (j : Int) + (if (j : Int) = (m : Int) then 1 else 0) := fun j hj => by
      have := rd_setI (l := w) (i := (m : Int)) (rd w (m : Int) + 1) (j : Int) (by omega) (by omega) (by omega)
      rw [Int.toNat_natCast] at this
      rw [this]
      by_cases e : (m : Int) = j
      · rw [if_pos e, if_pos e.symm, e]
      · rw [if_neg e, if_neg (fun z => e z.symm)]; omega
    by_cases f : o + 1 < s.sum
    · rw [show (c : Int) * s.sum + o + 1 = (c : Int) * s.sum + (o + 1) by omega]
      refine ih k c (o + 1) _ (by omega) (by omega) f hc (by omega) (by rw [List.length_set]; exact hw) fun j hj => ?_
      have := hv j hj
      rw [hset j hj, hS (j : Int), this.1]
      refine ⟨rfl, ?_, ?_⟩ <;> rw [← this.1] <;> split <;> omega
    · have eT : o + 1 = s.sum := by omega
      have ec : ((c + 1 : Nat) : Int) * s.sum = (c : Int) * s.sum + s.sum := by rw [show ((c + 1 : Nat) : Int) = (c : Int) + 1 by omega, Int.add_mul]; omega
      rw [show (c : Int) * s.sum + o + 1 = ((c + 1 : Nat) : Int) * s.sum + 0 by omega]
      refine ih k (c + 1) 0 _ (by omega) (by omega) (by omega) (by omega) (by omega) (by rw [List.length_set]; exact hw) fun j hj => ?_
      have := hv j hj
      have hQ : Qc s.sum (tabS s) (c + 1) 0 (j : Int) = Qc s.sum (tabS s) c (o + 1) (j : Int) := by rw [← Qc_next (by omega) ⟨hc0.1, hc0.2.1⟩ hn0, eT]
      rw [hset j hj, hQ, hS (j : Int), this.1]
      refine ⟨rfl, ?_, ?_⟩ <;> rw [← this.1] <;> split <;> omega
theorem tick_0 {s x : List Int} (hx : x.length = s.length) (hu : U64 s) (hb : ∀ y ∈ s, 0 ≤ y ∧ y < 40) (hm : s.length < 21) (T : Int) (cl : List S96) (g : Int) (hg : (g = 0 ∧ 0 < s.sum ∧ T = s.sum ∧ cl = tabS s) ∨ g ≠ 0) : ∀ (d k n : Nat), (n : Int) + d = s.sum → d + 17000 < k →
    drawlottop_WholeTickets.l0 k x s s.sum g (n : Int) (tre s) T cl = some true := by
  have hsm := sum_small (b := 40) (by decide) hb
  have hs0 := sum_nonneg hu
  have hsz : (s.length : Int) * s.sum ≤ 20 * 800 := Int.mul_le_mul (by omega) (by omega) (by omega) (by omega)
  intro d
  induction d with
  | zero =>
    intro k n hn hk
    obtain ⟨k, rfl⟩ : ∃ m, k = m + 1 := ⟨k - 1, by omega⟩
    simp only [drawlottop_WholeTickets.l0]
    rw [if_neg (by omega)]
    rcases hg with ⟨rfl, hT, rfl, rfl⟩ | hg
    · rw [if_pos rfl, if_pos (by omega), Int.toNat_natCast, if_pos (by omega)]
      have hnn : 0 ≤ (s.length : Int) * s.sum := Int.mul_nonneg (by omega) (by omega)
      have := tick_1 (s := s) (x := x) hx hu hb hT hm ((s.length : Int) * s.sum).toNat k 0 0 (List.replicate x.length 0) (by omega) (by omega) hT (by omega) (by omega) (by rw [List.length_replicate]; omega) (fun j hj => by
        have e0 : rd (List.replicate x.length 0) (j : Int) = 0 := by
          rw [rd_nat, List.getD_eq_getElem?_getD, List.getElem?_replicate]; split <;> rfl
        rw [e0]
        refine ⟨?_, by omega, by omega⟩
        have h3 := (tab_right hu hT (by omega)).2.2.1
        have := (h3.rd ((0 : Nat) : Int)).1
        unfold Qc
        rw [List.take_zero, show min 0 (rd_T96 (tabS s) ((0 : Nat) : Int)).f0 = 0 by omega, show max 0 (0 - (rd_T96 (tabS s) ((0 : Nat) : Int)).f0) = 0 by omega, if_neg (by omega)]
        simp [gave])
      rw [show ((0 : Nat) : Int) * s.sum + 0 = 0 by simp] at this
      exact this
    · rw [if_neg hg]
  | succ d ih =>
    intro k n hn hk
    obtain ⟨k, rfl⟩ : ∃ m, k = m + 1 := ⟨k - 1, by omega⟩
    simp only [drawlottop_WholeTickets.l0]
    have hw : (ownr s 0 (n : Int)).2 = 0 := by
      rcases ownr_spec s 0 (n : Int) (by omega) hu with ⟨m, _, h, _⟩ | ⟨_, h⟩
      · rw [h]
      · omega
    have hso : scan_Owner.f k (n : Int) s = some (ownr s 0 (n : Int)) := by rw [sowner_ok k _ (by omega) s hu (by omega) (by omega), if_pos (by omega)]
    rw [if_pos (by omega), owner_ok hu (by omega) (by omega) k (by omega) (by omega) _ (by omega), bs, hso, bs, if_pos hw, if_pos hw, if_pos rfl, u64w_id (x := (n : Int) + 1) (by omega) (by omega)]
    rw [show (n : Int) + 1 = ((n + 1 : Nat) : Int) by omega]
    exact ih k (n + 1) (by omega) (by omega)
theorem WholeTickets : drawlottop_WholeTickets.Pure := by
  intro l hm hb hw
  have hl := U64.of_wf hw
  refine ⟨20000, ?_⟩
  unfold drawlottop_WholeTickets.f
  rw [alive17_ok _ (by omega), bs, if_pos rfl]
  by_cases h : (l.length : Int) > 20
  · rw [if_pos h]
  · rw [if_neg h]
    have hu := sml_U64 (b := 40) (by decide) (by decide) hl
    have hbd := sml_bound (b := 40) (by decide) hl
    have hlen := sml_length 40 l
    have hsm := sum_small (b := 40) (by decide) hbd
    have hs0 := sum_nonneg hu
    have hsz : ((sml 40 l).length : Int) * (sml 40 l).sum ≤ 20 * 800 := Int.mul_le_mul (by omega) (by omega) (by omega) (by omega)
    rw [small_ok (by decide) (by decide) hl (by omega) _ (by omega), bs]
    dsimp only
    rw [build_at _ _ hu (by omega) (by omega) (by omega), bs, buildA_ok _ _ hu (by omega) (by omega), bs, if_pos rfl]
    dsimp only
    have hB : ((buildS (sml 40 l)).2.2 = 0 ∧ 0 < (sml 40 l).sum ∧ (buildS (sml 40 l)).1 = (sml 40 l).sum ∧ (buildS (sml 40 l)).2.1 = tabS (sml 40 l)) ∨ ((buildS (sml 40 l)).2.2 ≠ 0 ∧ (sml 40 l).sum = 0) := by
      unfold buildS
      by_cases z : (sml 40 l).length = 0
      · right
        rw [if_pos z]
        have : sml 40 l = [] := List.eq_nil_of_length_eq_zero z
        exact ⟨by decide, by rw [this]; rfl⟩
      · rw [if_neg z, if_pos (show (sml 40 l).sum < 9223372036854775808 by omega)]
        by_cases e : (sml 40 l).sum = 0
        · right
          rw [if_pos e]
          exact ⟨by decide, e⟩
        · left
          rw [if_neg e, if_pos (show ((sml 40 l).length : Int) * (sml 40 l).sum < 9223372036854775808 by omega)]
          exact ⟨rfl, by omega, rfl, rfl⟩
    have go := tick_0 hlen.symm hu hbd (by omega) (buildS (sml 40 l)).1 (buildS (sml 40 l)).2.1 (buildS (sml 40 l)).2.2 (hB.imp (fun h => h) (fun h => h.1)) (sml 40 l).sum.toNat 20000 0 (by omega) (by omega)
    rcases hB with ⟨e, hT, _, _⟩ | ⟨e, hT⟩
    · rw [if_pos e, if_pos (by omega)]
      exact go
    · rw [if_neg e, if_neg (by omega)]
      exact go
end Go.Proofs.YtekmngghebpciaaGreat.Pure
end
section
namespace Go.Proofs.YtekmngghebpciaaGreatW.PrintWords
open Go.ChangeShapes Go.WideShapes
theorem sized_ints {H : Type} {enc : TypeId × Value → H} {P : Program} {W : World} {base : Nat} {spare : Nat → Bool} {held : Bool} {t e : TypeId} {k : IntKind} {a : Option Addr} {len cap : Nat} {d : DataW H} {ps : List MemPlace} {ts : List TypeId} {ds : List (DataW H)} {j : Nat}
    (hsz : (DataW.weightsEach P ts ds).all (· ≤ reachBytes) = true) (ht : ts[j]? = some t) (hd : ds[j]? = some d) (hu : P.underlying t = some (.slice e)) (he : P.underlying e = some (.int k)) (hc : P.cellsOf e = 1) {B : Nat} (hB : P.bytesOf e = B)
    (h : DataW.Trod enc P W base spare held t (.slice a len cap) d ps) : len * B ≤ 140737488351232 := by
  obtain ⟨fuel, hf⟩ := h
  rcases open_ints hu he hc hf with ⟨hcs, _⟩ | ⟨x, l, c, zs, hcs, _, hl, _, hz, hx, _, _⟩
  · simp [Value.cells] at hcs
    obtain ⟨rfl, rfl, rfl⟩ := hcs
    simp
  · simp [Value.cells] at hcs
    obtain ⟨rfl, rfl, rfl⟩ := hcs
    obtain ⟨hx, _⟩ := Prod.mk.inj hx
    subst hx
    have z := sized_slice hsz ht hd hu
    rw [hB] at z
    have hl2 : len ≤ zs.length := by
      rw [hz]
      split
      · exact hl
      · exact Nat.le_refl _
    have h1 : (lits (H := H) k (zs.take len)).length + (lits (H := H) k (zs.drop len)).length = zs.length := by
      simp [lits]
      omega
    rw [h1] at z
    exact Nat.le_trans (Nat.mul_le_mul_right _ hl2) z
end Go.Proofs.YtekmngghebpciaaGreatW.PrintWords
end
section
namespace Go.Proofs.YtekmngghebpciaaGreat.wholeTickets
open Go.ChangeShapes Go.WideShapes Go.ChangeAt Go.RowKit
open Go.ChangeMaps (open_string shut_string)
set_option linter.unusedVariables false
theorem own : ownKnob Tryz.prog.godebug = none := by kernel_rfl
theorem laidOut : laidOutB Tryz.prog = true := by kernel_rfl
def IsRow (k : IntKind) (w : World) (a : Option Addr) (len cap : Nat) (zs : List Int) : Prop :=
  (a = none ∧ len = 0 ∧ cap = 0 ∧ zs = []) ∨
  ∃ x, a = some x ∧ len ≤ cap ∧ cap ≤ maxLen ∧ zs.length = cap ∧ (∀ i, i < zs.length → w.cell? (x.add i) = some (.int k (zs.getD i 0))) ∧ ∀ n ∈ zs, (Lit.int k n).wf = true
set_option maxRecDepth 100000 in
theorem lifted (os : Os) (started : os.Started) (H : Type) (enc : TypeId × Value → H) :
    ReturnsInHanded {} Tryz.checked os 5 .any (Rows.wholeTicketsSpec.pre6 enc Tryz.prog Tryz.f5 Rows.wholeTicketsRow.domain false) (Rows.wholeTicketsSpec.post enc Tryz.prog Tryz.f5 false true false false) := by
  refine returnsInHanded_of_change_sized (C := Tryz.checked) own started (by kernel_rfl) Tryz.func5
    (ChangeSpec.witness6 (enc := enc) (C := Tryz.checked) false ⟨#[], #[.slice none 0 0], []⟩ 8 (by kernel_rfl) (by kernel_rfl) (by kernel_rfl) (by kernel_rfl)) ?_
  intro W base args ds gs before hval0 hW hcnd hsz0 _
  have hsz : (DataW.weightsEach Tryz.prog (Tryz.f5.params.toList ++ Rows.wholeTicketsSpec.plain.varTypes Tryz.prog) (ds ++ gs)).all (· ≤ reachBytes) = true := hsz0
  have hval : ∀ (j : Nat) t v, Tryz.f5.params[j]? = some t → args[j]? = some v → Value.okWide Tryz.prog W .any base t v := hval0
  have hW' := hW
  obtain ⟨p, q, hA0, hV, rfl, hfz, hnd⟩ := hW
  have hA : DataW.TrodAll enc Tryz.prog W 0 (fun _ => true) true Tryz.f5.params.toList args.toList ds p := hA0
  rw [Tryz.params5] at hA hval hsz
  obtain ⟨v0, vs0, d0, ds0, p0, q0, hargs, rfl, rfl, h0, r0⟩ := trodAll_cons hA
  obtain ⟨rfl, rfl, rfl⟩ := trodAll_nil r0
  obtain rfl : args = #[v0] := by cases args; simp_all
  obtain ⟨rfl, rfl⟩ := trodVars_none hV
  obtain ⟨a0, len0, cap0, rfl⟩ := okWide_slice Tryz.underlying22 (hval 0 22 v0 rfl rfl)
  have k0 := h0
  have lt0 : ∀ x ∈ p0, x.block < W.heap.size := by obtain ⟨m, hm⟩ := k0; exact DataW.trod_lt m _ _ _ hm
  obtain ⟨z0, w0⟩ : ∃ zs, IsRow .u64 W a0 len0 cap0 zs := by
    obtain ⟨fuel, hf⟩ := h0
    rcases open_ints Tryz.underlying22 Tryz.underlying24 (by kernel_rfl) hf with ⟨hcs, _⟩ | ⟨x, l, c, zs, hcs, _, hl, hm, hz, _, hcell, hwz⟩
    · simp [Value.cells] at hcs
      obtain ⟨rfl, rfl, rfl⟩ := hcs
      exact ⟨[], .inl ⟨rfl, rfl, rfl, rfl⟩⟩
    · simp [Value.cells] at hcs
      obtain ⟨rfl, rfl, rfl⟩ := hcs
      exact ⟨zs, .inr ⟨_, rfl, hl, hm, by simpa using hz, hcell, hwz⟩⟩
  have y0 : len0 * 8 ≤ 140737488351232 := Go.Proofs.YtekmngghebpciaaGreatW.PrintWords.sized_ints hsz (j := 0) (t := 22) rfl rfl Tryz.underlying22 Tryz.underlying24 (by kernel_rfl) (by kernel_rfl) h0
  clear hA0 hval0 hsz0 hsz
  refine (PW.drawlottop_WholeTickets.walk Pure.WholeTickets a0 len0 cap0 z0 W w0 y0).mono fun e W' ⟨he, bel⟩ => ?_
  subst he
  exact ⟨_, rfl, _, _, _, [], _, [], hW', trodAll_mk1 (shut_bool Tryz.underlying4 _), (trodAll_cons_mk (Below.trod laidOut (by kernel_rfl) (of_decide_eq_true (by kernel_rfl)) k0 bel lt0) trodAll_mk0), rfl, bel.frame _, fun h => by cases h⟩
theorem over : Rows.wholeTicketsRow.holds Tryz.pinned (OpenSpec.ofChange Rows.wholeTicketsSpec) :=
  OpenClaim.holds_of_wide 5 Tryz.f5 rfl rfl rfl rfl rfl rfl rfl ⟨rfl, rfl, rfl, rfl, rfl⟩ rfl rfl rfl rfl rfl (by kernel_rfl) Tryz.func5 (by kernel_rfl)
    (of_decide_eq_true (by kernel_rfl)) (by unfold Func.isWrapper; first | (rw [if_pos (by decide +kernel)]; kernel_rfl) | (rw [if_neg (by decide +kernel)]; exact ⟨rfl, rfl⟩))
    (fun os started H enc _ => lifted os started H enc)
theorem proved : Rows.WholeTicketsSaid := over
#print axioms proved
end Go.Proofs.YtekmngghebpciaaGreat.wholeTickets
namespace Go.Proofs.YtekmngghebpciaaGreat
theorem wholeTickets_holds : Rows.WholeTicketsSaid := wholeTickets.proved
end Go.Proofs.YtekmngghebpciaaGreat
end
